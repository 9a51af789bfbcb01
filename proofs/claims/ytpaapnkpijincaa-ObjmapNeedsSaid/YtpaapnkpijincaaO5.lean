import Derived.Lib.BufferWrite
import Derived.Test.YtpaapnkpijincaaP0
import Derived.Test.YtpaapnkpijincaaHI0
namespace Go.Proofs.Ytpaapnkpijincaa.P
open Go.RowKit Go.Proofs.YtpaapnkpijincaaW.PrintWords Go.Proofs.YtpaapnkpijincaaW.PrintLast Go.Proofs.YtpaapnkpijincaaW.PrintMore Go.Proofs.YtpaapnkpijincaaW.HB
attribute [local go_sem] max_two min_two
set_option linter.unusedVariables false
set_option linter.unusedSimpArgs false

/-- 'copy(dst, s)', s a string, dst the whole of a row of the call's own. -/
theorem run_copy_cut {P : Program} (w : World) (dT sT ty elem : TypeId) (g dLen dCap : Nat) (s : ByteArray) (cur : Array Value) (t : TypeId)
    (hu : P.underlying dT = some (.slice elem)) (hs : (P.info? elem).map (·.size) = some 1) (hg : w.heap[g]? = some (.cells cur t (0, 0))) (hfit : Nat.min s.size dLen ≤ cur.size) :
    (Builtin.copy_ #[dT, sT] ty #[.slice (some ⟨g, 0, none⟩) dLen dCap, .string s]).run P w =
      .ok (goInt (Nat.min s.size dLen)) (w.setRow g (cur.toList.take 0 ++ (nums .u8 (bytesOf s)).take (Nat.min s.size dLen) ++ cur.toList.drop (0 + Nat.min s.size dLen)).toArray) := by
  have e0 : nums .u8 (bytesOf s) = s.data.toList.map (fun b : UInt8 => Value.int IntKind.u8 (b.toNat : Int)) := by simp [nums, bytesOf]
  have hlen : ((nums .u8 (bytesOf s)).take (Nat.min s.size dLen)).length = Nat.min s.size dLen := by
    rw [List.length_take, e0, List.length_map, data_length]; exact Nat.min_eq_left (Nat.min_le_left _ _)
  have hst := run_storeCells_at (P := P) g 0 t ((nums .u8 (bytesOf s)).take (Nat.min s.size dLen)) 0 cur w hg (by rw [hlen]; omega) (fun v hv => by
    have h2 := List.mem_of_mem_take hv
    rw [e0] at h2
    obtain ⟨b, _, rfl⟩ := List.mem_map.1 h2
    rfl)
  rw [hlen] at hst
  rw [e0] at hst ⊢
  simp only [Nat.add_zero] at hst
  cases hq : P.info? elem with
  | none => simp [hq] at hs
  | some i =>
    simp [Builtin.copy_, run_underlying hu, Builtin.lenOf, Builtin.firstCells, sizeOf, typeInfo, hq]
    rw [hst]
    simp [Result.andThen]
def sizeL (b : List Int) (N : Nat) : List Int := b.take N ++ List.replicate (N - b.length) 0
def objmap_Size.f (m : ByteArray) (n : Int) : Option ByteArray := if m.size ≤ 4096 then some (strOfNums (sizeL (bytesOf m) (mn (mx n 0) 4096).toNat)) else none
set_option maxRecDepth 100000 in
set_option maxHeartbeats 1000000 in
theorem objmap_Size.calls (a0 : ByteArray) (a1 : Int) (r : ByteArray) (w : World) (h : objmap_Size.f a0 a1 = some r) :
    Calls Try.prog 17 #[.string a0, .int .i64 a1] w fun e w' => e = .returned (.string r) ∧ Below w.heap.size w w' := by
  unfold objmap_Size.f at h
  split at h
  case isFalse => cases h
  rename_i hm
  obtain rfl := Option.some.inj h
  clear h
  obtain ⟨N, hN⟩ : ∃ N : Nat, mn (mx a1 0) 4096 = (N : Int) := ⟨(mn (mx a1 0) 4096).toNat, by unfold mn mx; split <;> split <;> omega⟩
  have hN2 : N ≤ 4096 := by have := hN; unfold mn mx at this; split at this <;> split at this <;> omega
  have hbl := bytesOf_length a0
  have hmk := run_make_row' (P := Try.prog) 54 5 (.int .u8 0) 1 Try.underlying54 info5 rfl .i64 .i64 N (by omega) (by omega)
  obtain ⟨W1, hW1⟩ : ∃ W1, W1 = w.alloc (.cells (madeCells #[.int .u8 0] N) 5) := ⟨_, rfl⟩
  have hgW : W1.heap[w.heap.size]? = some (.cells (madeCells #[.int .u8 0] N) 5 (0, 0)) := by rw [hW1]; exact World.alloc_heap_new w _
  have hmsz : (madeCells #[Value.int .u8 0] N).size = N := by simp [size_madeCells]
  have hmin : Nat.min a0.size N ≤ N := Nat.min_le_right _ _
  have hcp := fun ty => run_copy_cut (P := Try.prog) W1 54 9 ty 5 w.heap.size N N a0 (madeCells #[.int .u8 0] N) 5 Try.underlying54 (by kernel_rfl) hgW (by rw [hmsz]; exact hmin)
  obtain ⟨W2, hW2⟩ : ∃ W2, W2 = W1.setRow w.heap.size (List.take 0 (madeCells #[.int .u8 0] N).toList ++ (nums .u8 (bytesOf a0)).take (Nat.min a0.size N) ++ List.drop (0 + Nat.min a0.size N) (madeCells #[.int .u8 0] N).toList).toArray := ⟨_, rfl⟩
  have hmt : (madeCells #[Value.int .u8 0] N).toList = List.replicate N (Value.int .u8 0) := by
    apply List.ext_getElem (by simp [madeCells])
    intro i h1 h2
    simp [madeCells, Nat.mod_one]
  have hcont : List.take 0 (madeCells #[.int .u8 0] N).toList ++ (nums .u8 (bytesOf a0)).take (Nat.min a0.size N) ++ List.drop (0 + Nat.min a0.size N) (madeCells #[.int .u8 0] N).toList = nums .u8 (sizeL (bytesOf a0) N) := by
    rw [hmt, List.take_zero, List.nil_append, Nat.zero_add, List.drop_replicate]
    unfold sizeL nums
    rw [List.map_append, List.map_replicate, List.map_take, hbl]
    congr 1
    · rw [← hbl]
      have : Nat.min (bytesOf a0).length N = min N (List.map (Value.int .u8) (bytesOf a0)).length := by rw [List.length_map, Nat.min_comm]
      rw [this, ← List.take_eq_take_min]
    · congr 1
      have : Nat.min a0.size N = min a0.size N := rfl
      omega
  have hsl : (sizeL (bytesOf a0) N).length = N := by unfold sizeL; rw [List.length_append, List.length_take, List.length_replicate]; omega
  have hrow : W2.ownsRow w.heap.size 5 1 (.slice (some ⟨w.heap.size, 0, none⟩) N N) N (nums .u8 (sizeL (bytesOf a0) N)) := by
    rw [hW2, hcont]
    refine ⟨by simp [nums]; omega, .inr ⟨w.heap.size, N, _, rfl, Nat.le_refl _, setRow_heap _ _ _ _ _ _ hgW, Nat.le_refl _, by simp [maxLen]; omega, ?_, ?_⟩⟩
    · simp [nums, hsl]
    · show List.take (N * 1) (nums .u8 (sizeL (bytesOf a0) N)) = _
      rw [Nat.mul_one, List.take_of_length_le (by simp [nums, hsl])]
  have hcv := own_string (P := Try.prog) Try.underlying54 Try.underlying5 Try.underlying9 hrow
  have hG1 : w.grownBy W1 none := by rw [hW1]; exact World.grownBy_alloc w _ none
  have hG2 : W1.grownBy W2 (some w.heap.size) := by
    rw [hW2]
    exact ⟨rfl, rfl, rfl, by simp, fun i _ hi => setRow_other _ _ _ _ (fun hh => hi (by rw [hh]))⟩
  have hB1 := pw_below_grown (Below.refl w.heap.size w) none (Nat.le_refl _) hG1 (fun k e => by cases e)
  have HB2 := Aside0.mk (pw_below_grown hB1 _ hB1.size hG2 (fun k e => by cases e; exact Nat.le_refl _))
  have hN' := hN
  obtain ⟨M, hM⟩ : ∃ M, mx a1 0 = M := ⟨_, rfl⟩
  rw [hM] at hN
  have hmx : Builtin.max2 (.int .i64 a1) (.int .i64 0) = pure (.int .i64 M) := (max2_int .i64 .i64 a1 0).trans (by rw [← hM]; rfl)
  have hmn : Builtin.min2 (.int .i64 M) (.int .i64 4096) = pure (.int .i64 (N : Int)) := (min2_int .i64 .i64 M 4096).trans (by rw [← hN]; rfl)
  clear hM
  have HNT := Aside0.mk (show (mn (mx a1 0) 4096).toNat = N from by rw [hN']; rfl)
  rw [← hW2] at hcp
  rw [hW1] at hcp
  clear hrow hG1 hG2 hB1 hgW hcont hmt hsl hmsz hW1 hW2 hbl hN' hmin
  have HN := Aside0.mk hN
  clear hN
  rw [HNT.out]
  go_enter Try.func17, Try.ntmps17
  go_wp2_with fail
  go_ret
  exact ⟨rfl, HB2.out⟩
end Go.Proofs.Ytpaapnkpijincaa.P
