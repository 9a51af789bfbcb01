import Derived.Test.YtpaapnkpijincaaO2
import Derived.Test.YtpaapnkpijincaaO3
import Derived.Test.YtpaapnkpijincaaO4
import Derived.Test.YtpaapnkpijincaaO6
import Derived.Test.YtpaapnkpijincaaO10
import Derived.Test.YtpaapnkpijincaaP1
import Derived.Test.YtpaapnkpijincaaP2
namespace Go.Proofs.Ytpaapnkpijincaa.P
open Go.RowKit Go.Proofs.YtpaapnkpijincaaW.PrintWords Go.Proofs.YtpaapnkpijincaaW.PrintLast Go.Proofs.YtpaapnkpijincaaW.PrintMore Go.Proofs.YtpaapnkpijincaaW.HB
set_option linter.unusedVariables false
set_option linter.unusedSimpArgs false

def m0 : ByteArray := ⟨#[0, 0, 0, 0, 0, 0, 0, 0, 0, 0]⟩
def m1 : ByteArray := ⟨#[0, 1, 1, 0, 0, 0, 0, 0, 0, 1]⟩
theorem new_10 : objmap_New.f 10 = some m0 := by kernel_rfl
theorem set_10 : objmap_Set.f m0 [1, 2, 9] true = some m1 := by kernel_rfl
theorem unpack_20 : objmap_Unpack.f 20 ⟨#[6, 6]⟩ 10 = some (⟨#[]⟩, 10) := by kernel_rfl
theorem count_10 : objmap_Count.f m1 = some 3 := by kernel_rfl
theorem pack_10 : objmap_Pack.f m1 = some ⟨#[6, 2]⟩ := by kernel_rfl
theorem rows_10 : objmap_Rows.f m1 = some [⟨1, 3⟩, ⟨9, 10⟩] := by kernel_rfl
theorem ints_5 : reeflaw29_ints.f 3 [5] [5] = some true := by kernel_rfl
theorem needs_10 : objmap_Needs.f m1 [⟨2, 0, 0, 0⟩, ⟨5, 0, 0, 0⟩, ⟨5, 0, 0, 0⟩] = some [5] := by
  unfold objmap_Needs.f
  rw [if_pos (by decide)]
  have e : needL m1 [⟨2, 0, 0, 0⟩, ⟨5, 0, 0, 0⟩, ⟨5, 0, 0, 0⟩] = [5, 5] := by kernel_rfl
  have e2 : ([5, 5] : List Int).mergeSort (fun x y => decide (x ≤ y)) = [5, 5] := List.mergeSort_of_pairwise (by simp)
  rw [e, e2]
  rfl
theorem addr_add0 (a : Addr) : a.add 0 = a := by simp [Addr.add]
theorem C_litI (w : World) (xs : List Int) (hl : xs.length ≤ 1000) : Kd.C (Kd.int .i64) (w.alloc (.cells (xs.map (Value.int .i64)).toArray 3)) (some ⟨w.heap.size, 0, none⟩) xs.length xs := by
  have h := World.ownsRow_lit (e := 3) (base := 0) (size := 1) w (xs.map (Value.int .i64)).toArray xs.length (Nat.zero_le _) (by simp [maxLen]; omega) (by simp)
  have h2 : (w.alloc (.cells (xs.map (Value.int .i64)).toArray 3)).ownsRow 0 3 1 (.slice (some ⟨w.heap.size, 0, none⟩) xs.length xs.length) xs.length (xs.map (Value.int .i64)) := by simpa using h
  exact (Kd.R_reads' (R_of_own (ok := fun _ => True) (fun _ _ => trivial) h2)).2.2
theorem C_litF (w : World) : Kd.C k46 (w.alloc (.cells #[.int .i64 2, .int .i64 0, .int .i64 0, .int .i64 0, .int .i64 5, .int .i64 0, .int .i64 0, .int .i64 0, .int .i64 5, .int .i64 0, .int .i64 0, .int .i64 0] 46)) (some ⟨w.heap.size, 0, none⟩) 3 [⟨2, 0, 0, 0⟩, ⟨5, 0, 0, 0⟩, ⟨5, 0, 0, 0⟩] := by
  refine ⟨rfl, by omega, fun _ => ⟨_, rfl, fun j p hj => ?_⟩⟩
  have hj3 : j < 3 := (List.getElem?_eq_some_iff.1 hj).1
  refine ⟨[.int .i64 p.f0, .int .i64 p.f1, .int .i64 p.f2, .int .i64 p.f3], rfl, k46_mk _ p, fun i u hu => ?_⟩
  have hi4 : i < 4 := (List.getElem?_eq_some_iff.1 hu).1
  have hj' : j = 0 ∨ j = 1 ∨ j = 2 := by omega
  have hi' : i = 0 ∨ i = 1 ∨ i = 2 ∨ i = 3 := by omega
  rcases hj' with rfl | rfl | rfl <;> cases hj <;> rcases hi' with rfl | rfl | rfl | rfl <;> cases hu <;> exact cell_fresh _ _ _ _ _ rfl
def reeflaw29_awake.f : Option Bool := some true
set_option maxRecDepth 100000 in
set_option maxHeartbeats 4000000 in
theorem reeflaw29_awake.calls (r : Bool) (w : World) (h : reeflaw29_awake.f = some r) : Calls Try.prog 12 #[] w fun e w' => e = .returned (.bool r) ∧ Below w.heap.size w w' := by
  obtain rfl := Option.some.inj h
  clear h
  have hua := Try.underlying31
  have hub := Try.underlying46
  have huc := Try.underlying3
  have heq := fun (w : World) => run_eq_pair w 9998 1 3 1 3
  have B0 := Below.refl w.heap.size w
  go_enter Try.func12, Try.ntmps12
  go_wp2_with (first
    | (go_at_call 21; refine (objmap_New.calls 10 m0 _ new_10).mono ?_; rintro e w1 ⟨rfl, hW⟩; have B1 := Aside0.mk (below_step B0 hW); have C1 := Aside0.mk (C_litI w1 [1, 2, 9] (by decide)); clear B0 hW)
    | (go_at_call 24; refine (objmap_Set.calls m0 _ 3 [1, 2, 9] true m1 _ C1.out (by decide) set_10).mono ?_; rintro e w2 ⟨rfl, hW⟩; have B2 := Aside0.mk (below_step (below_alloc B1.out _) hW); clear B1 C1 hW)
    | (go_at_call 9; refine (objmap_Unpack.calls 20 ⟨#[6, 6]⟩ 10 ⟨#[]⟩ 10 _ unpack_20).mono ?_; rintro e w3 ⟨rfl, hW⟩; have B3 := Aside0.mk (below_step B2.out hW); clear B2 hW)
    | (go_at_call 13; refine (objmap_Rows.calls m1 _ _ rows_10).mono ?_; rintro e w4 ⟨v, rfl, hR, hW⟩; obtain ⟨Ar, cr, rfl⟩ := Kd.R_slice hR; have B4 := Aside0.mk (below_step B3.out hW); have R4 := Aside0.mk (Kd.R_reads' hR).2.2; clear B3 hW hR)
    | (go_at_call 19; refine (objmap_Count.calls m1 _ _ count_10).mono ?_; rintro e w5 ⟨rfl, hW⟩; have B5 := Aside0.mk (below_step B4.out hW); have R5 := Aside0.mk (Kd.C_below R4.out hW); clear B4 R4 hW)
    | (go_at_call 15; refine (objmap_Pack.calls m1 _ _ pack_10).mono ?_; rintro e w6 ⟨rfl, hW⟩; have B6 := Aside0.mk (below_step B5.out hW); have R6 := Kd.C_below R5.out hW; obtain ⟨ad, e1, hr0, hr1⟩ := at_P R6 0 (by decide) (by decide); cases e1; simp only [Int.toNat_zero, Nat.zero_mul] at hr0 hr1; have hr0' : w6.cell? (ad.add 0) = some (.int .i64 1) := hr0; have hr1' : w6.cell? ⟨(ad.add 0).block, (ad.add 0).off + 1, none⟩ = some (.int .i64 3) := hr1; rw [addr_add0] at hr0' hr1'; have C6 := Aside0.mk (C_litF w6); clear B5 R5 R6 hW hr0 hr1)
    | (go_at_call 29; refine (objmap_Needs.calls m1 _ 3 _ _ _ C6.out (by decide) needs_10).mono ?_; rintro e w7 ⟨v, rfl, hR, hW⟩; obtain ⟨An, cn, rfl⟩ := Kd.R_slice hR; have B7 := Aside0.mk (below_step (below_alloc B6.out _) hW); have R7 := Aside0.mk (Kd.R_reads' hR).2.2; have L7 := Aside0.mk (Kd.R_reads' hR).2.1; have C7 := Aside0.mk (C_litI w7 [5] (by decide)); clear B6 C6 hW hR)
    | (go_at_call 26; refine (reeflaw29_ints.calls 3 _ _ [5] _ 1 [5] true _ (Kd.C_alloc R7.out _) L7.out C7.out (by decide) ints_5).mono ?_; rintro e w8 ⟨rfl, hD⟩; have B8 := Aside0.mk (below_step (below_alloc B7.out _) hD.below); clear B7 hD R7 L7 C7))
  go_ret
  exact ⟨rfl, B8.out⟩
end Go.Proofs.Ytpaapnkpijincaa.P
