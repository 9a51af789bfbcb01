import Derived.BigRegionIn
import Derived.Test.YtpaapnkpijincaaO1
namespace Go.Proofs.Ytpaapnkpijincaa.P
open Go.RowKit Go.Proofs.YtpaapnkpijincaaW.PrintWords Go.Proofs.YtpaapnkpijincaaW.PrintLast Go.Proofs.YtpaapnkpijincaaW.PrintMore Go.Proofs.YtpaapnkpijincaaW.HB
set_option linter.unusedVariables false
set_option linter.unusedSimpArgs false
attribute [local go_sem] Oper.semAt_some

def bitSet (bs : List Int) (v : Int) : List Int := bs.set (v / 8).toNat (Go.bits .or .u8 (bs.getD (v / 8).toNat 0) (2 ^ (v % 8).toNat))
def bitsOf (ks : List Int) : List Int := ks.foldl bitSet (List.replicate 512 0)
theorem bitSet_len (bs : List Int) (v : Int) : (bitSet bs v).length = bs.length := by unfold bitSet; rw [List.length_set]
theorem bitsOf_len (ks : List Int) : (bitsOf ks).length = 512 := by
  unfold bitsOf
  have : ∀ (l : List Int) (b : List Int), (l.foldl bitSet b).length = b.length := fun l => by
    induction l with
    | nil => intro b; rfl
    | cons x l ih => intro b; rw [List.foldl_cons, ih, bitSet_len]
  rw [this, List.length_replicate]
theorem bitsOf_snoc (ks : List Int) (v : Int) : bitsOf (ks ++ [v]) = bitSet (bitsOf ks) v := by unfold bitsOf; rw [List.foldl_append]; rfl
def objmap_Pack.f (m : ByteArray) : Option ByteArray := if m.size ≤ 4096 then some (strOfNums ((bitsOf (plc m m.size)).take ((m.size + 7) / 8))) else none
/-- The array of the call's own. -/
structure BitSt (w : World) (b1 : Nat) (bs : List Int) (W : World) : Prop where
  x : W.heap[b1]? = some (.cells (bs.map (Value.int .u8)).toArray 59)
  len : bs.length = 512
  below : Below w.heap.size w W
  ge : w.heap.size ≤ b1
theorem BitSt.nc {w : World} {b1 : Nat} {bs : List Int} {X Y : World} {row : Option Nat} (h : BitSt w b1 bs X) (hg : X.grownBy Y row) (hr : ∀ r, row = some r → w.heap.size ≤ r ∧ ∃ o : Obj, X.heap[r]? = some o ∧ o.isCells = false) : BitSt w b1 bs Y := by
  have hb : b1 < X.heap.size := (Array.getElem?_eq_some_iff.1 h.x).1
  refine ⟨(hg.block b1 hb (fun e => ?_)).trans h.x, h.len, pw_below_grown h.below row h.below.size hg (fun k e => (hr k e).1), h.ge⟩
  obtain ⟨_, o, ho, hc⟩ := hr b1 e.symm
  rw [h.x] at ho; cases ho; cases hc
theorem BitSt.cell {w : World} {b1 : Nat} {bs : List Int} {W : World} (h : BitSt w b1 bs W) (q : Nat) (hq : q < 512) : W.cell? ⟨b1, q, none⟩ = some (.int .u8 (bs.getD q 0)) ∧ W.frozen? ⟨b1, q, none⟩ = false := by
  have hl := h.len
  constructor
  · unfold World.cell?
    rw [h.x]
    simp [List.getD_eq_getElem?_getD, List.getElem?_eq_getElem (show q < bs.length by omega)]
  · unfold World.frozen?
    rw [h.x]
    simp
theorem BitSt.set {w : World} {b1 : Nat} {bs : List Int} {W : World} (h : BitSt w b1 bs W) (q : Nat) (v : Int) : BitSt w b1 (bs.set q v) (W.setCell ⟨b1, q, none⟩ (.int .u8 v)) := by
  refine ⟨?_, by rw [List.length_set]; exact h.len, h.below.setCell (by show w.heap.size ≤ b1; exact h.ge) _, h.ge⟩
  have hx := blk_set h.x q (.int .u8 v)
  rw [hx]
  congr 2
  apply Array.ext'
  simp [List.map_set]
set_option maxRecDepth 100000 in
set_option maxHeartbeats 4000000 in
theorem pack_in (m : ByteArray) (w : World) (hm : m.size ≤ 4096) :
    CallsIn Fence.wide 9 Try.prog 15 #[.string m] w (fun e w' => e = .returned (.string (strOfNums ((bitsOf (plc m m.size)).take ((m.size + 7) / 8)))) ∧ Below w.heap.size w w') := by
  have hpl := plc_len m m.size
  have hua := Try.underlying59
  refine callsIn_of_wp_marks Try.func15 rfl trivial ?_ rfl
  simp only [Try.ntmps15, List.size_toArray, List.length_cons, List.length_nil, Nat.reduceAdd, Nat.reduceSub, Array.replicate_succ, Array.replicate_zero, List.push_toArray, List.append_toArray, List.nil_append, List.cons_append]
  gi_wp2_with (refine ⟨trivial, ?_⟩; gi_at_call 36; refine (places_in Fence.wide 8 trivial rfl m _).mono ?_; rintro e w' ⟨rfl, rfl⟩)
  have hbl := cell_fresh (w.alloc (.cells Try.zeroCells59 59)) #[.string m] 9 0 _ rfl
  have hzc : Try.zeroCells59 = ((bitsOf []).map (Value.int .u8)).toArray := by kernel_rfl
  have A0 : BitSt w w.heap.size (bitsOf (([] : List (Plc m)).map (·.1))) ((w.alloc (.cells Try.zeroCells59 59)).alloc (.cells #[.string m] 9)) := by
    rw [hzc]
    exact ⟨(below_alloc (Below.refl _ _) _).block w.heap.size (by simp) |>.trans (World.alloc_heap_new w _), bitsOf_len _, below_alloc (below_alloc (Below.refl _ _) _) _, Nat.le_refl _⟩
  have hsz : ((w.alloc (.cells Try.zeroCells59 59)).alloc (.cells #[.string m] 9)).heap.size = w.heap.size + 2 := by simp
  rw [World.size_alloc] at hbl
  revert A0 hbl hsz
  generalize ((w.alloc (.cells Try.zeroCells59 59)).alloc (.cells #[.string m] 9)) = wl
  intro hbl A0 hsz
  clear hzc
  have HSEQ := places_stops Fence.wide 8 trivial rfl (by decide) (w.heap.size + 1) (fun k => k = w.heap.size) (fun _ => False) m (by omega) wl (by omega) (by show ¬ w.heap.size + 1 = w.heap.size; omega) hbl
  have HIo : OwnFrom wl.heap.size (fun (pre : List (Plc m)) W => BitSt w w.heap.size (bitsOf (pre.map (·.1))) W) := fun s X Y row hs hg hr => hs.nc hg (fun r e => ⟨by have := (hr r e).1; omega, (hr r e).2⟩)
  refine rf_G (F := Fence.wide) (P := Try.prog) (encs := fun x : Plc m => #[Value.int .i64 x.1]) rfl (by decide) (gf := 43) (lb := #[.pointer (some ⟨w.heap.size + 1, 0, none⟩)]) rfl trivial (Go.Proofs.enters_of Try.func43 (by kernel_rfl) rfl) HSEQ (Below.refl _ _) (fun _ => rfl)
    (fun (pre : List (Plc m)) W => BitSt w w.heap.size (bitsOf (pre.map (·.1))) W) (fun _ _ _ => False)
    HIo (fun _ _ _ _ _ hs _ _ => hs) A0 ?_
  clear HSEQ HIo A0
  apply Exists.intro
  refine ⟨?assign, ?body, ?done, ?stop⟩
  case assign =>
    intro l x W K hK
    gi_wp2
    exact hK
  case stop => intro D c pre W _ _ h _; exact h.elim
  case body =>
    rintro li pre x W hI hlt
    obtain ⟨hv0, hv1, _⟩ := plc_mem.1 x.2
    have HS := Aside0.mk (show bitsOf ((pre ++ [x]).map (·.1)) = bitSet (bitsOf (pre.map (·.1))) x.1 from by rw [List.map_append]; exact bitsOf_snoc _ _)
    generalize x.1 = v at *
    obtain ⟨q, hq⟩ : ∃ q : Nat, v / 8 = (q : Int) := ⟨(v / 8).toNat, by omega⟩
    obtain ⟨r, hr⟩ : ∃ r : Nat, v % 8 = (r : Int) := ⟨(v % 8).toNat, by omega⟩
    have hq1 : q < 512 := by omega
    have hr1 : r < 8 := by omega
    obtain ⟨hc, hf⟩ := hI.cell q hq1
    have HI := Aside0.mk hI
    clear hI
    have hv2 : v < 4096 := by omega
    generalize hbs : (bitsOf (pre.map (·.1))).getD q 0 = c at *
    have HBS := Aside0.mk hbs
    clear hbs
    have hq2 : (q : Int) < 512 := by omega
    have hr2 : (r : Int) < 8 := by omega
    have hwq : IntKind.i64.wrap (v.tdiv 8) = (q : Int) := by
      rw [Int.tdiv_eq_ediv_of_nonneg hv0, hq]
      simp [IntKind.wrap, IntKind.signed, IntKind.bits]; omega
    have hwr : v.tmod 8 = (r : Int) := by rw [Int.tmod_eq_emod_of_nonneg hv0, hr]
    obtain ⟨s, hs⟩ : ∃ s : Int, IntKind.u8.wrap (2 ^ r) = s := ⟨_, rfl⟩
    have HQ := Aside0.mk hq
    have HR := Aside0.mk hr
    clear hq hr
    gi_wp2
    refine meetIn ?_
    apply Exists.intro
    apply Exists.intro
    refine ⟨?_, ?_⟩
    · gi_region
      all_goals exact ⟨rfl, rfl, rfl⟩
    gi_wp2
    have hg := grownBy_setCellK W w.heap.size q (.int .u8 (Go.bits .or .u8 c s))
    refine ⟨((KeepsOthers.setCell W _ _).trans (KeepsOthers.drew _)).from _, (KeepX.grown hg (fun k cs T fr hk hc => by cases hk; exact ⟨fun _ => rfl, fun h => by omega⟩)).trans (KeepX.below (Below.refl _ _).drew), ?_⟩
    show BitSt w w.heap.size (bitsOf ((pre ++ [x]).map (·.1))) _
    have e2 : (2 : Int) ^ r = s := by
      rw [← hs]
      have : r = 0 ∨ r = 1 ∨ r = 2 ∨ r = 3 ∨ r = 4 ∨ r = 5 ∨ r = 6 ∨ r = 7 := by omega
      rcases this with rfl | rfl | rfl | rfl | rfl | rfl | rfl | rfl <;> rfl
    rw [HS.out]
    unfold bitSet
    rw [HQ.out, HR.out, Int.toNat_natCast, Int.toNat_natCast, HBS.out, e2]
    have h1 := HI.out.set q (Go.bits .or .u8 c s)
    exact ⟨h1.x, h1.len, h1.below.drew, h1.ge⟩
  case done =>
    intro D xs W hD hxs hI hK
    have HI := Aside0.mk hI
    have HL := Aside0.mk (show xs.map (·.1) = plc m m.size from by rw [hxs]; simp [plcA])
    clear hI hxs
    obtain ⟨n, hn⟩ : ∃ n, n = (m.size + 7) / 8 := ⟨_, rfl⟩
    have hN : ((m.size : Int) + 7) / 8 = (n : Int) := by omega
    have hn2 : n ≤ 512 := by omega
    have HN := Aside0.mk hn
    clear hn
    generalize hbs : bitsOf (xs.map (·.1)) = bs at *
    rw [HL.out] at hbs
    have HBS := Aside0.mk hbs
    clear hbs HL
    have hbl := HI.out.len
    have hDs : D < W.heap.size := (Array.getElem?_eq_some_iff.1 hK).1
    have hmk := run_make_row' (P := Try.prog) 54 5 (.int .u8 0) 1 Try.underlying54 info5 rfl .i64 .i64 n (by omega) (by omega)
    obtain ⟨W1, hW1⟩ : ∃ W1, W1 = W.alloc (.cells (madeCells #[.int .u8 0] n) 5) := ⟨_, rfl⟩
    have hgW : W1.heap[W.heap.size]? = some (.cells (madeCells #[.int .u8 0] n) 5 (0, 0)) := by rw [hW1]; exact World.alloc_heap_new W _
    have hmsz : (madeCells #[Value.int .u8 0] n).size = n := by simp [size_madeCells]
    have hcs : ((bs.take n).map (Value.int .u8)).length = n := by rw [List.length_map, List.length_take]; omega
    have hsrc : ∀ (j : Nat) v, ((bs.take n).map (Value.int .u8))[j]? = some v → W1.cell? ((⟨w.heap.size, 0, none⟩ : Addr).add j) = some v := fun j v hj => by
      have hjl : j < n := by have := (List.getElem?_eq_some_iff.1 hj).1; omega
      have h1 := (HI.out.cell j (by omega)).1
      have h2 : v = .int .u8 (bs.getD j 0) := by
        rw [List.getElem?_map, List.getElem?_take_of_lt hjl, List.getElem?_eq_getElem (by omega)] at hj
        rw [List.getD_eq_getElem?_getD, List.getElem?_eq_getElem (by omega)]
        simpa using hj.symm
      rw [h2, hW1]
      have h3 := (below_alloc (Below.refl W.heap.size W) (.cells (madeCells #[.int .u8 0] n) 5)).cell (p := ⟨w.heap.size, j, none⟩) (World.block_lt_of_cell? W _ h1)
      have e0 : (⟨w.heap.size, 0, none⟩ : Addr).add j = ⟨w.heap.size, j, none⟩ := by by_cases hj0 : j = 0 <;> simp [Addr.add, hj0]
      rw [e0]
      exact h3.trans h1
    have hcp := fun ty => run_copy_row (P := Try.prog) W1 54 54 ty 5 W.heap.size 0 n n ⟨w.heap.size, 0, none⟩ 512 512 (madeCells #[.int .u8 0] n) 5 ((bs.take n).map (Value.int .u8)) Try.underlying54 (by kernel_rfl) hgW (by rw [hcs]; exact (Nat.min_eq_right (by omega)).symm) hsrc (by rw [hcs, hmsz]; omega) (by intro v hv; obtain ⟨u, _, rfl⟩ := List.mem_map.1 hv; rfl)
    rw [hcs] at hcp
    obtain ⟨W2, hW2⟩ : ∃ W2, W2 = W1.setRow W.heap.size (List.take 0 (madeCells #[.int .u8 0] n).toList ++ (bs.take n).map (Value.int .u8) ++ List.drop (0 + n) (madeCells #[.int .u8 0] n).toList).toArray := ⟨_, rfl⟩
    have hrow : W2.ownsRow w.heap.size 5 1 (.slice (some ⟨W.heap.size, 0, none⟩) n n) n (nums .u8 (bs.take n)) := by
      rw [hW2]
      refine ⟨by simp [nums]; omega, .inr ⟨W.heap.size, n, _, rfl, HI.out.below.size, setRow_heap _ _ _ _ _ _ hgW, Nat.le_refl _, by simp [maxLen]; omega, ?_, ?_⟩⟩
      · simp only [List.size_toArray, List.length_append, List.take_zero, List.length_nil, hcs, List.length_drop, Array.length_toList, hmsz]; omega
      · rw [List.drop_eq_nil_of_le (by rw [Array.length_toList, hmsz]; omega), List.append_nil, List.take_zero, List.nil_append]
        show List.take (n * 1) ((bs.take n).map (Value.int .u8)) = _
        rw [Nat.mul_one, List.take_of_length_le (by omega)]
        rfl
    have hcv := own_string (P := Try.prog) Try.underlying54 Try.underlying5 Try.underlying9 hrow
    have hG1 : W.grownBy W1 none := by rw [hW1]; exact World.grownBy_alloc W _ none
    have hG2 : W1.grownBy W2 (some W.heap.size) := by
      rw [hW2]
      exact ⟨rfl, rfl, rfl, by simp, fun i _ hi => setRow_other _ _ _ _ (fun hh => hi (by rw [hh]))⟩
    have hK2 : W2.heap[D]? = some (.deferred (some [])) := by
      rw [hG2.block D (by have := hG1.size; omega) (by simp; omega), hG1.block D hDs (by simp)]; exact hK
    have HB2 := Aside0.mk (pw_below_grown (pw_below_grown HI.out.below none HI.out.below.size hG1 (fun k e => by cases e)) _ (pw_below_grown HI.out.below none HI.out.below.size hG1 (fun k e => by cases e)).size hG2 (fun k e => by cases e; exact HI.out.below.size))
    have HK2 := Aside0.mk hK2
    rw [← hW2] at hcp
    rw [hW1] at hcp
    rw [hW1] at hW2
    have HW2 := Aside0.mk hW2
    clear hrow hG1 hG2 hK2 hgW hsrc hW1 hW2 hbl hmsz hcs
    gi_wp2_with fail
    refine ⟨by simp, .inl ⟨_, _, rfl, run_takeDeferred HK2.out, ?_⟩⟩
    have hg := grownBy_putObj' W2 D (.deferred none)
    refine ⟨.string (strOfNums (bs.take n)), ?_, by rw [HBS.out, ← HN.out], pw_below_grown HB2.out _ HB2.out.size hg (fun k hk => by cases hk; omega)⟩
    simp [results, Try.results15, go_sem]
theorem objmap_Pack.calls (a0 : ByteArray) (r : ByteArray) (w : World) (h : objmap_Pack.f a0 = some r) :
    Calls Try.prog 15 #[.string a0] w fun e w' => e = .returned (.string r) ∧ Below w.heap.size w w' := by
  unfold objmap_Pack.f at h
  split at h
  · obtain rfl := Option.some.inj h
    exact callsIn_wide.1 (pack_in a0 w (by assumption))
  · cases h
end Go.Proofs.Ytpaapnkpijincaa.P
