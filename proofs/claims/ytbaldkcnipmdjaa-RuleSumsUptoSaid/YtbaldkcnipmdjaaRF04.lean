/- Texts of this claim, merged by pack.py: C5b G1 Shelf HS C1 PRuleWeight PRuleNodes PRuleItems C6b PRuleDomain -/
import Derived.Test.YtbaldkcnipmdjaaRF03
import Derived.Test.YtbaldkcnipmdjaaRF01
import Derived.Shelf.Small.Bits
import Derived.Shelf.Small.Wraps
import Derived.Shelf.Strconv.Itoa0
import Derived.Shelf.Sort.Plain
import Derived.Ground.Names2Prog
import Derived.Shelf.Slices.Clone
import Derived.Shelf.Slices.CompactI
import Derived.Shelf.Slices.Cells
import Derived.Shelf.Slices.In.SortNone
import Derived.Test.YtbaldkcnipmdjaaProg
import Derived.Sort.OwnSortedInts
import Derived.BigRegionIn
import Derived.Deep.RegionWith
import Derived.Stop.RegionWithIn
import Derived.Sort.BigQuietIn
namespace Go.Proofs.Ytbaldkcnipmdjaa.P
open Go.RowKit Go.Proofs.YtbaldkcnipmdjaaW.PrintWords Go.Proofs.YtbaldkcnipmdjaaW.PrintLast Go.Proofs.YtbaldkcnipmdjaaW.PrintMore Go.Proofs.YtbaldkcnipmdjaaW.HB
set_option linter.unusedVariables false
set_option linter.unusedSimpArgs false
attribute [local go_sem] Oper.semAt_some
theorem straws_seq (l : List S31) (x r : Int) (A : Option Addr) (c : Nat) (bi bx br : Nat) (X : Nat → Prop) (w : World)
    (hbi : bi < w.heap.size) (hbx : bx < w.heap.size) (hbr : br < w.heap.size) (hXi : ¬ X bi) (hXx : ¬ X bx) (hXr : ¬ X br) (hA : ∀ ad, A = some ad → 0 < l.length → ad.block < w.heap.size ∧ ¬ X ad.block)
    (hC : Kd.C k31 w A l.length l) (hc : l.length ≤ c) (hBi : w.cell? ⟨bi, 0, none⟩ = some (.slice A l.length c)) (hBx : w.cell? ⟨bx, 0, none⟩ = some (.int .u32 x)) (hBr : w.cell? ⟨br, 0, none⟩ = some (.int .i64 r)) :
    SeqC Fence.wide 8 Try.prog 66 #[.pointer (some ⟨bi, 0, none⟩), .pointer (some ⟨bx, 0, none⟩), .pointer (some ⟨br, 0, none⟩)] (fun s : OkS => #[.agg #[.int .i64 s.1.id, .int .i64 s.1.wt, .int .i64 s.1.place, .int .i64 s.1.cost]]) (KeepX w.heap.size X (fun _ => False)) (fun xs => xs = (strawsL l x r l.length).map mkOk) l.length w := fun li J W hW hJ hY h0 =>
  (straws_1_in l x r A c li bi bx br w.heap.size X (fun _ => False) hbi hbx hbr hXi hXx hXr hA J W hW.size hJ hY (Kd.C_below hC hW) hc ((hW.cell hbi).trans hBi) ((hW.cell hbx).trans hBx) ((hW.cell hbr).trans hBr) h0).mono
    fun e W' ⟨h1, h2⟩ => ⟨h1, _, rfl, h2⟩
theorem straws_in (l : List S31) (x r : Int) (A : Option Addr) (n c : Nat) (w : World) :
    CallsIn Fence.wide 8 Try.prog 56 #[.slice A n c, .int .u32 x, .int .i64 r] w fun e w' => e = .returned (.func (.func 66) #[] #[.pointer (some ⟨w.heap.size, 0, none⟩), .pointer (some ⟨w.heap.size + 1, 0, none⟩), .pointer (some ⟨w.heap.size + 2, 0, none⟩)]) ∧ w' = ((w.alloc (.cells #[.slice A n c] 26)).alloc (.cells #[.int .u32 x] 24)).alloc (.cells #[.int .i64 r] 3) := by
  refine callsIn_of_wp Try.func56 rfl trivial ?_ rfl
  simp only [Try.ntmps56, List.size_toArray, List.length_cons, List.length_nil, Nat.reduceAdd, Nat.reduceSub, Array.replicate_succ, Array.replicate_zero, List.push_toArray, List.append_toArray, List.nil_append, List.cons_append]
  gi_wp2
  go_ret
  exact ⟨by simp, rfl⟩
theorem ko_below {W W' : World} (h : Below W.heap.size W W') : KeepsOthers W W' := ⟨h.size, fun k o hk _ => (h.block k (Array.getElem?_eq_some_iff.1 hk).1).trans hk⟩
def SB (W : World) (b : Nat) (s : Straw) : Prop := W.heap[b]? = some (.cells #[.int .i64 s.id, .int .i64 s.wt, .int .i64 s.place, .int .i64 s.cost] 75 (0, 0))
theorem SB.lt {W : World} {b : Nat} {s : Straw} (h : SB W b s) : b < W.heap.size := (Array.getElem?_eq_some_iff.1 h).1
theorem SB.cell {W : World} {b : Nat} {s : Straw} (h : SB W b s) : W.cell? ⟨b, 0, none⟩ = some (.int .i64 s.id) ∧ W.cell? ⟨b, 1, none⟩ = some (.int .i64 s.wt) ∧ W.cell? ⟨b, 2, none⟩ = some (.int .i64 s.place) ∧ W.cell? ⟨b, 3, none⟩ = some (.int .i64 s.cost) := by
  simp [World.cell?, show W.heap[b]? = _ from h]
theorem SB.frozen {W : World} {b : Nat} {s : Straw} (h : SB W b s) (k : Nat) : W.frozen? ⟨b, k, none⟩ = false := by
  simp [World.frozen?, show W.heap[b]? = _ from h]
theorem SB.below {W W' : World} {b B : Nat} {s : Straw} (h : SB W b s) (hb : Below B W W') (hB : b < B) : SB W' b s := (hb.block b hB).trans h
theorem heap_set {w : World} {b : Nat} {cs : Array Value} {t : TypeId} {fr : Nat × Nat} (h : w.heap[b]? = some (.cells cs t fr)) (k : Nat) (v : Value) : (w.setCell ⟨b, k, none⟩ v).heap[b]? = some (.cells (cs.setIfInBounds k v) t fr) := by
  show (w.heap.modify b _)[b]? = _
  rw [Array.getElem?_modify, if_pos rfl, h]
  rfl
theorem heap_set_ne {w : World} {b b' : Nat} (h : b ≠ b') (k : Nat) (v : Value) : (w.setCell ⟨b, k, none⟩ v).heap[b']? = w.heap[b']? := by
  show (w.heap.modify b _)[b']? = _
  rw [Array.getElem?_modify, if_neg h]
def putS (w : World) (b : Nat) (s : Straw) : World := (((w.setCell ⟨b, 0, none⟩ (.int .i64 s.id)).setCell ⟨b, 1, none⟩ (.int .i64 s.wt)).setCell ⟨b, 2, none⟩ (.int .i64 s.place)).setCell ⟨b, 3, none⟩ (.int .i64 s.cost)
theorem SB.put {w : World} {b : Nat} {f : Straw} (h : SB w b f) (g : Straw) : SB (putS w b g) b g := heap_set (heap_set (heap_set (heap_set h 0 _) 1 _) 2 _) 3 _
theorem grown_putS (w : World) (b : Nat) (s : Straw) : w.grownBy (putS w b s) (some b) :=
  (((grownBy_setCellK w b 0 _).trans (grownBy_setCellK _ b 1 _)).trans (grownBy_setCellK _ b 2 _)).trans (grownBy_setCellK _ b 3 _)
structure ChSt (w : World) (b1 b2 : Nat) (o : Option Straw) (W : World) : Prop where
  s : SB W b1 (o.getD ⟨0, 0, 0, 0⟩)
  k : Boxed W b2 4 (.bool o.isSome)
  below : Below w.heap.size w W
theorem fin_put {w W2 W3 : World} {b1 b2 N0 B : Nat} {o : Option Straw} {kb : Bool} (x : Straw) (h1 : b1 = w.heap.size) (h2 : b2 = w.heap.size + 1) (HB2 : Below w.heap.size w W2) (hb3 : Below W2.heap.size W2 W3) (hs : SB W3 b1 (o.getD ⟨0, 0, 0, 0⟩)) (hk : Boxed W3 b2 4 (.bool kb)) :
    KeepsFrom B W2 ((putS W3 b1 x).setCell ⟨b2, 0, none⟩ (.bool true)) ∧ KeepX N0 (fun k => k = b1 ∨ k = b2) (fun _ => False) W2 ((putS W3 b1 x).setCell ⟨b2, 0, none⟩ (.bool true)) ∧ ChSt w b1 b2 (some x) ((putS W3 b1 x).setCell ⟨b2, 0, none⟩ (.bool true)) := by
  have hg := grown_putS W3 b1 x
  have hg2 := grownBy_setCellK (putS W3 b1 x) b2 0 (.bool true)
  have hw3 : Below w.heap.size w W3 := below_step HB2 hb3
  refine ⟨?_, ?_, ?_, ?_, ?_⟩
  · refine ((ko_below hb3).from B).trans ?_
    exact (((((KeepsOthers.setCell _ _ _).from B).trans ((KeepsOthers.setCell _ _ _).from B)).trans ((KeepsOthers.setCell _ _ _).from B)).trans ((KeepsOthers.setCell _ _ _).from B)).trans ((KeepsOthers.setCell _ _ _).from B)
  · refine ((KeepX.below hb3).trans (KeepX.grown hg (fun k cs T fr e _ => ⟨fun _ => .inl (Option.some.inj e).symm, fun _ h => h⟩))).trans (KeepX.grown hg2 (fun k cs T fr e _ => ⟨fun _ => .inr (Option.some.inj e).symm, fun _ h => h⟩))
  · exact (heap_set_ne (by omega) _ _).trans (hs.put x)
  · exact (hk.kept hg (fun e => by injection e; omega)).set _
  · exact (hw3.grown hg hw3.size (fun k e => by cases e; omega)).grown hg2 (by have := hw3.size; have := hg.size; omega) (fun k e => by cases e; omega)
theorem fin_keep {w W2 W3 : World} {b1 b2 N0 B : Nat} {o : Option Straw} {X Ts : Nat → Prop} (HB2 : Below w.heap.size w W2) (hb3 : Below W2.heap.size W2 W3) (hs : SB W2 b1 (o.getD ⟨0, 0, 0, 0⟩)) (hk : Boxed W2 b2 4 (.bool o.isSome)) :
    KeepsFrom B W2 W3 ∧ KeepX N0 X Ts W2 W3 ∧ ChSt w b1 b2 o W3 :=
  ⟨(ko_below hb3).from B, KeepX.below hb3, hs.below hb3 hs.lt, boxed_step hk hb3, below_step HB2 hb3⟩
def chooseS (l : List S31) (x r : Int) : Int × Bool := (((bestL (strawsL l x r l.length)).getD ⟨0, 0, 0, 0⟩).place, (bestL (strawsL l x r l.length)).isSome)
def crush_Choose.f (l : List S31) (x r : Int) : Option (Int × Bool) := some (chooseS l x r)
set_option maxRecDepth 100000 in
set_option maxHeartbeats 4000000 in
theorem choose_in (l : List S31) (x r : Int) (A : Option Addr) (c : Nat) (w : World) (hC : Kd.C k31 w A l.length l) (hc : l.length ≤ c) :
    CallsIn Fence.wide 9 Try.prog 42 #[.slice A l.length c, .int .u32 x, .int .i64 r] w (fun e w' => e = .returned (.tuple #[.int .i64 (chooseS l x r).1, .bool (chooseS l x r).2]) ∧ Below w.heap.size w w') := by
  have hlen := hC.2.1
  have hu := Try.underlying75
  have hu2 := Try.underlying31
  refine callsIn_of_wp_marks Try.func42 rfl trivial ?_ rfl
  simp only [Try.ntmps42, List.size_toArray, List.length_cons, List.length_nil, Nat.reduceAdd, Nat.reduceSub, Array.replicate_succ, Array.replicate_zero, List.push_toArray, List.append_toArray, List.nil_append, List.cons_append]
  gi_wp2_with (refine ⟨trivial, ?_⟩; gi_at_call 56; refine (straws_in l x r A l.length c _).mono ?_; rintro e w' ⟨rfl, rfl⟩)
  obtain ⟨wl, hwl⟩ : ∃ wl : World, wl = ((((w.alloc (.cells #[.int .i64 0, .int .i64 0, .int .i64 0, .int .i64 0] 75)).alloc (.cells #[.bool false] 4)).alloc (.cells #[.slice A l.length c] 26)).alloc (.cells #[.int .u32 x] 24)).alloc (.cells #[.int .i64 r] 3) := ⟨_, rfl⟩
  rw [← hwl]
  have hsz : wl.heap.size = w.heap.size + 5 := by rw [hwl]; simp
  have hbel : Below w.heap.size w wl := by
    rw [hwl]
    exact below_alloc (below_alloc (below_alloc (below_alloc (below_alloc (Below.refl _ _) _) _) _) _) _
  have hs0 : SB wl w.heap.size ⟨0, 0, 0, 0⟩ := by
    rw [hwl]
    have h1 := World.alloc_heap_new w (.cells #[.int .i64 0, .int .i64 0, .int .i64 0, .int .i64 0] 75)
    exact ((((Below.refl _ (w.alloc (.cells #[.int .i64 0, .int .i64 0, .int .i64 0, .int .i64 0] 75))).alloc (Nat.le_refl _) _).alloc (by simp) _).alloc (by simp <;> omega) _).alloc (by simp <;> omega) _ |>.block _ (by simp) |>.trans h1
  have hk0 : Boxed wl (w.heap.size + 1) 4 (.bool false) := by
    rw [hwl]
    have h1 := World.alloc_heap_new (w.alloc (.cells #[.int .i64 0, .int .i64 0, .int .i64 0, .int .i64 0] 75)) (.cells #[.bool false] 4)
    rw [World.size_alloc] at h1
    exact (((Below.refl _ ((w.alloc (.cells #[.int .i64 0, .int .i64 0, .int .i64 0, .int .i64 0] 75)).alloc (.cells #[.bool false] 4))).alloc (Nat.le_refl _) _).alloc (by simp) _).alloc (by simp <;> omega) _ |>.block _ (by simp) |>.trans h1
  have hci : wl.cell? ⟨w.heap.size + 1 + 1, 0, none⟩ = some (.slice A l.length c) := by rw [hwl]; go_simp
  have hcx : wl.cell? ⟨w.heap.size + 1 + 1 + 1, 0, none⟩ = some (.int .u32 x) := by rw [hwl]; go_simp
  have hcr : wl.cell? ⟨w.heap.size + 1 + 1 + 2, 0, none⟩ = some (.int .i64 r) := by rw [hwl]; go_simp
  clear hwl
  have hA : ∀ ad, A = some ad → 0 < l.length → ad.block < wl.heap.size ∧ ¬ (ad.block = w.heap.size ∨ ad.block = w.heap.size + 1) := fun ad e hn => by
    have := C_block (by decide) hC ad e hn
    omega
  have HSEQ := straws_seq l x r A c (w.heap.size + 1 + 1) (w.heap.size + 1 + 1 + 1) (w.heap.size + 1 + 1 + 2) (fun k => k = w.heap.size ∨ k = w.heap.size + 1) wl (by omega) (by omega) (by omega) (by omega) (by omega) (by omega) hA (Kd.C_below hC hbel) hc hci hcx hcr
  refine rf_A (F := Fence.wide) (P := Try.prog) (encs := fun s : OkS => #[.agg #[.int .i64 s.1.id, .int .i64 s.1.wt, .int .i64 s.1.place, .int .i64 s.1.cost]]) rfl (by decide) (gf := 66) rfl trivial (Go.Proofs.enters_of Try.func66 (by kernel_rfl) rfl) HSEQ (Below.refl _ _) (fun _ => rfl)
    (fun (pre : List OkS) W => ChSt w w.heap.size (w.heap.size + 1) (bestL (valsO pre)) W)
    (fun s X Y hs hb => ⟨hs.s.below hb (by omega), (hb.block _ (by omega)).trans hs.k, hs.below.trans (hb.mono (by omega))⟩) ⟨hs0, hk0, hbel⟩ ?round ?done
  case round =>
    rintro li pre ⟨x, hx⟩ W hl ⟨rl, hrl⟩ hI hlt
    have hlW : li < W.heap.size := (Array.getElem?_eq_some_iff.1 hrl).1
    have HBO := Aside0.mk (fun b => best_ok pre b)
    have HST := Aside0.mk (show bestL (valsO (pre ++ [(⟨x, hx⟩ : OkS)])) = stepB (bestL (valsO pre)) x from by unfold valsO; rw [List.map_append]; exact bestL_snoc _ _)
    generalize bestL (valsO pre) = bo at *
    clear HSEQ hci hcx hcr hs0 hk0 hbel hA
    gi_wp2
    refine ⟨(KeepsOthers.alloc W _).from _, KeepX.below ((Below.refl _ W).alloc (Nat.le_refl _) _), fun o' => ?_⟩
    have hba := (Below.refl _ W).alloc (Nat.le_refl _) (.cells #[.int .i64 x.id, .int .i64 x.wt, .int .i64 x.place, .int .i64 x.cost] 75)
    have hb2 : Below w.heap.size w ((W.alloc (.cells #[.int .i64 x.id, .int .i64 x.wt, .int .i64 x.place, .int .i64 x.cost] 75)).putObj li o') :=
      (hI.below.trans (hba.mono hI.below.size)).grown (grownBy_putObj' _ li o') (by have := hI.below.size; simp; omega) (fun k e => by cases e; omega)
    have hs2 : SB ((W.alloc (.cells #[.int .i64 x.id, .int .i64 x.wt, .int .i64 x.place, .int .i64 x.cost] 75)).putObj li o') w.heap.size (bo.getD ⟨0, 0, 0, 0⟩) :=
      (World.putObj_heap_other (by omega)).trans ((hba.block _ hI.s.lt).trans hI.s)
    have hk2 : Boxed ((W.alloc (.cells #[.int .i64 x.id, .int .i64 x.wt, .int .i64 x.place, .int .i64 x.cost] 75)).putObj li o') (w.heap.size + 1) 4 (.bool bo.isSome) :=
      (World.putObj_heap_other (by omega)).trans ((hba.block _ hI.k.lt).trans hI.k)
    have hx2 : SB ((W.alloc (.cells #[.int .i64 x.id, .int .i64 x.wt, .int .i64 x.place, .int .i64 x.cost] 75)).putObj li o') W.heap.size x :=
      (World.putObj_heap_other (by omega)).trans (World.alloc_heap_new W _)
    have hWge : w.heap.size + 5 ≤ W.heap.size := by omega
    generalize (W.alloc (.cells #[.int .i64 x.id, .int .i64 x.wt, .int .i64 x.place, .int .i64 x.cost] 75)).putObj li o' = W2 at *
    obtain ⟨nb, hnb⟩ : ∃ nb, nb = W.heap.size := ⟨_, rfl⟩
    rw [← hnb] at hx2 hWge ⊢
    have HNB := Aside0.mk hnb
    clear hba hI hrl hlW hl hnb
    have HB2 := Aside0.mk hb2
    have HS2 := Aside0.mk hs2
    have HK2 := Aside0.mk hk2
    have HX2 := Aside0.mk hx2
    have hkc := hk2.cell
    have hkf := hk2.frozen
    obtain ⟨x0, x1, x2, x3⟩ := hx2.cell
    obtain ⟨s0, s1, s2, s3⟩ := hs2.cell
    have f0 := hs2.frozen 0
    have f1 := hs2.frozen 1
    have f2 := hs2.frozen 2
    have f3 := hs2.frozen 3
    clear hx2 hs2 hk2 hb2
    cases hbo : bo with
    | none =>
      subst hbo
      simp only [Option.isSome_none, Option.isSome_some, Option.getD_none, Option.getD_some] at hkc s0 s1 s2 s3 HS2 HK2
      gi_wp2
      refine ⟨trivial, ?_⟩
      gi_wp2
      rw [show stepB none x = some x from rfl] at HST
      have := fin_put (N0 := wl.heap.size) (B := wl.heap.size) (o := none) x rfl rfl HB2.out (Below.refl _ _) HS2.out HK2.out
      refine ⟨this.1, this.2.1, ?_⟩
      show ChSt w _ _ (bestL (valsO (pre ++ [(⟨x, hx⟩ : OkS)]))) _
      rw [HST.out]
      exact this.2.2
    | some b =>
      subst hbo
      simp only [Option.isSome_none, Option.isSome_some, Option.getD_none, Option.getD_some] at hkc s0 s1 s2 s3 HS2 HK2
      obtain ⟨v, hv, hvd⟩ := ahead_eq x b hx (HBO.out b rfl)
      have HV := Aside0.mk hv
      have HST2 := Aside0.mk (show stepB (some b) x = if aheadB x b = true then some x else some b from rfl)
      clear hv
      cases hah : aheadB x b with
      | true =>
        rw [hah] at hvd HST2
        gi_wp2_with (refine ⟨trivial, ?_⟩; gi_at_call 57; refine (callsIn_wide.2 (crush_ahead.calls 5 x.id x.wt x.place x.cost b.id b.wt b.place b.cost v _ HV.out)).mono ?_; rintro e w3 ⟨rfl, hb3⟩; obtain ⟨q0, q1, q2, q3⟩ := (HX2.out.below hb3 HX2.out.lt).cell; have g0 := (HS2.out.below hb3 HS2.out.lt).frozen 0; have g1 := (HS2.out.below hb3 HS2.out.lt).frozen 1; have g2 := (HS2.out.below hb3 HS2.out.lt).frozen 2; have g3 := (HS2.out.below hb3 HS2.out.lt).frozen 3; have gk := (boxed_step HK2.out hb3).frozen; obtain ⟨r0, r1, r2, r3⟩ := (HS2.out.below hb3 HS2.out.lt).cell; have rk := (boxed_step HK2.out hb3).cell; have HB3 := Aside0.mk hb3; clear hb3)
        rw [if_pos trivial] at HST2
        have := fin_put (N0 := wl.heap.size) (B := wl.heap.size) (o := some b) x rfl rfl HB2.out HB3.out (HS2.out.below HB3.out HS2.out.lt) (boxed_step HK2.out HB3.out)
        refine ⟨this.1, this.2.1, ?_⟩
        show ChSt w _ _ (bestL (valsO (pre ++ [(⟨x, hx⟩ : OkS)]))) _
        rw [HST.out, HST2.out]
        exact this.2.2
      | false =>
        rw [hah] at hvd HST2
        gi_wp2_with (refine ⟨trivial, ?_⟩; gi_at_call 57; refine (callsIn_wide.2 (crush_ahead.calls 5 x.id x.wt x.place x.cost b.id b.wt b.place b.cost v _ HV.out)).mono ?_; rintro e w3 ⟨rfl, hb3⟩; obtain ⟨q0, q1, q2, q3⟩ := (HX2.out.below hb3 HX2.out.lt).cell; have g0 := (HS2.out.below hb3 HS2.out.lt).frozen 0; have g1 := (HS2.out.below hb3 HS2.out.lt).frozen 1; have g2 := (HS2.out.below hb3 HS2.out.lt).frozen 2; have g3 := (HS2.out.below hb3 HS2.out.lt).frozen 3; have gk := (boxed_step HK2.out hb3).frozen; obtain ⟨r0, r1, r2, r3⟩ := (HS2.out.below hb3 HS2.out.lt).cell; have rk := (boxed_step HK2.out hb3).cell; have HB3 := Aside0.mk hb3; clear hb3)
        have := fin_keep (N0 := wl.heap.size) (B := wl.heap.size) (o := some b) (X := fun k => k = w.heap.size ∨ k = w.heap.size + 1) (Ts := fun _ => False) HB2.out HB3.out HS2.out HK2.out
        refine ⟨this.1, this.2.1, ?_⟩
        show ChSt w _ _ (bestL (valsO (pre ++ [(⟨x, hx⟩ : OkS)]))) _
        rw [HST.out, HST2.out]
        exact this.2.2
  case done =>
    rintro D xs W hD rfl hI hK
    have HI := Aside0.mk hI
    have HL := Aside0.mk (show bestL (valsO ((strawsL l x r l.length).map mkOk)) = bestL (strawsL l x r l.length) from by unfold valsO; rw [mkOk_map _ (strawsL_ok l x r _ (by omega))])
    obtain ⟨c0, c1, c2, c3⟩ := hI.s.cell
    have hk := hI.k.cell
    clear hI
    gi_wp2_with fail
    refine meetM ?_
    apply Exists.intro
    apply Exists.intro
    refine ⟨?_, ?_⟩
    · gi_region
      all_goals exact ⟨rfl, rfl⟩
    gi_wp2_with fail
    refine ⟨by simp, .inl ⟨_, _, rfl, run_takeDeferred (show W.drew.heap[D]? = _ from hK), ?_⟩⟩
    refine ⟨.tuple #[.int .i64 ((bestL (valsO ((strawsL l x r l.length).map mkOk))).getD ⟨0, 0, 0, 0⟩).place, .bool (bestL (valsO ((strawsL l x r l.length).map mkOk))).isSome], by simp [results, Try.results42, go_sem], ?_, (HI.out.below.drew).grown (grownBy_putObj' W.drew D (.deferred none)) (by have := HI.out.below.size; show _ ≤ W.heap.size; omega) (fun k e => by cases e; omega)⟩
    rw [HL.out]; rfl
theorem crush_Choose.calls (A0 : Option Addr) (c0 : Nat) (l0 : List S31) (a1 : Int) (a2 : Int) (r : Int × Bool) (w : World) (hr0 : Kd.C k31 w A0 l0.length l0) (hc0 : l0.length ≤ c0) (h : crush_Choose.f l0 a1 a2 = some r) :
    Calls Try.prog 42 #[.slice A0 l0.length c0, .int .u32 a1, .int .i64 a2] w fun e w' => e = .returned (.tuple #[.int .i64 r.1, .bool r.2]) ∧ Below w.heap.size w w' := by
  obtain rfl := Option.some.inj h
  exact callsIn_wide.1 (choose_in l0 a1 a2 A0 c0 w hr0 hc0)
end Go.Proofs.Ytbaldkcnipmdjaa.P
namespace Go.Proofs.Ytbaldkcnipmdjaa.P
open Go.RowKit Go.Proofs.YtbaldkcnipmdjaaW.PrintWords Go.Proofs.YtbaldkcnipmdjaaW.PrintLast Go.Proofs.YtbaldkcnipmdjaaW.PrintMore Go.Proofs.YtbaldkcnipmdjaaW.HB
set_option linter.unusedVariables false
set_option linter.unusedSimpArgs false
def slices_Clone_I.f (l0 : List (Int)) : Option (List (Int)) := if l0.length < 17592186044416 then some l0 else none
set_option maxHeartbeats 1000000 in
theorem slices_Clone_I.calls (A0 : Option Addr) (c0 : Nat) (l0 : List (Int)) (r : List (Int)) (w : World) (hr0 : Kd.C (Kd.int .i64) w A0 l0.length l0) (hc0 : l0.length ≤ c0) (h : slices_Clone_I.f l0 = some r) :
    Calls Try.prog 28 #[.slice A0 l0.length c0] w fun e w' => ∃ v0_ : Value, e = .returned (v0_) ∧ Kd.R (Kd.int .i64) 3 w' w.heap.size (fun _ => True) v0_ r ∧ Below w.heap.size w w' := by
  have HR0 := Aside0.mk hr0
  have HC0 := Aside0.mk hc0
  clear hr0 hc0
  have HB := Aside0.mk (Below.refl w.heap.size w)
  unfold slices_Clone_I.f at h
  split at h <;> simp at h
  subst h
  rename_i hl
  have HL := Aside0.mk hl
  clear hl
  have hnil := fun (W : World) => Lib.run_eql_slice_nil (P := Try.prog) W 22 3 A0 l0.length c0 0 0 Try.underlying22
  cases A0 with
  | none =>
    go_enter Try.func28, Try.ntmps28
    go_wp2
    go_ret
    have h0 : l0 = [] := by
      cases l0 with
      | nil => rfl
      | cons x l =>
        obtain ⟨ad, e, _⟩ := HR0.out.2.2 (by simp)
        cases e
    subst h0
    exact ⟨_, rfl, Kd.R_nil _ _ _ _ _, HB.out⟩
  | some a =>
    have HE := Aside0.mk (R_empty (Kd.int .i64) 3 w w.heap.size (fun _ => True) (Nat.le_refl _) trivial)
    go_enter Try.func28, Try.ntmps28
    go_wp2_with (first | (at_builtin; refine Kd.R_append_rows (Kd.int .i64) (w0 := w) w.heap.size rfl (.tmp 5) (.tmp 6) 22 3 ((.int .i64 0)) 8 rfl Try.underlying22 info3 rfl (by decide) (by omega) _ ([] : List (Int)) l0 _ _ _ (fun _ => True) (fun _ => False) rfl rfl HE.out (Kd.C_below HR0.out (below_alloc HB.out _)) (fun _ _ h => h) (fun _ h => h.elim) (fun _ _ => trivial) (below_alloc HB.out _) (by simp) (by have := HL.out; simp; omega) ?_; intro v125 w3 ho hb hg hat; have HO := Aside0.mk ho; have HB3 := Aside0.mk hb; clear ho hb hg hat))
    go_ret
    exact ⟨_, rfl, HO.out, HB3.out⟩
end Go.Proofs.Ytbaldkcnipmdjaa.P
namespace Go.Proofs
open Go.Shelf
def Try.lays189_ren : Go.Shelf.Ren := ⟨fun | 189 => 29 | 125 => 40 | 257 => 39 | 128 => 54 | 129 => 55 | 294 => 45 | 295 => 46 | 296 => 47 | 297 => 48 | 298 => 49 | 299 => 50 | 216 => 51 | 300 => 52 | 301 => 53 | 328 => 60 | 329 => 61 | 330 => 62 | 331 => 63 | 332 => 64 | 215 => 65 | 343 => 71 | n => n, fun | 28 => 22 | 3 => 3 | 46 => 59 | 0 => 0 | 51 => 24 | 53 => 35 | 4 => 4 | 183 => 66 | 182 => 65 | 131 => 60 | 5 => 5 | 9 => 9 | 218 => 82 | 222 => 86 | 228 => 94 | 229 => 95 | n => n, fun | n => n⟩
theorem Try.lays189 : Go.Proofs.Lays.n189 Try.prog Try.lays189_ren := {
  mixed := by kernel_rfl
  f125 := Try.func40.trans (congrArg some (by kernel_rfl))
  f128 := Try.func54.trans (congrArg some (by kernel_rfl))
  f129 := Try.func55.trans (congrArg some (by kernel_rfl))
  f189 := Try.func29.trans (congrArg some (by kernel_rfl))
  f215 := Try.func65.trans (congrArg some (by kernel_rfl))
  f216 := Try.func51.trans (congrArg some (by kernel_rfl))
  f257 := Try.func39.trans (congrArg some (by kernel_rfl))
  f294 := Try.func45.trans (congrArg some (by kernel_rfl))
  f295 := Try.func46.trans (congrArg some (by kernel_rfl))
  f296 := Try.func47.trans (congrArg some (by kernel_rfl))
  f297 := Try.func48.trans (congrArg some (by kernel_rfl))
  f298 := Try.func49.trans (congrArg some (by kernel_rfl))
  f299 := Try.func50.trans (congrArg some (by kernel_rfl))
  f300 := Try.func52.trans (congrArg some (by kernel_rfl))
  f301 := Try.func53.trans (congrArg some (by kernel_rfl))
  f328 := Try.func60.trans (congrArg some (by kernel_rfl))
  f329 := Try.func61.trans (congrArg some (by kernel_rfl))
  f330 := Try.func62.trans (congrArg some (by kernel_rfl))
  f331 := Try.func63.trans (congrArg some (by kernel_rfl))
  f332 := Try.func64.trans (congrArg some (by kernel_rfl))
  f343 := Try.func71.trans (congrArg some (by kernel_rfl))
  t0 := Try.underlying0
  a0 := Try.isAgg0
  z0 := Try.sizeOf0
  v0 := Try.zeroValue0
  t3 := Try.underlying3
  a3 := Try.isAgg3
  z3 := Try.sizeOf3
  v3 := Try.zeroValue3
  t4 := Try.underlying4
  a4 := Try.isAgg4
  z4 := Try.sizeOf4
  v4 := Try.zeroValue4
  t5 := Try.underlying5
  a5 := Try.isAgg5
  z5 := Try.sizeOf5
  v5 := Try.zeroValue5
  t9 := Try.underlying9
  a9 := Try.isAgg9
  z9 := Try.sizeOf9
  v9 := Try.zeroValue9
  t28 := Try.underlying22
  a28 := Try.isAgg22
  z28 := Try.sizeOf22
  v28 := Try.zeroValue22
  t46 := Try.underlying59
  a46 := Try.isAgg59
  z46 := Try.sizeOf59
  v46 := Try.zeroValue59
  t51 := Try.underlying24
  a51 := Try.isAgg24
  z51 := Try.sizeOf24
  v51 := Try.zeroValue24
  t53 := Try.underlying35
  a53 := Try.isAgg35
  z53 := Try.sizeOf35
  v53 := Try.zeroValue35
  t131 := Try.underlying60
  a131 := Try.isAgg60
  z131 := Try.sizeOf60
  v131 := Try.zeroValue60
  t182 := Try.underlying65
  a182 := Try.isAgg65
  z182 := Try.sizeOf65
  v182 := Try.zeroValue65
  t183 := Try.underlying66
  a183 := Try.isAgg66
  z183 := Try.sizeOf66
  v183 := Try.zeroValue66
  t218 := Try.underlying82
  a218 := Try.isAgg82
  z218 := Try.sizeOf82
  v218 := Try.zeroValue82
  t222 := Try.underlying86
  a222 := Try.isAgg86
  z222 := Try.sizeOf86
  v222 := Try.zeroValue86
  t228 := Try.underlying94
  a228 := Try.isAgg94
  z228 := Try.sizeOf94
  v228 := Try.zeroValue94
  t229 := Try.underlying95
  a229 := Try.isAgg95
  z229 := Try.sizeOf95
  v229 := Try.zeroValue95 }
open Go.Sort Go.RowKit in
theorem Try.slices_Sort_int (blk off cap : Nat) (zs : List Int) (w : World) (hH : Holds (Value.int .i64) w blk off zs.toArray) (hblk : blk < w.heap.size) (hsz : zs.length < 4611686018427387904) :
    Calls Try.prog 29 #[.slice (some ⟨blk, off, none⟩) zs.length cap] w fun e w' =>
      e = .returned (.tuple #[]) ∧ ∃ n os, w' = grow (putRow (Value.int .i64) (Sort.ahead w n) blk off (zs.mergeSort fun x y => decide (x ≤ y)).toArray) os := Any.slices_Sort_int Try.lays189 blk off cap zs w hH hblk hsz
def Try.laysNm220_ren : Go.Shelf.Ren := ⟨fun | 20 => 30 | n => n, fun | 22 => 22 | 3 => 3 | 4 => 4 | 0 => 0 | n => n, fun | n => n⟩
theorem Try.laysNm220 : Go.Proofs.Lays2.n20 Try.prog Try.laysNm220_ren := {
  mixed := by kernel_rfl
  f20 := Try.func30.trans (congrArg some (by kernel_rfl))
  t0 := Try.underlying0
  a0 := Try.isAgg0
  z0 := Try.sizeOf0
  v0 := Try.zeroValue0
  t3 := Try.underlying3
  a3 := Try.isAgg3
  z3 := Try.sizeOf3
  v3 := Try.zeroValue3
  t4 := Try.underlying4
  a4 := Try.isAgg4
  z4 := Try.sizeOf4
  v4 := Try.zeroValue4
  t22 := Try.underlying22
  a22 := Try.isAgg22
  z22 := Try.sizeOf22
  v22 := Try.zeroValue22
  i3 := by kernel_rfl }
open Go.RowKit Go.Lib Go.Sort in
theorem Try.slices_Compact_int (blk off cap : Nat) (zs : List Int) (w : World) (hH : Holds (Value.int .i64) w blk off zs.toArray) (hsz : zs.length ≤ 9223372036854775807) (hcap : zs.length ≤ cap) :
    Calls Try.prog 30 #[.slice (some ⟨blk, off, none⟩) zs.length cap] w fun e w' => e = .returned (.slice (some ⟨blk, off, none⟩) (Lib.compact zs).length cap) ∧ ∃ q, w' = putRow (Value.int .i64) (Sort.ahead w q) blk off (Lib.compact zs ++ List.replicate (zs.length - (Lib.compact zs).length) 0).toArray := Any.slices_Compact_int Try.laysNm220 blk off cap zs w hH hsz hcap
open Go.RowKit Go.Lib Go.Sort in
theorem Try.slices_Compact_int_empty (a : Option Addr) (cap : Nat) (w : World) :
    Calls Try.prog 30 #[.slice a 0 cap] w fun e w' => e = .returned (.slice a 0 cap) ∧ w' = w := Any.slices_Compact_int_empty Try.laysNm220 a cap w
open Go.RowKit Go.Sort in
theorem Try.slices_Sort_int_none (p : Option Addr) (cap : Nat) (w : World) :
    Calls Try.prog 29 #[.slice p 0 cap] w fun e w' => e = .returned (.tuple #[]) ∧ w' = w := Any.slices_Sort_int_none Try.lays189 p cap w
end Go.Proofs
namespace Go.Proofs.Ytbaldkcnipmdjaa.P
open Go.RowKit Go.Proofs.YtbaldkcnipmdjaaW.PrintWords Go.Proofs.YtbaldkcnipmdjaaW.PrintLast Go.Proofs.YtbaldkcnipmdjaaW.PrintMore Go.Proofs.YtbaldkcnipmdjaaW.HB
set_option linter.unusedVariables false
theorem Reps_int {k : IntKind} {w : World} {base : Nat} {ok : Nat → Prop} (xs : List Int) (cs : List Value) : Reps ((Kd.int k).M w base ok) 1 xs cs ↔ cs = xs.map (Value.int k) := by
  constructor
  · rintro ⟨h1, h2⟩
    apply List.ext_getElem (by simpa using h1)
    intro j hj hj'
    have hx : j < xs.length := by simpa using hj'
    have h3 := congrArg (fun l : List Value => l[0]?) (Kd.int_openM (h2 j xs[j] (List.getElem?_eq_getElem hx)))
    simp [List.getElem?_drop, List.getElem?_eq_getElem hj] at h3
    simpa using h3
  · rintro rfl
    refine ⟨by simp, fun j p hj => ?_⟩
    obtain ⟨hlt, rfl⟩ := List.getElem?_eq_some_iff.1 hj
    rw [Nat.mul_one, List.drop_eq_getElem_cons (by simpa using hlt)]
    simpa using Kd.int_mkM w base ok xs[j]
theorem own_of_R {k : IntKind} {e : Nat} {w : World} {base : Nat} {ok : Nat → Prop} {v : Value} {xs : List Int} (h : Kd.R (Kd.int k) e w base ok v xs) : w.ownsRow base e 1 v xs.length (xs.map (Value.int k)) := by
  obtain ⟨_, inner, ho, hr⟩ := h
  rw [← (Reps_int xs inner).1 hr]
  exact ho
theorem R_of_own {k : IntKind} {e : Nat} {w : World} {base : Nat} {ok : Nat → Prop} {v : Value} {xs : List Int} (h0 : ∀ b, v.ownBlock = some b → ok b) (h : w.ownsRow base e 1 v xs.length (xs.map (Value.int k))) : Kd.R (Kd.int k) e w base ok v xs :=
  ⟨h0, _, h, (Reps_int xs _).2 rfl⟩
theorem sort_R (A : Option Addr) (c : Nat) (xs : List Int) (e base : Nat) (ok : Nat → Prop) (w : World) (hR : Kd.R (Kd.int .i64) e w base ok (.slice A xs.length c) xs) (hl : xs.length < 4611686018427387904) :
    Calls Try.prog 29 #[.slice A xs.length c] w fun e' w' => e' = .returned (.tuple #[]) ∧ Kd.R (Kd.int .i64) e w' base ok (.slice A xs.length c) (xs.mergeSort fun x y => decide (x ≤ y)) ∧ ∃ row, w.grownBy w' row ∧ ∀ k, row = some k → (Value.slice A xs.length c).ownBlock = some k := by
  have h0 := hR.1
  rcases (own_of_R hR).2 with ⟨h1, _⟩ | ⟨g, cap, cur, hv, hb, hg, hc1, hc2, hc3, hc4⟩
  · injection h1 with h1 h2 h3
    subst h1 h3
    obtain rfl := List.eq_nil_of_length_eq_zero h2
    refine (Try.slices_Sort_int_none none 0 w).mono ?_
    rintro e' w' ⟨rfl, rfl⟩
    exact ⟨rfl, by simpa using hR, none, grown_of_below (Below.refl _ _) _, fun k e => by cases e⟩
  · injection hv with hv1 _ hv3
    subst hv1 hv3
    rw [Nat.mul_one] at hc4
    refine (Try.slices_Sort_int g 0 c xs w (holds_of_blockI hg hc4) (Array.getElem?_eq_some_iff.1 hg).1 hl).mono ?_
    rintro e' w' ⟨rfl, n, os, rfl⟩
    refine ⟨rfl, R_of_own (by simpa using h0) ?_, some g, grownBy_sortedI _, fun k e => by cases e; rfl⟩
    have := ownsRow_sortedI (w := w) (base := base) (g := g) (cap := c) (n := n) (os := os) (ss := xs) (ts := xs.mergeSort fun x y => decide (x ≤ y)) (by simp) hb hg hc1 hc2 hc3
    simpa using this
theorem compact_le (xs : List Int) : (Lib.compact xs).length ≤ xs.length := by
  unfold Lib.compact Lib.compactUpTo
  rw [List.length_map]
  exact Nat.le_trans (List.length_filter_le _ _) (by simp)
theorem compact_R (A : Option Addr) (c : Nat) (xs : List Int) (e base : Nat) (ok : Nat → Prop) (w : World) (hR : Kd.R (Kd.int .i64) e w base ok (.slice A xs.length c) xs) (hl : xs.length < 4611686018427387904) :
    Calls Try.prog 30 #[.slice A xs.length c] w fun e' w' => e' = .returned (.slice A (Lib.compact xs).length c) ∧ Kd.R (Kd.int .i64) e w' base ok (.slice A (Lib.compact xs).length c) (Lib.compact xs) ∧ ∃ row, w.grownBy w' row ∧ ∀ k, row = some k → (Value.slice A xs.length c).ownBlock = some k := by
  have h0 := hR.1
  rcases (own_of_R hR).2 with ⟨h1, _⟩ | ⟨g, cap, cur, hv, hb, hg, hc1, hc2, hc3, hc4⟩
  · injection h1 with h1 h2 h3
    subst h1 h3
    obtain rfl := List.eq_nil_of_length_eq_zero h2
    have e0 : Lib.compact ([] : List Int) = [] := rfl
    refine (Try.slices_Compact_int_empty none 0 w).mono ?_
    rintro e' w' ⟨rfl, rfl⟩
    rw [e0]
    exact ⟨rfl, hR, none, grown_of_below (Below.refl _ _) _, fun k e => by cases e⟩
  · injection hv with hv1 _ hv3
    subst hv1 hv3
    rw [Nat.mul_one] at hc4
    have hle := compact_le xs
    refine (Try.slices_Compact_int g 0 c xs w (holds_of_blockI hg hc4) (by omega) hc1).mono ?_
    rintro e' w' ⟨rfl, q, rfl⟩
    generalize hcx : Lib.compact xs = cx at *
    have hts : (cx ++ List.replicate (xs.length - cx.length) (0 : Int)).length = xs.length := by simp; omega
    have hgr : ∀ W : World, Go.Sort.grow W #[] = W := fun W => by simp [Go.Sort.grow]
    rw [← hgr (Sort.putRow _ _ _ _ _)]
    have hsz : cur.size = c := by rw [hc3, Nat.mul_one]
    refine ⟨rfl, R_of_own (fun b hb' => h0 b (by simpa [Value.ownBlock] using hb')) ⟨by simp, .inr ⟨g, c, _, rfl, hb, heap_sortedI _ hg, by omega, hc2, ?_, ?_⟩⟩, some g, grownBy_sortedI _, fun k e => by cases e; rfl⟩
    · simp [Sort.putCells, hc3]
    · have h2 := take_putCellsI cur (cx ++ List.replicate (xs.length - cx.length) (0 : Int)) (by rw [hts, hsz]; exact hc1)
      have h3 := congrArg (List.take cx.length) h2
      rw [List.take_take, Nat.min_eq_left (by rw [hts]; exact hle), List.map_append, List.take_append_of_le_length (by simp)] at h3
      rw [Nat.mul_one]
      exact h3.trans (List.take_of_length_le (by simp))
theorem compact_Rn (A : Option Addr) (c n : Nat) (xs : List Int) (e base : Nat) (ok : Nat → Prop) (w : World) (hn : xs.length = n) (hR : Kd.R (Kd.int .i64) e w base ok (.slice A n c) xs) (hl : n < 4611686018427387904) :
    Calls Try.prog 30 #[.slice A n c] w fun e' w' => e' = .returned (.slice A (Lib.compact xs).length c) ∧ Kd.R (Kd.int .i64) e w' base ok (.slice A (Lib.compact xs).length c) (Lib.compact xs) ∧ ∃ row, w.grownBy w' row ∧ ∀ k, row = some k → (Value.slice A n c).ownBlock = some k := by
  subst hn
  exact compact_R A c xs e base ok w hR hl
end Go.Proofs.Ytbaldkcnipmdjaa.P
namespace Go.Proofs.Ytbaldkcnipmdjaa.P
open Go.RowKit Go.Proofs.YtbaldkcnipmdjaaW.PrintWords Go.Proofs.YtbaldkcnipmdjaaW.PrintLast Go.Proofs.YtbaldkcnipmdjaaW.PrintMore Go.Proofs.YtbaldkcnipmdjaaW.HB
set_option linter.unusedVariables false
set_option linter.unusedSimpArgs false
def hostsL (l : List Int) : List Int := Lib.compact (l.mergeSort fun x y => decide (x ≤ y))
def rule_Hosts.f (l0 : List Int) : Option (List Int) := if l0.length < 17592186044416 then some (hostsL l0) else none
set_option maxRecDepth 100000 in
set_option maxHeartbeats 4000000 in
theorem rule_Hosts.calls (A0 : Option Addr) (c0 : Nat) (l0 : List Int) (r : List Int) (w : World) (hr0 : Kd.C (Kd.int .i64) w A0 l0.length l0) (hc0 : l0.length ≤ c0) (h : rule_Hosts.f l0 = some r) :
    Calls Try.prog 13 #[.slice A0 l0.length c0] w fun e w' => ∃ v0_ : Value, e = .returned (v0_) ∧ Kd.R (Kd.int .i64) 3 w' w.heap.size (fun _ => True) v0_ r ∧ Below w.heap.size w w' := by
  unfold rule_Hosts.f at h
  split at h
  case isFalse => cases h
  rename_i hln
  obtain rfl := Option.some.inj h
  clear h
  have HR := Aside0.mk hr0
  have HC := Aside0.mk hc0
  have HLN := Aside0.mk hln
  have HCL := Aside0.mk (show slices_Clone_I.f l0 = some l0 from by unfold slices_Clone_I.f; rw [if_pos (by omega)])
  have hsl : (l0.mergeSort fun x y => decide (x ≤ y)).length = l0.length := by simp
  have HSL := Aside0.mk hsl
  have HDEF := Aside0.mk (show hostsL l0 = Lib.compact (l0.mergeSort fun x y => decide (x ≤ y)) from rfl)
  clear hr0 hc0 hln hsl
  generalize hs : (l0.mergeSort fun x y => decide (x ≤ y)) = s at *
  have HS := Aside0.mk hs
  clear hs
  go_enter Try.func13, Try.ntmps13
  go_wp2_with (first
    | (go_at_call 28; refine (slices_Clone_I.calls A0 c0 l0 l0 _ HR.out HC.out HCL.out).mono ?_; rintro e w1 ⟨v1, rfl, hR1, hB1⟩; obtain ⟨A1, c1, rfl⟩ := Kd.R_slice hR1; have HR1 := Aside0.mk hR1; have HB1 := Aside0.mk hB1; clear hR1 hB1)
    | (go_at_call 29; refine (sort_R A1 c1 l0 3 w.heap.size (fun _ => True) _ HR1.out (by have := HLN.out; omega)).mono ?_; rintro e w2 ⟨rfl, hR2, row, hg2, hrow⟩; rw [HS.out] at hR2; have HR2 := Aside0.mk hR2; have HB2 := Aside0.mk (pw_below_grown HB1.out _ HB1.out.size hg2 (fun k hk => ((Kd.R_bound HR1.out).1 k (hrow k hk)).2.1)); clear hR2 hg2 hrow)
    | (go_at_call 30; refine (compact_Rn A1 c1 l0.length s 3 w.heap.size (fun _ => True) _ HSL.out HR2.out (by have := HLN.out; omega)).mono ?_; rintro e w3 ⟨rfl, hR3, row3, hg3, hrow3⟩; have HR3 := Aside0.mk hR3; have HB3 := Aside0.mk (pw_below_grown HB2.out _ HB2.out.size hg3 (fun k hk => ((Kd.R_bound HR2.out).1 k (hrow3 k hk)).2.1)); clear hR3 hg3 hrow3))
  go_ret
  exact ⟨_, rfl, by rw [HDEF.out]; exact HR3.out, HB3.out⟩
end Go.Proofs.Ytbaldkcnipmdjaa.P
namespace Go.Proofs.Ytbaldkcnipmdjaa.P
open Go.RowKit Go.Proofs.YtbaldkcnipmdjaaW.PrintWords Go.Proofs.YtbaldkcnipmdjaaW.PrintLast Go.Proofs.YtbaldkcnipmdjaaW.PrintMore
attribute [local go_sem] max2_int min2_int max_two min_two max_three min_three max_four min_four
set_option linter.unusedVariables false
set_option linter.unusedSimpArgs false
def rule_weight.f (l0 : List Int) (a1 : Int) : Option (Int) := if a1 ≥ (l0.length : Int) then (some 0) else (if 0 ≤ a1 then (if a1 < (l0.length : Int) then (some (mn (mx (rd l0 a1) 0) 1048576)) else (none)) else (none))
set_option maxHeartbeats 8000000 in
set_option maxRecDepth 100000 in
theorem rule_weight.calls (A0 : Option Addr) (c0 : Nat) (l0 : List Int) (a1 : Int) (r : Int) (w : World) (hr0 : Kd.C (Kd.int .i64) w A0 l0.length l0) (hc0 : l0.length ≤ c0) (h : rule_weight.f l0 a1 = some r) :
    Calls Try.prog 36 #[.slice A0 l0.length c0, .int .i64 a1] w fun e w' => e = .returned (.int .i64 r) ∧ Below w.heap.size w w' := by
  have HR0 := Aside0.mk hr0
  have HC0 := Aside0.mk hc0
  clear hr0 hc0
  have HB := Aside0.mk (Below.refl w.heap.size w)
  have H : (if a1 ≥ (l0.length : Int) then (some 0) else (if 0 ≤ a1 then (if a1 < (l0.length : Int) then (some (mn (mx (rd l0 a1) 0) 1048576)) else (none)) else (none))) = some r := h
  clear h
  by_cases c3 : a1 ≥ (l0.length : Int)
  · rw [if_pos c3] at H
    have c3b0 : decide ((l0.length : Int) ≤ a1) = true := decide_eq_true c3
    clear c3
    obtain rfl := Option.some.inj H
    go_enter Try.func36, Try.ntmps36
    go_wp2
    go_ret
    exact ⟨by first | rfl | (simp [errW_none, errW_some] <;> rfl) | (simp [*, errW_none, errW_some] <;> rfl), by repeat (first | (with_reducible first | exact HB.out | apply below_alloc | apply pw_below_drewN | apply below_drew1) | exact HB.out)⟩
  · rw [if_neg c3] at H
    have c3b0 : decide ((l0.length : Int) ≤ a1) = false := decide_eq_false c3
    clear c3
    by_cases c4 : 0 ≤ a1
    · rw [if_pos c4] at H
      have c4b0 : decide (0 ≤ a1) = true := decide_eq_true c4
      clear c4
      by_cases c5 : a1 < (l0.length : Int)
      · rw [if_pos c5] at H
        have c5b0 : decide (a1 < (l0.length : Int)) = true := decide_eq_true c5
        clear c5
        obtain ⟨ji6, hji6⟩ : ∃ j_ : Int, (mx (rd l0 a1) 0) = j_ := ⟨_, rfl⟩
        replace H : (some (mn (ji6) 1048576)) = some r := by first | (rw [hji6] at H; exact H) | (simp only [hji6] at H ⊢; exact H)
        (try (have hji6l : 0 ≤ ji6 := by (rw [← hji6]; unfold mx; (repeat' split) <;> omega)))
        (try (have hji6m : 0 ≤ ji6 := by omega))
        have hji6_ : (if (rd l0 a1) < 0 then 0 else (rd l0 a1)) = ji6 := hji6
        obtain ⟨ji7, hji7⟩ : ∃ j_ : Int, (mn (ji6) 1048576) = j_ := ⟨_, rfl⟩
        replace H : (some ji7) = some r := by first | (rw [hji7] at H; exact H) | (simp only [hji7] at H ⊢; exact H)
        have hji7_ : (if 1048576 < (ji6) then 1048576 else (ji6)) = ji7 := hji7
        obtain rfl := Option.some.inj H
        have p112 : 0 ≤ (a1 : Int) := of_decide_eq_true (by first | (with_reducible assumption) | assumption)
        have q112 : a1 < (l0.length : Int) := of_decide_eq_true (by first | (with_reducible assumption) | assumption)
        obtain ⟨ad112, e112, hx112_0⟩ := Kd.at_int HR0.out a1 p112 q112
        cases e112
        replace p112 := eq_true p112
        replace q112 := eq_true q112
        go_enter Try.func36, Try.ntmps36
        go_wp2
        go_ret
        exact ⟨by first | rfl | (simp [errW_none, errW_some] <;> rfl) | (simp only [← hji6, ← hji7]; first | rfl | (simp [errW_none, errW_some] <;> rfl)) | (simp [*, errW_none, errW_some] <;> rfl), by repeat (first | (with_reducible first | exact HB.out | apply below_alloc | apply pw_below_drewN | apply below_drew1) | exact HB.out)⟩
      · rw [if_neg c5] at H
        exact absurd H (by simp)
    · rw [if_neg c4] at H
      exact absurd H (by simp)
end Go.Proofs.Ytbaldkcnipmdjaa.P
namespace Go.Proofs.Ytbaldkcnipmdjaa.P
open Go.RowKit Go.Proofs.YtbaldkcnipmdjaaW.PrintWords Go.Proofs.YtbaldkcnipmdjaaW.PrintLast Go.Proofs.YtbaldkcnipmdjaaW.PrintMore
attribute [local go_sem] max2_int min2_int max_two min_two max_three min_three max_four min_four
set_option linter.unusedVariables false
set_option linter.unusedSimpArgs false
def rule_nodes.l0 : Nat → List Int → Int → List (S31) → List Int → Int → Int → Option ((List (S31)))
  | 0, _, _, _, _, _, _ => none
  | k + 1, x1, x2, x7, x10, x11, x12 => if x12 < x11 then (if 0 ≤ x12 then (if x12 < (x10.length : Int) then (if (rd x10 x12) = x2 then ((rule_weight.f x1 x12).bind fun t114 => (if x7.length < 8796093022208 then (rule_nodes.l0 k x1 x2 (x7 ++ [(⟨x12, t114⟩ : S31)]) x10 x11 (wrap64 (x12 + 1))) else (none))) else (rule_nodes.l0 k x1 x2 x7 x10 x11 (wrap64 (x12 + 1)))) else (none)) else (none)) else (some x7)
def rule_nodes.f (k : Nat) (l0 : List Int) (l1 : List Int) (a2 : Int) : Option ((List (S31))) := rule_nodes.l0 k l1 a2 ([] : List (S31)) l0 (l0.length : Int) 0
set_option maxHeartbeats 8000000 in
set_option maxRecDepth 100000 in
theorem rule_nodes.calls (k : Nat) (A0 : Option Addr) (c0 : Nat) (l0 : List Int) (A1 : Option Addr) (c1 : Nat) (l1 : List Int) (a2 : Int) (r : List (S31)) (w : World) (hr0 : Kd.C (Kd.int .i64) w A0 l0.length l0) (hc0 : l0.length ≤ c0) (hr1 : Kd.C (Kd.int .i64) w A1 l1.length l1) (hc1 : l1.length ≤ c1) (h : rule_nodes.f k l0 l1 a2 = some r) :
    Calls Try.prog 26 #[.slice A0 l0.length c0, .slice A1 l1.length c1, .int .i64 a2] w fun e w' => ∃ v0_ : Value, e = .returned (v0_) ∧ Kd.R k31 31 w' w.heap.size (fun _ => True) v0_ r ∧ Below w.heap.size w w' := by
  have hu31 := Try.underlying31
  have HR0 := Aside0.mk hr0
  have HC0 := Aside0.mk hc0
  clear hr0 hc0
  have HR1 := Aside0.mk hr1
  have HC1 := Aside0.mk hc1
  clear hr1 hc1
  have HB := Aside0.mk (Below.refl w.heap.size w)
  have H : (rule_nodes.l0 k l1 a2 ([] : List (S31)) l0 (l0.length : Int) 0) = some r := h
  clear h
  have H' := Aside0.mk H
  clear H
  go_enter Try.func26, Try.ntmps26
  go_wp2
  go_loopg [7, 12] k (fun kq v7 v12 w' => ∃ (x7_1 : List (S31)) (x12_1 : Int), v12 = .int .i64 x12_1 ∧ Aside0 (rule_nodes.l0 kq l1 a2 x7_1 l0 (l0.length : Int) x12_1 = some r) ∧ Aside0 (kq ≤ k) ∧ Aside0 (Kd.R k31 31 w' w.heap.size (fun _ => True) v7 x7_1) ∧ Aside0 (Below w.heap.size w w'))
  case atStart => exact ⟨(([] : List (S31))), (0), (by first | rfl | (simp; done) | (simp [*]; done)), H', ⟨Nat.le_refl _⟩, ⟨by first | exact Kd.R_nil _ _ _ _ _ | exact Kd.N_nil _ _ _ _ _ | exact Kd.V_nil _ _ _ _ _ | exact Kd.Q_nil _ _ _ _ _ | exact Kd.S_nil _ _ _ _ _⟩, ⟨by repeat (first | (with_reducible first | exact HB.out | apply below_alloc | apply pw_below_drewN | apply below_drew1) | exact HB.out)⟩⟩
  case round =>
    clear H'
    try clear c1
    try clear c2
    try clear p2
    obtain ⟨x7_1, x12_1, rfl, HA, HK1, HO_7, HB⟩ := hrel
    cases gk with
    | zero => exact absurd HA.out (by simp [rule_nodes.l0])
    | succ k1 =>
      have H := HA.out
      clear HA
      simp only [rule_nodes.l0] at H
      by_cases c4 : x12_1 < (l0.length : Int)
      · rw [if_pos c4] at H
        have c4b0 : decide (x12_1 < (l0.length : Int)) = true := decide_eq_true c4
        clear c4
        by_cases c5 : 0 ≤ x12_1
        · rw [if_pos c5] at H
          have c5b0 : decide (0 ≤ x12_1) = true := decide_eq_true c5
          clear c5
          by_cases c6 : x12_1 < (l0.length : Int)
          · rw [if_pos c6] at H
            have c6b0 : decide (x12_1 < (l0.length : Int)) = true := decide_eq_true c6
            clear c6
            by_cases c7 : (rd l0 x12_1) = a2
            · rw [if_pos c7] at H
              have c7b0 : ((rd l0 x12_1) == a2) = true := beq_iff_eq.mpr c7
              have c7b1 : ((rd l0 x12_1) != a2) = false := bne_eq_false_iff_eq.mpr c7
              clear c7
              replace H := Option.bind_eq_some_iff.mp H
              obtain ⟨t114, A80, H⟩ := H
              replace H : (if x7_1.length < 8796093022208 then (rule_nodes.l0 k1 l1 a2 (x7_1 ++ [(⟨x12_1, t114⟩ : S31)]) l0 (l0.length : Int) (wrap64 (x12_1 + 1))) else (none)) = some r := H
              have A8 := Aside0.mk A80
              clear A80
              by_cases c9 : x7_1.length < 8796093022208
              · rw [if_pos c9] at H
                have LMc9 := Aside0.mk c9
                clear c9
                obtain ⟨y115, hy115⟩ : ∃ y_ : List (S31), y_ = (x7_1 ++ [(⟨x12_1, t114⟩ : S31)]) := ⟨_, rfl⟩
                replace H : (rule_nodes.l0 k1 l1 a2 y115 l0 (l0.length : Int) (wrap64 (x12_1 + 1))) = some r := by first | (rw [hy115]; with_reducible exact H) | (have H2_ := (Option.bind_some _ _).symm.trans H; rw [hy115]; with_reducible exact H2_) | (have H2_ := (Option.bind_some _ _).symm.trans H; with_reducible exact H2_) | with_reducible exact H | (rw [hy115]; exact H) | exact H
                have Ny115 := Aside0.mk hy115
                clear hy115
                have H' := Aside0.mk H
                clear H
                have p113 : 0 ≤ (x12_1 : Int) := of_decide_eq_true (by first | (with_reducible assumption) | assumption)
                have q113 : x12_1 < (l0.length : Int) := of_decide_eq_true (by first | (with_reducible assumption) | assumption)
                obtain ⟨ad113, e113, hx113_0⟩ := Kd.at_int HR0.out x12_1 p113 q113
                cases e113
                replace hx113_0 := (HB.out.cell (World.block_lt_of_cell? w _ hx113_0)).trans hx113_0
                replace p113 := eq_true p113
                replace q113 := eq_true q113
                go_wp2_with (first | ((with_reducible refine gate_callee (f := 36) rfl ?_); refine goesL_ (some 24) rfl rfl Try.func36 (by kernel_rfl) rfl #[.slice A1 l1.length c1, .int .i64 x12_1] rfl (by (try simp only [List.map_toArray, List.map_cons, List.map_nil]); first | done | rfl | (simp only [List.length_drop, List.length_take]; rfl)) ?_; (with_reducible refine (rule_weight.calls _ _ l1 x12_1 t114 _ ?side1 ?side2 A8.out).mono ?_); (case side1 => repeat (first | exact (Kd.C_below HR1.out HB.out) | (with_reducible refine Kd.C_alloc ?_ _) | (with_reducible refine Kd.C_drewN ?_ _) | (with_reducible refine Kd.C_drew ?_))); (case side2 => exact HC1.out); rintro e w10 ⟨rfl, hb⟩; refine ⟨_, rfl, ?_⟩; have n0_ := Aside0.mk (Kd.R_below (by (with_reducible repeat (first | apply Kd.R_alloc | apply Kd.R_drewN | apply Kd.R_drew)); exact HO_7.out) hb); have n1_ := Aside0.mk (below_step (by repeat (first | (with_reducible first | exact HB.out | apply below_alloc | apply pw_below_drewN | apply below_drew1) | exact HB.out)) hb); clear HO_7; clear HB; have HO_7 := n0_; have HB := n1_; clear n0_ n1_; (try clear hb); (try clear hb2); (try clear hk); (try clear hi)) | ((with_reducible refine gate_builtin (b := .append) (xs := #[.tmp 20, .tmp 26]) rfl ?_); at_builtin; refine Kd.R_append k31 (w0 := w) w.heap.size rfl (.tmp 20) (.tmp 26) 26 31 (.agg #[(.int .i64 0), (.int .i64 0)]) 16 rfl Try.underlying26 info31 rfl (by decide) (by omega) u7 x7_1 (⟨x12_1, t114⟩ : S31) [.int .i64 x12_1, .int .i64 t114] (fun _ => True) (fun _ => False) rfl rfl ?aP (fun _ hk => hk.elim) ?aF ?aO ?aB ?aS ?aL ?_; (case aP => exact k31_mkM _ _ _ (⟨x12_1, t114⟩ : S31)); (case aB => exact (by repeat (first | (with_reducible first | exact HB.out | apply below_alloc | apply pw_below_drewN | apply below_drew1) | exact HB.out))); (case aF => exact (fun _ _ => trivial)); (case aO => exact (by (with_reducible repeat (first | apply Kd.R_alloc | apply Kd.R_drewN | apply Kd.R_drew)); exact HO_7.out)); (case aS => exact (below_size (by repeat (first | (with_reducible first | exact HB.out | apply below_alloc | apply pw_below_drewN | apply below_drew1) | exact HB.out)))); (case aL => have := LMc9.out; omega); intro v116 w11 ho hb hg hat; rw [← Ny115.out] at ho; have n0_ := Aside0.mk (hb); have n1_ := Aside0.mk (ho); clear HB; clear HO_7; have HB := n0_; have HO117 := n1_; clear n0_ n1_; clear ho hb hg hat))
                go_roundg k1
                case measure => have := HK1.out; omega
                case rel => exact ⟨(y115), (wrap64 (x12_1 + 1)), (by first | rfl | (simp; done) | (simp [*]; done)), H', ⟨by have := HK1.out; omega⟩, ⟨by (with_reducible repeat (first | apply Kd.R_alloc | apply Kd.R_drewN | apply Kd.R_drew)); exact HO117.out⟩, ⟨by repeat (first | (with_reducible first | exact HB.out | apply below_alloc | apply pw_below_drewN | apply below_drew1) | exact HB.out)⟩⟩
              · rw [if_neg c9] at H
                exact absurd H (by simp)
            · rw [if_neg c7] at H
              have c7b0 : ((rd l0 x12_1) == a2) = false := beq_eq_false_iff_ne.mpr c7
              have c7b1 : ((rd l0 x12_1) != a2) = true := bne_iff_ne.mpr c7
              have H' := Aside0.mk H
              clear H
              have p113 : 0 ≤ (x12_1 : Int) := of_decide_eq_true (by first | (with_reducible assumption) | assumption)
              have q113 : x12_1 < (l0.length : Int) := of_decide_eq_true (by first | (with_reducible assumption) | assumption)
              obtain ⟨ad113, e113, hx113_0⟩ := Kd.at_int HR0.out x12_1 p113 q113
              cases e113
              replace hx113_0 := (HB.out.cell (World.block_lt_of_cell? w _ hx113_0)).trans hx113_0
              replace p113 := eq_true p113
              replace q113 := eq_true q113
              go_wp2
              go_roundg k1
              case measure => have := HK1.out; omega
              case rel => exact ⟨(x7_1), (wrap64 (x12_1 + 1)), (by first | rfl | (simp; done) | (simp [*]; done)), H', ⟨by have := HK1.out; omega⟩, ⟨by (with_reducible repeat (first | apply Kd.R_alloc | apply Kd.R_drewN | apply Kd.R_drew)); exact HO_7.out⟩, ⟨by repeat (first | (with_reducible first | exact HB.out | apply below_alloc | apply pw_below_drewN | apply below_drew1) | exact HB.out)⟩⟩
          · rw [if_neg c6] at H
            exact absurd H (by simp)
        · rw [if_neg c5] at H
          exact absurd H (by simp)
      · rw [if_neg c4] at H
        have c4b0 : decide (x12_1 < (l0.length : Int)) = false := decide_eq_false c4
        clear c4
        obtain rfl := Option.some.inj H
        go_wp2
        go_ret
        exact ⟨_, by first | rfl | (simp [errW_none, errW_some] <;> rfl) | (simp [*, errW_none, errW_some] <;> rfl), by (with_reducible repeat (first | apply Kd.R_alloc | apply Kd.R_drewN | apply Kd.R_drew)); exact HO_7.out, by repeat (first | (with_reducible first | exact HB.out | apply below_alloc | apply pw_below_drewN | apply below_drew1) | exact HB.out)⟩
end Go.Proofs.Ytbaldkcnipmdjaa.P
namespace Go.Proofs.Ytbaldkcnipmdjaa.P
open Go.RowKit Go.Proofs.YtbaldkcnipmdjaaW.PrintWords Go.Proofs.YtbaldkcnipmdjaaW.PrintLast Go.Proofs.YtbaldkcnipmdjaaW.PrintMore
attribute [local go_sem] max2_int min2_int max_two min_two max_three min_three max_four min_four
set_option linter.unusedVariables false
set_option linter.unusedSimpArgs false
mutual
def rule_Items.l0 : Nat → List Int → List Int → List (S31) → List Int → Int → Int → Option ((List (S31)))
  | 0, _, _, _, _, _, _ => none
  | k + 1, x0, x1, x5, x12, x13, x14 => if x14 < x13 then (if 0 ≤ x14 then (if x14 < (x12.length : Int) then ((rule_nodes.f k x0 x1 (rd x12 x14)).bind fun t122 => (rule_Items.l1 k x0 x1 x5 (rd x12 x14) 0 x12 x13 x14 t122 (t122.length : Int) 0)) else (none)) else (none)) else (some x5)
def rule_Items.l1 : Nat → List Int → List Int → List (S31) → Int → Int → List Int → Int → Int → List (S31) → Int → Int → Option ((List (S31)))
  | 0, _, _, _, _, _, _, _, _, _, _, _ => none
  | k + 1, x0, x1, x5, x7, x8, x12, x13, x14, x21, x22, x23 => if x23 < x22 then (if 0 ≤ x23 then (if x23 < (x21.length : Int) then (rule_Items.l1 k x0 x1 x5 x7 (mn (wrap64 (x8 + ((rd_T31 x21 x23).f1))) 1048576) x12 x13 x14 x21 x22 (wrap64 (x23 + 1))) else (none)) else (none)) else (if x5.length < 8796093022208 then (rule_Items.l0 k x0 x1 (x5 ++ [(⟨x7, x8⟩ : S31)]) x12 x13 (wrap64 (x14 + 1))) else (none))
end
def rule_Items.f (k : Nat) (l0 : List Int) (l1 : List Int) : Option ((List (S31))) := (rule_Hosts.f l0).bind fun t118 => (rule_Items.l0 k l0 l1 ([] : List (S31)) t118 (t118.length : Int) 0)
set_option maxHeartbeats 8000000 in
set_option maxRecDepth 100000 in
theorem rule_Items.calls (k : Nat) (A0 : Option Addr) (c0 : Nat) (l0 : List Int) (A1 : Option Addr) (c1 : Nat) (l1 : List Int) (r : List (S31)) (w : World) (hr0 : Kd.C (Kd.int .i64) w A0 l0.length l0) (hc0 : l0.length ≤ c0) (hr1 : Kd.C (Kd.int .i64) w A1 l1.length l1) (hc1 : l1.length ≤ c1) (h : rule_Items.f k l0 l1 = some r) :
    Calls Try.prog 10 #[.slice A0 l0.length c0, .slice A1 l1.length c1] w fun e w' => ∃ v0_ : Value, e = .returned (v0_) ∧ Kd.R k31 31 w' w.heap.size (fun _ => True) v0_ r ∧ Below w.heap.size w w' := by
  have hu31 := Try.underlying31
  have HR0 := Aside0.mk hr0
  have HC0 := Aside0.mk hc0
  clear hr0 hc0
  have HR1 := Aside0.mk hr1
  have HC1 := Aside0.mk hc1
  clear hr1 hc1
  have HB := Aside0.mk (Below.refl w.heap.size w)
  have H : ((rule_Hosts.f l0).bind fun t118 => (rule_Items.l0 k l0 l1 ([] : List (S31)) t118 (t118.length : Int) 0)) = some r := h
  clear h
  replace H := Option.bind_eq_some_iff.mp H
  obtain ⟨t118, A30, H⟩ := H
  replace H : (rule_Items.l0 k l0 l1 ([] : List (S31)) t118 (t118.length : Int) 0) = some r := H
  have A3 := Aside0.mk A30
  clear A30
  have H' := Aside0.mk H
  clear H
  go_enter Try.func10, Try.ntmps10
  go_wp2_with (first | ((with_reducible refine gate_callee (f := 13) rfl ?_); refine goesL_ (some 12) rfl rfl Try.func13 (by kernel_rfl) rfl #[.slice A0 l0.length c0] rfl (by (try simp only [List.map_toArray, List.map_cons, List.map_nil]); first | done | rfl | (simp only [List.length_drop, List.length_take]; rfl)) ?_; (with_reducible refine (rule_Hosts.calls _ _ l0 t118 _ ?side1 ?side2 A3.out).mono ?_); (case side1 => repeat (first | exact HR0.out | (with_reducible refine Kd.C_alloc ?_ _) | (with_reducible refine Kd.C_drewN ?_ _) | (with_reducible refine Kd.C_drew ?_))); (case side2 => exact HC0.out); rintro e w4 ⟨v119, rfl, ho0, hb⟩; refine ⟨_, rfl, ?_⟩; have n0_ := Aside0.mk (Kd.R_lower ho0 (below_size (by repeat (first | (with_reducible first | exact HB.out | apply below_alloc | apply pw_below_drewN | apply below_drew1) | exact HB.out)))); have n1_ := Aside0.mk (below_step (by repeat (first | (with_reducible first | exact HB.out | apply below_alloc | apply pw_below_drewN | apply below_drew1) | exact HB.out)) hb); clear HB; have HO120 := n0_; have HB := n1_; clear n0_ n1_; (try clear hb); (try clear hb2); (try clear hk); (try clear hi); (try clear ho0); obtain ⟨Ao5, co5, eo5⟩ := Kd.R_slice HO120.out; subst eo5))
  go_loopg [5, 14] k (fun kq v5 v14 w' => ∃ (x5_1 : List (S31)) (x14_1 : Int), v14 = .int .i64 x14_1 ∧ Aside0 (rule_Items.l0 kq l0 l1 x5_1 t118 (t118.length : Int) x14_1 = some r) ∧ Aside0 (kq ≤ k) ∧ Aside0 (Kd.R k31 31 w' w.heap.size (fun _ => True) v5 x5_1) ∧ Aside0 (Kd.R (Kd.int .i64) 3 w' w.heap.size (fun _ => True) (.slice Ao5 t118.length co5) t118) ∧ Aside0 (Below w.heap.size w w'))
  case atStart => exact ⟨(([] : List (S31))), (0), (by first | rfl | (simp; done) | (simp [*]; done)), H', ⟨Nat.le_refl _⟩, ⟨by first | exact Kd.R_nil _ _ _ _ _ | exact Kd.N_nil _ _ _ _ _ | exact Kd.V_nil _ _ _ _ _ | exact Kd.Q_nil _ _ _ _ _ | exact Kd.S_nil _ _ _ _ _⟩, ⟨by (with_reducible repeat (first | apply Kd.R_alloc | apply Kd.R_drewN | apply Kd.R_drew)); exact HO120.out⟩, ⟨by repeat (first | (with_reducible first | exact HB.out | apply below_alloc | apply pw_below_drewN | apply below_drew1) | exact HB.out)⟩⟩
  case round =>
    clear H'
    try clear c1
    try clear p2
    obtain ⟨x5_1, x14_1, rfl, HA, HK1, HO_5, HO_12, HB⟩ := hrel
    cases gk with
    | zero => exact absurd HA.out (by simp [rule_Items.l0])
    | succ k1 =>
      have H := HA.out
      clear HA
      simp only [rule_Items.l0] at H
      by_cases c6 : x14_1 < (t118.length : Int)
      · rw [if_pos c6] at H
        have c6b0 : decide (x14_1 < (t118.length : Int)) = true := decide_eq_true c6
        clear c6
        by_cases c7 : 0 ≤ x14_1
        · rw [if_pos c7] at H
          have c7b0 : decide (0 ≤ x14_1) = true := decide_eq_true c7
          clear c7
          by_cases c8 : x14_1 < (t118.length : Int)
          · rw [if_pos c8] at H
            have c8b0 : decide (x14_1 < (t118.length : Int)) = true := decide_eq_true c8
            clear c8
            replace H := Option.bind_eq_some_iff.mp H
            obtain ⟨t122, A90, H⟩ := H
            replace H : (rule_Items.l1 k1 l0 l1 x5_1 (rd t118 x14_1) 0 t118 (t118.length : Int) x14_1 t122 (t122.length : Int) 0) = some r := H
            have A9 := Aside0.mk A90
            clear A90
            have H' := Aside0.mk H
            clear H
            have p121 : 0 ≤ (x14_1 : Int) := of_decide_eq_true (by first | (with_reducible assumption) | assumption)
            have q121 : x14_1 < (t118.length : Int) := of_decide_eq_true (by first | (with_reducible assumption) | assumption)
            obtain ⟨ad121, e121, hx121_0⟩ := Kd.at_int (Kd.R_reads' HO_12.out).2.2 x14_1 p121 q121
            cases e121
            replace p121 := eq_true p121
            replace q121 := eq_true q121
            go_wp2_with (first | ((with_reducible refine gate_callee (f := 26) rfl ?_); refine goesL_ (some 21) rfl rfl Try.func26 (by kernel_rfl) rfl #[.slice A0 l0.length c0, .slice A1 l1.length c1, .int .i64 (rd t118 x14_1)] rfl (by (try simp only [List.map_toArray, List.map_cons, List.map_nil]); first | done | rfl | (simp only [List.length_drop, List.length_take]; rfl)) ?_; (with_reducible refine (rule_nodes.calls k1 _ _ l0 _ _ l1 (rd t118 x14_1) t122 _ ?side1 ?side2 ?side3 ?side4 A9.out).mono ?_); (case side1 => repeat (first | exact (Kd.C_below HR0.out HB.out) | (with_reducible refine Kd.C_alloc ?_ _) | (with_reducible refine Kd.C_drewN ?_ _) | (with_reducible refine Kd.C_drew ?_))); (case side2 => exact HC0.out); (case side3 => repeat (first | exact (Kd.C_below HR1.out HB.out) | (with_reducible refine Kd.C_alloc ?_ _) | (with_reducible refine Kd.C_drewN ?_ _) | (with_reducible refine Kd.C_drew ?_))); (case side4 => exact HC1.out); rintro e w10 ⟨v123, rfl, ho0, hb⟩; refine ⟨_, rfl, ?_⟩; have n0_ := Aside0.mk (Kd.R_elder' (by (with_reducible repeat (first | apply Kd.R_alloc | apply Kd.R_drewN | apply Kd.R_drew)); exact HO_5.out) (Kd.R_base ho0) hb); have n1_ := Aside0.mk (Kd.R_below (by (with_reducible repeat (first | apply Kd.R_alloc | apply Kd.R_drewN | apply Kd.R_drew)); exact HO_12.out) hb); have n2_ := Aside0.mk (Kd.R_lower (Kd.R_new' ho0 (Kd.R_lt (by (with_reducible repeat (first | apply Kd.R_alloc | apply Kd.R_drewN | apply Kd.R_drew)); exact HO_5.out))) (below_size (by repeat (first | (with_reducible first | exact HB.out | apply below_alloc | apply pw_below_drewN | apply below_drew1) | exact HB.out)))); have n3_ := Aside0.mk (below_step (by repeat (first | (with_reducible first | exact HB.out | apply below_alloc | apply pw_below_drewN | apply below_drew1) | exact HB.out)) hb); clear HO_5; clear HO_12; clear HB; have HO_5 := n0_; have HO_12 := n1_; have HO124 := n2_; have HB := n3_; clear n0_ n1_ n2_ n3_; (try clear hb); (try clear hb2); (try clear hk); (try clear hi); (try clear ho0); obtain ⟨Ao11, co11, eo11⟩ := Kd.R_slice HO124.out; subst eo11))
            go_loopg [8, 23] k1 (fun kq v8 v23 w' => ∃ (x8_2 : Int) (x23_2 : Int), v8 = .int .i64 x8_2 ∧ v23 = .int .i64 x23_2 ∧ Aside0 (rule_Items.l1 kq l0 l1 x5_1 (rd t118 x14_1) x8_2 t118 (t118.length : Int) x14_1 t122 (t122.length : Int) x23_2 = some r) ∧ Aside0 (kq ≤ k1) ∧ Aside0 (Kd.R k31 31 w' w.heap.size (fun k_ => some k_ ≠ ((.slice Ao11 t122.length co11) : Value).ownBlock) u5 x5_1) ∧ Aside0 (Kd.R (Kd.int .i64) 3 w' w.heap.size (fun _ => True) (.slice (some ad121) t118.length co5) t118) ∧ Aside0 (Kd.R k31 31 w' w.heap.size (fun k_ => some k_ ≠ (u5 : Value).ownBlock) (.slice Ao11 t122.length co11) t122) ∧ Aside0 (Below w.heap.size w w'))
            case atStart => exact ⟨(0), (0), (by first | rfl | (simp; done) | (simp [*]; done)), (by first | rfl | (simp; done) | (simp [*]; done)), H', ⟨Nat.le_refl _⟩, ⟨by (with_reducible repeat (first | apply Kd.R_alloc | apply Kd.R_drewN | apply Kd.R_drew)); exact Kd.R_mono HO_5.out (fun _ hk => hk.2)⟩, ⟨by (with_reducible repeat (first | apply Kd.R_alloc | apply Kd.R_drewN | apply Kd.R_drew)); exact HO_12.out⟩, ⟨by (with_reducible repeat (first | apply Kd.R_alloc | apply Kd.R_drewN | apply Kd.R_drew)); exact Kd.R_mono HO124.out (fun _ hk => hk.2)⟩, ⟨by repeat (first | (with_reducible first | exact HB.out | apply below_alloc | apply pw_below_drewN | apply below_drew1) | exact HB.out)⟩⟩
            case round =>
              clear H'
              try clear c1
              try clear p1
              try clear q1
              try clear hx1
              try clear c2
              try clear p2
              try clear c6
              try clear c6b0
              try clear c7
              try clear c7b0
              try clear c8
              try clear c8b0
              try clear c10
              try clear hx121_0
              try clear p121
              try clear p2
              try clear q121
              obtain ⟨x8_2, x23_2, rfl, rfl, HA, HK2, HO_5, HO_12, HO_21, HB⟩ := hrel
              cases gk with
              | zero => exact absurd HA.out (by simp [rule_Items.l1])
              | succ k2 =>
                have H := HA.out
                clear HA
                simp only [rule_Items.l1] at H
                by_cases c12 : x23_2 < (t122.length : Int)
                · rw [if_pos c12] at H
                  have c12b0 : decide (x23_2 < (t122.length : Int)) = true := decide_eq_true c12
                  clear c12
                  by_cases c13 : 0 ≤ x23_2
                  · rw [if_pos c13] at H
                    have c13b0 : decide (0 ≤ x23_2) = true := decide_eq_true c13
                    clear c13
                    by_cases c14 : x23_2 < (t122.length : Int)
                    · rw [if_pos c14] at H
                      have c14b0 : decide (x23_2 < (t122.length : Int)) = true := decide_eq_true c14
                      clear c14
                      obtain ⟨ji15, hji15⟩ : ∃ j_ : Int, (mn (wrap64 (x8_2 + ((rd_T31 t122 x23_2).f1))) 1048576) = j_ := ⟨_, rfl⟩
                      replace H : (rule_Items.l1 k2 l0 l1 x5_1 (rd t118 x14_1) ji15 t118 (t118.length : Int) x14_1 t122 (t122.length : Int) (wrap64 (x23_2 + 1))) = some r := by first | (rw [hji15] at H; exact H) | (simp only [hji15] at H ⊢; exact H)
                      have hji15_ : (if 1048576 < (wrap64 (x8_2 + ((rd_T31 t122 x23_2).f1))) then 1048576 else (wrap64 (x8_2 + ((rd_T31 t122 x23_2).f1)))) = ji15 := hji15
                      have H' := Aside0.mk H
                      clear H
                      have p125 : 0 ≤ (x23_2 : Int) := of_decide_eq_true (by first | (with_reducible assumption) | assumption)
                      have q125 : x23_2 < (t122.length : Int) := of_decide_eq_true (by first | (with_reducible assumption) | assumption)
                      obtain ⟨ad125, e125, hx125_0, hx125_1⟩ := at_T31 (Kd.R_reads' HO_21.out).2.2 x23_2 p125 q125
                      cases e125
                      replace p125 := eq_true p125
                      replace q125 := eq_true q125
                      go_wp2_with (first | ((with_reducible refine gate_dst (N := 10) rfl ?_); refine box_event ?hg (N := 10) ?hd (cs := #[.int .i64 0, .int .i64 0]) (t := 31) ?hr ?_; (case hd => rfl); (case hg => rfl); (case hr => first | (go_simp; done) | (go_simp; rfl)); intro gb126 hg w16 hbox hb; have n0_ := Aside0.mk (Kd.R_below (Kd.R_elderB (by (with_reducible repeat (first | apply Kd.R_alloc | apply Kd.R_drewN | apply Kd.R_drew)); exact HO_5.out) gb126 (Nat.le_of_eq hg.symm)) hb); have n1_ := Aside0.mk (Kd.R_below (by (with_reducible repeat (first | apply Kd.R_alloc | apply Kd.R_drewN | apply Kd.R_drew)); exact HO_12.out) hb); have n2_ := Aside0.mk (Kd.R_below (Kd.R_elderB (by (with_reducible repeat (first | apply Kd.R_alloc | apply Kd.R_drewN | apply Kd.R_drew)); exact HO_21.out) gb126 (Nat.le_of_eq hg.symm)) hb); have n3_ := Aside0.mk (below_step (by repeat (first | (with_reducible first | exact HB.out | apply below_alloc | apply pw_below_drewN | apply below_drew1) | exact HB.out)) hb); have n4_ := Aside0.mk (hbox); have n5_ := Aside0.mk ((by rw [hg]; exact (below_size (by repeat (first | (with_reducible first | exact HB.out | apply below_alloc | apply pw_below_drewN | apply below_drew1) | exact HB.out))) : w.heap.size ≤ gb126)); have n6_ := Aside0.mk ((by rw [hg]; exact (below_size (by repeat (first | (with_reducible first | exact HB.out | apply below_alloc | apply pw_below_drewN | apply below_drew1) | exact HB.out))) : w.heap.size ≤ gb126)); clear HO_5; clear HO_12; clear HO_21; clear HB; have HO_5 := n0_; have HO_12 := n1_; have HO_21 := n2_; have HB := n3_; have BK126 := n4_; have GW126 := n5_; have GE126 := n6_; clear n0_ n1_ n2_ n3_ n4_ n5_ n6_; clear hb hbox hg; have hcz17_0 : w16.cell? ⟨gb126, 0, none⟩ = some (.int .i64 0) := (blk_cell BK126.out 0).trans rfl; have hcz17_1 : w16.cell? ⟨gb126, 1, none⟩ = some (.int .i64 0) := (blk_cell BK126.out 1).trans rfl; have hfz17_0 := blk_frozen BK126.out 0; have hfz17_1 := blk_frozen BK126.out 1))
                      go_roundg k2
                      case measure => have := HK1.out; have := HK2.out; omega
                      case rel => exact ⟨(ji15), (wrap64 (x23_2 + 1)), (by first | rfl | (simp; done) | (simp only [← hji15] <;> (first | rfl | simp)) | (simp [*]; done)), (by first | rfl | (simp; done) | (simp [*]; done)), H', ⟨by have := HK1.out; have := HK2.out; omega⟩, ⟨by (with_reducible repeat (first | apply Kd.R_alloc | apply Kd.R_drewN | apply Kd.R_drew)); exact Kd.R_mono (Kd.R_far (p := ⟨gb126, 1, none⟩) (Kd.R_far (p := ⟨gb126, 0, none⟩) (Kd.R_mono HO_5.out (fun k_ hk => (⟨hk, hk.2⟩ : _ ∧ k_ ≠ gb126))) (fun _ hk => hk.2) (.int .i64 ((rd_T31 t122 x23_2).f0))) (fun _ hk => hk.2) (.int .i64 ((rd_T31 t122 x23_2).f1))) (fun _ hk => hk.1.1)⟩, ⟨by (with_reducible repeat (first | apply Kd.R_alloc | apply Kd.R_drewN | apply Kd.R_drew)); exact Kd.R_mono (Kd.R_far (p := ⟨gb126, 1, none⟩) (Kd.R_far (p := ⟨gb126, 0, none⟩) (Kd.R_types HO_12.out BK126.out (by decide)) (fun _ hk => hk.2) (.int .i64 ((rd_T31 t122 x23_2).f0))) (fun _ hk => hk.2) (.int .i64 ((rd_T31 t122 x23_2).f1))) (fun _ hk => trivial)⟩, ⟨by (with_reducible repeat (first | apply Kd.R_alloc | apply Kd.R_drewN | apply Kd.R_drew)); exact Kd.R_mono (Kd.R_far (p := ⟨gb126, 1, none⟩) (Kd.R_far (p := ⟨gb126, 0, none⟩) (Kd.R_mono HO_21.out (fun k_ hk => (⟨hk, hk.2⟩ : _ ∧ k_ ≠ gb126))) (fun _ hk => hk.2) (.int .i64 ((rd_T31 t122 x23_2).f0))) (fun _ hk => hk.2) (.int .i64 ((rd_T31 t122 x23_2).f1))) (fun _ hk => hk.1.1)⟩, ⟨by repeat (first | (with_reducible first | exact HB.out | apply below_alloc | apply pw_below_drewN | apply below_drew1 | refine below_set ?_ GE126.out) | exact HB.out)⟩⟩
                    · rw [if_neg c14] at H
                      exact absurd H (by simp)
                  · rw [if_neg c13] at H
                    exact absurd H (by simp)
                · rw [if_neg c12] at H
                  have c12b0 : decide (x23_2 < (t122.length : Int)) = false := decide_eq_false c12
                  clear c12
                  by_cases c18 : x5_1.length < 8796093022208
                  · rw [if_pos c18] at H
                    have LMc18 := Aside0.mk c18
                    clear c18
                    obtain ⟨y127, hy127⟩ : ∃ y_ : List (S31), y_ = (x5_1 ++ [(⟨(rd t118 x14_1), x8_2⟩ : S31)]) := ⟨_, rfl⟩
                    replace H : (rule_Items.l0 k2 l0 l1 y127 t118 (t118.length : Int) (wrap64 (x14_1 + 1))) = some r := by first | (rw [hy127]; with_reducible exact H) | (have H2_ := (Option.bind_some _ _).symm.trans H; rw [hy127]; with_reducible exact H2_) | (have H2_ := (Option.bind_some _ _).symm.trans H; with_reducible exact H2_) | with_reducible exact H | (rw [hy127]; exact H) | exact H
                    have Ny127 := Aside0.mk hy127
                    clear hy127
                    have H' := Aside0.mk H
                    clear H
                    go_wp2_with (first | ((with_reducible refine gate_builtin (b := .append) (xs := #[.tmp 33, .tmp 37]) rfl ?_); at_builtin; refine Kd.R_append k31 (w0 := w) w.heap.size rfl (.tmp 33) (.tmp 37) 26 31 (.agg #[(.int .i64 0), (.int .i64 0)]) 16 rfl Try.underlying26 info31 rfl (by decide) (by omega) u5 x5_1 (⟨(rd t118 x14_1), x8_2⟩ : S31) [.int .i64 (rd t118 x14_1), .int .i64 x8_2] (fun k_ => some k_ ≠ (.slice Ao11 t122.length co11 : Value).ownBlock) (fun _ => False) rfl rfl ?aP (fun _ hk => hk.elim) ?aF ?aO ?aB ?aS ?aL ?_; (case aP => exact k31_mkM _ _ _ (⟨(rd t118 x14_1), x8_2⟩ : S31)); (case aB => exact (by repeat (first | (with_reducible first | exact HB.out | apply below_alloc | apply pw_below_drewN | apply below_drew1) | exact HB.out))); (case aF => exact (fun k_ hk => Kd.fresh' (Kd.R_lt (by (with_reducible repeat (first | apply Kd.R_alloc | apply Kd.R_drewN | apply Kd.R_drew)); exact HO_21.out)) k_ hk)); (case aO => exact (by (with_reducible repeat (first | apply Kd.R_alloc | apply Kd.R_drewN | apply Kd.R_drew)); exact HO_5.out)); (case aS => exact (below_size (by repeat (first | (with_reducible first | exact HB.out | apply below_alloc | apply pw_below_drewN | apply below_drew1) | exact HB.out)))); (case aL => have := LMc18.out; omega); intro v128 w19 ho hb hg hat; rw [← Ny127.out] at ho; have n0_ := Aside0.mk (Kd.R_over' (by (with_reducible repeat (first | apply Kd.R_alloc | apply Kd.R_drewN | apply Kd.R_drew)); exact HO_12.out) (Kd.R_typed (by (with_reducible repeat (first | apply Kd.R_alloc | apply Kd.R_drewN | apply Kd.R_drew)); exact HO_5.out)) (by decide) hg); have n1_ := Aside0.mk (Kd.R_after (ok := (fun _ => True)) (by (with_reducible repeat (first | apply Kd.R_alloc | apply Kd.R_drewN | apply Kd.R_drew)); exact Kd.R_mono HO_21.out (fun _ hk => ⟨trivial, hk⟩)) hg hat); have n2_ := Aside0.mk (hb); have n3_ := Aside0.mk (ho); clear HO_12; clear HO_21; clear HB; clear HO_5; have HO_12 := n0_; have HO_21 := n1_; have HB := n2_; have HO129 := n3_; clear n0_ n1_ n2_ n3_; clear ho hb hg hat))
                    go_roundg k2
                    case measure => have := HK1.out; have := HK2.out; omega
                    case rel => exact ⟨(y127), (wrap64 (x14_1 + 1)), (by first | rfl | (simp; done) | (simp [*]; done)), H', ⟨by have := HK1.out; have := HK2.out; omega⟩, ⟨by (with_reducible repeat (first | apply Kd.R_alloc | apply Kd.R_drewN | apply Kd.R_drew)); exact Kd.R_mono HO129.out (fun _ hk => trivial)⟩, ⟨by (with_reducible repeat (first | apply Kd.R_alloc | apply Kd.R_drewN | apply Kd.R_drew)); exact HO_12.out⟩, ⟨by repeat (first | (with_reducible first | exact HB.out | apply below_alloc | apply pw_below_drewN | apply below_drew1) | exact HB.out)⟩⟩
                  · rw [if_neg c18] at H
                    exact absurd H (by simp)
          · rw [if_neg c8] at H
            exact absurd H (by simp)
        · rw [if_neg c7] at H
          exact absurd H (by simp)
      · rw [if_neg c6] at H
        have c6b0 : decide (x14_1 < (t118.length : Int)) = false := decide_eq_false c6
        clear c6
        obtain rfl := Option.some.inj H
        go_wp2
        go_ret
        exact ⟨_, by first | rfl | (simp [errW_none, errW_some] <;> rfl) | (simp [*, errW_none, errW_some] <;> rfl), by (with_reducible repeat (first | apply Kd.R_alloc | apply Kd.R_drewN | apply Kd.R_drew)); exact HO_5.out, by repeat (first | (with_reducible first | exact HB.out | apply below_alloc | apply pw_below_drewN | apply below_drew1) | exact HB.out)⟩
end Go.Proofs.Ytbaldkcnipmdjaa.P
namespace Go.Proofs.Ytbaldkcnipmdjaa.P
open Go.RowKit Go.Proofs.YtbaldkcnipmdjaaW.PrintWords Go.Proofs.YtbaldkcnipmdjaaW.PrintLast Go.Proofs.YtbaldkcnipmdjaaW.PrintMore Go.Proofs.YtbaldkcnipmdjaaW.HB
set_option linter.unusedVariables false
set_option linter.unusedSimpArgs false
attribute [local go_sem] Oper.semAt_some
theorem strawsL_place (l : List S31) (x r : Int) : ∀ n, ∀ s ∈ strawsL l x r n, 0 ≤ s.place ∧ s.place < n
  | 0, s, h => by simp [strawsL] at h
  | n + 1, s, h => by
    unfold strawsL at h
    split at h
    · rcases List.mem_append.1 h with h | h
      · have := strawsL_place l x r n s h; omega
      · simp at h; subst h; show (0 : Int) ≤ (n : Int) ∧ (n : Int) < ((n + 1 : Nat) : Int); omega
    · have := strawsL_place l x r n s h; omega
theorem choose_lt (l : List S31) (x r : Int) (h : (chooseS l x r).2 = true) : 0 ≤ (chooseS l x r).1 ∧ (chooseS l x r).1 < l.length := by
  unfold chooseS at *
  cases hb : bestL (strawsL l x r l.length) with
  | none => rw [hb] at h; cases h
  | some s => exact strawsL_place l x r _ s (bestL_mem _ _ hb)
theorem best_some : ∀ (l : List Straw) (b : Straw), (l.foldl stepB (some b)).isSome = true
  | [], b => rfl
  | s :: l, b => by
    rw [List.foldl_cons]
    simp only [stepB]
    split
    · exact best_some l s
    · exact best_some l b
theorem best_isSome (l : List Straw) : (bestL l).isSome = !l.isEmpty := by
  cases l with
  | nil => rfl
  | cons s l => exact best_some l s
theorem straws_empty (l : List S31) (x r x' r' : Int) : ∀ n, (strawsL l x r n).isEmpty = (strawsL l x' r' n).isEmpty
  | 0 => rfl
  | n + 1 => by
    by_cases h : 1 ≤ wtI (rd_T31 l n)
    · simp only [strawsL, if_pos h]
      have e : ∀ (a : List Straw) (b : Straw), (a ++ [b]).isEmpty = false := fun a b => by cases a <;> rfl
      rw [e, e]
    · simp only [strawsL, if_neg h]
      exact straws_empty l x r x' r' n
theorem choose_any (l : List S31) (x r x' r' : Int) : (chooseS l x r).2 = (chooseS l x' r').2 := by
  unfold chooseS
  rw [best_isSome, best_isSome, straws_empty l x r x' r']
def tryN (its : List S31) (nd : Int → List S31) (x : Int) (r : Int) : Option Int :=
  if (chooseS (nd (rd_T31 its (chooseS its x r).1).f0) x (r + 64)).2 = true then some (rd_T31 (nd (rd_T31 its (chooseS its x r).1).f0) (chooseS (nd (rd_T31 its (chooseS its x r).1).f0) x (r + 64)).1).f0 else none
def trL (its : List S31) (nd : Int → List S31) (x : Int) : Nat → List Int
  | 0 => []
  | n + 1 => match tryN its nd x n with
    | some v => trL its nd x n ++ [v]
    | none => trL its nd x n
def triesL (its : List S31) (nd : Int → List S31) (x : Int) : List Int := if (chooseS its x 0).2 = true then trL its nd x 64 else []
theorem trL_len (its : List S31) (nd : Int → List S31) (x : Int) : ∀ n, (trL its nd x n).length ≤ n
  | 0 => by simp [trL]
  | n + 1 => by
    have := trL_len its nd x n
    unfold trL
    split
    · rw [List.length_append]; simp; omega
    · omega
theorem trL_take (its : List S31) (nd : Int → List S31) (x : Int) : ∀ n m, n ≤ m → ∃ q, trL its nd x n = (trL its nd x m).take q := by
  intro n m h
  obtain ⟨d, rfl⟩ := Nat.le.dest h
  clear h
  induction d with
  | zero => exact ⟨(trL its nd x n).length, by simp⟩
  | succ d ih =>
    obtain ⟨q, hq⟩ := ih
    show ∃ q, trL its nd x n = (match tryN its nd x (n + d : Nat) with | some v => trL its nd x (n + d) ++ [v] | none => trL its nd x (n + d)).take q
    have hle : (trL its nd x n).length ≤ (trL its nd x (n + d)).length := by rw [hq]; simp; omega
    cases tryN its nd x (n + d : Nat) with
    | none => exact ⟨q, hq⟩
    | some v => exact ⟨(trL its nd x n).length, by
        show _ = (trL its nd x (n + d) ++ [v]).take _
        rw [List.take_append_of_le_length hle]
        conv => lhs; rw [hq]
        rw [hq, List.length_take, List.take_eq_take_iff]
        simp⟩
abbrev TrE (its : List S31) (nd : Int → List S31) (x : Int) := { v : Int // v ∈ triesL its nd x }
def trA (its : List S31) (nd : Int → List S31) (x : Int) : List (TrE its nd x) := (triesL its nd x).attach
theorem trA_len (its : List S31) (nd : Int → List S31) (x : Int) : (trA its nd x).length = (triesL its nd x).length := by simp [trA]
theorem trL_at (its : List S31) (nd : Int → List S31) (x : Int) (i : Nat) (v : Int) (hi : i < 64) (ha : (chooseS its x 0).2 = true) (hv : trL its nd x (i + 1) = trL its nd x i ++ [v]) :
    ∃ h : (trL its nd x i).length < (trA its nd x).length, ((trA its nd x)[(trL its nd x i).length]).1 = v := by
  obtain ⟨q, hq⟩ := trL_take its nd x (i + 1) 64 (by omega)
  have ht : triesL its nd x = trL its nd x 64 := by unfold triesL; rw [if_pos ha]
  have h1 : (trL its nd x (i + 1)).length = (trL its nd x i).length + 1 := by rw [hv]; simp
  have h2 : (trL its nd x (i + 1)).length ≤ (trL its nd x 64).length := by rw [hq]; simp; omega
  have hlt : (trL its nd x i).length < (triesL its nd x).length := by rw [ht]; omega
  refine ⟨by rw [trA_len]; exact hlt, ?_⟩
  have h3 : (trL its nd x (i + 1))[(trL its nd x i).length]? = some v := by rw [hv]; simp
  rw [hq, List.getElem?_take_of_lt (by
    have : (trL its nd x (i + 1)).length ≤ q := by rw [hq, List.length_take]; omega
    omega), ← ht, List.getElem?_eq_getElem hlt] at h3
  have h4 := Option.some.inj h3
  simpa [trA] using h4
theorem C_keepN {α : Type} {d : Kd α} {N0 : Nat} {X Ts : Nat → Prop} {W W' : World} {A : Option Addr} {n : Nat} {xs : List α} (hK : ∀ W W' x cs, d.K W x cs → d.K W' x cs) (h : Kd.C d W A n xs) (hk : KeepX N0 X Ts W W') (hA : ∀ ad, A = some ad → 0 < n → ∃ cs T fr, W.heap[ad.block]? = some (.cells cs T fr) ∧ ((ad.block < N0 ∧ ¬ X ad.block) ∨ (N0 ≤ ad.block ∧ Ts T))) : Kd.C d W' A n xs := by
  refine ⟨h.1, h.2.1, fun hn => ?_⟩
  obtain ⟨ad, e, hc⟩ := h.2.2 hn
  obtain ⟨cs, T, fr, hb, hx⟩ := hA ad e hn
  have hb' := hk.2 _ _ _ _ hb hx
  refine ⟨ad, e, fun j p hj => ?_⟩
  obtain ⟨c, h1, h2, h3⟩ := hc j p hj
  refine ⟨c, h1, hK _ _ _ _ h2, fun i u hu => ?_⟩
  have := h3 i u hu
  have hbl : ∀ m, (ad.add m).block = ad.block := fun m => by unfold Addr.add; split <;> rfl
  unfold World.cell? at *
  rw [hbl] at *
  rw [hb] at this
  rw [hb']
  exact this
theorem meetV {F : Fence} {n : Nat} {P : Program} {c : Code} {Q : Exit → Act → World → Prop} {a : Act} {w : World}
    (h : ∃ (A : Value → Act) (R : Value → World → Prop), c.wpIn F n P (fun e a w => match e with | .normal => ∃ v, a = A v ∧ R v w | _ => False) a w ∧ ∀ v w', R v w' → Q .normal (A v) w') : c.wpIn F n P Q a w := by
  obtain ⟨A, R, h1, h2⟩ := h
  refine wpIn_mono h1 ?_
  rintro e b w' hb
  cases e with
  | normal => obtain ⟨v, rfl, hr⟩ := hb; exact h2 _ _ hr
  | _ => exact hb.elim
structure TrS (hs ws : List Int) (x : Int) (its : List S31) (Ah Aw Ai : Option Addr) (ch cw bh bw bx N0 : Nat) (w : World) : Prop where
  hC : Kd.C (Kd.int .i64) w Ah hs.length hs
  wC : Kd.C (Kd.int .i64) w Aw ws.length ws
  iC : Kd.C k31 w Ai its.length its
  iB : ∀ ad, Ai = some ad → 0 < its.length → N0 ≤ ad.block ∧ ∃ cs fr, w.heap[ad.block]? = some (.cells cs 31 fr)
  b1 : w.cell? ⟨bh, 0, none⟩ = some (.slice Ah hs.length ch)
  b2 : w.cell? ⟨bw, 0, none⟩ = some (.slice Aw ws.length cw)
  b3 : w.cell? ⟨bx, 0, none⟩ = some (.int .u32 x)
theorem TrS.below {hs ws : List Int} {x : Int} {its : List S31} {Ah Aw Ai : Option Addr} {ch cw bh bw bx N0 : Nat} {w w' : World} (h : TrS hs ws x its Ah Aw Ai ch cw bh bw bx N0 w) (hb : Below w.heap.size w w') : TrS hs ws x its Ah Aw Ai ch cw bh bw bx N0 w' :=
  ⟨Kd.C_below h.hC hb, Kd.C_below h.wC hb, Kd.C_below h.iC hb, fun ad e hn => by
    obtain ⟨h1, cs, fr, h2⟩ := h.iB ad e hn
    exact ⟨h1, cs, fr, (hb.block _ (Array.getElem?_eq_some_iff.1 h2).1).trans h2⟩, pw_cell_below hb h.b1, pw_cell_below hb h.b2, pw_cell_below hb h.b3⟩
theorem TrS.keep {hs ws : List Int} {x : Int} {its : List S31} {Ah Aw Ai : Option Addr} {ch cw bh bw bx N0 : Nat} {X : Nat → Prop} {w w' : World} (h : TrS hs ws x its Ah Aw Ai ch cw bh bw bx N0 w) (hk : KeepX N0 X (fun T => T = 31) w w')
    (hbh : bh < N0) (hbw : bw < N0) (hbx : bx < N0) (hXh : ¬ X bh) (hXw : ¬ X bw) (hXx : ¬ X bx)
    (hAh : ∀ ad, Ah = some ad → 0 < hs.length → ad.block < N0 ∧ ¬ X ad.block) (hAw : ∀ ad, Aw = some ad → 0 < ws.length → ad.block < N0 ∧ ¬ X ad.block) : TrS hs ws x its Ah Aw Ai ch cw bh bw bx N0 w' :=
  ⟨C_keepX' (fun _ _ _ _ h => h) h.hC hk hAh, C_keepX' (fun _ _ _ _ h => h) h.wC hk hAw, C_keepN (fun _ _ _ _ h => C31_K h) h.iC hk (fun ad e hn => by
    obtain ⟨h1, cs, fr, h2⟩ := h.iB ad e hn
    exact ⟨cs, _, fr, h2, .inr ⟨h1, rfl⟩⟩), fun ad e hn => by
    obtain ⟨h1, cs, fr, h2⟩ := h.iB ad e hn
    exact ⟨h1, cs, fr, hk.2 _ _ _ _ h2 (.inr ⟨h1, rfl⟩)⟩, hk.cell h.b1 hbh hXh, hk.cell h.b2 hbw hXw, hk.cell h.b3 hbx hXx⟩
set_option maxRecDepth 100000 in
set_option maxHeartbeats 8000000 in
theorem tries_1_in (hs ws : List Int) (x : Int) (its : List S31) (nd : Int → List S31) (K : Nat) (hits : rule_Items.f K hs ws = some its) (hnd : ∀ h, rule_nodes.f K hs ws h = some (nd h))
    (Ah Aw : Option Addr) (ch cw : Nat) (li bh bw bx N0 : Nat) (X : Nat → Prop)
    (hbh : bh < N0) (hbw : bw < N0) (hbx : bx < N0) (hXh : ¬ X bh) (hXw : ¬ X bw) (hXx : ¬ X bx)
    (hAh : ∀ ad, Ah = some ad → 0 < hs.length → ad.block < N0 ∧ ¬ X ad.block) (hAw : ∀ ad, Aw = some ad → 0 < ws.length → ad.block < N0 ∧ ¬ X ad.block)
    (J Jx : List (TrE its nd x) → World → Prop) (W : World) (hNW : N0 ≤ W.heap.size) (hJ : ∀ (s : List (TrE its nd x)) (Y Z : World), W.heap.size ≤ Y.heap.size → J s Y → Below Y.heap.size Y Z → J s Z)
    (hY : ∀ pre (v : TrE its nd x) W1, J pre W1 → pre.length < 64 → YieldAt Fence.wide 7 Try.prog li #[.int .i64 v.1] W1 fun e W' =>
      (e = .returned (.bool true) ∧ J (pre ++ [v]) W' ∧ KeepX N0 X (fun T => T = 31) W1 W') ∨ (e = .returned (.bool false) ∧ Jx (pre ++ [v]) W'))
    (hCh : Kd.C (Kd.int .i64) W Ah hs.length hs) (hch : hs.length ≤ ch) (hCw : Kd.C (Kd.int .i64) W Aw ws.length ws) (hcw : ws.length ≤ cw)
    (hBh : W.cell? ⟨bh, 0, none⟩ = some (.slice Ah hs.length ch)) (hBw : W.cell? ⟨bw, 0, none⟩ = some (.slice Aw ws.length cw)) (hBx : W.cell? ⟨bx, 0, none⟩ = some (.int .u32 x)) (h0 : J [] W) :
    CallsIn Fence.wide 8 Try.prog 41 #[.func (.yield li) #[] #[], .pointer (some ⟨bh, 0, none⟩), .pointer (some ⟨bw, 0, none⟩), .pointer (some ⟨bx, 0, none⟩)] W fun e W' => (∃ v, e = .returned v) ∧
      ((∃ ys, ys = trA its nd x ∧ J ys W') ∨ (∃ pre, (∃ q, pre = (trA its nd x).take q) ∧ Jx pre W')) := by
  refine callsIn_of_wp Try.func41 rfl trivial ?_ rfl
  simp only [Try.ntmps41, List.size_toArray, List.length_cons, List.length_nil, Nat.reduceAdd, Nat.reduceSub, Array.replicate_succ, Array.replicate_zero, List.push_toArray, List.append_toArray, List.nil_append, List.cons_append]
  have hu := Try.underlying31
  have HIT := Aside0.mk hits
  have HND := Aside0.mk hnd
  have HCH := Aside0.mk hCh
  have HCW := Aside0.mk hCw
  have HJ0 := Aside0.mk h0
  clear hits hnd hCh hCw h0
  gi_wp2_with (refine ⟨trivial, ?_⟩; gi_at_call 10; refine (callsIn_wide.2 (rule_Items.calls K Ah ch hs Aw cw ws its W HCH.out hch HCW.out hcw HIT.out)).mono ?_; rintro e w1 ⟨vi, rfl, hRi, hb1⟩; obtain ⟨Ai, ci, rfl, hli, hCi⟩ := Kd.R_reads hRi; have HRI := Aside0.mk hRi; have HB1 := Aside0.mk hb1; have HCI := Aside0.mk hCi; clear hRi hb1 hCi)
  have hib : ∀ ad, Ai = some ad → 0 < its.length → N0 ≤ ad.block ∧ ∃ cs fr, w1.heap[ad.block]? = some (.cells cs 31 fr) := by
    intro ad e hn
    subst e
    obtain ⟨g, cap, e1, h2, h3, cells, h4⟩ := Kd.R_form HRI.out hn
    injection e1 with e1 _ _
    injection e1 with e1
    subst e1
    exact ⟨by show N0 ≤ g; omega, cells, _, h4⟩
  have HT0 := Aside0.mk (show TrS hs ws x its Ah Aw Ai ch cw bh bw bx N0 w1 from ⟨Kd.C_below HCH.out HB1.out, Kd.C_below HCW.out HB1.out, HCI.out, hib, pw_cell_below HB1.out hBh, pw_cell_below HB1.out hBw, pw_cell_below HB1.out hBx⟩)
  have HJ1 := Aside0.mk (hJ _ _ _ (Nat.le_refl _) HJ0.out HB1.out)
  have HS1 := Aside0.mk HB1.out.size
  clear hib hBh hBw hBx
  gi_loopw [13] (fun i wr => ∃ k : Nat, k ≤ 64 ∧ i = .int .i64 k ∧ Aside0 (J ((trA its nd x).take (trL its nd x k).length) wr) ∧ Aside0 (0 < k → (chooseS its x 0).2 = true) ∧ Aside0 (TrS hs ws x its Ah Aw Ai ch cw bh bw bx N0 wr) ∧ Aside0 (W.heap.size ≤ wr.heap.size)) (fun i _ => 64 - (intOf i).toNat)
  case atStart => exact ⟨0, Nat.zero_le _, rfl, HJ1, ⟨fun h => absurd h (by omega)⟩, HT0, HS1⟩
  case round =>
    clear HT0 HJ1 HS1 HJ0 HRI HCI HB1 HCH HCW
    obtain ⟨i, hi, rfl, HJ, HANY, HT, HS⟩ := hrel
    by_cases hlt : i < 64
    · have hq0 : (i : Int) < 64 := by omega
      have HCA := Aside0.mk (choose_any its x (i : Int) x 0)
      have HLT1 := Aside0.mk (choose_lt its x (i : Int))
      have HTR := Aside0.mk (show trL its nd x (i + 1) = match tryN its nd x i with | some v => trL its nd x i ++ [v] | none => trL its nd x i from rfl)
      have HTN := Aside0.mk (show tryN its nd x i = if (chooseS (nd (rd_T31 its (chooseS its x i).1).f0) x (i + 64)).2 = true then some (rd_T31 (nd (rd_T31 its (chooseS its x i).1).f0) (chooseS (nd (rd_T31 its (chooseS its x i).1).f0) x (i + 64)).1).f0 else none from rfl)
      have HC1 := Aside0.mk (fun W0 (hC : Kd.C k31 W0 Ai its.length its) => crush_Choose.calls Ai ci its x (i : Int) (chooseS its x (i : Int)) W0 hC hli rfl)
      generalize chooseS its x (i : Int) = c1 at *
      obtain ⟨k1, ok1⟩ := c1
      dsimp only at HCA HLT1 HTN HC1
      have hb1 := HT.out.b1
      have hb2 := HT.out.b2
      have hb3 := HT.out.b3
      cases ok1 with
      | false =>
        gi_wp2_with (refine ⟨trivial, ?_⟩; gi_at_call 42; refine (callsIn_wide.2 (HC1.out _ HT.out.iC)).mono ?_; rintro e w2 ⟨rfl, hb⟩; have HB2 := Aside0.mk hb; clear hb)
        refine bodyPost_ret (results_none rfl _ _ _) rfl ?_
        have h0 : (chooseS its x 0).2 = false := HCA.out.symm
        have hi0 : i = 0 := by
          rcases Nat.eq_zero_or_pos i with h | h
          · exact h
          · have := HANY.out h; rw [h0] at this; cases this
        have hJ2 := hJ _ _ _ HS.out HJ.out HB2.out
        have hE : trA its nd x = [] := List.eq_nil_of_length_eq_zero (by rw [trA_len]; unfold triesL; rw [h0, if_neg (by decide)]; rfl)
        refine ⟨⟨_, rfl⟩, .inl ⟨_, rfl, ?_⟩⟩
        rw [hE] at hJ2 ⊢
        simpa using hJ2
      | true =>
        obtain ⟨hk0, hk1⟩ := HLT1.out rfl
        gi_wp2_with (refine ⟨trivial, ?_⟩; gi_at_call 42; refine (callsIn_wide.2 (HC1.out _ HT.out.iC)).mono ?_; rintro e w2 ⟨rfl, hb⟩; have HB2 := Aside0.mk hb; clear hb)
        have HT2 := Aside0.mk (HT.out.below HB2.out)
        have HS2 := Aside0.mk (Nat.le_trans HS.out HB2.out.size)
        have HJ2 := Aside0.mk (hJ _ _ _ HS.out HJ.out HB2.out)
        replace hb1 := HT2.out.b1
        replace hb2 := HT2.out.b2
        replace hb3 := HT2.out.b3
        obtain ⟨ad, e1, hx0, hx1⟩ := at_T31 HT2.out.iC k1 hk0 hk1
        subst e1
        have HIX := Aside0.mk hx1
        clear hx1 HT HS HJ HB2
        generalize rd_T31 its k1 = it at *
        obtain ⟨id, iw⟩ := it
        dsimp only at hx0 HTN
        have HLT2 := Aside0.mk (choose_lt (nd id) x ((i : Int) + 64))
        refine meetV ?_
        apply Exists.intro
        refine ⟨fun v w' => ∃ An cn, v = .slice An (nd id).length cn ∧ (nd id).length ≤ cn ∧ Kd.C k31 w' An (nd id).length (nd id) ∧ Below w2.heap.size w2 w', ?_, ?_⟩
        · gi_region_with (refine ⟨trivial, ?_⟩; gi_at_call 26; refine (callsIn_wide.2 (rule_nodes.calls K Ah ch hs Aw cw ws id (nd id) _ (Kd.C_drew HT2.out.hC) hch (Kd.C_drew HT2.out.wC) hcw (HND.out id))).mono ?_; rintro e w3 ⟨vn, rfl, hRn, hb⟩; have HRN := Aside0.mk hRn; have HB3 := Aside0.mk (below_step (below_drew (Below.refl _ w2)) hb); clear hRn hb)
          all_goals (obtain ⟨An, cn, e1, e2, e3⟩ := Kd.R_reads HRN.out; exact ⟨_, rfl, An, cn, e1, e2, e3, HB3.out⟩)
        · rintro _ w3 ⟨An, cn, rfl, hln, hCn, hB3⟩
          have HT3 := Aside0.mk (HT2.out.below hB3)
          have HS3 := Aside0.mk (Nat.le_trans HS2.out hB3.size)
          have HJ3 := Aside0.mk (hJ _ _ _ HS2.out HJ2.out hB3)
          have hz3 := HT3.out.b3
          have hw64 : IntKind.i64.wrap ((i : Int) + 64) = (i : Int) + 64 := by simp [IntKind.wrap, IntKind.signed, IntKind.bits]; omega
          have HCN := Aside0.mk hCn
          have HC2 := Aside0.mk (fun W0 (hC : Kd.C k31 W0 An (nd id).length (nd id)) => crush_Choose.calls An cn (nd id) x ((i : Int) + 64) (chooseS (nd id) x ((i : Int) + 64)) W0 hC hln rfl)
          clear hx0 hb1 hb2 hb3 HT2 HS2 HJ2 hB3 hCn
          generalize chooseS (nd id) x ((i : Int) + 64) = c2 at *
          obtain ⟨k2, ok2⟩ := c2
          dsimp only at HLT2 HTN HC2
          cases ok2 with
          | false =>
            rw [if_neg (by decide)] at HTN
            rw [HTN.out] at HTR
            gi_wp2_with (refine ⟨trivial, ?_⟩; gi_at_call 42; refine (callsIn_wide.2 (HC2.out _ HCN.out)).mono ?_; rintro e w4 ⟨rfl, hb⟩; have HB4 := Aside0.mk hb; clear hb)
            refine ⟨fun _ h => (by cases h), ?_⟩
            gi_wp2
            go_roundw
            case rel => exact ⟨i + 1, by omega, by go_num, ⟨by rw [show (trL its nd x (i + 1)).length = (trL its nd x i).length from by rw [HTR.out]]; exact hJ _ _ _ HS3.out HJ3.out HB4.out⟩, ⟨fun _ => HCA.out.symm⟩, ⟨HT3.out.below HB4.out⟩, ⟨Nat.le_trans HS3.out HB4.out.size⟩⟩
            case measure => simp [intOf]; omega
          | true =>
            rw [if_pos rfl] at HTN
            rw [HTN.out] at HTR
            obtain ⟨hk20, hk21⟩ := HLT2.out rfl
            generalize hv : (rd_T31 (nd id) k2).f0 = v at *
            have HVV := Aside0.mk hv
            clear hv
            obtain ⟨hsl, hsv⟩ := trL_at its nd x i v hlt HCA.out.symm HTR.out
            have HSV := Aside0.mk hsv
            have HTK := Aside0.mk (show (trA its nd x).take (trL its nd x i).length ++ [(trA its nd x)[(trL its nd x i).length]] = (trA its nd x).take (trL its nd x (i + 1)).length from by
              rw [HTR.out, List.length_append]; exact (List.take_succ_eq_append_getElem hsl).symm)
            clear hsv
            gi_wp2_with (refine ⟨trivial, ?_⟩; gi_at_call 42; refine (callsIn_wide.2 (HC2.out _ HCN.out)).mono ?_; rintro e w4 ⟨rfl, hb⟩; have HB4 := Aside0.mk hb; obtain ⟨ad2, e2, hy0, _⟩ := at_T31 (Kd.C_below HCN.out hb) k2 hk20 hk21; subst e2; rw [HVV.out] at hy0; obtain ⟨fn, tmps, assign, body, hy, hR⟩ := hY _ (trA its nd x)[(trL its nd x i).length] w4 (hJ _ _ _ HS3.out HJ3.out hb) (by rw [List.length_take]; have := trL_len its nd x i; omega); rw [HSV.out] at hy; rw [HTK.out] at hR; clear hb)
            refine hR.mono ?_
            rintro e W5 (⟨rfl, hJ5, hk5⟩ | ⟨rfl, hJx5⟩)
            · have HJ5 := Aside0.mk hJ5
              have HT5 := Aside0.mk ((HT3.out.below HB4.out).keep hk5 hbh hbw hbx hXh hXw hXx hAh hAw)
              have HS5 := Aside0.mk (Nat.le_trans (Nat.le_trans HS3.out HB4.out.size) hk5.1)
              clear hJ5 hk5 hR hy hy0 hz3
              gi_wp2
              go_roundw
              case rel => exact ⟨i + 1, by omega, by go_num, HJ5, ⟨fun _ => HCA.out.symm⟩, HT5, HS5⟩
              case measure => simp [intOf]; omega
            · have HJ5 := Aside0.mk hJx5
              clear hJx5 hR hy hy0 hz3
              gi_wp2
              refine bodyPost_ret (results_none rfl _ _ _) rfl ?_
              exact ⟨⟨_, rfl⟩, .inr ⟨_, ⟨_, rfl⟩, HJ5.out⟩⟩
    · have HE := Aside0.mk (show i = 64 from by omega)
      gi_wp2
      go_end0
      have h1 := HJ.out
      rw [HE.out, List.take_of_length_le (by rw [trA_len]; unfold triesL; rw [if_pos (HANY.out (by have := HE.out; omega))]; exact Nat.le_refl _)] at h1
      exact ⟨⟨_, rfl⟩, .inl ⟨_, rfl, h1⟩⟩
theorem tries_stops (hs ws : List Int) (x : Int) (its : List S31) (nd : Int → List S31) (K : Nat) (hits : rule_Items.f K hs ws = some its) (hnd : ∀ h, rule_nodes.f K hs ws h = some (nd h))
    (Ah Aw : Option Addr) (ch cw : Nat) (bh bw bx : Nat) (X : Nat → Prop) (w : World)
    (hbh : bh < w.heap.size) (hbw : bw < w.heap.size) (hbx : bx < w.heap.size) (hXh : ¬ X bh) (hXw : ¬ X bw) (hXx : ¬ X bx)
    (hAh : ∀ ad, Ah = some ad → 0 < hs.length → ad.block < w.heap.size ∧ ¬ X ad.block) (hAw : ∀ ad, Aw = some ad → 0 < ws.length → ad.block < w.heap.size ∧ ¬ X ad.block)
    (hCh : Kd.C (Kd.int .i64) w Ah hs.length hs) (hch : hs.length ≤ ch) (hCw : Kd.C (Kd.int .i64) w Aw ws.length ws) (hcw : ws.length ≤ cw)
    (hBh : w.cell? ⟨bh, 0, none⟩ = some (.slice Ah hs.length ch)) (hBw : w.cell? ⟨bw, 0, none⟩ = some (.slice Aw ws.length cw)) (hBx : w.cell? ⟨bx, 0, none⟩ = some (.int .u32 x)) :
    SeqStopsK Fence.wide 8 Try.prog 41 #[.pointer (some ⟨bh, 0, none⟩), .pointer (some ⟨bw, 0, none⟩), .pointer (some ⟨bx, 0, none⟩)] (fun v : TrE its nd x => #[Value.int .i64 v.1]) (KeepX w.heap.size X (fun T => T = 31)) (fun ys => ys = trA its nd x) (fun pre => ∃ q, pre = (trA its nd x).take q) 64 w := fun l J Jx W hW hJ hJx hY h0 =>
  tries_1_in hs ws x its nd K hits hnd Ah Aw ch cw l bh bw bx w.heap.size X hbh hbw hbx hXh hXw hXx hAh hAw J Jx W hW.size (fun s Y Z hs hj hb => hJ s Y Z none hj (grown_of_below hb none) (fun r e => by cases e)) hY (Kd.C_below hCh hW) hch (Kd.C_below hCw hW) hcw ((hW.cell hbh).trans hBh) ((hW.cell hbw).trans hBw) ((hW.cell hbx).trans hBx) h0
theorem tries_in (x : Int) (Ah Aw : Option Addr) (nh nw ch cw : Nat) (w : World) :
    CallsIn Fence.wide 8 Try.prog 31 #[.slice Ah nh ch, .slice Aw nw cw, .int .u32 x] w fun e w' => e = .returned (.func (.func 41) #[] #[.pointer (some ⟨w.heap.size, 0, none⟩), .pointer (some ⟨w.heap.size + 1, 0, none⟩), .pointer (some ⟨w.heap.size + 2, 0, none⟩)]) ∧ w' = ((w.alloc (.cells #[.slice Ah nh ch] 22)).alloc (.cells #[.slice Aw nw cw] 23)).alloc (.cells #[.int .u32 x] 24) := by
  refine callsIn_of_wp Try.func31 rfl trivial ?_ rfl
  simp only [Try.ntmps31, List.size_toArray, List.length_cons, List.length_nil, Nat.reduceAdd, Nat.reduceSub, Array.replicate_succ, Array.replicate_zero, List.push_toArray, List.append_toArray, List.nil_append, List.cons_append]
  gi_wp2
  go_ret
  exact ⟨by simp, rfl⟩
end Go.Proofs.Ytbaldkcnipmdjaa.P
namespace Go.Proofs.Ytbaldkcnipmdjaa.P
open Go.RowKit Go.Proofs.YtbaldkcnipmdjaaW.PrintWords Go.Proofs.YtbaldkcnipmdjaaW.PrintLast Go.Proofs.YtbaldkcnipmdjaaW.PrintMore
attribute [local go_sem] max2_int min2_int max_two min_two max_three min_three max_four min_four
set_option linter.unusedVariables false
set_option linter.unusedSimpArgs false
def rule_domain.f (l0 : List Int) (a1 : Int) (a2 : Int) : Option (Int) := if a2 = 2 then (if 0 ≤ a1 then (if a1 < (l0.length : Int) then (some (rd l0 a1)) else (none)) else (none)) else (some a1)
set_option maxHeartbeats 8000000 in
set_option maxRecDepth 100000 in
theorem rule_domain.calls (A0 : Option Addr) (c0 : Nat) (l0 : List Int) (a1 : Int) (a2 : Int) (r : Int) (w : World) (hr0 : Kd.C (Kd.int .i64) w A0 l0.length l0) (hc0 : l0.length ≤ c0) (h : rule_domain.f l0 a1 a2 = some r) :
    Calls Try.prog 33 #[.slice A0 l0.length c0, .int .i64 a1, .int .i64 a2] w fun e w' => e = .returned (.int .i64 r) ∧ Drawn0 w w' := by
  have HR0 := Aside0.mk hr0
  have HC0 := Aside0.mk hc0
  clear hr0 hc0
  have H : (if a2 = 2 then (if 0 ≤ a1 then (if a1 < (l0.length : Int) then (some (rd l0 a1)) else (none)) else (none)) else (some a1)) = some r := h
  clear h
  by_cases c4 : a2 = 2
  · rw [if_pos c4] at H
    have c4b0 : (a2 == 2) = true := beq_iff_eq.mpr c4
    have c4b1 : (a2 != 2) = false := bne_eq_false_iff_eq.mpr c4
    clear c4
    by_cases c5 : 0 ≤ a1
    · rw [if_pos c5] at H
      have c5b0 : decide (0 ≤ a1) = true := decide_eq_true c5
      clear c5
      by_cases c6 : a1 < (l0.length : Int)
      · rw [if_pos c6] at H
        have c6b0 : decide (a1 < (l0.length : Int)) = true := decide_eq_true c6
        clear c6
        obtain rfl := Option.some.inj H
        have p130 : 0 ≤ (a1 : Int) := of_decide_eq_true (by first | (with_reducible assumption) | assumption)
        have q130 : a1 < (l0.length : Int) := of_decide_eq_true (by first | (with_reducible assumption) | assumption)
        obtain ⟨ad130, e130, hx130_0⟩ := Kd.at_int HR0.out a1 p130 q130
        cases e130
        replace p130 := eq_true p130
        replace q130 := eq_true q130
        go_enter Try.func33, Try.ntmps33
        go_wp2
        go_ret
        exact ⟨by first | rfl | (simp; done) | (simp [*]; done), by repeat (first | exact Drawn0.refl _ | apply Drawn0.step)⟩
      · rw [if_neg c6] at H
        exact absurd H (by simp)
    · rw [if_neg c5] at H
      exact absurd H (by simp)
  · rw [if_neg c4] at H
    have c4b0 : (a2 == 2) = false := beq_eq_false_iff_ne.mpr c4
    have c4b1 : (a2 != 2) = true := bne_iff_ne.mpr c4
    obtain rfl := Option.some.inj H
    go_enter Try.func33, Try.ntmps33
    go_wp2
    go_ret
    exact ⟨by first | rfl | (simp; done) | (simp [*]; done), by repeat (first | exact Drawn0.refl _ | apply Drawn0.step)⟩
end Go.Proofs.Ytbaldkcnipmdjaa.P
