import Derived.BigRegionIn
import Derived.Stop.RegionWithIn
import Derived.Test.YtbdciklcckjknaaB4a
import Derived.Test.YtbdciklcckjknaaHK2
import Derived.Test.YtbdciklcckjknaaPPglogAlike
namespace Go.Proofs.Ytbdciklcckjknaa.P
open Go.RowKit Go.Proofs.YtbdciklcckjknaaW.PrintWords Go.Proofs.YtbdciklcckjknaaW.PrintLast Go.Proofs.YtbdciklcckjknaaW.PrintMore Go.Proofs.YtbdciklcckjknaaW.HB
set_option linter.unusedVariables false
set_option linter.unusedSimpArgs false
attribute [local go_sem] Oper.semAt_some

def alikeB (x y : S34) : Bool := (pglog_alike.f x.f0.f0 x.f0.f1 x.f1.f0 x.f1.f1 x.f1.f2 x.f1.f3.f0 x.f1.f3.f1 x.f1.f3.f2 x.f1.f3.f3 x.f1.f3.f4 x.f2.f0 x.f2.f1 x.f2.f2 x.f2.f3 y.f0.f0 y.f0.f1 y.f1.f0 y.f1.f1 y.f1.f2 y.f1.f3.f0 y.f1.f3.f1 y.f1.f3.f2 y.f1.f3.f3 y.f1.f3.f4 y.f2.f0 y.f2.f1 y.f2.f2 y.f2.f3).getD false
theorem alikeB_f (x y : S34) : pglog_alike.f x.f0.f0 x.f0.f1 x.f1.f0 x.f1.f1 x.f1.f2 x.f1.f3.f0 x.f1.f3.f1 x.f1.f3.f2 x.f1.f3.f3 x.f1.f3.f4 x.f2.f0 x.f2.f1 x.f2.f2 x.f2.f3 y.f0.f0 y.f0.f1 y.f1.f0 y.f1.f1 y.f1.f2 y.f1.f3.f0 y.f1.f3.f1 y.f1.f3.f2 y.f1.f3.f3 y.f1.f3.f4 y.f2.f0 y.f2.f1 y.f2.f2 y.f2.f3 = some (alikeB x y) := by
  unfold alikeB pglog_alike.f
  split <;> rfl
/-- A box with an entry. -/
def XBox (W : World) (b : Nat) (x : S34) : Prop := W.heap[b]? = some (.cells #[.int .i64 x.f0.f0, .int .i64 x.f0.f1, .int .i64 x.f1.f0, .int .i64 x.f1.f1, .int .i64 x.f1.f2, .int .i64 x.f1.f3.f0, .string x.f1.f3.f1, .int .i64 x.f1.f3.f2, .int .i64 x.f1.f3.f3, .string x.f1.f3.f4, .int .i64 x.f2.f0, .int .i64 x.f2.f1, .int .i64 x.f2.f2, .string x.f2.f3] 34 (0, 0))
theorem XBox.lt {w : World} {b : Nat} {x : S34} (h : XBox w b x) : b < w.heap.size := (Array.getElem?_eq_some_iff.1 h).1
theorem xbox_own (B : Nat) (x : S34) (b : Nat) : OwnFrom B (fun (_ : Unit) W => XBox W b x) := fun _ X Y row hs hg hr => cells_nc hs hg (fun r e => (hr r e).2)
structure CmSt (w : World) (b0 b1 b2 b3 N0 : Nat) (vb : Value) (f : Bool) (e v : Int) (W : World) : Prop where
  xb : Boxed W b0 22 vb
  xr : W.heap[b1]? = some (.cells #[.int .i64 0, .int .i64 0] 24 (0, 0))
  xa : W.heap[b2]? = some (.cells #[.int .i64 e, .int .i64 v] 24 (0, 0))
  xf : Boxed W b3 4 (.bool f)
  below : Below w.heap.size w W
  ge : N0 ≤ W.heap.size
  o : w.heap.size ≤ b0 ∧ b0 < b1 ∧ b1 < b2 ∧ b2 < b3 ∧ b3 < N0
section
variable {w : World} {b0 b1 b2 b3 N0 : Nat} {vb : Value} {f : Bool} {e v : Int} {X Y : World}
theorem CmSt.nc (h : CmSt w b0 b1 b2 b3 N0 vb f e v X) {row : Option Nat} (hg : X.grownBy Y row) (hr : ∀ r, row = some r → w.heap.size ≤ r ∧ ∃ o : Obj, X.heap[r]? = some o ∧ o.isCells = false) : CmSt w b0 b1 b2 b3 N0 vb f e v Y := by
  have hr' := fun r e => (hr r e).2
  exact ⟨boxed_nc h.xb hg hr', cells_nc h.xr hg hr', cells_nc h.xa hg hr', boxed_nc h.xf hg hr', pw_below_grown h.below row h.below.size hg (fun k e => (hr k e).1), Nat.le_trans h.ge hg.size, h.o⟩
theorem CmSt.step (h : CmSt w b0 b1 b2 b3 N0 vb f e v X) (hb : Below X.heap.size X Y) : CmSt w b0 b1 b2 b3 N0 vb f e v Y :=
  ⟨boxed_step h.xb hb, (hb.block _ (Array.getElem?_eq_some_iff.1 h.xr).1).trans h.xr, (hb.block _ (Array.getElem?_eq_some_iff.1 h.xa).1).trans h.xa, boxed_step h.xf hb, below_step h.below hb, Nat.le_trans h.ge hb.size, h.o⟩
theorem CmSt.cells (h : CmSt w b0 b1 b2 b3 N0 vb f e v X) : X.cell? ⟨b0, 0, none⟩ = some vb ∧ X.cell? ⟨b1, 0, none⟩ = some (.int .i64 0) ∧ X.cell? ⟨b1, 1, none⟩ = some (.int .i64 0) ∧ X.cell? ⟨b2, 0, none⟩ = some (.int .i64 e) ∧ X.cell? ⟨b2, 1, none⟩ = some (.int .i64 v) ∧ X.cell? ⟨b3, 0, none⟩ = some (.bool f) := by
  refine ⟨h.xb.cell, ?_, ?_, ?_, ?_, h.xf.cell⟩ <;> simp [World.cell?, h.xr, h.xa]
theorem CmSt.frozen (h : CmSt w b0 b1 b2 b3 N0 vb f e v X) : X.frozen? ⟨b2, 0, none⟩ = false ∧ X.frozen? ⟨b2, 1, none⟩ = false ∧ X.frozen? ⟨b3, 0, none⟩ = false ∧ X.frozen? ⟨b1, 0, none⟩ = false ∧ X.frozen? ⟨b1, 1, none⟩ = false := by
  refine ⟨?_, ?_, h.xf.frozen, ?_, ?_⟩ <;> simp [World.frozen?, h.xr, h.xa]
theorem hset {W : World} {b : Nat} {cs : Array Value} {t : TypeId} {fr : Nat × Nat} (h : W.heap[b]? = some (.cells cs t fr)) (k : Nat) (u : Value) : (W.setCell ⟨b, k, none⟩ u).heap[b]? = some (.cells (cs.setIfInBounds k u) t fr) := by
  show (W.heap.modify b _)[b]? = _
  rw [Array.getElem?_modify, if_pos rfl, h]
  rfl
theorem hfar {W : World} {b b' : Nat} {o : Obj} (h : W.heap[b]? = some o) (hne : b ≠ b') (k : Nat) (u : Value) : (W.setCell ⟨b', k, none⟩ u).heap[b]? = some o := (Below.heap_setCell W _ u b hne).trans h
theorem hsize (Z : World) (a : Addr) (u : Value) : Z.heap.size ≤ (Z.setCell a u).heap.size := (KeepsWalks.setCell Z a u).size
theorem CmSt.found (h : CmSt w b0 b1 b2 b3 N0 vb f e v X) (e' v' : Int) :
    CmSt w b0 b1 b2 b3 N0 vb true e' v' (((X.setCell ⟨b2, 0, none⟩ (.int .i64 e')).setCell ⟨b2, 1, none⟩ (.int .i64 v')).setCell ⟨b3, 0, none⟩ (.bool true)) := by
  have o := h.o
  refine ⟨hfar (hfar (hfar h.xb (by omega) _ _) (by omega) _ _) (by omega) _ _, hfar (hfar (hfar h.xr (by omega) _ _) (by omega) _ _) (by omega) _ _, hfar (hset (hset h.xa 0 _) 1 _) (by omega) _ _, hset (hfar (hfar h.xf (by omega) _ _) (by omega) _ _) 0 _,
    ((h.below.setCell (by show _ ≤ b2; omega) _).setCell (by show _ ≤ b2; omega) _).setCell (by show _ ≤ b3; omega) _, ?_, o⟩
  exact Nat.le_trans h.ge (Nat.le_trans (hsize _ _ _) (Nat.le_trans (hsize _ _ _) (hsize _ _ _)))
theorem CmSt.last (h : CmSt w b0 b1 b2 b3 N0 vb f e v X) {D : Nat} (hD : N0 ≤ D) (hK : X.heap[D]? = some (.deferred (some []))) (p q : Int) :
    (((X.setCell ⟨b1, 0, none⟩ (.int .i64 p)).setCell ⟨b1, 1, none⟩ (.int .i64 q)).drew).heap[D]? = some (.deferred (some [])) ∧
    (((X.setCell ⟨b1, 0, none⟩ (.int .i64 p)).setCell ⟨b1, 1, none⟩ (.int .i64 q)).drew.putObj D (.deferred none)).heap[b1]? = some (.cells #[.int .i64 p, .int .i64 q] 24 (0, 0)) ∧
    Below w.heap.size w (((X.setCell ⟨b1, 0, none⟩ (.int .i64 p)).setCell ⟨b1, 1, none⟩ (.int .i64 q)).drew.putObj D (.deferred none)) := by
  have o := h.o
  have hb : Below w.heap.size w (((X.setCell ⟨b1, 0, none⟩ (.int .i64 p)).setCell ⟨b1, 1, none⟩ (.int .i64 q)).drew) := ((h.below.setCell (by show _ ≤ b1; omega) _).setCell (by show _ ≤ b1; omega) _).drew
  refine ⟨hfar (hfar hK (by omega) _ _) (by omega) _ _, (World.putObj_heap_other (by omega)).trans (hset (hset h.xr 0 _) 1 _), pw_below_grown hb _ hb.size (grownBy_putObj' _ D (.deferred none)) (fun k hk => by cases hk; omega)⟩
theorem XBox.cells {W : World} {b : Nat} {x : S34} (h : XBox W b x) : W.cell? ⟨b, 0, none⟩ = some (.int .i64 x.f0.f0) ∧ W.cell? ⟨b, 1, none⟩ = some (.int .i64 x.f0.f1) ∧ W.cell? ⟨b, 2, none⟩ = some (.int .i64 x.f1.f0) ∧ W.cell? ⟨b, 3, none⟩ = some (.int .i64 x.f1.f1) ∧ W.cell? ⟨b, 4, none⟩ = some (.int .i64 x.f1.f2) ∧ W.cell? ⟨b, 5, none⟩ = some (.int .i64 x.f1.f3.f0) ∧ W.cell? ⟨b, 6, none⟩ = some (.string x.f1.f3.f1) ∧ W.cell? ⟨b, 7, none⟩ = some (.int .i64 x.f1.f3.f2) ∧ W.cell? ⟨b, 8, none⟩ = some (.int .i64 x.f1.f3.f3) ∧ W.cell? ⟨b, 9, none⟩ = some (.string x.f1.f3.f4) ∧ W.cell? ⟨b, 10, none⟩ = some (.int .i64 x.f2.f0) ∧ W.cell? ⟨b, 11, none⟩ = some (.int .i64 x.f2.f1) ∧ W.cell? ⟨b, 12, none⟩ = some (.int .i64 x.f2.f2) ∧ W.cell? ⟨b, 13, none⟩ = some (.string x.f2.f3) := by
  unfold XBox at h
  simp [World.cell?, h]
end
def pglog_Common.f (l0 l1 : List S34) : Option (Int × Int × Bool) := some (match l0.reverse.find? (fun x => l1.any (alikeB x)) with
  | some x => (x.f0.f0, x.f0.f1, true)
  | none => (0, 0, false))
def CmPost (w : World) (r : Option (Int × Int × Bool)) (e : Ending) (w' : World) : Prop := ∃ r1 r2 r3, r = some (r1, r2, r3) ∧ e = .returned (.tuple #[.agg #[.int .i64 r1, .int .i64 r2], .bool r3]) ∧ Below w.heap.size w w'
set_option maxRecDepth 100000 in
set_option maxHeartbeats 8000000 in
theorem common_in (A0 : Option Addr) (c0 : Nat) (xs : List S34) (A1 : Option Addr) (c1 : Nat) (ys : List S34) (w : World) (hr0 : Kd.C k34 w A0 xs.length xs) (hc0 : xs.length ≤ c0) (hr1 : Kd.C k34 w A1 ys.length ys) (hc1 : ys.length ≤ c1) :
    CallsIn Fence.wide 9 Try.prog 20 #[.slice A0 xs.length c0, .slice A1 ys.length c1] w (CmPost w (pglog_Common.f xs ys)) := by
  have HR0 := Aside0.mk hr0
  have HR1 := Aside0.mk hr1
  have HC0 := Aside0.mk hc0
  have HC1 := Aside0.mk hc1
  clear hr0 hr1 hc0 hc1
  have hu := Try.underlying34
  have hu2 := Try.underlying24
  have hz2 := Try.zeroValue24
  refine callsIn_of_wp_marks Try.func20 rfl trivial ?_ rfl
  simp only [Try.ntmps20, List.size_toArray, List.length_cons, List.length_nil, Nat.reduceAdd, Nat.reduceSub, Array.replicate_succ, Array.replicate_zero, List.push_toArray, List.append_toArray, List.nil_append, List.cons_append]
  gi_wp2
  refine wpIn_scope_wide ?_
  gi_wp2
  refine wpIn_label ?_
  gi_wp2_with (refine ⟨trivial, ?_⟩; gi_at_call 35; refine (back_in Fence.wide 8 trivial rfl A0 xs.length c0 _).mono ?_; rintro e w' ⟨rfl, rfl⟩)
  have hA := C_block (by decide) HR0.out
  have hAy := C_block (by decide) HR1.out
  obtain ⟨b0, hb0⟩ : ∃ b0, b0 = w.heap.size := ⟨_, rfl⟩
  obtain ⟨b1, hb1⟩ : ∃ b1, b1 = w.heap.size + 1 := ⟨_, rfl⟩
  obtain ⟨b2, hb2⟩ : ∃ b2, b2 = w.heap.size + 1 + 1 := ⟨_, rfl⟩
  obtain ⟨b3, hb3⟩ : ∃ b3, b3 = w.heap.size + 1 + 1 + 1 := ⟨_, rfl⟩
  obtain ⟨b4, hb4⟩ : ∃ b4, b4 = w.heap.size + 1 + 1 + 1 + 1 := ⟨_, rfl⟩
  rw [← hb4, ← hb3, ← hb2, ← hb1, ← hb0]
  obtain ⟨wl, hwl⟩ : ∃ wl, wl = (((((w.alloc (Obj.cells #[Value.slice A1 ys.length c1] 22)).alloc (Obj.cells #[Value.int IntKind.i64 0, Value.int IntKind.i64 0] 24)).alloc (Obj.cells #[Value.int IntKind.i64 0, Value.int IntKind.i64 0] 24)).alloc (Obj.cells #[Value.bool false] 4)).alloc (Obj.cells #[Value.slice A0 xs.length c0] 22)) := ⟨_, rfl⟩
  rw [← hwl]
  have hsz : wl.heap.size = b4 + 1 := by rw [hwl, hb4]; simp
  have hbw : Below w.heap.size w wl := by rw [hwl]; exact below_alloc (below_alloc (below_alloc (below_alloc (below_alloc (Below.refl _ _) _) _) _) _) _
  have hc4 : wl.cell? ⟨b4, 0, none⟩ = some (.slice A0 xs.length c0) := by rw [hwl, hb4]; go_simp
  have heap_at : ∀ k : Nat, k < 5 → wl.heap[w.heap.size + k]? = [Obj.cells #[Value.slice A1 ys.length c1] 22, Obj.cells #[Value.int IntKind.i64 0, Value.int IntKind.i64 0] 24, Obj.cells #[Value.int IntKind.i64 0, Value.int IntKind.i64 0] 24, Obj.cells #[Value.bool false] 4, Obj.cells #[Value.slice A0 xs.length c0] 22][k]? := by
    intro k hk
    rw [hwl]
    simp only [heap_alloc_if, World.size_alloc]
    match k, hk with
    | 0, _ => repeat (first | rw [if_pos (by omega)]; rfl | rw [if_neg (by omega)])
    | 1, _ => repeat (first | rw [if_pos (by omega)]; rfl | rw [if_neg (by omega)])
    | 2, _ => repeat (first | rw [if_pos (by omega)]; rfl | rw [if_neg (by omega)])
    | 3, _ => repeat (first | rw [if_pos (by omega)]; rfl | rw [if_neg (by omega)])
    | 4, _ => repeat (first | rw [if_pos (by omega)]; rfl | rw [if_neg (by omega)])
  have S0 : CmSt w b0 b1 b2 b3 wl.heap.size (.slice A1 ys.length c1) false 0 0 wl := ⟨by rw [hb0]; exact heap_at 0 (by omega), by rw [hb1]; exact heap_at 1 (by omega), by rw [hb2]; exact heap_at 2 (by omega), by rw [hb3]; exact heap_at 3 (by omega), hbw, Nat.le_refl _, by omega⟩
  have HCx := Aside0.mk (Kd.C_below HR0.out hbw)
  have HB := Aside0.mk (show b0 = w.heap.size ∧ b1 = w.heap.size + 1 ∧ b2 = w.heap.size + 1 + 1 ∧ b3 = w.heap.size + 1 + 1 + 1 ∧ b4 = w.heap.size + 1 + 1 + 1 + 1 ∧ wl.heap.size = b4 + 1 from ⟨hb0, hb1, hb2, hb3, hb4, hsz⟩)
  clear heap_at hwl
  have HSEQ := back_stops Fence.wide 8 trivial rfl (by decide) b4 c0 (fun k => k = b2 ∨ k = b3) (fun _ => False) A0 xs wl (by omega) (by show ¬ (b4 = b2 ∨ b4 = b3); omega) (fun ad e hp => by have := hA ad e hp; refine ⟨by omega, ?_⟩; show ¬ (ad.block = b2 ∨ ad.block = b3); omega) hc4 HCx.out HC0.out
  have HIo : OwnFrom wl.heap.size (fun (pre : List S34) W => CmSt w b0 b1 b2 b3 wl.heap.size (.slice A1 ys.length c1) false 0 0 W ∧ ∀ x ∈ pre, ys.any (alikeB x) = false) := fun s X Y row hs hg hr => ⟨hs.1.nc hg (fun r e => ⟨by have := (hr r e).1; omega, (hr r e).2⟩), hs.2⟩
  have HIx : ∀ c : Code, OwnFrom wl.heap.size (fun (pre : List S34) W => c = .exit 0 ∧ ∃ pre' x, pre = pre' ++ [x] ∧ (∀ x ∈ pre', ys.any (alikeB x) = false) ∧ ys.any (alikeB x) = true ∧ CmSt w b0 b1 b2 b3 wl.heap.size (.slice A1 ys.length c1) true x.f0.f0 x.f0.f1 W) := fun c s X Y row hs hg hr => by
    obtain ⟨h1, p, x, h2, h3, h4, h5⟩ := hs
    exact ⟨h1, p, x, h2, h3, h4, h5.nc hg (fun r e => ⟨by have := (hr r e).1; omega, (hr r e).2⟩)⟩
  refine rf_H (F := Fence.wide) (P := Try.prog) (encs := fun x : S34 => #[.agg #[.int .i64 x.f0.f0, .int .i64 x.f0.f1, .int .i64 x.f1.f0, .int .i64 x.f1.f1, .int .i64 x.f1.f2, .int .i64 x.f1.f3.f0, .string x.f1.f3.f1, .int .i64 x.f1.f3.f2, .int .i64 x.f1.f3.f3, .string x.f1.f3.f4, .int .i64 x.f2.f0, .int .i64 x.f2.f1, .int .i64 x.f2.f2, .string x.f2.f3]]) rfl (by decide) (gf := 58) (lb := #[.pointer (some ⟨b4, 0, none⟩)]) rfl trivial (Go.Proofs.enters_of Try.func58 (by kernel_rfl) rfl) HSEQ (Below.refl _ _) (fun _ => rfl)
    _ _ HIo HIx ⟨S0, fun x hx => by cases hx⟩ XBox (fun x b => xbox_own _ x b) ?_
  clear HSEQ HIo HIx S0 hb0 hb1 hb2 hb3 hb4 hsz hc4
  apply Exists.intro
  refine ⟨?assign, ?body, ?done, ?stop⟩
  case assign =>
    intro l pre x W K hI hK
    have hge := hI.1.ge
    have HI := Aside0.mk hI
    clear hI
    gi_wp2
    obtain ⟨b, hb⟩ : ∃ b, b = W.heap.size := ⟨_, rfl⟩
    rw [← hb]
    refine hK b _ ((KeepsOthers.alloc W _).from _) (KeepX.below (below_alloc (Below.refl _ _) _)) ⟨HI.out.1.step (below_alloc (Below.refl _ _) _), HI.out.2⟩ (by omega) ?_
    rw [hb]
    exact World.alloc_heap_new W _
  case body =>
    rintro l pre x bx W hl ⟨r, hr⟩ ⟨hS, hno⟩ hbx hX hlt
    have hcb := hS.cells.1
    have HS := Aside0.mk hS
    have HX := Aside0.mk hX
    have HN := Aside0.mk hno
    have HR := Aside0.mk hr
    clear hS hX hno hr
    gi_wp2_with (refine ⟨trivial, ?_⟩; gi_at_call 35; refine (CallsIn.inRound l (back_in Fence.wide 6 trivial rfl A1 ys.length c1 _)).mono ?_; rintro e w' ⟨rfl, rfl⟩)
    obtain ⟨bz, hbz⟩ : ∃ bz, bz = W.heap.size := ⟨_, rfl⟩
    rw [← hbz]
    obtain ⟨V0, hV0⟩ : ∃ V0, V0 = W.alloc (.cells #[.slice A1 ys.length c1] 22) := ⟨_, rfl⟩
    rw [← hV0]
    have hbV : Below W.heap.size W V0 := by rw [hV0]; exact below_alloc (Below.refl _ _) _
    have hszV : V0.heap.size = bz + 1 := by rw [hV0, hbz]; simp
    have hcz : V0.cell? ⟨bz, 0, none⟩ = some (.slice A1 ys.length c1) := by rw [hV0, hbz]; exact cell_fresh _ _ _ _ _ rfl
    have ho := HS.out.o
    have hge := HS.out.ge
    have hKV : KeepX wl.heap.size (fun k => k = b2 ∨ k = b3) (fun _ => False) W V0 := KeepX.below hbV
    have hFV : KeepsFrom wl.heap.size W V0 := by rw [hV0]; exact (KeepsOthers.alloc W _).from _
    have HB2 := Aside0.mk hbz
    clear hV0 hbz
    have HSEQ := (back_stops Fence.wide 6 trivial rfl (by decide) bz c1 (fun k => k = b2 ∨ k = b3) (fun _ => False) A1 ys V0 (by omega) (by have := HB2.out; show ¬ (bz = b2 ∨ bz = b3); omega) (fun ad e hp => by have := hAy ad e hp; have := HB2.out; refine ⟨by omega, ?_⟩; show ¬ (ad.block = b2 ∨ ad.block = b3); omega) hcz (Kd.C_below HR1.out (below_step HS.out.below hbV)) HC1.out).inRound l
    have HIo : OwnFrom V0.heap.size (fun (pr : List S34) V => CmSt w b0 b1 b2 b3 wl.heap.size (.slice A1 ys.length c1) false 0 0 V ∧ XBox V bx x ∧ KeepsFrom wl.heap.size W V ∧ KeepX wl.heap.size (fun k => k = b2 ∨ k = b3) (fun _ => False) W V ∧ V0.heap.size ≤ V.heap.size ∧ ∀ y ∈ pr, alikeB x y = false) := fun s X Y row hs hg hr =>
      ⟨hs.1.nc hg (fun r e => ⟨by have := (hr r e).1; have := HB2.out; omega, (hr r e).2⟩), cells_nc hs.2.1 hg (fun r e => (hr r e).2), ownFrom_keepsFrom hbV.size s X Y row hs.2.2.1 hg hr, keepX_nc hs.2.2.2.1 hg (fun r e => (hr r e).2), Nat.le_trans hs.2.2.2.2.1 hg.size, hs.2.2.2.2.2⟩
    have HIx : ∀ c : Code, OwnFrom V0.heap.size (fun (pr : List S34) V => c = .exit 0 ∧ (∃ y ∈ pr, alikeB x y = true) ∧ CmSt w b0 b1 b2 b3 wl.heap.size (.slice A1 ys.length c1) true x.f0.f0 x.f0.f1 V ∧ KeepsFrom wl.heap.size W V) := fun c s X Y row hs hg hr =>
      ⟨hs.1, hs.2.1, hs.2.2.1.nc hg (fun r e => ⟨by have := (hr r e).1; have := HB2.out; omega, (hr r e).2⟩), ownFrom_keepsFrom hbV.size s X Y row hs.2.2.2 hg hr⟩
    refine rf_N (F := Fence.wide.inRound l) (P := Try.prog) (encs := fun x : S34 => #[.agg #[.int .i64 x.f0.f0, .int .i64 x.f0.f1, .int .i64 x.f1.f0, .int .i64 x.f1.f1, .int .i64 x.f1.f2, .int .i64 x.f1.f3.f0, .string x.f1.f3.f1, .int .i64 x.f1.f3.f2, .int .i64 x.f1.f3.f3, .string x.f1.f3.f4, .int .i64 x.f2.f0, .int .i64 x.f2.f1, .int .i64 x.f2.f2, .string x.f2.f3]]) rfl ((hbV.block l (Array.getElem?_eq_some_iff.1 HR.out).1).trans HR.out) (by decide) (gf := 58) (lb := #[.pointer (some ⟨bz, 0, none⟩)]) rfl trivial (Go.Proofs.enters_of Try.func58 (by kernel_rfl) rfl) HSEQ (Below.refl _ _) (fun _ => rfl)
      _ _ HIo HIx ⟨HS.out.step hbV, (hbV.block bx HX.out.lt).trans HX.out, hFV, hKV, Nat.le_refl _, fun x hx => by cases hx⟩ XBox (fun x b => xbox_own _ x b) ?_
    clear HSEQ HIo HIx hKV hFV hcz hcb
    apply Exists.intro
    refine ⟨?assign2, ?body2, ?done2, ?stop2⟩
    case assign2 =>
      intro l2 pr y V K hI hK
      have HI := Aside0.mk hI
      have hge2 := Aside0.mk (show V0.heap.size ≤ V.heap.size from hI.2.2.2.2.1)
      clear hI
      gi_wp2
      obtain ⟨b, hb⟩ : ∃ b, b = V.heap.size := ⟨_, rfl⟩
      rw [← hb]
      refine hK b _ ((KeepsOthers.alloc V _).from _) (KeepX.below (below_alloc (Below.refl _ _) _)) ?_ (by have := hge2.out; omega) ?_
      · have hb2 := below_alloc (Below.refl _ V) (.cells #[.int .i64 y.f0.f0, .int .i64 y.f0.f1, .int .i64 y.f1.f0, .int .i64 y.f1.f1, .int .i64 y.f1.f2, .int .i64 y.f1.f3.f0, .string y.f1.f3.f1, .int .i64 y.f1.f3.f2, .int .i64 y.f1.f3.f3, .string y.f1.f3.f4, .int .i64 y.f2.f0, .int .i64 y.f2.f1, .int .i64 y.f2.f2, .string y.f2.f3] 34)
        exact ⟨HI.out.1.step hb2, (hb2.block bx HI.out.2.1.lt).trans HI.out.2.1, HI.out.2.2.1.trans ((KeepsOthers.alloc V _).from _), HI.out.2.2.2.1.trans (KeepX.below hb2), by have := hge2.out; have := hb2.size; omega, HI.out.2.2.2.2.2⟩
      · rw [hb]
        exact World.alloc_heap_new V _
    case body2 =>
      rintro l2 pr y byy V hl2 _ hI hby hY hlt2
      have HI := Aside0.mk hI
      have HY := Aside0.mk hY
      obtain ⟨x0, x1, x2, x3, x4, x5, x6, x7, x8, x9, x10, x11, x12, x13⟩ := hI.2.1.cells
      obtain ⟨y0, y1, y2, y3, y4, y5, y6, y7, y8, y9, y10, y11, y12, y13⟩ := hY.cells
      clear hI hY
      cases hal : alikeB x y with
      | true =>
        have HAL := Aside0.mk hal
        have HCALL := Aside0.mk ((alikeB_f x y).trans (congrArg some hal))
        clear hal
        gi_wp2_with (refine ⟨trivial, ?_⟩; gi_at_call 36; refine (CallsIn.inRound l2 (callsIn_wide.2 (pglog_alike.calls x.f0.f0 x.f0.f1 x.f1.f0 x.f1.f1 x.f1.f2 x.f1.f3.f0 x.f1.f3.f1 x.f1.f3.f2 x.f1.f3.f3 x.f1.f3.f4 x.f2.f0 x.f2.f1 x.f2.f2 x.f2.f3 y.f0.f0 y.f0.f1 y.f1.f0 y.f1.f1 y.f1.f2 y.f1.f3.f0 y.f1.f3.f1 y.f1.f3.f2 y.f1.f3.f3 y.f1.f3.f4 y.f2.f0 y.f2.f1 y.f2.f2 y.f2.f3 true _ HCALL.out))).mono ?_; rintro e w1 ⟨rfl, hb1⟩; have HB1 := Aside0.mk hb1; have S1 := Aside0.mk (HI.out.1.step hb1); obtain ⟨x0, x1, x2, x3, x4, x5, x6, x7, x8, x9, x10, x11, x12, x13⟩ := (show XBox w1 bx x from (hb1.block bx HI.out.2.1.lt).trans HI.out.2.1).cells; obtain ⟨g0, g1, g2, g3, g4, g5⟩ := S1.out.cells; obtain ⟨f0, f1, f2, f3, f4⟩ := S1.out.frozen; clear hb1 y0 y1 y2 y3 y4 y5 y6 y7 y8 y9 y10 y11 y12 y13)
        have hg1 := grownBy_setCellK w1 b2 0 (.int .i64 x.f0.f0)
        refine ⟨(keepsFrom_below _ HB1.out).trans (((KeepsOthers.setCell _ _ _).trans ((KeepsOthers.setCell _ _ _).trans (KeepsOthers.setCell _ _ _))).from _), rfl, ⟨y, by simp, HAL.out⟩, S1.out.found _ _, ?_⟩
        exact HI.out.2.2.1.trans ((keepsFrom_below _ HB1.out).trans (((KeepsOthers.setCell _ _ _).trans ((KeepsOthers.setCell _ _ _).trans (KeepsOthers.setCell _ _ _))).from _))
      | false =>
        have HAL := Aside0.mk hal
        have HCALL := Aside0.mk ((alikeB_f x y).trans (congrArg some hal))
        clear hal
        gi_wp2_with (refine ⟨trivial, ?_⟩; gi_at_call 36; refine (CallsIn.inRound l2 (callsIn_wide.2 (pglog_alike.calls x.f0.f0 x.f0.f1 x.f1.f0 x.f1.f1 x.f1.f2 x.f1.f3.f0 x.f1.f3.f1 x.f1.f3.f2 x.f1.f3.f3 x.f1.f3.f4 x.f2.f0 x.f2.f1 x.f2.f2 x.f2.f3 y.f0.f0 y.f0.f1 y.f1.f0 y.f1.f1 y.f1.f2 y.f1.f3.f0 y.f1.f3.f1 y.f1.f3.f2 y.f1.f3.f3 y.f1.f3.f4 y.f2.f0 y.f2.f1 y.f2.f2 y.f2.f3 false _ HCALL.out))).mono ?_; rintro e w1 ⟨rfl, hb1⟩; have HB1 := Aside0.mk hb1; clear hb1 x0 x1 x2 x3 x4 x5 x6 x7 x8 x9 x10 x11 x12 x13 y0 y1 y2 y3 y4 y5 y6 y7 y8 y9 y10 y11 y12 y13)
        refine ⟨keepsFrom_below _ HB1.out, KeepX.below HB1.out, HI.out.1.step HB1.out, (HB1.out.block bx HI.out.2.1.lt).trans HI.out.2.1, HI.out.2.2.1.trans (keepsFrom_below _ HB1.out), HI.out.2.2.2.1.trans (KeepX.below HB1.out), Nat.le_trans HI.out.2.2.2.2.1 HB1.out.size, fun z hz => ?_⟩
        rcases List.mem_append.1 hz with hz | hz
        · exact HI.out.2.2.2.2.2 z hz
        · rw [List.mem_singleton.1 hz]; exact HAL.out
    case done2 =>
      intro xs2 V hxs hI
      have HI := Aside0.mk hI
      have HXS := Aside0.mk hxs
      clear hI hxs
      gi_wp2
      refine ⟨HI.out.2.2.1, HI.out.2.2.2.1, HI.out.1, fun z hz => ?_⟩
      rcases List.mem_append.1 hz with hz | hz
      · exact HN.out z hz
      · rw [List.mem_singleton.1 hz, List.any_eq_false]
        intro y hy
        rw [HI.out.2.2.2.2.2 y (by rw [HXS.out]; simpa using hy)]
        simp
    case stop2 =>
      rintro c pr V ⟨q, hq⟩ ⟨rfl, ⟨y, hy, hal⟩, hS2, hF2⟩
      have HQ := Aside0.mk hq
      have HY := Aside0.mk hy
      have HA2 := Aside0.mk hal
      have HS2 := Aside0.mk hS2
      have HF2 := Aside0.mk hF2
      clear hq hy hal hS2 hF2
      gi_wp2
      refine ⟨HF2.out, rfl, pre, x, rfl, HN.out, ?_, HS2.out⟩
      rw [List.any_eq_true]
      refine ⟨y, ?_, HA2.out⟩
      have := HY.out
      rw [HQ.out] at this
      simpa using List.mem_of_mem_take this
  case done =>
    intro D zs W hD hzs hI hK
    obtain ⟨hS, hno⟩ := hI
    obtain ⟨g0, g1, g2, g3, g4, g5⟩ := hS.cells
    obtain ⟨f0, f1, f2, f3, f4⟩ := hS.frozen
    have HS := Aside0.mk hS
    have HN := Aside0.mk hno
    have HZ := Aside0.mk hzs
    clear hS hno hzs
    have o := HS.out.o
    have e1 : ¬ b3 = b1 := by omega
    have e2 : ¬ b1 = b3 := by omega
    have e3 : ¬ b2 = b1 := by omega
    have e4 : ¬ b1 = b2 := by omega
    clear o
    gi_wp2
    refine meetM ?_
    apply Exists.intro
    apply Exists.intro
    refine ⟨?_, ?_⟩
    · gi_region
      all_goals exact ⟨rfl, rfl⟩
    gi_wp2_with fail
    rw [Exit.noGoto_ret]
    obtain ⟨d1, d2, d3⟩ := HS.out.last hD hK 0 0
    have d4 := blk_cell d2 0
    have d5 := blk_cell d2 1
    refine ⟨by simp, .inl ⟨_, _, rfl, run_takeDeferred d1, ?_⟩⟩
    refine ⟨.tuple #[.agg #[.int .i64 0, .int .i64 0], .bool false], ?_, ?_⟩
    · simp at d4 d5
      simp [results, Try.results20, go_sem, d4, d5]
    · refine ⟨0, 0, false, ?_, rfl, d3⟩
      unfold pglog_Common.f
      rw [show xs.reverse.find? (fun x => ys.any (alikeB x)) = none from List.find?_eq_none.2 (fun z hz => by rw [HN.out z (by rw [HZ.out]; exact hz)]; simp)]
  case stop =>
    rintro D c pre W hD hpre ⟨rfl, pre', x, hpe, hno, hyes, hS⟩ hK
    obtain ⟨g0, g1, g2, g3, g4, g5⟩ := hS.cells
    obtain ⟨f0, f1, f2, f3, f4⟩ := hS.frozen
    have HS := Aside0.mk hS
    have HP := Aside0.mk hpre
    have HE := Aside0.mk hpe
    have HN := Aside0.mk hno
    have HY := Aside0.mk hyes
    clear hS hpre hpe hno hyes
    have o := HS.out.o
    have e1 : ¬ b3 = b1 := by omega
    have e2 : ¬ b1 = b3 := by omega
    have e3 : ¬ b2 = b1 := by omega
    have e4 : ¬ b1 = b2 := by omega
    clear o
    gi_wp2
    refine meetM ?_
    apply Exists.intro
    apply Exists.intro
    refine ⟨?_, ?_⟩
    · gi_region
      all_goals exact ⟨rfl, rfl⟩
    gi_wp2_with fail
    rw [Exit.noGoto_ret]
    obtain ⟨d1, d2, d3⟩ := HS.out.last hD hK x.f0.f0 x.f0.f1
    have d4 := blk_cell d2 0
    have d5 := blk_cell d2 1
    refine ⟨by simp, .inl ⟨_, _, rfl, run_takeDeferred d1, ?_⟩⟩
    refine ⟨.tuple #[.agg #[.int .i64 x.f0.f0, .int .i64 x.f0.f1], .bool true], ?_, ?_⟩
    · simp at d4 d5
      simp [results, Try.results20, go_sem, d4, d5]
    · refine ⟨x.f0.f0, x.f0.f1, true, ?_, rfl, d3⟩
      obtain ⟨q, hq⟩ := HP.out
      unfold pglog_Common.f
      rw [show xs.reverse.find? (fun x => ys.any (alikeB x)) = some x from by
        rw [← List.take_append_drop q xs.reverse, ← hq, HE.out, List.append_assoc, List.find?_append, List.find?_eq_none.2 (fun z hz => by rw [HN.out z hz]; simp)]
        simp [HY.out]]
theorem pglog_Common.calls (A0 : Option Addr) (c0 : Nat) (l0 : List S34) (A1 : Option Addr) (c1 : Nat) (l1 : List S34) (r1 : Int) (r2 : Int) (r3 : Bool) (w : World) (hr0 : Kd.C k34 w A0 l0.length l0) (hc0 : l0.length ≤ c0) (hr1 : Kd.C k34 w A1 l1.length l1) (hc1 : l1.length ≤ c1) (h : pglog_Common.f l0 l1 = some (r1, r2, r3)) :
    Calls Try.prog 20 #[.slice A0 l0.length c0, .slice A1 l1.length c1] w fun e w' => e = .returned (.tuple #[.agg #[.int .i64 r1, .int .i64 r2], .bool r3]) ∧ Below w.heap.size w w' := by
  refine (callsIn_wide.1 (common_in A0 c0 l0 A1 c1 l1 w hr0 hc0 hr1 hc1)).mono ?_
  rintro e w' ⟨s1, s2, s3, hs, rfl, hb⟩
  rw [h] at hs
  cases hs
  exact ⟨rfl, hb⟩
end Go.Proofs.Ytbdciklcckjknaa.P
