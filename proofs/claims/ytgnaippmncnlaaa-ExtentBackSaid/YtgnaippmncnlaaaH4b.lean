import Derived.Test.YtgnaippmncnlaaaH4
import Derived.StillTailTactics
import Derived.BigRegionIn
namespace Go.Proofs.Ytgnaippmncnlaaa.P
open Go.RowKit Go.Proofs.YtgnaippmncnlaaaW.PrintWords Go.Proofs.YtgnaippmncnlaaaW.PrintLast Go.Proofs.YtgnaippmncnlaaaW.PrintMore Go.Proofs.YtgnaippmncnlaaaW.HB
set_option linter.unusedVariables false
attribute [local go_sem] Oper.semAt_some

theorem R_nc {α : Type} {d : Kd α} {e : Nat} {w w1 : World} {base : Nat} {ok : Nat → Prop} {v : Value} {xs : List α} (h : d.R e w base ok v xs) {row : Option Nat} (hg : w.grownBy w1 row) (hr : ∀ r, row = some r → ∃ o : Obj, w.heap[r]? = some o ∧ o.isCells = false) : d.R e w1 base ok v xs := by
  refine Kd.R_mono (Kd.R_step (Kd.R_bound h) (fun k hk hlt => hg.block k hlt (fun e' => ?_))) (fun k hk => hk.1)
  obtain ⟨_, _, _, q, _, cells, hc⟩ := hk
  obtain ⟨o, ho, hoc⟩ := hr k e'.symm
  rw [hc] at ho; cases ho; cases hoc
theorem boxed_nc {w w1 : World} {B t : Nat} {v : Value} (h : Boxed w B t v) {row : Option Nat} (hg : w.grownBy w1 row) (hr : ∀ r, row = some r → ∃ o : Obj, w.heap[r]? = some o ∧ o.isCells = false) : Boxed w1 B t v :=
  h.kept hg (fun e' => by
    obtain ⟨o, ho, hoc⟩ := hr B e'.symm
    rw [show w.heap[B]? = _ from h] at ho; cases ho; cases hoc)

structure ChLoop (w : World) (b1 b2 b3 b4 b5 gi b6 : Nat) (total : Int) (give : Bool) (wrong : Int) (vr : Value) (er : Int) (vout : Value) (free : List S47) (bs : List Bool) (wx : World) : Prop where
  ch : ChSt w wx w.heap.size b1 b2 b3 b4 total give wrong vr er
  x5 : Boxed wx b5 22 vout
  x6 : Boxed wx b6 64 (.slice (some ⟨gi, 0, none⟩) bs.length bs.length)
  out : Kd.R k47 47 wx w.heap.size (fun k => b4 < k ∧ k < b5) vout free
  row : Kd.R Kd.bool 4 wx w.heap.size (fun k => k = gi) (.slice (some ⟨gi, 0, none⟩) bs.length bs.length) bs
  o5 : b4 < b5
  og : b5 < gi
  o6 : gi < b6
section
variable {w wx wy : World} {b1 b2 b3 b4 b5 gi b6 : Nat} {total : Int} {give : Bool} {wrong : Int} {vr : Value} {er : Int} {vout : Value} {free : List S47} {bs : List Bool}
theorem ChLoop.step (h : ChLoop w b1 b2 b3 b4 b5 gi b6 total give wrong vr er vout free bs wx) (hb : Below wx.heap.size wx wy) : ChLoop w b1 b2 b3 b4 b5 gi b6 total give wrong vr er vout free bs wy :=
  ⟨h.ch.step hb, boxed_step h.x5 hb, boxed_step h.x6 hb, Kd.R_below h.out hb, Kd.R_below h.row hb, h.o5, h.og, h.o6⟩
theorem ChLoop.alloc (h : ChLoop w b1 b2 b3 b4 b5 gi b6 total give wrong vr er vout free bs wx) (o : Obj) : ChLoop w b1 b2 b3 b4 b5 gi b6 total give wrong vr er vout free bs (wx.alloc o) := h.step (below_alloc (Below.refl _ _) o)
theorem ChLoop.nc (h : ChLoop w b1 b2 b3 b4 b5 gi b6 total give wrong vr er vout free bs wx) {row : Option Nat} (hg : wx.grownBy wy row) (hr : ∀ r, row = some r → w.heap.size ≤ r ∧ ∃ o : Obj, wx.heap[r]? = some o ∧ o.isCells = false) : ChLoop w b1 b2 b3 b4 b5 gi b6 total give wrong vr er vout free bs wy :=
  have hr' := fun r e => (hr r e).2
  ⟨⟨boxed_nc h.ch.x0 hg hr', boxed_nc h.ch.x1 hg hr', boxed_nc h.ch.x2 hg hr', boxed_nc h.ch.x3 hg hr', boxed_nc h.ch.x4 hg hr', h.ch.o0, h.ch.o1, h.ch.o2, h.ch.o3, h.ch.o4, pw_below_grown h.ch.below row h.ch.below.size hg (fun k e => (hr k e).1)⟩,
    boxed_nc h.x5 hg hr', boxed_nc h.x6 hg hr', R_nc h.out hg hr', R_nc h.row hg hr', h.o5, h.og, h.o6⟩
theorem ChLoop.bit (h : ChLoop w b1 b2 b3 b4 b5 gi b6 total give wrong vr er vout free bs wx) (i : Nat) (hi : i < bs.length) :
    wx.cell? ⟨gi, i, none⟩ = some (.bool (bs.getD i false)) ∧ wx.frozen? ⟨gi, i, none⟩ = false := by
  obtain ⟨ce, hcl, hM, hcc, hfr⟩ := Kd.R_elem h.row false (i : Int) (by omega) (by omega)
  obtain rfl : ce = [.bool (bs.getD i false)] := hM
  have h1 := hcc 0 _ rfl
  have h2 := hfr 0
  rw [show (Kd.bool).sz = 1 from rfl] at h1 h2
  simp only [Int.toNat_natCast, Nat.mul_one, Nat.add_zero] at h1 h2
  exact ⟨h1, h2⟩
theorem ChLoop.setBit (h : ChLoop w b1 b2 b3 b4 b5 gi b6 total give wrong vr er vout free bs wx) (i : Nat) (hi : i < bs.length) (b : Bool) : ChLoop w b1 b2 b3 b4 b5 gi b6 total give wrong vr er vout free (bs.set i b) (wx.setCell ⟨gi, i, none⟩ (.bool b)) := by
  obtain ⟨ce, hcl, hM, hcc, hfr⟩ := Kd.R_elem h.row false (i : Int) (by omega) (by omega)
  obtain rfl : ce = [.bool (bs.getD i false)] := hM
  have hseg := Kd.R_seg h.row (i : Int) (by omega) (by omega) (seg := [.bool b]) (j := 0) hcl hcc (show 1 ≤ 1 from by decide) (x' := b) (okp := fun k => k = gi ∧ k ≠ gi) rfl (fun _ hk => hk)
  rw [show (Kd.bool).sz = 1 from rfl] at hseg
  simp only [Int.toNat_natCast, Nat.mul_one, Nat.add_zero] at hseg
  obtain ⟨hR, hG⟩ := hseg
  have o0 := h.ch.o0; have o1 := h.ch.o1; have o2 := h.ch.o2; have o3 := h.ch.o3; have o4 := h.ch.o4; have o5 := h.o5; have og := h.og; have o6 := h.o6
  have hne : ∀ k, k ≠ gi → some k ≠ some gi := fun k hk e => hk (by simpa using e)
  have hW : wx.setCells gi i [.bool b] = wx.setCell ⟨gi, i, none⟩ (.bool b) := rfl
  rw [hW] at hR hG
  refine ⟨⟨h.ch.x0.kept hG (hne _ (by omega)), h.ch.x1.kept hG (hne _ (by omega)), h.ch.x2.kept hG (hne _ (by omega)), h.ch.x3.kept hG (hne _ (by omega)), h.ch.x4.kept hG (hne _ (by omega)), h.ch.o0, o1, o2, o3, o4, h.ch.below.setCell (by show _ ≤ gi; omega) _⟩,
    h.x5.kept hG (hne _ (by omega)), ?_, Kd.R_grown h.out hG (fun k hk => hne k (by omega)), ?_, o5, og, o6⟩
  · rw [List.length_set]; exact h.x6.kept hG (hne _ (by omega))
  · rw [List.length_set]; exact hR
end
theorem chloop_from {w : World} {b1 b2 b3 b4 b5 gi b6 : Nat} {total : Int} {give : Bool} {wrong : Int} {vr : Value} {er : Int} {vout : Value} {free : List S47} {β : Type} {f : β → List Bool} {B : Nat} (hB : w.heap.size ≤ B) : OwnFrom B (fun (s : β) W => ChLoop w b1 b2 b3 b4 b5 gi b6 total give wrong vr er vout free (f s) W) :=
  fun s X Y row hs hg hr => hs.nc hg (fun r e => ⟨Nat.le_trans hB (hr r e).1, (hr r e).2⟩)
theorem inB_good {total : Int} (h : total ≤ 65536) {x : S47} (hx : inB total x = true) : 0 ≤ x.f0 ∧ x.f0 + x.f1 ≤ total ∧ 1 ≤ x.f1 := by
  have := of_decide_eq_true hx
  omega
theorem secs_mem {total : Int} (h : total ≤ 65536) {l : List S47} (hl : ∀ x ∈ l, inB total x = true) {v : Int} (hv : v ∈ secs l) : 0 ≤ v ∧ v < total := by
  simp only [secs, List.mem_flatMap, List.mem_map, List.mem_range] at hv
  obtain ⟨x, hx, k, hk, rfl⟩ := hv
  have := inB_good h (hl x hx)
  omega
theorem marks0_snoc (total : Int) (l : List Int) (k : Int) : marks0 total (l ++ [k]) = (marks0 total l).set k.toNat true := by simp [marks0]
theorem marks0_len (total : Int) (l : List Int) : (marks0 total l).length = total.toNat := by
  unfold marks0
  suffices h : ∀ (m : List Bool), (l.foldl (fun is k => is.set k.toNat true) m).length = m.length by rw [h]; simp
  induction l with
  | nil => intro m; rfl
  | cons k l ih => intro m; rw [List.foldl_cons, ih]; simp
theorem grownBy_setCellK (W : World) (b k : Nat) (v : Value) : W.grownBy (W.setCell ⟨b, k, none⟩ v) (some b) :=
  ⟨rfl, rfl, rfl, (KeepsWalks.setCell W _ v).size, fun j _ hj => Below.heap_setCell _ _ _ j (fun e => hj (by rw [e]))⟩
theorem infoB : (Try.prog.info? 4).map (fun i => (i.zero, i.size, i.bytes)) = some (some (.bool false), 1, 1) := by kernel_rfl
theorem R_madeB (w : World) (base n : Nat) (hb : base ≤ w.heap.size) (hn : n ≤ 9223372036854775807) : Kd.R Kd.bool 4 (w.alloc (.cells (madeCells #[.bool false] n) 4)) base (fun k => k = w.heap.size) (.slice (some ⟨w.heap.size, 0, none⟩) n n) (List.replicate n false) := by
  refine ⟨fun k hk => by simp [Value.ownBlock] at hk; exact hk.symm, (madeCells #[.bool false] n).toList, ?_, ?_⟩
  · have := World.ownsRow_lit (e := 4) (base := base) (size := 1) w (madeCells #[.bool false] n) n hb (by simpa [maxLen] using hn) (by simp [size_madeCells])
    rw [show (Kd.bool).sz = 1 from rfl, List.length_replicate]
    simpa using this
  · have := Kd.reps_made (R := Kd.bool.M (w.alloc (.cells (madeCells #[.bool false] n) 4)) base (fun k => k = w.heap.size ∧ some k ≠ (Value.slice (some ⟨w.heap.size, 0, none⟩) n n).ownBlock)) (z := .bool false) (size := 1) (z0 := false) rfl (by decide) rfl n
    rw [show (Kd.bool).sz = 1 from rfl]
    rw [Nat.mul_one] at this
    exact this
section
variable {w wx wy : World} {b1 b2 b3 b4 b5 gi b6 : Nat} {total : Int} {give : Bool} {wrong : Int} {vr : Value} {er : Int} {vout : Value} {free : List S47} {bs : List Bool}
theorem ChLoop.setRes (h : ChLoop w b1 b2 b3 b4 b5 gi b6 total give wrong vr er vout free bs wx) (vr' : Value) (er' : Int) : ChLoop w b1 b2 b3 b4 b5 gi b6 total give wrong vr' er' vout free bs ((wx.setCell ⟨b3, 0, none⟩ vr').setCell ⟨b4, 0, none⟩ (.int .i64 er')) := by
  have o0 := h.ch.o0; have o1 := h.ch.o1; have o2 := h.ch.o2; have o3 := h.ch.o3; have o4 := h.ch.o4; have o5 := h.o5; have og := h.og; have o6 := h.o6
  have g1 := grownBy_setCellK wx b3 0 vr'
  have g2 := grownBy_setCellK (wx.setCell ⟨b3, 0, none⟩ vr') b4 0 (.int .i64 er')
  have hne : ∀ k b : Nat, k ≠ b → some k ≠ some b := fun k b hk e => hk (by simpa using e)
  refine ⟨⟨(h.ch.x0.kept g1 (hne _ _ (by omega))).kept g2 (hne _ _ (by omega)), (h.ch.x1.kept g1 (hne _ _ (by omega))).kept g2 (hne _ _ (by omega)), (h.ch.x2.kept g1 (hne _ _ (by omega))).kept g2 (hne _ _ (by omega)), (h.ch.x3.set vr').kept g2 (hne _ _ (by omega)), (h.ch.x4.kept g1 (hne _ _ (by omega))).set _, h.ch.o0, o1, o2, o3, o4, (h.ch.below.setCell (by show _ ≤ b3; omega) _).setCell (by show _ ≤ b4; omega) _⟩,
    (h.x5.kept g1 (hne _ _ (by omega))).kept g2 (hne _ _ (by omega)), (h.x6.kept g1 (hne _ _ (by omega))).kept g2 (hne _ _ (by omega)),
    Kd.R_grown (Kd.R_grown h.out g1 (fun k hk => hne k _ (by omega))) g2 (fun k hk => hne k _ (by omega)), Kd.R_grown (Kd.R_grown h.row g1 (fun k hk => hne k _ (by omega))) g2 (fun k hk => hne k _ (by omega)), o5, og, o6⟩
end
theorem markAll_snoc (g : Bool) (k : Int) : ∀ (ks : List Int) (m : List Bool), markAll g m (ks ++ [k]) = (markAll g m ks).bind fun m' => if m'.getD k.toNat false = g then none else some (m'.set k.toNat g)
  | [], m => by simp [markAll]
  | j :: ks, m => by
    simp only [List.cons_append, markAll]
    split
    · rfl
    · exact markAll_snoc g k ks _
theorem markAll_none (g : Bool) : ∀ (a b : List Int) (m : List Bool), markAll g m a = none → markAll g m (a ++ b) = none
  | [], b, m, h => by simp [markAll] at h
  | j :: a, b, m, h => by
    simp only [List.cons_append, markAll] at h ⊢
    split
    · rfl
    · rename_i hc
      rw [if_neg hc] at h
      exact markAll_none g a b _ h
def ChPost (w : World) (r1 : List S47) (r2 : Int) (e : Ending) (w' : World) : Prop := ∃ v0_ : Value, e = .returned (.tuple #[v0_, .int .i64 r2]) ∧ Kd.R k47 47 w' w.heap.size (fun _ => True) v0_ r1 ∧ Below w.heap.size w w'
end Go.Proofs.Ytgnaippmncnlaaa.P
