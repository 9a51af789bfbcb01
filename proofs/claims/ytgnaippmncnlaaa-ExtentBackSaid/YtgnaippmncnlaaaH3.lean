import Derived.Test.YtgnaippmncnlaaaP2
import Derived.Test.YtgnaippmncnlaaaH2
import Derived.StillTailTactics
namespace Go.Proofs.Ytgnaippmncnlaaa.P
open Go.RowKit Go.Proofs.YtgnaippmncnlaaaW.PrintWords Go.Proofs.YtgnaippmncnlaaaW.PrintLast Go.Proofs.YtgnaippmncnlaaaW.PrintMore Go.Proofs.YtgnaippmncnlaaaW.HB
set_option linter.unusedVariables false

def okE (x : S47) : Bool := decide (1 ≤ x.f1 ∧ x.f1 ≤ 65536 ∧ 0 ≤ x.f0 ∧ x.f0 ≤ 65536)
def goodL (l : List S47) : Bool := decide (l.length ≤ 65536) && l.all okE
def sumL (l : List S47) : Int := (l.map fun x => x.f1).sum
def takeGo : List S47 → Int → List S47 × List S47
  | [], _ => ([], [])
  | x :: l, n => if n < x.f1 then ([⟨x.f0, n⟩], ⟨x.f0 + n, x.f1 - n⟩ :: l) else if n = x.f1 then ([x], l) else (x :: (takeGo l (n - x.f1)).1, (takeGo l (n - x.f1)).2)
def extent_Take.f (l : List S47) (n : Int) : Option (List S47 × List S47 × Int) :=
  if goodL l then
    if n < 0 then some ([], l, 20)
    else if sumL l < n then some ([], l, 23)
    else if n = 0 then some ([], l, 0)
    else match l.findIdx? (fun x => decide (n ≤ x.f1)) with
      | some i => some ([⟨(rd_T47 l i).f0, n⟩], (l.set i ⟨(rd_T47 l i).f0 + n, (rd_T47 l i).f1 - n⟩).filter (fun x => !(x.f1 == 0)), 0)
      | none => some ((takeGo l n).1, (takeGo l n).2, 0)
  else none

theorem goodL_mem {l : List S47} (h : goodL l = true) {x : S47} (hx : x ∈ l) : 1 ≤ x.f1 ∧ x.f1 ≤ 65536 ∧ 0 ≤ x.f0 ∧ x.f0 ≤ 65536 := by
  simp only [goodL, Bool.and_eq_true, List.all_eq_true] at h
  have := h.2 x hx
  simpa [okE] using this
theorem goodL_len {l : List S47} (h : goodL l = true) : l.length ≤ 65536 := by
  simp only [goodL, Bool.and_eq_true] at h
  exact of_decide_eq_true h.1
theorem sumL_append (a b : List S47) : sumL (a ++ b) = sumL a + sumL b := by simp [sumL]
theorem sumL_bound (l : List S47) (h : ∀ x ∈ l, 1 ≤ x.f1 ∧ x.f1 ≤ 65536) : (l.length : Int) ≤ sumL l ∧ sumL l ≤ 65536 * l.length := by
  induction l with
  | nil => simp [sumL]
  | cons x l ih =>
    have h1 := ih (fun y hy => h y (by simp [hy]))
    have h2 := h x (by simp)
    simp only [sumL, List.map_cons, List.sum_cons, List.length_cons] at *
    omega
theorem sumL_take_succ (l : List S47) (i : Nat) (h : i < l.length) : sumL (l.take (i + 1)) = sumL (l.take i) + (rd_T47 l i).f1 := by
  rw [List.take_succ_eq_append_getElem h, sumL_append, rd_at_E l i h]; simp [sumL]
theorem count_go (l : List S47) (h : goodL l = true) : ∀ (m i k : Nat), i + m = l.length → m < k → extent_Count.l0 k (sumL (l.take i)) l (l.length : Int) i = some (sumL l) := by
  intro m
  induction m with
  | zero =>
    intro i k hi hk
    obtain ⟨k, rfl⟩ : ∃ q, k = q + 1 := ⟨k - 1, by omega⟩
    simp only [extent_Count.l0]
    rw [if_neg (by omega), List.take_of_length_le (by omega)]
  | succ m ih =>
    intro i k hi hk
    obtain ⟨k, rfl⟩ : ∃ q, k = q + 1 := ⟨k - 1, by omega⟩
    have hlt : i < l.length := by omega
    have hl := goodL_len h
    have hm : rd_T47 l i ∈ l := by rw [rd_at_E l i hlt]; exact List.getElem_mem _
    have hb := goodL_mem h hm
    have hs := sumL_bound (l.take i) (fun x hx => by have := goodL_mem h (List.mem_of_mem_take hx); omega)
    rw [List.length_take] at hs
    simp only [extent_Count.l0]
    rw [if_pos (by omega), if_pos (by omega), if_pos (by omega)]
    have e1 : wrap64 ((i : Int) + 1) = ((i + 1 : Nat) : Int) := by unfold wrap64; omega
    have e2 : wrap64 (sumL (l.take i) + mx ((rd_T47 l i).f1) 0) = sumL (l.take (i + 1)) := by
      rw [sumL_take_succ l i hlt]
      unfold mx wrap64
      rw [if_neg (by omega)] <;> omega
    rw [e1, e2]
    exact ih (i + 1) k (by omega) (by omega)
theorem count_good (l : List S47) (h : goodL l = true) : extent_Count.f (l.length + 1) l = some (sumL l) := by
  have := count_go l h l.length 0 (l.length + 1) (by omega) (by omega)
  simpa [extent_Count.f, sumL] using this

def TakePost (w : World) (r1 r2 : List S47) (r3 : Int) (e : Ending) (w' : World) : Prop :=
  ∃ v0_ v1_ : Value, e = .returned (.tuple #[v0_, v1_, .int .i64 r3]) ∧ Kd.R k47 47 w' w.heap.size (fun k_ => some k_ ≠ (v1_ : Value).ownBlock) v0_ r1 ∧ Kd.R k47 47 w' w.heap.size (fun k_ => some k_ ≠ (v0_ : Value).ownBlock) v1_ r2 ∧ Below w.heap.size w w'
structure TakeSt (w wx : World) (g cap : Nat) (n : Int) (xs : List S47) : Prop where
  box : wx.cell? ⟨w.heap.size, 0, none⟩ = some (.int .i64 n)
  boxf : wx.frozen? ⟨w.heap.size, 0, none⟩ = false
  row : Kd.R k47 47 wx w.heap.size (fun k => k ≠ w.heap.size) (.slice (some ⟨g, 0, none⟩) xs.length cap) xs
  below : Below w.heap.size w wx
  gb : w.heap.size < g
theorem TakeSt.low {w wx : World} {g cap : Nat} {n : Int} {xs : List S47} (h : TakeSt w wx g cap n xs) : w.heap.size < wx.heap.size := World.block_lt_of_cell? _ _ h.box
theorem TakeSt.cap {w wx : World} {g cap : Nat} {n : Int} {xs : List S47} (h : TakeSt w wx g cap n xs) : xs.length ≤ cap := (Kd.R_reads' h.row).2.1
theorem TakeSt.step {w wx wy : World} {g cap : Nat} {n : Int} {xs : List S47} (h : TakeSt w wx g cap n xs) (hb : Below wx.heap.size wx wy) : TakeSt w wy g cap n xs :=
  ⟨(hb.cell h.low).trans h.box, (hb.frozen h.low).trans h.boxf, Kd.R_below h.row hb, below_then h.below h.below.size hb, h.gb⟩
theorem TakeSt.alloc {w wx : World} {g cap : Nat} {n : Int} {xs : List S47} (h : TakeSt w wx g cap n xs) (o : Obj) : TakeSt w (wx.alloc o) g cap n xs := h.step (below_alloc (Below.refl _ _) o)
theorem TakeSt.drew {w wx : World} {g cap : Nat} {n : Int} {xs : List S47} (h : TakeSt w wx g cap n xs) : TakeSt w wx.drew g cap n xs := h.step (Below.refl _ _).drew
theorem TakeSt.cells {w wx : World} {g cap : Nat} {n : Int} {xs : List S47} (h : TakeSt w wx g cap n xs) (i : Nat) (hi : i < xs.length) :
    wx.cell? ⟨g, i * 2, none⟩ = some (.int .i64 (rd_T47 xs i).f0) ∧ wx.cell? ⟨g, i * 2 + 1, none⟩ = some (.int .i64 (rd_T47 xs i).f1) ∧ wx.frozen? ⟨g, i * 2, none⟩ = false ∧ wx.frozen? ⟨g, i * 2 + 1, none⟩ = false := by
  obtain ⟨ce, hcl, hM, hcc, hfr⟩ := Kd.R_elem h.row z47 (i : Int) (by omega) (by omega)
  obtain rfl := k47_openM hM
  exact ⟨hcc 0 _ rfl, hcc 1 _ rfl, hfr 0, hfr 1⟩
theorem TakeSt.setBox {w wx : World} {g cap : Nat} {n : Int} {xs : List S47} (h : TakeSt w wx g cap n xs) (m : Int) : TakeSt w (wx.setCell ⟨w.heap.size, 0, none⟩ (.int .i64 m)) g cap m xs :=
  ⟨World.cell?_setCell_same' _ _ _ (by rw [h.box]; rfl), by rw [World.frozen?_setCell]; exact h.boxf, Kd.R_far h.row (fun k hk => hk) _, h.below.setCell (Nat.le_refl _) _, h.gb⟩
theorem TakeSt.set0 {w wx : World} {g cap : Nat} {n : Int} {xs : List S47} (h : TakeSt w wx g cap n xs) (i : Nat) (hi : i < xs.length) (m : Int) : TakeSt w (wx.setCell ⟨g, i * 2, none⟩ (.int .i64 m)) g cap n (xs.set i ⟨m, (rd_T47 xs i).f1⟩) := by
  obtain ⟨ce, hcl, hM, hcc, hfr⟩ := Kd.R_elem h.row z47 (i : Int) (by omega) (by omega)
  obtain rfl := k47_openM hM
  have hseg := Kd.R_seg h.row (i : Int) (by omega) (by omega) (seg := [.int .i64 m]) (j := 0) hcl hcc (show 1 ≤ 2 from by decide) (x' := ⟨m, (rd_T47 xs i).f1⟩) (okp := fun k => k ≠ w.heap.size ∧ k ≠ g) (k47_mkM _ _ _ (⟨m, (rd_T47 xs i).f1⟩ : S47)) (fun _ hk => hk)
  have hgb := h.gb
  have hlow := h.low
  refine ⟨?_, by rw [World.frozen?_setCell]; exact h.boxf, by rw [List.length_set]; exact hseg.1, h.below.setCell (by show w.heap.size ≤ g; omega) _, h.gb⟩
  exact (hseg.2.cell_far ⟨w.heap.size, 0, none⟩ hlow (by simp; omega)).trans h.box
theorem TakeSt.set1 {w wx : World} {g cap : Nat} {n : Int} {xs : List S47} (h : TakeSt w wx g cap n xs) (i : Nat) (hi : i < xs.length) (m : Int) : TakeSt w (wx.setCell ⟨g, i * 2 + 1, none⟩ (.int .i64 m)) g cap n (xs.set i ⟨(rd_T47 xs i).f0, m⟩) := by
  obtain ⟨ce, hcl, hM, hcc, hfr⟩ := Kd.R_elem h.row z47 (i : Int) (by omega) (by omega)
  obtain rfl := k47_openM hM
  have hseg := Kd.R_seg h.row (i : Int) (by omega) (by omega) (seg := [.int .i64 m]) (j := 1) hcl hcc (show 2 ≤ 2 from by decide) (x' := ⟨(rd_T47 xs i).f0, m⟩) (okp := fun k => k ≠ w.heap.size ∧ k ≠ g) (k47_mkM _ _ _ (⟨(rd_T47 xs i).f0, m⟩ : S47)) (fun _ hk => hk)
  have hgb := h.gb
  have hlow := h.low
  refine ⟨?_, by rw [World.frozen?_setCell]; exact h.boxf, by rw [List.length_set]; exact hseg.1, h.below.setCell (by show w.heap.size ≤ g; omega) _, h.gb⟩
  exact (hseg.2.cell_far ⟨w.heap.size, 0, none⟩ hlow (by simp; omega)).trans h.box

set_option maxHeartbeats 2000000 in
theorem take_few (A0 : Option Addr) (c0 : Nat) (l0 : List S47) (a1 : Int) (w : World) (hr0 : Kd.C k47 w A0 l0.length l0) (hc0 : l0.length ≤ c0) (hg : goodL l0 = true) (hn : 0 ≤ a1) (hs : sumL l0 < a1) :
    Calls Try.prog 13 #[.slice A0 l0.length c0, .int .i64 a1] w (TakePost w [] l0 23) := by
  have HR0 := Aside0.mk hr0
  have HC0 := Aside0.mk hc0
  have HG := Aside0.mk hg
  have hl : l0.length < 8796093022208 := by have := goodL_len hg; omega
  have hlt : decide (a1 < 0) = false := by simp; omega
  have hgt : decide (sumL l0 < a1) = true := by simp; omega
  clear hr0 hc0 hg hn hs
  go_enter Try.func13, Try.ntmps13
  have HB := Aside0.mk (below_alloc (Below.refl w.heap.size w) (.cells #[.int .i64 a1] 3))
  go_wp2
  go_step3
  go_wp2_with (first | (go_at_call 23; refine (slices_Clone_E.calls A0 c0 l0 l0 _ (Kd.C_below HR0.out HB.out) HC0.out (by unfold slices_Clone_E.f; rw [if_pos hl])).mono ?_; rintro e w1 ⟨v, rfl, hR, hB⟩; have HR := Aside0.mk hR; have HB1 := Aside0.mk (below_then HB.out HB.out.size hB); have hc3 : w1.cell? ⟨w.heap.size, 0, none⟩ = some (.int .i64 a1) := (hB.cell (p := ⟨w.heap.size, 0, none⟩) (by simp)).trans (cell_fresh _ _ _ _ _ rfl); have hf3 : w1.frozen? ⟨w.heap.size, 0, none⟩ = false := (hB.frozen (p := ⟨w.heap.size, 0, none⟩) (by simp)).trans (frozen_fresh _ _ _ _); clear hR hB))
  go_region_held3 (fun w' => w'.cell? ⟨w.heap.size, 0, none⟩ = some (.int .i64 a1) ∧ Below w1.heap.size w1 w') ((refine ⟨?_, ?_⟩ <;> first | assumption | exact hc3 | exact (Below.refl _ _).drew))
      (first
        | (go_at_call 20; have hh : World.cell? _ ⟨w.heap.size, 0, none⟩ = some (.int .i64 a1) ∧ Below w1.heap.size w1 _ := (by assumption); refine (extent_Count.calls (l0.length + 1) A0 c0 l0 (sumL l0) _ (Kd.C_below HR0.out (below_then HB1.out HB1.out.size hh.2)) HC0.out (count_good l0 HG.out)).mono ?_; rintro e w2 ⟨rfl, hb⟩; have hb1 := (hb.cell (p := ⟨w.heap.size, 0, none⟩) (World.block_lt_of_cell? _ _ hh.1)).trans hh.1; have hb3 : Below w1.heap.size w1 w2 := below_then hh.2 hh.2.size hb; clear hb))
  have HB2 := Aside0.mk hb3
  clear hb3 hh
  go_wp2
  rw [Exit.noGoto_ret]
  go_ret3
  refine ⟨_, _, rfl, Kd.R_nil _ _ _ _ _, ?_, ?_⟩
  · exact Kd.R_mono (Kd.R_lower (Kd.R_below HR.out HB2.out) HB.out.size) (fun _ _ h => by cases h)
  · exact below_then HB1.out HB1.out.size HB2.out
set_option maxHeartbeats 2000000 in
theorem take_neg (A0 : Option Addr) (c0 : Nat) (l0 : List S47) (a1 : Int) (w : World) (hr0 : Kd.C k47 w A0 l0.length l0) (hc0 : l0.length ≤ c0) (hg : goodL l0 = true) (hn : a1 < 0) :
    Calls Try.prog 13 #[.slice A0 l0.length c0, .int .i64 a1] w (TakePost w [] l0 20) := by
  have HR0 := Aside0.mk hr0
  have HC0 := Aside0.mk hc0
  have HG := Aside0.mk hg
  have hl : l0.length < 8796093022208 := by have := goodL_len hg; omega
  have hlt : decide (a1 < 0) = true := by simp; omega
  clear hr0 hc0 hg hn
  go_enter Try.func13, Try.ntmps13
  have HB := Aside0.mk (below_alloc (Below.refl w.heap.size w) (.cells #[.int .i64 a1] 3))
  go_wp2
  go_step3
  go_wp2_with (first | (go_at_call 23; refine (slices_Clone_E.calls A0 c0 l0 l0 _ (Kd.C_below HR0.out HB.out) HC0.out (by unfold slices_Clone_E.f; rw [if_pos hl])).mono ?_; rintro e w1 ⟨v, rfl, hR, hB⟩; have HR := Aside0.mk hR; have HB1 := Aside0.mk (below_then HB.out HB.out.size hB); have hc3 : w1.cell? ⟨w.heap.size, 0, none⟩ = some (.int .i64 a1) := (hB.cell (p := ⟨w.heap.size, 0, none⟩) (by simp)).trans (cell_fresh _ _ _ _ _ rfl); have hf3 : w1.frozen? ⟨w.heap.size, 0, none⟩ = false := (hB.frozen (p := ⟨w.heap.size, 0, none⟩) (by simp)).trans (frozen_fresh _ _ _ _); clear hR hB))
  rw [Exit.noGoto_ret]
  go_ret3
  have HB2 := Aside0.mk (Below.refl w1.heap.size w1)
  refine ⟨_, _, rfl, Kd.R_nil _ _ _ _ _, ?_, ?_⟩
  · exact Kd.R_mono (Kd.R_lower (Kd.R_below HR.out HB2.out) HB.out.size) (fun _ _ h => by cases h)
  · exact below_then HB1.out HB1.out.size HB2.out
set_option maxHeartbeats 2000000 in
theorem take_zero (A0 : Option Addr) (c0 : Nat) (l0 : List S47) (a1 : Int) (w : World) (hr0 : Kd.C k47 w A0 l0.length l0) (hc0 : l0.length ≤ c0) (hg : goodL l0 = true) (hn : a1 = 0) (hs : a1 ≤ sumL l0) :
    Calls Try.prog 13 #[.slice A0 l0.length c0, .int .i64 a1] w (TakePost w [] l0 0) := by
  have HR0 := Aside0.mk hr0
  have HC0 := Aside0.mk hc0
  have HG := Aside0.mk hg
  have hl : l0.length < 8796093022208 := by have := goodL_len hg; omega
  have hlt : decide (a1 < 0) = false := by simp; omega
  have hgt : decide (sumL l0 < a1) = false := by simp; omega
  have hz : (a1 == 0) = true := by simp; omega
  clear hr0 hc0 hg hn hs
  go_enter Try.func13, Try.ntmps13
  have HB := Aside0.mk (below_alloc (Below.refl w.heap.size w) (.cells #[.int .i64 a1] 3))
  go_wp2
  go_step3
  go_wp2_with (first | (go_at_call 23; refine (slices_Clone_E.calls A0 c0 l0 l0 _ (Kd.C_below HR0.out HB.out) HC0.out (by unfold slices_Clone_E.f; rw [if_pos hl])).mono ?_; rintro e w1 ⟨v, rfl, hR, hB⟩; have HR := Aside0.mk hR; have HB1 := Aside0.mk (below_then HB.out HB.out.size hB); have hc3 : w1.cell? ⟨w.heap.size, 0, none⟩ = some (.int .i64 a1) := (hB.cell (p := ⟨w.heap.size, 0, none⟩) (by simp)).trans (cell_fresh _ _ _ _ _ rfl); have hf3 : w1.frozen? ⟨w.heap.size, 0, none⟩ = false := (hB.frozen (p := ⟨w.heap.size, 0, none⟩) (by simp)).trans (frozen_fresh _ _ _ _); clear hR hB))
  go_region_held3 (fun w' => w'.cell? ⟨w.heap.size, 0, none⟩ = some (.int .i64 a1) ∧ Below w1.heap.size w1 w') ((refine ⟨?_, ?_⟩ <;> first | assumption | exact hc3 | exact (Below.refl _ _).drew))
      (first
        | (go_at_call 20; have hh : World.cell? _ ⟨w.heap.size, 0, none⟩ = some (.int .i64 a1) ∧ Below w1.heap.size w1 _ := (by assumption); refine (extent_Count.calls (l0.length + 1) A0 c0 l0 (sumL l0) _ (Kd.C_below HR0.out (below_then HB1.out HB1.out.size hh.2)) HC0.out (count_good l0 HG.out)).mono ?_; rintro e w2 ⟨rfl, hb⟩; have hb1 := (hb.cell (p := ⟨w.heap.size, 0, none⟩) (World.block_lt_of_cell? _ _ hh.1)).trans hh.1; have hb3 : Below w1.heap.size w1 w2 := below_then hh.2 hh.2.size hb; clear hb))
  have HB2 := Aside0.mk hb3
  clear hb3 hh
  go_wp2
  rw [Exit.noGoto_ret]
  go_ret3
  refine ⟨_, _, rfl, Kd.R_nil _ _ _ _ _, ?_, ?_⟩
  · exact Kd.R_mono (Kd.R_lower (Kd.R_below HR.out HB2.out) HB.out.size) (fun _ _ h => by cases h)
  · exact below_then HB1.out HB1.out.size HB2.out
theorem rd_set_E (l : List S47) (i : Nat) (h : i < l.length) (x : S47) : rd_T47 (l.set i x) i = x := by
  rw [rd_at_E _ _ (by simpa using h)]; simp
theorem far_cell {w : World} {a b : Addr} {v u : Value} (h : w.cell? b = some u) (hne : a.block ≠ b.block) : (w.setCell a v).cell? b = some u :=
  (World.cell?_setCell_other _ _ _ _ (fun e => hne (by rw [e]))).trans h
theorem R_flat {w : World} {base : Nat} {ok : Nat → Prop} {g n cap : Nat} {xs : List S47} (h : Kd.R k47 47 w base ok (.slice (some ⟨g, 0, none⟩) n cap) xs) : Kd.R k47 47 w base (fun k => k = g) (.slice (some ⟨g, 0, none⟩) n cap) xs := by
  obtain ⟨h0, inner, ho, hr⟩ := h
  refine ⟨fun k hk => by simp [Value.ownBlock] at hk; omega, inner, ho, hr.imp_ (fun p c hp => ?_)⟩
  obtain rfl := k47_openM hp
  exact k47_mkM _ _ _ p
theorem take_end_a {w w6 w7 : World} {g m cap : Nat} {x : S47} {r2 : List S47} (hb : Below w.heap.size w w6) (hgl : g < w6.heap.size) (hgb : w.heap.size < g) (hr : Kd.R k47 47 w7 w.heap.size (fun k => k ≠ w.heap.size) (.slice (some ⟨g, 0, none⟩) m cap) r2)
    (hg : (w6.alloc (.cells #[.int .i64 x.f0, .int .i64 x.f1] 47)).drew.grownBy w7 (some g)) :
    TakePost w [x] r2 0 (.returned (.tuple #[.slice (some ⟨w6.heap.size, 0, none⟩) 1 1, .slice (some ⟨g, 0, none⟩) m cap, .int .i64 0])) w7 := by
  have h1 : Kd.R k47 47 (w6.alloc (.cells #[.int .i64 x.f0, .int .i64 x.f1] 47)) w.heap.size (fun k => k = w6.heap.size) (.slice (some ⟨w6.heap.size, 0, none⟩) 1 1) [x] := R_one (k47_mkM _ _ _ x) hb.size rfl
  refine ⟨_, _, rfl, ?_, ?_, ?_⟩
  · refine Kd.R_mono (Kd.R_grown (R_flat (Kd.R_drew h1)) hg (fun k hk => ?_)) (fun k hk => ?_)
    · simp; omega
    · simp [Value.ownBlock]; omega
  · exact Kd.R_mono (R_flat hr) (fun k hk => by simp [Value.ownBlock]; omega)
  · exact pw_below_grown (below_alloc hb _).drew (some g) (by simp; omega) hg (fun k hk => by cases hk; omega)
theorem take_end_b {w w6 w7 : World} {g m cap : Nat} {x : S47} {r2 : List S47} (hb : Below w.heap.size w w6) (hgl : g < w6.heap.size) (hgb : w.heap.size < g) (hr : Kd.R k47 47 w7 w.heap.size (fun k => k ≠ w.heap.size) (.slice (some ⟨g, 0, none⟩) m cap) r2)
    (hg : w6.drew.grownBy w7 (some g)) :
    TakePost w [x] r2 0 (.returned (.tuple #[.slice (some ⟨w7.heap.size, 0, none⟩) 1 1, .slice (some ⟨g, 0, none⟩) m cap, .int .i64 0])) (w7.alloc (.cells #[.int .i64 x.f0, .int .i64 x.f1] 47)) := by
  have hb7 : Below w.heap.size w w7 := pw_below_grown hb.drew (some g) (by simp; omega) hg (fun k hk => by cases hk; omega)
  have hsz := hg.size
  simp at hsz
  have h1 : Kd.R k47 47 (w7.alloc (.cells #[.int .i64 x.f0, .int .i64 x.f1] 47)) w.heap.size (fun k => k ≠ g) (.slice (some ⟨w7.heap.size, 0, none⟩) 1 1) [x] := R_one (k47_mkM _ _ _ x) hb7.size (by omega)
  refine ⟨_, _, rfl, ?_, ?_, ?_⟩
  · exact Kd.R_mono h1 (fun k hk => by simp [Value.ownBlock]; omega)
  · exact Kd.R_mono (R_flat (Kd.R_alloc hr _)) (fun k hk => by simp [Value.ownBlock]; omega)
  · exact below_alloc hb7 _
set_option maxHeartbeats 2000000 in
theorem take_whole (A0 : Option Addr) (c0 : Nat) (l0 : List S47) (a1 : Int) (w : World) (hr0 : Kd.C k47 w A0 l0.length l0) (hc0 : l0.length ≤ c0) (hg : goodL l0 = true) (hn : 0 < a1) (hs : a1 ≤ sumL l0) (i : Nat) (hi : i < l0.length) (hx : idxOf (fun x => decide (a1 ≤ x.f1)) l0 = i) (han : a1 ≤ (rd_T47 l0 i).f1) :
    Calls Try.prog 13 #[.slice A0 l0.length c0, .int .i64 a1] w (TakePost w [⟨(rd_T47 l0 i).f0, a1⟩] ((l0.set i ⟨(rd_T47 l0 i).f0 + a1, (rd_T47 l0 i).f1 - a1⟩).filter (fun x => !(x.f1 == 0))) 0) := by
  have HR0 := Aside0.mk hr0
  have HC0 := Aside0.mk hc0
  have HG := Aside0.mk hg
  have hl : l0.length < 8796093022208 := by have := goodL_len hg; omega
  have hlt : decide (a1 < 0) = false := by simp; omega
  have hgt : decide (sumL l0 < a1) = false := by simp; omega
  have hz : (a1 == 0) = false := by simp; omega
  have HI := Aside0.mk hx
  have hpos : 0 < l0.length := by omega
  have hge : decide ((0 : Int) ≤ (i : Int)) = true := by simp
  clear hr0 hc0 hg hs hx
  go_enter Try.func13, Try.ntmps13
  have HB := Aside0.mk (below_alloc (Below.refl w.heap.size w) (.cells #[.int .i64 a1] 3))
  go_wp2
  go_step3
  go_wp2_with (first | (go_at_call 23; refine (slices_Clone_E.calls A0 c0 l0 l0 _ (Kd.C_below HR0.out HB.out) HC0.out (by unfold slices_Clone_E.f; rw [if_pos hl])).mono ?_; rintro e w1 ⟨v, rfl, hR, hB⟩; have HR := Aside0.mk hR; have HB1 := Aside0.mk (below_then HB.out HB.out.size hB); have hc3 : w1.cell? ⟨w.heap.size, 0, none⟩ = some (.int .i64 a1) := (hB.cell (p := ⟨w.heap.size, 0, none⟩) (by simp)).trans (cell_fresh _ _ _ _ _ rfl); have hf3 : w1.frozen? ⟨w.heap.size, 0, none⟩ = false := (hB.frozen (p := ⟨w.heap.size, 0, none⟩) (by simp)).trans (frozen_fresh _ _ _ _); clear hR hB))
  go_region_held3 (fun w' => w'.cell? ⟨w.heap.size, 0, none⟩ = some (.int .i64 a1) ∧ Below w1.heap.size w1 w') ((refine ⟨?_, ?_⟩ <;> first | assumption | exact hc3 | exact (Below.refl _ _).drew))
      (first
        | (go_at_call 20; have hh : World.cell? _ ⟨w.heap.size, 0, none⟩ = some (.int .i64 a1) ∧ Below w1.heap.size w1 _ := (by assumption); refine (extent_Count.calls (l0.length + 1) A0 c0 l0 (sumL l0) _ (Kd.C_below HR0.out (below_then HB1.out HB1.out.size hh.2)) HC0.out (count_good l0 HG.out)).mono ?_; rintro e w2 ⟨rfl, hb⟩; have hb1 := (hb.cell (p := ⟨w.heap.size, 0, none⟩) (World.block_lt_of_cell? _ _ hh.1)).trans hh.1; have hb3 : Below w1.heap.size w1 w2 := below_then hh.2 hh.2.size hb; clear hb))
  have HB2 := Aside0.mk hb3
  clear hb3 hh
  have hc4 : w2.cell? ⟨w.heap.size, 0, none⟩ = some (.int .i64 a1) := hb1
  have hf4 : w2.frozen? ⟨w.heap.size, 0, none⟩ = false := (HB2.out.frozen (p := ⟨w.heap.size, 0, none⟩) (World.block_lt_of_cell? _ _ hc3)).trans hf3
  have HR2 := Aside0.mk (Kd.R_mono (Kd.R_bound (Kd.R_below HR.out HB2.out)) (ok' := fun k => k ≠ w.heap.size) (fun k hk => by have := hk.2.1; simp at this; omega))
  have HB3 := Aside0.mk (below_then HB1.out HB1.out.size HB2.out)
  clear hc3 hf3 hb1
  obtain ⟨g, cap, hv, hgb, hgl, hgc⟩ := Kd.R_form HR2.out hpos
  subst hv
  have hg1 : w.heap.size < g := by simp at hgb; omega
  have HRD := Aside0.mk (Kd.R_reads' HR2.out)
  clear HR hgb hgl hgc
  go_wp2_with (first | (go_at_call 24; refine (slices_IndexFunc_E.calls 25 #[.pointer (some ⟨w.heap.size, 0, none⟩)] (fun x => decide (a1 ≤ x.f1)) (some ⟨g, 0, none⟩) cap l0 _ HRD.out.2.2 HRD.out.2.1 (Go.Proofs.enters_of Try.func25 (by kernel_rfl) rfl) (fun x _ w3 hw3 => extent_Take_1.calls x.f0 x.f1 a1 w.heap.size w3 ((hw3.cell (World.block_lt_of_cell? _ _ hc4)).trans hc4))).mono ?_; rintro e w3 ⟨rfl, hb⟩; rw [HI.out]; have HB4 := Aside0.mk hb; have hc5 : w3.cell? ⟨w.heap.size, 0, none⟩ = some (.int .i64 a1) := (hb.cell (World.block_lt_of_cell? _ _ hc4)).trans hc4; have hf5 : w3.frozen? ⟨w.heap.size, 0, none⟩ = false := (hb.frozen (World.block_lt_of_cell? _ _ hc4)).trans hf4; clear hb))
  have ST : TakeSt w w3 g cap a1 l0 := ⟨hc5, hf5, Kd.R_lower (Kd.R_below HR2.out HB4.out) HB.out.size, below_then HB3.out HB3.out.size HB4.out, hg1⟩
  have hl2 : (l0.length : Int) ≤ 65536 := by have := goodL_len HG.out; omega
  have hue := Try.underlying47
  clear hc5 hf5 HR2 HB4 HB3 HB1 HB2 HB HRD hc4 hf4
  have STA := Aside0.mk ST
  clear ST
  have hbi : 1 ≤ (rd_T47 l0 i).f1 ∧ (rd_T47 l0 i).f1 ≤ 65536 ∧ 0 ≤ (rd_T47 l0 i).f0 ∧ (rd_T47 l0 i).f0 ≤ 65536 := goodL_mem HG.out (by rw [rd_at_E l0 i hi]; exact List.getElem_mem _)
  obtain ⟨hbi1, hbi2, hbi3, hbi4⟩ := hbi
  obtain ⟨hx0, hx1, hy0, hy1⟩ := STA.out.cells i (by first | omega | (simp; omega))
  have hb0 := STA.out.box
  have hf0 := STA.out.boxf
  have hcap := STA.out.cap
  go_region_held3 (fun w' => w'.cell? ⟨g, i * 2, none⟩ = some (.int .i64 (rd_T47 l0 i).f0) ∧ w'.cell? ⟨w.heap.size, 0, none⟩ = some (.int .i64 a1)) ((refine ⟨?_, ?_⟩ <;> first | assumption | exact Lib.cell?_alloc_some _ hx0 | exact Lib.cell?_alloc_some _ hb0)) (first | fail)
  go_wp2_with (fail)
  obtain ⟨w4, hw4⟩ : ∃ W, W = (w3.alloc (.cells #[.int .i64 (rd_T47 l0 i).f0, .int .i64 a1] 47)).drew := ⟨_, rfl⟩
  have ST4 := Aside0.mk (show TakeSt w w4 _ _ _ _ from hw4 ▸ (STA.out.alloc _).drew)
  have ht0 : w4.cell? ⟨w3.heap.size, 0, none⟩ = some (.int .i64 (rd_T47 l0 i).f0) := by rw [hw4]; exact cell_fresh _ _ _ _ _ rfl
  have ht1 : w4.cell? ⟨w3.heap.size, 1, none⟩ = some (.int .i64 a1) := by rw [hw4]; exact cell_fresh _ _ _ _ _ rfl
  have hgt : g < w3.heap.size := Kd.R_lt STA.out.row g rfl
  rw [← hw4]
  generalize w3.heap.size = t at *
  clear hw4 STA hx0 hx1 hy0 hy1 hb0 hf0
  obtain ⟨hx0, hx1, hy0, hy1⟩ := ST4.out.cells i (by first | omega | (simp; omega))
  have hb0 := ST4.out.box
  have hf0 := ST4.out.boxf
  have hcap := ST4.out.cap
  go_still_tail 9, (by kernel_rfl)
  go_wp2_with (fail)
  obtain ⟨w5, hw5⟩ : ∃ W, W = (w4.setCell ⟨g, i * 2, none⟩ (.int .i64 ((rd_T47 l0 i).f0 + a1))).drew := ⟨_, rfl⟩
  have ST5 := Aside0.mk (show TakeSt w w5 _ _ _ _ from hw5 ▸ (ST4.out.set0 i hi _).drew)
  replace ht0 : w5.cell? ⟨t, 0, none⟩ = some (.int .i64 (rd_T47 l0 i).f0) := by rw [hw5]; exact far_cell ht0 (by simp; omega)
  replace ht1 : w5.cell? ⟨t, 1, none⟩ = some (.int .i64 a1) := by rw [hw5]; exact far_cell ht1 (by simp; omega)
  rw [← hw5]
  clear hw5 ST4 hx0 hx1 hy0 hy1 hb0 hf0 hcap
  have hset := Aside0.mk (rd_set_E l0 i hi ⟨(rd_T47 l0 i).f0 + a1, (rd_T47 l0 i).f1⟩)
  obtain ⟨hx0, hx1, hy0, hy1⟩ := ST5.out.cells i (by simp; omega)
  rw [hset.out] at hx0 hx1
  have hb0 := ST5.out.box
  have hf0 := ST5.out.boxf
  have hcap : l0.length ≤ cap := by have := ST5.out.cap; simpa using this
  go_still_tail 9, (by kernel_rfl)
  go_wp2_with (fail)
  obtain ⟨w6, hw6⟩ : ∃ W, W = (w5.setCell ⟨g, i * 2 + 1, none⟩ (.int .i64 ((rd_T47 l0 i).f1 - a1))).drew := ⟨_, rfl⟩
  have HR6 : Kd.R k47 47 w6 w.heap.size (fun k => k ≠ w.heap.size) (.slice (some ⟨g, 0, none⟩) l0.length cap) (l0.set i ⟨(rd_T47 l0 i).f0 + a1, (rd_T47 l0 i).f1 - a1⟩) := by
    have := (ST5.out.set1 i (by simp; omega) ((rd_T47 l0 i).f1 - a1)).drew.row
    rw [← hw6, hset.out, List.set_set] at this
    simpa using this
  have HB6 : Below w.heap.size w w6 := by
    have := (ST5.out.set1 i (by simp; omega) ((rd_T47 l0 i).f1 - a1)).drew.below
    rwa [← hw6] at this
  replace ht0 : w6.cell? ⟨t, 0, none⟩ = some (.int .i64 (rd_T47 l0 i).f0) := by rw [hw6]; exact far_cell ht0 (by simp; omega)
  replace ht1 : w6.cell? ⟨t, 1, none⟩ = some (.int .i64 a1) := by rw [hw6]; exact far_cell ht1 (by simp; omega)
  rw [← hw6]
  have HS := Aside0.mk HR6
  have HB := Aside0.mk HB6
  clear hw6 ST5 hx0 hx1 hy0 hy1 hb0 hf0 hset HR6 HB6
  go_region_held3 (fun w' => w'.cell? ⟨t, 0, none⟩ = some (.int .i64 (rd_T47 l0 i).f0) ∧ w'.cell? ⟨t, 1, none⟩ = some (.int .i64 a1)) ((refine ⟨?_, ?_⟩ <;> first | assumption | exact ht0 | exact ht1 | exact Lib.cell?_alloc_some _ ht0 | exact Lib.cell?_alloc_some _ ht1 | exact Lib.cell?_alloc_some _ (by assumption)))
      (first
        | (go_at_call 26; have hh : World.cell? _ ⟨t, 0, none⟩ = some (.int .i64 (rd_T47 l0 i).f0) ∧ World.cell? _ ⟨t, 1, none⟩ = some (.int .i64 a1) := (by assumption); refine (extent_whole.calls g l0.length cap w.heap.size (fun k => k ≠ w.heap.size) _ _ (by (with_reducible repeat (first | apply Kd.R_alloc | apply Kd.R_drew)); exact HS.out)).mono ?_; rintro e w7 ⟨m, rfl, hR, hG⟩; have hh1 := hG.cell hh.1 (by simp; omega); have hh2 := hG.cell hh.2 (by simp; omega); clear hh))
  all_goals
    have HR7 := Aside0.mk hR
    have HG7 := Aside0.mk hG
    have hg6 := Kd.R_lt HS.out g rfl
    clear hR hG hh1 hh2 ht0 ht1
    go_wp2
    rw [Exit.noGoto_ret]
    go_ret3
  · exact take_end_a (x := ⟨(rd_T47 l0 i).f0, a1⟩) HB.out hg6 hg1 HR7.out HG7.out
  · exact take_end_b (x := ⟨(rd_T47 l0 i).f0, a1⟩) HB.out hg6 hg1 HR7.out HG7.out
end Go.Proofs.Ytgnaippmncnlaaa.P
