import Derived.Test.YtgnaippmncnlaaaH4b
import Derived.Sort.BigQuietIn
namespace Go.Proofs.Ytgnaippmncnlaaa.P
open Go.RowKit Go.Proofs.YtgnaippmncnlaaaW.PrintWords Go.Proofs.YtgnaippmncnlaaaW.PrintLast Go.Proofs.YtgnaippmncnlaaaW.PrintMore Go.Proofs.YtgnaippmncnlaaaW.HB
set_option linter.unusedVariables false
attribute [local go_sem] Oper.semAt_some

def outs (ms : List Bool) (i : Nat) : List S47 := (List.range i).foldl (fun out k => packStep out k (ms.getD k false)) []
theorem outs_succ (ms : List Bool) (i : Nat) : outs ms (i + 1) = packStep (outs ms i) i (ms.getD i false) := by
  unfold outs; rw [List.range_succ, List.foldl_append]; rfl
theorem packStep_true (out : List S47) (k : Nat) : packStep out k true = if 0 < out.length ∧ (rd_T47 out ((out.length : Int) - 1)).f0 + (rd_T47 out ((out.length : Int) - 1)).f1 = k then out.set (out.length - 1) ⟨(rd_T47 out ((out.length : Int) - 1)).f0, (rd_T47 out ((out.length : Int) - 1)).f1 + 1⟩ else out ++ [⟨k, 1⟩] := by
  unfold packStep
  rw [if_neg (by simp)]
  rcases List.eq_nil_or_concat out with rfl | ⟨l, x, rfl⟩
  · simp
  · have e : rd_T47 (l ++ [x]) (((l ++ [x]).length : Int) - 1) = x := by
      have : (((l ++ [x]).length : Int) - 1) = ((l.length : Nat) : Int) := by simp
      rw [this, rd_at_E _ _ (by simp)]; simp
    rw [List.concat_eq_append] at *
    rw [e]
    simp
theorem packStep_ok (out : List S47) (i : Nat) (b : Bool) (h1 : out.length ≤ i) (h2 : ∀ x ∈ out, 0 ≤ x.f0 ∧ 1 ≤ x.f1 ∧ x.f0 + x.f1 ≤ i) : (packStep out i b).length ≤ i + 1 ∧ ∀ x ∈ packStep out i b, 0 ≤ x.f0 ∧ 1 ≤ x.f1 ∧ x.f0 + x.f1 ≤ (i + 1 : Nat) := by
  cases b with
  | false =>
    unfold packStep; rw [if_pos rfl]
    exact ⟨by omega, fun x hx => by have := h2 x hx; omega⟩
  | true =>
    rw [packStep_true]
    split
    · rename_i h
      refine ⟨by rw [List.length_set]; omega, fun x hx => ?_⟩
      rcases List.mem_or_eq_of_mem_set hx with hx | rfl
      · have := h2 x hx; omega
      · have hm : rd_T47 out ((out.length : Int) - 1) ∈ out := by
          have : ((out.length : Int) - 1) = ((out.length - 1 : Nat) : Int) := by omega
          rw [this, rd_at_E _ _ (by omega)]; exact List.getElem_mem _
        have := h2 _ hm
        dsimp only
        omega
    · refine ⟨by simp; omega, fun x hx => ?_⟩
      rcases List.mem_append.1 hx with hx | hx
      · have := h2 x hx; omega
      · simp at hx; subst hx; dsimp only; omega
theorem outs_ok (ms : List Bool) : ∀ i, (outs ms i).length ≤ i ∧ ∀ x ∈ outs ms i, 0 ≤ x.f0 ∧ 1 ≤ x.f1 ∧ x.f0 + x.f1 ≤ (i : Nat)
  | 0 => by simp [outs]
  | i + 1 => by rw [outs_succ]; exact packStep_ok _ _ _ (outs_ok ms i).1 (outs_ok ms i).2

theorem wrap_small (n : Int) (h0 : 0 ≤ n) (h1 : n ≤ 65536) : wrap64 n = n := by unfold wrap64; omega
theorem set_f1 {W : World} {base : Nat} {ok : Nat → Prop} {g n cap : Nat} {xs : List S47} (h : Kd.R k47 47 W base ok (.slice (some ⟨g, 0, none⟩) n cap) xs) (p : Nat) (hp : p < n) (v : Int) :
    Kd.R k47 47 (W.setCell ⟨g, p * 2 + 1, none⟩ (.int .i64 v)) base ok (.slice (some ⟨g, 0, none⟩) n cap) (xs.set p ⟨(rd_T47 xs p).f0, v⟩) ∧ W.grownBy (W.setCell ⟨g, p * 2 + 1, none⟩ (.int .i64 v)) (some g) := by
  have hn := (Kd.R_reads' h).1
  obtain ⟨ce, hcl, hM, hcc, hfr⟩ := Kd.R_elem h z47 (p : Int) (by omega) (by omega)
  have hM' := hM
  obtain rfl := k47_openM hM'
  have hseg := Kd.R_seg h (p : Int) (by omega) (by omega) (seg := [.int .i64 v]) (j := 1) hcl hcc (show 2 ≤ 2 from by decide) (x' := (⟨(rd_T47 xs p).f0, v⟩ : S47)) (okp := fun k => ok k ∧ k ≠ g) (k47_mkM _ _ _ (⟨(rd_T47 xs p).f0, v⟩ : S47)) (fun _ hk => hk)
  rw [show (k47).sz = 2 from rfl] at hseg
  simpa [World.setCells] using hseg

structure ChBase (w : World) (b3 b4 b5 b6 gi D D2 lo : Nat) (ms : List Bool) (wx : World) : Prop where
  x3 : Boxed wx b3 22 (.slice none 0 0)
  x4 : Boxed wx b4 28 (.int .i64 0)
  x6 : Boxed wx b6 64 (.slice (some ⟨gi, 0, none⟩) ms.length ms.length)
  row : Kd.R Kd.bool 4 wx w.heap.size (fun k => k = gi) (.slice (some ⟨gi, 0, none⟩) ms.length ms.length) ms
  below : Below w.heap.size w wx
  d1 : wx.heap[D]? = some (.deferred (some []))
  d2 : wx.heap[D2]? = some (.deferred (some []))
  l5 : w.heap.size ≤ b5 ∧ b5 < lo ∧ b5 ≠ b3 ∧ b5 ≠ b4 ∧ b5 ≠ b6 ∧ b5 ≠ gi ∧ b5 ≠ D ∧ b5 ≠ D2
  ls : b3 < lo ∧ b4 < lo ∧ b6 < lo ∧ gi < lo ∧ D < lo ∧ D2 < lo ∧ w.heap.size ≤ lo ∧ lo ≤ wx.heap.size ∧ b3 ≠ b4 ∧ D ≠ D2 ∧ w.heap.size ≤ D ∧ w.heap.size ≤ D2
section
variable {w wx wy : World} {b3 b4 b5 b6 gi D D2 lo : Nat} {ms : List Bool}
theorem ChBase.grown (h : ChBase w b3 b4 b5 b6 gi D D2 lo ms wx) {row : Option Nat} (hg : wx.grownBy wy row) (hr : ∀ k, row = some k → lo ≤ k ∨ k = b5) : ChBase w b3 b4 b5 b6 gi D D2 lo ms wy := by
  obtain ⟨h5a, h5b, h5c, h5d, h5e, h5f, h5g, h5h⟩ := h.l5
  obtain ⟨s1, s2, s3, s4, s5, s6, s7, s8, s9, s10, s11, s12⟩ := h.ls
  have hne : ∀ k, k < lo → k ≠ b5 → some k ≠ row := fun k hk hk5 e => by rcases hr k e.symm with h | h <;> omega
  have hdb : ∀ k, k < lo → k ≠ b5 → wy.heap[k]? = wx.heap[k]? := fun k hk hk5 => hg.block k (by omega) (hne k hk hk5)
  refine ⟨h.x3.kept hg (hne _ s1 (by omega)), h.x4.kept hg (hne _ s2 (by omega)), h.x6.kept hg (hne _ s3 (by omega)), Kd.R_grown h.row hg (fun k hk => by subst hk; exact hne _ s4 (by omega)), pw_below_grown h.below row h.below.size hg (fun k hk => by rcases hr k hk with h | h <;> omega),
    (hdb D s5 (by omega)).trans h.d1, (hdb D2 s6 (by omega)).trans h.d2, h.l5, ⟨s1, s2, s3, s4, s5, s6, s7, Nat.le_trans s8 hg.size, s9, s10, s11, s12⟩⟩
theorem ChBase.drew (h : ChBase w b3 b4 b5 b6 gi D D2 lo ms wx) : ChBase w b3 b4 b5 b6 gi D D2 lo ms wx.drew := h.grown (row := none) (grown_of_below (Below.refl _ _).drew _) (fun k e => by cases e)
theorem ChBase.bit (h : ChBase w b3 b4 b5 b6 gi D D2 lo ms wx) (i : Nat) (hi : i < ms.length) : wx.cell? ⟨gi, i, none⟩ = some (.bool (ms.getD i false)) := by
  obtain ⟨ce, hcl, hM, hcc, hfr⟩ := Kd.R_elem h.row false (i : Int) (by omega) (by omega)
  obtain rfl : ce = [.bool (ms.getD i false)] := hM
  have h1 := hcc 0 _ rfl
  rw [show (Kd.bool).sz = 1 from rfl] at h1
  simp only [Int.toNat_natCast, Nat.mul_one, Nat.add_zero] at h1
  exact h1
theorem ChBase.ret (h : ChBase w b3 b4 b5 b6 gi D D2 lo ms wx) (h3 : w.heap.size ≤ b3) (h4 : w.heap.size ≤ b4) (v : Value) (e : Int) {xs : List S47} (hR : Kd.R k47 47 wx w.heap.size (fun k => lo ≤ k) v xs) {W2 : World} (hW : W2 = (wx.setCell ⟨b3, 0, none⟩ v).setCell ⟨b4, 0, none⟩ (.int .i64 e)) :
    W2.heap[D2]? = some (.deferred (some [])) ∧ (W2.putObj D2 (.deferred none)).heap[D]? = some (.deferred (some [])) ∧ ((W2.putObj D2 (.deferred none)).putObj D (.deferred none)).cell? ⟨b3, 0, none⟩ = some v ∧ ((W2.putObj D2 (.deferred none)).putObj D (.deferred none)).cell? ⟨b4, 0, none⟩ = some (.int .i64 e) ∧
    Kd.R k47 47 ((W2.putObj D2 (.deferred none)).putObj D (.deferred none)) w.heap.size (fun _ => True) v xs ∧ Below w.heap.size w ((W2.putObj D2 (.deferred none)).putObj D (.deferred none)) := by
  obtain ⟨s1, s2, s3, s4, s5, s6, s7, s8, s9, s10, s11, s12⟩ := h.ls
  have g1 := grownBy_setCellK wx b3 0 v
  have g2 := grownBy_setCellK (wx.setCell ⟨b3, 0, none⟩ v) b4 0 (.int .i64 e)
  have n3 : D ≠ b3 := fun he => by subst he; have := h.d1.symm.trans h.x3; cases this
  have n4 : D ≠ b4 := fun he => by subst he; have := h.d1.symm.trans h.x4; cases this
  have m3 : D2 ≠ b3 := fun he => by subst he; have := h.d2.symm.trans h.x3; cases this
  have m4 : D2 ≠ b4 := fun he => by subst he; have := h.d2.symm.trans h.x4; cases this
  have e3 := (h.x3.set v).kept g2 (by simpa using s9)
  have e4 := (h.x4.kept g1 (by simpa using s9.symm)).set (.int .i64 e)
  have r2 := Kd.R_grown (Kd.R_grown hR g1 (fun k hk he => by cases he; omega)) g2 (fun k hk he => by cases he; omega)
  have l1 := pw_below_grown h.below _ h.below.size g1 (fun k hk => by cases hk; exact h3)
  have l2 := pw_below_grown l1 _ l1.size g2 (fun k hk => by cases hk; exact h4)
  have d1 := (g2.block D (by have := g1.size; omega) (by simpa using n4)).trans ((g1.block D (by omega) (by simpa using n3)).trans h.d1)
  have d2 := (g2.block D2 (by have := g1.size; omega) (by simpa using m4)).trans ((g1.block D2 (by omega) (by simpa using m3)).trans h.d2)
  rw [← hW] at e3 e4 r2 l2 d1 d2
  clear g1 g2 hW
  have g3 := grownBy_putObj' W2 D2 (.deferred none)
  have p1 : (W2.putObj D2 (.deferred none)).heap[D]? = W2.heap[D]? := World.putObj_heap_other s10
  have g4 := grownBy_putObj' (W2.putObj D2 (.deferred none)) D (.deferred none)
  refine ⟨d2, p1.trans d1, ((e3.kept g3 (by simpa using m3.symm)).kept g4 (by simpa using n3.symm)).cell, ((e4.kept g3 (by simpa using m4.symm)).kept g4 (by simpa using n4.symm)).cell, Kd.R_mono (Kd.R_grown (Kd.R_grown r2 g3 (fun k hk he => by cases he; omega)) g4 (fun k hk he => by cases he; omega)) (fun _ _ => trivial), ?_⟩
  have l3 := pw_below_grown l2 _ l2.size g3 (fun k hk => by cases hk; exact s12)
  exact pw_below_grown l3 _ l3.size g4 (fun k hk => by cases hk; exact s11)
end
end Go.Proofs.Ytgnaippmncnlaaa.P
