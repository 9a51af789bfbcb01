import Derived.Test.YtbdciklcckjknaaQ1
import Derived.Test.YtbdciklcckjknaaPPglogLater
namespace Go.Proofs.Ytbdciklcckjknaa.P
open Go.RowKit Go.Proofs.YtbdciklcckjknaaW.PrintWords Go.Proofs.YtbdciklcckjknaaW.PrintLast Go.Proofs.YtbdciklcckjknaaW.PrintMore Go.Proofs.YtbdciklcckjknaaW.HB
set_option linter.unusedVariables false
set_option linter.unusedSimpArgs false

/-! plain laws: a log that grows -/
theorem rd_left (l : List S34) (x : S34) (i : Nat) (h : i < l.length) : rd_T34 (l ++ [x]) i = rd_T34 l i := by
  rw [rd_at_N _ i (by simp; omega), rd_at_N _ i h, List.getElem_append_left h]
theorem rd_last (l : List S34) (x : S34) : rd_T34 (l ++ [x]) (l.length : Int) = x := by
  rw [rd_at_N _ l.length (by simp)]; simp
theorem rd_drop (l : List S34) (i : Nat) (h : i + 1 < l.length) : rd_T34 (l.drop 1) i = rd_T34 l ((i : Int) + 1) := by
  rw [rd_at_N _ i (by simp; omega), show (i : Int) + 1 = ((i + 1 : Nat) : Int) from by omega, rd_at_N _ (i + 1) h, List.getElem_drop]
  congr 1; omega
theorem okTo_iff (l : List S34) (k : Nat) : okTo l k = true ↔ ∀ i, i < k → okAt l i = true := by
  unfold okTo; rw [List.all_eq_true]; simp
theorem okAt_left (l : List S34) (x : S34) (i : Nat) (h : i < l.length) : okAt (l ++ [x]) i = okAt l i := by
  unfold okAt
  rw [rd_left l x i h]
  rcases Nat.eq_zero_or_pos i with rfl | hi
  · rfl
  · rw [show (i : Int) - 1 = ((i - 1 : Nat) : Int) from by omega, rd_left l x (i - 1) (by omega)]
theorem okTo_snoc (l : List S34) (x : S34) (h : okTo l l.length = true) (hx : entB x = true) (hg : 0 < l.length → gapOk x (rd_T34 l ((l.length : Int) - 1)) = true) : okTo (l ++ [x]) (l ++ [x]).length = true := by
  rw [okTo_iff] at *
  intro i hi
  rw [List.length_append, List.length_singleton] at hi
  rcases Nat.lt_succ_iff_lt_or_eq.1 hi with h1 | rfl
  · rw [okAt_left l x i h1]; exact h i h1
  · unfold okAt
    rw [rd_last, hx]
    rcases Nat.eq_zero_or_pos l.length with h0 | h0
    · rw [h0]; rfl
    · rw [show (l.length : Int) - 1 = ((l.length - 1 : Nat) : Int) from by omega, rd_left l x (l.length - 1) (by omega), show ((l.length - 1 : Nat) : Int) = (l.length : Int) - 1 from by omega, hg h0]
      simp
theorem okTo_drop (l : List S34) (h : okTo l l.length = true) : okTo (l.drop 1) (l.drop 1).length = true := by
  rw [okTo_iff] at *
  intro i hi
  rw [List.length_drop] at hi
  have h1 := h (i + 1) (by omega)
  unfold okAt at *
  rw [rd_drop l i (by omega), show (i : Int) + 1 = ((i + 1 : Nat) : Int) from by omega]
  simp only [Bool.and_eq_true, Bool.or_eq_true] at h1 ⊢
  refine ⟨h1.1, ?_⟩
  rcases Nat.eq_zero_or_pos i with rfl | hi0
  · exact .inl rfl
  · refine .inr ?_
    rw [show (i : Int) - 1 = ((i - 1 : Nat) : Int) from by omega, rd_drop l (i - 1) (by omega), show ((i - 1 : Nat) : Int) + 1 = ((i + 1 : Nat) : Int) - 1 from by omega]
    rcases h1.2 with h2 | h2
    · simp at h2
    · exact h2
/-- A log that n entries came into. -/
structure InvL (l : List S34) (e v : Int) (n : Nat) : Prop where
  len : l.length = min n 8
  ok : logB l e v = true
theorem InvL.nil : InvL [] 0 0 0 := ⟨rfl, rfl⟩
theorem logB_cons {l : List S34} {e v : Int} (h0 : 0 < l.length) : logB l e v = true ↔ okTo l l.length = true ∧ l.length ≤ 8 ∧ (rd_T34 l ((l.length : Int) - 1)).f0.f0 = e ∧ (rd_T34 l ((l.length : Int) - 1)).f0.f1 = v ∧ ((rd_T34 l 0).f0.f1 = 1 ∨ l.length = 8) := by
  unfold logB
  rw [if_neg (by omega)]
  simp only [Bool.and_eq_true, Bool.or_eq_true, decide_eq_true_eq, beq_iff_eq]
  constructor
  · rintro ⟨h1, h2, ⟨h3, h4⟩, h5⟩; exact ⟨h1, h2, h3, h4, h5⟩
  · rintro ⟨h1, h2, h3, h4, h5⟩; exact ⟨h1, h2, ⟨h3, h4⟩, h5⟩
theorem InvL.bounds {l : List S34} {e v : Int} {n : Nat} (h : InvL l e v n) : 0 ≤ v ∧ v ≤ 1099511627776 ∧ 0 ≤ e ∧ e ≤ 1073741824 := by
  rcases Nat.eq_zero_or_pos l.length with h0 | h0
  · have := h.ok
    unfold logB at this
    rw [if_pos h0] at this
    simp at this
    omega
  · obtain ⟨h1, _, h3, h4, _⟩ := (logB_cons h0).1 h.ok
    have h5 := (okTo_iff l l.length).1 h1 (l.length - 1) (by omega)
    unfold okAt at h5
    rw [Bool.and_eq_true, show ((l.length - 1 : Nat) : Int) = (l.length : Int) - 1 from by omega] at h5
    have := entB_nums h5.1
    omega
theorem InvL.step {l : List S34} {e v : Int} {n : Nat} (h : InvL l e v n) {x : S34} (hx : entB x = true) (hv : x.f0.f1 = wrap64 (v + 1)) (he : ¬ x.f0.f0 < e) :
    InvL (cutL (l ++ [x])) x.f0.f0 x.f0.f1 (n + 1) ∧ (cutL (l ++ [x])).length = min (n + 1) 8 ∧ rd_T34 (cutL (l ++ [x])) (((cutL (l ++ [x])).length : Int) - 1) = x ∧ 0 < (cutL (l ++ [x])).length ∧ pglog_Later.f x.f0.f0 x.f0.f1 e v = some true := by
  have hb := h.bounds
  have hw : wrap64 (v + 1) = v + 1 := wrap64_small _ (by omega) (by omega)
  have hlat : pglog_Later.f x.f0.f0 x.f0.f1 e v = some true := by
    unfold pglog_Later.f
    rw [hv, hw]
    by_cases h1 : x.f0.f0 > e
    · rw [if_pos h1]
    · rw [if_neg h1, if_pos (by omega), decide_eq_true (by omega)]
  have hsn : (l ++ [x]).length = l.length + 1 := by simp
  have hok : okTo l l.length = true := by
    rcases Nat.eq_zero_or_pos l.length with h0 | h0
    · rw [h0]; rfl
    · exact ((logB_cons h0).1 h.ok).1
  have hok2 : okTo (l ++ [x]) (l ++ [x]).length = true := okTo_snoc l x hok hx (fun h0 => by
    obtain ⟨_, _, h3, h4, _⟩ := (logB_cons h0).1 h.ok
    unfold gapOk
    rw [h3, h4, hv]
    simp; omega)
  have hl := h.len
  by_cases h8 : (l ++ [x]).length > 8
  · have hc : cutL (l ++ [x]) = (l ++ [x]).drop 1 := if_pos h8
    have hcl : (cutL (l ++ [x])).length = 8 := by rw [hc, List.length_drop]; omega
    have hlast : rd_T34 (cutL (l ++ [x])) (((cutL (l ++ [x])).length : Int) - 1) = x := by
      rw [hcl, hc, show (((8 : Nat) : Int) - 1) = ((7 : Nat) : Int) from rfl, rd_drop _ 7 (by omega), show ((7 : Nat) : Int) + 1 = (l.length : Int) from by omega, rd_last]
    refine ⟨⟨by rw [hcl]; omega, ?_⟩, by rw [hcl]; omega, hlast, by omega, hlat⟩
    rw [logB_cons (by omega)]
    refine ⟨?_, by omega, by rw [hlast], by rw [hlast], .inr hcl⟩
    rw [hc]; exact okTo_drop _ hok2
  · have hc : cutL (l ++ [x]) = l ++ [x] := if_neg h8
    rw [hc]
    have hlast : rd_T34 (l ++ [x]) (((l ++ [x]).length : Int) - 1) = x := by
      rw [hsn, show (((l.length + 1 : Nat) : Int) - 1) = (l.length : Int) from by omega, rd_last]
    refine ⟨⟨by rw [hsn]; omega, ?_⟩, by rw [hsn]; omega, hlast, by omega, hlat⟩
    rw [logB_cons (by omega)]
    refine ⟨hok2, by omega, by rw [hlast], by rw [hlast], .inl ?_⟩
    rcases Nat.eq_zero_or_pos l.length with h0 | h0
    · obtain rfl := List.eq_nil_of_length_eq_zero h0
      show x.f0.f1 = 1
      have hz := h.ok
      simp [logB] at hz
      omega
    · have h5 := ((logB_cons h0).1 h.ok).2.2.2.2
      have := rd_left l x 0 h0
      rw [show ((0 : Nat) : Int) = 0 from rfl] at this
      rw [this]
      rcases h5 with h5 | h5
      · exact h5
      · omega
end Go.Proofs.Ytbdciklcckjknaa.P
