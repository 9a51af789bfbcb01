import Derived.Test.YtgnaippmncnlaaaP3
import Derived.Test.YtgnaippmncnlaaaP4
import Derived.Test.YtgnaippmncnlaaaH4b
namespace Go.Proofs.Ytgnaippmncnlaaa.P
open Go.RowKit Go.Proofs.YtgnaippmncnlaaaW.PrintWords Go.Proofs.YtgnaippmncnlaaaW.PrintLast Go.Proofs.YtgnaippmncnlaaaW.PrintMore Go.Proofs.YtgnaippmncnlaaaW.HB
set_option linter.unusedVariables false

/-! what the printed functions compute, in plain words -/
theorem wr (n : Int) (h : -9223372036854775808 ≤ n ∧ n ≤ 9223372036854775807) : wrap64 n = n := by unfold wrap64; omega
theorem in_eq (t b c : Int) (h0 : 0 ≤ t) (h1 : t ≤ 65536) : extent_in.f t b c = some (inB t ⟨b, c⟩) := by
  unfold extent_in.f inB
  by_cases h2 : c ≥ 1
  · rw [if_pos h2]
    by_cases h3 : b ≥ 0
    · rw [if_pos h3]
      by_cases h4 : b ≤ t
      · rw [if_pos h4, wr _ (by omega)]
        congr 1
        exact decide_eq_decide.2 ⟨fun h => ⟨h2, h3, h4, h⟩, fun h => h.2.2.2⟩
      · rw [if_neg h4]; congr 1; exact (decide_eq_false (fun h => h4 h.2.2.1)).symm
    · rw [if_neg h3]; congr 1; exact (decide_eq_false (fun h => h3 h.2.1)).symm
  · rw [if_neg h2]; congr 1; exact (decide_eq_false (fun h => h2 h.1)).symm
def fitL (t : Int) : Option Int → List S47 → Bool
  | _, [] => true
  | p, x :: l => inB t x && (match p with | none => true | some e => decide (e < x.f0)) && fitL t (some (x.f0 + x.f1)) l
def prE (l : List S47) (i : Nat) : Option Int := match i with | 0 => none | j + 1 => some ((rd_T47 l j).f0 + (rd_T47 l j).f1)
theorem drop_cons (l : List S47) (i : Nat) (h : i < l.length) : l.drop i = rd_T47 l i :: l.drop (i + 1) := by
  rw [rd_at_E l i h, List.drop_eq_getElem_cons h]
theorem inB_of {t : Int} {x : S47} (h : inB t x = true) : 1 ≤ x.f1 ∧ 0 ≤ x.f0 ∧ x.f0 ≤ t ∧ x.f1 ≤ t - x.f0 := of_decide_eq_true h
theorem fit_go (l : List S47) (t : Int) (h0 : 0 ≤ t) (h1 : t ≤ 65536) (hl : l.length < 4611686018427387904) : ∀ (m i k : Nat), i + m = l.length → (∀ j, j < i → inB t (rd_T47 l j) = true) → m < k → extent_Fit.l0 k t l l (l.length : Int) i = some (fitL t (prE l i) (l.drop i)) := by
  intro m
  induction m with
  | zero =>
    intro i k hi hp hk
    obtain ⟨k, rfl⟩ : ∃ q, k = q + 1 := ⟨k - 1, by omega⟩
    simp only [extent_Fit.l0]
    rw [if_neg (by omega), List.drop_eq_nil_of_le (by omega)]
    cases prE l i <;> rfl
  | succ m ih =>
    intro i k hi hp hk
    obtain ⟨k, rfl⟩ : ∃ q, k = q + 1 := ⟨k - 1, by omega⟩
    have hlt : i < l.length := by omega
    simp only [extent_Fit.l0]
    rw [if_pos (by omega), if_pos (by omega), if_pos (by omega), in_eq t _ _ h0 h1]
    simp only [Option.bind_some]
    rw [drop_cons l i hlt]
    have ei : wrap64 ((i : Int) + 1) = ((i + 1 : Nat) : Int) := by rw [wr _ (by omega)]; omega
    by_cases hb : inB t (rd_T47 l i) = true
    · have hih := ih (i + 1) k (by omega) (fun j hj => by
        rcases Nat.lt_or_ge j i with h | h
        · exact hp j h
        · obtain rfl : j = i := by omega
          exact hb) (by omega)
      have hb' : inB t ⟨(rd_T47 l i).f0, (rd_T47 l i).f1⟩ = true := hb
      rw [if_pos hb']
      cases i with
      | zero =>
        rw [if_neg (by simp), ei, hih]
        simp only [prE, fitL, hb, Bool.true_and, Bool.and_true]
      | succ j =>
        have hbj := inB_of (hp j (by omega))
        have e1 : wrap64 (((j + 1 : Nat) : Int) - 1) = (j : Int) := by rw [wr _ (by omega)]; omega
        rw [if_pos (by omega), e1, if_pos (by omega), if_pos (by omega), wr ((rd_T47 l (j : Int)).f0 + (rd_T47 l (j : Int)).f1) (by omega)]
        by_cases hc : (rd_T47 l (j : Int)).f0 + (rd_T47 l (j : Int)).f1 ≥ (rd_T47 l ((j + 1 : Nat) : Int)).f0
        · rw [if_pos hc]
          simp only [prE, fitL]
          rw [decide_eq_false (by omega)]
          simp
        · rw [if_neg hc, ei, hih]
          simp only [prE, fitL, hb, Bool.true_and]
          rw [decide_eq_true (by omega)]
          simp
    · have hb' : ¬ inB t ⟨(rd_T47 l i).f0, (rd_T47 l i).f1⟩ = true := hb
      rw [if_neg hb']
      simp only [fitL]
      rw [Bool.eq_false_iff.2 hb]
      simp
theorem rfit_go (l : List S47) (t : Int) (h0 : 0 ≤ t) (h1 : t ≤ 65536) (hl : l.length < 4611686018427387904) : ∀ (m i k : Nat), i + m = l.length → (∀ j, j < i → inB t (rd_T47 l j) = true) → 2 * m < k → reefref09_Fit.l0 k t l i = some (fitL t (prE l i) (l.drop i)) := by
  intro m
  induction m with
  | zero =>
    intro i k hi hp hk
    obtain ⟨k, rfl⟩ : ∃ q, k = q + 1 := ⟨k - 1, by omega⟩
    simp only [reefref09_Fit.l0]
    rw [if_neg (by omega), List.drop_eq_nil_of_le (by omega)]
    cases prE l i <;> rfl
  | succ m ih =>
    intro i k hi hp hk
    obtain ⟨k, rfl⟩ : ∃ q, k = q + 1 + 1 := ⟨k - 2, by omega⟩
    have hlt : i < l.length := by omega
    simp only [reefref09_Fit.l0]
    rw [if_pos (by omega), if_pos (by omega)]
    rw [drop_cons l i hlt]
    have ei : wrap64 ((i : Int) + 1) = ((i + 1 : Nat) : Int) := by rw [wr _ (by omega)]; omega
    have hno : ∀ b, inB t (rd_T47 l i) = false → b = true → reefref09_Fit.j2 (k + 1) t l i b ((rd_T47 l i).f0) ((rd_T47 l i).f1) = some (fitL t (prE l i) (rd_T47 l i :: l.drop (i + 1))) := fun b hb hbt => by
      simp only [reefref09_Fit.j2, fitL, hb, hbt]
      simp
    have hno' : ¬ (1 ≤ (rd_T47 l i).f1 ∧ 0 ≤ (rd_T47 l i).f0 ∧ (rd_T47 l i).f0 ≤ t ∧ (rd_T47 l i).f1 ≤ t - (rd_T47 l i).f0) → inB t (rd_T47 l i) = false := fun h => decide_eq_false h
    by_cases h2 : (rd_T47 l i).f1 < 1
    · rw [if_pos h2, hno true (hno' (by omega)) rfl]
    · rw [if_neg h2]
      by_cases h3 : (rd_T47 l i).f1 > t
      · rw [if_pos h3, hno true (hno' (by omega)) rfl]
      · rw [if_neg h3]
        by_cases h4 : (rd_T47 l i).f0 < 0
        · rw [if_pos h4, hno true (hno' (by omega)) rfl]
        · rw [if_neg h4, wr (t - (rd_T47 l i).f1) (by omega)]
          by_cases h5 : (rd_T47 l i).f0 > t - (rd_T47 l i).f1
          · rw [decide_eq_true h5, hno true (hno' (by omega)) rfl]
          · have hb : inB t (rd_T47 l i) = true := decide_eq_true (by omega)
            rw [decide_eq_false h5]
            have hih := ih (i + 1) k (by omega) (fun j hj => by
              rcases Nat.lt_or_ge j i with h | h
              · exact hp j h
              · obtain rfl : j = i := by omega
                exact hb) (by omega)
            simp only [reefref09_Fit.j2, Bool.false_eq_true, if_false]
            cases i with
            | zero =>
              rw [if_neg (by simp), ei, hih]
              simp only [prE, fitL, hb, Bool.true_and, Bool.and_true]
            | succ j =>
              have hbj := inB_of (hp j (by omega))
              have e1 : wrap64 (((j + 1 : Nat) : Int) - 1) = (j : Int) := by rw [wr _ (by omega)]; omega
              rw [if_pos (by omega), e1, if_pos (by omega), if_pos (by omega), wr ((rd_T47 l (j : Int)).f0 + (rd_T47 l (j : Int)).f1) (by omega)]
              by_cases hc : (rd_T47 l (j : Int)).f0 + (rd_T47 l (j : Int)).f1 ≥ (rd_T47 l ((j + 1 : Nat) : Int)).f0
              · rw [if_pos hc]
                simp only [prE, fitL]
                rw [decide_eq_false (by omega)]
                simp
              · rw [if_neg hc, ei, hih]
                simp only [prE, fitL, hb, Bool.true_and]
                rw [decide_eq_true (by omega)]
                simp
def fitB (t : Int) (l : List S47) : Bool := decide (0 ≤ t ∧ t ≤ 65536) && fitL t none l
theorem fit_eq (l : List S47) (t : Int) (hl : l.length < 4611686018427387904) (k : Nat) (hk : l.length + 1 < k) : extent_Fit.f k t l = some (fitB t l) := by
  obtain ⟨k, rfl⟩ : ∃ q, k = q + 1 := ⟨k - 1, by omega⟩
  unfold extent_Fit.f fitB
  by_cases h0 : t < 0
  · rw [if_pos h0]; simp only [extent_Fit.j0, if_pos]; rw [decide_eq_false (by omega)]; rfl
  · rw [if_neg h0]
    by_cases h1 : t > 65536
    · rw [decide_eq_true h1]; simp only [extent_Fit.j0, if_pos]; rw [decide_eq_false (by omega)]; rfl
    · rw [decide_eq_false h1]
      simp only [extent_Fit.j0, Bool.false_eq_true, if_false]
      have := fit_go l t (by omega) (by omega) hl l.length 0 k (by omega) (fun j hj => by omega) (by omega)
      rw [show ((0 : Nat) : Int) = 0 from rfl] at this
      rw [this, decide_eq_true (by omega)]
      simp [prE]
theorem rfit_eq (l : List S47) (t : Int) (hl : l.length < 4611686018427387904) (k : Nat) (hk : 2 * l.length + 1 < k) : reefref09_Fit.f k t l = some (fitB t l) := by
  obtain ⟨k, rfl⟩ : ∃ q, k = q + 1 := ⟨k - 1, by omega⟩
  unfold reefref09_Fit.f fitB
  by_cases h0 : t < 0
  · rw [if_pos h0]; simp only [reefref09_Fit.j0, if_pos]; rw [decide_eq_false (by omega)]; rfl
  · rw [if_neg h0]
    by_cases h1 : t > 65536
    · rw [decide_eq_true h1]; simp only [reefref09_Fit.j0, if_pos]; rw [decide_eq_false (by omega)]; rfl
    · rw [decide_eq_false h1]
      simp only [reefref09_Fit.j0, Bool.false_eq_true, if_false]
      have := rfit_go l t (by omega) (by omega) hl l.length 0 k (by omega) (fun j hj => by omega) (by omega)
      rw [show ((0 : Nat) : Int) = 0 from rfl] at this
      rw [this, decide_eq_true (by omega)]
      simp [prE]
end Go.Proofs.Ytgnaippmncnlaaa.P
