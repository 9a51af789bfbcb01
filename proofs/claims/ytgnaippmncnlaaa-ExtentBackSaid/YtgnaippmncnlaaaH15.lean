import Derived.Test.YtgnaippmncnlaaaH14
namespace Go.Proofs.Ytgnaippmncnlaaa.P
open Go.RowKit Go.Proofs.YtgnaippmncnlaaaW.PrintWords Go.Proofs.YtgnaippmncnlaaaW.PrintLast Go.Proofs.YtgnaippmncnlaaaW.PrintMore Go.Proofs.YtgnaippmncnlaaaW.HB
set_option linter.unusedVariables false

/-! packB: what it packs fits, and its sectors are the marks -/
def lastE : Option Int → List S47 → Option Int
  | p, [] => p
  | _, x :: l => lastE (some (x.f0 + x.f1)) l
theorem fitL_snoc (t : Int) (x : S47) : ∀ (l : List S47) (p : Option Int), fitL t p (l ++ [x]) = true ↔ fitL t p l = true ∧ inB t x = true ∧ pLe (lastE p l) x.f0
  | [], p => by simp only [List.nil_append, fitL_cons, lastE]; simp [fitL]
  | y :: l, p => by
    simp only [List.cons_append, fitL_cons, lastE, fitL_snoc t x l]
    constructor
    · rintro ⟨a, b, c, d, e⟩; exact ⟨⟨a, b, c⟩, d, e⟩
    · rintro ⟨⟨a, b, c⟩, d, e⟩; exact ⟨a, b, c, d, e⟩
theorem lastE_snoc (x : S47) : ∀ (l : List S47) (p : Option Int), lastE p (l ++ [x]) = some (x.f0 + x.f1)
  | [], p => rfl
  | y :: l, p => by simp only [List.cons_append, lastE]; exact lastE_snoc x l _
theorem secs_snoc (x : S47) (l : List S47) (j : Nat) (h0 : 0 ≤ x.f0) : ct (secs (l ++ [x])) j = ct (secs l) j + if x.f0.toNat ≤ j ∧ j < x.f0.toNat + x.f1.toNat then 1 else 0 := by
  rw [secs_append, ct_append, show x = (⟨x.f0, x.f1⟩ : S47) from rfl, ct_one _ _ h0]
  simp [secs, ct]
theorem outs_law (t : Int) (bs : List Bool) (hb : (bs.length : Int) ≤ t) : ∀ i, i ≤ bs.length → fitL t none (outs bs i) = true ∧ (∀ e, lastE none (outs bs i) = some e → e ≤ i) ∧ ∀ j, ct (secs (outs bs i)) j = if j < i ∧ gb bs j = true then 1 else 0
  | 0, _ => ⟨rfl, (fun e h => by cases h), fun j => by simp [outs, secs, ct]⟩
  | i + 1, hi => by
    obtain ⟨h1, h2, h3⟩ := outs_law t bs hb i (by omega)
    rw [outs_succ]
    have hg : bs.getD i false = gb bs i := rfl
    rw [hg]
    cases hbi : gb bs i with
    | false =>
      have e : packStep (outs bs i) i false = outs bs i := by unfold packStep; rw [if_pos rfl]
      rw [e]
      refine ⟨h1, fun e he => by have := h2 e he; omega, fun j => ?_⟩
      rw [h3 j]
      by_cases hj : j = i
      · subst hj; rw [if_neg (by omega), if_neg (by simp [hbi])]
      · by_cases hq : gb bs j = true
        · simp only [hq, and_true]; split <;> split <;> omega
        · rw [if_neg (fun h => hq h.2), if_neg (fun h => hq h.2)]
    | true =>
      rw [packStep_true]
      have app : ¬ (0 < (outs bs i).length ∧ (rd_T47 (outs bs i) (((outs bs i).length : Int) - 1)).f0 + (rd_T47 (outs bs i) (((outs bs i).length : Int) - 1)).f1 = (i : Int)) → pLe (lastE none (outs bs i)) i := fun hn => by
        rcases List.eq_nil_or_concat (outs bs i) with h | ⟨l, y, h⟩
        · rw [h]; trivial
        · rw [List.concat_eq_append] at h
          have hl : (outs bs i).length = l.length + 1 := by rw [h]; simp
          have hr : rd_T47 (outs bs i) (((outs bs i).length : Int) - 1) = y := by
            have : (((outs bs i).length : Int) - 1) = ((l.length : Nat) : Int) := by omega
            rw [this, rd_at_E _ _ (by omega)]; simp [h]
          rw [hr] at hn
          have hle := h2 (y.f0 + y.f1) (by rw [h, lastE_snoc])
          rw [h, lastE_snoc]
          show y.f0 + y.f1 < (i : Int)
          omega
      split
      · rename_i hc
        rcases List.eq_nil_or_concat (outs bs i) with h | ⟨l, y, h⟩
        · rw [h] at hc; simp at hc
        · rw [List.concat_eq_append] at h
          have hl : (outs bs i).length = l.length + 1 := by rw [h]; simp
          have hr : rd_T47 (outs bs i) (((outs bs i).length : Int) - 1) = y := by
            have : (((outs bs i).length : Int) - 1) = ((l.length : Nat) : Int) := by omega
            rw [this, rd_at_E _ _ (by omega)]; simp [h]
          rw [hr] at hc ⊢
          have hs : (outs bs i).set ((outs bs i).length - 1) ⟨y.f0, y.f1 + 1⟩ = l ++ [⟨y.f0, y.f1 + 1⟩] := by rw [hl, h]; simp
          rw [hs]
          rw [h] at h1 h3
          obtain ⟨k1, k2, k3⟩ := (fitL_snoc t y l none).1 h1
          have hby := inB_of k2
          refine ⟨(fitL_snoc t _ l none).2 ⟨k1, decide_eq_true (by dsimp only; omega), k3⟩, fun e he => ?_, fun j => ?_⟩
          · rw [lastE_snoc] at he; cases he; dsimp only; omega
          · have h3j := h3 j
            rw [secs_snoc _ _ _ hby.2.1] at h3j
            rw [secs_snoc _ _ _ (by exact hby.2.1)]
            dsimp only
            by_cases hj : j = i
            · subst hj
              rw [if_neg (by omega), if_neg (by omega)] at h3j
              rw [if_pos (by omega), if_pos ⟨by omega, hbi⟩]
              omega
            · have e1 : (j < i ∧ gb bs j = true) ↔ (j < i + 1 ∧ gb bs j = true) := ⟨fun q => ⟨by omega, q.2⟩, fun q => ⟨by omega, q.2⟩⟩
              by_cases hq : gb bs j = true
              · simp only [hq, and_true] at h3j ⊢
                revert h3j
                split <;> split <;> split <;> split <;> omega
              · have hqf : gb bs j = false := by simpa using hq
                simp only [hqf, Bool.false_eq_true, and_false, if_false] at h3j ⊢
                revert h3j
                split <;> split <;> omega
      · rename_i hc
        have hp := app hc
        refine ⟨(fitL_snoc t _ _ none).2 ⟨h1, decide_eq_true (by dsimp only; omega), hp⟩, fun e he => ?_, fun j => ?_⟩
        · rw [lastE_snoc] at he; cases he; dsimp only; omega
        · rw [secs_snoc _ _ _ (by dsimp only; omega), h3 j]
          dsimp only
          by_cases hj : j = i
          · subst hj
            rw [if_neg (by omega), if_pos (by omega), if_pos ⟨by omega, hbi⟩]
          · by_cases hq : gb bs j = true
            · simp only [hq, and_true]; split <;> split <;> split <;> omega
            · have hqf : gb bs j = false := by simpa using hq
              simp only [hqf, Bool.false_eq_true, and_false, if_false]
              rw [if_neg (by omega)]
end Go.Proofs.Ytgnaippmncnlaaa.P
