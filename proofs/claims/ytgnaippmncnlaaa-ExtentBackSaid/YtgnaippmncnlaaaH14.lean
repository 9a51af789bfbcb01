import Derived.Test.YtgnaippmncnlaaaH11
namespace Go.Proofs.Ytgnaippmncnlaaa.P
open Go.RowKit Go.Proofs.YtgnaippmncnlaaaW.PrintWords Go.Proofs.YtgnaippmncnlaaaW.PrintLast Go.Proofs.YtgnaippmncnlaaaW.PrintMore Go.Proofs.YtgnaippmncnlaaaW.HB
set_option linter.unusedVariables false

/-! what Take does to the sectors; what it leaves fits -/
theorem fitL_mono (t : Int) : ∀ (l : List S47) (e e' : Int), e ≤ e' → fitL t (some e') l = true → fitL t (some e) l = true
  | [], _, _, _, _ => rfl
  | x :: l, e, e', h, hf => by
    simp only [fitL, Bool.and_eq_true] at hf ⊢
    exact ⟨⟨hf.1.1, decide_eq_true (by have := of_decide_eq_true hf.1.2; omega)⟩, hf.2⟩
theorem fitL_none (t : Int) : ∀ (l : List S47) (e : Int), fitL t (some e) l = true → fitL t none l = true
  | [], _, _ => rfl
  | x :: l, e, hf => by
    simp only [fitL, Bool.and_eq_true] at hf ⊢
    exact ⟨⟨hf.1.1, trivial⟩, hf.2⟩
/-- Before what begins later, what ended earlier. -/
def pLe (p : Option Int) (e : Int) : Prop := match p with | none => True | some q => q < e
theorem fitL_cons (t : Int) (p : Option Int) (x : S47) (l : List S47) : fitL t p (x :: l) = true ↔ inB t x = true ∧ pLe p x.f0 ∧ fitL t (some (x.f0 + x.f1)) l = true := by
  cases p with
  | none => simp [fitL, pLe]
  | some e => simp [fitL, pLe, and_assoc]
theorem fitL_past (t : Int) (p : Option Int) (x : S47) (l : List S47) (hx : inB t x = true) (hp : pLe p x.f0) (h : fitL t (some (x.f0 + x.f1)) l = true) : fitL t p l = true := by
  have hb := inB_of hx
  cases p with
  | none => exact fitL_none t l _ h
  | some e => exact fitL_mono t l e _ (by have : e < x.f0 := hp; omega) h
theorem ct_one (f0 n : Int) (h0 : 0 ≤ f0) (l : List S47) (j : Nat) : ct (secs ((⟨f0, n⟩ : S47) :: l)) j = (if f0.toNat ≤ j ∧ j < f0.toNat + n.toNat then 1 else 0) + ct (secs l) j := by
  rw [secs_cons, ct_append, ct_range _ h0]; simp
theorem takeGo_law (t : Int) : ∀ (l : List S47) (p : Option Int) (n : Int), 0 < n → fitL t p l = true →
    (∀ j, ct (secs (takeGo l n).1) j + ct (secs (takeGo l n).2) j = ct (secs l) j) ∧ fitL t p (takeGo l n).2 = true ∧ ∀ x ∈ (takeGo l n).1, inB t x = true
  | [], p, n, _, _ => ⟨fun j => by simp [takeGo, secs, ct], rfl, fun x hx => by simp [takeGo] at hx⟩
  | x :: l, p, n, hn, hf => by
    obtain ⟨hx, hp, hl⟩ := (fitL_cons t p x l).1 hf
    have hb := inB_of hx
    obtain ⟨f0, f1⟩ := x
    dsimp only at hb hp hl
    rw [takeGo]
    dsimp only
    by_cases h1 : n < f1
    · rw [if_pos h1]
      refine ⟨fun j => ?_, (fitL_cons t p _ l).2 ⟨decide_eq_true (by dsimp only; omega), ?_, ?_⟩, fun y hy => ?_⟩
      · rw [ct_one _ _ (by omega), ct_one _ _ (by omega), ct_one _ _ (by omega)]
        simp only [secs, List.flatMap_nil, ct, List.countP_nil]
        split <;> split <;> split <;> omega
      · cases p with
        | none => trivial
        | some e => have : e < f0 := hp; show e < f0 + n; omega
      · dsimp only; rw [show f0 + n + (f1 - n) = f0 + f1 from by omega]; exact hl
      · simp at hy; subst hy; exact decide_eq_true (by dsimp only; omega)
    · rw [if_neg h1]
      by_cases h2 : n = f1
      · rw [if_pos h2]
        refine ⟨fun j => ?_, fitL_past t p ⟨f0, f1⟩ l hx hp hl, fun y hy => by simp at hy; subst hy; exact hx⟩
        rw [ct_one _ _ (by omega), ct_one _ _ (by omega)]
        simp [secs, ct]
      · rw [if_neg h2]
        obtain ⟨i1, i2, i3⟩ := takeGo_law t l (some (f0 + f1)) (n - f1) (by omega) hl
        refine ⟨fun j => ?_, fitL_past t p ⟨f0, f1⟩ _ hx hp i2, fun y hy => ?_⟩
        · dsimp only
          rw [ct_one _ _ (by omega), ct_one _ _ (by omega)]
          have := i1 j
          omega
        · rcases List.mem_cons.1 hy with rfl | hy
          · exact hx
          · exact i3 y hy
theorem takeW_law (t : Int) (w : Nat) (n : Int) (hn : 0 < n) : ∀ (l : List S47) (i : Nat) (p : Option Int), (∀ x, l[w - i]? = some x → i ≤ w → n ≤ x.f1) → fitL t p l = true →
    (∀ j, ct (secs (takeW w n i l).1) j + ct (secs (takeW w n i l).2) j = ct (secs l) j) ∧ fitL t p (takeW w n i l).2 = true ∧ ∀ x ∈ (takeW w n i l).1, inB t x = true
  | [], i, p, _, _ => ⟨fun j => by simp [takeW, secs, ct], rfl, fun x hx => by simp [takeW] at hx⟩
  | x :: l, i, p, hw, hf => by
    obtain ⟨hx, hp, hl⟩ := (fitL_cons t p x l).1 hf
    have hb := inB_of hx
    by_cases he : i = w
    · have hnx := hw x (by simp [he]) (by omega)
      rw [takeW, if_pos he, takeW_past w n l (i + 1) (by omega)]
      obtain ⟨f0, f1⟩ := x
      dsimp only at hb hp hl hnx ⊢
      by_cases h1 : n < f1
      · rw [if_pos h1]
        refine ⟨fun j => ?_, ?_, fun y hy => ?_⟩
        · rw [List.singleton_append, ct_one _ _ (by omega), ct_one _ _ (by omega), ct_one _ _ (by omega)]
          simp only [secs, List.flatMap_nil, ct, List.countP_nil]
          split <;> split <;> split <;> omega
        · rw [List.singleton_append]
          refine (fitL_cons t p _ l).2 ⟨decide_eq_true (by dsimp only; omega), ?_, ?_⟩
          · cases p with
            | none => trivial
            | some e => have : e < f0 := hp; show e < f0 + n; omega
          · dsimp only; rw [show f0 + n + (f1 - n) = f0 + f1 from by omega]; exact hl
        · simp at hy; subst hy; exact decide_eq_true (by dsimp only; omega)
      · rw [if_neg h1]
        obtain rfl : n = f1 := by omega
        refine ⟨fun j => ?_, fitL_past t p ⟨f0, n⟩ l hx hp hl, fun y hy => by simp at hy; subst hy; exact hx⟩
        rw [ct_one _ _ (by omega), ct_one _ _ (by omega)]
        simp [secs, ct]
    · rw [takeW, if_neg he]
      obtain ⟨i1, i2, i3⟩ := takeW_law t w n hn l (i + 1) (some (x.f0 + x.f1)) (fun y hy hi => hw y (by rw [show w - i = (w - (i + 1)) + 1 from by omega]; exact hy) (by omega)) hl
      refine ⟨fun j => ?_, (fitL_cons t p x _).2 ⟨hx, hp, i2⟩, i3⟩
      dsimp only
      rw [show x = (⟨x.f0, x.f1⟩ : S47) from rfl, ct_one _ _ (by omega), ct_one _ _ (by omega)]
      have := i1 j
      omega
end Go.Proofs.Ytgnaippmncnlaaa.P
