import Derived.Test.YtgnaippmncnlaaaH16
import Derived.Test.YtgnaippmncnlaaaP11
namespace Go.Proofs.Ytgnaippmncnlaaa.P
open Go.RowKit Go.Proofs.YtgnaippmncnlaaaW.PrintWords Go.Proofs.YtgnaippmncnlaaaW.PrintLast Go.Proofs.YtgnaippmncnlaaaW.PrintMore Go.Proofs.YtgnaippmncnlaaaW.HB
set_option linter.unusedVariables false

/-! What fits is told by its sectors. -/
theorem fitL_ext (t : Int) : ∀ (a b : List S47) (p : Option Int), fitL t p a = true → fitL t p b = true → (∀ j, ct (secs a) j = ct (secs b) j) → a = b
  | [], [], _, _, _, _ => rfl
  | [], y :: b, p, _, hb, h => by
    obtain ⟨hy, _, _⟩ := (fitL_cons t p y b).1 hb
    have := inB_of hy
    have h1 := h y.f0.toNat
    rw [show y = (⟨y.f0, y.f1⟩ : S47) from rfl, ct_one _ _ (by omega)] at h1
    dsimp only at h1
    rw [if_pos (by omega)] at h1
    simp [secs, ct] at h1
    omega
  | x :: a, [], p, ha, _, h => by
    obtain ⟨hy, _, _⟩ := (fitL_cons t p x a).1 ha
    have := inB_of hy
    have h1 := h x.f0.toNat
    rw [show x = (⟨x.f0, x.f1⟩ : S47) from rfl, ct_one _ _ (by omega)] at h1
    dsimp only at h1
    rw [if_pos (by omega)] at h1
    simp [secs, ct] at h1
  | x :: a, y :: b, p, ha, hb, h => by
    obtain ⟨hx, px, ha'⟩ := (fitL_cons t p x a).1 ha
    obtain ⟨hy, py, hb'⟩ := (fitL_cons t p y b).1 hb
    have bx := inB_of hx
    have bY := inB_of hy
    have la := (fit_low t a _ ha').2
    have lb := (fit_low t b _ hb').2
    have e : ∀ j, (if x.f0.toNat ≤ j ∧ j < x.f0.toNat + x.f1.toNat then 1 else 0) + ct (secs a) j = (if y.f0.toNat ≤ j ∧ j < y.f0.toNat + y.f1.toNat then 1 else 0) + ct (secs b) j := fun j => by
      rw [← ct_one x.f0 x.f1 (by omega), ← ct_one y.f0 y.f1 (by omega)]; exact h j
    have e0 : x.f0 = y.f0 := by
      rcases Int.lt_trichotomy x.f0 y.f0 with q | q | q
      · have := e x.f0.toNat; rw [if_pos (by omega), if_neg (by omega), lb _ (by omega)] at this; omega
      · exact q
      · have := e y.f0.toNat; rw [if_neg (by omega), if_pos (by omega), la _ (by omega)] at this; omega
    have e1 : x.f1 = y.f1 := by
      rcases Int.lt_trichotomy x.f1 y.f1 with q | q | q
      · have := e (x.f0 + x.f1).toNat; rw [if_neg (by omega), if_pos (by omega), la _ (by omega)] at this; omega
      · exact q
      · have := e (y.f0 + y.f1).toNat; rw [if_pos (by omega), if_neg (by omega), lb _ (by omega)] at this; omega
    have exy : x = y := by cases x; cases y; simp at e0 e1; simp [e0, e1]
    subst exy
    rw [fitL_ext t a b _ ha' hb' (fun j => by have := e j; omega)]
theorem count_ct : ∀ (ss : List Int), (∀ s ∈ ss, 0 ≤ s) → ∀ a : Int, ss.count a = if 0 ≤ a then ct ss a.toNat else 0
  | [], _, a => by simp [ct]
  | s :: ss, h, a => by
    have ih := count_ct ss (fun x hx => h x (by simp [hx])) a
    have h0 := h s (by simp)
    rw [List.count_cons, ih, ct_cons]
    by_cases ha : 0 ≤ a
    · rw [if_pos ha, if_pos ha]
      by_cases e : s = a
      · subst e; simp
      · rw [if_neg (by simpa using e), if_neg (by omega)]
    · rw [if_neg ha, if_neg ha, if_neg (by simp; omega)]
theorem ct_perm (a b : List Int) (ha : ∀ s ∈ a, 0 ≤ s) (hb : ∀ s ∈ b, 0 ≤ s) (h : ∀ j, ct a j = ct b j) : a.Perm b := by
  rw [List.perm_iff_count]
  intro s
  rw [count_ct a ha, count_ct b hb, h]
theorem sum_secs : ∀ (l : List S47), (∀ x ∈ l, 0 ≤ x.f1) → sumL l = (secs l).length
  | [], _ => rfl
  | x :: l, h => by
    have ih := sum_secs l (fun y hy => h y (by simp [hy]))
    have h0 := h x (by simp)
    have e1 : sumL (x :: l) = x.f1 + sumL l := by simp [sumL]
    have e2 : (secs (x :: l)).length = x.f1.toNat + (secs l).length := by simp [secs]
    rw [e1, e2, ih]; omega
theorem ct_len (a b c : List Int) (ha : ∀ s ∈ a, 0 ≤ s) (hb : ∀ s ∈ b, 0 ≤ s) (hc : ∀ s ∈ c, 0 ≤ s) (h : ∀ j, ct a j + ct b j = ct c j) : a.length + b.length = c.length := by
  have := (ct_perm (a ++ b) c (fun s hs => by rcases List.mem_append.1 hs with h | h; exact ha s h; exact hb s h) hc (fun j => by rw [ct_append, h])).length_eq
  rwa [List.length_append] at this
theorem takeGo_sum : ∀ (l : List S47) (n : Int), 0 ≤ n → n ≤ sumL l → (∀ x ∈ l, 1 ≤ x.f1) → sumL (takeGo l n).1 = n
  | [], n, h0, h1, _ => by simp [takeGo, sumL] at *; omega
  | x :: l, n, h0, h1, hx => by
    have e1 : sumL (x :: l) = x.f1 + sumL l := by simp [sumL]
    rw [takeGo]
    by_cases a : n < x.f1
    · rw [if_pos a]; simp [sumL]
    · rw [if_neg a]
      by_cases b : n = x.f1
      · rw [if_pos b]; simp [sumL, b]
      · rw [if_neg b]
        have := takeGo_sum l (n - x.f1) (by omega) (by omega) (fun y hy => hx y (by simp [hy]))
        have e2 : sumL (x :: (takeGo l (n - x.f1)).1) = x.f1 + sumL (takeGo l (n - x.f1)).1 := by simp [sumL]
        dsimp only
        rw [e2, this]; omega
end Go.Proofs.Ytgnaippmncnlaaa.P
namespace Go.Proofs.Ytgnaippmncnlaaa.P
open Go.RowKit Go.Proofs.YtgnaippmncnlaaaW.PrintWords Go.Proofs.YtgnaippmncnlaaaW.PrintLast Go.Proofs.YtgnaippmncnlaaaW.PrintMore Go.Proofs.YtgnaippmncnlaaaW.HB
set_option linter.unusedVariables false

/-! what is taken and given back is as it was -/
theorem take_back (t : Int) (h0 : 0 ≤ t) (h1 : t ≤ 65536) (l : List S47) (hfit : fitL t none l = true) (n : Int) : ∃ r, extent_Take.f l n = some r ∧ r.1.length ≤ 65536 ∧
    (¬ r.2.2 = 0 → r.1 = [] ∧ r.2.1 = l) ∧ (r.2.2 = 0 → 0 ≤ n ∧ n ≤ sumL l ∧ sumL r.1 = n) := by
  have hg := fit_good t h0 h1 l hfit
  have hl := fit_len' t h0 h1 l hfit
  have hlen := takeGo_len l n
  unfold extent_Take.f
  rw [if_pos hg]
  by_cases q0 : n < 0
  · rw [if_pos q0]; exact ⟨_, rfl, by simp, fun _ => ⟨rfl, rfl⟩, fun h => by simp at h⟩
  · rw [if_neg q0]
    by_cases q1 : sumL l < n
    · rw [if_pos q1]; exact ⟨_, rfl, by simp, fun _ => ⟨rfl, rfl⟩, fun h => by simp at h⟩
    · rw [if_neg q1]
      by_cases q2 : n = 0
      · rw [if_pos q2]; exact ⟨_, rfl, by simp, fun h => absurd rfl h, fun _ => ⟨by omega, by omega, by simp [sumL, q2]⟩⟩
      · rw [if_neg q2]
        cases hf : l.findIdx? (fun x => decide (n ≤ x.f1)) with
        | none => exact ⟨_, rfl, by dsimp only; omega, fun h => absurd rfl h, fun _ => ⟨by omega, by omega, takeGo_sum l n (by omega) (by omega) (fun x hx => (goodL_mem hg hx).1)⟩⟩
        | some w => exact ⟨_, rfl, by simp, fun h => absurd rfl h, fun _ => ⟨by omega, by omega, by simp [sumL]⟩⟩
theorem claim_moves (t : Int) (h0 : 0 ≤ t) (h1 : t ≤ 65536) (free : List S47) (hfit : fitL t none free = true) (l : List S47) (hl : ∀ x ∈ l, inB t x = true) (hd : ∀ j, ct (secs l) j ≤ ct (secs free) j) :
    ∃ r, extent_Claim.f t free l = some (r, 0) ∧ fitL t none r = true ∧ ∀ j, ct (secs r) j + ct (secs l) j = ct (secs free) j := by
  have hfl := fit_len' t h0 h1 free hfit
  obtain ⟨hin, hone⟩ := fit_one t free none hfit
  have hall : free.all (inB t) = true := List.all_eq_true.2 hin
  have hany : ¬ (l.any (fun x => !inB t x)) = true := by
    rw [Bool.not_eq_true, List.any_eq_false]
    intro x hx
    simp [hl x hx]
  have hss : ∀ s ∈ secs l, s.toNat < t.toNat := fun s hs => secs_lt h1 hl hs
  obtain ⟨m1, m2⟩ := marks_free t h1 free hin
  obtain ⟨s1, _⟩ := markAll_spec false (secs l) (marks0 t (secs free)) (fun s hs => by rw [m1]; exact hss s hs)
  obtain ⟨m, e1, e2, e3⟩ := s1 (fun j => ⟨fun h _ => by
    rw [m2 j] at h
    have := of_decide_eq_false h
    have := hd j
    omega, by have := hd j; have := hone j; omega⟩)
  unfold extent_Claim.f extent_change.f
  rw [if_pos ⟨h0, h1, hfl, hall⟩, if_neg hany, e1]
  obtain ⟨p1, _, p3⟩ := outs_law t m (by rw [e2, m1]; omega) m.length (Nat.le_refl _)
  refine ⟨packB m, rfl, p1, fun j => ?_⟩
  have e : outs m m.length = packB m := rfl
  rw [e] at p3
  rw [p3 j]
  have hj := e3 j
  rw [m2 j] at hj
  have hdj := hd j
  have hoj := hone j
  by_cases hc : 0 < ct (secs l) j
  · rw [if_pos hc] at hj
    rw [if_neg (by rw [hj]; simp)]
    omega
  · rw [if_neg hc] at hj
    by_cases hf : 0 < ct (secs free) j
    · rw [decide_eq_true hf] at hj
      rw [if_pos ⟨by rw [e2, m1]; exact ct_lt (fun s hs => secs_lt h1 hin hs) hf, hj⟩]
      omega
    · rw [decide_eq_false hf] at hj
      rw [if_neg (by rw [hj]; simp)]
      omega
theorem claim_some (t : Int) (h0 : 0 ≤ t) (h1 : t ≤ 65536) (free : List S47) (hfit : fitL t none free = true) (l : List S47) (hl : ∀ x ∈ l, inB t x = true) :
    ∃ r, extent_Claim.f t free l = some r ∧ ((∃ j, ct (secs free) j = 0 ∧ 0 < ct (secs l) j) → r.2 = 24) := by
  have hfl := fit_len' t h0 h1 free hfit
  obtain ⟨hin, hone⟩ := fit_one t free none hfit
  have hall : free.all (inB t) = true := List.all_eq_true.2 hin
  have hany : ¬ (l.any (fun x => !inB t x)) = true := by
    rw [Bool.not_eq_true, List.any_eq_false]
    intro x hx
    simp [hl x hx]
  have hss : ∀ s ∈ secs l, s.toNat < t.toNat := fun s hs => secs_lt h1 hl hs
  obtain ⟨m1, m2⟩ := marks_free t h1 free hin
  obtain ⟨_, s2⟩ := markAll_spec false (secs l) (marks0 t (secs free)) (fun s hs => by rw [m1]; exact hss s hs)
  unfold extent_Claim.f extent_change.f
  rw [if_pos ⟨h0, h1, hfl, hall⟩, if_neg hany]
  cases hm : markAll false (marks0 t (secs free)) (secs l) with
  | none => exact ⟨_, rfl, fun _ => rfl⟩
  | some m =>
    refine ⟨_, rfl, fun ⟨j, j1, j2⟩ => ?_⟩
    rw [s2 ⟨j, .inl ⟨by rw [m2 j]; exact decide_eq_false (by omega), by rw [m1]; exact ct_lt hss j2, j2⟩⟩] at hm
    cases hm
theorem secs_sorted (t : Int) (h1 : t ≤ 65536) : ∀ (l : List S47) (p : Option Int), fitL t p l = true → (secs l).Pairwise (· < ·)
  | [], _, _ => by simp [secs]
  | x :: l, p, h => by
    obtain ⟨hx, hp, hl⟩ := (fitL_cons t p x l).1 h
    have hb := inB_of hx
    have ih := secs_sorted t h1 l _ hl
    have hlow := (fit_low t l _ hl).1
    rw [secs_cons, List.pairwise_append]
    refine ⟨?_, ih, fun a ha b hb' => ?_⟩
    · rw [List.pairwise_map]
      exact (List.pairwise_lt_range' (step := 1)).imp (fun {a b} hab => by omega)
    · obtain ⟨q, hq, rfl⟩ := List.mem_map.1 ha
      have hq2 := (List.mem_range'_1.1 hq).2
      simp only [secs, List.mem_flatMap, List.mem_map, List.mem_range] at hb'
      obtain ⟨y, hy, k, hk, rfl⟩ := hb'
      have := (hlow y hy).2
      omega
theorem packI_law (t : Int) (h1 : t ≤ 65536) (ks : List Int) (hk : ∀ k ∈ ks, 0 ≤ k ∧ k < t) (hs : ks.Pairwise (· < ·)) : ∀ i, i ≤ ks.length → fitL t none (packI ks i) = true ∧ (∀ e, lastE none (packI ks i) = some e → ∀ k ∈ ks.drop i, e ≤ k) ∧ ∀ j, ct (secs (packI ks i)) j = ct (ks.take i) j
  | 0, _ => ⟨rfl, (fun e h => by cases h), fun j => by simp [packI, secs, ct]⟩
  | i + 1, hi => by
    obtain ⟨i1, i2, i3⟩ := packI_law t h1 ks hk hs i (by omega)
    have hlt : i < ks.length := by omega
    have hd : ks.drop i = ks[i] :: ks.drop (i + 1) := List.drop_eq_getElem_cons hlt
    have hnext : ∀ k ∈ ks.drop (i + 1), ks[i] < k := fun k hk => by
      have h2 := hs.sublist (List.drop_sublist i ks)
      rw [hd, List.pairwise_cons] at h2
      exact h2.1 k hk
    have hkk := hk ks[i] (List.getElem_mem _)
    have htk : ∀ j, ct (ks.take (i + 1)) j = ct (ks.take i) j + if (ks[i]).toNat = j then 1 else 0 := fun j => by
      rw [List.take_succ_eq_append_getElem hlt, ct_append, ct_cons]; simp [ct]
    rw [packI_succ ks i hlt, packStep_true, rd_at_int ks i hlt]
    rw [hd] at i2
    have htn : ((ks[i]).toNat : Int) = ks[i] := by omega
    generalize ks[i] = k at *
    rw [htn]
    have app : ¬ (0 < (packI ks i).length ∧ (rd_T47 (packI ks i) (((packI ks i).length : Int) - 1)).f0 + (rd_T47 (packI ks i) (((packI ks i).length : Int) - 1)).f1 = k) → pLe (lastE none (packI ks i)) k := fun hn => by
      rcases List.eq_nil_or_concat (packI ks i) with h | ⟨l, y, h⟩
      · rw [h]; trivial
      · rw [List.concat_eq_append] at h
        have hl : (packI ks i).length = l.length + 1 := by rw [h]; simp
        have hr : rd_T47 (packI ks i) (((packI ks i).length : Int) - 1) = y := by
          have : (((packI ks i).length : Int) - 1) = ((l.length : Nat) : Int) := by omega
          rw [this, rd_at_E _ _ (by omega)]; simp [h]
        rw [hr] at hn
        have hle := i2 (y.f0 + y.f1) (by rw [h, lastE_snoc]) k (by simp)
        rw [h, lastE_snoc]
        show y.f0 + y.f1 < k
        omega
    split
    · rename_i hc
      rcases List.eq_nil_or_concat (packI ks i) with h | ⟨l, y, h⟩
      · rw [h] at hc; simp at hc
      · rw [List.concat_eq_append] at h
        have hl : (packI ks i).length = l.length + 1 := by rw [h]; simp
        have hr : rd_T47 (packI ks i) (((packI ks i).length : Int) - 1) = y := by
          have : (((packI ks i).length : Int) - 1) = ((l.length : Nat) : Int) := by omega
          rw [this, rd_at_E _ _ (by omega)]; simp [h]
        rw [hr] at hc ⊢
        have hst : (packI ks i).set ((packI ks i).length - 1) ⟨y.f0, y.f1 + 1⟩ = l ++ [⟨y.f0, y.f1 + 1⟩] := by rw [hl, h]; simp
        rw [hst]
        rw [h] at i1 i3
        obtain ⟨k1, k2, k3⟩ := (fitL_snoc t y l none).1 i1
        have hby := inB_of k2
        refine ⟨(fitL_snoc t _ l none).2 ⟨k1, decide_eq_true (by dsimp only; omega), k3⟩, fun e he q hq => ?_, fun j => ?_⟩
        · rw [lastE_snoc] at he; cases he; have := hnext q hq; dsimp only; omega
        · have h3j := i3 j
          rw [secs_snoc _ _ _ hby.2.1] at h3j
          rw [secs_snoc _ _ _ (by exact hby.2.1), htk j]
          dsimp only
          by_cases hj : k.toNat = j
          · rw [if_neg (by omega)] at h3j
            rw [if_pos (by omega), if_pos hj]
            omega
          · rw [if_neg hj, ← h3j]
            by_cases hz : y.f0.toNat ≤ j ∧ j < y.f0.toNat + y.f1.toNat
            · rw [if_pos hz, if_pos (by omega)]
            · rw [if_neg hz, if_neg (by omega)]
    · rename_i hc
      have hp := app hc
      refine ⟨(fitL_snoc t _ _ none).2 ⟨i1, decide_eq_true (by dsimp only; omega), hp⟩, fun e he q hq => ?_, fun j => ?_⟩
      · rw [lastE_snoc] at he; cases he; have := hnext q hq; dsimp only; omega
      · rw [secs_snoc _ _ _ (by dsimp only; omega), i3 j, htk j]
        dsimp only
        by_cases hj : k.toNat = j
        · rw [if_pos (by omega), if_pos hj]
        · rw [if_neg (by omega), if_neg hj]
theorem pack_back (t : Int) (h0 : 0 ≤ t) (h1 : t ≤ 65536) (l : List S47) (hfit : fitL t none l = true) : extent_Pack.f (secs l) = some l := by
  have hg := fit_good t h0 h1 l hfit
  obtain ⟨hin, hone⟩ := fit_one t l none hfit
  have hm : ∀ k ∈ secs l, 0 ≤ k ∧ k < t := fun k hk => secs_mem h1 hin hk
  have hsl := secs_len l (fun y hy => (goodL_mem hg hy).2.1)
  have hgl := goodL_len hg
  have hs := secs_sorted t h1 l none hfit
  have hr : rising (secs l) = true := by
    unfold rising
    rw [Bool.and_eq_true, Bool.and_eq_true]
    exact ⟨⟨decide_eq_true (by omega), List.all_eq_true.2 (fun k hk => decide_eq_true (by have := hm k hk; omega))⟩, decide_eq_true hs⟩
  unfold extent_Pack.f
  rw [if_pos hr]
  obtain ⟨p1, _, p3⟩ := packI_law t h1 (secs l) hm hs (secs l).length (Nat.le_refl _)
  exact congrArg some (fitL_ext t _ _ none p1 hfit (fun j => by rw [p3 j, List.take_length]))
theorem count_k (l : List S47) (h : goodL l = true) (k : Nat) (hk : l.length < k) : extent_Count.f k l = some (sumL l) := by
  have := count_go l h l.length 0 k (by omega) hk
  simpa [extent_Count.f, sumL] using this
theorem fit_trueB (t : Int) (h0 : 0 ≤ t) (h1 : t ≤ 65536) (l : List S47) (hf : fitL t none l = true) (k : Nat) (hk : 65540 ≤ k) : extent_Fit.f k t l = some true := by
  have := fit_len' t h0 h1 l hf
  rw [fit_eq l t (by omega) k (by omega)]
  unfold fitB; rw [hf, decide_eq_true ⟨h0, h1⟩]; rfl
theorem good_ofB (t : Int) (h1 : t ≤ 65536) (l : List S47) (hn : l.length ≤ 65536) (hl : ∀ x ∈ l, inB t x = true) : goodL l = true := by
  unfold goodL
  rw [Bool.and_eq_true]
  refine ⟨decide_eq_true hn, List.all_eq_true.2 (fun x hx => ?_)⟩
  have := inB_of (hl x hx)
  exact decide_eq_true (by omega)
/-- At every input: true. -/
theorem back_eq (t : Int) (free : List S47) (n : Int) (hf : free.length < 4611686018427387904) : ∃ k, reeflaw09_ExtentBack.f k t free n = some true := by
  obtain ⟨K, hK⟩ : ∃ K, K = 2 * free.length + 70000 := ⟨_, rfl⟩
  refine ⟨K + 3, ?_⟩
  unfold reeflaw09_ExtentBack.f
  rw [rfit_eq free t hf (K + 3) (by omega), Option.bind_some]
  have haw : reeflaw09_awake.f = some true := rfl
  by_cases hfit : fitB t free = true
  · rw [if_pos hfit]
    unfold fitB at hfit
    rw [Bool.and_eq_true] at hfit
    obtain ⟨hft, hfl⟩ := hfit
    obtain ⟨h0, ht⟩ := of_decide_eq_true hft
    have hlen := fit_len' t h0 ht free hfl
    have hg := fit_good t h0 ht free hfl
    obtain ⟨r, hr, hrl, hre, hrz⟩ := take_back t h0 ht free hfl n
    obtain ⟨r', hr', hlaw⟩ := take_moves t h0 ht free hfl n
    obtain rfl : r = r' := by rw [hr] at hr'; exact Option.some.inj hr'
    clear hr'
    rw [hr, Option.bind_some]
    by_cases hz : r.2.2 = 0
    · rw [if_pos hz]
      obtain ⟨l1, l2, l3⟩ := hlaw hz
      obtain ⟨n0, n1, n2⟩ := hrz hz
      obtain ⟨taken, left, e⟩ := r
      dsimp only at *
      obtain ⟨hin, hone⟩ := fit_one t free none hfl
      have hgt := good_ofB t ht taken hrl l3
      have hgl := fit_good t h0 ht left l2
      have hll := fit_len' t h0 ht left l2
      obtain ⟨hinl, honel⟩ := fit_one t left none l2
      have f1 : ∀ (l : List S47), goodL l = true → ∀ x ∈ l, 0 ≤ x.f1 := fun l h x hx => by have := goodL_mem h hx; omega
      have s0 : ∀ (l : List S47), (∀ x ∈ l, inB t x = true) → ∀ s ∈ secs l, 0 ≤ s := fun l h s hs => (secs_mem ht h hs).1
      have hsum : sumL left + n = sumL free := by
        have h1 := ct_len (secs taken) (secs left) (secs free) (s0 _ l3) (s0 _ hinl) (s0 _ hin) l1
        have h2 := sum_secs taken (f1 _ hgt)
        rw [n2] at h2
        rw [sum_secs left (f1 _ hgl), sum_secs free (f1 _ hg), h2]
        omega
      have hfs : sumL free ≤ 4294967296 := by
        have h1 := secs_len free (fun y hy => (goodL_mem hg hy).2.1)
        rw [sum_secs free (f1 _ hg)]
        omega
      have hwr : wrap64 (sumL left + n) = sumL free := by
        rw [hsum]
        have : 0 ≤ sumL free := by rw [sum_secs free (f1 _ hg)]; omega
        exact wr _ (by omega)
      have HWR := Aside0.mk hwr
      clear hwr
      obtain ⟨b, hb1, hb2, hb3⟩ := give_moves t h0 ht left l2 taken l3 (fun j => by have := l1 j; have := hone j; omega)
      obtain rfl : b = free := fitL_ext t _ _ none hb2 hfl (fun j => by rw [hb3 j]; have := l1 j; omega)
      obtain ⟨q, hq1, hq2, hq3⟩ := claim_moves t h0 ht b hfl taken l3 (fun j => by have := l1 j; omega)
      obtain rfl : q = left := fitL_ext t _ _ none hq2 l2 (fun j => by have := hq3 j; have := l1 j; omega)
      obtain ⟨p, hp1, hp2⟩ := claim_some t h0 ht q l2 taken l3
      have hsec : extent_Sectors.f b = some (secs b) := by unfold extent_Sectors.f; rw [if_pos hg]
      rw [count_k taken hgt (K + 3) (by omega), Option.bind_some, if_pos n2, count_k q hgl (K + 3) (by omega), Option.bind_some, count_k b hg (K + 3) (by omega), Option.bind_some, if_pos HWR.out, fit_trueB t h0 ht q l2 (K + 3) (by omega), Option.bind_some]
      rw [reeflaw09_ExtentBack.j0, if_neg (by simp), hb1, Option.bind_some, if_pos rfl, same_eq b (by omega) (K + 2) (by omega), Option.bind_some]
      rw [reeflaw09_ExtentBack.j1, if_neg (by simp), hq1, Option.bind_some, if_pos rfl, same_eq q (by omega) (K + 1) (by omega), Option.bind_some]
      rw [reeflaw09_ExtentBack.j2, if_neg (by simp), hp1, Option.bind_some]
      by_cases hn : n = 0
      · rw [if_pos hn, hsec, Option.bind_some, pack_back t h0 ht b hfl, Option.bind_some, same_eq b (by omega) K (by omega), Option.bind_some, if_pos rfl, haw]
        rfl
      · rw [if_neg hn]
        have hex : ∃ j, ct (secs q) j = 0 ∧ 0 < ct (secs taken) j := by
          have h2 := sum_secs taken (f1 _ hgt)
          rw [n2] at h2
          obtain ⟨s, hs⟩ : ∃ s, s ∈ secs taken := List.exists_mem_of_length_pos (by omega)
          have hpos : 0 < ct (secs taken) s.toNat := by unfold ct; exact List.countP_pos_iff.2 ⟨s, hs, by simp⟩
          exact ⟨s.toNat, by have := l1 s.toNat; have := hone s.toNat; omega, hpos⟩
        rw [if_pos (hp2 hex), hsec, Option.bind_some, pack_back t h0 ht b hfl, Option.bind_some, same_eq b (by omega) K (by omega), Option.bind_some, if_pos rfl, haw]
        rfl
    · rw [if_neg hz]
      obtain ⟨e1, e2⟩ := hre hz
      rw [e1, e2, same_eq free hf (K + 3) (by omega), Option.bind_some, if_pos rfl, if_pos (by simp), haw]
      rfl
  · rw [if_neg hfit, haw]
    rfl
end Go.Proofs.Ytgnaippmncnlaaa.P
