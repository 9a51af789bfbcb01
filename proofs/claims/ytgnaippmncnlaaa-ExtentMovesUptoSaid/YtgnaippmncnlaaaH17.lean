import Derived.Test.YtgnaippmncnlaaaH16
import Derived.Test.YtgnaippmncnlaaaP10
namespace Go.Proofs.Ytgnaippmncnlaaa.P
open Go.RowKit Go.Proofs.YtgnaippmncnlaaaW.PrintWords Go.Proofs.YtgnaippmncnlaaaW.PrintLast Go.Proofs.YtgnaippmncnlaaaW.PrintMore Go.Proofs.YtgnaippmncnlaaaW.HB
set_option linter.unusedVariables false

/-- From some number of rounds on: true. -/
def Ev (f : Nat → Option Bool) : Prop := ∃ K, ∀ k, K ≤ k → f k = some true
theorem Ev.step {f h : Nat → Option Bool} (hh : Ev h) (N : Nat) (e : ∀ k, N ≤ k → f (k + 1) = h k) : Ev f := by
  obtain ⟨K, hK⟩ := hh
  refine ⟨K + N + 1, fun k hk => ?_⟩
  obtain ⟨k, rfl⟩ : ∃ q, k = q + 1 := ⟨k - 1, by omega⟩
  rw [e k (by omega)]
  exact hK k (by omega)
def hs (held : List (List S47)) (j : Nat) : Nat := (held.map (fun h => ct (secs h) j)).sum
theorem l4_ev (M : List Int) (hl : M.length ≤ 65536) (h : ∀ j, j < M.length → g M j = 1) : ∀ (m i : Nat), i + m = M.length → Ev (fun k => reeflaw09_ExtentMoves.l4 k M (M.length : Int) i) := by
  intro m
  induction m with
  | zero =>
    intro i hi
    refine ⟨1, fun k hk => ?_⟩
    obtain ⟨k, rfl⟩ : ∃ q, k = q + 1 := ⟨k - 1, by omega⟩
    simp only [reeflaw09_ExtentMoves.l4]
    rw [if_neg (by omega)]
    rfl
  | succ m ih =>
    intro i hi
    refine (ih (i + 1) (by omega)).step 0 (fun k _ => ?_)
    have EI : wrap64 ((i : Int) + 1) = ((i + 1 : Nat) : Int) := by rw [wr _ (by omega)]; omega
    have e : rd M (i : Int) = g M i := rfl
    have h1 := h i (by omega)
    simp only [reeflaw09_ExtentMoves.l4]
    rw [if_pos (by omega), if_pos (by omega), if_pos (by omega), e, if_pos h1, EI]
theorem l3_ev (held : List (List S47)) (T : Nat) (hT : T ≤ 65536) (q : Int) (ss : List Int) (hss : ∀ s ∈ ss, 0 ≤ s ∧ s < (T : Int)) (hsl : ss.length < 4611686018427387904) : ∀ (m i : Nat) (M : List Int), i + m = ss.length → M.length = T → (∀ j, 0 ≤ g M j ∧ g M j + (ct (ss.drop i) j : Int) ≤ 1) →
    (∀ M', M'.length = T → (∀ j, g M' j = g M j + (ct (ss.drop i) j : Int)) → Ev (fun k => reeflaw09_ExtentMoves.l2 k M' held (held.length : Int) (wrap64 (q + 1)))) → Ev (fun k => reeflaw09_ExtentMoves.l3 k M held (held.length : Int) q ss (ss.length : Int) i) := by
  intro m
  induction m with
  | zero =>
    intro i M hi hM hb hn
    refine (hn M hM (fun j => by rw [List.drop_eq_nil_of_le (by omega)]; simp [ct])).step 0 (fun k _ => ?_)
    simp only [reeflaw09_ExtentMoves.l3]
    rw [if_neg (by omega)]
  | succ m ih =>
    intro i M hi hM hb hn
    have hlt : i < ss.length := by omega
    have hr : rd ss (i : Int) = ss[i] := by unfold rd; rw [Int.toNat_natCast, List.getD_eq_getElem?_getD, List.getElem?_eq_getElem hlt]; rfl
    have hd : ss.drop i = ss[i] :: ss.drop (i + 1) := List.drop_eq_getElem_cons hlt
    obtain ⟨s0, s1⟩ := hss ss[i] (List.getElem_mem _)
    have EI : Aside0 (wrap64 ((i : Int) + 1) = ((i + 1 : Nat) : Int)) := ⟨by rw [wr _ (by omega)]; omega⟩
    rw [hd] at hb hn
    generalize ss[i] = s at *
    have hbs := hb s.toNat
    rw [ct_cons, if_pos rfl] at hbs
    have er : rd M s = g M s.toNat := rfl
    have hset : ∀ j, g (M.set s.toNat (g M s.toNat + 1)) j = g M j + (if s.toNat = j then 1 else 0) := fun j => by
      rw [g_set _ _ _ _ (by omega)]
      by_cases hj : s.toNat = j
      · subst hj; simp
      · simp [hj]
    refine (ih (i + 1) (M.set s.toNat (g M s.toNat + 1)) (by omega) (by rw [List.length_set]; exact hM) (fun j => ?_) (fun M' h1 h2 => hn M' h1 (fun j => ?_))).step 0 (fun k _ => ?_)
    · have := hb j
      rw [ct_cons] at this
      rw [hset j]
      split at this <;> split <;> omega
    · rw [h2 j, hset j, ct_cons]
      split <;> omega
    · simp only [reeflaw09_ExtentMoves.l3]
      rw [if_pos (by omega), if_pos (by omega), if_pos (by omega), hr, if_pos s0, if_pos (by omega), er, wr (g M s.toNat + 1) (by omega), EI.out]
theorem l1_ev (held : List (List S47)) (T : Nat) (hT : T ≤ 65536) (ss : List Int) (hss : ∀ s ∈ ss, 0 ≤ s ∧ s < (T : Int)) (hsl : ss.length < 4611686018427387904) : ∀ (m i : Nat) (M : List Int), i + m = ss.length → M.length = T → (∀ j, 0 ≤ g M j ∧ g M j + (ct (ss.drop i) j : Int) ≤ 1) →
    (∀ M', M'.length = T → (∀ j, g M' j = g M j + (ct (ss.drop i) j : Int)) → Ev (fun k => reeflaw09_ExtentMoves.l2 k M' held (held.length : Int) 0)) → Ev (fun k => reeflaw09_ExtentMoves.l1 k held M ss (ss.length : Int) i) := by
  intro m
  induction m with
  | zero =>
    intro i M hi hM hb hn
    refine (hn M hM (fun j => by rw [List.drop_eq_nil_of_le (by omega)]; simp [ct])).step 0 (fun k _ => ?_)
    simp only [reeflaw09_ExtentMoves.l1]
    rw [if_neg (by omega)]
  | succ m ih =>
    intro i M hi hM hb hn
    have hlt : i < ss.length := by omega
    have hr : rd ss (i : Int) = ss[i] := by unfold rd; rw [Int.toNat_natCast, List.getD_eq_getElem?_getD, List.getElem?_eq_getElem hlt]; rfl
    have hd : ss.drop i = ss[i] :: ss.drop (i + 1) := List.drop_eq_getElem_cons hlt
    obtain ⟨s0, s1⟩ := hss ss[i] (List.getElem_mem _)
    have EI : Aside0 (wrap64 ((i : Int) + 1) = ((i + 1 : Nat) : Int)) := ⟨by rw [wr _ (by omega)]; omega⟩
    rw [hd] at hb hn
    generalize ss[i] = s at *
    have hbs := hb s.toNat
    rw [ct_cons, if_pos rfl] at hbs
    have er : rd M s = g M s.toNat := rfl
    have hset : ∀ j, g (M.set s.toNat (g M s.toNat + 1)) j = g M j + (if s.toNat = j then 1 else 0) := fun j => by
      rw [g_set _ _ _ _ (by omega)]
      by_cases hj : s.toNat = j
      · subst hj; simp
      · simp [hj]
    refine (ih (i + 1) (M.set s.toNat (g M s.toNat + 1)) (by omega) (by rw [List.length_set]; exact hM) (fun j => ?_) (fun M' h1 h2 => hn M' h1 (fun j => ?_))).step 0 (fun k _ => ?_)
    · have := hb j
      rw [ct_cons] at this
      rw [hset j]
      split at this <;> split <;> omega
    · rw [h2 j, hset j, ct_cons]
      split <;> omega
    · simp only [reeflaw09_ExtentMoves.l1]
      rw [if_pos (by omega), if_pos (by omega), if_pos (by omega), hr, if_pos s0, if_pos (by omega), er, wr (g M s.toNat + 1) (by omega), EI.out]
theorem secs_good (t : Int) (h1 : t ≤ 65536) (l : List S47) (hl : ∀ x ∈ l, inB t x = true) : ∀ s ∈ secs l, 0 ≤ s ∧ s < (t.toNat : Int) := fun s hs => by have := secs_mem h1 hl hs; omega
theorem l2_ev (t : Int) (h0 : 0 ≤ t) (h1 : t ≤ 65536) (held : List (List S47)) (hh : held.length ≤ 4611686018427387904) (hin : ∀ h ∈ held, goodL h = true ∧ ∀ x ∈ h, inB t x = true) : ∀ (m i : Nat) (M : List Int), i + m = held.length → M.length = t.toNat →
    (∀ j, 0 ≤ g M j ∧ (j < t.toNat → g M j + (hs (held.drop i) j : Int) = 1)) → (∀ j, t.toNat ≤ j → g M j = 0) → Ev (fun k => reeflaw09_ExtentMoves.l2 k M held (held.length : Int) i) := by
  intro m
  induction m with
  | zero =>
    intro i M hi hM hb hz
    refine (l4_ev M (by omega) (fun j hj => ?_) M.length 0 (by omega)).step 0 (fun k _ => ?_)
    · have := (hb j).2 (by omega)
      rw [List.drop_eq_nil_of_le (by omega)] at this
      simpa [hs] using this
    · simp only [reeflaw09_ExtentMoves.l2]
      rw [if_neg (by omega)]
      rfl
  | succ m ih =>
    intro i M hi hM hb hz
    have hlt : i < held.length := by omega
    have hr : rd_L3 held (i : Int) = held[i] := by unfold rd_L3; rw [Int.toNat_natCast, List.getD_eq_getElem?_getD, List.getElem?_eq_getElem hlt]; rfl
    have hd : held.drop i = held[i] :: held.drop (i + 1) := List.drop_eq_getElem_cons hlt
    obtain ⟨hg, hi2⟩ := hin held[i] (List.getElem_mem _)
    rw [hd] at hb
    generalize held[i] = x at *
    have hsl : (secs x).length < 4611686018427387904 := by
      have := secs_len x (fun y hy => (goodL_mem hg hy).2.1)
      have := goodL_len hg
      omega
    have EI : Aside0 (wrap64 ((i : Int) + 1) = ((i + 1 : Nat) : Int)) := ⟨by rw [wr _ (by omega)]; omega⟩
    have hcons : ∀ j, hs (x :: held.drop (i + 1)) j = ct (secs x) j + hs (held.drop (i + 1)) j := fun j => by simp [hs]
    have hzero : ∀ j, t.toNat ≤ j → ct (secs x) j = 0 := fun j hj => by
      refine Nat.eq_zero_of_not_pos fun hc => ?_
      have := ct_lt (T := t.toNat) (fun s hs => secs_lt h1 hi2 hs) hc
      omega
    refine (l3_ev held t.toNat (by omega) i (secs x) (secs_good t h1 x hi2) hsl (secs x).length 0 M (by omega) hM (fun j => ?_) (fun M' e1 e2 => ?_)).step 0 (fun k _ => ?_)
    · rw [List.drop_zero]
      rcases Nat.lt_or_ge j t.toNat with hj | hj
      · have := hb j; have h3 := this.2 hj; rw [hcons j] at h3; omega
      · rw [hzero j hj, hz j hj]; omega
    · rw [EI.out]
      rw [List.drop_zero] at e2
      refine ih (i + 1) M' (by omega) e1 (fun j => ⟨?_, fun hj => ?_⟩) (fun j hj => ?_)
      · rw [e2 j]; have := hb j; omega
      · have h3 := (hb j).2 hj; rw [hcons j] at h3; rw [e2 j]; omega
      · rw [e2 j, hz j hj, hzero j hj]; rfl
    · simp only [reeflaw09_ExtentMoves.l2]
      rw [if_pos (by omega), if_pos (by omega), if_pos (by omega), hr]
      unfold extent_Sectors.f
      rw [if_pos hg]
      rfl
end Go.Proofs.Ytgnaippmncnlaaa.P
