import Derived.Test.YtgnaippmncnlaaaH15
import Derived.Test.YtgnaippmncnlaaaH5
namespace Go.Proofs.Ytgnaippmncnlaaa.P
open Go.RowKit Go.Proofs.YtgnaippmncnlaaaW.PrintWords Go.Proofs.YtgnaippmncnlaaaW.PrintLast Go.Proofs.YtgnaippmncnlaaaW.PrintMore Go.Proofs.YtgnaippmncnlaaaW.HB
set_option linter.unusedVariables false

theorem take_moves (t : Int) (h0 : 0 ≤ t) (h1 : t ≤ 65536) (l : List S47) (hfit : fitL t none l = true) (n : Int) : ∃ r, extent_Take.f l n = some r ∧
    (r.2.2 = 0 → (∀ j, ct (secs r.1) j + ct (secs r.2.1) j = ct (secs l) j) ∧ fitL t none r.2.1 = true ∧ ∀ x ∈ r.1, inB t x = true) := by
  have hg := fit_good t h0 h1 l hfit
  unfold extent_Take.f
  rw [if_pos hg]
  by_cases q0 : n < 0
  · rw [if_pos q0]; exact ⟨_, rfl, fun h => by simp at h⟩
  · rw [if_neg q0]
    by_cases q1 : sumL l < n
    · rw [if_pos q1]; exact ⟨_, rfl, fun h => by simp at h⟩
    · rw [if_neg q1]
      by_cases q2 : n = 0
      · rw [if_pos q2]; exact ⟨_, rfl, fun _ => ⟨fun j => by simp [secs, ct], hfit, fun x hx => by simp at hx⟩⟩
      · rw [if_neg q2]
        cases hf : l.findIdx? (fun x => decide (n ≤ x.f1)) with
        | none => exact ⟨_, rfl, fun _ => takeGo_law t l none n (by omega) hfit⟩
        | some w =>
          obtain ⟨hw, hp, _⟩ := List.findIdx?_eq_some_iff_getElem.1 hf
          have hp' : n ≤ (l[w]).f1 := by simpa using hp
          have hwq := takeW_eq w n (by omega) l 0 (by omega) (by omega) (fun x hx => (goodL_mem hg hx).1) (by simpa using hp')
          simp only [Nat.sub_zero] at hwq
          have hlaw := takeW_law t w n (by omega) l 0 none (fun x hx _ => by
            rw [Nat.sub_zero, List.getElem?_eq_getElem hw] at hx
            cases hx; exact hp') hfit
          rw [hwq] at hlaw
          refine ⟨_, rfl, fun _ => ?_⟩
          dsimp only
          rw [rd_at_E l w hw]
          exact hlaw
theorem marks_free (t : Int) (h1 : t ≤ 65536) (free : List S47) (hin : ∀ x ∈ free, inB t x = true) : (marks0 t (secs free)).length = t.toNat ∧ ∀ j, gb (marks0 t (secs free)) j = decide (0 < ct (secs free) j) := by
  obtain ⟨q1, q2⟩ := marks_get (secs free) (List.replicate t.toNat false) (fun s hs => by simpa using secs_lt h1 hin hs)
  refine ⟨by unfold marks0; rw [q1]; simp, fun j => ?_⟩
  have e : gb (List.replicate t.toNat false) j = false := by unfold gb; rw [List.getD_eq_getElem?_getD, List.getElem?_replicate]; split <;> rfl
  unfold marks0
  rw [q2 j, e, Bool.false_or]
theorem give_moves (t : Int) (h0 : 0 ≤ t) (h1 : t ≤ 65536) (free : List S47) (hfit : fitL t none free = true) (l : List S47) (hl : ∀ x ∈ l, inB t x = true) (hd : ∀ j, ct (secs free) j + ct (secs l) j ≤ 1) :
    ∃ r, extent_Give.f t free l = some (r, 0) ∧ fitL t none r = true ∧ ∀ j, ct (secs r) j = ct (secs free) j + ct (secs l) j := by
  have hfl := fit_len' t h0 h1 free hfit
  obtain ⟨hin, hone⟩ := fit_one t free none hfit
  have hall : free.all (inB t) = true := List.all_eq_true.2 hin
  have hany : ¬ (l.any (fun x => !inB t x)) = true := by
    rw [Bool.not_eq_true, List.any_eq_false]
    intro x hx
    simp [hl x hx]
  have hss : ∀ s ∈ secs l, s.toNat < t.toNat := fun s hs => secs_lt h1 hl hs
  obtain ⟨m1, m2⟩ := marks_free t h1 free hin
  obtain ⟨s1, _⟩ := markAll_spec true (secs l) (marks0 t (secs free)) (fun s hs => by rw [m1]; exact hss s hs)
  obtain ⟨m, e1, e2, e3⟩ := s1 (fun j => ⟨fun h _ => by
    rw [m2 j] at h
    have := of_decide_eq_true h
    have := hd j
    omega, by have := hd j; omega⟩)
  unfold extent_Give.f extent_change.f
  rw [if_pos ⟨h0, h1, hfl, hall⟩, if_neg hany, e1]
  obtain ⟨p1, _, p3⟩ := outs_law t m (by rw [e2, m1]; omega) m.length (Nat.le_refl _)
  refine ⟨packB m, rfl, p1, fun j => ?_⟩
  have e : outs m m.length = packB m := rfl
  rw [e] at p3
  rw [p3 j]
  have hj := e3 j
  rw [m2 j] at hj
  have hdj := hd j
  by_cases hc : 0 < ct (secs l) j
  · rw [if_pos hc] at hj
    rw [if_pos ⟨by rw [e2, m1]; exact ct_lt hss hc, hj⟩]
    omega
  · rw [if_neg hc] at hj
    by_cases hf : 0 < ct (secs free) j
    · rw [decide_eq_true hf] at hj
      rw [if_pos ⟨by rw [e2, m1]; exact ct_lt (fun s hs => secs_lt h1 hin hs) hf, hj⟩]
      omega
    · rw [decide_eq_false hf] at hj
      rw [if_neg (by rw [hj]; simp)]
      omega
end Go.Proofs.Ytgnaippmncnlaaa.P
