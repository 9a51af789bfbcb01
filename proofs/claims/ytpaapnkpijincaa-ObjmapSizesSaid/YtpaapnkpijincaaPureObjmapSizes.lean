/- The plain law behind ObjmapSizes: no Go and no memory in it. Conditions: those of its own statement. -/
import Derived.Test.YtpaapnkpijincaaQ7
namespace Go.Proofs.Ytpaapnkpijincaa.Pure
open Go.RowKit Go.Proofs.Ytpaapnkpijincaa.P Go.Proofs.YtpaapnkpijincaaW.PrintWords Go.Proofs.YtpaapnkpijincaaW.PrintLast Go.Proofs.YtpaapnkpijincaaW.PrintMore

theorem and_of_eq_true_l {a b : Bool} (h : (a && b) = true) : a = true := by cases a <;> simp_all
theorem clamp (n : Int) : 0 ≤ mn (mx n 0) 4096 ∧ mn (mx n 0) 4096 ≤ 4096 ∧ (0 ≤ n → n ≤ 4096 → mn (mx n 0) 4096 = n) := by
  unfold mn mx
  split <;> split <;> omega
theorem ObjmapSizes : reeflaw29_ObjmapSizes.Pure := by
  intro m n idx hm hn hi
  have haw : reeflaw29_awake.f = some true := rfl
  refine ⟨m.size + 4100 + 1, ?_⟩
  unfold reeflaw29_ObjmapSizes.f
  rw [rfit_eq m hm _ (by omega), Option.bind_some]
  by_cases hf : fitM m = true
  · have h2 := ((fitM_true m).1 hf).2
    obtain ⟨c1, c2, c3⟩ := clamp n
    generalize mn (mx n 0) 4096 = c at *
    have d1 := (clamp c).2.2 c1 c2
    have d2 := (clamp (m.size : Int)).2.2 (by omega) (by omega)
    have hj : reeflaw29_ObjmapSizes.j0 (m.size + 4100 + 1) m false = some true := by
      rw [reeflaw29_ObjmapSizes.j0, if_neg (by simp), rows_some m h2, Option.bind_some]
      have hl := rows_len m m.size h2
      exact sizes_go m h2 _ rfl (rowsOf (plc m m.size)) [] (m.size + 4100) rfl (by omega)
    have hs1 := size_some m c h2
    rw [d1] at hs1
    have hs2 := size_some (sizeM m c.toNat) (m.size : Int) (by rw [sizeM_size]; omega)
    rw [d2] at hs2
    have hz : ((sizeM (sizeM m c.toNat) (m.size : Int).toNat).size : Int) = (m.size : Int) := by rw [sizeM_size]; omega
    have hg : getM (sizeM (sizeM m c.toNat) (m.size : Int).toNat) idx = (getM m idx && decide (idx < c)) := by
      rw [getM_size, getM_size]
      have : ((c.toNat : Nat) : Int) = c := by omega
      rw [this]
      cases hg : getM m idx with
      | false => rfl
      | true =>
        unfold getM at hg
        have h3 := of_decide_eq_true (and_of_eq_true_l hg)
        rw [decide_eq_true (show idx < (((m.size : Int).toNat : Nat) : Int) by omega), Bool.and_true]
    rw [if_pos hf, hs1, Option.bind_some, hs2, Option.bind_some, if_pos hz, get_eq, Option.bind_some, get_eq, Option.bind_some, hg]
    cases hq : getM m idx with
    | true =>
      rw [if_pos rfl]
      simpa using hj
    | false =>
      rw [if_neg (by simp)]
      simpa using hj
  · rw [if_neg hf, haw]
    rfl
end Go.Proofs.Ytpaapnkpijincaa.Pure
