/- The plain law behind ObjmapPacks: no Go and no memory in it. Conditions: those of its own statement. -/
import Derived.Test.YtpaapnkpijincaaQ8
namespace Go.Proofs.Ytpaapnkpijincaa.Pure
open Go.RowKit Go.Proofs.Ytpaapnkpijincaa.P Go.Proofs.YtpaapnkpijincaaW.PrintWords Go.Proofs.YtpaapnkpijincaaW.PrintLast Go.Proofs.YtpaapnkpijincaaW.PrintMore

theorem ObjmapPacks : reeflaw29_ObjmapPacks.Pure := by
  intro m s n hm hs hn
  have haw : reeflaw29_awake.f = some true := rfl
  have hj : EvR (fun k => reeflaw29_ObjmapPacks.j0 k m false) true := by
    by_cases hf : fitM m = true
    · have h2 := ((fitM_true m).1 hf).2
      have hl := rows_len m m.size h2
      obtain ⟨K1, h1⟩ := rrows_eq m hf
      obtain ⟨K2, h3⟩ := packs_l m hf (rowsOf (plc m m.size)) hl _ 0 (Nat.zero_add _)
      refine ⟨m.size + K1 + K2 + 2, fun k hk => ?_⟩
      obtain ⟨k, rfl⟩ : ∃ q, k = q + 1 := ⟨k - 1, by omega⟩
      have a1 : reefref29_Rows.f k m = some (rowsOf (plc m m.size)) := h1 k (by omega)
      have a2 : reeflaw29_ObjmapPacks.l0 k m _ _ ((0 : Nat) : Int) = some true := h3 k (by omega)
      simp only [reeflaw29_ObjmapPacks.j0]
      rw [if_neg (by simp), rfit_eq m hm _ (by omega), Option.bind_some, if_pos hf, rows_some m h2, Option.bind_some, a1, Option.bind_some, if_pos rfl]
      exact a2
    · refine ⟨m.size + 2, fun k hk => ?_⟩
      obtain ⟨k, rfl⟩ : ∃ q, k = q + 1 := ⟨k - 1, by omega⟩
      simp only [reeflaw29_ObjmapPacks.j0]
      rw [if_neg (by simp), rfit_eq m hm _ (by omega), Option.bind_some, if_neg hf, haw]
      rfl
  obtain ⟨K1, h1⟩ := hj
  obtain ⟨K2, h2⟩ := runpack_eq s n
  refine ⟨K1 + K2 + 4101, ?_⟩
  have a1 : reeflaw29_ObjmapPacks.j0 (K1 + K2 + 4101) m false = some true := h1 (K1 + K2 + 4101) (by omega)
  have a2 : reefref29_Unpack.f (K1 + K2 + 4101) s n = some (unR s n) := h2 (K1 + K2 + 4101) (by omega)
  unfold reeflaw29_ObjmapPacks.f
  rw [unpack_eq s n hs _ (by omega), Option.bind_some, a2, Option.bind_some, if_pos rfl]
  simpa using a1
end Go.Proofs.Ytpaapnkpijincaa.Pure
