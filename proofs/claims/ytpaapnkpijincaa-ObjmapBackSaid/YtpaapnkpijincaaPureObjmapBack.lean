/- The plain law behind ObjmapBack: no Go and no memory in it. Conditions: those of its own statement. -/
import Derived.Test.YtpaapnkpijincaaP3
import Derived.Test.YtpaapnkpijincaaQ4
namespace Go.Proofs.Ytpaapnkpijincaa.Pure
open Go.RowKit Go.Proofs.Ytpaapnkpijincaa.P Go.Proofs.YtpaapnkpijincaaW.PrintWords Go.Proofs.YtpaapnkpijincaaW.PrintLast Go.Proofs.YtpaapnkpijincaaW.PrintMore

theorem back_j (m : ByteArray) (hm : m.size ≤ 140737488351232) (k : Nat) (hk : m.size + 4101 < k) : reeflaw29_ObjmapBack.j0 (k + 1) m false = some true := by
  have haw : reeflaw29_awake.f = some true := rfl
  rw [reeflaw29_ObjmapBack.j0, if_neg (by simp), rfit_eq m hm _ (by omega), Option.bind_some]
  by_cases hf : fitM m = true
  · have h2 := ((fitM_true m).1 hf).2
    have hp : objmap_Pack.f m = some (strOfNums (packL m)) := by unfold objmap_Pack.f packL; rw [if_pos h2]
    have hz : (strOfNums (packL m)).size ≤ 140737488351232 := by rw [strOfNums_size, (packL_law m h2).2.1]; omega
    rw [if_pos hf, hp, Option.bind_some, unpack_eq _ _ hz _ (by omega), Option.bind_some, un_pack m hf, if_pos rfl, if_pos rfl, haw]
    rfl
  · rw [if_neg hf, haw]
    rfl
theorem ObjmapBack : reeflaw29_ObjmapBack.Pure := by
  intro m s n hm hs hn
  refine ⟨m.size + 4110 + 1, ?_⟩
  unfold reeflaw29_ObjmapBack.f
  rw [unpack_eq s n hs _ (by omega), Option.bind_some]
  have hj := back_j m hm (m.size + 4110) (by omega)
  by_cases h1 : n < 0 ∨ 4096 < n
  · have e : unR s n = (⟨#[]⟩, 20) := by unfold unR; rw [if_pos h1]
    rw [e, if_neg (by decide)]
    exact hj
  · by_cases h2 : (s.size : Int) = (n + 7) / 8
    · by_cases h3 : topB s n.toNat = true
      · have e : unR s n = (⟨#[]⟩, 10) := by unfold unR; rw [if_neg h1, if_neg (fun h => h h2), if_pos h3]
        rw [e, if_neg (by decide)]
        exact hj
      · have e : unR s n = (strOfNums (unL s n.toNat), 0) := by unfold unR; rw [if_neg h1, if_neg (fun h => h h2), if_neg h3]
        have hz := un_size s n.toNat
        have hp : objmap_Pack.f (strOfNums (unL s n.toNat)) = some (strOfNums (packL (strOfNums (unL s n.toNat)))) := by unfold objmap_Pack.f packL; rw [if_pos (by omega)]
        rw [e]
        dsimp only
        rw [if_pos rfl, hp, Option.bind_some, pack_un s n.toNat (by omega) (by omega) (by simpa using h3), if_pos rfl, hz, if_pos (by omega), fit_eq _ (by omega) _ (by omega), Option.bind_some, fit_un s n.toNat (by omega)]
        exact hj
    · have e : unR s n = (⟨#[]⟩, 10) := by unfold unR; rw [if_neg h1, if_pos h2]
      rw [e, if_neg (by decide)]
      exact hj
end Go.Proofs.Ytpaapnkpijincaa.Pure
