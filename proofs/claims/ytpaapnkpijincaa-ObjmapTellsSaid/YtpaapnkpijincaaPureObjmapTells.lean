/- The plain law behind ObjmapTells: no Go and no memory in it. Conditions: those of its own statement. -/
import Derived.Test.YtpaapnkpijincaaP3
import Derived.Test.YtpaapnkpijincaaQ1
namespace Go.Proofs.Ytpaapnkpijincaa.Pure
open Go.RowKit Go.Proofs.Ytpaapnkpijincaa.P Go.Proofs.YtpaapnkpijincaaW.PrintWords Go.Proofs.YtpaapnkpijincaaW.PrintLast Go.Proofs.YtpaapnkpijincaaW.PrintMore

theorem ObjmapTells : reeflaw29_ObjmapTells.Pure := by
  intro m n idx l is hm hn hi hl1 hl2 hw
  have hl : l.length < 4611686018427387904 := by omega
  refine ⟨m.size + l.length + 5, ?_⟩
  have haw : reeflaw29_awake.f = some true := rfl
  have hnew : objmap_New.f n = reefref29_New.f n := rfl
  have hnews : ∃ b, reefref29_New.f n = some b := by
    unfold reefref29_New.f
    have h0 : 0 ≤ mn (mx n 0) 4096 := by unfold mn mx; split <;> split <;> omega
    have h1 : mn (mx n 0) 4096 ≤ 4096 := by unfold mn mx; split <;> split <;> omega
    rw [if_pos h0, if_pos (by omega)]
    exact ⟨_, rfl⟩
  obtain ⟨b, hb⟩ := hnews
  unfold reeflaw29_ObjmapTells.f
  rw [fit_eq m hm _ (by omega), Option.bind_some, rfit_eq m hm _ (by omega), Option.bind_some, if_neg (by simp), hnew, hb, Option.bind_some, Option.bind_some]
  rw [show m.size + l.length + 5 = (m.size + l.length + 4) + 1 from rfl, reeflaw29_ObjmapTells.j0, if_neg (by simp), rfit_eq m hm _ (by omega), Option.bind_some]
  by_cases hf : fitM m = true
  · rw [if_pos hf]
    have hs := ((fitM_true m).1 hf).2
    have hget : reefref29_Get.f m idx = objmap_Get.f m idx := rfl
    have hsome : ∃ g, objmap_Get.f m idx = some g := by
      unfold objmap_Get.f
      split
      · split
        · exact ⟨_, rfl⟩
        · exact ⟨_, rfl⟩
      · exact ⟨_, rfl⟩
    obtain ⟨g, hg⟩ := hsome
    have hset : objmap_Set.f m l is = some (strOfNums (setL (bytesOf m) l (if is then 1 else 0))) := by unfold objmap_Set.f; rw [if_pos ⟨hs, by omega⟩]
    have hset2 : reefref29_Set.f m l is = some (strOfNums (setL (bytesOf m) l (if is then 1 else 0))) := by unfold reefref29_Set.f; rw [if_pos ⟨hs, by omega⟩]
    have hsz : objmap_Size.f m n = some (strOfNums (sizeL (bytesOf m) (mn (mx n 0) 4096).toNat)) := by unfold objmap_Size.f; rw [if_pos hs]
    have hsz2 : reefref29_Size.f m n = some (strOfNums (sizeL (bytesOf m) (mn (mx n 0) 4096).toNat)) := by unfold reefref29_Size.f; rw [if_pos hs]
    have hc : objmap_Count.f m = some ((plc m m.size).length : Int) := by unfold objmap_Count.f; rw [if_pos hs]
    have hlen : ([] : List Int).length + l.length < 17592186044416 := by rw [List.length_nil]; omega
    rw [Option.bind_some, if_pos hlen, Option.bind_some, List.nil_append, hg, Option.bind_some, hget, hg, Option.bind_some, if_pos (by simp), hset, Option.bind_some, hset2, Option.bind_some, if_pos rfl, ints_eq l hl _ (by omega), Option.bind_some, if_pos rfl]
    rw [hsz, Option.bind_some, hsz2, Option.bind_some, if_pos rfl, hc, Option.bind_some, rcount_eq m hs _ (by omega), Option.bind_some, if_pos rfl, haw]
    rfl
  · rw [if_neg hf, haw]
    rfl
end Go.Proofs.Ytpaapnkpijincaa.Pure
