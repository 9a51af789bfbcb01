import Derived.Test.YtpaapnkpijincaaP5
import Derived.Test.YtpaapnkpijincaaQ5
namespace Go.Proofs.Ytpaapnkpijincaa.P
open Go.RowKit Go.Proofs.YtpaapnkpijincaaW.PrintWords Go.Proofs.YtpaapnkpijincaaW.PrintLast Go.Proofs.YtpaapnkpijincaaW.PrintMore Go.Proofs.YtpaapnkpijincaaW.HB
set_option linter.unusedVariables false
set_option linter.unusedSimpArgs false
set_option linter.unusedSectionVars false

/-! what exists stays marked -/
/-- From some number of rounds on: true. -/
def Ev (f : Nat → Option Bool) : Prop := ∃ K, ∀ k, K ≤ k → f k = some true
theorem Ev.step {f h : Nat → Option Bool} (hh : Ev h) (e : ∀ k, f (k + 1) = h k) : Ev f := by
  obtain ⟨K, hK⟩ := hh
  refine ⟨K + 1, fun k hk => ?_⟩
  obtain ⟨k, rfl⟩ : ∃ q, k = q + 1 := ⟨k - 1, by omega⟩
  rw [e k]
  exact hK k (by omega)
theorem Ev.now {f : Nat → Option Bool} (e : ∀ k, f (k + 1) = some true) : Ev f := ⟨1, fun k hk => by
  obtain ⟨k, rfl⟩ : ∃ q, k = q + 1 := ⟨k - 1, by omega⟩
  exact e k⟩
theorem rdI (l : List Int) (i : Nat) (h : i < l.length) : rd l (i : Int) = l[i] := rd_at_I l i h
theorem stepW (i n : Nat) (h : i < n) (hn : n < 4611686018427387904) : Aside0 (wrap64 ((i : Int) + 1) = ((i + 1 : Nat) : Int)) := ⟨wrS _ (by omega)⟩
theorem set_f (m : ByteArray) (hm : m.size ≤ 4096) (l : List Int) (hl : l.length ≤ 4611686018427387904) (is : Bool) : objmap_Set.f m l is = some (setM m l is) := by
  unfold objmap_Set.f setM; rw [if_pos ⟨hm, hl⟩]
theorem safe_f (m : ByteArray) (l : List Int) (h : ∀ k ∈ l, getM m k = true) : objmap_Safe.f m l = some true := by
  unfold objmap_Safe.f
  have : l.any (fun k => !getM m k) = false := by rw [List.any_eq_false]; intro k hk; simp [h k hk]
  rw [this]; rfl
def frL (ex gone : List Int) : List Int := gone.filter (fun x => !decide (x ∈ ex))
theorem frL_succ (ex gone : List Int) (i : Nat) (h : i < gone.length) : frL ex (gone.take (i + 1)) = frL ex (gone.take i) ++ (if gone[i] ∈ ex then [] else [gone[i]]) := by
  unfold frL
  rw [List.take_succ_eq_append_getElem h, List.filter_append, List.filter_cons, List.filter_nil]
  congr 1
  by_cases q : gone[i] ∈ ex <;> simp [q]
theorem frL_len (ex gone : List Int) : (frL ex gone).length ≤ gone.length := List.length_filter_le _ _
section
variable (m : ByteArray) (hm : m.size ≤ 4096) (ex more gone : List Int) (hex : ex.length < 17592186044416) (hmo : more.length < 17592186044416) (hgo : gone.length < 17592186044416) (all : ByteArray)
  (hs : ∀ k ∈ ex, getM m k = true) (hall : ∀ k ∈ ex, getM all k = true)
include hm hex hmo hgo hs hall
theorem fin_ev : Ev (fun k => reeflaw29_ObjmapErrs.l2 k m ex more gone all (frL ex gone) (gone.length : Int)) := by
  refine Ev.now (fun k => ?_)
  have hfl := frL_len ex gone
  have haw : reeflaw29_awake.f = some true := rfl
  simp only [reeflaw29_ObjmapErrs.l2]
  have s1 := safe_f (setM m more true) ex (fun k hk => by
    rw [getM_set]; split
    · rfl
    · exact hs k hk)
  have s2 := safe_f (setM m (frL ex gone) false) ex (fun k hk => by
    rw [getM_set, if_neg]
    · exact hs k hk
    · rintro ⟨h, _⟩
      unfold frL at h
      have := (List.mem_filter.1 h).2
      simp [hk] at this)
  have s3 := safe_f all ex hall
  rw [if_neg (by omega), set_f m hm more (by omega), Option.bind_some, s1, Option.bind_some, if_pos rfl, set_f m hm _ (by omega), Option.bind_some, s2, Option.bind_some, if_pos rfl, s3, Option.bind_some, if_pos rfl, haw]
  rfl
theorem l3_ev (i : Nat) (hi : i < gone.length) (fr : List Int) (hfr : fr.length ≤ i) (hn : Ev (fun k => reeflaw29_ObjmapErrs.l2 k m ex more gone all (fr ++ (if gone[i] ∈ ex then [] else [gone[i]])) ((i + 1 : Nat) : Int))) : ∀ (d j : Nat) (b : Bool), j + d = ex.length → (b = true ↔ gone[i] ∈ ex.take j) → Ev (fun k => reeflaw29_ObjmapErrs.l3 k m ex more gone all fr (i : Int) b (j : Int))
  | 0, j, b, hj, hb => by
    have EI := stepW i gone.length hi (by omega)
    rw [List.take_of_length_le (by omega)] at hb
    have hrd := rdI gone i hi
    refine hn.step (fun k => ?_)
    simp only [reeflaw29_ObjmapErrs.l3]
    rw [if_neg (by omega)]
    cases b with
    | true => rw [if_pos rfl, if_pos (hb.1 rfl), List.append_nil, EI.out]
    | false => rw [if_neg (by simp), if_pos (by omega), if_pos (by omega), if_pos (by omega), if_neg (fun h => by have := hb.2 h; cases this), hrd, EI.out]
  | d + 1, j, b, hj, hb => by
    have hlt : j < ex.length := by omega
    have EJ := stepW j ex.length hlt (by omega)
    have hrd := rdI gone i hi
    have hre := rdI ex j hlt
    have ht : ex.take (j + 1) = ex.take j ++ [ex[j]] := List.take_succ_eq_append_getElem hlt
    cases b with
    | true =>
      refine (l3_ev i hi fr hfr hn d (j + 1) true (by omega) ⟨fun _ => by rw [ht]; exact List.mem_append_left _ (hb.1 rfl), fun _ => rfl⟩).step (fun k => ?_)
      simp only [reeflaw29_ObjmapErrs.l3]
      rw [if_pos (by omega), if_pos trivial, EJ.out]
    | false =>
      refine (l3_ev i hi fr hfr hn d (j + 1) (ex[j] == gone[i]) (by omega) ?_).step (fun k => ?_)
      · rw [ht, List.mem_append, List.mem_singleton, beq_iff_eq]
        constructor
        · intro h; exact .inr h.symm
        · rintro (h | h)
          · have := hb.2 h; cases this
          · exact h.symm
      · simp only [reeflaw29_ObjmapErrs.l3]
        rw [if_pos (by omega), if_neg (by simp), if_pos (by omega), if_pos (by omega), if_pos (by omega), hre, hrd, EJ.out]
theorem l2_ev : ∀ (d i : Nat), i + d = gone.length → Ev (fun k => reeflaw29_ObjmapErrs.l2 k m ex more gone all (frL ex (gone.take i)) (i : Int))
  | 0, i, hi => by
    obtain rfl : i = gone.length := by omega
    rw [List.take_length]
    exact fin_ev m hm ex more gone hex hmo hgo all hs hall
  | d + 1, i, hi => by
    have hlt : i < gone.length := by omega
    have hl : (frL ex (gone.take i)).length ≤ i := by have := frL_len ex (gone.take i); rw [List.length_take] at this; omega
    have ih := l2_ev d (i + 1) (by omega)
    rw [frL_succ ex gone i hlt] at ih
    refine (l3_ev m hm ex more gone hex hmo hgo all hs hall i hlt _ hl ih ex.length 0 false (by omega) (by simp)).step (fun k => ?_)
    simp only [reeflaw29_ObjmapErrs.l2]
    rw [if_pos (by omega)]
    rfl
end
theorem l1_ev (m : ByteArray) (ex more gone needs : List Int) (all : ByteArray) (hn : needs.length < 4611686018427387904) (hp : needs.Pairwise (· < ·)) (hg : ∀ x ∈ needs, getM m x = false)
    (hc : (∃ k ∈ ex, getM m k = false) ∨ Ev (fun k => reeflaw29_ObjmapErrs.l2 k m ex more gone all [] 0)) : ∀ (d i : Nat), i + d = needs.length → Ev (fun k => reeflaw29_ObjmapErrs.l1 k m ex more gone needs all (i : Int))
  | 0, i, hi => by
    rcases Classical.em (∀ k ∈ ex, getM m k = true) with h | h
    · have hc2 : Ev (fun k => reeflaw29_ObjmapErrs.l2 k m ex more gone all [] 0) := by
        rcases hc with ⟨k, hk, h2⟩ | h2
        · rw [h k hk] at h2; cases h2
        · exact h2
      refine hc2.step (fun k => ?_)
      simp only [reeflaw29_ObjmapErrs.l1]
      rw [if_neg (by omega), safe_f m ex h, Option.bind_some, if_pos rfl]
    · refine Ev.now (fun k => ?_)
      simp only [reeflaw29_ObjmapErrs.l1]
      have : objmap_Safe.f m ex = some false := by
        unfold objmap_Safe.f
        have h2 : ex.any (fun k => !getM m k) = true := by
          rw [List.any_eq_true]
          obtain ⟨k, h3⟩ := Classical.not_forall.1 h
          obtain ⟨h4, h5⟩ := Classical.not_imp.1 h3
          exact ⟨k, h4, by simpa using h5⟩
        rw [h2]; rfl
      rw [if_neg (by omega), this, Option.bind_some, if_neg (by simp)]
      rfl
  | d + 1, i, hi => by
    have hlt : i < needs.length := by omega
    have EI := stepW i needs.length hlt hn
    have hr := rdI needs i hlt
    have hget : objmap_Get.f m needs[i] = some false := (get_eq m _).trans (congrArg some (hg _ (List.getElem_mem _)))
    refine (l1_ev m ex more gone needs all hn hp hg hc d (i + 1) (by omega)).step (fun k => ?_)
    simp only [reeflaw29_ObjmapErrs.l1]
    rw [if_pos (by omega), if_pos (by omega), hr, hget, Option.bind_some, if_neg (by simp)]
    by_cases h0 : i = 0
    · rw [if_neg (by omega), EI.out]
    · have E1 := Aside0.mk (show wrap64 ((i : Int) - 1) = ((i - 1 : Nat) : Int) from by rw [wrS _ (by omega)]; omega)
      have hr1 := rdI needs (i - 1) (by omega)
      have hlt2 := (List.pairwise_iff_getElem.1 hp) (i - 1) i (by omega) hlt (by omega)
      rw [if_pos (by omega), E1.out, if_pos (by omega), if_pos (by omega), hr1, if_neg (by omega), EI.out]
theorem l0_ev (m : ByteArray) (ex more gone needs : List Int) (l : List S46) (all : ByteArray) (hl : l.length < 4611686018427387904) (ha : ∀ f ∈ l, 0 ≤ f.f0 → f.f0 < (m.size : Int) → getM all f.f0 = true)
    (hc : Ev (fun k => reeflaw29_ObjmapErrs.l1 k m ex more gone needs all 0)) : ∀ (d i : Nat), i + d = l.length → Ev (fun k => reeflaw29_ObjmapErrs.l0 k m ex more gone l needs all (i : Int))
  | 0, i, hi => by
    refine hc.step (fun k => ?_)
    simp only [reeflaw29_ObjmapErrs.l0]
    rw [if_neg (by omega)]
  | d + 1, i, hi => by
    have hlt : i < l.length := by omega
    have EI := stepW i l.length hlt hl
    have hr := rd_at_F l i hlt
    refine (l0_ev m ex more gone needs l all hl ha hc d (i + 1) (by omega)).step (fun k => ?_)
    simp only [reeflaw29_ObjmapErrs.l0]
    rw [if_pos (by omega), if_pos (by omega), hr]
    by_cases h0 : (l[i]).f0 ≥ 0
    · by_cases h1 : (l[i]).f0 < (m.size : Int)
      · have hget : objmap_Get.f all (l[i]).f0 = some true := (get_eq all _).trans (congrArg some (ha _ (List.getElem_mem _) h0 h1))
        rw [if_pos h0, if_pos h1, hget, Option.bind_some, if_pos rfl, EI.out]
      · rw [if_pos h0, if_neg h1, EI.out]
    · rw [if_neg h0, EI.out]
/-- At every input: true. -/
theorem errs_eq (m : ByteArray) (ex more gone : List Int) (l : List S46) (hm : m.size ≤ 140737488351232) (hex : ex.length < 17592186044416) (hmo : more.length < 17592186044416) (hgo : gone.length < 17592186044416) (hl : l.length ≤ 4398046511104) :
    ∃ k, reeflaw29_ObjmapErrs.f k m ex more gone l = some true := by
  have haw : reeflaw29_awake.f = some true := rfl
  by_cases hf : fitM m = true
  · have h2 := ((fitM_true m).1 hf).2
    obtain ⟨n1, n2⟩ := needsL_law m l
    have nl := needsL_len m l
    have hgall : ∀ k, getM m k = true → getM (setM m (needsL m l) true) k = true := fun k hk => by
      rw [getM_set]; split
      · rfl
      · exact hk
    have hE : Ev (fun k => reeflaw29_ObjmapErrs.l0 k m ex more gone l (needsL m l) (setM m (needsL m l) true) 0) := by
      refine l0_ev m ex more gone (needsL m l) l _ (by omega) (fun f hf h0 h1 => ?_) (l1_ev m ex more gone (needsL m l) _ (by omega) n1 (fun x hx => ?_) ?_ (needsL m l).length 0 (by omega)) l.length 0 (by omega)
      · rw [getM_set]
        split
        · rfl
        · rename_i hn
          cases hg : getM m f.f0 with
          | true => rfl
          | false => exact absurd ⟨(n2 f.f0).2 ⟨f, hf, rfl, h0, hg⟩, h0, h1⟩ hn
      · obtain ⟨f, _, rfl, _, h⟩ := (n2 x).1 hx
        exact h
      · rcases Classical.em (∀ k ∈ ex, getM m k = true) with h | h
        · exact .inr (by simpa [frL] using l2_ev m h2 ex more gone hex hmo hgo _ h (fun k hk => hgall k (h k hk)) gone.length 0 (by omega))
        · left
          obtain ⟨k, h3⟩ := Classical.not_forall.1 h
          obtain ⟨h4, h5⟩ := Classical.not_imp.1 h3
          exact ⟨k, h4, by simpa using h5⟩
    obtain ⟨K, hK⟩ := hE
    refine ⟨K + m.size + 1, ?_⟩
    have hneeds : objmap_Needs.f m l = some (needsL m l) := by unfold objmap_Needs.f needsL; rw [if_pos hl]
    unfold reeflaw29_ObjmapErrs.f
    rw [rfit_eq m hm _ (by omega), Option.bind_some, if_pos hf, hneeds, Option.bind_some, set_f m h2 _ (by omega), Option.bind_some]
    exact hK _ (by omega)
  · refine ⟨m.size + 1, ?_⟩
    unfold reeflaw29_ObjmapErrs.f
    rw [rfit_eq m hm _ (by omega), Option.bind_some, if_neg hf, haw]
    rfl
end Go.Proofs.Ytpaapnkpijincaa.P
