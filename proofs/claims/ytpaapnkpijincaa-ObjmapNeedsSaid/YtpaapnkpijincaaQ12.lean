import Derived.Test.YtpaapnkpijincaaP7
import Derived.Test.YtpaapnkpijincaaQ5
namespace Go.Proofs.Ytpaapnkpijincaa.P
open Go.RowKit Go.Proofs.YtpaapnkpijincaaW.PrintWords Go.Proofs.YtpaapnkpijincaaW.PrintLast Go.Proofs.YtpaapnkpijincaaW.PrintMore Go.Proofs.YtpaapnkpijincaaW.HB
set_option linter.unusedVariables false
set_option linter.unusedSimpArgs false
/-- From some number of rounds on: r. -/
def EvR {α : Type} (f : Nat → Option α) (r : α) : Prop := ∃ K, ∀ k, K ≤ k → f k = some r
theorem EvR.step {α : Type} {f h : Nat → Option α} {r : α} (hh : EvR h r) (e : ∀ k, f (k + 1) = h k) : EvR f r := by
  obtain ⟨K, hK⟩ := hh
  refine ⟨K + 1, fun k hk => ?_⟩
  obtain ⟨k, rfl⟩ : ∃ q, k = q + 1 := ⟨k - 1, by omega⟩
  rw [e k]
  exact hK k (by omega)
theorem EvR.now {α : Type} {f : Nat → Option α} {r : α} (e : ∀ k, f (k + 1) = some r) : EvR f r := ⟨1, fun k hk => by
  obtain ⟨k, rfl⟩ : ∃ q, k = q + 1 := ⟨k - 1, by omega⟩
  exact e k⟩

/-! what the document says of Safe, Drops and Needs -/
theorem rget_eq (m : ByteArray) (k : Int) : reefref29_Get.f m k = some (getM m k) := get_eq m k
theorem rsafe_go (m : ByteArray) (l : List Int) (hl : l.length < 4611686018427387904) : ∀ d i, i + d = l.length → EvR (fun k => reefref29_Safe.l0 k m l (i : Int)) (!((l.drop i).any (fun k => !getM m k)))
  | 0, i, hi => by
    refine EvR.now (fun k => ?_)
    simp only [reefref29_Safe.l0]
    rw [if_neg (by omega), List.drop_of_length_le (by omega)]
    rfl
  | d + 1, i, hi => by
    have hlt : i < l.length := by omega
    have EI := Aside0.mk (show wrap64 ((i : Int) + 1) = ((i + 1 : Nat) : Int) from wrS _ (by omega))
    have hr := rd_at_I l i hlt
    rw [List.drop_eq_getElem_cons hlt, List.any_cons]
    cases hg : getM m l[i] with
    | true =>
      refine (rsafe_go m l hl d (i + 1) (by omega)).step (fun k => ?_)
      simp only [reefref29_Safe.l0]
      rw [if_pos (by omega), if_pos (by omega), hr, rget_eq, hg, Option.bind_some, if_pos rfl, EI.out]
    | false =>
      refine EvR.now (fun k => ?_)
      simp only [reefref29_Safe.l0]
      rw [if_pos (by omega), if_pos (by omega), hr, rget_eq, hg, Option.bind_some, if_neg (by simp)]
      rfl
theorem rsafe_eq (m : ByteArray) (l : List Int) (hl : l.length < 4611686018427387904) : EvR (fun k => reefref29_Safe.f k m l) (!(l.any (fun k => !getM m k))) := rsafe_go m l hl l.length 0 (by omega)

/-! Objects -/
theorem mx_comm3 (a b c : Int) : mx (mx a b) c = mx (mx a c) b := by unfold mx; repeat' split
                                                                     all_goals omega
def objI (pl : Nat → Int × Int) : Nat → Int
  | 0 => 0
  | i + 1 => mx (objI pl i) (wrap64 ((pl i).1 + 1))
/-- The pieces' greatest index is the places'. -/
theorem objs_st (pl : Nat → Int × Int) : ∀ i, (if 0 < (stP pl i).1.f2 then mx (objsOf (stP pl i).2) (wrap64 ((stP pl i).1.f0 + 1)) else objsOf (stP pl i).2) = objI pl i
  | 0 => by simp [stP, objI, objsOf]
  | i + 1 => by
    have ih := objs_st pl i
    obtain ⟨h0, _, _⟩ := stP_ok pl i
    rw [objI, ← ih, stP_succ]
    by_cases hc : 0 < (stP pl i).1.f2 ∧ (pl i).1 = (stP pl i).1.f0 ∧ (pl i).2 = wrap64 ((stP pl i).1.f1 + (stP pl i).1.f2)
    · rw [if_pos hc, if_pos (show 0 < (stP pl i).1.f2 + 1 by omega), if_pos hc.1, hc.2.1]
      dsimp only
      unfold mx
      repeat' split
      all_goals omega
    · rw [if_neg hc, if_pos (show (0 : Int) < 1 by decide)]
      dsimp only
      by_cases hp : 0 < (stP pl i).1.f2
      · rw [if_pos hp, if_pos hp, objsOf_snoc]
      · rw [if_neg hp, if_neg hp]
theorem objs_eq (pl : Nat → Int × Int) (n : Nat) : objsOf (outP pl n) = objI pl n := by
  rw [← objs_st]
  unfold outP
  split
  · rw [objsOf_snoc]
  · rfl
theorem robjs_go (u c o sz : Int) (N : Nat) (hN : mn sz 4096 = (N : Int) ∨ (mn sz 4096 < 0 ∧ N = 0)) (hN4 : N ≤ 4096) (pl : Nat → Int × Int) (hpl : ∀ i, i < N → stripe_find.f u c o (i : Int) = some (pl i)) : ∀ d i, i + d = N → EvR (fun k => reefref28_Objects.l0 k sz (objI pl i) (i : Int) u c o) (objI pl N)
  | 0, i, hi => by
    obtain rfl : i = N := by omega
    refine EvR.now (fun k => ?_)
    simp only [reefref28_Objects.l0]
    rw [if_neg (by omega)]
  | d + 1, i, hi => by
    have EI := Aside0.mk (show wrap64 ((i : Int) + 1) = ((i + 1 : Nat) : Int) from wrS _ (by omega))
    have hp := hpl i (by omega)
    have hpp : reefref28_Place.f u c o (i : Int) = some (pl i) := by
      unfold reefref28_Place.f
      rw [if_neg (by omega), if_neg (by omega)]
      exact hp
    refine (robjs_go u c o sz N hN hN4 pl hpl d (i + 1) (by omega)).step (fun k => ?_)
    simp only [reefref28_Objects.l0]
    rw [if_pos (by omega), hpp, Option.bind_some, EI.out]
    rfl

theorem ins_law (a : List Int) (x : Int) (p : Nat) (hs : a.Pairwise (· < ·)) (hlt : ∀ y ∈ a.take p, y < x) (hge : ∀ y ∈ a.drop p, x < y) :
    (a.take p ++ [x] ++ a.drop p).Pairwise (· < ·) ∧ ∀ y, y ∈ a.take p ++ [x] ++ a.drop p ↔ y ∈ a ∨ y = x := by
  constructor
  · rw [List.pairwise_append, List.pairwise_append]
    refine ⟨⟨hs.sublist (List.take_sublist _ _), List.pairwise_singleton _ _, fun y hy z hz => ?_⟩, hs.sublist (List.drop_sublist _ _), fun y hy z hz => ?_⟩
    · rw [List.mem_singleton] at hz; subst hz; exact hlt y hy
    · have h1 := hge z hz
      rcases List.mem_append.1 hy with h | h
      · have := hlt y h; omega
      · rw [List.mem_singleton] at h; subst h; exact h1
  · intro y
    have e := List.take_append_drop p a
    constructor
    · intro h
      rcases List.mem_append.1 h with h | h
      · rcases List.mem_append.1 h with h | h
        · exact .inl (List.mem_of_mem_take h)
        · exact .inr (List.mem_singleton.1 h)
      · exact .inl (List.mem_of_mem_drop h)
    · rintro (h | rfl)
      · rw [← e] at h
        rcases List.mem_append.1 h with h | h
        · simp [h]
        · simp [h]
      · simp
theorem needs_skip (m : ByteArray) (l : List S46) (i : Nat) (h : i < l.length) (hn : ¬ (0 ≤ (l[i]).f0 ∧ getM m (l[i]).f0 = false)) : needsL m (l.take (i + 1)) = needsL m (l.take i) := by
  obtain ⟨a1, a2⟩ := needsL_law m (l.take (i + 1))
  obtain ⟨b1, b2⟩ := needsL_law m (l.take i)
  refine sorted_ext _ _ a1 b1 (fun x => ?_)
  rw [a2, b2, List.take_succ_eq_append_getElem h]
  constructor
  · rintro ⟨f, hf, rfl, h1, h2⟩
    rcases List.mem_append.1 hf with hf | hf
    · exact ⟨f, hf, rfl, h1, h2⟩
    · rw [List.mem_singleton] at hf; subst hf; exact absurd ⟨h1, h2⟩ hn
  · rintro ⟨f, hf, rfl, h1, h2⟩
    exact ⟨f, List.mem_append_left _ hf, rfl, h1, h2⟩
theorem needs_put (m : ByteArray) (l : List S46) (i : Nat) (h : i < l.length) (hn : 0 ≤ (l[i]).f0 ∧ getM m (l[i]).f0 = false) (b : List Int) (hb : b.Pairwise (· < ·)) (hm : ∀ y, y ∈ b ↔ y ∈ needsL m (l.take i) ∨ y = (l[i]).f0) : b = needsL m (l.take (i + 1)) := by
  obtain ⟨a1, a2⟩ := needsL_law m (l.take (i + 1))
  obtain ⟨b1, b2⟩ := needsL_law m (l.take i)
  refine sorted_ext _ _ hb a1 (fun x => ?_)
  rw [hm, a2, b2, List.take_succ_eq_append_getElem h]
  constructor
  · rintro (⟨f, hf, rfl, h1, h2⟩ | rfl)
    · exact ⟨f, List.mem_append_left _ hf, rfl, h1, h2⟩
    · exact ⟨l[i], List.mem_append_right _ (List.mem_singleton.2 rfl), rfl, hn⟩
  · rintro ⟨f, hf, rfl, h1, h2⟩
    rcases List.mem_append.1 hf with hf | hf
    · exact .inl ⟨f, hf, rfl, h1, h2⟩
    · rw [List.mem_singleton] at hf; subst hf; exact .inr rfl
theorem rneeds1 (m : ByteArray) (l : List S46) (hl : l.length ≤ 4398046511104) (i : Nat) (h : i < l.length) (hn : 0 ≤ (l[i]).f0 ∧ getM m (l[i]).f0 = false) (R : List Int)
    (hnext : EvR (fun k => reefref29_Needs.l0 k m l (needsL m (l.take (i + 1))) ((i + 1 : Nat) : Int)) R) : ∀ e p, p + e = (needsL m (l.take i)).length → (∀ y ∈ (needsL m (l.take i)).take p, y < (l[i]).f0) →
    EvR (fun k => reefref29_Needs.l1 k m l (needsL m (l.take i)) (i : Int) (l[i]).f0 (p : Int)) R := by
  have EI := Aside0.mk (show wrap64 ((i : Int) + 1) = ((i + 1 : Nat) : Int) from wrS _ (by omega))
  obtain ⟨b1, b2⟩ := needsL_law m (l.take i)
  have hlen : (needsL m (l.take i)).length ≤ 4398046511104 := by have := needsL_len m (l.take i); rw [List.length_take] at this; omega
  have hput := needs_put m l i h hn
  generalize needsL m (l.take i) = a at *
  generalize (l[i]).f0 = x at *
  intro e
  induction e with
  | zero =>
    intro p hp hlt
    obtain rfl : p = a.length := by omega
    obtain ⟨c1, c2⟩ := ins_law a x a.length b1 hlt (by simp)
    have hq := hput _ c1 c2
    refine hnext.step (fun k => ?_)
    simp only [reefref29_Needs.l1]
    rw [if_neg (by omega), if_pos (by omega), if_pos (by omega), Option.bind_some, Int.toNat_natCast, if_pos (by simp; omega), Option.bind_some, List.nil_append, if_pos (by simp; omega), Option.bind_some, Option.bind_some, if_pos (by simp; omega), hq, EI.out]
  | succ e ih =>
    intro p hp hlt
    have hpl : p < a.length := by omega
    have hr := rd_at_I a p hpl
    have EP := Aside0.mk (show wrap64 ((p : Int) + 1) = ((p + 1 : Nat) : Int) from wrS _ (by omega))
    have hd := List.drop_eq_getElem_cons hpl
    have hsd : (a.drop p).Pairwise (· < ·) := b1.sublist (List.drop_sublist _ _)
    rw [hd, List.pairwise_cons] at hsd
    by_cases h1 : a[p] < x
    · refine (ih (p + 1) (by omega) (fun y hy => ?_)).step (fun k => ?_)
      · rw [List.take_succ_eq_append_getElem hpl] at hy
        rcases List.mem_append.1 hy with hy | hy
        · exact hlt y hy
        · rw [List.mem_singleton] at hy; subst hy; exact h1
      · simp only [reefref29_Needs.l1]
        rw [if_pos (by omega), if_pos (by omega), hr, if_pos h1, EP.out]
    · by_cases h2 : a[p] = x
      · have hq : a.take p ++ [x] ++ a.drop (p + 1) = needsL m (l.take (i + 1)) := by
          refine hput _ ?_ ?_
          · rw [List.append_assoc, List.singleton_append, ← h2, ← hd, List.take_append_drop]; exact b1
          · intro y
            rw [List.append_assoc, List.singleton_append, ← h2, ← hd, List.take_append_drop]
            constructor
            · exact .inl
            · rintro (q | rfl)
              · exact q
              · exact List.getElem_mem _
        refine hnext.step (fun k => ?_)
        simp only [reefref29_Needs.l1]
        rw [if_pos (by omega), if_pos (by omega), hr, if_neg h1, if_pos (by omega), Option.bind_some, Int.toNat_natCast, if_pos (by simp; omega), Option.bind_some, List.nil_append, if_pos (by simp; omega), Option.bind_some, if_pos h2, EP.out, if_pos (by omega), if_pos (by omega), Option.bind_some, Int.toNat_natCast, if_pos (by simp; omega), hq, EI.out]
      · obtain ⟨c1, c2⟩ := ins_law a x p b1 hlt (fun y hy => by
          rw [hd] at hy
          rcases List.mem_cons.1 hy with q | q
          · subst q; omega
          · have := hsd.1 y q; omega)
        have hq := hput _ c1 c2
        refine hnext.step (fun k => ?_)
        simp only [reefref29_Needs.l1]
        rw [if_pos (by omega), if_pos (by omega), hr, if_neg h1, if_pos (by omega), Option.bind_some, Int.toNat_natCast, if_pos (by simp; omega), Option.bind_some, List.nil_append, if_pos (by simp; omega), Option.bind_some, if_neg h2, Option.bind_some, if_pos (by simp; omega), hq, EI.out]
theorem rneeds_go (m : ByteArray) (l : List S46) (hl : l.length ≤ 4398046511104) : ∀ d i, i + d = l.length → EvR (fun k => reefref29_Needs.l0 k m l (needsL m (l.take i)) (i : Int)) (needsL m l)
  | 0, i, hi => by
    refine EvR.now (fun k => ?_)
    simp only [reefref29_Needs.l0]
    rw [if_neg (by omega), List.take_of_length_le (by omega)]
  | d + 1, i, hi => by
    have hlt : i < l.length := by omega
    have EI := Aside0.mk (show wrap64 ((i : Int) + 1) = ((i + 1 : Nat) : Int) from wrS _ (by omega))
    have hr := rd_at_F l i hlt
    have ih := rneeds_go m l hl d (i + 1) (by omega)
    by_cases h0 : (l[i]).f0 < 0
    · rw [needs_skip m l i hlt (fun q => by omega)] at ih
      refine EvR.step (h := fun k => reefref29_Needs.j1 k m l (needsL m (l.take i)) (i : Int) (l[i]).f0 true) (ih.step (fun k => ?_)) (fun k => ?_)
      · simp only [reefref29_Needs.j1]
        rw [if_pos trivial, EI.out]
      · simp only [reefref29_Needs.l0]
        rw [if_pos (by omega), if_pos (by omega), hr, if_pos h0]
    · cases hg : getM m (l[i]).f0 with
      | true =>
        rw [needs_skip m l i hlt (fun q => by rw [hg] at q; cases q.2)] at ih
        refine EvR.step (h := fun k => reefref29_Needs.j1 k m l (needsL m (l.take i)) (i : Int) (l[i]).f0 true) (ih.step (fun k => ?_)) (fun k => ?_)
        · simp only [reefref29_Needs.j1]
          rw [if_pos trivial, EI.out]
        · simp only [reefref29_Needs.l0]
          rw [if_pos (by omega), if_pos (by omega), hr, if_neg h0, rget_eq, hg, Option.bind_some]
      | false =>
        have h1 := rneeds1 m l hl i hlt ⟨by omega, hg⟩ _ ih _ 0 (Nat.zero_add _) (by simp)
        refine EvR.step (h := fun k => reefref29_Needs.j1 k m l (needsL m (l.take i)) (i : Int) (l[i]).f0 false) (h1.step (fun k => ?_)) (fun k => ?_)
        · simp only [reefref29_Needs.j1]
          rw [if_neg (by simp)]
          rfl
        · simp only [reefref29_Needs.l0]
          rw [if_pos (by omega), if_pos (by omega), hr, if_neg h0, rget_eq, hg, Option.bind_some]
theorem rneeds_eq (m : ByteArray) (l : List S46) (hl : l.length ≤ 4398046511104) : EvR (fun k => reefref29_Needs.f k m l) (needsL m l) := by
  have h := rneeds_go m l hl l.length 0 (by omega)
  have e : needsL m (l.take 0) = [] := by
    have := needsL_len m (l.take 0)
    rw [List.take_zero] at this ⊢
    exact List.eq_nil_of_length_eq_zero (by simpa using this)
  rw [e] at h
  exact h

theorem objI_rng (pl : Nat → Int × Int) : ∀ i, 0 ≤ objI pl i ∧ objI pl i ≤ 9223372036854775807
  | 0 => by simp [objI]
  | i + 1 => by
    obtain ⟨h1, h2⟩ := objI_rng pl i
    have hw : wrap64 ((pl i).1 + 1) ≤ 9223372036854775807 := by unfold wrap64; omega
    rw [objI]
    unfold mx
    split <;> omega
theorem drop_step (m : ByteArray) (n : Int) (i : Nat) (h : n ≤ (i : Int)) : dropL n (plc m (i + 1)) = dropL n (plc m i) ++ (if bt m (i : Int) = 1 then [(i : Int)] else []) := by
  rw [plc_succ]
  split
  · rw [dropL_snoc, if_pos h]
  · rw [List.append_nil, List.append_nil]
theorem drop_low (m : ByteArray) (n : Int) (i : Nat) (h : (i : Int) ≤ n) : dropL n (plc m i) = [] := by
  unfold dropL
  rw [List.filter_eq_nil_iff]
  intro x hx
  have := plc_mem.1 hx
  simp
  omega
theorem rdrops_go (m : ByteArray) (hm : m.size ≤ 4096) (n : Int) : ∀ d i, i + d = m.size → n ≤ (i : Int) → EvR (fun k => reefref29_Drops.l0 k m (dropL n (plc m i)) (i : Int)) (dropL n (plc m m.size))
  | 0, i, hi, hn => by
    obtain rfl : i = m.size := by omega
    refine EvR.now (fun k => ?_)
    simp only [reefref29_Drops.l0]
    rw [if_neg (by omega)]
  | d + 1, i, hi, hn => by
    have EI := Aside0.mk (show wrap64 ((i : Int) + 1) = ((i + 1 : Nat) : Int) from wrS _ (by omega))
    have ih := rdrops_go m hm n d (i + 1) (by omega) (by omega)
    rw [drop_step m n i hn] at ih
    have hl : (dropL n (plc m i)).length < 17592186044416 := by have h1 := dropL_len n (plc m i); have h2 := plc_len m i; omega
    refine ih.step (fun k => ?_)
    simp only [reefref29_Drops.l0]
    by_cases hb : bt m (i : Int) = 1
    · rw [if_pos (by omega), if_pos (by omega), if_pos hb, if_pos hl, if_pos hb, EI.out]
    · rw [if_pos (by omega), if_pos (by omega), if_neg hb, if_neg hb, List.append_nil, EI.out]
theorem rdrops_eq (u c o : Int) (m : ByteArray) (sz : Int) (hm : m.size ≤ 4096) (N : Nat) (hN : mn sz 4096 = (N : Int) ∨ (mn sz 4096 < 0 ∧ N = 0)) (hN4 : N ≤ 4096) (pl : Nat → Int × Int) (hpl : ∀ i, i < N → stripe_find.f u c o (i : Int) = some (pl i)) :
    EvR (fun k => reefref29_Drops.f k u c o m sz) (dropL (objI pl N) (plc m m.size)) := by
  obtain ⟨K1, h1⟩ := robjs_go u c o sz N hN hN4 pl hpl N 0 (by omega)
  obtain ⟨n0, _⟩ := objI_rng pl N
  have h2 : EvR (fun k => reefref29_Drops.l0 k m ([] : List Int) (objI pl N)) (dropL (objI pl N) (plc m m.size)) := by
    by_cases hs : objI pl N ≤ (m.size : Int)
    · have := rdrops_go m hm (objI pl N) (m.size - (objI pl N).toNat) (objI pl N).toNat (by omega) (by omega)
      rw [drop_low m _ _ (by omega)] at this
      rwa [show (((objI pl N).toNat : Nat) : Int) = objI pl N by omega] at this
    · rw [drop_low m _ _ (by omega)]
      refine EvR.now (fun k => ?_)
      simp only [reefref29_Drops.l0]
      rw [if_neg (by omega)]
  obtain ⟨K2, h3⟩ := h2
  refine ⟨K1 + K2, fun k hk => ?_⟩
  have a1 : reefref28_Objects.l0 k sz 0 0 u c o = some (objI pl N) := h1 k (by omega)
  have a2 : reefref29_Drops.l0 k m [] (objI pl N) = some (dropL (objI pl N) (plc m m.size)) := h3 k (by omega)
  show reefref29_Drops.f k u c o m sz = _
  unfold reefref29_Drops.f reefref28_Objects.f
  rw [a1, Option.bind_some, a2]
theorem dropsN_cl (sz : Int) : mn sz 4096 = ((dropsN sz : Nat) : Int) ∨ (mn sz 4096 < 0 ∧ dropsN sz = 0) := by
  unfold dropsN mn mx
  repeat' split
  all_goals omega
theorem dropsN_le (sz : Int) : dropsN sz ≤ 4096 := by
  unfold dropsN mn mx
  repeat' split
  all_goals omega
theorem needs_law_eq (u c o : Int) (m : ByteArray) (l : List S46) (sz : Int) (ex : List Int) (hm : m.size ≤ 140737488351232) (hl : l.length ≤ 4398046511104) (hex : ex.length < 4611686018427387904) :
    ∃ k, reeflaw29_ObjmapNeeds.f k u c o m l sz ex = some true := by
  have haw : reeflaw29_awake.f = some true := rfl
  have aw : ∀ k x y z, reeflaw29_ObjmapNeeds.j0 (k + 1) m l sz ex true x y z = some true := fun k x y z => by
    simp only [reeflaw29_ObjmapNeeds.j0]
    rw [if_pos trivial, haw]; rfl
  by_cases hf : fitM m = true
  · have h2 := ((fitM_true m).1 hf).2
    obtain ⟨b, hb, hok⟩ : ∃ b, reefref28_Fit.f u c o = some b ∧ (b = true → 1 ≤ u ∧ u ≤ o ∧ o ≤ 64 ∧ 1 ≤ c ∧ c ≤ 16) := by
      unfold reefref28_Fit.f
      repeat' split
      all_goals first
        | (exfalso; omega)
        | exact ⟨_, rfl, fun h => by cases h⟩
        | exact ⟨_, rfl, fun h => by have := of_decide_eq_true h; omega⟩
    cases b with
    | false =>
      refine ⟨m.size + 2, ?_⟩
      unfold reeflaw29_ObjmapNeeds.f
      rw [rfit_eq m hm _ (by omega), Option.bind_some, if_pos hf, hb, Option.bind_some]
      exact aw _ _ _ _
    | true =>
      obtain ⟨q1, q2, q3, q4, q5⟩ := hok rfl
      have hdiv : wrap64 (Int.tdiv o u) ≠ 0 := by
        have h1 : 1 ≤ Int.tdiv o u := by
          rw [Int.tdiv_eq_ediv_of_nonneg (by omega)]
          exact (Int.le_ediv_iff_mul_le (by omega)).2 (by omega)
        have h3 : Int.tdiv o u ≤ 64 := by
          rw [Int.tdiv_eq_ediv_of_nonneg (by omega)]
          have := Int.ediv_le_self u (show 0 ≤ o by omega); omega
        rw [wrS _ (by omega)]; omega
      have hpl : ∀ i : Nat, stripe_find.f u c o (i : Int) = some (plF u c o i) := fun i => by
        unfold plF
        unfold stripe_find.f
        rw [if_neg (by omega), if_neg (by omega), if_neg hdiv]
        rfl
      have hD : objmap_Drops.f u c o m sz = some (dropL (objI (plF u c o) (dropsN sz)) (plc m m.size)) := by
        unfold objmap_Drops.f
        rw [if_pos ⟨h2, List.all_eq_true.2 (fun i _ => by rw [hpl i]; rfl)⟩, objs_eq]
      have hNN := dropsN_cl sz
      have hN4 := dropsN_le sz
      have hNe : objmap_Needs.f m l = some (needsL m l) := by unfold objmap_Needs.f needsL; rw [if_pos hl]
      have nl := needsL_len m l
      have dl : (dropL (objI (plF u c o) (dropsN sz)) (plc m m.size)).length ≤ 4096 := by have h1 := dropL_len (objI (plF u c o) (dropsN sz)) (plc m m.size); have h3 := plc_len m m.size; omega
      obtain ⟨K1, e1⟩ := rneeds_eq m l hl
      obtain ⟨K2, e2⟩ := rdrops_eq u c o m sz h2 (dropsN sz) hNN hN4 (plF u c o) (fun i _ => hpl i)
      obtain ⟨K3, e3⟩ := rsafe_eq m ex hex
      obtain ⟨k, hk⟩ : ∃ k, k = K1 + K2 + K3 + m.size + l.length + 5000 := ⟨_, rfl⟩
      have a1 : reefref29_Needs.f k m l = some (needsL m l) := e1 k (by omega)
      have a2 : reefref29_Drops.f k u c o m sz = some (dropL (objI (plF u c o) (dropsN sz)) (plc m m.size)) := e2 k (by omega)
      have a3 : reefref29_Safe.f k m ex = some (!(ex.any (fun k => !getM m k))) := e3 k (by omega)
      have hS : objmap_Safe.f m ex = some (!(ex.any (fun k => !getM m k))) := rfl
      refine ⟨k + 1, ?_⟩
      unfold reeflaw29_ObjmapNeeds.f
      rw [rfit_eq m hm _ (by omega), Option.bind_some, if_pos hf, hb, Option.bind_some]
      simp only [reeflaw29_ObjmapNeeds.j0]
      rw [if_neg (by simp), hNe, Option.bind_some, a1, Option.bind_some, ints_eq _ (by omega) _ (by omega), Option.bind_some, if_pos rfl, hD, Option.bind_some, a2, Option.bind_some, ints_eq _ (by omega) _ (by omega), Option.bind_some, if_pos rfl, hS, Option.bind_some, a3, Option.bind_some, if_pos (by simp), haw]
      rfl
  · refine ⟨m.size + 2, ?_⟩
    unfold reeflaw29_ObjmapNeeds.f
    rw [rfit_eq m hm _ (by omega), Option.bind_some, if_neg hf]
    exact aw _ _ _ _
end Go.Proofs.Ytpaapnkpijincaa.P
