import Derived.Test.YtgnaippmncnlaaaH10
namespace Go.Proofs.Ytgnaippmncnlaaa.P
open Go.RowKit Go.Proofs.YtgnaippmncnlaaaW.PrintWords Go.Proofs.YtgnaippmncnlaaaW.PrintLast Go.Proofs.YtgnaippmncnlaaaW.PrintMore Go.Proofs.YtgnaippmncnlaaaW.HB
set_option linter.unusedVariables false

def gb (bs : List Bool) (j : Nat) : Bool := bs.getD j false
theorem gb_set (bs : List Bool) (i : Nat) (v : Bool) (j : Nat) (h : i < bs.length) : gb (bs.set i v) j = if i = j then v else gb bs j := by
  unfold gb
  rw [List.getD_eq_getElem?_getD, List.getElem?_set, List.getD_eq_getElem?_getD]
  by_cases hj : i = j
  · subst hj; simp [h]
  · simp [hj]
theorem gb_len (bs : List Bool) (j : Nat) (h : gb bs j = true) : j < bs.length := by
  rcases Nat.lt_or_ge j bs.length with h1 | h1
  · exact h1
  · unfold gb at h; rw [List.getD_eq_getElem?_getD, List.getElem?_eq_none h1] at h; cases h
theorem marks_get : ∀ (ss : List Int) (bs : List Bool), (∀ s ∈ ss, s.toNat < bs.length) → (ss.foldl (fun is k => is.set k.toNat true) bs).length = bs.length ∧ ∀ j, gb (ss.foldl (fun is k => is.set k.toNat true) bs) j = (gb bs j || decide (0 < ct ss j))
  | [], bs, _ => ⟨rfl, fun j => by simp [ct]⟩
  | s :: ss, bs, hs => by
    have h0 := hs s (by simp)
    obtain ⟨h1, h2⟩ := marks_get ss (bs.set s.toNat true) (fun x hx => by rw [List.length_set]; exact hs x (by simp [hx]))
    refine ⟨by simpa using h1, fun j => ?_⟩
    simp only [List.foldl_cons]
    rw [h2 j, gb_set _ _ _ _ h0, ct_cons]
    by_cases hj : s.toNat = j
    · simp [hj]
    · simp [hj]
theorem markAll_spec (give : Bool) : ∀ (ss : List Int) (bs : List Bool), (∀ s ∈ ss, s.toNat < bs.length) →
    ((∀ j, (gb bs j = give → j < bs.length → ct ss j = 0) ∧ ct ss j ≤ 1) → ∃ m, markAll give bs ss = some m ∧ m.length = bs.length ∧ ∀ j, gb m j = if 0 < ct ss j then give else gb bs j) ∧
    ((∃ j, (gb bs j = give ∧ j < bs.length ∧ 0 < ct ss j) ∨ 1 < ct ss j) → markAll give bs ss = none)
  | [], bs, _ => ⟨fun _ => ⟨bs, rfl, rfl, fun j => by simp [ct]⟩, fun ⟨j, h⟩ => by simp [ct] at h⟩
  | s :: ss, bs, hs => by
    have h0 := hs s (by simp)
    obtain ⟨i1, i2⟩ := markAll_spec give ss (bs.set s.toNat give) (fun x hx => by rw [List.length_set]; exact hs x (by simp [hx]))
    have hd : bs.getD s.toNat false = gb bs s.toNat := rfl
    refine ⟨fun h => ?_, fun h => ?_⟩
    · have hne : ¬ gb bs s.toNat = give := fun e => by
        have := (h s.toNat).1 e h0
        rw [ct_cons, if_pos rfl] at this
        omega
      obtain ⟨m, e1, e2, e3⟩ := i1 (fun j => by
        have hj := h j
        rw [ct_cons] at hj
        refine ⟨fun e hl => ?_, by omega⟩
        rw [gb_set _ _ _ _ h0] at e
        by_cases hsj : s.toNat = j
        · rw [if_pos hsj] at hj; omega
        · rw [if_neg hsj] at hj e
          have := hj.1 e (by rw [List.length_set] at hl; exact hl)
          omega)
      refine ⟨m, ?_, by rw [e2, List.length_set], fun j => ?_⟩
      · rw [markAll, hd, if_neg hne]; exact e1
      · rw [e3 j, gb_set _ _ _ _ h0, ct_cons]
        by_cases hsj : s.toNat = j
        · rw [if_pos hsj]; simp [hsj]
        · rw [if_neg hsj]; simp [hsj]
    · rw [markAll, hd]
      by_cases he : gb bs s.toNat = give
      · rw [if_pos he]
      · rw [if_neg he]
        refine i2 ?_
        obtain ⟨j, hj⟩ := h
        rw [ct_cons] at hj
        refine ⟨j, ?_⟩
        rw [gb_set _ _ _ _ h0, List.length_set]
        by_cases hsj : s.toNat = j
        · subst hsj
          rw [if_pos rfl] at hj ⊢
          rcases hj with hj | hj
          · exact absurd hj.1 he
          · exact .inl ⟨rfl, h0, by omega⟩
        · rw [if_neg hsj] at hj ⊢
          simpa using hj

/-! a list that fits: no sector twice -/
theorem ct_range (f0 : Int) (h0 : 0 ≤ f0) (n j : Nat) : ∀ a, ct ((List.range' a n).map (fun q : Nat => f0 + (q : Int))) j = if f0.toNat + a ≤ j ∧ j < f0.toNat + a + n then 1 else 0 := by
  induction n with
  | zero => intro a; simp [ct]
  | succ n ih =>
    intro a
    rw [List.range'_succ, List.map_cons, ct_cons, ih (a + 1)]
    have e : (f0 + (a : Int)).toNat = f0.toNat + a := by omega
    rw [e]
    split <;> split <;> split <;> omega
theorem fit_low (t : Int) : ∀ (l : List S47) (e : Int), fitL t (some e) l = true → (∀ x ∈ l, inB t x = true ∧ e < x.f0) ∧ ∀ j : Nat, (j : Int) ≤ e → ct (secs l) j = 0
  | [], e, _ => ⟨fun x hx => by simp at hx, fun j _ => rfl⟩
  | x :: l, e, h => by
    simp only [fitL, Bool.and_eq_true] at h
    obtain ⟨⟨h1, h2⟩, h3⟩ := h
    have h2' := of_decide_eq_true h2
    have hb := inB_of h1
    obtain ⟨i1, i2⟩ := fit_low t l _ h3
    refine ⟨fun y hy => ?_, fun j hj => ?_⟩
    · rcases List.mem_cons.1 hy with rfl | hy
      · exact ⟨h1, h2'⟩
      · have := i1 y hy; exact ⟨this.1, by omega⟩
    · rw [secs_cons, ct_append, ct_range _ hb.2.1, i2 j (by omega), if_neg (by omega)]
theorem fit_one (t : Int) : ∀ (l : List S47) (p : Option Int), fitL t p l = true → (∀ x ∈ l, inB t x = true) ∧ ∀ j, ct (secs l) j ≤ 1
  | [], p, _ => ⟨fun x hx => by simp at hx, fun j => by simp [secs, ct]⟩
  | x :: l, p, h => by
    simp only [fitL, Bool.and_eq_true] at h
    obtain ⟨⟨h1, h2⟩, h3⟩ := h
    have hb := inB_of h1
    obtain ⟨i1, i2⟩ := fit_low t l _ h3
    obtain ⟨j1, j2⟩ := fit_one t l _ h3
    refine ⟨fun y hy => ?_, fun j => ?_⟩
    · rcases List.mem_cons.1 hy with rfl | hy
      · exact h1
      · exact j1 y hy
    · rw [secs_cons, ct_append, ct_range _ hb.2.1]
      split
      · rw [i2 j (by omega)]
        exact Nat.le_refl _
      · have := j2 j; omega
/-- As many extents as sectors, at most. -/
theorem fit_len (t : Int) (h1 : t ≤ 65536) : ∀ (l : List S47) (e : Int), 0 ≤ e → fitL t (some e) l = true → (l.length : Int) + e ≤ max t e
  | [], e, _, _ => by simp; omega
  | x :: l, e, he, h => by
    simp only [fitL, Bool.and_eq_true] at h
    obtain ⟨⟨h1', h2⟩, h3⟩ := h
    have h2' := of_decide_eq_true h2
    have hb := inB_of h1'
    have := fit_len t h1 l (x.f0 + x.f1) (by omega) h3
    simp only [List.length_cons]
    omega
theorem fit_len' (t : Int) (h0 : 0 ≤ t) (h1 : t ≤ 65536) (l : List S47) (h : fitL t none l = true) : l.length ≤ 65536 := by
  cases l with
  | nil => simp
  | cons x l =>
    simp only [fitL, Bool.and_eq_true] at h
    obtain ⟨⟨h1', h2⟩, h3⟩ := h
    have hb := inB_of h1'
    have := fit_len t h1 l (x.f0 + x.f1) (by omega) h3
    simp only [List.length_cons]
    omega
theorem fit_good (t : Int) (h0 : 0 ≤ t) (h1 : t ≤ 65536) (l : List S47) (h : fitL t none l = true) : goodL l = true := by
  unfold goodL
  rw [Bool.and_eq_true]
  refine ⟨decide_eq_true (fit_len' t h0 h1 l h), List.all_eq_true.2 (fun x hx => ?_)⟩
  have := inB_of ((fit_one t l none h).1 x hx)
  exact decide_eq_true (by omega)

/-! packed -/
theorem packed_go (M : List Int) (bs : List Bool) (hl : M.length = bs.length) (hT : bs.length ≤ 65536) (hM : ∀ j, j < bs.length → (g M j = 0 ↔ gb bs j = false)) : ∀ (m i k : Nat), i + m = bs.length → m < k → reefref09_packed.l0 k M (outs bs i) i = some (packB bs) := by
  intro m
  induction m with
  | zero =>
    intro i k hi hk
    obtain ⟨k, rfl⟩ : ∃ q, k = q + 1 := ⟨k - 1, by omega⟩
    obtain rfl : i = bs.length := by omega
    simp only [reefref09_packed.l0]
    rw [if_neg (by omega)]
    rfl
  | succ m ih =>
    intro i k hi hk
    obtain ⟨k, rfl⟩ : ∃ q, k = q + 1 := ⟨k - 1, by omega⟩
    have hih := ih (i + 1) k (by omega) (by omega)
    have EI : Aside0 (wrap64 ((i : Int) + 1) = ((i + 1 : Nat) : Int)) := ⟨by rw [wr _ (by omega)]; omega⟩
    have hmi := hM i (by omega)
    have hok := outs_ok bs i
    rw [outs_succ] at hih
    simp only [reefref09_packed.l0]
    rw [if_pos (by omega), if_pos (by omega), EI.out]
    have er : rd M (i : Int) = g M i := rfl
    rw [er]
    by_cases hz : g M i = 0
    · rw [if_pos hz]
      have hb : bs.getD i false = false := hmi.1 hz
      rw [hb] at hih
      exact hih
    · rw [if_neg hz]
      have hb : bs.getD i false = true := by
        cases h : gb bs i with
        | false => exact absurd (hmi.2 h) hz
        | true => exact h
      rw [hb, packStep_true] at hih
      generalize hO : outs bs i = O at *
      by_cases hp : 0 < O.length
      · have hw : wrap64 ((O.length : Int) - 1) = (O.length : Int) - 1 := wr _ (by omega)
        rw [if_pos (by omega), hw, if_pos (by omega), if_pos (by omega)]
        have hmem : rd_T47 O ((O.length : Int) - 1) ∈ O := by
          have : ((O.length : Int) - 1) = ((O.length - 1 : Nat) : Int) := by omega
          rw [this, rd_at_E _ _ (by omega)]; exact List.getElem_mem _
        have hbd := hok.2 _ hmem
        clear hw
        generalize hx : rd_T47 O ((O.length : Int) - 1) = x at *
        rw [wr (x.f0 + x.f1) (by omega), wr (x.f1 + 1) (by omega)]
        by_cases hc : x.f0 + x.f1 = (i : Int)
        · rw [if_pos hc]
          rw [if_pos ⟨hp, hc⟩] at hih
          have e2 : ((O.length : Int) - 1).toNat = O.length - 1 := by omega
          rw [e2]
          exact hih
        · rw [if_neg hc, if_pos (by omega)]
          rw [if_neg (fun h => hc h.2)] at hih
          exact hih
      · rw [if_neg (by omega), if_pos (by omega)]
        rw [if_neg (fun h => hp h.1)] at hih
        exact hih
theorem packed_eq (M : List Int) (bs : List Bool) (hl : M.length = bs.length) (hT : bs.length ≤ 65536) (hM : ∀ j, j < bs.length → (g M j = 0 ↔ gb bs j = false)) (k : Nat) (hk : bs.length < k) : reefref09_packed.f k M = some (packB bs) := by
  unfold reefref09_packed.f
  have := packed_go M bs hl hT hM bs.length 0 k (by omega) hk
  rw [show ((0 : Nat) : Int) = 0 from rfl] at this
  exact this
theorem ct_lt {ss : List Int} {T j : Nat} (hs : ∀ s ∈ ss, s.toNat < T) (h : 0 < ct ss j) : j < T := by
  unfold ct at h
  obtain ⟨s, h1, h2⟩ := List.countP_pos_iff.1 h
  have := hs s h1
  have e : s.toNat = j := by simpa using h2
  omega
theorem takeGo_len : ∀ (l : List S47) (n : Int), (takeGo l n).1.length ≤ l.length ∧ (takeGo l n).2.length ≤ l.length
  | [], n => by simp [takeGo]
  | x :: l, n => by
    have := takeGo_len l (n - x.f1)
    rw [takeGo]
    split
    · simp
    · split
      · simp
      · simp; omega
end Go.Proofs.Ytgnaippmncnlaaa.P
