import Derived.Test.YtgnaippmncnlaaaH11
namespace Go.Proofs.Ytgnaippmncnlaaa.P
open Go.RowKit Go.Proofs.YtgnaippmncnlaaaW.PrintWords Go.Proofs.YtgnaippmncnlaaaW.PrintLast Go.Proofs.YtgnaippmncnlaaaW.PrintMore Go.Proofs.YtgnaippmncnlaaaW.HB
set_option linter.unusedVariables false

theorem ct_lt {ss : List Int} {T j : Nat} (hs : ∀ s ∈ ss, s.toNat < T) (h : 0 < ct ss j) : j < T := by
  unfold ct at h
  obtain ⟨s, h1, h2⟩ := List.countP_pos_iff.1 h
  have := hs s h1
  have e : s.toNat = j := by simpa using h2
  omega
theorem takeGo_len : ∀ (l : List S47) (n : Int), (takeGo l n).1.length ≤ l.length ∧ (takeGo l n).2.length ≤ l.length
  | [], n => by simp [takeGo]
  | x :: l, n => by
    have := takeGo_len l (n - x.f1)
    rw [takeGo]
    split
    · simp
    · split
      · simp
      · simp; omega
theorem take_len (l : List S47) (n : Int) (r : List S47 × List S47 × Int) (hl : l.length ≤ 65536) (h : extent_Take.f l n = some r) : r.1.length ≤ 65537 ∧ r.2.1.length ≤ 65537 := by
  unfold extent_Take.f at h
  have h2 := takeGo_len l n
  repeat' split at h
  all_goals try (simp only [Option.some.injEq] at h; subst h; simp; done)
  all_goals try (simp only [Option.some.injEq] at h; subst h; simp; omega)
  all_goals try (simp only [Option.some.injEq] at h; subst h; refine ⟨by simp, Nat.le_trans (List.length_filter_le _ _) (by simp; omega)⟩)
  all_goals cases h
theorem packB_len (bs : List Bool) (h : bs.length ≤ 65536) : (packB bs).length ≤ 65536 := by
  have := (outs_ok bs bs.length).1
  have e : outs bs bs.length = packB bs := rfl
  rw [e] at this
  omega

theorem Give_bad (t : Int) (h0 : 0 ≤ t) (ht : t ≤ 65536) (l : List S47) (hl : l.length ≤ 65536) (b : List Int) (hb : b.length = t.toNat) (hbb : ∀ j, 0 ≤ g b j ∧ g b j ≤ 2) : ∀ (m i k : Nat) (mm : List Int), i + m = t.toNat → m < k → mm.length = t.toNat → (∀ j, 0 ≤ g mm j ∧ g mm j ≤ 2) → (∃ j, i ≤ j ∧ j < t.toNat ∧ g mm j + g b j > 1) → reefref09_Give.l0 k t l mm b i = some (l, 25) := by
  intro m
  induction m with
  | zero => intro i k mm hi hk hm hmb h; obtain ⟨j, h⟩ := h; omega
  | succ m ih =>
    intro i k mm hi hk hm hmb h
    obtain ⟨k, rfl⟩ : ∃ q, k = q + 1 := ⟨k - 1, by omega⟩
    have EI : Aside0 (wrap64 ((i : Int) + 1) = ((i + 1 : Nat) : Int)) := ⟨by rw [wr _ (by omega)]; omega⟩
    simp only [reefref09_Give.l0]
    rw [if_pos (by omega), if_pos (by omega), if_pos (by omega), if_pos (by omega)]
    have e1 : rd mm (i : Int) = g mm i := rfl
    have e2 : rd b (i : Int) = g b i := rfl
    have q1 := hmb i
    have q2 := hbb i
    rw [e1, e2, wr (g mm i + g b i) (by omega)]
    by_cases hc : g mm i + g b i > 1
    · rw [if_pos hc, rcopied_eq l (by omega)]; rfl
    · rw [if_neg hc, EI.out]
      have hs := g_set mm i (g mm i + g b i)
      refine ih (i + 1) k _ (by omega) (by omega) (by rw [List.length_set]; exact hm) (fun j => ?_) ?_
      · simp only [Int.toNat_natCast]
        rw [hs j (by omega)]
        have := hmb j
        split <;> omega
      · obtain ⟨j, h1, h2, h3⟩ := h
        have hne : i ≠ j := fun e => by subst e; exact hc h3
        refine ⟨j, by omega, h2, ?_⟩
        simp only [Int.toNat_natCast]
        rw [hs j (by omega), if_neg hne]
        exact h3
theorem Give_good (t : Int) (h0 : 0 ≤ t) (ht : t ≤ 65536) (l : List S47) (b : List Int) (hb : b.length = t.toNat) (hbb : ∀ j, 0 ≤ g b j ∧ g b j ≤ 2) (bs : List Bool) (hbs : bs.length = t.toNat) : ∀ (m i k : Nat) (mm : List Int), i + m = t.toNat → m + t.toNat + 1 < k → mm.length = t.toNat → (∀ j, 0 ≤ g mm j ∧ g mm j ≤ 2) → (∀ j, i ≤ j → j < t.toNat → ¬ g mm j + g b j > 1) →
    (∀ j, j < t.toNat → ((if i ≤ j then g mm j + g b j else g mm j) = 0 ↔ gb bs j = false)) → reefref09_Give.l0 k t l mm b i = some (packB bs, 0) := by
  intro m
  induction m with
  | zero =>
    intro i k mm hi hk hm hmb h hz
    obtain ⟨k, rfl⟩ : ∃ q, k = q + 1 := ⟨k - 1, by omega⟩
    simp only [reefref09_Give.l0]
    rw [if_neg (by omega), packed_eq mm bs (by omega) (by omega) (fun j hj => by
      have := hz j (by omega)
      rw [if_neg (by omega)] at this
      exact this) k (by omega)]
    rfl
  | succ m ih =>
    intro i k mm hi hk hm hmb h hz
    obtain ⟨k, rfl⟩ : ∃ q, k = q + 1 := ⟨k - 1, by omega⟩
    have EI : Aside0 (wrap64 ((i : Int) + 1) = ((i + 1 : Nat) : Int)) := ⟨by rw [wr _ (by omega)]; omega⟩
    simp only [reefref09_Give.l0]
    rw [if_pos (by omega), if_pos (by omega), if_pos (by omega), if_pos (by omega)]
    have e1 : rd mm (i : Int) = g mm i := rfl
    have e2 : rd b (i : Int) = g b i := rfl
    have q1 := hmb i
    have q2 := hbb i
    have hc := h i (by omega) (by omega)
    rw [e1, e2, wr (g mm i + g b i) (by omega), if_neg hc, EI.out]
    have hs := g_set mm i (g mm i + g b i)
    refine ih (i + 1) k _ (by omega) (by omega) (by rw [List.length_set]; exact hm) (fun j => ?_) (fun j h1 h2 => ?_) (fun j hj => ?_)
    · simp only [Int.toNat_natCast]
      rw [hs j (by omega)]
      have := hmb j
      split <;> omega
    · simp only [Int.toNat_natCast]
      rw [hs j (by omega), if_neg (by omega)]
      exact h j (by omega) h2
    · simp only [Int.toNat_natCast]
      rw [hs j (by omega), ← hz j hj]
      by_cases hij : i = j
      · subst hij; rw [if_neg (by omega), if_pos rfl, if_pos (by omega)]
      · rw [if_neg hij]
        by_cases h' : i + 1 ≤ j
        · rw [if_pos h', if_pos (by omega)]
        · rw [if_neg h', if_neg (by omega)]

theorem Claim_bad (t : Int) (h0 : 0 ≤ t) (ht : t ≤ 65536) (l : List S47) (hl : l.length ≤ 65536) (b : List Int) (hb : b.length = t.toNat) (hbb : ∀ j, 0 ≤ g b j ∧ g b j ≤ 2) : ∀ (m i k : Nat) (mm : List Int), i + m = t.toNat → m < k → mm.length = t.toNat → (∀ j, 0 ≤ g mm j ∧ g mm j ≤ 2) → (∃ j, i ≤ j ∧ j < t.toNat ∧ g mm j - g b j < 0) → reefref09_Claim.l0 k t l mm b i = some (l, 24) := by
  intro m
  induction m with
  | zero => intro i k mm hi hk hm hmb h; obtain ⟨j, h⟩ := h; omega
  | succ m ih =>
    intro i k mm hi hk hm hmb h
    obtain ⟨k, rfl⟩ : ∃ q, k = q + 1 := ⟨k - 1, by omega⟩
    have EI : Aside0 (wrap64 ((i : Int) + 1) = ((i + 1 : Nat) : Int)) := ⟨by rw [wr _ (by omega)]; omega⟩
    simp only [reefref09_Claim.l0]
    rw [if_pos (by omega), if_pos (by omega), if_pos (by omega), if_pos (by omega)]
    have e1 : rd mm (i : Int) = g mm i := rfl
    have e2 : rd b (i : Int) = g b i := rfl
    have q1 := hmb i
    have q2 := hbb i
    rw [e1, e2, wr (g mm i - g b i) (by omega)]
    by_cases hc : g mm i - g b i < 0
    · rw [if_pos hc, rcopied_eq l (by omega)]; rfl
    · rw [if_neg hc, EI.out]
      have hs := g_set mm i (g mm i - g b i)
      refine ih (i + 1) k _ (by omega) (by omega) (by rw [List.length_set]; exact hm) (fun j => ?_) ?_
      · simp only [Int.toNat_natCast]
        rw [hs j (by omega)]
        have := hmb j
        split <;> omega
      · obtain ⟨j, h1, h2, h3⟩ := h
        have hne : i ≠ j := fun e => by subst e; exact hc h3
        refine ⟨j, by omega, h2, ?_⟩
        simp only [Int.toNat_natCast]
        rw [hs j (by omega), if_neg hne]
        exact h3
theorem Claim_good (t : Int) (h0 : 0 ≤ t) (ht : t ≤ 65536) (l : List S47) (b : List Int) (hb : b.length = t.toNat) (hbb : ∀ j, 0 ≤ g b j ∧ g b j ≤ 2) (bs : List Bool) (hbs : bs.length = t.toNat) : ∀ (m i k : Nat) (mm : List Int), i + m = t.toNat → m + t.toNat + 1 < k → mm.length = t.toNat → (∀ j, 0 ≤ g mm j ∧ g mm j ≤ 2) → (∀ j, i ≤ j → j < t.toNat → ¬ g mm j - g b j < 0) →
    (∀ j, j < t.toNat → ((if i ≤ j then g mm j - g b j else g mm j) = 0 ↔ gb bs j = false)) → reefref09_Claim.l0 k t l mm b i = some (packB bs, 0) := by
  intro m
  induction m with
  | zero =>
    intro i k mm hi hk hm hmb h hz
    obtain ⟨k, rfl⟩ : ∃ q, k = q + 1 := ⟨k - 1, by omega⟩
    simp only [reefref09_Claim.l0]
    rw [if_neg (by omega), packed_eq mm bs (by omega) (by omega) (fun j hj => by
      have := hz j (by omega)
      rw [if_neg (by omega)] at this
      exact this) k (by omega)]
    rfl
  | succ m ih =>
    intro i k mm hi hk hm hmb h hz
    obtain ⟨k, rfl⟩ : ∃ q, k = q + 1 := ⟨k - 1, by omega⟩
    have EI : Aside0 (wrap64 ((i : Int) + 1) = ((i + 1 : Nat) : Int)) := ⟨by rw [wr _ (by omega)]; omega⟩
    simp only [reefref09_Claim.l0]
    rw [if_pos (by omega), if_pos (by omega), if_pos (by omega), if_pos (by omega)]
    have e1 : rd mm (i : Int) = g mm i := rfl
    have e2 : rd b (i : Int) = g b i := rfl
    have q1 := hmb i
    have q2 := hbb i
    have hc := h i (by omega) (by omega)
    rw [e1, e2, wr (g mm i - g b i) (by omega), if_neg hc, EI.out]
    have hs := g_set mm i (g mm i - g b i)
    refine ih (i + 1) k _ (by omega) (by omega) (by rw [List.length_set]; exact hm) (fun j => ?_) (fun j h1 h2 => ?_) (fun j hj => ?_)
    · simp only [Int.toNat_natCast]
      rw [hs j (by omega)]
      have := hmb j
      split <;> omega
    · simp only [Int.toNat_natCast]
      rw [hs j (by omega), if_neg (by omega)]
      exact h j (by omega) h2
    · simp only [Int.toNat_natCast]
      rw [hs j (by omega), ← hz j hj]
      by_cases hij : i = j
      · subst hij; rw [if_neg (by omega), if_pos rfl, if_pos (by omega)]
      · rw [if_neg hij]
        by_cases h' : i + 1 ≤ j
        · rw [if_pos h', if_pos (by omega)]
        · rw [if_neg h', if_neg (by omega)]

theorem Give_eq (t : Int) (h0 : 0 ≤ t) (ht : t ≤ 65536) (free l : List S47) (hfit : fitL t none free = true) (hl : l.length < 4611686018427387904) (k : Nat) (hk : 65540 * (free.length + l.length) + 200000 < k) : ∃ r, extent_Give.f t free l = some r ∧ reefref09_Give.f k t free l = some r ∧ r.1.length ≤ 65536 := by
  have hfl := fit_len' t h0 ht free hfit
  obtain ⟨hin, hone⟩ := fit_one t free none hfit
  have hall : free.all (inB t) = true := List.all_eq_true.2 hin
  unfold extent_Give.f extent_change.f reefref09_Give.f
  rw [if_pos ⟨h0, ht, hfl, hall⟩, marked_eq t h0 ht free (by omega) k (by omega), marked_eq t h0 ht l hl k (by omega), if_pos hall]
  simp only [Option.bind_some]
  by_cases hla : l.all (inB t) = true
  · have hany : ¬ (l.any (fun x => !inB t x)) = true := by
      rw [Bool.not_eq_true, List.any_eq_false]
      intro x hx
      have := List.all_eq_true.1 hla x hx
      simp [this]
    have hli := List.all_eq_true.1 hla
    rw [if_neg hany, if_pos hla]
    simp only [if_true]
    have hss : ∀ s ∈ secs l, s.toNat < t.toNat := fun s hs => secs_lt ht hli hs
    have hsf : ∀ s ∈ secs free, s.toNat < t.toNat := fun s hs => secs_lt ht hin hs
    obtain ⟨hlen0', hbs0'⟩ := marks_get (secs free) (List.replicate t.toNat false) (fun s hs => by simpa using hsf s hs)
    have hlen0 : (marks0 t (secs free)).length = t.toNat := by unfold marks0; rw [hlen0']; simp
    have hbs0 : ∀ j, gb (marks0 t (secs free)) j = decide (0 < ct (secs free) j) := fun j => by
      have := hbs0' j
      unfold marks0
      rw [this]
      have : gb (List.replicate t.toNat false) j = false := by unfold gb; rw [List.getD_eq_getElem?_getD, List.getElem?_replicate]; split <;> rfl
      rw [this, Bool.false_or]
    have hmf : ∀ j, g (cntM t free) j = min (ct (secs free) j : Int) 2 := cntM_get ht hin
    have hml : ∀ j, g (cntM t l) j = min (ct (secs l) j : Int) 2 := cntM_get ht hli
    have hlf := cntM_len ht hin
    have hll := cntM_len ht hli
    obtain ⟨s1, s2⟩ := markAll_spec true (secs l) (marks0 t (secs free)) (fun s hs => by rw [hlen0]; exact hss s hs)
    by_cases hC : ∀ j, (gb (marks0 t (secs free)) j = true → j < (marks0 t (secs free)).length → ct (secs l) j = 0) ∧ ct (secs l) j ≤ 1
    · obtain ⟨m, e1, e2, e3⟩ := s1 hC
      rw [e1]
      refine ⟨(packB m, 0), rfl, ?_, packB_len m (by omega)⟩
      refine Give_good t h0 ht free (cntM t l) hll (fun j => by rw [hml j]; omega) m (by omega) t.toNat 0 k (cntM t free) (by omega) (by omega) hlf (fun j => by rw [hmf j]; omega) (fun j hj1 hj2 => ?_) (fun j hj => ?_)
      · skip
        have := (hC j).2
        rw [hmf j, hml j]
        have h1 := (hC j).1
        rw [hbs0 j] at h1
        intro hbad
        have h2 := h1 (decide_eq_true (by omega)) (by rw [hlen0]; exact hj2)
        have h3 := hone j
        omega
      · skip
        rw [if_pos (Nat.zero_le _), hmf j, hml j, e3 j, hbs0 j]
        by_cases hct : 0 < ct (secs l) j
        · rw [if_pos hct]; simp; omega
        · rw [if_neg hct]; simp; omega
    · have hex : ∃ j, (gb (marks0 t (secs free)) j = true ∧ j < (marks0 t (secs free)).length ∧ 0 < ct (secs l) j) ∨ 1 < ct (secs l) j := by
        refine Classical.byContradiction fun hno => hC fun j => ?_
        refine ⟨fun a b => ?_, ?_⟩
        · refine Nat.eq_zero_of_not_pos fun c => hno ⟨j, .inl ⟨a, b, c⟩⟩
        · exact Nat.le_of_not_lt fun c => hno ⟨j, .inr c⟩
      rw [s2 hex]
      refine ⟨(free, 25), rfl, ?_, hfl⟩
      refine Give_bad t h0 ht free hfl (cntM t l) hll (fun j => by rw [hml j]; omega) t.toNat 0 k (cntM t free) (by omega) (by omega) hlf (fun j => by rw [hmf j]; omega) ?_
      · obtain ⟨j, hj⟩ := hex
        rcases hj with ⟨hj1, hj2, hj3⟩ | hj
        · rw [hbs0 j] at hj1
          have := of_decide_eq_true hj1
          refine ⟨j, Nat.zero_le _, ct_lt hss hj3, ?_⟩
          rw [hmf j, hml j]; omega
        · refine ⟨j, Nat.zero_le _, ct_lt hss (by omega), ?_⟩
          rw [hmf j, hml j]; omega
  · have hany : (l.any (fun x => !inB t x)) = true := by
      rw [List.any_eq_true]
      refine Classical.byContradiction fun hno => hla (List.all_eq_true.2 fun x hx => ?_)
      cases hb : inB t x with
      | true => rfl
      | false => exact absurd ⟨x, hx, by simp [hb]⟩ hno
    rw [if_pos hany, if_neg hla, rcopied_eq free (by omega)]
    exact ⟨(free, 20), rfl, rfl, hfl⟩

theorem Claim_eq (t : Int) (h0 : 0 ≤ t) (ht : t ≤ 65536) (free l : List S47) (hfit : fitL t none free = true) (hl : l.length < 4611686018427387904) (k : Nat) (hk : 65540 * (free.length + l.length) + 200000 < k) : ∃ r, extent_Claim.f t free l = some r ∧ reefref09_Claim.f k t free l = some r ∧ r.1.length ≤ 65536 := by
  have hfl := fit_len' t h0 ht free hfit
  obtain ⟨hin, hone⟩ := fit_one t free none hfit
  have hall : free.all (inB t) = true := List.all_eq_true.2 hin
  unfold extent_Claim.f extent_change.f reefref09_Claim.f
  rw [if_pos ⟨h0, ht, hfl, hall⟩, marked_eq t h0 ht free (by omega) k (by omega), marked_eq t h0 ht l hl k (by omega), if_pos hall]
  simp only [Option.bind_some]
  by_cases hla : l.all (inB t) = true
  · have hany : ¬ (l.any (fun x => !inB t x)) = true := by
      rw [Bool.not_eq_true, List.any_eq_false]
      intro x hx
      have := List.all_eq_true.1 hla x hx
      simp [this]
    have hli := List.all_eq_true.1 hla
    rw [if_neg hany, if_pos hla]
    simp only [if_true]
    have hss : ∀ s ∈ secs l, s.toNat < t.toNat := fun s hs => secs_lt ht hli hs
    have hsf : ∀ s ∈ secs free, s.toNat < t.toNat := fun s hs => secs_lt ht hin hs
    obtain ⟨hlen0', hbs0'⟩ := marks_get (secs free) (List.replicate t.toNat false) (fun s hs => by simpa using hsf s hs)
    have hlen0 : (marks0 t (secs free)).length = t.toNat := by unfold marks0; rw [hlen0']; simp
    have hbs0 : ∀ j, gb (marks0 t (secs free)) j = decide (0 < ct (secs free) j) := fun j => by
      have := hbs0' j
      unfold marks0
      rw [this]
      have : gb (List.replicate t.toNat false) j = false := by unfold gb; rw [List.getD_eq_getElem?_getD, List.getElem?_replicate]; split <;> rfl
      rw [this, Bool.false_or]
    have hmf : ∀ j, g (cntM t free) j = min (ct (secs free) j : Int) 2 := cntM_get ht hin
    have hml : ∀ j, g (cntM t l) j = min (ct (secs l) j : Int) 2 := cntM_get ht hli
    have hlf := cntM_len ht hin
    have hll := cntM_len ht hli
    obtain ⟨s1, s2⟩ := markAll_spec false (secs l) (marks0 t (secs free)) (fun s hs => by rw [hlen0]; exact hss s hs)
    by_cases hC : ∀ j, (gb (marks0 t (secs free)) j = false → j < (marks0 t (secs free)).length → ct (secs l) j = 0) ∧ ct (secs l) j ≤ 1
    · obtain ⟨m, e1, e2, e3⟩ := s1 hC
      rw [e1]
      refine ⟨(packB m, 0), rfl, ?_, packB_len m (by omega)⟩
      refine Claim_good t h0 ht free (cntM t l) hll (fun j => by rw [hml j]; omega) m (by omega) t.toNat 0 k (cntM t free) (by omega) (by omega) hlf (fun j => by rw [hmf j]; omega) (fun j hj1 hj2 => ?_) (fun j hj => ?_)
      · skip
        have := (hC j).2
        rw [hmf j, hml j]
        have h1 := (hC j).1
        rw [hbs0 j] at h1
        intro hbad
        have h2 := h1 (decide_eq_false (by omega)) (by rw [hlen0]; exact hj2)
        omega
      · skip
        rw [if_pos (Nat.zero_le _), hmf j, hml j, e3 j, hbs0 j]
        have h2 := (hC j).2
        have h3 := hone j
        by_cases hct : 0 < ct (secs l) j
        · rw [if_pos hct]
          have h1 := (hC j).1
          rw [hbs0 j] at h1
          have h4 : 0 < ct (secs free) j := Nat.pos_of_ne_zero (fun e => by
            have := h1 (decide_eq_false (by omega)) (by rw [hlen0]; exact hj)
            omega)
          simp; omega
        · rw [if_neg hct]; simp; omega
    · have hex : ∃ j, (gb (marks0 t (secs free)) j = false ∧ j < (marks0 t (secs free)).length ∧ 0 < ct (secs l) j) ∨ 1 < ct (secs l) j := by
        refine Classical.byContradiction fun hno => hC fun j => ?_
        refine ⟨fun a b => ?_, ?_⟩
        · refine Nat.eq_zero_of_not_pos fun c => hno ⟨j, .inl ⟨a, b, c⟩⟩
        · exact Nat.le_of_not_lt fun c => hno ⟨j, .inr c⟩
      rw [s2 hex]
      refine ⟨(free, 24), rfl, ?_, hfl⟩
      refine Claim_bad t h0 ht free hfl (cntM t l) hll (fun j => by rw [hml j]; omega) t.toNat 0 k (cntM t free) (by omega) (by omega) hlf (fun j => by rw [hmf j]; omega) ?_
      · obtain ⟨j, hj⟩ := hex
        rcases hj with ⟨hj1, hj2, hj3⟩ | hj
        · rw [hbs0 j] at hj1
          have := of_decide_eq_false hj1
          refine ⟨j, Nat.zero_le _, ct_lt hss hj3, ?_⟩
          rw [hmf j, hml j]; omega
        · refine ⟨j, Nat.zero_le _, ct_lt hss (by omega), ?_⟩
          have := hone j
          rw [hmf j, hml j]; omega
  · have hany : (l.any (fun x => !inB t x)) = true := by
      rw [List.any_eq_true]
      refine Classical.byContradiction fun hno => hla (List.all_eq_true.2 fun x hx => ?_)
      cases hb : inB t x with
      | true => rfl
      | false => exact absurd ⟨x, hx, by simp [hb]⟩ hno
    rw [if_pos hany, if_neg hla, rcopied_eq free (by omega)]
    exact ⟨(free, 20), rfl, rfl, hfl⟩

theorem tells_eq (t : Int) (free : List S47) (n : Int) (l : List S47) (hf : free.length < 4611686018427387904) (hl : l.length < 4611686018427387904) : ∃ k, reeflaw09_ExtentTells.f k t free n l = some true := by
  obtain ⟨K, hK⟩ : ∃ K, K = 65540 * (free.length + l.length) + 400000 := ⟨_, rfl⟩
  refine ⟨K + 3, ?_⟩
  unfold reeflaw09_ExtentTells.f
  rw [fit_eq free t hf (K + 3) (by omega), rfit_eq free t hf (K + 3) (by omega)]
  simp only [Option.bind_some]
  rw [if_neg (by simp)]
  obtain ⟨A, hA1, hA2, hA3⟩ : ∃ A, extent_All.f t = some A ∧ reefref09_All.f t = some A ∧ A.length ≤ 1 := by
    unfold extent_All.f reefref09_All.f
    split
    · exact ⟨_, rfl, rfl, by simp⟩
    · split
      · exact ⟨_, rfl, rfl, by simp⟩
      · exact ⟨_, rfl, rfl, by simp⟩
  rw [hA1, hA2]
  simp only [Option.bind_some]
  rw [same_eq A (by omega) (K + 3) (by omega)]
  simp only [Option.bind_some, Bool.not_true]
  rw [reeflaw09_ExtentTells.j0]
  simp only [Bool.false_eq_true, if_false]
  rw [rfit_eq free t hf (K + 2) (by omega)]
  simp only [Option.bind_some]
  by_cases hfit : fitB t free = true
  · rw [if_pos hfit]
    unfold fitB at hfit
    rw [Bool.and_eq_true] at hfit
    obtain ⟨hft, hfl⟩ := hfit
    obtain ⟨h0, ht⟩ := of_decide_eq_true hft
    have hlen := fit_len' t h0 ht free hfl
    have hg := fit_good t h0 ht free hfl
    rw [copied_eq free (by omega)]
    simp only [Option.bind_some]
    obtain ⟨r, hr1, hr2⟩ := take_eq free hg n (K + 2) (by omega)
    have hrl := take_len free n r hlen hr1
    rw [hr1, hr2]
    simp only [Option.bind_some]
    rw [same_eq r.1 (by omega) (K + 2) (by omega)]
    simp only [Option.bind_some, if_true]
    rw [same_eq r.2.1 (by omega) (K + 2) (by omega)]
    simp only [Option.bind_some, if_true, bne_self_eq_false]
    rw [reeflaw09_ExtentTells.j1]
    simp only [Bool.false_eq_true, if_false]
    obtain ⟨q, hq1, hq2, hq3⟩ := Give_eq t h0 ht free l hfl hl (K + 1) (by omega)
    rw [hq1, hq2]
    simp only [Option.bind_some]
    rw [same_eq q.1 (by omega) (K + 1) (by omega)]
    simp only [Option.bind_some, if_true, bne_self_eq_false]
    rw [reeflaw09_ExtentTells.j2]
    simp only [Bool.false_eq_true, if_false]
    obtain ⟨p, hp1, hp2, hp3⟩ := Claim_eq t h0 ht free l hfl hl K (by omega)
    rw [hp1, hp2]
    simp only [Option.bind_some]
    rw [same_eq p.1 (by omega) K (by omega)]
    simp only [Option.bind_some, if_true]
    rw [same_eq free (by omega) K (by omega)]
    rfl
  · rw [if_neg hfit]
    rfl
end Go.Proofs.Ytgnaippmncnlaaa.P
