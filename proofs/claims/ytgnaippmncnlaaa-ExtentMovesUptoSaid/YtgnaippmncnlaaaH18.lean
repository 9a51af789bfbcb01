import Derived.Test.YtgnaippmncnlaaaH17
namespace Go.Proofs.Ytgnaippmncnlaaa.P
open Go.RowKit Go.Proofs.YtgnaippmncnlaaaW.PrintWords Go.Proofs.YtgnaippmncnlaaaW.PrintLast Go.Proofs.YtgnaippmncnlaaaW.PrintMore Go.Proofs.YtgnaippmncnlaaaW.HB
set_option linter.unusedVariables false

/-- Each sector in one place. -/
structure MvInv (t : Int) (free : List S47) (held : List (List S47)) : Prop where
  fit : fitL t none free = true
  ins : ∀ h ∈ held, goodL h = true ∧ ∀ x ∈ h, inB t x = true
  one : ∀ j, j < t.toNat → ct (secs free) j + hs held j = 1
theorem ct_out (t : Int) (h1 : t ≤ 65536) (l : List S47) (hl : ∀ x ∈ l, inB t x = true) (j : Nat) (hj : t.toNat ≤ j) : ct (secs l) j = 0 := by
  refine Nat.eq_zero_of_not_pos fun hc => ?_
  have := ct_lt (T := t.toNat) (fun s hs => secs_lt h1 hl hs) hc
  omega
theorem take_len1 (l : List S47) (n : Int) (r : List S47 × List S47 × Int) (hl : l.length ≤ 65536) (h : extent_Take.f l n = some r) : r.1.length ≤ 65536 := by
  unfold extent_Take.f at h
  have h2 := takeGo_len l n
  repeat' split at h
  all_goals try (simp only [Option.some.injEq] at h; subst h; simp; done)
  all_goals try (simp only [Option.some.injEq] at h; subst h; simp; omega)
  all_goals cases h
theorem good_of (t : Int) (h1 : t ≤ 65536) (l : List S47) (hn : l.length ≤ 65536) (hl : ∀ x ∈ l, inB t x = true) : goodL l = true := by
  unfold goodL
  rw [Bool.and_eq_true]
  refine ⟨decide_eq_true hn, List.all_eq_true.2 (fun x hx => ?_)⟩
  have := inB_of (hl x hx)
  exact decide_eq_true (by omega)
theorem hs_append (a b : List (List S47)) (j : Nat) : hs (a ++ b) j = hs a j + hs b j := by simp [hs]
theorem hs_cut (held : List (List S47)) (c : Nat) (hc : c < held.length) (j : Nat) : hs held j = hs (held.take c ++ held.drop (c + 1)) j + ct (secs held[c]) j := by
  have e : held = held.take c ++ held[c] :: held.drop (c + 1) := by rw [← List.drop_eq_getElem_cons hc, List.take_append_drop]
  have h1 : hs held j = hs (held.take c ++ held[c] :: held.drop (c + 1)) j := congrArg (fun z => hs z j) e
  have h2 : ∀ (x : List S47) (l : List (List S47)), hs (x :: l) j = ct (secs x) j + hs l j := fun x l => by simp [hs]
  rw [h1, hs_append, hs_append, h2]
  omega
theorem u64w (n : Int) : IntKind.u64.wrap n = n % 18446744073709551616 := by
  unfold IntKind.wrap; simp [IntKind.signed, IntKind.bits]
theorem idx_eq (n : Int) (c : Nat) (hc : 0 < c) (hc2 : c < 4611686018427387904) : ∃ q : Nat, q < c ∧ wrap64 (Int.tmod (IntKind.u64.wrap n) (IntKind.u64.wrap (c : Int))) = (q : Int) ∧ ¬ IntKind.u64.wrap (c : Int) = 0 := by
  have e1 : IntKind.u64.wrap (c : Int) = c := by rw [u64w]; omega
  rw [e1, u64w]
  generalize hm : n % 18446744073709551616 = m
  have h0 : 0 ≤ m := by omega
  rw [Int.tmod_eq_emod_of_nonneg h0]
  have h1 := Int.emod_nonneg m (b := (c : Int)) (by omega)
  have h2 := Int.emod_lt_of_pos m (b := (c : Int)) (by omega)
  refine ⟨(m % c).toNat, by omega, ?_, by omega⟩
  generalize m % (c : Int) = r at *
  unfold wrap64; omega
theorem tot_eq (n : Int) : ∃ t : Int, 1 ≤ t ∧ t ≤ 200 ∧ wrap64 (1 + (wrap64 (Int.tmod (IntKind.u64.wrap n) 200))) = t := by
  rw [u64w]
  generalize hm : n % 18446744073709551616 = m
  have h0 : 0 ≤ m := by omega
  rw [Int.tmod_eq_emod_of_nonneg h0]
  have e1 : wrap64 (m % 200) = m % 200 := by unfold wrap64; omega
  rw [e1]
  exact ⟨1 + m % 200, by omega, by omega, by unfold wrap64; omega⟩
theorem fit_true (t : Int) (h0 : 0 ≤ t) (h1 : t ≤ 65536) (l : List S47) (hf : fitL t none l = true) (k : Nat) (hk : 65540 ≤ k) : extent_Fit.f k t l = some true := by
  have := fit_len' t h0 h1 l hf
  rw [fit_eq l t (by omega) k (by omega)]
  unfold fitB; rw [hf, decide_eq_true ⟨h0, h1⟩]; rfl
theorem l0_ev (t : Int) (h0 : 1 ≤ t) (h1 : t ≤ 200) (ns : List Int) (hns : ns.length < 1048577) : ∀ (m i : Nat) (free : List S47) (held : List (List S47)), i + m = ns.length → MvInv t free held → held.length ≤ i →
    Ev (fun k => reeflaw09_ExtentMoves.l0 k t free held ns (ns.length : Int) i) := by
  intro m
  induction m with
  | zero =>
    intro i free held hi hI hh
    obtain ⟨hin, hone⟩ := fit_one t free none hI.fit
    have hg := fit_good t (by omega) (by omega) free hI.fit
    have hsl : (secs free).length < 4611686018427387904 := by
      have := secs_len free (fun y hy => (goodL_mem hg hy).2.1)
      have := goodL_len hg
      omega
    refine (l1_ev held t.toNat (by omega) (secs free) (secs_good t (by omega) free hin) hsl (secs free).length 0 (List.replicate t.toNat 0) (by omega) (by simp) (fun j => ?_) (fun M' e1 e2 => ?_)).step 0 (fun k _ => ?_)
    · rw [g_zero, List.drop_zero]; have := hone j; omega
    · refine l2_ev t (by omega) (by omega) held (by omega) hI.ins held.length 0 M' (by omega) e1 (fun j => ⟨?_, fun hj => ?_⟩) (fun j hj => ?_)
      · rw [e2 j, g_zero]; omega
      · rw [e2 j, g_zero, List.drop_zero, List.drop_zero]; have := hI.one j hj; omega
      · rw [e2 j, g_zero, List.drop_zero, ct_out t (by omega) free hin j hj]; rfl
    · simp only [reeflaw09_ExtentMoves.l0]
      rw [if_neg (by omega), if_pos (by omega), if_pos (by omega)]
      unfold extent_Sectors.f
      rw [if_pos hg]
      rfl
  | succ m ih =>
    intro i free held hi hI hh
    have hlt : i < ns.length := by omega
    have hr : rd ns (i : Int) = ns[i] := by unfold rd; rw [Int.toNat_natCast, List.getD_eq_getElem?_getD, List.getElem?_eq_getElem hlt]; rfl
    have EI : Aside0 (wrap64 ((i : Int) + 1) = ((i + 1 : Nat) : Int)) := ⟨by rw [wr _ (by omega)]; omega⟩
    generalize ns[i] = n at hr
    have hfl := fit_len' t (by omega) (by omega) free hI.fit
    by_cases hn : n ≥ 0
    · obtain ⟨r, e1, e2⟩ := take_moves t (by omega) (by omega) free hI.fit (Int.tmod n 40)
      have hl1 := take_len1 free _ r hfl e1
      by_cases hz : r.2.2 = 0
      · obtain ⟨c1, c2, c3⟩ := e2 hz
        refine (ih (i + 1) r.2.1 (held ++ [r.1]) (by omega) ⟨c2, fun h hh => ?_, fun j hj => ?_⟩ (by simp; omega)).step 65540 (fun k hk => ?_)
        · rcases List.mem_append.1 hh with h' | h'
          · exact hI.ins _ h'
          · rw [List.mem_singleton] at h'
            subst h'
            exact ⟨good_of t (by omega) _ hl1 c3, c3⟩
        · rw [hs_append]
          have h2 := hI.one j hj
          have h3 := c1 j
          have h4 : hs [r.1] j = ct (secs r.1) j := by simp [hs]
          omega
        · simp only [reeflaw09_ExtentMoves.l0]
          rw [if_pos (by omega), if_pos (by omega), if_pos (by omega), hr, if_pos hn, e1]
          simp only [Option.bind_some]
          rw [if_pos hz, if_pos (by omega), fit_true t (by omega) (by omega) _ c2 k hk]
          simp only [Option.bind_some, if_true]
          rw [EI.out]
      · refine (ih (i + 1) free held (by omega) hI (by omega)).step 65540 (fun k hk => ?_)
        simp only [reeflaw09_ExtentMoves.l0]
        rw [if_pos (by omega), if_pos (by omega), if_pos (by omega), hr, if_pos hn, e1]
        simp only [Option.bind_some]
        rw [if_neg hz, fit_true t (by omega) (by omega) _ hI.fit k hk]
        simp only [Option.bind_some, if_true]
        rw [EI.out]
    · by_cases hp : (held.length : Int) > 0
      · obtain ⟨q, q1, q2, q3⟩ := idx_eq n held.length (by omega) (by omega)
        have Q := Aside0.mk q2
        clear q2
        have hins := hI.ins held[q] (List.getElem_mem _)
        have hcut := hs_cut held q q1
        have hrd : rd_L3 held (q : Int) = held[q] := by unfold rd_L3; rw [Int.toNat_natCast, List.getD_eq_getElem?_getD, List.getElem?_eq_getElem q1]; rfl
        have WQ : Aside0 (wrap64 ((q : Int) + 1) = ((q + 1 : Nat) : Int)) := ⟨by rw [wr _ (by omega)]; omega⟩
        obtain ⟨hin, hone⟩ := fit_one t free none hI.fit
        obtain ⟨r, e1, e2, e3⟩ := give_moves t (by omega) (by omega) free hI.fit held[q] hins.2 (fun j => by
          rcases Nat.lt_or_ge j t.toNat with hj | hj
          · have := hI.one j hj; have := hcut j; omega
          · rw [ct_out t (by omega) free hin j hj, ct_out t (by omega) held[q] hins.2 j hj]; omega)
        refine (ih (i + 1) r (held.take q ++ held.drop (q + 1)) (by omega) ⟨e2, fun h hh => ?_, fun j hj => ?_⟩ (by simp; omega)).step 65540 (fun k hk => ?_)
        · rcases List.mem_append.1 hh with h' | h'
          · exact hI.ins _ (List.mem_of_mem_take h')
          · exact hI.ins _ (List.mem_of_mem_drop h')
        · rw [e3 j]; have := hcut j; have := hI.one j hj; omega
        · have hq1 : (q : Int) ≤ (held.length : Int) := by omega
          have hq2 : ([] : List (List S47)).length + (held.take ((q : Int)).toNat).length < 5864062014805 := by rw [Int.toNat_natCast, List.length_take, List.length_nil]; omega
          have hq3 : (0 : Int) ≤ ((q + 1 : Nat) : Int) := by omega
          have hq4 : ((q + 1 : Nat) : Int) ≤ (held.length : Int) := by omega
          have hq5 : (([] : List (List S47)) ++ held.take ((q : Int)).toNat).length + (held.drop (((q + 1 : Nat) : Int)).toNat).length < 5864062014805 := by rw [Int.toNat_natCast, Int.toNat_natCast, List.nil_append, List.length_take, List.length_drop]; omega
          have hq6 : (([] : List (List S47)) ++ held.take ((q : Int)).toNat) ++ held.drop (((q + 1 : Nat) : Int)).toNat = held.take q ++ held.drop (q + 1) := by rw [Int.toNat_natCast, Int.toNat_natCast, List.nil_append]
          simp only [reeflaw09_ExtentMoves.l0]
          rw [if_pos (by omega), if_pos (by omega), if_pos (by omega), hr, if_neg hn, if_pos hp, if_neg q3, Q.out, if_pos (by omega), if_pos (by omega), hrd, e1]
          rw [Option.bind_some, if_pos rfl, Option.bind_some, if_pos hq1, Option.bind_some, if_pos hq2, Option.bind_some, WQ.out, if_pos hq3, if_pos hq4, Option.bind_some, if_pos hq5, fit_true t (by omega) (by omega) _ e2 k hk, Option.bind_some, if_pos rfl, hq6]
          rw [EI.out]
      · refine (ih (i + 1) free held (by omega) hI (by omega)).step 65540 (fun k hk => ?_)
        simp only [reeflaw09_ExtentMoves.l0]
        rw [if_pos (by omega), if_pos (by omega), if_pos (by omega), hr, if_neg hn, if_neg hp, fit_true t (by omega) (by omega) _ hI.fit k hk]
        simp only [Option.bind_some, if_true]
        rw [EI.out]
/-- Where few numbers come: true. -/
theorem moves_eq (a : Int) (ns : List Int) (hns : ns.length < 1048577) : ∃ k, reeflaw09_ExtentMoves.f k a ns = some true := by
  obtain ⟨t, h0, h1, ht⟩ := tot_eq a
  have HT := Aside0.mk ht
  clear ht
  have hb : inB t (⟨0, t⟩ : S47) = true := decide_eq_true (by dsimp only; omega)
  obtain ⟨K, hK⟩ := l0_ev t h0 h1 ns hns ns.length 0 [⟨0, t⟩] [] (by omega) ⟨(fitL_cons t none _ []).2 ⟨hb, trivial, rfl⟩, fun h hh => by simp at hh, fun j hj => by
    rw [ct_one 0 t (by omega), if_pos (by omega)]; simp [secs, ct, hs]⟩ (by simp)
  refine ⟨K, ?_⟩
  have := hK K (Nat.le_refl _)
  unfold reeflaw09_ExtentMoves.f
  rw [HT.out]
  unfold extent_All.f
  rw [if_neg (by omega), if_neg (by omega)]
  exact this
end Go.Proofs.Ytgnaippmncnlaaa.P
