import Derived.Test.YtgnaippmncnlaaaH8
import Derived.Test.YtgnaippmncnlaaaP5
import Derived.Test.YtgnaippmncnlaaaH7
namespace Go.Proofs.Ytgnaippmncnlaaa.P
open Go.RowKit Go.Proofs.YtgnaippmncnlaaaW.PrintWords Go.Proofs.YtgnaippmncnlaaaW.PrintLast Go.Proofs.YtgnaippmncnlaaaW.PrintMore Go.Proofs.YtgnaippmncnlaaaW.HB
set_option linter.unusedVariables false

theorem same_go (l : List S47) (hl : l.length < 4611686018427387904) : ∀ (m i k : Nat), i + m = l.length → m < k → reeflaw09_same.l0 k l l (l.length : Int) i = some true := by
  intro m
  induction m with
  | zero =>
    intro i k hi hk
    obtain ⟨k, rfl⟩ : ∃ q, k = q + 1 := ⟨k - 1, by omega⟩
    simp only [reeflaw09_same.l0]
    rw [if_neg (by omega)]
  | succ m ih =>
    intro i k hi hk
    obtain ⟨k, rfl⟩ : ∃ q, k = q + 1 := ⟨k - 1, by omega⟩
    simp only [reeflaw09_same.l0]
    have ei : wrap64 ((i : Int) + 1) = ((i + 1 : Nat) : Int) := by rw [wr _ (by omega)]; omega
    rw [if_pos (by omega), if_pos (by omega), if_pos (by omega), if_pos (by omega), if_neg (by simp), ei]
    exact ih (i + 1) k (by omega) (by omega)
theorem same_eq (l : List S47) (hl : l.length < 4611686018427387904) (k : Nat) (hk : l.length < k) : reeflaw09_same.f k l l = some true := by
  unfold reeflaw09_same.f
  rw [if_pos rfl]
  exact same_go l hl l.length 0 k (by omega) (by omega)
theorem copied_eq (l : List S47) (hl : l.length < 8796093022208) : reeflaw09_copied.f l = some l := by
  unfold reeflaw09_copied.f
  rw [if_pos (by simpa using hl)]; rfl
theorem rcopied_eq (l : List S47) (hl : l.length < 8796093022208) : reefref09_copied.f l = some l := by
  unfold reefref09_copied.f
  rw [if_pos (by simpa using hl)]; rfl
theorem rcount_go (l : List S47) (h : goodL l = true) : ∀ (m i k : Nat), i + m = l.length → m < k → reefref09_Count.l0 k l (sumL (l.take i)) i = some (sumL l) := by
  intro m
  induction m with
  | zero =>
    intro i k hi hk
    obtain ⟨k, rfl⟩ : ∃ q, k = q + 1 := ⟨k - 1, by omega⟩
    simp only [reefref09_Count.l0]
    rw [if_neg (by omega), List.take_of_length_le (by omega)]
  | succ m ih =>
    intro i k hi hk
    obtain ⟨k, rfl⟩ : ∃ q, k = q + 1 := ⟨k - 1, by omega⟩
    have hlt : i < l.length := by omega
    have hl := goodL_len h
    have hm : rd_T47 l i ∈ l := by rw [rd_at_E l i hlt]; exact List.getElem_mem _
    have hb := goodL_mem h hm
    have hs := sumL_bound (l.take i) (fun x hx => by have := goodL_mem h (List.mem_of_mem_take hx); omega)
    rw [List.length_take] at hs
    simp only [reefref09_Count.l0]
    rw [if_pos (by omega), if_pos (by omega), if_pos (by omega)]
    have e1 : wrap64 ((i : Int) + 1) = ((i + 1 : Nat) : Int) := by unfold wrap64; omega
    have e2 : wrap64 (sumL (l.take i) + (rd_T47 l i).f1) = sumL (l.take (i + 1)) := by rw [sumL_take_succ l i hlt]; unfold wrap64; omega
    rw [e1, e2]
    exact ih (i + 1) k (by omega) (by omega)
theorem rcount_eq (l : List S47) (h : goodL l = true) (k : Nat) (hk : l.length < k) : reefref09_Count.f k l = some (sumL l) := by
  unfold reefref09_Count.f
  have := rcount_go l h l.length 0 k (by omega) (by omega)
  simpa [sumL] using this

/-- What Take's second loop does from an extent on when one extent is enough (w: it). -/
def takeW (w : Nat) (n : Int) : Nat → List S47 → List S47 × List S47
  | _, [] => ([], [])
  | i, x :: l => if i = w then (⟨x.f0, n⟩ :: (takeW w n (i + 1) l).1, (if n < x.f1 then [⟨x.f0 + n, x.f1 - n⟩] else []) ++ (takeW w n (i + 1) l).2) else ((takeW w n (i + 1) l).1, x :: (takeW w n (i + 1) l).2)
theorem takeW_past (w : Nat) (n : Int) : ∀ (l : List S47) (i : Nat), w < i → takeW w n i l = ([], l)
  | [], _, _ => rfl
  | x :: l, i, h => by rw [takeW, if_neg (by omega), takeW_past w n l (i + 1) (by omega)]
theorem takeW_eq (w : Nat) (n : Int) (hn : 0 < n) : ∀ (l : List S47) (i : Nat), i ≤ w → (hw : w - i < l.length) → (∀ x ∈ l, 1 ≤ x.f1) → n ≤ (l[w - i]).f1 →
    takeW w n i l = ([⟨(l[w - i]).f0, n⟩], (l.set (w - i) ⟨(l[w - i]).f0 + n, (l[w - i]).f1 - n⟩).filter (fun x => !(x.f1 == 0)))
  | [], _, _, h, _, _ => by simp at h
  | x :: l, i, hi, hw, hx, hn' => by
    have hfil : ∀ t : List S47, (∀ y ∈ t, 1 ≤ y.f1) → t.filter (fun x => !(x.f1 == 0)) = t := fun t ht => List.filter_eq_self.2 (fun y hy => by have := ht y hy; simp; omega)
    have hx1 := hx x (by simp)
    by_cases he : i = w
    · subst he
      simp only [Nat.sub_self, List.getElem_cons_zero] at hn' ⊢
      rw [takeW, if_pos rfl, takeW_past _ _ _ _ (by omega)]
      simp only [List.set_cons_zero, List.filter_cons]
      rw [hfil l (fun y hy => hx y (by simp [hy]))]
      by_cases h : n < x.f1
      · rw [if_pos h, if_pos (by simp; omega)]; rfl
      · rw [if_neg h, if_neg (by simp; omega)]; rfl
    · have hs : w - i = (w - (i + 1)) + 1 := by omega
      have hw' : w - (i + 1) < l.length := by simp at hw; omega
      have hg : (x :: l)[w - i] = l[w - (i + 1)] := by simp [hs]
      rw [hg] at hn' ⊢
      rw [takeW, if_neg he, takeW_eq w n hn l (i + 1) (by omega) hw' (fun y hy => hx y (by simp [hy])) hn']
      simp only [hs, List.set_cons_succ, List.filter_cons]
      rw [if_pos (by simp; omega)]
def firstW (l : List S47) (n : Int) (i : Nat) : Int := match (l.drop i).findIdx? (fun x => decide (n ≤ x.f1)) with | some j => ((i + j : Nat) : Int) | none => -1
theorem firstW_step (l : List S47) (n : Int) (i : Nat) (h : i < l.length) : firstW l n i = if (rd_T47 l i).f1 ≥ n then (i : Int) else firstW l n (i + 1) := by
  unfold firstW
  rw [drop_cons l i h, List.findIdx?_cons]
  by_cases hc : n ≤ (rd_T47 l i).f1
  · rw [decide_eq_true hc, if_pos hc]; rfl
  · rw [decide_eq_false hc, if_neg hc]
    simp only [Bool.false_eq_true, if_false]
    cases (l.drop (i + 1)).findIdx? (fun x => decide (n ≤ x.f1)) with
    | none => rfl
    | some j => simp only [Option.map_some]; omega
theorem take_l0 (l : List S47) (hl : l.length ≤ 65536) (n : Int) : ∀ (i k : Nat), i ≤ l.length → reefref09_Take.l0 (k + i + 1) l n (firstW l n i) ((i : Int) - 1) = reefref09_Take.l1 k l n (firstW l n 0) [] [] 0 := by
  intro i
  induction i with
  | zero => intro k hi; simp only [reefref09_Take.l0]; rw [if_neg (by omega)]
  | succ i ih =>
    intro k hi
    have e0 : (((i + 1 : Nat) : Int) - 1) = (i : Int) := by omega
    rw [e0]
    have ek : k + (i + 1) + 1 = (k + i + 1) + 1 := by omega
    rw [ek]
    obtain ⟨F, hF⟩ : ∃ F, F = k + i + 1 := ⟨_, rfl⟩
    rw [← hF]
    simp only [reefref09_Take.l0]
    rw [hF]
    have e1 : wrap64 ((i : Int) - 1) = (i : Int) - 1 := wr _ (by omega)
    rw [if_pos (by omega), if_pos (by omega), if_pos (by omega), e1]
    have hst := firstW_step l n i (by omega)
    by_cases hc : (rd_T47 l i).f1 ≥ n
    · rw [if_pos hc] at hst ⊢; have := ih k (by omega); rw [hst] at this; exact this
    · rw [if_neg hc] at hst ⊢; have := ih k (by omega); rw [hst] at this; exact this
def tg (l : List S47) (n : Int) : List S47 × List S47 := if n = 0 then ([], l) else takeGo l n
theorem take_l1 (l : List S47) (hg : goodL l = true) : ∀ (m i k : Nat) (n : Int) (a b : List S47), i + m = l.length → 0 ≤ n → n ≤ 4611686018427387904 → a.length ≤ i → b.length ≤ i → 3 * m < k → reefref09_Take.l1 k l n (-1) a b i = some (a ++ (tg (l.drop i) n).1, b ++ (tg (l.drop i) n).2, 0) := by
  intro m
  have hl := goodL_len hg
  induction m with
  | zero =>
    intro i k n a b hi h0 h1 ha hb hk
    obtain ⟨k, rfl⟩ : ∃ q, k = q + 1 := ⟨k - 1, by omega⟩
    simp only [reefref09_Take.l1]
    rw [if_neg (by omega), List.drop_eq_nil_of_le (by omega)]
    by_cases h : n = 0 <;> simp [tg, takeGo, h]
  | succ m ih =>
    intro i k n a b hi h0 h1 ha hb hk
    obtain ⟨k, rfl⟩ : ∃ q, k = q + 1 + 1 + 1 := ⟨k - 3, by omega⟩
    have hlt : i < l.length := by omega
    have hm : rd_T47 l i ∈ l := by rw [rd_at_E l i hlt]; exact List.getElem_mem _
    have hbd := goodL_mem hg hm
    simp only [reefref09_Take.l1]
    rw [if_pos (by omega), if_pos (by omega), if_pos (by omega)]
    simp only [reefref09_Take.j2, if_true]
    have ei : wrap64 ((i : Int) + 1) = ((i + 1 : Nat) : Int) := by rw [wr _ (by omega)]; omega
    rw [drop_cons l i hlt]
    generalize hx : rd_T47 l (i : Int) = x at *
    have hla : (a ++ [(⟨x.f0, mn n x.f1⟩ : S47)]).length ≤ i + 1 := by simp; omega
    have hlb : ∀ y : S47, (b ++ [y]).length ≤ i + 1 := fun y => by simp; omega
    have ha' : a.length < 8796093022208 := by omega
    have hb' : b.length < 8796093022208 := by omega
    simp only [reefref09_Take.j3]
    by_cases hz : n = 0
    · subst hz
      have e : mn 0 x.f1 = 0 := by unfold mn; split <;> omega
      rw [e, if_neg (by omega), if_pos (by omega), if_pos hb', ei]
      rw [wr (0 - 0) (by omega), wr (x.f0 + 0) (by omega), wr (x.f1 - 0) (by omega)]
      rw [show (0 : Int) - 0 = 0 from rfl, ih (i + 1) k 0 a _ (by omega) (by omega) (by omega) (by omega) (hlb _) (by omega)]
      simp [tg]
    · rcases Int.lt_trichotomy n x.f1 with hc | hc | hc
      · have e : mn n x.f1 = n := by unfold mn; split <;> omega
        rw [e] at hla ⊢
        rw [if_pos (by omega), if_pos ha']
        simp only [Option.bind_some]
        rw [if_pos hc, if_pos hb', ei]
        rw [wr (n - n) (by omega), wr (x.f0 + n) (by omega), wr (x.f1 - n) (by omega)]
        rw [show n - n = 0 from by omega, ih (i + 1) k 0 _ _ (by omega) (by omega) (by omega) hla (hlb _) (by omega)]
        simp [tg, takeGo, hz, hc]
      · subst hc
        have e : mn x.f1 x.f1 = x.f1 := by unfold mn; split <;> omega
        rw [e] at hla ⊢
        rw [if_pos (by omega), if_pos ha']
        simp only [Option.bind_some]
        rw [if_neg (by omega), ei]
        rw [wr (x.f1 - x.f1) (by omega)]
        rw [show x.f1 - x.f1 = 0 from by omega, ih (i + 1) k 0 _ _ (by omega) (by omega) (by omega) hla (by omega) (by omega)]
        simp [tg, takeGo, hz]
      · have e : mn n x.f1 = x.f1 := by unfold mn; split <;> omega
        rw [e] at hla ⊢
        rw [if_pos (by omega), if_pos ha']
        simp only [Option.bind_some]
        rw [if_neg (by omega), ei]
        rw [wr (n - x.f1) (by omega)]
        rw [ih (i + 1) k (n - x.f1) _ _ (by omega) (by omega) (by omega) hla (by omega) (by omega)]
        have hz2 : ¬ n - x.f1 = 0 := by omega
        have hz3 : ¬ n < x.f1 := by omega
        have hz4 : ¬ n = x.f1 := by omega
        simp [tg, takeGo, hz, hz2, hz3, hz4]
theorem take_l1w (l : List S47) (hg : goodL l = true) (w : Nat) (hw : w < l.length) (n : Int) (h0 : 0 < n) (hn : n ≤ (rd_T47 l w).f1) : ∀ (m i k : Nat) (n' : Int) (a b : List S47), i + m = l.length → (i ≤ w → n' = n) → a.length ≤ i → b.length ≤ i → 3 * m < k → reefref09_Take.l1 k l n' (w : Int) a b i = some (a ++ (takeW w n i (l.drop i)).1, b ++ (takeW w n i (l.drop i)).2, 0) := by
  intro m
  have hl := goodL_len hg
  induction m with
  | zero =>
    intro i k n' a b hi hn' ha hb hk
    obtain ⟨k, rfl⟩ : ∃ q, k = q + 1 := ⟨k - 1, by omega⟩
    simp only [reefref09_Take.l1]
    rw [if_neg (by omega), List.drop_eq_nil_of_le (by omega)]
    simp [takeW]
  | succ m ih =>
    intro i k n' a b hi hn' ha hb hk
    have HN := Aside0.mk hn'
    clear hn'
    obtain ⟨k, rfl⟩ : ∃ q, k = q + 1 + 1 + 1 := ⟨k - 3, by omega⟩
    have hlt : i < l.length := by omega
    have hm : rd_T47 l i ∈ l := by rw [rd_at_E l i hlt]; exact List.getElem_mem _
    have hbd := goodL_mem hg hm
    simp only [reefref09_Take.l1]
    rw [if_pos (by omega), if_pos (by omega), if_neg (by omega)]
    have EI : Aside0 (wrap64 ((i : Int) + 1) = ((i + 1 : Nat) : Int)) := ⟨by rw [wr _ (by omega)]; omega⟩
    have ha' : a.length < 8796093022208 := by omega
    have hb' : b.length < 8796093022208 := by omega
    have hlb : ∀ y : S47, (b ++ [y]).length ≤ i + 1 := fun y => by simp; omega
    rw [drop_cons l i hlt]
    by_cases hc : w = i
    · subst hc
      have := HN.out (by omega)
      subst this
      generalize hx : rd_T47 l (w : Int) = x at *
      have hq : ((w : Int) == (w : Int)) = true := by simp
      rw [hq]
      simp only [reefref09_Take.j2, if_true, reefref09_Take.j3]
      have e : mn n' x.f1 = n' := by unfold mn; split <;> omega
      have hla : (a ++ [(⟨x.f0, n'⟩ : S47)]).length ≤ w + 1 := by simp; omega
      rw [e, if_pos (by omega), if_pos ha']
      simp only [Option.bind_some]
      by_cases h : n' < x.f1
      · rw [if_pos h, if_pos hb', EI.out, wr (x.f0 + n') (by omega), wr (x.f1 - n') (by omega), ih (w + 1) k _ _ _ (by omega) (fun h => by omega) hla (hlb _) (by omega)]
        simp [takeW, h]
      · rw [if_neg h, EI.out, ih (w + 1) k _ _ _ (by omega) (fun h => by omega) hla (by omega) (by omega)]
        simp [takeW, h]
    · have hq : ((w : Int) == (i : Int)) = false := by simp; omega
      rw [hq]
      generalize hx : rd_T47 l (i : Int) = x at *
      simp only [reefref09_Take.j2, Bool.false_eq_true, if_false, reefref09_Take.j3]
      rw [if_neg (by omega), if_pos (by omega), if_pos hb', EI.out, wr (x.f0 + 0) (by omega), wr (x.f1 - 0) (by omega), ih (i + 1) k _ _ _ (by omega) (fun h => HN.out (by omega)) (by omega) (hlb _) (by omega)]
      have hc' : ¬ i = w := fun h => hc h.symm
      simp [takeW, hc']
theorem take_eq (l : List S47) (hg : goodL l = true) (n : Int) (k : Nat) (hk : 4 * l.length + 3 < k) : ∃ r, extent_Take.f l n = some r ∧ reefref09_Take.f k l n = some r := by
  have hl := goodL_len hg
  unfold extent_Take.f reefref09_Take.f
  rw [if_pos hg, rcopied_eq l (by omega), rcount_eq l hg k (by omega)]
  simp only [Option.bind_some]
  by_cases h0 : n < 0
  · rw [if_pos h0, if_pos h0]; exact ⟨_, rfl, rfl⟩
  · rw [if_neg h0, if_neg h0]
    by_cases h1 : sumL l < n
    · rw [if_pos h1, if_pos h1]; exact ⟨_, rfl, rfl⟩
    · rw [if_neg h1, if_neg h1]
      by_cases h2 : n = 0
      · rw [if_pos h2, if_pos h2]; exact ⟨_, rfl, rfl⟩
      · rw [if_neg h2, if_neg h2]
        have hs := sumL_bound l (fun x hx => by have := goodL_mem hg hx; omega)
        obtain ⟨k, rfl⟩ : ∃ q, k = q + l.length + 1 := ⟨k - l.length - 1, by omega⟩
        have hend : firstW l n l.length = -1 := by simp [firstW]
        have h3 := take_l0 l hl n l.length k (by omega)
        rw [hend] at h3
        rw [wr _ (by omega), h3]
        cases hf : l.findIdx? (fun x => decide (n ≤ x.f1)) with
        | none =>
          have hfw : firstW l n 0 = -1 := by simp only [firstW, List.drop_zero, hf]
          have := take_l1 l hg l.length 0 k n [] [] (by omega) (by omega) (by omega) (by simp) (by simp) (by omega)
          rw [show ((0 : Nat) : Int) = 0 from rfl] at this
          rw [hfw, this]
          exact ⟨_, rfl, by simp [tg, h2]⟩
        | some w =>
          have hfw : firstW l n 0 = (w : Int) := by simp only [firstW, List.drop_zero, hf]; omega
          obtain ⟨hw, hp, _⟩ := List.findIdx?_eq_some_iff_getElem.1 hf
          have hp' : n ≤ (rd_T47 l w).f1 := by rw [rd_at_E l w hw]; simpa using hp
          have := take_l1w l hg w hw n (by omega) hp' l.length 0 k n [] [] (by omega) (fun _ => rfl) (by simp) (by simp) (by omega)
          rw [show ((0 : Nat) : Int) = 0 from rfl] at this
          have hwq := takeW_eq w n (by omega) l 0 (by omega) (by omega) (fun x hx => (goodL_mem hg hx).1) (by simpa using hp)
          rw [hfw, this]
          refine ⟨_, rfl, ?_⟩
          rw [List.drop_zero, hwq, rd_at_E l w hw]
          simp
end Go.Proofs.Ytgnaippmncnlaaa.P
