import Derived.Test.YtgnaippmncnlaaaH9
import Derived.Test.YtgnaippmncnlaaaP6
namespace Go.Proofs.Ytgnaippmncnlaaa.P
open Go.RowKit Go.Proofs.YtgnaippmncnlaaaW.PrintWords Go.Proofs.YtgnaippmncnlaaaW.PrintLast Go.Proofs.YtgnaippmncnlaaaW.PrintMore Go.Proofs.YtgnaippmncnlaaaW.HB
set_option linter.unusedVariables false

def g (mm : List Int) (j : Nat) : Int := mm.getD j 0
def ct (ss : List Int) (j : Nat) : Nat := ss.countP (fun s => s.toNat == j)
theorem ct_cons (s : Int) (ss : List Int) (j : Nat) : ct (s :: ss) j = ct ss j + if s.toNat = j then 1 else 0 := by
  unfold ct; rw [List.countP_cons]; simp
theorem ct_append (a b : List Int) (j : Nat) : ct (a ++ b) j = ct a j + ct b j := by unfold ct; rw [List.countP_append]
theorem g_set (mm : List Int) (i : Nat) (v : Int) (j : Nat) (h : i < mm.length) : g (mm.set i v) j = if i = j then v else g mm j := by
  unfold g
  rw [List.getD_eq_getElem?_getD, List.getElem?_set, List.getD_eq_getElem?_getD]
  by_cases hj : i = j
  · subst hj; simp [h]
  · simp [hj]
def addS (mm : List Int) (s : Int) : List Int := mm.set s.toNat (mn (wrap64 (rd mm s + 1)) 2)
theorem addS_get (mm : List Int) (s : Int) (j : Nat) (h : s.toNat < mm.length) (hb : ∀ j, 0 ≤ g mm j ∧ g mm j ≤ 2) : g (addS mm s) j = if s.toNat = j then min (g mm j + 1) 2 else g mm j := by
  unfold addS
  rw [g_set _ _ _ _ h]
  by_cases hj : s.toNat = j
  · subst hj
    rw [if_pos rfl, if_pos rfl]
    have h2 := hb s.toNat
    have e : rd mm s = g mm s.toNat := rfl
    rw [e, wr _ (by omega)]
    unfold mn
    split <;> omega
  · rw [if_neg hj, if_neg hj]
theorem fold_get : ∀ (ss mm : List Int), (∀ s ∈ ss, s.toNat < mm.length) → (∀ j, 0 ≤ g mm j ∧ g mm j ≤ 2) →
    (ss.foldl addS mm).length = mm.length ∧ ∀ j, g (ss.foldl addS mm) j = min (g mm j + ct ss j) 2
  | [], mm, _, hb => ⟨rfl, fun j => by have := hb j; simp [ct]; omega⟩
  | s :: ss, mm, hs, hb => by
    have h0 := hs s (by simp)
    have hl : (addS mm s).length = mm.length := by simp [addS]
    have hg := addS_get mm s
    have hb' : ∀ j, 0 ≤ g (addS mm s) j ∧ g (addS mm s) j ≤ 2 := fun j => by
      rw [hg j h0 hb]; have := hb j; split <;> omega
    obtain ⟨h1, h2⟩ := fold_get ss (addS mm s) (fun x hx => by rw [hl]; exact hs x (by simp [hx])) hb'
    refine ⟨by simp only [List.foldl_cons]; omega, fun j => ?_⟩
    simp only [List.foldl_cons]
    rw [h2 j, hg j h0 hb, ct_cons]
    have := hb j
    split <;> omega
theorem marked_l1 (t : Int) (l : List S47) (i : Nat) (f0 f1 : Int) (h0 : 0 ≤ f0) (h1 : f0 + f1 ≤ t) (ht : t ≤ 65536) (k : Nat) : ∀ (n j : Nat) (mm : List Int), f1 = ((j + n : Nat) : Int) → mm.length = t.toNat →
    reefref09_marked.l1 (k + n + 1) t l mm i (f0 + (j : Int)) f0 f1 = reefref09_marked.l0 k t l (((List.range' j n).map (fun q : Nat => f0 + (q : Int))).foldl addS mm) (wrap64 ((i : Int) + 1)) := by
  intro n
  induction n with
  | zero =>
    intro j mm hf hm
    have e : wrap64 (f0 + f1) = f0 + f1 := wr _ (by omega)
    simp only [reefref09_marked.l1]
    rw [e, if_neg (by omega)]
    rfl
  | succ n ih =>
    intro j mm hf hm
    obtain ⟨F, hF⟩ : ∃ F, F = k + n + 1 := ⟨_, rfl⟩
    have e0 : k + (n + 1) + 1 = F + 1 := by omega
    rw [e0]
    simp only [reefref09_marked.l1]
    rw [wr (f0 + f1) (by omega), if_pos (by omega), if_pos (by omega), if_pos (by omega), wr (f0 + (j : Int) + 1) (by omega), hF]
    have e1 : f0 + (j : Int) + 1 = f0 + ((j + 1 : Nat) : Int) := by omega
    have hl : (addS mm (f0 + (j : Int))).length = t.toNat := by simp [addS]; exact hm
    rw [e1]
    have := ih (j + 1) (addS mm (f0 + (j : Int))) (by omega) hl
    rw [List.range'_succ, List.map_cons, List.foldl_cons]
    exact this
theorem secs_cons (x : S47) (l : List S47) : secs (x :: l) = (List.range' 0 x.f1.toNat).map (fun q : Nat => x.f0 + (q : Int)) ++ secs l := by
  unfold secs; rw [List.flatMap_cons, List.range_eq_range']
theorem secs_lt {t : Int} (ht : t ≤ 65536) {l : List S47} (hl : ∀ x ∈ l, inB t x = true) {s : Int} (hs : s ∈ secs l) : s.toNat < t.toNat := by
  have := secs_mem ht hl hs; omega
theorem marked_go (t : Int) (h0 : 0 ≤ t) (ht : t ≤ 65536) (l : List S47) (hl : l.length < 4611686018427387904) : ∀ (m i k : Nat) (mm : List Int), i + m = l.length → 65540 * m < k → mm.length = t.toNat → (∀ j, 0 ≤ g mm j ∧ g mm j ≤ 2) →
    reefref09_marked.l0 k t l mm i = some (if (l.drop i).all (inB t) = true then ((secs (l.drop i)).foldl addS mm, true) else ([], false)) := by
  intro m
  induction m with
  | zero =>
    intro i k mm hi hk hm hb
    obtain ⟨k, rfl⟩ : ∃ q, k = q + 1 := ⟨k - 1, by omega⟩
    simp only [reefref09_marked.l0]
    rw [if_neg (by omega), List.drop_eq_nil_of_le (by omega)]
    rfl
  | succ m ih =>
    intro i k mm hi hk hm hb
    obtain ⟨k, rfl⟩ : ∃ q, k = q + 1 + 1 := ⟨k - 2, by omega⟩
    have hlt : i < l.length := by omega
    have EI : Aside0 (wrap64 ((i : Int) + 1) = ((i + 1 : Nat) : Int)) := ⟨by rw [wr _ (by omega)]; omega⟩
    simp only [reefref09_marked.l0]
    rw [if_pos (by omega), if_pos (by omega)]
    rw [drop_cons l i hlt]
    generalize hx : rd_T47 l (i : Int) = x at *
    have hno : ∀ b, inB t x = false → b = true → reefref09_marked.j1 (k + 1) t l mm i b x.f0 x.f1 = some (if (x :: l.drop (i + 1)).all (inB t) = true then ((secs (x :: l.drop (i + 1))).foldl addS mm, true) else ([], false)) := fun b hb hbt => by
      simp only [reefref09_marked.j1, hbt, if_true]
      rw [if_neg (by simp [hb])]
    have hno' : ¬ (1 ≤ x.f1 ∧ 0 ≤ x.f0 ∧ x.f0 ≤ t ∧ x.f1 ≤ t - x.f0) → inB t x = false := fun h => decide_eq_false h
    by_cases h2 : x.f1 < 1
    · rw [if_pos h2, hno true (hno' (by omega)) rfl]
    · rw [if_neg h2]
      by_cases h3 : x.f1 > t
      · rw [if_pos h3, hno true (hno' (by omega)) rfl]
      · rw [if_neg h3]
        by_cases h4 : x.f0 < 0
        · rw [if_pos h4, hno true (hno' (by omega)) rfl]
        · rw [if_neg h4, wr (t - x.f1) (by omega)]
          by_cases h5 : x.f0 > t - x.f1
          · rw [decide_eq_true h5, hno true (hno' (by omega)) rfl]
          · have hbx : inB t x = true := decide_eq_true (by omega)
            rw [decide_eq_false h5]
            simp only [reefref09_marked.j1, Bool.false_eq_true, if_false]
            obtain ⟨n, hn⟩ : ∃ n : Nat, x.f1 = (n : Int) := ⟨x.f1.toNat, by omega⟩
            obtain ⟨k', rfl⟩ : ∃ q, k = q + n + 1 := ⟨k - n - 1, by omega⟩
            have hl1 := marked_l1 t l i x.f0 x.f1 (by omega) (by omega) ht k' n 0 mm (by omega) hm
            rw [show x.f0 + ((0 : Nat) : Int) = x.f0 from by simp] at hl1
            rw [hl1, EI.out]
            have hs : ∀ s ∈ (List.range' 0 n).map (fun q : Nat => x.f0 + (q : Int)), s.toNat < mm.length := fun s hs => by
              obtain ⟨q, hq, rfl⟩ := List.mem_map.1 hs
              have := List.mem_range'_1.1 hq
              rw [hm]; omega
            obtain ⟨q1, q2⟩ := fold_get _ mm hs hb
            rw [ih (i + 1) k' _ (by omega) (by omega) (by rw [q1]; exact hm) (fun j => by rw [q2 j]; have := hb j; omega)]
            rw [secs_cons, List.foldl_append, List.all_cons, hbx, Bool.true_and, show x.f1.toNat = n from by omega]
def cntM (t : Int) (l : List S47) : List Int := (secs l).foldl addS (List.replicate t.toNat 0)
theorem g_zero (n j : Nat) : g (List.replicate n 0) j = 0 := by
  unfold g; rw [List.getD_eq_getElem?_getD, List.getElem?_replicate]; split <;> rfl
theorem marked_eq (t : Int) (h0 : 0 ≤ t) (ht : t ≤ 65536) (l : List S47) (hl : l.length < 4611686018427387904) (k : Nat) (hk : 65540 * l.length < k) : reefref09_marked.f k t l = some (if l.all (inB t) = true then (cntM t l, true) else ([], false)) := by
  unfold reefref09_marked.f
  rw [if_pos h0, if_pos (by omega)]
  have := marked_go t h0 ht l hl l.length 0 k (List.replicate t.toNat 0) (by omega) hk (by simp) (fun j => by rw [g_zero]; omega)
  rw [show ((0 : Nat) : Int) = 0 from rfl, List.drop_zero] at this
  exact this
theorem cntM_len {t : Int} (ht : t ≤ 65536) {l : List S47} (hl : ∀ x ∈ l, inB t x = true) : (cntM t l).length = t.toNat := by
  have := (fold_get (secs l) (List.replicate t.toNat 0) (fun s hs => by simp; have := secs_mem ht hl hs; omega) (fun j => by rw [g_zero]; omega)).1
  unfold cntM; simpa using this
theorem cntM_get {t : Int} (ht : t ≤ 65536) {l : List S47} (hl : ∀ x ∈ l, inB t x = true) (j : Nat) : g (cntM t l) j = min (ct (secs l) j : Int) 2 := by
  have := (fold_get (secs l) (List.replicate t.toNat 0) (fun s hs => by simp; have := secs_mem ht hl hs; omega) (fun j => by rw [g_zero]; omega)).2 j
  unfold cntM; rw [this, g_zero]; simp
end Go.Proofs.Ytgnaippmncnlaaa.P
