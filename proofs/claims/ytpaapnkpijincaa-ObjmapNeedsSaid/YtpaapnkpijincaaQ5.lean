import Derived.Test.YtpaapnkpijincaaQ1
import Derived.Test.YtpaapnkpijincaaO4
import Derived.Test.YtpaapnkpijincaaO6
import Derived.Test.YtpaapnkpijincaaO11
namespace Go.Proofs.Ytpaapnkpijincaa.P
open Go.RowKit Go.Proofs.YtpaapnkpijincaaW.PrintWords Go.Proofs.YtpaapnkpijincaaW.PrintLast Go.Proofs.YtpaapnkpijincaaW.PrintMore Go.Proofs.YtpaapnkpijincaaW.HB
set_option linter.unusedVariables false
set_option linter.unusedSimpArgs false

/-! what is set; what Needs tells -/
theorem sorted_ext : ∀ (a b : List Int), a.Pairwise (· < ·) → b.Pairwise (· < ·) → (∀ x, x ∈ a ↔ x ∈ b) → a = b
  | [], [], _, _, _ => rfl
  | [], y :: b, _, _, h => by have := (h y).2 (by simp); simp at this
  | x :: a, [], _, _, h => by have := (h x).1 (by simp); simp at this
  | x :: a, y :: b, ha, hb, h => by
    rw [List.pairwise_cons] at ha hb
    have hxy : x = y := by
      rcases Int.lt_trichotomy x y with q | q | q
      · have := (h x).1 (by simp)
        rcases List.mem_cons.1 this with r | r
        · exact r
        · have := hb.1 x r; omega
      · exact q
      · have := (h y).2 (by simp)
        rcases List.mem_cons.1 this with r | r
        · exact r.symm
        · have := ha.1 y r; omega
    subst hxy
    rw [sorted_ext a b ha.2 hb.2 (fun z => ?_)]
    constructor
    · intro hz
      rcases List.mem_cons.1 ((h z).1 (by simp [hz])) with r | r
      · have := ha.1 z hz; omega
      · exact r
    · intro hz
      rcases List.mem_cons.1 ((h z).2 (by simp [hz])) with r | r
      · have := hb.1 z hz; omega
      · exact r
theorem compact_go (d : Array Int) (hs : ∀ i j : Nat, i ≤ j → j < d.size → d[i]! ≤ d[j]!) : ∀ m, m ≤ d.size → (Lib.compactUpTo d m).Pairwise (· < ·) ∧ (∀ x, x ∈ Lib.compactUpTo d m ↔ ∃ j, j < m ∧ x = d[j]!)
  | 0, _ => by simp [Lib.compactUpTo]
  | m + 1, hm => by
    obtain ⟨h1, h2⟩ := compact_go d hs m (by omega)
    rw [Lib.compactUpTo_succ]
    by_cases hk : Lib.keeps d m = true
    · rw [if_pos hk]
      refine ⟨?_, fun x => ?_⟩
      · rw [List.pairwise_append]
        refine ⟨h1, by simp, fun a ha b hb => ?_⟩
        rw [List.mem_singleton] at hb
        subst hb
        obtain ⟨j, hj, rfl⟩ := (h2 a).1 ha
        have hne : d[m]! ≠ d[m - 1]! := by
          have := hk
          simp only [Lib.keeps, decide_eq_true_eq] at this
          rcases this with q | q
          · omega
          · exact q
        have a1 := hs j (m - 1) (by omega) (by omega)
        have a2 := hs (m - 1) m (by omega) (by omega)
        omega
      · rw [List.mem_append, h2 x, List.mem_singleton]
        constructor
        · rintro (⟨j, hj, rfl⟩ | rfl)
          · exact ⟨j, by omega, rfl⟩
          · exact ⟨m, by omega, rfl⟩
        · rintro ⟨j, hj, rfl⟩
          rcases Nat.lt_or_ge j m with q | q
          · exact .inl ⟨j, q, rfl⟩
          · exact .inr (by rw [show j = m from by omega])
    · rw [if_neg hk, List.append_nil]
      refine ⟨h1, fun x => ?_⟩
      rw [h2 x]
      constructor
      · rintro ⟨j, hj, rfl⟩; exact ⟨j, by omega, rfl⟩
      · rintro ⟨j, hj, rfl⟩
        rcases Nat.lt_or_ge j m with q | q
        · exact ⟨j, q, rfl⟩
        · have hjm : j = m := by omega
          subst hjm
          simp only [Lib.keeps, decide_eq_true_eq] at hk
          refine ⟨j - 1, by omega, ?_⟩
          exact Classical.byContradiction fun h => hk (.inr h)
theorem compact_law (l : List Int) (hs : l.Pairwise (· ≤ ·)) : (Lib.compact l).Pairwise (· < ·) ∧ ∀ x, x ∈ Lib.compact l ↔ x ∈ l := by
  have hget : ∀ j : Nat, ∀ h : j < l.length, l.toArray[j]! = l[j] := fun j h => by rw [getElem!_pos l.toArray j (by simpa using h)]; simp
  obtain ⟨h1, h2⟩ := compact_go l.toArray (fun i j hij hj => by
    have hj' : j < l.length := by simpa using hj
    rw [hget i (by omega), hget j hj']
    rcases Nat.eq_or_lt_of_le hij with rfl | q
    · exact Int.le_refl _
    · exact (List.pairwise_iff_getElem.1 hs) i j (by omega) hj' q) l.length (by simp)
  refine ⟨h1, fun x => ?_⟩
  unfold Lib.compact
  rw [h2 x, List.mem_iff_getElem]
  constructor
  · rintro ⟨j, hj, rfl⟩; exact ⟨j, hj, (hget j hj).symm⟩
  · rintro ⟨j, hj, rfl⟩; exact ⟨j, hj, (hget j hj).symm⟩
def needsL (m : ByteArray) (l : List S46) : List Int := Lib.compact ((needL m l).mergeSort fun x y => decide (x ≤ y))
theorem needsL_law (m : ByteArray) (l : List S46) : (needsL m l).Pairwise (· < ·) ∧ ∀ x, x ∈ needsL m l ↔ ∃ f, f ∈ l ∧ f.f0 = x ∧ 0 ≤ x ∧ getM m x = false := by
  have hs : ((needL m l).mergeSort fun x y => decide (x ≤ y)).Pairwise (· ≤ ·) := by
    have := List.pairwise_mergeSort (le := fun x y : Int => decide (x ≤ y)) (by intro a b c; simp; omega) (by intro a b; simp; omega) (needL m l)
    exact this.imp (fun h => by simpa using h)
  obtain ⟨h1, h2⟩ := compact_law _ hs
  refine ⟨h1, fun x => ?_⟩
  unfold needsL
  rw [h2 x, List.mem_mergeSort]
  unfold needL
  simp only [List.mem_map, List.mem_filter, Bool.and_eq_true, decide_eq_true_eq, Bool.not_eq_true']
  constructor
  · rintro ⟨f, ⟨hf, h3, h4⟩, rfl⟩; exact ⟨f, hf, rfl, h3, h4⟩
  · rintro ⟨f, hf, rfl, h3, h4⟩; exact ⟨f, ⟨hf, h3, h4⟩, rfl⟩
theorem needsL_len (m : ByteArray) (l : List S46) : (needsL m l).length ≤ l.length := by
  have h1 := compact_le ((needL m l).mergeSort fun x y => decide (x ≤ y))
  have h2 := needL_len m l
  rw [List.length_mergeSort] at h1
  exact Nat.le_trans h1 h2
theorem setL_get : ∀ (ks : List Int) (b : List Int) (c : Int) (i : Nat), (setL b ks c).getD i 0 = if (i : Int) ∈ ks ∧ i < b.length then c else b.getD i 0
  | [], b, c, i => by simp [setL]
  | k :: ks, b, c, i => by
    have ih := setL_get ks (if 0 ≤ k ∧ k < (b.length : Int) then b.set k.toNat c else b) c i
    have e : setL b (k :: ks) c = setL (if 0 ≤ k ∧ k < (b.length : Int) then b.set k.toNat c else b) ks c := rfl
    rw [e, ih]
    have hl : (if 0 ≤ k ∧ k < (b.length : Int) then b.set k.toNat c else b).length = b.length := by split <;> simp
    rw [hl]
    by_cases h1 : (i : Int) ∈ ks ∧ i < b.length
    · rw [if_pos h1, if_pos ⟨by simp [h1.1], h1.2⟩]
    · rw [if_neg h1]
      by_cases h2 : k = (i : Int)
      · by_cases h3 : i < b.length
        · rw [if_pos (show 0 ≤ k ∧ k < (b.length : Int) from ⟨by omega, by omega⟩), if_pos (show (i : Int) ∈ k :: ks ∧ i < b.length from ⟨by simp [h2], h3⟩), List.getD_eq_getElem?_getD, List.getElem?_set, if_pos (by omega), if_pos (by omega)]; rfl
        · rw [if_neg (show ¬ (0 ≤ k ∧ k < (b.length : Int)) from fun q => h3 (by omega)), if_neg (show ¬ ((i : Int) ∈ k :: ks ∧ i < b.length) from fun q => h3 q.2)]
      · have h4 : ¬ ((i : Int) ∈ k :: ks ∧ i < b.length) := by
          rintro ⟨q, r⟩
          rcases List.mem_cons.1 q with q | q
          · exact h2 q.symm
          · exact h1 ⟨q, r⟩
        rw [if_neg h4]
        split
        · rw [List.getD_eq_getElem?_getD, List.getElem?_set, if_neg (by omega), List.getD_eq_getElem?_getD]
        · rfl
def setM (m : ByteArray) (ks : List Int) (is : Bool) : ByteArray := strOfNums (setL (bytesOf m) ks (if is then 1 else 0))
theorem setM_size (m : ByteArray) (ks : List Int) (is : Bool) : (setM m ks is).size = m.size := by unfold setM; rw [strOfNums_size, setL_len, bytesOf_length]
theorem bytes_rng (s : ByteArray) : ∀ x ∈ bytesOf s, 0 ≤ x ∧ x ≤ 255 := fun x hx => by
  unfold bytesOf at hx
  obtain ⟨b, _, rfl⟩ := List.mem_map.1 hx
  have := UInt8.toNat_lt b
  omega
theorem bt_getD (s : ByteArray) (j : Nat) : bt s (j : Int) = (bytesOf s).getD j 0 := by rw [← rd_bytesOf]; rfl
theorem setL_rng (ks : List Int) (c : Int) (hc : 0 ≤ c ∧ c ≤ 255) : ∀ (b : List Int), (∀ x ∈ b, 0 ≤ x ∧ x ≤ 255) → ∀ x ∈ setL b ks c, 0 ≤ x ∧ x ≤ 255 := by
  unfold setL
  induction ks with
  | nil => intro b h; exact h
  | cons k ks ih =>
    intro b h
    rw [List.foldl_cons]
    refine ih _ (fun x hx => ?_)
    split at hx
    · rcases List.mem_or_eq_of_mem_set hx with hx | rfl
      · exact h x hx
      · exact hc
    · exact h x hx
theorem getM_set (m : ByteArray) (ks : List Int) (is : Bool) (x : Int) : getM (setM m ks is) x = if x ∈ ks ∧ 0 ≤ x ∧ x < (m.size : Int) then is else getM m x := by
  unfold getM
  rw [setM_size]
  by_cases h : 0 ≤ x ∧ x < (m.size : Int)
  · obtain ⟨i, rfl⟩ : ∃ i : Nat, x = (i : Int) := ⟨x.toNat, by omega⟩
    rw [decide_eq_true h, Bool.true_and, Bool.true_and, bt_getD, bt_getD]
    unfold setM
    rw [bytes_str _ (setL_rng ks _ (by cases is <;> simp) _ (bytes_rng m)), setL_get, bytesOf_length]
    by_cases h2 : (i : Int) ∈ ks
    · rw [if_pos (show (i : Int) ∈ ks ∧ i < m.size from ⟨h2, by omega⟩), if_pos (show (i : Int) ∈ ks ∧ 0 ≤ (i : Int) ∧ (i : Int) < (m.size : Int) from ⟨h2, h⟩)]
      cases is <;> simp
    · rw [if_neg (show ¬ ((i : Int) ∈ ks ∧ i < m.size) from fun q => h2 q.1), if_neg (show ¬ ((i : Int) ∈ ks ∧ 0 ≤ (i : Int) ∧ (i : Int) < (m.size : Int)) from fun q => h2 q.1)]
  · rw [decide_eq_false h, if_neg (fun q => h q.2)]
    simp
end Go.Proofs.Ytpaapnkpijincaa.P
