import Derived.Test.YtpaapnkpijincaaA2
import Derived.Test.YtpaapnkpijincaaQ5
namespace Go.Proofs.Ytpaapnkpijincaa.P
open Go.RowKit Go.Proofs.YtpaapnkpijincaaW.PrintWords Go.Proofs.YtpaapnkpijincaaW.PrintLast Go.Proofs.YtpaapnkpijincaaW.PrintMore Go.Proofs.YtpaapnkpijincaaW.HB
set_option linter.unusedVariables false
set_option linter.unusedSimpArgs false

/-! what rows hold -/
def Sep : Int → List RP → Prop
  | _, [] => True
  | a, x :: xs => a < x.f0 ∧ x.f0 < x.f1 ∧ Sep x.f1 xs
def lastOf : Int → List RP → Int
  | a, [] => a
  | _, x :: xs => lastOf x.f1 xs
def tot : List RP → Int
  | [] => 0
  | x :: xs => x.f1 - x.f0 + tot xs
theorem sep_app : ∀ (xs ys : List RP) (a : Int), Sep a (xs ++ ys) ↔ Sep a xs ∧ Sep (lastOf a xs) ys
  | [], ys, a => by simp [Sep, lastOf]
  | x :: xs, ys, a => by simp [Sep, lastOf, sep_app xs ys, and_assoc]
theorem last_app : ∀ (xs ys : List RP) (a : Int), lastOf a (xs ++ ys) = lastOf (lastOf a xs) ys
  | [], ys, a => by simp [lastOf]
  | x :: xs, ys, a => by simp [lastOf, last_app xs ys]
theorem tot_app : ∀ (xs ys : List RP), tot (xs ++ ys) = tot xs + tot ys
  | [], ys => by simp [tot]
  | x :: xs, ys => by simp [tot, tot_app xs ys, Int.add_assoc]
theorem sep_tot : ∀ (xs : List RP) (a : Int), Sep a xs → 0 ≤ tot xs ∧ tot xs ≤ lastOf a xs - a
  | [], a, _ => by simp [tot, lastOf]
  | x :: xs, a, h => by
    obtain ⟨h1, h2, h3⟩ := h
    have := sep_tot xs x.f1 h3
    simp only [tot, lastOf]
    omega
theorem rowStep_nil (k : Int) : rowStep [] k = [⟨k, k + 1⟩] := by simp [rowStep]
theorem rowStep_snoc (init : List RP) (x : RP) (k : Int) : rowStep (init ++ [x]) k = if x.f1 = k then init ++ [⟨x.f0, x.f1 + 1⟩] else init ++ [x] ++ [⟨k, k + 1⟩] := by
  have e : (((init ++ [x]).length : Int) - 1) = (init.length : Int) := by simp
  have g : rd_P (init ++ [x]) (init.length : Int) = x := by rw [rd_at_P _ _ (by simp)]; simp
  unfold rowStep
  rw [e, g]
  by_cases h : x.f1 = k
  · rw [if_pos ⟨by simp, h⟩, if_pos h]
    simp
  · rw [if_neg (fun q => h q.2), if_neg h]
theorem rows_law (m : ByteArray) : ∀ n : Nat, Sep (-1) (rowsOf (plc m n)) ∧ lastOf (-1) (rowsOf (plc m n)) ≤ (n : Int) ∧ tot (rowsOf (plc m n)) = ((plc m n).length : Int)
  | 0 => by simp [plc, rowsOf, Sep, lastOf, tot]
  | n + 1 => by
    obtain ⟨h1, h2, h3⟩ := rows_law m n
    rw [plc_succ]
    by_cases hb : bt m (n : Int) = 1
    · rw [if_pos hb, rowsOf_snoc]
      generalize rowsOf (plc m n) = out at *
      rcases List.eq_nil_or_concat out with rfl | ⟨init, x, rfl⟩
      · rw [rowStep_nil]
        simp only [Sep, lastOf, tot, List.length_append, List.length_cons, List.length_nil] at h3 ⊢
        refine ⟨⟨by omega, by omega, trivial⟩, by omega, by omega⟩
      · rw [List.concat_eq_append] at *
        rw [sep_app] at h1
        rw [last_app] at h2
        rw [tot_app] at h3
        simp only [Sep, lastOf, tot] at h1 h2 h3
        obtain ⟨g1, g2, g3, _⟩ := h1
        rw [rowStep_snoc]
        by_cases hk : x.f1 = (n : Int)
        · rw [if_pos hk, sep_app, last_app, tot_app]
          simp only [Sep, lastOf, tot, List.length_append, List.length_cons, List.length_nil]
          refine ⟨⟨g1, by omega, by omega, trivial⟩, by omega, by omega⟩
        · rw [if_neg hk, sep_app, sep_app, last_app, last_app, tot_app, tot_app]
          simp only [Sep, lastOf, tot, List.length_append, List.length_cons, List.length_nil]
          refine ⟨⟨⟨g1, g2, g3, trivial⟩, by omega, by omega, trivial⟩, by omega, by omega⟩
    · rw [if_neg hb, List.append_nil]
      exact ⟨h1, by omega, h3⟩
theorem rows_some (m : ByteArray) (hm : m.size ≤ 4096) : objmap_Rows.f m = some (rowsOf (plc m m.size)) := by unfold objmap_Rows.f; rw [if_pos hm]
theorem rows_len (m : ByteArray) (n : Nat) (hn : n ≤ 4096) : (rowsOf (plc m n)).length ≤ 4096 := by
  have h1 := rowsOf_ok (plc m n) (fun k hk => by have := plc_mem.1 hk; omega)
  have h2 := plc_len m n
  omega
theorem sizes_go (m : ByteArray) (hm : m.size ≤ 4096) (rows : List RP) (hr : rows = rowsOf (plc m m.size)) : ∀ (rest pre : List RP) (k : Nat), rows = pre ++ rest → rest.length < k → reeflaw29_ObjmapSizes.l0 k m (tot pre) (lastOf (-1) pre) rows (pre.length : Int) = some true
  | [], pre, k, h, hk => by
    obtain ⟨k, rfl⟩ : ∃ q, k = q + 1 := ⟨k - 1, by omega⟩
    have haw : reeflaw29_awake.f = some true := rfl
    have hc : objmap_Count.f m = some ((plc m m.size).length : Int) := by unfold objmap_Count.f; rw [if_pos hm]
    obtain ⟨_, _, h3⟩ := rows_law m m.size
    rw [List.append_nil] at h
    subst h
    rw [reeflaw29_ObjmapSizes.l0, if_neg (by omega), hc, Option.bind_some, hr, if_pos h3, haw]
    rfl
  | x :: rest, pre, k, h, hk => by
    obtain ⟨k, rfl⟩ : ∃ q, k = q + 1 := ⟨k - 1, by omega⟩
    obtain ⟨h1, h2, h3⟩ := rows_law m m.size
    rw [← hr] at h1 h2 h3
    have hl : rows.length ≤ 4096 := by rw [hr]; exact rows_len m m.size hm
    have hsp : Sep (-1) (pre ++ ([x] ++ rest)) := by rw [← List.singleton_append] at h; rw [← h]; exact h1
    have hll : lastOf (-1) (pre ++ ([x] ++ rest)) ≤ (m.size : Int) := by rw [← List.singleton_append] at h; rw [← h]; exact h2
    rw [sep_app] at hsp
    rw [last_app] at hll
    obtain ⟨s1, s2⟩ := hsp
    have t1 := sep_tot _ _ s1
    have t2 := sep_tot _ _ s2
    have e1 : Sep (lastOf (-1) pre) ([x] ++ rest) := s2
    obtain ⟨q1, q2, q3⟩ := e1
    have t3 := sep_tot rest x.f1 q3
    have hll2 : lastOf x.f1 rest ≤ (m.size : Int) := hll
    have hx : rd_P rows (pre.length : Int) = x := by rw [rd_at_P _ _ (by rw [h]; simp)]; simp [h]
    have hlen : pre.length < rows.length := by rw [h]; simp
    have EI := Aside0.mk (show wrap64 ((pre.length : Int) + 1) = ((pre ++ [x]).length : Int) from by rw [wrS _ (by omega)]; simp)
    have ET := Aside0.mk (show wrap64 (wrap64 (tot pre + x.f1) - x.f0) = tot (pre ++ [x]) from by rw [wrS (tot pre + x.f1) (by omega), wrS _ (by omega), tot_app]; simp only [tot]; omega)
    have EL : x.f1 = lastOf (-1) (pre ++ [x]) := by rw [last_app]; rfl
    have ih := sizes_go m hm rows hr rest (pre ++ [x]) k (by rw [h]; simp) (by simp at hk; omega)
    rw [reeflaw29_ObjmapSizes.l0, if_pos (by omega), if_pos (by omega), hx, if_neg (by omega), if_neg (by omega), EI.out, ET.out]
    rw [EL]
    exact ih
theorem sizeL_get (b : List Int) (N i : Nat) : (sizeL b N).getD i 0 = if i < N then b.getD i 0 else 0 := by
  unfold sizeL
  rw [List.getD_eq_getElem?_getD, List.getElem?_append, List.length_take, List.getElem?_take, List.getElem?_replicate]
  by_cases h : i < N
  · rw [if_pos h]
    by_cases h2 : i < b.length
    · rw [if_pos (by omega), if_pos h, List.getD_eq_getElem?_getD]
    · rw [if_neg (by omega), List.getD_eq_getElem?_getD, List.getElem?_eq_none (by omega)]
      split <;> rfl
  · rw [if_neg (show ¬ i < min N b.length by omega), if_neg (show ¬ i - min N b.length < N - b.length by omega), if_neg h]
    rfl
theorem sizeL_len (b : List Int) (N : Nat) : (sizeL b N).length = N := by unfold sizeL; rw [List.length_append, List.length_take, List.length_replicate]; omega
theorem sizeL_rng (b : List Int) (N : Nat) (h : ∀ x ∈ b, 0 ≤ x ∧ x ≤ 255) : ∀ x ∈ sizeL b N, 0 ≤ x ∧ x ≤ 255 := fun x hx => by
  unfold sizeL at hx
  rcases List.mem_append.1 hx with hx | hx
  · exact h x (List.mem_of_mem_take hx)
  · have := (List.mem_replicate.1 hx).2
    omega
def sizeM (m : ByteArray) (N : Nat) : ByteArray := strOfNums (sizeL (bytesOf m) N)
theorem sizeM_size (m : ByteArray) (N : Nat) : (sizeM m N).size = N := by unfold sizeM; rw [strOfNums_size, sizeL_len]
theorem getM_size (m : ByteArray) (N : Nat) (x : Int) : getM (sizeM m N) x = (getM m x && decide (x < (N : Int))) := by
  unfold getM
  rw [sizeM_size]
  by_cases h : 0 ≤ x
  · obtain ⟨i, rfl⟩ : ∃ i : Nat, x = (i : Int) := ⟨x.toNat, by omega⟩
    rw [bt_getD, bt_getD]
    unfold sizeM
    rw [bytes_str _ (sizeL_rng _ _ (bytes_rng m)), sizeL_get]
    by_cases h2 : i < N
    · rw [if_pos h2, decide_eq_true (show 0 ≤ (i : Int) ∧ (i : Int) < (N : Int) from ⟨h, by omega⟩), decide_eq_true (show (i : Int) < (N : Int) by omega), Bool.true_and, Bool.and_true]
      by_cases h3 : i < m.size
      · rw [decide_eq_true (show 0 ≤ (i : Int) ∧ (i : Int) < (m.size : Int) from ⟨h, by omega⟩), Bool.true_and]
      · rw [decide_eq_false (show ¬ (0 ≤ (i : Int) ∧ (i : Int) < (m.size : Int)) by omega), List.getD_eq_getElem?_getD, List.getElem?_eq_none (by rw [bytesOf_length]; omega)]
        rfl
    · rw [decide_eq_false (show ¬ (0 ≤ (i : Int) ∧ (i : Int) < (N : Int)) by omega), decide_eq_false (show ¬ (i : Int) < (N : Int) by omega)]
      simp
  · rw [decide_eq_false (show ¬ (0 ≤ x ∧ x < (N : Int)) by omega), decide_eq_false (show ¬ (0 ≤ x ∧ x < (m.size : Int)) by omega)]
    rfl
theorem size_some (m : ByteArray) (n : Int) (hm : m.size ≤ 4096) : objmap_Size.f m n = some (sizeM m (mn (mx n 0) 4096).toNat) := by unfold objmap_Size.f sizeM; rw [if_pos hm]
end Go.Proofs.Ytpaapnkpijincaa.P
