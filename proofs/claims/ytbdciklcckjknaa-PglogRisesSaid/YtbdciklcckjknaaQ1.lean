import Derived.Test.YtbdciklcckjknaaB3
import Derived.Test.YtbdciklcckjknaaPPglogAppend
namespace Go.Proofs.Ytbdciklcckjknaa.P
open Go.RowKit Go.Proofs.YtbdciklcckjknaaW.PrintWords Go.Proofs.YtbdciklcckjknaaW.PrintLast Go.Proofs.YtbdciklcckjknaaW.PrintMore Go.Proofs.YtbdciklcckjknaaW.HB
set_option linter.unusedVariables false
set_option linter.unusedSimpArgs false

/-! plain laws: an entry, an append -/
theorem wrap64_small (x : Int) (h1 : -9223372036854775808 ≤ x) (h2 : x ≤ 9223372036854775807) : wrap64 x = x := by unfold wrap64; omega
theorem name_l0 (s : ByteArray) (hs : s.size ≤ 24) : ∀ (d k : Nat) (i : Int), 0 ≤ i → (s.size : Int) - i ≤ d → d < k → ∃ b, object_Name.l0 k s s.size i = some b
  | d, 0, i, _, _, h => absurd h (by omega)
  | 0, k + 1, i, h0, h1, _ => by
    simp only [object_Name.l0]
    rw [if_neg (by omega)]
    exact ⟨_, rfl⟩
  | d + 1, k + 1, i, h0, h1, h2 => by
    simp only [object_Name.l0]
    by_cases hlt : i < (s.size : Int)
    · have hrec := name_l0 s hs d k (i + 1) (by omega) (by omega) (by omega)
      rw [if_pos hlt, if_pos h0, if_pos hlt, wrap64_small (i + 1) (by omega) (by omega)]
      repeat' split
      all_goals first | exact hrec | exact ⟨_, rfl⟩
    · rw [if_neg hlt]
      exact ⟨_, rfl⟩
theorem name_40 (s : ByteArray) : ∃ b, object_Name.f 40 s = some b := by
  unfold object_Name.f
  split
  · exact ⟨_, rfl⟩
  · by_cases h : (s.size : Int) > 24
    · rw [decide_eq_true h]; exact ⟨_, rfl⟩
    · rw [decide_eq_false h]
      simp only [object_Name.j0]
      exact name_l0 s (by omega) 38 39 0 (by omega) (by omega) (by omega)
theorem some_bind {α β : Type} {a : Option α} {f : α → Option β} (ha : ∃ x, a = some x) (hf : ∀ x, ∃ y, f x = some y) : ∃ y, a.bind f = some y := by
  obtain ⟨x, rfl⟩ := ha
  exact hf x
theorem some_ite {α : Type} {c : Prop} [Decidable c] {a b : Option α} (ha : c → ∃ y, a = some y) (hb : ¬ c → ∃ y, b = some y) : ∃ y, (if c then a else b) = some y := by
  by_cases h : c
  · rw [if_pos h]; exact ha h
  · rw [if_neg h]; exact hb h
theorem small_some (x : Int) : ∃ b, object_small.f x = some b := by unfold object_small.f; split <;> exact ⟨_, rfl⟩
theorem within_some (x y z : Int) : ∃ b, pglog_within.f x y z = some b := by unfold pglog_within.f; split <;> exact ⟨_, rfl⟩
theorem changes_some (x : Int) : ∃ b, object_Changes.f x = some b := by
  unfold object_Changes.f
  repeat' first
    | exact ⟨_, rfl⟩
    | refine some_ite (fun _ => ?_) (fun _ => ?_)
theorem op_40 (a : Int) (b : ByteArray) (c d : Int) (e : ByteArray) : ∃ r, object_Op.f 40 a b c d e = some r := by
  unfold object_Op.f
  refine some_bind (name_40 b) (fun t => ?_)
  simp only [object_Op.j0, object_Op.j1]
  repeat' first
    | exact ⟨_, rfl⟩
    | refine some_bind (small_some _) (fun t => ?_)
    | refine some_ite (fun _ => ?_) (fun _ => ?_)
theorem ent_40 (x : S34) : ∃ b, pglog_Entry.f 40 x.f0.f0 x.f0.f1 x.f1.f0 x.f1.f1 x.f1.f2 x.f1.f3.f0 x.f1.f3.f1 x.f1.f3.f2 x.f1.f3.f3 x.f1.f3.f4 x.f2.f0 x.f2.f1 x.f2.f2 x.f2.f3 = some b := by
  unfold pglog_Entry.f
  repeat' first
    | exact ⟨_, rfl⟩
    | refine some_bind (within_some _ _ _) (fun t => ?_)
    | refine some_bind (op_40 _ _ _ _ _) (fun t => ?_)
    | refine some_bind (changes_some _) (fun t => ?_)
    | refine some_ite (fun _ => ?_) (fun _ => ?_)
theorem entF_eq (x : S34) : entF x = some (entB x) := by
  obtain ⟨b, hb⟩ := ent_40 x
  unfold entB
  rw [show entF x = some b from hb]
  rfl
theorem entF_all (l : List S34) : l.all (fun x => (entF x).isSome) = true := by
  rw [List.all_eq_true]
  intro x _
  rw [entF_eq]; rfl
theorem within_true {x y z : Int} (h : pglog_within.f x y z = some true) : y ≤ x ∧ x ≤ z := by
  unfold pglog_within.f at h
  split at h
  · simp at h; omega
  · simp at h
theorem entB_nums {x : S34} (h : entB x = true) : 1 ≤ x.f0.f0 ∧ x.f0.f0 ≤ 1073741824 ∧ 1 ≤ x.f0.f1 ∧ x.f0.f1 ≤ 1099511627776 := by
  have h1 : pglog_Entry.f 40 x.f0.f0 x.f0.f1 x.f1.f0 x.f1.f1 x.f1.f2 x.f1.f3.f0 x.f1.f3.f1 x.f1.f3.f2 x.f1.f3.f3 x.f1.f3.f4 x.f2.f0 x.f2.f1 x.f2.f2 x.f2.f3 = some true := by rw [← h]; exact entF_eq x
  unfold pglog_Entry.f at h1
  obtain ⟨b0, e0⟩ := within_some x.f0.f0 1 1073741824
  obtain ⟨b1, e1⟩ := within_some x.f0.f1 1 1099511627776
  rw [e0, Option.bind_some] at h1
  cases b0 with
  | false => simp at h1
  | true =>
    rw [if_pos rfl, e1, Option.bind_some] at h1
    cases b1 with
    | false => simp at h1
    | true => have := within_true e0; have := within_true e1; omega
def cutL (l : List S34) : List S34 := if l.length > 8 then l.drop 1 else l
def appB (l : List S34) (e v : Int) (x : S34) : List S34 × Int × Int × Bool :=
  if entB x = true ∧ x.f0.f1 = wrap64 (v + 1) ∧ ¬ x.f0.f0 < e then (cutL (l ++ [x]), x.f0.f0, x.f0.f1, true) else (l, e, v, false)
theorem app_eq (l : List S34) (e v : Int) (x : S34) (hl : l.length ≤ 100000000) : pglog_Append.f 40 l e v x.f0.f0 x.f0.f1 x.f1.f0 x.f1.f1 x.f1.f2 x.f1.f3.f0 x.f1.f3.f1 x.f1.f3.f2 x.f1.f3.f3 x.f1.f3.f4 x.f2.f0 x.f2.f1 x.f2.f2 x.f2.f3 = some (appB l e v x) := by
  unfold pglog_Append.f slices_Clone_N.f appB
  rw [if_pos (by omega), Option.bind_some, show pglog_Entry.f 40 x.f0.f0 x.f0.f1 x.f1.f0 x.f1.f1 x.f1.f2 x.f1.f3.f0 x.f1.f3.f1 x.f1.f3.f2 x.f1.f3.f3 x.f1.f3.f4 x.f2.f0 x.f2.f1 x.f2.f2 x.f2.f3 = some (entB x) from entF_eq x, Option.bind_some]
  have hj1 : ∀ l' : List S34, pglog_Append.j0 40 l' true e v x.f0.f0 x.f0.f1 x.f1.f0 x.f1.f1 x.f1.f2 x.f1.f3.f0 x.f1.f3.f1 x.f1.f3.f2 x.f1.f3.f3 x.f1.f3.f4 x.f2.f0 x.f2.f1 x.f2.f2 x.f2.f3 = some (l', e, v, false) := fun l' => by simp only [pglog_Append.j0]; rfl
  cases hb : entB x with
  | false =>
    rw [if_neg (by decide), if_neg (by simp)]
    exact hj1 l
  | true =>
    rw [if_pos rfl]
    by_cases hv : x.f0.f1 = wrap64 (v + 1)
    · rw [if_pos hv]
      by_cases he : x.f0.f0 < e
      · rw [decide_eq_true he, if_neg (fun h => h.2.2 he)]
        exact hj1 l
      · rw [decide_eq_false he, if_pos ⟨rfl, hv, he⟩]
        simp only [pglog_Append.j0]
        rw [if_neg (by decide), if_pos (by omega), Option.bind_some]
        unfold cutL
        have hlen : (l ++ [x]).length = l.length + 1 := by simp
        by_cases h8 : (l ++ [x]).length > 8
        · rw [if_pos h8, if_pos (by show ((l ++ [x]).length : Int) > 8; omega), if_pos (by show 1 ≤ ((l ++ [x]).length : Int); omega)]
          rfl
        · rw [if_neg h8, if_neg (by show ¬ ((l ++ [x]).length : Int) > 8; omega)]
    · rw [if_neg hv, if_neg (fun h => hv h.2.1)]
      exact hj1 l
end Go.Proofs.Ytbdciklcckjknaa.P
