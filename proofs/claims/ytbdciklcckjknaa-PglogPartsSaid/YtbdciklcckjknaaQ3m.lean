import Derived.Test.YtbdciklcckjknaaB3
import Derived.Test.YtbdciklcckjknaaPPglogAppend
import Derived.Test.YtbdciklcckjknaaPPglogLater
import Derived.Test.YtbdciklcckjknaaG2
import Derived.Test.YtbdciklcckjknaaHK2
import Derived.Test.YtbdciklcckjknaaB4
import Derived.Test.YtbdciklcckjknaaPReefref21Same
namespace Go.Proofs.Ytbdciklcckjknaa.P
open Go.RowKit Go.Proofs.YtbdciklcckjknaaW.PrintWords Go.Proofs.YtbdciklcckjknaaW.PrintLast Go.Proofs.YtbdciklcckjknaaW.PrintMore Go.Proofs.YtbdciklcckjknaaW.HB
set_option linter.unusedVariables false
set_option linter.unusedSimpArgs false

/-! plain laws: an entry, an append -/
theorem wrap64_small (x : Int) (h1 : -9223372036854775808 ≤ x) (h2 : x ≤ 9223372036854775807) : wrap64 x = x := by unfold wrap64; omega
theorem name_l0 (s : ByteArray) (hs : s.size ≤ 24) : ∀ (d k : Nat) (i : Int), 0 ≤ i → (s.size : Int) - i ≤ d → d < k → ∃ b, object_Name.l0 k s s.size i = some b
  | d, 0, i, _, _, h => absurd h (by omega)
  | 0, k + 1, i, h0, h1, _ => by
    simp only [object_Name.l0]
    rw [if_neg (by omega)]
    exact ⟨_, rfl⟩
  | d + 1, k + 1, i, h0, h1, h2 => by
    simp only [object_Name.l0]
    by_cases hlt : i < (s.size : Int)
    · have hrec := name_l0 s hs d k (i + 1) (by omega) (by omega) (by omega)
      rw [if_pos hlt, if_pos h0, if_pos hlt, wrap64_small (i + 1) (by omega) (by omega)]
      repeat' split
      all_goals first | exact hrec | exact ⟨_, rfl⟩
    · rw [if_neg hlt]
      exact ⟨_, rfl⟩
theorem name_40 (s : ByteArray) : ∃ b, object_Name.f 40 s = some b := by
  unfold object_Name.f
  split
  · exact ⟨_, rfl⟩
  · by_cases h : (s.size : Int) > 24
    · rw [decide_eq_true h]; exact ⟨_, rfl⟩
    · rw [decide_eq_false h]
      simp only [object_Name.j0]
      exact name_l0 s (by omega) 38 39 0 (by omega) (by omega) (by omega)
theorem some_bind {α β : Type} {a : Option α} {f : α → Option β} (ha : ∃ x, a = some x) (hf : ∀ x, ∃ y, f x = some y) : ∃ y, a.bind f = some y := by
  obtain ⟨x, rfl⟩ := ha
  exact hf x
theorem some_ite {α : Type} {c : Prop} [Decidable c] {a b : Option α} (ha : c → ∃ y, a = some y) (hb : ¬ c → ∃ y, b = some y) : ∃ y, (if c then a else b) = some y := by
  by_cases h : c
  · rw [if_pos h]; exact ha h
  · rw [if_neg h]; exact hb h
theorem small_some (x : Int) : ∃ b, object_small.f x = some b := by unfold object_small.f; split <;> exact ⟨_, rfl⟩
theorem within_some (x y z : Int) : ∃ b, pglog_within.f x y z = some b := by unfold pglog_within.f; split <;> exact ⟨_, rfl⟩
theorem changes_some (x : Int) : ∃ b, object_Changes.f x = some b := by
  unfold object_Changes.f
  repeat' first
    | exact ⟨_, rfl⟩
    | refine some_ite (fun _ => ?_) (fun _ => ?_)
theorem op_40 (a : Int) (b : ByteArray) (c d : Int) (e : ByteArray) : ∃ r, object_Op.f 40 a b c d e = some r := by
  unfold object_Op.f
  refine some_bind (name_40 b) (fun t => ?_)
  simp only [object_Op.j0, object_Op.j1]
  repeat' first
    | exact ⟨_, rfl⟩
    | refine some_bind (small_some _) (fun t => ?_)
    | refine some_ite (fun _ => ?_) (fun _ => ?_)
theorem ent_40 (x : S34) : ∃ b, pglog_Entry.f 40 x.f0.f0 x.f0.f1 x.f1.f0 x.f1.f1 x.f1.f2 x.f1.f3.f0 x.f1.f3.f1 x.f1.f3.f2 x.f1.f3.f3 x.f1.f3.f4 x.f2.f0 x.f2.f1 x.f2.f2 x.f2.f3 = some b := by
  unfold pglog_Entry.f
  repeat' first
    | exact ⟨_, rfl⟩
    | refine some_bind (within_some _ _ _) (fun t => ?_)
    | refine some_bind (op_40 _ _ _ _ _) (fun t => ?_)
    | refine some_bind (changes_some _) (fun t => ?_)
    | refine some_ite (fun _ => ?_) (fun _ => ?_)
theorem entF_eq (x : S34) : entF x = some (entB x) := by
  obtain ⟨b, hb⟩ := ent_40 x
  unfold entB
  rw [show entF x = some b from hb]
  rfl
theorem entF_all (l : List S34) : l.all (fun x => (entF x).isSome) = true := by
  rw [List.all_eq_true]
  intro x _
  rw [entF_eq]; rfl
theorem within_true {x y z : Int} (h : pglog_within.f x y z = some true) : y ≤ x ∧ x ≤ z := by
  unfold pglog_within.f at h
  split at h
  · simp at h; omega
  · simp at h
theorem entB_nums {x : S34} (h : entB x = true) : 1 ≤ x.f0.f0 ∧ x.f0.f0 ≤ 1073741824 ∧ 1 ≤ x.f0.f1 ∧ x.f0.f1 ≤ 1099511627776 := by
  have h1 : pglog_Entry.f 40 x.f0.f0 x.f0.f1 x.f1.f0 x.f1.f1 x.f1.f2 x.f1.f3.f0 x.f1.f3.f1 x.f1.f3.f2 x.f1.f3.f3 x.f1.f3.f4 x.f2.f0 x.f2.f1 x.f2.f2 x.f2.f3 = some true := by rw [← h]; exact entF_eq x
  unfold pglog_Entry.f at h1
  obtain ⟨b0, e0⟩ := within_some x.f0.f0 1 1073741824
  obtain ⟨b1, e1⟩ := within_some x.f0.f1 1 1099511627776
  rw [e0, Option.bind_some] at h1
  cases b0 with
  | false => simp at h1
  | true =>
    rw [if_pos rfl, e1, Option.bind_some] at h1
    cases b1 with
    | false => simp at h1
    | true => have := within_true e0; have := within_true e1; omega
def cutL (l : List S34) : List S34 := if l.length > 8 then l.drop 1 else l
def appB (l : List S34) (e v : Int) (x : S34) : List S34 × Int × Int × Bool :=
  if entB x = true ∧ x.f0.f1 = wrap64 (v + 1) ∧ ¬ x.f0.f0 < e then (cutL (l ++ [x]), x.f0.f0, x.f0.f1, true) else (l, e, v, false)
theorem app_eq (l : List S34) (e v : Int) (x : S34) (hl : l.length ≤ 100000000) : pglog_Append.f 40 l e v x.f0.f0 x.f0.f1 x.f1.f0 x.f1.f1 x.f1.f2 x.f1.f3.f0 x.f1.f3.f1 x.f1.f3.f2 x.f1.f3.f3 x.f1.f3.f4 x.f2.f0 x.f2.f1 x.f2.f2 x.f2.f3 = some (appB l e v x) := by
  unfold pglog_Append.f slices_Clone_N.f appB
  rw [if_pos (by omega), Option.bind_some, show pglog_Entry.f 40 x.f0.f0 x.f0.f1 x.f1.f0 x.f1.f1 x.f1.f2 x.f1.f3.f0 x.f1.f3.f1 x.f1.f3.f2 x.f1.f3.f3 x.f1.f3.f4 x.f2.f0 x.f2.f1 x.f2.f2 x.f2.f3 = some (entB x) from entF_eq x, Option.bind_some]
  have hj1 : ∀ l' : List S34, pglog_Append.j0 40 l' true e v x.f0.f0 x.f0.f1 x.f1.f0 x.f1.f1 x.f1.f2 x.f1.f3.f0 x.f1.f3.f1 x.f1.f3.f2 x.f1.f3.f3 x.f1.f3.f4 x.f2.f0 x.f2.f1 x.f2.f2 x.f2.f3 = some (l', e, v, false) := fun l' => by simp only [pglog_Append.j0]; rfl
  cases hb : entB x with
  | false =>
    rw [if_neg (by decide), if_neg (by simp)]
    exact hj1 l
  | true =>
    rw [if_pos rfl]
    by_cases hv : x.f0.f1 = wrap64 (v + 1)
    · rw [if_pos hv]
      by_cases he : x.f0.f0 < e
      · rw [decide_eq_true he, if_neg (fun h => h.2.2 he)]
        exact hj1 l
      · rw [decide_eq_false he, if_pos ⟨rfl, hv, he⟩]
        simp only [pglog_Append.j0]
        rw [if_neg (by decide), if_pos (by omega), Option.bind_some]
        unfold cutL
        have hlen : (l ++ [x]).length = l.length + 1 := by simp
        by_cases h8 : (l ++ [x]).length > 8
        · rw [if_pos h8, if_pos (by show ((l ++ [x]).length : Int) > 8; omega), if_pos (by show 1 ≤ ((l ++ [x]).length : Int); omega)]
          rfl
        · rw [if_neg h8, if_neg (by show ¬ ((l ++ [x]).length : Int) > 8; omega)]
    · rw [if_neg hv, if_neg (fun h => hv h.2.1)]
      exact hj1 l
end Go.Proofs.Ytbdciklcckjknaa.P
namespace Go.Proofs.Ytbdciklcckjknaa.P
open Go.RowKit Go.Proofs.YtbdciklcckjknaaW.PrintWords Go.Proofs.YtbdciklcckjknaaW.PrintLast Go.Proofs.YtbdciklcckjknaaW.PrintMore Go.Proofs.YtbdciklcckjknaaW.HB
set_option linter.unusedVariables false
set_option linter.unusedSimpArgs false

/-! plain laws: a log that grows -/
theorem rd_left (l : List S34) (x : S34) (i : Nat) (h : i < l.length) : rd_T34 (l ++ [x]) i = rd_T34 l i := by
  rw [rd_at_N _ i (by simp; omega), rd_at_N _ i h, List.getElem_append_left h]
theorem rd_last (l : List S34) (x : S34) : rd_T34 (l ++ [x]) (l.length : Int) = x := by
  rw [rd_at_N _ l.length (by simp)]; simp
theorem rd_drop (l : List S34) (i : Nat) (h : i + 1 < l.length) : rd_T34 (l.drop 1) i = rd_T34 l ((i : Int) + 1) := by
  rw [rd_at_N _ i (by simp; omega), show (i : Int) + 1 = ((i + 1 : Nat) : Int) from by omega, rd_at_N _ (i + 1) h, List.getElem_drop]
  congr 1; omega
theorem okTo_iff (l : List S34) (k : Nat) : okTo l k = true ↔ ∀ i, i < k → okAt l i = true := by
  unfold okTo; rw [List.all_eq_true]; simp
theorem okAt_left (l : List S34) (x : S34) (i : Nat) (h : i < l.length) : okAt (l ++ [x]) i = okAt l i := by
  unfold okAt
  rw [rd_left l x i h]
  rcases Nat.eq_zero_or_pos i with rfl | hi
  · rfl
  · rw [show (i : Int) - 1 = ((i - 1 : Nat) : Int) from by omega, rd_left l x (i - 1) (by omega)]
theorem okTo_snoc (l : List S34) (x : S34) (h : okTo l l.length = true) (hx : entB x = true) (hg : 0 < l.length → gapOk x (rd_T34 l ((l.length : Int) - 1)) = true) : okTo (l ++ [x]) (l ++ [x]).length = true := by
  rw [okTo_iff] at *
  intro i hi
  rw [List.length_append, List.length_singleton] at hi
  rcases Nat.lt_succ_iff_lt_or_eq.1 hi with h1 | rfl
  · rw [okAt_left l x i h1]; exact h i h1
  · unfold okAt
    rw [rd_last, hx]
    rcases Nat.eq_zero_or_pos l.length with h0 | h0
    · rw [h0]; rfl
    · rw [show (l.length : Int) - 1 = ((l.length - 1 : Nat) : Int) from by omega, rd_left l x (l.length - 1) (by omega), show ((l.length - 1 : Nat) : Int) = (l.length : Int) - 1 from by omega, hg h0]
      simp
theorem okTo_drop (l : List S34) (h : okTo l l.length = true) : okTo (l.drop 1) (l.drop 1).length = true := by
  rw [okTo_iff] at *
  intro i hi
  rw [List.length_drop] at hi
  have h1 := h (i + 1) (by omega)
  unfold okAt at *
  rw [rd_drop l i (by omega), show (i : Int) + 1 = ((i + 1 : Nat) : Int) from by omega]
  simp only [Bool.and_eq_true, Bool.or_eq_true] at h1 ⊢
  refine ⟨h1.1, ?_⟩
  rcases Nat.eq_zero_or_pos i with rfl | hi0
  · exact .inl rfl
  · refine .inr ?_
    rw [show (i : Int) - 1 = ((i - 1 : Nat) : Int) from by omega, rd_drop l (i - 1) (by omega), show ((i - 1 : Nat) : Int) + 1 = ((i + 1 : Nat) : Int) - 1 from by omega]
    rcases h1.2 with h2 | h2
    · simp at h2
    · exact h2
/-- A log that n entries came into. -/
structure InvL (l : List S34) (e v : Int) (n : Nat) : Prop where
  len : l.length = min n 8
  ok : logB l e v = true
theorem InvL.nil : InvL [] 0 0 0 := ⟨rfl, rfl⟩
theorem logB_cons {l : List S34} {e v : Int} (h0 : 0 < l.length) : logB l e v = true ↔ okTo l l.length = true ∧ l.length ≤ 8 ∧ (rd_T34 l ((l.length : Int) - 1)).f0.f0 = e ∧ (rd_T34 l ((l.length : Int) - 1)).f0.f1 = v ∧ ((rd_T34 l 0).f0.f1 = 1 ∨ l.length = 8) := by
  unfold logB
  rw [if_neg (by omega)]
  simp only [Bool.and_eq_true, Bool.or_eq_true, decide_eq_true_eq, beq_iff_eq]
  constructor
  · rintro ⟨h1, h2, ⟨h3, h4⟩, h5⟩; exact ⟨h1, h2, h3, h4, h5⟩
  · rintro ⟨h1, h2, h3, h4, h5⟩; exact ⟨h1, h2, ⟨h3, h4⟩, h5⟩
theorem InvL.bounds {l : List S34} {e v : Int} {n : Nat} (h : InvL l e v n) : 0 ≤ v ∧ v ≤ 1099511627776 ∧ 0 ≤ e ∧ e ≤ 1073741824 := by
  rcases Nat.eq_zero_or_pos l.length with h0 | h0
  · have := h.ok
    unfold logB at this
    rw [if_pos h0] at this
    simp at this
    omega
  · obtain ⟨h1, _, h3, h4, _⟩ := (logB_cons h0).1 h.ok
    have h5 := (okTo_iff l l.length).1 h1 (l.length - 1) (by omega)
    unfold okAt at h5
    rw [Bool.and_eq_true, show ((l.length - 1 : Nat) : Int) = (l.length : Int) - 1 from by omega] at h5
    have := entB_nums h5.1
    omega
theorem InvL.step {l : List S34} {e v : Int} {n : Nat} (h : InvL l e v n) {x : S34} (hx : entB x = true) (hv : x.f0.f1 = wrap64 (v + 1)) (he : ¬ x.f0.f0 < e) :
    InvL (cutL (l ++ [x])) x.f0.f0 x.f0.f1 (n + 1) ∧ (cutL (l ++ [x])).length = min (n + 1) 8 ∧ rd_T34 (cutL (l ++ [x])) (((cutL (l ++ [x])).length : Int) - 1) = x ∧ 0 < (cutL (l ++ [x])).length ∧ pglog_Later.f x.f0.f0 x.f0.f1 e v = some true := by
  have hb := h.bounds
  have hw : wrap64 (v + 1) = v + 1 := wrap64_small _ (by omega) (by omega)
  have hlat : pglog_Later.f x.f0.f0 x.f0.f1 e v = some true := by
    unfold pglog_Later.f
    rw [hv, hw]
    by_cases h1 : x.f0.f0 > e
    · rw [if_pos h1]
    · rw [if_neg h1, if_pos (by omega), decide_eq_true (by omega)]
  have hsn : (l ++ [x]).length = l.length + 1 := by simp
  have hok : okTo l l.length = true := by
    rcases Nat.eq_zero_or_pos l.length with h0 | h0
    · rw [h0]; rfl
    · exact ((logB_cons h0).1 h.ok).1
  have hok2 : okTo (l ++ [x]) (l ++ [x]).length = true := okTo_snoc l x hok hx (fun h0 => by
    obtain ⟨_, _, h3, h4, _⟩ := (logB_cons h0).1 h.ok
    unfold gapOk
    rw [h3, h4, hv]
    simp; omega)
  have hl := h.len
  by_cases h8 : (l ++ [x]).length > 8
  · have hc : cutL (l ++ [x]) = (l ++ [x]).drop 1 := if_pos h8
    have hcl : (cutL (l ++ [x])).length = 8 := by rw [hc, List.length_drop]; omega
    have hlast : rd_T34 (cutL (l ++ [x])) (((cutL (l ++ [x])).length : Int) - 1) = x := by
      rw [hcl, hc, show (((8 : Nat) : Int) - 1) = ((7 : Nat) : Int) from rfl, rd_drop _ 7 (by omega), show ((7 : Nat) : Int) + 1 = (l.length : Int) from by omega, rd_last]
    refine ⟨⟨by rw [hcl]; omega, ?_⟩, by rw [hcl]; omega, hlast, by omega, hlat⟩
    rw [logB_cons (by omega)]
    refine ⟨?_, by omega, by rw [hlast], by rw [hlast], .inr hcl⟩
    rw [hc]; exact okTo_drop _ hok2
  · have hc : cutL (l ++ [x]) = l ++ [x] := if_neg h8
    rw [hc]
    have hlast : rd_T34 (l ++ [x]) (((l ++ [x]).length : Int) - 1) = x := by
      rw [hsn, show (((l.length + 1 : Nat) : Int) - 1) = (l.length : Int) from by omega, rd_last]
    refine ⟨⟨by rw [hsn]; omega, ?_⟩, by rw [hsn]; omega, hlast, by omega, hlat⟩
    rw [logB_cons (by omega)]
    refine ⟨hok2, by omega, by rw [hlast], by rw [hlast], .inl ?_⟩
    rcases Nat.eq_zero_or_pos l.length with h0 | h0
    · obtain rfl := List.eq_nil_of_length_eq_zero h0
      show x.f0.f1 = 1
      have hz := h.ok
      simp [logB] at hz
      omega
    · have h5 := ((logB_cons h0).1 h.ok).2.2.2.2
      have := rd_left l x 0 h0
      rw [show ((0 : Nat) : Int) = 0 from rfl] at this
      rw [this]
      rcases h5 with h5 | h5
      · exact h5
      · omega
end Go.Proofs.Ytbdciklcckjknaa.P
namespace Go.Proofs.Ytbdciklcckjknaa.P
open Go.RowKit Go.Proofs.YtbdciklcckjknaaW.PrintWords Go.Proofs.YtbdciklcckjknaaW.PrintLast Go.Proofs.YtbdciklcckjknaaW.PrintMore Go.Proofs.YtbdciklcckjknaaW.HB
set_option linter.unusedVariables false
set_option linter.unusedSimpArgs false

/-- Is an entry later than a stamp? -/
def lateB (e v : Int) (x : S34) : Bool := decide (x.f0.f0 > e ∨ x.f0.f0 = e ∧ x.f0.f1 > v)
theorem lateB_f (e v : Int) (x : S34) : pglog_Later.f x.f0.f0 x.f0.f1 e v = some (lateB e v x) := by
  unfold pglog_Later.f lateB
  by_cases h1 : x.f0.f0 > e
  · rw [if_pos h1, decide_eq_true (.inl h1)]
  · rw [if_neg h1]
    by_cases h2 : x.f0.f0 = e
    · rw [if_pos h2]
      congr 1
      rw [Bool.eq_iff_iff, decide_eq_true_iff, decide_eq_true_iff]
      omega
    · rw [if_neg h2, decide_eq_false (by omega)]
theorem pglog_Behind_1.calls (x : S34) (g : Nat) (e v : Int) (w : World) (hb : w.heap[g]? = some (.cells #[.int .i64 e, .int .i64 v] 24 (0, 0))) :
    Calls Try.prog 32 #[.agg #[.int .i64 x.f0.f0, .int .i64 x.f0.f1, .int .i64 x.f1.f0, .int .i64 x.f1.f1, .int .i64 x.f1.f2, .int .i64 x.f1.f3.f0, .string x.f1.f3.f1, .int .i64 x.f1.f3.f2, .int .i64 x.f1.f3.f3, .string x.f1.f3.f4, .int .i64 x.f2.f0, .int .i64 x.f2.f1, .int .i64 x.f2.f2, .string x.f2.f3], .pointer (some ⟨g, 0, none⟩)] w fun r w' => r = .returned (.bool (!lateB e v x)) ∧ Below w.heap.size w w' := by
  have hlt := (Array.getElem?_eq_some_iff.1 hb).1
  have hu := Try.underlying34
  have hu2 := Try.underlying24
  have h0 : w.cell? ⟨g, 0, none⟩ = some (.int .i64 e) := by simp [World.cell?, hb]
  have h1 : w.cell? ⟨g, 1, none⟩ = some (.int .i64 v) := by simp [World.cell?, hb]
  clear hb
  have HL := Aside0.mk (lateB_f e v x)
  generalize lateB e v x = r at *
  go_enter Try.func32, Try.ntmps32
  go_wp2_with (first | (go_at_call 7; refine (pglog_Later.calls _ _ _ _ r _ HL.out).mono ?_; rintro e' w1 ⟨rfl, hB⟩; have HB := Aside0.mk hB; clear hB))
  go_ret
  exact ⟨rfl, below_step (below_alloc (Below.refl _ _) _) HB.out⟩
theorem slices_DeleteFunc_N.empty (fid : Nat) (caps : Array Value) (A : Option Addr) (c : Nat) (w : World) (eg : ∀ args w, (callFunc fid args).run Try.prog w = .ok (.enter fid args) w) (hC : Kd.C k34 w A 0 ([] : List S34)) :
    Calls Try.prog 31 #[.slice A 0 c, .func (.func fid) #[] caps] w fun e w' => e = .returned (.slice A 0 c) ∧ Below w.heap.size w w' := by
  have HC := Aside0.mk hC
  clear hC
  have hi : idxOf (fun _ : S34 => false) [] = -1 := rfl
  go_enter Try.func31, Try.ntmps31
  go_wp2_with (first | (go_at_call 55; refine (slices_IndexFunc_N.calls fid caps (fun _ => false) A c [] _ HC.out (Nat.zero_le _) eg (fun x hx => absurd hx (by simp))).mono ?_; rintro e w1 ⟨rfl, hb⟩; have HB := Aside0.mk hb; clear hb; rw [hi]))
  go_ret
  exact ⟨rfl, HB.out⟩
theorem own_base {α : Type} {d : Kd α} {e : Nat} {w : World} {base : Nat} {ok : Nat → Prop} {v : Value} {xs : List α} (h : d.R e w base ok v xs) (k : Nat) (hk : v.ownBlock = some k) : base ≤ k := ((Kd.R_bound h).1 k hk).2.1
theorem del_late (A : Option Addr) (c : Nat) (base : Nat) (ok : Nat → Prop) (l : List S34) (g : Nat) (e v : Int) (w : World) (hR : Kd.R k34 34 w base ok (.slice A l.length c) l) (hb : w.heap[g]? = some (.cells #[.int .i64 e, .int .i64 v] 24 (0, 0))) (hg : g < base) :
    Calls Try.prog 31 #[.slice A l.length c, .func (.func 32) #[] #[.pointer (some ⟨g, 0, none⟩)]] w fun r w' => ∃ v', r = .returned v' ∧ Kd.R k34 34 w' base ok v' (l.filter (lateB e v)) ∧ ∃ row, w.grownBy w' row ∧ ∀ k, row = some k → base ≤ k := by
  have hen := Go.Proofs.enters_of Try.func32 (by kernel_rfl) rfl
  rcases Nat.eq_zero_or_pos l.length with h0 | hpos
  · obtain rfl := List.eq_nil_of_length_eq_zero h0
    refine (slices_DeleteFunc_N.empty 32 _ A c w hen (Kd.R_reads' hR).2.2).mono ?_
    rintro e w1 ⟨rfl, hb⟩
    exact ⟨_, rfl, Kd.R_below hR hb, none, grown_of_below hb _, fun k e => by cases e⟩
  · obtain ⟨g', c', he, hgb, hgl, hgc⟩ := Kd.R_form hR hpos
    have hown := own_base hR
    injection he with he1 _ he3
    subst he1 he3
    have hfil : l.filter (fun x => !(fun x => !lateB e v x) x) = l.filter (lateB e v) := by simp
    refine (slices_DeleteFunc_N.calls 32 _ (fun x => !lateB e v x) g' l.length c base ok l w hR hen (fun x hx w1 hG => ?_)).mono ?_
    · exact pglog_Behind_1.calls x g e v w1 ((hG.block g (Array.getElem?_eq_some_iff.1 hb).1 (fun e => by cases e; omega)).trans hb)
    · rintro r w1 ⟨m, rfl, hR1, hG⟩
      rw [hfil] at hR1
      exact ⟨_, rfl, hR1, _, hG, fun k e => by cases e; exact hgb⟩
def pglog_Behind.f (l0 : List S34) (e v : Int) : Option (List S34) := if l0.length < 1034834473200 then some (l0.filter (lateB e v)) else none
theorem pglog_Behind.calls (A0 : Option Addr) (c0 : Nat) (l0 : List S34) (e v : Int) (r : List S34) (w : World) (hr0 : Kd.C k34 w A0 l0.length l0) (hc0 : l0.length ≤ c0) (h : pglog_Behind.f l0 e v = some r) :
    Calls Try.prog 15 #[.slice A0 l0.length c0, .agg #[.int .i64 e, .int .i64 v]] w fun e' w' => ∃ v0_ : Value, e' = .returned v0_ ∧ Kd.R k34 34 w' w.heap.size (fun _ => True) v0_ r ∧ Below w.heap.size w w' := by
  unfold pglog_Behind.f at h
  split at h
  case isFalse => cases h
  rename_i hl
  obtain rfl := Option.some.inj h
  clear h
  have HCL := Aside0.mk (show slices_Clone_N.f l0 = some l0 from by unfold slices_Clone_N.f; rw [if_pos hl])
  have HR0 := Aside0.mk hr0
  have HC0 := Aside0.mk hc0
  clear hr0 hc0 hl
  have hu := Try.underlying24
  go_enter Try.func15, Try.ntmps15
  go_wp2_with (first
    | (go_at_call 30; refine (slices_Clone_N.calls A0 c0 l0 l0 _ (Kd.C_alloc HR0.out _) HC0.out HCL.out).mono ?_; rintro e1 w1 ⟨v1, rfl, hR, hW⟩; obtain ⟨Av, cv, rfl⟩ := Kd.R_slice hR; have HR := Aside0.mk hR; have HW := Aside0.mk hW; clear hR hW)
    | (go_at_call 31; refine (del_late Av cv (w.alloc (.cells #[.int .i64 e, .int .i64 v] 24)).heap.size (fun _ => True) l0 w.heap.size e v _ HR.out ((HW.out.block _ (by simp)).trans (World.alloc_heap_new w _)) (by simp)).mono ?_; rintro e2 w2 ⟨v2, rfl, hR, row, hg, hrow⟩; have HR2 := Aside0.mk hR; have HW2 := Aside0.mk (pw_below_grown (below_step (below_alloc (Below.refl w.heap.size w) (.cells #[.int .i64 e, .int .i64 v] 24)) HW.out) row (below_step (below_alloc (Below.refl w.heap.size w) (.cells #[.int .i64 e, .int .i64 v] 24)) HW.out).size hg (fun k hk => by have := hrow k hk; simp at this; omega)); clear hR hg hrow HR HW))
  go_ret
  exact ⟨v2, rfl, Kd.R_lower HR2.out (by simp), HW2.out⟩
end Go.Proofs.Ytbdciklcckjknaa.P
namespace Go.Proofs.Ytbdciklcckjknaa.P
open Go.RowKit Go.Proofs.YtbdciklcckjknaaW.PrintWords Go.Proofs.YtbdciklcckjknaaW.PrintLast Go.Proofs.YtbdciklcckjknaaW.PrintMore Go.Proofs.YtbdciklcckjknaaW.HB
set_option linter.unusedVariables false
set_option linter.unusedSimpArgs false

/-! plain laws: logs are the same; logs that part -/
theorem same_l0 (l : List S34) (hl : l.length ≤ 1099511627776) : ∀ (d k i : Nat), l.length - i ≤ d → i ≤ l.length → d < k → reefref21_Same.l0 k l l i = some true
  | d, 0, i, _, _, h => absurd h (by omega)
  | 0, k + 1, i, h0, h1, _ => by
    simp only [reefref21_Same.l0]
    rw [if_neg (by omega)]
  | d + 1, k + 1, i, h0, h1, h2 => by
    simp only [reefref21_Same.l0]
    by_cases hlt : i < l.length
    · have hrec := same_l0 l hl d k (i + 1) (by omega) (by omega) (by omega)
      have hi0 : (0 : Int) ≤ (i : Int) := by omega
      have hi1 : (i : Int) < (l.length : Int) := by omega
      rw [if_pos hi1, if_pos hi0, if_pos hi1, wrap64_small _ (by omega) (by omega), if_neg (by simp)]
      exact hrec
    · rw [if_neg (by omega)]
theorem same_refl (k : Nat) (l : List S34) (hl : l.length ≤ 1099511627776) (hk : l.length < k) : reefref21_Same.f k l l = some true := by
  unfold reefref21_Same.f
  rw [if_pos rfl]
  exact same_l0 l hl l.length k 0 (by omega) (by omega) hk
structure Gl (l : List S34) (e v : Int) : Prop where
  inv : InvL l e v l.length
  old : ∀ z ∈ l, lateB e v z = false
structure Gn (l : List S34) (e v : Int) (a : List S34) (x y : Int) : Prop where
  inv : InvL a x y a.length
  ge : e ≤ x ∧ v ≤ y
  more : ∃ t, a = l ++ t ∧ ∀ z ∈ t, lateB e v z = true
theorem Gl.nil : Gl [] 0 0 := ⟨InvL.nil, fun z h => by cases h⟩
theorem InvL.grow {l : List S34} {e v : Int} (h : InvL l e v l.length) (h8 : l.length < 8) (z : S34) :
    (pglog_Append.f 40 l e v z.f0.f0 z.f0.f1 z.f1.f0 z.f1.f1 z.f1.f2 z.f1.f3.f0 z.f1.f3.f1 z.f1.f3.f2 z.f1.f3.f3 z.f1.f3.f4 z.f2.f0 z.f2.f1 z.f2.f2 z.f2.f3 = some (l, e, v, false)) ∨ (pglog_Append.f 40 l e v z.f0.f0 z.f0.f1 z.f1.f0 z.f1.f1 z.f1.f2 z.f1.f3.f0 z.f1.f3.f1 z.f1.f3.f2 z.f1.f3.f3 z.f1.f3.f4 z.f2.f0 z.f2.f1 z.f2.f2 z.f2.f3 = some (l ++ [z], z.f0.f0, z.f0.f1, true) ∧ InvL (l ++ [z]) z.f0.f0 z.f0.f1 (l ++ [z]).length ∧ z.f0.f1 = v + 1 ∧ e ≤ z.f0.f0) := by
  rw [app_eq l e v z (by omega)]
  unfold appB
  by_cases hc : entB z = true ∧ z.f0.f1 = wrap64 (v + 1) ∧ ¬ z.f0.f0 < e
  · rw [if_pos hc]
    obtain ⟨h1, h2, _, _, _⟩ := h.step hc.1 hc.2.1 hc.2.2
    have hb := h.bounds
    have hcut : cutL (l ++ [z]) = l ++ [z] := by unfold cutL; rw [if_neg (by simp; omega)]
    rw [hcut] at h1 h2 ⊢
    refine .inr ⟨rfl, ?_, ?_, by omega⟩
    · rw [List.length_append, List.length_singleton]; exact h1
    · rw [hc.2.1, wrap64_small _ (by omega) (by omega)]
  · rw [if_neg hc]; exact .inl rfl
theorem Gl.step {l : List S34} {e v : Int} (h : Gl l e v) (h3 : l.length < 3) (z : S34) : ∃ nx e1 v1 ok, pglog_Append.f 40 l e v z.f0.f0 z.f0.f1 z.f1.f0 z.f1.f1 z.f1.f2 z.f1.f3.f0 z.f1.f3.f1 z.f1.f3.f2 z.f1.f3.f3 z.f1.f3.f4 z.f2.f0 z.f2.f1 z.f2.f2 z.f2.f3 = some (nx, e1, v1, ok) ∧ Gl nx e1 v1 ∧ nx.length ≤ 3 := by
  rcases h.inv.grow (by omega) z with h1 | ⟨h1, h2, h4, h5⟩
  · exact ⟨_, _, _, _, h1, h, by omega⟩
  · refine ⟨_, _, _, _, h1, ⟨h2, fun u hu => ?_⟩, by simp; omega⟩
    rcases List.mem_append.1 hu with hu | hu
    · have := h.old u hu
      unfold lateB at *
      simp only [decide_eq_false_iff_not] at this ⊢
      omega
    · rw [List.mem_singleton] at hu
      subst hu
      unfold lateB
      simp
theorem Gn.refl {l : List S34} {e v : Int} (h : Gl l e v) : Gn l e v l e v := ⟨h.inv, by omega, [], by simp, fun z h => by cases h⟩
theorem Gn.step {l : List S34} {e v : Int} {a : List S34} {x y : Int} (h : Gn l e v a x y) (h8 : a.length < 8) (z : S34) : ∃ nx e1 v1 ok, pglog_Append.f 40 a x y z.f0.f0 z.f0.f1 z.f1.f0 z.f1.f1 z.f1.f2 z.f1.f3.f0 z.f1.f3.f1 z.f1.f3.f2 z.f1.f3.f3 z.f1.f3.f4 z.f2.f0 z.f2.f1 z.f2.f2 z.f2.f3 = some (nx, e1, v1, ok) ∧ Gn l e v nx e1 v1 ∧ nx.length ≤ 8 := by
  rcases h.inv.grow h8 z with h1 | ⟨h1, h2, h4, h5⟩
  · exact ⟨_, _, _, _, h1, h, by omega⟩
  · obtain ⟨t, rfl, ht⟩ := h.more
    have hge := h.ge
    refine ⟨_, _, _, _, h1, ⟨h2, by omega, t ++ [z], by simp, fun u hu => ?_⟩, by simp at h8 ⊢; omega⟩
    rcases List.mem_append.1 hu with hu | hu
    · exact ht u hu
    · rw [List.mem_singleton] at hu
      subst hu
      unfold lateB
      simp only [decide_eq_true_eq]
      omega
theorem alike_self (x : S34) : alikeB x x = true := by
  have h := alikeB_f x x
  unfold pglog_alike.f at h
  simpa using h.symm
theorem alike_at {x y : S34} (h : alikeB x y = true) : x.f0.f0 = y.f0.f0 ∧ x.f0.f1 = y.f0.f1 := by
  have h1 := alikeB_f x y
  rw [h] at h1
  unfold pglog_alike.f at h1
  split at h1
  · rename_i hc; simpa using hc
  · simp at h1
theorem late_ne {e v : Int} {x y : S34} (hx : lateB e v x = true) (hy : lateB e v y = false) : alikeB x y = false := by
  cases h : alikeB x y with
  | false => rfl
  | true =>
    obtain ⟨h1, h2⟩ := alike_at h
    unfold lateB at hx hy
    rw [h1, h2, hy] at hx
    cases hx
theorem common_parts {l t u : List S34} {e v : Int} (h : Gl l e v) (ht : ∀ z ∈ t, lateB e v z = true) (hd : ∀ x ∈ t, ∀ y ∈ u, ¬ (x.f0.f0 = y.f0.f0 ∧ x.f0.f1 = y.f0.f1)) :
    pglog_Common.f (l ++ t) (l ++ u) = some (e, v, decide (0 < l.length)) := by
  unfold pglog_Common.f
  congr 1
  rw [List.reverse_append, List.find?_append]
  have h1 : t.reverse.find? (fun x => (l ++ u).any (alikeB x)) = none := by
    rw [List.find?_eq_none]
    intro x hx hy
    rw [List.mem_reverse] at hx
    rw [List.any_eq_true] at hy
    obtain ⟨y, hy, ha⟩ := hy
    rcases List.mem_append.1 hy with hy | hy
    · rw [late_ne (ht x hx) (h.old y hy)] at ha; cases ha
    · exact hd x hx y hy (alike_at ha)
  rw [h1]
  simp only [Option.none_or]
  rcases List.eq_nil_or_concat l with rfl | ⟨m, z, rfl⟩
  · have := h.inv.ok
    simp [logB] at this
    simp [this]
  · have hz : ((m.concat z) ++ u).any (alikeB z) = true := by
      simp [alike_self]
    rw [List.concat_eq_append] at *
    rw [List.reverse_append, List.reverse_singleton, List.singleton_append, List.find?_cons, hz]
    have h2 := (logB_cons (by simp)).1 h.inv.ok
    rw [show (((m ++ [z]).length : Int) - 1) = (m.length : Int) from by simp, rd_last] at h2
    simp [h2.2.2.1, h2.2.2.2.1]
theorem behind_parts {l t : List S34} {e v : Int} (h : Gl l e v) (ht : ∀ z ∈ t, lateB e v z = true) (hl : (l ++ t).length ≤ 8) : pglog_Behind.f (l ++ t) e v = some t := by
  unfold pglog_Behind.f
  rw [if_pos (by omega), List.filter_append, List.filter_eq_nil_iff.2 (fun z hz => by rw [h.old z hz]; decide), List.filter_eq_self.2 ht, List.nil_append]
theorem parts {l a b : List S34} {e v x y x' y' : Int} (h : Gl l e v) (ha : Gn l e v a x y) (hb : Gn l e v b x' y')
    (hd : ∀ i k : Nat, l.length ≤ i → i < a.length → l.length ≤ k → k < b.length → ((rd_T34 a i).f0.f0 == (rd_T34 b k).f0.f0 && ((rd_T34 a i).f0.f1 == (rd_T34 b k).f0.f1)) = false) :
    pglog_Common.f a b = some (e, v, decide (0 < l.length)) ∧ pglog_Behind.f a e v = some (a.drop l.length) ∧ pglog_Behind.f b e v = some (b.drop l.length) := by
  have la := ha.inv.len
  have lb := hb.inv.len
  obtain ⟨t, rfl, ht⟩ := ha.more
  obtain ⟨u, rfl, hu⟩ := hb.more
  refine ⟨common_parts h ht (fun p hp q hq => ?_), by rw [behind_parts h ht (by omega)]; simp, by rw [behind_parts h hu (by omega)]; simp⟩
  obtain ⟨i, hi, rfl⟩ := List.getElem_of_mem hp
  obtain ⟨k, hk, rfl⟩ := List.getElem_of_mem hq
  have h1 := hd (l.length + i) (l.length + k) (by omega) (by simp; omega) (by omega) (by simp; omega)
  rw [rd_at_N _ (l.length + i) (by simp; omega), rd_at_N _ (l.length + k) (by simp; omega)] at h1
  simp at h1
  rintro ⟨h2, h3⟩
  exact h1 h2 h3
end Go.Proofs.Ytbdciklcckjknaa.P
