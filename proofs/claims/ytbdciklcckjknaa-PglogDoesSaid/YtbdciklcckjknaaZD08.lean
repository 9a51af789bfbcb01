/- Texts of this claim, merged by pack.py: Q1 PReefref21Names Q5 Q6 PPglogLater Q2 -/
import Derived.Test.YtbdciklcckjknaaZD04
import Derived.Test.YtbdciklcckjknaaZD06
import Derived.Test.YtbdciklcckjknaaZD01
namespace Go.Proofs.Ytbdciklcckjknaa.P
open Go.RowKit Go.Proofs.YtbdciklcckjknaaW.PrintWords Go.Proofs.YtbdciklcckjknaaW.PrintLast Go.Proofs.YtbdciklcckjknaaW.PrintMore Go.Proofs.YtbdciklcckjknaaW.HB
set_option linter.unusedVariables false
set_option linter.unusedSimpArgs false
theorem wrap64_small (x : Int) (h1 : -9223372036854775808 ≤ x) (h2 : x ≤ 9223372036854775807) : wrap64 x = x := by unfold wrap64; omega
theorem name_l0 (s : ByteArray) (hs : s.size ≤ 24) : ∀ (d k : Nat) (i : Int), 0 ≤ i → (s.size : Int) - i ≤ d → d < k → ∃ b, object_Name.l0 k s s.size i = some b
  | d, 0, i, _, _, h => absurd h (by omega)
  | 0, k + 1, i, h0, h1, _ => by
    simp only [object_Name.l0]
    rw [if_neg (by omega)]
    exact ⟨_, rfl⟩
  | d + 1, k + 1, i, h0, h1, h2 => by
    simp only [object_Name.l0]
    by_cases hlt : i < (s.size : Int)
    · have hrec := name_l0 s hs d k (i + 1) (by omega) (by omega) (by omega)
      rw [if_pos hlt, if_pos h0, if_pos hlt, wrap64_small (i + 1) (by omega) (by omega)]
      repeat' split
      all_goals first | exact hrec | exact ⟨_, rfl⟩
    · rw [if_neg hlt]
      exact ⟨_, rfl⟩
theorem name_40 (s : ByteArray) : ∃ b, object_Name.f 40 s = some b := by
  unfold object_Name.f
  split
  · exact ⟨_, rfl⟩
  · by_cases h : (s.size : Int) > 24
    · rw [decide_eq_true h]; exact ⟨_, rfl⟩
    · rw [decide_eq_false h]
      simp only [object_Name.j0]
      exact name_l0 s (by omega) 38 39 0 (by omega) (by omega) (by omega)
theorem some_bind {α β : Type} {a : Option α} {f : α → Option β} (ha : ∃ x, a = some x) (hf : ∀ x, ∃ y, f x = some y) : ∃ y, a.bind f = some y := by
  obtain ⟨x, rfl⟩ := ha
  exact hf x
theorem some_ite {α : Type} {c : Prop} [Decidable c] {a b : Option α} (ha : c → ∃ y, a = some y) (hb : ¬ c → ∃ y, b = some y) : ∃ y, (if c then a else b) = some y := by
  by_cases h : c
  · rw [if_pos h]; exact ha h
  · rw [if_neg h]; exact hb h
theorem within_some (x y z : Int) : ∃ b, pglog_within.f x y z = some b := by unfold pglog_within.f; split <;> exact ⟨_, rfl⟩
theorem changes_some (x : Int) : ∃ b, object_Changes.f x = some b := by
  unfold object_Changes.f
  repeat' first
    | exact ⟨_, rfl⟩
    | refine some_ite (fun _ => ?_) (fun _ => ?_)
theorem op_40 (a : Int) (b : ByteArray) (c d : Int) (e : ByteArray) : ∃ r, object_Op.f 40 a b c d e = some r := by
  unfold object_Op.f
  exact some_bind (name_40 b) (fun t => ⟨_, rfl⟩)
theorem ent_40 (x : S34) : ∃ b, pglog_Entry.f 40 x.f0.f0 x.f0.f1 x.f1.f0 x.f1.f1 x.f1.f2 x.f1.f3.f0 x.f1.f3.f1 x.f1.f3.f2 x.f1.f3.f3 x.f1.f3.f4 x.f2.f0 x.f2.f1 x.f2.f2 x.f2.f3 = some b := by
  unfold pglog_Entry.f
  repeat' first
    | exact ⟨_, rfl⟩
    | refine some_bind (within_some _ _ _) (fun t => ?_)
    | refine some_bind (op_40 _ _ _ _ _) (fun t => ?_)
    | refine some_bind (changes_some _) (fun t => ?_)
    | refine some_ite (fun _ => ?_) (fun _ => ?_)
theorem entF_eq (x : S34) : entF x = some (entB x) := by
  obtain ⟨b, hb⟩ := ent_40 x
  unfold entB
  rw [show entF x = some b from hb]
  rfl
theorem within_true {x y z : Int} (h : pglog_within.f x y z = some true) : y ≤ x ∧ x ≤ z := by
  unfold pglog_within.f at h
  split at h
  · simp at h; omega
  · simp at h
theorem entB_nums {x : S34} (h : entB x = true) : 1 ≤ x.f0.f0 ∧ x.f0.f0 ≤ 1073741824 ∧ 1 ≤ x.f0.f1 ∧ x.f0.f1 ≤ 1099511627776 := by
  have h1 : pglog_Entry.f 40 x.f0.f0 x.f0.f1 x.f1.f0 x.f1.f1 x.f1.f2 x.f1.f3.f0 x.f1.f3.f1 x.f1.f3.f2 x.f1.f3.f3 x.f1.f3.f4 x.f2.f0 x.f2.f1 x.f2.f2 x.f2.f3 = some true := by rw [← h]; exact entF_eq x
  unfold pglog_Entry.f at h1
  obtain ⟨b0, e0⟩ := within_some x.f0.f0 1 1073741824
  obtain ⟨b1, e1⟩ := within_some x.f0.f1 1 1099511627776
  rw [e0, Option.bind_some] at h1
  cases b0 with
  | false => simp at h1
  | true =>
    rw [if_pos rfl, e1, Option.bind_some] at h1
    cases b1 with
    | false => simp at h1
    | true => have := within_true e0; have := within_true e1; omega
def cutL (l : List S34) : List S34 := if l.length > 8 then l.drop 1 else l
def appB (l : List S34) (e v : Int) (x : S34) : List S34 × Int × Int × Bool :=
  if entB x = true ∧ x.f0.f1 = wrap64 (v + 1) ∧ ¬ x.f0.f0 < e then (cutL (l ++ [x]), x.f0.f0, x.f0.f1, true) else (l, e, v, false)
theorem app_eq (l : List S34) (e v : Int) (x : S34) (hl : l.length ≤ 100000000) : pglog_Append.f 40 l e v x.f0.f0 x.f0.f1 x.f1.f0 x.f1.f1 x.f1.f2 x.f1.f3.f0 x.f1.f3.f1 x.f1.f3.f2 x.f1.f3.f3 x.f1.f3.f4 x.f2.f0 x.f2.f1 x.f2.f2 x.f2.f3 = some (appB l e v x) := by
  unfold pglog_Append.f slices_Clone_N.f appB
  rw [if_pos (by omega), Option.bind_some, show pglog_Entry.f 40 x.f0.f0 x.f0.f1 x.f1.f0 x.f1.f1 x.f1.f2 x.f1.f3.f0 x.f1.f3.f1 x.f1.f3.f2 x.f1.f3.f3 x.f1.f3.f4 x.f2.f0 x.f2.f1 x.f2.f2 x.f2.f3 = some (entB x) from entF_eq x, Option.bind_some]
  have hj1 : ∀ l' : List S34, pglog_Append.j0 40 l' true e v x.f0.f0 x.f0.f1 x.f1.f0 x.f1.f1 x.f1.f2 x.f1.f3.f0 x.f1.f3.f1 x.f1.f3.f2 x.f1.f3.f3 x.f1.f3.f4 x.f2.f0 x.f2.f1 x.f2.f2 x.f2.f3 = some (l', e, v, false) := fun l' => by simp only [pglog_Append.j0]; rfl
  cases hb : entB x with
  | false =>
    rw [if_neg (by decide), if_neg (by simp)]
    exact hj1 l
  | true =>
    rw [if_pos rfl]
    by_cases hv : x.f0.f1 = wrap64 (v + 1)
    · rw [if_pos hv]
      by_cases he : x.f0.f0 < e
      · rw [decide_eq_true he, if_neg (fun h => h.2.2 he)]
        exact hj1 l
      · rw [decide_eq_false he, if_pos ⟨rfl, hv, he⟩]
        simp only [pglog_Append.j0]
        rw [if_neg (by decide), if_pos (by omega), Option.bind_some]
        unfold cutL
        have hlen : (l ++ [x]).length = l.length + 1 := by simp
        by_cases h8 : (l ++ [x]).length > 8
        · rw [if_pos h8, if_pos (by show ((l ++ [x]).length : Int) > 8; omega), if_pos (by show 1 ≤ ((l ++ [x]).length : Int); omega)]
          rfl
        · rw [if_neg h8, if_neg (by show ¬ ((l ++ [x]).length : Int) > 8; omega)]
    · rw [if_neg hv, if_neg (fun h => hv h.2.1)]
      exact hj1 l
end Go.Proofs.Ytbdciklcckjknaa.P
namespace Go.Proofs.Ytbdciklcckjknaa.P
open Go.RowKit Go.Proofs.YtbdciklcckjknaaW.PrintWords Go.Proofs.YtbdciklcckjknaaW.PrintLast Go.Proofs.YtbdciklcckjknaaW.PrintMore
attribute [local go_sem] max2_int min2_int max_two min_two max_three min_three max_four min_four
set_option linter.unusedVariables false
set_option linter.unusedSimpArgs false
mutual
def reefref21_Names.l0 : Nat → List (S34) → List ByteArray → Int → Option (List ByteArray)
  | 0, _, _, _ => none
  | k + 1, x0, x3, x4 => if x4 < (x0.length : Int) then (if 0 ≤ x4 then (reefref21_Names.l1 k x0 x3 x4 ((rd_T34 x0 x4).f1.f3.f1) 0) else (none)) else (some x3)
def reefref21_Names.j2 : Nat → List (S34) → List ByteArray → Int → ByteArray → Int → Option (List ByteArray)
  | 0, _, _, _, _, _ => none
  | k + 1, x0, x3, x4, x5, x6 => if x6 < (x3.length : Int) then (if 0 ≤ x6 then (reefref21_Names.j3 k x0 x3 x4 x5 x6 ((rdOf ByteArray.empty x3 x6).toList == x5.toList)) else (none)) else (reefref21_Names.j3 k x0 x3 x4 x5 x6 false)
def reefref21_Names.j3 : Nat → List (S34) → List ByteArray → Int → ByteArray → Int → Bool → Option (List ByteArray)
  | 0, _, _, _, _, _, _ => none
  | k + 1, x0, x3, x4, x5, x6, x46 => if x46 = true then (reefref21_Names.l0 k x0 x3 (wrap64 (x4 + 1))) else (if x3.length < 8796093022208 then ((some (x3 ++ [(⟨#[]⟩ : ByteArray)] : List ByteArray)).bind fun y193 => (reefref21_Names.l2 k x0 y193 x4 x5 x6 (wrap64 ((y193.length : Int) - 1)))) else (none))
def reefref21_Names.l2 : Nat → List (S34) → List ByteArray → Int → ByteArray → Int → Int → Option (List ByteArray)
  | 0, _, _, _, _, _, _ => none
  | k + 1, x0, x3, x4, x5, x6, x7 => if x7 > x6 then (if 0 ≤ (wrap64 (x7 - 1)) then (if (wrap64 (x7 - 1)) < (x3.length : Int) then (if 0 ≤ x7 then (if x7 < (x3.length : Int) then (reefref21_Names.l2 k x0 (x3.set (x7 : Int).toNat (rdOf ByteArray.empty x3 (wrap64 (x7 - 1)))) x4 x5 x6 (wrap64 (x7 - 1))) else (none)) else (none)) else (none)) else (none)) else (if 0 ≤ x6 then (if x6 < (x3.length : Int) then (reefref21_Names.l0 k x0 (x3.set (x6 : Int).toNat x5) (wrap64 (x4 + 1))) else (none)) else (none))
def reefref21_Names.l1 : Nat → List (S34) → List ByteArray → Int → ByteArray → Int → Option (List ByteArray)
  | 0, _, _, _, _, _ => none
  | k + 1, x0, x3, x4, x5, x6 => if x6 < (x3.length : Int) then (if 0 ≤ x6 then (if (Op.bytesLess ((rdOf ByteArray.empty x3 x6).toList) x5.toList) = true then (reefref21_Names.l1 k x0 x3 x4 x5 (wrap64 (x6 + 1))) else (reefref21_Names.j2 k x0 x3 x4 x5 x6)) else (none)) else (reefref21_Names.j2 k x0 x3 x4 x5 x6)
end
def reefref21_Names.f (k : Nat) (l0 : List (S34)) : Option (List ByteArray) := reefref21_Names.l0 k l0 ([] : List ByteArray) 0
set_option maxHeartbeats 8000000 in
set_option maxRecDepth 100000 in
theorem reefref21_Names.calls (k : Nat) (A0 : Option Addr) (c0 : Nat) (l0 : List (S34)) (r : List ByteArray) (w : World) (hr0 : Kd.C k34 w A0 l0.length l0) (hc0 : l0.length ≤ c0) (h : reefref21_Names.f k l0 = some r) :
    Calls Try.prog 19 #[.slice A0 l0.length c0] w fun e w' => ∃ v0_ : Value, e = .returned (v0_) ∧ Kd.R Kd.string 9 w' w.heap.size (fun _ => True) v0_ r ∧ Below w.heap.size w w' := by
  have HR0 := Aside0.mk hr0
  have HC0 := Aside0.mk hc0
  clear hr0 hc0
  have HB := Aside0.mk (Below.refl w.heap.size w)
  have H : (reefref21_Names.l0 k l0 ([] : List ByteArray) 0) = some r := h
  clear h
  have H' := Aside0.mk H
  clear H
  go_enter Try.func19, Try.ntmps19
  go_wp2
  go_loopg [3, 4] k (fun kq v3 v4 w' => ∃ (x3_1 : List ByteArray) (x4_1 : Int), v4 = .int .i64 x4_1 ∧ Aside0 (reefref21_Names.l0 kq l0 x3_1 x4_1 = some r) ∧ Aside0 (kq ≤ k) ∧ Aside0 (Kd.R Kd.string 9 w' w.heap.size (fun _ => True) v3 x3_1) ∧ Aside0 (Below w.heap.size w w'))
  case atStart => exact ⟨(([] : List ByteArray)), (0), (by first | rfl | (simp; done) | (simp [*]; done)), H', ⟨Nat.le_refl _⟩, ⟨by first | exact Kd.R_nil _ _ _ _ _ | exact Kd.N_nil _ _ _ _ _ | exact Kd.V_nil _ _ _ _ _ | exact Kd.Q_nil _ _ _ _ _ | exact Kd.S_nil _ _ _ _ _⟩, ⟨by repeat (first | (with_reducible first | exact HB.out | apply below_alloc | apply pw_below_drewN | apply below_drew1) | exact HB.out)⟩⟩
  case round =>
    clear H'
    try clear c1
    obtain ⟨x3_1, x4_1, rfl, HA, HK1, HO_3, HB⟩ := hrel
    cases gk with
    | zero => exact absurd HA.out (by simp [reefref21_Names.l0])
    | succ k1 =>
      have H := HA.out
      clear HA
      simp only [reefref21_Names.l0] at H
      by_cases c2 : x4_1 < (l0.length : Int)
      · rw [if_pos c2] at H
        have c2b0 : decide (x4_1 < (l0.length : Int)) = true := decide_eq_true c2
        clear c2
        by_cases c3 : 0 ≤ x4_1
        · rw [if_pos c3] at H
          have c3b0 : decide (0 ≤ x4_1) = true := decide_eq_true c3
          clear c3
          have HC4 := Aside0.mk H
          clear H
          have p190 : 0 ≤ (x4_1 : Int) := of_decide_eq_true (by first | (with_reducible assumption) | assumption)
          have q190 : x4_1 < (l0.length : Int) := of_decide_eq_true (by first | (with_reducible assumption) | assumption)
          obtain ⟨ad190, e190, hx190_0, hx190_1, hx190_2, hx190_3, hx190_4, hx190_5, hx190_6, hx190_7, hx190_8, hx190_9, hx190_10, hx190_11, hx190_12, hx190_13⟩ := at_T34 HR0.out x4_1 p190 q190
          cases e190
          replace hx190_0 := (HB.out.cell (World.block_lt_of_cell? w _ hx190_0)).trans hx190_0
          replace hx190_1 := (HB.out.cell (World.block_lt_of_cell? w _ hx190_1)).trans hx190_1
          replace hx190_2 := (HB.out.cell (World.block_lt_of_cell? w _ hx190_2)).trans hx190_2
          replace hx190_3 := (HB.out.cell (World.block_lt_of_cell? w _ hx190_3)).trans hx190_3
          replace hx190_4 := (HB.out.cell (World.block_lt_of_cell? w _ hx190_4)).trans hx190_4
          replace hx190_5 := (HB.out.cell (World.block_lt_of_cell? w _ hx190_5)).trans hx190_5
          replace hx190_6 := (HB.out.cell (World.block_lt_of_cell? w _ hx190_6)).trans hx190_6
          replace hx190_7 := (HB.out.cell (World.block_lt_of_cell? w _ hx190_7)).trans hx190_7
          replace hx190_8 := (HB.out.cell (World.block_lt_of_cell? w _ hx190_8)).trans hx190_8
          replace hx190_9 := (HB.out.cell (World.block_lt_of_cell? w _ hx190_9)).trans hx190_9
          replace hx190_10 := (HB.out.cell (World.block_lt_of_cell? w _ hx190_10)).trans hx190_10
          replace hx190_11 := (HB.out.cell (World.block_lt_of_cell? w _ hx190_11)).trans hx190_11
          replace hx190_12 := (HB.out.cell (World.block_lt_of_cell? w _ hx190_12)).trans hx190_12
          replace hx190_13 := (HB.out.cell (World.block_lt_of_cell? w _ hx190_13)).trans hx190_13
          replace p190 := eq_true p190
          replace q190 := eq_true q190
          go_upto_block 2 with (fail)
          go_cut [6] (fun v6 wc => ∃ (kq : Nat) (x6_3 : Int), v6 = .int .i64 x6_3 ∧ Aside0 (reefref21_Names.j2 kq l0 x3_1 x4_1 ((rd_T34 l0 x4_1).f1.f3.f1) x6_3 = some r) ∧ Aside0 (kq ≤ k1) ∧ Aside0 (Kd.R Kd.string 9 wc w.heap.size (fun _ => True) u3 x3_1) ∧ Aside0 (Below w.heap.size w wc))
          case first =>
            have H := HC4.out
            clear HC4
            have H' := Aside0.mk H
            clear H
            go_wp2
            go_loopg [6] k1 (fun kq v6 w' => ∃ (x6_2 : Int), v6 = .int .i64 x6_2 ∧ Aside0 (reefref21_Names.l1 kq l0 x3_1 x4_1 ((rd_T34 l0 x4_1).f1.f3.f1) x6_2 = some r) ∧ Aside0 (kq ≤ k1) ∧ Aside0 (Kd.R Kd.string 9 w' w.heap.size (fun _ => True) u3 x3_1) ∧ Aside0 (Below w.heap.size w w'))
            case atStart => exact ⟨(0), (by first | rfl | (simp; done) | (simp [*]; done)), H', ⟨Nat.le_refl _⟩, ⟨by (with_reducible repeat (first | apply Kd.R_alloc | apply Kd.R_drewN | apply Kd.R_drew)); exact HO_3.out⟩, ⟨by repeat (first | (with_reducible first | exact HB.out | apply below_alloc | apply pw_below_drewN | apply below_drew1) | exact HB.out)⟩⟩
            case round =>
              clear H'
              try clear c1
              try clear p1
              try clear q1
              try clear hx1
              try clear c2
              try clear c2b0
              try clear p2
              try clear c3
              try clear c3b0
              try clear hx190_0
              try clear hx190_1
              try clear hx190_10
              try clear hx190_11
              try clear hx190_12
              try clear hx190_13
              try clear hx190_2
              try clear hx190_3
              try clear hx190_4
              try clear hx190_5
              try clear hx190_6
              try clear hx190_7
              try clear hx190_8
              try clear hx190_9
              try clear p190
              try clear q190
              obtain ⟨x6_2, rfl, HA, HK2, HO_3, HB⟩ := hrel
              cases gk with
              | zero => exact absurd HA.out (by simp [reefref21_Names.l1])
              | succ k2 =>
                have H := HA.out
                clear HA
                simp only [reefref21_Names.l1] at H
                by_cases c5 : x6_2 < (x3_1.length : Int)
                · rw [if_pos c5] at H
                  have c5b0 : decide (x6_2 < (x3_1.length : Int)) = true := decide_eq_true c5
                  clear c5
                  (first | rw [c5b0] | (simp only [i64_w, i32_w]; rw [c5b0]) | skip)
                  by_cases c6 : 0 ≤ x6_2
                  · rw [if_pos c6] at H
                    have c6b0 : decide (0 ≤ x6_2) = true := decide_eq_true c6
                    clear c6
                    by_cases c7 : (Op.bytesLess ((rdOf ByteArray.empty x3_1 x6_2).toList) ((rd_T34 l0 x4_1).f1.f3.f1).toList) = true
                    · rw [if_pos c7] at H
                      have c7b0 : (Op.bytesLess ((rdOf ByteArray.empty x3_1 x6_2).toList) ((rd_T34 l0 x4_1).f1.f3.f1).toList) = true := c7
                      clear c7
                      have H' := Aside0.mk H
                      clear H
                      obtain ⟨Ao8, co8, eo8⟩ := Kd.R_slice HO_3.out
                      subst eo8
                      have p191 : 0 ≤ (x6_2 : Int) := of_decide_eq_true (by first | (with_reducible assumption) | assumption)
                      have q191 : x6_2 < (x3_1.length : Int) := of_decide_eq_true (by first | (with_reducible assumption) | assumption)
                      obtain ⟨ad191, e191, hx191_0⟩ := Kd.at_string (Kd.R_reads' HO_3.out).2.2 x6_2 p191 q191
                      cases e191
                      replace p191 := eq_true p191
                      replace q191 := eq_true q191
                      go_wp2
                      go_roundg k2
                      case measure => have := HK1.out; have := HK2.out; omega
                      case rel => exact ⟨(wrap64 (x6_2 + 1)), (by first | rfl | (simp; done) | (simp [*]; done)), H', ⟨by have := HK1.out; have := HK2.out; omega⟩, ⟨by (with_reducible repeat (first | apply Kd.R_alloc | apply Kd.R_drewN | apply Kd.R_drew)); exact HO_3.out⟩, ⟨by repeat (first | (with_reducible first | exact HB.out | apply below_alloc | apply pw_below_drewN | apply below_drew1) | exact HB.out)⟩⟩
                    · rw [if_neg c7] at H
                      have c7b0 : (Op.bytesLess ((rdOf ByteArray.empty x3_1 x6_2).toList) ((rd_T34 l0 x4_1).f1.f3.f1).toList) = false := by simpa using c7
                      clear c7
                      have H' := Aside0.mk H
                      clear H
                      obtain ⟨Ao9, co9, eo9⟩ := Kd.R_slice HO_3.out
                      subst eo9
                      have p191 : 0 ≤ (x6_2 : Int) := of_decide_eq_true (by first | (with_reducible assumption) | assumption)
                      have q191 : x6_2 < (x3_1.length : Int) := of_decide_eq_true (by first | (with_reducible assumption) | assumption)
                      obtain ⟨ad191, e191, hx191_0⟩ := Kd.at_string (Kd.R_reads' HO_3.out).2.2 x6_2 p191 q191
                      cases e191
                      replace p191 := eq_true p191
                      replace q191 := eq_true q191
                      go_wp2
                      go_meet
                      case rel => exact ⟨_, (x6_2), (by first | rfl | (simp; done) | (simp [*]; done)), H', ⟨by have := HK1.out; have := HK2.out; first | omega | exact Nat.le_refl _⟩, ⟨by (with_reducible repeat (first | apply Kd.R_alloc | apply Kd.R_drewN | apply Kd.R_drew)); exact HO_3.out⟩, ⟨by repeat (first | (with_reducible first | exact HB.out | apply below_alloc | apply pw_below_drewN | apply below_drew1) | exact HB.out)⟩⟩
                  · rw [if_neg c6] at H
                    exact absurd H (by simp)
                · rw [if_neg c5] at H
                  have c5b0 : decide (x6_2 < (x3_1.length : Int)) = false := decide_eq_false c5
                  clear c5
                  (first | rw [c5b0] | (simp only [i64_w, i32_w]; rw [c5b0]) | skip)
                  have H' := Aside0.mk H
                  clear H
                  obtain ⟨Ao10, co10, eo10⟩ := Kd.R_slice HO_3.out
                  subst eo10
                  go_wp2
                  go_meet
                  case rel => exact ⟨_, (x6_2), (by first | rfl | (simp; done) | (simp [*]; done)), H', ⟨by have := HK1.out; have := HK2.out; first | omega | exact Nat.le_refl _⟩, ⟨by (with_reducible repeat (first | apply Kd.R_alloc | apply Kd.R_drewN | apply Kd.R_drew)); exact HO_3.out⟩, ⟨by repeat (first | (with_reducible first | exact HB.out | apply below_alloc | apply pw_below_drewN | apply below_drew1) | exact HB.out)⟩⟩
          case rest =>
            clear HC4
            try clear c1
            try clear p1
            try clear q1
            try clear hx1
            try clear c2
            try clear c2b0
            try clear p2
            try clear c3
            try clear c3b0
            try clear c5
            try clear c5b0
            try clear c6
            try clear c6b0
            try clear p6
            try clear c7
            try clear c7b0
            try clear hx190_0
            try clear hx190_1
            try clear hx190_10
            try clear hx190_11
            try clear hx190_12
            try clear hx190_13
            try clear hx190_2
            try clear hx190_3
            try clear hx190_4
            try clear hx190_5
            try clear hx190_6
            try clear hx190_7
            try clear hx190_8
            try clear hx190_9
            try clear hx191_0
            try clear p1
            try clear p190
            try clear p191
            try clear p2
            try clear q1
            try clear q190
            try clear q191
            obtain ⟨kq, x6_3, rfl, HA, HJ3, HO_3, HB⟩ := hcut
            cases kq with
            | zero => exact absurd HA.out (by simp [reefref21_Names.j2])
            | succ kj3 =>
              have H := HA.out
              clear HA
              simp only [reefref21_Names.j2] at H
              have HC11 := Aside0.mk H
              clear H
              go_upto_region 9 with (fail)
              go_cut [46] (fun v46 wc => ∃ (kq : Nat) (x46_10 : Bool), v46 = .bool x46_10 ∧ Aside0 (reefref21_Names.j3 kq l0 x3_1 x4_1 ((rd_T34 l0 x4_1).f1.f3.f1) x6_3 x46_10 = some r) ∧ Aside0 (kq ≤ kj3) ∧ Aside0 (Kd.R Kd.string 9 wc w.heap.size (fun _ => True) u3 x3_1) ∧ Aside0 (Below w.heap.size w wc))
              case first =>
                have H := HC11.out
                clear HC11
                by_cases c12 : x6_3 < (x3_1.length : Int)
                · rw [if_pos c12] at H
                  have c12b0 : decide (x6_3 < (x3_1.length : Int)) = true := decide_eq_true c12
                  clear c12
                  (first | rw [c12b0] | (simp only [i64_w, i32_w]; rw [c12b0]) | skip)
                  by_cases c13 : 0 ≤ x6_3
                  · rw [if_pos c13] at H
                    have c13b0 : decide (0 ≤ x6_3) = true := decide_eq_true c13
                    clear c13
                    have H' := Aside0.mk H
                    clear H
                    obtain ⟨Ao14, co14, eo14⟩ := Kd.R_slice HO_3.out
                    subst eo14
                    have p192 : 0 ≤ (x6_3 : Int) := of_decide_eq_true (by first | (with_reducible assumption) | assumption)
                    have q192 : x6_3 < (x3_1.length : Int) := of_decide_eq_true (by first | (with_reducible assumption) | assumption)
                    obtain ⟨ad192, e192, hx192_0⟩ := Kd.at_string (Kd.R_reads' HO_3.out).2.2 x6_3 p192 q192
                    cases e192
                    replace p192 := eq_true p192
                    replace q192 := eq_true q192
                    go_wp2
                    go_meet
                    case rel => exact ⟨_, (((rdOf ByteArray.empty x3_1 x6_3).toList == ((rd_T34 l0 x4_1).f1.f3.f1).toList)), (by first | rfl | (simp; done) | (simp [*]; done)), H', ⟨by have := HK1.out; have := HJ3.out; first | omega | exact Nat.le_refl _⟩, ⟨by (with_reducible repeat (first | apply Kd.R_alloc | apply Kd.R_drewN | apply Kd.R_drew)); exact HO_3.out⟩, ⟨by repeat (first | (with_reducible first | exact HB.out | apply below_alloc | apply pw_below_drewN | apply below_drew1) | exact HB.out)⟩⟩
                  · rw [if_neg c13] at H
                    exact absurd H (by simp)
                · rw [if_neg c12] at H
                  have c12b0 : decide (x6_3 < (x3_1.length : Int)) = false := decide_eq_false c12
                  clear c12
                  (first | rw [c12b0] | (simp only [i64_w, i32_w]; rw [c12b0]) | skip)
                  have H' := Aside0.mk H
                  clear H
                  obtain ⟨Ao15, co15, eo15⟩ := Kd.R_slice HO_3.out
                  subst eo15
                  go_wp2
                  go_meet
                  case rel => exact ⟨_, (false), (by first | rfl | (simp; done) | (simp [*]; done)), H', ⟨by have := HK1.out; have := HJ3.out; first | omega | exact Nat.le_refl _⟩, ⟨by (with_reducible repeat (first | apply Kd.R_alloc | apply Kd.R_drewN | apply Kd.R_drew)); exact HO_3.out⟩, ⟨by repeat (first | (with_reducible first | exact HB.out | apply below_alloc | apply pw_below_drewN | apply below_drew1) | exact HB.out)⟩⟩
              case rest =>
                clear HC11
                try clear c1
                try clear p1
                try clear q1
                try clear hx1
                try clear c2
                try clear c2b0
                try clear p2
                try clear c3
                try clear c3b0
                try clear c5
                try clear c5b0
                try clear c6
                try clear c6b0
                try clear p6
                try clear c7
                try clear c7b0
                try clear c12
                try clear c12b0
                try clear c13
                try clear c13b0
                try clear hx190_0
                try clear hx190_1
                try clear hx190_10
                try clear hx190_11
                try clear hx190_12
                try clear hx190_13
                try clear hx190_2
                try clear hx190_3
                try clear hx190_4
                try clear hx190_5
                try clear hx190_6
                try clear hx190_7
                try clear hx190_8
                try clear hx190_9
                try clear hx191_0
                try clear hx192_0
                try clear p1
                try clear p190
                try clear p191
                try clear p192
                try clear p2
                try clear p6
                try clear q1
                try clear q190
                try clear q191
                try clear q192
                obtain ⟨kq, x46_10, rfl, HA, HJ10, HO_3, HB⟩ := hcut
                cases kq with
                | zero => exact absurd HA.out (by simp [reefref21_Names.j3])
                | succ kj10 =>
                  have H := HA.out
                  clear HA
                  simp only [reefref21_Names.j3] at H
                  by_cases c16 : x46_10 = true
                  · subst c16
                    have H1 : (reefref21_Names.l0 kj10 l0 x3_1 (wrap64 (x4_1 + 1))) = some r := by rw [if_pos rfl] at H; exact H
                    clear H
                    have H := H1
                    clear H1
                    have H' := Aside0.mk H
                    clear H
                    go_wp2
                    go_roundg kj10
                    case measure => have := HK1.out; have := HJ3.out; have := HJ10.out; omega
                    case rel => exact ⟨(x3_1), (wrap64 (x4_1 + 1)), (by first | rfl | (simp; done) | (simp [*]; done)), H', ⟨by have := HK1.out; have := HJ3.out; have := HJ10.out; omega⟩, ⟨by (with_reducible repeat (first | apply Kd.R_alloc | apply Kd.R_drewN | apply Kd.R_drew)); exact HO_3.out⟩, ⟨by repeat (first | (with_reducible first | exact HB.out | apply below_alloc | apply pw_below_drewN | apply below_drew1) | exact HB.out)⟩⟩
                  · replace c16 := Bool.eq_false_iff.mpr c16
                    subst c16
                    have H1 : (if x3_1.length < 8796093022208 then ((some (x3_1 ++ [(⟨#[]⟩ : ByteArray)] : List ByteArray)).bind fun y193 => (reefref21_Names.l2 kj10 l0 y193 x4_1 ((rd_T34 l0 x4_1).f1.f3.f1) x6_3 (wrap64 ((y193.length : Int) - 1)))) else (none)) = some r := by rw [if_neg (show ¬ (false = true) by decide)] at H; exact H
                    clear H
                    have H := H1
                    clear H1
                    by_cases c17 : x3_1.length < 8796093022208
                    · rw [if_pos c17] at H
                      have LMc17 := Aside0.mk c17
                      clear c17
                      obtain ⟨y193, hy193⟩ : ∃ y_ : List ByteArray, y_ = (x3_1 ++ [(⟨#[]⟩ : ByteArray)]) := ⟨_, rfl⟩
                      replace H : (reefref21_Names.l2 kj10 l0 y193 x4_1 ((rd_T34 l0 x4_1).f1.f3.f1) x6_3 (wrap64 ((y193.length : Int) - 1))) = some r := by first | (rw [hy193]; with_reducible exact H) | (have H2_ := (Option.bind_some _ _).symm.trans H; rw [hy193]; with_reducible exact H2_) | (have H2_ := (Option.bind_some _ _).symm.trans H; with_reducible exact H2_) | with_reducible exact H | (rw [hy193]; exact H) | exact H
                      have Ny193 := Aside0.mk hy193
                      clear hy193
                      have H' := Aside0.mk H
                      clear H
                      go_wp2_with (first | ((with_reducible refine gate_builtin (b := .append) (xs := #[.tmp 47, .tmp 48]) rfl ?_); at_builtin; refine Kd.R_append Kd.string (w0 := w) w.heap.size rfl (.tmp 47) (.tmp 48) 44 9 (.string ⟨#[]⟩) 16 rfl Try.underlying44 info9 rfl (by decide) (by omega) u3 x3_1 (⟨#[]⟩ : ByteArray) [.string (⟨#[]⟩ : ByteArray)] (fun _ => True) (fun _ => False) rfl rfl ?aP (fun _ hk => hk.elim) ?aF ?aO ?aB ?aS ?aL ?_; (case aP => exact rfl); (case aB => exact (by repeat (first | (with_reducible first | exact HB.out | apply below_alloc | apply pw_below_drewN | apply below_drew1) | exact HB.out))); (case aF => exact (fun _ _ => trivial)); (case aO => exact (by (with_reducible repeat (first | apply Kd.R_alloc | apply Kd.R_drewN | apply Kd.R_drew)); exact HO_3.out)); (case aS => exact (below_size (by repeat (first | (with_reducible first | exact HB.out | apply below_alloc | apply pw_below_drewN | apply below_drew1) | exact HB.out)))); (case aL => have := LMc17.out; omega); intro v194 w18 ho hb hg hat; rw [← Ny193.out] at ho; have n0_ := Aside0.mk (hb); have n1_ := Aside0.mk (ho); clear HB; clear HO_3; have HB := n0_; have HO195 := n1_; clear n0_ n1_; clear ho hb hg hat; obtain ⟨Ao19, co19, eo19⟩ := Kd.R_slice HO195.out; subst eo19))
                      go_loopg [7] kj10 (fun kq v7 w' => ∃ (x3_4 : List ByteArray) (x7_4 : Int), v7 = .int .i64 x7_4 ∧ Aside0 (reefref21_Names.l2 kq l0 x3_4 x4_1 ((rd_T34 l0 x4_1).f1.f3.f1) x6_3 x7_4 = some r) ∧ Aside0 (kq ≤ kj10) ∧ Aside0 (Kd.R Kd.string 9 w' w.heap.size (fun _ => True) (.slice Ao19 y193.length co19) x3_4) ∧ Aside0 (Below w.heap.size w w'))
                      case atStart => exact ⟨(y193), (wrap64 ((y193.length : Int) - 1)), (by first | rfl | (simp; done) | (simp [*]; done)), H', ⟨Nat.le_refl _⟩, ⟨by (with_reducible repeat (first | apply Kd.R_alloc | apply Kd.R_drewN | apply Kd.R_drew)); exact HO195.out⟩, ⟨by repeat (first | (with_reducible first | exact HB.out | apply below_alloc | apply pw_below_drewN | apply below_drew1) | exact HB.out)⟩⟩
                      case round =>
                        clear H'
                        try clear c1
                        try clear p1
                        try clear q1
                        try clear hx1
                        try clear c2
                        try clear c2b0
                        try clear p2
                        try clear c3
                        try clear c3b0
                        try clear c5
                        try clear c5b0
                        try clear c6
                        try clear c6b0
                        try clear p6
                        try clear c7
                        try clear c7b0
                        try clear c12
                        try clear c12b0
                        try clear c13
                        try clear c13b0
                        try clear c16
                        try clear c17
                        try clear c19
                        try clear p19
                        try clear q19
                        try clear hx19
                        try clear hx190_0
                        try clear hx190_1
                        try clear hx190_10
                        try clear hx190_11
                        try clear hx190_12
                        try clear hx190_13
                        try clear hx190_2
                        try clear hx190_3
                        try clear hx190_4
                        try clear hx190_5
                        try clear hx190_6
                        try clear hx190_7
                        try clear hx190_8
                        try clear hx190_9
                        try clear hx191_0
                        try clear hx192_0
                        try clear p1
                        try clear p190
                        try clear p191
                        try clear p192
                        try clear p2
                        try clear p6
                        try clear q1
                        try clear q190
                        try clear q191
                        try clear q192
                        obtain ⟨x3_4, x7_4, rfl, HA, HK4, HO_3, HB⟩ := hrel
                        have hl3_4 := (Kd.R_reads' HO_3.out).1
                        rw [hl3_4] at HO_3
                        (try simp only [hl3_4])
                        cases gk with
                        | zero => exact absurd HA.out (by simp [reefref21_Names.l2])
                        | succ k4 =>
                          have H := HA.out
                          clear HA
                          simp only [reefref21_Names.l2] at H
                          by_cases c20 : x7_4 > x6_3
                          · rw [if_pos c20] at H
                            have c20b0 : decide (x6_3 < x7_4) = true := decide_eq_true c20
                            clear c20
                            obtain ⟨ji21, hji21⟩ : ∃ j_ : Int, (wrap64 (x7_4 - 1)) = j_ := ⟨_, rfl⟩
                            replace H : (if 0 ≤ (ji21) then (if (ji21) < (x3_4.length : Int) then (if 0 ≤ x7_4 then (if x7_4 < (x3_4.length : Int) then (reefref21_Names.l2 k4 l0 (x3_4.set (x7_4 : Int).toNat (rdOf ByteArray.empty x3_4 (ji21))) x4_1 ((rd_T34 l0 x4_1).f1.f3.f1) x6_3 ji21) else (none)) else (none)) else (none)) else (none)) = some r := by first | (rw [hji21] at H; exact H) | (simp only [hji21] at H ⊢; exact H)
                            have hji21w : (IntKind.i64.wrap (x7_4 - 1)) = ji21 := (i64_w _).trans hji21
                            by_cases c22 : 0 ≤ (ji21)
                            · rw [if_pos c22] at H
                              have c22b0 : decide (0 ≤ (ji21)) = true := decide_eq_true c22
                              clear c22
                              by_cases c23 : (ji21) < (x3_4.length : Int)
                              · rw [if_pos c23] at H
                                have c23b0 : decide ((ji21) < (x3_4.length : Int)) = true := decide_eq_true c23
                                clear c23
                                by_cases c24 : 0 ≤ x7_4
                                · rw [if_pos c24] at H
                                  have c24b0 : decide (0 ≤ x7_4) = true := decide_eq_true c24
                                  clear c24
                                  by_cases c25 : x7_4 < (x3_4.length : Int)
                                  · rw [if_pos c25] at H
                                    have c25b0 : decide (x7_4 < (x3_4.length : Int)) = true := decide_eq_true c25
                                    clear c25
                                    obtain ⟨y197, hy197⟩ : ∃ y_ : List ByteArray, y_ = (x3_4.set (x7_4 : Int).toNat (rdOf ByteArray.empty x3_4 (ji21))) := ⟨_, rfl⟩
                                    replace H : (reefref21_Names.l2 k4 l0 y197 x4_1 ((rd_T34 l0 x4_1).f1.f3.f1) x6_3 ji21) = some r := by first | (rw [hy197]; with_reducible exact H) | (have H2_ := (Option.bind_some _ _).symm.trans H; rw [hy197]; with_reducible exact H2_) | (have H2_ := (Option.bind_some _ _).symm.trans H; with_reducible exact H2_) | with_reducible exact H | (rw [hy197]; exact H) | exact H
                                    have Ny197 := Aside0.mk hy197
                                    clear hy197
                                    have H' := Aside0.mk H
                                    clear H
                                    have p196 : 0 ≤ ((ji21) : Int) := of_decide_eq_true (by first | (with_reducible assumption) | assumption)
                                    have q196 : (ji21) < (x3_4.length : Int) := of_decide_eq_true (by first | (with_reducible assumption) | assumption)
                                    obtain ⟨ad196, e196, hx196_0⟩ := Kd.at_string (Kd.R_reads' HO_3.out).2.2 (ji21) p196 q196
                                    cases e196
                                    replace p196 := eq_true p196
                                    replace q196 := eq_true q196
                                    have p26 : 0 ≤ (x7_4 : Int) := of_decide_eq_true (by first | (with_reducible assumption) | assumption)
                                    have q26 : (x7_4 : Int) < ((x3_4.length : Int) : Int) := of_decide_eq_true (by first | (with_reducible assumption) | assumption)
                                    obtain ⟨go26, co26, eo26, gb26, gl26, cl26, HG26⟩ := Kd.R_form HO_3.out (by omega)
                                    (first | cases eo26 | (injection eo26 with ea_ en_ ec_; (first | subst ea_ | (injection ea_ with ea_; subst ea_)); subst ec_; clear en_))
                                    have GB26 := Aside0.mk gb26
                                    have GG26 := Aside0.mk HG26
                                    clear gb26 gl26 HG26
                                    (first | simp only [add_plain] at hx196_0 | skip)
                                    obtain ⟨hx26_0, hf26_0⟩ := Kd.R_celln (⟨#[]⟩ : ByteArray) HO_3.out (x7_4 : Int) p26 q26
                                    replace p26 := eq_true p26
                                    replace q26 := eq_true q26
                                    have HP27 := Kd.R_putg HO_3.out (x7_4 : Int) (rdOf ByteArray.empty x3_4 (ji21))
                                    go_wp2_with (first | ((with_reducible refine gate_store (t := 9) (p := 65) rfl ?_); refine store_event (t := 9) (p := 65) (v := ?vo_w28) (w1 := (wr.setCell ⟨go26, (x7_4 : Int).toNat, none⟩ (.string (rdOf ByteArray.empty x3_4 (ji21))))) ?hg ?ho ?hn ?hr ?_; (case ho => rfl); (case hg => rfl); (case hn => rfl); (case hr => first | (go_simp; done) | (go_simp; rfl)); intro w28 hw; have hg : wr.grownBy w28 (some go26) := (by rw [hw]; exact HP27.2); have hp_ : Kd.R Kd.string 9 w28 w.heap.size (fun _ => True) (.slice (some ⟨go26, 0, none⟩) x3_4.length co19) y197 := (by rw [hw, Ny197.out]; exact HP27.1); clear HP27; have n0_ := Aside0.mk (hp_); have n1_ := Aside0.mk ((by rw [hw]; exact below_set (HB.out) GB26.out : Below w.heap.size w w28)); clear HO_3; clear HB; have HO_3 := n0_; have HB := n1_; clear n0_ n1_; clear hg hw hp_))
                                    (try simp only [← hl3_4])
                                    go_roundg k4
                                    case measure => have := HK1.out; have := HJ3.out; have := HJ10.out; have := HK4.out; omega
                                    case rel => exact ⟨(y197), (ji21), (by first | rfl | (simp; done) | (simp only [← hji21] <;> (first | rfl | simp)) | (simp [*]; done)), H', ⟨by have := HK1.out; have := HJ3.out; have := HJ10.out; have := HK4.out; omega⟩, ⟨by (try simp only [hl3_4]); (with_reducible repeat (first | apply Kd.R_alloc | apply Kd.R_drewN | apply Kd.R_drew)); exact HO_3.out⟩, ⟨by repeat (first | (with_reducible first | exact HB.out | apply below_alloc | apply pw_below_drewN | apply below_drew1) | exact HB.out)⟩⟩
                                  · rw [if_neg c25] at H
                                    exact absurd H (by simp)
                                · rw [if_neg c24] at H
                                  exact absurd H (by simp)
                              · rw [if_neg c23] at H
                                exact absurd H (by simp)
                            · rw [if_neg c22] at H
                              exact absurd H (by simp)
                          · rw [if_neg c20] at H
                            have c20b0 : decide (x6_3 < x7_4) = false := decide_eq_false c20
                            clear c20
                            by_cases c29 : 0 ≤ x6_3
                            · rw [if_pos c29] at H
                              have c29b0 : decide (0 ≤ x6_3) = true := decide_eq_true c29
                              clear c29
                              by_cases c30 : x6_3 < (x3_4.length : Int)
                              · rw [if_pos c30] at H
                                have c30b0 : decide (x6_3 < (x3_4.length : Int)) = true := decide_eq_true c30
                                clear c30
                                obtain ⟨y198, hy198⟩ : ∃ y_ : List ByteArray, y_ = (x3_4.set (x6_3 : Int).toNat ((rd_T34 l0 x4_1).f1.f3.f1)) := ⟨_, rfl⟩
                                replace H : (reefref21_Names.l0 k4 l0 y198 (wrap64 (x4_1 + 1))) = some r := by first | (rw [hy198]; with_reducible exact H) | (have H2_ := (Option.bind_some _ _).symm.trans H; rw [hy198]; with_reducible exact H2_) | (have H2_ := (Option.bind_some _ _).symm.trans H; with_reducible exact H2_) | with_reducible exact H | (rw [hy198]; exact H) | exact H
                                have Ny198 := Aside0.mk hy198
                                clear hy198
                                have H' := Aside0.mk H
                                clear H
                                have p31 : 0 ≤ (x6_3 : Int) := of_decide_eq_true (by first | (with_reducible assumption) | assumption)
                                have q31 : (x6_3 : Int) < ((x3_4.length : Int) : Int) := of_decide_eq_true (by first | (with_reducible assumption) | assumption)
                                obtain ⟨go31, co31, eo31, gb31, gl31, cl31, HG31⟩ := Kd.R_form HO_3.out (by omega)
                                (first | cases eo31 | (injection eo31 with ea_ en_ ec_; (first | subst ea_ | (injection ea_ with ea_; subst ea_)); subst ec_; clear en_))
                                have GB31 := Aside0.mk gb31
                                have GG31 := Aside0.mk HG31
                                clear gb31 gl31 HG31
                                obtain ⟨hx31_0, hf31_0⟩ := Kd.R_celln (⟨#[]⟩ : ByteArray) HO_3.out (x6_3 : Int) p31 q31
                                replace p31 := eq_true p31
                                replace q31 := eq_true q31
                                have HP32 := Kd.R_putg HO_3.out (x6_3 : Int) ((rd_T34 l0 x4_1).f1.f3.f1)
                                go_wp2_with (first | ((with_reducible refine gate_store (t := 9) (p := 69) rfl ?_); refine store_event (t := 9) (p := 69) (v := ?vo_w33) (w1 := (wr.setCell ⟨go31, (x6_3 : Int).toNat, none⟩ (.string ((rd_T34 l0 x4_1).f1.f3.f1)))) ?hg ?ho ?hn ?hr ?_; (case ho => rfl); (case hg => rfl); (case hn => rfl); (case hr => first | (go_simp; done) | (go_simp; rfl)); intro w33 hw; have hg : wr.grownBy w33 (some go31) := (by rw [hw]; exact HP32.2); have hp_ : Kd.R Kd.string 9 w33 w.heap.size (fun _ => True) (.slice (some ⟨go31, 0, none⟩) x3_4.length co19) y198 := (by rw [hw, Ny198.out]; exact HP32.1); clear HP32; have n0_ := Aside0.mk (hp_); have n1_ := Aside0.mk ((by rw [hw]; exact below_set (HB.out) GB31.out : Below w.heap.size w w33)); clear HO_3; clear HB; have HO_3 := n0_; have HB := n1_; clear n0_ n1_; clear hg hw hp_))
                                (try simp only [← hl3_4])
                                go_roundg k4
                                case measure => have := HK1.out; have := HJ3.out; have := HJ10.out; have := HK4.out; omega
                                case rel => exact ⟨(y198), (wrap64 (x4_1 + 1)), (by first | rfl | (simp; done) | (simp [*]; done)), H', ⟨by have := HK1.out; have := HJ3.out; have := HJ10.out; have := HK4.out; omega⟩, ⟨by (try simp only [hl3_4]); (with_reducible repeat (first | apply Kd.R_alloc | apply Kd.R_drewN | apply Kd.R_drew)); exact HO_3.out⟩, ⟨by repeat (first | (with_reducible first | exact HB.out | apply below_alloc | apply pw_below_drewN | apply below_drew1) | exact HB.out)⟩⟩
                              · rw [if_neg c30] at H
                                exact absurd H (by simp)
                            · rw [if_neg c29] at H
                              exact absurd H (by simp)
                    · rw [if_neg c17] at H
                      exact absurd H (by simp)
        · rw [if_neg c3] at H
          exact absurd H (by simp)
      · rw [if_neg c2] at H
        have c2b0 : decide (x4_1 < (l0.length : Int)) = false := decide_eq_false c2
        clear c2
        obtain rfl := Option.some.inj H
        go_wp2
        go_ret
        exact ⟨_, by first | rfl | (simp [errW_none, errW_some] <;> rfl) | (simp [*, errW_none, errW_some] <;> rfl), by (with_reducible repeat (first | apply Kd.R_alloc | apply Kd.R_drewN | apply Kd.R_drew)); exact HO_3.out, by repeat (first | (with_reducible first | exact HB.out | apply below_alloc | apply pw_below_drewN | apply below_drew1) | exact HB.out)⟩
end Go.Proofs.Ytbdciklcckjknaa.P
namespace Go.Proofs.Ytbdciklcckjknaa.P
open Go.RowKit Go.Proofs.YtbdciklcckjknaaW.PrintWords Go.Proofs.YtbdciklcckjknaaW.PrintLast Go.Proofs.YtbdciklcckjknaaW.PrintMore Go.Proofs.YtbdciklcckjknaaW.HB
set_option linter.unusedVariables false
set_option linter.unusedSimpArgs false
abbrev Bt := List UInt8
theorem strict_ext : ∀ (l m : List Bt), l.Pairwise (· < ·) → m.Pairwise (· < ·) → (∀ x, x ∈ l ↔ x ∈ m) → l = m
  | [], [], _, _, _ => rfl
  | [], y :: m, _, _, h => absurd ((h y).2 (by simp)) (by simp)
  | x :: l, [], _, _, h => absurd ((h x).1 (by simp)) (by simp)
  | x :: l, y :: m, hl, hm, h => by
    rw [List.pairwise_cons] at hl hm
    have hxy : x = y := by
      rcases List.mem_cons.1 ((h x).1 (by simp)) with e | h1
      · exact e
      · rcases List.mem_cons.1 ((h y).2 (by simp)) with e | h2
        · exact e.symm
        · exact absurd (List.lt_trans (hm.1 x h1) (hl.1 y h2)) (List.lt_irrefl _)
    subst hxy
    congr 1
    refine strict_ext l m hl.2 hm.2 (fun z => ⟨fun hz => ?_, fun hz => ?_⟩)
    · rcases List.mem_cons.1 ((h z).1 (List.mem_cons_of_mem _ hz)) with e | h1
      · subst e; exact absurd (hl.1 _ hz) (List.lt_irrefl _)
      · exact h1
    · rcases List.mem_cons.1 ((h z).2 (List.mem_cons_of_mem _ hz)) with e | h1
      · subst e; exact absurd (hm.1 _ hz) (List.lt_irrefl _)
      · exact h1
theorem lt_of_le_ne {x y : Bt} (h : x ≤ y) (hn : x ≠ y) : x < y := by
  rcases Classical.em (x < y) with h1 | h1
  · exact h1
  · exact absurd (List.le_antisymm h (List.not_lt.1 h1)) hn
theorem compact_strict (zs : List Bt) (hs : zs.Pairwise (· ≤ ·)) : ∀ m, m ≤ zs.length → (Lib.compactUpTo zs.toArray m).Pairwise (· < ·) ∧ ∀ x, x ∈ Lib.compactUpTo zs.toArray m ↔ x ∈ zs.take m
  | 0, _ => by simp [Lib.compactUpTo]
  | m + 1, hm => by
    obtain ⟨h1, h2⟩ := compact_strict zs hs m (by omega)
    have hget : zs.toArray[m]! = zs[m] := by simp [Array.getElem!_eq_getD, List.getElem?_eq_getElem (show m < zs.length by omega)]
    rw [Lib.compactUpTo_succ, List.take_succ_eq_append_getElem (by omega), hget]
    have hle : ∀ x ∈ zs.take m, 0 < m → x ≤ zs[m - 1] := by
      intro x hx h0
      obtain ⟨j, hj, rfl⟩ := List.getElem_of_mem hx
      rw [List.length_take] at hj
      rw [List.getElem_take]
      by_cases hjm : j = m - 1
      · subst hjm; exact List.le_refl _
      · exact List.pairwise_iff_getElem.1 hs j (m - 1) (by omega) (by omega) (by omega)
    by_cases hk : Lib.keeps zs.toArray m = true
    · rw [if_pos hk]
      refine ⟨List.pairwise_append.2 ⟨h1, by simp, fun x hx y hy => ?_⟩, fun x => by rw [List.mem_append, List.mem_append, h2]⟩
      rw [List.mem_singleton] at hy
      subst hy
      have hx2 := (h2 x).1 hx
      rcases Nat.eq_zero_or_pos m with rfl | h0
      · simp at hx2
      · have hne : zs[m] ≠ zs[m - 1] := by
          simp only [Lib.keeps, decide_eq_true_eq] at hk
          rcases hk with hk | hk
          · omega
          · rw [hget] at hk
            rw [show zs.toArray[m - 1]! = zs[m - 1] from by simp [Array.getElem!_eq_getD, List.getElem?_eq_getElem (show m - 1 < zs.length by omega)]] at hk
            exact hk
        exact List.lt_of_le_of_lt (hle x hx2 h0) (lt_of_le_ne (List.pairwise_iff_getElem.1 hs (m - 1) m (by omega) (by omega) (by omega)) (Ne.symm hne))
    · rw [if_neg hk]
      simp only [Lib.keeps, decide_eq_true_eq, not_or, ne_eq, Decidable.not_not] at hk
      rw [hget, show zs.toArray[m - 1]! = zs[m - 1] from by simp [Array.getElem!_eq_getD, List.getElem?_eq_getElem (show m - 1 < zs.length by omega)]] at hk
      have h0 : 0 < m := by omega
      refine ⟨by simpa using h1, fun x => ?_⟩
      rw [List.append_nil, List.mem_append, h2, List.mem_singleton]
      refine ⟨.inl, fun h => h.elim id (fun h => ?_)⟩
      subst h
      rw [hk.2]
      exact List.mem_iff_getElem.2 ⟨m - 1, by rw [List.length_take]; omega, by rw [List.getElem_take]⟩
def pos (out : List Bt) (s : Bt) : Nat := (out.takeWhile (fun x => decide (x < s))).length
def insS (out : List Bt) (s : Bt) : List Bt := if out[pos out s]? = some s then out else out.take (pos out s) ++ [s] ++ out.drop (pos out s)
theorem pos_le (out : List Bt) (s : Bt) : pos out s ≤ out.length := (List.takeWhile_prefix _).length_le
theorem take_pos : ∀ (out : List Bt) (s : Bt), ∀ x ∈ out.take (pos out s), x < s
  | [], s, x, h => by simp at h
  | y :: out, s, x, h => by
    by_cases hy : y < s
    · have e : pos (y :: out) s = pos out s + 1 := by unfold pos; rw [List.takeWhile_cons_of_pos (by simpa using hy)]; rfl
      rw [e, List.take_succ_cons, List.mem_cons] at h
      rcases h with rfl | h
      · exact hy
      · exact take_pos out s x h
    · have e : pos (y :: out) s = 0 := by unfold pos; rw [List.takeWhile_cons_of_neg (by simpa using hy)]; rfl
      rw [e] at h; simp at h
theorem at_pos : ∀ (out : List Bt) (s : Bt) (h : pos out s < out.length), ¬ out[pos out s] < s
  | [], s, h => by simp at h
  | y :: out, s, h => by
    by_cases hy : y < s
    · have e : pos (y :: out) s = pos out s + 1 := by unfold pos; rw [List.takeWhile_cons_of_pos (by simpa using hy)]; rfl
      simp only [e, List.getElem_cons_succ]
      exact at_pos out s (by rw [e] at h; simpa using h)
    · have e : pos (y :: out) s = 0 := by unfold pos; rw [List.takeWhile_cons_of_neg (by simpa using hy)]; rfl
      simp only [e, List.getElem_cons_zero]
      exact hy
theorem insS_strict (out : List Bt) (s : Bt) (h : out.Pairwise (· < ·)) : (insS out s).Pairwise (· < ·) ∧ ∀ x, x ∈ insS out s ↔ x ∈ out ∨ x = s := by
  have hp := pos_le out s
  unfold insS
  by_cases he : out[pos out s]? = some s
  · rw [if_pos he]
    exact ⟨h, fun x => ⟨.inl, fun hx => hx.elim id (fun e => by subst e; exact List.mem_of_getElem? he)⟩⟩
  · rw [if_neg he]
    refine ⟨?_, fun x => ?_⟩
    · rw [List.append_assoc, List.pairwise_append]
      have hd : ∀ x ∈ out.drop (pos out s), s < x := by
        intro x hx
        have hlt : pos out s < out.length := by
          rcases Nat.lt_or_ge (pos out s) out.length with h1 | h1
          · exact h1
          · rw [List.drop_eq_nil_of_le h1] at hx; simp at hx
        have hge := at_pos out s hlt
        have hne : out[pos out s] ≠ s := fun e => he (by rw [List.getElem?_eq_getElem hlt, e])
        have h1 : s < out[pos out s] := lt_of_le_ne (List.not_lt.1 hge) (Ne.symm hne)
        obtain ⟨j, hj, rfl⟩ := List.getElem_of_mem hx
        rw [List.getElem_drop]
        rw [List.length_drop] at hj
        rcases Nat.eq_zero_or_pos j with rfl | hj0
        · exact h1
        · exact List.lt_trans h1 (List.pairwise_iff_getElem.1 h (pos out s) (pos out s + j) hlt (by omega) (by omega))
      refine ⟨h.sublist (List.take_sublist _ _), ?_, ?_⟩
      · rw [List.singleton_append, List.pairwise_cons]
        exact ⟨hd, h.sublist (List.drop_sublist _ _)⟩
      · intro x hx y hy
        have hxs := take_pos out s x hx
        rw [List.singleton_append, List.mem_cons] at hy
        rcases hy with rfl | hy
        · exact hxs
        · exact List.lt_trans hxs (hd y hy)
    · rw [List.mem_append, List.mem_append, List.mem_singleton]
      conv => rhs; rw [← List.take_append_drop (pos out s) out, List.mem_append]
      constructor
      · rintro ((h1 | h1) | h1)
        · exact .inl (.inl h1)
        · exact .inr h1
        · exact .inl (.inr h1)
      · rintro ((h1 | h1) | h1)
        · exact .inl (.inl h1)
        · exact .inr h1
        · exact .inl (.inr h1)
theorem ins_all : ∀ (l out : List Bt), out.Pairwise (· < ·) → (l.foldl insS out).Pairwise (· < ·) ∧ ∀ x, x ∈ l.foldl insS out ↔ x ∈ out ∨ x ∈ l
  | [], out, h => ⟨h, by simp⟩
  | s :: l, out, h => by
    obtain ⟨h1, h2⟩ := insS_strict out s h
    obtain ⟨h3, h4⟩ := ins_all l (insS out s) h1
    refine ⟨h3, fun x => ?_⟩
    rw [List.foldl_cons, h4, h2, List.mem_cons, or_assoc]
theorem sorted_le (l : List Bt) : (l.mergeSort fun x y => decide (x ≤ y)).Pairwise (· ≤ ·) := by
  have h := List.pairwise_mergeSort (le := fun x y : Bt => decide (x ≤ y)) (fun a b c h1 h2 => by
    simp only [decide_eq_true_eq] at *; exact List.le_trans h1 h2) (fun a b => by
    simp only [Bool.or_eq_true, decide_eq_true_eq]; exact List.le_total a b) l
  exact h.imp (fun h => by simpa using h)
theorem names_law (l : List Bt) : Lib.compact (l.mergeSort fun x y => decide (x ≤ y)) = l.foldl insS [] := by
  obtain ⟨h1, h2⟩ := compact_strict _ (sorted_le l) _ (Nat.le_refl _)
  obtain ⟨h3, h4⟩ := ins_all l [] List.Pairwise.nil
  refine strict_ext _ _ h1 h3 (fun x => ?_)
  show x ∈ Lib.compactUpTo _ _ ↔ _
  rw [h2, h4, List.take_length, List.mem_mergeSort]
  simp
end Go.Proofs.Ytbdciklcckjknaa.P
namespace Go.Proofs.Ytbdciklcckjknaa.P
open Go.RowKit Go.Proofs.YtbdciklcckjknaaW.PrintWords Go.Proofs.YtbdciklcckjknaaW.PrintLast Go.Proofs.YtbdciklcckjknaaW.PrintMore Go.Proofs.YtbdciklcckjknaaW.HB
set_option linter.unusedVariables false
set_option linter.unusedSimpArgs false
theorem bytesLess_lt : ∀ (x y : List UInt8), Op.bytesLess x y = decide (x < y)
  | [], [] => by simp [Op.bytesLess]
  | _ :: _, [] => by simp [Op.bytesLess]
  | [], _ :: _ => by simp [Op.bytesLess]
  | a :: x, b :: y => by
    have h := bytesLess_lt x y
    by_cases h1 : a < b <;> by_cases h2 : a = b <;> simp [Op.bytesLess, List.cons_lt_cons_iff, h, h1, h2]
def btS (s : ByteArray) : Bt := s.data.toList
theorem btS_eq (s : ByteArray) : s.toList = btS s := ByteArray.toList_eq s
theorem btS_inj {s t : ByteArray} (h : btS s = btS t) : s = t := by
  cases s; cases t; simp [btS] at h; simp [h]
theorem tl_get (xs : List ByteArray) (i : Nat) (h : i < xs.length) : (tl xs)[i]'(by rw [tl_len]; exact h) = btS xs[i] := by simp [tl, btS]
theorem rdB (xs : List ByteArray) (i : Nat) (h : i < xs.length) : rdOf ByteArray.empty xs i = xs[i] := by
  simp [rdOf, List.getD_eq_getElem?_getD, List.getElem?_eq_getElem h]
def posB (out : List ByteArray) (s : ByteArray) : Nat := pos (tl out) (btS s)
theorem posB_le (out : List ByteArray) (s : ByteArray) : posB out s ≤ out.length := by have := pos_le (tl out) (btS s); rw [tl_len] at this; exact this
theorem below_posB (out : List ByteArray) (s : ByteArray) (j : Nat) (hj : j < posB out s) (h : j < out.length) : btS out[j] < btS s := by
  have h1 := take_pos (tl out) (btS s) (btS out[j]) (List.mem_iff_getElem.2 ⟨j, by rw [List.length_take, tl_len]; exact Nat.lt_min.2 ⟨hj, h⟩, by rw [List.getElem_take, tl_get out j h]⟩)
  exact h1
theorem at_posB (out : List ByteArray) (s : ByteArray) (h : posB out s < out.length) : ¬ btS out[posB out s] < btS s := by
  have h1 := at_pos (tl out) (btS s) (by rw [tl_len]; exact h)
  rw [show (tl out)[pos (tl out) (btS s)]'(by rw [tl_len]; exact h) = btS out[posB out s] from tl_get out _ h] at h1
  exact h1
def insB (out : List ByteArray) (s : ByteArray) : List ByteArray := if out[posB out s]? = some s then out else out.take (posB out s) ++ [s] ++ out.drop (posB out s)
theorem insB_eq (out : List ByteArray) (s : ByteArray) : tl (insB out s) = insS (tl out) (btS s) := by
  have hiff : (out[posB out s]? = some s) ↔ ((tl out)[pos (tl out) (btS s)]? = some (btS s)) := by
    show _ ↔ (tl out)[posB out s]? = _
    rw [show tl out = out.map btS from rfl, List.getElem?_map]
    constructor
    · intro h; rw [h]; rfl
    · intro h
      cases hq : out[posB out s]? with
      | none => rw [hq] at h; simp at h
      | some t => rw [hq] at h; simp at h; rw [btS_inj h]
  unfold insB insS
  by_cases h : out[posB out s]? = some s
  · rw [if_pos h, if_pos (hiff.1 h)]
  · rw [if_neg h, if_neg (fun h' => h (hiff.2 h'))]
    simp [tl, posB, btS]
theorem l1_eq (x0 : List S34) (out : List ByteArray) (i : Int) (s : ByteArray) (ho : out.length ≤ 1000) : ∀ (d k j : Nat), j + d = posB out s → d < k → reefref21_Names.l1 k x0 out i s j = reefref21_Names.j2 (k - 1 - d) x0 out i s (posB out s : Nat)
  | d, 0, j, _, h => absurd h (by omega)
  | 0, k + 1, j, h, _ => by
    have hj : j = posB out s := by omega
    subst hj
    have hp := posB_le out s
    simp only [reefref21_Names.l1]
    by_cases hlt : posB out s < out.length
    · rw [if_pos (by omega), if_pos (by omega), rdB _ _ hlt, bytesLess_lt, if_neg]
      · rfl
      · rw [btS_eq, btS_eq, decide_eq_true_iff]; exact at_posB out s hlt
    · rw [if_neg (by omega)]; rfl
  | d + 1, k + 1, j, h, hk => by
    have hp := posB_le out s
    have hlt : j < out.length := by omega
    have hrec := l1_eq x0 out i s ho d k (j + 1) (by omega) (by omega)
    simp only [reefref21_Names.l1]
    rw [if_pos (by omega), if_pos (by omega), rdB _ _ hlt, bytesLess_lt, if_pos, wrap64_small _ (by omega) (by omega)]
    · rw [show ((j : Int) + 1) = ((j + 1 : Nat) : Int) from by omega, hrec]
      congr 1; omega
    · rw [btS_eq, btS_eq, decide_eq_true_iff]; exact below_posB out s j (by omega) hlt
theorem l2_eq (x0 : List S34) (out : List ByteArray) (i : Int) (s : ByteArray) (p : Nat) (hp : p ≤ out.length) (ho : out.length ≤ 1000) : ∀ (d k j : Nat), j = p + d → j ≤ out.length → d < k →
    reefref21_Names.l2 k x0 ((out ++ [(⟨#[]⟩ : ByteArray)]).take (j + 1) ++ out.drop j) i s p j = reefref21_Names.l0 (k - 1 - d) x0 (out.take p ++ [s] ++ out.drop p) (wrap64 (i + 1))
  | d, 0, j, _, _, h => absurd h (by omega)
  | 0, k + 1, j, h, hj, _ => by
    obtain rfl : j = p := by omega
    have hlen : ((out ++ [(⟨#[]⟩ : ByteArray)]).take (j + 1) ++ out.drop j).length = out.length + 1 := by simp; omega
    simp only [reefref21_Names.l2]
    rw [if_neg (by omega), if_pos (by omega), if_pos (by omega)]
    have e : (((out ++ [(⟨#[]⟩ : ByteArray)]).take (j + 1) ++ out.drop j).set (j : Int).toNat s) = out.take j ++ [s] ++ out.drop j := by
      rw [Int.toNat_natCast, List.take_succ_eq_append_getElem (by simp; omega), List.take_append_of_le_length hj, List.append_assoc, List.append_assoc, List.set_append_right _ _ (by rw [List.length_take]; exact Nat.min_le_left _ _)]
      congr 1
      rw [List.length_take, Nat.min_eq_left hj, Nat.sub_self]
      rfl
    rw [e]
    rfl
  | d + 1, k + 1, j, h, hj, hk => by
    have hlen : ((out ++ [(⟨#[]⟩ : ByteArray)]).take (j + 1) ++ out.drop j).length = out.length + 1 := by simp; omega
    have hrec := l2_eq x0 out i s p hp ho d k (j - 1) (by omega) (by omega) (by omega)
    have hw : wrap64 ((j : Int) - 1) = ((j - 1 : Nat) : Int) := by rw [wrap64_small _ (by omega) (by omega)]; omega
    simp only [reefref21_Names.l2]
    rw [if_pos (by omega), hw, if_pos (by omega), if_pos (by omega), if_pos (by omega), if_pos (by omega), rdB _ _ (by omega)]
    have e : (((out ++ [(⟨#[]⟩ : ByteArray)]).take (j + 1) ++ out.drop j).set (j : Int).toNat (((out ++ [(⟨#[]⟩ : ByteArray)]).take (j + 1) ++ out.drop j)[j - 1]'(by omega))) = (out ++ [(⟨#[]⟩ : ByteArray)]).take (j - 1 + 1) ++ out.drop (j - 1) := by
      have e1 : (((out ++ [(⟨#[]⟩ : ByteArray)]).take (j + 1) ++ out.drop j)[j - 1]'(by omega)) = out[j - 1]'(by omega) := by
        rw [List.getElem_append_left (by simp; omega), List.getElem_take, List.getElem_append_left (by omega)]
      rw [e1, Int.toNat_natCast, List.take_succ_eq_append_getElem (by simp; omega), List.append_assoc, List.set_append_right _ _ (by rw [List.length_take]; exact Nat.min_le_left _ _)]
      rw [show j - 1 + 1 = j from by omega]
      congr 1
      rw [show j - (List.take j (out ++ [(⟨#[]⟩ : ByteArray)])).length = 0 from by simp; omega]
      rw [List.drop_eq_getElem_cons (show j - 1 < out.length by omega), show j - 1 + 1 = j from by omega]
      rfl
    rw [e, hrec]
    congr 1; omega
theorem insB_len (out : List ByteArray) (s : ByteArray) : (insB out s).length ≤ out.length + 1 := by
  have hp := posB_le out s
  unfold insB
  split
  · omega
  · simp; omega
theorem one_eq (l : List S34) (out : List ByteArray) (s : ByteArray) (i k : Nat) (ho : out.length ≤ 1000) (hi : i ≤ 1000) (hk : out.length + 5 < k) :
    ∃ k2, k ≤ k2 + out.length + 5 ∧ reefref21_Names.l1 k l out i s ((0 : Nat) : Int) = reefref21_Names.l0 k2 l (insB out s) ((i + 1 : Nat) : Int) := by
  have hp := posB_le out s
  rw [l1_eq l out i s ho (posB out s) k 0 (by omega) (by omega)]
  obtain ⟨k1, hk1⟩ : ∃ k1, k - 1 - posB out s = (k1 + 1 + (out.length - posB out s)) + 1 + 1 := ⟨k - 1 - posB out s - 3 - (out.length - posB out s), by omega⟩
  have hins : insB out s = if out[posB out s]? = some s then out else out.take (posB out s) ++ [s] ++ out.drop (posB out s) := rfl
  have hwi : wrap64 ((i : Int) + 1) = ((i + 1 : Nat) : Int) := by rw [wrap64_small _ (by omega) (by omega)]; omega
  rw [hk1]
  have hrest : out[posB out s]? ≠ some s → ∃ k2, k ≤ k2 + out.length + 5 ∧ reefref21_Names.j3 (k1 + 1 + (out.length - posB out s) + 1) l out i s (posB out s : Nat) false = reefref21_Names.l0 k2 l (insB out s) ((i + 1 : Nat) : Int) := by
    intro hne
    refine ⟨k1, by omega, ?_⟩
    simp only [reefref21_Names.j3]
    rw [if_neg (by decide), if_pos (by omega), Option.bind_some]
    have hz := l2_eq l out i s (posB out s) hp ho (out.length - posB out s) (k1 + 1 + (out.length - posB out s)) out.length (by omega) (Nat.le_refl _) (by omega)
    rw [List.drop_length, List.append_nil, List.take_of_length_le (by simp)] at hz
    rw [show wrap64 (((out ++ [(⟨#[]⟩ : ByteArray)]).length : Int) - 1) = (out.length : Int) from by rw [wrap64_small _ (by rw [List.length_append]; simp) (by rw [List.length_append, List.length_singleton]; omega)]; simp, hz, hwi]
    rw [show k1 + 1 + (out.length - posB out s) - 1 - (out.length - posB out s) = k1 from by omega]
    rw [if_neg hne] at hins
    rw [← hins]
  simp only [reefref21_Names.j2]
  by_cases hlt : posB out s < out.length
  · rw [if_pos (by omega), if_pos (by omega), rdB _ _ hlt, btS_eq, btS_eq]
    cases hq : (btS out[posB out s] == btS s) with
    | true =>
      have he : out[posB out s]? = some s := by rw [List.getElem?_eq_getElem hlt, btS_inj (eq_of_beq hq)]
      rw [if_pos he] at hins
      rw [hins]
      simp only [reefref21_Names.j3]
      rw [if_pos trivial, hwi]
      exact ⟨_, by omega, rfl⟩
    | false =>
      refine hrest (fun he => ?_)
      rw [List.getElem?_eq_getElem hlt] at he
      have he := Option.some.inj he
      rw [he] at hq
      simp at hq
  · rw [if_neg (by omega)]
    exact hrest (fun he => by rw [List.getElem?_eq_none (by omega)] at he; cases he)
theorem l0_eq (l : List S34) (hl : l.length ≤ 1000) (d : Nat) : ∀ (k i : Nat) (out : List ByteArray), l.length = i + d → out.length ≤ i → d * (l.length + 6) < k → reefref21_Names.l0 k l out i = some (((l.drop i).map nmE).foldl insB out) := by
  induction d with
  | zero =>
    intro k i out h _ hk
    obtain ⟨k, rfl⟩ : ∃ k', k = k' + 1 := ⟨k - 1, by omega⟩
    simp only [reefref21_Names.l0]
    rw [if_neg (by omega), List.drop_eq_nil_of_le (by omega)]
    rfl
  | succ d ih =>
    intro k i out h ho hk
    rw [Nat.succ_mul] at hk
    generalize hM : d * (l.length + 6) = M at *
    obtain ⟨k, rfl⟩ : ∃ k', k = k' + 1 := ⟨k - 1, by omega⟩
    have hi : i < l.length := by omega
    obtain ⟨k2, hk2, e2⟩ := one_eq l out (nmE l[i]) i k (by omega) (by omega) (by omega)
    have e1 : reefref21_Names.l0 (k + 1) l out i = reefref21_Names.l1 k l out i (nmE l[i]) ((0 : Nat) : Int) := by
      simp only [reefref21_Names.l0]
      rw [if_pos (by omega), if_pos (by omega), rd_at_N l i hi]
      rfl
    rw [e1, e2, ih k2 (i + 1) _ (by omega) (by have := insB_len out (nmE l[i]); omega) (by omega), List.drop_eq_getElem_cons hi, List.map_cons, List.foldl_cons]
theorem fold_tl : ∀ (l out : List ByteArray), tl (l.foldl insB out) = (tl l).foldl insS (tl out)
  | [], out => rfl
  | s :: l, out => by
    rw [List.foldl_cons, fold_tl l, insB_eq]
    rfl
theorem rnames_eq (l : List S34) (hl : l.length ≤ 8) : reefref21_Names.f 200 l = pglog_Names.f l := by
  unfold reefref21_Names.f pglog_Names.f
  have h := l0_eq l (by omega) l.length 200 0 [] (by omega) (by simp) (by have : l.length * (l.length + 6) ≤ 8 * 14 := Nat.mul_le_mul hl (by omega); omega)
  rw [if_pos (by omega), names_law]
  refine h.trans ?_
  congr 1
  rw [List.drop_zero, ← fl_tl ((l.map nmE).foldl insB []), fold_tl]
  rfl
end Go.Proofs.Ytbdciklcckjknaa.P
namespace Go.Proofs.Ytbdciklcckjknaa.P
open Go.RowKit Go.Proofs.YtbdciklcckjknaaW.PrintWords Go.Proofs.YtbdciklcckjknaaW.PrintLast Go.Proofs.YtbdciklcckjknaaW.PrintMore
attribute [local go_sem] max2_int min2_int max_two min_two max_three min_three max_four min_four
set_option linter.unusedVariables false
set_option linter.unusedSimpArgs false
def pglog_Later.f (a0_0 : Int) (a0_1 : Int) (a1_0 : Int) (a1_1 : Int) : Option (Bool) := if a0_0 > a1_0 then (some true) else (if a0_0 = a1_0 then (some (decide (a0_1 > a1_1))) else (some false))
set_option maxHeartbeats 8000000 in
set_option maxRecDepth 100000 in
theorem pglog_Later.calls (a0_0 : Int) (a0_1 : Int) (a1_0 : Int) (a1_1 : Int) (r : Bool) (w : World) (h : pglog_Later.f a0_0 a0_1 a1_0 a1_1 = some r) :
    Calls Try.prog 7 #[.agg #[.int .i64 a0_0, .int .i64 a0_1], .agg #[.int .i64 a1_0, .int .i64 a1_1]] w fun e w' => e = .returned (.bool r) ∧ Below w.heap.size w w' := by
  have hu24 := Try.underlying24
  have HB := Aside0.mk (Below.refl w.heap.size w)
  have H : (if a0_0 > a1_0 then (some true) else (if a0_0 = a1_0 then (some (decide (a0_1 > a1_1))) else (some false))) = some r := h
  clear h
  by_cases c3 : a0_0 > a1_0
  · rw [if_pos c3] at H
    have c3b0 : decide (a1_0 < a0_0) = true := decide_eq_true c3
    clear c3
    obtain rfl := Option.some.inj H
    go_enter Try.func7, Try.ntmps7
    go_wp2_with (first | ((with_reducible refine gate_dst (N := 2) rfl ?_); refine box_event ?hg (N := 2) ?hd (cs := #[.int .i64 a0_0, .int .i64 a0_1]) (t := 24) ?hr ?_; (case hd => rfl); (case hg => rfl); (case hr => first | (go_simp; done) | (go_simp; rfl)); intro gb101 hg w4 hbox hb; have n0_ := Aside0.mk (below_step (by repeat (first | (with_reducible first | exact HB.out | apply below_alloc | apply pw_below_drewN | apply below_drew1) | exact HB.out)) hb); have n1_ := Aside0.mk (hbox); have n2_ := Aside0.mk ((by rw [hg]; exact (below_size (by repeat (first | (with_reducible first | exact HB.out | apply below_alloc | apply pw_below_drewN | apply below_drew1) | exact HB.out))) : w.heap.size ≤ gb101)); have n3_ := Aside0.mk ((by rw [hg]; exact (below_size (by repeat (first | (with_reducible first | exact HB.out | apply below_alloc | apply pw_below_drewN | apply below_drew1) | exact HB.out))) : w.heap.size ≤ gb101)); clear HB; have HB := n0_; have BK101 := n1_; have GW101 := n2_; have GE101 := n3_; clear n0_ n1_ n2_ n3_; clear hb hbox hg) | ((with_reducible refine gate_dst (N := 3) rfl ?_); refine box_event ?hg (N := 3) ?hd (cs := #[.int .i64 a1_0, .int .i64 a1_1]) (t := 24) ?hr ?_; (case hd => rfl); (case hg => rfl); (case hr => first | (go_simp; done) | (go_simp; rfl)); intro gb102 hg w5 hbox hb; have n0_ := Aside0.mk (blk_below (g := gb101) (o := .cells #[.int .i64 a0_0, .int .i64 a0_1] 24 (0, 0)) (by (with_reducible repeat (first | refine blk_drewN ?_ _ | refine blk_drew ?_ | refine blk_alloc ?_ _)); exact BK101.out) hb); have n1_ := Aside0.mk (below_step (by repeat (first | (with_reducible first | exact HB.out | apply below_alloc | apply pw_below_drewN | apply below_drew1 | refine below_set ?_ GE101.out) | exact HB.out)) hb); have n2_ := Aside0.mk (hbox); have n3_ := Aside0.mk ((by rw [hg]; exact (below_size (by repeat (first | (with_reducible first | exact HB.out | apply below_alloc | apply pw_below_drewN | apply below_drew1 | refine below_set ?_ GE101.out) | exact HB.out))) : w.heap.size ≤ gb102)); have n4_ := Aside0.mk ((by rw [hg]; exact (below_size (by repeat (first | (with_reducible first | exact HB.out | apply below_alloc | apply pw_below_drewN | apply below_drew1 | refine below_set ?_ GE101.out) | exact HB.out))) : w.heap.size ≤ gb102)); have n5_ := Aside0.mk ((by rw [hg]; exact Nat.ne_of_lt (blk_lt (g := gb101) (o := .cells #[.int .i64 a0_0, .int .i64 a0_1] 24 (0, 0)) (by (with_reducible repeat (first | refine blk_drewN ?_ _ | refine blk_drew ?_ | refine blk_alloc ?_ _)); exact BK101.out)) : gb101 ≠ gb102)); have n6_ := Aside0.mk ((by rw [hg]; exact Nat.ne_of_gt (blk_lt (g := gb101) (o := .cells #[.int .i64 a0_0, .int .i64 a0_1] 24 (0, 0)) (by (with_reducible repeat (first | refine blk_drewN ?_ _ | refine blk_drew ?_ | refine blk_alloc ?_ _)); exact BK101.out)) : gb102 ≠ gb101)); clear BK101; clear HB; have BK101 := n0_; have HB := n1_; have BK102 := n2_; have GW102 := n3_; have GE102 := n4_; have NB101_102 := n5_; have NB102_101 := n6_; clear n0_ n1_ n2_ n3_ n4_ n5_ n6_; clear hb hbox hg; have hnb6 := NB101_102.out; have hnc6 := NB102_101.out; have hcz7_0 : w5.cell? ⟨gb101, 0, none⟩ = some (.int .i64 a0_0) := (blk_cell BK101.out 0).trans rfl; have hcz7_1 : w5.cell? ⟨gb101, 1, none⟩ = some (.int .i64 a0_1) := (blk_cell BK101.out 1).trans rfl; have hfz7_0 := blk_frozen BK101.out 0; have hfz7_1 := blk_frozen BK101.out 1; have hcz8_0 : w5.cell? ⟨gb102, 0, none⟩ = some (.int .i64 a1_0) := (blk_cell BK102.out 0).trans rfl; have hcz8_1 : w5.cell? ⟨gb102, 1, none⟩ = some (.int .i64 a1_1) := (blk_cell BK102.out 1).trans rfl; have hfz8_0 := blk_frozen BK102.out 0; have hfz8_1 := blk_frozen BK102.out 1))
    go_ret
    exact ⟨by first | rfl | (simp [errW_none, errW_some] <;> rfl) | (simp [*, errW_none, errW_some] <;> rfl), by repeat (first | (with_reducible first | exact HB.out | apply below_alloc | apply pw_below_drewN | apply below_drew1 | refine below_set ?_ GE101.out | refine below_set ?_ GE102.out) | exact HB.out)⟩
  · rw [if_neg c3] at H
    have c3b0 : decide (a1_0 < a0_0) = false := decide_eq_false c3
    clear c3
    by_cases c9 : a0_0 = a1_0
    · rw [if_pos c9] at H
      have c9b0 : (a0_0 == a1_0) = true := beq_iff_eq.mpr c9
      have c9b1 : (a0_0 != a1_0) = false := bne_eq_false_iff_eq.mpr c9
      clear c9
      obtain rfl := Option.some.inj H
      go_enter Try.func7, Try.ntmps7
      go_wp2_with (first | ((with_reducible refine gate_dst (N := 2) rfl ?_); refine box_event ?hg (N := 2) ?hd (cs := #[.int .i64 a0_0, .int .i64 a0_1]) (t := 24) ?hr ?_; (case hd => rfl); (case hg => rfl); (case hr => first | (go_simp; done) | (go_simp; rfl)); intro gb101 hg w10 hbox hb; have n0_ := Aside0.mk (below_step (by repeat (first | (with_reducible first | exact HB.out | apply below_alloc | apply pw_below_drewN | apply below_drew1) | exact HB.out)) hb); have n1_ := Aside0.mk (hbox); have n2_ := Aside0.mk ((by rw [hg]; exact (below_size (by repeat (first | (with_reducible first | exact HB.out | apply below_alloc | apply pw_below_drewN | apply below_drew1) | exact HB.out))) : w.heap.size ≤ gb101)); have n3_ := Aside0.mk ((by rw [hg]; exact (below_size (by repeat (first | (with_reducible first | exact HB.out | apply below_alloc | apply pw_below_drewN | apply below_drew1) | exact HB.out))) : w.heap.size ≤ gb101)); clear HB; have HB := n0_; have BK101 := n1_; have GW101 := n2_; have GE101 := n3_; clear n0_ n1_ n2_ n3_; clear hb hbox hg) | ((with_reducible refine gate_dst (N := 3) rfl ?_); refine box_event ?hg (N := 3) ?hd (cs := #[.int .i64 a1_0, .int .i64 a1_1]) (t := 24) ?hr ?_; (case hd => rfl); (case hg => rfl); (case hr => first | (go_simp; done) | (go_simp; rfl)); intro gb102 hg w11 hbox hb; have n0_ := Aside0.mk (blk_below (g := gb101) (o := .cells #[.int .i64 a0_0, .int .i64 a0_1] 24 (0, 0)) (by (with_reducible repeat (first | refine blk_drewN ?_ _ | refine blk_drew ?_ | refine blk_alloc ?_ _)); exact BK101.out) hb); have n1_ := Aside0.mk (below_step (by repeat (first | (with_reducible first | exact HB.out | apply below_alloc | apply pw_below_drewN | apply below_drew1 | refine below_set ?_ GE101.out) | exact HB.out)) hb); have n2_ := Aside0.mk (hbox); have n3_ := Aside0.mk ((by rw [hg]; exact (below_size (by repeat (first | (with_reducible first | exact HB.out | apply below_alloc | apply pw_below_drewN | apply below_drew1 | refine below_set ?_ GE101.out) | exact HB.out))) : w.heap.size ≤ gb102)); have n4_ := Aside0.mk ((by rw [hg]; exact (below_size (by repeat (first | (with_reducible first | exact HB.out | apply below_alloc | apply pw_below_drewN | apply below_drew1 | refine below_set ?_ GE101.out) | exact HB.out))) : w.heap.size ≤ gb102)); have n5_ := Aside0.mk ((by rw [hg]; exact Nat.ne_of_lt (blk_lt (g := gb101) (o := .cells #[.int .i64 a0_0, .int .i64 a0_1] 24 (0, 0)) (by (with_reducible repeat (first | refine blk_drewN ?_ _ | refine blk_drew ?_ | refine blk_alloc ?_ _)); exact BK101.out)) : gb101 ≠ gb102)); have n6_ := Aside0.mk ((by rw [hg]; exact Nat.ne_of_gt (blk_lt (g := gb101) (o := .cells #[.int .i64 a0_0, .int .i64 a0_1] 24 (0, 0)) (by (with_reducible repeat (first | refine blk_drewN ?_ _ | refine blk_drew ?_ | refine blk_alloc ?_ _)); exact BK101.out)) : gb102 ≠ gb101)); clear BK101; clear HB; have BK101 := n0_; have HB := n1_; have BK102 := n2_; have GW102 := n3_; have GE102 := n4_; have NB101_102 := n5_; have NB102_101 := n6_; clear n0_ n1_ n2_ n3_ n4_ n5_ n6_; clear hb hbox hg; have hnb12 := NB101_102.out; have hnc12 := NB102_101.out; have hcz13_0 : w11.cell? ⟨gb101, 0, none⟩ = some (.int .i64 a0_0) := (blk_cell BK101.out 0).trans rfl; have hcz13_1 : w11.cell? ⟨gb101, 1, none⟩ = some (.int .i64 a0_1) := (blk_cell BK101.out 1).trans rfl; have hfz13_0 := blk_frozen BK101.out 0; have hfz13_1 := blk_frozen BK101.out 1; have hcz14_0 : w11.cell? ⟨gb102, 0, none⟩ = some (.int .i64 a1_0) := (blk_cell BK102.out 0).trans rfl; have hcz14_1 : w11.cell? ⟨gb102, 1, none⟩ = some (.int .i64 a1_1) := (blk_cell BK102.out 1).trans rfl; have hfz14_0 := blk_frozen BK102.out 0; have hfz14_1 := blk_frozen BK102.out 1))
      go_ret
      exact ⟨by first | rfl | (simp [errW_none, errW_some] <;> rfl) | (simp [*, errW_none, errW_some] <;> rfl), by repeat (first | (with_reducible first | exact HB.out | apply below_alloc | apply pw_below_drewN | apply below_drew1 | refine below_set ?_ GE101.out | refine below_set ?_ GE102.out) | exact HB.out)⟩
    · rw [if_neg c9] at H
      have c9b0 : (a0_0 == a1_0) = false := beq_eq_false_iff_ne.mpr c9
      have c9b1 : (a0_0 != a1_0) = true := bne_iff_ne.mpr c9
      obtain rfl := Option.some.inj H
      go_enter Try.func7, Try.ntmps7
      go_wp2_with (first | ((with_reducible refine gate_dst (N := 2) rfl ?_); refine box_event ?hg (N := 2) ?hd (cs := #[.int .i64 a0_0, .int .i64 a0_1]) (t := 24) ?hr ?_; (case hd => rfl); (case hg => rfl); (case hr => first | (go_simp; done) | (go_simp; rfl)); intro gb101 hg w15 hbox hb; have n0_ := Aside0.mk (below_step (by repeat (first | (with_reducible first | exact HB.out | apply below_alloc | apply pw_below_drewN | apply below_drew1) | exact HB.out)) hb); have n1_ := Aside0.mk (hbox); have n2_ := Aside0.mk ((by rw [hg]; exact (below_size (by repeat (first | (with_reducible first | exact HB.out | apply below_alloc | apply pw_below_drewN | apply below_drew1) | exact HB.out))) : w.heap.size ≤ gb101)); have n3_ := Aside0.mk ((by rw [hg]; exact (below_size (by repeat (first | (with_reducible first | exact HB.out | apply below_alloc | apply pw_below_drewN | apply below_drew1) | exact HB.out))) : w.heap.size ≤ gb101)); clear HB; have HB := n0_; have BK101 := n1_; have GW101 := n2_; have GE101 := n3_; clear n0_ n1_ n2_ n3_; clear hb hbox hg) | ((with_reducible refine gate_dst (N := 3) rfl ?_); refine box_event ?hg (N := 3) ?hd (cs := #[.int .i64 a1_0, .int .i64 a1_1]) (t := 24) ?hr ?_; (case hd => rfl); (case hg => rfl); (case hr => first | (go_simp; done) | (go_simp; rfl)); intro gb102 hg w16 hbox hb; have n0_ := Aside0.mk (blk_below (g := gb101) (o := .cells #[.int .i64 a0_0, .int .i64 a0_1] 24 (0, 0)) (by (with_reducible repeat (first | refine blk_drewN ?_ _ | refine blk_drew ?_ | refine blk_alloc ?_ _)); exact BK101.out) hb); have n1_ := Aside0.mk (below_step (by repeat (first | (with_reducible first | exact HB.out | apply below_alloc | apply pw_below_drewN | apply below_drew1 | refine below_set ?_ GE101.out) | exact HB.out)) hb); have n2_ := Aside0.mk (hbox); have n3_ := Aside0.mk ((by rw [hg]; exact (below_size (by repeat (first | (with_reducible first | exact HB.out | apply below_alloc | apply pw_below_drewN | apply below_drew1 | refine below_set ?_ GE101.out) | exact HB.out))) : w.heap.size ≤ gb102)); have n4_ := Aside0.mk ((by rw [hg]; exact (below_size (by repeat (first | (with_reducible first | exact HB.out | apply below_alloc | apply pw_below_drewN | apply below_drew1 | refine below_set ?_ GE101.out) | exact HB.out))) : w.heap.size ≤ gb102)); have n5_ := Aside0.mk ((by rw [hg]; exact Nat.ne_of_lt (blk_lt (g := gb101) (o := .cells #[.int .i64 a0_0, .int .i64 a0_1] 24 (0, 0)) (by (with_reducible repeat (first | refine blk_drewN ?_ _ | refine blk_drew ?_ | refine blk_alloc ?_ _)); exact BK101.out)) : gb101 ≠ gb102)); have n6_ := Aside0.mk ((by rw [hg]; exact Nat.ne_of_gt (blk_lt (g := gb101) (o := .cells #[.int .i64 a0_0, .int .i64 a0_1] 24 (0, 0)) (by (with_reducible repeat (first | refine blk_drewN ?_ _ | refine blk_drew ?_ | refine blk_alloc ?_ _)); exact BK101.out)) : gb102 ≠ gb101)); clear BK101; clear HB; have BK101 := n0_; have HB := n1_; have BK102 := n2_; have GW102 := n3_; have GE102 := n4_; have NB101_102 := n5_; have NB102_101 := n6_; clear n0_ n1_ n2_ n3_ n4_ n5_ n6_; clear hb hbox hg; have hnb17 := NB101_102.out; have hnc17 := NB102_101.out; have hcz18_0 : w16.cell? ⟨gb101, 0, none⟩ = some (.int .i64 a0_0) := (blk_cell BK101.out 0).trans rfl; have hcz18_1 : w16.cell? ⟨gb101, 1, none⟩ = some (.int .i64 a0_1) := (blk_cell BK101.out 1).trans rfl; have hfz18_0 := blk_frozen BK101.out 0; have hfz18_1 := blk_frozen BK101.out 1; have hcz19_0 : w16.cell? ⟨gb102, 0, none⟩ = some (.int .i64 a1_0) := (blk_cell BK102.out 0).trans rfl; have hcz19_1 : w16.cell? ⟨gb102, 1, none⟩ = some (.int .i64 a1_1) := (blk_cell BK102.out 1).trans rfl; have hfz19_0 := blk_frozen BK102.out 0; have hfz19_1 := blk_frozen BK102.out 1))
      go_ret
      exact ⟨by first | rfl | (simp [errW_none, errW_some] <;> rfl) | (simp [*, errW_none, errW_some] <;> rfl), by repeat (first | (with_reducible first | exact HB.out | apply below_alloc | apply pw_below_drewN | apply below_drew1 | refine below_set ?_ GE101.out | refine below_set ?_ GE102.out) | exact HB.out)⟩
end Go.Proofs.Ytbdciklcckjknaa.P
namespace Go.Proofs.Ytbdciklcckjknaa.P
open Go.RowKit Go.Proofs.YtbdciklcckjknaaW.PrintWords Go.Proofs.YtbdciklcckjknaaW.PrintLast Go.Proofs.YtbdciklcckjknaaW.PrintMore Go.Proofs.YtbdciklcckjknaaW.HB
set_option linter.unusedVariables false
set_option linter.unusedSimpArgs false
theorem rd_left (l : List S34) (x : S34) (i : Nat) (h : i < l.length) : rd_T34 (l ++ [x]) i = rd_T34 l i := by
  rw [rd_at_N _ i (by simp; omega), rd_at_N _ i h, List.getElem_append_left h]
theorem rd_last (l : List S34) (x : S34) : rd_T34 (l ++ [x]) (l.length : Int) = x := by
  rw [rd_at_N _ l.length (by simp)]; simp
theorem rd_drop (l : List S34) (i : Nat) (h : i + 1 < l.length) : rd_T34 (l.drop 1) i = rd_T34 l ((i : Int) + 1) := by
  rw [rd_at_N _ i (by simp; omega), show (i : Int) + 1 = ((i + 1 : Nat) : Int) from by omega, rd_at_N _ (i + 1) h, List.getElem_drop]
  congr 1; omega
theorem okTo_iff (l : List S34) (k : Nat) : okTo l k = true ↔ ∀ i, i < k → okAt l i = true := by
  unfold okTo; rw [List.all_eq_true]; simp
theorem okAt_left (l : List S34) (x : S34) (i : Nat) (h : i < l.length) : okAt (l ++ [x]) i = okAt l i := by
  unfold okAt
  rw [rd_left l x i h]
  rcases Nat.eq_zero_or_pos i with rfl | hi
  · rfl
  · rw [show (i : Int) - 1 = ((i - 1 : Nat) : Int) from by omega, rd_left l x (i - 1) (by omega)]
theorem okTo_snoc (l : List S34) (x : S34) (h : okTo l l.length = true) (hx : entB x = true) (hg : 0 < l.length → gapOk x (rd_T34 l ((l.length : Int) - 1)) = true) : okTo (l ++ [x]) (l ++ [x]).length = true := by
  rw [okTo_iff] at *
  intro i hi
  rw [List.length_append, List.length_singleton] at hi
  rcases Nat.lt_succ_iff_lt_or_eq.1 hi with h1 | rfl
  · rw [okAt_left l x i h1]; exact h i h1
  · unfold okAt
    rw [rd_last, hx]
    rcases Nat.eq_zero_or_pos l.length with h0 | h0
    · rw [h0]; rfl
    · rw [show (l.length : Int) - 1 = ((l.length - 1 : Nat) : Int) from by omega, rd_left l x (l.length - 1) (by omega), show ((l.length - 1 : Nat) : Int) = (l.length : Int) - 1 from by omega, hg h0]
      simp
theorem okTo_drop (l : List S34) (h : okTo l l.length = true) : okTo (l.drop 1) (l.drop 1).length = true := by
  rw [okTo_iff] at *
  intro i hi
  rw [List.length_drop] at hi
  have h1 := h (i + 1) (by omega)
  unfold okAt at *
  rw [rd_drop l i (by omega), show (i : Int) + 1 = ((i + 1 : Nat) : Int) from by omega]
  simp only [Bool.and_eq_true, Bool.or_eq_true] at h1 ⊢
  refine ⟨h1.1, ?_⟩
  rcases Nat.eq_zero_or_pos i with rfl | hi0
  · exact .inl rfl
  · refine .inr ?_
    rw [show (i : Int) - 1 = ((i - 1 : Nat) : Int) from by omega, rd_drop l (i - 1) (by omega), show ((i - 1 : Nat) : Int) + 1 = ((i + 1 : Nat) : Int) - 1 from by omega]
    rcases h1.2 with h2 | h2
    · simp at h2
    · exact h2
structure InvL (l : List S34) (e v : Int) (n : Nat) : Prop where
  len : l.length = min n 8
  ok : logB l e v = true
theorem InvL.nil : InvL [] 0 0 0 := ⟨rfl, rfl⟩
theorem logB_cons {l : List S34} {e v : Int} (h0 : 0 < l.length) : logB l e v = true ↔ okTo l l.length = true ∧ l.length ≤ 8 ∧ (rd_T34 l ((l.length : Int) - 1)).f0.f0 = e ∧ (rd_T34 l ((l.length : Int) - 1)).f0.f1 = v ∧ ((rd_T34 l 0).f0.f1 = 1 ∨ l.length = 8) := by
  unfold logB
  rw [if_neg (by omega)]
  simp only [Bool.and_eq_true, Bool.or_eq_true, decide_eq_true_eq, beq_iff_eq]
  constructor
  · rintro ⟨h1, h2, ⟨h3, h4⟩, h5⟩; exact ⟨h1, h2, h3, h4, h5⟩
  · rintro ⟨h1, h2, h3, h4, h5⟩; exact ⟨h1, h2, ⟨h3, h4⟩, h5⟩
theorem InvL.bounds {l : List S34} {e v : Int} {n : Nat} (h : InvL l e v n) : 0 ≤ v ∧ v ≤ 1099511627776 ∧ 0 ≤ e ∧ e ≤ 1073741824 := by
  rcases Nat.eq_zero_or_pos l.length with h0 | h0
  · have := h.ok
    unfold logB at this
    rw [if_pos h0] at this
    simp at this
    omega
  · obtain ⟨h1, _, h3, h4, _⟩ := (logB_cons h0).1 h.ok
    have h5 := (okTo_iff l l.length).1 h1 (l.length - 1) (by omega)
    unfold okAt at h5
    rw [Bool.and_eq_true, show ((l.length - 1 : Nat) : Int) = (l.length : Int) - 1 from by omega] at h5
    have := entB_nums h5.1
    omega
theorem InvL.step {l : List S34} {e v : Int} {n : Nat} (h : InvL l e v n) {x : S34} (hx : entB x = true) (hv : x.f0.f1 = wrap64 (v + 1)) (he : ¬ x.f0.f0 < e) :
    InvL (cutL (l ++ [x])) x.f0.f0 x.f0.f1 (n + 1) ∧ (cutL (l ++ [x])).length = min (n + 1) 8 ∧ rd_T34 (cutL (l ++ [x])) (((cutL (l ++ [x])).length : Int) - 1) = x ∧ 0 < (cutL (l ++ [x])).length ∧ pglog_Later.f x.f0.f0 x.f0.f1 e v = some true := by
  have hb := h.bounds
  have hw : wrap64 (v + 1) = v + 1 := wrap64_small _ (by omega) (by omega)
  have hlat : pglog_Later.f x.f0.f0 x.f0.f1 e v = some true := by
    unfold pglog_Later.f
    rw [hv, hw]
    by_cases h1 : x.f0.f0 > e
    · rw [if_pos h1]
    · rw [if_neg h1, if_pos (by omega), decide_eq_true (by omega)]
  have hsn : (l ++ [x]).length = l.length + 1 := by simp
  have hok : okTo l l.length = true := by
    rcases Nat.eq_zero_or_pos l.length with h0 | h0
    · rw [h0]; rfl
    · exact ((logB_cons h0).1 h.ok).1
  have hok2 : okTo (l ++ [x]) (l ++ [x]).length = true := okTo_snoc l x hok hx (fun h0 => by
    obtain ⟨_, _, h3, h4, _⟩ := (logB_cons h0).1 h.ok
    unfold gapOk
    rw [h3, h4, hv]
    simp; omega)
  have hl := h.len
  by_cases h8 : (l ++ [x]).length > 8
  · have hc : cutL (l ++ [x]) = (l ++ [x]).drop 1 := if_pos h8
    have hcl : (cutL (l ++ [x])).length = 8 := by rw [hc, List.length_drop]; omega
    have hlast : rd_T34 (cutL (l ++ [x])) (((cutL (l ++ [x])).length : Int) - 1) = x := by
      rw [hcl, hc, show (((8 : Nat) : Int) - 1) = ((7 : Nat) : Int) from rfl, rd_drop _ 7 (by omega), show ((7 : Nat) : Int) + 1 = (l.length : Int) from by omega, rd_last]
    refine ⟨⟨by rw [hcl]; omega, ?_⟩, by rw [hcl]; omega, hlast, by omega, hlat⟩
    rw [logB_cons (by omega)]
    refine ⟨?_, by omega, by rw [hlast], by rw [hlast], .inr hcl⟩
    rw [hc]; exact okTo_drop _ hok2
  · have hc : cutL (l ++ [x]) = l ++ [x] := if_neg h8
    rw [hc]
    have hlast : rd_T34 (l ++ [x]) (((l ++ [x]).length : Int) - 1) = x := by
      rw [hsn, show (((l.length + 1 : Nat) : Int) - 1) = (l.length : Int) from by omega, rd_last]
    refine ⟨⟨by rw [hsn]; omega, ?_⟩, by rw [hsn]; omega, hlast, by omega, hlat⟩
    rw [logB_cons (by omega)]
    refine ⟨hok2, by omega, by rw [hlast], by rw [hlast], .inl ?_⟩
    rcases Nat.eq_zero_or_pos l.length with h0 | h0
    · obtain rfl := List.eq_nil_of_length_eq_zero h0
      show x.f0.f1 = 1
      have hz := h.ok
      simp [logB] at hz
      omega
    · have h5 := ((logB_cons h0).1 h.ok).2.2.2.2
      have := rd_left l x 0 h0
      rw [show ((0 : Nat) : Int) = 0 from rfl] at this
      rw [this]
      rcases h5 with h5 | h5
      · exact h5
      · omega
end Go.Proofs.Ytbdciklcckjknaa.P
