/- Texts of this claim, merged by pack.py: Q9 -/
import Derived.Test.YtbdciklcckjknaaZD15
import Derived.Test.YtbdciklcckjknaaZD16
import Derived.Test.YtbdciklcckjknaaZD17
namespace Go.Proofs.Ytbdciklcckjknaa.P
open Go.RowKit Go.Proofs.YtbdciklcckjknaaW.PrintWords Go.Proofs.YtbdciklcckjknaaW.PrintLast Go.Proofs.YtbdciklcckjknaaW.PrintMore Go.Proofs.YtbdciklcckjknaaW.HB
set_option linter.unusedVariables false
set_option linter.unusedSimpArgs false
set_option maxHeartbeats 1000000 in
theorem opV_eq (kd : Int) (s : ByteArray) (off num : Int) (data : ByteArray) : object_Op.f 40 kd s off num data = some (opV kd (nameB s) s off num data) := by
  unfold object_Op.f
  rw [oname_eq, Option.bind_some]
  have hs0 : s.toList = [] → nameB s = false := by
    intro h
    have : s.size = 0 := by rw [← size_toList, h]; rfl
    unfold nameB; simp [this]
  have z0 : ∀ x : Int, (0 == x) = (x == 0) := fun x => by rw [Bool.eq_iff_iff, beq_iff_eq, beq_iff_eq]; exact eq_comm
  have hsm : ∀ x, smB x = upB x := fun _ => rfl
  have e0 : (([] : List UInt8) == data.toList) = data.toList.isEmpty := by cases data.toList <;> rfl
  generalize nameB s = nm at *
  unfold opW opV
  rw [hsm, hsm, e0, z0 off, z0 num]
  cases nm <;> simp [Bool.and_left_comm]
theorem rop_eq (K : Nat) (kd : Int) (s : ByteArray) (off num : Int) (data : ByteArray) (hs : s.size ≤ 4611686018427387904) (hK : s.size < K) : reefref19_Op.f K kd s off num data = object_Op.f 40 kd s off num data := by
  rw [opV_eq]
  unfold reefref19_Op.f
  rw [show reefref19_Name.f K s = some (nameB s) from rname_l0 s hs s.size K 0 (by omega) hK]
  rfl
def fitE (x : S34) : Prop := x.f1.f3.f1.size ≤ 140737488351232
theorem rent_eq (K : Nat) (hK : 140737488351232 < K) (x : S34) (hx : fitE x) : reefref21_Entry.f K x.f0.f0 x.f0.f1 x.f1.f0 x.f1.f1 x.f1.f2 x.f1.f3.f0 x.f1.f3.f1 x.f1.f3.f2 x.f1.f3.f3 x.f1.f3.f4 x.f2.f0 x.f2.f1 x.f2.f2 x.f2.f3 = some (entB x) := by
  have hx' : x.f1.f3.f1.size ≤ 140737488351232 := hx
  rw [← entF_eq]
  unfold reefref21_Entry.f entF pglog_Entry.f reefref21_Req.f pglog_within.f
  rw [rop_eq K _ _ _ _ _ (by omega) (by omega), opV_eq]
  have hch : reefref19_Changes.f x.f1.f3.f0 = object_Changes.f x.f1.f3.f0 := rfl
  rw [hch]
  obtain ⟨c, hc⟩ := changes_some x.f1.f3.f0
  rw [hc]
  generalize opV _ _ _ _ _ _ = o
  by_cases a1 : x.f0.f0 ≥ 1 <;> by_cases a2 : x.f0.f0 ≤ 1073741824 <;> by_cases a3 : x.f0.f1 ≥ 1 <;> by_cases a4 : x.f0.f1 ≤ 1099511627776 <;> by_cases a5 : x.f1.f0 ≥ 0 <;> by_cases a6 : x.f1.f0 < 4 <;> by_cases a7 : x.f1.f1 ≥ 1 <;> by_cases a8 : x.f1.f1 ≤ 1073741824 <;> by_cases a9 : x.f1.f2 ≥ 1 <;> by_cases a10 : x.f1.f2 ≤ 1073741824 <;> simp [a1, a2, a3, a4, a5, a6, a7, a8, a9, a10]
theorem rlog_l0 (l : List S34) (hl : l.length ≤ 8) (e v : Int) (hf : ∀ x ∈ l, fitE x) (d : Nat) : ∀ (k i : Nat), l.length = i + d → 140737488351232 + d + 1 < k → ∃ b, reefref21_Log.l0 k l l.length i e v = some b := by
  induction d with
  | zero =>
    intro k i h hk
    obtain ⟨k, rfl⟩ : ∃ k', k = k' + 1 := ⟨k - 1, by omega⟩
    simp only [reefref21_Log.l0]
    rw [if_neg (by omega)]
    by_cases h0 : (l.length : Int) = 0
    · rw [if_pos h0]; exact ⟨_, rfl⟩
    · rw [if_neg h0, wrap64_small _ (by omega) (by omega), if_pos (show (0 : Int) ≤ (l.length : Int) - 1 from by omega), if_pos (show (l.length : Int) - 1 < (l.length : Int) from by omega), if_pos (show (0 : Int) < (l.length : Int) from by omega)]
      repeat' split
      all_goals exact ⟨_, rfl⟩
  | succ d ih =>
    intro k i h hk
    obtain ⟨k, rfl⟩ : ∃ k', k = k' + 1 := ⟨k - 1, by omega⟩
    have hi : i < l.length := by omega
    obtain ⟨b, hb⟩ := ih k (i + 1) (by omega) (by omega)
    have hwi : wrap64 ((i : Int) + 1) = ((i + 1 : Nat) : Int) := by rw [wrap64_small _ (by omega) (by omega)]; omega
    simp only [reefref21_Log.l0]
    rw [if_pos (by omega), if_pos (by omega), if_pos (by omega), rd_at_N l i hi, rent_eq k (by omega) l[i] (hf _ (List.getElem_mem _)), Option.bind_some, hwi, hb]
    by_cases h0 : (i : Int) > 0
    · rw [if_pos h0, show wrap64 ((i : Int) - 1) = (i : Int) - 1 from wrap64_small _ (by omega) (by omega), if_pos (show (0 : Int) ≤ (i : Int) - 1 from by omega), if_pos (show (i : Int) - 1 < (l.length : Int) from by omega)]
      repeat' split
      all_goals exact ⟨_, rfl⟩
    · rw [if_neg h0]
      repeat' split
      all_goals exact ⟨_, rfl⟩
theorem rlog_some (K : Nat) (hK : 140737488351260 < K) (l : List S34) (e v : Int) (hf : ∀ x ∈ l, fitE x) : ∃ b, reefref21_Log.f K l e v = some b ∧ (b = true → l.length ≤ 8) := by
  unfold reefref21_Log.f
  by_cases h : (l.length : Int) > 8
  · rw [if_pos h]; exact ⟨_, rfl, fun h => by cases h⟩
  · rw [if_neg h]
    obtain ⟨b, hb⟩ := rlog_l0 l (by omega) e v hf l.length K 0 (by omega) (by omega)
    exact ⟨b, hb, fun _ => by omega⟩
theorem rapp_eq (K : Nat) (hK : 140737488351260 < K) (l : List S34) (e v : Int) (x : S34) (hl : l.length ≤ 8) (hx : fitE x) : reefref21_Append.f K l e v x.f0.f0 x.f0.f1 x.f1.f0 x.f1.f1 x.f1.f2 x.f1.f3.f0 x.f1.f3.f1 x.f1.f3.f2 x.f1.f3.f3 x.f1.f3.f4 x.f2.f0 x.f2.f1 x.f2.f2 x.f2.f3 = some (appB l e v x) := by
  unfold reefref21_Append.f reefref21_Copy.f appB
  rw [if_pos (by simp; omega), Option.bind_some, rent_eq K (by omega) x hx, Option.bind_some, List.nil_append]
  have hj1 : ∀ l' : List S34, reefref21_Append.j0 K l' true e v x.f0.f0 x.f0.f1 x.f1.f0 x.f1.f1 x.f1.f2 x.f1.f3.f0 x.f1.f3.f1 x.f1.f3.f2 x.f1.f3.f3 x.f1.f3.f4 x.f2.f0 x.f2.f1 x.f2.f2 x.f2.f3 = some (l', e, v, false) := fun l' => by
    obtain ⟨k, rfl⟩ : ∃ k', K = k' + 1 := ⟨K - 1, by omega⟩
    simp only [reefref21_Append.j0]; rfl
  cases hb : entB x with
  | false =>
    rw [if_neg (by decide), if_neg (by simp)]
    exact hj1 l
  | true =>
    rw [if_pos rfl]
    by_cases hv : x.f0.f1 = wrap64 (v + 1)
    · rw [if_pos hv]
      by_cases he : x.f0.f0 < e
      · rw [decide_eq_true he, if_neg (fun h => h.2.2 he)]
        exact hj1 l
      · rw [decide_eq_false he, if_pos ⟨rfl, hv, he⟩]
        obtain ⟨k, rfl⟩ : ∃ k', K = k' + 1 := ⟨K - 1, by omega⟩
        simp only [reefref21_Append.j0]
        rw [if_neg (by decide), if_pos (by omega), Option.bind_some]
        unfold cutL
        have hlen : (l ++ [x]).length = l.length + 1 := by simp
        by_cases h8 : (l ++ [x]).length > 8
        · rw [if_pos h8, if_pos (by show ((l ++ [x]).length : Int) > 8; omega), if_pos (by show 1 ≤ ((l ++ [x]).length : Int); omega)]
          rfl
        · rw [if_neg h8, if_neg (by show ¬ ((l ++ [x]).length : Int) > 8; omega)]
    · rw [if_neg hv, if_neg (fun h => hv h.2.1)]
      exact hj1 l
end Go.Proofs.Ytbdciklcckjknaa.P
