/- Texts of this claim, merged by pack.py: Q9 -/
import Derived.Test.YtbdciklcckjknaaZT08
import Derived.Test.YtbdciklcckjknaaZT09
namespace Go.Proofs.Ytbdciklcckjknaa.P
open Go.RowKit Go.Proofs.YtbdciklcckjknaaW.PrintWords Go.Proofs.YtbdciklcckjknaaW.PrintLast Go.Proofs.YtbdciklcckjknaaW.PrintMore Go.Proofs.YtbdciklcckjknaaW.HB
set_option linter.unusedVariables false
set_option linter.unusedSimpArgs false
set_option maxHeartbeats 1000000 in
theorem opV_eq (kd : Int) (s : ByteArray) (off num : Int) (data : ByteArray) : object_Op.f 40 kd s off num data = some (opV kd (nameB s) s off num data) := by
  unfold object_Op.f
  rw [oname_eq, Option.bind_some]
  have hs0 : s.toList = [] → nameB s = false := by
    intro h
    have : s.size = 0 := by rw [← size_toList, h]; rfl
    unfold nameB; simp [this]
  have z0 : ∀ x : Int, (0 == x) = (x == 0) := fun x => by rw [Bool.eq_iff_iff, beq_iff_eq, beq_iff_eq]; exact eq_comm
  have hsm : ∀ x, smB x = upB x := fun _ => rfl
  have e0 : (([] : List UInt8) == data.toList) = data.toList.isEmpty := by cases data.toList <;> rfl
  generalize nameB s = nm at *
  unfold opW opV
  rw [hsm, hsm, e0, z0 off, z0 num]
  cases nm <;> simp [Bool.and_left_comm]
theorem rop_eq (K : Nat) (kd : Int) (s : ByteArray) (off num : Int) (data : ByteArray) (hs : s.size ≤ 4611686018427387904) (hK : s.size < K) : reefref19_Op.f K kd s off num data = object_Op.f 40 kd s off num data := by
  rw [opV_eq]
  unfold reefref19_Op.f
  rw [show reefref19_Name.f K s = some (nameB s) from rname_l0 s hs s.size K 0 (by omega) hK]
  rfl
def fitE (x : S34) : Prop := x.f1.f3.f1.size ≤ 140737488351232
theorem rent_eq (K : Nat) (hK : 140737488351232 < K) (x : S34) (hx : fitE x) : reefref21_Entry.f K x.f0.f0 x.f0.f1 x.f1.f0 x.f1.f1 x.f1.f2 x.f1.f3.f0 x.f1.f3.f1 x.f1.f3.f2 x.f1.f3.f3 x.f1.f3.f4 x.f2.f0 x.f2.f1 x.f2.f2 x.f2.f3 = some (entB x) := by
  have hx' : x.f1.f3.f1.size ≤ 140737488351232 := hx
  rw [← entF_eq]
  unfold reefref21_Entry.f entF pglog_Entry.f reefref21_Req.f pglog_within.f
  rw [rop_eq K _ _ _ _ _ (by omega) (by omega), opV_eq]
  have hch : reefref19_Changes.f x.f1.f3.f0 = object_Changes.f x.f1.f3.f0 := rfl
  rw [hch]
  obtain ⟨c, hc⟩ := changes_some x.f1.f3.f0
  rw [hc]
  generalize opV _ _ _ _ _ _ = o
  by_cases a1 : x.f0.f0 ≥ 1 <;> by_cases a2 : x.f0.f0 ≤ 1073741824 <;> by_cases a3 : x.f0.f1 ≥ 1 <;> by_cases a4 : x.f0.f1 ≤ 1099511627776 <;> by_cases a5 : x.f1.f0 ≥ 0 <;> by_cases a6 : x.f1.f0 < 4 <;> by_cases a7 : x.f1.f1 ≥ 1 <;> by_cases a8 : x.f1.f1 ≤ 1073741824 <;> by_cases a9 : x.f1.f2 ≥ 1 <;> by_cases a10 : x.f1.f2 ≤ 1073741824 <;> simp [a1, a2, a3, a4, a5, a6, a7, a8, a9, a10]
end Go.Proofs.Ytbdciklcckjknaa.P
