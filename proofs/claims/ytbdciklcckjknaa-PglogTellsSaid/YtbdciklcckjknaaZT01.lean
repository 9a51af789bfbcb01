/- Texts of this claim, merged by pack.py: P0 HO HT HB HQ HI0 HJ G1 PEq1 PEq2 PObjectName PObjectSmall -/
import Derived.Test.YtbdciklcckjknaaProg
import Derived.Below
import Derived.Deep.Draws
import Derived.Deep.AppendLies
import Derived.Maps.AppendAt
import Derived.OwnWalk
import Derived.Laws.BytesArg
import Derived.Laws.MakeOwn
import Derived.Laws.OwnMore
import Derived.Deep.OwnRows
import Derived.Tactics
import Derived.Lib.ConvBytes
import Derived.Laws.Slices
import Derived.WalkKit
import Derived.KernelRfl
import Derived.RowKit3
import Derived.Deep.LoopGhost
import Derived.Deep.QuietTactic
import Derived.BigQuiet
import Derived.WideLaws
import Derived.Deep.DeepCutAuto
import Derived.Deep.CutBlock
import Derived.Deep.RegionHeld3
import Derived.Laws.Rows
import Derived.Lib.AppendStr
import Derived.ArgAppend
import Derived.Laws.IdiomCopy
import Derived.OrdersHeld
import Derived.Laws.BitsLemmas
import Derived.RowKit
import Derived.Test.YtbdciklcckjknaaZT00
import Derived.Deep.Slices
import Derived.SizedLaws
import Derived.WideShapes
import Derived.ChangeArms
import Derived.WalkSpells
import Derived.RangeFuncNested
import Derived.RangeFuncBound
import Derived.RangeFuncCalls
import Derived.RangeFuncLeaves
import Derived.Shelf.Abstract
import Derived.Shelf.RegionOpen
import Derived.OwnWalkIn
import Derived.TacticsInMore
import Derived.LoopNIn
import Derived.LoopIn
namespace Go.Proofs.Ytbdciklcckjknaa.P
open Go.RowKit Go.Proofs.YtbdciklcckjknaaW.PrintWords Go.Proofs.YtbdciklcckjknaaW.PrintLast Go.Proofs.YtbdciklcckjknaaW.PrintMore
attribute [local go_sem] max2_int min2_int max_two min_two max_three min_three max_four min_four
set_option linter.unusedVariables false
set_option linter.unusedSimpArgs false
def errW : Option Int → Value
  | none => .nilIface
  | some c => .iface 0 (.int .i64 c)
theorem errW_none : errW none = .nilIface := rfl
theorem errW_some (c : Int) : errW (some c) = .iface 0 (.int .i64 c) := rfl
theorem info34 : (Try.prog.info? 34).map (fun i => (i.zero, i.size, i.bytes)) = some (some (.agg #[(.int .i64 0), (.int .i64 0), (.int .i64 0), (.int .i64 0), (.int .i64 0), (.int .i64 0), (.string ⟨#[]⟩), (.int .i64 0), (.int .i64 0), (.string ⟨#[]⟩), (.int .i64 0), (.int .i64 0), (.int .i64 0), (.string ⟨#[]⟩)]), 14, 136) := by kernel_rfl
structure S24 where
  f0 : Int
  f1 : Int
def z24 : S24 := ⟨(0 : Int), (0 : Int)⟩
def k24 : Kd S24 := Kd.iso (Kd.pair (Kd.int .i64) (Kd.int .i64)) (fun x : S24 => (x.f0, x.f1))
theorem k24_open {w : World} {x : S24} {cs : List Value} (h : k24.K w x cs) : cs = [.int .i64 x.f0, .int .i64 x.f1] := by
  obtain ⟨_, _, rfl, rfl, rfl⟩ := h
  exact rfl
theorem k24_mk (w : World) (x : S24)  : k24.K w x [.int .i64 x.f0, .int .i64 x.f1] := ⟨[.int .i64 x.f0], [.int .i64 x.f1], rfl, rfl, rfl⟩
theorem k24_mkM (w : World) (base : Nat) (ok : Nat → Prop) (x : S24)  : k24.M w base ok x [.int .i64 x.f0, .int .i64 x.f1] := ⟨[.int .i64 x.f0], [.int .i64 x.f1], rfl, rfl, rfl⟩
structure S27 where
  f0 : Int
  f1 : ByteArray
  f2 : Int
  f3 : Int
  f4 : ByteArray
def z27 : S27 := ⟨(0 : Int), (⟨#[]⟩ : ByteArray), (0 : Int), (0 : Int), (⟨#[]⟩ : ByteArray)⟩
def k27 : Kd S27 := Kd.iso (Kd.pair (Kd.int .i64) (Kd.pair Kd.string (Kd.pair (Kd.int .i64) (Kd.pair (Kd.int .i64) Kd.string)))) (fun x : S27 => (x.f0, x.f1, x.f2, x.f3, x.f4))
theorem k27_open {w : World} {x : S27} {cs : List Value} (h : k27.K w x cs) : cs = [.int .i64 x.f0, .string x.f1, .int .i64 x.f2, .int .i64 x.f3, .string x.f4] := by
  obtain ⟨_, _, rfl, rfl, ⟨_, _, rfl, rfl, ⟨_, _, rfl, rfl, ⟨_, _, rfl, rfl, rfl⟩⟩⟩⟩ := h
  exact rfl
theorem k27_mk (w : World) (x : S27)  : k27.K w x [.int .i64 x.f0, .string x.f1, .int .i64 x.f2, .int .i64 x.f3, .string x.f4] := ⟨[.int .i64 x.f0], [.string x.f1, .int .i64 x.f2, .int .i64 x.f3, .string x.f4], rfl, rfl, ⟨[.string x.f1], [.int .i64 x.f2, .int .i64 x.f3, .string x.f4], rfl, rfl, ⟨[.int .i64 x.f2], [.int .i64 x.f3, .string x.f4], rfl, rfl, ⟨[.int .i64 x.f3], [.string x.f4], rfl, rfl, rfl⟩⟩⟩⟩
theorem k27_mkM (w : World) (base : Nat) (ok : Nat → Prop) (x : S27)  : k27.M w base ok x [.int .i64 x.f0, .string x.f1, .int .i64 x.f2, .int .i64 x.f3, .string x.f4] := ⟨[.int .i64 x.f0], [.string x.f1, .int .i64 x.f2, .int .i64 x.f3, .string x.f4], rfl, rfl, ⟨[.string x.f1], [.int .i64 x.f2, .int .i64 x.f3, .string x.f4], rfl, rfl, ⟨[.int .i64 x.f2], [.int .i64 x.f3, .string x.f4], rfl, rfl, ⟨[.int .i64 x.f3], [.string x.f4], rfl, rfl, rfl⟩⟩⟩⟩
structure S29 where
  f0 : Int
  f1 : Int
  f2 : Int
  f3 : S27
def z29 : S29 := ⟨(0 : Int), (0 : Int), (0 : Int), z27⟩
def k29 : Kd S29 := Kd.iso (Kd.pair (Kd.int .i64) (Kd.pair (Kd.int .i64) (Kd.pair (Kd.int .i64) k27))) (fun x : S29 => (x.f0, x.f1, x.f2, x.f3))
theorem k29_open {w : World} {x : S29} {cs : List Value} (h : k29.K w x cs) : cs = [.int .i64 x.f0, .int .i64 x.f1, .int .i64 x.f2, .int .i64 x.f3.f0, .string x.f3.f1, .int .i64 x.f3.f2, .int .i64 x.f3.f3, .string x.f3.f4] := by
  obtain ⟨_, _, rfl, rfl, ⟨_, _, rfl, rfl, ⟨_, _, rfl, rfl, s3⟩⟩⟩ := h
  obtain rfl := k27_open s3
  exact rfl
theorem k29_mk (w : World) (x : S29)  : k29.K w x [.int .i64 x.f0, .int .i64 x.f1, .int .i64 x.f2, .int .i64 x.f3.f0, .string x.f3.f1, .int .i64 x.f3.f2, .int .i64 x.f3.f3, .string x.f3.f4] := ⟨[.int .i64 x.f0], [.int .i64 x.f1, .int .i64 x.f2, .int .i64 x.f3.f0, .string x.f3.f1, .int .i64 x.f3.f2, .int .i64 x.f3.f3, .string x.f3.f4], rfl, rfl, ⟨[.int .i64 x.f1], [.int .i64 x.f2, .int .i64 x.f3.f0, .string x.f3.f1, .int .i64 x.f3.f2, .int .i64 x.f3.f3, .string x.f3.f4], rfl, rfl, ⟨[.int .i64 x.f2], [.int .i64 x.f3.f0, .string x.f3.f1, .int .i64 x.f3.f2, .int .i64 x.f3.f3, .string x.f3.f4], rfl, rfl, (k27_mk w x.f3 )⟩⟩⟩
theorem k29_mkM (w : World) (base : Nat) (ok : Nat → Prop) (x : S29)  : k29.M w base ok x [.int .i64 x.f0, .int .i64 x.f1, .int .i64 x.f2, .int .i64 x.f3.f0, .string x.f3.f1, .int .i64 x.f3.f2, .int .i64 x.f3.f3, .string x.f3.f4] := ⟨[.int .i64 x.f0], [.int .i64 x.f1, .int .i64 x.f2, .int .i64 x.f3.f0, .string x.f3.f1, .int .i64 x.f3.f2, .int .i64 x.f3.f3, .string x.f3.f4], rfl, rfl, ⟨[.int .i64 x.f1], [.int .i64 x.f2, .int .i64 x.f3.f0, .string x.f3.f1, .int .i64 x.f3.f2, .int .i64 x.f3.f3, .string x.f3.f4], rfl, rfl, ⟨[.int .i64 x.f2], [.int .i64 x.f3.f0, .string x.f3.f1, .int .i64 x.f3.f2, .int .i64 x.f3.f3, .string x.f3.f4], rfl, rfl, (k27_mkM w base ok x.f3 )⟩⟩⟩
structure S32 where
  f0 : Int
  f1 : Int
  f2 : Int
  f3 : ByteArray
def z32 : S32 := ⟨(0 : Int), (0 : Int), (0 : Int), (⟨#[]⟩ : ByteArray)⟩
def k32 : Kd S32 := Kd.iso (Kd.pair (Kd.int .i64) (Kd.pair (Kd.int .i64) (Kd.pair (Kd.int .i64) Kd.string))) (fun x : S32 => (x.f0, x.f1, x.f2, x.f3))
theorem k32_open {w : World} {x : S32} {cs : List Value} (h : k32.K w x cs) : cs = [.int .i64 x.f0, .int .i64 x.f1, .int .i64 x.f2, .string x.f3] := by
  obtain ⟨_, _, rfl, rfl, ⟨_, _, rfl, rfl, ⟨_, _, rfl, rfl, rfl⟩⟩⟩ := h
  exact rfl
theorem k32_mk (w : World) (x : S32)  : k32.K w x [.int .i64 x.f0, .int .i64 x.f1, .int .i64 x.f2, .string x.f3] := ⟨[.int .i64 x.f0], [.int .i64 x.f1, .int .i64 x.f2, .string x.f3], rfl, rfl, ⟨[.int .i64 x.f1], [.int .i64 x.f2, .string x.f3], rfl, rfl, ⟨[.int .i64 x.f2], [.string x.f3], rfl, rfl, rfl⟩⟩⟩
theorem k32_mkM (w : World) (base : Nat) (ok : Nat → Prop) (x : S32)  : k32.M w base ok x [.int .i64 x.f0, .int .i64 x.f1, .int .i64 x.f2, .string x.f3] := ⟨[.int .i64 x.f0], [.int .i64 x.f1, .int .i64 x.f2, .string x.f3], rfl, rfl, ⟨[.int .i64 x.f1], [.int .i64 x.f2, .string x.f3], rfl, rfl, ⟨[.int .i64 x.f2], [.string x.f3], rfl, rfl, rfl⟩⟩⟩
structure S34 where
  f0 : S24
  f1 : S29
  f2 : S32
def z34 : S34 := ⟨z24, z29, z32⟩
def k34 : Kd S34 := Kd.iso (Kd.pair k24 (Kd.pair k29 k32)) (fun x : S34 => (x.f0, x.f1, x.f2))
theorem k34_open {w : World} {x : S34} {cs : List Value} (h : k34.K w x cs) : cs = [.int .i64 x.f0.f0, .int .i64 x.f0.f1, .int .i64 x.f1.f0, .int .i64 x.f1.f1, .int .i64 x.f1.f2, .int .i64 x.f1.f3.f0, .string x.f1.f3.f1, .int .i64 x.f1.f3.f2, .int .i64 x.f1.f3.f3, .string x.f1.f3.f4, .int .i64 x.f2.f0, .int .i64 x.f2.f1, .int .i64 x.f2.f2, .string x.f2.f3] := by
  obtain ⟨_, _, rfl, s0, ⟨_, _, rfl, s2, s10⟩⟩ := h
  obtain rfl := k24_open s0
  obtain rfl := k29_open s2
  obtain rfl := k32_open s10
  exact rfl
theorem k34_mk (w : World) (x : S34)  : k34.K w x [.int .i64 x.f0.f0, .int .i64 x.f0.f1, .int .i64 x.f1.f0, .int .i64 x.f1.f1, .int .i64 x.f1.f2, .int .i64 x.f1.f3.f0, .string x.f1.f3.f1, .int .i64 x.f1.f3.f2, .int .i64 x.f1.f3.f3, .string x.f1.f3.f4, .int .i64 x.f2.f0, .int .i64 x.f2.f1, .int .i64 x.f2.f2, .string x.f2.f3] := ⟨[.int .i64 x.f0.f0, .int .i64 x.f0.f1], [.int .i64 x.f1.f0, .int .i64 x.f1.f1, .int .i64 x.f1.f2, .int .i64 x.f1.f3.f0, .string x.f1.f3.f1, .int .i64 x.f1.f3.f2, .int .i64 x.f1.f3.f3, .string x.f1.f3.f4, .int .i64 x.f2.f0, .int .i64 x.f2.f1, .int .i64 x.f2.f2, .string x.f2.f3], rfl, (k24_mk w x.f0 ), ⟨[.int .i64 x.f1.f0, .int .i64 x.f1.f1, .int .i64 x.f1.f2, .int .i64 x.f1.f3.f0, .string x.f1.f3.f1, .int .i64 x.f1.f3.f2, .int .i64 x.f1.f3.f3, .string x.f1.f3.f4], [.int .i64 x.f2.f0, .int .i64 x.f2.f1, .int .i64 x.f2.f2, .string x.f2.f3], rfl, (k29_mk w x.f1 ), (k32_mk w x.f2 )⟩⟩
theorem k34_mkM (w : World) (base : Nat) (ok : Nat → Prop) (x : S34)  : k34.M w base ok x [.int .i64 x.f0.f0, .int .i64 x.f0.f1, .int .i64 x.f1.f0, .int .i64 x.f1.f1, .int .i64 x.f1.f2, .int .i64 x.f1.f3.f0, .string x.f1.f3.f1, .int .i64 x.f1.f3.f2, .int .i64 x.f1.f3.f3, .string x.f1.f3.f4, .int .i64 x.f2.f0, .int .i64 x.f2.f1, .int .i64 x.f2.f2, .string x.f2.f3] := ⟨[.int .i64 x.f0.f0, .int .i64 x.f0.f1], [.int .i64 x.f1.f0, .int .i64 x.f1.f1, .int .i64 x.f1.f2, .int .i64 x.f1.f3.f0, .string x.f1.f3.f1, .int .i64 x.f1.f3.f2, .int .i64 x.f1.f3.f3, .string x.f1.f3.f4, .int .i64 x.f2.f0, .int .i64 x.f2.f1, .int .i64 x.f2.f2, .string x.f2.f3], rfl, (k24_mkM w base ok x.f0 ), ⟨[.int .i64 x.f1.f0, .int .i64 x.f1.f1, .int .i64 x.f1.f2, .int .i64 x.f1.f3.f0, .string x.f1.f3.f1, .int .i64 x.f1.f3.f2, .int .i64 x.f1.f3.f3, .string x.f1.f3.f4], [.int .i64 x.f2.f0, .int .i64 x.f2.f1, .int .i64 x.f2.f2, .string x.f2.f3], rfl, (k29_mkM w base ok x.f1 ), (k32_mkM w base ok x.f2 )⟩⟩
def rd_T34 (xs : List S34) (i : Int) : S34 := xs.getD i.toNat z34
theorem at_T34 {w : World} {A : Option Addr} {n : Nat} {xs : List S34} (h : Kd.C k34 w A n xs) (i : Int) (h0 : 0 ≤ i) (h1 : i < n) : ∃ ad , A = some ad ∧ w.cell? (ad.add (i.toNat * 14)) = some (.int .i64 (rd_T34 xs i).f0.f0) ∧ w.cell? ⟨(ad.add (i.toNat * 14)).block, (ad.add (i.toNat * 14)).off + 1, none⟩ = some (.int .i64 (rd_T34 xs i).f0.f1) ∧ w.cell? ⟨(ad.add (i.toNat * 14)).block, (ad.add (i.toNat * 14)).off + 2, none⟩ = some (.int .i64 (rd_T34 xs i).f1.f0) ∧ w.cell? ⟨(ad.add (i.toNat * 14)).block, (ad.add (i.toNat * 14)).off + 3, none⟩ = some (.int .i64 (rd_T34 xs i).f1.f1) ∧ w.cell? ⟨(ad.add (i.toNat * 14)).block, (ad.add (i.toNat * 14)).off + 4, none⟩ = some (.int .i64 (rd_T34 xs i).f1.f2) ∧ w.cell? ⟨(ad.add (i.toNat * 14)).block, (ad.add (i.toNat * 14)).off + 5, none⟩ = some (.int .i64 (rd_T34 xs i).f1.f3.f0) ∧ w.cell? ⟨(ad.add (i.toNat * 14)).block, (ad.add (i.toNat * 14)).off + 6, none⟩ = some (.string (rd_T34 xs i).f1.f3.f1) ∧ w.cell? ⟨(ad.add (i.toNat * 14)).block, (ad.add (i.toNat * 14)).off + 7, none⟩ = some (.int .i64 (rd_T34 xs i).f1.f3.f2) ∧ w.cell? ⟨(ad.add (i.toNat * 14)).block, (ad.add (i.toNat * 14)).off + 8, none⟩ = some (.int .i64 (rd_T34 xs i).f1.f3.f3) ∧ w.cell? ⟨(ad.add (i.toNat * 14)).block, (ad.add (i.toNat * 14)).off + 9, none⟩ = some (.string (rd_T34 xs i).f1.f3.f4) ∧ w.cell? ⟨(ad.add (i.toNat * 14)).block, (ad.add (i.toNat * 14)).off + 10, none⟩ = some (.int .i64 (rd_T34 xs i).f2.f0) ∧ w.cell? ⟨(ad.add (i.toNat * 14)).block, (ad.add (i.toNat * 14)).off + 11, none⟩ = some (.int .i64 (rd_T34 xs i).f2.f1) ∧ w.cell? ⟨(ad.add (i.toNat * 14)).block, (ad.add (i.toNat * 14)).off + 12, none⟩ = some (.int .i64 (rd_T34 xs i).f2.f2) ∧ w.cell? ⟨(ad.add (i.toNat * 14)).block, (ad.add (i.toNat * 14)).off + 13, none⟩ = some (.string (rd_T34 xs i).f2.f3) := by
  obtain ⟨ad, c, e, _, hK, hc0⟩ := Kd.C_get h z34 i h0 h1
  have hc : ∀ j u, c[j]? = some u → w.cell? (ad.add (i.toNat * 14 + j)) = some u := hc0
  obtain rfl := k34_open hK
  exact ⟨ad, e, hc 0 _ rfl, by rw [← add_field _ _ 1 (by omega)]; exact hc 1 _ rfl, by rw [← add_field _ _ 2 (by omega)]; exact hc 2 _ rfl, by rw [← add_field _ _ 3 (by omega)]; exact hc 3 _ rfl, by rw [← add_field _ _ 4 (by omega)]; exact hc 4 _ rfl, by rw [← add_field _ _ 5 (by omega)]; exact hc 5 _ rfl, by rw [← add_field _ _ 6 (by omega)]; exact hc 6 _ rfl, by rw [← add_field _ _ 7 (by omega)]; exact hc 7 _ rfl, by rw [← add_field _ _ 8 (by omega)]; exact hc 8 _ rfl, by rw [← add_field _ _ 9 (by omega)]; exact hc 9 _ rfl, by rw [← add_field _ _ 10 (by omega)]; exact hc 10 _ rfl, by rw [← add_field _ _ 11 (by omega)]; exact hc 11 _ rfl, by rw [← add_field _ _ 12 (by omega)]; exact hc 12 _ rfl, by rw [← add_field _ _ 13 (by omega)]; exact hc 13 _ rfl⟩
structure S92 where
  f0 : Int
  f1 : Int
structure S94 where
  f0 : S92
  f1 : Int
structure S73 where
  f0 : Int
  f1 : Int
  f2 : Int
  f3 : S32
def z73 : S73 := ⟨(0 : Int), (0 : Int), (0 : Int), z32⟩
def k73 : Kd S73 := Kd.iso (Kd.pair (Kd.int .i64) (Kd.pair (Kd.int .i64) (Kd.pair (Kd.int .i64) k32))) (fun x : S73 => (x.f0, x.f1, x.f2, x.f3))
theorem k73_open {w : World} {x : S73} {cs : List Value} (h : k73.K w x cs) : cs = [.int .i64 x.f0, .int .i64 x.f1, .int .i64 x.f2, .int .i64 x.f3.f0, .int .i64 x.f3.f1, .int .i64 x.f3.f2, .string x.f3.f3] := by
  obtain ⟨_, _, rfl, rfl, ⟨_, _, rfl, rfl, ⟨_, _, rfl, rfl, s3⟩⟩⟩ := h
  obtain rfl := k32_open s3
  exact rfl
def rd_T73 (xs : List S73) (i : Int) : S73 := xs.getD i.toNat z73
theorem at_T73 {w : World} {A : Option Addr} {n : Nat} {xs : List S73} (h : Kd.C k73 w A n xs) (i : Int) (h0 : 0 ≤ i) (h1 : i < n) : ∃ ad , A = some ad ∧ w.cell? (ad.add (i.toNat * 7)) = some (.int .i64 (rd_T73 xs i).f0) ∧ w.cell? ⟨(ad.add (i.toNat * 7)).block, (ad.add (i.toNat * 7)).off + 1, none⟩ = some (.int .i64 (rd_T73 xs i).f1) ∧ w.cell? ⟨(ad.add (i.toNat * 7)).block, (ad.add (i.toNat * 7)).off + 2, none⟩ = some (.int .i64 (rd_T73 xs i).f2) ∧ w.cell? ⟨(ad.add (i.toNat * 7)).block, (ad.add (i.toNat * 7)).off + 3, none⟩ = some (.int .i64 (rd_T73 xs i).f3.f0) ∧ w.cell? ⟨(ad.add (i.toNat * 7)).block, (ad.add (i.toNat * 7)).off + 4, none⟩ = some (.int .i64 (rd_T73 xs i).f3.f1) ∧ w.cell? ⟨(ad.add (i.toNat * 7)).block, (ad.add (i.toNat * 7)).off + 5, none⟩ = some (.int .i64 (rd_T73 xs i).f3.f2) ∧ w.cell? ⟨(ad.add (i.toNat * 7)).block, (ad.add (i.toNat * 7)).off + 6, none⟩ = some (.string (rd_T73 xs i).f3.f3) := by
  obtain ⟨ad, c, e, _, hK, hc0⟩ := Kd.C_get h z73 i h0 h1
  have hc : ∀ j u, c[j]? = some u → w.cell? (ad.add (i.toNat * 7 + j)) = some u := hc0
  obtain rfl := k73_open hK
  exact ⟨ad, e, hc 0 _ rfl, by rw [← add_field _ _ 1 (by omega)]; exact hc 1 _ rfl, by rw [← add_field _ _ 2 (by omega)]; exact hc 2 _ rfl, by rw [← add_field _ _ 3 (by omega)]; exact hc 3 _ rfl, by rw [← add_field _ _ 4 (by omega)]; exact hc 4 _ rfl, by rw [← add_field _ _ 5 (by omega)]; exact hc 5 _ rfl, by rw [← add_field _ _ 6 (by omega)]; exact hc 6 _ rfl⟩
structure S81 where
  f0 : Int
  f1 : Int
def z81 : S81 := ⟨(0 : Int), (0 : Int)⟩
def k81 : Kd S81 := Kd.iso (Kd.pair (Kd.int .i64) (Kd.int .i64)) (fun x : S81 => (x.f0, x.f1))
theorem k81_open {w : World} {x : S81} {cs : List Value} (h : k81.K w x cs) : cs = [.int .i64 x.f0, .int .i64 x.f1] := by
  obtain ⟨_, _, rfl, rfl, rfl⟩ := h
  exact rfl
structure S83 where
  f0 : ByteArray
  f1 : ByteArray
  f2 : Bool
  f3 : S81
def z83 : S83 := ⟨(⟨#[]⟩ : ByteArray), (⟨#[]⟩ : ByteArray), false, z81⟩
def k83 : Kd S83 := Kd.iso (Kd.pair Kd.string (Kd.pair Kd.string (Kd.pair Kd.bool k81))) (fun x : S83 => (x.f0, x.f1, x.f2, x.f3))
theorem k83_open {w : World} {x : S83} {cs : List Value} (h : k83.K w x cs) : cs = [.string x.f0, .string x.f1, .bool x.f2, .int .i64 x.f3.f0, .int .i64 x.f3.f1] := by
  obtain ⟨_, _, rfl, rfl, ⟨_, _, rfl, rfl, ⟨_, _, rfl, rfl, s3⟩⟩⟩ := h
  obtain rfl := k81_open s3
  exact rfl
def rd_T83 (xs : List S83) (i : Int) : S83 := xs.getD i.toNat z83
theorem at_T83 {w : World} {A : Option Addr} {n : Nat} {xs : List S83} (h : Kd.C k83 w A n xs) (i : Int) (h0 : 0 ≤ i) (h1 : i < n) : ∃ ad , A = some ad ∧ w.cell? (ad.add (i.toNat * 5)) = some (.string (rd_T83 xs i).f0) ∧ w.cell? ⟨(ad.add (i.toNat * 5)).block, (ad.add (i.toNat * 5)).off + 1, none⟩ = some (.string (rd_T83 xs i).f1) ∧ w.cell? ⟨(ad.add (i.toNat * 5)).block, (ad.add (i.toNat * 5)).off + 2, none⟩ = some (.bool (rd_T83 xs i).f2) ∧ w.cell? ⟨(ad.add (i.toNat * 5)).block, (ad.add (i.toNat * 5)).off + 3, none⟩ = some (.int .i64 (rd_T83 xs i).f3.f0) ∧ w.cell? ⟨(ad.add (i.toNat * 5)).block, (ad.add (i.toNat * 5)).off + 4, none⟩ = some (.int .i64 (rd_T83 xs i).f3.f1) := by
  obtain ⟨ad, c, e, _, hK, hc0⟩ := Kd.C_get h z83 i h0 h1
  have hc : ∀ j u, c[j]? = some u → w.cell? (ad.add (i.toNat * 5 + j)) = some u := hc0
  obtain rfl := k83_open hK
  exact ⟨ad, e, hc 0 _ rfl, by rw [← add_field _ _ 1 (by omega)]; exact hc 1 _ rfl, by rw [← add_field _ _ 2 (by omega)]; exact hc 2 _ rfl, by rw [← add_field _ _ 3 (by omega)]; exact hc 3 _ rfl, by rw [← add_field _ _ 4 (by omega)]; exact hc 4 _ rfl⟩
structure S51 where
  f0 : Int
  f1 : Int
def z51 : S51 := ⟨(0 : Int), (0 : Int)⟩
def k51 : Kd S51 := Kd.iso (Kd.pair (Kd.int .i64) (Kd.int .i64)) (fun x : S51 => (x.f0, x.f1))
theorem k51_open {w : World} {x : S51} {cs : List Value} (h : k51.K w x cs) : cs = [.int .i64 x.f0, .int .i64 x.f1] := by
  obtain ⟨_, _, rfl, rfl, rfl⟩ := h
  exact rfl
structure S55 where
  f0 : S51
  f1 : Int
  f2 : S24
  f3 : (List S34)
  f4 : (List S73)
  f5 : (List S83)
def k55 : Kd S55 := Kd.iso (Kd.pair k51 (Kd.pair (Kd.int .i64) (Kd.pair k24 (Kd.pair (Kd.slice 34 k34) (Kd.pair (Kd.slice 73 k73) (Kd.slice 83 k83)))))) (fun x : S55 => (x.f0, x.f1, x.f2, x.f3, x.f4, x.f5))
end Go.Proofs.Ytbdciklcckjknaa.P
namespace Go.Proofs.YtbdciklcckjknaaW.HO
open Go.RowKit Go.Proofs.YtbdciklcckjknaaW.PrintWords Go.ChangeShapes Go.WideShapes
set_option linter.unusedVariables false
set_option linter.unusedSectionVars false
section
variable {H : Type} {enc : TypeId × Value → H} {P : Program} {W : World}
structure Opn (enc : TypeId × Value → H) (P : Program) (W : World) (t : TypeId) {α : Type} (d : Kd α) (B : α → Prop) : Prop where
  go : ∀ (fuel : Nat) (cs : List Value) (D : DataW H) (ps : List MemPlace), DataW.trod enc P W 0 (fun _ => true) true fuel t cs = some (D, ps) → (∀ n ∈ D.weights P t, n ≤ reachBytes) → ∃ x, d.K W x cs ∧ B x
theorem Opn.int {t : TypeId} {k : IntKind} (hu : P.underlying t = some (.int k)) : Opn enc P W t (Kd.int k) (fun x => (Lit.int k x).wf = true) := ⟨fun fuel cs D ps h _ => by
  obtain ⟨n, rfl, _, hw⟩ := DataW.trod_int hu h
  exact ⟨n, rfl, hw⟩⟩
theorem Opn.bool {t : TypeId} (hu : P.underlying t = some .bool) : Opn enc P W t Kd.bool (fun _ => True) := ⟨fun fuel cs D ps h _ => by
  obtain ⟨n, rfl, _⟩ := DataW.trod_bool hu h
  exact ⟨n, rfl, trivial⟩⟩
theorem Opn.string {t : TypeId} (hu : P.underlying t = some .string) : Opn enc P W t Kd.string (fun s => s.size ≤ 140737488351232) := ⟨fun fuel cs D ps h hw => by
  obtain ⟨s, rfl, hx, _⟩ := DataW.trod_string hu h
  have hD := congrArg Prod.fst hx
  dsimp only at hD
  subst hD
  refine ⟨s, rfl, ?_⟩
  have := hw s.data.toList.length (by simp [DataW.weights])
  rw [Array.length_toList] at this
  exact this⟩
structure OpnF (enc : TypeId × Value → H) (P : Program) (W : World) (fs : List Field) (off : Nat) {α : Type} (d : Kd α) (B : α → Prop) : Prop where
  go : ∀ (fuel : Nat) (cs : List Value) (xs : List (DataW H × List MemPlace)), xs.length = fs.length → (∀ (i : Nat) (f : Field), fs[i]? = some f → DataW.trod enc P W 0 (fun _ => true) true fuel f.type ((cs.drop f.offset).take (P.cellsOf f.type)) = xs[i]?) →
    (∀ n ∈ DataW.weightsEach P (fs.map (·.type)) (xs.map (·.1)), n ≤ reachBytes) → ∃ x, d.K W x ((cs.drop off).take d.sz) ∧ B x
theorem OpnF.last {f : Field} {off : Nat} {α : Type} {d : Kd α} {B : α → Prop} (ho : f.offset = off) (hc : P.cellsOf f.type = d.sz) (h : Opn enc P W f.type d B) : OpnF enc P W [f] off d B := ⟨fun fuel cs xs hl hx hw => by
  match xs, hl with
  | [y], _ =>
    have h0 := hx 0 f rfl
    rw [ho, hc] at h0
    exact h.go fuel _ _ _ h0 (fun n hn => hw n (by simp [DataW.weightsEach, hn]))⟩
theorem OpnF.cons {f : Field} {fs : List Field} {off off' : Nat} {α β : Type} {a : Kd α} {b : Kd β} {A : α → Prop} {B : β → Prop} (ho : f.offset = off) (hc : P.cellsOf f.type = a.sz) (ho' : off + a.sz = off') (h : Opn enc P W f.type a A) (hs : OpnF enc P W fs off' b B) :
    OpnF enc P W (f :: fs) off (Kd.pair a b) (fun x => A x.1 ∧ B x.2) := ⟨fun fuel cs xs hl hx hw => by
  match xs, hl with
  | y :: ys, hl =>
    have h0 := hx 0 f rfl
    rw [ho, hc] at h0
    obtain ⟨x0, k0, b0⟩ := h.go fuel _ y.1 y.2 h0 (fun n hn => hw n (by simp [DataW.weightsEach, hn]))
    obtain ⟨x1, k1, b1⟩ := hs.go fuel cs ys (by simpa using hl) (fun i g hg => hx (i + 1) g hg) (fun n hn => hw n (by simp only [List.map_cons, DataW.weightsEach, List.mem_append]; exact .inr hn))
    refine ⟨(x0, x1), ⟨_, _, ?_, k0, k1⟩, b0, b1⟩
    show List.take (a.sz + b.sz) (List.drop off cs) = _
    rw [List.take_add, List.drop_drop, ho']⟩
theorem Opn.struct {t : TypeId} {fs : Array Field} {α β : Type} {d : Kd α} {B : α → Prop} (hu : P.underlying t = some (.struct fs)) (hc : P.cellsOf t = d.sz) (h : OpnF enc P W fs.toList 0 d B) (f : β → α) (g : α → β) (hg : ∀ x, f (g x) = x) :
    Opn enc P W t (Kd.iso d f) (fun y => B (f y)) := ⟨fun fuel cs D ps hx hw => by
  obtain ⟨xs, k, hk, hxy, hcl, hxl, hf⟩ := DataW.trod_struct hu hx
  have hD := congrArg Prod.fst hxy
  dsimp only at hD
  subst hD
  obtain ⟨x, hK, hB⟩ := h.go k cs xs (by simpa using hxl) (fun i f' hf' => hf i f' (by simpa using hf')) (fun n hn => hw n (by simp [DataW.weights, hu]; simpa using hn))
  rw [List.drop_zero, ← hc, ← hcl, List.take_length] at hK
  exact ⟨g x, by show d.K W (f (g x)) cs; rw [hg]; exact hK, by show B (f (g x)); rw [hg]; exact hB⟩⟩
theorem weightsAll_mem {e : TypeId} {l : List (DataW H)} {D : DataW H} (hD : D ∈ l) {n : Nat} (hn : n ∈ D.weights P e) : n ∈ DataW.weightsAll P e l := by
  induction l with
  | nil => cases hD
  | cons y l ih =>
    rw [DataW.weightsAll, List.mem_append]
    rcases List.mem_cons.1 hD with rfl | h
    · exact .inl hn
    · exact .inr (ih h)
theorem Opn.slice {t e : TypeId} {α : Type} {d : Kd α} {B : α → Prop} {bytes : Nat} (hu : P.underlying t = some (.slice e)) (hc : P.cellsOf e = d.sz) (hb : P.bytesOf e = bytes) (h : Opn enc P W e d B) :
    Opn enc P W t (Kd.slice e d) (fun xs => xs.length * bytes ≤ 140737488351232 ∧ ∀ x ∈ xs, B x) := ⟨fun fuel cs D ps hx hw => by
  rcases Deep.open_slice hu hx with ⟨rfl, _⟩ | ⟨x, l, c, m, n, Dd, Pl, rfl, _, hl, hm, hmm, hxx, hi⟩
  · exact ⟨[], ⟨none, 0, rfl, Nat.le_refl _, rfl, by simp, fun h => absurd h (Nat.lt_irrefl _)⟩, by simp, fun x hx => by cases hx⟩
  · have hD := congrArg Prod.fst hxx
    dsimp only at hD
    subst hD
    have hlm : l ≤ m := by rw [hmm]; split <;> omega
    rcases Nat.eq_zero_or_pos l with rfl | hpos
    · exact ⟨[], ⟨some x, c, rfl, Nat.zero_le _, rfl, by simp, fun h => absurd h (Nat.lt_irrefl _)⟩, by simp, fun x hx => by cases hx⟩
    have hv0 : ∀ i, i < l → ∃ v cs', cs'.length = d.sz ∧ d.K W v cs' ∧ B v ∧ (∀ q u, cs'[q]? = some u → W.cell? (x.add (i * d.sz + q)) = some u) := fun i hil => by
      obtain ⟨cs', h1, h2⟩ := hi i (by omega)
      obtain ⟨_, hlen, hcell⟩ := World.cells?_some h1
      obtain ⟨v, hK, hB⟩ := h.go n cs' (Dd i) (Pl i) h2 (fun n hn => hw n (by
        simp only [DataW.weights, hu, List.mem_cons, List.mem_append]
        exact .inr (.inl (weightsAll_mem (List.mem_map.2 ⟨i, List.mem_range.2 hil, rfl⟩) hn))))
      refine ⟨v, cs', by rw [← hc]; exact hlen, hK, hB, fun q u hq => ?_⟩
      have hq' : q < P.cellsOf e := by have := (List.getElem?_eq_some_iff.1 hq).1; omega
      have := hcell q hq'
      rw [Deep.add_add, hc] at this
      exact this.trans hq
    obtain ⟨z, _⟩ := hv0 0 hpos
    have hv : ∀ i, ∃ v, i < l → ∃ cs', cs'.length = d.sz ∧ d.K W v cs' ∧ B v ∧ (∀ q u, cs'[q]? = some u → W.cell? (x.add (i * d.sz + q)) = some u) := fun i => by
      by_cases hil : i < l
      · obtain ⟨v, h2⟩ := hv0 i hil
        exact ⟨v, fun _ => h2⟩
      · exact ⟨z, fun h => absurd h hil⟩
    let f : Nat → α := fun i => Classical.choose (hv i)
    have hf := fun i => Classical.choose_spec (hv i)
    have hlen : ((List.range l).map f).length = l := by simp
    refine ⟨(List.range l).map f, ⟨some x, c, by rw [hlen], by rw [hlen]; exact hl, by rw [hlen], by rw [hlen]; unfold maxLen at hm; omega, fun _ => ⟨x, rfl, fun j p hp => ?_⟩⟩, ?_, ?_⟩
    · have hjl : j < l := by have := (List.getElem?_eq_some_iff.1 hp).1; simpa using this
      obtain rfl : f j = p := by have := (List.getElem?_eq_some_iff.1 hp).2; simpa using this
      obtain ⟨cs', h1, h2, _, h4⟩ := hf j hjl
      exact ⟨cs', h1, h2, h4⟩
    · rw [hlen]
      have := hw _ (by simp only [DataW.weights, hu]; exact List.mem_cons_self)
      rw [hb] at this
      simp only [List.length_map, List.length_range, reachBytes] at this
      exact Nat.le_trans (Nat.mul_le_mul_right _ (Nat.le_add_right _ _)) this
    · intro y hy
      obtain ⟨j, hj, rfl⟩ := List.mem_map.1 hy
      obtain ⟨_, _, _, h3, _⟩ := hf j (List.mem_range.1 hj)
      exact h3⟩
theorem Opn.arg {t : TypeId} {α : Type} {d : Kd α} {B : α → Prop} (h : Opn enc P W t d B) {ts : List TypeId} {ds : List (DataW H)} {j : Nat} {D : DataW H} {v : Value} {ps : List MemPlace}
    (hsz : (DataW.weightsEach P ts ds).all (· ≤ reachBytes) = true) (ht : ts[j]? = some t) (hd : ds[j]? = some D) (hx : DataW.Trod enc P W 0 (fun _ => true) true t v D ps) : ∃ x, d.K W x v.cells.toList ∧ B x := by
  obtain ⟨fuel, hf⟩ := hx
  exact h.go fuel _ D ps hf (fun n hn => by simpa using List.all_eq_true.1 hsz _ (DataW.weights_mem_each ht hd n hn))
end
end Go.Proofs.YtbdciklcckjknaaW.HO
namespace Go.Proofs.Ytbdciklcckjknaa.P
open Go.RowKit Go.Proofs.YtbdciklcckjknaaW.PrintWords Go.Proofs.YtbdciklcckjknaaW.HO
set_option linter.unusedVariables false
def bdT24 (x : S24) : Prop := ((Lit.int .i64 x.f0).wf = true) ∧ ((Lit.int .i64 x.f1).wf = true)
theorem opT24 {H : Type} {enc : TypeId × Value → H} {W : World} : Opn enc Try.prog W 24 k24 bdT24 := by
  have h := Opn.struct (H := H) (enc := enc) (P := Try.prog) (W := W) (t := 24) Try.underlying24 (by kernel_rfl) (OpnF.cons rfl (by kernel_rfl) rfl (Opn.int Try.underlying2) (OpnF.last rfl (by kernel_rfl) (Opn.int Try.underlying2))) (fun x : S24 => (x.f0, x.f1)) (fun p => ⟨p.1, p.2⟩) (fun _ => rfl)
  exact h
def bdT27 (x : S27) : Prop := ((Lit.int .i64 x.f0).wf = true) ∧ (x.f1.size ≤ 140737488351232) ∧ ((Lit.int .i64 x.f2).wf = true) ∧ ((Lit.int .i64 x.f3).wf = true) ∧ (x.f4.size ≤ 140737488351232)
theorem opT27 {H : Type} {enc : TypeId × Value → H} {W : World} : Opn enc Try.prog W 27 k27 bdT27 := by
  have h := Opn.struct (H := H) (enc := enc) (P := Try.prog) (W := W) (t := 27) Try.underlying27 (by kernel_rfl) (OpnF.cons rfl (by kernel_rfl) rfl (Opn.int Try.underlying3) (OpnF.cons rfl (by kernel_rfl) rfl (Opn.string Try.underlying9) (OpnF.cons rfl (by kernel_rfl) rfl (Opn.int Try.underlying2) (OpnF.cons rfl (by kernel_rfl) rfl (Opn.int Try.underlying2) (OpnF.last rfl (by kernel_rfl) (Opn.string Try.underlying9)))))) (fun x : S27 => (x.f0, x.f1, x.f2, x.f3, x.f4)) (fun p => ⟨p.1, p.2.1, p.2.2.1, p.2.2.2.1, p.2.2.2.2⟩) (fun _ => rfl)
  exact h
def bdT29 (x : S29) : Prop := ((Lit.int .i64 x.f0).wf = true) ∧ ((Lit.int .i64 x.f1).wf = true) ∧ ((Lit.int .i64 x.f2).wf = true) ∧ bdT27 x.f3
theorem opT29 {H : Type} {enc : TypeId × Value → H} {W : World} : Opn enc Try.prog W 29 k29 bdT29 := by
  have h := Opn.struct (H := H) (enc := enc) (P := Try.prog) (W := W) (t := 29) Try.underlying29 (by kernel_rfl) (OpnF.cons rfl (by kernel_rfl) rfl (Opn.int Try.underlying3) (OpnF.cons rfl (by kernel_rfl) rfl (Opn.int Try.underlying2) (OpnF.cons rfl (by kernel_rfl) rfl (Opn.int Try.underlying2) (OpnF.last rfl (by kernel_rfl) (opT27))))) (fun x : S29 => (x.f0, x.f1, x.f2, x.f3)) (fun p => ⟨p.1, p.2.1, p.2.2.1, p.2.2.2⟩) (fun _ => rfl)
  exact h
def bdT32 (x : S32) : Prop := ((Lit.int .i64 x.f0).wf = true) ∧ ((Lit.int .i64 x.f1).wf = true) ∧ ((Lit.int .i64 x.f2).wf = true) ∧ (x.f3.size ≤ 140737488351232)
theorem opT32 {H : Type} {enc : TypeId × Value → H} {W : World} : Opn enc Try.prog W 32 k32 bdT32 := by
  have h := Opn.struct (H := H) (enc := enc) (P := Try.prog) (W := W) (t := 32) Try.underlying32 (by kernel_rfl) (OpnF.cons rfl (by kernel_rfl) rfl (Opn.int Try.underlying30) (OpnF.cons rfl (by kernel_rfl) rfl (Opn.int Try.underlying2) (OpnF.cons rfl (by kernel_rfl) rfl (Opn.int Try.underlying2) (OpnF.last rfl (by kernel_rfl) (Opn.string Try.underlying9))))) (fun x : S32 => (x.f0, x.f1, x.f2, x.f3)) (fun p => ⟨p.1, p.2.1, p.2.2.1, p.2.2.2⟩) (fun _ => rfl)
  exact h
def bdT34 (x : S34) : Prop := bdT24 x.f0 ∧ bdT29 x.f1 ∧ bdT32 x.f2
theorem opT34 {H : Type} {enc : TypeId × Value → H} {W : World} : Opn enc Try.prog W 34 k34 bdT34 := by
  have h := Opn.struct (H := H) (enc := enc) (P := Try.prog) (W := W) (t := 34) Try.underlying34 (by kernel_rfl) (OpnF.cons rfl (by kernel_rfl) rfl (opT24) (OpnF.cons rfl (by kernel_rfl) rfl (opT29) (OpnF.last rfl (by kernel_rfl) (opT32)))) (fun x : S34 => (x.f0, x.f1, x.f2)) (fun p => ⟨p.1, p.2.1, p.2.2⟩) (fun _ => rfl)
  exact h
def bdT51 (x : S51) : Prop := ((Lit.int .i64 x.f0).wf = true) ∧ ((Lit.int .i64 x.f1).wf = true)
theorem opT51 {H : Type} {enc : TypeId × Value → H} {W : World} : Opn enc Try.prog W 51 k51 bdT51 := by
  have h := Opn.struct (H := H) (enc := enc) (P := Try.prog) (W := W) (t := 51) Try.underlying51 (by kernel_rfl) (OpnF.cons rfl (by kernel_rfl) rfl (Opn.int Try.underlying3) (OpnF.last rfl (by kernel_rfl) (Opn.int Try.underlying3))) (fun x : S51 => (x.f0, x.f1)) (fun p => ⟨p.1, p.2⟩) (fun _ => rfl)
  exact h
def bdT73 (x : S73) : Prop := ((Lit.int .i64 x.f0).wf = true) ∧ ((Lit.int .i64 x.f1).wf = true) ∧ ((Lit.int .i64 x.f2).wf = true) ∧ bdT32 x.f3
theorem opT73 {H : Type} {enc : TypeId × Value → H} {W : World} : Opn enc Try.prog W 73 k73 bdT73 := by
  have h := Opn.struct (H := H) (enc := enc) (P := Try.prog) (W := W) (t := 73) Try.underlying73 (by kernel_rfl) (OpnF.cons rfl (by kernel_rfl) rfl (Opn.int Try.underlying3) (OpnF.cons rfl (by kernel_rfl) rfl (Opn.int Try.underlying2) (OpnF.cons rfl (by kernel_rfl) rfl (Opn.int Try.underlying2) (OpnF.last rfl (by kernel_rfl) (opT32))))) (fun x : S73 => (x.f0, x.f1, x.f2, x.f3)) (fun p => ⟨p.1, p.2.1, p.2.2.1, p.2.2.2⟩) (fun _ => rfl)
  exact h
def bdT81 (x : S81) : Prop := ((Lit.int .i64 x.f0).wf = true) ∧ ((Lit.int .i64 x.f1).wf = true)
theorem opT81 {H : Type} {enc : TypeId × Value → H} {W : World} : Opn enc Try.prog W 81 k81 bdT81 := by
  have h := Opn.struct (H := H) (enc := enc) (P := Try.prog) (W := W) (t := 81) Try.underlying81 (by kernel_rfl) (OpnF.cons rfl (by kernel_rfl) rfl (Opn.int Try.underlying3) (OpnF.last rfl (by kernel_rfl) (Opn.int Try.underlying2))) (fun x : S81 => (x.f0, x.f1)) (fun p => ⟨p.1, p.2⟩) (fun _ => rfl)
  exact h
def bdT83 (x : S83) : Prop := (x.f0.size ≤ 140737488351232) ∧ (x.f1.size ≤ 140737488351232) ∧ True ∧ bdT81 x.f3
theorem opT83 {H : Type} {enc : TypeId × Value → H} {W : World} : Opn enc Try.prog W 83 k83 bdT83 := by
  have h := Opn.struct (H := H) (enc := enc) (P := Try.prog) (W := W) (t := 83) Try.underlying83 (by kernel_rfl) (OpnF.cons rfl (by kernel_rfl) rfl (Opn.string Try.underlying9) (OpnF.cons rfl (by kernel_rfl) rfl (Opn.string Try.underlying9) (OpnF.cons rfl (by kernel_rfl) rfl (Opn.bool Try.underlying4) (OpnF.last rfl (by kernel_rfl) (opT81))))) (fun x : S83 => (x.f0, x.f1, x.f2, x.f3)) (fun p => ⟨p.1, p.2.1, p.2.2.1, p.2.2.2⟩) (fun _ => rfl)
  exact h
def bdT55 (x : S55) : Prop := bdT51 x.f0 ∧ ((Lit.int .i64 x.f1).wf = true) ∧ bdT24 x.f2 ∧ (x.f3.length * 136 ≤ 140737488351232 ∧ ∀ y ∈ x.f3, bdT34 y) ∧ (x.f4.length * 64 ≤ 140737488351232 ∧ ∀ y ∈ x.f4, bdT73 y) ∧ (x.f5.length * 56 ≤ 140737488351232 ∧ ∀ y ∈ x.f5, bdT83 y)
theorem opT55 {H : Type} {enc : TypeId × Value → H} {W : World} : Opn enc Try.prog W 55 k55 bdT55 := by
  have h := Opn.struct (H := H) (enc := enc) (P := Try.prog) (W := W) (t := 55) Try.underlying55 (by kernel_rfl) (OpnF.cons rfl (by kernel_rfl) rfl (opT51) (OpnF.cons rfl (by kernel_rfl) rfl (Opn.int Try.underlying2) (OpnF.cons rfl (by kernel_rfl) rfl (opT24) (OpnF.cons rfl (by kernel_rfl) rfl (Opn.slice (bytes := 136) Try.underlying22 (by kernel_rfl) (by kernel_rfl) (opT34)) (OpnF.cons rfl (by kernel_rfl) rfl (Opn.slice (bytes := 64) Try.underlying52 (by kernel_rfl) (by kernel_rfl) (opT73)) (OpnF.last rfl (by kernel_rfl) (Opn.slice (bytes := 56) Try.underlying53 (by kernel_rfl) (by kernel_rfl) (opT83)))))))) (fun x : S55 => (x.f0, x.f1, x.f2, x.f3, x.f4, x.f5)) (fun p => ⟨p.1, p.2.1, p.2.2.1, p.2.2.2.1, p.2.2.2.2.1, p.2.2.2.2.2⟩) (fun _ => rfl)
  exact h
end Go.Proofs.Ytbdciklcckjknaa.P
namespace Go.Proofs.YtbdciklcckjknaaW.HB
open Go.RowKit Go.Proofs.YtbdciklcckjknaaW.PrintWords Go.Proofs.YtbdciklcckjknaaW.PrintLast Go.Proofs.YtbdciklcckjknaaW.PrintMore
set_option linter.unusedVariables false
theorem R_empty {α : Type} (d : Kd α) (e : Nat) (w : World) (base : Nat) (ok : Nat → Prop) (hb : base ≤ w.heap.size) (hok : ok w.heap.size) : d.R e (w.alloc (.cells #[] e)) base ok (.slice (some ⟨w.heap.size, 0, none⟩) 0 0) [] := by
  refine ⟨fun k hk => ?_, [], ?_, Reps.none _ _⟩
  · simp [Value.ownBlock] at hk
    exact hk ▸ hok
  · have := World.ownsRow_lit (e := e) (base := base) (size := d.sz) w #[] 0 hb (by simp [maxLen]) (by simp)
    simpa using this
theorem R_one {α : Type} {d : Kd α} {e : Nat} {w : World} {base : Nat} {ok : Nat → Prop} {x : α} {cs : Array Value} (hM : d.M (w.alloc (.cells cs e)) base (fun k => ok k ∧ k ≠ w.heap.size) x cs.toList) (hb : base ≤ w.heap.size) (hok : ok w.heap.size) :
    d.R e (w.alloc (.cells cs e)) base ok (.slice (some ⟨w.heap.size, 0, none⟩) 1 1) [x] := by
  have hl : cs.toList.length = d.sz := d.K_len (d.K_of_M hM)
  refine ⟨fun k hk => ?_, cs.toList, ?_, ?_⟩
  · simp [Value.ownBlock] at hk
    exact hk ▸ hok
  · have := World.ownsRow_lit (e := e) (base := base) (size := d.sz) w cs 1 hb (by simp [maxLen]) (by simpa using hl)
    simpa using this
  · have := Reps.snoc (Reps.none (d.M (w.alloc (.cells cs e)) base (fun k => ok k ∧ some k ≠ (Value.slice (some ⟨w.heap.size, 0, none⟩) 1 1).ownBlock)) d.sz) (d.M_mono (fun k hk => ⟨hk.1, by simp [Value.ownBlock]; exact hk.2⟩) hM) hl
    simpa using this
theorem cell_fresh (w : World) (cs : Array Value) (t : TypeId) (o : Nat) (v : Value) (h : cs[o]? = some v) : (w.alloc (.cells cs t)).cell? ⟨w.heap.size, o, none⟩ = some v := by
  have : (w.alloc (.cells cs t)).heap[w.heap.size]? = some (.cells cs t) := by
    show (w.heap.push (.cells cs t))[w.heap.size]? = _
    simp
  unfold World.cell?
  rw [this]
  simpa using h
def idxOf {α : Type} (p : α → Bool) (l : List α) : Int := match l.findIdx? p with | some i => (i : Int) | none => -1
theorem idxOf_hit {α : Type} (p : α → Bool) (l : List α) (i : Nat) (hi : i < l.length) (h : p l[i] = true) (hb : ∀ j, (hj : j < l.length) → j < i → p l[j] = false) : idxOf p l = i := by
  have : l.findIdx? p = some i := by
    rw [List.findIdx?_eq_some_iff_getElem]
    exact ⟨hi, h, fun j hj => by simp [hb j (by omega) hj]⟩
  simp [idxOf, this]
theorem idxOf_none {α : Type} (p : α → Bool) (l : List α) (hb : ∀ j, (hj : j < l.length) → p l[j] = false) : idxOf p l = -1 := by
  have : l.findIdx? p = none := by
    rw [List.findIdx?_eq_none_iff]
    intro x hx
    obtain ⟨j, hj, rfl⟩ := List.mem_iff_getElem.1 hx
    exact hb j hj
  simp [idxOf, this]
theorem idxOf_cases {α : Type} (p : α → Bool) (l : List α) : (idxOf p l = -1 ∧ ∀ x ∈ l, p x = false) ∨ ∃ i : Nat, idxOf p l = i ∧ ∃ h : i < l.length, p l[i] = true ∧ ∀ j, (hj : j < l.length) → j < i → p l[j] = false := by
  unfold idxOf
  cases h : l.findIdx? p with
  | none => exact .inl ⟨rfl, by simpa [List.findIdx?_eq_none_iff] using h⟩
  | some i =>
    rw [List.findIdx?_eq_some_iff_getElem] at h
    obtain ⟨h1, h2, h3⟩ := h
    exact .inr ⟨i, rfl, h1, h2, fun j hj hji => by simpa using h3 j hji⟩
variable {P : Program}
end Go.Proofs.YtbdciklcckjknaaW.HB
namespace Go.Proofs.Ytbdciklcckjknaa.P
open Go.RowKit Go.Proofs.YtbdciklcckjknaaW.PrintWords Go.Proofs.YtbdciklcckjknaaW.PrintLast Go.Proofs.YtbdciklcckjknaaW.PrintMore Go.Proofs.YtbdciklcckjknaaW.HB
set_option linter.unusedVariables false
structure BelowOf (w : World) where
  v : World
  h : Below w.heap.size w v
instance belowOf_nonempty (w : World) : Nonempty (BelowOf w) := ⟨⟨w, Below.refl _ _⟩⟩
theorem BelowOf.cell {w : World} {a : Addr} {x : Value} (h : w.cell? a = some x) : ∀ n : BelowOf w, n.v.cell? a = some x := fun n => pw_cell_below n.h h
theorem BelowOf.C {α : Type} {d : Kd α} {w : World} {A : Option Addr} {n : Nat} {xs : List α} (h : Kd.C d w A n xs) : ∀ m : BelowOf w, Kd.C d m.v A n xs := fun m => Kd.C_below h m.h
theorem quietB {P : Program} {f : FuncId} {args : Array Value} {v : Value} {w : World} {n : BelowOf w} (h : Calls P f args n.v fun e w' => e = .returned v ∧ Below n.v.heap.size n.v w') : Calls P f args n.v fun e w' => e = .returned v ∧ ∃ m : BelowOf w, w' = m.v :=
  h.mono fun e w' ⟨h1, h2⟩ => ⟨h1, ⟨w', below_step n.h h2⟩, rfl⟩
theorem wp_region_below {P : Program} {id : Nat} {Q : Exit → Act → World → Prop} {a : Act} {w : World} {l : List Oper} (hm : P.follows .mixedOrders = true) (hB : Region.lexB .any l.toArray = true)
    (h : wpQuiet P l.toArray (fun w' => ∃ n : BelowOf w, w' = n.v) (fun a' => ∀ w', (∃ n : BelowOf w, w' = n.v) → Q .normal a' w') l a) : (Code.region id l.toArray true).wp P Q a w :=
  wp_region_quiet (C := fun w' => ∃ n : BelowOf w, w' = n.v) hm hB ⟨⟨w.drew, (Below.refl _ w).drew⟩, rfl⟩ (by simpa using h)
end Go.Proofs.Ytbdciklcckjknaa.P
namespace Go.Proofs.Ytbdciklcckjknaa.P
open Go.RowKit Go.Proofs.YtbdciklcckjknaaW.PrintWords Go.Proofs.YtbdciklcckjknaaW.PrintLast Go.Proofs.YtbdciklcckjknaaW.PrintMore Go.Proofs.YtbdciklcckjknaaW.HB
set_option linter.unusedVariables false
attribute [local go_sem] Oper.semAt_some
def KeepX (N0 : Nat) (X Ts : Nat → Prop) (W W' : World) : Prop :=
  W.heap.size ≤ W'.heap.size ∧ ∀ k cs T fr, W.heap[k]? = some (.cells cs T fr) → ((k < N0 ∧ ¬ X k) ∨ (N0 ≤ k ∧ Ts T)) → W'.heap[k]? = some (.cells cs T fr)
theorem KeepX.refl (N0 : Nat) (X Ts : Nat → Prop) (W : World) : KeepX N0 X Ts W W := ⟨Nat.le_refl _, fun _ _ _ _ h _ => h⟩
theorem KeepX.trans {N0 : Nat} {X Ts : Nat → Prop} {A B C : World} (h : KeepX N0 X Ts A B) (k : KeepX N0 X Ts B C) : KeepX N0 X Ts A C := ⟨Nat.le_trans h.1 k.1, fun i cs T fr hi hx => k.2 i cs T fr (h.2 i cs T fr hi hx) hx⟩
theorem KeepX.put {N0 : Nat} {X Ts : Nat → Prop} (W : World) (l : Nat) (o o' : Obj) (h : W.heap[l]? = some o) (hc : o.isCells = false) : KeepX N0 X Ts W (W.putObj l o') := by
  refine ⟨by simp, fun k cs T fr hk _ => ?_⟩
  have hne : k ≠ l := by
    rintro rfl
    rw [h] at hk
    cases hk
    simp [Obj.isCells] at hc
  exact (World.putObj_heap_other hne).trans hk
theorem KeepX.below {N0 : Nat} {X Ts : Nat → Prop} {W W' : World} (h : Below W.heap.size W W') : KeepX N0 X Ts W W' :=
  ⟨h.size, fun k cs T fr hk _ => (h.block k (Array.getElem?_eq_some_iff.1 hk).1).trans hk⟩
theorem KeepX.grown {N0 : Nat} {X Ts : Nat → Prop} {W W' : World} {row : Option Nat} (h : W.grownBy W' row) (hr : ∀ k cs T fr, row = some k → W.heap[k]? = some (.cells cs T fr) → (k < N0 → X k) ∧ (N0 ≤ k → ¬ Ts T)) : KeepX N0 X Ts W W' :=
  ⟨h.size, fun k cs T fr hk hx => (h.block k (Array.getElem?_eq_some_iff.1 hk).1 (fun e => by
    have := hr k cs T fr e.symm hk
    rcases hx with ⟨h1, h2⟩ | ⟨h1, h2⟩
    · exact h2 (this.1 h1)
    · exact this.2 h1 h2)).trans hk⟩
theorem KeepX.cell {N0 : Nat} {X Ts : Nat → Prop} {W W' : World} (h : KeepX N0 X Ts W W') {a : Addr} {v : Value} (hc : W.cell? a = some v) (hk : a.block < N0) (hX : ¬ X a.block) : W'.cell? a = some v := by
  unfold World.cell? at *
  cases hb : W.heap[a.block]? with
  | none => rw [hb] at hc; cases hc
  | some o =>
    rw [hb] at hc
    cases o with
    | cells cs T fr => rw [h.2 _ cs T fr hb (.inl ⟨hk, hX⟩)]; exact hc
    | _ => cases hc
theorem C_keepX' {α : Type} {d : Kd α} {N0 : Nat} {X Ts : Nat → Prop} {W W' : World} {A : Option Addr} {n : Nat} {xs : List α} (hK : ∀ W W' x cs, d.K W x cs → d.K W' x cs) (h : Kd.C d W A n xs) (hk : KeepX N0 X Ts W W') (hA : ∀ ad, A = some ad → 0 < n → ad.block < N0 ∧ ¬ X ad.block) : Kd.C d W' A n xs := by
  refine ⟨h.1, h.2.1, fun hn => ?_⟩
  obtain ⟨ad, e, hc⟩ := h.2.2 hn
  refine ⟨ad, e, fun j p hj => ?_⟩
  obtain ⟨c, h1, h2, h3⟩ := hc j p hj
  refine ⟨c, h1, hK _ _ _ _ h2, fun i u hu => hk.cell (h3 i u hu) ?_ ?_⟩
  · have := (hA ad e hn).1; unfold Addr.add; split <;> exact this
  · have := (hA ad e hn).2; unfold Addr.add; split <;> exact this
theorem boxed_nc {w w1 : World} {B t : Nat} {v : Value} (h : Boxed w B t v) {row : Option Nat} (hg : w.grownBy w1 row) (hr : ∀ r, row = some r → ∃ o : Obj, w.heap[r]? = some o ∧ o.isCells = false) : Boxed w1 B t v :=
  h.kept hg (fun e' => by
    obtain ⟨o, ho, hoc⟩ := hr B e'.symm
    rw [show w.heap[B]? = _ from h] at ho; cases ho; cases hoc)
theorem grownBy_setCellK (W : World) (b k : Nat) (v : Value) : W.grownBy (W.setCell ⟨b, k, none⟩ v) (some b) :=
  ⟨rfl, rfl, rfl, (KeepsWalks.setCell W _ v).size, fun j _ hj => Below.heap_setCell _ _ _ j (fun e => hj (by rw [e]))⟩
theorem boxed_step {W W' : World} {B : Nat} {t : TypeId} {v : Value} (h : Boxed W B t v) (hb : Below W.heap.size W W') : Boxed W' B t v := (hb.block B h.lt).trans h
structure BoxSt (w : World) (b1 t : Nat) (v : Value) (W : World) : Prop where
  x : Boxed W b1 t v
  below : Below w.heap.size w W
  ge : w.heap.size ≤ b1
theorem BoxSt.nc {w : World} {b1 t : Nat} {v : Value} {X Y : World} {row : Option Nat} (h : BoxSt w b1 t v X) (hg : X.grownBy Y row) (hr : ∀ r, row = some r → w.heap.size ≤ r ∧ ∃ o : Obj, X.heap[r]? = some o ∧ o.isCells = false) : BoxSt w b1 t v Y := by
  have hr' := fun r e => (hr r e).2
  exact ⟨boxed_nc h.x hg hr', pw_below_grown h.below row h.below.size hg (fun k e => (hr k e).1), h.ge⟩
theorem BoxSt.set {w : World} {b1 t : Nat} {v : Value} {X : World} (h : BoxSt w b1 t v X) (u : Value) : BoxSt w b1 t u (X.setCell ⟨b1, 0, none⟩ u) :=
  ⟨h.x.set _, h.below.setCell (by show w.heap.size ≤ b1; exact h.ge) _, h.ge⟩
end Go.Proofs.Ytbdciklcckjknaa.P
namespace Go.Proofs.YtbdciklcckjknaaW.HB
open Go.RowKit Go.Proofs.YtbdciklcckjknaaW.PrintWords Go.Proofs.YtbdciklcckjknaaW.PrintLast Go.Proofs.YtbdciklcckjknaaW.PrintMore
set_option linter.unusedVariables false
end Go.Proofs.YtbdciklcckjknaaW.HB
namespace Go.Proofs.Ytbdciklcckjknaa.P
open Go.RowKit Go.Proofs.YtbdciklcckjknaaW.PrintWords Go.Proofs.YtbdciklcckjknaaW.PrintLast Go.Proofs.YtbdciklcckjknaaW.PrintMore Go.Proofs.YtbdciklcckjknaaW.HB
set_option linter.unusedVariables false
set_option linter.unusedSimpArgs false
theorem rd_at_N (l : List S34) (i : Nat) (h : i < l.length) : rd_T34 l i = l[i] := by
  simp [rd_T34, List.getD_eq_getElem?_getD, List.getElem?_eq_getElem h]
theorem rd_at_D (l : List S73) (i : Nat) (h : i < l.length) : rd_T73 l i = l[i] := by
  simp [rd_T73, List.getD_eq_getElem?_getD, List.getElem?_eq_getElem h]
def slices_Clone_N.f (l0 : List (S34)) : Option (List (S34)) := if l0.length < 1034834473200 then some l0 else none
set_option maxHeartbeats 1000000 in
theorem slices_Clone_N.calls (A0 : Option Addr) (c0 : Nat) (l0 : List (S34)) (r : List (S34)) (w : World) (hr0 : Kd.C k34 w A0 l0.length l0) (hc0 : l0.length ≤ c0) (h : slices_Clone_N.f l0 = some r) :
    Calls Try.prog 30 #[.slice A0 l0.length c0] w fun e w' => ∃ v0_ : Value, e = .returned (v0_) ∧ Kd.R k34 34 w' w.heap.size (fun _ => True) v0_ r ∧ Below w.heap.size w w' := by
  have HR0 := Aside0.mk hr0
  have HC0 := Aside0.mk hc0
  clear hr0 hc0
  have HB := Aside0.mk (Below.refl w.heap.size w)
  unfold slices_Clone_N.f at h
  split at h <;> simp at h
  subst h
  rename_i hl
  have HL := Aside0.mk hl
  clear hl
  have hnil := fun (W : World) => Lib.run_eql_slice_nil (P := Try.prog) W 22 34 A0 l0.length c0 0 0 Try.underlying22
  cases A0 with
  | none =>
    go_enter Try.func30, Try.ntmps30
    go_wp2
    go_ret
    have h0 : l0 = [] := by
      cases l0 with
      | nil => rfl
      | cons x l =>
        obtain ⟨ad, e, _⟩ := HR0.out.2.2 (by simp)
        cases e
    subst h0
    exact ⟨_, rfl, Kd.R_nil _ _ _ _ _, HB.out⟩
  | some a =>
    have HE := Aside0.mk (R_empty k34 34 w w.heap.size (fun _ => True) (Nat.le_refl _) trivial)
    go_enter Try.func30, Try.ntmps30
    go_wp2_with (first | (at_builtin; refine Kd.R_append_rows k34 (w0 := w) w.heap.size rfl (.tmp 5) (.tmp 6) 22 34 (.agg #[(.int .i64 0), (.int .i64 0), (.int .i64 0), (.int .i64 0), (.int .i64 0), (.int .i64 0), (.string ⟨#[]⟩), (.int .i64 0), (.int .i64 0), (.string ⟨#[]⟩), (.int .i64 0), (.int .i64 0), (.int .i64 0), (.string ⟨#[]⟩)]) 136 rfl Try.underlying22 info34 rfl (by decide) (by omega) _ ([] : List (S34)) l0 _ _ _ (fun _ => True) (fun _ => False) rfl rfl HE.out (Kd.C_below HR0.out (below_alloc HB.out _)) (fun _ _ h => h) (fun _ h => h.elim) (fun _ _ => trivial) (below_alloc HB.out _) (by simp) (by have := HL.out; simp; omega) ?_; intro v125 w3 ho hb hg hat; have HO := Aside0.mk ho; have HB3 := Aside0.mk hb; clear ho hb hg hat))
    go_ret
    exact ⟨_, rfl, HO.out, HB3.out⟩
end Go.Proofs.Ytbdciklcckjknaa.P
namespace Go.Proofs.Ytbdciklcckjknaa.P
open Go.RowKit Go.Proofs.YtbdciklcckjknaaW.PrintWords Go.Proofs.YtbdciklcckjknaaW.PrintLast Go.Proofs.YtbdciklcckjknaaW.PrintMore
attribute [local go_sem] max2_int min2_int max_two min_two max_three min_three max_four min_four
set_option linter.unusedVariables false
set_option linter.unusedSimpArgs false
theorem eqA24 (d : Nat) (w : World) (x0 y0 : Int) (x1 y1 : Int) :
    (Op.equalIn (d + 2) 24 (.agg #[.int .i64 x0, .int .i64 x1]) (.agg #[.int .i64 y0, .int .i64 y1])).run Try.prog w = .ok (x0 == y0 && (x1 == y1)) w := by
  refine eqA_of Try.underlying24 (by kernel_rfl) ?_
  refine eqf_cons (by rfl) (by go_simp; rfl) (by go_simp; rfl) (by go_simp) ?_
  exact eqf_last (by rfl) (by go_simp; rfl) (by go_simp; rfl) (by go_simp)
end Go.Proofs.Ytbdciklcckjknaa.P
namespace Go.Proofs.Ytbdciklcckjknaa.P
open Go.RowKit Go.Proofs.YtbdciklcckjknaaW.PrintWords Go.Proofs.YtbdciklcckjknaaW.PrintLast Go.Proofs.YtbdciklcckjknaaW.PrintMore
attribute [local go_sem] max2_int min2_int max_two min_two max_three min_three max_four min_four
set_option linter.unusedVariables false
set_option linter.unusedSimpArgs false
theorem eqA27 (d : Nat) (w : World) (x0 y0 : Int) (x1 y1 : ByteArray) (x2 y2 : Int) (x3 y3 : Int) (x4 y4 : ByteArray) :
    (Op.equalIn (d + 2) 27 (.agg #[.int .i64 x0, .string x1, .int .i64 x2, .int .i64 x3, .string x4]) (.agg #[.int .i64 y0, .string y1, .int .i64 y2, .int .i64 y3, .string y4])).run Try.prog w = .ok (x0 == y0 && (x1.toList == y1.toList && (x2 == y2 && (x3 == y3 && (x4.toList == y4.toList))))) w := by
  refine eqA_of Try.underlying27 (by kernel_rfl) ?_
  refine eqf_cons (by rfl) (by go_simp; rfl) (by go_simp; rfl) (by go_simp) ?_
  refine eqf_cons (by rfl) (by go_simp; rfl) (by go_simp; rfl) (by go_simp) ?_
  refine eqf_cons (by rfl) (by go_simp; rfl) (by go_simp; rfl) (by go_simp) ?_
  refine eqf_cons (by rfl) (by go_simp; rfl) (by go_simp; rfl) (by go_simp) ?_
  exact eqf_last (by rfl) (by go_simp; rfl) (by go_simp; rfl) (by go_simp)
end Go.Proofs.Ytbdciklcckjknaa.P
namespace Go.Proofs.Ytbdciklcckjknaa.P
open Go.RowKit Go.Proofs.YtbdciklcckjknaaW.PrintWords Go.Proofs.YtbdciklcckjknaaW.PrintLast Go.Proofs.YtbdciklcckjknaaW.PrintMore
attribute [local go_sem] max2_int min2_int max_two min_two max_three min_three max_four min_four
set_option linter.unusedVariables false
set_option linter.unusedSimpArgs false
mutual
def object_Name.j0 : Nat → ByteArray → Bool → Option (Bool)
  | 0, _, _ => none
  | k + 1, x0, x11 => if x11 = true then (some false) else (object_Name.l0 k x0 (x0.size : Int) 0)
def object_Name.l0 : Nat → ByteArray → Int → Int → Option (Bool)
  | 0, _, _, _ => none
  | k + 1, x0, x13, x14 => if x14 < x13 then (if 0 ≤ x14 then (if x14 < (x0.size : Int) then (if (bt x0 x14) < 97 then (if (bt x0 x14) < 48 then (if (bt x0 x14) = 95 then (object_Name.l0 k x0 x13 (wrap64 (x14 + 1))) else (if (bt x0 x14) = 46 then (object_Name.l0 k x0 x13 (wrap64 (x14 + 1))) else (some false))) else (if (bt x0 x14) > 57 then (if (bt x0 x14) = 95 then (object_Name.l0 k x0 x13 (wrap64 (x14 + 1))) else (if (bt x0 x14) = 46 then (object_Name.l0 k x0 x13 (wrap64 (x14 + 1))) else (some false))) else (object_Name.l0 k x0 x13 (wrap64 (x14 + 1))))) else (if (bt x0 x14) > 122 then (if (bt x0 x14) < 48 then (if (bt x0 x14) = 95 then (object_Name.l0 k x0 x13 (wrap64 (x14 + 1))) else (if (bt x0 x14) = 46 then (object_Name.l0 k x0 x13 (wrap64 (x14 + 1))) else (some false))) else (if (bt x0 x14) > 57 then (if (bt x0 x14) = 95 then (object_Name.l0 k x0 x13 (wrap64 (x14 + 1))) else (if (bt x0 x14) = 46 then (object_Name.l0 k x0 x13 (wrap64 (x14 + 1))) else (some false))) else (object_Name.l0 k x0 x13 (wrap64 (x14 + 1))))) else (object_Name.l0 k x0 x13 (wrap64 (x14 + 1))))) else (none)) else (none)) else (some true)
end
def object_Name.f (k : Nat) (a0 : ByteArray) : Option (Bool) := if a0.toList = ([] : List UInt8) then (object_Name.j0 k a0 true) else (object_Name.j0 k a0 (decide ((a0.size : Int) > 24)))
set_option maxHeartbeats 8000000 in
set_option maxRecDepth 100000 in
theorem object_Name.calls (k : Nat) (a0 : ByteArray) (r : Bool) (w : World) (h : object_Name.f k a0 = some r) :
    Calls Try.prog 59 #[.string a0] w fun e w' => e = .returned (.bool r) ∧ Drawn0 w w' := by
  have H : (if a0.toList = ([] : List UInt8) then (object_Name.j0 k a0 true) else (object_Name.j0 k a0 (decide ((a0.size : Int) > 24)))) = some r := h
  clear h
  have HC2 := Aside0.mk H
  clear H
  go_enter Try.func59, Try.ntmps59
  go_upto_region 1 with (fail)
  go_cut [11] (fun v11 wc => ∃ (kq : Nat) (x11_1 : Bool), v11 = .bool x11_1 ∧ Aside0 (object_Name.j0 kq a0 x11_1 = some r) ∧ Aside0 (kq ≤ k) ∧ Drawn0 w wc)
  case first =>
    have H := HC2.out
    clear HC2
    by_cases c3 : a0.toList = ([] : List UInt8)
    · rw [if_pos c3] at H
      have c3b0 : (a0.toList == ([] : List UInt8)) = true := beq_iff_eq.mpr c3
      have c3b1 : (a0.toList != ([] : List UInt8)) = false := bne_eq_false_iff_eq.mpr c3
      clear c3
      (first | rw [c3b0] | (simp only [i64_w, i32_w]; rw [c3b0]) | skip)
      have H' := Aside0.mk H
      clear H
      go_wp2
      go_meet
      case rel => exact ⟨_, (true), (by first | rfl | (simp; done) | (simp [*]; done)), H', ⟨by first | omega | exact Nat.le_refl _⟩, by repeat (first | exact Drawn0.refl _ | apply Drawn0.step)⟩
    · rw [if_neg c3] at H
      have c3b0 : (a0.toList == ([] : List UInt8)) = false := beq_eq_false_iff_ne.mpr c3
      have c3b1 : (a0.toList != ([] : List UInt8)) = true := bne_iff_ne.mpr c3
      (first | rw [c3b0] | (simp only [i64_w, i32_w]; rw [c3b0]) | skip)
      have H' := Aside0.mk H
      clear H
      go_wp2
      go_meet
      case rel => exact ⟨_, (decide ((a0.size : Int) > 24)), (by first | rfl | (simp; done) | (simp [*]; done)), H', ⟨by first | omega | exact Nat.le_refl _⟩, by repeat (first | exact Drawn0.refl _ | apply Drawn0.step)⟩
  case rest =>
    clear HC2
    try clear p2
    try clear c3
    try clear c3b0
    try clear c3b1
    obtain ⟨kq, x11_1, rfl, HA, HJ1, ⟨mc1, rfl⟩⟩ := hcut
    cases kq with
    | zero => exact absurd HA.out (by simp [object_Name.j0])
    | succ kj1 =>
      have H := HA.out
      clear HA
      simp only [object_Name.j0] at H
      by_cases c4 : x11_1 = true
      · subst c4
        have H1 : (some false) = some r := by rw [if_pos rfl] at H; exact H
        clear H
        have H := H1
        clear H1
        obtain rfl := Option.some.inj H
        go_wp2
        go_ret
        exact ⟨by first | rfl | (simp; done) | (simp [*]; done), by repeat (first | exact Drawn0.refl _ | apply Drawn0.step)⟩
      · replace c4 := Bool.eq_false_iff.mpr c4
        subst c4
        have H1 : (object_Name.l0 kj1 a0 (a0.size : Int) 0) = some r := by rw [if_neg (show ¬ (false = true) by decide)] at H; exact H
        clear H
        have H := H1
        clear H1
        have H' := Aside0.mk H
        clear H
        go_wp2
        go_loopg [14] kj1 (fun kq v14 w' => ∃ (x14_2 : Int), v14 = .int .i64 x14_2 ∧ Aside0 (object_Name.l0 kq a0 (a0.size : Int) x14_2 = some r) ∧ Aside0 (kq ≤ kj1) ∧ Drawn0 w w')
        case atStart => exact ⟨(0), (by first | rfl | (simp; done) | (simp [*]; done)), H', ⟨Nat.le_refl _⟩, by repeat (first | exact Drawn0.refl _ | apply Drawn0.step)⟩
        case round =>
          clear H'
          try clear c1
          try clear p2
          try clear c3
          try clear c3b0
          try clear c3b1
          try clear c4
          try clear p2
          obtain ⟨x14_2, rfl, HA, HK2, ⟨m2, rfl⟩⟩ := hrel
          cases gk with
          | zero => exact absurd HA.out (by simp [object_Name.l0])
          | succ k2 =>
            have H := HA.out
            clear HA
            simp only [object_Name.l0] at H
            by_cases c5 : x14_2 < (a0.size : Int)
            · rw [if_pos c5] at H
              have c5b0 : decide (x14_2 < (a0.size : Int)) = true := decide_eq_true c5
              clear c5
              by_cases c6 : 0 ≤ x14_2
              · rw [if_pos c6] at H
                have c6b0 : decide (0 ≤ x14_2) = true := decide_eq_true c6
                clear c6
                by_cases c7 : x14_2 < (a0.size : Int)
                · rw [if_pos c7] at H
                  have c7b0 : decide (x14_2 < (a0.size : Int)) = true := decide_eq_true c7
                  clear c7
                  by_cases c9 : (bt a0 x14_2) < 97
                  · rw [if_pos c9] at H
                    have c9b0 : decide ((bt a0 x14_2) < 97) = true := decide_eq_true c9
                    clear c9
                    by_cases c10 : (bt a0 x14_2) < 48
                    · rw [if_pos c10] at H
                      have c10b0 : decide ((bt a0 x14_2) < 48) = true := decide_eq_true c10
                      clear c10
                      by_cases c11 : (bt a0 x14_2) = 95
                      · rw [if_pos c11] at H
                        have c11b0 : ((bt a0 x14_2) == 95) = true := beq_iff_eq.mpr c11
                        have c11b1 : ((bt a0 x14_2) != 95) = false := bne_eq_false_iff_eq.mpr c11
                        clear c11
                        have H' := Aside0.mk H
                        clear H
                        have p8 : 0 ≤ (x14_2 : Int) := of_decide_eq_true (by first | (with_reducible assumption) | assumption)
                        have q8 : x14_2 < (a0.size : Int) := of_decide_eq_true (by first | (with_reducible assumption) | assumption)
                        have hx8 := bt_at a0 x14_2
                        replace p8 := eq_true p8
                        replace q8 := eq_true q8
                        go_wp2
                        go_roundg k2
                        case measure => have := HJ1.out; have := HK2.out; omega
                        case rel => exact ⟨(wrap64 (x14_2 + 1)), (by first | rfl | (simp; done) | (simp [*]; done)), H', ⟨by have := HJ1.out; have := HK2.out; omega⟩, by repeat (first | exact Drawn0.refl _ | apply Drawn0.step)⟩
                      · rw [if_neg c11] at H
                        have c11b0 : ((bt a0 x14_2) == 95) = false := beq_eq_false_iff_ne.mpr c11
                        have c11b1 : ((bt a0 x14_2) != 95) = true := bne_iff_ne.mpr c11
                        by_cases c12 : (bt a0 x14_2) = 46
                        · rw [if_pos c12] at H
                          have c12b0 : ((bt a0 x14_2) == 46) = true := beq_iff_eq.mpr c12
                          have c12b1 : ((bt a0 x14_2) != 46) = false := bne_eq_false_iff_eq.mpr c12
                          clear c12
                          have H' := Aside0.mk H
                          clear H
                          have p8 : 0 ≤ (x14_2 : Int) := of_decide_eq_true (by first | (with_reducible assumption) | assumption)
                          have q8 : x14_2 < (a0.size : Int) := of_decide_eq_true (by first | (with_reducible assumption) | assumption)
                          have hx8 := bt_at a0 x14_2
                          replace p8 := eq_true p8
                          replace q8 := eq_true q8
                          go_wp2
                          go_roundg k2
                          case measure => have := HJ1.out; have := HK2.out; omega
                          case rel => exact ⟨(wrap64 (x14_2 + 1)), (by first | rfl | (simp; done) | (simp [*]; done)), H', ⟨by have := HJ1.out; have := HK2.out; omega⟩, by repeat (first | exact Drawn0.refl _ | apply Drawn0.step)⟩
                        · rw [if_neg c12] at H
                          have c12b0 : ((bt a0 x14_2) == 46) = false := beq_eq_false_iff_ne.mpr c12
                          have c12b1 : ((bt a0 x14_2) != 46) = true := bne_iff_ne.mpr c12
                          obtain rfl := Option.some.inj H
                          have p8 : 0 ≤ (x14_2 : Int) := of_decide_eq_true (by first | (with_reducible assumption) | assumption)
                          have q8 : x14_2 < (a0.size : Int) := of_decide_eq_true (by first | (with_reducible assumption) | assumption)
                          have hx8 := bt_at a0 x14_2
                          replace p8 := eq_true p8
                          replace q8 := eq_true q8
                          go_wp2
                          go_ret
                          exact ⟨by first | rfl | (simp; done) | (simp [*]; done), by repeat (first | exact Drawn0.refl _ | apply Drawn0.step)⟩
                    · rw [if_neg c10] at H
                      have c10b0 : decide ((bt a0 x14_2) < 48) = false := decide_eq_false c10
                      clear c10
                      by_cases c13 : (bt a0 x14_2) > 57
                      · rw [if_pos c13] at H
                        have c13b0 : decide (57 < (bt a0 x14_2)) = true := decide_eq_true c13
                        clear c13
                        by_cases c14 : (bt a0 x14_2) = 95
                        · rw [if_pos c14] at H
                          have c14b0 : ((bt a0 x14_2) == 95) = true := beq_iff_eq.mpr c14
                          have c14b1 : ((bt a0 x14_2) != 95) = false := bne_eq_false_iff_eq.mpr c14
                          clear c14
                          have H' := Aside0.mk H
                          clear H
                          have p8 : 0 ≤ (x14_2 : Int) := of_decide_eq_true (by first | (with_reducible assumption) | assumption)
                          have q8 : x14_2 < (a0.size : Int) := of_decide_eq_true (by first | (with_reducible assumption) | assumption)
                          have hx8 := bt_at a0 x14_2
                          replace p8 := eq_true p8
                          replace q8 := eq_true q8
                          go_wp2
                          go_roundg k2
                          case measure => have := HJ1.out; have := HK2.out; omega
                          case rel => exact ⟨(wrap64 (x14_2 + 1)), (by first | rfl | (simp; done) | (simp [*]; done)), H', ⟨by have := HJ1.out; have := HK2.out; omega⟩, by repeat (first | exact Drawn0.refl _ | apply Drawn0.step)⟩
                        · rw [if_neg c14] at H
                          have c14b0 : ((bt a0 x14_2) == 95) = false := beq_eq_false_iff_ne.mpr c14
                          have c14b1 : ((bt a0 x14_2) != 95) = true := bne_iff_ne.mpr c14
                          by_cases c15 : (bt a0 x14_2) = 46
                          · rw [if_pos c15] at H
                            have c15b0 : ((bt a0 x14_2) == 46) = true := beq_iff_eq.mpr c15
                            have c15b1 : ((bt a0 x14_2) != 46) = false := bne_eq_false_iff_eq.mpr c15
                            clear c15
                            have H' := Aside0.mk H
                            clear H
                            have p8 : 0 ≤ (x14_2 : Int) := of_decide_eq_true (by first | (with_reducible assumption) | assumption)
                            have q8 : x14_2 < (a0.size : Int) := of_decide_eq_true (by first | (with_reducible assumption) | assumption)
                            have hx8 := bt_at a0 x14_2
                            replace p8 := eq_true p8
                            replace q8 := eq_true q8
                            go_wp2
                            go_roundg k2
                            case measure => have := HJ1.out; have := HK2.out; omega
                            case rel => exact ⟨(wrap64 (x14_2 + 1)), (by first | rfl | (simp; done) | (simp [*]; done)), H', ⟨by have := HJ1.out; have := HK2.out; omega⟩, by repeat (first | exact Drawn0.refl _ | apply Drawn0.step)⟩
                          · rw [if_neg c15] at H
                            have c15b0 : ((bt a0 x14_2) == 46) = false := beq_eq_false_iff_ne.mpr c15
                            have c15b1 : ((bt a0 x14_2) != 46) = true := bne_iff_ne.mpr c15
                            obtain rfl := Option.some.inj H
                            have p8 : 0 ≤ (x14_2 : Int) := of_decide_eq_true (by first | (with_reducible assumption) | assumption)
                            have q8 : x14_2 < (a0.size : Int) := of_decide_eq_true (by first | (with_reducible assumption) | assumption)
                            have hx8 := bt_at a0 x14_2
                            replace p8 := eq_true p8
                            replace q8 := eq_true q8
                            go_wp2
                            go_ret
                            exact ⟨by first | rfl | (simp; done) | (simp [*]; done), by repeat (first | exact Drawn0.refl _ | apply Drawn0.step)⟩
                      · rw [if_neg c13] at H
                        have c13b0 : decide (57 < (bt a0 x14_2)) = false := decide_eq_false c13
                        clear c13
                        have H' := Aside0.mk H
                        clear H
                        have p8 : 0 ≤ (x14_2 : Int) := of_decide_eq_true (by first | (with_reducible assumption) | assumption)
                        have q8 : x14_2 < (a0.size : Int) := of_decide_eq_true (by first | (with_reducible assumption) | assumption)
                        have hx8 := bt_at a0 x14_2
                        replace p8 := eq_true p8
                        replace q8 := eq_true q8
                        go_wp2
                        go_roundg k2
                        case measure => have := HJ1.out; have := HK2.out; omega
                        case rel => exact ⟨(wrap64 (x14_2 + 1)), (by first | rfl | (simp; done) | (simp [*]; done)), H', ⟨by have := HJ1.out; have := HK2.out; omega⟩, by repeat (first | exact Drawn0.refl _ | apply Drawn0.step)⟩
                  · rw [if_neg c9] at H
                    have c9b0 : decide ((bt a0 x14_2) < 97) = false := decide_eq_false c9
                    clear c9
                    by_cases c16 : (bt a0 x14_2) > 122
                    · rw [if_pos c16] at H
                      have c16b0 : decide (122 < (bt a0 x14_2)) = true := decide_eq_true c16
                      clear c16
                      by_cases c17 : (bt a0 x14_2) < 48
                      · rw [if_pos c17] at H
                        have c17b0 : decide ((bt a0 x14_2) < 48) = true := decide_eq_true c17
                        clear c17
                        by_cases c18 : (bt a0 x14_2) = 95
                        · rw [if_pos c18] at H
                          have c18b0 : ((bt a0 x14_2) == 95) = true := beq_iff_eq.mpr c18
                          have c18b1 : ((bt a0 x14_2) != 95) = false := bne_eq_false_iff_eq.mpr c18
                          clear c18
                          have H' := Aside0.mk H
                          clear H
                          have p8 : 0 ≤ (x14_2 : Int) := of_decide_eq_true (by first | (with_reducible assumption) | assumption)
                          have q8 : x14_2 < (a0.size : Int) := of_decide_eq_true (by first | (with_reducible assumption) | assumption)
                          have hx8 := bt_at a0 x14_2
                          replace p8 := eq_true p8
                          replace q8 := eq_true q8
                          go_wp2
                          go_roundg k2
                          case measure => have := HJ1.out; have := HK2.out; omega
                          case rel => exact ⟨(wrap64 (x14_2 + 1)), (by first | rfl | (simp; done) | (simp [*]; done)), H', ⟨by have := HJ1.out; have := HK2.out; omega⟩, by repeat (first | exact Drawn0.refl _ | apply Drawn0.step)⟩
                        · rw [if_neg c18] at H
                          have c18b0 : ((bt a0 x14_2) == 95) = false := beq_eq_false_iff_ne.mpr c18
                          have c18b1 : ((bt a0 x14_2) != 95) = true := bne_iff_ne.mpr c18
                          by_cases c19 : (bt a0 x14_2) = 46
                          · rw [if_pos c19] at H
                            have c19b0 : ((bt a0 x14_2) == 46) = true := beq_iff_eq.mpr c19
                            have c19b1 : ((bt a0 x14_2) != 46) = false := bne_eq_false_iff_eq.mpr c19
                            clear c19
                            have H' := Aside0.mk H
                            clear H
                            have p8 : 0 ≤ (x14_2 : Int) := of_decide_eq_true (by first | (with_reducible assumption) | assumption)
                            have q8 : x14_2 < (a0.size : Int) := of_decide_eq_true (by first | (with_reducible assumption) | assumption)
                            have hx8 := bt_at a0 x14_2
                            replace p8 := eq_true p8
                            replace q8 := eq_true q8
                            go_wp2
                            go_roundg k2
                            case measure => have := HJ1.out; have := HK2.out; omega
                            case rel => exact ⟨(wrap64 (x14_2 + 1)), (by first | rfl | (simp; done) | (simp [*]; done)), H', ⟨by have := HJ1.out; have := HK2.out; omega⟩, by repeat (first | exact Drawn0.refl _ | apply Drawn0.step)⟩
                          · rw [if_neg c19] at H
                            have c19b0 : ((bt a0 x14_2) == 46) = false := beq_eq_false_iff_ne.mpr c19
                            have c19b1 : ((bt a0 x14_2) != 46) = true := bne_iff_ne.mpr c19
                            obtain rfl := Option.some.inj H
                            have p8 : 0 ≤ (x14_2 : Int) := of_decide_eq_true (by first | (with_reducible assumption) | assumption)
                            have q8 : x14_2 < (a0.size : Int) := of_decide_eq_true (by first | (with_reducible assumption) | assumption)
                            have hx8 := bt_at a0 x14_2
                            replace p8 := eq_true p8
                            replace q8 := eq_true q8
                            go_wp2
                            go_ret
                            exact ⟨by first | rfl | (simp; done) | (simp [*]; done), by repeat (first | exact Drawn0.refl _ | apply Drawn0.step)⟩
                      · rw [if_neg c17] at H
                        have c17b0 : decide ((bt a0 x14_2) < 48) = false := decide_eq_false c17
                        clear c17
                        by_cases c20 : (bt a0 x14_2) > 57
                        · rw [if_pos c20] at H
                          have c20b0 : decide (57 < (bt a0 x14_2)) = true := decide_eq_true c20
                          clear c20
                          by_cases c21 : (bt a0 x14_2) = 95
                          · rw [if_pos c21] at H
                            have c21b0 : ((bt a0 x14_2) == 95) = true := beq_iff_eq.mpr c21
                            have c21b1 : ((bt a0 x14_2) != 95) = false := bne_eq_false_iff_eq.mpr c21
                            clear c21
                            have H' := Aside0.mk H
                            clear H
                            have p8 : 0 ≤ (x14_2 : Int) := of_decide_eq_true (by first | (with_reducible assumption) | assumption)
                            have q8 : x14_2 < (a0.size : Int) := of_decide_eq_true (by first | (with_reducible assumption) | assumption)
                            have hx8 := bt_at a0 x14_2
                            replace p8 := eq_true p8
                            replace q8 := eq_true q8
                            go_wp2
                            go_roundg k2
                            case measure => have := HJ1.out; have := HK2.out; omega
                            case rel => exact ⟨(wrap64 (x14_2 + 1)), (by first | rfl | (simp; done) | (simp [*]; done)), H', ⟨by have := HJ1.out; have := HK2.out; omega⟩, by repeat (first | exact Drawn0.refl _ | apply Drawn0.step)⟩
                          · rw [if_neg c21] at H
                            have c21b0 : ((bt a0 x14_2) == 95) = false := beq_eq_false_iff_ne.mpr c21
                            have c21b1 : ((bt a0 x14_2) != 95) = true := bne_iff_ne.mpr c21
                            by_cases c22 : (bt a0 x14_2) = 46
                            · rw [if_pos c22] at H
                              have c22b0 : ((bt a0 x14_2) == 46) = true := beq_iff_eq.mpr c22
                              have c22b1 : ((bt a0 x14_2) != 46) = false := bne_eq_false_iff_eq.mpr c22
                              clear c22
                              have H' := Aside0.mk H
                              clear H
                              have p8 : 0 ≤ (x14_2 : Int) := of_decide_eq_true (by first | (with_reducible assumption) | assumption)
                              have q8 : x14_2 < (a0.size : Int) := of_decide_eq_true (by first | (with_reducible assumption) | assumption)
                              have hx8 := bt_at a0 x14_2
                              replace p8 := eq_true p8
                              replace q8 := eq_true q8
                              go_wp2
                              go_roundg k2
                              case measure => have := HJ1.out; have := HK2.out; omega
                              case rel => exact ⟨(wrap64 (x14_2 + 1)), (by first | rfl | (simp; done) | (simp [*]; done)), H', ⟨by have := HJ1.out; have := HK2.out; omega⟩, by repeat (first | exact Drawn0.refl _ | apply Drawn0.step)⟩
                            · rw [if_neg c22] at H
                              have c22b0 : ((bt a0 x14_2) == 46) = false := beq_eq_false_iff_ne.mpr c22
                              have c22b1 : ((bt a0 x14_2) != 46) = true := bne_iff_ne.mpr c22
                              obtain rfl := Option.some.inj H
                              have p8 : 0 ≤ (x14_2 : Int) := of_decide_eq_true (by first | (with_reducible assumption) | assumption)
                              have q8 : x14_2 < (a0.size : Int) := of_decide_eq_true (by first | (with_reducible assumption) | assumption)
                              have hx8 := bt_at a0 x14_2
                              replace p8 := eq_true p8
                              replace q8 := eq_true q8
                              go_wp2
                              go_ret
                              exact ⟨by first | rfl | (simp; done) | (simp [*]; done), by repeat (first | exact Drawn0.refl _ | apply Drawn0.step)⟩
                        · rw [if_neg c20] at H
                          have c20b0 : decide (57 < (bt a0 x14_2)) = false := decide_eq_false c20
                          clear c20
                          have H' := Aside0.mk H
                          clear H
                          have p8 : 0 ≤ (x14_2 : Int) := of_decide_eq_true (by first | (with_reducible assumption) | assumption)
                          have q8 : x14_2 < (a0.size : Int) := of_decide_eq_true (by first | (with_reducible assumption) | assumption)
                          have hx8 := bt_at a0 x14_2
                          replace p8 := eq_true p8
                          replace q8 := eq_true q8
                          go_wp2
                          go_roundg k2
                          case measure => have := HJ1.out; have := HK2.out; omega
                          case rel => exact ⟨(wrap64 (x14_2 + 1)), (by first | rfl | (simp; done) | (simp [*]; done)), H', ⟨by have := HJ1.out; have := HK2.out; omega⟩, by repeat (first | exact Drawn0.refl _ | apply Drawn0.step)⟩
                    · rw [if_neg c16] at H
                      have c16b0 : decide (122 < (bt a0 x14_2)) = false := decide_eq_false c16
                      clear c16
                      have H' := Aside0.mk H
                      clear H
                      have p8 : 0 ≤ (x14_2 : Int) := of_decide_eq_true (by first | (with_reducible assumption) | assumption)
                      have q8 : x14_2 < (a0.size : Int) := of_decide_eq_true (by first | (with_reducible assumption) | assumption)
                      have hx8 := bt_at a0 x14_2
                      replace p8 := eq_true p8
                      replace q8 := eq_true q8
                      go_wp2
                      go_roundg k2
                      case measure => have := HJ1.out; have := HK2.out; omega
                      case rel => exact ⟨(wrap64 (x14_2 + 1)), (by first | rfl | (simp; done) | (simp [*]; done)), H', ⟨by have := HJ1.out; have := HK2.out; omega⟩, by repeat (first | exact Drawn0.refl _ | apply Drawn0.step)⟩
                · rw [if_neg c7] at H
                  exact absurd H (by simp)
              · rw [if_neg c6] at H
                exact absurd H (by simp)
            · rw [if_neg c5] at H
              have c5b0 : decide (x14_2 < (a0.size : Int)) = false := decide_eq_false c5
              clear c5
              obtain rfl := Option.some.inj H
              go_wp2
              go_ret
              exact ⟨by first | rfl | (simp; done) | (simp [*]; done), by repeat (first | exact Drawn0.refl _ | apply Drawn0.step)⟩
end Go.Proofs.Ytbdciklcckjknaa.P
namespace Go.Proofs.Ytbdciklcckjknaa.P
open Go.RowKit Go.Proofs.YtbdciklcckjknaaW.PrintWords Go.Proofs.YtbdciklcckjknaaW.PrintLast Go.Proofs.YtbdciklcckjknaaW.PrintMore
attribute [local go_sem] max2_int min2_int max_two min_two max_three min_three max_four min_four
set_option linter.unusedVariables false
set_option linter.unusedSimpArgs false
def object_small.f (a0 : Int) : Option (Bool) := if a0 ≥ 0 then (some (decide (a0 ≤ 64))) else (some false)
set_option maxHeartbeats 8000000 in
set_option maxRecDepth 100000 in
theorem object_small.calls (a0 : Int) (r : Bool) (w : World) (h : object_small.f a0 = some r) :
    Calls Try.prog 60 #[.int .i64 a0] w fun e w' => e = .returned (.bool r) ∧ Drawn0 w w' := by
  have H : (if a0 ≥ 0 then (some (decide (a0 ≤ 64))) else (some false)) = some r := h
  clear h
  by_cases c2 : a0 ≥ 0
  · rw [if_pos c2] at H
    have c2b0 : decide (0 ≤ a0) = true := decide_eq_true c2
    clear c2
    obtain rfl := Option.some.inj H
    go_enter Try.func60, Try.ntmps60
    go_wp2
    go_ret
    exact ⟨by first | rfl | (simp; done) | (simp [*]; done), by repeat (first | exact Drawn0.refl _ | apply Drawn0.step)⟩
  · rw [if_neg c2] at H
    have c2b0 : decide (0 ≤ a0) = false := decide_eq_false c2
    clear c2
    obtain rfl := Option.some.inj H
    go_enter Try.func60, Try.ntmps60
    go_wp2
    go_ret
    exact ⟨by first | rfl | (simp; done) | (simp [*]; done), by repeat (first | exact Drawn0.refl _ | apply Drawn0.step)⟩
end Go.Proofs.Ytbdciklcckjknaa.P
