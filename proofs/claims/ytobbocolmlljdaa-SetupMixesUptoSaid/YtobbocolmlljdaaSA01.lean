/- Texts of this claim, merged by pack.py: P0 HO HT HB HI0 HJ S1 PEq9 PReefref33DiceNext PReefref33DiceOne S2 S3 S4 S5 HU -/
import Derived.Test.YtobbocolmlljdaaProg
import Derived.Below
import Derived.Deep.Draws
import Derived.Deep.AppendLies
import Derived.Maps.AppendAt
import Derived.OwnWalk
import Derived.Laws.BytesArg
import Derived.Laws.MakeOwn
import Derived.Laws.OwnMore
import Derived.Deep.OwnRows
import Derived.Tactics
import Derived.Lib.ConvBytes
import Derived.Laws.Slices
import Derived.WalkKit
import Derived.KernelRfl
import Derived.RowKit3
import Derived.Deep.LoopGhost
import Derived.Deep.QuietTactic
import Derived.BigQuiet
import Derived.WideLaws
import Derived.Deep.DeepCutAuto
import Derived.Deep.CutBlock
import Derived.Deep.RegionHeld3
import Derived.Laws.Rows
import Derived.Lib.AppendStr
import Derived.ArgAppend
import Derived.Laws.IdiomCopy
import Derived.OrdersHeld
import Derived.Laws.BitsLemmas
import Derived.RowKit
import Derived.Test.YtobbocolmlljdaaSA00
import Derived.Deep.Slices
import Derived.SizedLaws
import Derived.WideShapes
import Derived.ChangeArms
import Derived.WalkSpells
import Derived.RangeFuncNested
import Derived.RangeFuncBound
import Derived.RangeFuncCalls
import Derived.RangeFuncLeaves
import Derived.Shelf.Abstract
import Derived.Shelf.RegionOpen
import Derived.OwnWalkIn
import Derived.TacticsInMore
import Derived.LoopNIn
import Derived.LoopIn
import Derived.Deep.MidRow
import Derived.Great.BuildSlice
import Derived.RegionTactic
namespace Go.Proofs.Ytobbocolmlljdaa.P
open Go.RowKit Go.Proofs.YtobbocolmlljdaaW.PrintWords Go.Proofs.YtobbocolmlljdaaW.PrintLast Go.Proofs.YtobbocolmlljdaaW.PrintMore
attribute [local go_sem] max2_int min2_int max_two min_two max_three min_three max_four min_four
set_option linter.unusedVariables false
set_option linter.unusedSimpArgs false
def errW : Option Int → Value
  | none => .nilIface
  | some c => .iface 0 (.int .i64 c)
theorem errW_none : errW none = .nilIface := rfl
theorem errW_some (c : Int) : errW (some c) = .iface 0 (.int .i64 c) := rfl
theorem info3 : (Try.prog.info? 3).map (fun i => (i.zero, i.size, i.bytes)) = some (some (.int .i64 0), 1, 8) := by kernel_rfl
theorem info41 : (Try.prog.info? 41).map (fun i => (i.zero, i.size, i.bytes)) = some (some (.agg #[(.int .i64 0), (.int .i64 0), (.int .i64 0), (.int .i64 0), (.int .i64 0), (.int .i64 0), (.int .u64 0), (.int .i64 0), (.int .i64 0), (.int .i64 0), (.int .i64 0), (.int .i64 0), (.int .i64 0), (.int .i64 0), (.int .i64 0), (.int .i64 0), (.int .i64 0), (.string ⟨#[]⟩), (.int .i64 0), (.int .i64 0), (.string ⟨#[]⟩), (.string ⟨#[]⟩), (.int .i64 0), (.int .i64 0), (.int .i64 0), (.string ⟨#[]⟩), (.bool false), (.int .i64 0), (.slice none 0 0), (.string ⟨#[]⟩), (.int .i64 0), (.int .i64 0), (.int .i64 0)]), 33, 320) := by kernel_rfl
theorem info114 : (Try.prog.info? 114).map (fun i => (i.zero, i.size, i.bytes)) = some (some (.agg #[(.int .i64 0), (.bool false), (.int .i64 0), (.int .i64 0)]), 4, 32) := by kernel_rfl
structure S84 where
  f0 : Int
  f1 : Int
  f2 : Int
  f3 : Int
def z84 : S84 := ⟨(0 : Int), (0 : Int), (0 : Int), (0 : Int)⟩
def k84 : Kd S84 := Kd.iso (Kd.pair (Kd.int .i64) (Kd.pair (Kd.int .i64) (Kd.pair (Kd.int .i64) (Kd.int .i64)))) (fun x : S84 => (x.f0, x.f1, x.f2, x.f3))
theorem k84_open {w : World} {x : S84} {cs : List Value} (h : k84.K w x cs) : cs = [.int .i64 x.f0, .int .i64 x.f1, .int .i64 x.f2, .int .i64 x.f3] := by
  obtain ⟨_, _, rfl, rfl, ⟨_, _, rfl, rfl, ⟨_, _, rfl, rfl, rfl⟩⟩⟩ := h
  exact rfl
structure S86 where
  f0 : Int
  f1 : S84
def z86 : S86 := ⟨(0 : Int), z84⟩
def k86 : Kd S86 := Kd.iso (Kd.pair (Kd.int .i64) k84) (fun x : S86 => (x.f0, x.f1))
theorem k86_open {w : World} {x : S86} {cs : List Value} (h : k86.K w x cs) : cs = [.int .i64 x.f0, .int .i64 x.f1.f0, .int .i64 x.f1.f1, .int .i64 x.f1.f2, .int .i64 x.f1.f3] := by
  obtain ⟨_, _, rfl, rfl, s1⟩ := h
  obtain rfl := k84_open s1
  exact rfl
def rd_T86 (xs : List S86) (i : Int) : S86 := xs.getD i.toNat z86
theorem at_T86 {w : World} {A : Option Addr} {n : Nat} {xs : List S86} (h : Kd.C k86 w A n xs) (i : Int) (h0 : 0 ≤ i) (h1 : i < n) : ∃ ad , A = some ad ∧ w.cell? (ad.add (i.toNat * 5)) = some (.int .i64 (rd_T86 xs i).f0) ∧ w.cell? ⟨(ad.add (i.toNat * 5)).block, (ad.add (i.toNat * 5)).off + 1, none⟩ = some (.int .i64 (rd_T86 xs i).f1.f0) ∧ w.cell? ⟨(ad.add (i.toNat * 5)).block, (ad.add (i.toNat * 5)).off + 2, none⟩ = some (.int .i64 (rd_T86 xs i).f1.f1) ∧ w.cell? ⟨(ad.add (i.toNat * 5)).block, (ad.add (i.toNat * 5)).off + 3, none⟩ = some (.int .i64 (rd_T86 xs i).f1.f2) ∧ w.cell? ⟨(ad.add (i.toNat * 5)).block, (ad.add (i.toNat * 5)).off + 4, none⟩ = some (.int .i64 (rd_T86 xs i).f1.f3) := by
  obtain ⟨ad, c, e, _, hK, hc0⟩ := Kd.C_get h z86 i h0 h1
  have hc : ∀ j u, c[j]? = some u → w.cell? (ad.add (i.toNat * 5 + j)) = some u := hc0
  obtain rfl := k86_open hK
  exact ⟨ad, e, hc 0 _ rfl, by rw [← add_field _ _ 1 (by omega)]; exact hc 1 _ rfl, by rw [← add_field _ _ 2 (by omega)]; exact hc 2 _ rfl, by rw [← add_field _ _ 3 (by omega)]; exact hc 3 _ rfl, by rw [← add_field _ _ 4 (by omega)]; exact hc 4 _ rfl⟩
structure S27 where
  f0 : Int
  f1 : Int
def z27 : S27 := ⟨(0 : Int), (0 : Int)⟩
def k27 : Kd S27 := Kd.iso (Kd.pair (Kd.int .i64) (Kd.int .i64)) (fun x : S27 => (x.f0, x.f1))
theorem k27_open {w : World} {x : S27} {cs : List Value} (h : k27.K w x cs) : cs = [.int .i64 x.f0, .int .i64 x.f1] := by
  obtain ⟨_, _, rfl, rfl, rfl⟩ := h
  exact rfl
theorem k27_mkM (w : World) (base : Nat) (ok : Nat → Prop) (x : S27)  : k27.M w base ok x [.int .i64 x.f0, .int .i64 x.f1] := ⟨[.int .i64 x.f0], [.int .i64 x.f1], rfl, rfl, rfl⟩
def rd_T27 (xs : List S27) (i : Int) : S27 := xs.getD i.toNat z27
theorem at_T27 {w : World} {A : Option Addr} {n : Nat} {xs : List S27} (h : Kd.C k27 w A n xs) (i : Int) (h0 : 0 ≤ i) (h1 : i < n) : ∃ ad , A = some ad ∧ w.cell? (ad.add (i.toNat * 2)) = some (.int .i64 (rd_T27 xs i).f0) ∧ w.cell? ⟨(ad.add (i.toNat * 2)).block, (ad.add (i.toNat * 2)).off + 1, none⟩ = some (.int .i64 (rd_T27 xs i).f1) := by
  obtain ⟨ad, c, e, _, hK, hc0⟩ := Kd.C_get h z27 i h0 h1
  have hc : ∀ j u, c[j]? = some u → w.cell? (ad.add (i.toNat * 2 + j)) = some u := hc0
  obtain rfl := k27_open hK
  exact ⟨ad, e, hc 0 _ rfl, by rw [← add_field _ _ 1 (by omega)]; exact hc 1 _ rfl⟩
structure S29 where
  f0 : Int
  f1 : Int
  f2 : Int
  f3 : Int
def z29 : S29 := ⟨(0 : Int), (0 : Int), (0 : Int), (0 : Int)⟩
def k29 : Kd S29 := Kd.iso (Kd.pair (Kd.int .i64) (Kd.pair (Kd.int .i64) (Kd.pair (Kd.int .i64) (Kd.int .i64)))) (fun x : S29 => (x.f0, x.f1, x.f2, x.f3))
theorem k29_open {w : World} {x : S29} {cs : List Value} (h : k29.K w x cs) : cs = [.int .i64 x.f0, .int .i64 x.f1, .int .i64 x.f2, .int .i64 x.f3] := by
  obtain ⟨_, _, rfl, rfl, ⟨_, _, rfl, rfl, ⟨_, _, rfl, rfl, rfl⟩⟩⟩ := h
  exact rfl
theorem k29_mk (w : World) (x : S29)  : k29.K w x [.int .i64 x.f0, .int .i64 x.f1, .int .i64 x.f2, .int .i64 x.f3] := ⟨[.int .i64 x.f0], [.int .i64 x.f1, .int .i64 x.f2, .int .i64 x.f3], rfl, rfl, ⟨[.int .i64 x.f1], [.int .i64 x.f2, .int .i64 x.f3], rfl, rfl, ⟨[.int .i64 x.f2], [.int .i64 x.f3], rfl, rfl, rfl⟩⟩⟩
def rd_T29 (xs : List S29) (i : Int) : S29 := xs.getD i.toNat z29
theorem at_T29 {w : World} {A : Option Addr} {n : Nat} {xs : List S29} (h : Kd.C k29 w A n xs) (i : Int) (h0 : 0 ≤ i) (h1 : i < n) : ∃ ad , A = some ad ∧ w.cell? (ad.add (i.toNat * 4)) = some (.int .i64 (rd_T29 xs i).f0) ∧ w.cell? ⟨(ad.add (i.toNat * 4)).block, (ad.add (i.toNat * 4)).off + 1, none⟩ = some (.int .i64 (rd_T29 xs i).f1) ∧ w.cell? ⟨(ad.add (i.toNat * 4)).block, (ad.add (i.toNat * 4)).off + 2, none⟩ = some (.int .i64 (rd_T29 xs i).f2) ∧ w.cell? ⟨(ad.add (i.toNat * 4)).block, (ad.add (i.toNat * 4)).off + 3, none⟩ = some (.int .i64 (rd_T29 xs i).f3) := by
  obtain ⟨ad, c, e, _, hK, hc0⟩ := Kd.C_get h z29 i h0 h1
  have hc : ∀ j u, c[j]? = some u → w.cell? (ad.add (i.toNat * 4 + j)) = some u := hc0
  obtain rfl := k29_open hK
  exact ⟨ad, e, hc 0 _ rfl, by rw [← add_field _ _ 1 (by omega)]; exact hc 1 _ rfl, by rw [← add_field _ _ 2 (by omega)]; exact hc 2 _ rfl, by rw [← add_field _ _ 3 (by omega)]; exact hc 3 _ rfl⟩
structure S31 where
  f0 : Int
  f1 : Int
  f2 : Int
  f3 : Int
  f4 : S29
def z31 : S31 := ⟨(0 : Int), (0 : Int), (0 : Int), (0 : Int), z29⟩
def k31 : Kd S31 := Kd.iso (Kd.pair (Kd.int .i64) (Kd.pair (Kd.int .i64) (Kd.pair (Kd.int .i64) (Kd.pair (Kd.int .i64) k29)))) (fun x : S31 => (x.f0, x.f1, x.f2, x.f3, x.f4))
theorem k31_open {w : World} {x : S31} {cs : List Value} (h : k31.K w x cs) : cs = [.int .i64 x.f0, .int .i64 x.f1, .int .i64 x.f2, .int .i64 x.f3, .int .i64 x.f4.f0, .int .i64 x.f4.f1, .int .i64 x.f4.f2, .int .i64 x.f4.f3] := by
  obtain ⟨_, _, rfl, rfl, ⟨_, _, rfl, rfl, ⟨_, _, rfl, rfl, ⟨_, _, rfl, rfl, s4⟩⟩⟩⟩ := h
  obtain rfl := k29_open s4
  exact rfl
structure S33 where
  f0 : Int
  f1 : ByteArray
  f2 : Int
  f3 : Int
  f4 : ByteArray
def z33 : S33 := ⟨(0 : Int), (⟨#[]⟩ : ByteArray), (0 : Int), (0 : Int), (⟨#[]⟩ : ByteArray)⟩
def k33 : Kd S33 := Kd.iso (Kd.pair (Kd.int .i64) (Kd.pair Kd.string (Kd.pair (Kd.int .i64) (Kd.pair (Kd.int .i64) Kd.string)))) (fun x : S33 => (x.f0, x.f1, x.f2, x.f3, x.f4))
theorem k33_open {w : World} {x : S33} {cs : List Value} (h : k33.K w x cs) : cs = [.int .i64 x.f0, .string x.f1, .int .i64 x.f2, .int .i64 x.f3, .string x.f4] := by
  obtain ⟨_, _, rfl, rfl, ⟨_, _, rfl, rfl, ⟨_, _, rfl, rfl, ⟨_, _, rfl, rfl, rfl⟩⟩⟩⟩ := h
  exact rfl
structure S37 where
  f0 : Int
  f1 : Int
def z37 : S37 := ⟨(0 : Int), (0 : Int)⟩
def k37 : Kd S37 := Kd.iso (Kd.pair (Kd.int .i64) (Kd.int .i64)) (fun x : S37 => (x.f0, x.f1))
theorem k37_open {w : World} {x : S37} {cs : List Value} (h : k37.K w x cs) : cs = [.int .i64 x.f0, .int .i64 x.f1] := by
  obtain ⟨_, _, rfl, rfl, rfl⟩ := h
  exact rfl
structure S39 where
  f0 : Int
  f1 : Int
  f2 : Int
  f3 : ByteArray
  f4 : Bool
  f5 : Int
  f6 : (List S86)
  f7 : ByteArray
  f8 : Int
  f9 : S37
def z39 : S39 := ⟨(0 : Int), (0 : Int), (0 : Int), (⟨#[]⟩ : ByteArray), false, (0 : Int), ([] : List S86), (⟨#[]⟩ : ByteArray), (0 : Int), z37⟩
def k39 : Kd S39 := Kd.iso (Kd.pair (Kd.int .i64) (Kd.pair (Kd.int .i64) (Kd.pair (Kd.int .i64) (Kd.pair Kd.string (Kd.pair Kd.bool (Kd.pair (Kd.int .i64) (Kd.pair (Kd.slice 86 k86) (Kd.pair Kd.string (Kd.pair (Kd.int .i64) k37))))))))) (fun x : S39 => (x.f0, x.f1, x.f2, x.f3, x.f4, x.f5, x.f6, x.f7, x.f8, x.f9))
theorem k39_open {w : World} {x : S39} {cs : List Value} (h : k39.K w x cs) : ∃ A6 c6, cs = [.int .i64 x.f0, .int .i64 x.f1, .int .i64 x.f2, .string x.f3, .bool x.f4, .int .i64 x.f5, .slice A6 x.f6.length c6, .string x.f7, .int .i64 x.f8, .int .i64 x.f9.f0, .int .i64 x.f9.f1] ∧ x.f6.length ≤ c6 ∧ k86.C w A6 x.f6.length x.f6 := by
  obtain ⟨_, _, rfl, rfl, ⟨_, _, rfl, rfl, ⟨_, _, rfl, rfl, ⟨_, _, rfl, rfl, ⟨_, _, rfl, rfl, ⟨_, _, rfl, rfl, ⟨_, _, rfl, ⟨A6, c6, rfl, l6, g6⟩, ⟨_, _, rfl, rfl, ⟨_, _, rfl, rfl, s9⟩⟩⟩⟩⟩⟩⟩⟩⟩ := h
  obtain rfl := k37_open s9
  exact ⟨A6, c6, rfl, l6, g6⟩
structure S41 where
  f0 : Int
  f1 : S27
  f2 : S27
  f3 : Int
  f4 : Int
  f5 : S31
  f6 : Int
  f7 : S33
  f8 : ByteArray
  f9 : S39
def z41 : S41 := ⟨(0 : Int), z27, z27, (0 : Int), (0 : Int), z31, (0 : Int), z33, (⟨#[]⟩ : ByteArray), z39⟩
def k41 : Kd S41 := Kd.iso (Kd.pair (Kd.int .i64) (Kd.pair k27 (Kd.pair k27 (Kd.pair (Kd.int .i64) (Kd.pair (Kd.int .u64) (Kd.pair k31 (Kd.pair (Kd.int .i64) (Kd.pair k33 (Kd.pair Kd.string k39))))))))) (fun x : S41 => (x.f0, x.f1, x.f2, x.f3, x.f4, x.f5, x.f6, x.f7, x.f8, x.f9))
theorem k41_open {w : World} {x : S41} {cs : List Value} (h : k41.K w x cs) : ∃ A28 c28, cs = [.int .i64 x.f0, .int .i64 x.f1.f0, .int .i64 x.f1.f1, .int .i64 x.f2.f0, .int .i64 x.f2.f1, .int .i64 x.f3, .int .u64 x.f4, .int .i64 x.f5.f0, .int .i64 x.f5.f1, .int .i64 x.f5.f2, .int .i64 x.f5.f3, .int .i64 x.f5.f4.f0, .int .i64 x.f5.f4.f1, .int .i64 x.f5.f4.f2, .int .i64 x.f5.f4.f3, .int .i64 x.f6, .int .i64 x.f7.f0, .string x.f7.f1, .int .i64 x.f7.f2, .int .i64 x.f7.f3, .string x.f7.f4, .string x.f8, .int .i64 x.f9.f0, .int .i64 x.f9.f1, .int .i64 x.f9.f2, .string x.f9.f3, .bool x.f9.f4, .int .i64 x.f9.f5, .slice A28 x.f9.f6.length c28, .string x.f9.f7, .int .i64 x.f9.f8, .int .i64 x.f9.f9.f0, .int .i64 x.f9.f9.f1] ∧ x.f9.f6.length ≤ c28 ∧ k86.C w A28 x.f9.f6.length x.f9.f6 := by
  obtain ⟨_, _, rfl, rfl, ⟨_, _, rfl, s1, ⟨_, _, rfl, s3, ⟨_, _, rfl, rfl, ⟨_, _, rfl, rfl, ⟨_, _, rfl, s7, ⟨_, _, rfl, rfl, ⟨_, _, rfl, s16, ⟨_, _, rfl, rfl, s22⟩⟩⟩⟩⟩⟩⟩⟩⟩ := h
  obtain rfl := k27_open s1
  obtain rfl := k27_open s3
  obtain rfl := k31_open s7
  obtain rfl := k33_open s16
  obtain ⟨A28, c28, rfl, l28, g28⟩ := k39_open s22
  exact ⟨A28, c28, rfl, l28, g28⟩
structure S114 where
  f0 : Int
  f1 : Bool
  f2 : Int
  f3 : Int
def k114 : Kd S114 := Kd.iso (Kd.pair (Kd.int .i64) (Kd.pair Kd.bool (Kd.pair (Kd.int .i64) (Kd.int .i64)))) (fun x : S114 => (x.f0, x.f1, x.f2, x.f3))
theorem k114_mkM (w : World) (base : Nat) (ok : Nat → Prop) (x : S114)  : k114.M w base ok x [.int .i64 x.f0, .bool x.f1, .int .i64 x.f2, .int .i64 x.f3] := ⟨[.int .i64 x.f0], [.bool x.f1, .int .i64 x.f2, .int .i64 x.f3], rfl, rfl, ⟨[.bool x.f1], [.int .i64 x.f2, .int .i64 x.f3], rfl, rfl, ⟨[.int .i64 x.f2], [.int .i64 x.f3], rfl, rfl, rfl⟩⟩⟩
end Go.Proofs.Ytobbocolmlljdaa.P
namespace Go.Proofs.YtobbocolmlljdaaW.HO
open Go.RowKit Go.Proofs.YtobbocolmlljdaaW.PrintWords Go.ChangeShapes Go.WideShapes
set_option linter.unusedVariables false
set_option linter.unusedSectionVars false
section
variable {H : Type} {enc : TypeId × Value → H} {P : Program} {W : World}
structure Opn (enc : TypeId × Value → H) (P : Program) (W : World) (t : TypeId) {α : Type} (d : Kd α) (B : α → Prop) : Prop where
  go : ∀ (fuel : Nat) (cs : List Value) (D : DataW H) (ps : List MemPlace), DataW.trod enc P W 0 (fun _ => true) true fuel t cs = some (D, ps) → (∀ n ∈ D.weights P t, n ≤ reachBytes) → ∃ x, d.K W x cs ∧ B x
theorem Opn.int {t : TypeId} {k : IntKind} (hu : P.underlying t = some (.int k)) : Opn enc P W t (Kd.int k) (fun x => (Lit.int k x).wf = true) := ⟨fun fuel cs D ps h _ => by
  obtain ⟨n, rfl, _, hw⟩ := DataW.trod_int hu h
  exact ⟨n, rfl, hw⟩⟩
theorem Opn.bool {t : TypeId} (hu : P.underlying t = some .bool) : Opn enc P W t Kd.bool (fun _ => True) := ⟨fun fuel cs D ps h _ => by
  obtain ⟨n, rfl, _⟩ := DataW.trod_bool hu h
  exact ⟨n, rfl, trivial⟩⟩
theorem Opn.string {t : TypeId} (hu : P.underlying t = some .string) : Opn enc P W t Kd.string (fun s => s.size ≤ 140737488351232) := ⟨fun fuel cs D ps h hw => by
  obtain ⟨s, rfl, hx, _⟩ := DataW.trod_string hu h
  have hD := congrArg Prod.fst hx
  dsimp only at hD
  subst hD
  refine ⟨s, rfl, ?_⟩
  have := hw s.data.toList.length (by simp [DataW.weights])
  rw [Array.length_toList] at this
  exact this⟩
structure OpnF (enc : TypeId × Value → H) (P : Program) (W : World) (fs : List Field) (off : Nat) {α : Type} (d : Kd α) (B : α → Prop) : Prop where
  go : ∀ (fuel : Nat) (cs : List Value) (xs : List (DataW H × List MemPlace)), xs.length = fs.length → (∀ (i : Nat) (f : Field), fs[i]? = some f → DataW.trod enc P W 0 (fun _ => true) true fuel f.type ((cs.drop f.offset).take (P.cellsOf f.type)) = xs[i]?) →
    (∀ n ∈ DataW.weightsEach P (fs.map (·.type)) (xs.map (·.1)), n ≤ reachBytes) → ∃ x, d.K W x ((cs.drop off).take d.sz) ∧ B x
theorem OpnF.last {f : Field} {off : Nat} {α : Type} {d : Kd α} {B : α → Prop} (ho : f.offset = off) (hc : P.cellsOf f.type = d.sz) (h : Opn enc P W f.type d B) : OpnF enc P W [f] off d B := ⟨fun fuel cs xs hl hx hw => by
  match xs, hl with
  | [y], _ =>
    have h0 := hx 0 f rfl
    rw [ho, hc] at h0
    exact h.go fuel _ _ _ h0 (fun n hn => hw n (by simp [DataW.weightsEach, hn]))⟩
theorem OpnF.cons {f : Field} {fs : List Field} {off off' : Nat} {α β : Type} {a : Kd α} {b : Kd β} {A : α → Prop} {B : β → Prop} (ho : f.offset = off) (hc : P.cellsOf f.type = a.sz) (ho' : off + a.sz = off') (h : Opn enc P W f.type a A) (hs : OpnF enc P W fs off' b B) :
    OpnF enc P W (f :: fs) off (Kd.pair a b) (fun x => A x.1 ∧ B x.2) := ⟨fun fuel cs xs hl hx hw => by
  match xs, hl with
  | y :: ys, hl =>
    have h0 := hx 0 f rfl
    rw [ho, hc] at h0
    obtain ⟨x0, k0, b0⟩ := h.go fuel _ y.1 y.2 h0 (fun n hn => hw n (by simp [DataW.weightsEach, hn]))
    obtain ⟨x1, k1, b1⟩ := hs.go fuel cs ys (by simpa using hl) (fun i g hg => hx (i + 1) g hg) (fun n hn => hw n (by simp only [List.map_cons, DataW.weightsEach, List.mem_append]; exact .inr hn))
    refine ⟨(x0, x1), ⟨_, _, ?_, k0, k1⟩, b0, b1⟩
    show List.take (a.sz + b.sz) (List.drop off cs) = _
    rw [List.take_add, List.drop_drop, ho']⟩
theorem Opn.struct {t : TypeId} {fs : Array Field} {α β : Type} {d : Kd α} {B : α → Prop} (hu : P.underlying t = some (.struct fs)) (hc : P.cellsOf t = d.sz) (h : OpnF enc P W fs.toList 0 d B) (f : β → α) (g : α → β) (hg : ∀ x, f (g x) = x) :
    Opn enc P W t (Kd.iso d f) (fun y => B (f y)) := ⟨fun fuel cs D ps hx hw => by
  obtain ⟨xs, k, hk, hxy, hcl, hxl, hf⟩ := DataW.trod_struct hu hx
  have hD := congrArg Prod.fst hxy
  dsimp only at hD
  subst hD
  obtain ⟨x, hK, hB⟩ := h.go k cs xs (by simpa using hxl) (fun i f' hf' => hf i f' (by simpa using hf')) (fun n hn => hw n (by simp [DataW.weights, hu]; simpa using hn))
  rw [List.drop_zero, ← hc, ← hcl, List.take_length] at hK
  exact ⟨g x, by show d.K W (f (g x)) cs; rw [hg]; exact hK, by show B (f (g x)); rw [hg]; exact hB⟩⟩
theorem weightsAll_mem {e : TypeId} {l : List (DataW H)} {D : DataW H} (hD : D ∈ l) {n : Nat} (hn : n ∈ D.weights P e) : n ∈ DataW.weightsAll P e l := by
  induction l with
  | nil => cases hD
  | cons y l ih =>
    rw [DataW.weightsAll, List.mem_append]
    rcases List.mem_cons.1 hD with rfl | h
    · exact .inl hn
    · exact .inr (ih h)
theorem Opn.slice {t e : TypeId} {α : Type} {d : Kd α} {B : α → Prop} {bytes : Nat} (hu : P.underlying t = some (.slice e)) (hc : P.cellsOf e = d.sz) (hb : P.bytesOf e = bytes) (h : Opn enc P W e d B) :
    Opn enc P W t (Kd.slice e d) (fun xs => xs.length * bytes ≤ 140737488351232 ∧ ∀ x ∈ xs, B x) := ⟨fun fuel cs D ps hx hw => by
  rcases Deep.open_slice hu hx with ⟨rfl, _⟩ | ⟨x, l, c, m, n, Dd, Pl, rfl, _, hl, hm, hmm, hxx, hi⟩
  · exact ⟨[], ⟨none, 0, rfl, Nat.le_refl _, rfl, by simp, fun h => absurd h (Nat.lt_irrefl _)⟩, by simp, fun x hx => by cases hx⟩
  · have hD := congrArg Prod.fst hxx
    dsimp only at hD
    subst hD
    have hlm : l ≤ m := by rw [hmm]; split <;> omega
    rcases Nat.eq_zero_or_pos l with rfl | hpos
    · exact ⟨[], ⟨some x, c, rfl, Nat.zero_le _, rfl, by simp, fun h => absurd h (Nat.lt_irrefl _)⟩, by simp, fun x hx => by cases hx⟩
    have hv0 : ∀ i, i < l → ∃ v cs', cs'.length = d.sz ∧ d.K W v cs' ∧ B v ∧ (∀ q u, cs'[q]? = some u → W.cell? (x.add (i * d.sz + q)) = some u) := fun i hil => by
      obtain ⟨cs', h1, h2⟩ := hi i (by omega)
      obtain ⟨_, hlen, hcell⟩ := World.cells?_some h1
      obtain ⟨v, hK, hB⟩ := h.go n cs' (Dd i) (Pl i) h2 (fun n hn => hw n (by
        simp only [DataW.weights, hu, List.mem_cons, List.mem_append]
        exact .inr (.inl (weightsAll_mem (List.mem_map.2 ⟨i, List.mem_range.2 hil, rfl⟩) hn))))
      refine ⟨v, cs', by rw [← hc]; exact hlen, hK, hB, fun q u hq => ?_⟩
      have hq' : q < P.cellsOf e := by have := (List.getElem?_eq_some_iff.1 hq).1; omega
      have := hcell q hq'
      rw [Deep.add_add, hc] at this
      exact this.trans hq
    obtain ⟨z, _⟩ := hv0 0 hpos
    have hv : ∀ i, ∃ v, i < l → ∃ cs', cs'.length = d.sz ∧ d.K W v cs' ∧ B v ∧ (∀ q u, cs'[q]? = some u → W.cell? (x.add (i * d.sz + q)) = some u) := fun i => by
      by_cases hil : i < l
      · obtain ⟨v, h2⟩ := hv0 i hil
        exact ⟨v, fun _ => h2⟩
      · exact ⟨z, fun h => absurd h hil⟩
    let f : Nat → α := fun i => Classical.choose (hv i)
    have hf := fun i => Classical.choose_spec (hv i)
    have hlen : ((List.range l).map f).length = l := by simp
    refine ⟨(List.range l).map f, ⟨some x, c, by rw [hlen], by rw [hlen]; exact hl, by rw [hlen], by rw [hlen]; unfold maxLen at hm; omega, fun _ => ⟨x, rfl, fun j p hp => ?_⟩⟩, ?_, ?_⟩
    · have hjl : j < l := by have := (List.getElem?_eq_some_iff.1 hp).1; simpa using this
      obtain rfl : f j = p := by have := (List.getElem?_eq_some_iff.1 hp).2; simpa using this
      obtain ⟨cs', h1, h2, _, h4⟩ := hf j hjl
      exact ⟨cs', h1, h2, h4⟩
    · rw [hlen]
      have := hw _ (by simp only [DataW.weights, hu]; exact List.mem_cons_self)
      rw [hb] at this
      simp only [List.length_map, List.length_range, reachBytes] at this
      exact Nat.le_trans (Nat.mul_le_mul_right _ (Nat.le_add_right _ _)) this
    · intro y hy
      obtain ⟨j, hj, rfl⟩ := List.mem_map.1 hy
      obtain ⟨_, _, _, h3, _⟩ := hf j (List.mem_range.1 hj)
      exact h3⟩
theorem Opn.arg {t : TypeId} {α : Type} {d : Kd α} {B : α → Prop} (h : Opn enc P W t d B) {ts : List TypeId} {ds : List (DataW H)} {j : Nat} {D : DataW H} {v : Value} {ps : List MemPlace}
    (hsz : (DataW.weightsEach P ts ds).all (· ≤ reachBytes) = true) (ht : ts[j]? = some t) (hd : ds[j]? = some D) (hx : DataW.Trod enc P W 0 (fun _ => true) true t v D ps) : ∃ x, d.K W x v.cells.toList ∧ B x := by
  obtain ⟨fuel, hf⟩ := hx
  exact h.go fuel _ D ps hf (fun n hn => by simpa using List.all_eq_true.1 hsz _ (DataW.weights_mem_each ht hd n hn))
end
end Go.Proofs.YtobbocolmlljdaaW.HO
namespace Go.Proofs.Ytobbocolmlljdaa.P
open Go.RowKit Go.Proofs.YtobbocolmlljdaaW.PrintWords Go.Proofs.YtobbocolmlljdaaW.HO
set_option linter.unusedVariables false
def bdT27 (x : S27) : Prop := ((Lit.int .i64 x.f0).wf = true) ∧ ((Lit.int .i64 x.f1).wf = true)
theorem opT27 {H : Type} {enc : TypeId × Value → H} {W : World} : Opn enc Try.prog W 27 k27 bdT27 := by
  have h := Opn.struct (H := H) (enc := enc) (P := Try.prog) (W := W) (t := 27) Try.underlying27 (by kernel_rfl) (OpnF.cons rfl (by kernel_rfl) rfl (Opn.int Try.underlying3) (OpnF.last rfl (by kernel_rfl) (Opn.int Try.underlying3))) (fun x : S27 => (x.f0, x.f1)) (fun p => ⟨p.1, p.2⟩) (fun _ => rfl)
  exact h
def bdT29 (x : S29) : Prop := ((Lit.int .i64 x.f0).wf = true) ∧ ((Lit.int .i64 x.f1).wf = true) ∧ ((Lit.int .i64 x.f2).wf = true) ∧ ((Lit.int .i64 x.f3).wf = true)
theorem opT29 {H : Type} {enc : TypeId × Value → H} {W : World} : Opn enc Try.prog W 29 k29 bdT29 := by
  have h := Opn.struct (H := H) (enc := enc) (P := Try.prog) (W := W) (t := 29) Try.underlying29 (by kernel_rfl) (OpnF.cons rfl (by kernel_rfl) rfl (Opn.int Try.underlying3) (OpnF.cons rfl (by kernel_rfl) rfl (Opn.int Try.underlying3) (OpnF.cons rfl (by kernel_rfl) rfl (Opn.int Try.underlying3) (OpnF.last rfl (by kernel_rfl) (Opn.int Try.underlying3))))) (fun x : S29 => (x.f0, x.f1, x.f2, x.f3)) (fun p => ⟨p.1, p.2.1, p.2.2.1, p.2.2.2⟩) (fun _ => rfl)
  exact h
def bdT31 (x : S31) : Prop := ((Lit.int .i64 x.f0).wf = true) ∧ ((Lit.int .i64 x.f1).wf = true) ∧ ((Lit.int .i64 x.f2).wf = true) ∧ ((Lit.int .i64 x.f3).wf = true) ∧ bdT29 x.f4
theorem opT31 {H : Type} {enc : TypeId × Value → H} {W : World} : Opn enc Try.prog W 31 k31 bdT31 := by
  have h := Opn.struct (H := H) (enc := enc) (P := Try.prog) (W := W) (t := 31) Try.underlying31 (by kernel_rfl) (OpnF.cons rfl (by kernel_rfl) rfl (Opn.int Try.underlying3) (OpnF.cons rfl (by kernel_rfl) rfl (Opn.int Try.underlying3) (OpnF.cons rfl (by kernel_rfl) rfl (Opn.int Try.underlying3) (OpnF.cons rfl (by kernel_rfl) rfl (Opn.int Try.underlying2) (OpnF.last rfl (by kernel_rfl) (opT29)))))) (fun x : S31 => (x.f0, x.f1, x.f2, x.f3, x.f4)) (fun p => ⟨p.1, p.2.1, p.2.2.1, p.2.2.2.1, p.2.2.2.2⟩) (fun _ => rfl)
  exact h
def bdT33 (x : S33) : Prop := ((Lit.int .i64 x.f0).wf = true) ∧ (x.f1.size ≤ 140737488351232) ∧ ((Lit.int .i64 x.f2).wf = true) ∧ ((Lit.int .i64 x.f3).wf = true) ∧ (x.f4.size ≤ 140737488351232)
theorem opT33 {H : Type} {enc : TypeId × Value → H} {W : World} : Opn enc Try.prog W 33 k33 bdT33 := by
  have h := Opn.struct (H := H) (enc := enc) (P := Try.prog) (W := W) (t := 33) Try.underlying33 (by kernel_rfl) (OpnF.cons rfl (by kernel_rfl) rfl (Opn.int Try.underlying3) (OpnF.cons rfl (by kernel_rfl) rfl (Opn.string Try.underlying9) (OpnF.cons rfl (by kernel_rfl) rfl (Opn.int Try.underlying2) (OpnF.cons rfl (by kernel_rfl) rfl (Opn.int Try.underlying2) (OpnF.last rfl (by kernel_rfl) (Opn.string Try.underlying9)))))) (fun x : S33 => (x.f0, x.f1, x.f2, x.f3, x.f4)) (fun p => ⟨p.1, p.2.1, p.2.2.1, p.2.2.2.1, p.2.2.2.2⟩) (fun _ => rfl)
  exact h
def bdT84 (x : S84) : Prop := ((Lit.int .i64 x.f0).wf = true) ∧ ((Lit.int .i64 x.f1).wf = true) ∧ ((Lit.int .i64 x.f2).wf = true) ∧ ((Lit.int .i64 x.f3).wf = true)
theorem opT84 {H : Type} {enc : TypeId × Value → H} {W : World} : Opn enc Try.prog W 84 k84 bdT84 := by
  have h := Opn.struct (H := H) (enc := enc) (P := Try.prog) (W := W) (t := 84) Try.underlying84 (by kernel_rfl) (OpnF.cons rfl (by kernel_rfl) rfl (Opn.int Try.underlying3) (OpnF.cons rfl (by kernel_rfl) rfl (Opn.int Try.underlying2) (OpnF.cons rfl (by kernel_rfl) rfl (Opn.int Try.underlying2) (OpnF.last rfl (by kernel_rfl) (Opn.int Try.underlying2))))) (fun x : S84 => (x.f0, x.f1, x.f2, x.f3)) (fun p => ⟨p.1, p.2.1, p.2.2.1, p.2.2.2⟩) (fun _ => rfl)
  exact h
def bdT86 (x : S86) : Prop := ((Lit.int .i64 x.f0).wf = true) ∧ bdT84 x.f1
theorem opT86 {H : Type} {enc : TypeId × Value → H} {W : World} : Opn enc Try.prog W 86 k86 bdT86 := by
  have h := Opn.struct (H := H) (enc := enc) (P := Try.prog) (W := W) (t := 86) Try.underlying86 (by kernel_rfl) (OpnF.cons rfl (by kernel_rfl) rfl (Opn.int Try.underlying2) (OpnF.last rfl (by kernel_rfl) (opT84))) (fun x : S86 => (x.f0, x.f1)) (fun p => ⟨p.1, p.2⟩) (fun _ => rfl)
  exact h
def bdT37 (x : S37) : Prop := ((Lit.int .i64 x.f0).wf = true) ∧ ((Lit.int .i64 x.f1).wf = true)
theorem opT37 {H : Type} {enc : TypeId × Value → H} {W : World} : Opn enc Try.prog W 37 k37 bdT37 := by
  have h := Opn.struct (H := H) (enc := enc) (P := Try.prog) (W := W) (t := 37) Try.underlying37 (by kernel_rfl) (OpnF.cons rfl (by kernel_rfl) rfl (Opn.int Try.underlying3) (OpnF.last rfl (by kernel_rfl) (Opn.int Try.underlying2))) (fun x : S37 => (x.f0, x.f1)) (fun p => ⟨p.1, p.2⟩) (fun _ => rfl)
  exact h
def bdT39 (x : S39) : Prop := ((Lit.int .i64 x.f0).wf = true) ∧ ((Lit.int .i64 x.f1).wf = true) ∧ ((Lit.int .i64 x.f2).wf = true) ∧ (x.f3.size ≤ 140737488351232) ∧ True ∧ ((Lit.int .i64 x.f5).wf = true) ∧ (x.f6.length * 40 ≤ 140737488351232 ∧ ∀ y ∈ x.f6, bdT86 y) ∧ (x.f7.size ≤ 140737488351232) ∧ ((Lit.int .i64 x.f8).wf = true) ∧ bdT37 x.f9
theorem opT39 {H : Type} {enc : TypeId × Value → H} {W : World} : Opn enc Try.prog W 39 k39 bdT39 := by
  have h := Opn.struct (H := H) (enc := enc) (P := Try.prog) (W := W) (t := 39) Try.underlying39 (by kernel_rfl) (OpnF.cons rfl (by kernel_rfl) rfl (Opn.int Try.underlying3) (OpnF.cons rfl (by kernel_rfl) rfl (Opn.int Try.underlying2) (OpnF.cons rfl (by kernel_rfl) rfl (Opn.int Try.underlying2) (OpnF.cons rfl (by kernel_rfl) rfl (Opn.string Try.underlying9) (OpnF.cons rfl (by kernel_rfl) rfl (Opn.bool Try.underlying4) (OpnF.cons rfl (by kernel_rfl) rfl (Opn.int Try.underlying3) (OpnF.cons rfl (by kernel_rfl) rfl (Opn.slice (bytes := 40) Try.underlying34 (by kernel_rfl) (by kernel_rfl) (opT86)) (OpnF.cons rfl (by kernel_rfl) rfl (Opn.string Try.underlying9) (OpnF.cons rfl (by kernel_rfl) rfl (Opn.int Try.underlying35) (OpnF.last rfl (by kernel_rfl) (opT37))))))))))) (fun x : S39 => (x.f0, x.f1, x.f2, x.f3, x.f4, x.f5, x.f6, x.f7, x.f8, x.f9)) (fun p => ⟨p.1, p.2.1, p.2.2.1, p.2.2.2.1, p.2.2.2.2.1, p.2.2.2.2.2.1, p.2.2.2.2.2.2.1, p.2.2.2.2.2.2.2.1, p.2.2.2.2.2.2.2.2.1, p.2.2.2.2.2.2.2.2.2⟩) (fun _ => rfl)
  exact h
def bdT41 (x : S41) : Prop := ((Lit.int .i64 x.f0).wf = true) ∧ bdT27 x.f1 ∧ bdT27 x.f2 ∧ ((Lit.int .i64 x.f3).wf = true) ∧ ((Lit.int .u64 x.f4).wf = true) ∧ bdT31 x.f5 ∧ ((Lit.int .i64 x.f6).wf = true) ∧ bdT33 x.f7 ∧ (x.f8.size ≤ 140737488351232) ∧ bdT39 x.f9
theorem opT41 {H : Type} {enc : TypeId × Value → H} {W : World} : Opn enc Try.prog W 41 k41 bdT41 := by
  have h := Opn.struct (H := H) (enc := enc) (P := Try.prog) (W := W) (t := 41) Try.underlying41 (by kernel_rfl) (OpnF.cons rfl (by kernel_rfl) rfl (Opn.int Try.underlying3) (OpnF.cons rfl (by kernel_rfl) rfl (opT27) (OpnF.cons rfl (by kernel_rfl) rfl (opT27) (OpnF.cons rfl (by kernel_rfl) rfl (Opn.int Try.underlying2) (OpnF.cons rfl (by kernel_rfl) rfl (Opn.int Try.underlying23) (OpnF.cons rfl (by kernel_rfl) rfl (opT31) (OpnF.cons rfl (by kernel_rfl) rfl (Opn.int Try.underlying3) (OpnF.cons rfl (by kernel_rfl) rfl (opT33) (OpnF.cons rfl (by kernel_rfl) rfl (Opn.string Try.underlying9) (OpnF.last rfl (by kernel_rfl) (opT39))))))))))) (fun x : S41 => (x.f0, x.f1, x.f2, x.f3, x.f4, x.f5, x.f6, x.f7, x.f8, x.f9)) (fun p => ⟨p.1, p.2.1, p.2.2.1, p.2.2.2.1, p.2.2.2.2.1, p.2.2.2.2.2.1, p.2.2.2.2.2.2.1, p.2.2.2.2.2.2.2.1, p.2.2.2.2.2.2.2.2.1, p.2.2.2.2.2.2.2.2.2⟩) (fun _ => rfl)
  exact h
end Go.Proofs.Ytobbocolmlljdaa.P
namespace Go.Proofs.YtobbocolmlljdaaW.HB
open Go.RowKit Go.Proofs.YtobbocolmlljdaaW.PrintWords Go.Proofs.YtobbocolmlljdaaW.PrintLast Go.Proofs.YtobbocolmlljdaaW.PrintMore
set_option linter.unusedVariables false
theorem R_empty {α : Type} (d : Kd α) (e : Nat) (w : World) (base : Nat) (ok : Nat → Prop) (hb : base ≤ w.heap.size) (hok : ok w.heap.size) : d.R e (w.alloc (.cells #[] e)) base ok (.slice (some ⟨w.heap.size, 0, none⟩) 0 0) [] := by
  refine ⟨fun k hk => ?_, [], ?_, Reps.none _ _⟩
  · simp [Value.ownBlock] at hk
    exact hk ▸ hok
  · have := World.ownsRow_lit (e := e) (base := base) (size := d.sz) w #[] 0 hb (by simp [maxLen]) (by simp)
    simpa using this
theorem cell_fresh (w : World) (cs : Array Value) (t : TypeId) (o : Nat) (v : Value) (h : cs[o]? = some v) : (w.alloc (.cells cs t)).cell? ⟨w.heap.size, o, none⟩ = some v := by
  have : (w.alloc (.cells cs t)).heap[w.heap.size]? = some (.cells cs t) := by
    show (w.heap.push (.cells cs t))[w.heap.size]? = _
    simp
  unfold World.cell?
  rw [this]
  simpa using h
def idxOf {α : Type} (p : α → Bool) (l : List α) : Int := match l.findIdx? p with | some i => (i : Int) | none => -1
theorem idxOf_hit {α : Type} (p : α → Bool) (l : List α) (i : Nat) (hi : i < l.length) (h : p l[i] = true) (hb : ∀ j, (hj : j < l.length) → j < i → p l[j] = false) : idxOf p l = i := by
  have : l.findIdx? p = some i := by
    rw [List.findIdx?_eq_some_iff_getElem]
    exact ⟨hi, h, fun j hj => by simp [hb j (by omega) hj]⟩
  simp [idxOf, this]
theorem idxOf_none {α : Type} (p : α → Bool) (l : List α) (hb : ∀ j, (hj : j < l.length) → p l[j] = false) : idxOf p l = -1 := by
  have : l.findIdx? p = none := by
    rw [List.findIdx?_eq_none_iff]
    intro x hx
    obtain ⟨j, hj, rfl⟩ := List.mem_iff_getElem.1 hx
    exact hb j hj
  simp [idxOf, this]
theorem idxOf_cases {α : Type} (p : α → Bool) (l : List α) : (idxOf p l = -1 ∧ ∀ x ∈ l, p x = false) ∨ ∃ i : Nat, idxOf p l = i ∧ ∃ h : i < l.length, p l[i] = true ∧ ∀ j, (hj : j < l.length) → j < i → p l[j] = false := by
  unfold idxOf
  cases h : l.findIdx? p with
  | none => exact .inl ⟨rfl, by simpa [List.findIdx?_eq_none_iff] using h⟩
  | some i =>
    rw [List.findIdx?_eq_some_iff_getElem] at h
    obtain ⟨h1, h2, h3⟩ := h
    exact .inr ⟨i, rfl, h1, h2, fun j hj hji => by simpa using h3 j hji⟩
theorem frozen_fresh (w : World) (cs : Array Value) (t : TypeId) (o : Nat) : (w.alloc (.cells cs t)).frozen? ⟨w.heap.size, o, none⟩ = false := by
  have : (w.alloc (.cells cs t)).heap[w.heap.size]? = some (.cells cs t) := by
    show (w.heap.push (.cells cs t))[w.heap.size]? = _
    simp
  unfold World.frozen?
  rw [this]
  simp
variable {P : Program}
end Go.Proofs.YtobbocolmlljdaaW.HB
namespace Go.Proofs.Ytobbocolmlljdaa.P
open Go.RowKit Go.Proofs.YtobbocolmlljdaaW.PrintWords Go.Proofs.YtobbocolmlljdaaW.PrintLast Go.Proofs.YtobbocolmlljdaaW.PrintMore Go.Proofs.YtobbocolmlljdaaW.HB
set_option linter.unusedVariables false
attribute [local go_sem] Oper.semAt_some
def KeepX (N0 : Nat) (X Ts : Nat → Prop) (W W' : World) : Prop :=
  W.heap.size ≤ W'.heap.size ∧ ∀ k cs T fr, W.heap[k]? = some (.cells cs T fr) → ((k < N0 ∧ ¬ X k) ∨ (N0 ≤ k ∧ Ts T)) → W'.heap[k]? = some (.cells cs T fr)
theorem KeepX.refl (N0 : Nat) (X Ts : Nat → Prop) (W : World) : KeepX N0 X Ts W W := ⟨Nat.le_refl _, fun _ _ _ _ h _ => h⟩
theorem KeepX.trans {N0 : Nat} {X Ts : Nat → Prop} {A B C : World} (h : KeepX N0 X Ts A B) (k : KeepX N0 X Ts B C) : KeepX N0 X Ts A C := ⟨Nat.le_trans h.1 k.1, fun i cs T fr hi hx => k.2 i cs T fr (h.2 i cs T fr hi hx) hx⟩
theorem KeepX.put {N0 : Nat} {X Ts : Nat → Prop} (W : World) (l : Nat) (o o' : Obj) (h : W.heap[l]? = some o) (hc : o.isCells = false) : KeepX N0 X Ts W (W.putObj l o') := by
  refine ⟨by simp, fun k cs T fr hk _ => ?_⟩
  have hne : k ≠ l := by
    rintro rfl
    rw [h] at hk
    cases hk
    simp [Obj.isCells] at hc
  exact (World.putObj_heap_other hne).trans hk
theorem KeepX.below {N0 : Nat} {X Ts : Nat → Prop} {W W' : World} (h : Below W.heap.size W W') : KeepX N0 X Ts W W' :=
  ⟨h.size, fun k cs T fr hk _ => (h.block k (Array.getElem?_eq_some_iff.1 hk).1).trans hk⟩
theorem KeepX.grown {N0 : Nat} {X Ts : Nat → Prop} {W W' : World} {row : Option Nat} (h : W.grownBy W' row) (hr : ∀ k cs T fr, row = some k → W.heap[k]? = some (.cells cs T fr) → (k < N0 → X k) ∧ (N0 ≤ k → ¬ Ts T)) : KeepX N0 X Ts W W' :=
  ⟨h.size, fun k cs T fr hk hx => (h.block k (Array.getElem?_eq_some_iff.1 hk).1 (fun e => by
    have := hr k cs T fr e.symm hk
    rcases hx with ⟨h1, h2⟩ | ⟨h1, h2⟩
    · exact h2 (this.1 h1)
    · exact this.2 h1 h2)).trans hk⟩
theorem KeepX.cell {N0 : Nat} {X Ts : Nat → Prop} {W W' : World} (h : KeepX N0 X Ts W W') {a : Addr} {v : Value} (hc : W.cell? a = some v) (hk : a.block < N0) (hX : ¬ X a.block) : W'.cell? a = some v := by
  unfold World.cell? at *
  cases hb : W.heap[a.block]? with
  | none => rw [hb] at hc; cases hc
  | some o =>
    rw [hb] at hc
    cases o with
    | cells cs T fr => rw [h.2 _ cs T fr hb (.inl ⟨hk, hX⟩)]; exact hc
    | _ => cases hc
theorem KeepX.new {N0 : Nat} {X Ts : Nat → Prop} {W W' : World} (h : KeepX N0 X Ts W W') {k : Nat} {cs : Array Value} {T : Nat} {fr : Nat × Nat} (hc : W.heap[k]? = some (.cells cs T fr)) (hk : N0 ≤ k) (hT : Ts T) : W'.heap[k]? = some (.cells cs T fr) := h.2 _ _ _ _ hc (.inr ⟨hk, hT⟩)
theorem boxed_step {W W' : World} {B : Nat} {t : TypeId} {v : Value} (h : Boxed W B t v) (hb : Below W.heap.size W W') : Boxed W' B t v := (hb.block B h.lt).trans h
structure BoxSt (w : World) (b1 t : Nat) (v : Value) (W : World) : Prop where
  x : Boxed W b1 t v
  below : Below w.heap.size w W
  ge : w.heap.size ≤ b1
theorem BoxSt.set {w : World} {b1 t : Nat} {v : Value} {X : World} (h : BoxSt w b1 t v X) (u : Value) : BoxSt w b1 t u (X.setCell ⟨b1, 0, none⟩ u) :=
  ⟨h.x.set _, h.below.setCell (by show w.heap.size ≤ b1; exact h.ge) _, h.ge⟩
end Go.Proofs.Ytobbocolmlljdaa.P
namespace Go.Proofs.YtobbocolmlljdaaW.HB
open Go.RowKit Go.Proofs.YtobbocolmlljdaaW.PrintWords Go.Proofs.YtobbocolmlljdaaW.PrintLast Go.Proofs.YtobbocolmlljdaaW.PrintMore
set_option linter.unusedVariables false
end Go.Proofs.YtobbocolmlljdaaW.HB
namespace Go.Proofs.Ytobbocolmlljdaa.P
open Go.RowKit Go.Proofs.YtobbocolmlljdaaW.PrintWords Go.Proofs.YtobbocolmlljdaaW.PrintLast Go.Proofs.YtobbocolmlljdaaW.PrintMore Go.Proofs.YtobbocolmlljdaaW.HB
set_option linter.unusedVariables false
set_option linter.unusedSimpArgs false
abbrev kRaw : Kd (List Value) := Kd.raw 33
theorem raw_at {w : World} {A : Option Addr} {n : Nat} {rows : List (List Value)} (h : Kd.C kRaw w A n rows) (i : Nat) (hi : i < n) (hl : i < rows.length) :
    ∃ ad, A = some ad ∧ rows[i].length = 33 ∧ (∀ u ∈ rows[i], u.oneCell' = true) ∧ ∀ j u, rows[i][j]? = some u → w.cell? ((ad.add (i * 33)).add j) = some u := by
  obtain ⟨ad, c, rfl, hcl, hK, hcc⟩ := Kd.C_get h [] (i : Int) (by omega) (by omega)
  simp only [Int.toNat_natCast, List.getD_eq_getElem?_getD, List.getElem?_eq_getElem hl, Option.getD_some] at hK hcc
  obtain ⟨rfl, h1, h2⟩ := hK
  refine ⟨ad, rfl, h1, h2, fun j u hu => ?_⟩
  have := hcc j u hu
  rwa [Addr.add_add]
section
variable {P : Program} {ops : Array Oper} {rest : List Oper} {o : Oper} {a : Act} {w : World} {Q : Exit → Act → World → Prop}
theorem run_load_row (ad : Addr) (ty : TypeId) (cs : List Value) (d : TypeDesc) (hc : ∀ j u, cs[j]? = some u → w.cell? (ad.add j) = some u) (hu : P.underlying ty = some d) (hd : d.isRow = true) (hi : (P.info? ty).map (·.size) = some cs.length) :
    (Instr.loadAt ty (.pointer (some ad))).run P w = .ok (.agg cs.toArray) w := by
  have hl : (loadCells ad cs.length).run P w = .ok cs.toArray w := run_loadCells_list (P := P) w ad cs hc
  cases hq : P.info? ty with
  | none => simp [hq] at hi
  | some i =>
    have hs : i.size = cs.length := by simpa [hq] using hi
    have hagg : (isAgg ty).run P w = .ok true w := by
      unfold isAgg
      rw [Sem.run_bind, run_underlying hu w]
      cases d <;> simp_all
    simp [Instr.loadAt, Instr.sureAddr, loadVar, Sem.run_bind, hagg, sizeOf, typeInfo, hq, hs, hl]
theorem wp_load_row {K : Act → World → Prop} (ty : TypeId) (x : Operand) (ho : o.op = .load ty x) (ad : Addr) (hx : a.eval x = .pointer (some ad)) (cs : List Value) (d : TypeDesc) (hc : ∀ j u, cs[j]? = some u → w.cell? (ad.add j) = some u)
    (hu : P.underlying ty = some d) (hd : d.isRow = true) (hi : (P.info? ty).map (·.size) = some cs.length) (h : K (a.put o.dst (.agg cs.toArray)) w) : o.wp P a w K Q := by
  unfold Oper.wp execOp
  have := run_load_row (P := P) (w := w) ad ty cs d hc hu hd hi
  simp only [ho, hx, Sem.run_bind, this, Result.andThen_ok]
  exact h
theorem wpList_load_row (hg : o.guard = none) (ty : TypeId) (x : Operand) (ho : o.op = .load ty x) (ad : Addr) (hx : a.eval x = .pointer (some ad)) (cs : List Value) (d : TypeDesc) (hc : ∀ j u, cs[j]? = some u → w.cell? (ad.add j) = some u)
    (hu : P.underlying ty = some d) (hd : d.isRow = true) (hi : (P.info? ty).map (·.size) = some cs.length) (h : wpList P ops Q rest (a.put o.dst (.agg cs.toArray)) w) : wpList P ops Q (o :: rest) a w :=
  wpList_plain hg fun _ hK => wp_load_row ty x ho ad hx cs d hc hu hd hi (hK _ _ h)
theorem fill_one (z : Array Value) (cs : List Value) (hz : z.size = 33) (hl : cs.length = 33) : Instr.fill (fun i => some (i * 33, 33)) z [(0, .agg cs.toArray)] = some cs.toArray := by
  have h := Great.fill_whole (s := 33) (by decide) [.agg cs.toArray] z (by simp [Value.cells, hl]) (by simp [hz])
  simpa [Value.cells] using h
end
theorem wpList_lit_row {ops : Array Oper} {rest : List Oper} {o : Oper} {a : Act} {w : World} {Q : Exit → Act → World → Prop} (hg : o.guard = none) (x : Operand) (ho : o.op = .buildSlice 22 1 #[(0, x)]) (cs : List Value) (hx : a.eval x = .agg cs.toArray) (hl : cs.length = 33)
    (h : wpList Try.prog ops Q rest (a.put o.dst (.slice (some ⟨w.heap.size, 0, none⟩) 1 1)) (w.alloc (.cells cs.toArray 41))) : wpList Try.prog ops Q (o :: rest) a w := by
  obtain ⟨ie, hie, hz⟩ := Option.map_eq_some_iff.1 info41
  simp only [Prod.mk.injEq] at hz
  obtain ⟨hz0, hz1, hz2⟩ := hz
  refine wpList_buildSlice hg 22 41 1 #[(0, x)] ho cs.toArray ie _ Try.underlying22 hie hz0 (by rw [hz1]; decide) (by rw [hz1]; decide) ?_ h
  rw [hz1]
  rw [show (Array.map (fun y : Nat × Operand => (y.1, a.eval y.2)) #[(0, x)]).toList = [(0, Value.agg cs.toArray)] from by simp [hx]]
  exact fill_one _ cs (by simp) hl
end Go.Proofs.Ytobbocolmlljdaa.P
namespace Go.Proofs.Ytobbocolmlljdaa.P
open Go.RowKit Go.Proofs.YtobbocolmlljdaaW.PrintWords Go.Proofs.YtobbocolmlljdaaW.PrintLast Go.Proofs.YtobbocolmlljdaaW.PrintMore
attribute [local go_sem] max2_int min2_int max_two min_two max_three min_three max_four min_four
set_option linter.unusedVariables false
set_option linter.unusedSimpArgs false
def IsS62 (w0 W : World) (g : Nat) (f0 : Int) : Prop := W.heap[g]? = some (.cells #[.int .u64 f0] 62 (0, 0)) ∧ w0.heap.size ≤ g
theorem IsS62.grown {w0 W : World} {g : Nat} {f0 : Int} {W1 : World} {row : Option Nat} (h : IsS62 w0 W g f0) (hw : W.grownBy W1 row) (hne : some g ≠ row) : IsS62 w0 W1 g f0 := by
  obtain ⟨hb, hg⟩ := h
  exact ⟨blk_grown hb hw hne, hg⟩
theorem IsS62.kept {w0 W : World} {g : Nat} {f0 : Int} {W1 : World} {S : Nat → Prop} (h : IsS62 w0 W g f0) (hk : Kept W W1 S) (hne : ¬ S g) : IsS62 w0 W1 g f0 := by
  obtain ⟨hb, hg⟩ := h
  exact ⟨blk_kept hb hk hne, hg⟩
theorem IsS62.below {w0 W : World} {g : Nat} {f0 : Int} {W1 : World} (h : IsS62 w0 W g f0) (hw : Below W.heap.size W W1) : IsS62 w0 W1 g f0 := h.grown (grown_of_below hw none) (by simp)
theorem IsS62.alloc {w0 W : World} {g : Nat} {f0 : Int} (h : IsS62 w0 W g f0) (o : Obj) : IsS62 w0 (W.alloc o) g f0 := h.below (below_alloc (Below.refl _ _) o)
theorem IsS62.drewN {w0 W : World} {g : Nat} {f0 : Int} (h : IsS62 w0 W g f0) (m : Nat) : IsS62 w0 (W.drewN m) g f0 := h
theorem IsS62.drew {w0 W : World} {g : Nat} {f0 : Int} (h : IsS62 w0 W g f0) : IsS62 w0 W.drew g f0 := h
theorem IsS62.at_ {w0 W : World} {g : Nat} {f0 : Int} {w' : World} {m : Nat} (hq : W.drewN m = w') (h : IsS62 w0 W g f0) : IsS62 w0 w' g f0 := by subst hq; exact IsS62.drewN h m
theorem IsS62.apart {w0 W : World} {g : Nat} {f0 : Int} {α : Type} {d : Kd α} {e : Nat} {base : Nat} {ok : Nat → Prop} {v : Value} {xs : List α} (h : IsS62 w0 W g f0) (ho : d.R e W base ok v xs) (ht : ∀ q, q ∈ e :: d.E → q ≠ 62) : d.R e W base (fun k => ok k ∧ k ≠ g) v xs := by
  obtain ⟨hb, hg⟩ := h
  exact Kd.R_types ho hb ht
theorem IsS62.own_ne {w0 W : World} {g : Nat} {f0 : Int} {α : Type} {d : Kd α} {e : Nat} {base : Nat} {ok : Nat → Prop} {v : Value} {xs : List α} (h : IsS62 w0 W g f0) (ho : d.R e W base ok v xs) (ht : e ≠ 62) : some g ≠ v.ownBlock := by
  obtain ⟨hb, hg⟩ := h
  exact Kd.R_ne ho hb ht
theorem IsS62.lt {w0 W : World} {g : Nat} {f0 : Int} (h : IsS62 w0 W g f0) : g < W.heap.size := by
  obtain ⟨hb, hg⟩ := h
  exact blk_lt hb
theorem IsS62.ge {w0 W : World} {g : Nat} {f0 : Int} (h : IsS62 w0 W g f0) : w0.heap.size ≤ g := by
  obtain ⟨hb, hg⟩ := h
  exact hg
theorem cellS62_0 {W : World} {g : Nat} {f0 : Int} (h : W.heap[g]? = some (.cells #[.int .u64 f0] 62 (0, 0))) : W.cell? ⟨g, 0, none⟩ = some (.int .u64 f0) := (blk_cell h 0).trans rfl
theorem IsS62.set_0 {w0 W : World} {g : Nat} {f0 : Int} (h : IsS62 w0 W g f0) (x : Int) : IsS62 w0 (W.setCell ⟨g, 0, none⟩ (.int .u64 x)) g x := by
  obtain ⟨hb, hg⟩ := h
  exact ⟨by simpa using blk_set hb 0 (.int .u64 x), hg⟩
theorem IsS62.new (w0 W : World) (f0 : Int) (hB : Below w0.heap.size w0 W) : IsS62 w0 (W.alloc (.cells #[.int .u64 f0] 62)) W.heap.size f0 := ⟨by simpa using heap_alloc_new W _, hB.size⟩
end Go.Proofs.Ytobbocolmlljdaa.P
namespace Go.Proofs.Ytobbocolmlljdaa.P
open Go.RowKit Go.Proofs.YtobbocolmlljdaaW.PrintWords Go.Proofs.YtobbocolmlljdaaW.PrintLast Go.Proofs.YtobbocolmlljdaaW.PrintMore
attribute [local go_sem] max2_int min2_int max_two min_two max_three min_three max_four min_four
set_option linter.unusedVariables false
set_option linter.unusedSimpArgs false
def reefref33_dice_next.f (s0_0 : Int) : Option (Int × Int) := some ((IntKind.u64.wrap ((IntKind.u64.wrap (s0_0 * 6364136223846793005)) + 1442695040888963407)) / 8589934592, IntKind.u64.wrap ((IntKind.u64.wrap (s0_0 * 6364136223846793005)) + 1442695040888963407))
set_option maxHeartbeats 8000000 in
set_option maxRecDepth 100000 in
theorem reefref33_dice_next.calls (g : Nat) (s0_0 : Int) (r1 : Int) (r2 : Int) (w0 w : World) (hI : IsS62 w0 w g s0_0) (hB : Below w0.heap.size w0 w) (h : reefref33_dice_next.f s0_0 = some (r1, r2)) :
    Calls Try.prog 44 #[.pointer (some ⟨g, 0, none⟩)] w fun e w' => e = .returned (.int .u64 r1) ∧ IsS62 w0 w' g r2 ∧ Below w0.heap.size w0 w' ∧ KeepBut w w' g none := by
  have HI0 := Aside0.mk hI
  have HK := Aside0.mk (KeepBut.refl w g none)
  have HL := Aside0.mk hB.size
  clear hI
  have HW0 := Aside0.mk hB.size
  have HB := Aside0.mk hB
  clear hB
  have H : (some ((IntKind.u64.wrap ((IntKind.u64.wrap (s0_0 * 6364136223846793005)) + 1442695040888963407)) / 8589934592, IntKind.u64.wrap ((IntKind.u64.wrap (s0_0 * 6364136223846793005)) + 1442695040888963407))) = some (r1, r2) := h
  clear h
  simp only [Option.some.injEq, Prod.mk.injEq] at H
  obtain ⟨rfl, rfl⟩ := H
  obtain ⟨HGz2, hgz2⟩ := HI0.out
  have hcz2_0 := cellS62_0 HGz2
  have hfz2_0 := blk_frozen HGz2 0
  clear HGz2 hgz2
  go_enter Try.func44, Try.ntmps44
  go_wp2
  go_ret
  exact ⟨by first | rfl | (simp [errW_none, errW_some] <;> rfl) | (simp [*, errW_none, errW_some] <;> rfl), by repeat (first | (with_reducible first | exact HI0.out | apply IsS62.alloc | apply IsS62.drewN | apply IsS62.drew | apply IsS62.set_0) | exact HI0.out), by repeat (first | (with_reducible first | exact HB.out | apply below_alloc | apply pw_below_drewN | apply below_drew1 | refine below_set ?_ (IsS62.ge HI0.out)) | exact HB.out), by repeat (first | (with_reducible first | exact HK.out | apply KeepBut.set_ | apply keep_drewN | apply keep_drew | apply keep_alloc) | exact HK.out)⟩
end Go.Proofs.Ytobbocolmlljdaa.P
namespace Go.Proofs.Ytobbocolmlljdaa.P
open Go.RowKit Go.Proofs.YtobbocolmlljdaaW.PrintWords Go.Proofs.YtobbocolmlljdaaW.PrintLast Go.Proofs.YtobbocolmlljdaaW.PrintMore
attribute [local go_sem] max2_int min2_int max_two min_two max_three min_three max_four min_four
set_option linter.unusedVariables false
set_option linter.unusedSimpArgs false
def reefref33_dice_one.f (s0_0 : Int) (a1 : Int) : Option (Int × Int) := (reefref33_dice_next.f s0_0).bind fun bt111 => (if (IntKind.u64.wrap (a1)) = 0 then (none) else (some (wrap64 (Int.tmod bt111.1 (IntKind.u64.wrap (a1))), bt111.2)))
set_option maxHeartbeats 8000000 in
set_option maxRecDepth 100000 in
theorem reefref33_dice_one.calls (g : Nat) (s0_0 : Int) (a1 : Int) (r1 : Int) (r2 : Int) (w0 w : World) (hI : IsS62 w0 w g s0_0) (hB : Below w0.heap.size w0 w) (h : reefref33_dice_one.f s0_0 a1 = some (r1, r2)) :
    Calls Try.prog 19 #[.pointer (some ⟨g, 0, none⟩), .int .i64 a1] w fun e w' => e = .returned (.int .i64 r1) ∧ IsS62 w0 w' g r2 ∧ Below w0.heap.size w0 w' ∧ KeepBut w w' g none := by
  have HI0 := Aside0.mk hI
  have HK := Aside0.mk (KeepBut.refl w g none)
  have HL := Aside0.mk hB.size
  clear hI
  have HW0 := Aside0.mk hB.size
  have HB := Aside0.mk hB
  clear hB
  have H : ((reefref33_dice_next.f s0_0).bind fun bt111 => (if (IntKind.u64.wrap (a1)) = 0 then (none) else (some (wrap64 (Int.tmod bt111.1 (IntKind.u64.wrap (a1))), bt111.2)))) = some (r1, r2) := h
  clear h
  replace H := Option.bind_eq_some_iff.mp H
  obtain ⟨⟨t111, t112⟩, A30, H⟩ := H
  replace H : (if (IntKind.u64.wrap (a1)) = 0 then (none) else (some (wrap64 (Int.tmod t111 (IntKind.u64.wrap (a1))), t112))) = some (r1, r2) := H
  have A3 := Aside0.mk A30
  clear A30
  by_cases c4 : (IntKind.u64.wrap (a1)) = 0
  · rw [if_pos c4] at H
    exact absurd H (by simp)
  · rw [if_neg c4] at H
    have c4b0 : ((IntKind.u64.wrap (a1)) == 0) = false := beq_eq_false_iff_ne.mpr c4
    have c4b1 : ((IntKind.u64.wrap (a1)) != 0) = true := bne_iff_ne.mpr c4
    simp only [Option.some.injEq, Prod.mk.injEq] at H
    obtain ⟨rfl, rfl⟩ := H
    go_enter Try.func19, Try.ntmps19
    go_wp2_with (first | ((with_reducible refine gate_callee (f := 44) rfl ?_); refine goesL_ (some 6) rfl rfl Try.func44 (by kernel_rfl) rfl #[.pointer (some ⟨g, 0, none⟩)] rfl (by (try simp only [List.map_toArray, List.map_cons, List.map_nil]); first | done | rfl | (simp only [List.length_drop, List.length_take]; rfl)) ?_; (with_reducible refine (reefref33_dice_next.calls g s0_0 t111 t112 w0 _ ?side1 ?side2 A3.out).mono ?_); (case side1 => repeat (first | (with_reducible first | exact HI0.out | apply IsS62.alloc | apply IsS62.drewN | apply IsS62.drew | apply IsS62.set_0) | exact HI0.out)); (case side2 => repeat (first | (with_reducible first | exact HB.out | apply below_alloc | apply pw_below_drewN | apply below_drew1 | refine below_set ?_ (IsS62.ge HI0.out)) | exact HB.out)); rintro e w5 ⟨rfl, hi, hb, hk⟩; refine ⟨_, rfl, ?_⟩; have n0_ := Aside0.mk (KeepBut.trans (by repeat (first | (with_reducible first | exact HK.out | apply KeepBut.set_ | apply keep_drewN | apply keep_drew | apply keep_alloc) | exact HK.out)) hk (.inl rfl)); have n1_ := Aside0.mk (hb); have n2_ := Aside0.mk (hi); clear HK; clear HB; clear HI0; have HK := n0_; have HB := n1_; have HI0 := n2_; clear n0_ n1_ n2_; (try clear hb); (try clear hb2); (try clear hk); (try clear hi)))
    go_ret
    exact ⟨by first | rfl | (simp [errW_none, errW_some] <;> rfl) | (simp [*, errW_none, errW_some] <;> rfl), by repeat (first | (with_reducible first | exact HI0.out | apply IsS62.alloc | apply IsS62.drewN | apply IsS62.drew | apply IsS62.set_0) | exact HI0.out), by repeat (first | (with_reducible first | exact HB.out | apply below_alloc | apply pw_below_drewN | apply below_drew1 | refine below_set ?_ (IsS62.ge HI0.out)) | exact HB.out), by repeat (first | (with_reducible first | exact HK.out | apply KeepBut.set_ | apply keep_drewN | apply keep_drew | apply keep_alloc) | exact HK.out)⟩
end Go.Proofs.Ytobbocolmlljdaa.P
namespace Go.Proofs.Ytobbocolmlljdaa.P
open Go.RowKit Go.Proofs.YtobbocolmlljdaaW.PrintWords Go.Proofs.YtobbocolmlljdaaW.PrintLast Go.Proofs.YtobbocolmlljdaaW.PrintMore Go.Proofs.YtobbocolmlljdaaW.HB
set_option linter.unusedVariables false
set_option linter.unusedSimpArgs false
def nx (x : Int) : Int := IntKind.u64.wrap ((IntKind.u64.wrap (x * 6364136223846793005)) + 1442695040888963407)
def coin (x : Int) : Int := wrap64 (Int.tmod (nx x / 8589934592) (IntKind.u64.wrap 2))
def mixS {α : Type} : List α → List α → Int → List α
  | [], b, _ => b
  | a, [], _ => a
  | x :: a, y :: b, s => if coin s = 0 then x :: mixS a (y :: b) (nx s) else y :: mixS (x :: a) b (nx s)
termination_by a b _ => a.length + b.length
theorem mixS_len {α : Type} : ∀ (n : Nat) (a b : List α) (s : Int), a.length + b.length ≤ n → (mixS a b s).length = a.length + b.length
  | n, [], b, s, _ => by simp [mixS]
  | n, x :: a, [], s, _ => by simp [mixS]
  | 0, x :: a, y :: b, s, h => by simp at h
  | n + 1, x :: a, y :: b, s, h => by
    simp only [List.length_cons] at h
    unfold mixS
    split
    · rw [List.length_cons, mixS_len n a (y :: b) (nx s) (by simp only [List.length_cons]; omega)]; simp only [List.length_cons]; omega
    · rw [List.length_cons, mixS_len n (x :: a) b (nx s) (by simp only [List.length_cons]; omega)]; simp only [List.length_cons]; omega
theorem mixS_step {α : Type} (a b : List α) (s : Int) (i k : Nat) (hi : i < a.length) (hk : k < b.length) :
    mixS (a.drop i) (b.drop k) s = if coin s = 0 then a[i] :: mixS (a.drop (i + 1)) (b.drop k) (nx s) else b[k] :: mixS (a.drop i) (b.drop (k + 1)) (nx s) := by
  rw [List.drop_eq_getElem_cons hi, List.drop_eq_getElem_cons hk]
  rw [show mixS (a[i] :: a.drop (i + 1)) (b[k] :: b.drop (k + 1)) s = if coin s = 0 then a[i] :: mixS (a.drop (i + 1)) (b[k] :: b.drop (k + 1)) (nx s) else b[k] :: mixS (a[i] :: a.drop (i + 1)) (b.drop (k + 1)) (nx s) from by rw [mixS]]
theorem mixS_end {α : Type} (a b : List α) (s : Int) (i k : Nat) (h : a.length ≤ i ∨ b.length ≤ k) : mixS (a.drop i) (b.drop k) s = a.drop i ++ b.drop k := by
  rcases h with h | h
  · rw [List.drop_eq_nil_of_le h]; simp [mixS]
  · rw [List.drop_eq_nil_of_le h]
    cases a.drop i <;> simp [mixS]
theorem one_two (s : Int) : reefref33_dice_one.f s 2 = some (coin s, nx s) := by
  unfold reefref33_dice_one.f reefref33_dice_next.f coin nx
  rw [Option.bind_some, if_neg (by decide)]
end Go.Proofs.Ytobbocolmlljdaa.P
namespace Go.Proofs.Ytobbocolmlljdaa.P
open Go.RowKit Go.Proofs.YtobbocolmlljdaaW.PrintWords Go.Proofs.YtobbocolmlljdaaW.PrintLast Go.Proofs.YtobbocolmlljdaaW.PrintMore Go.Proofs.YtobbocolmlljdaaW.HB
set_option linter.unusedVariables false
set_option linter.unusedSimpArgs false
structure MixI (ra rb : List (List Value)) (seed : Int) (w W : World) (g : Nat) (v : Value) (i k : Int) : Prop where
  i0 : 0 ≤ i
  i1 : i ≤ ra.length
  k0 : 0 ≤ k
  k1 : k ≤ rb.length
  s : ∃ (s : Int) (out : List (List Value)), IsS62 w W g s ∧ Kd.R kRaw 41 W w.heap.size (fun k => k ≠ g) v out ∧ out.length = i.toNat + k.toNat ∧ out ++ mixS (ra.drop i.toNat) (rb.drop k.toNat) s = mixS ra rb seed
  b : Below w.heap.size w W
theorem Kd_cells {w w1 : World} {ad : Addr} {row : List Value} (h : ∀ j u, row[j]? = some u → w.cell? (ad.add j) = some u) (hb : Below w.heap.size w w1) : ∀ j u, row[j]? = some u → w1.cell? (ad.add j) = some u := fun j u hu => by
  have := h j u hu
  have hlt := World.block_lt_of_cell? w _ this
  exact (hb.cell hlt).trans this
set_option maxRecDepth 100000 in
set_option maxHeartbeats 4000000 in
theorem refMix.calls (A0 : Option Addr) (c0 : Nat) (ra : List (List Value)) (A1 : Option Addr) (c1 : Nat) (rb : List (List Value)) (seed : Int) (w : World) (hr0 : Kd.C kRaw w A0 ra.length ra) (hc0 : ra.length ≤ c0) (hr1 : Kd.C kRaw w A1 rb.length rb) (hc1 : rb.length ≤ c1) (hl : ra.length + rb.length ≤ 4000000) :
    Calls Try.prog 7 #[.slice A0 ra.length c0, .slice A1 rb.length c1, .int .u64 seed] w fun e w' => ∃ v, e = .returned v ∧ Kd.R kRaw 41 w' w.heap.size (fun _ => True) v (mixS ra rb seed) ∧ Below w.heap.size w w' := by
  have HC0 := Aside0.mk hr0
  have HC1 := Aside0.mk hr1
  have HL := Aside0.mk hl
  have L0 : (ra.length : Int) ≤ 4000000 := by omega
  have L1 : (rb.length : Int) ≤ 4000000 := by omega
  have HM := Aside0.mk (mixS_step ra rb)
  have HS := fun (s : Int) => Aside0.mk (one_two s)
  clear hr0 hr1 hl
  go_enter Try.func7, Try.ntmps7
  go_wp2
  have I0 : MixI ra rb seed w (w.alloc (.cells #[.int .u64 seed] 62)) w.heap.size (.slice none 0 0) 0 0 := ⟨by omega, by omega, by omega, by omega, ⟨seed, [], ⟨World.alloc_heap_new w _, Nat.le_refl _⟩, Kd.R_nil _ _ _ _ _, rfl, by simp⟩, below_alloc (Below.refl _ _) _⟩
  replace I0 := Aside0.mk I0
  go_loopw [8, 9, 10] (fun v8 v9 v10 w' => ∃ x y : Int, v9 = .int .i64 x ∧ v10 = .int .i64 y ∧ Aside0 (MixI ra rb seed w w' w.heap.size v8 x y)) (fun v8 v9 v10 _ => ra.length + rb.length - (intOf v9).toNat - (intOf v10).toNat)
  case atStart => exact ⟨0, 0, rfl, rfl, I0⟩
  case round =>
    clear I0
    obtain ⟨x, y, rfl, rfl, HI⟩ := hrel
    by_cases b1 : x < (ra.length : Int)
    · have q1 := eq_true b1
      by_cases b2 : y < (rb.length : Int)
      · have q2 := eq_true b2
        obtain ⟨i0, i1, k0, k1, ⟨s, out, hIS, hR, hlen, hmix⟩, hB⟩ := HI.out
        have HIS := Aside0.mk hIS
        have HIR := Aside0.mk hR
        have HIB := Aside0.mk hB
        have HLEN := Aside0.mk hlen
        have hst := HM.out s x.toNat y.toNat (by omega) (by omega)
        have HI2 := Aside0.mk (And.intro (And.intro i0 i1) (And.intro k0 k1))
        clear hIS hR hB HI
        have px : 0 ≤ x := i0
        have py : 0 ≤ y := k0
        replace px := eq_true px
        replace py := eq_true py
        have hx1 : wrap64 (x + 1) = x + 1 := by unfold wrap64; omega
        have hy1 : wrap64 (y + 1) = y + 1 := by unfold wrap64; omega
        have HX1 := Aside0.mk hx1
        have HY1 := Aside0.mk hy1
        clear hx1 hy1
        by_cases hc : coin s = 0
        · rw [if_pos hc] at hst
          rw [hst] at hmix
          have HMX := Aside0.mk hmix
          clear hst hmix
          obtain ⟨ad, e, hl33, hone, hcell⟩ := raw_at HC0.out x.toNat (by omega) (by omega)
          cases e
          have HCE := Aside0.mk hcell
          have HL33 := Aside0.mk hl33
          have HONE := Aside0.mk hone
          have HLN := Aside0.mk (show (Try.prog.info? 41).map (·.size) = some (ra[x.toNat]'(by omega)).length from by rw [hl33]; have := info41; revert this; cases Try.prog.info? 41 <;> simp_all)
          clear hl33 hone hcell
          go_wp2_with (first
            | (go_at_call 19; refine (reefref33_dice_one.calls w.heap.size s 2 (coin s) (nx s) w wr HIS.out HIB.out (HS s).out).mono ?_; rintro e w2 ⟨rfl, hs2, hb2, hk2⟩; have IS2 := Aside0.mk hs2; have B2 := Aside0.mk hb2; have R2 := Aside0.mk (Kd.R_keep HIR.out hk2 (fun _ h => h)); clear hs2 hb2 hk2)
            | ((with_reducible refine gate_dst (N := 31) rfl ?_); refine wpList_load_row rfl 41 (.tmp 30) rfl _ rfl _ _ (Kd_cells HCE.out B2.out) Try.underlying41 rfl HLN.out ?_)
            | ((with_reducible refine gate_dst (N := 32) rfl ?_); refine wpList_lit_row rfl (.tmp 31) rfl _ rfl HL33.out ?_)
            | ((with_reducible refine gate_builtin (b := .append) (xs := #[.tmp 27, .tmp 32]) rfl ?_); refine Kd.R_append kRaw (w0 := w) w.heap.size rfl (.tmp 27) (.tmp 32) 22 41 (.agg #[(.int .i64 0), (.int .i64 0), (.int .i64 0), (.int .i64 0), (.int .i64 0), (.int .i64 0), (.int .u64 0), (.int .i64 0), (.int .i64 0), (.int .i64 0), (.int .i64 0), (.int .i64 0), (.int .i64 0), (.int .i64 0), (.int .i64 0), (.int .i64 0), (.int .i64 0), (.string ⟨#[]⟩), (.int .i64 0), (.int .i64 0), (.string ⟨#[]⟩), (.string ⟨#[]⟩), (.int .i64 0), (.int .i64 0), (.int .i64 0), (.string ⟨#[]⟩), (.bool false), (.int .i64 0), (.slice none 0 0), (.string ⟨#[]⟩), (.int .i64 0), (.int .i64 0), (.int .i64 0)]) 320 rfl Try.underlying22 info41 rfl (by decide) (by omega) _ out _ _ (fun k => k ≠ w.heap.size) (fun _ => False) rfl rfl ⟨rfl, HL33.out, HONE.out⟩ (fun _ h => h.elim) (fun k hk => by have := IS2.out.1; have := (Array.getElem?_eq_some_iff.1 this).1; omega) R2.out B2.out B2.out.size (by have := HLEN.out; have := HL.out; omega) ?_; intro v1 w3 hr hb hg hat; have R3 := Aside0.mk hr; have B3 := Aside0.mk hb; have IS3 := Aside0.mk (IS2.out.grown hg (IS2.out.own_ne R2.out (by decide))); clear hr hb hg hat))
          have hh := HI2.out
          have hlen3 := HLEN.out
          have e1 : (x + 1).toNat = x.toNat + 1 := by omega
          refine ⟨⟨x + 1, y, rfl, rfl, ⟨⟨by omega, by omega, by omega, by omega, ⟨nx s, out ++ [ra[x.toNat]], IS3.out, R3.out, by rw [List.length_append]; simp; omega, ?_⟩, B3.out⟩⟩⟩, by simp only [intOf]; omega⟩
          rw [e1, List.append_assoc]
          exact HMX.out
        · rw [if_neg hc] at hst
          rw [hst] at hmix
          have HMX := Aside0.mk hmix
          clear hst hmix
          obtain ⟨ad, e, hl33, hone, hcell⟩ := raw_at HC1.out y.toNat (by omega) (by omega)
          cases e
          have HCE := Aside0.mk hcell
          have HL33 := Aside0.mk hl33
          have HONE := Aside0.mk hone
          have HLN := Aside0.mk (show (Try.prog.info? 41).map (·.size) = some (rb[y.toNat]'(by omega)).length from by rw [hl33]; have := info41; revert this; cases Try.prog.info? 41 <;> simp_all)
          clear hl33 hone hcell
          go_wp2_with (first
            | (go_at_call 19; refine (reefref33_dice_one.calls w.heap.size s 2 (coin s) (nx s) w wr HIS.out HIB.out (HS s).out).mono ?_; rintro e w2 ⟨rfl, hs2, hb2, hk2⟩; have IS2 := Aside0.mk hs2; have B2 := Aside0.mk hb2; have R2 := Aside0.mk (Kd.R_keep HIR.out hk2 (fun _ h => h)); clear hs2 hb2 hk2)
            | ((with_reducible refine gate_dst (N := 40) rfl ?_); refine wpList_load_row rfl 41 (.tmp 39) rfl _ rfl _ _ (Kd_cells HCE.out B2.out) Try.underlying41 rfl HLN.out ?_)
            | ((with_reducible refine gate_dst (N := 41) rfl ?_); refine wpList_lit_row rfl (.tmp 40) rfl _ rfl HL33.out ?_)
            | ((with_reducible refine gate_builtin (b := .append) (xs := #[.tmp 36, .tmp 41]) rfl ?_); refine Kd.R_append kRaw (w0 := w) w.heap.size rfl (.tmp 36) (.tmp 41) 22 41 (.agg #[(.int .i64 0), (.int .i64 0), (.int .i64 0), (.int .i64 0), (.int .i64 0), (.int .i64 0), (.int .u64 0), (.int .i64 0), (.int .i64 0), (.int .i64 0), (.int .i64 0), (.int .i64 0), (.int .i64 0), (.int .i64 0), (.int .i64 0), (.int .i64 0), (.int .i64 0), (.string ⟨#[]⟩), (.int .i64 0), (.int .i64 0), (.string ⟨#[]⟩), (.string ⟨#[]⟩), (.int .i64 0), (.int .i64 0), (.int .i64 0), (.string ⟨#[]⟩), (.bool false), (.int .i64 0), (.slice none 0 0), (.string ⟨#[]⟩), (.int .i64 0), (.int .i64 0), (.int .i64 0)]) 320 rfl Try.underlying22 info41 rfl (by decide) (by omega) _ out _ _ (fun k => k ≠ w.heap.size) (fun _ => False) rfl rfl ⟨rfl, HL33.out, HONE.out⟩ (fun _ h => h.elim) (fun k hk => by have := IS2.out.1; have := (Array.getElem?_eq_some_iff.1 this).1; omega) R2.out B2.out B2.out.size (by have := HLEN.out; have := HL.out; omega) ?_; intro v1 w3 hr hb hg hat; have R3 := Aside0.mk hr; have B3 := Aside0.mk hb; have IS3 := Aside0.mk (IS2.out.grown hg (IS2.out.own_ne R2.out (by decide))); clear hr hb hg hat))
          have hh := HI2.out
          have hlen3 := HLEN.out
          have e1 : (y + 1).toNat = y.toNat + 1 := by omega
          refine ⟨⟨x, y + 1, rfl, rfl, ⟨⟨by omega, by omega, by omega, by omega, ⟨nx s, out ++ [rb[y.toNat]], IS3.out, R3.out, by rw [List.length_append]; simp; omega, ?_⟩, B3.out⟩⟩⟩, by simp only [intOf]; omega⟩
          rw [e1, List.append_assoc]
          exact HMX.out
      · have q2 := eq_false b2
        obtain ⟨i0, i1, k0, k1, ⟨s, out, hIS, hR, hlen, hmix⟩, hB⟩ := HI.out
        have HIS := Aside0.mk hIS
        have HIR := Aside0.mk hR
        have HIB := Aside0.mk hB
        have HLEN := Aside0.mk hlen
        rw [mixS_end ra rb s x.toNat y.toNat (by omega)] at hmix
        have HMX := Aside0.mk hmix
        have HI2 := Aside0.mk (And.intro (And.intro i0 i1) (And.intro k0 k1))
        clear hIS hR hB HI hmix hlen
        have px : 0 ≤ x := i0
        have py : 0 ≤ y := k0
        have px1 : x ≤ (ra.length : Int) := i1
        have py1 : y ≤ (rb.length : Int) := k1
        have hcc0 : (ra.length : Int) ≤ (c0 : Int) := by omega
        have hcc1 : (rb.length : Int) ≤ (c1 : Int) := by omega
        have hld0 : (ra.drop x.toNat).length = ra.length - x.toNat := List.length_drop
        have hld1 : (rb.drop y.toNat).length = rb.length - y.toNat := List.length_drop
        have CD0 := Kd.C_drop HC0.out (m := x.toNat) (c := c0) (by omega) hc0
        have CD1 := Kd.C_drop HC1.out (m := y.toNat) (c := c1) (by omega) hc1
        rw [hld0, if_neg (show ¬ c0 = x.toNat by omega)] at CD0
        obtain ⟨ad, e, -⟩ := raw_at HC0.out x.toNat (by omega) (by omega)
        cases e
        replace CD0 : Kd.C kRaw w (some (ad.add (x.toNat * 33))) (ra.length - x.toNat) (ra.drop x.toNat) := CD0
        rw [hld1] at CD1
        replace CD0 := Aside0.mk CD0
        replace CD1 := Aside0.mk CD1
        have HSZ := Aside0.mk (show w.heap.size < wr.heap.size from (Array.getElem?_eq_some_iff.1 HIS.out.1).1)
        have HLEN2 := Aside0.mk (show out.length + (ra.length - x.toNat) ≤ 4000000 from by have := HLEN.out; have := HL.out; omega)
        have HLEN3 := Aside0.mk (show (out ++ ra.drop x.toNat).length + (rb.length - y.toNat) ≤ 4000000 from by rw [List.length_append, hld0]; have := HLEN.out; have := HL.out; omega)
        clear hld0 hld1
        go_wp2_with (first
          | ((with_reducible refine gate_builtin (b := .append) (xs := #[.tmp 45, .tmp 48]) rfl ?_); (refine Kd.R_append_rows kRaw (w0 := w) w.heap.size rfl (.tmp 45) (.tmp 48) 22 41 (.agg #[(.int .i64 0), (.int .i64 0), (.int .i64 0), (.int .i64 0), (.int .i64 0), (.int .i64 0), (.int .u64 0), (.int .i64 0), (.int .i64 0), (.int .i64 0), (.int .i64 0), (.int .i64 0), (.int .i64 0), (.int .i64 0), (.int .i64 0), (.int .i64 0), (.int .i64 0), (.string ⟨#[]⟩), (.int .i64 0), (.int .i64 0), (.string ⟨#[]⟩), (.string ⟨#[]⟩), (.int .i64 0), (.int .i64 0), (.int .i64 0), (.string ⟨#[]⟩), (.bool false), (.int .i64 0), (.slice none 0 0), (.string ⟨#[]⟩), (.int .i64 0), (.int .i64 0), (.int .i64 0)]) 320 rfl Try.underlying22 info41 rfl (by decide) (by omega) _ out (ra.drop x.toNat) _ _ _ (fun k => k ≠ w.heap.size) (fun _ => False) rfl rfl HIR.out (Kd.C_below CD0.out HIB.out) (fun _ _ h => h) (fun _ h => h.elim) (fun k hk => by have := HSZ.out; omega) HIB.out HIB.out.size (by have := HLEN2.out; have := HL.out; omega) ?_); intro v45 w45 hr hb hg hat; have R4 := Aside0.mk hr; have B4 := Aside0.mk hb; have HSZ4 := Aside0.mk (Nat.lt_of_lt_of_le HSZ.out hg.size); clear hr hb hg hat)
          | ((with_reducible refine gate_builtin (b := .append) (xs := #[.tmp 50, .tmp 53]) rfl ?_); (refine Kd.R_append_rows kRaw (w0 := w) w.heap.size rfl (.tmp 50) (.tmp 53) 22 41 (.agg #[(.int .i64 0), (.int .i64 0), (.int .i64 0), (.int .i64 0), (.int .i64 0), (.int .i64 0), (.int .u64 0), (.int .i64 0), (.int .i64 0), (.int .i64 0), (.int .i64 0), (.int .i64 0), (.int .i64 0), (.int .i64 0), (.int .i64 0), (.int .i64 0), (.int .i64 0), (.string ⟨#[]⟩), (.int .i64 0), (.int .i64 0), (.string ⟨#[]⟩), (.string ⟨#[]⟩), (.int .i64 0), (.int .i64 0), (.int .i64 0), (.string ⟨#[]⟩), (.bool false), (.int .i64 0), (.slice none 0 0), (.string ⟨#[]⟩), (.int .i64 0), (.int .i64 0), (.int .i64 0)]) 320 rfl Try.underlying22 info41 rfl (by decide) (by omega) _ (out ++ ra.drop x.toNat) (rb.drop y.toNat) _ _ _ (fun k => k ≠ w.heap.size) (fun _ => False) rfl rfl R4.out (Kd.C_below CD1.out B4.out) (fun _ _ h => h) (fun _ h => h.elim) (fun k hk => by have := HSZ4.out; omega) B4.out B4.out.size (by have := HLEN3.out; have := HL.out; omega) ?_); intro v50 w50 hr hb hg hat; have R5 := Aside0.mk hr; have B5 := Aside0.mk hb; clear hr hb hg hat))
        all_goals go_ret
        all_goals refine ⟨_, rfl, ?_, B5.out⟩
        all_goals rw [← HMX.out, ← List.append_assoc]
        all_goals exact Kd.R_mono R5.out (fun _ _ => trivial)
    · have q1 := eq_false b1
      obtain ⟨i0, i1, k0, k1, ⟨s, out, hIS, hR, hlen, hmix⟩, hB⟩ := HI.out
      have HIS := Aside0.mk hIS
      have HIR := Aside0.mk hR
      have HIB := Aside0.mk hB
      have HLEN := Aside0.mk hlen
      rw [mixS_end ra rb s x.toNat y.toNat (by omega)] at hmix
      have HMX := Aside0.mk hmix
      have HI2 := Aside0.mk (And.intro (And.intro i0 i1) (And.intro k0 k1))
      clear hIS hR hB HI hmix hlen
      have px : 0 ≤ x := i0
      have py : 0 ≤ y := k0
      have px1 : x ≤ (ra.length : Int) := i1
      have py1 : y ≤ (rb.length : Int) := k1
      have hcc0 : (ra.length : Int) ≤ (c0 : Int) := by omega
      have hcc1 : (rb.length : Int) ≤ (c1 : Int) := by omega
      have hld0 : (ra.drop x.toNat).length = ra.length - x.toNat := List.length_drop
      have hld1 : (rb.drop y.toNat).length = rb.length - y.toNat := List.length_drop
      have CD0 := Kd.C_drop HC0.out (m := x.toNat) (c := c0) (by omega) hc0
      have CD1 := Kd.C_drop HC1.out (m := y.toNat) (c := c1) (by omega) hc1
      rw [hld0] at CD0
      rw [hld1] at CD1
      replace CD0 := Aside0.mk CD0
      replace CD1 := Aside0.mk CD1
      have HSZ := Aside0.mk (show w.heap.size < wr.heap.size from (Array.getElem?_eq_some_iff.1 HIS.out.1).1)
      have HLEN2 := Aside0.mk (show out.length + (ra.length - x.toNat) ≤ 4000000 from by have := HLEN.out; have := HL.out; omega)
      have HLEN3 := Aside0.mk (show (out ++ ra.drop x.toNat).length + (rb.length - y.toNat) ≤ 4000000 from by rw [List.length_append, hld0]; have := HLEN.out; have := HL.out; omega)
      clear hld0 hld1
      go_wp2_with (first
        | ((with_reducible refine gate_builtin (b := .append) (xs := #[.tmp 45, .tmp 48]) rfl ?_); (refine Kd.R_append_rows kRaw (w0 := w) w.heap.size rfl (.tmp 45) (.tmp 48) 22 41 (.agg #[(.int .i64 0), (.int .i64 0), (.int .i64 0), (.int .i64 0), (.int .i64 0), (.int .i64 0), (.int .u64 0), (.int .i64 0), (.int .i64 0), (.int .i64 0), (.int .i64 0), (.int .i64 0), (.int .i64 0), (.int .i64 0), (.int .i64 0), (.int .i64 0), (.int .i64 0), (.string ⟨#[]⟩), (.int .i64 0), (.int .i64 0), (.string ⟨#[]⟩), (.string ⟨#[]⟩), (.int .i64 0), (.int .i64 0), (.int .i64 0), (.string ⟨#[]⟩), (.bool false), (.int .i64 0), (.slice none 0 0), (.string ⟨#[]⟩), (.int .i64 0), (.int .i64 0), (.int .i64 0)]) 320 rfl Try.underlying22 info41 rfl (by decide) (by omega) _ out (ra.drop x.toNat) _ _ _ (fun k => k ≠ w.heap.size) (fun _ => False) rfl rfl HIR.out (Kd.C_below CD0.out HIB.out) (fun _ _ h => h) (fun _ h => h.elim) (fun k hk => by have := HSZ.out; omega) HIB.out HIB.out.size (by have := HLEN2.out; have := HL.out; omega) ?_); intro v45 w45 hr hb hg hat; have R4 := Aside0.mk hr; have B4 := Aside0.mk hb; have HSZ4 := Aside0.mk (Nat.lt_of_lt_of_le HSZ.out hg.size); clear hr hb hg hat)
        | ((with_reducible refine gate_builtin (b := .append) (xs := #[.tmp 50, .tmp 53]) rfl ?_); (refine Kd.R_append_rows kRaw (w0 := w) w.heap.size rfl (.tmp 50) (.tmp 53) 22 41 (.agg #[(.int .i64 0), (.int .i64 0), (.int .i64 0), (.int .i64 0), (.int .i64 0), (.int .i64 0), (.int .u64 0), (.int .i64 0), (.int .i64 0), (.int .i64 0), (.int .i64 0), (.int .i64 0), (.int .i64 0), (.int .i64 0), (.int .i64 0), (.int .i64 0), (.int .i64 0), (.string ⟨#[]⟩), (.int .i64 0), (.int .i64 0), (.string ⟨#[]⟩), (.string ⟨#[]⟩), (.int .i64 0), (.int .i64 0), (.int .i64 0), (.string ⟨#[]⟩), (.bool false), (.int .i64 0), (.slice none 0 0), (.string ⟨#[]⟩), (.int .i64 0), (.int .i64 0), (.int .i64 0)]) 320 rfl Try.underlying22 info41 rfl (by decide) (by omega) _ (out ++ ra.drop x.toNat) (rb.drop y.toNat) _ _ _ (fun k => k ≠ w.heap.size) (fun _ => False) rfl rfl R4.out (Kd.C_below CD1.out B4.out) (fun _ _ h => h) (fun _ h => h.elim) (fun k hk => by have := HSZ4.out; omega) B4.out B4.out.size (by have := HLEN3.out; have := HL.out; omega) ?_); intro v50 w50 hr hb hg hat; have R5 := Aside0.mk hr; have B5 := Aside0.mk hb; clear hr hb hg hat))
      all_goals go_ret
      all_goals refine ⟨_, rfl, ?_, B5.out⟩
      all_goals rw [← HMX.out, ← List.append_assoc]
      all_goals exact Kd.R_mono R5.out (fun _ _ => trivial)
end Go.Proofs.Ytobbocolmlljdaa.P
namespace Go.Proofs.Ytobbocolmlljdaa.P
open Go.RowKit Go.Proofs.YtobbocolmlljdaaW.PrintWords Go.Proofs.YtobbocolmlljdaaW.PrintLast Go.Proofs.YtobbocolmlljdaaW.PrintMore Go.Proofs.YtobbocolmlljdaaW.HB
set_option linter.unusedVariables false
set_option linter.unusedSimpArgs false
def IsX (w : World) (b : Nat) (x : Int) : Prop := w.heap[b]? = some (.cells #[.int .u64 x] 23 (0, 0))
def IsDice (w : World) (g b : Nat) : Prop := w.heap[g]? = some (.cells #[.func (.func 43) #[] #[.pointer (some ⟨b, 0, none⟩)]] 82 (0, 0))
def stepX (w : World) (b : Nat) (x : Int) : World := w.setCell ⟨b, 0, none⟩ (.int .u64 (nx x))
theorem with_1.calls (b : Nat) (x : Int) (w : World) (hx : IsX w b x) :
    Calls Try.prog 43 #[.pointer (some ⟨b, 0, none⟩)] w fun e w' => e = .returned (.int .u64 (nx x / 8589934592)) ∧ w' = stepX w b x := by
  have hc : w.cell? ⟨b, 0, none⟩ = some (.int .u64 x) := by simp [World.cell?, show w.heap[b]? = _ from hx]
  have hf : w.frozen? ⟨b, 0, none⟩ = false := by simp [World.frozen?, show w.heap[b]? = _ from hx]
  have hlt : b < w.heap.size := (Array.getElem?_eq_some_iff.1 hx).1
  have hx0 := Aside0.mk hx
  clear hx
  go_enter Try.func43, Try.ntmps43
  go_wp2
  go_ret
  exact ⟨rfl, rfl⟩
theorem number.calls (g b : Nat) (x : Int) (w : World) (hg : IsDice w g b) (hx : IsX w b x) :
    Calls Try.prog 37 #[.pointer (some ⟨g, 0, none⟩)] w fun e w' => e = .returned (.int .u64 (nx x / 8589934592)) ∧ w' = stepX w b x := by
  have hc : w.cell? ⟨g, 0, none⟩ = some (.func (.func 43) #[] #[.pointer (some ⟨b, 0, none⟩)]) := by simp [World.cell?, show w.heap[g]? = _ from hg]
  have HX := Aside0.mk hx
  clear hg hx
  go_enter Try.func37, Try.ntmps37
  go_wp2_with (first
    | (go_at_call 43; refine (with_1.calls b x w HX.out).mono ?_; rintro e w1 ⟨rfl, rfl⟩))
  go_ret
  exact ⟨rfl, rfl⟩
theorem one.calls (g b : Nat) (x : Int) (w : World) (hg : IsDice w g b) (hx : IsX w b x) :
    Calls Try.prog 18 #[.pointer (some ⟨g, 0, none⟩), .int .i64 2] w fun e w' => e = .returned (.int .i64 (coin x)) ∧ w' = stepX w b x := by
  have HG := Aside0.mk hg
  have HX := Aside0.mk hx
  have HCO : Aside0 (coin x = wrap64 (Int.tmod (nx x / 8589934592) 2)) := ⟨rfl⟩
  clear hg hx
  go_enter Try.func18, Try.ntmps18
  go_wp2_with (first
    | (go_at_call 37; refine (number.calls g b x w HG.out HX.out).mono ?_; rintro e w1 ⟨rfl, rfl⟩))
  go_ret
  exact ⟨by rw [HCO.out]; rfl, rfl⟩
end Go.Proofs.Ytobbocolmlljdaa.P
namespace Go.Proofs.Ytobbocolmlljdaa.P
open Go.RowKit Go.Proofs.YtobbocolmlljdaaW.PrintWords Go.Proofs.YtobbocolmlljdaaW.PrintLast Go.Proofs.YtobbocolmlljdaaW.PrintMore Go.Proofs.YtobbocolmlljdaaW.HB
set_option linter.unusedVariables false
set_option linter.unusedSimpArgs false
structure MX (w0 W : World) (pa pb po g bx : Nat) (A B : Option Addr) (ca cb : Nat) (v : Value) (a b out : List (List Value)) (s : Int) : Prop where
  qa : Boxed W pa 22 (.slice A a.length ca)
  qb : Boxed W pb 22 (.slice B b.length cb)
  qo : Boxed W po 22 v
  hca : a.length ≤ ca
  hcb : b.length ≤ cb
  ra : Kd.C kRaw w0 A a.length a
  rb : Kd.C kRaw w0 B b.length b
  r : Kd.R kRaw 41 W w0.heap.size (fun _ => True) v out
  x : Boxed W bx 23 (.int .u64 s)
  d : Boxed W g 82 (.func (.func 43) #[] #[.pointer (some ⟨bx, 0, none⟩)])
  below : Below w0.heap.size w0 W
structure Apart5 (n pa pb po g bx : Nat) : Prop where
  la : n ≤ pa
  lb : n ≤ pb
  lo : n ≤ po
  lx : n ≤ bx
  lg : n ≤ g
  nab : pa ≠ pb
  nao : pa ≠ po
  nbo : pb ≠ po
  nxa : bx ≠ pa
  nxb : bx ≠ pb
  nxo : bx ≠ po
  nxg : bx ≠ g
  nga : g ≠ pa
  ngb : g ≠ pb
  ngo : g ≠ po
theorem MX.step {w0 W : World} {pa pb po g bx : Nat} {A B : Option Addr} {ca cb : Nat} {v : Value} {a b out : List (List Value)} {s : Int} (h : MX w0 W pa pb po g bx A B ca cb v a b out s) (n : Apart5 w0.heap.size pa pb po g bx) : MX w0 (stepX W bx s) pa pb po g bx A B ca cb v a b out (nx s) :=
  ⟨h.qa.other (Ne.symm n.nxa) _, h.qb.other (Ne.symm n.nxb) _, h.qo.other (Ne.symm n.nxo) _, h.hca, h.hcb, h.ra, h.rb, Kd.R_set h.r h.x (by intro q hq; simp [kRaw, Kd.raw] at hq; omega) 0 _, h.x.set _, h.d.other (Ne.symm n.nxg) _, below_set h.below n.lx⟩
theorem MX.not_row {w0 W : World} {pa pb po g bx : Nat} {A B : Option Addr} {ca cb : Nat} {v : Value} {a b out : List (List Value)} {s : Int} (h : MX w0 W pa pb po g bx A B ca cb v a b out s) : some pa ≠ v.ownBlock ∧ some pb ≠ v.ownBlock ∧ some po ≠ v.ownBlock ∧ some bx ≠ v.ownBlock ∧ some g ≠ v.ownBlock :=
  ⟨Kd.R_ne h.r h.qa (by decide), Kd.R_ne h.r h.qb (by decide), Kd.R_ne h.r h.qo (by decide), Kd.R_ne h.r h.x (by decide), Kd.R_ne h.r h.d (by decide)⟩
theorem MX.moveA {w0 W : World} {pa pb po g bx : Nat} {A B : Option Addr} {ca cb : Nat} {v : Value} {a b out : List (List Value)} {row : List Value} {s : Int} (h : MX w0 W pa pb po g bx A B ca cb v (row :: a) b out s) (n : Apart5 w0.heap.size pa pb po g bx)
    {W1 : World} {v1 : Value} (hr : Kd.R kRaw 41 W1 w0.heap.size (fun _ => True) v1 (out ++ [row])) (hg : W.grownBy W1 v.ownBlock) (hb : Below w0.heap.size w0 W1) {A' : Option Addr} {ca' : Nat} (hA : Kd.C kRaw w0 A' a.length a) (hc : a.length ≤ ca') :
    MX w0 ((W1.setCell ⟨po, 0, none⟩ v1).setCell ⟨pa, 0, none⟩ (.slice A' a.length ca')) pa pb po g bx A' B ca' cb v1 a b (out ++ [row]) s := by
  obtain ⟨r1, r2, r3, r4, r5⟩ := h.not_row
  have b1 := h.qa.kept hg r1
  have b2 := h.qb.kept hg r2
  have b3 := h.qo.kept hg r3
  have b4 := h.x.kept hg r4
  have b5 := h.d.kept hg r5
  have hr2 := Kd.R_set hr b3 (by intro q hq; simp [kRaw, Kd.raw] at hq; omega) 0 v1
  have b1' := b1.other n.nao v1
  exact ⟨b1'.set _, (b2.other n.nbo v1).other (Ne.symm n.nab) _, (b3.set v1).other (Ne.symm n.nao) _, hc, h.hcb, hA, h.rb, Kd.R_set hr2 b1' (by intro q hq; simp [kRaw, Kd.raw] at hq; omega) 0 _, (b4.other n.nxo v1).other n.nxa _, (b5.other n.ngo v1).other n.nga _, below_set (below_set hb n.lo) n.la⟩
theorem MX.moveB {w0 W : World} {pa pb po g bx : Nat} {A B : Option Addr} {ca cb : Nat} {v : Value} {a b out : List (List Value)} {row : List Value} {s : Int} (h : MX w0 W pa pb po g bx A B ca cb v a (row :: b) out s) (n : Apart5 w0.heap.size pa pb po g bx)
    {W1 : World} {v1 : Value} (hr : Kd.R kRaw 41 W1 w0.heap.size (fun _ => True) v1 (out ++ [row])) (hg : W.grownBy W1 v.ownBlock) (hb : Below w0.heap.size w0 W1) {B' : Option Addr} {cb' : Nat} (hB : Kd.C kRaw w0 B' b.length b) (hc : b.length ≤ cb') :
    MX w0 ((W1.setCell ⟨po, 0, none⟩ v1).setCell ⟨pb, 0, none⟩ (.slice B' b.length cb')) pa pb po g bx A B' ca cb' v1 a b (out ++ [row]) s := by
  obtain ⟨r1, r2, r3, r4, r5⟩ := h.not_row
  have b1 := h.qa.kept hg r1
  have b2 := h.qb.kept hg r2
  have b3 := h.qo.kept hg r3
  have b4 := h.x.kept hg r4
  have b5 := h.d.kept hg r5
  have hr2 := Kd.R_set hr b3 (by intro q hq; simp [kRaw, Kd.raw] at hq; omega) 0 v1
  have b2' := b2.other n.nbo v1
  exact ⟨(b1.other n.nao v1).other n.nab _, b2'.set _, (b3.set v1).other (Ne.symm n.nbo) _, h.hca, hc, h.ra, hB, Kd.R_set hr2 b2' (by intro q hq; simp [kRaw, Kd.raw] at hq; omega) 0 _, (b4.other n.nxo v1).other n.nxb _, (b5.other n.ngo v1).other n.ngb _, below_set (below_set hb n.lo) n.lb⟩
theorem MX.drew {w0 W : World} {pa pb po g bx : Nat} {A B : Option Addr} {ca cb : Nat} {v : Value} {a b out : List (List Value)} {s : Int} (h : MX w0 W pa pb po g bx A B ca cb v a b out s) : MX w0 W.drew pa pb po g bx A B ca cb v a b out s :=
  ⟨h.qa, h.qb, h.qo, h.hca, h.hcb, h.ra, h.rb, Kd.R_drew h.r, h.x, h.d, below_drew h.below⟩
end Go.Proofs.Ytobbocolmlljdaa.P
namespace Go.Proofs.YtobbocolmlljdaaW.HB
set_option linter.unusedVariables false
section
variable {P : Program} {ops : Array Oper} {Q : Exit → Act → World → Prop} {md : Region.Mode} {B : List Nat} {C : Nat → World → Prop}
def Until (B : List Nat) (C : Nat → World → Prop) (L : Array Bool) (w : World) : Prop := ∀ b ∈ B, L.getD b true = false → C b w
def wpAnyC (P : Program) (md : Region.Mode) (ops : Array Oper) (Q : Exit → Act → World → Prop) (B : List Nat) (C : Nat → World → Prop) : Nat → Array Bool → Act → World → Prop
  | 0, L, a, w => Region.ready md ops L = [] ∧ Q .normal a w
  | fuel + 1, L, a, w =>
    (Region.ready md ops L = [] → Q .normal a w) ∧
    ∀ i ∈ Region.ready md ops L, wpOp P ops Q i (fun a' w' => Until B C (L.setIfInBounds i true) w' ∧ wpAnyC P md ops Q B C fuel (L.setIfInBounds i true) a' w') a w
theorem wpAny_of_C : ∀ (fuel : Nat) (L : Array Bool) (a : Act) (w : World), wpAnyC P md ops Q B C fuel L a w → wpAny P md ops Q fuel L a w
  | 0, _, _, _, h => h
  | fuel + 1, _, _, _, h => ⟨h.1, fun i hi => wpOp_mono (fun a' w' h' => wpAny_of_C fuel _ a' w' h'.2) (h.2 i hi)⟩
def waits (md : Region.Mode) (ops : Array Oper) (i : Nat) (D : List Nat) : Bool :=
  D.all fun d => match ops[d]? with
    | none => false
    | some o => o.after.any fun e => Region.binds md e && (e.on == i || D.contains e.on)
theorem waits_not_ready {i : Nat} {D : List Nat} (h : waits md ops i D = true) {L : Array Bool} (hi : L.getD i true = false) (hD : ∀ d ∈ D, L.getD d true = false) {j : Nat} (hj : j ∈ Region.ready md ops L) : j ∉ D := by
  intro hjD
  obtain ⟨_, o, ho, hall⟩ := mem_ready.1 hj
  unfold waits at h
  have h1 := List.all_eq_true.1 h j hjD
  rw [ho] at h1
  obtain ⟨e, he, h2⟩ := Array.any_eq_true'.1 h1
  rw [Bool.and_eq_true] at h2
  have h3 := hall e he h2.1
  have h4 : L.getD e.on true = false := by
    rcases Bool.or_eq_true_iff.1 h2.2 with h5 | h5
    · rw [beq_iff_eq.1 h5]; exact hi
    · exact hD _ (by simpa using h5)
  rcases Nat.lt_or_ge e.on L.size with h' | h'
  · simp [h'] at h3 h4; rw [h3] at h4; cases h4
  · simp [Array.getElem?_eq_none h'] at h3
theorem wpAnyC_first {i b : Nat} {oi : Oper} {v : Value} {D : List Nat} (hi : ops[i]? = some oi) (hsel : ∀ (j : Nat) (o : Oper) cs b, ops[j]? = some o → o.op ≠ .select cs b)
    (hQ : ∀ c a w, Q (.panic c) (a.put oi.dst v) w → Q (.panic c) a w) (hw : waits md ops i D = true) (hbB : b ∈ B) (hbD : b ∈ D) (hiB : i ∉ B) :
    ∀ (fuel : Nat) (L : Array Bool) (a : Act) (w : World),
      (∀ j oj, ops[j]? = some oj → j ≠ i → L.getD j true = false → (∀ e ∈ oj.after, Region.binds md e = true → e.on ≠ i) → oi.apart ops oj = true) →
      i ∈ Region.ready md ops L → (∀ d ∈ D, L.getD d true = false) → YieldsIf P ops (C b) oi v a → C b w →
      wpAnyC P md ops Q B C fuel (L.setIfInBounds i true) (a.put oi.dst v) w → Until B C (L.setIfInBounds i true) w → wpAnyC P md ops Q B C (fuel + 1) L a w := by
  intro fuel
  induction fuel with
  | zero =>
    intro L a w _ hr hD hy hS H hU
    refine ⟨fun h => (by rw [h] at hr; cases hr), fun j hj => ?_⟩
    by_cases hji : j = i
    · subst hji; exact hy.wpOp hi hS ⟨hU, H⟩
    · have := ready_mono hj hji
      rw [H.1] at this
      cases this
  | succ fuel ih =>
    intro L a w hfree hr hD hy hS H hU
    refine ⟨fun h => (by rw [h] at hr; cases hr), fun j hj => ?_⟩
    by_cases hji : j = i
    · subst hji; exact hy.wpOp hi hS ⟨hU, H⟩
    · have hjD : j ∉ D := waits_not_ready hw (mem_ready.1 hr).1 hD hj
      have h1 := H.2 j (ready_mono hj hji)
      obtain ⟨hjun, oj, hoj, hall⟩ := mem_ready.1 hj
      have hnot : ∀ e ∈ oj.after, Region.binds md e = true → e.on ≠ i := fun e he hb heq => by
        have h1 := hall e he hb
        have h0 := (mem_ready.1 hr).1
        rw [heq] at h1
        rcases Nat.lt_or_ge i L.size with h' | h'
        · simp [h'] at h0 h1; rw [h0] at h1; cases h1
        · simp [Array.getElem?_eq_none h'] at h1
      have h2 := wpOp_putIf hoj (hfree j oj hoj hji hjun hnot) (fun cs b => hsel i oi cs b hi) (fun cs b => hsel j oj cs b hoj) hQ hy h1
      have hfree' : ∀ k ok, ops[k]? = some ok → k ≠ i → (L.setIfInBounds j true).getD k true = false →
          (∀ e ∈ ok.after, Region.binds md e = true → e.on ≠ i) → oi.apart ops ok = true := fun k ok hk hki hun hno => by
        refine hfree k ok hk hki ?_ hno
        by_cases hjk : j = k
        · subst hjk; exact hjun
        · rw [getD_set_ne true hjk] at hun; exact hun
      have hD' : ∀ d ∈ D, (L.setIfInBounds j true).getD d true = false := fun d hd => by
        rw [getD_set_ne true (fun (e : j = d) => hjD (by rw [e]; exact hd))]; exact hD d hd
      refine wpOp_mono (fun a' w' h3 => ?_) h2
      obtain ⟨hy3, hU3, hA3⟩ := h3
      have hcomm : (L.setIfInBounds i true).setIfInBounds j true = (L.setIfInBounds j true).setIfInBounds i true := Array.setIfInBounds_comm _ _ (Ne.symm hji)
      have hU4 : Until B C (L.setIfInBounds j true) w' := fun c hc hL => by
        refine hU3 c hc ?_
        rw [hcomm, getD_set_ne true (fun (e : i = c) => hiB (by rw [e]; exact hc))]
        exact hL
      refine ⟨hU4, ih (L.setIfInBounds j true) a' w' hfree' (ready_mono hr (Ne.symm hji)) hD' hy3 (hU4 b hbB (hD' b hbD)) ?_ ?_⟩
      · rw [← hcomm]; exact hA3
      · rw [← hcomm]; exact hU3
def unlisted (L : Array Bool) (D : List Nat) : Bool := D.all fun d => L.getD d true == false
theorem wpAnyC_take {i b : Nat} {oi : Oper} {v : Value} {D : List Nat} {fuel : Nat} {L : Array Bool} {a : Act} {w : World} (hi : ops[i]? = some oi)
    (hs : Region.noSelect ops = true) (hf : Region.free md ops L i = true) (hr : (Region.ready md ops L).contains i = true) (hw : waits md ops i D = true) (hbB : b ∈ B) (hbD : b ∈ D) (hiB : i ∉ B) (hun : unlisted L D = true)
    (hQ : ∀ c a w, Q (.panic c) (a.put oi.dst v) w → Q (.panic c) a w) (hy : YieldsIf P ops (C b) oi v a) (hU : Until B C L w)
    (h : Until B C (L.setIfInBounds i true) w → wpAnyC P md ops Q B C fuel (L.setIfInBounds i true) (a.put oi.dst v) w) : wpAnyC P md ops Q B C (fuel + 1) L a w := by
  have hD : ∀ d ∈ D, L.getD d true = false := fun d hd => by simpa using List.all_eq_true.1 hun d hd
  have hU' : Until B C (L.setIfInBounds i true) w := fun c hc hL => hU c hc (by rwa [getD_set_ne true (fun (e : i = c) => hiB (by rw [e]; exact hc))] at hL)
  exact wpAnyC_first hi (Region.noSelect_spec hs) hQ hw hbB hbD hiB fuel L a w (Region.free_spec hi hf) (by simpa using hr) hD hy (hU b hbB (hD b hbD)) (h hU') hU'
theorem wpAnyC_one {i : Nat} {o : Oper} {fuel : Nat} {L : Array Bool} {a : Act} {w : World} (hr : Region.ready md ops L = [i]) (ho : ops[i]? = some o)
    (h : ∀ K' : Act → World → Prop, (∀ a w, Until B C (L.setIfInBounds i true) w → (Until B C (L.setIfInBounds i true) w → wpAnyC P md ops Q B C fuel (L.setIfInBounds i true) a w) → K' a w) → if Region.wanted o (yielded ops a.tmps) = true then Oper.wp P o a w K' Q else K' (a.put o.dst undef) w) :
    wpAnyC P md ops Q B C (fuel + 1) L a w := by
  refine ⟨fun h0 => (by rw [h0] at hr; cases hr), fun j hj => ?_⟩
  rw [hr, List.mem_singleton] at hj
  subst hj
  exact wpOp_step ho (fun K' hK => h K' (fun a w hU hW => hK a w ⟨hU, hW hU⟩))
theorem wpAnyC_done {L : Array Bool} {a : Act} {w : World} (hr : Region.ready md ops L = []) (h : Q .normal a w) :
    ∀ fuel, wpAnyC P md ops Q B C fuel L a w
  | 0 => ⟨hr, h⟩
  | _ + 1 => ⟨fun _ => h, by rw [hr]; simp⟩
theorem wp_region_C {id : Nat} {a : Act} {w : World} (B : List Nat) (C : Nat → World → Prop) (hm : P.follows .mixedOrders = true) (hC : ∀ b ∈ B, C b w.drew)
    (h : Until B C (Array.replicate ops.size false) w.drew → wpAnyC P .any ops Q B C ops.size (Array.replicate ops.size false) a w.drew) : (Code.region id ops true).wp P Q a w :=
  wp_region_any hm (wpAny_of_C _ _ _ _ (h (fun b hb _ => hC b hb)))
end
end Go.Proofs.YtobbocolmlljdaaW.HB
