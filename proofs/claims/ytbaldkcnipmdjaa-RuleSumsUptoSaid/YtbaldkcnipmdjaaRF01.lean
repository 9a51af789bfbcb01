/- Texts of this claim, merged by pack.py: P0 HO HT HB HJ HQ HI0 PSlicesIndexIntInt PSlicesContainsIntInt C6a HK PHashLast32 C2 PHashLog PCrushCost PReefref01Log PReefref01Ended PReefref01Mix PReefref01Words PReefref11Cost C3 PBitsMul64 -/
import Derived.Test.YtbaldkcnipmdjaaProg
import Derived.Below
import Derived.Deep.Draws
import Derived.Deep.AppendLies
import Derived.Maps.AppendAt
import Derived.OwnWalk
import Derived.Laws.BytesArg
import Derived.Laws.MakeOwn
import Derived.Laws.OwnMore
import Derived.Deep.OwnRows
import Derived.Tactics
import Derived.Lib.ConvBytes
import Derived.Laws.Slices
import Derived.WalkKit
import Derived.KernelRfl
import Derived.RowKit3
import Derived.Deep.LoopGhost
import Derived.Deep.QuietTactic
import Derived.BigQuiet
import Derived.WideLaws
import Derived.Deep.DeepCutAuto
import Derived.Deep.CutBlock
import Derived.Deep.RegionHeld3
import Derived.Laws.Rows
import Derived.Lib.AppendStr
import Derived.ArgAppend
import Derived.Laws.IdiomCopy
import Derived.OrdersHeld
import Derived.Laws.BitsLemmas
import Derived.RowKit
import Derived.Test.YtbaldkcnipmdjaaRF00
import Derived.Deep.Slices
import Derived.SizedLaws
import Derived.WideShapes
import Derived.ChangeArms
import Derived.WalkSpells
import Derived.OwnWalkIn
import Derived.RangeFuncNested
import Derived.RangeFuncBound
import Derived.RangeFuncCalls
import Derived.RangeFuncLeaves
import Derived.Shelf.Abstract
import Derived.Shelf.RegionOpen
import Derived.TacticsInMore
import Derived.LoopNIn
import Derived.LoopIn
import Derived.BigRegionIn
import Derived.Deep.RegionWith
namespace Go.Proofs.Ytbaldkcnipmdjaa.P
open Go.RowKit Go.Proofs.YtbaldkcnipmdjaaW.PrintWords Go.Proofs.YtbaldkcnipmdjaaW.PrintLast Go.Proofs.YtbaldkcnipmdjaaW.PrintMore
attribute [local go_sem] max2_int min2_int max_two min_two max_three min_three max_four min_four
set_option linter.unusedVariables false
set_option linter.unusedSimpArgs false
def errW : Option Int → Value
  | none => .nilIface
  | some c => .iface 0 (.int .i64 c)
theorem errW_none : errW none = .nilIface := rfl
theorem errW_some (c : Int) : errW (some c) = .iface 0 (.int .i64 c) := rfl
theorem info3 : (Try.prog.info? 3).map (fun i => (i.zero, i.size, i.bytes)) = some (some (.int .i64 0), 1, 8) := by kernel_rfl
theorem info31 : (Try.prog.info? 31).map (fun i => (i.zero, i.size, i.bytes)) = some (some (.agg #[(.int .i64 0), (.int .i64 0)]), 2, 16) := by kernel_rfl
structure S31 where
  f0 : Int
  f1 : Int
def z31 : S31 := ⟨(0 : Int), (0 : Int)⟩
def k31 : Kd S31 := Kd.iso (Kd.pair (Kd.int .i64) (Kd.int .i64)) (fun x : S31 => (x.f0, x.f1))
theorem k31_open {w : World} {x : S31} {cs : List Value} (h : k31.K w x cs) : cs = [.int .i64 x.f0, .int .i64 x.f1] := by
  obtain ⟨_, _, rfl, rfl, rfl⟩ := h
  exact rfl
theorem k31_mk (w : World) (x : S31)  : k31.K w x [.int .i64 x.f0, .int .i64 x.f1] := ⟨[.int .i64 x.f0], [.int .i64 x.f1], rfl, rfl, rfl⟩
theorem k31_mkM (w : World) (base : Nat) (ok : Nat → Prop) (x : S31)  : k31.M w base ok x [.int .i64 x.f0, .int .i64 x.f1] := ⟨[.int .i64 x.f0], [.int .i64 x.f1], rfl, rfl, rfl⟩
def rd_T31 (xs : List S31) (i : Int) : S31 := xs.getD i.toNat z31
theorem at_T31 {w : World} {A : Option Addr} {n : Nat} {xs : List S31} (h : Kd.C k31 w A n xs) (i : Int) (h0 : 0 ≤ i) (h1 : i < n) : ∃ ad , A = some ad ∧ w.cell? (ad.add (i.toNat * 2)) = some (.int .i64 (rd_T31 xs i).f0) ∧ w.cell? ⟨(ad.add (i.toNat * 2)).block, (ad.add (i.toNat * 2)).off + 1, none⟩ = some (.int .i64 (rd_T31 xs i).f1) := by
  obtain ⟨ad, c, e, _, hK, hc0⟩ := Kd.C_get h z31 i h0 h1
  have hc : ∀ j u, c[j]? = some u → w.cell? (ad.add (i.toNat * 2 + j)) = some u := hc0
  obtain rfl := k31_open hK
  exact ⟨ad, e, hc 0 _ rfl, by rw [← add_field _ _ 1 (by omega)]; exact hc 1 _ rfl⟩
end Go.Proofs.Ytbaldkcnipmdjaa.P
namespace Go.Proofs.YtbaldkcnipmdjaaW.HO
open Go.RowKit Go.Proofs.YtbaldkcnipmdjaaW.PrintWords Go.ChangeShapes Go.WideShapes
set_option linter.unusedVariables false
set_option linter.unusedSectionVars false
section
variable {H : Type} {enc : TypeId × Value → H} {P : Program} {W : World}
structure Opn (enc : TypeId × Value → H) (P : Program) (W : World) (t : TypeId) {α : Type} (d : Kd α) (B : α → Prop) : Prop where
  go : ∀ (fuel : Nat) (cs : List Value) (D : DataW H) (ps : List MemPlace), DataW.trod enc P W 0 (fun _ => true) true fuel t cs = some (D, ps) → (∀ n ∈ D.weights P t, n ≤ reachBytes) → ∃ x, d.K W x cs ∧ B x
theorem Opn.int {t : TypeId} {k : IntKind} (hu : P.underlying t = some (.int k)) : Opn enc P W t (Kd.int k) (fun x => (Lit.int k x).wf = true) := ⟨fun fuel cs D ps h _ => by
  obtain ⟨n, rfl, _, hw⟩ := DataW.trod_int hu h
  exact ⟨n, rfl, hw⟩⟩
theorem Opn.bool {t : TypeId} (hu : P.underlying t = some .bool) : Opn enc P W t Kd.bool (fun _ => True) := ⟨fun fuel cs D ps h _ => by
  obtain ⟨n, rfl, _⟩ := DataW.trod_bool hu h
  exact ⟨n, rfl, trivial⟩⟩
theorem Opn.string {t : TypeId} (hu : P.underlying t = some .string) : Opn enc P W t Kd.string (fun s => s.size ≤ 140737488351232) := ⟨fun fuel cs D ps h hw => by
  obtain ⟨s, rfl, hx, _⟩ := DataW.trod_string hu h
  have hD := congrArg Prod.fst hx
  dsimp only at hD
  subst hD
  refine ⟨s, rfl, ?_⟩
  have := hw s.data.toList.length (by simp [DataW.weights])
  rw [Array.length_toList] at this
  exact this⟩
structure OpnF (enc : TypeId × Value → H) (P : Program) (W : World) (fs : List Field) (off : Nat) {α : Type} (d : Kd α) (B : α → Prop) : Prop where
  go : ∀ (fuel : Nat) (cs : List Value) (xs : List (DataW H × List MemPlace)), xs.length = fs.length → (∀ (i : Nat) (f : Field), fs[i]? = some f → DataW.trod enc P W 0 (fun _ => true) true fuel f.type ((cs.drop f.offset).take (P.cellsOf f.type)) = xs[i]?) →
    (∀ n ∈ DataW.weightsEach P (fs.map (·.type)) (xs.map (·.1)), n ≤ reachBytes) → ∃ x, d.K W x ((cs.drop off).take d.sz) ∧ B x
theorem OpnF.cons {f : Field} {fs : List Field} {off off' : Nat} {α β : Type} {a : Kd α} {b : Kd β} {A : α → Prop} {B : β → Prop} (ho : f.offset = off) (hc : P.cellsOf f.type = a.sz) (ho' : off + a.sz = off') (h : Opn enc P W f.type a A) (hs : OpnF enc P W fs off' b B) :
    OpnF enc P W (f :: fs) off (Kd.pair a b) (fun x => A x.1 ∧ B x.2) := ⟨fun fuel cs xs hl hx hw => by
  match xs, hl with
  | y :: ys, hl =>
    have h0 := hx 0 f rfl
    rw [ho, hc] at h0
    obtain ⟨x0, k0, b0⟩ := h.go fuel _ y.1 y.2 h0 (fun n hn => hw n (by simp [DataW.weightsEach, hn]))
    obtain ⟨x1, k1, b1⟩ := hs.go fuel cs ys (by simpa using hl) (fun i g hg => hx (i + 1) g hg) (fun n hn => hw n (by simp only [List.map_cons, DataW.weightsEach, List.mem_append]; exact .inr hn))
    refine ⟨(x0, x1), ⟨_, _, ?_, k0, k1⟩, b0, b1⟩
    show List.take (a.sz + b.sz) (List.drop off cs) = _
    rw [List.take_add, List.drop_drop, ho']⟩
theorem Opn.struct {t : TypeId} {fs : Array Field} {α β : Type} {d : Kd α} {B : α → Prop} (hu : P.underlying t = some (.struct fs)) (hc : P.cellsOf t = d.sz) (h : OpnF enc P W fs.toList 0 d B) (f : β → α) (g : α → β) (hg : ∀ x, f (g x) = x) :
    Opn enc P W t (Kd.iso d f) (fun y => B (f y)) := ⟨fun fuel cs D ps hx hw => by
  obtain ⟨xs, k, hk, hxy, hcl, hxl, hf⟩ := DataW.trod_struct hu hx
  have hD := congrArg Prod.fst hxy
  dsimp only at hD
  subst hD
  obtain ⟨x, hK, hB⟩ := h.go k cs xs (by simpa using hxl) (fun i f' hf' => hf i f' (by simpa using hf')) (fun n hn => hw n (by simp [DataW.weights, hu]; simpa using hn))
  rw [List.drop_zero, ← hc, ← hcl, List.take_length] at hK
  exact ⟨g x, by show d.K W (f (g x)) cs; rw [hg]; exact hK, by show B (f (g x)); rw [hg]; exact hB⟩⟩
theorem weightsAll_mem {e : TypeId} {l : List (DataW H)} {D : DataW H} (hD : D ∈ l) {n : Nat} (hn : n ∈ D.weights P e) : n ∈ DataW.weightsAll P e l := by
  induction l with
  | nil => cases hD
  | cons y l ih =>
    rw [DataW.weightsAll, List.mem_append]
    rcases List.mem_cons.1 hD with rfl | h
    · exact .inl hn
    · exact .inr (ih h)
theorem Opn.slice {t e : TypeId} {α : Type} {d : Kd α} {B : α → Prop} {bytes : Nat} (hu : P.underlying t = some (.slice e)) (hc : P.cellsOf e = d.sz) (hb : P.bytesOf e = bytes) (h : Opn enc P W e d B) :
    Opn enc P W t (Kd.slice e d) (fun xs => xs.length * bytes ≤ 140737488351232 ∧ ∀ x ∈ xs, B x) := ⟨fun fuel cs D ps hx hw => by
  rcases Deep.open_slice hu hx with ⟨rfl, _⟩ | ⟨x, l, c, m, n, Dd, Pl, rfl, _, hl, hm, hmm, hxx, hi⟩
  · exact ⟨[], ⟨none, 0, rfl, Nat.le_refl _, rfl, by simp, fun h => absurd h (Nat.lt_irrefl _)⟩, by simp, fun x hx => by cases hx⟩
  · have hD := congrArg Prod.fst hxx
    dsimp only at hD
    subst hD
    have hlm : l ≤ m := by rw [hmm]; split <;> omega
    rcases Nat.eq_zero_or_pos l with rfl | hpos
    · exact ⟨[], ⟨some x, c, rfl, Nat.zero_le _, rfl, by simp, fun h => absurd h (Nat.lt_irrefl _)⟩, by simp, fun x hx => by cases hx⟩
    have hv0 : ∀ i, i < l → ∃ v cs', cs'.length = d.sz ∧ d.K W v cs' ∧ B v ∧ (∀ q u, cs'[q]? = some u → W.cell? (x.add (i * d.sz + q)) = some u) := fun i hil => by
      obtain ⟨cs', h1, h2⟩ := hi i (by omega)
      obtain ⟨_, hlen, hcell⟩ := World.cells?_some h1
      obtain ⟨v, hK, hB⟩ := h.go n cs' (Dd i) (Pl i) h2 (fun n hn => hw n (by
        simp only [DataW.weights, hu, List.mem_cons, List.mem_append]
        exact .inr (.inl (weightsAll_mem (List.mem_map.2 ⟨i, List.mem_range.2 hil, rfl⟩) hn))))
      refine ⟨v, cs', by rw [← hc]; exact hlen, hK, hB, fun q u hq => ?_⟩
      have hq' : q < P.cellsOf e := by have := (List.getElem?_eq_some_iff.1 hq).1; omega
      have := hcell q hq'
      rw [Deep.add_add, hc] at this
      exact this.trans hq
    obtain ⟨z, _⟩ := hv0 0 hpos
    have hv : ∀ i, ∃ v, i < l → ∃ cs', cs'.length = d.sz ∧ d.K W v cs' ∧ B v ∧ (∀ q u, cs'[q]? = some u → W.cell? (x.add (i * d.sz + q)) = some u) := fun i => by
      by_cases hil : i < l
      · obtain ⟨v, h2⟩ := hv0 i hil
        exact ⟨v, fun _ => h2⟩
      · exact ⟨z, fun h => absurd h hil⟩
    let f : Nat → α := fun i => Classical.choose (hv i)
    have hf := fun i => Classical.choose_spec (hv i)
    have hlen : ((List.range l).map f).length = l := by simp
    refine ⟨(List.range l).map f, ⟨some x, c, by rw [hlen], by rw [hlen]; exact hl, by rw [hlen], by rw [hlen]; unfold maxLen at hm; omega, fun _ => ⟨x, rfl, fun j p hp => ?_⟩⟩, ?_, ?_⟩
    · have hjl : j < l := by have := (List.getElem?_eq_some_iff.1 hp).1; simpa using this
      obtain rfl : f j = p := by have := (List.getElem?_eq_some_iff.1 hp).2; simpa using this
      obtain ⟨cs', h1, h2, _, h4⟩ := hf j hjl
      exact ⟨cs', h1, h2, h4⟩
    · rw [hlen]
      have := hw _ (by simp only [DataW.weights, hu]; exact List.mem_cons_self)
      rw [hb] at this
      simp only [List.length_map, List.length_range, reachBytes] at this
      exact Nat.le_trans (Nat.mul_le_mul_right _ (Nat.le_add_right _ _)) this
    · intro y hy
      obtain ⟨j, hj, rfl⟩ := List.mem_map.1 hy
      obtain ⟨_, _, _, h3, _⟩ := hf j (List.mem_range.1 hj)
      exact h3⟩
theorem Opn.arg {t : TypeId} {α : Type} {d : Kd α} {B : α → Prop} (h : Opn enc P W t d B) {ts : List TypeId} {ds : List (DataW H)} {j : Nat} {D : DataW H} {v : Value} {ps : List MemPlace}
    (hsz : (DataW.weightsEach P ts ds).all (· ≤ reachBytes) = true) (ht : ts[j]? = some t) (hd : ds[j]? = some D) (hx : DataW.Trod enc P W 0 (fun _ => true) true t v D ps) : ∃ x, d.K W x v.cells.toList ∧ B x := by
  obtain ⟨fuel, hf⟩ := hx
  exact h.go fuel _ D ps hf (fun n hn => by simpa using List.all_eq_true.1 hsz _ (DataW.weights_mem_each ht hd n hn))
end
end Go.Proofs.YtbaldkcnipmdjaaW.HO
namespace Go.Proofs.Ytbaldkcnipmdjaa.P
open Go.RowKit Go.Proofs.YtbaldkcnipmdjaaW.PrintWords Go.Proofs.YtbaldkcnipmdjaaW.HO
set_option linter.unusedVariables false
end Go.Proofs.Ytbaldkcnipmdjaa.P
namespace Go.Proofs.YtbaldkcnipmdjaaW.HB
open Go.RowKit Go.Proofs.YtbaldkcnipmdjaaW.PrintWords Go.Proofs.YtbaldkcnipmdjaaW.PrintLast Go.Proofs.YtbaldkcnipmdjaaW.PrintMore
set_option linter.unusedVariables false
theorem R_empty {α : Type} (d : Kd α) (e : Nat) (w : World) (base : Nat) (ok : Nat → Prop) (hb : base ≤ w.heap.size) (hok : ok w.heap.size) : d.R e (w.alloc (.cells #[] e)) base ok (.slice (some ⟨w.heap.size, 0, none⟩) 0 0) [] := by
  refine ⟨fun k hk => ?_, [], ?_, Reps.none _ _⟩
  · simp [Value.ownBlock] at hk
    exact hk ▸ hok
  · have := World.ownsRow_lit (e := e) (base := base) (size := d.sz) w #[] 0 hb (by simp [maxLen]) (by simp)
    simpa using this
theorem R_one {α : Type} {d : Kd α} {e : Nat} {w : World} {base : Nat} {ok : Nat → Prop} {x : α} {cs : Array Value} (hM : d.M (w.alloc (.cells cs e)) base (fun k => ok k ∧ k ≠ w.heap.size) x cs.toList) (hb : base ≤ w.heap.size) (hok : ok w.heap.size) :
    d.R e (w.alloc (.cells cs e)) base ok (.slice (some ⟨w.heap.size, 0, none⟩) 1 1) [x] := by
  have hl : cs.toList.length = d.sz := d.K_len (d.K_of_M hM)
  refine ⟨fun k hk => ?_, cs.toList, ?_, ?_⟩
  · simp [Value.ownBlock] at hk
    exact hk ▸ hok
  · have := World.ownsRow_lit (e := e) (base := base) (size := d.sz) w cs 1 hb (by simp [maxLen]) (by simpa using hl)
    simpa using this
  · have := Reps.snoc (Reps.none (d.M (w.alloc (.cells cs e)) base (fun k => ok k ∧ some k ≠ (Value.slice (some ⟨w.heap.size, 0, none⟩) 1 1).ownBlock)) d.sz) (d.M_mono (fun k hk => ⟨hk.1, by simp [Value.ownBlock]; exact hk.2⟩) hM) hl
    simpa using this
theorem cell_fresh (w : World) (cs : Array Value) (t : TypeId) (o : Nat) (v : Value) (h : cs[o]? = some v) : (w.alloc (.cells cs t)).cell? ⟨w.heap.size, o, none⟩ = some v := by
  have : (w.alloc (.cells cs t)).heap[w.heap.size]? = some (.cells cs t) := by
    show (w.heap.push (.cells cs t))[w.heap.size]? = _
    simp
  unfold World.cell?
  rw [this]
  simpa using h
theorem Kd.int_openM {k : IntKind} {w : World} {base : Nat} {ok : Nat → Prop} {x : Int} {cs : List Value} (h : (Kd.int k).M w base ok x cs) : cs = [.int k x] := h
theorem Kd.int_mkM {k : IntKind} (w : World) (base : Nat) (ok : Nat → Prop) (x : Int) : (Kd.int k).M w base ok x [.int k x] := rfl
variable {P : Program}
end Go.Proofs.YtbaldkcnipmdjaaW.HB
namespace Go.Proofs.YtbaldkcnipmdjaaW.HB
open Go.RowKit Go.Proofs.YtbaldkcnipmdjaaW.PrintWords Go.Proofs.YtbaldkcnipmdjaaW.PrintLast Go.Proofs.YtbaldkcnipmdjaaW.PrintMore
set_option linter.unusedVariables false
theorem R_append_rows_in {F : Fence} {n : Nat} {P : Program} {ops : Array Oper} {rest : List Oper} {o : Oper} {a : Act} {Q : Exit → Act → World → Prop} {α : Type} (d : Kd α) {Rr : α → List Value → Prop} {w0 W : World} (base : Nat) (hgd : o.guard = none) (s x : Operand) (t e : TypeId) (z : Value) (bytes : Nat)
    (ho : o.op = .call { callee := .builtin .append, args := #[s, x], argTypes := #[t, t] })
    (ht : P.underlying t = some (.slice e)) (hinfo : (P.info? e).map (fun i => (i.zero, i.size, i.bytes)) = some (some z, d.sz, bytes)) (hz : z.cells.size = d.sz) (hs0 : 0 < d.sz) (hb0 : 0 < bytes)
    (v : Value) (xs ys : List α) (A : Option Addr) (m c : Nat) (ok okp : Nat → Prop) (hs : a.eval s = v) (hx : a.eval x = .slice A m c)
    (HO : d.R e W base ok v xs) (HR : ReadsRow Rr d.sz W A m ys) (hKM : ∀ x cs, Rr x cs → d.M W base okp x cs) (hokp : ∀ k, okp k → ok k ∧ some k ≠ v.ownBlock) (hfresh : ∀ k, W.heap.size ≤ k → ok k)
    (HB : Below base w0 W) (hbase : base ≤ W.heap.size) (hl : (xs.length + m) * bytes ≤ 140737488355328)
    (h : ∀ v1 w1, d.R e w1 base ok v1 (xs ++ ys) → Below base w0 w1 → W.grownBy w1 v.ownBlock → (v1.ownBlock = v.ownBlock ∨ ∃ b, v1.ownBlock = some b ∧ W.heap.size ≤ b) → wpListIn F n P ops Q rest (a.put o.dst v1) w1) :
    wpListIn F n P ops Q (o :: rest) a W := by
  have hwn : Region.wanted o (yielded ops a.tmps) = true := by simp [Region.wanted, hgd]
  refine wpListIn_plain hgd fun K hK' => ?_
  have hst := Kd.R_append_rows_step (ops := ops) (Kc := K) (Q := Q) d (w0 := w0) base hwn s x t e z bytes ho ht hinfo hz hs0 hb0 v xs ys A m c ok okp hs hx HO HR hKM hokp hfresh HB hbase hl (fun v1 w1 h1 h2 h3 h4 => hK' _ _ (h v1 w1 h1 h2 h3 h4))
  rw [if_pos hwn] at hst
  unfold Oper.wpIn
  refine ⟨?_, ?_⟩
  · simp [Oper.about, ho, resolve, Target.leads, Sem.run_pure]
  · rw [Oper.semAt_plain F _ _ (by rw [ho]; intro c hc'; cases hc')]
    unfold Oper.wp at hst
    simp [execOp, ho, resolve, invoke, builtin, hs, hx] at hst ⊢
    cases hr : (Builtin.append_ #[t, t] o.type #[v, .slice A m c]).run P W with
    | ok v1 w1 => rw [hr] at hst; exact hst
    | halt s w1 =>
      rw [hr] at hst
      cases s <;> first | exact hst | exact False.elim hst
end Go.Proofs.YtbaldkcnipmdjaaW.HB
namespace Go.Proofs.Ytbaldkcnipmdjaa.P
open Go.RowKit Go.Proofs.YtbaldkcnipmdjaaW.PrintWords Go.Proofs.YtbaldkcnipmdjaaW.PrintLast Go.Proofs.YtbaldkcnipmdjaaW.PrintMore Go.Proofs.YtbaldkcnipmdjaaW.HB
set_option linter.unusedVariables false
structure BelowOf (w : World) where
  v : World
  h : Below w.heap.size w v
instance belowOf_nonempty (w : World) : Nonempty (BelowOf w) := ⟨⟨w, Below.refl _ _⟩⟩
theorem BelowOf.cell {w : World} {a : Addr} {x : Value} (h : w.cell? a = some x) : ∀ n : BelowOf w, n.v.cell? a = some x := fun n => pw_cell_below n.h h
theorem BelowOf.C {α : Type} {d : Kd α} {w : World} {A : Option Addr} {n : Nat} {xs : List α} (h : Kd.C d w A n xs) : ∀ m : BelowOf w, Kd.C d m.v A n xs := fun m => Kd.C_below h m.h
theorem quietB {P : Program} {f : FuncId} {args : Array Value} {v : Value} {w : World} {n : BelowOf w} (h : Calls P f args n.v fun e w' => e = .returned v ∧ Below n.v.heap.size n.v w') : Calls P f args n.v fun e w' => e = .returned v ∧ ∃ m : BelowOf w, w' = m.v :=
  h.mono fun e w' ⟨h1, h2⟩ => ⟨h1, ⟨w', below_step n.h h2⟩, rfl⟩
theorem wp_region_below {P : Program} {id : Nat} {Q : Exit → Act → World → Prop} {a : Act} {w : World} {l : List Oper} (hm : P.follows .mixedOrders = true) (hB : Region.lexB .any l.toArray = true)
    (h : wpQuiet P l.toArray (fun w' => ∃ n : BelowOf w, w' = n.v) (fun a' => ∀ w', (∃ n : BelowOf w, w' = n.v) → Q .normal a' w') l a) : (Code.region id l.toArray true).wp P Q a w :=
  wp_region_quiet (C := fun w' => ∃ n : BelowOf w, w' = n.v) hm hB ⟨⟨w.drew, (Below.refl _ w).drew⟩, rfl⟩ (by simpa using h)
end Go.Proofs.Ytbaldkcnipmdjaa.P
namespace Go.Proofs.Ytbaldkcnipmdjaa.P
open Go.RowKit Go.Proofs.YtbaldkcnipmdjaaW.PrintWords Go.Proofs.YtbaldkcnipmdjaaW.PrintLast Go.Proofs.YtbaldkcnipmdjaaW.PrintMore Go.Proofs.YtbaldkcnipmdjaaW.HB
set_option linter.unusedVariables false
attribute [local go_sem] Oper.semAt_some
def KeepX (N0 : Nat) (X Ts : Nat → Prop) (W W' : World) : Prop :=
  W.heap.size ≤ W'.heap.size ∧ ∀ k cs T fr, W.heap[k]? = some (.cells cs T fr) → ((k < N0 ∧ ¬ X k) ∨ (N0 ≤ k ∧ Ts T)) → W'.heap[k]? = some (.cells cs T fr)
theorem KeepX.refl (N0 : Nat) (X Ts : Nat → Prop) (W : World) : KeepX N0 X Ts W W := ⟨Nat.le_refl _, fun _ _ _ _ h _ => h⟩
theorem KeepX.trans {N0 : Nat} {X Ts : Nat → Prop} {A B C : World} (h : KeepX N0 X Ts A B) (k : KeepX N0 X Ts B C) : KeepX N0 X Ts A C := ⟨Nat.le_trans h.1 k.1, fun i cs T fr hi hx => k.2 i cs T fr (h.2 i cs T fr hi hx) hx⟩
theorem KeepX.put {N0 : Nat} {X Ts : Nat → Prop} (W : World) (l : Nat) (o o' : Obj) (h : W.heap[l]? = some o) (hc : o.isCells = false) : KeepX N0 X Ts W (W.putObj l o') := by
  refine ⟨by simp, fun k cs T fr hk _ => ?_⟩
  have hne : k ≠ l := by
    rintro rfl
    rw [h] at hk
    cases hk
    simp [Obj.isCells] at hc
  exact (World.putObj_heap_other hne).trans hk
theorem KeepX.below {N0 : Nat} {X Ts : Nat → Prop} {W W' : World} (h : Below W.heap.size W W') : KeepX N0 X Ts W W' :=
  ⟨h.size, fun k cs T fr hk _ => (h.block k (Array.getElem?_eq_some_iff.1 hk).1).trans hk⟩
theorem KeepX.grown {N0 : Nat} {X Ts : Nat → Prop} {W W' : World} {row : Option Nat} (h : W.grownBy W' row) (hr : ∀ k cs T fr, row = some k → W.heap[k]? = some (.cells cs T fr) → (k < N0 → X k) ∧ (N0 ≤ k → ¬ Ts T)) : KeepX N0 X Ts W W' :=
  ⟨h.size, fun k cs T fr hk hx => (h.block k (Array.getElem?_eq_some_iff.1 hk).1 (fun e => by
    have := hr k cs T fr e.symm hk
    rcases hx with ⟨h1, h2⟩ | ⟨h1, h2⟩
    · exact h2 (this.1 h1)
    · exact this.2 h1 h2)).trans hk⟩
theorem KeepX.cell {N0 : Nat} {X Ts : Nat → Prop} {W W' : World} (h : KeepX N0 X Ts W W') {a : Addr} {v : Value} (hc : W.cell? a = some v) (hk : a.block < N0) (hX : ¬ X a.block) : W'.cell? a = some v := by
  unfold World.cell? at *
  cases hb : W.heap[a.block]? with
  | none => rw [hb] at hc; cases hc
  | some o =>
    rw [hb] at hc
    cases o with
    | cells cs T fr => rw [h.2 _ cs T fr hb (.inl ⟨hk, hX⟩)]; exact hc
    | _ => cases hc
theorem KeepX.new {N0 : Nat} {X Ts : Nat → Prop} {W W' : World} (h : KeepX N0 X Ts W W') {k : Nat} {cs : Array Value} {T : Nat} {fr : Nat × Nat} (hc : W.heap[k]? = some (.cells cs T fr)) (hk : N0 ≤ k) (hT : Ts T) : W'.heap[k]? = some (.cells cs T fr) := h.2 _ _ _ _ hc (.inr ⟨hk, hT⟩)
theorem rf_G {F : Fence} {n : Nat} {P : Program} {α : Type} {g : Operand} {ps : Array Tmp} {assign body : Code} {Q : Exit → Act → World → Prop} {a : Act} {w : World}
    (hro : F.round = none) (h1 : 1 ≤ n) {gf : Nat} {lb : Array Value} (hg : a.eval g = .func (.func gf) #[] lb) (hFg : F.fn gf) (eg : ∀ args w, (callFunc gf args).run P w = .ok (.enter gf args) w)
    {encs : α → Array Value} {N0 : Nat} {X Ts : Nat → Prop} {S Sp : List α → Prop} {N : Nat} {w0 : World} (hseq : SeqStopsK F (n - 1) P gf lb encs (KeepX N0 X Ts) S Sp N w0)
    (hb0 : Below w0.heap.size w0 w) (hps : ∀ x, (encs x).size = ps.size)
    (I : List α → World → Prop) (Ix : Code → List α → World → Prop) (hI : OwnFrom w.heap.size I) (hIx : ∀ c, OwnFrom w.heap.size (Ix c)) (h0 : I [] w)
    (h : ∃ a₁ : α → Act, (∀ (l : Nat) (x : α) (W : World) (K : Act → World → Prop), K (a₁ x) W →
      assign.wpIn (F.inRound l) (n - 1 - 1) P (Exit.then K (fun _ _ _ => False)) { tmps := (ps.zip (encs x)).foldl (fun t (p, v) => t.setIfInBounds p v) a.tmps, defers := [] } W) ∧
    (∀ (l : Nat) (pre : List α) (x : α) (W : World), I pre W → pre.length < N → body.wpIn (F.inRound l) (n - 1 - 1) P (ownPostG w.heap.size (KeepX N0 X Ts) I Ix (pre ++ [x]) W) (a₁ x) W) ∧
    (∀ (D : Nat) (xs : List α) (W : World), w.heap.size ≤ D → S xs → I xs W → W.heap[D]? = some (.deferred (some [])) → Q .normal { a with defers := { target := .collected D, args := #[] } :: a.defers } W) ∧
    (∀ (D : Nat) (c : Code) (pre : List α) (W : World), w.heap.size ≤ D → Sp pre → Ix c pre W → W.heap[D]? = some (.deferred (some [])) → c.wpIn F n P Q { a with defers := { target := .collected D, args := #[] } :: a.defers } W)) :
    (Code.rangeFunc g ps assign body).wpIn F n P Q a w := by
  obtain ⟨a₁, hassign, hbody, hdone, hstop⟩ := h
  exact wpIn_rangeFunc_ownG hro h1 hg hFg eg hseq KeepX.trans (fun W l o o' _ h hc _ => KeepX.put W l o o' h hc) hb0 hps I Ix hI hIx h0 a₁ hassign hbody hdone hstop
theorem meet {P : Program} {c : Code} {Q : Exit → Act → World → Prop} {a : Act} {w : World}
    (h : ∃ A W, c.wp P (fun e a' w' => e = .normal ∧ a' = A ∧ w' = W) a w ∧ Q .normal A W) : c.wp P Q a w := by
  obtain ⟨A, W, h1, h2⟩ := h
  refine Code.wp_mono ?_ h1
  rintro e a' w' ⟨rfl, rfl, rfl⟩
  exact h2
theorem C_keepX' {α : Type} {d : Kd α} {N0 : Nat} {X Ts : Nat → Prop} {W W' : World} {A : Option Addr} {n : Nat} {xs : List α} (hK : ∀ W W' x cs, d.K W x cs → d.K W' x cs) (h : Kd.C d W A n xs) (hk : KeepX N0 X Ts W W') (hA : ∀ ad, A = some ad → 0 < n → ad.block < N0 ∧ ¬ X ad.block) : Kd.C d W' A n xs := by
  refine ⟨h.1, h.2.1, fun hn => ?_⟩
  obtain ⟨ad, e, hc⟩ := h.2.2 hn
  refine ⟨ad, e, fun j p hj => ?_⟩
  obtain ⟨c, h1, h2, h3⟩ := hc j p hj
  refine ⟨c, h1, hK _ _ _ _ h2, fun i u hu => hk.cell (h3 i u hu) ?_ ?_⟩
  · have := (hA ad e hn).1; unfold Addr.add; split <;> exact this
  · have := (hA ad e hn).2; unfold Addr.add; split <;> exact this
theorem R_nc {α : Type} {d : Kd α} {e : Nat} {w w1 : World} {base : Nat} {ok : Nat → Prop} {v : Value} {xs : List α} (h : d.R e w base ok v xs) {row : Option Nat} (hg : w.grownBy w1 row) (hr : ∀ r, row = some r → ∃ o : Obj, w.heap[r]? = some o ∧ o.isCells = false) : d.R e w1 base ok v xs := by
  refine Kd.R_mono (Kd.R_step (Kd.R_bound h) (fun k hk hlt => hg.block k hlt (fun e' => ?_))) (fun k hk => hk.1)
  obtain ⟨_, _, _, q, _, cells, hc⟩ := hk
  obtain ⟨o, ho, hoc⟩ := hr k e'.symm
  rw [hc] at ho; cases ho; cases hoc
theorem boxed_nc {w w1 : World} {B t : Nat} {v : Value} (h : Boxed w B t v) {row : Option Nat} (hg : w.grownBy w1 row) (hr : ∀ r, row = some r → ∃ o : Obj, w.heap[r]? = some o ∧ o.isCells = false) : Boxed w1 B t v :=
  h.kept hg (fun e' => by
    obtain ⟨o, ho, hoc⟩ := hr B e'.symm
    rw [show w.heap[B]? = _ from h] at ho; cases ho; cases hoc)
theorem grownBy_setCellK (W : World) (b k : Nat) (v : Value) : W.grownBy (W.setCell ⟨b, k, none⟩ v) (some b) :=
  ⟨rfl, rfl, rfl, (KeepsWalks.setCell W _ v).size, fun j _ hj => Below.heap_setCell _ _ _ j (fun e => hj (by rw [e]))⟩
theorem boxed_step {W W' : World} {B : Nat} {t : TypeId} {v : Value} (h : Boxed W B t v) (hb : Below W.heap.size W W') : Boxed W' B t v := (hb.block B h.lt).trans h
structure BoxSt (w : World) (b1 t : Nat) (v : Value) (W : World) : Prop where
  x : Boxed W b1 t v
  below : Below w.heap.size w W
  ge : w.heap.size ≤ b1
theorem BoxSt.nc {w : World} {b1 t : Nat} {v : Value} {X Y : World} {row : Option Nat} (h : BoxSt w b1 t v X) (hg : X.grownBy Y row) (hr : ∀ r, row = some r → w.heap.size ≤ r ∧ ∃ o : Obj, X.heap[r]? = some o ∧ o.isCells = false) : BoxSt w b1 t v Y := by
  have hr' := fun r e => (hr r e).2
  exact ⟨boxed_nc h.x hg hr', pw_below_grown h.below row h.below.size hg (fun k e => (hr k e).1), h.ge⟩
theorem BoxSt.set {w : World} {b1 t : Nat} {v : Value} {X : World} (h : BoxSt w b1 t v X) (u : Value) : BoxSt w b1 t u (X.setCell ⟨b1, 0, none⟩ u) :=
  ⟨h.x.set _, h.below.setCell (by show w.heap.size ≤ b1; exact h.ge) _, h.ge⟩
end Go.Proofs.Ytbaldkcnipmdjaa.P
namespace Go.Proofs.Ytbaldkcnipmdjaa.P
open Go.RowKit Go.Proofs.YtbaldkcnipmdjaaW.PrintWords Go.Proofs.YtbaldkcnipmdjaaW.PrintLast Go.Proofs.YtbaldkcnipmdjaaW.PrintMore
attribute [local go_sem] max2_int min2_int max_two min_two max_three min_three max_four min_four
set_option linter.unusedVariables false
set_option linter.unusedSimpArgs false
def slices_Index_int_int.l0 : Nat → List Int → Int → Int → Int → Option (Int)
  | 0, _, _, _, _ => none
  | k + 1, x0, x1, x7, x8 => if x8 < x7 then (if 0 ≤ x8 then (if x8 < (x0.length : Int) then (if x1 = (rd x0 x8) then (some x8) else (slices_Index_int_int.l0 k x0 x1 x7 (wrap64 (x8 + 1)))) else (none)) else (none)) else (some (-1))
def slices_Index_int_int.f (k : Nat) (l0 : List Int) (a1 : Int) : Option (Int) := slices_Index_int_int.l0 k l0 a1 (l0.length : Int) 0
set_option maxHeartbeats 8000000 in
set_option maxRecDepth 100000 in
theorem slices_Index_int_int.calls (k : Nat) (A0 : Option Addr) (c0 : Nat) (l0 : List Int) (a1 : Int) (r : Int) (w : World) (hr0 : Kd.C (Kd.int .i64) w A0 l0.length l0) (hc0 : l0.length ≤ c0) (h : slices_Index_int_int.f k l0 a1 = some r) :
    Calls Try.prog 44 #[.slice A0 l0.length c0, .int .i64 a1] w fun e w' => e = .returned (.int .i64 r) ∧ Drawn0 w w' := by
  have HR0 := Aside0.mk hr0
  have HC0 := Aside0.mk hc0
  clear hr0 hc0
  have H : (slices_Index_int_int.l0 k l0 a1 (l0.length : Int) 0) = some r := h
  clear h
  have H' := Aside0.mk H
  clear H
  go_enter Try.func44, Try.ntmps44
  go_wp2
  go_loopg [8] k (fun kq v8 w' => ∃ (x8_1 : Int), v8 = .int .i64 x8_1 ∧ Aside0 (slices_Index_int_int.l0 kq l0 a1 (l0.length : Int) x8_1 = some r) ∧ Aside0 (kq ≤ k) ∧ Drawn0 w w')
  case atStart => exact ⟨(0), (by first | rfl | (simp; done) | (simp [*]; done)), H', ⟨Nat.le_refl _⟩, by repeat (first | exact Drawn0.refl _ | apply Drawn0.step)⟩
  case round =>
    clear H'
    try clear p2
    obtain ⟨x8_1, rfl, HA, HK1, ⟨m1, rfl⟩⟩ := hrel
    cases gk with
    | zero => exact absurd HA.out (by simp [slices_Index_int_int.l0])
    | succ k1 =>
      have H := HA.out
      clear HA
      simp only [slices_Index_int_int.l0] at H
      by_cases c3 : x8_1 < (l0.length : Int)
      · rw [if_pos c3] at H
        have c3b0 : decide (x8_1 < (l0.length : Int)) = true := decide_eq_true c3
        clear c3
        by_cases c4 : 0 ≤ x8_1
        · rw [if_pos c4] at H
          have c4b0 : decide (0 ≤ x8_1) = true := decide_eq_true c4
          clear c4
          by_cases c5 : x8_1 < (l0.length : Int)
          · rw [if_pos c5] at H
            have c5b0 : decide (x8_1 < (l0.length : Int)) = true := decide_eq_true c5
            clear c5
            by_cases c6 : a1 = (rd l0 x8_1)
            · rw [if_pos c6] at H
              have c6b0 : (a1 == (rd l0 x8_1)) = true := beq_iff_eq.mpr c6
              have c6b1 : (a1 != (rd l0 x8_1)) = false := bne_eq_false_iff_eq.mpr c6
              clear c6
              obtain rfl := Option.some.inj H
              have p148 : 0 ≤ (x8_1 : Int) := of_decide_eq_true (by first | (with_reducible assumption) | assumption)
              have q148 : x8_1 < (l0.length : Int) := of_decide_eq_true (by first | (with_reducible assumption) | assumption)
              obtain ⟨ad148, e148, hx148_0⟩ := Kd.at_int HR0.out x8_1 p148 q148
              cases e148
              replace p148 := eq_true p148
              replace q148 := eq_true q148
              go_wp2
              go_ret
              exact ⟨by first | rfl | (simp; done) | (simp [*]; done), by repeat (first | exact Drawn0.refl _ | apply Drawn0.step)⟩
            · rw [if_neg c6] at H
              have c6b0 : (a1 == (rd l0 x8_1)) = false := beq_eq_false_iff_ne.mpr c6
              have c6b1 : (a1 != (rd l0 x8_1)) = true := bne_iff_ne.mpr c6
              have H' := Aside0.mk H
              clear H
              have p148 : 0 ≤ (x8_1 : Int) := of_decide_eq_true (by first | (with_reducible assumption) | assumption)
              have q148 : x8_1 < (l0.length : Int) := of_decide_eq_true (by first | (with_reducible assumption) | assumption)
              obtain ⟨ad148, e148, hx148_0⟩ := Kd.at_int HR0.out x8_1 p148 q148
              cases e148
              replace p148 := eq_true p148
              replace q148 := eq_true q148
              go_wp2
              go_roundg k1
              case measure => have := HK1.out; omega
              case rel => exact ⟨(wrap64 (x8_1 + 1)), (by first | rfl | (simp; done) | (simp [*]; done)), H', ⟨by have := HK1.out; omega⟩, by repeat (first | exact Drawn0.refl _ | apply Drawn0.step)⟩
          · rw [if_neg c5] at H
            exact absurd H (by simp)
        · rw [if_neg c4] at H
          exact absurd H (by simp)
      · rw [if_neg c3] at H
        have c3b0 : decide (x8_1 < (l0.length : Int)) = false := decide_eq_false c3
        clear c3
        obtain rfl := Option.some.inj H
        go_wp2
        go_ret
        exact ⟨by first | rfl | (simp; done) | (simp [*]; done), by repeat (first | exact Drawn0.refl _ | apply Drawn0.step)⟩
end Go.Proofs.Ytbaldkcnipmdjaa.P
namespace Go.Proofs.Ytbaldkcnipmdjaa.P
open Go.RowKit Go.Proofs.YtbaldkcnipmdjaaW.PrintWords Go.Proofs.YtbaldkcnipmdjaaW.PrintLast Go.Proofs.YtbaldkcnipmdjaaW.PrintMore
attribute [local go_sem] max2_int min2_int max_two min_two max_three min_three max_four min_four
set_option linter.unusedVariables false
set_option linter.unusedSimpArgs false
def slices_Contains_int_int.f (k : Nat) (l0 : List Int) (a1 : Int) : Option (Bool) := (slices_Index_int_int.f k l0 a1).bind fun t149 => (some (decide (t149 ≥ 0)))
set_option maxHeartbeats 8000000 in
set_option maxRecDepth 100000 in
theorem slices_Contains_int_int.calls (k : Nat) (A0 : Option Addr) (c0 : Nat) (l0 : List Int) (a1 : Int) (r : Bool) (w : World) (hr0 : Kd.C (Kd.int .i64) w A0 l0.length l0) (hc0 : l0.length ≤ c0) (h : slices_Contains_int_int.f k l0 a1 = some r) :
    Calls Try.prog 37 #[.slice A0 l0.length c0, .int .i64 a1] w fun e w' => e = .returned (.bool r) ∧ Drawn0 w w' := by
  have HR0 := Aside0.mk hr0
  have HC0 := Aside0.mk hc0
  clear hr0 hc0
  have H : ((slices_Index_int_int.f k l0 a1).bind fun t149 => (some (decide (t149 ≥ 0)))) = some r := h
  clear h
  replace H := Option.bind_eq_some_iff.mp H
  obtain ⟨t149, A30, H⟩ := H
  replace H : (some (decide (t149 ≥ 0))) = some r := H
  have A3 := Aside0.mk A30
  clear A30
  obtain rfl := Option.some.inj H
  go_enter Try.func37, Try.ntmps37
  go_wp2_with (first | ((with_reducible refine gate_callee (f := 44) rfl ?_); refine goesL_ (some 7) rfl rfl Try.func44 (by kernel_rfl) rfl #[.slice A0 l0.length c0, .int .i64 a1] rfl (by (try simp only [List.map_toArray, List.map_cons, List.map_nil]); first | done | rfl | (simp only [List.length_drop, List.length_take]; rfl)) ?_; (with_reducible refine (slices_Index_int_int.calls k _ _ l0 a1 t149 _ ?side1 ?side2 A3.out).mono ?_); (case side1 => repeat (first | exact HR0.out | (with_reducible refine Kd.C_alloc ?_ _) | (with_reducible refine Kd.C_drewN ?_ _) | (with_reducible refine Kd.C_drew ?_))); (case side2 => exact HC0.out); rintro e w' ⟨rfl, ⟨nd, rfl⟩⟩; refine ⟨_, rfl, ?_⟩))
  go_ret
  exact ⟨by first | rfl | (simp; done) | (simp [*]; done), by repeat (first | exact Drawn0.refl _ | apply Drawn0.step)⟩
end Go.Proofs.Ytbaldkcnipmdjaa.P
namespace Go.Proofs.Ytbaldkcnipmdjaa.P
open Go.RowKit Go.Proofs.YtbaldkcnipmdjaaW.PrintWords Go.Proofs.YtbaldkcnipmdjaaW.PrintLast Go.Proofs.YtbaldkcnipmdjaaW.PrintMore Go.Proofs.YtbaldkcnipmdjaaW.HB
set_option linter.unusedVariables false
set_option linter.unusedSimpArgs false
def metL (ds : List Int) : List Value := ds.map (Value.int .i64) ++ List.replicate (64 - ds.length) (.int .i64 0) ++ [.int .i64 (ds.length : Int)]
def MB (W : World) (b : Nat) (ds : List Int) : Prop := W.heap[b]? = some (.cells (metL ds).toArray 47 (0, 0))
theorem metL_get (ds : List Int) (h : ds.length ≤ 64) (j : Nat) (hj : j < ds.length) : (metL ds)[j]? = some (.int .i64 ds[j]) := by
  unfold metL
  rw [List.append_assoc, List.getElem?_append_left (by simpa using hj), List.getElem?_map, List.getElem?_eq_getElem hj]
  rfl
theorem metL_n (ds : List Int) (h : ds.length ≤ 64) : (metL ds)[64]? = some (.int .i64 (ds.length : Int)) := by
  unfold metL
  rw [List.getElem?_append_right (by simp; omega)]
  simp
  rw [show 64 - (ds.length + (64 - ds.length)) = 0 from by omega]
  rfl
theorem MB.lt {W : World} {b : Nat} {ds : List Int} (h : MB W b ds) : b < W.heap.size := (Array.getElem?_eq_some_iff.1 h).1
theorem MB.below {W W' : World} {b B : Nat} {ds : List Int} (h : MB W b ds) (hb : Below B W W') (hB : b < B) : MB W' b ds := (hb.block b hB).trans h
theorem MB.n {W : World} {b : Nat} {ds : List Int} (h : MB W b ds) (hl : ds.length ≤ 64) : W.cell? ⟨b, 64, none⟩ = some (.int .i64 (ds.length : Int)) := by
  have := metL_n ds hl
  simp [World.cell?, show W.heap[b]? = _ from h, this]
theorem metL_len (ds : List Int) (h : ds.length ≤ 64) : (metL ds).length = 65 := by unfold metL; simp; omega
theorem MB.at {W : World} {b : Nat} {ds : List Int} (h : MB W b ds) (j : Nat) (hj : j < 64) : ∃ u, W.cell? ⟨b, j, none⟩ = some u := by
  have hlen : j < (metL ds).length := by unfold metL; simp; omega
  exact ⟨(metL ds)[j], by simp [World.cell?, show W.heap[b]? = _ from h, List.getElem?_eq_getElem hlen]⟩
theorem MB.frozen {W : World} {b : Nat} {ds : List Int} (h : MB W b ds) (k : Nat) : W.frozen? ⟨b, k, none⟩ = false := by
  simp [World.frozen?, show W.heap[b]? = _ from h]
theorem heap_set' {w : World} {b : Nat} {cs : Array Value} {t : TypeId} {fr : Nat × Nat} (h : w.heap[b]? = some (.cells cs t fr)) (k : Nat) (v : Value) : (w.setCell ⟨b, k, none⟩ v).heap[b]? = some (.cells (cs.setIfInBounds k v) t fr) := by
  show (w.heap.modify b _)[b]? = _
  rw [Array.getElem?_modify, if_pos rfl, h]
  rfl
theorem metL_put (ds : List Int) (d : Int) (h : ds.length < 64) : ((metL ds).set ds.length (.int .i64 d)).set 64 (.int .i64 ((ds.length : Int) + 1)) = metL (ds ++ [d]) := by
  apply List.ext_getElem?
  intro j
  have hl1 := metL_len ds (by omega)
  have hl2 := metL_len (ds ++ [d]) (by simp; omega)
  rcases Nat.lt_or_ge j 65 with hj | hj
  · by_cases h64 : j = 64
    · subst h64
      rw [List.getElem?_set_self (by rw [List.length_set, hl1]; omega), metL_n _ (by simp; omega)]
      simp
    · rw [List.getElem?_set_ne (by omega)]
      by_cases hjd : j = ds.length
      · subst hjd
        rw [List.getElem?_set_self (by rw [hl1]; omega), metL_get (ds ++ [d]) (by simp; omega) ds.length (by simp)]
        simp
      · rw [List.getElem?_set_ne (by omega)]
        rcases Nat.lt_or_ge j ds.length with hlt | hge
        · rw [metL_get ds (by omega) j hlt, metL_get (ds ++ [d]) (by simp; omega) j (by simp; omega), List.getElem_append_left hlt]
        · have z : ∀ (es : List Int), es.length ≤ j → j < 64 → (metL es)[j]? = some (.int .i64 0) := by
            intro es h1 h2
            unfold metL
            rw [List.getElem?_append_left (by simp; omega), List.getElem?_append_right (by simpa using h1)]
            rw [List.getElem?_replicate, if_pos (by simp; omega)]
          rw [z ds hge (by omega), z (ds ++ [d]) (by simp; omega) (by omega)]
  · rw [List.getElem?_eq_none (by rw [List.length_set, List.length_set, hl1]; exact hj), List.getElem?_eq_none (by rw [hl2]; exact hj)]
theorem MB.C {W : World} {b : Nat} {ds : List Int} (h : MB W b ds) (hl : ds.length ≤ 64) : Kd.C (Kd.int .i64) W (some ⟨b, 0, none⟩) ds.length ds := by
  refine ⟨rfl, by omega, fun hn => ⟨_, rfl, fun j q hj => ?_⟩⟩
  obtain ⟨hlt, rfl⟩ := List.getElem?_eq_some_iff.1 hj
  refine ⟨[.int .i64 ds[j]], rfl, rfl, fun i u hu => ?_⟩
  cases i with
  | zero =>
    obtain rfl : Value.int .i64 ds[j] = u := by simpa using hu
    have := metL_get ds hl j hlt
    rw [show (({ block := b, off := 0 } : Addr).add (j * (Kd.int .i64).sz + 0)) = ⟨b, j, none⟩ from by show Addr.add _ (j * 1 + 0) = _; rw [show j * 1 + 0 = j from by omega]; unfold Addr.add; split <;> simp_all]
    simp [World.cell?, show W.heap[b]? = _ from h, this]
  | succ i => simp at hu
theorem index_l0 (ds : List Int) (d : Int) (hl : ds.length ≤ 1099511627776) : ∀ (m k i : Nat), ds.length = i + m → m < k → (∀ j, (h : j < ds.length) → j < i → ds[j] ≠ d) → ∃ v, slices_Index_int_int.l0 k ds d ds.length i = some v ∧ decide (v ≥ 0) = decide (d ∈ ds) := by
  intro m
  induction m with
  | zero =>
    intro k i hi hk hno
    obtain ⟨k, rfl⟩ : ∃ k', k = k' + 1 := ⟨k - 1, by omega⟩
    simp only [slices_Index_int_int.l0]
    rw [if_neg (by omega)]
    refine ⟨_, rfl, ?_⟩
    rw [decide_eq_decide]
    constructor
    · intro h; omega
    · intro h
      obtain ⟨j, hj, e⟩ := List.getElem_of_mem h
      exact absurd e (hno j hj (by omega))
  | succ m ih =>
    intro k i hi hk hno
    obtain ⟨k, rfl⟩ : ∃ k', k = k' + 1 := ⟨k - 1, by omega⟩
    have hlt : i < ds.length := by omega
    have hrd : rd ds (i : Int) = ds[i] := by simp [rd, List.getD_eq_getElem?_getD, List.getElem?_eq_getElem hlt]
    simp only [slices_Index_int_int.l0]
    rw [if_pos (by omega), if_pos (by omega), if_pos (by omega), hrd]
    by_cases he : d = ds[i]
    · first | rw [if_pos he] | rw [if_pos he.symm]
      refine ⟨_, rfl, ?_⟩
      rw [decide_eq_decide]
      exact ⟨fun _ => by rw [he]; exact List.getElem_mem _, fun _ => by omega⟩
    · first | rw [if_neg he] | rw [if_neg (fun h => he h.symm)]
      have hw : wrap64 ((i : Int) + 1) = ((i + 1 : Nat) : Int) := by unfold wrap64; omega
      rw [hw]
      refine ih k (i + 1) (by omega) (by omega) (fun j hj hji => ?_)
      rcases Nat.lt_succ_iff_lt_or_eq.1 hji with h | rfl
      · exact hno j hj h
      · exact fun h => he h.symm
theorem contains_eq (ds : List Int) (d : Int) (hl : ds.length ≤ 1099511627776) (k : Nat) (hk : ds.length < k) : slices_Contains_int_int.f k ds d = some (decide (d ∈ ds)) := by
  obtain ⟨v, h1, h2⟩ := index_l0 ds d hl ds.length k 0 (by omega) hk (fun j hj h => absurd h (by omega))
  unfold slices_Contains_int_int.f slices_Index_int_int.f
  rw [show slices_Index_int_int.l0 k ds d (ds.length : Int) 0 = some v from h1, Option.bind_some, h2]
set_option maxRecDepth 100000 in
set_option maxHeartbeats 4000000 in
theorem met_new_old (b : Nat) (ds : List Int) (d : Int) (w : World) (hm : MB w b ds) (hl : ds.length ≤ 64) (hc : d ∈ ds) :
    Calls Try.prog 32 #[.pointer (some ⟨b, 0, none⟩), .int .i64 d] w fun e w' => e = .returned (.bool false) ∧ Below w.heap.size w w' := by
  have hn := hm.n hl
  have HM := Aside0.mk hm
  have hu := Try.underlying47
  have hu2 := Try.underlying45
  have hi0 : (0 : Int) ≤ (ds.length : Int) := by omega
  have hi64 : (ds.length : Int) ≤ 64 := by omega
  have HK := Aside0.mk (contains_eq ds d (by omega) (ds.length + 1) (by omega))
  rw [show decide (d ∈ ds) = true from decide_eq_true hc] at HK
  have HL := Aside0.mk hl
  clear hc
  replace hn := BelowOf.cell hn
  go_enter Try.func32, Try.ntmps32
  go_wp2
  refine wp_region_below (by kernel_rfl) (by kernel_rfl) ?_
  repeat (go_big_quiet_step ((go_at_call 37; exact quietB ((slices_Contains_int_int.calls (ds.length + 1) (some ⟨b, 0, none⟩) 64 ds d true _ (Kd.C_below (HM.out.C HL.out) (BelowOf.h _)) HL.out HK.out).mono fun _ _ h => ⟨h.1, h.2.below⟩))))
  refine wpQuiet_nil ?_
  rintro _ ⟨nq, rfl⟩
  have HB := Aside0.mk nq.h
  clear hn hm
  go_wp2
  go_ret
  exact ⟨rfl, HB.out⟩
def metW (W : World) (b : Nat) (ds : List Int) (d : Int) : World := (W.setCell ⟨b, ds.length, none⟩ (.int .i64 d)).setCell ⟨b, 64, none⟩ (.int .i64 ((ds.length : Int) + 1))
set_option maxRecDepth 100000 in
set_option maxHeartbeats 4000000 in
theorem met_new_new (b : Nat) (ds : List Int) (d : Int) (w : World) (hm : MB w b ds) (hl : ds.length ≤ 64) (h63 : ds.length < 64) (hc : d ∉ ds) :
    Calls Try.prog 32 #[.pointer (some ⟨b, 0, none⟩), .int .i64 d] w fun e w' => e = .returned (.bool true) ∧ ∃ w1, Below w.heap.size w w1 ∧ w' = metW w1 b ds d := by
  have hn := hm.n hl
  have HM := Aside0.mk hm
  have hu := Try.underlying47
  have hu2 := Try.underlying45
  have hi0 : (0 : Int) ≤ (ds.length : Int) := by omega
  have hi64 : (ds.length : Int) ≤ 64 := by omega
  have HK := Aside0.mk (contains_eq ds d (by omega) (ds.length + 1) (by omega))
  rw [show decide (d ∈ ds) = false from decide_eq_false hc] at HK
  have HL := Aside0.mk hl
  clear hc
  replace hn := BelowOf.cell hn
  go_enter Try.func32, Try.ntmps32
  go_wp2
  refine wp_region_below (by kernel_rfl) (by kernel_rfl) ?_
  repeat (go_big_quiet_step ((go_at_call 37; exact quietB ((slices_Contains_int_int.calls (ds.length + 1) (some ⟨b, 0, none⟩) 64 ds d false _ (Kd.C_below (HM.out.C HL.out) (BelowOf.h _)) HL.out HK.out).mono fun _ _ h => ⟨h.1, h.2.below⟩))))
  refine wpQuiet_nil ?_
  rintro _ ⟨nq, rfl⟩
  have HB := Aside0.mk nq.h
  clear hn
  have hmq := hm.below nq.h hm.lt
  have hn2 := hmq.n hl
  clear hm
  obtain ⟨u, hj⟩ := hmq.at ds.length (by omega)
  have hf1 := hmq.frozen ds.length
  have hf2 := hmq.frozen 64
  have h63i : (ds.length : Int) < 64 := by omega
  have hwi : IntKind.i64.wrap ((ds.length : Int) + 1) = (ds.length : Int) + 1 := by simp [IntKind.wrap, IntKind.signed, IntKind.bits]; omega
  have hne : ds.length ≠ 64 := by omega
  clear hl h63 hmq
  go_wp2
  refine meet ?_
  apply Exists.intro
  apply Exists.intro
  refine ⟨?_, ?_⟩
  · go_region
    all_goals exact ⟨rfl, rfl, rfl⟩
  go_wp2
  go_ret
  exact ⟨rfl, _, HB.out.drew, rfl⟩
theorem MB.put {W : World} {b : Nat} {ds : List Int} (h : MB W b ds) (d : Int) (hl : ds.length < 64) : MB (metW W b ds d) b (ds ++ [d]) := by
  have := heap_set' (heap_set' h ds.length (.int .i64 d)) 64 (.int .i64 ((ds.length : Int) + 1))
  refine this.trans ?_
  rw [← metL_put ds d hl]
  simp
theorem grown_metW (W : World) (b : Nat) (ds : List Int) (d : Int) : W.grownBy (metW W b ds d) (some b) := (grownBy_setCellK W b ds.length _).trans (grownBy_setCellK _ b 64 _)
end Go.Proofs.Ytbaldkcnipmdjaa.P
namespace Go.Proofs.Ytbaldkcnipmdjaa.P
open Go.RowKit Go.Proofs.YtbaldkcnipmdjaaW.HB
set_option linter.unusedVariables false
def Abides2 {β : Type} (B : Nat) (J : β → World → Prop) : Prop := ∀ s X Y, J s X → Below B X Y → J s Y
def SeqC {α : Type} (F : Fence) (n : Nat) (P : Program) (g : Nat) (lb : Array Value) (encs : α → Array Value) (Kp : World → World → Prop) (S : List α → Prop) (N : Nat) (w : World) : Prop :=
  ∀ (l : Nat) (J : List α → World → Prop) (W : World), Below w.heap.size w W → Abides2 W.heap.size J →
    (∀ pre x W1, J pre W1 → pre.length < N → YieldAt F (n - 1) P l (encs x) W1 fun e W' => e = .returned (.bool true) ∧ J (pre ++ [x]) W' ∧ Kp W1 W') →
    J [] W → CallsIn F n P g (#[.func (.yield l) #[] #[]] ++ lb) W fun e W' => (∃ v, e = .returned v) ∧ ∃ xs, S xs ∧ J xs W'
def postA {α : Type} (B : Nat) (Kp : World → World → Prop) (I : List α → World → Prop) (xs : List α) (W : World) : Exit → Act → World → Prop
  | .normal, _, W' => KeepsFrom B W W' ∧ Kp W W' ∧ I xs W'
  | _, _, _ => False
theorem rf_A {F : Fence} {n : Nat} {P : Program} {α : Type} {g : Operand} {ps : Array Tmp} {assign body : Code} {Q : Exit → Act → World → Prop} {a : Act} {w : World}
    (hro : F.round = none) (h1 : 1 ≤ n) {gf : Nat} {lb : Array Value} (hg : a.eval g = .func (.func gf) #[] lb) (hFg : F.fn gf) (eg : ∀ args w, (callFunc gf args).run P w = .ok (.enter gf args) w)
    {encs : α → Array Value} {N0 : Nat} {X Ts : Nat → Prop} {S : List α → Prop} {N : Nat} {w0 : World} (hseq : SeqC F (n - 1) P gf lb encs (KeepX N0 X Ts) S N w0)
    (hb0 : Below w0.heap.size w0 w) (hps : ∀ x, (encs x).size = ps.size)
    (I : List α → World → Prop) (hI : Abides2 w.heap.size I) (h0 : I [] w)
    (hround : ∀ (l : Nat) (pre : List α) (x : α) (W : World), w.heap.size ≤ l → (∃ r, W.heap[l]? = some (.loop r)) → I pre W → pre.length < N →
      assign.wpIn (F.inRound l) (n - 1 - 1) P (Exit.then (fun a1 W1 => KeepsFrom w.heap.size W W1 ∧ KeepX N0 X Ts W W1 ∧
        ∀ o' : Obj, body.wpIn (F.inRound l) (n - 1 - 1) P (postA w.heap.size (KeepX N0 X Ts) I (pre ++ [x]) (W1.putObj l o')) a1 (W1.putObj l o')) (fun _ _ _ => False))
        { tmps := (ps.zip (encs x)).foldl (fun t (p, v) => t.setIfInBounds p v) a.tmps, defers := [] } W)
    (hdone : ∀ (D : Nat) (xs : List α) (W : World), w.heap.size ≤ D → S xs → I xs W → W.heap[D]? = some (.deferred (some [])) → Q .normal { a with defers := { target := .collected D, args := #[] } :: a.defers } W) :
    (Code.rangeFunc g ps assign body).wpIn F n P Q a w := by
  refine wpIn_rangeFunc (fun fn hfn => ?_)
  rw [hro]
  have hrun := run_enterLoop_outer (P := P) (w := w) fn a.tmps ps assign body
  obtain ⟨rc, hrc⟩ : ∃ rc : LoopState → Loop, rc = fun st => { state := st, pending := none, fn, tmps := a.tmps, params := ps, assign, body, defers := w.heap.size } := ⟨_, rfl⟩
  have hrc0 : ({ state := .ready, pending := none, fn, tmps := a.tmps, params := ps, assign, body, defers := w.heap.size } : Loop) = rc .ready := by rw [hrc]
  rw [hrc0] at hrun
  have hsz : ((w.alloc (.deferred (some []))).alloc (.loop (rc .ready))).heap.size = w.heap.size + 2 := by simp
  have hL : ((w.alloc (.deferred (some []))).alloc (.loop (rc .ready))).heap[w.heap.size + 1]? = some (.loop (rc .ready)) := by
    have := World.alloc_heap_new (w.alloc (.deferred (some []))) (.loop (rc .ready)); rwa [World.size_alloc] at this
  have hD : ((w.alloc (.deferred (some []))).alloc (.loop (rc .ready))).heap[w.heap.size]? = some (.deferred (some [])) := (Below.heap_alloc _ _ _ (by simp)).trans (World.alloc_heap_new w _)
  have hIW : I [] ((w.alloc (.deferred (some []))).alloc (.loop (rc .ready))) := hI _ _ _ h0 (((Below.refl _ w).alloc (Nat.le_refl _) _).alloc (by simp) _)
  have hBW : Below w0.heap.size w0 ((w.alloc (.deferred (some []))).alloc (.loop (rc .ready))) := hb0.trans ((((Below.refl _ w).alloc (Nat.le_refl _) _).alloc (by simp) _).mono hb0.size)
  generalize (w.alloc (.deferred (some []))).alloc (.loop (rc .ready)) = W1 at hrun hsz hL hD hIW hBW
  refine ⟨_, _, W1, { target := .fn (.func gf) lb, args := #[.func (.yield (w.heap.size + 1)) #[] #[]] }, W1, gf, #[.func (.yield (w.heap.size + 1)) #[] #[]] ++ lb, W1, hrun, ?_, ?_, ?_, fun _ => h1, ?_⟩
  · simp only [resolve, hg]
    simp [go_sem]
  · intro f' hf'; simp [Target.leads] at hf'; subst hf'; exact hFg
  · simp [invoke, go_sem, eg]
  have other : ∀ {A B : World} {k : Nat} {o : Obj}, k < w.heap.size + 2 → Below W1.heap.size A B → A.heap[k]? = some o → B.heap[k]? = some o := fun {A B k o} hk hb hA => (hb.block k (by omega)).trans hA
  have put : ∀ {s : List α} {A : World} (o : Obj), w.heap.size ≤ A.heap.size → I s A → I s (A.putObj (w.heap.size + 1) o) := fun {s A} o hA h => hI _ _ _ h ((Below.refl _ A).grown (grownBy_putObj' A _ o) hA (fun r e => by cases e; omega))
  refine (hseq (w.heap.size + 1) (fun pre W => I pre W ∧ W.heap[w.heap.size + 1]? = some (.loop (rc .ready)) ∧ W.heap[w.heap.size]? = some (.deferred (some []))) W1 hBW
    (fun s A B hs hb => ⟨hI s A B hs.1 (hb.mono (by omega)), other (by omega) hb hs.2.1, other (by omega) hb hs.2.2⟩) ?_ ⟨hIW, hL, hD⟩).mono ?_
  · rintro pre x W ⟨hi, hl, hd⟩ hlen
    have hy := run_yield (P := P) (args := encs x) hl (by rw [hrc]; exact hps x)
    rw [hrc] at hy
    refine ⟨fn, _, assign, body, hy, roundIn_of_wpIn hfn (wpIn_mono (hround _ pre x W (by omega) ⟨_, hl⟩ hi hlen) ?_)⟩
    rintro e a1 W2 h2
    cases e with
    | normal =>
      obtain ⟨k2, x2, hb⟩ := h2
      have hl2 := k2.same _ _ (by omega) hl rfl
      have hd2 := k2.same _ _ (Nat.le_refl _) hd rfl
      refine ⟨_, run_beginRound hl2 (by rw [hrc]), ?_⟩
      have hlt2 : w.heap.size + 1 < W2.heap.size := (Array.getElem?_eq_some_iff.1 hl2).1
      have hl3 : (W2.putObj (w.heap.size + 1) (.loop { rc .ready with state := .busy })).heap[w.heap.size + 1]? = some (.loop { rc .ready with state := .busy }) := World.putObj_heap_same hlt2
      have hd3 : (W2.putObj (w.heap.size + 1) (.loop { rc .ready with state := .busy })).heap[w.heap.size]? = some (.deferred (some [])) := (World.putObj_heap_other (by omega)).trans hd2
      refine wpIn_mono (hb _) ?_
      rintro e a3 W4 h4
      cases e with
      | normal =>
        obtain ⟨k4, x4, hi4⟩ := h4
        have hl4 := k4.same _ _ (by omega) hl3 rfl
        have hd4 := k4.same _ _ (Nat.le_refl _) hd3 rfl
        have hr := run_endRound (P := P) none hl4
        have er : ({ { rc .ready with state := .busy } with state := if (none : Option Code).isNone then .ready else .done, pending := none } : Loop) = rc .ready := by rw [hrc]; rfl
        rw [er] at hr
        refine ⟨_, _, hr, rfl, ⟨put _ (by have := (Array.getElem?_eq_some_iff.1 hl4).1; omega) hi4, World.putObj_heap_same (Array.getElem?_eq_some_iff.1 hl4).1, (World.putObj_heap_other (by omega)).trans hd4⟩, ?_⟩
        exact ((x2.trans (KeepX.put _ _ _ _ hl2 rfl)).trans x4).trans (KeepX.put _ _ _ _ hl4 rfl)
      | _ => exact h4.elim
    | _ => exact h2.elim
  · rintro e W2 ⟨⟨v, rfl⟩, xs, hS, hi, hl, hd⟩
    refine ⟨none, _, by have := run_endLoop (P := P) hl (by rw [hrc]; simp); rw [hrc] at this; exact this, ?_⟩
    exact hdone _ xs _ (Nat.le_refl _) hS (put _ (by have := (Array.getElem?_eq_some_iff.1 hl).1; omega) hi) ((World.putObj_heap_other (by omega)).trans hd)
end Go.Proofs.Ytbaldkcnipmdjaa.P
namespace Go.Proofs.Ytbaldkcnipmdjaa.P
open Go.RowKit Go.Proofs.YtbaldkcnipmdjaaW.PrintWords Go.Proofs.YtbaldkcnipmdjaaW.PrintLast Go.Proofs.YtbaldkcnipmdjaaW.PrintMore
attribute [local go_sem] max2_int min2_int max_two min_two max_three min_three max_four min_four
set_option linter.unusedVariables false
set_option linter.unusedSimpArgs false
def hash_last32.f (a0 : Int) : Option (Int) := some (Go.bits .xor .u32 (((Go.bits .xor .u32 (((Go.bits .xor .u32 a0 (a0 / 65536)) * 2246822507) % 4294967296) ((((Go.bits .xor .u32 a0 (a0 / 65536)) * 2246822507) % 4294967296) / 8192)) * 3266489909) % 4294967296) ((((Go.bits .xor .u32 (((Go.bits .xor .u32 a0 (a0 / 65536)) * 2246822507) % 4294967296) ((((Go.bits .xor .u32 a0 (a0 / 65536)) * 2246822507) % 4294967296) / 8192)) * 3266489909) % 4294967296) / 65536))
set_option maxHeartbeats 8000000 in
set_option maxRecDepth 100000 in
theorem hash_last32.calls (a0 : Int) (r : Int) (w : World) (h : hash_last32.f a0 = some r) :
    Calls Try.prog 78 #[.int .u32 a0] w fun e w' => e = .returned (.int .u32 r) ∧ Drawn0 w w' := by
  have H : (some (Go.bits .xor .u32 (((Go.bits .xor .u32 (((Go.bits .xor .u32 a0 (a0 / 65536)) * 2246822507) % 4294967296) ((((Go.bits .xor .u32 a0 (a0 / 65536)) * 2246822507) % 4294967296) / 8192)) * 3266489909) % 4294967296) ((((Go.bits .xor .u32 (((Go.bits .xor .u32 a0 (a0 / 65536)) * 2246822507) % 4294967296) ((((Go.bits .xor .u32 a0 (a0 / 65536)) * 2246822507) % 4294967296) / 8192)) * 3266489909) % 4294967296) / 65536))) = some r := h
  clear h
  obtain rfl := Option.some.inj H
  go_enter Try.func78, Try.ntmps78
  go_wp2
  go_ret
  exact ⟨by first | rfl | (simp; done) | (simp [*]; done), by repeat (first | exact Drawn0.refl _ | apply Drawn0.step)⟩
end Go.Proofs.Ytbaldkcnipmdjaa.P
namespace Go.Proofs.Ytbaldkcnipmdjaa.P
open Go.RowKit Go.Proofs.YtbaldkcnipmdjaaW.PrintWords Go.Proofs.YtbaldkcnipmdjaaW.PrintLast Go.Proofs.YtbaldkcnipmdjaaW.PrintMore Go.Proofs.YtbaldkcnipmdjaaW.HB
set_option linter.unusedVariables false
set_option linter.unusedSimpArgs false
attribute [local go_sem] Oper.semAt_some
def byW (x : Int) (k : Nat) : Int := (x / 2 ^ (8 * k)) % 256
def bytesW (x : Int) : List Int := (List.range 4).map (byW x)
def mixW (h b : Int) : Int := ((Go.bits .xor .u32 h (b % 4294967296)) * 16777619) % 4294967296
def lastW (a : Int) : Int := (hash_last32.f a).getD 0
def roundW (h x : Int) : Int := (bytesW x).foldl mixW h
def wordsW (l : List Int) : Int := lastW (l.foldl roundW 2166136261)
theorem bytesW_len (x : Int) : (bytesW x).length = 4 := by simp [bytesW]
theorem bytesW_get (x : Int) (k : Nat) (h : k < (bytesW x).length) : (bytesW x)[k] = byW x k := by simp [bytesW]
set_option maxRecDepth 100000 in
set_option maxHeartbeats 2000000 in
theorem low_1_in (F : Fence) (n : Nat) (hF : F.fn 79) (hro : F.round = none) (hn : 1 ≤ n) (l : Nat) (bs bx N0 : Nat) (X Ts : Nat → Prop) (x : Int) (hbs : bs < N0) (hbx : bx < N0) (hXs : ¬ X bs) (hXx : ¬ X bx)
    (J Jx : List Int → World → Prop) (W : World) (hN : N0 ≤ W.heap.size)
    (hY : ∀ pre v W, J pre W → pre.length < 4 → YieldAt F (n - 1) Try.prog l #[.int .u8 v] W fun e W' =>
      (e = .returned (.bool true) ∧ J (pre ++ [v]) W' ∧ KeepX N0 X Ts W W') ∨ (e = .returned (.bool false) ∧ Jx (pre ++ [v]) W'))
    (hB0 : W.cell? ⟨bs, 0, none⟩ = some (.int .i64 4)) (hB1 : W.cell? ⟨bx, 0, none⟩ = some (.int .u32 x)) (h0 : J [] W) :
    CallsIn F n Try.prog 79 #[.func (.yield l) #[] #[], .pointer (some ⟨bs, 0, none⟩), .pointer (some ⟨bx, 0, none⟩)] W fun e W' => (∃ v, e = .returned v) ∧
      ((∃ ys, ys = bytesW x ∧ J ys W') ∨ (∃ pre, True ∧ Jx pre W')) := by
  refine callsIn_of_wp Try.func79 rfl hF ?_ hro
  simp only [Try.ntmps79, List.size_toArray, List.length_cons, List.length_nil, Nat.reduceAdd, Nat.reduceSub, Array.replicate_succ, Array.replicate_zero, List.push_toArray, List.append_toArray, List.nil_append, List.cons_append]
  gi_wp2
  gi_loopw [6] (fun i wr => ∃ k : Nat, k ≤ 4 ∧ i = .int .i64 k ∧ Aside0 (J ((bytesW x).take k) wr) ∧ Aside0 (KeepX N0 X Ts W wr)) (fun i _ => 4 - (intOf i).toNat)
  case atStart => exact ⟨0, Nat.zero_le _, rfl, ⟨by simpa using h0⟩, ⟨KeepX.refl _ _ _ _⟩⟩
  case round =>
    obtain ⟨i, hi, rfl, HJ, HK⟩ := hrel
    by_cases hlt : i < 4
    · have hB0r := HK.out.cell hB0 hbs hXs
      have hB1r := HK.out.cell hB1 hbx hXx
      have hq0 : (i : Int) < 4 := by omega
      have hw8 : IntKind.i64.wrap (8 * (i : Int)) = 8 * (i : Int) := by simp [IntKind.wrap, IntKind.signed, IntKind.bits]; omega
      have hp8 : (0 ≤ 8 * (i : Int)) = True := eq_true (by omega)
      have hsl : i < (bytesW x).length := by rw [bytesW_len]; exact hlt
      obtain ⟨fn, tmps, assign, body, hy, hR⟩ := hY _ (bytesW x)[i] wr HJ.out (by rw [List.length_take]; omega)
      have hval : (bytesW x)[i] = (x / 2 ^ (8 * i)) % 256 := bytesW_get x i hsl
      rw [hval] at hy
      have HS := Aside0.mk (show (bytesW x).take i ++ [(bytesW x)[i]] = (bytesW x).take (i + 1) from (List.take_succ_eq_append_getElem hsl).symm)
      rw [HS.out] at hR
      clear hval
      gi_wp2
      refine hR.mono ?_
      rintro e W3 (⟨rfl, hJ3, hk3⟩ | ⟨rfl, hJx3⟩)
      · have HJ3 := Aside0.mk hJ3
        have HK3 := Aside0.mk (HK.out.trans hk3)
        clear hJ3 hk3 hR hy HS hsl hB0r hB1r
        gi_wp2
        go_roundw
        case rel => exact ⟨i + 1, by omega, by go_num, HJ3, HK3⟩
        case measure => simp [intOf]; omega
      · have HJ3 := Aside0.mk hJx3
        clear hJx3 hR hy HS hsl hB0r hB1r
        gi_wp2
        refine bodyPost_ret (results_none rfl _ _ _) rfl ?_
        exact ⟨⟨_, rfl⟩, .inr ⟨_, trivial, HJ3.out⟩⟩
    · have HE := Aside0.mk (show i = 4 from by omega)
      gi_wp2
      go_end0
      have h1 := HJ.out
      rw [HE.out, List.take_of_length_le (by rw [bytesW_len]; exact Nat.le_refl _)] at h1
      exact ⟨⟨_, rfl⟩, .inl ⟨_, rfl, h1⟩⟩
theorem low_stops (F : Fence) (n : Nat) (hF : F.fn 79) (hro : F.round = none) (hn : 1 ≤ n) (bs bx : Nat) (X Ts : Nat → Prop) (x : Int) (w : World) (hbs : bs < w.heap.size) (hbx : bx < w.heap.size) (hXs : ¬ X bs) (hXx : ¬ X bx)
    (hB0 : w.cell? ⟨bs, 0, none⟩ = some (.int .i64 4)) (hB1 : w.cell? ⟨bx, 0, none⟩ = some (.int .u32 x)) :
    SeqStopsK F n Try.prog 79 #[.pointer (some ⟨bs, 0, none⟩), .pointer (some ⟨bx, 0, none⟩)] (fun v : Int => #[Value.int .u8 v]) (KeepX w.heap.size X Ts) (fun ys => ys = bytesW x) (fun _ => True) 4 w := fun l J Jx W hW hJ hJx hY h0 =>
  low_1_in F n hF hro hn l bs bx w.heap.size X Ts x hbs hbx hXs hXx J Jx W hW.size hY ((hW.cell hbs).trans hB0) ((hW.cell hbx).trans hB1) h0
theorem low.calls (x : Int) (w : World) :
    Calls Try.prog 77 #[.int .u32 x, .int .i64 4] w fun e w' => e = .returned (.func (.func 79) #[] #[.pointer (some ⟨w.heap.size + 1, 0, none⟩), .pointer (some ⟨w.heap.size, 0, none⟩)]) ∧ w' = (w.alloc (.cells #[.int .u32 x] 24)).alloc (.cells #[.int .i64 4] 3) := by
  go_enter Try.func77, Try.ntmps77
  go_wp2
  go_ret
  exact ⟨by simp, rfl⟩
set_option maxRecDepth 100000 in
set_option maxHeartbeats 4000000 in
theorem mix_in (h f x : Int) (hf : f = 16777619) (bs bx : Nat) (w : World) (hbs : bs < w.heap.size) (hbx : bx < w.heap.size) (hB0 : w.cell? ⟨bs, 0, none⟩ = some (.int .i64 4)) (hB1 : w.cell? ⟨bx, 0, none⟩ = some (.int .u32 x)) :
    CallsIn Fence.wide 9 Try.prog 76 #[.int .u32 h, .int .u32 f, .func (.func 79) #[] #[.pointer (some ⟨bs, 0, none⟩), .pointer (some ⟨bx, 0, none⟩)]] w (fun e w' => e = .returned (.int .u32 (roundW h x)) ∧ Below w.heap.size w w') := by
  subst hf
  refine callsIn_of_wp_marks Try.func76 rfl trivial ?_ rfl
  simp only [Try.ntmps76, List.size_toArray, List.length_cons, List.length_nil, Nat.reduceAdd, Nat.reduceSub, Array.replicate_succ, Array.replicate_zero, List.push_toArray, List.append_toArray, List.nil_append, List.cons_append]
  gi_wp2
  have hbf : Boxed ((w.alloc (.cells #[.int .u32 h] 24)).alloc (.cells #[.int .u32 16777619] 24)) (w.heap.size + 1) 24 (.int .u32 16777619) := by
    have := Boxed.new (w.alloc (.cells #[.int .u32 h] 24)) 24 (.int .u32 16777619)
    rw [World.size_alloc] at this; exact this
  have A0 : BoxSt w w.heap.size 24 (.int .u32 (([] : List Int).foldl mixW h)) ((w.alloc (.cells #[.int .u32 h] 24)).alloc (.cells #[.int .u32 16777619] 24)) := ⟨(Boxed.new w _ _).alloc _, below_alloc (below_alloc (Below.refl _ _) _) _, Nat.le_refl _⟩
  have hsz : ((w.alloc (.cells #[.int .u32 h] 24)).alloc (.cells #[.int .u32 16777619] 24)).heap.size = w.heap.size + 2 := by simp
  have hc0 := pw_cell_below A0.below hB0
  have hc1 := pw_cell_below A0.below hB1
  clear hB0 hB1
  revert A0 hbf hsz hc0 hc1
  generalize ((w.alloc (.cells #[.int .u32 h] 24)).alloc (.cells #[.int .u32 16777619] 24)) = wl
  intro hbf A0 hsz hc0 hc1
  have HSEQ := low_stops Fence.wide 8 trivial rfl (by decide) bs bx (fun k => k = w.heap.size) (fun _ => False) x wl (by omega) (by omega) (by show ¬ bs = w.heap.size; omega) (by show ¬ bx = w.heap.size; omega) hc0 hc1
  have HIo : OwnFrom wl.heap.size (fun (pre : List Int) W => BoxSt w w.heap.size 24 (.int .u32 (pre.foldl mixW h)) W ∧ Boxed W (w.heap.size + 1) 24 (.int .u32 16777619)) := fun s X Y row hs hg hr => ⟨hs.1.nc hg (fun r e => ⟨by have := (hr r e).1; omega, (hr r e).2⟩), boxed_nc hs.2 hg (fun r e => (hr r e).2)⟩
  refine rf_G (F := Fence.wide) (P := Try.prog) (encs := fun v : Int => #[Value.int .u8 v]) rfl (by decide) (gf := 79) (lb := #[.pointer (some ⟨bs, 0, none⟩), .pointer (some ⟨bx, 0, none⟩)]) rfl trivial (Go.Proofs.enters_of Try.func79 (by kernel_rfl) rfl) HSEQ (Below.refl _ _) (fun _ => rfl)
    (fun (pre : List Int) W => BoxSt w w.heap.size 24 (.int .u32 (pre.foldl mixW h)) W ∧ Boxed W (w.heap.size + 1) 24 (.int .u32 16777619)) (fun _ _ _ => False)
    HIo (fun _ _ _ _ _ hs _ _ => hs) ⟨A0, hbf⟩ ?_
  clear HSEQ HIo A0 hbf hc0 hc1
  apply Exists.intro
  refine ⟨?assign, ?body, ?done, ?stop⟩
  case assign =>
    intro l v W K hK
    gi_wp2
    exact hK
  case stop => intro D c pre W _ _ h _; exact h.elim
  case body =>
    rintro li pre v W hI hlt
    have hx := hI.1.x.cell
    have hfz := hI.1.x.frozen
    have hy := hI.2.cell
    have HI := Aside0.mk hI
    have HFD := Aside0.mk (show (pre ++ [v]).foldl mixW h = ((Go.bits .xor .u32 (pre.foldl mixW h) (v % 4294967296)) * 16777619) % 4294967296 from by rw [List.foldl_append]; rfl)
    clear hI
    generalize pre.foldl mixW h = hp at *
    gi_wp2
    have hg := grownBy_setCellK W w.heap.size 0 (.int .u32 (((Go.bits .xor .u32 hp (v % 4294967296)) * 16777619) % 4294967296))
    refine ⟨(KeepsOthers.setCell _ _ _).from _, KeepX.grown hg (fun k cs T fr hk hc => by cases hk; exact ⟨fun _ => rfl, fun h => by omega⟩), ?_⟩
    refine ⟨?_, HI.out.2.kept hg (fun e => by injection e; omega)⟩
    have := HI.out.1.set (.int .u32 (((Go.bits .xor .u32 hp (v % 4294967296)) * 16777619) % 4294967296))
    rw [HFD.out]
    exact this
  case done =>
    intro D xs W hD hxs hI hK
    have hx := hI.1.x.cell
    have HI := Aside0.mk hI
    have HL := Aside0.mk (show xs.foldl mixW h = roundW h x from by rw [hxs]; rfl)
    clear hI hxs
    gi_wp2_with fail
    refine ⟨by simp, .inl ⟨_, _, rfl, run_takeDeferred hK, ?_⟩⟩
    have hg := grownBy_putObj' W D (.deferred none)
    refine ⟨.int .u32 (xs.foldl mixW h), ?_, by rw [HL.out], pw_below_grown HI.out.1.below _ HI.out.1.below.size hg (fun k hk => by cases hk; omega)⟩
    simp [results, Try.results76, go_sem]
theorem last_eq (a : Int) : hash_last32.f a = some (lastW a) := by
  have h : ∃ y, hash_last32.f a = some y := ⟨_, by unfold hash_last32.f; exact rfl⟩
  obtain ⟨y, hy⟩ := h
  unfold lastW
  rw [hy, Option.getD_some]
theorem words_def (l : List Int) : wordsW l = lastW (l.foldl roundW 2166136261) := by unfold wordsW; exact Eq.refl _
def hash_Words.f (l : List Int) : Option Int := some (wordsW l)
theorem words_snoc (l : List Int) (h : Int) (i : Nat) (hi : i < l.length) : (l.take (i + 1)).foldl roundW h = roundW ((l.take i).foldl roundW h) l[i] := by
  rw [List.take_succ_eq_append_getElem hi, List.foldl_append, List.foldl_cons, List.foldl_nil]
set_option maxRecDepth 100000 in
set_option maxHeartbeats 4000000 in
theorem hash_Words.calls (A0 : Option Addr) (c0 : Nat) (l0 : List Int) (r : Int) (w : World) (hr0 : Kd.C (Kd.int .u32) w A0 l0.length l0) (hc0 : l0.length ≤ c0) (h : hash_Words.f l0 = some r) :
    Calls Try.prog 72 #[.slice A0 l0.length c0] w fun e w' => e = .returned (.int .u32 r) ∧ Below w.heap.size w w' := by
  obtain rfl := Option.some.inj h
  clear h
  have HR := Aside0.mk hr0
  have HC := Aside0.mk hc0
  have hlen := hr0.2.1
  have HW := Aside0.mk (words_def l0)
  clear hr0 hc0
  go_enter Try.func72, Try.ntmps72
  go_wp2
  go_loopw [3, 8] (fun v3 v8 w' => ∃ i : Nat, v8 = .int .i64 i ∧ v3 = .int .u32 ((l0.take i).foldl roundW 2166136261) ∧ Aside0 (i ≤ l0.length) ∧ Aside0 (Below w.heap.size w w')) (fun _ v _ => l0.length - (intOf v).toNat)
  case atStart => exact ⟨0, rfl, rfl, ⟨by omega⟩, ⟨Below.refl _ _⟩⟩
  case round =>
    obtain ⟨i, rfl, rfl, HI, HB1⟩ := hrel
    by_cases hlt : i < l0.length
    · obtain ⟨ad, e1, hx0⟩ := Kd.at_int (Kd.C_below HR.out HB1.out) (i : Int) (by omega) (by omega)
      cases e1
      simp only [Int.toNat_natCast] at hx0
      have hrd : rd l0 (i : Int) = l0[i] := by simp [rd, List.getD_eq_getElem?_getD, List.getElem?_eq_getElem hlt]
      rw [hrd] at hx0
      have HS := Aside0.mk (words_snoc l0 2166136261 i hlt)
      clear hrd
      generalize (l0.take i).foldl roundW 2166136261 = hh at *
      generalize l0[i] = x at *
      go_wp2_with (first
        | (go_at_call 77; refine (low.calls x _).mono ?_; rintro e w1 ⟨rfl, rfl⟩)
        | (go_at_call 76; refine (callsIn_wide.1 (mix_in hh 16777619 x rfl (wr.heap.size + 1) wr.heap.size _ (by simp) (by simp; omega) (by have := cell_fresh (wr.alloc (.cells #[.int .u32 x] 24)) #[.int .i64 4] 3 0 _ rfl; rw [World.size_alloc] at this; exact this) (pw_cell_below (below_alloc (Below.refl _ _) _) (cell_fresh wr #[.int .u32 x] 24 0 _ rfl)))).mono ?_; rintro e w2 ⟨rfl, hB⟩; have HB2 := Aside0.mk (below_step (below_alloc (below_alloc HB1.out _) _) hB); clear hB))
      go_roundw
      case rel => exact ⟨i + 1, by go_num, by rw [HS.out], ⟨by omega⟩, HB2⟩
      case measure => simp [intOf]; omega
    · have hie : i = l0.length := by have := HI.out; omega
      have HE := Aside0.mk (show (l0.take i).foldl roundW 2166136261 = l0.foldl roundW 2166136261 from by rw [hie, List.take_length])
      clear hie
      generalize (l0.take i).foldl roundW 2166136261 = hh at *
      go_wp2_with (go_at_call 78; refine (hash_last32.calls hh (lastW hh) _ (last_eq hh)).mono ?_; rintro e w1 ⟨rfl, hD⟩; have HB2 := Aside0.mk (below_step HB1.out hD.below); clear hD)
      go_ret
      exact ⟨by rw [HW.out, ← HE.out]; rfl, HB2.out⟩
end Go.Proofs.Ytbaldkcnipmdjaa.P
namespace Go.Proofs.Ytbaldkcnipmdjaa.P
open Go.RowKit Go.Proofs.YtbaldkcnipmdjaaW.PrintWords Go.Proofs.YtbaldkcnipmdjaaW.PrintLast Go.Proofs.YtbaldkcnipmdjaaW.PrintMore
attribute [local go_sem] max2_int min2_int max_two min_two max_three min_three max_four min_four
set_option linter.unusedVariables false
set_option linter.unusedSimpArgs false
mutual
def hash_Log.l0 : Nat → Int → Int → Option (Int)
  | 0, _, _ => none
  | k + 1, x0, x3 => if 0 ≤ x3 then (if (shr .u32 x0 x3) > 1 then (hash_Log.l0 k x0 ((x3 + 1) % 4294967296)) else (hash_Log.l1 k (shl .u64 (IntKind.u64.wrap (x0)) ((31 - x3) % 4294967296)) x3 0)) else (none)
def hash_Log.l1 : Nat → Int → Int → Int → Option (Int)
  | 0, _, _, _ => none
  | k + 1, x4, x5, x20 => if x20 < 16 then (if ((IntKind.u64.wrap (x4 * x4)) / 2147483648) ≥ 4294967296 then (hash_Log.l1 k (((IntKind.u64.wrap (x4 * x4)) / 2147483648) / 2) (Go.bits .or .u32 ((x5 * 2) % 4294967296) 1) (wrap64 (x20 + 1))) else (hash_Log.l1 k ((IntKind.u64.wrap (x4 * x4)) / 2147483648) ((x5 * 2) % 4294967296) (wrap64 (x20 + 1)))) else (some x5)
end
def hash_Log.f (k : Nat) (a0 : Int) : Option (Int) := if a0 = 0 then (some 0) else (hash_Log.l0 k a0 0)
theorem hash_Log.mono_l : ∀ k, (∀ y0 y1, LeO (hash_Log.l0 k y0 y1) (hash_Log.l0 (k + 1) y0 y1)) ∧ (∀ y0 y1 y2, LeO (hash_Log.l1 k y0 y1 y2) (hash_Log.l1 (k + 1) y0 y1 y2))
  | 0 => ⟨fun _ _ r h => by simp [hash_Log.l0] at h, fun _ _ _ r h => by simp [hash_Log.l1] at h⟩
  | k + 1 => by
    obtain ⟨ih0, ih1⟩ := hash_Log.mono_l k
    refine ⟨?_, ?_⟩
    · intro y0 y1
      unfold hash_Log.l0
      repeat' first
      | (with_reducible exact ih0 _ _)
      | (with_reducible exact ih1 _ _ _)
      | (with_reducible exact LeO.refl _)
      | (with_reducible exact LeO.none _)
      | (with_reducible refine LeO.ite ?_ ?_)
      | (with_reducible refine LeO.bind ?_ (fun _ => ?_))
      | exact ih0 _ _
      | exact ih1 _ _ _
      | exact LeO.none _
      | refine LeO.ite ?_ ?_
      | refine LeO.bind ?_ (fun _ => ?_)
    · intro y0 y1 y2
      unfold hash_Log.l1
      repeat' first
      | (with_reducible exact ih0 _ _)
      | (with_reducible exact ih1 _ _ _)
      | (with_reducible exact LeO.refl _)
      | (with_reducible exact LeO.none _)
      | (with_reducible refine LeO.ite ?_ ?_)
      | (with_reducible refine LeO.bind ?_ (fun _ => ?_))
      | exact ih0 _ _
      | exact ih1 _ _ _
      | exact LeO.none _
      | refine LeO.ite ?_ ?_
      | refine LeO.bind ?_ (fun _ => ?_)
theorem hash_Log.mono : ∀ a0 k, LeO (hash_Log.f k a0) (hash_Log.f (k + 1) a0) := by
  intro a0 k
  obtain ⟨ih0, ih1⟩ := hash_Log.mono_l k
  unfold hash_Log.f
  repeat' first
      | (with_reducible exact ih0 _ _)
      | (with_reducible exact ih1 _ _ _)
      | (with_reducible exact LeO.refl _)
      | (with_reducible exact LeO.none _)
      | (with_reducible refine LeO.ite ?_ ?_)
      | (with_reducible refine LeO.bind ?_ (fun _ => ?_))
      | exact ih0 _ _
      | exact ih1 _ _ _
      | exact LeO.none _
      | refine LeO.ite ?_ ?_
      | refine LeO.bind ?_ (fun _ => ?_)
set_option maxHeartbeats 8000000 in
set_option maxRecDepth 100000 in
theorem hash_Log.calls (k : Nat) (a0 : Int) (r : Int) (w : World) (h : hash_Log.f k a0 = some r) :
    Calls Try.prog 73 #[.int .u32 a0] w fun e w' => e = .returned (.int .u32 r) ∧ Drawn0 w w' := by
  have H : (if a0 = 0 then (some 0) else (hash_Log.l0 k a0 0)) = some r := h
  clear h
  by_cases c2 : a0 = 0
  · rw [if_pos c2] at H
    have c2b0 : (a0 == 0) = true := beq_iff_eq.mpr c2
    have c2b1 : (a0 != 0) = false := bne_eq_false_iff_eq.mpr c2
    clear c2
    obtain rfl := Option.some.inj H
    go_enter Try.func73, Try.ntmps73
    go_wp2
    go_ret
    exact ⟨by first | rfl | (simp; done) | (simp [*]; done), by repeat (first | exact Drawn0.refl _ | apply Drawn0.step)⟩
  · rw [if_neg c2] at H
    have c2b0 : (a0 == 0) = false := beq_eq_false_iff_ne.mpr c2
    have c2b1 : (a0 != 0) = true := bne_iff_ne.mpr c2
    have H' := Aside0.mk H
    clear H
    go_enter Try.func73, Try.ntmps73
    go_wp2
    go_loopg [3] k (fun kq v3 w' => ∃ (x3_1 : Int), v3 = .int .u32 x3_1 ∧ Aside0 (hash_Log.l0 kq a0 x3_1 = some r) ∧ Aside0 (kq ≤ k) ∧ Drawn0 w w')
    case atStart => exact ⟨(0), (by first | rfl | (simp; done) | (simp [*]; done)), H', ⟨Nat.le_refl _⟩, by repeat (first | exact Drawn0.refl _ | apply Drawn0.step)⟩
    case round =>
      clear H'
      try clear c2
      try clear c2b0
      try clear c2b1
      try clear p2
      obtain ⟨x3_1, rfl, HA, HK1, ⟨m1, rfl⟩⟩ := hrel
      cases gk with
      | zero => exact absurd HA.out (by simp [hash_Log.l0])
      | succ k1 =>
        have H := HA.out
        clear HA
        simp only [hash_Log.l0] at H
        by_cases c3 : 0 ≤ x3_1
        · rw [if_pos c3] at H
          have c3b0 := eq_true c3
          have c3b1 : decide (0 ≤ x3_1) = true := decide_eq_true c3
          clear c3
          obtain ⟨ji4, hji4⟩ : ∃ j_ : Int, (shr .u32 a0 x3_1) = j_ := ⟨_, rfl⟩
          replace H : (if (ji4) > 1 then (hash_Log.l0 k1 a0 ((x3_1 + 1) % 4294967296)) else (hash_Log.l1 k1 (shl .u64 (IntKind.u64.wrap (a0)) ((31 - x3_1) % 4294967296)) x3_1 0)) = some r := by first | (rw [hji4] at H; exact H) | (simp only [hji4] at H ⊢; exact H)
          have hji4_ : (a0 / 2 ^ min x3_1.toNat 32) = ji4 := hji4
          have hji4z : x3_1 ≤ 32 → (a0 / 2 ^ x3_1.toNat) = ji4 := shr_small hji4
          by_cases c5 : (ji4) > 1
          · rw [if_pos c5] at H
            have c5b0 : decide (1 < (ji4)) = true := decide_eq_true c5
            clear c5
            have H' := Aside0.mk H
            clear H
            go_wp2
            go_roundg k1
            case measure => have := HK1.out; omega
            case rel => exact ⟨((x3_1 + 1) % 4294967296), (by first | rfl | (simp; done) | (simp [*]; done)), H', ⟨by have := HK1.out; omega⟩, by repeat (first | exact Drawn0.refl _ | apply Drawn0.step)⟩
          · rw [if_neg c5] at H
            have c5b0 : decide (1 < (ji4)) = false := decide_eq_false c5
            clear c5
            obtain ⟨ji6, hji6⟩ : ∃ j_ : Int, (shl .u64 (IntKind.u64.wrap (a0)) ((31 - x3_1) % 4294967296)) = j_ := ⟨_, rfl⟩
            replace H : (hash_Log.l1 k1 ji6 x3_1 0) = some r := by first | (rw [hji6] at H; exact H) | (simp only [hji6] at H ⊢; exact H)
            have hji6_ : (IntKind.u64.wrap ((IntKind.u64.wrap (a0)) * 2 ^ min ((31 - x3_1) % 4294967296).toNat 64)) = ji6 := hji6
            have hji6z : ((31 - x3_1) % 4294967296) ≤ 64 → (IntKind.u64.wrap ((IntKind.u64.wrap (a0)) * 2 ^ ((31 - x3_1) % 4294967296).toNat)) = ji6 := shl_small hji6
            have hq0s : (0 ≤ (31 - x3_1) % 4294967296) = True := eq_true (Int.emod_nonneg _ (by decide))
            have H' := Aside0.mk H
            clear H
            go_wp2
            go_loopg [4, 5, 20] k1 (fun kq v4 v5 v20 w' => ∃ (x4_2 : Int) (x5_2 : Int) (x20_2 : Int), v4 = .int .u64 x4_2 ∧ v5 = .int .u32 x5_2 ∧ v20 = .int .i64 x20_2 ∧ Aside0 (hash_Log.l1 kq x4_2 x5_2 x20_2 = some r) ∧ Aside0 (kq ≤ k1) ∧ Drawn0 w w')
            case atStart => exact ⟨(ji6), (x3_1), (0), (by first | rfl | (simp; done) | (simp only [← hji6] <;> (first | rfl | simp)) | (simp [*]; done)), (by first | rfl | (simp; done) | (simp [*]; done)), (by first | rfl | (simp; done) | (simp [*]; done)), H', ⟨Nat.le_refl _⟩, by repeat (first | exact Drawn0.refl _ | apply Drawn0.step)⟩
            case round =>
              clear H'
              try clear c2
              try clear c2b0
              try clear c2b1
              try clear p2
              try clear c3
              try clear c3b0
              try clear c3b1
              try clear c5
              try clear c5b0
              try clear p2
              obtain ⟨x4_2, x5_2, x20_2, rfl, rfl, rfl, HA, HK2, ⟨m2, rfl⟩⟩ := hrel
              cases gk with
              | zero => exact absurd HA.out (by simp [hash_Log.l1])
              | succ k2 =>
                have H := HA.out
                clear HA
                simp only [hash_Log.l1] at H
                by_cases c7 : x20_2 < 16
                · rw [if_pos c7] at H
                  have c7b0 : decide (x20_2 < 16) = true := decide_eq_true c7
                  clear c7
                  by_cases c8 : ((IntKind.u64.wrap (x4_2 * x4_2)) / 2147483648) ≥ 4294967296
                  · rw [if_pos c8] at H
                    have c8b0 : decide (4294967296 ≤ ((IntKind.u64.wrap (x4_2 * x4_2)) / 2147483648)) = true := decide_eq_true c8
                    clear c8
                    have H' := Aside0.mk H
                    clear H
                    go_wp2
                    go_roundg k2
                    case measure => have := HK1.out; have := HK2.out; omega
                    case rel => exact ⟨(((IntKind.u64.wrap (x4_2 * x4_2)) / 2147483648) / 2), (Go.bits .or .u32 ((x5_2 * 2) % 4294967296) 1), (wrap64 (x20_2 + 1)), (by first | rfl | (simp; done) | (simp [*]; done)), (by first | rfl | (simp; done) | (simp [*]; done)), (by first | rfl | (simp; done) | (simp [*]; done)), H', ⟨by have := HK1.out; have := HK2.out; omega⟩, by repeat (first | exact Drawn0.refl _ | apply Drawn0.step)⟩
                  · rw [if_neg c8] at H
                    have c8b0 : decide (4294967296 ≤ ((IntKind.u64.wrap (x4_2 * x4_2)) / 2147483648)) = false := decide_eq_false c8
                    clear c8
                    have H' := Aside0.mk H
                    clear H
                    go_wp2
                    go_roundg k2
                    case measure => have := HK1.out; have := HK2.out; omega
                    case rel => exact ⟨((IntKind.u64.wrap (x4_2 * x4_2)) / 2147483648), ((x5_2 * 2) % 4294967296), (wrap64 (x20_2 + 1)), (by first | rfl | (simp; done) | (simp [*]; done)), (by first | rfl | (simp; done) | (simp [*]; done)), (by first | rfl | (simp; done) | (simp [*]; done)), H', ⟨by have := HK1.out; have := HK2.out; omega⟩, by repeat (first | exact Drawn0.refl _ | apply Drawn0.step)⟩
                · rw [if_neg c7] at H
                  have c7b0 : decide (x20_2 < 16) = false := decide_eq_false c7
                  clear c7
                  obtain rfl := Option.some.inj H
                  go_wp2
                  go_ret
                  exact ⟨by first | rfl | (simp; done) | (simp only [← hji4, ← hji6] <;> (first | rfl | simp)) | (simp [*]; done), by repeat (first | exact Drawn0.refl _ | apply Drawn0.step)⟩
        · rw [if_neg c3] at H
          exact absurd H (by simp)
end Go.Proofs.Ytbaldkcnipmdjaa.P
namespace Go.Proofs.Ytbaldkcnipmdjaa.P
open Go.RowKit Go.Proofs.YtbaldkcnipmdjaaW.PrintWords Go.Proofs.YtbaldkcnipmdjaaW.PrintLast Go.Proofs.YtbaldkcnipmdjaaW.PrintMore
attribute [local go_sem] max2_int min2_int max_two min_two max_three min_three max_four min_four
set_option linter.unusedVariables false
set_option linter.unusedSimpArgs false
def crush_Cost.f (k : Nat) (a0 : Int) (a1 : Int) (a2 : Int) : Option (Int) := (hash_Words.f (([a0, (a1) % 4294967296, (a2) % 4294967296] : List Int))).bind fun t104 => ((hash_Log.f k (((Go.bits .and .u32 t104 65535) + 1) % 4294967296)).bind fun t105 => (some (wrap64 (1048576 - (wrap64 (t105))))))
set_option maxHeartbeats 8000000 in
set_option maxRecDepth 100000 in
theorem crush_Cost.calls (k : Nat) (a0 : Int) (a1 : Int) (a2 : Int) (r : Int) (w : World) (h : crush_Cost.f k a0 a1 a2 = some r) :
    Calls Try.prog 67 #[.int .u32 a0, .int .i64 a1, .int .i64 a2] w fun e w' => e = .returned (.int .i64 r) ∧ Below w.heap.size w w' := by
  have HB := Aside0.mk (Below.refl w.heap.size w)
  have H : ((hash_Words.f (([a0, (a1) % 4294967296, (a2) % 4294967296] : List Int))).bind fun t104 => ((hash_Log.f k (((Go.bits .and .u32 t104 65535) + 1) % 4294967296)).bind fun t105 => (some (wrap64 (1048576 - (wrap64 (t105))))))) = some r := h
  clear h
  obtain ⟨y101, hy101⟩ : ∃ y_ : List Int, y_ = (([a0, (a1) % 4294967296, (a2) % 4294967296] : List Int)) := ⟨_, rfl⟩
  replace H : ((hash_Words.f y101).bind fun t104 => ((hash_Log.f k (((Go.bits .and .u32 t104 65535) + 1) % 4294967296)).bind fun t105 => (some (wrap64 (1048576 - (wrap64 (t105))))))) = some r := by first | (rw [hy101]; with_reducible exact H) | (have H2_ := (Option.bind_some _ _).symm.trans H; rw [hy101]; with_reducible exact H2_) | (have H2_ := (Option.bind_some _ _).symm.trans H; with_reducible exact H2_) | with_reducible exact H | (rw [hy101]; exact H) | exact H
  have Ny101 := Aside0.mk hy101
  clear hy101
  replace H := Option.bind_eq_some_iff.mp H
  obtain ⟨t104, A40, H⟩ := H
  replace H : ((hash_Log.f k (((Go.bits .and .u32 t104 65535) + 1) % 4294967296)).bind fun t105 => (some (wrap64 (1048576 - (wrap64 (t105)))))) = some r := H
  have A4 := Aside0.mk A40
  clear A40
  replace H := Option.bind_eq_some_iff.mp H
  obtain ⟨t105, A50, H⟩ := H
  replace H : (some (wrap64 (1048576 - (wrap64 (t105))))) = some r := H
  have A5 := Aside0.mk A50
  clear A50
  obtain rfl := Option.some.inj H
  go_enter Try.func67, Try.ntmps67
  go_wp2_with (first | ((with_reducible refine gate_dst (N := 13) rfl ?_); refine Kd.R_lit (Kd.int .u32) _ 24 ?hg (N := 13) ?hd (xs := ([a0, (a1) % 4294967296, (a2) % 4294967296] : List Int)) (inner := [.int .u32 a0, .int .u32 ((a1) % 4294967296), .int .u32 ((a2) % 4294967296)]) (ok := fun _ => True) (okp := fun _ => True) ?hr ?hp (fun _ hk => hk) trivial (Below.refl _ _) (Nat.le_refl _) (by simp) ?_; (case hd => rfl); (case hg => rfl); (case hr => first | (go_simp; done) | (go_simp; rfl)); (case hp => exact (Reps.one (show Kd.M (Kd.int .u32) _ _ _ a0 [.int .u32 a0] from rfl) (Reps.one (show Kd.M (Kd.int .u32) _ _ _ ((a1) % 4294967296) [.int .u32 ((a1) % 4294967296)] from rfl) (Reps.one (show Kd.M (Kd.int .u32) _ _ _ ((a2) % 4294967296) [.int .u32 ((a2) % 4294967296)] from rfl) (Reps.none _ _))))); intro v102 w6 ho7 hb hg_ hnew_; clear hg_ hnew_; (first | rw [← Ny101.out] at ho7 | (simp only [Int.reduceToNat] at ho7; rw [← Ny101.out] at ho7)); have n0_ := Aside0.mk (Kd.R_lower ho7 (below_size (by repeat (first | (with_reducible first | exact HB.out | apply below_alloc | apply pw_below_drewN | apply below_drew1) | exact HB.out)))); have n1_ := Aside0.mk (below_step (by repeat (first | (with_reducible first | exact HB.out | apply below_alloc | apply pw_below_drewN | apply below_drew1) | exact HB.out)) hb); clear HB; have HO103 := n0_; have HB := n1_; clear n0_ n1_; clear hb ho7; obtain ⟨Ao8, co8, eo8⟩ := Kd.R_slice HO103.out; subst eo8) | ((with_reducible refine gate_callee (f := 72) rfl ?_); refine goesL_ (some 14) rfl rfl Try.func72 (by kernel_rfl) rfl #[.slice Ao8 y101.length co8] rfl (by (try simp only [List.map_toArray, List.map_cons, List.map_nil]); first | done | rfl | (simp only [List.length_drop, List.length_take]; rfl)) ?_; (with_reducible refine (hash_Words.calls _ _ y101 t104 _ ?side1 ?side2 A4.out).mono ?_); (case side1 => repeat (first | exact (Kd.R_reads' HO103.out).2.2 | (with_reducible refine Kd.C_alloc ?_ _) | (with_reducible refine Kd.C_drewN ?_ _) | (with_reducible refine Kd.C_drew ?_))); (case side2 => exact (Kd.R_reads' HO103.out).2.1); rintro e w9 ⟨rfl, hb⟩; refine ⟨_, rfl, ?_⟩; have n0_ := Aside0.mk (Kd.R_below (by (with_reducible repeat (first | apply Kd.R_alloc | apply Kd.R_drewN | apply Kd.R_drew)); exact HO103.out) hb); have n1_ := Aside0.mk (below_step (by repeat (first | (with_reducible first | exact HB.out | apply below_alloc | apply pw_below_drewN | apply below_drew1) | exact HB.out)) hb); clear HO103; clear HB; have HO103 := n0_; have HB := n1_; clear n0_ n1_; (try clear hb); (try clear hb2); (try clear hk); (try clear hi)) | ((with_reducible refine gate_callee (f := 73) rfl ?_); refine goesL_ (some 18) rfl rfl Try.func73 (by kernel_rfl) rfl #[.int .u32 (((Go.bits .and .u32 t104 65535) + 1) % 4294967296)] rfl (by (try simp only [List.map_toArray, List.map_cons, List.map_nil]); first | done | rfl | (simp only [List.length_drop, List.length_take]; rfl)) ?_; (with_reducible refine (hash_Log.calls k (((Go.bits .and .u32 t104 65535) + 1) % 4294967296) t105 _ A5.out).mono ?_); rintro e w' ⟨rfl, ⟨nd, rfl⟩⟩; refine ⟨_, rfl, ?_⟩))
  go_ret
  exact ⟨by first | rfl | (simp [errW_none, errW_some] <;> rfl) | (simp [*, errW_none, errW_some] <;> rfl), by repeat (first | (with_reducible first | exact HB.out | apply below_alloc | apply pw_below_drewN | apply below_drew1) | exact HB.out)⟩
end Go.Proofs.Ytbaldkcnipmdjaa.P
namespace Go.Proofs.Ytbaldkcnipmdjaa.P
open Go.RowKit Go.Proofs.YtbaldkcnipmdjaaW.PrintWords Go.Proofs.YtbaldkcnipmdjaaW.PrintLast Go.Proofs.YtbaldkcnipmdjaaW.PrintMore
attribute [local go_sem] max2_int min2_int max_two min_two max_three min_three max_four min_four
set_option linter.unusedVariables false
set_option linter.unusedSimpArgs false
mutual
def reefref01_Log.l0 : Nat → Int → Int → Option (Int)
  | 0, _, _ => none
  | k + 1, x0, x3 => if 0 ≤ x3 then (if (shr .u32 x0 x3) > 1 then (reefref01_Log.l0 k x0 ((x3 + 1) % 4294967296)) else (reefref01_Log.l1 k x3 (shl .u64 (IntKind.u64.wrap (x0)) ((31 - x3) % 4294967296)) 0 0)) else (none)
def reefref01_Log.l1 : Nat → Int → Int → Int → Int → Option (Int)
  | 0, _, _, _, _ => none
  | k + 1, x3, x4, x5, x6 => if x6 < 16 then (if ((IntKind.u64.wrap (x4 * x4)) / 2147483648) ≥ 4294967296 then (reefref01_Log.l1 k x3 (((IntKind.u64.wrap (x4 * x4)) / 2147483648) / 2) ((((x5 * 2) % 4294967296) + 1) % 4294967296) (wrap64 (x6 + 1))) else (reefref01_Log.l1 k x3 ((IntKind.u64.wrap (x4 * x4)) / 2147483648) ((x5 * 2) % 4294967296) (wrap64 (x6 + 1)))) else (some ((((x3 * 65536) % 4294967296) + x5) % 4294967296))
end
def reefref01_Log.f (k : Nat) (a0 : Int) : Option (Int) := if a0 = 0 then (some 0) else (reefref01_Log.l0 k a0 0)
theorem reefref01_Log.mono_l : ∀ k, (∀ y0 y1, LeO (reefref01_Log.l0 k y0 y1) (reefref01_Log.l0 (k + 1) y0 y1)) ∧ (∀ y0 y1 y2 y3, LeO (reefref01_Log.l1 k y0 y1 y2 y3) (reefref01_Log.l1 (k + 1) y0 y1 y2 y3))
  | 0 => ⟨fun _ _ r h => by simp [reefref01_Log.l0] at h, fun _ _ _ _ r h => by simp [reefref01_Log.l1] at h⟩
  | k + 1 => by
    obtain ⟨ih0, ih1⟩ := reefref01_Log.mono_l k
    refine ⟨?_, ?_⟩
    · intro y0 y1
      unfold reefref01_Log.l0
      repeat' first
      | (with_reducible exact ih0 _ _)
      | (with_reducible exact ih1 _ _ _ _)
      | (with_reducible exact LeO.refl _)
      | (with_reducible exact LeO.none _)
      | (with_reducible refine LeO.ite ?_ ?_)
      | (with_reducible refine LeO.bind ?_ (fun _ => ?_))
      | exact ih0 _ _
      | exact ih1 _ _ _ _
      | exact LeO.none _
      | refine LeO.ite ?_ ?_
      | refine LeO.bind ?_ (fun _ => ?_)
    · intro y0 y1 y2 y3
      unfold reefref01_Log.l1
      repeat' first
      | (with_reducible exact ih0 _ _)
      | (with_reducible exact ih1 _ _ _ _)
      | (with_reducible exact LeO.refl _)
      | (with_reducible exact LeO.none _)
      | (with_reducible refine LeO.ite ?_ ?_)
      | (with_reducible refine LeO.bind ?_ (fun _ => ?_))
      | exact ih0 _ _
      | exact ih1 _ _ _ _
      | exact LeO.none _
      | refine LeO.ite ?_ ?_
      | refine LeO.bind ?_ (fun _ => ?_)
theorem reefref01_Log.mono : ∀ a0 k, LeO (reefref01_Log.f k a0) (reefref01_Log.f (k + 1) a0) := by
  intro a0 k
  obtain ⟨ih0, ih1⟩ := reefref01_Log.mono_l k
  unfold reefref01_Log.f
  repeat' first
      | (with_reducible exact ih0 _ _)
      | (with_reducible exact ih1 _ _ _ _)
      | (with_reducible exact LeO.refl _)
      | (with_reducible exact LeO.none _)
      | (with_reducible refine LeO.ite ?_ ?_)
      | (with_reducible refine LeO.bind ?_ (fun _ => ?_))
      | exact ih0 _ _
      | exact ih1 _ _ _ _
      | exact LeO.none _
      | refine LeO.ite ?_ ?_
      | refine LeO.bind ?_ (fun _ => ?_)
end Go.Proofs.Ytbaldkcnipmdjaa.P
namespace Go.Proofs.Ytbaldkcnipmdjaa.P
open Go.RowKit Go.Proofs.YtbaldkcnipmdjaaW.PrintWords Go.Proofs.YtbaldkcnipmdjaaW.PrintLast Go.Proofs.YtbaldkcnipmdjaaW.PrintMore
attribute [local go_sem] max2_int min2_int max_two min_two max_three min_three max_four min_four
set_option linter.unusedVariables false
set_option linter.unusedSimpArgs false
def reefref01_ended.f (a0 : Int) : Option (Int) := some (Go.bits .xor .u32 (((Go.bits .xor .u32 (((Go.bits .xor .u32 a0 (a0 / 65536)) * 2246822507) % 4294967296) ((((Go.bits .xor .u32 a0 (a0 / 65536)) * 2246822507) % 4294967296) / 8192)) * 3266489909) % 4294967296) ((((Go.bits .xor .u32 (((Go.bits .xor .u32 a0 (a0 / 65536)) * 2246822507) % 4294967296) ((((Go.bits .xor .u32 a0 (a0 / 65536)) * 2246822507) % 4294967296) / 8192)) * 3266489909) % 4294967296) / 65536))
end Go.Proofs.Ytbaldkcnipmdjaa.P
namespace Go.Proofs.Ytbaldkcnipmdjaa.P
open Go.RowKit Go.Proofs.YtbaldkcnipmdjaaW.PrintWords Go.Proofs.YtbaldkcnipmdjaaW.PrintLast Go.Proofs.YtbaldkcnipmdjaaW.PrintMore
attribute [local go_sem] max2_int min2_int max_two min_two max_three min_three max_four min_four
set_option linter.unusedVariables false
set_option linter.unusedSimpArgs false
def reefref01_mix.f (a0 : Int) (a1 : Int) : Option (Int) := some (((Go.bits .xor .u32 a0 ((a1) % 4294967296)) * 16777619) % 4294967296)
end Go.Proofs.Ytbaldkcnipmdjaa.P
namespace Go.Proofs.Ytbaldkcnipmdjaa.P
open Go.RowKit Go.Proofs.YtbaldkcnipmdjaaW.PrintWords Go.Proofs.YtbaldkcnipmdjaaW.PrintLast Go.Proofs.YtbaldkcnipmdjaaW.PrintMore
attribute [local go_sem] max2_int min2_int max_two min_two max_three min_three max_four min_four
set_option linter.unusedVariables false
set_option linter.unusedSimpArgs false
mutual
def reefref01_Words.l0 : Nat → List Int → Int → Int → Option (Int)
  | 0, _, _, _ => none
  | k + 1, x0, x3, x4 => if x4 < (x0.length : Int) then (reefref01_Words.l1 k x0 x3 x4 0) else ((reefref01_ended.f x3).bind fun t263 => (some t263))
def reefref01_Words.l1 : Nat → List Int → Int → Int → Int → Option (Int)
  | 0, _, _, _, _ => none
  | k + 1, x0, x3, x4, x5 => if x5 < 4 then (if 0 ≤ x4 then (if x4 < (x0.length : Int) then (if 0 ≤ (IntKind.u64.wrap (wrap64 (8 * x5))) then ((reefref01_mix.f x3 ((shr .u32 (rd x0 x4) (IntKind.u64.wrap (wrap64 (8 * x5)))) % 256)).bind fun t265 => (reefref01_Words.l1 k x0 t265 x4 (wrap64 (x5 + 1)))) else (none)) else (none)) else (none)) else (reefref01_Words.l0 k x0 x3 (wrap64 (x4 + 1)))
end
def reefref01_Words.f (k : Nat) (l0 : List Int) : Option (Int) := reefref01_Words.l0 k l0 2166136261 0
end Go.Proofs.Ytbaldkcnipmdjaa.P
namespace Go.Proofs.Ytbaldkcnipmdjaa.P
open Go.RowKit Go.Proofs.YtbaldkcnipmdjaaW.PrintWords Go.Proofs.YtbaldkcnipmdjaaW.PrintLast Go.Proofs.YtbaldkcnipmdjaaW.PrintMore
attribute [local go_sem] max2_int min2_int max_two min_two max_three min_three max_four min_four
set_option linter.unusedVariables false
set_option linter.unusedSimpArgs false
def reefref11_Cost.f (k : Nat) (a0 : Int) (a1 : Int) (a2 : Int) : Option (Int) := (reefref01_Words.f k (([a0, (a1) % 4294967296, (a2) % 4294967296] : List Int))).bind fun t269 => ((reefref01_Log.f k (((Go.bits .and .u32 t269 65535) + 1) % 4294967296)).bind fun t270 => (some (wrap64 (1048576 - (wrap64 (t270))))))
end Go.Proofs.Ytbaldkcnipmdjaa.P
namespace Go.Proofs.Ytbaldkcnipmdjaa.P
open Go.RowKit Go.Proofs.YtbaldkcnipmdjaaW.PrintWords Go.Proofs.YtbaldkcnipmdjaaW.PrintLast Go.Proofs.YtbaldkcnipmdjaaW.PrintMore Go.Proofs.YtbaldkcnipmdjaaW.HB
set_option linter.unusedVariables false
set_option linter.unusedSimpArgs false
theorem wrap64_small (x : Int) (h1 : -9223372036854775808 ≤ x) (h2 : x ≤ 9223372036854775807) : wrap64 x = x := by unfold wrap64; omega
theorem u32_bits (op : BinOp) (x y : Int) : 0 ≤ Go.bits op .u32 x y ∧ Go.bits op .u32 x y < 4294967296 := by
  unfold Go.bits
  simp only [IntKind.wrap_u32]
  omega
theorem lastW_range (a : Int) : 0 ≤ lastW a ∧ lastW a < 4294967296 := by
  have h := last_eq a
  unfold hash_last32.f at h
  rw [← Option.some.inj h]
  exact u32_bits _ _ _
theorem wordsW_range (l : List Int) : 0 ≤ wordsW l ∧ wordsW l < 4294967296 := by rw [words_def]; exact lastW_range _
theorem rmix_eq (h b : Int) : reefref01_mix.f h b = some (mixW h b) := by unfold reefref01_mix.f mixW; exact Eq.refl _
theorem rended_eq (a : Int) : reefref01_ended.f a = some (lastW a) := by
  rw [← last_eq]
  unfold reefref01_ended.f hash_last32.f
  exact Eq.refl _
theorem rw_one (l : List Int) (h : Int) (i : Nat) (k : Nat) (hi : i < l.length) (hl : l.length ≤ 1000) : reefref01_Words.l1 (k + 5) l h i 0 = reefref01_Words.l0 k l (roundW h l[i]) ((i + 1 : Nat) : Int) := by
  have e : ∀ (h' : Int) (k' j : Nat), j < 4 → reefref01_Words.l1 (k' + 1) l h' i (j : Int) = reefref01_Words.l1 k' l (mixW h' (byW l[i] j)) i ((j + 1 : Nat) : Int) := by
    intro h' k' j hj
    have h8 : IntKind.u64.wrap (wrap64 (8 * (j : Int))) = ((8 * j : Nat) : Int) := by rw [wrap64_small _ (by omega) (by omega)]; simp [IntKind.wrap, IntKind.signed, IntKind.bits]; omega
    have hr : rd l (i : Int) = l[i] := by simp [rd, List.getD_eq_getElem?_getD, List.getElem?_eq_getElem hi]
    have hs : shr .u32 l[i] ((8 * j : Nat) : Int) % 256 = byW l[i] j := by
      unfold shr byW
      rw [Int.toNat_natCast, Nat.min_eq_left (show 8 * j ≤ IntKind.u32.bits from by show 8 * j ≤ 32; omega)]
    simp only [reefref01_Words.l1]
    rw [if_pos (by omega), if_pos (by omega), if_pos (by omega), h8, if_pos (by omega), hr, hs, rmix_eq, Option.bind_some, wrap64_small _ (by omega) (by omega)]
    rfl
  have e0 := e h (k + 4) 0 (by decide)
  have e1 := e (mixW h (byW l[i] 0)) (k + 3) 1 (by decide)
  have e2 := e (mixW (mixW h (byW l[i] 0)) (byW l[i] 1)) (k + 2) 2 (by decide)
  have e3 := e (mixW (mixW (mixW h (byW l[i] 0)) (byW l[i] 1)) (byW l[i] 2)) (k + 1) 3 (by decide)
  have e4 : ∀ h' : Int, reefref01_Words.l1 (k + 1) l h' i ((3 + 1 : Nat) : Int) = reefref01_Words.l0 k l h' ((i + 1 : Nat) : Int) := by
    intro h'
    simp only [reefref01_Words.l1]
    rw [if_neg (by omega), wrap64_small _ (by omega) (by omega)]
    rfl
  refine (e0.trans (e1.trans (e2.trans (e3.trans (e4 _))))).trans ?_
  have : roundW h l[i] = mixW (mixW (mixW (mixW h (byW l[i] 0)) (byW l[i] 1)) (byW l[i] 2)) (byW l[i] 3) := by
    unfold roundW bytesW
    simp [List.range_succ]
  rw [this]
theorem rwords_l0 (l : List Int) (hl : l.length ≤ 1000) : ∀ (d k i : Nat) (h : Int), l.length = i + d → 6 * d < k → reefref01_Words.l0 k l h i = some (lastW ((l.drop i).foldl roundW h)) := by
  intro d
  induction d with
  | zero =>
    intro k i h hi hk
    obtain ⟨k, rfl⟩ : ∃ k', k = k' + 1 := ⟨k - 1, by omega⟩
    simp only [reefref01_Words.l0]
    rw [if_neg (by omega), rended_eq, Option.bind_some, List.drop_eq_nil_of_le (by omega)]
    rfl
  | succ d ih =>
    intro k i h hi hk
    obtain ⟨k, rfl⟩ : ∃ k', k = (k' + 5) + 1 := ⟨k - 6, by omega⟩
    simp only [reefref01_Words.l0]
    rw [if_pos (by omega), rw_one l h i k (by omega) hl, ih k (i + 1) _ (by omega) (by omega), List.drop_eq_getElem_cons (show i < l.length by omega), List.foldl_cons]
theorem rwords_eq (K : Nat) (l : List Int) (hl : l.length ≤ 3) (hK : 20 ≤ K) : reefref01_Words.f K l = some (wordsW l) := by
  unfold reefref01_Words.f
  rw [words_def]
  exact rwords_l0 l (by omega) l.length K 0 2166136261 (by omega) (by omega)
def nextY (y : Int) : Int := (IntKind.u64.wrap (y * y)) / 2147483648
def frac : Nat → Int → Int → Int
  | 0, _, f => f
  | m + 1, y, f => if nextY y ≥ 4294967296 then frac m (nextY y / 2) (2 * f + 1) else frac m (nextY y) (2 * f)
theorem frac_range : ∀ (m : Nat) (y f : Int), 0 ≤ f → f < 2 ^ (16 - m) → m ≤ 16 → 0 ≤ frac m y f ∧ frac m y f < 65536
  | 0, y, f, h0, h1, _ => ⟨h0, by show f < 65536; simpa using h1⟩
  | m + 1, y, f, h0, h1, hm => by
    have e : (2 : Int) ^ (16 - m) = 2 * 2 ^ (16 - (m + 1)) := by rw [show 16 - m = (16 - (m + 1)) + 1 from by omega, Int.pow_succ]; omega
    unfold frac
    split
    · exact frac_range m _ _ (by omega) (by omega) (by omega)
    · exact frac_range m _ _ (by omega) (by omega) (by omega)
theorem or_one (x : Int) (h0 : 0 ≤ x) (h1 : x * 2 < 4294967296) : Go.bits .or .u32 ((x * 2) % 4294967296) 1 = 2 * x + 1 := by
  rw [Int.emod_eq_of_lt (by omega) h1, bits_join .u32 32 (by decide) (fun n a b => by rw [IntKind.wrap_u32]; omega) 1 (x * 2) 1 (by omega) (by omega) (by omega) (by decide) (by decide) (by decide)]
  omega
theorem log_l1 (n : Nat) (hn : n ≤ 16) : ∀ (m k : Nat) (y f : Int), m ≤ 16 → m < k → 0 ≤ f → f < 2 ^ (16 - m) →
    hash_Log.l1 k y ((n : Int) * 2 ^ (16 - m) + f) ((16 - m : Nat) : Int) = some ((n : Int) * 65536 + frac m y f) ∧ reefref01_Log.l1 k n y f ((16 - m : Nat) : Int) = some ((n : Int) * 65536 + frac m y f) := by
  intro m
  induction m with
  | zero =>
    intro k y f _ hk h0 h1
    obtain ⟨k, rfl⟩ : ∃ k', k = k' + 1 := ⟨k - 1, by omega⟩
    have h1' : f < 65536 := by simpa using h1
    simp only [hash_Log.l1, reefref01_Log.l1]
    rw [if_neg (by omega), if_neg (by omega)]
    unfold frac
    refine ⟨by rw [show ((2 : Int) ^ (16 - 0)) = 65536 from by decide], ?_⟩
    congr 1
    omega
  | succ m ih =>
    intro k y f hm hk h0 h1
    obtain ⟨k, rfl⟩ : ∃ k', k = k' + 1 := ⟨k - 1, by omega⟩
    have e : (2 : Int) ^ (16 - m) = 2 * 2 ^ (16 - (m + 1)) := by rw [show 16 - m = (16 - (m + 1)) + 1 from by omega, Int.pow_succ]; omega
    have hp : (2 : Int) ^ (16 - (m + 1)) ≤ 32768 := by
      have h3 : (2 : Nat) ^ (16 - (m + 1)) ≤ 32768 := Nat.le_trans (Nat.pow_le_pow_right (by decide) (show 16 - (m + 1) ≤ 15 by omega)) (by decide)
      have h4 : ((2 : Int) ^ (16 - (m + 1))) = (((2 : Nat) ^ (16 - (m + 1)) : Nat) : Int) := by rw [Int.natCast_pow]; rfl
      omega
    have hp0 : (0 : Int) < 2 ^ (16 - (m + 1)) := Int.pow_pos (by decide)
    have hnp : (n : Int) * 2 ^ (16 - (m + 1)) ≤ 16 * 32768 := Int.mul_le_mul (by omega) hp (by omega) (by decide)
    have hnp0 : 0 ≤ (n : Int) * 2 ^ (16 - (m + 1)) := Int.mul_nonneg (by omega) (by omega)
    have en : (n : Int) * 2 ^ (16 - m) = 2 * ((n : Int) * 2 ^ (16 - (m + 1))) := by rw [e, Int.mul_left_comm]
    generalize hA : (n : Int) * 2 ^ (16 - (m + 1)) = A at *
    have hi : wrap64 (((16 - (m + 1) : Nat) : Int) + 1) = ((16 - m : Nat) : Int) := by rw [wrap64_small _ (by omega) (by omega)]; omega
    have hlt : ((16 - (m + 1) : Nat) : Int) < 16 := by omega
    have ihA := ih k (nextY y / 2) (2 * f + 1) (by omega) (by omega) (by omega) (by omega)
    have ihB := ih k (nextY y) (2 * f) (by omega) (by omega) (by omega) (by omega)
    rw [en] at ihA ihB
    have hfr : frac (m + 1) y f = if nextY y ≥ 4294967296 then frac m (nextY y / 2) (2 * f + 1) else frac m (nextY y) (2 * f) := rfl
    rw [hfr]
    have hny : IntKind.u64.wrap (y * y) / 2147483648 = nextY y := rfl
    constructor
    · simp only [hash_Log.l1]
      rw [if_pos hlt, hi, hny]
      by_cases hb : nextY y ≥ 4294967296
      · rw [if_pos hb, if_pos hb, or_one (A + f) (by omega) (by omega), show 2 * (A + f) + 1 = 2 * A + (2 * f + 1) from by omega]
        exact ihA.1
      · rw [if_neg hb, if_neg hb, show ((A + f) * 2) % 4294967296 = 2 * A + 2 * f from by omega]
        exact ihB.1
    · simp only [reefref01_Log.l1]
      rw [if_pos hlt, hi, hny]
      by_cases hb : nextY y ≥ 4294967296
      · rw [if_pos hb, if_pos hb, show (((f * 2) % 4294967296) + 1) % 4294967296 = 2 * f + 1 from by omega]
        exact ihA.2
      · rw [if_neg hb, if_neg hb, show (f * 2) % 4294967296 = 2 * f from by omega]
        exact ihB.2
theorem log_l0 (x : Int) (hx0 : 1 ≤ x) (hx : x ≤ 65536) (K : Nat) (hK : 60 ≤ K) : ∀ (d j : Nat), j + d = 16 → (0 < j → 1 < x / 2 ^ (j - 1)) → ∃ n : Nat, n ≤ 16 ∧ (0 < n → 1 < x / 2 ^ (n - 1)) ∧
    hash_Log.l0 (K - j) x j = hash_Log.l1 (K - n - 1) (shl .u64 (IntKind.u64.wrap x) ((31 - (n : Int)) % 4294967296)) n 0 ∧
    reefref01_Log.l0 (K - j) x j = reefref01_Log.l1 (K - n - 1) n (shl .u64 (IntKind.u64.wrap x) ((31 - (n : Int)) % 4294967296)) 0 0 := by
  intro d
  induction d with
  | zero =>
    intro j hj hp
    obtain rfl : j = 16 := by omega
    refine ⟨16, by omega, hp, ?_, ?_⟩
    · rw [show K - 16 = (K - 16 - 1) + 1 from by omega]
      simp only [hash_Log.l0]
      rw [if_pos (by decide), if_neg (by unfold shr; show ¬ x / 2 ^ 16 > 1; omega)]
      rw [show (K - 16 - 1 + 1 - 1) = K - 16 - 1 from by omega]
    · rw [show K - 16 = (K - 16 - 1) + 1 from by omega]
      simp only [reefref01_Log.l0]
      rw [if_pos (by decide), if_neg (by unfold shr; show ¬ x / 2 ^ 16 > 1; omega)]
      rw [show (K - 16 - 1 + 1 - 1) = K - 16 - 1 from by omega]
  | succ d ih =>
    intro j hj hp
    have hs : shr .u32 x (j : Int) = x / 2 ^ j := by unfold shr; rw [Int.toNat_natCast, Nat.min_eq_left (show j ≤ IntKind.u32.bits from by show j ≤ 32; omega)]
    have hj1 : (((j : Int) + 1) % 4294967296) = ((j + 1 : Nat) : Int) := by omega
    by_cases hb : x / 2 ^ j > 1
    · obtain ⟨n, h1, h2, h3, h4⟩ := ih (j + 1) (by omega) (fun _ => by simpa using hb)
      refine ⟨n, h1, h2, ?_, ?_⟩
      · rw [show K - j = (K - (j + 1)) + 1 from by omega]
        simp only [hash_Log.l0]
        rw [if_pos (by omega), hs, if_pos hb, hj1, h3]
      · rw [show K - j = (K - (j + 1)) + 1 from by omega]
        simp only [reefref01_Log.l0]
        rw [if_pos (by omega), hs, if_pos hb, hj1, h4]
    · refine ⟨j, by omega, hp, ?_, ?_⟩
      · rw [show K - j = (K - j - 1) + 1 from by omega]
        simp only [hash_Log.l0]
        rw [if_pos (by omega), hs, if_neg hb]
        rw [show (K - j - 1 + 1 - 1) = K - j - 1 from by omega]
      · rw [show K - j = (K - j - 1) + 1 from by omega]
        simp only [reefref01_Log.l0]
        rw [if_pos (by omega), hs, if_neg hb]
        rw [show (K - j - 1 + 1 - 1) = K - j - 1 from by omega]
theorem mono_up {α : Type} (f : Nat → Option α) (h : ∀ k, LeO (f k) (f (k + 1))) {k K : Nat} (hk : k ≤ K) {v : α} (e : f k = some v) : f K = some v := by
  obtain ⟨d, rfl⟩ := Nat.le.dest hk
  clear hk
  induction d with
  | zero => exact e
  | succ d ih => exact h _ _ ih
theorem log_at (x : Int) (hx0 : 1 ≤ x) (hx : x ≤ 65536) : ∃ v : Int, (∀ K, 60 ≤ K → hash_Log.f K x = some v) ∧ (∀ K, 60 ≤ K → reefref01_Log.f K x = some v) ∧ 0 ≤ v ∧ v ≤ 1048576 := by
  obtain ⟨n, h1, h2, h3, h4⟩ := log_l0 x hx0 hx 60 (by omega) 16 0 rfl (fun h => absurd h (by omega))
  obtain ⟨a1, a2⟩ := log_l1 n h1 16 (60 - n - 1) (shl .u64 (IntKind.u64.wrap x) ((31 - (n : Int)) % 4294967296)) 0 (by omega) (by omega) (by omega) (by decide)
  have hf := frac_range 16 (shl .u64 (IntKind.u64.wrap x) ((31 - (n : Int)) % 4294967296)) 0 (by omega) (by decide) (by omega)
  have e1 : hash_Log.f 60 x = some ((n : Int) * 65536 + frac 16 (shl .u64 (IntKind.u64.wrap x) ((31 - (n : Int)) % 4294967296)) 0) := by
    unfold hash_Log.f
    rw [if_neg (by omega)]
    refine (h3.trans ?_)
    have e : ((n : Int) * 2 ^ (16 - 16) + 0) = n := by simp
    rw [e] at a1
    exact a1
  have e2 : reefref01_Log.f 60 x = some ((n : Int) * 65536 + frac 16 (shl .u64 (IntKind.u64.wrap x) ((31 - (n : Int)) % 4294967296)) 0) := by
    unfold reefref01_Log.f
    rw [if_neg (by omega)]
    exact h4.trans a2
  refine ⟨_, fun K hK => mono_up (fun k => hash_Log.f k x) (hash_Log.mono x) hK e1, fun K hK => mono_up (fun k => reefref01_Log.f k x) (reefref01_Log.mono x) hK e2, by omega, ?_⟩
  rcases Nat.lt_or_ge n 16 with h | h
  · omega
  · obtain rfl : n = 16 := by omega
    have hx2 := h2 (by omega)
    obtain rfl : x = 65536 := by
      have : (2 : Int) ^ (16 - 1) = 32768 := by decide
      rw [this] at hx2
      omega
    have : frac 16 (shl .u64 (IntKind.u64.wrap 65536) ((31 - ((16 : Nat) : Int)) % 4294967296)) 0 = 0 := by decide +kernel
    rw [this]; decide
def costS (x id r : Int) : Int := (crush_Cost.f 60 x id r).getD 0
theorem cost_at (x id r : Int) : (∀ K, 60 ≤ K → crush_Cost.f K x id r = some (costS x id r)) ∧ (∀ K, 60 ≤ K → reefref11_Cost.f K x id r = some (costS x id r)) ∧ 0 ≤ costS x id r ∧ costS x id r ≤ 1048576 := by
  have hu : 0 ≤ Go.bits .and .u32 (wordsW [x, id % 4294967296, r % 4294967296]) 65535 ∧ Go.bits .and .u32 (wordsW [x, id % 4294967296, r % 4294967296]) 65535 ≤ 65535 := by
    have h := wordsW_range [x, id % 4294967296, r % 4294967296]
    have := bits_mask .u32 32 (by decide) (fun n a b => by rw [IntKind.wrap_u32]; omega) 16 (by decide) _ h.1 h.2
    rw [show (65535 : Int) = 2 ^ 16 - 1 from by decide, this]
    omega
  obtain ⟨v, h1, h2, h3, h4⟩ := log_at ((Go.bits .and .u32 (wordsW [x, id % 4294967296, r % 4294967296]) 65535 + 1) % 4294967296) (by omega) (by omega)
  have hw : wrap64 (1048576 - wrap64 v) = 1048576 - v := by rw [wrap64_small v (by omega) (by omega), wrap64_small _ (by omega) (by omega)]
  have e : ∀ K, 60 ≤ K → crush_Cost.f K x id r = some (1048576 - v) := by
    intro K hK
    unfold crush_Cost.f hash_Words.f
    rw [Option.bind_some, h1 K hK, Option.bind_some, hw]
  have e0 : costS x id r = 1048576 - v := by unfold costS; rw [e 60 (by omega)]; rfl
  rw [e0]
  refine ⟨e, fun K hK => ?_, by omega, by omega⟩
  unfold reefref11_Cost.f
  rw [rwords_eq K _ (by simp) (by omega), Option.bind_some, h2 K hK, Option.bind_some, hw]
end Go.Proofs.Ytbaldkcnipmdjaa.P
namespace Go.Proofs.Ytbaldkcnipmdjaa.P
open Go.RowKit Go.Proofs.YtbaldkcnipmdjaaW.PrintWords Go.Proofs.YtbaldkcnipmdjaaW.PrintLast Go.Proofs.YtbaldkcnipmdjaaW.PrintMore
attribute [local go_sem] max2_int min2_int max_two min_two max_three min_three max_four min_four
set_option linter.unusedVariables false
set_option linter.unusedSimpArgs false
def bits_Mul64.f (a0 : Int) (a1 : Int) : Option (Int × Int) := some (IntKind.u64.wrap ((IntKind.u64.wrap ((IntKind.u64.wrap ((a0 / 4294967296) * (a1 / 4294967296))) + ((IntKind.u64.wrap ((IntKind.u64.wrap ((a0 / 4294967296) * (Go.bits .and .u64 a1 4294967295))) + ((IntKind.u64.wrap ((Go.bits .and .u64 a0 4294967295) * (Go.bits .and .u64 a1 4294967295))) / 4294967296))) / 4294967296))) + ((IntKind.u64.wrap ((Go.bits .and .u64 (IntKind.u64.wrap ((IntKind.u64.wrap ((a0 / 4294967296) * (Go.bits .and .u64 a1 4294967295))) + ((IntKind.u64.wrap ((Go.bits .and .u64 a0 4294967295) * (Go.bits .and .u64 a1 4294967295))) / 4294967296))) 4294967295) + (IntKind.u64.wrap ((Go.bits .and .u64 a0 4294967295) * (a1 / 4294967296))))) / 4294967296)), IntKind.u64.wrap (a0 * a1))
set_option maxHeartbeats 8000000 in
set_option maxRecDepth 100000 in
theorem bits_Mul64.calls (a0 : Int) (a1 : Int) (r1 : Int) (r2 : Int) (w : World) (h : bits_Mul64.f a0 a1 = some (r1, r2)) :
    Calls Try.prog 68 #[.int .u64 a0, .int .u64 a1] w fun e w' => e = .returned (.tuple #[.int .u64 r1, .int .u64 r2]) ∧ Drawn0 w w' := by
  have H : (some (IntKind.u64.wrap ((IntKind.u64.wrap ((IntKind.u64.wrap ((a0 / 4294967296) * (a1 / 4294967296))) + ((IntKind.u64.wrap ((IntKind.u64.wrap ((a0 / 4294967296) * (Go.bits .and .u64 a1 4294967295))) + ((IntKind.u64.wrap ((Go.bits .and .u64 a0 4294967295) * (Go.bits .and .u64 a1 4294967295))) / 4294967296))) / 4294967296))) + ((IntKind.u64.wrap ((Go.bits .and .u64 (IntKind.u64.wrap ((IntKind.u64.wrap ((a0 / 4294967296) * (Go.bits .and .u64 a1 4294967295))) + ((IntKind.u64.wrap ((Go.bits .and .u64 a0 4294967295) * (Go.bits .and .u64 a1 4294967295))) / 4294967296))) 4294967295) + (IntKind.u64.wrap ((Go.bits .and .u64 a0 4294967295) * (a1 / 4294967296))))) / 4294967296)), IntKind.u64.wrap (a0 * a1))) = some (r1, r2) := h
  clear h
  simp only [Option.some.injEq, Prod.mk.injEq] at H
  obtain ⟨rfl, rfl⟩ := H
  go_enter Try.func68, Try.ntmps68
  go_wp2
  go_ret2
  exact ⟨by first | rfl | (simp; done) | (simp [*]; done), by repeat (first | exact Drawn0.refl _ | apply Drawn0.step)⟩
end Go.Proofs.Ytbaldkcnipmdjaa.P
