import Derived.Test.YtbdciklcckjknaaWMore
import Derived.Deep.Slices
import Derived.SizedLaws
import Derived.WideShapes
import Derived.ChangeArms
namespace Go.Proofs.YtbdciklcckjknaaW.HO
open Go.RowKit Go.Proofs.YtbdciklcckjknaaW.PrintWords Go.ChangeShapes Go.WideShapes
set_option linter.unusedVariables false
set_option linter.unusedSectionVars false

/-! what a law is handed, opened: any type that is made of numbers, bools, strings, structs and slices -/
section
variable {H : Type} {enc : TypeId × Value → H} {P : Program} {W : World}
/-- Whatever reads at type t is of kind d, and B holds of it. -/
structure Opn (enc : TypeId × Value → H) (P : Program) (W : World) (t : TypeId) {α : Type} (d : Kd α) (B : α → Prop) : Prop where
  go : ∀ (fuel : Nat) (cs : List Value) (D : DataW H) (ps : List MemPlace), DataW.trod enc P W 0 (fun _ => true) true fuel t cs = some (D, ps) → (∀ n ∈ D.weights P t, n ≤ reachBytes) → ∃ x, d.K W x cs ∧ B x
theorem Opn.int {t : TypeId} {k : IntKind} (hu : P.underlying t = some (.int k)) : Opn enc P W t (Kd.int k) (fun x => (Lit.int k x).wf = true) := ⟨fun fuel cs D ps h _ => by
  obtain ⟨n, rfl, _, hw⟩ := DataW.trod_int hu h
  exact ⟨n, rfl, hw⟩⟩
theorem Opn.bool {t : TypeId} (hu : P.underlying t = some .bool) : Opn enc P W t Kd.bool (fun _ => True) := ⟨fun fuel cs D ps h _ => by
  obtain ⟨n, rfl, _⟩ := DataW.trod_bool hu h
  exact ⟨n, rfl, trivial⟩⟩
theorem Opn.string {t : TypeId} (hu : P.underlying t = some .string) : Opn enc P W t Kd.string (fun s => s.size ≤ 140737488351232) := ⟨fun fuel cs D ps h hw => by
  obtain ⟨s, rfl, hx, _⟩ := DataW.trod_string hu h
  have hD := congrArg Prod.fst hx
  dsimp only at hD
  subst hD
  refine ⟨s, rfl, ?_⟩
  have := hw s.data.toList.length (by simp [DataW.weights])
  rw [Array.length_toList] at this
  exact this⟩
/-- The fields of a struct from cell off on. -/
structure OpnF (enc : TypeId × Value → H) (P : Program) (W : World) (fs : List Field) (off : Nat) {α : Type} (d : Kd α) (B : α → Prop) : Prop where
  go : ∀ (fuel : Nat) (cs : List Value) (xs : List (DataW H × List MemPlace)), xs.length = fs.length → (∀ (i : Nat) (f : Field), fs[i]? = some f → DataW.trod enc P W 0 (fun _ => true) true fuel f.type ((cs.drop f.offset).take (P.cellsOf f.type)) = xs[i]?) →
    (∀ n ∈ DataW.weightsEach P (fs.map (·.type)) (xs.map (·.1)), n ≤ reachBytes) → ∃ x, d.K W x ((cs.drop off).take d.sz) ∧ B x
theorem OpnF.last {f : Field} {off : Nat} {α : Type} {d : Kd α} {B : α → Prop} (ho : f.offset = off) (hc : P.cellsOf f.type = d.sz) (h : Opn enc P W f.type d B) : OpnF enc P W [f] off d B := ⟨fun fuel cs xs hl hx hw => by
  match xs, hl with
  | [y], _ =>
    have h0 := hx 0 f rfl
    rw [ho, hc] at h0
    exact h.go fuel _ _ _ h0 (fun n hn => hw n (by simp [DataW.weightsEach, hn]))⟩
theorem OpnF.cons {f : Field} {fs : List Field} {off off' : Nat} {α β : Type} {a : Kd α} {b : Kd β} {A : α → Prop} {B : β → Prop} (ho : f.offset = off) (hc : P.cellsOf f.type = a.sz) (ho' : off + a.sz = off') (h : Opn enc P W f.type a A) (hs : OpnF enc P W fs off' b B) :
    OpnF enc P W (f :: fs) off (Kd.pair a b) (fun x => A x.1 ∧ B x.2) := ⟨fun fuel cs xs hl hx hw => by
  match xs, hl with
  | y :: ys, hl =>
    have h0 := hx 0 f rfl
    rw [ho, hc] at h0
    obtain ⟨x0, k0, b0⟩ := h.go fuel _ y.1 y.2 h0 (fun n hn => hw n (by simp [DataW.weightsEach, hn]))
    obtain ⟨x1, k1, b1⟩ := hs.go fuel cs ys (by simpa using hl) (fun i g hg => hx (i + 1) g hg) (fun n hn => hw n (by simp only [List.map_cons, DataW.weightsEach, List.mem_append]; exact .inr hn))
    refine ⟨(x0, x1), ⟨_, _, ?_, k0, k1⟩, b0, b1⟩
    show List.take (a.sz + b.sz) (List.drop off cs) = _
    rw [List.take_add, List.drop_drop, ho']⟩
theorem Opn.struct {t : TypeId} {fs : Array Field} {α β : Type} {d : Kd α} {B : α → Prop} (hu : P.underlying t = some (.struct fs)) (hc : P.cellsOf t = d.sz) (h : OpnF enc P W fs.toList 0 d B) (f : β → α) (g : α → β) (hg : ∀ x, f (g x) = x) :
    Opn enc P W t (Kd.iso d f) (fun y => B (f y)) := ⟨fun fuel cs D ps hx hw => by
  obtain ⟨xs, k, hk, hxy, hcl, hxl, hf⟩ := DataW.trod_struct hu hx
  have hD := congrArg Prod.fst hxy
  dsimp only at hD
  subst hD
  obtain ⟨x, hK, hB⟩ := h.go k cs xs (by simpa using hxl) (fun i f' hf' => hf i f' (by simpa using hf')) (fun n hn => hw n (by simp [DataW.weights, hu]; simpa using hn))
  rw [List.drop_zero, ← hc, ← hcl, List.take_length] at hK
  exact ⟨g x, by show d.K W (f (g x)) cs; rw [hg]; exact hK, by show B (f (g x)); rw [hg]; exact hB⟩⟩
theorem weightsAll_mem {e : TypeId} {l : List (DataW H)} {D : DataW H} (hD : D ∈ l) {n : Nat} (hn : n ∈ D.weights P e) : n ∈ DataW.weightsAll P e l := by
  induction l with
  | nil => cases hD
  | cons y l ih =>
    rw [DataW.weightsAll, List.mem_append]
    rcases List.mem_cons.1 hD with rfl | h
    · exact .inl hn
    · exact .inr (ih h)
theorem Opn.slice {t e : TypeId} {α : Type} {d : Kd α} {B : α → Prop} {bytes : Nat} (hu : P.underlying t = some (.slice e)) (hc : P.cellsOf e = d.sz) (hb : P.bytesOf e = bytes) (h : Opn enc P W e d B) :
    Opn enc P W t (Kd.slice e d) (fun xs => xs.length * bytes ≤ 140737488351232 ∧ ∀ x ∈ xs, B x) := ⟨fun fuel cs D ps hx hw => by
  rcases Deep.open_slice hu hx with ⟨rfl, _⟩ | ⟨x, l, c, m, n, Dd, Pl, rfl, _, hl, hm, hmm, hxx, hi⟩
  · exact ⟨[], ⟨none, 0, rfl, Nat.le_refl _, rfl, by simp, fun h => absurd h (Nat.lt_irrefl _)⟩, by simp, fun x hx => by cases hx⟩
  · have hD := congrArg Prod.fst hxx
    dsimp only at hD
    subst hD
    have hlm : l ≤ m := by rw [hmm]; split <;> omega
    rcases Nat.eq_zero_or_pos l with rfl | hpos
    · exact ⟨[], ⟨some x, c, rfl, Nat.zero_le _, rfl, by simp, fun h => absurd h (Nat.lt_irrefl _)⟩, by simp, fun x hx => by cases hx⟩
    have hv0 : ∀ i, i < l → ∃ v cs', cs'.length = d.sz ∧ d.K W v cs' ∧ B v ∧ (∀ q u, cs'[q]? = some u → W.cell? (x.add (i * d.sz + q)) = some u) := fun i hil => by
      obtain ⟨cs', h1, h2⟩ := hi i (by omega)
      obtain ⟨_, hlen, hcell⟩ := World.cells?_some h1
      obtain ⟨v, hK, hB⟩ := h.go n cs' (Dd i) (Pl i) h2 (fun n hn => hw n (by
        simp only [DataW.weights, hu, List.mem_cons, List.mem_append]
        exact .inr (.inl (weightsAll_mem (List.mem_map.2 ⟨i, List.mem_range.2 hil, rfl⟩) hn))))
      refine ⟨v, cs', by rw [← hc]; exact hlen, hK, hB, fun q u hq => ?_⟩
      have hq' : q < P.cellsOf e := by have := (List.getElem?_eq_some_iff.1 hq).1; omega
      have := hcell q hq'
      rw [Deep.add_add, hc] at this
      exact this.trans hq
    obtain ⟨z, _⟩ := hv0 0 hpos
    have hv : ∀ i, ∃ v, i < l → ∃ cs', cs'.length = d.sz ∧ d.K W v cs' ∧ B v ∧ (∀ q u, cs'[q]? = some u → W.cell? (x.add (i * d.sz + q)) = some u) := fun i => by
      by_cases hil : i < l
      · obtain ⟨v, h2⟩ := hv0 i hil
        exact ⟨v, fun _ => h2⟩
      · exact ⟨z, fun h => absurd h hil⟩
    let f : Nat → α := fun i => Classical.choose (hv i)
    have hf := fun i => Classical.choose_spec (hv i)
    have hlen : ((List.range l).map f).length = l := by simp
    refine ⟨(List.range l).map f, ⟨some x, c, by rw [hlen], by rw [hlen]; exact hl, by rw [hlen], by rw [hlen]; unfold maxLen at hm; omega, fun _ => ⟨x, rfl, fun j p hp => ?_⟩⟩, ?_, ?_⟩
    · have hjl : j < l := by have := (List.getElem?_eq_some_iff.1 hp).1; simpa using this
      obtain rfl : f j = p := by have := (List.getElem?_eq_some_iff.1 hp).2; simpa using this
      obtain ⟨cs', h1, h2, _, h4⟩ := hf j hjl
      exact ⟨cs', h1, h2, h4⟩
    · rw [hlen]
      have := hw _ (by simp only [DataW.weights, hu]; exact List.mem_cons_self)
      rw [hb] at this
      simp only [List.length_map, List.length_range, reachBytes] at this
      exact Nat.le_trans (Nat.mul_le_mul_right _ (Nat.le_add_right _ _)) this
    · intro y hy
      obtain ⟨j, hj, rfl⟩ := List.mem_map.1 hy
      obtain ⟨_, _, _, h3, _⟩ := hf j (List.mem_range.1 hj)
      exact h3⟩
/-- An argument, opened. -/
theorem Opn.arg {t : TypeId} {α : Type} {d : Kd α} {B : α → Prop} (h : Opn enc P W t d B) {ts : List TypeId} {ds : List (DataW H)} {j : Nat} {D : DataW H} {v : Value} {ps : List MemPlace}
    (hsz : (DataW.weightsEach P ts ds).all (· ≤ reachBytes) = true) (ht : ts[j]? = some t) (hd : ds[j]? = some D) (hx : DataW.Trod enc P W 0 (fun _ => true) true t v D ps) : ∃ x, d.K W x v.cells.toList ∧ B x := by
  obtain ⟨fuel, hf⟩ := hx
  exact h.go fuel _ D ps hf (fun n hn => by simpa using List.all_eq_true.1 hsz _ (DataW.weights_mem_each ht hd n hn))
theorem wf_i64 {n : Int} (h : (Lit.int .i64 n).wf = true) : -9223372036854775808 ≤ n ∧ n ≤ 9223372036854775807 := by
  simpa [Lit.wf, IntKind.min, IntKind.max, IntKind.signed, IntKind.bits] using h
theorem wf_u32 {n : Int} (h : (Lit.int .u32 n).wf = true) : 0 ≤ n ∧ n ≤ 4294967295 := by
  simpa [Lit.wf, IntKind.min, IntKind.max, IntKind.signed, IntKind.bits] using h
theorem wf_u64 {n : Int} (h : (Lit.int .u64 n).wf = true) : 0 ≤ n ∧ n ≤ 18446744073709551615 := by
  simpa [Lit.wf, IntKind.min, IntKind.max, IntKind.signed, IntKind.bits] using h
end
end Go.Proofs.YtbdciklcckjknaaW.HO
