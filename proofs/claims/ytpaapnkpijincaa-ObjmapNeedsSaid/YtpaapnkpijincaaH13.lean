import Derived.Test.YtpaapnkpijincaaP0
import Derived.Deep.SlicePairs
import Derived.SizedLaws
import Derived.WalkKit
import Derived.ProofKit
import Derived.OpenShut
import Derived.Test.YtpaapnkpijincaaWSized
namespace Go.Proofs.Ytpaapnkpijincaa.P
open Go.RowKit Go.Proofs.YtpaapnkpijincaaW.PrintWords Go.Proofs.YtpaapnkpijincaaW.PrintLast Go.Proofs.YtpaapnkpijincaaW.PrintMore
open Go.ChangeShapes Go.WideShapes Go.ChangeAt
set_option linter.unusedVariables false

set_option maxRecDepth 100000 in
/-- An argument that is a slice of fragments, opened. -/
theorem open_F {H : Type} {enc : TypeId × Value → H} {W : World} {base : Nat} {spare : Nat → Bool} {held : Bool} {a : Option Addr} {len cap : Nat} {d : DataW H} {ps : List MemPlace} {ts : List TypeId} {ds : List (DataW H)} {j : Nat}
    (hsz : (DataW.weightsEach Try.prog ts ds).all (· ≤ reachBytes) = true) (ht : ts[j]? = some 43) (hd : ds[j]? = some d) (h : DataW.Trod enc Try.prog W base spare held 43 (.slice a len cap) d ps) :
    ∃ xs : List S46, xs.length = len ∧ len ≤ cap ∧ Kd.C k46 W a len xs ∧ len * 32 ≤ 140737488351232 := by
  obtain ⟨fuel, hf⟩ := h
  rcases Deep.open_slice Try.underlying43 hf with ⟨hcs, _⟩ | ⟨x, l, c, m, n, D, Pl, hcs, _, hl, hm, hmm, hx, hi⟩
  · simp [Value.cells] at hcs
    obtain ⟨rfl, rfl, rfl⟩ := hcs
    exact ⟨[], rfl, Nat.le_refl _, ⟨rfl, by omega, fun h => absurd h (Nat.lt_irrefl _)⟩, by omega⟩
  · simp [Value.cells] at hcs
    obtain ⟨rfl, rfl, rfl⟩ := hcs
    have hlm : len ≤ m := by rw [hmm]; split <;> omega
    have ce : Try.prog.cellsOf 46 = 4 := by kernel_rfl
    have hv : ∀ i, ∃ s : S46, i < m → (∀ q u, ([.int .i64 s.f0, .int .i64 s.f1, .int .i64 s.f2, .int .i64 s.f3] : List Value)[q]? = some u → W.cell? (x.add (i * 4 + q)) = some u) := fun i => by
      by_cases h : i < m
      · obtain ⟨cs', h1, h2⟩ := hi i h
        rw [ce] at h1
        obtain ⟨_, hlen, hcell⟩ := World.cells?_some h1
        obtain ⟨xs, k, hk, hxy, _, hxl, hfd⟩ := DataW.trod_struct Try.underlying46 h2
        match xs, hxl, cs', hlen with
        | [y0, y1, y2, y3], _, [v0, v1, v2, v3], _ =>
          have g0 := hfd 0 _ rfl
          have g1 := hfd 1 _ rfl
          have g2 := hfd 2 _ rfl
          have g3 := hfd 3 _ rfl
          have c3 : Try.prog.cellsOf 3 = 1 := by kernel_rfl
          have c2 : Try.prog.cellsOf 2 = 1 := by kernel_rfl
          simp [c3, c2] at g0 g1 g2 g3
          obtain ⟨u0, e0, _, _⟩ := DataW.trod_int Try.underlying3 g0
          obtain ⟨u1, e1, _, _⟩ := DataW.trod_int Try.underlying2 g1
          obtain ⟨u2, e2, _, _⟩ := DataW.trod_int Try.underlying2 g2
          obtain ⟨u3, e3, _, _⟩ := DataW.trod_int Try.underlying2 g3
          simp at e0 e1 e2 e3
          subst e0 e1 e2 e3
          refine ⟨⟨u0, u1, u2, u3⟩, fun _ q u hq => ?_⟩
          have hq4 : q < 4 := by have := (List.getElem?_eq_some_iff.1 hq).1; simpa using this
          have := hcell q hq4
          rw [Deep.add_add] at this
          exact this.trans hq
      · exact ⟨⟨0, 0, 0, 0⟩, fun h' => absurd h' h⟩
    let f : Nat → S46 := fun i => Classical.choose (hv i)
    have hf' := fun i => Classical.choose_spec (hv i)
    have hw : len * 32 ≤ 140737488351232 := by
      have hd' : ds[j]? = some (.slice ((List.range len).map D) ((List.range (m - len)).map fun j => D (len + j))) := by rw [hd]; exact congrArg some (Prod.mk.inj hx).1
      have := sized_slice hsz ht hd' Try.underlying43
      have e : Try.prog.bytesOf 46 = 32 := by kernel_rfl
      rw [e] at this
      simp only [List.length_map, List.length_range, reachBytes] at this
      omega
    refine ⟨(List.range len).map f, by simp, hl, ⟨by simp, by omega, fun _ => ⟨_, rfl, fun i p hp => ?_⟩⟩, hw⟩
    have hil : i < len := by
      have := (List.getElem?_eq_some_iff.1 hp).1
      simpa using this
    obtain rfl : f i = p := by
      have := (List.getElem?_eq_some_iff.1 hp).2
      simpa using this
    exact ⟨_, rfl, k46_mk _ (f i), fun q u hq => hf' i (by omega) q u hq⟩
/-- An argument that is a slice of ints, opened. -/
theorem open_I {H : Type} {enc : TypeId × Value → H} {W : World} {base : Nat} {held : Bool} {a : Option Addr} {len cap : Nat} {d : DataW H} {ps : List MemPlace} {ts : List TypeId} {ds : List (DataW H)} {j : Nat}
    (hsz : (DataW.weightsEach Try.prog ts ds).all (· ≤ reachBytes) = true) (ht : ts[j]? = some 38) (hd : ds[j]? = some d) (h : DataW.Trod enc Try.prog W base (fun _ => true) held 38 (.slice a len cap) d ps) :
    ∃ xs : List Int, xs.length = len ∧ len ≤ cap ∧ Kd.C (Kd.int .i64) W a len xs ∧ len * 8 ≤ 140737488351232 := by
  have y : len * 8 ≤ 140737488351232 := Go.Proofs.YtpaapnkpijincaaW.PrintWords.sized_ints hsz ht hd Try.underlying38 Try.underlying3 (by kernel_rfl) (by kernel_rfl) h
  obtain ⟨fuel, hf⟩ := h
  have hrow : ∃ zs : List Int, (a = none ∧ len = 0 ∧ cap = 0 ∧ zs = []) ∨ ∃ x, a = some x ∧ len ≤ cap ∧ cap ≤ maxLen ∧ zs.length = cap ∧ (∀ i, i < zs.length → W.cell? (x.add i) = some (.int .i64 (zs.getD i 0))) ∧ ∀ n ∈ zs, (Lit.int .i64 n).wf = true := by
    rcases open_ints Try.underlying38 Try.underlying3 (by kernel_rfl) hf with ⟨hcs, _⟩ | ⟨x, l, c, zs, hcs, _, hl, hm, hz, _, hcell, hwz⟩
    · simp [Value.cells] at hcs
      obtain ⟨rfl, rfl, rfl⟩ := hcs
      exact ⟨[], .inl ⟨rfl, rfl, rfl, rfl⟩⟩
    · simp [Value.cells] at hcs
      obtain ⟨rfl, rfl, rfl⟩ := hcs
      exact ⟨zs, .inr ⟨_, rfl, hl, hm, by simpa using hz, hcell, hwz⟩⟩
  obtain ⟨zs, hr⟩ := hrow
  obtain ⟨l, rfl, h1, _, _, h2⟩ := ReadsInt.ofRowC hr
  exact ⟨l, rfl, h2, Kd.C_of_reads (d := (0 : Int)) (h1 := fun _ => rfl) h1, y⟩
end Go.Proofs.Ytpaapnkpijincaa.P
