import Derived.Test.YtgnaippmncnlaaaP0
import Derived.Deep.SlicePairs
import Derived.SizedLaws
namespace Go.Proofs.Ytgnaippmncnlaaa.P
open Go.RowKit Go.Proofs.YtgnaippmncnlaaaW.PrintWords Go.Proofs.YtgnaippmncnlaaaW.PrintLast Go.Proofs.YtgnaippmncnlaaaW.PrintMore
open Go.ChangeShapes Go.WideShapes
set_option linter.unusedVariables false

/-- An argument that is a slice of extents, opened. -/
theorem open_E {H : Type} {enc : TypeId × Value → H} {W : World} {base : Nat} {spare : Nat → Bool} {held : Bool} {a : Option Addr} {len cap : Nat} {d : DataW H} {ps : List MemPlace} {ts : List TypeId} {ds : List (DataW H)} {j : Nat}
    (hsz : (DataW.weightsEach Try.prog ts ds).all (· ≤ reachBytes) = true) (ht : ts[j]? = some 22) (hd : ds[j]? = some d) (h : DataW.Trod enc Try.prog W base spare held 22 (.slice a len cap) d ps) :
    ∃ xs : List S47, xs.length = len ∧ len ≤ cap ∧ Kd.C k47 W a len xs ∧ len * 16 ≤ 140737488351232 := by
  obtain ⟨fuel, hf⟩ := h
  rcases Deep.open_slice_pairs Try.underlying22 Try.underlying47 (by kernel_rfl) rfl rfl (by kernel_rfl) (by kernel_rfl) hf with ⟨hcs, _⟩ | ⟨x, l, c, m, n, V0, V1, D0, D1, P0, P1, hcs, _, hl, hm, hmm, hx, hi⟩
  · simp [Value.cells] at hcs
    obtain ⟨rfl, rfl, rfl⟩ := hcs
    exact ⟨[], rfl, Nat.le_refl _, ⟨rfl, by omega, fun h => absurd h (Nat.lt_irrefl _)⟩, by omega⟩
  · simp [Value.cells] at hcs
    obtain ⟨rfl, rfl, rfl⟩ := hcs
    have hlm : len ≤ m := by rw [hmm]; split <;> omega
    have hv : ∀ i, ∃ s : S47, i < m → V0 i = .int .i64 s.f0 ∧ V1 i = .int .i64 s.f1 := fun i => by
      by_cases h : i < m
      · obtain ⟨_, _, t0, t1⟩ := hi i h
        obtain ⟨u0, e0, _, _⟩ := DataW.trod_int Try.underlying3 t0
        obtain ⟨u1, e1, _, _⟩ := DataW.trod_int Try.underlying3 t1
        exact ⟨⟨u0, u1⟩, fun _ => ⟨by simpa using e0, by simpa using e1⟩⟩
      · exact ⟨⟨0, 0⟩, fun h' => absurd h' h⟩
    let f : Nat → S47 := fun i => Classical.choose (hv i)
    have hf' : ∀ i, i < m → V0 i = .int .i64 (f i).f0 ∧ V1 i = .int .i64 (f i).f1 := fun i => Classical.choose_spec (hv i)
    have hw : len * 16 ≤ 140737488351232 := by
      have hd' : ds[j]? = some (.slice ((List.range len).map fun i => .agg [D0 i, D1 i]) ((List.range (m - len)).map fun j => .agg [D0 (len + j), D1 (len + j)])) := by rw [hd]; exact congrArg some (Prod.mk.inj hx).1
      have := sized_slice hsz ht hd' Try.underlying22
      have e : Try.prog.bytesOf 47 = 16 := by kernel_rfl
      rw [e] at this
      simp only [List.length_map, List.length_range, reachBytes] at this
      omega
    refine ⟨(List.range len).map f, by simp, hl, ⟨by simp, by omega, fun _ => ⟨_, rfl, fun i p hp => ?_⟩⟩, hw⟩
    have hil : i < len := by
      have := (List.getElem?_eq_some_iff.1 hp).1
      simpa using this
    obtain rfl : f i = p := by
      have := (List.getElem?_eq_some_iff.1 hp).2
      simpa using this
    obtain ⟨c0, c1, _, _⟩ := hi i (by omega)
    obtain ⟨v0, v1⟩ := hf' i (by omega)
    refine ⟨[.int .i64 (f i).f0, .int .i64 (f i).f1], rfl, k47_mk _ (f i), fun q u hq => ?_⟩
    match q, hq with
    | 0, hq => cases hq; rw [← v0]; exact c0
    | 1, hq => cases hq; rw [← v1]; exact c1
    | q + 2, hq => simp at hq
end Go.Proofs.Ytgnaippmncnlaaa.P
