import Derived.Test.YtpaapnkpijincaaShelf
import Derived.Test.YtpaapnkpijincaaHB
import Derived.Sort.OwnSortedInts
namespace Go.Proofs.Ytpaapnkpijincaa.P
open Go.RowKit Go.Proofs.YtpaapnkpijincaaW.PrintWords Go.Proofs.YtpaapnkpijincaaW.PrintLast Go.Proofs.YtpaapnkpijincaaW.PrintMore Go.Proofs.YtpaapnkpijincaaW.HB
set_option linter.unusedVariables false

/-! slices.Sort and slices.Compact at a row of ints of the call's own -/
theorem Reps_int {k : IntKind} {w : World} {base : Nat} {ok : Nat → Prop} (xs : List Int) (cs : List Value) : Reps ((Kd.int k).M w base ok) 1 xs cs ↔ cs = xs.map (Value.int k) := by
  constructor
  · rintro ⟨h1, h2⟩
    apply List.ext_getElem (by simpa using h1)
    intro j hj hj'
    have hx : j < xs.length := by simpa using hj'
    have h3 := congrArg (fun l : List Value => l[0]?) (Kd.int_openM (h2 j xs[j] (List.getElem?_eq_getElem hx)))
    simp [List.getElem?_drop, List.getElem?_eq_getElem hj] at h3
    simpa using h3
  · rintro rfl
    refine ⟨by simp, fun j p hj => ?_⟩
    obtain ⟨hlt, rfl⟩ := List.getElem?_eq_some_iff.1 hj
    rw [Nat.mul_one, List.drop_eq_getElem_cons (by simpa using hlt)]
    simpa using Kd.int_mkM w base ok xs[j]
theorem own_of_R {k : IntKind} {e : Nat} {w : World} {base : Nat} {ok : Nat → Prop} {v : Value} {xs : List Int} (h : Kd.R (Kd.int k) e w base ok v xs) : w.ownsRow base e 1 v xs.length (xs.map (Value.int k)) := by
  obtain ⟨_, inner, ho, hr⟩ := h
  rw [← (Reps_int xs inner).1 hr]
  exact ho
theorem R_of_own {k : IntKind} {e : Nat} {w : World} {base : Nat} {ok : Nat → Prop} {v : Value} {xs : List Int} (h0 : ∀ b, v.ownBlock = some b → ok b) (h : w.ownsRow base e 1 v xs.length (xs.map (Value.int k))) : Kd.R (Kd.int k) e w base ok v xs :=
  ⟨h0, _, h, (Reps_int xs _).2 rfl⟩
theorem sort_R (A : Option Addr) (c : Nat) (xs : List Int) (e base : Nat) (ok : Nat → Prop) (w : World) (hR : Kd.R (Kd.int .i64) e w base ok (.slice A xs.length c) xs) (hl : xs.length < 4611686018427387904) :
    Calls Try.prog 37 #[.slice A xs.length c] w fun e' w' => e' = .returned (.tuple #[]) ∧ Kd.R (Kd.int .i64) e w' base ok (.slice A xs.length c) (xs.mergeSort fun x y => decide (x ≤ y)) ∧ ∃ row, w.grownBy w' row ∧ ∀ k, row = some k → (Value.slice A xs.length c).ownBlock = some k := by
  have h0 := hR.1
  rcases (own_of_R hR).2 with ⟨h1, _⟩ | ⟨g, cap, cur, hv, hb, hg, hc1, hc2, hc3, hc4⟩
  · injection h1 with h1 h2 h3
    subst h1 h3
    obtain rfl := List.eq_nil_of_length_eq_zero h2
    refine (Try.slices_Sort_int_none none 0 w).mono ?_
    rintro e' w' ⟨rfl, rfl⟩
    exact ⟨rfl, by simpa using hR, none, grown_of_below (Below.refl _ _) _, fun k e => by cases e⟩
  · injection hv with hv1 _ hv3
    subst hv1 hv3
    rw [Nat.mul_one] at hc4
    refine (Try.slices_Sort_int g 0 c xs w (holds_of_blockI hg hc4) (Array.getElem?_eq_some_iff.1 hg).1 hl).mono ?_
    rintro e' w' ⟨rfl, n, os, rfl⟩
    refine ⟨rfl, R_of_own (by simpa using h0) ?_, some g, grownBy_sortedI _, fun k e => by cases e; rfl⟩
    have := ownsRow_sortedI (w := w) (base := base) (g := g) (cap := c) (n := n) (os := os) (ss := xs) (ts := xs.mergeSort fun x y => decide (x ≤ y)) (by simp) hb hg hc1 hc2 hc3
    simpa using this
theorem compact_le (xs : List Int) : (Lib.compact xs).length ≤ xs.length := by
  unfold Lib.compact Lib.compactUpTo
  rw [List.length_map]
  exact Nat.le_trans (List.length_filter_le _ _) (by simp)
theorem compact_R (A : Option Addr) (c : Nat) (xs : List Int) (e base : Nat) (ok : Nat → Prop) (w : World) (hR : Kd.R (Kd.int .i64) e w base ok (.slice A xs.length c) xs) (hl : xs.length < 4611686018427387904) :
    Calls Try.prog 38 #[.slice A xs.length c] w fun e' w' => e' = .returned (.slice A (Lib.compact xs).length c) ∧ Kd.R (Kd.int .i64) e w' base ok (.slice A (Lib.compact xs).length c) (Lib.compact xs) ∧ ∃ row, w.grownBy w' row ∧ ∀ k, row = some k → (Value.slice A xs.length c).ownBlock = some k := by
  have h0 := hR.1
  rcases (own_of_R hR).2 with ⟨h1, _⟩ | ⟨g, cap, cur, hv, hb, hg, hc1, hc2, hc3, hc4⟩
  · injection h1 with h1 h2 h3
    subst h1 h3
    obtain rfl := List.eq_nil_of_length_eq_zero h2
    have e0 : Lib.compact ([] : List Int) = [] := rfl
    refine (Try.slices_Compact_int_empty none 0 w).mono ?_
    rintro e' w' ⟨rfl, rfl⟩
    rw [e0]
    exact ⟨rfl, hR, none, grown_of_below (Below.refl _ _) _, fun k e => by cases e⟩
  · injection hv with hv1 _ hv3
    subst hv1 hv3
    rw [Nat.mul_one] at hc4
    have hle := compact_le xs
    refine (Try.slices_Compact_int g 0 c xs w (holds_of_blockI hg hc4) (by omega) hc1).mono ?_
    rintro e' w' ⟨rfl, q, rfl⟩
    generalize hcx : Lib.compact xs = cx at *
    have hts : (cx ++ List.replicate (xs.length - cx.length) (0 : Int)).length = xs.length := by simp; omega
    have hgr : ∀ W : World, Go.Sort.grow W #[] = W := fun W => by simp [Go.Sort.grow]
    rw [← hgr (Sort.putRow _ _ _ _ _)]
    have hsz : cur.size = c := by rw [hc3, Nat.mul_one]
    refine ⟨rfl, R_of_own (fun b hb' => h0 b (by simpa [Value.ownBlock] using hb')) ⟨by simp, .inr ⟨g, c, _, rfl, hb, heap_sortedI _ hg, by omega, hc2, ?_, ?_⟩⟩, some g, grownBy_sortedI _, fun k e => by cases e; rfl⟩
    · simp [Sort.putCells, hc3]
    · have h2 := take_putCellsI cur (cx ++ List.replicate (xs.length - cx.length) (0 : Int)) (by rw [hts, hsz]; exact hc1)
      have h3 := congrArg (List.take cx.length) h2
      rw [List.take_take, Nat.min_eq_left (by rw [hts]; exact hle), List.map_append, List.take_append_of_le_length (by simp)] at h3
      rw [Nat.mul_one]
      exact h3.trans (List.take_of_length_le (by simp))
theorem own_base6 {α : Type} {d : Kd α} {e : Nat} {w : World} {base : Nat} {ok : Nat → Prop} {v : Value} {xs : List α} (h : d.R e w base ok v xs) (k : Nat) (hk : v.ownBlock = some k) : base ≤ k := ((Kd.R_bound h).1 k hk).2.1
theorem compact_Rn (A : Option Addr) (c n : Nat) (xs : List Int) (e base : Nat) (ok : Nat → Prop) (w : World) (hn : xs.length = n) (hR : Kd.R (Kd.int .i64) e w base ok (.slice A n c) xs) (hl : n < 4611686018427387904) :
    Calls Try.prog 38 #[.slice A n c] w fun e' w' => e' = .returned (.slice A (Lib.compact xs).length c) ∧ Kd.R (Kd.int .i64) e w' base ok (.slice A (Lib.compact xs).length c) (Lib.compact xs) ∧ ∃ row, w.grownBy w' row ∧ ∀ k, row = some k → (Value.slice A n c).ownBlock = some k := by
  subst hn
  exact compact_R A c xs e base ok w hR hl
end Go.Proofs.Ytpaapnkpijincaa.P
