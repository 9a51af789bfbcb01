import Derived.Test.YtbdciklcckjknaaShelf
import Derived.Test.YtbdciklcckjknaaHB
import Derived.Sort.OwnSorted
namespace Go.Proofs.Ytbdciklcckjknaa.P
open Go.RowKit Go.Proofs.YtbdciklcckjknaaW.PrintWords Go.Proofs.YtbdciklcckjknaaW.PrintLast Go.Proofs.YtbdciklcckjknaaW.PrintMore Go.Proofs.YtbdciklcckjknaaW.HB
set_option linter.unusedVariables false

/-! slices.Sort and slices.Compact at a row of strings of the call's own -/
def tl (xs : List ByteArray) : List (List UInt8) := xs.map (fun b => b.data.toList)
def fl (ss : List (List UInt8)) : List ByteArray := ss.map (fun l => ⟨l.toArray⟩)
theorem fl_tl (xs : List ByteArray) : fl (tl xs) = xs := by
  unfold fl tl
  rw [List.map_map]
  conv => rhs; rw [← List.map_id xs]
  rfl
theorem tl_len (xs : List ByteArray) : (tl xs).length = xs.length := by simp [tl]
theorem fl_len (xs : List (List UInt8)) : (fl xs).length = xs.length := by simp [fl]
theorem enc_fl (ss : List (List UInt8)) : (fl ss).map Value.string = ss.map encStr := by simp [fl, encStr]
theorem enc_tl (xs : List ByteArray) : xs.map Value.string = (tl xs).map encStr := by rw [← enc_fl, fl_tl]
theorem Reps_str {w : World} {base : Nat} {ok : Nat → Prop} (xs : List ByteArray) (cs : List Value) : Reps (Kd.string.M w base ok) 1 xs cs ↔ cs = xs.map Value.string := by
  constructor
  · rintro ⟨h1, h2⟩
    apply List.ext_getElem (by simpa using h1)
    intro j hj hj'
    have hx : j < xs.length := by simpa using hj'
    have h3 : List.take 1 (List.drop (j * 1) cs) = [.string xs[j]] := h2 j xs[j] (List.getElem?_eq_getElem hx)
    have h3 := congrArg (fun l : List Value => l[0]?) h3
    simp [List.getElem?_drop, List.getElem?_eq_getElem hj] at h3
    simpa using h3
  · rintro rfl
    refine ⟨by simp, fun j p hj => ?_⟩
    obtain ⟨hlt, rfl⟩ := List.getElem?_eq_some_iff.1 hj
    rw [Nat.mul_one, List.drop_eq_getElem_cons (by simpa using hlt)]
    have : Kd.string.M w base ok xs[j] [.string xs[j]] := rfl
    simpa using this
theorem ownS_of_R {e : Nat} {w : World} {base : Nat} {ok : Nat → Prop} {v : Value} {xs : List ByteArray} (h : Kd.R Kd.string e w base ok v xs) : w.ownsRow base e 1 v xs.length ((tl xs).map encStr) := by
  obtain ⟨_, inner, ho, hr⟩ := h
  rw [← enc_tl, ← (Reps_str xs inner).1 hr]
  exact ho
theorem RS_of_own {e : Nat} {w : World} {base : Nat} {ok : Nat → Prop} {v : Value} {ss : List (List UInt8)} (h0 : ∀ b, v.ownBlock = some b → ok b) (h : w.ownsRow base e 1 v ss.length (ss.map encStr)) : Kd.R Kd.string e w base ok v (fl ss) :=
  ⟨h0, _, by rw [fl_len]; exact h, (Reps_str (fl ss) _).2 (enc_fl ss).symm⟩
theorem sort_S (A : Option Addr) (c n : Nat) (xs : List ByteArray) (e base : Nat) (ok : Nat → Prop) (w : World) (hn : xs.length = n) (hR : Kd.R Kd.string e w base ok (.slice A n c) xs) (hl : n < 4611686018427387904) :
    Calls Try.prog 33 #[.slice A n c] w fun e' w' => e' = .returned (.tuple #[]) ∧ Kd.R Kd.string e w' base ok (.slice A n c) (fl ((tl xs).mergeSort fun x y => decide (x ≤ y))) ∧ ∃ row, w.grownBy w' row ∧ ∀ k, row = some k → (Value.slice A n c).ownBlock = some k := by
  subst hn
  have h0 := hR.1
  rcases (ownS_of_R hR).2 with ⟨h1, _⟩ | ⟨g, cap, cur, hv, hb, hg, hc1, hc2, hc3, hc4⟩
  · injection h1 with h1 h2 h3
    subst h1 h3
    obtain rfl := List.eq_nil_of_length_eq_zero h2
    refine (Try.slices_Sort_string_none none 0 w).mono ?_
    rintro e' w' ⟨rfl, rfl⟩
    exact ⟨rfl, by simpa [tl, fl] using hR, none, grown_of_below (Below.refl _ _) _, fun k e => by cases e⟩
  · injection hv with hv1 _ hv3
    subst hv1 hv3
    rw [Nat.mul_one] at hc4
    have hlt := tl_len xs
    generalize htl : tl xs = ss at *
    rw [← hlt] at hl hc1 hc4 ⊢
    refine (Try.slices_Sort_string g 0 c ss w (holds_of_block hg hc4) (Array.getElem?_eq_some_iff.1 hg).1 hl).mono ?_
    rintro e' w' ⟨rfl, n, os, rfl⟩
    have := ownsRow_sorted (w := w) (base := base) (g := g) (cap := c) (n := n) (os := os) (ss := ss) (ts := ss.mergeSort fun x y => decide (x ≤ y)) (by simp) hb hg hc1 hc2 hc3
    refine ⟨rfl, RS_of_own (fun b hb' => h0 b (by simpa [Value.ownBlock] using hb')) (by simpa using this), some g, grownBy_sorted _, fun k e => by cases e; rfl⟩
theorem compactS_le (xs : List (List UInt8)) : (Lib.compact xs).length ≤ xs.length := by
  unfold Lib.compact Lib.compactUpTo
  rw [List.length_map]
  exact Nat.le_trans (List.length_filter_le _ _) (by simp)
theorem compact_S (A : Option Addr) (c n : Nat) (ss : List (List UInt8)) (e base : Nat) (ok : Nat → Prop) (w : World) (hn : ss.length = n) (hR : Kd.R Kd.string e w base ok (.slice A n c) (fl ss)) (hl : n < 4611686018427387904) :
    Calls Try.prog 34 #[.slice A n c] w fun e' w' => e' = .returned (.slice A (Lib.compact ss).length c) ∧ Kd.R Kd.string e w' base ok (.slice A (Lib.compact ss).length c) (fl (Lib.compact ss)) ∧ ∃ row, w.grownBy w' row ∧ ∀ k, row = some k → (Value.slice A n c).ownBlock = some k := by
  subst hn
  have h0 := hR.1
  have hown := ownS_of_R hR
  rw [fl_len, ← enc_tl, enc_fl] at hown
  rcases hown.2 with ⟨h1, _⟩ | ⟨g, cap, cur, hv, hb, hg, hc1, hc2, hc3, hc4⟩
  · injection h1 with h1 h2 h3
    subst h1 h3
    obtain rfl := List.eq_nil_of_length_eq_zero h2
    have e0 : Lib.compact ([] : List (List UInt8)) = [] := rfl
    refine (Try.slices_Compact_string_empty none 0 w).mono ?_
    rintro e' w' ⟨rfl, rfl⟩
    rw [e0]
    exact ⟨rfl, hR, none, grown_of_below (Below.refl _ _) _, fun k e => by cases e⟩
  · injection hv with hv1 _ hv3
    subst hv1 hv3
    rw [Nat.mul_one] at hc4
    have hle := compactS_le ss
    refine (Try.slices_Compact_string g 0 c ss w (holds_of_block hg hc4) (by omega) hc1).mono ?_
    rintro e' w' ⟨rfl, q, rfl⟩
    generalize hcx : Lib.compact ss = cx at *
    have hts : (cx ++ List.replicate (ss.length - cx.length) ([] : List UInt8)).length = ss.length := by simp; omega
    have hgr : ∀ W : World, Go.Sort.grow W #[] = W := fun W => by simp [Go.Sort.grow]
    rw [← hgr (Sort.putRow _ _ _ _ _)]
    have hsz : cur.size = c := by rw [hc3, Nat.mul_one]
    refine ⟨rfl, RS_of_own (fun b hb' => h0 b (by simpa [Value.ownBlock] using hb')) ⟨by simp, .inr ⟨g, c, _, rfl, hb, heap_sorted _ hg, by omega, hc2, ?_, ?_⟩⟩, some g, grownBy_sorted _, fun k e => by cases e; rfl⟩
    · simp [Sort.putCells, hc3]
    · have h2 := take_putCells cur (cx ++ List.replicate (ss.length - cx.length) ([] : List UInt8)) (by rw [hts, hsz]; exact hc1)
      have h3 := congrArg (List.take cx.length) h2
      rw [List.take_take, Nat.min_eq_left (by rw [hts]; exact hle), List.map_append, List.take_append_of_le_length (by simp)] at h3
      rw [Nat.mul_one]
      exact h3.trans (List.take_of_length_le (by simp))
end Go.Proofs.Ytbdciklcckjknaa.P
