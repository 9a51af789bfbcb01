import Derived.Test.YtbdciklcckjknaaWMore
import Derived.WalkSpells
namespace Go.Proofs.YtbdciklcckjknaaW.HB
open Go.RowKit Go.Proofs.YtbdciklcckjknaaW.PrintWords Go.Proofs.YtbdciklcckjknaaW.PrintLast Go.Proofs.YtbdciklcckjknaaW.PrintMore
set_option linter.unusedVariables false

theorem R_empty {α : Type} (d : Kd α) (e : Nat) (w : World) (base : Nat) (ok : Nat → Prop) (hb : base ≤ w.heap.size) (hok : ok w.heap.size) : d.R e (w.alloc (.cells #[] e)) base ok (.slice (some ⟨w.heap.size, 0, none⟩) 0 0) [] := by
  refine ⟨fun k hk => ?_, [], ?_, Reps.none _ _⟩
  · simp [Value.ownBlock] at hk
    exact hk ▸ hok
  · have := World.ownsRow_lit (e := e) (base := base) (size := d.sz) w #[] 0 hb (by simp [maxLen]) (by simp)
    simpa using this

theorem R_one {α : Type} {d : Kd α} {e : Nat} {w : World} {base : Nat} {ok : Nat → Prop} {x : α} {cs : Array Value} (hM : d.M (w.alloc (.cells cs e)) base (fun k => ok k ∧ k ≠ w.heap.size) x cs.toList) (hb : base ≤ w.heap.size) (hok : ok w.heap.size) :
    d.R e (w.alloc (.cells cs e)) base ok (.slice (some ⟨w.heap.size, 0, none⟩) 1 1) [x] := by
  have hl : cs.toList.length = d.sz := d.K_len (d.K_of_M hM)
  refine ⟨fun k hk => ?_, cs.toList, ?_, ?_⟩
  · simp [Value.ownBlock] at hk
    exact hk ▸ hok
  · have := World.ownsRow_lit (e := e) (base := base) (size := d.sz) w cs 1 hb (by simp [maxLen]) (by simpa using hl)
    simpa using this
  · have := Reps.snoc (Reps.none (d.M (w.alloc (.cells cs e)) base (fun k => ok k ∧ some k ≠ (Value.slice (some ⟨w.heap.size, 0, none⟩) 1 1).ownBlock)) d.sz) (d.M_mono (fun k hk => ⟨hk.1, by simp [Value.ownBlock]; exact hk.2⟩) hM) hl
    simpa using this

theorem Reps_take {α : Type} {R : α → List Value → Prop} {size : Nat} {ps : List α} {cs : List Value} (h : Reps R size ps cs) (m : Nat) (hm : m ≤ ps.length) : Reps R size (ps.take m) (cs.take (m * size)) := by
  refine ⟨?_, fun j p hj => ?_⟩
  · rw [List.length_take, List.length_take, h.1]
    rw [Nat.min_eq_left hm, Nat.min_eq_left (Nat.mul_le_mul_right _ hm)]
  · have hjm : j < m := by
      have := (List.getElem?_eq_some_iff.1 hj).1
      rw [List.length_take] at this
      omega
    rw [List.getElem?_take_of_lt hjm] at hj
    have h1 := h.2 j p hj
    have h2 : j * size + size ≤ m * size := by rw [← Nat.succ_mul]; exact Nat.mul_le_mul_right _ hjm
    rw [List.drop_take, List.take_take, Nat.min_eq_left (by omega)]
    exact h1

theorem zeroCells_one (z : Array Value) (n : Nat) (h1 : ∀ v ∈ z.toList, v.oneCell' = true) : ∀ v ∈ (Builtin.zeroCells z n).toList, v.oneCell' = true := by
  intro v hv
  simp [Builtin.zeroCells] at hv
  obtain ⟨i, hi, rfl⟩ := hv
  have hz : 0 < z.size := by
    rcases Nat.eq_zero_or_pos z.size with h | h
    · rw [h] at hi; omega
    · exact h
  have hlt : i % z.size < z.size := Nat.mod_lt _ hz
  rw [getElem!_pos z _ hlt]
  exact h1 _ (by simp)

theorem size_zeroCells (z : Array Value) (n : Nat) : (Builtin.zeroCells z n).size = n * z.size := by simp [Builtin.zeroCells]

theorem cell_fresh (w : World) (cs : Array Value) (t : TypeId) (o : Nat) (v : Value) (h : cs[o]? = some v) : (w.alloc (.cells cs t)).cell? ⟨w.heap.size, o, none⟩ = some v := by
  have : (w.alloc (.cells cs t)).heap[w.heap.size]? = some (.cells cs t) := by
    show (w.heap.push (.cells cs t))[w.heap.size]? = _
    simp
  unfold World.cell?
  rw [this]
  simpa using h

def idxOf {α : Type} (p : α → Bool) (l : List α) : Int := match l.findIdx? p with | some i => (i : Int) | none => -1
theorem idxOf_hit {α : Type} (p : α → Bool) (l : List α) (i : Nat) (hi : i < l.length) (h : p l[i] = true) (hb : ∀ j, (hj : j < l.length) → j < i → p l[j] = false) : idxOf p l = i := by
  have : l.findIdx? p = some i := by
    rw [List.findIdx?_eq_some_iff_getElem]
    exact ⟨hi, h, fun j hj => by simp [hb j (by omega) hj]⟩
  simp [idxOf, this]
theorem idxOf_none {α : Type} (p : α → Bool) (l : List α) (hb : ∀ j, (hj : j < l.length) → p l[j] = false) : idxOf p l = -1 := by
  have : l.findIdx? p = none := by
    rw [List.findIdx?_eq_none_iff]
    intro x hx
    obtain ⟨j, hj, rfl⟩ := List.mem_iff_getElem.1 hx
    exact hb j hj
  simp [idxOf, this]
theorem idxOf_cases {α : Type} (p : α → Bool) (l : List α) : (idxOf p l = -1 ∧ ∀ x ∈ l, p x = false) ∨ ∃ i : Nat, idxOf p l = i ∧ ∃ h : i < l.length, p l[i] = true ∧ ∀ j, (hj : j < l.length) → j < i → p l[j] = false := by
  unfold idxOf
  cases h : l.findIdx? p with
  | none => exact .inl ⟨rfl, by simpa [List.findIdx?_eq_none_iff] using h⟩
  | some i =>
    rw [List.findIdx?_eq_some_iff_getElem] at h
    obtain ⟨h1, h2, h3⟩ := h
    exact .inr ⟨i, rfl, h1, h2, fun j hj hji => by simpa using h3 j hji⟩
theorem filter_all {α : Type} (p : α → Bool) (l : List α) (h : ∀ x ∈ l, p x = false) : l.filter (fun x => !p x) = l := by
  rw [List.filter_eq_self]; intro x hx; simp [h x hx]
theorem filter_take_none {α : Type} (p : α → Bool) (l : List α) (i : Nat) (h : ∀ j, (hj : j < l.length) → j < i → p l[j] = false) : (l.take i).filter (fun x => !p x) = l.take i := by
  rw [List.filter_eq_self]
  intro x hx
  obtain ⟨j, hj, rfl⟩ := List.mem_iff_getElem.1 hx
  rw [List.getElem_take]
  rw [List.length_take] at hj
  simp [h j (by omega) (by omega)]
theorem filter_take_step {α : Type} (p : α → Bool) (l : List α) (j : Nat) (h : j < l.length) : (l.take (j + 1)).filter (fun x => !p x) = (l.take j).filter (fun x => !p x) ++ (if p l[j] then [] else [l[j]]) := by
  rw [List.take_succ_eq_append_getElem h, List.filter_append]
  cases h2 : p l[j] <;> simp [h2]
theorem Kd.int_openM {k : IntKind} {w : World} {base : Nat} {ok : Nat → Prop} {x : Int} {cs : List Value} (h : (Kd.int k).M w base ok x cs) : cs = [.int k x] := h
theorem Kd.int_mkM {k : IntKind} (w : World) (base : Nat) (ok : Nat → Prop) (x : Int) : (Kd.int k).M w base ok x [.int k x] := rfl

theorem frozen_fresh (w : World) (cs : Array Value) (t : TypeId) (o : Nat) : (w.alloc (.cells cs t)).frozen? ⟨w.heap.size, o, none⟩ = false := by
  have : (w.alloc (.cells cs t)).heap[w.heap.size]? = some (.cells cs t) := by
    show (w.heap.push (.cells cs t))[w.heap.size]? = _
    simp
  unfold World.frozen?
  rw [this]
  simp

variable {P : Program}
/-- 'clear(s[m:])' of a row of the call's own: what lies ahead of m stays a row. -/
theorem clear_row {α : Type} (d : Kd α) {e t ty : TypeId} {w : World} {base : Nat} {ok : Nat → Prop} {g n cap m c : Nat} {xs : List α} {z : Value} (hs0 : 0 < d.sz)
    (ht : P.underlying t = some (.slice e)) (hv : ∀ w, (zeroValue e).run P w = .ok z w) (hz : z.cells.size = d.sz) (h1 : ∀ v ∈ z.cells.toList, v.oneCell' = true)
    (h : d.R e w base ok (.slice (some ⟨g, 0, none⟩) n cap) xs) (hm : m < n) :
    ∃ w1, (Builtin.clear_ #[t] ty #[.slice (some ⟨g, m * d.sz, none⟩) (n - m) c]).run P w = .ok (.tuple #[]) w1 ∧ d.R e w1 base ok (.slice (some ⟨g, 0, none⟩) m cap) (xs.take m) ∧ w.grownBy w1 (some g) := by
  obtain ⟨hn, hnc, _⟩ := Kd.R_reads' h
  obtain ⟨h0, inner, ho, hr⟩ := h
  obtain ⟨hl, ho⟩ := ho
  rcases ho with ⟨hh, _⟩ | ⟨g', cap', cur, he, hb, hg, hc1, hc2, hc3, hc4⟩
  · cases hh
  · injection he with he1 he2 he3
    injection he1 with he1
    injection he1 with he1
    subst he1 he3
    have hmt : (List.take m xs).length = m := by rw [List.length_take]; omega
    have hle : m * d.sz ≤ cap * d.sz := Nat.mul_le_mul_right _ (by omega)
    have hle2 : n * d.sz ≤ cap * d.sz := Nat.mul_le_mul_right _ hnc
    have hmn : m * d.sz ≤ n * d.sz := Nat.mul_le_mul_right _ (by omega)
    have hnm : m * d.sz + (n - m) * d.sz = n * d.sz := by rw [← Nat.add_mul]; congr 1; omega
    have hzl : (Builtin.zeroCells z.cells (n - m)).toList.length = (n - m) * d.sz := by rw [Array.length_toList, size_zeroCells, hz]
    have hst := run_storeCells_at (P := P) g (m * d.sz) e (Builtin.zeroCells z.cells (n - m)).toList 0 cur w hg (by rw [hzl, hc3]; omega) (zeroCells_one _ _ h1)
    rw [Nat.add_zero] at hst
    refine ⟨w.setRow g (List.take (m * d.sz) cur.toList ++ (Builtin.zeroCells z.cells (n - m)).toList ++ List.drop (m * d.sz + (Builtin.zeroCells z.cells (n - m)).toList.length) cur.toList).toArray, ?_, ?_, ?_⟩
    rotate_left
    · refine ⟨fun k hk => h0 k (by simpa [Value.ownBlock] using hk), inner.take (m * d.sz), ⟨?_, .inr ⟨g, cap, _, by rw [hmt], hb, setRow_heap _ _ _ _ _ _ hg, by omega, hc2, ?_, ?_⟩⟩, ?_⟩
      · rw [hmt, List.length_take, hl, ← hn, Nat.min_eq_left hmn]
      · simp only [List.size_toArray, List.length_append, List.length_take, List.length_drop, Array.length_toList, hzl, hc3]
        omega
      · rw [hmt, List.toList_toArray, List.append_assoc, List.take_append_of_le_length (by rw [List.length_take, Array.length_toList, hc3]; omega), List.take_take, Nat.min_self, ← hc4, List.take_take, Nat.min_eq_left (by rw [← hn]; exact hmn)]
      · refine (Reps_take (hr.imp_ (fun _ _ hp => d.M_move (fun k hk => ?_) hp)) m (by omega)).imp_ (fun _ _ hp => d.M_mono (fun k hk => hk) hp)
        have hkg : k ≠ g := fun hkg => hk.2 (by rw [hkg]; rfl)
        exact setRow_other _ _ _ _ hkg
    · exact ⟨rfl, rfl, rfl, by simp, fun i _ hi => setRow_other _ _ _ _ (fun hh => hi (by rw [hh]))⟩
    · obtain ⟨k, hk⟩ : ∃ k, n - m = k + 1 := ⟨n - m - 1, by omega⟩
      rw [hk] at hst ⊢
      have hst' : Sem.run P (storeCells ⟨g, m * d.sz, none⟩ (Builtin.zeroCells z.cells (k + 1)).toList) w = Result.ok () (w.setRow g (List.take (m * d.sz) cur.toList ++ (Builtin.zeroCells z.cells (k + 1)).toList ++ List.drop (m * d.sz + (Builtin.zeroCells z.cells (k + 1)).toList.length) cur.toList).toArray) := hst
      simp [Builtin.clear_, run_underlying ht, hv, hst']
end Go.Proofs.YtbdciklcckjknaaW.HB
