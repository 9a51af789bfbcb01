import Derived.Test.YtpaapnkpijincaaQ1
import Derived.Test.YtpaapnkpijincaaO3
import Derived.Test.YtpaapnkpijincaaO11
namespace Go.Proofs.Ytpaapnkpijincaa.P
open Go.RowKit Go.Proofs.YtpaapnkpijincaaW.PrintWords Go.Proofs.YtpaapnkpijincaaW.PrintLast Go.Proofs.YtpaapnkpijincaaW.PrintMore Go.Proofs.YtpaapnkpijincaaW.HB
set_option linter.unusedVariables false
set_option linter.unusedSimpArgs false

/-! bits of bytes: what is packed, what is unpacked -/
theorem or_fin : ∀ x : Fin 256, ∀ r : Fin 8, 0 ≤ Go.bits .or .u8 (x.val : Int) (2 ^ r.val) ∧ Go.bits .or .u8 (x.val : Int) (2 ^ r.val) ≤ 255 ∧ ∀ k : Fin 8, Go.bits .or .u8 (x.val : Int) (2 ^ r.val) / 2 ^ k.val % 2 = if k.val = r.val then 1 else (x.val : Int) / 2 ^ k.val % 2 := by decide +kernel
theorem or_bit (x : Int) (r : Nat) (h0 : 0 ≤ x) (h1 : x ≤ 255) (hr : r < 8) : 0 ≤ Go.bits .or .u8 x (2 ^ r) ∧ Go.bits .or .u8 x (2 ^ r) ≤ 255 ∧ ∀ k : Nat, k < 8 → Go.bits .or .u8 x (2 ^ r) / 2 ^ k % 2 = if k = r then 1 else x / 2 ^ k % 2 := by
  obtain ⟨a, b, c⟩ := or_fin ⟨x.toNat, by omega⟩ ⟨r, hr⟩
  have e : ((x.toNat : Nat) : Int) = x := by omega
  dsimp only at a b c
  rw [e] at a b c
  exact ⟨a, b, fun k hk => c ⟨k, hk⟩⟩
theorem byte_fin : ∀ x : Fin 256, (x.val : Int) = (x.val : Int) / 2 ^ 0 % 2 + 2 * ((x.val : Int) / 2 ^ 1 % 2) + 4 * ((x.val : Int) / 2 ^ 2 % 2) + 8 * ((x.val : Int) / 2 ^ 3 % 2) + 16 * ((x.val : Int) / 2 ^ 4 % 2) + 32 * ((x.val : Int) / 2 ^ 5 % 2) + 64 * ((x.val : Int) / 2 ^ 6 % 2) + 128 * ((x.val : Int) / 2 ^ 7 % 2) := by decide +kernel
theorem byte_sum (x : Int) (h0 : 0 ≤ x) (h1 : x ≤ 255) : x = x / 2 ^ 0 % 2 + 2 * (x / 2 ^ 1 % 2) + 4 * (x / 2 ^ 2 % 2) + 8 * (x / 2 ^ 3 % 2) + 16 * (x / 2 ^ 4 % 2) + 32 * (x / 2 ^ 5 % 2) + 64 * (x / 2 ^ 6 % 2) + 128 * (x / 2 ^ 7 % 2) := by
  have := byte_fin ⟨x.toNat, by omega⟩
  have e : ((x.toNat : Nat) : Int) = x := by omega
  dsimp only at this
  rw [e] at this
  exact this
theorem byte_ext (x y : Int) (hx : 0 ≤ x ∧ x ≤ 255) (hy : 0 ≤ y ∧ y ≤ 255) (h : ∀ k : Nat, k < 8 → x / 2 ^ k % 2 = y / 2 ^ k % 2) : x = y := by
  rw [byte_sum x hx.1 hx.2, byte_sum y hy.1 hy.2, h 0 (by omega), h 1 (by omega), h 2 (by omega), h 3 (by omega), h 4 (by omega), h 5 (by omega), h 6 (by omega), h 7 (by omega)]
theorem top_fin : ∀ x : Fin 256, ∀ r : Fin 8, (x.val : Int) / 2 ^ r.val = 0 ↔ ∀ k : Fin 8, r.val ≤ k.val → (x.val : Int) / 2 ^ k.val % 2 = 0 := by decide +kernel
theorem top_zero (x : Int) (r : Nat) (h0 : 0 ≤ x) (h1 : x ≤ 255) (hr : r < 8) : x / 2 ^ r = 0 ↔ ∀ k : Nat, k < 8 → r ≤ k → x / 2 ^ k % 2 = 0 := by
  have := top_fin ⟨x.toNat, by omega⟩ ⟨r, hr⟩
  have e : ((x.toNat : Nat) : Int) = x := by omega
  dsimp only at this
  rw [e] at this
  rw [this]
  exact ⟨fun h k hk hrk => h ⟨k, hk⟩ hrk, fun h k hrk => h k.val k.isLt hrk⟩
/-- Bit i of a row of bytes. -/
def bitL (b : List Int) (i : Nat) : Int := b.getD (i / 8) 0 / 2 ^ (i % 8) % 2
def bytesOk (b : List Int) : Prop := ∀ x ∈ b, 0 ≤ x ∧ x ≤ 255
theorem bytesOk_get {b : List Int} (h : bytesOk b) (j : Nat) : 0 ≤ b.getD j 0 ∧ b.getD j 0 ≤ 255 := by
  rw [List.getD_eq_getElem?_getD]
  rcases Nat.lt_or_ge j b.length with hj | hj
  · rw [List.getElem?_eq_getElem hj]; exact h _ (List.getElem_mem _)
  · rw [List.getElem?_eq_none hj]; simp
theorem bitL_ext {a b : List Int} (ha : bytesOk a) (hb : bytesOk b) (hl : a.length = b.length) (h : ∀ i, i < 8 * a.length → bitL a i = bitL b i) : a = b := by
  apply List.ext_getElem hl
  intro j h1 h2
  have e : ∀ (l : List Int) (hj : j < l.length), l.getD j 0 = l[j] := fun l hj => by rw [List.getD_eq_getElem?_getD, List.getElem?_eq_getElem hj]; rfl
  rw [← e a h1, ← e b h2]
  refine byte_ext _ _ (bytesOk_get ha j) (bytesOk_get hb j) (fun k hk => ?_)
  have := h (8 * j + k) (by omega)
  unfold bitL at this
  rw [show (8 * j + k) / 8 = j from by omega, show (8 * j + k) % 8 = k from by omega] at this
  exact this
theorem bitSet_ok {b : List Int} (hb : bytesOk b) (v : Nat) (hv : v / 8 < b.length) : bytesOk (bitSet b v) ∧ ∀ i, bitL (bitSet b v) i = if i = v then 1 else bitL b i := by
  obtain ⟨g0, g1⟩ := bytesOk_get hb (v / 8)
  obtain ⟨o0, o1, o2⟩ := or_bit (b.getD (v / 8) 0) (v % 8) g0 g1 (by omega)
  have e1 : ((v : Int) / 8).toNat = v / 8 := by omega
  have e2 : ((v : Int) % 8).toNat = v % 8 := by omega
  unfold bitSet
  rw [e1, e2]
  refine ⟨fun x hx => ?_, fun i => ?_⟩
  · rcases List.mem_or_eq_of_mem_set hx with hx | rfl
    · exact hb x hx
    · exact ⟨o0, o1⟩
  · unfold bitL
    rw [List.getD_eq_getElem?_getD, List.getElem?_set]
    by_cases hi : v / 8 = i / 8
    · rw [if_pos hi, if_pos (by omega), Option.getD_some, o2 (i % 8) (by omega), ← hi]
      by_cases hk : i % 8 = v % 8
      · rw [if_pos hk, if_pos (by omega)]
      · rw [if_neg hk, if_neg (by omega)]
    · rw [if_neg hi, if_neg (by omega), List.getD_eq_getElem?_getD]
theorem bitsOf_law (m : ByteArray) (hm : m.size ≤ 4096) : ∀ n, n ≤ m.size → bytesOk (bitsOf (plc m n)) ∧ ∀ i : Nat, bitL (bitsOf (plc m n)) i = if i < n ∧ bt m (i : Int) = 1 then 1 else 0
  | 0, _ => by
    refine ⟨fun x hx => ?_, fun i => ?_⟩
    · simp only [plc, List.range_zero, List.filter_nil, List.map_nil, bitsOf, List.foldl_nil] at hx
      rw [List.eq_of_mem_replicate hx]; omega
    · rw [if_neg (by omega)]
      simp only [plc, List.range_zero, List.filter_nil, List.map_nil, bitsOf, List.foldl_nil, bitL]
      rw [List.getD_eq_getElem?_getD, List.getElem?_replicate]
      split <;> simp
  | n + 1, h => by
    obtain ⟨h1, h2⟩ := bitsOf_law m hm n (by omega)
    rw [plc_succ]
    by_cases hb : bt m (n : Int) = 1
    · rw [if_pos hb, bitsOf_snoc]
      obtain ⟨s1, s2⟩ := bitSet_ok h1 n (by rw [bitsOf_len]; omega)
      refine ⟨s1, fun i => ?_⟩
      rw [s2 i, h2 i]
      by_cases hi : i = n
      · subst hi; rw [if_pos rfl, if_pos ⟨by omega, hb⟩]
      · rw [if_neg hi]
        by_cases hq : bt m (i : Int) = 1
        · simp only [hq, and_true]; split <;> split <;> omega
        · rw [if_neg (fun h => hq h.2), if_neg (fun h => hq h.2)]
    · rw [if_neg hb, List.append_nil]
      refine ⟨h1, fun i => ?_⟩
      rw [h2 i]
      by_cases hi : i = n
      · subst hi; rw [if_neg (by omega), if_neg (fun h => hb h.2)]
      · by_cases hq : bt m (i : Int) = 1
        · simp only [hq, and_true]; split <;> split <;> omega
        · rw [if_neg (fun h => hq h.2), if_neg (fun h => hq h.2)]
def packL (m : ByteArray) : List Int := (bitsOf (plc m m.size)).take ((m.size + 7) / 8)
theorem packL_law (m : ByteArray) (hm : m.size ≤ 4096) : bytesOk (packL m) ∧ (packL m).length = (m.size + 7) / 8 ∧ ∀ i : Nat, bitL (packL m) i = if i < m.size ∧ bt m (i : Int) = 1 then 1 else 0 := by
  obtain ⟨h1, h2⟩ := bitsOf_law m hm m.size (Nat.le_refl _)
  have hl := bitsOf_len (plc m m.size)
  refine ⟨fun x hx => h1 x (List.mem_of_mem_take hx), by unfold packL; rw [List.length_take, hl]; omega, fun i => ?_⟩
  have h3 := h2 i
  unfold bitL at h3 ⊢
  unfold packL
  rw [List.getD_eq_getElem?_getD] at h3 ⊢
  rcases Nat.lt_or_ge (i / 8) ((m.size + 7) / 8) with hi | hi
  · rw [List.getElem?_take_of_lt hi]; exact h3
  · rw [List.getElem?_take_eq_none hi, if_neg (by omega)]; simp
end Go.Proofs.Ytpaapnkpijincaa.P
