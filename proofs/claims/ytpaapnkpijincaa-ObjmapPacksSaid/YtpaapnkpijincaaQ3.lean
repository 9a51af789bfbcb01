import Derived.Test.YtpaapnkpijincaaQ2
namespace Go.Proofs.Ytpaapnkpijincaa.P
open Go.RowKit Go.Proofs.YtpaapnkpijincaaW.PrintWords Go.Proofs.YtpaapnkpijincaaW.PrintLast Go.Proofs.YtpaapnkpijincaaW.PrintMore Go.Proofs.YtpaapnkpijincaaW.HB
set_option linter.unusedVariables false
set_option linter.unusedSimpArgs false

/-! what Unpack tells -/
theorem and1 (x : Int) (h0 : 0 ≤ x) (h1 : x < 256) : Go.bits .and .u8 x 1 = x % 2 := bits_mask .u8 8 (by decide) wraps_u8 1 (by decide) x h0 h1
theorem shr_eq (x : Int) (r : Nat) (hr : r ≤ 8) : shr .u8 x (r : Int) = x / 2 ^ r := by
  unfold shr
  rw [Int.toNat_natCast, Nat.min_eq_left (by show r ≤ 8; exact hr)]
theorem div_pow_byte (x : Int) (r : Nat) (h0 : 0 ≤ x) (h1 : x ≤ 255) : 0 ≤ x / 2 ^ r ∧ x / 2 ^ r < 256 := by
  have hp : (0 : Int) < 2 ^ r := by exact_mod_cast Nat.two_pow_pos r
  exact ⟨Int.ediv_nonneg h0 (by omega), by have := Int.ediv_le_self (2 ^ r) h0; omega⟩
theorem bt_bytes (s : ByteArray) (j : Nat) : bt s (j : Int) = (bytesOf s).getD j 0 := by rw [← rd_bytesOf]; rfl
theorem bytes_ok (s : ByteArray) : bytesOk (bytesOf s) := fun x hx => by
  unfold bytesOf at hx
  obtain ⟨b, _, rfl⟩ := List.mem_map.1 hx
  have := UInt8.toNat_lt b
  omega
/-- The text that the code computes of bit i. -/
theorem bit_text (s : ByteArray) (i : Nat) (hi : i < 4611686018427387904) : Go.bits .and .u8 (shr .u8 (bt s (wrap64 (Int.tdiv (i : Int) 8))) (Int.tmod (i : Int) 8)) 1 = bitL (bytesOf s) i := by
  have e1 : wrap64 (Int.tdiv (i : Int) 8) = ((i / 8 : Nat) : Int) := by rw [Int.tdiv_eq_ediv_of_nonneg (by omega), wrS _ (by omega)]; omega
  have e2 : Int.tmod (i : Int) 8 = ((i % 8 : Nat) : Int) := by rw [Int.tmod_eq_emod_of_nonneg (by omega)]; omega
  obtain ⟨g0, g1⟩ := bytesOk_get (bytes_ok s) (i / 8)
  rw [e1, e2, shr_eq _ _ (by omega), bt_bytes, and1 _ (div_pow_byte _ _ g0 g1).1 (div_pow_byte _ _ g0 g1).2]
  rfl
def unL (s : ByteArray) (n : Nat) : List Int := (List.range n).map (fun i => bitL (bytesOf s) i)
theorem unL_len (s : ByteArray) (n : Nat) : (unL s n).length = n := by simp [unL]
theorem bitL_01 (b : List Int) (i : Nat) : bitL b i = 0 ∨ bitL b i = 1 := by unfold bitL; omega
/-- Some bit at or behind n is set. -/
def topB (s : ByteArray) (n : Nat) : Bool := (List.range (8 * s.size)).any (fun i => decide (n ≤ i) && decide (bitL (bytesOf s) i = 1))
def unR (s : ByteArray) (n : Int) : ByteArray × Int :=
  if n < 0 ∨ 4096 < n then (⟨#[]⟩, 20) else if (s.size : Int) ≠ (n + 7) / 8 then (⟨#[]⟩, 10) else if topB s n.toNat = true then (⟨#[]⟩, 10) else (strOfNums (unL s n.toNat), 0)
theorem un_go (s : ByteArray) (n : Nat) (hn : n ≤ 4096) (hs : s.size = (n + 7) / 8) : ∀ d i k : Nat, ∀ x : List Int, i + d = n → d < k → x.length = n → x.take i = unL s i → objmap_Unpack.l0 k s x (n : Int) (i : Int) = some (strOfNums (unL s n), 0)
  | 0, i, k, x, hi, hk, hx, ht => by
    obtain ⟨k, rfl⟩ : ∃ q, k = q + 1 := ⟨k - 1, by omega⟩
    obtain rfl : i = n := by omega
    simp only [objmap_Unpack.l0]
    rw [if_neg (by omega), ← ht, List.take_of_length_le (by omega)]
  | d + 1, i, k, x, hi, hk, hx, ht => by
    obtain ⟨k, rfl⟩ : ∃ q, k = q + 1 := ⟨k - 1, by omega⟩
    have e1 : wrap64 (Int.tdiv (i : Int) 8) = ((i / 8 : Nat) : Int) := by rw [Int.tdiv_eq_ediv_of_nonneg (by omega), wrS _ (by omega)]; omega
    have e2 : Int.tmod (i : Int) 8 = ((i % 8 : Nat) : Int) := by rw [Int.tmod_eq_emod_of_nonneg (by omega)]; omega
    have E1 := Aside0.mk e1
    have E2 := Aside0.mk e2
    have E3 := Aside0.mk (bit_text s i (by omega))
    have E4 := Aside0.mk (show wrap64 ((i : Int) + 1) = ((i + 1 : Nat) : Int) from wrS _ (by omega))
    clear e1 e2
    simp only [objmap_Unpack.l0]
    rw [if_pos (by omega), E3.out, E1.out, E2.out, if_pos (by omega), if_pos (by omega), if_pos (by omega), if_pos (by omega), if_pos (by omega), Int.toNat_natCast, E4.out]
    refine un_go s n hn hs d (i + 1) k _ (by omega) (by omega) (by rw [List.length_set]; exact hx) ?_
    rw [List.take_succ_eq_append_getElem (by rw [List.length_set]; omega), List.take_set_of_le (Nat.le_refl _), ht]
    simp [unL, List.range_succ]
theorem unpack_eq (s : ByteArray) (n : Int) (hs : s.size ≤ 140737488351232) (k : Nat) (hk : 4100 < k) : objmap_Unpack.f k s n = some (unR s n) := by
  obtain ⟨k, rfl⟩ : ∃ q, k = q + 1 := ⟨k - 1, by omega⟩
  unfold objmap_Unpack.f unR
  by_cases h0 : n < 0
  · rw [if_pos h0, if_pos (Or.inl h0)]
    simp only [objmap_Unpack.j0]
    rw [if_pos trivial]
  · rw [if_neg h0]
    by_cases h1 : 4096 < n
    · rw [if_pos (Or.inr h1)]
      simp only [objmap_Unpack.j0]
      rw [if_pos (decide_eq_true h1)]
    · rw [if_neg (by omega)]
      simp only [objmap_Unpack.j0]
      rw [if_neg (by simp; omega)]
      obtain ⟨N, rfl⟩ : ∃ N : Nat, n = (N : Int) := ⟨n.toNat, by omega⟩
      have E7 := Aside0.mk (show wrap64 (Int.tdiv (wrap64 ((N : Int) + 7)) 8) = ((N : Int) + 7) / 8 from by
        rw [show wrap64 ((N : Int) + 7) = (N : Int) + 7 from wrS _ (by omega), Int.tdiv_eq_ediv_of_nonneg (by omega), wrS _ (by omega)])
      rw [E7.out]
      obtain ⟨k, rfl⟩ : ∃ q, k = q + 1 := ⟨k - 1, by omega⟩
      by_cases h2 : (s.size : Int) = ((N : Int) + 7) / 8
      · rw [if_pos h2, if_neg (show ¬ ((s.size : Int) ≠ ((N : Int) + 7) / 8) from fun h => h h2)]
        have hmod : Int.tmod (N : Int) 8 = ((N % 8 : Nat) : Int) := by rw [Int.tmod_eq_emod_of_nonneg (by omega)]; omega
        rw [hmod, Int.toNat_natCast]
        have hgo : objmap_Unpack.j1 (k + 1) s (N : Int) false = some (strOfNums (unL s N), 0) := by
          simp only [objmap_Unpack.j1]
          rw [if_neg (by simp), if_pos (by omega), if_pos (by omega), Option.bind_some, List.length_replicate, Int.toNat_natCast]
          exact un_go s N (by omega) (by omega) N 0 k _ (by omega) (by omega) (by simp) (by simp [unL])
        by_cases h3 : N % 8 = 0
        · rw [if_neg (by omega), hgo]
          have ht : topB s N = false := by
            unfold topB
            rw [List.any_eq_false]
            intro i hi
            rw [List.mem_range] at hi
            simp
            intro h; omega
          rw [if_neg (by rw [ht]; simp)]
        · have E8 := Aside0.mk (show wrap64 ((s.size : Int) - 1) = ((s.size - 1 : Nat) : Int) from by rw [wrS _ (by omega)]; omega)
          rw [if_pos (by omega), E8.out, if_pos (by omega), if_pos (by omega), if_pos (by omega), shr_eq _ _ (by omega), bt_bytes]
          obtain ⟨g0, g1⟩ := bytesOk_get (bytes_ok s) (s.size - 1)
          have htz := top_zero ((bytesOf s).getD (s.size - 1) 0) (N % 8) g0 g1 (by omega)
          by_cases h4 : (bytesOf s).getD (s.size - 1) 0 / 2 ^ (N % 8) = 0
          · rw [h4]
            have ht : topB s N = false := by
              unfold topB
              rw [List.any_eq_false]
              intro i hi
              rw [List.mem_range] at hi
              have := htz.1 h4 (i % 8) (by omega)
              simp
              intro h hb
              unfold bitL at hb
              rw [show i / 8 = s.size - 1 from by omega] at hb
              have := this (by omega)
              rw [this] at hb
              simp at hb
            rw [if_neg (by rw [ht]; simp)]
            simpa using hgo
          · have hne : ((bytesOf s).getD (s.size - 1) 0 / 2 ^ (N % 8) != 0) = true := by simpa using h4
            rw [hne]
            have ht : topB s N = true := by
              refine Classical.byContradiction fun hc => h4 (htz.2 (fun q hq hrq => ?_))
              rw [Bool.not_eq_true] at hc
              unfold topB at hc
              rw [List.any_eq_false] at hc
              have := hc (8 * (s.size - 1) + q) (List.mem_range.2 (by omega))
              simp at this
              have h5 := this (by omega)
              rcases bitL_01 (bytesOf s) (8 * (s.size - 1) + q) with h6 | h6
              · unfold bitL at h6
                rw [show (8 * (s.size - 1) + q) / 8 = s.size - 1 from by omega, show (8 * (s.size - 1) + q) % 8 = q from by omega] at h6
                exact h6
              · exact absurd h6 h5
            rw [if_pos ht]
            simp only [objmap_Unpack.j1]
            rw [if_pos trivial]
      · rw [if_neg h2, if_pos h2]
        simp only [objmap_Unpack.j1]
        rw [if_pos trivial]
end Go.Proofs.Ytpaapnkpijincaa.P
