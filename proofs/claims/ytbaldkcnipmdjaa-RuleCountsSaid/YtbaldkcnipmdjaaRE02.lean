/- Texts of this claim, merged by pack.py: C3 PBitsMul64 PCrushAhead C4 HK2 -/
import Derived.Test.YtbaldkcnipmdjaaRE01
import Derived.Laws.BitsLemmas
import Derived.BigRegionIn
import Derived.RangeFuncNested
import Derived.WalkMore
import Derived.CallsIn
namespace Go.Proofs.Ytbaldkcnipmdjaa.P
open Go.RowKit Go.Proofs.YtbaldkcnipmdjaaW.PrintWords Go.Proofs.YtbaldkcnipmdjaaW.PrintLast Go.Proofs.YtbaldkcnipmdjaaW.PrintMore Go.Proofs.YtbaldkcnipmdjaaW.HB
set_option linter.unusedVariables false
set_option linter.unusedSimpArgs false
theorem wrap64_small (x : Int) (h1 : -9223372036854775808 ≤ x) (h2 : x ≤ 9223372036854775807) : wrap64 x = x := by unfold wrap64; omega
theorem u32_bits (op : BinOp) (x y : Int) : 0 ≤ Go.bits op .u32 x y ∧ Go.bits op .u32 x y < 4294967296 := by
  unfold Go.bits
  simp only [IntKind.wrap_u32]
  omega
theorem lastW_range (a : Int) : 0 ≤ lastW a ∧ lastW a < 4294967296 := by
  have h := last_eq a
  unfold hash_last32.f at h
  rw [← Option.some.inj h]
  exact u32_bits _ _ _
theorem wordsW_range (l : List Int) : 0 ≤ wordsW l ∧ wordsW l < 4294967296 := by rw [words_def]; exact lastW_range _
theorem rmix_eq (h b : Int) : reefref01_mix.f h b = some (mixW h b) := by unfold reefref01_mix.f mixW; exact Eq.refl _
theorem rended_eq (a : Int) : reefref01_ended.f a = some (lastW a) := by
  rw [← last_eq]
  unfold reefref01_ended.f hash_last32.f
  exact Eq.refl _
theorem rw_one (l : List Int) (h : Int) (i : Nat) (k : Nat) (hi : i < l.length) (hl : l.length ≤ 1000) : reefref01_Words.l1 (k + 5) l h i 0 = reefref01_Words.l0 k l (roundW h l[i]) ((i + 1 : Nat) : Int) := by
  have e : ∀ (h' : Int) (k' j : Nat), j < 4 → reefref01_Words.l1 (k' + 1) l h' i (j : Int) = reefref01_Words.l1 k' l (mixW h' (byW l[i] j)) i ((j + 1 : Nat) : Int) := by
    intro h' k' j hj
    have h8 : IntKind.u64.wrap (wrap64 (8 * (j : Int))) = ((8 * j : Nat) : Int) := by rw [wrap64_small _ (by omega) (by omega)]; simp [IntKind.wrap, IntKind.signed, IntKind.bits]; omega
    have hr : rd l (i : Int) = l[i] := by simp [rd, List.getD_eq_getElem?_getD, List.getElem?_eq_getElem hi]
    have hs : shr .u32 l[i] ((8 * j : Nat) : Int) % 256 = byW l[i] j := by
      unfold shr byW
      rw [Int.toNat_natCast, Nat.min_eq_left (show 8 * j ≤ IntKind.u32.bits from by show 8 * j ≤ 32; omega)]
    simp only [reefref01_Words.l1]
    rw [if_pos (by omega), if_pos (by omega), if_pos (by omega), h8, if_pos (by omega), hr, hs, rmix_eq, Option.bind_some, wrap64_small _ (by omega) (by omega)]
    rfl
  have e0 := e h (k + 4) 0 (by decide)
  have e1 := e (mixW h (byW l[i] 0)) (k + 3) 1 (by decide)
  have e2 := e (mixW (mixW h (byW l[i] 0)) (byW l[i] 1)) (k + 2) 2 (by decide)
  have e3 := e (mixW (mixW (mixW h (byW l[i] 0)) (byW l[i] 1)) (byW l[i] 2)) (k + 1) 3 (by decide)
  have e4 : ∀ h' : Int, reefref01_Words.l1 (k + 1) l h' i ((3 + 1 : Nat) : Int) = reefref01_Words.l0 k l h' ((i + 1 : Nat) : Int) := by
    intro h'
    simp only [reefref01_Words.l1]
    rw [if_neg (by omega), wrap64_small _ (by omega) (by omega)]
    rfl
  refine (e0.trans (e1.trans (e2.trans (e3.trans (e4 _))))).trans ?_
  have : roundW h l[i] = mixW (mixW (mixW (mixW h (byW l[i] 0)) (byW l[i] 1)) (byW l[i] 2)) (byW l[i] 3) := by
    unfold roundW bytesW
    simp [List.range_succ]
  rw [this]
theorem rwords_l0 (l : List Int) (hl : l.length ≤ 1000) : ∀ (d k i : Nat) (h : Int), l.length = i + d → 6 * d < k → reefref01_Words.l0 k l h i = some (lastW ((l.drop i).foldl roundW h)) := by
  intro d
  induction d with
  | zero =>
    intro k i h hi hk
    obtain ⟨k, rfl⟩ : ∃ k', k = k' + 1 := ⟨k - 1, by omega⟩
    simp only [reefref01_Words.l0]
    rw [if_neg (by omega), rended_eq, Option.bind_some, List.drop_eq_nil_of_le (by omega)]
    rfl
  | succ d ih =>
    intro k i h hi hk
    obtain ⟨k, rfl⟩ : ∃ k', k = (k' + 5) + 1 := ⟨k - 6, by omega⟩
    simp only [reefref01_Words.l0]
    rw [if_pos (by omega), rw_one l h i k (by omega) hl, ih k (i + 1) _ (by omega) (by omega), List.drop_eq_getElem_cons (show i < l.length by omega), List.foldl_cons]
theorem rwords_eq (K : Nat) (l : List Int) (hl : l.length ≤ 3) (hK : 20 ≤ K) : reefref01_Words.f K l = some (wordsW l) := by
  unfold reefref01_Words.f
  rw [words_def]
  exact rwords_l0 l (by omega) l.length K 0 2166136261 (by omega) (by omega)
def nextY (y : Int) : Int := (IntKind.u64.wrap (y * y)) / 2147483648
def frac : Nat → Int → Int → Int
  | 0, _, f => f
  | m + 1, y, f => if nextY y ≥ 4294967296 then frac m (nextY y / 2) (2 * f + 1) else frac m (nextY y) (2 * f)
theorem frac_range : ∀ (m : Nat) (y f : Int), 0 ≤ f → f < 2 ^ (16 - m) → m ≤ 16 → 0 ≤ frac m y f ∧ frac m y f < 65536
  | 0, y, f, h0, h1, _ => ⟨h0, by show f < 65536; simpa using h1⟩
  | m + 1, y, f, h0, h1, hm => by
    have e : (2 : Int) ^ (16 - m) = 2 * 2 ^ (16 - (m + 1)) := by rw [show 16 - m = (16 - (m + 1)) + 1 from by omega, Int.pow_succ]; omega
    unfold frac
    split
    · exact frac_range m _ _ (by omega) (by omega) (by omega)
    · exact frac_range m _ _ (by omega) (by omega) (by omega)
theorem or_one (x : Int) (h0 : 0 ≤ x) (h1 : x * 2 < 4294967296) : Go.bits .or .u32 ((x * 2) % 4294967296) 1 = 2 * x + 1 := by
  rw [Int.emod_eq_of_lt (by omega) h1, bits_join .u32 32 (by decide) (fun n a b => by rw [IntKind.wrap_u32]; omega) 1 (x * 2) 1 (by omega) (by omega) (by omega) (by decide) (by decide) (by decide)]
  omega
theorem log_l1 (n : Nat) (hn : n ≤ 16) : ∀ (m k : Nat) (y f : Int), m ≤ 16 → m < k → 0 ≤ f → f < 2 ^ (16 - m) →
    hash_Log.l1 k y ((n : Int) * 2 ^ (16 - m) + f) ((16 - m : Nat) : Int) = some ((n : Int) * 65536 + frac m y f) ∧ reefref01_Log.l1 k n y f ((16 - m : Nat) : Int) = some ((n : Int) * 65536 + frac m y f) := by
  intro m
  induction m with
  | zero =>
    intro k y f _ hk h0 h1
    obtain ⟨k, rfl⟩ : ∃ k', k = k' + 1 := ⟨k - 1, by omega⟩
    have h1' : f < 65536 := by simpa using h1
    simp only [hash_Log.l1, reefref01_Log.l1]
    rw [if_neg (by omega), if_neg (by omega)]
    unfold frac
    refine ⟨by rw [show ((2 : Int) ^ (16 - 0)) = 65536 from by decide], ?_⟩
    congr 1
    omega
  | succ m ih =>
    intro k y f hm hk h0 h1
    obtain ⟨k, rfl⟩ : ∃ k', k = k' + 1 := ⟨k - 1, by omega⟩
    have e : (2 : Int) ^ (16 - m) = 2 * 2 ^ (16 - (m + 1)) := by rw [show 16 - m = (16 - (m + 1)) + 1 from by omega, Int.pow_succ]; omega
    have hp : (2 : Int) ^ (16 - (m + 1)) ≤ 32768 := by
      have h3 : (2 : Nat) ^ (16 - (m + 1)) ≤ 32768 := Nat.le_trans (Nat.pow_le_pow_right (by decide) (show 16 - (m + 1) ≤ 15 by omega)) (by decide)
      have h4 : ((2 : Int) ^ (16 - (m + 1))) = (((2 : Nat) ^ (16 - (m + 1)) : Nat) : Int) := by rw [Int.natCast_pow]; rfl
      omega
    have hp0 : (0 : Int) < 2 ^ (16 - (m + 1)) := Int.pow_pos (by decide)
    have hnp : (n : Int) * 2 ^ (16 - (m + 1)) ≤ 16 * 32768 := Int.mul_le_mul (by omega) hp (by omega) (by decide)
    have hnp0 : 0 ≤ (n : Int) * 2 ^ (16 - (m + 1)) := Int.mul_nonneg (by omega) (by omega)
    have en : (n : Int) * 2 ^ (16 - m) = 2 * ((n : Int) * 2 ^ (16 - (m + 1))) := by rw [e, Int.mul_left_comm]
    generalize hA : (n : Int) * 2 ^ (16 - (m + 1)) = A at *
    have hi : wrap64 (((16 - (m + 1) : Nat) : Int) + 1) = ((16 - m : Nat) : Int) := by rw [wrap64_small _ (by omega) (by omega)]; omega
    have hlt : ((16 - (m + 1) : Nat) : Int) < 16 := by omega
    have ihA := ih k (nextY y / 2) (2 * f + 1) (by omega) (by omega) (by omega) (by omega)
    have ihB := ih k (nextY y) (2 * f) (by omega) (by omega) (by omega) (by omega)
    rw [en] at ihA ihB
    have hfr : frac (m + 1) y f = if nextY y ≥ 4294967296 then frac m (nextY y / 2) (2 * f + 1) else frac m (nextY y) (2 * f) := rfl
    rw [hfr]
    have hny : IntKind.u64.wrap (y * y) / 2147483648 = nextY y := rfl
    constructor
    · simp only [hash_Log.l1]
      rw [if_pos hlt, hi, hny]
      by_cases hb : nextY y ≥ 4294967296
      · rw [if_pos hb, if_pos hb, or_one (A + f) (by omega) (by omega), show 2 * (A + f) + 1 = 2 * A + (2 * f + 1) from by omega]
        exact ihA.1
      · rw [if_neg hb, if_neg hb, show ((A + f) * 2) % 4294967296 = 2 * A + 2 * f from by omega]
        exact ihB.1
    · simp only [reefref01_Log.l1]
      rw [if_pos hlt, hi, hny]
      by_cases hb : nextY y ≥ 4294967296
      · rw [if_pos hb, if_pos hb, show (((f * 2) % 4294967296) + 1) % 4294967296 = 2 * f + 1 from by omega]
        exact ihA.2
      · rw [if_neg hb, if_neg hb, show (f * 2) % 4294967296 = 2 * f from by omega]
        exact ihB.2
theorem log_l0 (x : Int) (hx0 : 1 ≤ x) (hx : x ≤ 65536) (K : Nat) (hK : 60 ≤ K) : ∀ (d j : Nat), j + d = 16 → (0 < j → 1 < x / 2 ^ (j - 1)) → ∃ n : Nat, n ≤ 16 ∧ (0 < n → 1 < x / 2 ^ (n - 1)) ∧
    hash_Log.l0 (K - j) x j = hash_Log.l1 (K - n - 1) (shl .u64 (IntKind.u64.wrap x) ((31 - (n : Int)) % 4294967296)) n 0 ∧
    reefref01_Log.l0 (K - j) x j = reefref01_Log.l1 (K - n - 1) n (shl .u64 (IntKind.u64.wrap x) ((31 - (n : Int)) % 4294967296)) 0 0 := by
  intro d
  induction d with
  | zero =>
    intro j hj hp
    obtain rfl : j = 16 := by omega
    refine ⟨16, by omega, hp, ?_, ?_⟩
    · rw [show K - 16 = (K - 16 - 1) + 1 from by omega]
      simp only [hash_Log.l0]
      rw [if_pos (by decide), if_neg (by unfold shr; show ¬ x / 2 ^ 16 > 1; omega)]
      rw [show (K - 16 - 1 + 1 - 1) = K - 16 - 1 from by omega]
    · rw [show K - 16 = (K - 16 - 1) + 1 from by omega]
      simp only [reefref01_Log.l0]
      rw [if_pos (by decide), if_neg (by unfold shr; show ¬ x / 2 ^ 16 > 1; omega)]
      rw [show (K - 16 - 1 + 1 - 1) = K - 16 - 1 from by omega]
  | succ d ih =>
    intro j hj hp
    have hs : shr .u32 x (j : Int) = x / 2 ^ j := by unfold shr; rw [Int.toNat_natCast, Nat.min_eq_left (show j ≤ IntKind.u32.bits from by show j ≤ 32; omega)]
    have hj1 : (((j : Int) + 1) % 4294967296) = ((j + 1 : Nat) : Int) := by omega
    by_cases hb : x / 2 ^ j > 1
    · obtain ⟨n, h1, h2, h3, h4⟩ := ih (j + 1) (by omega) (fun _ => by simpa using hb)
      refine ⟨n, h1, h2, ?_, ?_⟩
      · rw [show K - j = (K - (j + 1)) + 1 from by omega]
        simp only [hash_Log.l0]
        rw [if_pos (by omega), hs, if_pos hb, hj1, h3]
      · rw [show K - j = (K - (j + 1)) + 1 from by omega]
        simp only [reefref01_Log.l0]
        rw [if_pos (by omega), hs, if_pos hb, hj1, h4]
    · refine ⟨j, by omega, hp, ?_, ?_⟩
      · rw [show K - j = (K - j - 1) + 1 from by omega]
        simp only [hash_Log.l0]
        rw [if_pos (by omega), hs, if_neg hb]
        rw [show (K - j - 1 + 1 - 1) = K - j - 1 from by omega]
      · rw [show K - j = (K - j - 1) + 1 from by omega]
        simp only [reefref01_Log.l0]
        rw [if_pos (by omega), hs, if_neg hb]
        rw [show (K - j - 1 + 1 - 1) = K - j - 1 from by omega]
theorem mono_up {α : Type} (f : Nat → Option α) (h : ∀ k, LeO (f k) (f (k + 1))) {k K : Nat} (hk : k ≤ K) {v : α} (e : f k = some v) : f K = some v := by
  obtain ⟨d, rfl⟩ := Nat.le.dest hk
  clear hk
  induction d with
  | zero => exact e
  | succ d ih => exact h _ _ ih
theorem log_at (x : Int) (hx0 : 1 ≤ x) (hx : x ≤ 65536) : ∃ v : Int, (∀ K, 60 ≤ K → hash_Log.f K x = some v) ∧ (∀ K, 60 ≤ K → reefref01_Log.f K x = some v) ∧ 0 ≤ v ∧ v ≤ 1048576 := by
  obtain ⟨n, h1, h2, h3, h4⟩ := log_l0 x hx0 hx 60 (by omega) 16 0 rfl (fun h => absurd h (by omega))
  obtain ⟨a1, a2⟩ := log_l1 n h1 16 (60 - n - 1) (shl .u64 (IntKind.u64.wrap x) ((31 - (n : Int)) % 4294967296)) 0 (by omega) (by omega) (by omega) (by decide)
  have hf := frac_range 16 (shl .u64 (IntKind.u64.wrap x) ((31 - (n : Int)) % 4294967296)) 0 (by omega) (by decide) (by omega)
  have e1 : hash_Log.f 60 x = some ((n : Int) * 65536 + frac 16 (shl .u64 (IntKind.u64.wrap x) ((31 - (n : Int)) % 4294967296)) 0) := by
    unfold hash_Log.f
    rw [if_neg (by omega)]
    refine (h3.trans ?_)
    have e : ((n : Int) * 2 ^ (16 - 16) + 0) = n := by simp
    rw [e] at a1
    exact a1
  have e2 : reefref01_Log.f 60 x = some ((n : Int) * 65536 + frac 16 (shl .u64 (IntKind.u64.wrap x) ((31 - (n : Int)) % 4294967296)) 0) := by
    unfold reefref01_Log.f
    rw [if_neg (by omega)]
    exact h4.trans a2
  refine ⟨_, fun K hK => mono_up (fun k => hash_Log.f k x) (hash_Log.mono x) hK e1, fun K hK => mono_up (fun k => reefref01_Log.f k x) (reefref01_Log.mono x) hK e2, by omega, ?_⟩
  rcases Nat.lt_or_ge n 16 with h | h
  · omega
  · obtain rfl : n = 16 := by omega
    have hx2 := h2 (by omega)
    obtain rfl : x = 65536 := by
      have : (2 : Int) ^ (16 - 1) = 32768 := by decide
      rw [this] at hx2
      omega
    have : frac 16 (shl .u64 (IntKind.u64.wrap 65536) ((31 - ((16 : Nat) : Int)) % 4294967296)) 0 = 0 := by decide +kernel
    rw [this]; decide
def costS (x id r : Int) : Int := (crush_Cost.f 60 x id r).getD 0
theorem cost_at (x id r : Int) : (∀ K, 60 ≤ K → crush_Cost.f K x id r = some (costS x id r)) ∧ (∀ K, 60 ≤ K → reefref11_Cost.f K x id r = some (costS x id r)) ∧ 0 ≤ costS x id r ∧ costS x id r ≤ 1048576 := by
  have hu : 0 ≤ Go.bits .and .u32 (wordsW [x, id % 4294967296, r % 4294967296]) 65535 ∧ Go.bits .and .u32 (wordsW [x, id % 4294967296, r % 4294967296]) 65535 ≤ 65535 := by
    have h := wordsW_range [x, id % 4294967296, r % 4294967296]
    have := bits_mask .u32 32 (by decide) (fun n a b => by rw [IntKind.wrap_u32]; omega) 16 (by decide) _ h.1 h.2
    rw [show (65535 : Int) = 2 ^ 16 - 1 from by decide, this]
    omega
  obtain ⟨v, h1, h2, h3, h4⟩ := log_at ((Go.bits .and .u32 (wordsW [x, id % 4294967296, r % 4294967296]) 65535 + 1) % 4294967296) (by omega) (by omega)
  have hw : wrap64 (1048576 - wrap64 v) = 1048576 - v := by rw [wrap64_small v (by omega) (by omega), wrap64_small _ (by omega) (by omega)]
  have e : ∀ K, 60 ≤ K → crush_Cost.f K x id r = some (1048576 - v) := by
    intro K hK
    unfold crush_Cost.f hash_Words.f
    rw [Option.bind_some, h1 K hK, Option.bind_some, hw]
  have e0 : costS x id r = 1048576 - v := by unfold costS; rw [e 60 (by omega)]; rfl
  rw [e0]
  refine ⟨e, fun K hK => ?_, by omega, by omega⟩
  unfold reefref11_Cost.f
  rw [rwords_eq K _ (by simp) (by omega), Option.bind_some, h2 K hK, Option.bind_some, hw]
end Go.Proofs.Ytbaldkcnipmdjaa.P
namespace Go.Proofs.Ytbaldkcnipmdjaa.P
open Go.RowKit Go.Proofs.YtbaldkcnipmdjaaW.PrintWords Go.Proofs.YtbaldkcnipmdjaaW.PrintLast Go.Proofs.YtbaldkcnipmdjaaW.PrintMore
attribute [local go_sem] max2_int min2_int max_two min_two max_three min_three max_four min_four
set_option linter.unusedVariables false
set_option linter.unusedSimpArgs false
def bits_Mul64.f (a0 : Int) (a1 : Int) : Option (Int × Int) := some (IntKind.u64.wrap ((IntKind.u64.wrap ((IntKind.u64.wrap ((a0 / 4294967296) * (a1 / 4294967296))) + ((IntKind.u64.wrap ((IntKind.u64.wrap ((a0 / 4294967296) * (Go.bits .and .u64 a1 4294967295))) + ((IntKind.u64.wrap ((Go.bits .and .u64 a0 4294967295) * (Go.bits .and .u64 a1 4294967295))) / 4294967296))) / 4294967296))) + ((IntKind.u64.wrap ((Go.bits .and .u64 (IntKind.u64.wrap ((IntKind.u64.wrap ((a0 / 4294967296) * (Go.bits .and .u64 a1 4294967295))) + ((IntKind.u64.wrap ((Go.bits .and .u64 a0 4294967295) * (Go.bits .and .u64 a1 4294967295))) / 4294967296))) 4294967295) + (IntKind.u64.wrap ((Go.bits .and .u64 a0 4294967295) * (a1 / 4294967296))))) / 4294967296)), IntKind.u64.wrap (a0 * a1))
set_option maxHeartbeats 8000000 in
set_option maxRecDepth 100000 in
theorem bits_Mul64.calls (a0 : Int) (a1 : Int) (r1 : Int) (r2 : Int) (w : World) (h : bits_Mul64.f a0 a1 = some (r1, r2)) :
    Calls Try.prog 68 #[.int .u64 a0, .int .u64 a1] w fun e w' => e = .returned (.tuple #[.int .u64 r1, .int .u64 r2]) ∧ Drawn0 w w' := by
  have H : (some (IntKind.u64.wrap ((IntKind.u64.wrap ((IntKind.u64.wrap ((a0 / 4294967296) * (a1 / 4294967296))) + ((IntKind.u64.wrap ((IntKind.u64.wrap ((a0 / 4294967296) * (Go.bits .and .u64 a1 4294967295))) + ((IntKind.u64.wrap ((Go.bits .and .u64 a0 4294967295) * (Go.bits .and .u64 a1 4294967295))) / 4294967296))) / 4294967296))) + ((IntKind.u64.wrap ((Go.bits .and .u64 (IntKind.u64.wrap ((IntKind.u64.wrap ((a0 / 4294967296) * (Go.bits .and .u64 a1 4294967295))) + ((IntKind.u64.wrap ((Go.bits .and .u64 a0 4294967295) * (Go.bits .and .u64 a1 4294967295))) / 4294967296))) 4294967295) + (IntKind.u64.wrap ((Go.bits .and .u64 a0 4294967295) * (a1 / 4294967296))))) / 4294967296)), IntKind.u64.wrap (a0 * a1))) = some (r1, r2) := h
  clear h
  simp only [Option.some.injEq, Prod.mk.injEq] at H
  obtain ⟨rfl, rfl⟩ := H
  go_enter Try.func68, Try.ntmps68
  go_wp2
  go_ret2
  exact ⟨by first | rfl | (simp; done) | (simp [*]; done), by repeat (first | exact Drawn0.refl _ | apply Drawn0.step)⟩
end Go.Proofs.Ytbaldkcnipmdjaa.P
namespace Go.Proofs.Ytbaldkcnipmdjaa.P
open Go.RowKit Go.Proofs.YtbaldkcnipmdjaaW.PrintWords Go.Proofs.YtbaldkcnipmdjaaW.PrintLast Go.Proofs.YtbaldkcnipmdjaaW.PrintMore
attribute [local go_sem] max2_int min2_int max_two min_two max_three min_three max_four min_four
set_option linter.unusedVariables false
set_option linter.unusedSimpArgs false
def crush_ahead.j0 : Nat → Int → Int → Int → Int → Bool → Int → Int → Int → Int → Int → Int → Int → Int → Option (Int)
  | 0, _, _, _, _, _, _, _, _, _, _, _, _, _ => none
  | k + 1, x5, x6, x7, x8, x31, x107000, x107001, x107002, x107003, x108000, x108001, x108002, x108003 => if x31 = true then (some (-1)) else (if x5 = x7 then (if x6 = x8 then (some (wrap64 (x107002 - x108002))) else (some 1)) else (some 1))
def crush_ahead.f (k : Nat) (a0_0 : Int) (a0_1 : Int) (a0_2 : Int) (a0_3 : Int) (a1_0 : Int) (a1_1 : Int) (a1_2 : Int) (a1_3 : Int) : Option (Int) := (bits_Mul64.f (IntKind.u64.wrap (a0_3)) (IntKind.u64.wrap (a1_1))).bind fun bt108 => ((bits_Mul64.f (IntKind.u64.wrap (a1_3)) (IntKind.u64.wrap (a0_1))).bind fun bt110 => (if bt108.1 < bt110.1 then (crush_ahead.j0 k bt108.1 bt108.2 bt110.1 bt110.2 true a0_0 a0_1 a0_2 a0_3 a1_0 a1_1 a1_2 a1_3) else (if bt108.1 = bt110.1 then (crush_ahead.j0 k bt108.1 bt108.2 bt110.1 bt110.2 (decide (bt108.2 < bt110.2)) a0_0 a0_1 a0_2 a0_3 a1_0 a1_1 a1_2 a1_3) else (crush_ahead.j0 k bt108.1 bt108.2 bt110.1 bt110.2 false a0_0 a0_1 a0_2 a0_3 a1_0 a1_1 a1_2 a1_3))))
set_option maxHeartbeats 8000000 in
set_option maxRecDepth 100000 in
theorem crush_ahead.calls (k : Nat) (a0_0 : Int) (a0_1 : Int) (a0_2 : Int) (a0_3 : Int) (a1_0 : Int) (a1_1 : Int) (a1_2 : Int) (a1_3 : Int) (r : Int) (w : World) (h : crush_ahead.f k a0_0 a0_1 a0_2 a0_3 a1_0 a1_1 a1_2 a1_3 = some r) :
    Calls Try.prog 57 #[.agg #[.int .i64 a0_0, .int .i64 a0_1, .int .i64 a0_2, .int .i64 a0_3], .agg #[.int .i64 a1_0, .int .i64 a1_1, .int .i64 a1_2, .int .i64 a1_3]] w fun e w' => e = .returned (.int .i64 r) ∧ Below w.heap.size w w' := by
  have hu75 := Try.underlying75
  have HB := Aside0.mk (Below.refl w.heap.size w)
  have H : ((bits_Mul64.f (IntKind.u64.wrap (a0_3)) (IntKind.u64.wrap (a1_1))).bind fun bt108 => ((bits_Mul64.f (IntKind.u64.wrap (a1_3)) (IntKind.u64.wrap (a0_1))).bind fun bt110 => (if bt108.1 < bt110.1 then (crush_ahead.j0 k bt108.1 bt108.2 bt110.1 bt110.2 true a0_0 a0_1 a0_2 a0_3 a1_0 a1_1 a1_2 a1_3) else (if bt108.1 = bt110.1 then (crush_ahead.j0 k bt108.1 bt108.2 bt110.1 bt110.2 (decide (bt108.2 < bt110.2)) a0_0 a0_1 a0_2 a0_3 a1_0 a1_1 a1_2 a1_3) else (crush_ahead.j0 k bt108.1 bt108.2 bt110.1 bt110.2 false a0_0 a0_1 a0_2 a0_3 a1_0 a1_1 a1_2 a1_3))))) = some r := h
  clear h
  replace H := Option.bind_eq_some_iff.mp H
  obtain ⟨⟨t108, t109⟩, A30, H⟩ := H
  replace H : ((bits_Mul64.f (IntKind.u64.wrap (a1_3)) (IntKind.u64.wrap (a0_1))).bind fun bt110 => (if t108 < bt110.1 then (crush_ahead.j0 k t108 t109 bt110.1 bt110.2 true a0_0 a0_1 a0_2 a0_3 a1_0 a1_1 a1_2 a1_3) else (if t108 = bt110.1 then (crush_ahead.j0 k t108 t109 bt110.1 bt110.2 (decide (t109 < bt110.2)) a0_0 a0_1 a0_2 a0_3 a1_0 a1_1 a1_2 a1_3) else (crush_ahead.j0 k t108 t109 bt110.1 bt110.2 false a0_0 a0_1 a0_2 a0_3 a1_0 a1_1 a1_2 a1_3)))) = some r := H
  have A3 := Aside0.mk A30
  clear A30
  replace H := Option.bind_eq_some_iff.mp H
  obtain ⟨⟨t110, t111⟩, A40, H⟩ := H
  replace H : (if t108 < t110 then (crush_ahead.j0 k t108 t109 t110 t111 true a0_0 a0_1 a0_2 a0_3 a1_0 a1_1 a1_2 a1_3) else (if t108 = t110 then (crush_ahead.j0 k t108 t109 t110 t111 (decide (t109 < t111)) a0_0 a0_1 a0_2 a0_3 a1_0 a1_1 a1_2 a1_3) else (crush_ahead.j0 k t108 t109 t110 t111 false a0_0 a0_1 a0_2 a0_3 a1_0 a1_1 a1_2 a1_3))) = some r := H
  have A4 := Aside0.mk A40
  clear A40
  have HC5 := Aside0.mk H
  clear H
  go_enter Try.func57, Try.ntmps57
  go_upto_region 3 with (first | ((with_reducible refine gate_dst (N := 2) rfl ?_); refine box_event ?hg (N := 2) ?hd (cs := #[.int .i64 a0_0, .int .i64 a0_1, .int .i64 a0_2, .int .i64 a0_3]) (t := 75) ?hr ?_; (case hd => rfl); (case hg => rfl); (case hr => first | (go_simp; done) | (go_simp; rfl)); intro gb106 hg w6 hbox hb; have n0_ := Aside0.mk (below_step (by repeat (first | (with_reducible first | exact HB.out | apply below_alloc | apply pw_below_drewN | apply below_drew1) | exact HB.out)) hb); have n1_ := Aside0.mk (hbox); have n2_ := Aside0.mk ((by rw [hg]; exact (below_size (by repeat (first | (with_reducible first | exact HB.out | apply below_alloc | apply pw_below_drewN | apply below_drew1) | exact HB.out))) : w.heap.size ≤ gb106)); have n3_ := Aside0.mk ((by rw [hg]; exact (below_size (by repeat (first | (with_reducible first | exact HB.out | apply below_alloc | apply pw_below_drewN | apply below_drew1) | exact HB.out))) : w.heap.size ≤ gb106)); clear HB; have HB := n0_; have BK106 := n1_; have GW106 := n2_; have GE106 := n3_; clear n0_ n1_ n2_ n3_; clear hb hbox hg) | ((with_reducible refine gate_dst (N := 3) rfl ?_); refine box_event ?hg (N := 3) ?hd (cs := #[.int .i64 a1_0, .int .i64 a1_1, .int .i64 a1_2, .int .i64 a1_3]) (t := 75) ?hr ?_; (case hd => rfl); (case hg => rfl); (case hr => first | (go_simp; done) | (go_simp; rfl)); intro gb107 hg w7 hbox hb; have n0_ := Aside0.mk (blk_below (g := gb106) (o := .cells #[.int .i64 a0_0, .int .i64 a0_1, .int .i64 a0_2, .int .i64 a0_3] 75 (0, 0)) (by (with_reducible repeat (first | refine blk_drewN ?_ _ | refine blk_drew ?_ | refine blk_alloc ?_ _)); exact BK106.out) hb); have n1_ := Aside0.mk (below_step (by repeat (first | (with_reducible first | exact HB.out | apply below_alloc | apply pw_below_drewN | apply below_drew1 | refine below_set ?_ GE106.out) | exact HB.out)) hb); have n2_ := Aside0.mk (hbox); have n3_ := Aside0.mk ((by rw [hg]; exact (below_size (by repeat (first | (with_reducible first | exact HB.out | apply below_alloc | apply pw_below_drewN | apply below_drew1 | refine below_set ?_ GE106.out) | exact HB.out))) : w.heap.size ≤ gb107)); have n4_ := Aside0.mk ((by rw [hg]; exact (below_size (by repeat (first | (with_reducible first | exact HB.out | apply below_alloc | apply pw_below_drewN | apply below_drew1 | refine below_set ?_ GE106.out) | exact HB.out))) : w.heap.size ≤ gb107)); have n5_ := Aside0.mk ((by rw [hg]; exact Nat.ne_of_lt (blk_lt (g := gb106) (o := .cells #[.int .i64 a0_0, .int .i64 a0_1, .int .i64 a0_2, .int .i64 a0_3] 75 (0, 0)) (by (with_reducible repeat (first | refine blk_drewN ?_ _ | refine blk_drew ?_ | refine blk_alloc ?_ _)); exact BK106.out)) : gb106 ≠ gb107)); have n6_ := Aside0.mk ((by rw [hg]; exact Nat.ne_of_gt (blk_lt (g := gb106) (o := .cells #[.int .i64 a0_0, .int .i64 a0_1, .int .i64 a0_2, .int .i64 a0_3] 75 (0, 0)) (by (with_reducible repeat (first | refine blk_drewN ?_ _ | refine blk_drew ?_ | refine blk_alloc ?_ _)); exact BK106.out)) : gb107 ≠ gb106)); clear BK106; clear HB; have BK106 := n0_; have HB := n1_; have BK107 := n2_; have GW107 := n3_; have GE107 := n4_; have NB106_107 := n5_; have NB107_106 := n6_; clear n0_ n1_ n2_ n3_ n4_ n5_ n6_; clear hb hbox hg; have hnb8 := NB106_107.out; have hnc8 := NB107_106.out; have hcz9_0 : w7.cell? ⟨gb106, 0, none⟩ = some (.int .i64 a0_0) := (blk_cell BK106.out 0).trans rfl; have hcz9_1 : w7.cell? ⟨gb106, 1, none⟩ = some (.int .i64 a0_1) := (blk_cell BK106.out 1).trans rfl; have hcz9_2 : w7.cell? ⟨gb106, 2, none⟩ = some (.int .i64 a0_2) := (blk_cell BK106.out 2).trans rfl; have hcz9_3 : w7.cell? ⟨gb106, 3, none⟩ = some (.int .i64 a0_3) := (blk_cell BK106.out 3).trans rfl; have hfz9_0 := blk_frozen BK106.out 0; have hfz9_1 := blk_frozen BK106.out 1; have hfz9_2 := blk_frozen BK106.out 2; have hfz9_3 := blk_frozen BK106.out 3; have hcz10_0 : w7.cell? ⟨gb107, 0, none⟩ = some (.int .i64 a1_0) := (blk_cell BK107.out 0).trans rfl; have hcz10_1 : w7.cell? ⟨gb107, 1, none⟩ = some (.int .i64 a1_1) := (blk_cell BK107.out 1).trans rfl; have hcz10_2 : w7.cell? ⟨gb107, 2, none⟩ = some (.int .i64 a1_2) := (blk_cell BK107.out 2).trans rfl; have hcz10_3 : w7.cell? ⟨gb107, 3, none⟩ = some (.int .i64 a1_3) := (blk_cell BK107.out 3).trans rfl; have hfz10_0 := blk_frozen BK107.out 0; have hfz10_1 := blk_frozen BK107.out 1; have hfz10_2 := blk_frozen BK107.out 2; have hfz10_3 := blk_frozen BK107.out 3) | ((with_reducible refine gate_callee (f := 68) rfl ?_); refine goesL_ (some 17) rfl rfl Try.func68 (by kernel_rfl) rfl #[.int .u64 (IntKind.u64.wrap (a0_3)), .int .u64 (IntKind.u64.wrap (a1_1))] rfl (by (try simp only [List.map_toArray, List.map_cons, List.map_nil]); first | done | rfl | (simp only [List.length_drop, List.length_take]; rfl)) ?_; (with_reducible refine (bits_Mul64.calls (IntKind.u64.wrap (a0_3)) (IntKind.u64.wrap (a1_1)) t108 t109 _ A3.out).mono ?_); rintro e w' ⟨rfl, ⟨nd, rfl⟩⟩; refine ⟨_, rfl, ?_⟩) | ((with_reducible refine gate_callee (f := 68) rfl ?_); refine goesL_ (some 28) rfl rfl Try.func68 (by kernel_rfl) rfl #[.int .u64 (IntKind.u64.wrap (a1_3)), .int .u64 (IntKind.u64.wrap (a0_1))] rfl (by (try simp only [List.map_toArray, List.map_cons, List.map_nil]); first | done | rfl | (simp only [List.length_drop, List.length_take]; rfl)) ?_; (with_reducible refine (bits_Mul64.calls (IntKind.u64.wrap (a1_3)) (IntKind.u64.wrap (a0_1)) t110 t111 _ A4.out).mono ?_); rintro e w' ⟨rfl, ⟨nd, rfl⟩⟩; refine ⟨_, rfl, ?_⟩))
  (try simp only [Act.put, List.setIfInBounds_toArray, List.set_cons_zero, List.set_cons_succ])
  go_cut [31] (fun v31 wc => ∃ (kq : Nat) (x31_4 : Bool), v31 = .bool x31_4 ∧ Aside0 (crush_ahead.j0 kq t108 t109 t110 t111 x31_4 a0_0 a0_1 a0_2 a0_3 a1_0 a1_1 a1_2 a1_3 = some r) ∧ Aside0 (kq ≤ k) ∧ Aside0 (wc.heap[gb106]? = some (.cells #[.int .i64 a0_0, .int .i64 a0_1, .int .i64 a0_2, .int .i64 a0_3] 75 (0, 0))) ∧ Aside0 (wc.heap[gb107]? = some (.cells #[.int .i64 a1_0, .int .i64 a1_1, .int .i64 a1_2, .int .i64 a1_3] 75 (0, 0))) ∧ Aside0 (Below w.heap.size w wc))
  case first =>
    have H := HC5.out
    clear HC5
    by_cases c11 : t108 < t110
    · rw [if_pos c11] at H
      have c11b0 : decide (t108 < t110) = true := decide_eq_true c11
      clear c11
      (first | rw [c11b0] | (simp only [i64_w, i32_w]; rw [c11b0]) | skip)
      have H' := Aside0.mk H
      clear H
      go_wp2
      go_meet
      case rel => exact ⟨_, (true), (by first | rfl | (simp; done) | (simp [*]; done)), H', ⟨by first | omega | exact Nat.le_refl _⟩, ⟨by (with_reducible repeat (first | refine blk_drewN ?_ _ | refine blk_drew ?_ | refine blk_alloc ?_ _)); exact BK106.out⟩, ⟨by (with_reducible repeat (first | refine blk_drewN ?_ _ | refine blk_drew ?_ | refine blk_alloc ?_ _)); exact BK107.out⟩, ⟨by repeat (first | (with_reducible first | exact HB.out | apply below_alloc | apply pw_below_drewN | apply below_drew1 | refine below_set ?_ GE106.out | refine below_set ?_ GE107.out) | exact HB.out)⟩⟩
    · rw [if_neg c11] at H
      have c11b0 : decide (t108 < t110) = false := decide_eq_false c11
      clear c11
      (first | rw [c11b0] | (simp only [i64_w, i32_w]; rw [c11b0]) | skip)
      by_cases c12 : t108 = t110
      · rw [if_pos c12] at H
        have c12b0 : (t108 == t110) = true := beq_iff_eq.mpr c12
        have c12b1 : (t108 != t110) = false := bne_eq_false_iff_eq.mpr c12
        clear c12
        have H' := Aside0.mk H
        clear H
        go_wp2
        go_meet
        case rel => exact ⟨_, (decide (t109 < t111)), (by first | rfl | (simp; done) | (simp [*]; done)), H', ⟨by first | omega | exact Nat.le_refl _⟩, ⟨by (with_reducible repeat (first | refine blk_drewN ?_ _ | refine blk_drew ?_ | refine blk_alloc ?_ _)); exact BK106.out⟩, ⟨by (with_reducible repeat (first | refine blk_drewN ?_ _ | refine blk_drew ?_ | refine blk_alloc ?_ _)); exact BK107.out⟩, ⟨by repeat (first | (with_reducible first | exact HB.out | apply below_alloc | apply pw_below_drewN | apply below_drew1 | refine below_set ?_ GE106.out | refine below_set ?_ GE107.out) | exact HB.out)⟩⟩
      · rw [if_neg c12] at H
        have c12b0 : (t108 == t110) = false := beq_eq_false_iff_ne.mpr c12
        have c12b1 : (t108 != t110) = true := bne_iff_ne.mpr c12
        have H' := Aside0.mk H
        clear H
        go_wp2
        go_meet
        case rel => exact ⟨_, (false), (by first | rfl | (simp; done) | (simp [*]; done)), H', ⟨by first | omega | exact Nat.le_refl _⟩, ⟨by (with_reducible repeat (first | refine blk_drewN ?_ _ | refine blk_drew ?_ | refine blk_alloc ?_ _)); exact BK106.out⟩, ⟨by (with_reducible repeat (first | refine blk_drewN ?_ _ | refine blk_drew ?_ | refine blk_alloc ?_ _)); exact BK107.out⟩, ⟨by repeat (first | (with_reducible first | exact HB.out | apply below_alloc | apply pw_below_drewN | apply below_drew1 | refine below_set ?_ GE106.out | refine below_set ?_ GE107.out) | exact HB.out)⟩⟩
  case rest =>
    clear HC5
    try clear c1
    try clear p2
    try clear c5
    try clear c6
    try clear c8
    try clear c11
    try clear c11b0
    try clear c12
    try clear c12b0
    try clear c12b1
    try clear hcz10_0
    try clear hcz10_1
    try clear hcz10_2
    try clear hcz10_3
    try clear hcz9_0
    try clear hcz9_1
    try clear hcz9_2
    try clear hcz9_3
    try clear hfz10_0
    try clear hfz10_1
    try clear hfz10_2
    try clear hfz10_3
    try clear hfz9_0
    try clear hfz9_1
    try clear hfz9_2
    try clear hfz9_3
    obtain ⟨kq, x31_4, rfl, HA, HJ4, BK106, BK107, HB⟩ := hcut
    cases kq with
    | zero => exact absurd HA.out (by simp [crush_ahead.j0])
    | succ kj4 =>
      have H := HA.out
      clear HA
      simp only [crush_ahead.j0] at H
      by_cases c13 : x31_4 = true
      · subst c13
        have H1 : (some (-1)) = some r := by rw [if_pos rfl] at H; exact H
        clear H
        have H := H1
        clear H1
        obtain rfl := Option.some.inj H
        go_wp2
        go_ret
        exact ⟨by first | rfl | (simp [errW_none, errW_some] <;> rfl) | (simp [*, errW_none, errW_some] <;> rfl), by repeat (first | (with_reducible first | exact HB.out | apply below_alloc | apply pw_below_drewN | apply below_drew1 | refine below_set ?_ GE106.out | refine below_set ?_ GE107.out) | exact HB.out)⟩
      · replace c13 := Bool.eq_false_iff.mpr c13
        subst c13
        have H1 : (if t108 = t110 then (if t109 = t111 then (some (wrap64 (a0_2 - a1_2))) else (some 1)) else (some 1)) = some r := by rw [if_neg (show ¬ (false = true) by decide)] at H; exact H
        clear H
        have H := H1
        clear H1
        by_cases c14 : t108 = t110
        · rw [if_pos c14] at H
          have c14b0 : (t108 == t110) = true := beq_iff_eq.mpr c14
          have c14b1 : (t108 != t110) = false := bne_eq_false_iff_eq.mpr c14
          clear c14
          by_cases c15 : t109 = t111
          · rw [if_pos c15] at H
            have c15b0 : (t109 == t111) = true := beq_iff_eq.mpr c15
            have c15b1 : (t109 != t111) = false := bne_eq_false_iff_eq.mpr c15
            clear c15
            obtain rfl := Option.some.inj H
            have hnb16 := NB106_107.out
            have hnc16 := NB107_106.out
            have hcz17_0 : wc.cell? ⟨gb106, 0, none⟩ = some (.int .i64 a0_0) := (blk_cell BK106.out 0).trans rfl
            have hcz17_1 : wc.cell? ⟨gb106, 1, none⟩ = some (.int .i64 a0_1) := (blk_cell BK106.out 1).trans rfl
            have hcz17_2 : wc.cell? ⟨gb106, 2, none⟩ = some (.int .i64 a0_2) := (blk_cell BK106.out 2).trans rfl
            have hcz17_3 : wc.cell? ⟨gb106, 3, none⟩ = some (.int .i64 a0_3) := (blk_cell BK106.out 3).trans rfl
            have hfz17_0 := blk_frozen BK106.out 0
            have hfz17_1 := blk_frozen BK106.out 1
            have hfz17_2 := blk_frozen BK106.out 2
            have hfz17_3 := blk_frozen BK106.out 3
            have hcz18_0 : wc.cell? ⟨gb107, 0, none⟩ = some (.int .i64 a1_0) := (blk_cell BK107.out 0).trans rfl
            have hcz18_1 : wc.cell? ⟨gb107, 1, none⟩ = some (.int .i64 a1_1) := (blk_cell BK107.out 1).trans rfl
            have hcz18_2 : wc.cell? ⟨gb107, 2, none⟩ = some (.int .i64 a1_2) := (blk_cell BK107.out 2).trans rfl
            have hcz18_3 : wc.cell? ⟨gb107, 3, none⟩ = some (.int .i64 a1_3) := (blk_cell BK107.out 3).trans rfl
            have hfz18_0 := blk_frozen BK107.out 0
            have hfz18_1 := blk_frozen BK107.out 1
            have hfz18_2 := blk_frozen BK107.out 2
            have hfz18_3 := blk_frozen BK107.out 3
            go_wp2
            go_ret
            exact ⟨by first | rfl | (simp [errW_none, errW_some] <;> rfl) | (simp [*, errW_none, errW_some] <;> rfl), by repeat (first | (with_reducible first | exact HB.out | apply below_alloc | apply pw_below_drewN | apply below_drew1 | refine below_set ?_ GE106.out | refine below_set ?_ GE107.out) | exact HB.out)⟩
          · rw [if_neg c15] at H
            have c15b0 : (t109 == t111) = false := beq_eq_false_iff_ne.mpr c15
            have c15b1 : (t109 != t111) = true := bne_iff_ne.mpr c15
            obtain rfl := Option.some.inj H
            go_wp2
            go_ret
            exact ⟨by first | rfl | (simp [errW_none, errW_some] <;> rfl) | (simp [*, errW_none, errW_some] <;> rfl), by repeat (first | (with_reducible first | exact HB.out | apply below_alloc | apply pw_below_drewN | apply below_drew1 | refine below_set ?_ GE106.out | refine below_set ?_ GE107.out) | exact HB.out)⟩
        · rw [if_neg c14] at H
          have c14b0 : (t108 == t110) = false := beq_eq_false_iff_ne.mpr c14
          have c14b1 : (t108 != t110) = true := bne_iff_ne.mpr c14
          obtain rfl := Option.some.inj H
          go_wp2
          go_ret
          exact ⟨by first | rfl | (simp [errW_none, errW_some] <;> rfl) | (simp [*, errW_none, errW_some] <;> rfl), by repeat (first | (with_reducible first | exact HB.out | apply below_alloc | apply pw_below_drewN | apply below_drew1 | refine below_set ?_ GE106.out | refine below_set ?_ GE107.out) | exact HB.out)⟩
end Go.Proofs.Ytbaldkcnipmdjaa.P
namespace Go.Proofs.Ytbaldkcnipmdjaa.P
open Go.RowKit Go.Proofs.YtbaldkcnipmdjaaW.PrintWords Go.Proofs.YtbaldkcnipmdjaaW.PrintLast Go.Proofs.YtbaldkcnipmdjaaW.PrintMore Go.Proofs.YtbaldkcnipmdjaaW.HB
set_option linter.unusedVariables false
set_option linter.unusedSimpArgs false
attribute [local go_sem] Oper.semAt_some
structure Straw where
  id : Int
  wt : Int
  place : Int
  cost : Int
def wtI (x : S31) : Int := mn x.f1 1048576
def strawAt (l : List S31) (x r : Int) (i : Nat) : Straw := ⟨(rd_T31 l i).f0, wtI (rd_T31 l i), i, costS x (rd_T31 l i).f0 r⟩
def strawsL (l : List S31) (x r : Int) : Nat → List Straw
  | 0 => []
  | n + 1 => if 1 ≤ wtI (rd_T31 l n) then strawsL l x r n ++ [strawAt l x r n] else strawsL l x r n
def aheadB (s b : Straw) : Bool := decide (s.cost * b.wt < b.cost * s.wt ∨ (s.cost * b.wt = b.cost * s.wt ∧ s.place < b.place))
def stepB (b : Option Straw) (s : Straw) : Option Straw := match b with
  | none => some s
  | some b => if aheadB s b = true then some s else some b
def bestL (l : List Straw) : Option Straw := l.foldl stepB none
theorem bestL_snoc (l : List Straw) (s : Straw) : bestL (l ++ [s]) = stepB (bestL l) s := by unfold bestL; rw [List.foldl_append]; rfl
structure Straw.ok (s : Straw) : Prop where
  w1 : 1 ≤ s.wt
  w2 : s.wt ≤ 1048576
  c1 : 0 ≤ s.cost
  c2 : s.cost ≤ 1048576
  p1 : 0 ≤ s.place
  p2 : s.place ≤ 9223372036854775807
theorem strawAt_ok (l : List S31) (x r : Int) (i : Nat) (hi : i ≤ 9223372036854775807) (h : 1 ≤ wtI (rd_T31 l i)) : (strawAt l x r i).ok := by
  have hc := cost_at x (rd_T31 l i).f0 r
  refine ⟨h, ?_, hc.2.2.1, hc.2.2.2, by show (0 : Int) ≤ (i : Int); omega, by show (i : Int) ≤ _; omega⟩
  show wtI (rd_T31 l i) ≤ 1048576
  unfold wtI mn
  split <;> omega
theorem strawsL_ok (l : List S31) (x r : Int) : ∀ (n : Nat), n ≤ 9223372036854775807 → ∀ s ∈ strawsL l x r n, s.ok
  | 0, _, s, h => by simp [strawsL] at h
  | n + 1, hn, s, h => by
    unfold strawsL at h
    split at h
    · rename_i hw
      rcases List.mem_append.1 h with h | h
      · exact strawsL_ok l x r n (by omega) s h
      · simp at h; subst h; exact strawAt_ok l x r n (by omega) hw
    · exact strawsL_ok l x r n (by omega) s h
theorem strawsL_len (l : List S31) (x r : Int) : ∀ n, (strawsL l x r n).length ≤ n
  | 0 => by simp [strawsL]
  | n + 1 => by
    have := strawsL_len l x r n
    unfold strawsL
    split
    · rw [List.length_append]; simp; omega
    · omega
theorem best_mem : ∀ (l : List Straw) (b0 : Option Straw) (b : Straw), l.foldl stepB b0 = some b → b ∈ l ∨ b0 = some b
  | [], b0, b, h => .inr h
  | s :: l, b0, b, h => by
    rw [List.foldl_cons] at h
    rcases best_mem l _ b h with h | h
    · exact .inl (List.mem_cons_of_mem _ h)
    · cases b0 with
      | none => injection h with h; subst h; exact .inl (by simp)
      | some b' =>
        simp only [stepB] at h
        split at h
        · injection h with h; subst h; exact .inl (by simp)
        · exact .inr h
theorem bestL_mem (l : List Straw) (b : Straw) (h : bestL l = some b) : b ∈ l := (best_mem l none b h).elim id (fun h => by cases h)
abbrev OkS := { s : Straw // s.ok }
open Classical in
noncomputable def mkOk (s : Straw) : OkS := if h : s.ok then ⟨s, h⟩ else ⟨⟨0, 1, 0, 0⟩, ⟨by decide, by decide, by decide, by decide, by decide, by decide⟩⟩
theorem mkOk_val (s : Straw) (h : s.ok) : (mkOk s).1 = s := by unfold mkOk; rw [dif_pos h]
theorem mkOk_map : ∀ (l : List Straw), (∀ s ∈ l, s.ok) → (l.map mkOk).map Subtype.val = l
  | [], _ => rfl
  | s :: l, h => by
    rw [List.map_cons, List.map_cons, mkOk_val s (h s (by simp)), mkOk_map l (fun t ht => h t (List.mem_cons_of_mem _ ht))]
def valsO (l : List OkS) : List Straw := l.map Subtype.val
theorem best_ok (l : List OkS) (b : Straw) (h : bestL (valsO l) = some b) : b.ok := by
  obtain ⟨s, _, rfl⟩ := List.mem_map.1 (bestL_mem _ _ h)
  exact s.2
theorem and32 (x : Int) (h0 : 0 ≤ x) (h1 : x < 4294967296) : Go.bits .and .u64 x 4294967295 = x := by
  have := bits_mask .u64 64 (by decide) (fun n a b => by simp [IntKind.wrap, IntKind.signed, IntKind.bits]; omega) 32 (by decide) x h0 (by omega)
  rw [show (4294967295 : Int) = 2 ^ 32 - 1 from by decide, this]
  omega
theorem mul64_eq (x y : Int) (hx : 0 ≤ x ∧ x ≤ 1048576) (hy : 0 ≤ y ∧ y ≤ 1048576) : bits_Mul64.f x y = some (0, x * y) := by
  have hp : 0 ≤ x * y := Int.mul_nonneg hx.1 hy.1
  have hq : x * y ≤ 1048576 * 1048576 := Int.mul_le_mul hx.2 hy.2 hy.1 (by decide)
  have hw : ∀ z : Int, 0 ≤ z → z < 18446744073709551616 → IntKind.u64.wrap z = z := fun z a b => by simp [IntKind.wrap, IntKind.signed, IntKind.bits]; omega
  unfold bits_Mul64.f
  rw [and32 x (by omega) (by omega), and32 y (by omega) (by omega)]
  rw [show x / 4294967296 = 0 from by omega, show y / 4294967296 = 0 from by omega]
  simp only [Int.zero_mul, Int.mul_zero]
  generalize x * y = z at *
  rw [hw 0 (by omega) (by omega), hw z (by omega) (by omega)]
  simp only [Int.zero_add]
  rw [hw (z / 4294967296) (by omega) (by omega)]
  rw [and32 (z / 4294967296) (by omega) (by omega), Int.add_zero, hw (z / 4294967296) (by omega) (by omega)]
  rw [show z / 4294967296 / 4294967296 = 0 from by omega, hw 0 (by omega) (by omega), Int.add_zero, hw 0 (by omega) (by omega)]
theorem ahead_eq (s b : Straw) (hs : s.ok) (hb : b.ok) : ∃ v : Int, crush_ahead.f 5 s.id s.wt s.place s.cost b.id b.wt b.place b.cost = some v ∧ decide (v < 0) = aheadB s b := by
  have hw : ∀ z : Int, 0 ≤ z → z < 18446744073709551616 → IntKind.u64.wrap z = z := fun z a b => by simp [IntKind.wrap, IntKind.signed, IntKind.bits]; omega
  obtain ⟨w1, w2, c1, c2, p1, p2⟩ := hs
  obtain ⟨w1', w2', c1', c2', p1', p2'⟩ := hb
  unfold crush_ahead.f aheadB
  rw [hw s.cost c1 (by omega), hw b.wt (by omega) (by omega), hw b.cost c1' (by omega), hw s.wt (by omega) (by omega)]
  rw [mul64_eq _ _ ⟨c1, c2⟩ ⟨by omega, w2'⟩, mul64_eq _ _ ⟨c1', c2'⟩ ⟨by omega, w2⟩, Option.bind_some, Option.bind_some]
  simp only [crush_ahead.j0]
  generalize s.cost * b.wt = P
  generalize b.cost * s.wt = Q
  rw [if_neg (by omega), if_pos trivial]
  by_cases h : P < Q
  · rw [decide_eq_true h, if_pos rfl]
    exact ⟨-1, rfl, by rw [decide_eq_true (Or.inl h)]; rfl⟩
  · rw [decide_eq_false h, if_neg (by decide)]
    by_cases he : P = Q
    · rw [if_pos he, wrap64_small _ (by omega) (by omega)]
      refine ⟨_, rfl, ?_⟩
      rw [decide_eq_decide]
      omega
    · rw [if_neg he]
      exact ⟨1, rfl, by rw [decide_eq_decide]; omega⟩
end Go.Proofs.Ytbaldkcnipmdjaa.P
namespace Go.Proofs.Ytbaldkcnipmdjaa.P
open Go.RowKit Go.Proofs.YtbaldkcnipmdjaaW.PrintWords Go.Proofs.YtbaldkcnipmdjaaW.PrintLast Go.Proofs.YtbaldkcnipmdjaaW.PrintMore Go.Proofs.YtbaldkcnipmdjaaW.HB
set_option linter.unusedVariables false
theorem C_block {α : Type} {d : Kd α} (hs : 0 < d.sz) {W : World} {A : Option Addr} {n : Nat} {xs : List α} (h : Kd.C d W A n xs) : ∀ ad, A = some ad → 0 < n → ad.block < W.heap.size := by
  intro ad e hn
  obtain ⟨ad', e', hc⟩ := h.2.2 hn
  obtain rfl : ad = ad' := by rw [e] at e'; exact Option.some.inj e'
  have hl := h.1
  obtain ⟨c, h1, h2, h3⟩ := hc 0 xs[0] (List.getElem?_eq_getElem (by omega))
  have hc0 : 0 < c.length := by omega
  have := World.block_lt_of_cell? _ _ (h3 0 c[0] (List.getElem?_eq_getElem hc0))
  rw [Nat.zero_mul, Nat.zero_add] at this
  simpa [Addr.add] using this
theorem heap_alloc_if (w : World) (o : Obj) (k : Nat) : (w.alloc o).heap[k]? = if k = w.heap.size then some o else w.heap[k]? := by
  show (w.heap.push o)[k]? = _
  rw [Array.getElem?_push]
theorem keepsFrom_below {W W' : World} (B : Nat) (h : Below W.heap.size W W') : KeepsFrom B W W' := ⟨h.size, fun k o _ ho _ => (h.block k (Array.getElem?_eq_some_iff.1 ho).1).trans ho⟩
theorem meetM {F : Fence} {n : Nat} {P : Program} {c : Code} {Q : Exit → Act → World → Prop} {a : Act} {w : World}
    (h : ∃ a' w', c.wpIn F n P (fun e a w => match e with | .normal => a = a' ∧ w = w' | _ => False) a w ∧ Q .normal a' w') : c.wpIn F n P Q a w := by
  obtain ⟨a', w', h1, h2⟩ := h
  refine wpIn_mono h1 ?_
  rintro e b v hb
  cases e with
  | normal => obtain ⟨rfl, rfl⟩ := hb; exact h2
  | _ => exact hb.elim
theorem wpIn_scope_wide {n : Nat} {P : Program} {c : Code} {Q : Exit → Act → World → Prop} {a : Act} {w : World} (h : c.wpIn Fence.wide n P (Exit.noGoto Q) a w) : (Code.scope c).wpIn Fence.wide n P Q a w := wpIn_wide.2 (wp_scope_straight (wpIn_wide.1 h))
end Go.Proofs.Ytbaldkcnipmdjaa.P
