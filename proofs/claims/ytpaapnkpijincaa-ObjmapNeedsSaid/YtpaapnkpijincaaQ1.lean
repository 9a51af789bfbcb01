import Derived.Test.YtpaapnkpijincaaP1
import Derived.Test.YtpaapnkpijincaaP2
import Derived.Test.YtpaapnkpijincaaO2
namespace Go.Proofs.Ytpaapnkpijincaa.P
open Go.RowKit Go.Proofs.YtpaapnkpijincaaW.PrintWords Go.Proofs.YtpaapnkpijincaaW.PrintLast Go.Proofs.YtpaapnkpijincaaW.PrintMore Go.Proofs.YtpaapnkpijincaaW.HB
set_option linter.unusedVariables false
set_option linter.unusedSimpArgs false

/-! which marks fit; how many there are: no Go in sight -/
theorem wrS (n : Int) (h : -9223372036854775808 ≤ n ∧ n ≤ 9223372036854775807) : wrap64 n = n := by unfold wrap64; omega
def fitD (m : ByteArray) : Nat → Nat → Bool
  | 0, _ => decide ((m.size : Int) ≤ 4096)
  | d + 1, i => if bt m (i : Int) > 1 then false else fitD m d (i + 1)
def fitM (m : ByteArray) : Bool := fitD m m.size 0
theorem fitD_true (m : ByteArray) : ∀ d i, fitD m d i = true ↔ (∀ j, i ≤ j → j < i + d → bt m (j : Int) ≤ 1) ∧ m.size ≤ 4096
  | 0, i => by simp only [fitD, decide_eq_true_eq]; exact ⟨fun h => ⟨fun j h1 h2 => by omega, by omega⟩, fun h => by omega⟩
  | d + 1, i => by
    simp only [fitD]
    split
    · rename_i h
      simp only [Bool.false_eq_true, false_iff]
      rintro ⟨h1, _⟩
      have := h1 i (by omega) (by omega)
      omega
    · rename_i h
      rw [fitD_true m d (i + 1)]
      constructor
      · rintro ⟨h1, h2⟩
        refine ⟨fun j h3 h4 => ?_, h2⟩
        rcases Nat.eq_or_lt_of_le h3 with rfl | h5
        · omega
        · exact h1 j (by omega) (by omega)
      · rintro ⟨h1, h2⟩
        exact ⟨fun j h3 h4 => h1 j (by omega) (by omega), h2⟩
theorem fitM_true (m : ByteArray) : fitM m = true ↔ (∀ j : Nat, j < m.size → bt m (j : Int) ≤ 1) ∧ m.size ≤ 4096 := by
  unfold fitM
  rw [fitD_true]
  exact ⟨fun h => ⟨fun j hj => h.1 j (Nat.zero_le _) (by omega), h.2⟩, fun h => ⟨fun j _ hj => h.1 j (by omega), h.2⟩⟩
theorem fit_go (m : ByteArray) (hm : m.size ≤ 140737488351232) : ∀ d i k : Nat, i + d = m.size → d < k → objmap_Fit.l0 k m (m.size : Int) (i : Int) = some (fitD m d i)
  | 0, i, k, hi, hk => by
    obtain ⟨k, rfl⟩ : ∃ q, k = q + 1 := ⟨k - 1, by omega⟩
    simp only [objmap_Fit.l0]
    rw [if_neg (by omega)]
    rfl
  | d + 1, i, k, hi, hk => by
    obtain ⟨k, rfl⟩ : ∃ q, k = q + 1 := ⟨k - 1, by omega⟩
    simp only [objmap_Fit.l0, fitD]
    rw [if_pos (by omega), if_pos (by omega), if_pos (by omega)]
    split
    · rfl
    · rw [wrS _ (by omega)]
      exact fit_go m hm d (i + 1) k (by omega) (by omega)
theorem rfit_go (m : ByteArray) (hm : m.size ≤ 140737488351232) : ∀ d i k : Nat, i + d = m.size → d < k → reefref29_Fit.l0 k m (i : Int) = some (fitD m d i)
  | 0, i, k, hi, hk => by
    obtain ⟨k, rfl⟩ : ∃ q, k = q + 1 := ⟨k - 1, by omega⟩
    simp only [reefref29_Fit.l0]
    rw [if_neg (by omega)]
    rfl
  | d + 1, i, k, hi, hk => by
    obtain ⟨k, rfl⟩ : ∃ q, k = q + 1 := ⟨k - 1, by omega⟩
    simp only [reefref29_Fit.l0, fitD]
    rw [if_pos (by omega), if_pos (by omega)]
    split
    · rfl
    · rw [wrS _ (by omega)]
      exact rfit_go m hm d (i + 1) k (by omega) (by omega)
theorem fit_eq (m : ByteArray) (hm : m.size ≤ 140737488351232) (k : Nat) (hk : m.size < k) : objmap_Fit.f k m = some (fitM m) := fit_go m hm m.size 0 k (by omega) hk
theorem rfit_eq (m : ByteArray) (hm : m.size ≤ 140737488351232) (k : Nat) (hk : m.size < k) : reefref29_Fit.f k m = some (fitM m) := rfit_go m hm m.size 0 k (by omega) hk
theorem rcount_go (m : ByteArray) (hm : m.size ≤ 4096) : ∀ d i k : Nat, i + d = m.size → d < k → reefref29_Count.l0 k m ((plc m i).length : Int) (i : Int) = some ((plc m m.size).length : Int)
  | 0, i, k, hi, hk => by
    obtain ⟨k, rfl⟩ : ∃ q, k = q + 1 := ⟨k - 1, by omega⟩
    simp only [reefref29_Count.l0]
    rw [if_neg (by omega), show i = m.size from by omega]
  | d + 1, i, k, hi, hk => by
    obtain ⟨k, rfl⟩ : ∃ q, k = q + 1 := ⟨k - 1, by omega⟩
    have h1 := plc_len m i
    have ih := rcount_go m hm d (i + 1) k (by omega) (by omega)
    simp only [reefref29_Count.l0]
    rw [if_pos (by omega), if_pos (by omega)]
    rw [plc_succ] at ih
    split
    · rename_i h
      rw [if_pos h, List.length_append] at ih
      rw [wrS _ (by omega), wrS _ (by omega)]
      exact ih
    · rename_i h
      rw [if_neg h, List.append_nil] at ih
      rw [wrS _ (by omega)]
      exact ih
theorem rcount_eq (m : ByteArray) (hm : m.size ≤ 4096) (k : Nat) (hk : m.size < k) : reefref29_Count.f k m = some ((plc m m.size).length : Int) := rcount_go m hm m.size 0 k (by omega) hk
theorem ints_go (l : List Int) (hl : l.length < 4611686018427387904) : ∀ d i k : Nat, i + d = l.length → d < k → reeflaw29_ints.l0 k l l (i : Int) = some true
  | 0, i, k, hi, hk => by
    obtain ⟨k, rfl⟩ : ∃ q, k = q + 1 := ⟨k - 1, by omega⟩
    simp only [reeflaw29_ints.l0]
    rw [if_neg (by omega)]
  | d + 1, i, k, hi, hk => by
    obtain ⟨k, rfl⟩ : ∃ q, k = q + 1 := ⟨k - 1, by omega⟩
    simp only [reeflaw29_ints.l0]
    have e : wrap64 ((i : Int) + 1) = ((i + 1 : Nat) : Int) := wrS _ (by omega)
    have E := Aside0.mk e
    clear e
    rw [if_pos (by omega), if_pos (by omega), if_pos (by omega), if_pos trivial, E.out]
    exact ints_go l hl d (i + 1) k (by omega) (by omega)
theorem ints_eq (l : List Int) (hl : l.length < 4611686018427387904) (k : Nat) (hk : l.length < k) : reeflaw29_ints.f k l l = some true := by
  unfold reeflaw29_ints.f
  rw [if_pos rfl]
  exact ints_go l hl l.length 0 k (by omega) hk
end Go.Proofs.Ytpaapnkpijincaa.P
