import Derived.Test.YtpaapnkpijincaaQ7
import Derived.Test.YtpaapnkpijincaaQ4
namespace Go.Proofs.Ytpaapnkpijincaa.P
open Go.RowKit Go.Proofs.YtpaapnkpijincaaW.PrintWords Go.Proofs.YtpaapnkpijincaaW.PrintLast Go.Proofs.YtpaapnkpijincaaW.PrintMore Go.Proofs.YtpaapnkpijincaaW.HB
set_option linter.unusedVariables false
set_option linter.unusedSimpArgs false

/-! the document's rows, bits and marks -/
/-- From some number of rounds on: r. -/
def EvR {α : Type} (f : Nat → Option α) (r : α) : Prop := ∃ K, ∀ k, K ≤ k → f k = some r
theorem EvR.step {α : Type} {f h : Nat → Option α} {r : α} (hh : EvR h r) (e : ∀ k, f (k + 1) = h k) : EvR f r := by
  obtain ⟨K, hK⟩ := hh
  refine ⟨K + 1, fun k hk => ?_⟩
  obtain ⟨k, rfl⟩ : ∃ q, k = q + 1 := ⟨k - 1, by omega⟩
  rw [e k]
  exact hK k (by omega)
theorem EvR.now {α : Type} {f : Nat → Option α} {r : α} (e : ∀ k, f (k + 1) = some r) : EvR f r := ⟨1, fun k hk => by
  obtain ⟨k, rfl⟩ : ∃ q, k = q + 1 := ⟨k - 1, by omega⟩
  exact e k⟩
theorem rowStep_new (out : List RP) (i : Int) (h : lastOf (-1) out < i) : rowStep out i = out ++ [⟨i, i + 1⟩] := by
  rcases List.eq_nil_or_concat out with rfl | ⟨init, x, rfl⟩
  · rw [rowStep_nil]; rfl
  · rw [List.concat_eq_append] at *
    rw [last_app] at h
    simp only [lastOf] at h
    rw [rowStep_snoc, if_neg (by omega)]
theorem plc_skip (m : ByteArray) (i : Nat) (h : bt m (i : Int) ≠ 1) : plc m (i + 1) = plc m i := by rw [plc_succ, if_neg h, List.append_nil]
theorem rrows_ev (m : ByteArray) (hf : fitM m = true) : ∀ d : Nat,
    (∀ (i : Nat) (x3 : List RP), i + d = m.size + 1 → x3 = rowsOf (plc m (min i m.size)) → lastOf (-1) x3 < (i : Int) → EvR (fun k => reefref29_Rows.l0 k m x3 (i : Int)) (rowsOf (plc m m.size))) ∧
    (∀ (j i0 : Nat) (x3 : List RP), j + d = m.size + 1 → x3 ++ [⟨(i0 : Int), (j : Int)⟩] = rowsOf (plc m j) → j ≤ m.size → EvR (fun k => reefref29_Rows.l1 k m x3 (i0 : Int) (j : Int)) (rowsOf (plc m m.size)))
  | 0 => by
    refine ⟨fun i x3 hi hx hl => EvR.now (fun k => ?_), fun j i0 x3 hj _ h => by omega⟩
    simp only [reefref29_Rows.l0]
    rw [if_neg (by omega), hx, Nat.min_eq_right (by omega)]
  | d + 1 => by
    obtain ⟨hm1, hm⟩ := (fitM_true m).1 hf
    obtain ⟨c0, c1⟩ := rrows_ev m hf d
    have stepI : ∀ i : Nat, i ≤ m.size → Aside0 (wrap64 ((i : Int) + 1) = ((i + 1 : Nat) : Int)) := fun i h => ⟨wrS _ (by omega)⟩
    have done : ∀ (j i0 : Nat) (x3 : List RP), j + (d + 1) = m.size + 1 → x3 ++ [⟨(i0 : Int), (j : Int)⟩] = rowsOf (plc m j) → (j < m.size → bt m (j : Int) ≠ 1) → EvR (fun k => reefref29_Rows.l0 k m (x3 ++ [⟨(i0 : Int), (j : Int)⟩]) ((j + 1 : Nat) : Int)) (rowsOf (plc m m.size)) := fun j i0 x3 hj hx hb => by
      refine c0 (j + 1) _ (by omega) ?_ (by rw [last_app]; simp only [lastOf]; omega)
      rw [hx]
      by_cases h : j < m.size
      · rw [Nat.min_eq_left (by omega), plc_skip m j (hb h)]
      · rw [Nat.min_eq_right (by omega), show j = m.size by omega]
    have roomy : ∀ (j i0 : Nat) (x3 : List RP), j ≤ m.size → x3 ++ [⟨(i0 : Int), (j : Int)⟩] = rowsOf (plc m j) → x3.length < 8796093022208 := fun j i0 x3 hj hx => by
      have := rows_len m j (by omega)
      rw [← hx, List.length_append] at this
      omega
    constructor
    · intro i x3 hi hx hl
      by_cases hlt : i < m.size
      · have EI := stepI i (by omega)
        rw [Nat.min_eq_left (by omega)] at hx
        by_cases hb : bt m (i : Int) = 1
        · have hb0 : ¬ bt m (i : Int) = 0 := by omega
          have h1 := c1 (i + 1) i x3 (by omega) (by rw [plc_succ, if_pos hb, rowsOf_snoc, ← hx, rowStep_new x3 _ hl]; rfl) (by omega)
          refine EvR.step (h := fun k => reefref29_Rows.l1 k m x3 (i : Int) (i : Int)) (EvR.step h1 (fun k => ?_)) (fun k => ?_)
          · simp only [reefref29_Rows.l1]
            rw [if_pos (by omega), if_pos (by omega), if_pos hb, EI.out]
          · simp only [reefref29_Rows.l0]
            rw [if_pos (by omega), if_pos (by omega), if_neg hb0]
        · have hb0 : bt m (i : Int) = 0 := by have := hm1 i hlt; have := bt_ge m (i : Int); omega
          refine (c0 (i + 1) x3 (by omega) (by rw [Nat.min_eq_left (by omega), plc_skip m i hb]; exact hx) (by omega)).step (fun k => ?_)
          simp only [reefref29_Rows.l0]
          rw [if_pos (by omega), if_pos (by omega), if_pos hb0, EI.out]
      · refine EvR.now (fun k => ?_)
        simp only [reefref29_Rows.l0]
        rw [if_neg (by omega), hx, Nat.min_eq_right (by omega)]
    · intro j i0 x3 hj hx hjs
      have EJ := stepI j hjs
      have hroom := roomy j i0 x3 hjs hx
      by_cases hlt : j < m.size
      · by_cases hb : bt m (j : Int) = 1
        · refine (c1 (j + 1) i0 x3 (by omega) ?_ (by omega)).step (fun k => ?_)
          · rw [plc_succ, if_pos hb, rowsOf_snoc, ← hx, rowStep_snoc, if_pos rfl]
            rfl
          · simp only [reefref29_Rows.l1]
            rw [if_pos (by omega), if_pos (by omega), if_pos hb, EJ.out]
        · refine (done j i0 x3 hj hx (fun _ => hb)).step (fun k => ?_)
          simp only [reefref29_Rows.l1]
          rw [if_pos (by omega), if_pos (by omega), if_neg hb, if_pos hroom, EJ.out]
      · refine (done j i0 x3 hj hx (fun h => absurd h hlt)).step (fun k => ?_)
        simp only [reefref29_Rows.l1]
        rw [if_neg (by omega), if_pos hroom, EJ.out]
theorem rrows_eq (m : ByteArray) (hf : fitM m = true) : EvR (fun k => reefref29_Rows.f k m) (rowsOf (plc m m.size)) := by
  exact (rrows_ev m hf (m.size + 1)).1 0 [] (by omega) (by simp [plc, rowsOf]) (by simp [lastOf])

theorem or0_fin : ∀ x : Fin 256, Go.bits .or .u8 (x.val : Int) 0 = x.val := by decide +kernel
theorem or0 (x : Int) (h0 : 0 ≤ x) (h1 : x ≤ 255) : Go.bits .or .u8 x 0 = x := by
  have := or0_fin ⟨x.toNat, by omega⟩
  simp only at this
  rwa [show ((x.toNat : Nat) : Int) = x by omega] at this
theorem shl0 (y : Int) : shl .u8 0 y = 0 := by unfold shl; rw [Int.zero_mul]; decide
theorem shl1_fin : ∀ r : Fin 8, shl .u8 1 (r.val : Int) = 2 ^ r.val := by decide +kernel
theorem u64m (i : Nat) : IntKind.u64.wrap (Int.tmod (i : Int) 8) = ((i % 8 : Nat) : Int) := by
  rw [Int.tmod_eq_emod_of_nonneg (by omega), IntKind.wrap_u64]; omega
theorem tdv (i : Nat) (h : i < 4611686018427387904) : wrap64 (Int.tdiv (i : Int) 8) = ((i / 8 : Nat) : Int) := by rw [Int.tdiv_eq_ediv_of_nonneg (by omega), wrS _ (by omega)]; omega
theorem rpack_go (m : ByteArray) (hf : fitM m = true) : ∀ (d i : Nat) (b : List Int), i + d = m.size → bytesOk b → b.length = (m.size + 7) / 8 → (∀ j : Nat, bitL b j = if j < i ∧ bt m (j : Int) = 1 then 1 else 0) → EvR (fun k => reefref29_Pack.l0 k m b (i : Int)) (strOfNums (packL m))
  | 0, i, b, hi, hb, hl, hbit => by
    obtain ⟨hm1, hm⟩ := (fitM_true m).1 hf
    obtain ⟨p1, p2, p3⟩ := packL_law m hm
    obtain rfl : i = m.size := by omega
    have e : b = packL m := bitL_ext hb p1 (by omega) (fun j _ => by rw [hbit j, p3 j])
    refine EvR.now (fun k => ?_)
    simp only [reefref29_Pack.l0]
    rw [if_neg (by omega), e]
  | d + 1, i, b, hi, hb, hl, hbit => by
    obtain ⟨hm1, hm⟩ := (fitM_true m).1 hf
    have hlt : i < m.size := by omega
    have E1 := Aside0.mk (tdv i (by omega))
    have E2 := Aside0.mk (u64m i)
    have EI := Aside0.mk (show wrap64 ((i : Int) + 1) = ((i + 1 : Nat) : Int) from wrS _ (by omega))
    have hrd : rd b ((i / 8 : Nat) : Int) = b.getD (i / 8) 0 := rfl
    obtain ⟨g0, g1⟩ := bytesOk_get hb (i / 8)
    by_cases hbt : bt m (i : Int) = 1
    · obtain ⟨s1, s2⟩ := bitSet_ok hb i (by omega)
      have hset : b.set (i / 8) (Go.bits .or .u8 (b.getD (i / 8) 0) (shl .u8 1 ((i % 8 : Nat) : Int))) = bitSet b (i : Int) := by
        unfold bitSet
        rw [show ((i : Int) / 8).toNat = i / 8 by omega, show ((i : Int) % 8).toNat = i % 8 by omega]
        rw [show shl .u8 1 ((i % 8 : Nat) : Int) = 2 ^ (i % 8) from shl1_fin ⟨i % 8, by omega⟩]
      refine (rpack_go m hf d (i + 1) (bitSet b (i : Int)) (by omega) s1 (by rw [bitSet_len]; exact hl) (fun j => ?_)).step (fun k => ?_)
      · rw [s2, hbit j]
        by_cases hj : j = i
        · subst hj; rw [if_pos rfl, if_pos ⟨by omega, hbt⟩]
        · rw [if_neg hj]
          by_cases q : j < i ∧ bt m (j : Int) = 1
          · rw [if_pos q, if_pos ⟨by omega, q.2⟩]
          · rw [if_neg q, if_neg (fun h => q ⟨by omega, h.2⟩)]
      · simp only [reefref29_Pack.l0]
        rw [E1.out, E2.out, if_pos (by omega), if_pos (by omega), if_pos (by omega), if_pos (by omega), if_pos (by omega), Int.toNat_natCast, hrd, hbt, hset, EI.out]
    · have hb0 : bt m (i : Int) = 0 := by have := hm1 i hlt; have := bt_ge m (i : Int); omega
      have hset : b.set (i / 8) (b.getD (i / 8) 0) = b := by
        rw [List.getD_eq_getElem?_getD, List.getElem?_eq_getElem (by omega), Option.getD_some]
        exact List.set_getElem_self (by omega)
      refine (rpack_go m hf d (i + 1) b (by omega) hb hl (fun j => ?_)).step (fun k => ?_)
      · rw [hbit j]
        by_cases q : j < i ∧ bt m (j : Int) = 1
        · rw [if_pos q, if_pos ⟨by omega, q.2⟩]
        · rw [if_neg q, if_neg (fun h => ?_)]
          by_cases hj : j = i
          · subst hj; exact hbt h.2
          · exact q ⟨by omega, h.2⟩
      · simp only [reefref29_Pack.l0]
        rw [E1.out, E2.out, if_pos (by omega), if_pos (by omega), if_pos (by omega), if_pos (by omega), if_pos (by omega), Int.toNat_natCast, hrd, hb0, shl0, or0 _ g0 g1, hset, EI.out]
theorem rpack_eq (m : ByteArray) (hf : fitM m = true) : EvR (fun k => reefref29_Pack.f k m) (strOfNums (packL m)) := by
  obtain ⟨hm1, hm⟩ := (fitM_true m).1 hf
  have E7 : wrap64 (Int.tdiv (wrap64 ((m.size : Int) + 7)) 8) = (((m.size + 7) / 8 : Nat) : Int) := by
    rw [show wrap64 ((m.size : Int) + 7) = ((m.size + 7 : Nat) : Int) from by rw [wrS _ (by omega)]; omega, tdv _ (by omega)]
  have h := rpack_go m hf m.size 0 (List.replicate ((m.size + 7) / 8) 0) (by omega) (fun x hx => by have := (List.mem_replicate.1 hx).2; omega) (by simp) (fun j => by
    rw [if_neg (by omega)]
    unfold bitL
    have : (List.replicate ((m.size + 7) / 8) (0 : Int)).getD (j / 8) 0 = 0 := by
      rw [List.getD_eq_getElem?_getD, List.getElem?_replicate]; split <;> rfl
    rw [this]; simp)
  obtain ⟨K, hK⟩ := h
  refine ⟨K, fun k hk => ?_⟩
  unfold reefref29_Pack.f
  dsimp only
  rw [E7, if_pos (by omega), Int.toNat_natCast, if_pos (by omega)]
  exact hK k hk
theorem topB_true (s : ByteArray) (n : Nat) : topB s n = true ↔ ∃ i, i < 8 * s.size ∧ n ≤ i ∧ bitL (bytesOf s) i = 1 := by
  unfold topB
  rw [List.any_eq_true]
  constructor
  · rintro ⟨i, h1, h2⟩
    rw [List.mem_range] at h1
    simp at h2
    exact ⟨i, h1, h2.1, h2.2⟩
  · rintro ⟨i, h1, h2, h3⟩
    exact ⟨i, List.mem_range.2 h1, by simp [h2, h3]⟩
theorem runpack_go (s : ByteArray) (n : Nat) (hn : n ≤ 4096) (hs : s.size = (n + 7) / 8) : ∀ (d i : Nat) (x : List Int), i + d = 8 * s.size → x = unL s (min i n) → (∀ j, n ≤ j → j < i → bitL (bytesOf s) j ≠ 1) →
    EvR (fun k => reefref29_Unpack.l0 k s (n : Int) x (i : Int)) (if topB s n = true then (⟨#[]⟩, 10) else (strOfNums (unL s n), 0))
  | 0, i, x, hi, hx, hb => by
    have E8 := Aside0.mk (show wrap64 (8 * (s.size : Int)) = ((8 * s.size : Nat) : Int) from by rw [wrS _ (by omega)]; omega)
    have ht : topB s n ≠ true := fun h => by
      obtain ⟨j, h1, h2, h3⟩ := (topB_true s n).1 h
      exact hb j h2 (by omega) h3
    rw [if_neg ht]
    refine EvR.now (fun k => ?_)
    simp only [reefref29_Unpack.l0]
    rw [E8.out, if_neg (by omega), hx, Nat.min_eq_right (by omega)]
  | d + 1, i, x, hi, hx, hb => by
    have E8 := Aside0.mk (show wrap64 (8 * (s.size : Int)) = ((8 * s.size : Nat) : Int) from by rw [wrS _ (by omega)]; omega)
    have E1 := Aside0.mk (tdv i (by omega))
    have E2 := Aside0.mk (show IntKind.u64.wrap (Int.tmod (i : Int) 8) = Int.tmod (i : Int) 8 from by rw [u64m, Int.tmod_eq_emod_of_nonneg (by omega)]; omega)
    have E3 := Aside0.mk (bit_text s i (by omega))
    have E5 := Aside0.mk (show (0 : Int) ≤ Int.tmod (i : Int) 8 from by rw [Int.tmod_eq_emod_of_nonneg (by omega)]; omega)
    have EI := Aside0.mk (show wrap64 ((i : Int) + 1) = ((i + 1 : Nat) : Int) from wrS _ (by omega))
    by_cases hin : i < n
    · rw [Nat.min_eq_left (by omega)] at hx
      have hxl : x.length = i := by rw [hx, unL_len]
      refine (runpack_go s n hn hs d (i + 1) (x ++ [bitL (bytesOf s) i]) (by omega) ?_ (fun j h1 h2 => by omega)).step (fun k => ?_)
      · rw [Nat.min_eq_left (by omega), hx]
        simp [unL, List.range_succ]
      · simp only [reefref29_Unpack.l0]
        rw [E8.out, E2.out, E3.out, if_pos (by omega), E1.out, if_pos (by omega), if_pos (by omega), if_pos E5.out, if_pos (by omega), if_pos (by omega), EI.out]
    · by_cases hbit : bitL (bytesOf s) i = 1
      · have ht : topB s n = true := (topB_true s n).2 ⟨i, by omega, by omega, hbit⟩
        rw [if_pos ht]
        refine EvR.now (fun k => ?_)
        simp only [reefref29_Unpack.l0]
        rw [E8.out, E2.out, E3.out, if_pos (by omega), E1.out, if_pos (by omega), if_pos (by omega), if_pos E5.out, if_neg (by omega), if_pos hbit]
      · refine (runpack_go s n hn hs d (i + 1) x (by omega) ?_ (fun j h1 h2 => ?_)).step (fun k => ?_)
        · rw [Nat.min_eq_right (by omega)] at hx ⊢; exact hx
        · by_cases hj : j = i
          · subst hj; exact hbit
          · exact hb j h1 (by omega)
        · simp only [reefref29_Unpack.l0]
          rw [E8.out, E2.out, E3.out, if_pos (by omega), E1.out, if_pos (by omega), if_pos (by omega), if_pos E5.out, if_neg (by omega), if_neg hbit, EI.out]
theorem runpack_eq (s : ByteArray) (n : Int) : EvR (fun k => reefref29_Unpack.f k s n) (unR s n) := by
  unfold unR
  by_cases h0 : n < 0
  · rw [if_pos (Or.inl h0)]
    refine EvR.now (fun k => ?_)
    unfold reefref29_Unpack.f
    rw [if_pos h0]
    simp only [reefref29_Unpack.j0]
    rw [if_pos trivial]
  · by_cases h1 : 4096 < n
    · rw [if_pos (Or.inr h1)]
      refine EvR.now (fun k => ?_)
      unfold reefref29_Unpack.f
      rw [if_neg h0]
      simp only [reefref29_Unpack.j0]
      rw [if_pos (decide_eq_true h1)]
    · rw [if_neg (by omega)]
      obtain ⟨N, rfl⟩ : ∃ N : Nat, n = (N : Int) := ⟨n.toNat, by omega⟩
      have E7 := Aside0.mk (show wrap64 (Int.tdiv (wrap64 ((N : Int) + 7)) 8) = (((N + 7) / 8 : Nat) : Int) from by
        rw [show wrap64 ((N : Int) + 7) = ((N + 7 : Nat) : Int) from by rw [wrS _ (by omega)]; omega, tdv _ (by omega)])
      by_cases h2 : (s.size : Int) = ((N : Int) + 7) / 8
      · rw [if_neg (fun h => h h2), Int.toNat_natCast]
        refine (runpack_go s N (by omega) (by omega) (8 * s.size) 0 [] (by omega) (by simp [unL]) (fun j _ h => by omega)).step (fun k => ?_)
        unfold reefref29_Unpack.f
        rw [if_neg h0]
        simp only [reefref29_Unpack.j0]
        rw [if_neg (by simp; omega), E7.out, if_pos (by omega)]
        rfl
      · rw [if_pos h2]
        refine EvR.now (fun k => ?_)
        unfold reefref29_Unpack.f
        rw [if_neg h0]
        simp only [reefref29_Unpack.j0]
        rw [if_neg (by simp; omega), E7.out, if_neg (by omega)]
theorem packs_l (m : ByteArray) (hf : fitM m = true) (R : List RP) (hR : R.length ≤ 4096) : ∀ (d i : Nat), i + d = R.length → EvR (fun k => reeflaw29_ObjmapPacks.l0 k m R R (i : Int)) true
  | 0, i, hi => by
    obtain ⟨hm1, hm⟩ := (fitM_true m).1 hf
    have haw : reeflaw29_awake.f = some true := rfl
    have hp : objmap_Pack.f m = some (strOfNums (packL m)) := by unfold objmap_Pack.f packL; rw [if_pos hm]
    obtain ⟨K, hK⟩ := rpack_eq m hf
    refine ⟨K + 1, fun k hk => ?_⟩
    obtain ⟨k, rfl⟩ : ∃ q, k = q + 1 := ⟨k - 1, by omega⟩
    have hK' : reefref29_Pack.f k m = some (strOfNums (packL m)) := hK k (by omega)
    simp only [reeflaw29_ObjmapPacks.l0]
    rw [if_neg (by omega), hp, Option.bind_some, hK', Option.bind_some, if_pos rfl, haw]
    rfl
  | d + 1, i, hi => by
    have EI := Aside0.mk (show wrap64 ((i : Int) + 1) = ((i + 1 : Nat) : Int) from wrS _ (by omega))
    refine (packs_l m hf R hR d (i + 1) (by omega)).step (fun k => ?_)
    simp only [reeflaw29_ObjmapPacks.l0]
    rw [if_pos (by omega), if_pos (by omega), if_pos (by omega), if_neg (by simp), EI.out]
end Go.Proofs.Ytpaapnkpijincaa.P
