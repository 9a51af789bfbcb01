import Derived.Test.YtpaapnkpijincaaP0
import Derived.Test.YtpaapnkpijincaaHI0
namespace Go.Proofs.Ytpaapnkpijincaa.P
open Go.RowKit Go.Proofs.YtpaapnkpijincaaW.PrintWords Go.Proofs.YtpaapnkpijincaaW.PrintLast Go.Proofs.YtpaapnkpijincaaW.PrintMore Go.Proofs.YtpaapnkpijincaaW.HB
set_option linter.unusedVariables false
set_option linter.unusedSimpArgs false

/-- Bytes of the call's own, in a block whose spare cells are marked. -/
structure BySt (w : World) (g : Nat) (bs : List Int) (W : World) : Prop where
  x : ∀ j, j < bs.length → W.cell? ⟨g, j, none⟩ = some (.int .u8 (bs.getD j 0)) ∧ W.frozen? ⟨g, j, none⟩ = false
  below : Below w.heap.size w W
  ge : w.heap.size ≤ g
theorem BySt.set {w : World} {g : Nat} {bs : List Int} {W : World} (h : BySt w g bs W) (q : Nat) (v : Int) : BySt w g (bs.set q v) (W.setCell ⟨g, q, none⟩ (.int .u8 v)) := by
  refine ⟨fun j hj => ?_, h.below.setCell (by show w.heap.size ≤ g; exact h.ge) _, h.ge⟩
  rw [List.length_set] at hj
  obtain ⟨h1, h2⟩ := h.x j hj
  refine ⟨?_, by rw [World.frozen?_setCell]; exact h2⟩
  by_cases e : q = j
  · subst e
    rw [World.cell?_setCell_same' _ _ _ (by rw [h1]; rfl)]
    simp [List.getD_eq_getElem?_getD, List.getElem?_set, hj]
  · rw [World.cell?_setCell_other]
    · rw [h1]; simp [List.getD_eq_getElem?_getD, List.getElem?_set, e]
    · intro e2; injection e2 with _ e3; exact e e3
theorem bySt_new (w : World) (m : ByteArray) : BySt w w.heap.size (bytesOf m) (Lib.bytesWorld w 5 m) := by
  refine ⟨fun j hj => ⟨?_, ?_⟩, ?_, Nat.le_refl _⟩
  · rw [bytesOf_length] at hj
    rw [Lib.bytesWorld_cell w 5 m j hj]
    simp [bytesOf, List.getD_eq_getElem?_getD, List.getElem?_eq_getElem (show j < m.data.toList.length by rw [data_length]; exact hj)]
  · rw [bytesOf_length] at hj
    unfold World.frozen?
    rw [Lib.bytesWorld_at_new]
    simp [Lib.bytesCells]
    omega
  · exact bytes_below (Below.refl _ _) (Nat.le_refl _) 5 m
def setL (b l : List Int) (c : Int) : List Int := l.foldl (fun b k => if 0 ≤ k ∧ k < (b.length : Int) then b.set k.toNat c else b) b
theorem setL_len (l : List Int) (c : Int) : ∀ b : List Int, (setL b l c).length = b.length := by
  unfold setL
  induction l with
  | nil => intro b; rfl
  | cons x l ih => intro b; rw [List.foldl_cons, ih]; split <;> simp
theorem rd_at_I (l : List Int) (i : Nat) (h : i < l.length) : rd l i = l[i] := by
  simp [rd, List.getD_eq_getElem?_getD, List.getElem?_eq_getElem h]
theorem setL_step (b l : List Int) (c : Int) (i : Nat) (h : i < l.length) : setL b (l.take (i + 1)) c = if 0 ≤ rd l i ∧ rd l i < (b.length : Int) then (setL b (l.take i) c).set (rd l i).toNat c else setL b (l.take i) c := by
  have h2 := setL_len (l.take i) c b
  rw [rd_at_I l i h]
  unfold setL at h2 ⊢
  rw [List.take_succ_eq_append_getElem h, List.foldl_append, List.foldl_cons, List.foldl_nil, h2]
def objmap_Set.f (m : ByteArray) (l : List Int) (is : Bool) : Option ByteArray := if m.size ≤ 4096 ∧ l.length ≤ 4611686018427387904 then some (strOfNums (setL (bytesOf m) l (if is then 1 else 0))) else none
def reefref29_Set.f (m : ByteArray) (l : List Int) (is : Bool) : Option ByteArray := if m.size ≤ 4096 ∧ l.length ≤ 4611686018427387904 then some (strOfNums (setL (bytesOf m) l (if is then 1 else 0))) else none
set_option maxRecDepth 100000 in
set_option maxHeartbeats 4000000 in
theorem objmap_Set.calls (a0 : ByteArray) (A1 : Option Addr) (c1 : Nat) (l1 : List Int) (a2 : Bool) (r : ByteArray) (w : World) (hr1 : Kd.C (Kd.int .i64) w A1 l1.length l1) (hc1 : l1.length ≤ c1) (h : objmap_Set.f a0 l1 a2 = some r) :
    Calls Try.prog 24 #[.string a0, .slice A1 l1.length c1, .bool a2] w fun e w' => e = .returned (.string r) ∧ Below w.heap.size w w' := by
  unfold objmap_Set.f at h
  split at h
  case isFalse => cases h
  rename_i hg
  obtain ⟨hm, hl⟩ := hg
  obtain rfl := Option.some.inj h
  clear h
  have HL := Aside0.mk hl
  clear hl
  have HC := Aside0.mk hr1
  clear hr1
  obtain ⟨n, hn⟩ : ∃ n, n = a0.size := ⟨_, rfl⟩
  have hbl := bytesOf_length a0
  have S0 := bySt_new w a0
  have hcv := Go.Lib.run_convert_string_bytes (P := Try.prog) w 9 54 5 a0 Try.underlying9 Try.underlying54 Try.underlying5
  rw [← hn] at hcv hbl hm
  revert S0 hcv
  generalize grownCap w n 0 5 = cp
  generalize Lib.bytesWorld w 5 a0 = w1
  generalize hg0 : w.heap.size = g at *
  intro S0 hcv
  have HG0 := Aside0.mk hg0
  have HBL := Aside0.mk hbl
  have S1 := Aside0.mk S0
  clear hbl S0 hn hg0
  cases a2 with
  | false =>
    go_enter Try.func24, Try.ntmps24
    go_wp2_with fail
    go_loopw [16] (fun v wr => ∃ i : Nat, v = .int .i64 i ∧ Aside0 (i ≤ l1.length) ∧ Aside0 (BySt w g (setL (bytesOf a0) (l1.take i) 0) wr)) (fun v _ => l1.length - (intOf v).toNat)
    case atStart => exact ⟨0, rfl, ⟨Nat.zero_le _⟩, S1⟩
    case round =>
      obtain ⟨i, rfl, HI, SI⟩ := hrel
      have hlen := HC.out.2.1
      by_cases hlt : i < l1.length
      · obtain ⟨ad, e1, hx0⟩ := Kd.at_int HC.out i (by omega) (by omega)
        cases e1
        simp only [Int.toNat_natCast] at hx0
        have HXW := Aside0.mk hx0
        replace hx0 := (SI.out.below.cell (World.block_lt_of_cell? w _ hx0)).trans hx0
        have hst := Aside0.mk (setL_step (bytesOf a0) l1 0 i hlt)
        rw [HBL.out] at hst
        have hsl := Aside0.mk ((setL_len (l1.take i) 0 (bytesOf a0)).trans HBL.out)
        have hib := Aside0.mk (show i < 4611686018427387904 from by have := HL.out; omega)
        generalize hk : rd l1 i = kk at *
        have HK := Aside0.mk hk
        clear hk
        by_cases h0 : 0 ≤ kk
        · by_cases h1 : kk < (n : Int)
          · obtain ⟨q, rfl⟩ : ∃ q : Nat, kk = (q : Int) := ⟨kk.toNat, by omega⟩
            have hq : q < n := by omega
            obtain ⟨hc, hf⟩ := SI.out.x q (by rw [hsl.out]; exact hq)
            have HS := Aside0.mk (hst.out.trans (if_pos ⟨h0, h1⟩))
            clear hst
            go_wp2_with fail
            go_roundw
            case rel =>
              refine ⟨i + 1, by go_num, ⟨by omega⟩, ⟨?_⟩⟩
              rw [HS.out, Int.toNat_natCast]
              exact SI.out.set q 0
            case measure => simp [intOf]; omega
          · have HS := Aside0.mk (hst.out.trans (if_neg (fun h => h1 h.2)))
            clear hst
            go_wp2_with fail
            go_roundw
            case rel => exact ⟨i + 1, by go_num, ⟨by omega⟩, ⟨by rw [HS.out]; exact SI.out⟩⟩
            case measure => simp [intOf]; omega
        · have HS := Aside0.mk (hst.out.trans (if_neg (fun h => h0 h.1)))
          clear hst
          go_wp2_with fail
          go_roundw
          case rel => exact ⟨i + 1, by go_num, ⟨by omega⟩, ⟨by rw [HS.out]; exact SI.out⟩⟩
          case measure => simp [intOf]; omega
      · obtain rfl : i = l1.length := by have := HI.out; omega
        have hsl := (setL_len (l1.take l1.length) 0 (bytesOf a0)).trans HBL.out
        have hst := run_convert_bytes_arg (P := Try.prog) wr 54 5 Try.underlying54 Try.underlying5 g 0 n cp (setL (bytesOf a0) (l1.take l1.length) 0) hsl (fun j hj => by rw [Nat.zero_add]; exact (SI.out.x j (by rw [hsl]; exact hj)).1) 9 Try.underlying9
        rw [List.take_length] at hst
        have HB := Aside0.mk SI.out.below
        clear SI hsl
        go_wp2_with fail
        go_ret
        exact ⟨rfl, by rw [HG0.out] at HB; exact HB.out⟩
  | true =>
    go_enter Try.func24, Try.ntmps24
    go_wp2_with fail
    go_loopw [16] (fun v wr => ∃ i : Nat, v = .int .i64 i ∧ Aside0 (i ≤ l1.length) ∧ Aside0 (BySt w g (setL (bytesOf a0) (l1.take i) 1) wr)) (fun v _ => l1.length - (intOf v).toNat)
    case atStart => exact ⟨0, rfl, ⟨Nat.zero_le _⟩, S1⟩
    case round =>
      obtain ⟨i, rfl, HI, SI⟩ := hrel
      have hlen := HC.out.2.1
      by_cases hlt : i < l1.length
      · obtain ⟨ad, e1, hx0⟩ := Kd.at_int HC.out i (by omega) (by omega)
        cases e1
        simp only [Int.toNat_natCast] at hx0
        have HXW := Aside0.mk hx0
        replace hx0 := (SI.out.below.cell (World.block_lt_of_cell? w _ hx0)).trans hx0
        have hst := Aside0.mk (setL_step (bytesOf a0) l1 1 i hlt)
        rw [HBL.out] at hst
        have hsl := Aside0.mk ((setL_len (l1.take i) 1 (bytesOf a0)).trans HBL.out)
        have hib := Aside0.mk (show i < 4611686018427387904 from by have := HL.out; omega)
        generalize hk : rd l1 i = kk at *
        have HK := Aside0.mk hk
        clear hk
        by_cases h0 : 0 ≤ kk
        · by_cases h1 : kk < (n : Int)
          · obtain ⟨q, rfl⟩ : ∃ q : Nat, kk = (q : Int) := ⟨kk.toNat, by omega⟩
            have hq : q < n := by omega
            obtain ⟨hc, hf⟩ := SI.out.x q (by rw [hsl.out]; exact hq)
            have HS := Aside0.mk (hst.out.trans (if_pos ⟨h0, h1⟩))
            clear hst
            go_wp2_with fail
            go_roundw
            case rel =>
              refine ⟨i + 1, by go_num, ⟨by omega⟩, ⟨?_⟩⟩
              rw [HS.out, Int.toNat_natCast]
              exact SI.out.set q 1
            case measure => simp [intOf]; omega
          · have HS := Aside0.mk (hst.out.trans (if_neg (fun h => h1 h.2)))
            clear hst
            go_wp2_with fail
            go_roundw
            case rel => exact ⟨i + 1, by go_num, ⟨by omega⟩, ⟨by rw [HS.out]; exact SI.out⟩⟩
            case measure => simp [intOf]; omega
        · have HS := Aside0.mk (hst.out.trans (if_neg (fun h => h0 h.1)))
          clear hst
          go_wp2_with fail
          go_roundw
          case rel => exact ⟨i + 1, by go_num, ⟨by omega⟩, ⟨by rw [HS.out]; exact SI.out⟩⟩
          case measure => simp [intOf]; omega
      · obtain rfl : i = l1.length := by have := HI.out; omega
        have hsl := (setL_len (l1.take l1.length) 1 (bytesOf a0)).trans HBL.out
        have hst := run_convert_bytes_arg (P := Try.prog) wr 54 5 Try.underlying54 Try.underlying5 g 0 n cp (setL (bytesOf a0) (l1.take l1.length) 1) hsl (fun j hj => by rw [Nat.zero_add]; exact (SI.out.x j (by rw [hsl]; exact hj)).1) 9 Try.underlying9
        rw [List.take_length] at hst
        have HB := Aside0.mk SI.out.below
        clear SI hsl
        go_wp2_with fail
        go_ret
        exact ⟨rfl, by rw [HG0.out] at HB; exact HB.out⟩
set_option maxRecDepth 100000 in
set_option maxHeartbeats 4000000 in
theorem reefref29_Set.calls (a0 : ByteArray) (A1 : Option Addr) (c1 : Nat) (l1 : List Int) (a2 : Bool) (r : ByteArray) (w : World) (hr1 : Kd.C (Kd.int .i64) w A1 l1.length l1) (hc1 : l1.length ≤ c1) (h : reefref29_Set.f a0 l1 a2 = some r) :
    Calls Try.prog 25 #[.string a0, .slice A1 l1.length c1, .bool a2] w fun e w' => e = .returned (.string r) ∧ Below w.heap.size w w' := by
  unfold reefref29_Set.f at h
  split at h
  case isFalse => cases h
  rename_i hg
  obtain ⟨hm, hl⟩ := hg
  obtain rfl := Option.some.inj h
  clear h
  have HL := Aside0.mk hl
  clear hl
  have HC := Aside0.mk hr1
  clear hr1
  obtain ⟨n, hn⟩ : ∃ n, n = a0.size := ⟨_, rfl⟩
  have hbl := bytesOf_length a0
  have S0 := bySt_new w a0
  have hcv := Go.Lib.run_convert_string_bytes (P := Try.prog) w 9 54 5 a0 Try.underlying9 Try.underlying54 Try.underlying5
  rw [← hn] at hcv hbl hm
  revert S0 hcv
  generalize grownCap w n 0 5 = cp
  generalize Lib.bytesWorld w 5 a0 = w1
  generalize hg0 : w.heap.size = g at *
  intro S0 hcv
  have HG0 := Aside0.mk hg0
  have HBL := Aside0.mk hbl
  have S1 := Aside0.mk S0
  clear hbl S0 hn hg0
  cases a2 with
  | false =>
    go_enter Try.func25, Try.ntmps25
    go_wp2_with fail
    go_loopw [8] (fun v wr => ∃ i : Nat, v = .int .i64 i ∧ Aside0 (i ≤ l1.length) ∧ Aside0 (BySt w g (setL (bytesOf a0) (l1.take i) 0) wr)) (fun v _ => l1.length - (intOf v).toNat)
    case atStart => exact ⟨0, rfl, ⟨Nat.zero_le _⟩, S1⟩
    case round =>
      obtain ⟨i, rfl, HI, SI⟩ := hrel
      have hlen := HC.out.2.1
      by_cases hlt : i < l1.length
      · obtain ⟨ad, e1, hx0⟩ := Kd.at_int HC.out i (by omega) (by omega)
        cases e1
        simp only [Int.toNat_natCast] at hx0
        have HXW := Aside0.mk hx0
        replace hx0 := (SI.out.below.cell (World.block_lt_of_cell? w _ hx0)).trans hx0
        have hst := Aside0.mk (setL_step (bytesOf a0) l1 0 i hlt)
        rw [HBL.out] at hst
        have hsl := Aside0.mk ((setL_len (l1.take i) 0 (bytesOf a0)).trans HBL.out)
        have hib := Aside0.mk (show i < 4611686018427387904 from by have := HL.out; omega)
        generalize hk : rd l1 i = kk at *
        have HK := Aside0.mk hk
        clear hk
        by_cases h0 : 0 ≤ kk
        · by_cases h1 : kk < (n : Int)
          · obtain ⟨q, rfl⟩ : ∃ q : Nat, kk = (q : Int) := ⟨kk.toNat, by omega⟩
            have hq : q < n := by omega
            obtain ⟨hc, hf⟩ := SI.out.x q (by rw [hsl.out]; exact hq)
            have HS := Aside0.mk (hst.out.trans (if_pos ⟨h0, h1⟩))
            clear hst
            go_wp2_with fail
            go_roundw
            case rel =>
              refine ⟨i + 1, by go_num, ⟨by omega⟩, ⟨?_⟩⟩
              rw [HS.out, Int.toNat_natCast]
              exact SI.out.set q 0
            case measure => simp [intOf]; omega
          · have HS := Aside0.mk (hst.out.trans (if_neg (fun h => h1 h.2)))
            clear hst
            go_wp2_with fail
            go_roundw
            case rel => exact ⟨i + 1, by go_num, ⟨by omega⟩, ⟨by rw [HS.out]; exact SI.out⟩⟩
            case measure => simp [intOf]; omega
        · have HS := Aside0.mk (hst.out.trans (if_neg (fun h => h0 h.1)))
          clear hst
          go_wp2_with fail
          go_roundw
          case rel => exact ⟨i + 1, by go_num, ⟨by omega⟩, ⟨by rw [HS.out]; exact SI.out⟩⟩
          case measure => simp [intOf]; omega
      · obtain rfl : i = l1.length := by have := HI.out; omega
        have hsl := (setL_len (l1.take l1.length) 0 (bytesOf a0)).trans HBL.out
        have hst := run_convert_bytes_arg (P := Try.prog) wr 54 5 Try.underlying54 Try.underlying5 g 0 n cp (setL (bytesOf a0) (l1.take l1.length) 0) hsl (fun j hj => by rw [Nat.zero_add]; exact (SI.out.x j (by rw [hsl]; exact hj)).1) 9 Try.underlying9
        rw [List.take_length] at hst
        have HB := Aside0.mk SI.out.below
        clear SI hsl
        go_wp2_with fail
        go_ret
        exact ⟨rfl, by rw [HG0.out] at HB; exact HB.out⟩
  | true =>
    go_enter Try.func25, Try.ntmps25
    go_wp2_with fail
    go_loopw [8] (fun v wr => ∃ i : Nat, v = .int .i64 i ∧ Aside0 (i ≤ l1.length) ∧ Aside0 (BySt w g (setL (bytesOf a0) (l1.take i) 1) wr)) (fun v _ => l1.length - (intOf v).toNat)
    case atStart => exact ⟨0, rfl, ⟨Nat.zero_le _⟩, S1⟩
    case round =>
      obtain ⟨i, rfl, HI, SI⟩ := hrel
      have hlen := HC.out.2.1
      by_cases hlt : i < l1.length
      · obtain ⟨ad, e1, hx0⟩ := Kd.at_int HC.out i (by omega) (by omega)
        cases e1
        simp only [Int.toNat_natCast] at hx0
        have HXW := Aside0.mk hx0
        replace hx0 := (SI.out.below.cell (World.block_lt_of_cell? w _ hx0)).trans hx0
        have hst := Aside0.mk (setL_step (bytesOf a0) l1 1 i hlt)
        rw [HBL.out] at hst
        have hsl := Aside0.mk ((setL_len (l1.take i) 1 (bytesOf a0)).trans HBL.out)
        have hib := Aside0.mk (show i < 4611686018427387904 from by have := HL.out; omega)
        generalize hk : rd l1 i = kk at *
        have HK := Aside0.mk hk
        clear hk
        by_cases h0 : 0 ≤ kk
        · by_cases h1 : kk < (n : Int)
          · obtain ⟨q, rfl⟩ : ∃ q : Nat, kk = (q : Int) := ⟨kk.toNat, by omega⟩
            have hq : q < n := by omega
            obtain ⟨hc, hf⟩ := SI.out.x q (by rw [hsl.out]; exact hq)
            have HS := Aside0.mk (hst.out.trans (if_pos ⟨h0, h1⟩))
            clear hst
            have hx1 := ((SI.out.set q 0).below.cell (World.block_lt_of_cell? w _ HXW.out)).trans HXW.out
            go_wp2_with fail
            go_roundw
            case rel =>
              refine ⟨i + 1, by go_num, ⟨by omega⟩, ⟨?_⟩⟩
              rw [HS.out, Int.toNat_natCast]
              exact (by have h2 := (SI.out.set q 0).set q 1; rw [List.set_set] at h2; exact h2)
            case measure => simp [intOf]; omega
          · have HS := Aside0.mk (hst.out.trans (if_neg (fun h => h1 h.2)))
            clear hst
            go_wp2_with fail
            go_roundw
            case rel => exact ⟨i + 1, by go_num, ⟨by omega⟩, ⟨by rw [HS.out]; exact SI.out⟩⟩
            case measure => simp [intOf]; omega
        · have HS := Aside0.mk (hst.out.trans (if_neg (fun h => h0 h.1)))
          clear hst
          go_wp2_with fail
          go_roundw
          case rel => exact ⟨i + 1, by go_num, ⟨by omega⟩, ⟨by rw [HS.out]; exact SI.out⟩⟩
          case measure => simp [intOf]; omega
      · obtain rfl : i = l1.length := by have := HI.out; omega
        have hsl := (setL_len (l1.take l1.length) 1 (bytesOf a0)).trans HBL.out
        have hst := run_convert_bytes_arg (P := Try.prog) wr 54 5 Try.underlying54 Try.underlying5 g 0 n cp (setL (bytesOf a0) (l1.take l1.length) 1) hsl (fun j hj => by rw [Nat.zero_add]; exact (SI.out.x j (by rw [hsl]; exact hj)).1) 9 Try.underlying9
        rw [List.take_length] at hst
        have HB := Aside0.mk SI.out.below
        clear SI hsl
        go_wp2_with fail
        go_ret
        exact ⟨rfl, by rw [HG0.out] at HB; exact HB.out⟩
end Go.Proofs.Ytpaapnkpijincaa.P
