import Derived.Test.YtpaapnkpijincaaP0
import Derived.Test.YtpaapnkpijincaaHI0
import Derived.Test.YtpaapnkpijincaaHJ
namespace Go.Proofs.Ytpaapnkpijincaa.P
open Go.RowKit Go.Proofs.YtpaapnkpijincaaW.PrintWords Go.Proofs.YtpaapnkpijincaaW.PrintLast Go.Proofs.YtpaapnkpijincaaW.PrintMore Go.Proofs.YtpaapnkpijincaaW.HB
set_option linter.unusedVariables false
attribute [local go_sem] Oper.semAt_some

/-- The marked places below i, rising. -/
def plc (m : ByteArray) (i : Nat) : List Int := ((List.range i).filter (fun k : Nat => bt m (k : Int) == 1)).map (fun k : Nat => (k : Int))
abbrev Plc (m : ByteArray) := { v : Int // v ∈ plc m m.size }
theorem plc_succ (m : ByteArray) (i : Nat) : plc m (i + 1) = plc m i ++ (if bt m (i : Int) = 1 then [(i : Int)] else []) := by
  unfold plc
  rw [List.range_succ, List.filter_append, List.map_append]
  congr 1
  by_cases h : bt m (i : Int) = 1 <;> simp [h]
theorem plc_mem {m : ByteArray} {n : Nat} {v : Int} : v ∈ plc m n ↔ 0 ≤ v ∧ v < n ∧ bt m v = 1 := by
  unfold plc
  simp only [List.mem_map, List.mem_filter, List.mem_range, beq_iff_eq]
  constructor
  · rintro ⟨k, ⟨h1, h2⟩, rfl⟩; exact ⟨by omega, by omega, h2⟩
  · rintro ⟨h1, h2, h3⟩; exact ⟨v.toNat, ⟨by omega, by rw [show ((v.toNat : Nat) : Int) = v from by omega]; exact h3⟩, by omega⟩
theorem plc_len (m : ByteArray) (i : Nat) : (plc m i).length ≤ i := by
  unfold plc; rw [List.length_map]; exact Nat.le_trans (List.length_filter_le _ _) (by simp)
theorem plc_take (m : ByteArray) (i n : Nat) (h : i ≤ n) : plc m i = (plc m n).take (plc m i).length := by
  induction n with
  | zero => obtain rfl : i = 0 := by omega
            simp [plc]
  | succ n ih =>
    rcases Nat.lt_or_ge n i with h2 | h2
    · obtain rfl : i = n + 1 := by omega
      rw [List.take_length]
    · rw [plc_succ, List.take_append_of_le_length (by rw [ih h2]; simp; omega)]
      exact ih h2
theorem plc_lt (m : ByteArray) (i n : Nat) (h : i < n) (hb : bt m (i : Int) = 1) : ∃ h2 : (plc m i).length < (plc m n).length, (plc m n)[(plc m i).length] = (i : Int) := by
  have h1 := plc_take m (i + 1) n h
  have h3 : plc m (i + 1) = plc m i ++ [(i : Int)] := by rw [plc_succ, if_pos hb]
  have h4 : (plc m (i + 1)).length = (plc m i).length + 1 := by rw [h3]; simp
  have h5 : (plc m (i + 1)).length ≤ (plc m n).length := by rw [h1, List.length_take]; omega
  refine ⟨by omega, ?_⟩
  have h6 : (plc m (i + 1))[(plc m i).length]? = some (i : Int) := by rw [h3]; simp
  rw [h1, List.getElem?_take_of_lt (by omega), List.getElem?_eq_getElem (by omega)] at h6
  exact Option.some.inj h6
def plcA (m : ByteArray) : List (Plc m) := (plc m m.size).attach
theorem plcA_len (m : ByteArray) : (plcA m).length = (plc m m.size).length := by simp [plcA]
set_option maxRecDepth 100000 in
set_option maxHeartbeats 2000000 in
theorem places_1_in (F : Fence) (n : Nat) (hF : F.fn 43) (hro : F.round = none) (hn : 1 ≤ n) (l : Nat) (b N0 : Nat) (X Ts : Nat → Prop) (m : ByteArray) (hm : m.size ≤ 4611686018427387904) (hb : b < N0) (hbX : ¬ X b)
    (J Jx : List (Plc m) → World → Prop) (W : World) (hN : N0 ≤ W.heap.size)
    (hY : ∀ pre x W, J pre W → pre.length < (plc m m.size).length → YieldAt F (n - 1) Try.prog l #[.int .i64 x.1] W fun e W' =>
      (e = .returned (.bool true) ∧ J (pre ++ [x]) W' ∧ KeepX N0 X Ts W W') ∨ (e = .returned (.bool false) ∧ Jx (pre ++ [x]) W'))
    (hB : W.cell? ⟨b, 0, none⟩ = some (.string m)) (h0 : J [] W) :
    CallsIn F n Try.prog 43 #[.func (.yield l) #[] #[], .pointer (some ⟨b, 0, none⟩)] W fun e W' => (∃ v, e = .returned v) ∧
      ((∃ ys, ys = plcA m ∧ J ys W') ∨ (∃ pre, (∃ q, pre = (plcA m).take q) ∧ Jx pre W')) := by
  refine callsIn_of_wp Try.func43 rfl hF ?_ hro
  simp only [Try.ntmps43, List.size_toArray, List.length_cons, List.length_nil, Nat.reduceAdd, Nat.reduceSub, Array.replicate_succ, Array.replicate_zero, List.push_toArray, List.append_toArray, List.nil_append, List.cons_append]
  gi_wp2
  gi_loopw [6] (fun i wr => ∃ k : Nat, k ≤ m.size ∧ i = .int .i64 k ∧ Aside0 (J ((plcA m).take (plc m k).length) wr) ∧ Aside0 (KeepX N0 X Ts W wr)) (fun i _ => m.size - (intOf i).toNat)
  case atStart => exact ⟨0, Nat.zero_le _, rfl, ⟨by simpa [plc] using h0⟩, ⟨KeepX.refl _ _ _ _⟩⟩
  case round =>
    obtain ⟨i, hi, rfl, HJ, HK⟩ := hrel
    by_cases hlt : i < m.size
    · have hBr := HK.out.cell hB hb hbX
      have hx : ((m[i]'hlt).toNat : Int) = bt m (i : Int) := bt_at m (i : Int) (by simpa using hlt)
      have hq0 : (i : Int) < (m.size : Int) := by omega
      by_cases hm1 : bt m (i : Int) = 1
      · obtain ⟨hsl, hsv⟩ := plc_lt m i m.size hlt hm1
        have hml : (plc m i).length < (plcA m).length := by rw [plcA_len]; exact hsl
        obtain ⟨fn, tmps, assign, body, hy, hR⟩ := hY _ (plcA m)[(plc m i).length] wr HJ.out (by rw [List.length_take]; omega)
        have hval : ((plcA m)[(plc m i).length]).1 = (i : Int) := by rw [← hsv]; simp [plcA]
        rw [hval] at hy
        have HV := Aside0.mk hval
        clear hval
        have HS := Aside0.mk (show (plcA m).take (plc m i).length ++ [(plcA m)[(plc m i).length]] = (plcA m).take (plc m (i + 1)).length from by
          rw [plc_succ, if_pos hm1, List.length_append]; exact (List.take_succ_eq_append_getElem hml).symm)
        rw [HS.out] at hR
        have HM1 := Aside0.mk hm1
        have hbm : (bt m (i : Int) == 1) = true := by rw [beq_iff_eq]; exact hm1
        clear hm1
        gi_wp2
        refine hR.mono ?_
        rintro e W3 (⟨rfl, hJ3, hk3⟩ | ⟨rfl, hJx3⟩)
        · have HJ3 := Aside0.mk hJ3
          have HK3 := Aside0.mk (HK.out.trans hk3)
          clear hJ3 hk3 hR hy HS HV hsv hml hsl hBr hx hbm
          gi_wp2
          go_roundw
          case rel => exact ⟨i + 1, by omega, by go_num, HJ3, HK3⟩
          case measure => simp [intOf]; omega
        · have HJ3 := Aside0.mk hJx3
          clear hJx3 hR hy HS HV hsv hml hsl hBr hx hbm
          gi_wp2
          refine bodyPost_ret (results_none rfl _ _ _) rfl ?_
          exact ⟨⟨_, rfl⟩, .inr ⟨_, ⟨_, rfl⟩, HJ3.out⟩⟩
      · have hbm : (bt m (i : Int) == 1) = false := by rw [beq_eq_false_iff_ne]; exact hm1
        have HS := Aside0.mk (show plc m (i + 1) = plc m i from by rw [plc_succ, if_neg hm1, List.append_nil])
        clear hm1
        gi_wp2
        refine ⟨fun _ h => (by cases h), ?_⟩
        clear hx hbm hBr
        gi_wp2
        go_roundw
        case rel => exact ⟨i + 1, by omega, by go_num, ⟨by rw [HS.out]; exact HJ.out⟩, HK⟩
        case measure => simp [intOf]; omega
    · have HE := Aside0.mk (show i = m.size from by omega)
      gi_wp2
      go_end0
      have h1 := HJ.out
      rw [HE.out, List.take_of_length_le (by rw [plcA_len]; exact Nat.le_refl _)] at h1
      exact ⟨⟨_, rfl⟩, .inl ⟨_, rfl, h1⟩⟩
theorem places_stops (F : Fence) (n : Nat) (hF : F.fn 43) (hro : F.round = none) (hn : 1 ≤ n) (b : Nat) (X Ts : Nat → Prop) (m : ByteArray) (hm : m.size ≤ 4611686018427387904) (w : World) (hb : b < w.heap.size) (hbX : ¬ X b)
    (hB : w.cell? ⟨b, 0, none⟩ = some (.string m)) :
    SeqStopsK F n Try.prog 43 #[.pointer (some ⟨b, 0, none⟩)] (fun x : Plc m => #[Value.int .i64 x.1]) (KeepX w.heap.size X Ts) (fun ys => ys = plcA m) (fun pre => ∃ q, pre = (plcA m).take q) (plc m m.size).length w := fun l J Jx W hW hJ hJx hY h0 =>
  places_1_in F n hF hro hn l b w.heap.size X Ts m hm hb hbX J Jx W hW.size hY ((hW.cell hb).trans hB) h0
theorem places_in (F : Fence) (n : Nat) (hF : F.fn 36) (hro : F.round = none) (m : ByteArray) (w : World) :
    CallsIn F n Try.prog 36 #[.string m] w fun e w' => e = .returned (.func (.func 43) #[] #[.pointer (some ⟨w.heap.size, 0, none⟩)]) ∧ w' = w.alloc (.cells #[.string m] 9) := by
  refine callsIn_of_wp Try.func36 rfl hF ?_ hro
  simp only [Try.ntmps36, List.size_toArray, List.length_cons, List.length_nil, Nat.reduceAdd, Nat.reduceSub, Array.replicate_succ, Array.replicate_zero, List.push_toArray, List.append_toArray, List.nil_append, List.cons_append]
  gi_wp2
  go_ret
  exact ⟨rfl, rfl⟩
end Go.Proofs.Ytpaapnkpijincaa.P
