import Derived.Test.YtbdciklcckjknaaG1
namespace Go.Proofs.Ytbdciklcckjknaa.P
open Go.RowKit Go.Proofs.YtbdciklcckjknaaW.PrintWords Go.Proofs.YtbdciklcckjknaaW.PrintLast Go.Proofs.YtbdciklcckjknaaW.PrintMore Go.Proofs.YtbdciklcckjknaaW.HB
set_option linter.unusedVariables false
set_option linter.unusedSimpArgs false
attribute [local go_sem] Oper.semAt_some

/-! the iterator over a log's entries, the last one first -/
theorem k34_still (W W' : World) (x : S34) (cs : List Value) (h : k34.K W x cs) : k34.K W' x cs := by
  rw [k34_open h]; exact k34_mk _ x
set_option maxRecDepth 100000 in
set_option maxHeartbeats 4000000 in
theorem back_1_in (F : Fence) (n : Nat) (hF : F.fn 58) (hro : F.round = none) (hn : 1 ≤ n) (l b c N0 : Nat) (X Ts : Nat → Prop) (A : Option Addr) (xs : List S34) (hb : b < N0) (hbX : ¬ X b)
    (hA : ∀ ad, A = some ad → 0 < xs.length → ad.block < N0 ∧ ¬ X ad.block)
    (J Jx : List S34 → World → Prop) (W : World) (hN : N0 ≤ W.heap.size)
    (hY : ∀ pre x W, J pre W → pre.length < xs.length → YieldAt F (n - 1) Try.prog l #[.agg #[.int .i64 x.f0.f0, .int .i64 x.f0.f1, .int .i64 x.f1.f0, .int .i64 x.f1.f1, .int .i64 x.f1.f2, .int .i64 x.f1.f3.f0, .string x.f1.f3.f1, .int .i64 x.f1.f3.f2, .int .i64 x.f1.f3.f3, .string x.f1.f3.f4, .int .i64 x.f2.f0, .int .i64 x.f2.f1, .int .i64 x.f2.f2, .string x.f2.f3]] W fun e W' =>
      (e = .returned (.bool true) ∧ J (pre ++ [x]) W' ∧ KeepX N0 X Ts W W') ∨ (e = .returned (.bool false) ∧ Jx (pre ++ [x]) W'))
    (hB : W.cell? ⟨b, 0, none⟩ = some (.slice A xs.length c)) (hC : Kd.C k34 W A xs.length xs) (hc : xs.length ≤ c) (h0 : J [] W) :
    CallsIn F n Try.prog 58 #[.func (.yield l) #[] #[], .pointer (some ⟨b, 0, none⟩)] W fun e W' => (∃ v, e = .returned v) ∧
      ((∃ ys, ys = xs.reverse ∧ J ys W') ∨ (∃ pre, (∃ q, pre = xs.reverse.take q) ∧ Jx pre W')) := by
  have hu := Try.underlying34
  have hlen := hC.2.1
  have HC := Aside0.mk hC
  have HCC := Aside0.mk hc
  clear hC hc
  refine callsIn_of_wp Try.func58 rfl hF ?_ hro
  simp only [Try.ntmps58, List.size_toArray, List.length_cons, List.length_nil, Nat.reduceAdd, Nat.reduceSub, Array.replicate_succ, Array.replicate_zero, List.push_toArray, List.append_toArray, List.nil_append, List.cons_append]
  gi_wp2
  gi_loopw [3] (fun i wr => ∃ v : Int, -1 ≤ v ∧ v < xs.length ∧ i = .int .i64 v ∧ Aside0 (J (xs.reverse.take (xs.length - (v + 1).toNat)) wr) ∧ Aside0 (KeepX N0 X Ts W wr)) (fun i _ => (intOf i + 1).toNat)
  case atStart => exact ⟨(xs.length : Int) - 1, by omega, by omega, rfl, ⟨by simpa using h0⟩, ⟨KeepX.refl _ _ _ _⟩⟩
  case round =>
    obtain ⟨v, hv1, hv2, rfl, HJ, HK⟩ := hrel
    by_cases hlt : 0 ≤ v
    · obtain ⟨p, rfl⟩ := Int.eq_ofNat_of_zero_le hlt
      have hp : p < xs.length := by omega
      have hBr := HK.out.cell hB hb hbX
      have hq0 : (p : Int) < (xs.length : Int) := by omega
      have hge : decide ((p : Int) ≥ 0) = true := decide_eq_true (by omega)
      have HCr := C_keepX' k34_still HC.out HK.out hA
      obtain ⟨ad, e1, hx0, hx1, hx2, hx3, hx4, hx5, hx6, hx7, hx8, hx9, hx10, hx11, hx12, hx13⟩ := at_T34 HCr (p : Int) (by omega) (by omega)
      cases e1
      simp only [Int.toNat_natCast] at hx0 hx1 hx2 hx3 hx4 hx5 hx6 hx7 hx8 hx9 hx10 hx11 hx12 hx13
      have HQ := Aside0.mk (show xs.length - (((p : Int) + 1)).toNat = xs.length - 1 - p from by omega)
      rw [HQ.out] at HJ
      obtain ⟨fn, tmps, assign, body, hy, hR⟩ := hY _ (rd_T34 xs p) wr HJ.out (by rw [List.length_take]; simp; omega)
      have HS := Aside0.mk (show xs.reverse.take (xs.length - 1 - p) ++ [rd_T34 xs p] = xs.reverse.take (xs.length - p) from by
        have e2 : xs.length - p = (xs.length - 1 - p) + 1 := by omega
        rw [e2, List.take_succ_eq_append_getElem (by simp; omega), rd_at_N xs p hp]
        congr 2
        rw [List.getElem_reverse]
        congr 1
        omega)
      rw [HS.out] at hR
      clear HCr
      gi_wp2
      refine hR.mono ?_
      rintro e W3 (⟨rfl, hJ3, hk3⟩ | ⟨rfl, hJx3⟩)
      · have HJ3 := Aside0.mk hJ3
        have HK3 := Aside0.mk (HK.out.trans hk3)
        clear hJ3 hk3 hR hy HS hBr hx0 hx1 hx2 hx3 hx4 hx5 hx6 hx7 hx8 hx9 hx10 hx11 hx12 hx13
        gi_wp2
        go_roundw
        case rel => exact ⟨(p : Int) - 1, by omega, by omega, by first | rfl | go_num, ⟨by rw [show ((p : Int) - 1 + 1).toNat = p from by omega]; exact HJ3.out⟩, HK3⟩
        case measure => first | (simp [intOf]; done) | (simp [intOf]; omega)
      · have HJ3 := Aside0.mk hJx3
        clear hJx3 hR hy HS hBr hx0 hx1 hx2 hx3 hx4 hx5 hx6 hx7 hx8 hx9 hx10 hx11 hx12 hx13
        gi_wp2
        refine bodyPost_ret (results_none rfl _ _ _) rfl ?_
        exact ⟨⟨_, rfl⟩, .inr ⟨_, ⟨_, rfl⟩, HJ3.out⟩⟩
    · have hv : v = -1 := by omega
      subst hv
      gi_wp2
      go_end0
      have h1 := HJ.out
      rw [show ((-1 : Int) + 1).toNat = 0 from rfl, Nat.sub_zero, List.take_of_length_le (by simp)] at h1
      exact ⟨⟨_, rfl⟩, .inl (by first | exact ⟨_, rfl, h1⟩ | exact h1)⟩
theorem back_stops (F : Fence) (n : Nat) (hF : F.fn 58) (hro : F.round = none) (hn : 1 ≤ n) (b c : Nat) (X Ts : Nat → Prop) (A : Option Addr) (xs : List S34) (w : World) (hb : b < w.heap.size) (hbX : ¬ X b)
    (hA : ∀ ad, A = some ad → 0 < xs.length → ad.block < w.heap.size ∧ ¬ X ad.block) (hB : w.cell? ⟨b, 0, none⟩ = some (.slice A xs.length c)) (hC : Kd.C k34 w A xs.length xs) (hc : xs.length ≤ c) :
    SeqStopsK F n Try.prog 58 #[.pointer (some ⟨b, 0, none⟩)] (fun x : S34 => #[.agg #[.int .i64 x.f0.f0, .int .i64 x.f0.f1, .int .i64 x.f1.f0, .int .i64 x.f1.f1, .int .i64 x.f1.f2, .int .i64 x.f1.f3.f0, .string x.f1.f3.f1, .int .i64 x.f1.f3.f2, .int .i64 x.f1.f3.f3, .string x.f1.f3.f4, .int .i64 x.f2.f0, .int .i64 x.f2.f1, .int .i64 x.f2.f2, .string x.f2.f3]]) (KeepX w.heap.size X Ts) (fun ys => ys = xs.reverse) (fun pre => ∃ q, pre = xs.reverse.take q) xs.length w := fun l J Jx W hW hJ hJx hY h0 =>
  back_1_in F n hF hro hn l b c w.heap.size X Ts A xs hb hbX hA J Jx W hW.size hY ((hW.cell hb).trans hB) (Kd.C_below hC hW) hc h0
theorem back_in (F : Fence) (n : Nat) (hF : F.fn 35) (hro : F.round = none) (A : Option Addr) (m c : Nat) (w : World) :
    CallsIn F n Try.prog 35 #[.slice A m c] w fun e w' => e = .returned (.func (.func 58) #[] #[.pointer (some ⟨w.heap.size, 0, none⟩)]) ∧ w' = w.alloc (.cells #[.slice A m c] 22) := by
  refine callsIn_of_wp Try.func35 rfl hF ?_ hro
  simp only [Try.ntmps35, List.size_toArray, List.length_cons, List.length_nil, Nat.reduceAdd, Nat.reduceSub, Array.replicate_succ, Array.replicate_zero, List.push_toArray, List.append_toArray, List.nil_append, List.cons_append]
  gi_wp2
  go_ret
  exact ⟨rfl, rfl⟩
end Go.Proofs.Ytbdciklcckjknaa.P
