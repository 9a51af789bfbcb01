/- Texts of this claim, merged by pack.py: C5 -/
import Derived.Sort.BigQuietIn
import Derived.Test.YtbaldkcnipmdjaaRF02
import Derived.Deep.RegionWith
import Derived.Stop.RegionWithIn
namespace Go.Proofs.Ytbaldkcnipmdjaa.P
open Go.RowKit Go.Proofs.YtbaldkcnipmdjaaW.PrintWords Go.Proofs.YtbaldkcnipmdjaaW.PrintLast Go.Proofs.YtbaldkcnipmdjaaW.PrintMore Go.Proofs.YtbaldkcnipmdjaaW.HB
set_option linter.unusedVariables false
set_option linter.unusedSimpArgs false
attribute [local go_sem] Oper.semAt_some
attribute [local go_sem] min_two
theorem meetR {F : Fence} {n : Nat} {P : Program} {c : Code} {Q : Exit → Act → World → Prop} {a : Act} {w : World}
    (h : ∃ (a' : Act) (R : World → Prop), c.wpIn F n P (fun e a w => match e with | .normal => a = a' ∧ R w | _ => False) a w ∧ ∀ w', R w' → Q .normal a' w') : c.wpIn F n P Q a w := by
  obtain ⟨a', R, h1, h2⟩ := h
  refine wpIn_mono h1 ?_
  rintro e b v hb
  cases e with
  | normal => obtain ⟨rfl, hr⟩ := hb; exact h2 _ hr
  | _ => exact hb.elim
theorem C31_K {W W' : World} {x : S31} {cs : List Value} (h : k31.K W x cs) : k31.K W' x cs := by
  obtain rfl := k31_open h
  exact k31_mk _ _
theorem at_two {w : World} {A : Option Addr} {n : Nat} {xs : List S31} (h : Kd.C k31 w A n xs) (i : Nat) (h1 : i < n) : ∃ ad, A = some ad ∧ w.cell? (ad.add (i * 2)) = some (.int .i64 (rd_T31 xs i).f0) ∧ w.cell? ⟨(ad.add (i * 2)).block, (ad.add (i * 2)).off + 1, none⟩ = some (.int .i64 (rd_T31 xs i).f1) := by
  have := at_T31 h (i : Int) (by omega) (by omega)
  simpa only [Int.toNat_natCast] using this
set_option maxRecDepth 100000 in
set_option maxHeartbeats 4000000 in
theorem straws_1_in (l : List S31) (x r : Int) (A : Option Addr) (c : Nat) (li bi bx br N0 : Nat) (X Ts : Nat → Prop)
    (hbi : bi < N0) (hbx : bx < N0) (hbr : br < N0) (hXi : ¬ X bi) (hXx : ¬ X bx) (hXr : ¬ X br) (hA : ∀ ad, A = some ad → 0 < l.length → ad.block < N0 ∧ ¬ X ad.block)
    (J : List OkS → World → Prop) (W : World) (hNW : N0 ≤ W.heap.size) (hJ : Abides2 W.heap.size J)
    (hY : ∀ pre s W1, J pre W1 → pre.length < l.length → YieldAt Fence.wide 7 Try.prog li #[.agg #[.int .i64 s.1.id, .int .i64 s.1.wt, .int .i64 s.1.place, .int .i64 s.1.cost]] W1 fun e W' => e = .returned (.bool true) ∧ J (pre ++ [s]) W' ∧ KeepX N0 X Ts W1 W')
    (hC : Kd.C k31 W A l.length l) (hc : l.length ≤ c) (hBi : W.cell? ⟨bi, 0, none⟩ = some (.slice A l.length c)) (hBx : W.cell? ⟨bx, 0, none⟩ = some (.int .u32 x)) (hBr : W.cell? ⟨br, 0, none⟩ = some (.int .i64 r)) (h0 : J [] W) :
    CallsIn Fence.wide 8 Try.prog 66 #[.func (.yield li) #[] #[], .pointer (some ⟨bi, 0, none⟩), .pointer (some ⟨bx, 0, none⟩), .pointer (some ⟨br, 0, none⟩)] W fun e W' => (∃ v, e = .returned v) ∧ J ((strawsL l x r l.length).map mkOk) W' := by
  have hlen := hC.2.1
  refine callsIn_of_wp Try.func66 rfl trivial ?_ rfl
  simp only [Try.ntmps66, List.size_toArray, List.length_cons, List.length_nil, Nat.reduceAdd, Nat.reduceSub, Array.replicate_succ, Array.replicate_zero, List.push_toArray, List.append_toArray, List.nil_append, List.cons_append]
  gi_wp2
  gi_loopw [9] (fun i wr => ∃ k : Nat, k ≤ l.length ∧ i = .int .i64 k ∧ Aside0 (J ((strawsL l x r k).map mkOk) wr) ∧ Aside0 (Kd.C k31 wr A l.length l) ∧
      Aside0 (wr.cell? ⟨bi, 0, none⟩ = some (.slice A l.length c) ∧ wr.cell? ⟨bx, 0, none⟩ = some (.int .u32 x) ∧ wr.cell? ⟨br, 0, none⟩ = some (.int .i64 r)) ∧ Aside0 (W.heap.size ≤ wr.heap.size)) (fun i _ => l.length - (intOf i).toNat)
  case atStart => exact ⟨0, Nat.zero_le _, rfl, ⟨h0⟩, ⟨hC⟩, ⟨hBi, hBx, hBr⟩, ⟨Nat.le_refl _⟩⟩
  case round =>
    obtain ⟨i, hi, rfl, HJ, HCr, HB, HS⟩ := hrel
    by_cases hlt : i < l.length
    · obtain ⟨ad, e1, hx0, hx1⟩ := at_two HCr.out i hlt
      obtain ⟨c1, c2, c3⟩ := HB.out
      have HDEF := Aside0.mk (show strawsL l x r (i + 1) = if 1 ≤ wtI (rd_T31 l i) then strawsL l x r i ++ [strawAt l x r i] else strawsL l x r i from rfl)
      have HAT := Aside0.mk (fun (h : 1 ≤ wtI (rd_T31 l i)) => ((mkOk_val _ (strawAt_ok l x r i (by omega) h)).trans rfl : (mkOk (strawAt l x r i)).1 = (⟨(rd_T31 l i).f0, wtI (rd_T31 l i), i, costS x (rd_T31 l i).f0 r⟩ : Straw)))
      have HWT := Aside0.mk (show wtI (rd_T31 l i) = mn (rd_T31 l i).f1 1048576 from rfl)
      generalize rd_T31 l (i : Int) = it at *
      obtain ⟨id, w0⟩ := it
      dsimp only at hx0 hx1 HAT HWT
      subst e1
      have hmn : Builtin.min2 (.int .i64 w0) (.int .i64 1048576) = pure (.int .i64 (mn w0 1048576)) := min2_int .i64 .i64 w0 1048576
      rw [HWT.out] at HDEF HAT
      generalize mn w0 1048576 = m at *
      have HCO := Aside0.mk ((cost_at x id r).1 60 (by omega))
      generalize costS x id r = cs at *
      gi_wp2
      obtain ⟨bw, hbw⟩ : ∃ b, b = wr.heap.size := ⟨_, rfl⟩
      rw [← hbw]
      have hB1 : Below wr.heap.size wr (wr.alloc (.cells #[.int .i64 id, .int .i64 m] 31)) := (Below.refl _ wr).alloc (Nat.le_refl _) _
      have hp := World.alloc_heap_new wr (.cells #[.int .i64 id, .int .i64 m] 31)
      rw [← hbw] at hp
      have z2 := pw_cell_below (below_alloc (Below.refl _ wr) (.cells #[.int .i64 id, .int .i64 m] 31)) c2
      have z3 := pw_cell_below (below_alloc (Below.refl _ wr) (.cells #[.int .i64 id, .int .i64 m] 31)) c3
      have hsz := World.size_alloc wr (.cells #[.int .i64 id, .int .i64 m] 31)
      generalize wr.alloc (.cells #[.int .i64 id, .int .i64 m] 31) = W1 at *
      have p0 : W1.cell? ⟨bw, 0, none⟩ = some (.int .i64 id) := by simp [World.cell?, hp]
      have p1 : W1.cell? ⟨bw, 1, none⟩ = some (.int .i64 m) := by simp [World.cell?, hp]
      have HB1 := Aside0.mk hB1
      clear hB1 hp hx0 hx1 c1 c2 c3 hmn hbw HWT
      by_cases hm : 1 ≤ m
      · have hd : decide (1 ≤ m) = true := decide_eq_true hm
        rw [if_pos hm] at HDEF
        replace HAT := Aside0.mk (HAT.out hm)
        clear hm
        refine meetR ?_
        apply Exists.intro
        refine ⟨fun w' => Aside0 (J ((strawsL l x r (i + 1)).map mkOk) w' ∧ KeepX N0 X Ts wr w'), ?_, ?_⟩
        · gi_region_with (first
            | (refine ⟨trivial, ?_⟩; gi_at_call 67; refine (callsIn_wide.2 (crush_Cost.calls 60 x id r cs _ HCO.out)).mono ?_; rintro e w1 ⟨rfl, hb1⟩; have HB2 := Aside0.mk (HB1.out.drew.trans (hb1.mono (show wr.heap.size ≤ W1.heap.size from HB1.out.size))); have q0 := pw_cell_below (below_step (below_drew (Below.refl _ W1)) hb1) p0; have q1 := pw_cell_below (below_step (below_drew (Below.refl _ W1)) hb1) p1; obtain ⟨fn, tmps, assign, body, hy, hR⟩ := hY _ (mkOk (strawAt l x r i)) w1 (hJ _ _ _ HJ.out (HB2.out.mono HS.out)) (by rw [List.length_map]; have := strawsL_len l x r i; omega); rw [HAT.out] at hy; clear hb1)
            | (refine hR.mono ?_; rintro e W3 ⟨rfl, hJ3, hk3⟩; have HJ3 := Aside0.mk hJ3; have HK3 := Aside0.mk hk3; clear hJ3 hk3 hR hy))
          all_goals exact ⟨rfl, ⟨by rw [HDEF.out, List.map_append]; exact HJ3.out, (KeepX.below HB2.out).trans HK3.out⟩⟩
        · rintro w' ⟨hJ', hK'⟩
          have HJ4 := Aside0.mk hJ'
          have HK4 := Aside0.mk hK'
          clear hJ' hK' p0 p1 z2 z3 hsz
          gi_wp2
          go_roundw
          case rel =>
            obtain ⟨c1, c2, c3⟩ := HB.out
            exact ⟨i + 1, by omega, by go_num, HJ4, ⟨C_keepX' (fun _ _ _ _ h => C31_K h) HCr.out HK4.out hA⟩, ⟨HK4.out.cell c1 hbi hXi, HK4.out.cell c2 hbx hXx, HK4.out.cell c3 hbr hXr⟩, ⟨Nat.le_trans HS.out HK4.out.1⟩⟩
          case measure => simp [intOf]; omega
      · have hd : decide (1 ≤ m) = false := decide_eq_false hm
        rw [if_neg hm] at HDEF
        clear hm
        refine wpIn_region_quiet_lit rfl (by kernel_rfl) (by kernel_rfl) ?_
        repeat (first | gi_big_quiet_step (fail) | (refine Go.BigFrame.wpQuietIn_skip (fun _ _ _ _ => trivial) rfl ?_; simp only [Act.put, List.setIfInBounds_toArray, List.set_cons_succ, List.set_cons_zero]))
        refine wpQuietIn_nil ?_
        rintro _ ⟨nq, rfl⟩
        gi_wp2
        go_roundw
        case rel =>
          obtain ⟨c1, c2, c3⟩ := HB.out
          have hbb := pw_below_drewN HB1.out nq
          exact ⟨i + 1, by omega, by go_num, ⟨by rw [HDEF.out]; exact hJ _ _ _ HJ.out (hbb.mono HS.out)⟩, ⟨Kd.C_below HCr.out hbb⟩, ⟨pw_cell_below hbb c1, pw_cell_below hbb c2, pw_cell_below hbb c3⟩, ⟨Nat.le_trans HS.out hbb.size⟩⟩
        case measure => simp [intOf]; omega
    · have HE := Aside0.mk (show i = l.length from by omega)
      gi_wp2
      go_end0
      have h1 := HJ.out
      rw [HE.out] at h1
      exact ⟨⟨_, rfl⟩, h1⟩
end Go.Proofs.Ytbaldkcnipmdjaa.P
