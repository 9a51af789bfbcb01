/- Texts of this claim, merged by pack.py: PRuleLoad PReefref12Many PReefref12Load PRuleMoves PReefref12Moves Q11 W6 -/
import Derived.Test.YtbaldkcnipmdjaaRE01
import Derived.Test.YtbaldkcnipmdjaaRE05
import Derived.Test.YtbaldkcnipmdjaaRE09
namespace Go.Proofs.Ytbaldkcnipmdjaa.P
open Go.RowKit Go.Proofs.YtbaldkcnipmdjaaW.PrintWords Go.Proofs.YtbaldkcnipmdjaaW.PrintLast Go.Proofs.YtbaldkcnipmdjaaW.PrintMore
attribute [local go_sem] max2_int min2_int max_two min_two max_three min_three max_four min_four
set_option linter.unusedVariables false
set_option linter.unusedSimpArgs false
mutual
def rule_Load.l0 : Nat → List Int → List Int → Int → Int → Int → List Int → Int → Int → Option (List Int)
  | 0, _, _, _, _, _, _, _, _ => none
  | k + 1, x0, x1, x2, x4, x5, x13, x22, x23 => if x23 < x22 then ((rule_Place.f x0 x1 ((x2 + ((x23) % 4294967296)) % 4294967296) x4 x5).bind fun t142 => (rule_Load.l1 k x0 x1 x2 x4 x5 x13 x22 x23 t142 (t142.length : Int) 0)) else (some x13)
def rule_Load.l1 : Nat → List Int → List Int → Int → Int → Int → List Int → Int → Int → List Int → Int → Int → Option (List Int)
  | 0, _, _, _, _, _, _, _, _, _, _, _ => none
  | k + 1, x0, x1, x2, x4, x5, x13, x22, x23, x34, x35, x36 => if x36 < x35 then (if 0 ≤ x36 then (if x36 < (x34.length : Int) then (if 0 ≤ (rd x34 x36) then (if (rd x34 x36) < (x13.length : Int) then (rule_Load.l1 k x0 x1 x2 x4 x5 (x13.set ((rd x34 x36) : Int).toNat (wrap64 ((rd x13 (rd x34 x36)) + 1))) x22 x23 x34 x35 (wrap64 (x36 + 1))) else (none)) else (none)) else (none)) else (none)) else (rule_Load.l0 k x0 x1 x2 x4 x5 x13 x22 (wrap64 (x23 + 1)))
end
def rule_Load.f (k : Nat) (l0 : List Int) (l1 : List Int) (a2 : Int) (a3 : Int) (a4 : Int) (a5 : Int) : Option (List Int) := if 0 ≤ (l0.length : Int) then (if ((l0.length : Int) : Int).toNat ≤ 35184372088832 then (rule_Load.l0 k l0 l1 a2 a4 a5 (List.replicate ((l0.length : Int) : Int).toNat 0) (mn (mx a3 0) 2000) 0) else (none)) else (none)
set_option maxHeartbeats 8000000 in
set_option maxRecDepth 100000 in
theorem rule_Load.calls (k : Nat) (A0 : Option Addr) (c0 : Nat) (l0 : List Int) (A1 : Option Addr) (c1 : Nat) (l1 : List Int) (a2 : Int) (a3 : Int) (a4 : Int) (a5 : Int) (r : List Int) (w : World) (hr0 : Kd.C (Kd.int .i64) w A0 l0.length l0) (hc0 : l0.length ≤ c0) (hr1 : Kd.C (Kd.int .i64) w A1 l1.length l1) (hc1 : l1.length ≤ c1) (h : rule_Load.f k l0 l1 a2 a3 a4 a5 = some r) :
    Calls Try.prog 22 #[.slice A0 l0.length c0, .slice A1 l1.length c1, .int .u32 a2, .int .i64 a3, .int .i64 a4, .int .i64 a5] w fun e w' => ∃ v0_ : Value, e = .returned (v0_) ∧ Kd.R (Kd.int .i64) 3 w' w.heap.size (fun _ => True) v0_ r ∧ Below w.heap.size w w' := by
  have HR0 := Aside0.mk hr0
  have HC0 := Aside0.mk hc0
  clear hr0 hc0
  have HR1 := Aside0.mk hr1
  have HC1 := Aside0.mk hc1
  clear hr1 hc1
  have HB := Aside0.mk (Below.refl w.heap.size w)
  have H : (if 0 ≤ (l0.length : Int) then (if ((l0.length : Int) : Int).toNat ≤ 35184372088832 then (rule_Load.l0 k l0 l1 a2 a4 a5 (List.replicate ((l0.length : Int) : Int).toNat 0) (mn (mx a3 0) 2000) 0) else (none)) else (none)) = some r := h
  clear h
  by_cases c7 : 0 ≤ (l0.length : Int)
  · rw [if_pos c7] at H
    have c7b0 := eq_true c7
    have c7b1 : decide (0 ≤ (l0.length : Int)) = true := decide_eq_true c7
    clear c7
    by_cases c8 : ((l0.length : Int) : Int).toNat ≤ 35184372088832
    · rw [if_pos c8] at H
      have c8b0 := eq_true c8
      have c8b1 : decide (((l0.length : Int) : Int).toNat ≤ 35184372088832) = true := decide_eq_true c8
      clear c8
      obtain ⟨y139, hy139⟩ : ∃ y_ : List Int, y_ = (List.replicate ((l0.length : Int) : Int).toNat 0) := ⟨_, rfl⟩
      replace H : (rule_Load.l0 k l0 l1 a2 a4 a5 y139 (mn (mx a3 0) 2000) 0) = some r := by first | (rw [hy139]; with_reducible exact H) | (have H2_ := (Option.bind_some _ _).symm.trans H; rw [hy139]; with_reducible exact H2_) | (have H2_ := (Option.bind_some _ _).symm.trans H; with_reducible exact H2_) | with_reducible exact H | (rw [hy139]; exact H) | exact H
      have Ny139 := Aside0.mk hy139
      clear hy139
      obtain ⟨ji9, hji9⟩ : ∃ j_ : Int, (mx a3 0) = j_ := ⟨_, rfl⟩
      replace H : (rule_Load.l0 k l0 l1 a2 a4 a5 y139 (mn (ji9) 2000) 0) = some r := by first | (rw [hji9] at H; exact H) | (simp only [hji9] at H ⊢; exact H)
      (try (have hji9l : 0 ≤ ji9 := by (rw [← hji9]; unfold mx; (repeat' split) <;> omega)))
      (try (have hji9m : 0 ≤ ji9 := by omega))
      have hji9_ : (if a3 < 0 then 0 else a3) = ji9 := hji9
      obtain ⟨ji10, hji10⟩ : ∃ j_ : Int, (mn (ji9) 2000) = j_ := ⟨_, rfl⟩
      replace H : (rule_Load.l0 k l0 l1 a2 a4 a5 y139 ji10 0) = some r := by first | (rw [hji10] at H; exact H) | (simp only [hji10] at H ⊢; exact H)
      have hji10_ : (if 2000 < (ji9) then 2000 else (ji9)) = ji10 := hji10
      have H' := Aside0.mk H
      clear H
      go_enter Try.func22, Try.ntmps22
      go_wp2_with (first | ((with_reducible refine gate_dst (N := 19) rfl ?_); refine Kd.R_make (Kd.int .i64) _ 3 rfl (N := 19) rfl 22 _ _ rfl (l0.length : Int) rfl rfl Try.underlying22 (.int .i64 0) 8 info3 rfl (by decide) (by omega) 0 (ok := fun _ => True) (okp := fun _ => True) rfl (fun _ hk => hk) trivial (of_decide_eq_true (by first | (with_reducible assumption) | assumption)) (Nat.le_trans (Nat.mul_le_mul_right _ (of_decide_eq_true (by first | (with_reducible assumption) | assumption) : (l0.length : Int).toNat ≤ 35184372088832)) (by omega)) (Below.refl _ _) (Nat.le_refl _) ?_; intro v140 w11 ho12 hb hg_ hnew_; clear hg_ hnew_; (first | rw [← Ny139.out] at ho12 | (simp only [Int.reduceToNat] at ho12; rw [← Ny139.out] at ho12)); have n0_ := Aside0.mk (Kd.R_lower ho12 (below_size (by repeat (first | (with_reducible first | exact HB.out | apply below_alloc | apply pw_below_drewN | apply below_drew1) | exact HB.out)))); have n1_ := Aside0.mk (below_step (by repeat (first | (with_reducible first | exact HB.out | apply below_alloc | apply pw_below_drewN | apply below_drew1) | exact HB.out)) hb); clear HB; have HO141 := n0_; have HB := n1_; clear n0_ n1_; clear hb ho12))
      go_loopg [23] k (fun kq v23 w' => ∃ (x13_1 : List Int) (x23_1 : Int), v23 = .int .i64 x23_1 ∧ Aside0 (rule_Load.l0 kq l0 l1 a2 a4 a5 x13_1 ji10 x23_1 = some r) ∧ Aside0 (kq ≤ k) ∧ Aside0 (Kd.R (Kd.int .i64) 3 w' w.heap.size (fun _ => True) v140 x13_1) ∧ Aside0 (Below w.heap.size w w'))
      case atStart => exact ⟨(y139), (0), (by first | rfl | (simp; done) | (simp [*]; done)), H', ⟨Nat.le_refl _⟩, ⟨by (with_reducible repeat (first | apply Kd.R_alloc | apply Kd.R_drewN | apply Kd.R_drew)); exact HO141.out⟩, ⟨by repeat (first | (with_reducible first | exact HB.out | apply below_alloc | apply pw_below_drewN | apply below_drew1) | exact HB.out)⟩⟩
      case round =>
        clear H'
        try clear c1
        try clear c2
        try clear p2
        try clear c7
        try clear c7b0
        try clear c7b1
        try clear c8
        try clear c8b0
        try clear c8b1
        obtain ⟨x13_1, x23_1, rfl, HA, HK1, HO_13, HB⟩ := hrel
        cases gk with
        | zero => exact absurd HA.out (by simp [rule_Load.l0])
        | succ k1 =>
          have H := HA.out
          clear HA
          simp only [rule_Load.l0] at H
          by_cases c13 : x23_1 < ji10
          · rw [if_pos c13] at H
            have c13b0 : decide (x23_1 < ji10) = true := decide_eq_true c13
            clear c13
            replace H := Option.bind_eq_some_iff.mp H
            obtain ⟨t142, A140, H⟩ := H
            replace H : (rule_Load.l1 k1 l0 l1 a2 a4 a5 x13_1 ji10 x23_1 t142 (t142.length : Int) 0) = some r := H
            have A14 := Aside0.mk A140
            clear A140
            have H' := Aside0.mk H
            clear H
            go_wp2_with (first | ((with_reducible refine gate_callee (f := 15) rfl ?_); refine goesL_ (some 34) rfl rfl Try.func15 (by kernel_rfl) rfl #[.slice A0 l0.length c0, .slice A1 l1.length c1, .int .u32 ((a2 + ((x23_1) % 4294967296)) % 4294967296), .int .i64 a4, .int .i64 a5] rfl (by (try simp only [List.map_toArray, List.map_cons, List.map_nil]); first | done | rfl | (simp only [List.length_drop, List.length_take]; rfl)) ?_; (with_reducible refine (rule_Place.calls _ _ l0 _ _ l1 ((a2 + ((x23_1) % 4294967296)) % 4294967296) a4 a5 t142 _ ?side1 ?side2 ?side3 ?side4 A14.out).mono ?_); (case side1 => repeat (first | exact (Kd.C_below HR0.out HB.out) | (with_reducible refine Kd.C_alloc ?_ _) | (with_reducible refine Kd.C_drewN ?_ _) | (with_reducible refine Kd.C_drew ?_))); (case side2 => exact HC0.out); (case side3 => repeat (first | exact (Kd.C_below HR1.out HB.out) | (with_reducible refine Kd.C_alloc ?_ _) | (with_reducible refine Kd.C_drewN ?_ _) | (with_reducible refine Kd.C_drew ?_))); (case side4 => exact HC1.out); rintro e w15 ⟨v143, rfl, ho0, hb⟩; refine ⟨_, rfl, ?_⟩; have n0_ := Aside0.mk (Kd.R_elder' (by (with_reducible repeat (first | apply Kd.R_alloc | apply Kd.R_drewN | apply Kd.R_drew)); exact HO_13.out) (Kd.R_base ho0) hb); have n1_ := Aside0.mk (Kd.R_lower (Kd.R_new' ho0 (Kd.R_lt (by (with_reducible repeat (first | apply Kd.R_alloc | apply Kd.R_drewN | apply Kd.R_drew)); exact HO_13.out))) (below_size (by repeat (first | (with_reducible first | exact HB.out | apply below_alloc | apply pw_below_drewN | apply below_drew1) | exact HB.out)))); have n2_ := Aside0.mk (below_step (by repeat (first | (with_reducible first | exact HB.out | apply below_alloc | apply pw_below_drewN | apply below_drew1) | exact HB.out)) hb); clear HO_13; clear HB; have HO_13 := n0_; have HO144 := n1_; have HB := n2_; clear n0_ n1_ n2_; (try clear hb); (try clear hb2); (try clear hk); (try clear hi); (try clear ho0); obtain ⟨Ao16, co16, eo16⟩ := Kd.R_slice HO144.out; subst eo16))
            go_loopg [36] k1 (fun kq v36 w' => ∃ (x13_2 : List Int) (x36_2 : Int), v36 = .int .i64 x36_2 ∧ Aside0 (rule_Load.l1 kq l0 l1 a2 a4 a5 x13_2 ji10 x23_1 t142 (t142.length : Int) x36_2 = some r) ∧ Aside0 (kq ≤ k1) ∧ Aside0 (Kd.R (Kd.int .i64) 3 w' w.heap.size (fun k_ => some k_ ≠ ((.slice Ao16 t142.length co16) : Value).ownBlock) v140 x13_2) ∧ Aside0 (Kd.R (Kd.int .i64) 3 w' w.heap.size (fun k_ => some k_ ≠ (v140 : Value).ownBlock) (.slice Ao16 t142.length co16) t142) ∧ Aside0 (Below w.heap.size w w'))
            case atStart => exact ⟨(x13_1), (0), (by first | rfl | (simp; done) | (simp [*]; done)), H', ⟨Nat.le_refl _⟩, ⟨by (with_reducible repeat (first | apply Kd.R_alloc | apply Kd.R_drewN | apply Kd.R_drew)); exact Kd.R_mono HO_13.out (fun _ hk => hk.2)⟩, ⟨by (with_reducible repeat (first | apply Kd.R_alloc | apply Kd.R_drewN | apply Kd.R_drew)); exact Kd.R_mono HO144.out (fun _ hk => hk.2)⟩, ⟨by repeat (first | (with_reducible first | exact HB.out | apply below_alloc | apply pw_below_drewN | apply below_drew1) | exact HB.out)⟩⟩
            case round =>
              clear H'
              try clear c1
              try clear c2
              try clear p2
              try clear c7
              try clear c7b0
              try clear c7b1
              try clear c8
              try clear c8b0
              try clear c8b1
              try clear c13
              try clear c13b0
              try clear c15
              try clear p2
              obtain ⟨x13_2, x36_2, rfl, HA, HK2, HO_13, HO_34, HB⟩ := hrel
              cases gk with
              | zero => exact absurd HA.out (by simp [rule_Load.l1])
              | succ k2 =>
                have H := HA.out
                clear HA
                simp only [rule_Load.l1] at H
                by_cases c17 : x36_2 < (t142.length : Int)
                · rw [if_pos c17] at H
                  have c17b0 : decide (x36_2 < (t142.length : Int)) = true := decide_eq_true c17
                  clear c17
                  by_cases c18 : 0 ≤ x36_2
                  · rw [if_pos c18] at H
                    have c18b0 : decide (0 ≤ x36_2) = true := decide_eq_true c18
                    clear c18
                    by_cases c19 : x36_2 < (t142.length : Int)
                    · rw [if_pos c19] at H
                      have c19b0 : decide (x36_2 < (t142.length : Int)) = true := decide_eq_true c19
                      clear c19
                      by_cases c20 : 0 ≤ (rd t142 x36_2)
                      · rw [if_pos c20] at H
                        have c20b0 : decide (0 ≤ (rd t142 x36_2)) = true := decide_eq_true c20
                        clear c20
                        by_cases c21 : (rd t142 x36_2) < (x13_2.length : Int)
                        · rw [if_pos c21] at H
                          have c21b0 : decide ((rd t142 x36_2) < (x13_2.length : Int)) = true := decide_eq_true c21
                          clear c21
                          obtain ⟨y147, hy147⟩ : ∃ y_ : List Int, y_ = (x13_2.set ((rd t142 x36_2) : Int).toNat (wrap64 ((rd x13_2 (rd t142 x36_2)) + 1))) := ⟨_, rfl⟩
                          replace H : (rule_Load.l1 k2 l0 l1 a2 a4 a5 y147 ji10 x23_1 t142 (t142.length : Int) (wrap64 (x36_2 + 1))) = some r := by first | (rw [hy147]; with_reducible exact H) | (have H2_ := (Option.bind_some _ _).symm.trans H; rw [hy147]; with_reducible exact H2_) | (have H2_ := (Option.bind_some _ _).symm.trans H; with_reducible exact H2_) | with_reducible exact H | (rw [hy147]; exact H) | exact H
                          have Ny147 := Aside0.mk hy147
                          clear hy147
                          have H' := Aside0.mk H
                          clear H
                          have p145 : 0 ≤ (x36_2 : Int) := of_decide_eq_true (by first | (with_reducible assumption) | assumption)
                          have q145 : x36_2 < (t142.length : Int) := of_decide_eq_true (by first | (with_reducible assumption) | assumption)
                          obtain ⟨ad145, e145, hx145_0⟩ := Kd.at_int (Kd.R_reads' HO_34.out).2.2 x36_2 p145 q145
                          cases e145
                          replace p145 := eq_true p145
                          replace q145 := eq_true q145
                          obtain ⟨Ao23, co23, eo23⟩ := Kd.R_slice HO_13.out
                          subst eo23
                          have p146 : 0 ≤ ((rd t142 x36_2) : Int) := of_decide_eq_true (by first | (with_reducible assumption) | assumption)
                          have q146 : (rd t142 x36_2) < (x13_2.length : Int) := of_decide_eq_true (by first | (with_reducible assumption) | assumption)
                          obtain ⟨ad146, e146, hx146_0⟩ := Kd.at_int (Kd.R_reads' HO_13.out).2.2 (rd t142 x36_2) p146 q146
                          cases e146
                          replace p146 := eq_true p146
                          replace q146 := eq_true q146
                          have p22 : 0 ≤ ((rd t142 x36_2) : Int) := of_decide_eq_true (by first | (with_reducible assumption) | assumption)
                          have q22 : ((rd t142 x36_2) : Int) < ((x13_2.length : Int) : Int) := of_decide_eq_true (by first | (with_reducible assumption) | assumption)
                          obtain ⟨go22, co22, eo22, gb22, gl22, cl22, HG22⟩ := Kd.R_form HO_13.out (by omega)
                          (first | cases eo22 | (injection eo22 with ea_ en_ ec_; (first | subst ea_ | (injection ea_ with ea_; subst ea_)); subst ec_; clear en_))
                          have GB22 := Aside0.mk gb22
                          have GG22 := Aside0.mk HG22
                          clear gb22 gl22 HG22
                          (first | simp only [add_plain] at hx146_0 | skip)
                          obtain ⟨hx22_0, hf22_0⟩ := Kd.R_celln 0 HO_13.out ((rd t142 x36_2) : Int) p22 q22
                          replace p22 := eq_true p22
                          replace q22 := eq_true q22
                          have HP24 := Kd.R_putg HO_13.out ((rd t142 x36_2) : Int) (wrap64 ((rd x13_2 (rd t142 x36_2)) + 1))
                          go_wp2_with (first | ((with_reducible refine gate_store (t := 3) (p := 45) rfl ?_); refine store_event (t := 3) (p := 45) (v := ?vo_w25) (w1 := (wr.setCell ⟨go22, ((rd t142 x36_2) : Int).toNat, none⟩ (.int .i64 (wrap64 ((rd x13_2 (rd t142 x36_2)) + 1))))) ?hg ?ho ?hn ?hr ?_; (case ho => rfl); (case hg => rfl); (case hn => rfl); (case hr => first | (go_simp; done) | (go_simp; rfl)); intro w25 hw; have hg : wr.grownBy w25 (some go22) := (by rw [hw]; exact HP24.2); have hp_ : Kd.R (Kd.int .i64) 3 w25 w.heap.size (fun k_ => some k_ ≠ (.slice (some ad145) t142.length co16 : Value).ownBlock) (.slice (some ⟨go22, 0, none⟩) x13_2.length co23) y147 := (by rw [hw, Ny147.out]; exact HP24.1); clear HP24; have n0_ := Aside0.mk (hp_); have n1_ := Aside0.mk (Kd.R_after (v := (.slice (some ⟨go22, 0, none⟩) x13_2.length co23)) (v1 := (.slice (some ⟨go22, 0, none⟩) x13_2.length co23)) (ok := (fun _ => True)) (by (with_reducible repeat (first | apply Kd.R_alloc | apply Kd.R_drewN | apply Kd.R_drew)); exact Kd.R_mono HO_34.out (fun _ hk => ⟨trivial, hk⟩)) hg (.inl rfl)); have n2_ := Aside0.mk ((by rw [hw]; exact below_set (HB.out) GB22.out : Below w.heap.size w w25)); clear HO_13; clear HO_34; clear HB; have HO_13 := n0_; have HO_34 := n1_; have HB := n2_; clear n0_ n1_ n2_; clear hg hw hp_))
                          go_roundg k2
                          case measure => have := HK1.out; have := HK2.out; omega
                          case rel => exact ⟨(y147), (wrap64 (x36_2 + 1)), (by first | rfl | (simp; done) | (simp [*]; done)), H', ⟨by have := HK1.out; have := HK2.out; omega⟩, ⟨by (with_reducible repeat (first | apply Kd.R_alloc | apply Kd.R_drewN | apply Kd.R_drew)); exact HO_13.out⟩, ⟨by (with_reducible repeat (first | apply Kd.R_alloc | apply Kd.R_drewN | apply Kd.R_drew)); exact Kd.R_mono HO_34.out (fun _ hk => hk.2)⟩, ⟨by repeat (first | (with_reducible first | exact HB.out | apply below_alloc | apply pw_below_drewN | apply below_drew1) | exact HB.out)⟩⟩
                        · rw [if_neg c21] at H
                          exact absurd H (by simp)
                      · rw [if_neg c20] at H
                        exact absurd H (by simp)
                    · rw [if_neg c19] at H
                      exact absurd H (by simp)
                  · rw [if_neg c18] at H
                    exact absurd H (by simp)
                · rw [if_neg c17] at H
                  have c17b0 : decide (x36_2 < (t142.length : Int)) = false := decide_eq_false c17
                  clear c17
                  have H' := Aside0.mk H
                  clear H
                  go_wp2
                  go_roundg k2
                  case measure => have := HK1.out; have := HK2.out; omega
                  case rel => exact ⟨(x13_2), (wrap64 (x23_1 + 1)), (by first | rfl | (simp; done) | (simp [*]; done)), H', ⟨by have := HK1.out; have := HK2.out; omega⟩, ⟨by (with_reducible repeat (first | apply Kd.R_alloc | apply Kd.R_drewN | apply Kd.R_drew)); exact Kd.R_mono HO_13.out (fun _ hk => trivial)⟩, ⟨by repeat (first | (with_reducible first | exact HB.out | apply below_alloc | apply pw_below_drewN | apply below_drew1) | exact HB.out)⟩⟩
          · rw [if_neg c13] at H
            have c13b0 : decide (x23_1 < ji10) = false := decide_eq_false c13
            clear c13
            obtain rfl := Option.some.inj H
            go_wp2
            go_ret
            exact ⟨_, by first | rfl | (simp [errW_none, errW_some] <;> rfl) | (simp only [← hji9, ← hji10]; first | rfl | (simp [errW_none, errW_some] <;> rfl)) | (simp [*, errW_none, errW_some] <;> rfl), by (with_reducible repeat (first | apply Kd.R_alloc | apply Kd.R_drewN | apply Kd.R_drew)); exact HO_13.out, by repeat (first | (with_reducible first | exact HB.out | apply below_alloc | apply pw_below_drewN | apply below_drew1) | exact HB.out)⟩
    · rw [if_neg c8] at H
      exact absurd H (by simp)
  · rw [if_neg c7] at H
    exact absurd H (by simp)
end Go.Proofs.Ytbaldkcnipmdjaa.P
namespace Go.Proofs.Ytbaldkcnipmdjaa.P
open Go.RowKit Go.Proofs.YtbaldkcnipmdjaaW.PrintWords Go.Proofs.YtbaldkcnipmdjaaW.PrintLast Go.Proofs.YtbaldkcnipmdjaaW.PrintMore
attribute [local go_sem] max2_int min2_int max_two min_two max_three min_three max_four min_four
set_option linter.unusedVariables false
set_option linter.unusedSimpArgs false
def reefref12_many.f (a0 : Int) : Option (Int) := some (mn (mx a0 0) 2000)
set_option maxHeartbeats 8000000 in
set_option maxRecDepth 100000 in
theorem reefref12_many.calls (a0 : Int) (r : Int) (w : World) (h : reefref12_many.f a0 = some r) :
    Calls Try.prog 38 #[.int .i64 a0] w fun e w' => e = .returned (.int .i64 r) ∧ Below w.heap.size w w' := by
  have HB := Aside0.mk (Below.refl w.heap.size w)
  have H : (some (mn (mx a0 0) 2000)) = some r := h
  clear h
  obtain ⟨ji2, hji2⟩ : ∃ j_ : Int, (mx a0 0) = j_ := ⟨_, rfl⟩
  replace H : (some (mn (ji2) 2000)) = some r := by first | (rw [hji2] at H; exact H) | (simp only [hji2] at H ⊢; exact H)
  (try (have hji2l : 0 ≤ ji2 := by (rw [← hji2]; unfold mx; (repeat' split) <;> omega)))
  (try (have hji2m : 0 ≤ ji2 := by omega))
  have hji2_ : (if a0 < 0 then 0 else a0) = ji2 := hji2
  obtain ⟨ji3, hji3⟩ : ∃ j_ : Int, (mn (ji2) 2000) = j_ := ⟨_, rfl⟩
  replace H : (some ji3) = some r := by first | (rw [hji3] at H; exact H) | (simp only [hji3] at H ⊢; exact H)
  have hji3_ : (if 2000 < (ji2) then 2000 else (ji2)) = ji3 := hji3
  obtain rfl := Option.some.inj H
  go_enter Try.func38, Try.ntmps38
  go_wp2
  go_ret
  exact ⟨by first | rfl | (simp [errW_none, errW_some] <;> rfl) | (simp only [← hji2, ← hji3]; first | rfl | (simp [errW_none, errW_some] <;> rfl)) | (simp [*, errW_none, errW_some] <;> rfl), by repeat (first | (with_reducible first | exact HB.out | apply below_alloc | apply pw_below_drewN | apply below_drew1) | exact HB.out)⟩
end Go.Proofs.Ytbaldkcnipmdjaa.P
namespace Go.Proofs.Ytbaldkcnipmdjaa.P
open Go.RowKit Go.Proofs.YtbaldkcnipmdjaaW.PrintWords Go.Proofs.YtbaldkcnipmdjaaW.PrintLast Go.Proofs.YtbaldkcnipmdjaaW.PrintMore
attribute [local go_sem] max2_int min2_int max_two min_two max_three min_three max_four min_four
set_option linter.unusedVariables false
set_option linter.unusedSimpArgs false
mutual
def reefref12_Load.l0 : Nat → List Int → List Int → Int → Int → Int → Int → List Int → Int → Option (List Int)
  | 0, _, _, _, _, _, _, _, _ => none
  | k + 1, x0, x1, x2, x3, x4, x5, x13, x14 => (reefref12_many.f x3).bind fun t327 => (if x14 < t327 then ((reefref12_Place.f k x0 x1 ((x2 + ((x14) % 4294967296)) % 4294967296) x4 x5).bind fun t328 => (reefref12_Load.l1 k x0 x1 x2 x3 x4 x5 x13 x14 t328 0)) else (some x13))
def reefref12_Load.l1 : Nat → List Int → List Int → Int → Int → Int → Int → List Int → Int → List Int → Int → Option (List Int)
  | 0, _, _, _, _, _, _, _, _, _, _ => none
  | k + 1, x0, x1, x2, x3, x4, x5, x13, x14, x15, x16 => if x16 < (x15.length : Int) then (if 0 ≤ x16 then (if 0 ≤ (rd x15 x16) then (if (rd x15 x16) < (x13.length : Int) then (reefref12_Load.l1 k x0 x1 x2 x3 x4 x5 (x13.set ((rd x15 x16) : Int).toNat (wrap64 ((rd x13 (rd x15 x16)) + 1))) x14 x15 (wrap64 (x16 + 1))) else (none)) else (none)) else (none)) else (reefref12_Load.l0 k x0 x1 x2 x3 x4 x5 x13 (wrap64 (x14 + 1)))
end
def reefref12_Load.f (k : Nat) (l0 : List Int) (l1 : List Int) (a2 : Int) (a3 : Int) (a4 : Int) (a5 : Int) : Option (List Int) := if 0 ≤ (l0.length : Int) then (if ((l0.length : Int) : Int).toNat ≤ 35184372088832 then (reefref12_Load.l0 k l0 l1 a2 a3 a4 a5 (List.replicate ((l0.length : Int) : Int).toNat 0) 0) else (none)) else (none)
set_option maxHeartbeats 8000000 in
set_option maxRecDepth 100000 in
theorem reefref12_Load.calls (k : Nat) (A0 : Option Addr) (c0 : Nat) (l0 : List Int) (A1 : Option Addr) (c1 : Nat) (l1 : List Int) (a2 : Int) (a3 : Int) (a4 : Int) (a5 : Int) (r : List Int) (w : World) (hr0 : Kd.C (Kd.int .i64) w A0 l0.length l0) (hc0 : l0.length ≤ c0) (hr1 : Kd.C (Kd.int .i64) w A1 l1.length l1) (hc1 : l1.length ≤ c1) (h : reefref12_Load.f k l0 l1 a2 a3 a4 a5 = some r) :
    Calls Try.prog 23 #[.slice A0 l0.length c0, .slice A1 l1.length c1, .int .u32 a2, .int .i64 a3, .int .i64 a4, .int .i64 a5] w fun e w' => ∃ v0_ : Value, e = .returned (v0_) ∧ Kd.R (Kd.int .i64) 3 w' w.heap.size (fun _ => True) v0_ r ∧ Below w.heap.size w w' := by
  have HR0 := Aside0.mk hr0
  have HC0 := Aside0.mk hc0
  clear hr0 hc0
  have HR1 := Aside0.mk hr1
  have HC1 := Aside0.mk hc1
  clear hr1 hc1
  have HB := Aside0.mk (Below.refl w.heap.size w)
  have H : (if 0 ≤ (l0.length : Int) then (if ((l0.length : Int) : Int).toNat ≤ 35184372088832 then (reefref12_Load.l0 k l0 l1 a2 a3 a4 a5 (List.replicate ((l0.length : Int) : Int).toNat 0) 0) else (none)) else (none)) = some r := h
  clear h
  by_cases c7 : 0 ≤ (l0.length : Int)
  · rw [if_pos c7] at H
    have c7b0 := eq_true c7
    have c7b1 : decide (0 ≤ (l0.length : Int)) = true := decide_eq_true c7
    clear c7
    by_cases c8 : ((l0.length : Int) : Int).toNat ≤ 35184372088832
    · rw [if_pos c8] at H
      have c8b0 := eq_true c8
      have c8b1 : decide (((l0.length : Int) : Int).toNat ≤ 35184372088832) = true := decide_eq_true c8
      clear c8
      obtain ⟨y324, hy324⟩ : ∃ y_ : List Int, y_ = (List.replicate ((l0.length : Int) : Int).toNat 0) := ⟨_, rfl⟩
      replace H : (reefref12_Load.l0 k l0 l1 a2 a3 a4 a5 y324 0) = some r := by first | (rw [hy324]; with_reducible exact H) | (have H2_ := (Option.bind_some _ _).symm.trans H; rw [hy324]; with_reducible exact H2_) | (have H2_ := (Option.bind_some _ _).symm.trans H; with_reducible exact H2_) | with_reducible exact H | (rw [hy324]; exact H) | exact H
      have Ny324 := Aside0.mk hy324
      clear hy324
      have H' := Aside0.mk H
      clear H
      go_enter Try.func23, Try.ntmps23
      go_wp2_with (first | ((with_reducible refine gate_dst (N := 19) rfl ?_); refine Kd.R_make (Kd.int .i64) _ 3 rfl (N := 19) rfl 22 _ _ rfl (l0.length : Int) rfl rfl Try.underlying22 (.int .i64 0) 8 info3 rfl (by decide) (by omega) 0 (ok := fun _ => True) (okp := fun _ => True) rfl (fun _ hk => hk) trivial (of_decide_eq_true (by first | (with_reducible assumption) | assumption)) (Nat.le_trans (Nat.mul_le_mul_right _ (of_decide_eq_true (by first | (with_reducible assumption) | assumption) : (l0.length : Int).toNat ≤ 35184372088832)) (by omega)) (Below.refl _ _) (Nat.le_refl _) ?_; intro v325 w9 ho10 hb hg_ hnew_; clear hg_ hnew_; (first | rw [← Ny324.out] at ho10 | (simp only [Int.reduceToNat] at ho10; rw [← Ny324.out] at ho10)); have n0_ := Aside0.mk (Kd.R_lower ho10 (below_size (by repeat (first | (with_reducible first | exact HB.out | apply below_alloc | apply pw_below_drewN | apply below_drew1) | exact HB.out)))); have n1_ := Aside0.mk (below_step (by repeat (first | (with_reducible first | exact HB.out | apply below_alloc | apply pw_below_drewN | apply below_drew1) | exact HB.out)) hb); clear HB; have HO326 := n0_; have HB := n1_; clear n0_ n1_; clear hb ho10))
      go_loopg [14] k (fun kq v14 w' => ∃ (x13_1 : List Int) (x14_1 : Int), v14 = .int .i64 x14_1 ∧ Aside0 (reefref12_Load.l0 kq l0 l1 a2 a3 a4 a5 x13_1 x14_1 = some r) ∧ Aside0 (kq ≤ k) ∧ Aside0 (Kd.R (Kd.int .i64) 3 w' w.heap.size (fun _ => True) v325 x13_1) ∧ Aside0 (Below w.heap.size w w'))
      case atStart => exact ⟨(y324), (0), (by first | rfl | (simp; done) | (simp [*]; done)), H', ⟨Nat.le_refl _⟩, ⟨by (with_reducible repeat (first | apply Kd.R_alloc | apply Kd.R_drewN | apply Kd.R_drew)); exact HO326.out⟩, ⟨by repeat (first | (with_reducible first | exact HB.out | apply below_alloc | apply pw_below_drewN | apply below_drew1) | exact HB.out)⟩⟩
      case round =>
        clear H'
        try clear c1
        try clear c2
        try clear p2
        try clear c7
        try clear c7b0
        try clear c7b1
        try clear c8
        try clear c8b0
        try clear c8b1
        obtain ⟨x13_1, x14_1, rfl, HA, HK1, HO_13, HB⟩ := hrel
        cases gk with
        | zero => exact absurd HA.out (by simp [reefref12_Load.l0])
        | succ k1 =>
          have H := HA.out
          clear HA
          simp only [reefref12_Load.l0] at H
          replace H := Option.bind_eq_some_iff.mp H
          obtain ⟨t327, A110, H⟩ := H
          replace H : (if x14_1 < t327 then ((reefref12_Place.f k1 l0 l1 ((a2 + ((x14_1) % 4294967296)) % 4294967296) a4 a5).bind fun t328 => (reefref12_Load.l1 k1 l0 l1 a2 a3 a4 a5 x13_1 x14_1 t328 0)) else (some x13_1)) = some r := H
          have A11 := Aside0.mk A110
          clear A110
          by_cases c12 : x14_1 < t327
          · rw [if_pos c12] at H
            have c12b0 : decide (x14_1 < t327) = true := decide_eq_true c12
            clear c12
            replace H := Option.bind_eq_some_iff.mp H
            obtain ⟨t328, A130, H⟩ := H
            replace H : (reefref12_Load.l1 k1 l0 l1 a2 a3 a4 a5 x13_1 x14_1 t328 0) = some r := H
            have A13 := Aside0.mk A130
            clear A130
            have H' := Aside0.mk H
            clear H
            go_wp2_with (first | ((with_reducible refine gate_callee (f := 38) rfl ?_); refine goesL_ (some 22) rfl rfl Try.func38 (by kernel_rfl) rfl #[.int .i64 a3] rfl (by (try simp only [List.map_toArray, List.map_cons, List.map_nil]); first | done | rfl | (simp only [List.length_drop, List.length_take]; rfl)) ?_; (with_reducible refine (reefref12_many.calls a3 t327 _ A11.out).mono ?_); rintro e w14 ⟨rfl, hb⟩; refine ⟨_, rfl, ?_⟩; have n0_ := Aside0.mk (Kd.R_below (by (with_reducible repeat (first | apply Kd.R_alloc | apply Kd.R_drewN | apply Kd.R_drew)); exact HO_13.out) hb); have n1_ := Aside0.mk (below_step (by repeat (first | (with_reducible first | exact HB.out | apply below_alloc | apply pw_below_drewN | apply below_drew1) | exact HB.out)) hb); clear HO_13; clear HB; have HO_13 := n0_; have HB := n1_; clear n0_ n1_; (try clear hb); (try clear hb2); (try clear hk); (try clear hi)) | ((with_reducible refine gate_callee (f := 16) rfl ?_); refine goesL_ (some 34) rfl rfl Try.func16 (by kernel_rfl) rfl #[.slice A0 l0.length c0, .slice A1 l1.length c1, .int .u32 ((a2 + ((x14_1) % 4294967296)) % 4294967296), .int .i64 a4, .int .i64 a5] rfl (by (try simp only [List.map_toArray, List.map_cons, List.map_nil]); first | done | rfl | (simp only [List.length_drop, List.length_take]; rfl)) ?_; (with_reducible refine (reefref12_Place.calls k1 _ _ l0 _ _ l1 ((a2 + ((x14_1) % 4294967296)) % 4294967296) a4 a5 t328 _ ?side1 ?side2 ?side3 ?side4 A13.out).mono ?_); (case side1 => repeat (first | exact (Kd.C_below HR0.out HB.out) | (with_reducible refine Kd.C_alloc ?_ _) | (with_reducible refine Kd.C_drewN ?_ _) | (with_reducible refine Kd.C_drew ?_))); (case side2 => exact HC0.out); (case side3 => repeat (first | exact (Kd.C_below HR1.out HB.out) | (with_reducible refine Kd.C_alloc ?_ _) | (with_reducible refine Kd.C_drewN ?_ _) | (with_reducible refine Kd.C_drew ?_))); (case side4 => exact HC1.out); rintro e w15 ⟨v329, rfl, ho0, hb⟩; refine ⟨_, rfl, ?_⟩; have n0_ := Aside0.mk (Kd.R_elder' (by (with_reducible repeat (first | apply Kd.R_alloc | apply Kd.R_drewN | apply Kd.R_drew)); exact HO_13.out) (Kd.R_base ho0) hb); have n1_ := Aside0.mk (Kd.R_lower (Kd.R_new' ho0 (Kd.R_lt (by (with_reducible repeat (first | apply Kd.R_alloc | apply Kd.R_drewN | apply Kd.R_drew)); exact HO_13.out))) (below_size (by repeat (first | (with_reducible first | exact HB.out | apply below_alloc | apply pw_below_drewN | apply below_drew1) | exact HB.out)))); have n2_ := Aside0.mk (below_step (by repeat (first | (with_reducible first | exact HB.out | apply below_alloc | apply pw_below_drewN | apply below_drew1) | exact HB.out)) hb); clear HO_13; clear HB; have HO_13 := n0_; have HO330 := n1_; have HB := n2_; clear n0_ n1_ n2_; (try clear hb); (try clear hb2); (try clear hk); (try clear hi); (try clear ho0)))
            go_loopg [16] k1 (fun kq v16 w' => ∃ (x13_2 : List Int) (x16_2 : Int), v16 = .int .i64 x16_2 ∧ Aside0 (reefref12_Load.l1 kq l0 l1 a2 a3 a4 a5 x13_2 x14_1 t328 x16_2 = some r) ∧ Aside0 (kq ≤ k1) ∧ Aside0 (Kd.R (Kd.int .i64) 3 w' w.heap.size (fun k_ => some k_ ≠ (v329 : Value).ownBlock) v325 x13_2) ∧ Aside0 (Kd.R (Kd.int .i64) 3 w' w.heap.size (fun k_ => some k_ ≠ (v325 : Value).ownBlock) v329 t328) ∧ Aside0 (Below w.heap.size w w'))
            case atStart => exact ⟨(x13_1), (0), (by first | rfl | (simp; done) | (simp [*]; done)), H', ⟨Nat.le_refl _⟩, ⟨by (with_reducible repeat (first | apply Kd.R_alloc | apply Kd.R_drewN | apply Kd.R_drew)); exact Kd.R_mono HO_13.out (fun _ hk => hk.2)⟩, ⟨by (with_reducible repeat (first | apply Kd.R_alloc | apply Kd.R_drewN | apply Kd.R_drew)); exact Kd.R_mono HO330.out (fun _ hk => hk.2)⟩, ⟨by repeat (first | (with_reducible first | exact HB.out | apply below_alloc | apply pw_below_drewN | apply below_drew1) | exact HB.out)⟩⟩
            case round =>
              clear H'
              try clear c1
              try clear c2
              try clear p2
              try clear c3
              try clear c7
              try clear c7b0
              try clear c7b1
              try clear c8
              try clear c8b0
              try clear c8b1
              try clear c12
              try clear c12b0
              try clear p2
              obtain ⟨x13_2, x16_2, rfl, HA, HK2, HO_13, HO_15, HB⟩ := hrel
              cases gk with
              | zero => exact absurd HA.out (by simp [reefref12_Load.l1])
              | succ k2 =>
                have H := HA.out
                clear HA
                simp only [reefref12_Load.l1] at H
                by_cases c16 : x16_2 < (t328.length : Int)
                · rw [if_pos c16] at H
                  have c16b0 : decide (x16_2 < (t328.length : Int)) = true := decide_eq_true c16
                  clear c16
                  by_cases c17 : 0 ≤ x16_2
                  · rw [if_pos c17] at H
                    have c17b0 : decide (0 ≤ x16_2) = true := decide_eq_true c17
                    clear c17
                    by_cases c18 : 0 ≤ (rd t328 x16_2)
                    · rw [if_pos c18] at H
                      have c18b0 : decide (0 ≤ (rd t328 x16_2)) = true := decide_eq_true c18
                      clear c18
                      by_cases c19 : (rd t328 x16_2) < (x13_2.length : Int)
                      · rw [if_pos c19] at H
                        have c19b0 : decide ((rd t328 x16_2) < (x13_2.length : Int)) = true := decide_eq_true c19
                        clear c19
                        obtain ⟨y333, hy333⟩ : ∃ y_ : List Int, y_ = (x13_2.set ((rd t328 x16_2) : Int).toNat (wrap64 ((rd x13_2 (rd t328 x16_2)) + 1))) := ⟨_, rfl⟩
                        replace H : (reefref12_Load.l1 k2 l0 l1 a2 a3 a4 a5 y333 x14_1 t328 (wrap64 (x16_2 + 1))) = some r := by first | (rw [hy333]; with_reducible exact H) | (have H2_ := (Option.bind_some _ _).symm.trans H; rw [hy333]; with_reducible exact H2_) | (have H2_ := (Option.bind_some _ _).symm.trans H; with_reducible exact H2_) | with_reducible exact H | (rw [hy333]; exact H) | exact H
                        have Ny333 := Aside0.mk hy333
                        clear hy333
                        have H' := Aside0.mk H
                        clear H
                        obtain ⟨Ao21, co21, eo21⟩ := Kd.R_slice HO_15.out
                        subst eo21
                        have p331 : 0 ≤ (x16_2 : Int) := of_decide_eq_true (by first | (with_reducible assumption) | assumption)
                        have q331 : x16_2 < (t328.length : Int) := of_decide_eq_true (by first | (with_reducible assumption) | assumption)
                        obtain ⟨ad331, e331, hx331_0⟩ := Kd.at_int (Kd.R_reads' HO_15.out).2.2 x16_2 p331 q331
                        cases e331
                        replace p331 := eq_true p331
                        replace q331 := eq_true q331
                        obtain ⟨Ao22, co22, eo22⟩ := Kd.R_slice HO_13.out
                        subst eo22
                        have p332 : 0 ≤ ((rd t328 x16_2) : Int) := of_decide_eq_true (by first | (with_reducible assumption) | assumption)
                        have q332 : (rd t328 x16_2) < (x13_2.length : Int) := of_decide_eq_true (by first | (with_reducible assumption) | assumption)
                        obtain ⟨ad332, e332, hx332_0⟩ := Kd.at_int (Kd.R_reads' HO_13.out).2.2 (rd t328 x16_2) p332 q332
                        cases e332
                        replace p332 := eq_true p332
                        replace q332 := eq_true q332
                        have p20 : 0 ≤ ((rd t328 x16_2) : Int) := of_decide_eq_true (by first | (with_reducible assumption) | assumption)
                        have q20 : ((rd t328 x16_2) : Int) < ((x13_2.length : Int) : Int) := of_decide_eq_true (by first | (with_reducible assumption) | assumption)
                        obtain ⟨go20, co20, eo20, gb20, gl20, cl20, HG20⟩ := Kd.R_form HO_13.out (by omega)
                        (first | cases eo20 | (injection eo20 with ea_ en_ ec_; (first | subst ea_ | (injection ea_ with ea_; subst ea_)); subst ec_; clear en_))
                        have GB20 := Aside0.mk gb20
                        have GG20 := Aside0.mk HG20
                        clear gb20 gl20 HG20
                        (first | simp only [add_plain] at hx332_0 | skip)
                        obtain ⟨hx20_0, hf20_0⟩ := Kd.R_celln 0 HO_13.out ((rd t328 x16_2) : Int) p20 q20
                        replace p20 := eq_true p20
                        replace q20 := eq_true q20
                        have HP23 := Kd.R_putg HO_13.out ((rd t328 x16_2) : Int) (wrap64 ((rd x13_2 (rd t328 x16_2)) + 1))
                        go_wp2_with (first | ((with_reducible refine gate_store (t := 3) (p := 49) rfl ?_); refine store_event (t := 3) (p := 49) (v := ?vo_w24) (w1 := (wr.setCell ⟨go20, ((rd t328 x16_2) : Int).toNat, none⟩ (.int .i64 (wrap64 ((rd x13_2 (rd t328 x16_2)) + 1))))) ?hg ?ho ?hn ?hr ?_; (case ho => rfl); (case hg => rfl); (case hn => rfl); (case hr => first | (go_simp; done) | (go_simp; rfl)); intro w24 hw; have hg : wr.grownBy w24 (some go20) := (by rw [hw]; exact HP23.2); have hp_ : Kd.R (Kd.int .i64) 3 w24 w.heap.size (fun k_ => some k_ ≠ (.slice (some ad331) t328.length co21 : Value).ownBlock) (.slice (some ⟨go20, 0, none⟩) x13_2.length co22) y333 := (by rw [hw, Ny333.out]; exact HP23.1); clear HP23; have n0_ := Aside0.mk (hp_); have n1_ := Aside0.mk (Kd.R_after (v := (.slice (some ⟨go20, 0, none⟩) x13_2.length co22)) (v1 := (.slice (some ⟨go20, 0, none⟩) x13_2.length co22)) (ok := (fun _ => True)) (by (with_reducible repeat (first | apply Kd.R_alloc | apply Kd.R_drewN | apply Kd.R_drew)); exact Kd.R_mono HO_15.out (fun _ hk => ⟨trivial, hk⟩)) hg (.inl rfl)); have n2_ := Aside0.mk ((by rw [hw]; exact below_set (HB.out) GB20.out : Below w.heap.size w w24)); clear HO_13; clear HO_15; clear HB; have HO_13 := n0_; have HO_15 := n1_; have HB := n2_; clear n0_ n1_ n2_; clear hg hw hp_))
                        go_roundg k2
                        case measure => have := HK1.out; have := HK2.out; omega
                        case rel => exact ⟨(y333), (wrap64 (x16_2 + 1)), (by first | rfl | (simp; done) | (simp [*]; done)), H', ⟨by have := HK1.out; have := HK2.out; omega⟩, ⟨by (with_reducible repeat (first | apply Kd.R_alloc | apply Kd.R_drewN | apply Kd.R_drew)); exact HO_13.out⟩, ⟨by (with_reducible repeat (first | apply Kd.R_alloc | apply Kd.R_drewN | apply Kd.R_drew)); exact Kd.R_mono HO_15.out (fun _ hk => hk.2)⟩, ⟨by repeat (first | (with_reducible first | exact HB.out | apply below_alloc | apply pw_below_drewN | apply below_drew1) | exact HB.out)⟩⟩
                      · rw [if_neg c19] at H
                        exact absurd H (by simp)
                    · rw [if_neg c18] at H
                      exact absurd H (by simp)
                  · rw [if_neg c17] at H
                    exact absurd H (by simp)
                · rw [if_neg c16] at H
                  have c16b0 : decide (x16_2 < (t328.length : Int)) = false := decide_eq_false c16
                  clear c16
                  have H' := Aside0.mk H
                  clear H
                  obtain ⟨Ao25, co25, eo25⟩ := Kd.R_slice HO_15.out
                  subst eo25
                  go_wp2
                  go_roundg k2
                  case measure => have := HK1.out; have := HK2.out; omega
                  case rel => exact ⟨(x13_2), (wrap64 (x14_1 + 1)), (by first | rfl | (simp; done) | (simp [*]; done)), H', ⟨by have := HK1.out; have := HK2.out; omega⟩, ⟨by (with_reducible repeat (first | apply Kd.R_alloc | apply Kd.R_drewN | apply Kd.R_drew)); exact Kd.R_mono HO_13.out (fun _ hk => trivial)⟩, ⟨by repeat (first | (with_reducible first | exact HB.out | apply below_alloc | apply pw_below_drewN | apply below_drew1) | exact HB.out)⟩⟩
          · rw [if_neg c12] at H
            have c12b0 : decide (x14_1 < t327) = false := decide_eq_false c12
            clear c12
            obtain rfl := Option.some.inj H
            go_wp2_with (first | ((with_reducible refine gate_callee (f := 38) rfl ?_); refine goesL_ (some 22) rfl rfl Try.func38 (by kernel_rfl) rfl #[.int .i64 a3] rfl (by (try simp only [List.map_toArray, List.map_cons, List.map_nil]); first | done | rfl | (simp only [List.length_drop, List.length_take]; rfl)) ?_; (with_reducible refine (reefref12_many.calls a3 t327 _ A11.out).mono ?_); rintro e w26 ⟨rfl, hb⟩; refine ⟨_, rfl, ?_⟩; have n0_ := Aside0.mk (Kd.R_below (by (with_reducible repeat (first | apply Kd.R_alloc | apply Kd.R_drewN | apply Kd.R_drew)); exact HO_13.out) hb); have n1_ := Aside0.mk (below_step (by repeat (first | (with_reducible first | exact HB.out | apply below_alloc | apply pw_below_drewN | apply below_drew1) | exact HB.out)) hb); clear HO_13; clear HB; have HO_13 := n0_; have HB := n1_; clear n0_ n1_; (try clear hb); (try clear hb2); (try clear hk); (try clear hi)))
            go_ret
            exact ⟨_, by first | rfl | (simp [errW_none, errW_some] <;> rfl) | (simp [*, errW_none, errW_some] <;> rfl), by (with_reducible repeat (first | apply Kd.R_alloc | apply Kd.R_drewN | apply Kd.R_drew)); exact HO_13.out, by repeat (first | (with_reducible first | exact HB.out | apply below_alloc | apply pw_below_drewN | apply below_drew1) | exact HB.out)⟩
    · rw [if_neg c8] at H
      exact absurd H (by simp)
  · rw [if_neg c7] at H
    exact absurd H (by simp)
end Go.Proofs.Ytbaldkcnipmdjaa.P
namespace Go.Proofs.Ytbaldkcnipmdjaa.P
open Go.RowKit Go.Proofs.YtbaldkcnipmdjaaW.PrintWords Go.Proofs.YtbaldkcnipmdjaaW.PrintLast Go.Proofs.YtbaldkcnipmdjaaW.PrintMore
attribute [local go_sem] max2_int min2_int max_two min_two max_three min_three max_four min_four
set_option linter.unusedVariables false
set_option linter.unusedSimpArgs false
mutual
def rule_Moves.l0 : Nat → List Int → List Int → List Int → Int → Int → Int → Int → Int → Int → Option (Int)
  | 0, _, _, _, _, _, _, _, _, _ => none
  | k + 1, x0, x1, x2, x3, x5, x6, x15, x22, x23 => if x23 < x22 then ((rule_Place.f x0 x1 ((x3 + ((x23) % 4294967296)) % 4294967296) x5 x6).bind fun t150 => ((rule_Place.f x0 x2 ((x3 + ((x23) % 4294967296)) % 4294967296) x5 x6).bind fun t153 => (rule_Moves.l1 k x0 x1 x2 x3 x5 x6 x15 t150 x22 x23 t153 (t153.length : Int) 0))) else (some x15)
def rule_Moves.l1 : Nat → List Int → List Int → List Int → Int → Int → Int → Int → List Int → Int → Int → List Int → Int → Int → Option (Int)
  | 0, _, _, _, _, _, _, _, _, _, _, _, _, _ => none
  | k + 1, x0, x1, x2, x3, x5, x6, x15, x17, x22, x23, x43, x44, x45 => if x45 < x44 then (if 0 ≤ x45 then (if x45 < (x43.length : Int) then ((slices_Contains_int_int.f k x17 (rd x43 x45)).bind fun t157 => (if t157 = true then (rule_Moves.l1 k x0 x1 x2 x3 x5 x6 x15 x17 x22 x23 x43 x44 (wrap64 (x45 + 1))) else (rule_Moves.l1 k x0 x1 x2 x3 x5 x6 (wrap64 (x15 + 1)) x17 x22 x23 x43 x44 (wrap64 (x45 + 1))))) else (none)) else (none)) else (rule_Moves.l0 k x0 x1 x2 x3 x5 x6 x15 x22 (wrap64 (x23 + 1)))
end
def rule_Moves.f (k : Nat) (l0 : List Int) (l1 : List Int) (l2 : List Int) (a3 : Int) (a4 : Int) (a5 : Int) (a6 : Int) : Option (Int) := rule_Moves.l0 k l0 l1 l2 a3 a5 a6 0 (mn (mx a4 0) 2000) 0
set_option maxHeartbeats 8000000 in
set_option maxRecDepth 100000 in
theorem rule_Moves.calls (k : Nat) (A0 : Option Addr) (c0 : Nat) (l0 : List Int) (A1 : Option Addr) (c1 : Nat) (l1 : List Int) (A2 : Option Addr) (c2 : Nat) (l2 : List Int) (a3 : Int) (a4 : Int) (a5 : Int) (a6 : Int) (r : Int) (w : World) (hr0 : Kd.C (Kd.int .i64) w A0 l0.length l0) (hc0 : l0.length ≤ c0) (hr1 : Kd.C (Kd.int .i64) w A1 l1.length l1) (hc1 : l1.length ≤ c1) (hr2 : Kd.C (Kd.int .i64) w A2 l2.length l2) (hc2 : l2.length ≤ c2) (h : rule_Moves.f k l0 l1 l2 a3 a4 a5 a6 = some r) :
    Calls Try.prog 24 #[.slice A0 l0.length c0, .slice A1 l1.length c1, .slice A2 l2.length c2, .int .u32 a3, .int .i64 a4, .int .i64 a5, .int .i64 a6] w fun e w' => e = .returned (.int .i64 r) ∧ Below w.heap.size w w' := by
  have HR0 := Aside0.mk hr0
  have HC0 := Aside0.mk hc0
  clear hr0 hc0
  have HR1 := Aside0.mk hr1
  have HC1 := Aside0.mk hc1
  clear hr1 hc1
  have HR2 := Aside0.mk hr2
  have HC2 := Aside0.mk hc2
  clear hr2 hc2
  have HB := Aside0.mk (Below.refl w.heap.size w)
  have H : (rule_Moves.l0 k l0 l1 l2 a3 a5 a6 0 (mn (mx a4 0) 2000) 0) = some r := h
  clear h
  obtain ⟨ji8, hji8⟩ : ∃ j_ : Int, (mx a4 0) = j_ := ⟨_, rfl⟩
  replace H : (rule_Moves.l0 k l0 l1 l2 a3 a5 a6 0 (mn (ji8) 2000) 0) = some r := by first | (rw [hji8] at H; exact H) | (simp only [hji8] at H ⊢; exact H)
  (try (have hji8l : 0 ≤ ji8 := by (rw [← hji8]; unfold mx; (repeat' split) <;> omega)))
  (try (have hji8m : 0 ≤ ji8 := by omega))
  have hji8_ : (if a4 < 0 then 0 else a4) = ji8 := hji8
  obtain ⟨ji9, hji9⟩ : ∃ j_ : Int, (mn (ji8) 2000) = j_ := ⟨_, rfl⟩
  replace H : (rule_Moves.l0 k l0 l1 l2 a3 a5 a6 0 ji9 0) = some r := by first | (rw [hji9] at H; exact H) | (simp only [hji9] at H ⊢; exact H)
  have hji9_ : (if 2000 < (ji8) then 2000 else (ji8)) = ji9 := hji9
  have H' := Aside0.mk H
  clear H
  go_enter Try.func24, Try.ntmps24
  go_wp2
  go_loopg [15, 23] k (fun kq v15 v23 w' => ∃ (x15_1 : Int) (x23_1 : Int), v15 = .int .i64 x15_1 ∧ v23 = .int .i64 x23_1 ∧ Aside0 (rule_Moves.l0 kq l0 l1 l2 a3 a5 a6 x15_1 ji9 x23_1 = some r) ∧ Aside0 (kq ≤ k) ∧ Aside0 (Below w.heap.size w w'))
  case atStart => exact ⟨(0), (0), (by first | rfl | (simp; done) | (simp [*]; done)), (by first | rfl | (simp; done) | (simp [*]; done)), H', ⟨Nat.le_refl _⟩, ⟨by repeat (first | (with_reducible first | exact HB.out | apply below_alloc | apply pw_below_drewN | apply below_drew1) | exact HB.out)⟩⟩
  case round =>
    clear H'
    try clear c1
    try clear c2
    try clear p2
    obtain ⟨x15_1, x23_1, rfl, rfl, HA, HK1, HB⟩ := hrel
    cases gk with
    | zero => exact absurd HA.out (by simp [rule_Moves.l0])
    | succ k1 =>
      have H := HA.out
      clear HA
      simp only [rule_Moves.l0] at H
      by_cases c10 : x23_1 < ji9
      · rw [if_pos c10] at H
        have c10b0 : decide (x23_1 < ji9) = true := decide_eq_true c10
        clear c10
        replace H := Option.bind_eq_some_iff.mp H
        obtain ⟨t150, A110, H⟩ := H
        replace H : ((rule_Place.f l0 l2 ((a3 + ((x23_1) % 4294967296)) % 4294967296) a5 a6).bind fun t153 => (rule_Moves.l1 k1 l0 l1 l2 a3 a5 a6 x15_1 t150 ji9 x23_1 t153 (t153.length : Int) 0)) = some r := H
        have A11 := Aside0.mk A110
        clear A110
        replace H := Option.bind_eq_some_iff.mp H
        obtain ⟨t153, A120, H⟩ := H
        replace H : (rule_Moves.l1 k1 l0 l1 l2 a3 a5 a6 x15_1 t150 ji9 x23_1 t153 (t153.length : Int) 0) = some r := H
        have A12 := Aside0.mk A120
        clear A120
        have H' := Aside0.mk H
        clear H
        go_wp2_with (first | ((with_reducible refine gate_callee (f := 15) rfl ?_); refine goesL_ (some 34) rfl rfl Try.func15 (by kernel_rfl) rfl #[.slice A0 l0.length c0, .slice A1 l1.length c1, .int .u32 ((a3 + ((x23_1) % 4294967296)) % 4294967296), .int .i64 a5, .int .i64 a6] rfl (by (try simp only [List.map_toArray, List.map_cons, List.map_nil]); first | done | rfl | (simp only [List.length_drop, List.length_take]; rfl)) ?_; (with_reducible refine (rule_Place.calls _ _ l0 _ _ l1 ((a3 + ((x23_1) % 4294967296)) % 4294967296) a5 a6 t150 _ ?side1 ?side2 ?side3 ?side4 A11.out).mono ?_); (case side1 => repeat (first | exact (Kd.C_below HR0.out HB.out) | (with_reducible refine Kd.C_alloc ?_ _) | (with_reducible refine Kd.C_drewN ?_ _) | (with_reducible refine Kd.C_drew ?_))); (case side2 => exact HC0.out); (case side3 => repeat (first | exact (Kd.C_below HR1.out HB.out) | (with_reducible refine Kd.C_alloc ?_ _) | (with_reducible refine Kd.C_drewN ?_ _) | (with_reducible refine Kd.C_drew ?_))); (case side4 => exact HC1.out); rintro e w13 ⟨v151, rfl, ho0, hb⟩; refine ⟨_, rfl, ?_⟩; have n0_ := Aside0.mk (Kd.R_lower ho0 (below_size (by repeat (first | (with_reducible first | exact HB.out | apply below_alloc | apply pw_below_drewN | apply below_drew1) | exact HB.out)))); have n1_ := Aside0.mk (below_step (by repeat (first | (with_reducible first | exact HB.out | apply below_alloc | apply pw_below_drewN | apply below_drew1) | exact HB.out)) hb); clear HB; have HO152 := n0_; have HB := n1_; clear n0_ n1_; (try clear hb); (try clear hb2); (try clear hk); (try clear hi); (try clear ho0)) | ((with_reducible refine gate_callee (f := 15) rfl ?_); refine goesL_ (some 43) rfl rfl Try.func15 (by kernel_rfl) rfl #[.slice A0 l0.length c0, .slice A2 l2.length c2, .int .u32 ((a3 + ((x23_1) % 4294967296)) % 4294967296), .int .i64 a5, .int .i64 a6] rfl (by (try simp only [List.map_toArray, List.map_cons, List.map_nil]); first | done | rfl | (simp only [List.length_drop, List.length_take]; rfl)) ?_; (with_reducible refine (rule_Place.calls _ _ l0 _ _ l2 ((a3 + ((x23_1) % 4294967296)) % 4294967296) a5 a6 t153 _ ?side1 ?side2 ?side3 ?side4 A12.out).mono ?_); (case side1 => repeat (first | exact (Kd.C_below HR0.out HB.out) | (with_reducible refine Kd.C_alloc ?_ _) | (with_reducible refine Kd.C_drewN ?_ _) | (with_reducible refine Kd.C_drew ?_))); (case side2 => exact HC0.out); (case side3 => repeat (first | exact (Kd.C_below HR2.out HB.out) | (with_reducible refine Kd.C_alloc ?_ _) | (with_reducible refine Kd.C_drewN ?_ _) | (with_reducible refine Kd.C_drew ?_))); (case side4 => exact HC2.out); rintro e w14 ⟨v154, rfl, ho0, hb⟩; refine ⟨_, rfl, ?_⟩; have n0_ := Aside0.mk (Kd.R_elder' (by (with_reducible repeat (first | apply Kd.R_alloc | apply Kd.R_drewN | apply Kd.R_drew)); exact HO152.out) (Kd.R_base ho0) hb); have n1_ := Aside0.mk (Kd.R_lower (Kd.R_new' ho0 (Kd.R_lt (by (with_reducible repeat (first | apply Kd.R_alloc | apply Kd.R_drewN | apply Kd.R_drew)); exact HO152.out))) (below_size (by repeat (first | (with_reducible first | exact HB.out | apply below_alloc | apply pw_below_drewN | apply below_drew1) | exact HB.out)))); have n2_ := Aside0.mk (below_step (by repeat (first | (with_reducible first | exact HB.out | apply below_alloc | apply pw_below_drewN | apply below_drew1) | exact HB.out)) hb); clear HO152; clear HB; have HO152 := n0_; have HO155 := n1_; have HB := n2_; clear n0_ n1_ n2_; (try clear hb); (try clear hb2); (try clear hk); (try clear hi); (try clear ho0); obtain ⟨Ao15, co15, eo15⟩ := Kd.R_slice HO155.out; subst eo15))
        go_loopg [15, 45] k1 (fun kq v15 v45 w' => ∃ (x15_2 : Int) (x45_2 : Int), v15 = .int .i64 x15_2 ∧ v45 = .int .i64 x45_2 ∧ Aside0 (rule_Moves.l1 kq l0 l1 l2 a3 a5 a6 x15_2 t150 ji9 x23_1 t153 (t153.length : Int) x45_2 = some r) ∧ Aside0 (kq ≤ k1) ∧ Aside0 (Kd.R (Kd.int .i64) 3 w' w.heap.size (fun k_ => some k_ ≠ ((.slice Ao15 t153.length co15) : Value).ownBlock) v151 t150) ∧ Aside0 (Kd.R (Kd.int .i64) 3 w' w.heap.size (fun k_ => some k_ ≠ (v151 : Value).ownBlock) (.slice Ao15 t153.length co15) t153) ∧ Aside0 (Below w.heap.size w w'))
        case atStart => exact ⟨(x15_1), (0), (by first | rfl | (simp; done) | (simp [*]; done)), (by first | rfl | (simp; done) | (simp [*]; done)), H', ⟨Nat.le_refl _⟩, ⟨by (with_reducible repeat (first | apply Kd.R_alloc | apply Kd.R_drewN | apply Kd.R_drew)); exact Kd.R_mono HO152.out (fun _ hk => hk.2)⟩, ⟨by (with_reducible repeat (first | apply Kd.R_alloc | apply Kd.R_drewN | apply Kd.R_drew)); exact Kd.R_mono HO155.out (fun _ hk => hk.2)⟩, ⟨by repeat (first | (with_reducible first | exact HB.out | apply below_alloc | apply pw_below_drewN | apply below_drew1) | exact HB.out)⟩⟩
        case round =>
          clear H'
          try clear c1
          try clear c2
          try clear p2
          try clear c10
          try clear c10b0
          try clear c15
          try clear p2
          obtain ⟨x15_2, x45_2, rfl, rfl, HA, HK2, HO_17, HO_43, HB⟩ := hrel
          cases gk with
          | zero => exact absurd HA.out (by simp [rule_Moves.l1])
          | succ k2 =>
            have H := HA.out
            clear HA
            simp only [rule_Moves.l1] at H
            by_cases c16 : x45_2 < (t153.length : Int)
            · rw [if_pos c16] at H
              have c16b0 : decide (x45_2 < (t153.length : Int)) = true := decide_eq_true c16
              clear c16
              by_cases c17 : 0 ≤ x45_2
              · rw [if_pos c17] at H
                have c17b0 : decide (0 ≤ x45_2) = true := decide_eq_true c17
                clear c17
                by_cases c18 : x45_2 < (t153.length : Int)
                · rw [if_pos c18] at H
                  have c18b0 : decide (x45_2 < (t153.length : Int)) = true := decide_eq_true c18
                  clear c18
                  replace H := Option.bind_eq_some_iff.mp H
                  obtain ⟨t157, A190, H⟩ := H
                  replace H : (if t157 = true then (rule_Moves.l1 k2 l0 l1 l2 a3 a5 a6 x15_2 t150 ji9 x23_1 t153 (t153.length : Int) (wrap64 (x45_2 + 1))) else (rule_Moves.l1 k2 l0 l1 l2 a3 a5 a6 (wrap64 (x15_2 + 1)) t150 ji9 x23_1 t153 (t153.length : Int) (wrap64 (x45_2 + 1)))) = some r := H
                  have A19 := Aside0.mk A190
                  clear A190
                  by_cases c20 : t157 = true
                  · subst c20
                    have H1 : (rule_Moves.l1 k2 l0 l1 l2 a3 a5 a6 x15_2 t150 ji9 x23_1 t153 (t153.length : Int) (wrap64 (x45_2 + 1))) = some r := by rw [if_pos rfl] at H; exact H
                    clear H
                    have H := H1
                    clear H1
                    have H' := Aside0.mk H
                    clear H
                    have p156 : 0 ≤ (x45_2 : Int) := of_decide_eq_true (by first | (with_reducible assumption) | assumption)
                    have q156 : x45_2 < (t153.length : Int) := of_decide_eq_true (by first | (with_reducible assumption) | assumption)
                    obtain ⟨ad156, e156, hx156_0⟩ := Kd.at_int (Kd.R_reads' HO_43.out).2.2 x45_2 p156 q156
                    cases e156
                    replace p156 := eq_true p156
                    replace q156 := eq_true q156
                    obtain ⟨Ao21, co21, eo21⟩ := Kd.R_slice HO_17.out
                    subst eo21
                    go_wp2_with (first | ((with_reducible refine gate_callee (f := 37) rfl ?_); refine goesL_ (some 51) rfl rfl Try.func37 (by kernel_rfl) rfl #[.slice Ao21 t150.length co21, .int .i64 (rd t153 x45_2)] rfl (by (try simp only [List.map_toArray, List.map_cons, List.map_nil]); first | done | rfl | (simp only [List.length_drop, List.length_take]; rfl)) ?_; (with_reducible refine (slices_Contains_int_int.calls k2 _ _ t150 (rd t153 x45_2) true _ ?side1 ?side2 A19.out).mono ?_); (case side1 => repeat (first | exact (Kd.R_reads' HO_17.out).2.2 | (with_reducible refine Kd.C_alloc ?_ _) | (with_reducible refine Kd.C_drewN ?_ _) | (with_reducible refine Kd.C_drew ?_))); (case side2 => exact (Kd.R_reads' HO_17.out).2.1); rintro e w' ⟨rfl, ⟨nd, rfl⟩⟩; refine ⟨_, rfl, ?_⟩))
                    go_roundg k2
                    case measure => have := HK1.out; have := HK2.out; omega
                    case rel => exact ⟨(x15_2), (wrap64 (x45_2 + 1)), (by first | rfl | (simp; done) | (simp [*]; done)), (by first | rfl | (simp; done) | (simp [*]; done)), H', ⟨by have := HK1.out; have := HK2.out; omega⟩, ⟨by (with_reducible repeat (first | apply Kd.R_alloc | apply Kd.R_drewN | apply Kd.R_drew)); exact HO_17.out⟩, ⟨by (with_reducible repeat (first | apply Kd.R_alloc | apply Kd.R_drewN | apply Kd.R_drew)); exact HO_43.out⟩, ⟨by repeat (first | (with_reducible first | exact HB.out | apply below_alloc | apply pw_below_drewN | apply below_drew1) | exact HB.out)⟩⟩
                  · replace c20 := Bool.eq_false_iff.mpr c20
                    subst c20
                    have H1 : (rule_Moves.l1 k2 l0 l1 l2 a3 a5 a6 (wrap64 (x15_2 + 1)) t150 ji9 x23_1 t153 (t153.length : Int) (wrap64 (x45_2 + 1))) = some r := by rw [if_neg (show ¬ (false = true) by decide)] at H; exact H
                    clear H
                    have H := H1
                    clear H1
                    have H' := Aside0.mk H
                    clear H
                    have p156 : 0 ≤ (x45_2 : Int) := of_decide_eq_true (by first | (with_reducible assumption) | assumption)
                    have q156 : x45_2 < (t153.length : Int) := of_decide_eq_true (by first | (with_reducible assumption) | assumption)
                    obtain ⟨ad156, e156, hx156_0⟩ := Kd.at_int (Kd.R_reads' HO_43.out).2.2 x45_2 p156 q156
                    cases e156
                    replace p156 := eq_true p156
                    replace q156 := eq_true q156
                    obtain ⟨Ao22, co22, eo22⟩ := Kd.R_slice HO_17.out
                    subst eo22
                    go_wp2_with (first | ((with_reducible refine gate_callee (f := 37) rfl ?_); refine goesL_ (some 51) rfl rfl Try.func37 (by kernel_rfl) rfl #[.slice Ao22 t150.length co22, .int .i64 (rd t153 x45_2)] rfl (by (try simp only [List.map_toArray, List.map_cons, List.map_nil]); first | done | rfl | (simp only [List.length_drop, List.length_take]; rfl)) ?_; (with_reducible refine (slices_Contains_int_int.calls k2 _ _ t150 (rd t153 x45_2) false _ ?side1 ?side2 A19.out).mono ?_); (case side1 => repeat (first | exact (Kd.R_reads' HO_17.out).2.2 | (with_reducible refine Kd.C_alloc ?_ _) | (with_reducible refine Kd.C_drewN ?_ _) | (with_reducible refine Kd.C_drew ?_))); (case side2 => exact (Kd.R_reads' HO_17.out).2.1); rintro e w' ⟨rfl, ⟨nd, rfl⟩⟩; refine ⟨_, rfl, ?_⟩))
                    go_roundg k2
                    case measure => have := HK1.out; have := HK2.out; omega
                    case rel => exact ⟨(wrap64 (x15_2 + 1)), (wrap64 (x45_2 + 1)), (by first | rfl | (simp; done) | (simp [*]; done)), (by first | rfl | (simp; done) | (simp [*]; done)), H', ⟨by have := HK1.out; have := HK2.out; omega⟩, ⟨by (with_reducible repeat (first | apply Kd.R_alloc | apply Kd.R_drewN | apply Kd.R_drew)); exact HO_17.out⟩, ⟨by (with_reducible repeat (first | apply Kd.R_alloc | apply Kd.R_drewN | apply Kd.R_drew)); exact HO_43.out⟩, ⟨by repeat (first | (with_reducible first | exact HB.out | apply below_alloc | apply pw_below_drewN | apply below_drew1) | exact HB.out)⟩⟩
                · rw [if_neg c18] at H
                  exact absurd H (by simp)
              · rw [if_neg c17] at H
                exact absurd H (by simp)
            · rw [if_neg c16] at H
              have c16b0 : decide (x45_2 < (t153.length : Int)) = false := decide_eq_false c16
              clear c16
              have H' := Aside0.mk H
              clear H
              go_wp2
              go_roundg k2
              case measure => have := HK1.out; have := HK2.out; omega
              case rel => exact ⟨(x15_2), (wrap64 (x23_1 + 1)), (by first | rfl | (simp; done) | (simp [*]; done)), (by first | rfl | (simp; done) | (simp [*]; done)), H', ⟨by have := HK1.out; have := HK2.out; omega⟩, ⟨by repeat (first | (with_reducible first | exact HB.out | apply below_alloc | apply pw_below_drewN | apply below_drew1) | exact HB.out)⟩⟩
      · rw [if_neg c10] at H
        have c10b0 : decide (x23_1 < ji9) = false := decide_eq_false c10
        clear c10
        obtain rfl := Option.some.inj H
        go_wp2
        go_ret
        exact ⟨by first | rfl | (simp [errW_none, errW_some] <;> rfl) | (simp only [← hji8, ← hji9]; first | rfl | (simp [errW_none, errW_some] <;> rfl)) | (simp [*, errW_none, errW_some] <;> rfl), by repeat (first | (with_reducible first | exact HB.out | apply below_alloc | apply pw_below_drewN | apply below_drew1) | exact HB.out)⟩
end Go.Proofs.Ytbaldkcnipmdjaa.P
namespace Go.Proofs.Ytbaldkcnipmdjaa.P
open Go.RowKit Go.Proofs.YtbaldkcnipmdjaaW.PrintWords Go.Proofs.YtbaldkcnipmdjaaW.PrintLast Go.Proofs.YtbaldkcnipmdjaaW.PrintMore
attribute [local go_sem] max2_int min2_int max_two min_two max_three min_three max_four min_four
set_option linter.unusedVariables false
set_option linter.unusedSimpArgs false
mutual
def reefref12_Moves.l0 : Nat → List Int → List Int → List Int → Int → Int → Int → Int → Int → Int → Option (Int)
  | 0, _, _, _, _, _, _, _, _, _ => none
  | k + 1, x0, x1, x2, x3, x4, x5, x6, x15, x16 => (reefref12_many.f x4).bind fun t334 => (if x16 < t334 then ((reefref12_Place.f k x0 x1 ((x3 + ((x16) % 4294967296)) % 4294967296) x5 x6).bind fun t335 => ((reefref12_Place.f k x0 x2 ((x3 + ((x16) % 4294967296)) % 4294967296) x5 x6).bind fun t338 => (reefref12_Moves.l1 k x0 x1 x2 x3 x4 x5 x6 x15 x16 t335 t338 0))) else (some x15))
def reefref12_Moves.l1 : Nat → List Int → List Int → List Int → Int → Int → Int → Int → Int → Int → List Int → List Int → Int → Option (Int)
  | 0, _, _, _, _, _, _, _, _, _, _, _, _ => none
  | k + 1, x0, x1, x2, x3, x4, x5, x6, x15, x16, x17, x18, x19 => if x19 < (x18.length : Int) then (reefref12_Moves.l2 k x0 x1 x2 x3 x4 x5 x6 x15 x16 x17 x18 x19 false 0) else (reefref12_Moves.l0 k x0 x1 x2 x3 x4 x5 x6 x15 (wrap64 (x16 + 1)))
def reefref12_Moves.l2 : Nat → List Int → List Int → List Int → Int → Int → Int → Int → Int → Int → List Int → List Int → Int → Bool → Int → Option (Int)
  | 0, _, _, _, _, _, _, _, _, _, _, _, _, _, _ => none
  | k + 1, x0, x1, x2, x3, x4, x5, x6, x15, x16, x17, x18, x19, x20, x21 => if x21 < (x17.length : Int) then (if x20 = true then (reefref12_Moves.l2 k x0 x1 x2 x3 x4 x5 x6 x15 x16 x17 x18 x19 true (wrap64 (x21 + 1))) else (if 0 ≤ x21 then (if 0 ≤ x19 then (if x19 < (x18.length : Int) then (reefref12_Moves.l2 k x0 x1 x2 x3 x4 x5 x6 x15 x16 x17 x18 x19 ((rd x17 x21) == (rd x18 x19)) (wrap64 (x21 + 1))) else (none)) else (none)) else (none))) else (if x20 = true then (reefref12_Moves.l1 k x0 x1 x2 x3 x4 x5 x6 x15 x16 x17 x18 (wrap64 (x19 + 1))) else (reefref12_Moves.l1 k x0 x1 x2 x3 x4 x5 x6 (wrap64 (x15 + 1)) x16 x17 x18 (wrap64 (x19 + 1))))
end
def reefref12_Moves.f (k : Nat) (l0 : List Int) (l1 : List Int) (l2 : List Int) (a3 : Int) (a4 : Int) (a5 : Int) (a6 : Int) : Option (Int) := reefref12_Moves.l0 k l0 l1 l2 a3 a4 a5 a6 0 0
set_option maxHeartbeats 8000000 in
set_option maxRecDepth 100000 in
theorem reefref12_Moves.calls (k : Nat) (A0 : Option Addr) (c0 : Nat) (l0 : List Int) (A1 : Option Addr) (c1 : Nat) (l1 : List Int) (A2 : Option Addr) (c2 : Nat) (l2 : List Int) (a3 : Int) (a4 : Int) (a5 : Int) (a6 : Int) (r : Int) (w : World) (hr0 : Kd.C (Kd.int .i64) w A0 l0.length l0) (hc0 : l0.length ≤ c0) (hr1 : Kd.C (Kd.int .i64) w A1 l1.length l1) (hc1 : l1.length ≤ c1) (hr2 : Kd.C (Kd.int .i64) w A2 l2.length l2) (hc2 : l2.length ≤ c2) (h : reefref12_Moves.f k l0 l1 l2 a3 a4 a5 a6 = some r) :
    Calls Try.prog 25 #[.slice A0 l0.length c0, .slice A1 l1.length c1, .slice A2 l2.length c2, .int .u32 a3, .int .i64 a4, .int .i64 a5, .int .i64 a6] w fun e w' => e = .returned (.int .i64 r) ∧ Below w.heap.size w w' := by
  have HR0 := Aside0.mk hr0
  have HC0 := Aside0.mk hc0
  clear hr0 hc0
  have HR1 := Aside0.mk hr1
  have HC1 := Aside0.mk hc1
  clear hr1 hc1
  have HR2 := Aside0.mk hr2
  have HC2 := Aside0.mk hc2
  clear hr2 hc2
  have HB := Aside0.mk (Below.refl w.heap.size w)
  have H : (reefref12_Moves.l0 k l0 l1 l2 a3 a4 a5 a6 0 0) = some r := h
  clear h
  have H' := Aside0.mk H
  clear H
  go_enter Try.func25, Try.ntmps25
  go_wp2
  repeat (go_quiet (fail); try go_wp2)
  go_loopg [15, 16] k (fun kq v15 v16 w' => ∃ (x15_1 : Int) (x16_1 : Int), v15 = .int .i64 x15_1 ∧ v16 = .int .i64 x16_1 ∧ Aside0 (reefref12_Moves.l0 kq l0 l1 l2 a3 a4 a5 a6 x15_1 x16_1 = some r) ∧ Aside0 (kq ≤ k) ∧ Aside0 (Below w.heap.size w w'))
  case atStart => exact ⟨(0), (0), (by first | rfl | (simp; done) | (simp [*]; done)), (by first | rfl | (simp; done) | (simp [*]; done)), H', ⟨Nat.le_refl _⟩, ⟨by repeat (first | (with_reducible first | exact HB.out | apply below_alloc | apply pw_below_drewN | apply below_drew1) | exact HB.out)⟩⟩
  case round =>
    clear H'
    try clear c1
    try clear c2
    try clear p2
    obtain ⟨x15_1, x16_1, rfl, rfl, HA, HK1, HB⟩ := hrel
    cases gk with
    | zero => exact absurd HA.out (by simp [reefref12_Moves.l0])
    | succ k1 =>
      have H := HA.out
      clear HA
      simp only [reefref12_Moves.l0] at H
      replace H := Option.bind_eq_some_iff.mp H
      obtain ⟨t334, A80, H⟩ := H
      replace H : (if x16_1 < t334 then ((reefref12_Place.f k1 l0 l1 ((a3 + ((x16_1) % 4294967296)) % 4294967296) a5 a6).bind fun t335 => ((reefref12_Place.f k1 l0 l2 ((a3 + ((x16_1) % 4294967296)) % 4294967296) a5 a6).bind fun t338 => (reefref12_Moves.l1 k1 l0 l1 l2 a3 a4 a5 a6 x15_1 x16_1 t335 t338 0))) else (some x15_1)) = some r := H
      have A8 := Aside0.mk A80
      clear A80
      by_cases c9 : x16_1 < t334
      · rw [if_pos c9] at H
        have c9b0 : decide (x16_1 < t334) = true := decide_eq_true c9
        clear c9
        replace H := Option.bind_eq_some_iff.mp H
        obtain ⟨t335, A100, H⟩ := H
        replace H : ((reefref12_Place.f k1 l0 l2 ((a3 + ((x16_1) % 4294967296)) % 4294967296) a5 a6).bind fun t338 => (reefref12_Moves.l1 k1 l0 l1 l2 a3 a4 a5 a6 x15_1 x16_1 t335 t338 0)) = some r := H
        have A10 := Aside0.mk A100
        clear A100
        replace H := Option.bind_eq_some_iff.mp H
        obtain ⟨t338, A110, H⟩ := H
        replace H : (reefref12_Moves.l1 k1 l0 l1 l2 a3 a4 a5 a6 x15_1 x16_1 t335 t338 0) = some r := H
        have A11 := Aside0.mk A110
        clear A110
        have H' := Aside0.mk H
        clear H
        have hmm : ((a3 + ((x16_1) % 4294967296)) % 4294967296) = (a3 + x16_1) % 4294967296 := by omega
        rw [hmm] at A10 A11
        clear hmm
        go_wp2_with (first | (go_at_call 38; (with_reducible refine (reefref12_many.calls a4 t334 _ A8.out).mono ?_); rintro e w12 ⟨rfl, hb⟩; have n0_ := Aside0.mk (below_step (by repeat (first | (with_reducible first | exact HB.out | apply below_alloc | apply pw_below_drewN | apply below_drew1) | exact HB.out)) hb); clear HB; have HB := n0_; clear n0_; (try clear hb); (try clear hb2); (try clear hk); (try clear hi)) | (go_at_call 16; (with_reducible refine (reefref12_Place.calls k1 _ _ l0 _ _ l1 ((a3 + x16_1) % 4294967296) a5 a6 t335 _ ?side1 ?side2 ?side3 ?side4 A10.out).mono ?_); (case side1 => repeat (first | exact (Kd.C_below HR0.out HB.out) | (with_reducible refine Kd.C_alloc ?_ _) | (with_reducible refine Kd.C_drewN ?_ _) | (with_reducible refine Kd.C_drew ?_))); (case side2 => exact HC0.out); (case side3 => repeat (first | exact (Kd.C_below HR1.out HB.out) | (with_reducible refine Kd.C_alloc ?_ _) | (with_reducible refine Kd.C_drewN ?_ _) | (with_reducible refine Kd.C_drew ?_))); (case side4 => exact HC1.out); rintro e w13 ⟨v336, rfl, ho0, hb⟩; have n0_ := Aside0.mk (Kd.R_lower ho0 (below_size (by repeat (first | (with_reducible first | exact HB.out | apply below_alloc | apply pw_below_drewN | apply below_drew1) | exact HB.out)))); have n1_ := Aside0.mk (below_step (by repeat (first | (with_reducible first | exact HB.out | apply below_alloc | apply pw_below_drewN | apply below_drew1) | exact HB.out)) hb); clear HB; have HO337 := n0_; have HB := n1_; clear n0_ n1_; (try clear hb); (try clear hb2); (try clear hk); (try clear hi); (try clear ho0)) | (go_at_call 16; (with_reducible refine (reefref12_Place.calls k1 _ _ l0 _ _ l2 ((a3 + x16_1) % 4294967296) a5 a6 t338 _ ?side1 ?side2 ?side3 ?side4 A11.out).mono ?_); (case side1 => repeat (first | exact (Kd.C_below HR0.out HB.out) | (with_reducible refine Kd.C_alloc ?_ _) | (with_reducible refine Kd.C_drewN ?_ _) | (with_reducible refine Kd.C_drew ?_))); (case side2 => exact HC0.out); (case side3 => repeat (first | exact (Kd.C_below HR2.out HB.out) | (with_reducible refine Kd.C_alloc ?_ _) | (with_reducible refine Kd.C_drewN ?_ _) | (with_reducible refine Kd.C_drew ?_))); (case side4 => exact HC2.out); rintro e w14 ⟨v339, rfl, ho0, hb⟩; have n0_ := Aside0.mk (Kd.R_elder' (by (with_reducible repeat (first | apply Kd.R_alloc | apply Kd.R_drewN | apply Kd.R_drew)); exact HO337.out) (Kd.R_base ho0) hb); have n1_ := Aside0.mk (Kd.R_lower (Kd.R_new' ho0 (Kd.R_lt (by (with_reducible repeat (first | apply Kd.R_alloc | apply Kd.R_drewN | apply Kd.R_drew)); exact HO337.out))) (below_size (by repeat (first | (with_reducible first | exact HB.out | apply below_alloc | apply pw_below_drewN | apply below_drew1) | exact HB.out)))); have n2_ := Aside0.mk (below_step (by repeat (first | (with_reducible first | exact HB.out | apply below_alloc | apply pw_below_drewN | apply below_drew1) | exact HB.out)) hb); clear HO337; clear HB; have HO337 := n0_; have HO340 := n1_; have HB := n2_; clear n0_ n1_ n2_; (try clear hb); (try clear hb2); (try clear hk); (try clear hi); (try clear ho0)))
        repeat (go_quiet (first | (go_at_call 38; (with_reducible refine (reefref12_many.calls a4 t334 _ A8.out).mono ?_); rintro e w12 ⟨rfl, hb⟩; have n0_ := Aside0.mk (below_step (by repeat (first | (with_reducible first | exact HB.out | apply below_alloc | apply pw_below_drewN | apply below_drew1) | exact HB.out)) hb); clear HB; have HB := n0_; clear n0_; (try clear hb); (try clear hb2); (try clear hk); (try clear hi)) | (go_at_call 16; (with_reducible refine (reefref12_Place.calls k1 _ _ l0 _ _ l1 ((a3 + x16_1) % 4294967296) a5 a6 t335 _ ?side1 ?side2 ?side3 ?side4 A10.out).mono ?_); (case side1 => repeat (first | exact (Kd.C_below HR0.out HB.out) | (with_reducible refine Kd.C_alloc ?_ _) | (with_reducible refine Kd.C_drewN ?_ _) | (with_reducible refine Kd.C_drew ?_))); (case side2 => exact HC0.out); (case side3 => repeat (first | exact (Kd.C_below HR1.out HB.out) | (with_reducible refine Kd.C_alloc ?_ _) | (with_reducible refine Kd.C_drewN ?_ _) | (with_reducible refine Kd.C_drew ?_))); (case side4 => exact HC1.out); rintro e w13 ⟨v336, rfl, ho0, hb⟩; have n0_ := Aside0.mk (Kd.R_lower ho0 (below_size (by repeat (first | (with_reducible first | exact HB.out | apply below_alloc | apply pw_below_drewN | apply below_drew1) | exact HB.out)))); have n1_ := Aside0.mk (below_step (by repeat (first | (with_reducible first | exact HB.out | apply below_alloc | apply pw_below_drewN | apply below_drew1) | exact HB.out)) hb); clear HB; have HO337 := n0_; have HB := n1_; clear n0_ n1_; (try clear hb); (try clear hb2); (try clear hk); (try clear hi); (try clear ho0)) | (go_at_call 16; (with_reducible refine (reefref12_Place.calls k1 _ _ l0 _ _ l2 ((a3 + x16_1) % 4294967296) a5 a6 t338 _ ?side1 ?side2 ?side3 ?side4 A11.out).mono ?_); (case side1 => repeat (first | exact (Kd.C_below HR0.out HB.out) | (with_reducible refine Kd.C_alloc ?_ _) | (with_reducible refine Kd.C_drewN ?_ _) | (with_reducible refine Kd.C_drew ?_))); (case side2 => exact HC0.out); (case side3 => repeat (first | exact (Kd.C_below HR2.out HB.out) | (with_reducible refine Kd.C_alloc ?_ _) | (with_reducible refine Kd.C_drewN ?_ _) | (with_reducible refine Kd.C_drew ?_))); (case side4 => exact HC2.out); rintro e w14 ⟨v339, rfl, ho0, hb⟩; have n0_ := Aside0.mk (Kd.R_elder' (by (with_reducible repeat (first | apply Kd.R_alloc | apply Kd.R_drewN | apply Kd.R_drew)); exact HO337.out) (Kd.R_base ho0) hb); have n1_ := Aside0.mk (Kd.R_lower (Kd.R_new' ho0 (Kd.R_lt (by (with_reducible repeat (first | apply Kd.R_alloc | apply Kd.R_drewN | apply Kd.R_drew)); exact HO337.out))) (below_size (by repeat (first | (with_reducible first | exact HB.out | apply below_alloc | apply pw_below_drewN | apply below_drew1) | exact HB.out)))); have n2_ := Aside0.mk (below_step (by repeat (first | (with_reducible first | exact HB.out | apply below_alloc | apply pw_below_drewN | apply below_drew1) | exact HB.out)) hb); clear HO337; clear HB; have HO337 := n0_; have HO340 := n1_; have HB := n2_; clear n0_ n1_ n2_; (try clear hb); (try clear hb2); (try clear hk); (try clear hi); (try clear ho0))); try go_wp2_with (first | (go_at_call 38; (with_reducible refine (reefref12_many.calls a4 t334 _ A8.out).mono ?_); rintro e w12 ⟨rfl, hb⟩; have n0_ := Aside0.mk (below_step (by repeat (first | (with_reducible first | exact HB.out | apply below_alloc | apply pw_below_drewN | apply below_drew1) | exact HB.out)) hb); clear HB; have HB := n0_; clear n0_; (try clear hb); (try clear hb2); (try clear hk); (try clear hi)) | (go_at_call 16; (with_reducible refine (reefref12_Place.calls k1 _ _ l0 _ _ l1 ((a3 + x16_1) % 4294967296) a5 a6 t335 _ ?side1 ?side2 ?side3 ?side4 A10.out).mono ?_); (case side1 => repeat (first | exact (Kd.C_below HR0.out HB.out) | (with_reducible refine Kd.C_alloc ?_ _) | (with_reducible refine Kd.C_drewN ?_ _) | (with_reducible refine Kd.C_drew ?_))); (case side2 => exact HC0.out); (case side3 => repeat (first | exact (Kd.C_below HR1.out HB.out) | (with_reducible refine Kd.C_alloc ?_ _) | (with_reducible refine Kd.C_drewN ?_ _) | (with_reducible refine Kd.C_drew ?_))); (case side4 => exact HC1.out); rintro e w13 ⟨v336, rfl, ho0, hb⟩; have n0_ := Aside0.mk (Kd.R_lower ho0 (below_size (by repeat (first | (with_reducible first | exact HB.out | apply below_alloc | apply pw_below_drewN | apply below_drew1) | exact HB.out)))); have n1_ := Aside0.mk (below_step (by repeat (first | (with_reducible first | exact HB.out | apply below_alloc | apply pw_below_drewN | apply below_drew1) | exact HB.out)) hb); clear HB; have HO337 := n0_; have HB := n1_; clear n0_ n1_; (try clear hb); (try clear hb2); (try clear hk); (try clear hi); (try clear ho0)) | (go_at_call 16; (with_reducible refine (reefref12_Place.calls k1 _ _ l0 _ _ l2 ((a3 + x16_1) % 4294967296) a5 a6 t338 _ ?side1 ?side2 ?side3 ?side4 A11.out).mono ?_); (case side1 => repeat (first | exact (Kd.C_below HR0.out HB.out) | (with_reducible refine Kd.C_alloc ?_ _) | (with_reducible refine Kd.C_drewN ?_ _) | (with_reducible refine Kd.C_drew ?_))); (case side2 => exact HC0.out); (case side3 => repeat (first | exact (Kd.C_below HR2.out HB.out) | (with_reducible refine Kd.C_alloc ?_ _) | (with_reducible refine Kd.C_drewN ?_ _) | (with_reducible refine Kd.C_drew ?_))); (case side4 => exact HC2.out); rintro e w14 ⟨v339, rfl, ho0, hb⟩; have n0_ := Aside0.mk (Kd.R_elder' (by (with_reducible repeat (first | apply Kd.R_alloc | apply Kd.R_drewN | apply Kd.R_drew)); exact HO337.out) (Kd.R_base ho0) hb); have n1_ := Aside0.mk (Kd.R_lower (Kd.R_new' ho0 (Kd.R_lt (by (with_reducible repeat (first | apply Kd.R_alloc | apply Kd.R_drewN | apply Kd.R_drew)); exact HO337.out))) (below_size (by repeat (first | (with_reducible first | exact HB.out | apply below_alloc | apply pw_below_drewN | apply below_drew1) | exact HB.out)))); have n2_ := Aside0.mk (below_step (by repeat (first | (with_reducible first | exact HB.out | apply below_alloc | apply pw_below_drewN | apply below_drew1) | exact HB.out)) hb); clear HO337; clear HB; have HO337 := n0_; have HO340 := n1_; have HB := n2_; clear n0_ n1_ n2_; (try clear hb); (try clear hb2); (try clear hk); (try clear hi); (try clear ho0))))
        go_loopg [15, 19] k1 (fun kq v15 v19 w' => ∃ (x15_2 : Int) (x19_2 : Int), v15 = .int .i64 x15_2 ∧ v19 = .int .i64 x19_2 ∧ Aside0 (reefref12_Moves.l1 kq l0 l1 l2 a3 a4 a5 a6 x15_2 x16_1 t335 t338 x19_2 = some r) ∧ Aside0 (kq ≤ k1) ∧ Aside0 (Kd.R (Kd.int .i64) 3 w' w.heap.size (fun k_ => some k_ ≠ (v339 : Value).ownBlock) v336 t335) ∧ Aside0 (Kd.R (Kd.int .i64) 3 w' w.heap.size (fun k_ => some k_ ≠ (v336 : Value).ownBlock) v339 t338) ∧ Aside0 (Below w.heap.size w w'))
        case atStart => exact ⟨(x15_1), (0), (by first | rfl | (simp; done) | (simp [*]; done)), (by first | rfl | (simp; done) | (simp [*]; done)), H', ⟨Nat.le_refl _⟩, ⟨by (with_reducible repeat (first | apply Kd.R_alloc | apply Kd.R_drewN | apply Kd.R_drew)); exact Kd.R_mono HO337.out (fun _ hk => hk.2)⟩, ⟨by (with_reducible repeat (first | apply Kd.R_alloc | apply Kd.R_drewN | apply Kd.R_drew)); exact Kd.R_mono HO340.out (fun _ hk => hk.2)⟩, ⟨by repeat (first | (with_reducible first | exact HB.out | apply below_alloc | apply pw_below_drewN | apply below_drew1) | exact HB.out)⟩⟩
        case round =>
          clear H'
          try clear c1
          try clear c2
          try clear p2
          try clear c9
          try clear c9b0
          try clear p2
          obtain ⟨x15_2, x19_2, rfl, rfl, HA, HK2, HO_17, HO_18, HB⟩ := hrel
          cases gk with
          | zero => exact absurd HA.out (by simp [reefref12_Moves.l1])
          | succ k2 =>
            have H := HA.out
            clear HA
            simp only [reefref12_Moves.l1] at H
            by_cases c15 : x19_2 < (t338.length : Int)
            · rw [if_pos c15] at H
              have c15b0 : decide (x19_2 < (t338.length : Int)) = true := decide_eq_true c15
              clear c15
              have H' := Aside0.mk H
              clear H
              obtain ⟨Ao16, co16, eo16⟩ := Kd.R_slice HO_18.out
              subst eo16
              go_wp2
              repeat (go_quiet (fail); try go_wp2)
              go_loopg [20, 21] k2 (fun kq v20 v21 w' => ∃ (x20_3 : Bool) (x21_3 : Int), v20 = .bool x20_3 ∧ v21 = .int .i64 x21_3 ∧ Aside0 (reefref12_Moves.l2 kq l0 l1 l2 a3 a4 a5 a6 x15_2 x16_1 t335 t338 x19_2 x20_3 x21_3 = some r) ∧ Aside0 (kq ≤ k2) ∧ Aside0 (Kd.R (Kd.int .i64) 3 w' w.heap.size (fun k_ => some k_ ≠ ((.slice Ao16 t338.length co16) : Value).ownBlock) v336 t335) ∧ Aside0 (Kd.R (Kd.int .i64) 3 w' w.heap.size (fun k_ => some k_ ≠ (v336 : Value).ownBlock) (.slice Ao16 t338.length co16) t338) ∧ Aside0 (Below w.heap.size w w'))
              case atStart => exact ⟨(false), (0), (by first | rfl | (simp; done) | (simp [*]; done)), (by first | rfl | (simp; done) | (simp [*]; done)), H', ⟨Nat.le_refl _⟩, ⟨by (with_reducible repeat (first | apply Kd.R_alloc | apply Kd.R_drewN | apply Kd.R_drew)); exact HO_17.out⟩, ⟨by (with_reducible repeat (first | apply Kd.R_alloc | apply Kd.R_drewN | apply Kd.R_drew)); exact HO_18.out⟩, ⟨by repeat (first | (with_reducible first | exact HB.out | apply below_alloc | apply pw_below_drewN | apply below_drew1) | exact HB.out)⟩⟩
              case round =>
                clear H'
                try clear c1
                try clear c2
                try clear p2
                try clear c9
                try clear c9b0
                try clear c15
                try clear c15b0
                try clear p2
                obtain ⟨x20_3, x21_3, rfl, rfl, HA, HK3, HO_17, HO_18, HB⟩ := hrel
                cases gk with
                | zero => exact absurd HA.out (by simp [reefref12_Moves.l2])
                | succ k3 =>
                  have H := HA.out
                  clear HA
                  simp only [reefref12_Moves.l2] at H
                  by_cases c17 : x21_3 < (t335.length : Int)
                  · rw [if_pos c17] at H
                    have c17b0 : decide (x21_3 < (t335.length : Int)) = true := decide_eq_true c17
                    clear c17
                    by_cases c18 : x20_3 = true
                    · subst c18
                      have H1 : (reefref12_Moves.l2 k3 l0 l1 l2 a3 a4 a5 a6 x15_2 x16_1 t335 t338 x19_2 true (wrap64 (x21_3 + 1))) = some r := by rw [if_pos rfl] at H; exact H
                      clear H
                      have H := H1
                      clear H1
                      have H' := Aside0.mk H
                      clear H
                      obtain ⟨Ao19, co19, eo19⟩ := Kd.R_slice HO_17.out
                      subst eo19
                      go_wp2
                      repeat (go_quiet (fail); try go_wp2)
                      go_roundg k3
                      case measure => have := HK1.out; have := HK2.out; have := HK3.out; omega
                      case rel => exact ⟨(true), (wrap64 (x21_3 + 1)), (by first | rfl | (simp; done) | (simp [*]; done)), (by first | rfl | (simp; done) | (simp [*]; done)), H', ⟨by have := HK1.out; have := HK2.out; have := HK3.out; omega⟩, ⟨by (with_reducible repeat (first | apply Kd.R_alloc | apply Kd.R_drewN | apply Kd.R_drew)); exact HO_17.out⟩, ⟨by (with_reducible repeat (first | apply Kd.R_alloc | apply Kd.R_drewN | apply Kd.R_drew)); exact HO_18.out⟩, ⟨by repeat (first | (with_reducible first | exact HB.out | apply below_alloc | apply pw_below_drewN | apply below_drew1) | exact HB.out)⟩⟩
                    · replace c18 := Bool.eq_false_iff.mpr c18
                      subst c18
                      have H1 : (if 0 ≤ x21_3 then (if 0 ≤ x19_2 then (if x19_2 < (t338.length : Int) then (reefref12_Moves.l2 k3 l0 l1 l2 a3 a4 a5 a6 x15_2 x16_1 t335 t338 x19_2 ((rd t335 x21_3) == (rd t338 x19_2)) (wrap64 (x21_3 + 1))) else (none)) else (none)) else (none)) = some r := by rw [if_neg (show ¬ (false = true) by decide)] at H; exact H
                      clear H
                      have H := H1
                      clear H1
                      by_cases c20 : 0 ≤ x21_3
                      · rw [if_pos c20] at H
                        have c20b0 : decide (0 ≤ x21_3) = true := decide_eq_true c20
                        clear c20
                        by_cases c21 : 0 ≤ x19_2
                        · rw [if_pos c21] at H
                          have c21b0 : decide (0 ≤ x19_2) = true := decide_eq_true c21
                          clear c21
                          by_cases c22 : x19_2 < (t338.length : Int)
                          · rw [if_pos c22] at H
                            have c22b0 : decide (x19_2 < (t338.length : Int)) = true := decide_eq_true c22
                            clear c22
                            have H' := Aside0.mk H
                            clear H
                            obtain ⟨Ao23, co23, eo23⟩ := Kd.R_slice HO_17.out
                            subst eo23
                            have p341 : 0 ≤ (x21_3 : Int) := of_decide_eq_true (by first | (with_reducible assumption) | assumption)
                            have q341 : x21_3 < (t335.length : Int) := of_decide_eq_true (by first | (with_reducible assumption) | assumption)
                            obtain ⟨ad341, e341, hx341_0⟩ := Kd.at_int (Kd.R_reads' HO_17.out).2.2 x21_3 p341 q341
                            cases e341
                            replace p341 := eq_true p341
                            replace q341 := eq_true q341
                            have p342 : 0 ≤ (x19_2 : Int) := of_decide_eq_true (by first | (with_reducible assumption) | assumption)
                            have q342 : x19_2 < (t338.length : Int) := of_decide_eq_true (by first | (with_reducible assumption) | assumption)
                            obtain ⟨ad342, e342, hx342_0⟩ := Kd.at_int (Kd.R_reads' HO_18.out).2.2 x19_2 p342 q342
                            cases e342
                            replace p342 := eq_true p342
                            replace q342 := eq_true q342
                            go_wp2
                            repeat (go_quiet (fail); try go_wp2)
                            go_roundg k3
                            case measure => have := HK1.out; have := HK2.out; have := HK3.out; omega
                            case rel => exact ⟨(((rd t335 x21_3) == (rd t338 x19_2))), (wrap64 (x21_3 + 1)), (by first | rfl | (simp; done) | (simp [*]; done)), (by first | rfl | (simp; done) | (simp [*]; done)), H', ⟨by have := HK1.out; have := HK2.out; have := HK3.out; omega⟩, ⟨by (with_reducible repeat (first | apply Kd.R_alloc | apply Kd.R_drewN | apply Kd.R_drew)); exact HO_17.out⟩, ⟨by (with_reducible repeat (first | apply Kd.R_alloc | apply Kd.R_drewN | apply Kd.R_drew)); exact HO_18.out⟩, ⟨by repeat (first | (with_reducible first | exact HB.out | apply below_alloc | apply pw_below_drewN | apply below_drew1) | exact HB.out)⟩⟩
                          · rw [if_neg c22] at H
                            exact absurd H (by simp)
                        · rw [if_neg c21] at H
                          exact absurd H (by simp)
                      · rw [if_neg c20] at H
                        exact absurd H (by simp)
                  · rw [if_neg c17] at H
                    have c17b0 : decide (x21_3 < (t335.length : Int)) = false := decide_eq_false c17
                    clear c17
                    by_cases c24 : x20_3 = true
                    · subst c24
                      have H1 : (reefref12_Moves.l1 k3 l0 l1 l2 a3 a4 a5 a6 x15_2 x16_1 t335 t338 (wrap64 (x19_2 + 1))) = some r := by rw [if_pos rfl] at H; exact H
                      clear H
                      have H := H1
                      clear H1
                      have H' := Aside0.mk H
                      clear H
                      obtain ⟨Ao25, co25, eo25⟩ := Kd.R_slice HO_17.out
                      subst eo25
                      go_wp2
                      repeat (go_quiet (fail); try go_wp2)
                      go_roundg k3
                      case measure => have := HK1.out; have := HK2.out; have := HK3.out; omega
                      case rel => exact ⟨(x15_2), (wrap64 (x19_2 + 1)), (by first | rfl | (simp; done) | (simp [*]; done)), (by first | rfl | (simp; done) | (simp [*]; done)), H', ⟨by have := HK1.out; have := HK2.out; have := HK3.out; omega⟩, ⟨by (with_reducible repeat (first | apply Kd.R_alloc | apply Kd.R_drewN | apply Kd.R_drew)); exact HO_17.out⟩, ⟨by (with_reducible repeat (first | apply Kd.R_alloc | apply Kd.R_drewN | apply Kd.R_drew)); exact HO_18.out⟩, ⟨by repeat (first | (with_reducible first | exact HB.out | apply below_alloc | apply pw_below_drewN | apply below_drew1) | exact HB.out)⟩⟩
                    · replace c24 := Bool.eq_false_iff.mpr c24
                      subst c24
                      have H1 : (reefref12_Moves.l1 k3 l0 l1 l2 a3 a4 a5 a6 (wrap64 (x15_2 + 1)) x16_1 t335 t338 (wrap64 (x19_2 + 1))) = some r := by rw [if_neg (show ¬ (false = true) by decide)] at H; exact H
                      clear H
                      have H := H1
                      clear H1
                      have H' := Aside0.mk H
                      clear H
                      obtain ⟨Ao26, co26, eo26⟩ := Kd.R_slice HO_17.out
                      subst eo26
                      go_wp2
                      repeat (go_quiet (fail); try go_wp2)
                      go_roundg k3
                      case measure => have := HK1.out; have := HK2.out; have := HK3.out; omega
                      case rel => exact ⟨(wrap64 (x15_2 + 1)), (wrap64 (x19_2 + 1)), (by first | rfl | (simp; done) | (simp [*]; done)), (by first | rfl | (simp; done) | (simp [*]; done)), H', ⟨by have := HK1.out; have := HK2.out; have := HK3.out; omega⟩, ⟨by (with_reducible repeat (first | apply Kd.R_alloc | apply Kd.R_drewN | apply Kd.R_drew)); exact HO_17.out⟩, ⟨by (with_reducible repeat (first | apply Kd.R_alloc | apply Kd.R_drewN | apply Kd.R_drew)); exact HO_18.out⟩, ⟨by repeat (first | (with_reducible first | exact HB.out | apply below_alloc | apply pw_below_drewN | apply below_drew1) | exact HB.out)⟩⟩
            · rw [if_neg c15] at H
              have c15b0 : decide (x19_2 < (t338.length : Int)) = false := decide_eq_false c15
              clear c15
              have H' := Aside0.mk H
              clear H
              obtain ⟨Ao27, co27, eo27⟩ := Kd.R_slice HO_18.out
              subst eo27
              go_wp2
              repeat (go_quiet (fail); try go_wp2)
              go_roundg k2
              case measure => have := HK1.out; have := HK2.out; omega
              case rel => exact ⟨(x15_2), (wrap64 (x16_1 + 1)), (by first | rfl | (simp; done) | (simp [*]; done)), (by first | rfl | (simp; done) | (simp [*]; done)), H', ⟨by have := HK1.out; have := HK2.out; omega⟩, ⟨by repeat (first | (with_reducible first | exact HB.out | apply below_alloc | apply pw_below_drewN | apply below_drew1) | exact HB.out)⟩⟩
      · rw [if_neg c9] at H
        have c9b0 : decide (x16_1 < t334) = false := decide_eq_false c9
        clear c9
        obtain rfl := Option.some.inj H
        go_wp2_with (first | (go_at_call 38; (with_reducible refine (reefref12_many.calls a4 t334 _ A8.out).mono ?_); rintro e w28 ⟨rfl, hb⟩; have n0_ := Aside0.mk (below_step (by repeat (first | (with_reducible first | exact HB.out | apply below_alloc | apply pw_below_drewN | apply below_drew1) | exact HB.out)) hb); clear HB; have HB := n0_; clear n0_; (try clear hb); (try clear hb2); (try clear hk); (try clear hi)))
        repeat (go_quiet (first | (go_at_call 38; (with_reducible refine (reefref12_many.calls a4 t334 _ A8.out).mono ?_); rintro e w28 ⟨rfl, hb⟩; have n0_ := Aside0.mk (below_step (by repeat (first | (with_reducible first | exact HB.out | apply below_alloc | apply pw_below_drewN | apply below_drew1) | exact HB.out)) hb); clear HB; have HB := n0_; clear n0_; (try clear hb); (try clear hb2); (try clear hk); (try clear hi))); try go_wp2_with (first | (go_at_call 38; (with_reducible refine (reefref12_many.calls a4 t334 _ A8.out).mono ?_); rintro e w28 ⟨rfl, hb⟩; have n0_ := Aside0.mk (below_step (by repeat (first | (with_reducible first | exact HB.out | apply below_alloc | apply pw_below_drewN | apply below_drew1) | exact HB.out)) hb); clear HB; have HB := n0_; clear n0_; (try clear hb); (try clear hb2); (try clear hk); (try clear hi))))
        go_ret
        exact ⟨by first | rfl | (simp [errW_none, errW_some] <;> rfl) | (simp [*, errW_none, errW_some] <;> rfl), by repeat (first | (with_reducible first | exact HB.out | apply below_alloc | apply pw_below_drewN | apply below_drew1) | exact HB.out)⟩
end Go.Proofs.Ytbaldkcnipmdjaa.P
namespace Go.Proofs.Ytbaldkcnipmdjaa.P
open Go.RowKit Go.Proofs.YtbaldkcnipmdjaaW.PrintWords Go.Proofs.YtbaldkcnipmdjaaW.PrintLast Go.Proofs.YtbaldkcnipmdjaaW.PrintMore Go.Proofs.YtbaldkcnipmdjaaW.HB
set_option linter.unusedVariables false
set_option linter.unusedSimpArgs false
theorem pl_len4 (hs ws : List Int) (x size kind : Int) (h : size ≤ 4) : (plS hs ws x size kind).length ≤ 4 := by
  have := pl_len hs ws x size kind
  unfold mx at this
  split at this <;> omega
def loadStep (out : List Int) (v : Int) : List Int := out.set v.toNat (wrap64 (rd out v + 1))
theorem loadStep_len (l : List Int) (out : List Int) : (l.foldl loadStep out).length = out.length := by
  induction l generalizing out with
  | nil => rfl
  | cons v l ih => rw [List.foldl_cons, ih]; exact List.length_set
def loadN (h ws : List Int) (from_ size kind : Int) : Nat → List Int
  | 0 => List.replicate h.length 0
  | n + 1 => (plS h ws ((from_ + ((n : Int) % 4294967296)) % 4294967296) size kind).foldl loadStep (loadN h ws from_ size kind n)
theorem loadN_len (h ws : List Int) (from_ size kind : Int) : ∀ n, (loadN h ws from_ size kind n).length = h.length
  | 0 => List.length_replicate
  | n + 1 => by unfold loadN; rw [loadStep_len, loadN_len h ws from_ size kind n]
theorem load_l1 (h ws : List Int) (from_ size kind : Int) (l : List Int) (hl : l.length ≤ 1000) (hin : ∀ v ∈ l, 0 ≤ v ∧ v < h.length) (n i : Int) (R : Option (List Int)) (k0 : Nat) :
    ∀ (d k j : Nat) (out : List Int), l.length = j + d → k0 + d + 1 ≤ k → out.length = h.length →
      (∀ K, k0 ≤ K → rule_Load.l0 K h ws from_ size kind ((l.drop j).foldl loadStep out) n (wrap64 (i + 1)) = R) →
      rule_Load.l1 k h ws from_ size kind out n i l l.length j = R := by
  intro d
  induction d with
  | zero =>
    intro k j out hj hk ho hrec
    obtain ⟨k, rfl⟩ : ∃ k', k = k' + 1 := ⟨k - 1, by omega⟩
    simp only [rule_Load.l1]
    rw [if_neg (by omega)]
    have := hrec k (by omega)
    rwa [List.drop_eq_nil_of_le (by omega), List.foldl_nil] at this
  | succ d ih =>
    intro k j out hj hk ho hrec
    obtain ⟨k, rfl⟩ : ∃ k', k = k' + 1 := ⟨k - 1, by omega⟩
    have hlt : j < l.length := by omega
    have hw : wrap64 ((j : Int) + 1) = ((j + 1 : Nat) : Int) := by unfold wrap64; omega
    have hv := hin _ (List.getElem_mem hlt)
    simp only [rule_Load.l1]
    rw [if_pos (by omega), if_pos (by omega), if_pos (by omega), rd_I l j hlt, if_pos hv.1, if_pos (by rw [ho]; exact hv.2), hw]
    refine ih k (j + 1) _ (by omega) (by omega) (by rw [List.length_set]; exact ho) ?_
    rw [List.drop_eq_getElem_cons hlt, List.foldl_cons] at hrec
    exact hrec
theorem load_l0 (h ws : List Int) (from_ size kind : Int) (hl : h.length ≤ 1000) (hs : size ≤ 4) (N : Nat) (hN : N ≤ 2000) : ∀ (d k i : Nat), N = i + d → d * 10 + 2 ≤ k →
    rule_Load.l0 k h ws from_ size kind (loadN h ws from_ size kind i) N i = some (loadN h ws from_ size kind N) := by
  intro d
  induction d with
  | zero =>
    intro k i hi hk
    obtain ⟨k, rfl⟩ : ∃ k', k = k' + 1 := ⟨k - 1, by omega⟩
    simp only [rule_Load.l0]
    rw [if_neg (by omega), show i = N from by omega]
  | succ d ih =>
    intro k i hi hk
    obtain ⟨k, rfl⟩ : ∃ k', k = k' + 1 := ⟨k - 1, by omega⟩
    have hp4 := pl_len4 h ws ((from_ + ((i : Int) % 4294967296)) % 4294967296) size kind hs
    have hsub := pl_sub h ws ((from_ + ((i : Int) % 4294967296)) % 4294967296) size kind
    have hdef : loadN h ws from_ size kind (i + 1) = (plS h ws ((from_ + ((i : Int) % 4294967296)) % 4294967296) size kind).foldl loadStep (loadN h ws from_ size kind i) := rfl
    simp only [rule_Load.l0]
    rw [if_pos (by omega), show rule_Place.f h ws ((from_ + ((i : Int) % 4294967296)) % 4294967296) size kind = some (plS h ws ((from_ + ((i : Int) % 4294967296)) % 4294967296) size kind) from by unfold rule_Place.f; rw [if_pos hl], Option.bind_some]
    generalize plS h ws ((from_ + ((i : Int) % 4294967296)) % 4294967296) size kind = p at *
    refine load_l1 h ws from_ size kind p (by omega) (fun v hv => (hsub v hv).1) N i _ (d * 10 + 2) p.length k 0 _ (by omega) (by omega) (loadN_len h ws from_ size kind i) ?_
    intro K hK
    have hw : wrap64 ((i : Int) + 1) = ((i + 1 : Nat) : Int) := by unfold wrap64; omega
    rw [List.drop_zero, hw, ← hdef]
    exact ih K (i + 1) (by omega) hK
def cntS (n : Int) : Nat := (mn (mx n 0) 2000).toNat
theorem cntS_eq (n : Int) : mn (mx n 0) 2000 = (cntS n : Int) ∧ cntS n ≤ 2000 := by
  unfold cntS
  have : 0 ≤ mn (mx n 0) 2000 ∧ mn (mx n 0) 2000 ≤ 2000 := by unfold mn mx; split <;> split <;> omega
  omega
def loadS (h ws : List Int) (from_ n size kind : Int) : List Int := loadN h ws from_ size kind (cntS n)
theorem load_eq (h ws : List Int) (from_ n size kind : Int) (hl : h.length ≤ 1000) (hs : size ≤ 4) (K : Nat) (hK : 30000 ≤ K) : rule_Load.f K h ws from_ n size kind = some (loadS h ws from_ n size kind) := by
  unfold rule_Load.f loadS
  have hc := cntS_eq n
  rw [if_pos (by omega), if_pos (by omega), hc.1, Int.toNat_natCast]
  exact load_l0 h ws from_ size kind hl hs (cntS n) hc.2 (cntS n) K 0 (by omega) (by omega)
theorem rload_l1 (h ws : List Int) (from_ n size kind : Int) (l : List Int) (hl : l.length ≤ 1000) (hin : ∀ v ∈ l, 0 ≤ v ∧ v < h.length) (i : Int) (R : Option (List Int)) (k0 : Nat) :
    ∀ (d k j : Nat) (out : List Int), l.length = j + d → k0 + d + 1 ≤ k → out.length = h.length →
      (∀ K, k0 ≤ K → reefref12_Load.l0 K h ws from_ n size kind ((l.drop j).foldl loadStep out) (wrap64 (i + 1)) = R) →
      reefref12_Load.l1 k h ws from_ n size kind out i l j = R := by
  intro d
  induction d with
  | zero =>
    intro k j out hj hk ho hrec
    obtain ⟨k, rfl⟩ : ∃ k', k = k' + 1 := ⟨k - 1, by omega⟩
    simp only [reefref12_Load.l1]
    rw [if_neg (by omega)]
    have := hrec k (by omega)
    rwa [List.drop_eq_nil_of_le (by omega), List.foldl_nil] at this
  | succ d ih =>
    intro k j out hj hk ho hrec
    obtain ⟨k, rfl⟩ : ∃ k', k = k' + 1 := ⟨k - 1, by omega⟩
    have hlt : j < l.length := by omega
    have hw : wrap64 ((j : Int) + 1) = ((j + 1 : Nat) : Int) := by unfold wrap64; omega
    have hv := hin _ (List.getElem_mem hlt)
    simp only [reefref12_Load.l1]
    rw [if_pos (by omega), if_pos (by omega), rd_I l j hlt, if_pos hv.1, if_pos (by rw [ho]; exact hv.2), hw]
    refine ih k (j + 1) _ (by omega) (by omega) (by rw [List.length_set]; exact ho) ?_
    rw [List.drop_eq_getElem_cons hlt, List.foldl_cons] at hrec
    exact hrec
theorem rload_l0 (h ws : List Int) (from_ n size kind : Int) (hl : h.length ≤ 1000) (hs : size ≤ 4) (N : Nat) (hn : mn (mx n 0) 2000 = (N : Int)) (hN : N ≤ 2000) : ∀ (d k i : Nat), N = i + d → 1030000 + d * 10 + 2 ≤ k →
    reefref12_Load.l0 k h ws from_ n size kind (loadN h ws from_ size kind i) i = some (loadN h ws from_ size kind N) := by
  intro d
  induction d with
  | zero =>
    intro k i hi hk
    obtain ⟨k, rfl⟩ : ∃ k', k = k' + 1 := ⟨k - 1, by omega⟩
    simp only [reefref12_Load.l0, reefref12_many.f, Option.bind_some]
    rw [hn, if_neg (by omega), show i = N from by omega]
  | succ d ih =>
    intro k i hi hk
    obtain ⟨k, rfl⟩ : ∃ k', k = k' + 1 := ⟨k - 1, by omega⟩
    have hp4 := pl_len4 h ws ((from_ + ((i : Int) % 4294967296)) % 4294967296) size kind hs
    have hsub := pl_sub h ws ((from_ + ((i : Int) % 4294967296)) % 4294967296) size kind
    have hdef : loadN h ws from_ size kind (i + 1) = (plS h ws ((from_ + ((i : Int) % 4294967296)) % 4294967296) size kind).foldl loadStep (loadN h ws from_ size kind i) := rfl
    simp only [reefref12_Load.l0, reefref12_many.f, Option.bind_some]
    rw [hn, if_pos (by omega), rplace_eq h ws _ size kind hl k (by omega), Option.bind_some]
    generalize plS h ws ((from_ + ((i : Int) % 4294967296)) % 4294967296) size kind = p at *
    refine rload_l1 h ws from_ n size kind p (by omega) (fun v hv => (hsub v hv).1) i _ (1030000 + d * 10 + 2) p.length k 0 _ (by omega) (by omega) (loadN_len h ws from_ size kind i) ?_
    intro K hK
    have hw : wrap64 ((i : Int) + 1) = ((i + 1 : Nat) : Int) := by unfold wrap64; omega
    rw [List.drop_zero, hw, ← hdef]
    exact ih K (i + 1) (by omega) hK
theorem rload_eq (h ws : List Int) (from_ n size kind : Int) (hl : h.length ≤ 1000) (hs : size ≤ 4) (K : Nat) (hK : 1060000 ≤ K) : reefref12_Load.f K h ws from_ n size kind = some (loadS h ws from_ n size kind) := by
  unfold reefref12_Load.f loadS
  have hc := cntS_eq n
  rw [if_pos (by omega), if_pos (by omega), Int.toNat_natCast]
  exact rload_l0 h ws from_ n size kind hl hs (cntS n) hc.1 hc.2 (cntS n) K 0 (by omega) (by omega)
def moveStep (a : List Int) (m v : Int) : Int := if v ∈ a then m else wrap64 (m + 1)
def movesN (h ws vs : List Int) (from_ size kind : Int) : Nat → Int
  | 0 => 0
  | n + 1 => (plS h vs ((from_ + ((n : Int) % 4294967296)) % 4294967296) size kind).foldl (moveStep (plS h ws ((from_ + ((n : Int) % 4294967296)) % 4294967296) size kind)) (movesN h ws vs from_ size kind n)
theorem moves_l1 (h ws vs : List Int) (from_ size kind : Int) (a b : List Int) (ha : a.length ≤ 4) (hb : b.length ≤ 1000) (n i : Int) (R : Option Int) (k0 : Nat) (hk0 : 10 ≤ k0) :
    ∀ (d k j : Nat) (m : Int), b.length = j + d → k0 + d + 1 ≤ k →
      (∀ K, k0 ≤ K → rule_Moves.l0 K h ws vs from_ size kind ((b.drop j).foldl (moveStep a) m) n (wrap64 (i + 1)) = R) →
      rule_Moves.l1 k h ws vs from_ size kind m a n i b b.length j = R := by
  intro d
  induction d with
  | zero =>
    intro k j m hj hk hrec
    obtain ⟨k, rfl⟩ : ∃ k', k = k' + 1 := ⟨k - 1, by omega⟩
    simp only [rule_Moves.l1]
    rw [if_neg (by omega)]
    have := hrec k (by omega)
    rwa [List.drop_eq_nil_of_le (by omega), List.foldl_nil] at this
  | succ d ih =>
    intro k j m hj hk hrec
    obtain ⟨k, rfl⟩ : ∃ k', k = k' + 1 := ⟨k - 1, by omega⟩
    have hlt : j < b.length := by omega
    have hw : wrap64 ((j : Int) + 1) = ((j + 1 : Nat) : Int) := by unfold wrap64; omega
    simp only [rule_Moves.l1]
    rw [if_pos (by omega), if_pos (by omega), if_pos (by omega), rd_I b j hlt, contains_eq a _ (by omega) k (by omega), Option.bind_some, hw]
    rw [List.drop_eq_getElem_cons hlt, List.foldl_cons] at hrec
    by_cases hm : b[j] ∈ a
    · rw [if_pos (decide_eq_true hm)]
      rw [show moveStep a m b[j] = m from if_pos hm] at hrec
      exact ih k (j + 1) _ (by omega) (by omega) hrec
    · rw [if_neg (by rw [decide_eq_false hm]; decide)]
      rw [show moveStep a m b[j] = wrap64 (m + 1) from if_neg hm] at hrec
      exact ih k (j + 1) _ (by omega) (by omega) hrec
theorem moves_l0 (h ws vs : List Int) (from_ size kind : Int) (hl : h.length ≤ 1000) (hs : size ≤ 4) (N : Nat) (hN : N ≤ 2000) : ∀ (d k i : Nat), N = i + d → d * 10 + 20 ≤ k →
    rule_Moves.l0 k h ws vs from_ size kind (movesN h ws vs from_ size kind i) N i = some (movesN h ws vs from_ size kind N) := by
  intro d
  induction d with
  | zero =>
    intro k i hi hk
    obtain ⟨k, rfl⟩ : ∃ k', k = k' + 1 := ⟨k - 1, by omega⟩
    simp only [rule_Moves.l0]
    rw [if_neg (by omega), show i = N from by omega]
  | succ d ih =>
    intro k i hi hk
    obtain ⟨k, rfl⟩ : ∃ k', k = k' + 1 := ⟨k - 1, by omega⟩
    have hpa := pl_len4 h ws ((from_ + ((i : Int) % 4294967296)) % 4294967296) size kind hs
    have hpb := pl_len4 h vs ((from_ + ((i : Int) % 4294967296)) % 4294967296) size kind hs
    have hdef : movesN h ws vs from_ size kind (i + 1) = (plS h vs ((from_ + ((i : Int) % 4294967296)) % 4294967296) size kind).foldl (moveStep (plS h ws ((from_ + ((i : Int) % 4294967296)) % 4294967296) size kind)) (movesN h ws vs from_ size kind i) := rfl
    simp only [rule_Moves.l0]
    rw [if_pos (by omega), show rule_Place.f h ws ((from_ + ((i : Int) % 4294967296)) % 4294967296) size kind = some (plS h ws ((from_ + ((i : Int) % 4294967296)) % 4294967296) size kind) from by unfold rule_Place.f; rw [if_pos hl], Option.bind_some,
      show rule_Place.f h vs ((from_ + ((i : Int) % 4294967296)) % 4294967296) size kind = some (plS h vs ((from_ + ((i : Int) % 4294967296)) % 4294967296) size kind) from by unfold rule_Place.f; rw [if_pos hl], Option.bind_some]
    generalize plS h ws ((from_ + ((i : Int) % 4294967296)) % 4294967296) size kind = a at *
    generalize plS h vs ((from_ + ((i : Int) % 4294967296)) % 4294967296) size kind = b at *
    refine moves_l1 h ws vs from_ size kind a b hpa (by omega) N i _ (d * 10 + 20) (by omega) b.length k 0 _ (by omega) (by omega) ?_
    intro K hK
    have hw : wrap64 ((i : Int) + 1) = ((i + 1 : Nat) : Int) := by unfold wrap64; omega
    rw [List.drop_zero, hw, ← hdef]
    exact ih K (i + 1) (by omega) hK
def movesS (h ws vs : List Int) (from_ n size kind : Int) : Int := movesN h ws vs from_ size kind (cntS n)
theorem moves_eq (h ws vs : List Int) (from_ n size kind : Int) (hl : h.length ≤ 1000) (hs : size ≤ 4) (K : Nat) (hK : 30000 ≤ K) : rule_Moves.f K h ws vs from_ n size kind = some (movesS h ws vs from_ n size kind) := by
  unfold rule_Moves.f movesS
  have hc := cntS_eq n
  rw [hc.1]
  exact moves_l0 h ws vs from_ size kind hl hs (cntS n) hc.2 (cntS n) K 0 (by omega) (by omega)
theorem rmoves_l2 (h ws vs : List Int) (from_ n size kind : Int) (m i : Int) (a b : List Int) (ha : a.length ≤ 4) (x : Nat) (hx : x < b.length) (R : Option Int) (k0 : Nat) :
    ∀ (d k j : Nat) (fl : Bool), a.length = j + d → k0 + d + 1 ≤ k →
      ((fl = true ∨ b[x] ∈ a.drop j) → ∀ K, k0 ≤ K → reefref12_Moves.l1 K h ws vs from_ n size kind m i a b (wrap64 ((x : Int) + 1)) = R) →
      (¬ (fl = true ∨ b[x] ∈ a.drop j) → ∀ K, k0 ≤ K → reefref12_Moves.l1 K h ws vs from_ n size kind (wrap64 (m + 1)) i a b (wrap64 ((x : Int) + 1)) = R) →
      reefref12_Moves.l2 k h ws vs from_ n size kind m i a b x fl j = R := by
  intro d
  induction d with
  | zero =>
    intro k j fl hj hk hyes hno
    obtain ⟨k, rfl⟩ : ∃ k', k = k' + 1 := ⟨k - 1, by omega⟩
    have hd : a.drop j = [] := List.drop_eq_nil_of_le (by omega)
    simp only [reefref12_Moves.l2]
    rw [if_neg (by omega)]
    by_cases hf : fl = true
    · rw [if_pos hf]
      exact hyes (Or.inl hf) k (by omega)
    · rw [if_neg hf]
      exact hno (fun hh => hh.elim hf (fun hm => by rw [hd] at hm; cases hm)) k (by omega)
  | succ d ih =>
    intro k j fl hj hk hyes hno
    obtain ⟨k, rfl⟩ : ∃ k', k = k' + 1 := ⟨k - 1, by omega⟩
    have hlt : j < a.length := by omega
    have hw : wrap64 ((j : Int) + 1) = ((j + 1 : Nat) : Int) := by unfold wrap64; omega
    have hd : a.drop j = a[j] :: a.drop (j + 1) := List.drop_eq_getElem_cons hlt
    simp only [reefref12_Moves.l2]
    rw [if_pos (by omega)]
    by_cases hf : fl = true
    · rw [if_pos hf, hw]
      exact ih k (j + 1) true (by omega) (by omega) (fun _ => hyes (Or.inl hf)) (fun hh => absurd (Or.inl rfl) hh)
    · rw [if_neg hf, if_pos (by omega), if_pos (by omega), if_pos (by omega), rd_I a j hlt, rd_I b x hx, hw]
      have hiff : ((a[j] == b[x]) = true ∨ b[x] ∈ a.drop (j + 1)) ↔ (fl = true ∨ b[x] ∈ a.drop j) := by
        rw [hd, List.mem_cons, beq_iff_eq]
        constructor
        · rintro (h1 | h1)
          · exact Or.inr (Or.inl h1.symm)
          · exact Or.inr (Or.inr h1)
        · rintro (h1 | h1 | h1)
          · exact absurd h1 hf
          · exact Or.inl h1.symm
          · exact Or.inr h1
      exact ih k (j + 1) _ (by omega) (by omega) (fun hh => hyes (hiff.1 hh)) (fun hh => hno (fun h' => hh (hiff.2 h')))
theorem rmoves_l1 (h ws vs : List Int) (from_ n size kind : Int) (a b : List Int) (ha : a.length ≤ 4) (hb : b.length ≤ 4) (i : Int) (R : Option Int) (k0 : Nat) :
    ∀ (d k j : Nat) (m : Int), b.length = j + d → k0 + d * 10 + 1 ≤ k →
      (∀ K, k0 ≤ K → reefref12_Moves.l0 K h ws vs from_ n size kind ((b.drop j).foldl (moveStep a) m) (wrap64 (i + 1)) = R) →
      reefref12_Moves.l1 k h ws vs from_ n size kind m i a b j = R := by
  intro d
  induction d with
  | zero =>
    intro k j m hj hk hrec
    obtain ⟨k, rfl⟩ : ∃ k', k = k' + 1 := ⟨k - 1, by omega⟩
    simp only [reefref12_Moves.l1]
    rw [if_neg (by omega)]
    have := hrec k (by omega)
    rwa [List.drop_eq_nil_of_le (by omega), List.foldl_nil] at this
  | succ d ih =>
    intro k j m hj hk hrec
    obtain ⟨k, rfl⟩ : ∃ k', k = k' + 1 := ⟨k - 1, by omega⟩
    have hlt : j < b.length := by omega
    have hw : wrap64 ((j : Int) + 1) = ((j + 1 : Nat) : Int) := by unfold wrap64; omega
    simp only [reefref12_Moves.l1]
    rw [if_pos (by omega)]
    rw [List.drop_eq_getElem_cons hlt, List.foldl_cons] at hrec
    refine rmoves_l2 h ws vs from_ n size kind m i a b ha j hlt R (k0 + d * 10 + 1) a.length k 0 false (by omega) (by omega) ?_ ?_
    · intro hh K hK
      have hm : b[j] ∈ a := hh.elim (fun hf => by cases hf) (fun hm => by rwa [List.drop_zero] at hm)
      rw [show moveStep a m b[j] = m from if_pos hm] at hrec
      rw [hw]
      exact ih K (j + 1) _ (by omega) hK hrec
    · intro hh K hK
      have hm : b[j] ∉ a := fun hm => hh (Or.inr (by rwa [List.drop_zero]))
      rw [show moveStep a m b[j] = wrap64 (m + 1) from if_neg hm] at hrec
      rw [hw]
      exact ih K (j + 1) _ (by omega) hK hrec
theorem rmoves_l0 (h ws vs : List Int) (from_ n size kind : Int) (hl : h.length ≤ 1000) (hs : size ≤ 4) (N : Nat) (hn : mn (mx n 0) 2000 = (N : Int)) (hN : N ≤ 2000) : ∀ (d k i : Nat), N = i + d → 1030000 + d * 100 + 2 ≤ k →
    reefref12_Moves.l0 k h ws vs from_ n size kind (movesN h ws vs from_ size kind i) i = some (movesN h ws vs from_ size kind N) := by
  intro d
  induction d with
  | zero =>
    intro k i hi hk
    obtain ⟨k, rfl⟩ : ∃ k', k = k' + 1 := ⟨k - 1, by omega⟩
    simp only [reefref12_Moves.l0, reefref12_many.f, Option.bind_some]
    rw [hn, if_neg (by omega), show i = N from by omega]
  | succ d ih =>
    intro k i hi hk
    obtain ⟨k, rfl⟩ : ∃ k', k = k' + 1 := ⟨k - 1, by omega⟩
    have hpa := pl_len4 h ws ((from_ + ((i : Int) % 4294967296)) % 4294967296) size kind hs
    have hpb := pl_len4 h vs ((from_ + ((i : Int) % 4294967296)) % 4294967296) size kind hs
    have hdef : movesN h ws vs from_ size kind (i + 1) = (plS h vs ((from_ + ((i : Int) % 4294967296)) % 4294967296) size kind).foldl (moveStep (plS h ws ((from_ + ((i : Int) % 4294967296)) % 4294967296) size kind)) (movesN h ws vs from_ size kind i) := rfl
    simp only [reefref12_Moves.l0, reefref12_many.f, Option.bind_some]
    rw [hn, if_pos (by omega), rplace_eq h ws _ size kind hl k (by omega), Option.bind_some, rplace_eq h vs _ size kind hl k (by omega), Option.bind_some]
    generalize plS h ws ((from_ + ((i : Int) % 4294967296)) % 4294967296) size kind = a at *
    generalize plS h vs ((from_ + ((i : Int) % 4294967296)) % 4294967296) size kind = b at *
    refine rmoves_l1 h ws vs from_ n size kind a b hpa hpb i _ (1030000 + d * 100 + 2) b.length k 0 _ (by omega) (by omega) ?_
    intro K hK
    have hw : wrap64 ((i : Int) + 1) = ((i + 1 : Nat) : Int) := by unfold wrap64; omega
    rw [List.drop_zero, hw, ← hdef]
    exact ih K (i + 1) (by omega) hK
theorem rmoves_eq (h ws vs : List Int) (from_ n size kind : Int) (hl : h.length ≤ 1000) (hs : size ≤ 4) (K : Nat) (hK : 1300000 ≤ K) : reefref12_Moves.f K h ws vs from_ n size kind = some (movesS h ws vs from_ n size kind) := by
  unfold reefref12_Moves.f movesS
  have hc := cntS_eq n
  exact rmoves_l0 h ws vs from_ n size kind hl hs (cntS n) hc.1 hc.2 (cntS n) K 0 (by omega) (by omega)
end Go.Proofs.Ytbaldkcnipmdjaa.P
namespace Go.Proofs.Ytbaldkcnipmdjaa.P
open Go.RowKit Go.Proofs.YtbaldkcnipmdjaaW.PrintWords Go.Proofs.YtbaldkcnipmdjaaW.PrintLast Go.Proofs.YtbaldkcnipmdjaaW.PrintMore Go.Proofs.YtbaldkcnipmdjaaW.HB
set_option linter.unusedVariables false
set_option linter.unusedSimpArgs false
attribute [local go_sem] max_two min_two max_three min_three max_four min_four
set_option maxRecDepth 100000 in
set_option maxHeartbeats 4000000 in
theorem reeflaw12_RuleCounts.calls (A0 : Option Addr) (c0 : Nat) (l0 : List Int) (A1 : Option Addr) (c1 : Nat) (l1 : List Int) (A2 : Option Addr) (c2 : Nat) (l2 : List Int) (a3 a4 a5 a6 : Int) (w : World) (hr0 : Kd.C (Kd.int .i64) w A0 l0.length l0) (hc0 : l0.length ≤ c0) (hr1 : Kd.C (Kd.int .i64) w A1 l1.length l1) (hc1 : l1.length ≤ c1) (hr2 : Kd.C (Kd.int .i64) w A2 l2.length l2) (hc2 : l2.length ≤ c2) :
    Calls Try.prog 7 #[.slice A0 l0.length c0, .slice A1 l1.length c1, .slice A2 l2.length c2, .int .u32 a3, .int .i64 a4, .int .i64 a5, .int .i64 a6] w fun e w' => e = .returned (.bool true) ∧ Below w.heap.size w w' := by
  have F0 := few_at A0 c0 l0 6 w hc0
  have C0 := C_few 6 hr0
  have L0 : (l0.take 6).length ≤ 6 := by rw [List.length_take]; omega
  have K0 : (l0.take 6).length ≤ c0 := by rw [List.length_take]; omega
  generalize l0.take 6 = h at *
  have hmin : Builtin.min2 (.int .i64 a4) (.int .i64 30) = pure (.int .i64 (if 30 < a4 then 30 else a4)) := min2_int _ _ _ _
  generalize (if 30 < a4 then 30 else a4) = n at *
  have hmin2 : Builtin.min2 (.int .i64 a5) (.int .i64 4) = pure (.int .i64 (if 4 < a5 then 4 else a5)) := min2_int _ _ _ _
  have hs4 : (if 4 < a5 then 4 else a5) ≤ 4 := by split <;> omega
  generalize (if 4 < a5 then 4 else a5) = s at *
  have Q1 := Aside0.mk (load_eq h l1 a3 n s a6 (by omega) hs4 2000000 (by omega))
  have Q2 := Aside0.mk (rload_eq h l1 a3 n s a6 (by omega) hs4 2000000 (by omega))
  have M1 := Aside0.mk (moves_eq h l1 l2 a3 n s a6 (by omega) hs4 2000000 (by omega))
  have M2 := Aside0.mk (rmoves_eq h l1 l2 a3 n s a6 (by omega) hs4 2000000 (by omega))
  generalize loadS h l1 a3 n s a6 = p at *
  generalize movesS h l1 l2 a3 n s a6 = m at *
  replace F0 := Aside0.mk F0
  replace hs4 := Aside0.mk hs4
  have B0 := Below.refl w.heap.size w
  clear hr0
  go_enter Try.func7, Try.ntmps7
  go_wp2_with (first
    | (go_at_call 9; refine F0.out.mono ?_; rintro e w1 ⟨rfl, rfl⟩; clear F0)
    | (go_at_call 22; refine (rule_Load.calls 2000000 A0 c0 h A1 c1 l1 a3 n s a6 p _ C0 K0 hr1 hc1 Q1.out).mono ?_; rintro e w2 ⟨v, rfl, hR, hW⟩; obtain ⟨Ap, cp, rfl⟩ := Kd.R_slice hR; have CP := (Kd.R_reads' hR).2.2; have LP := (Kd.R_reads' hR).2.1; replace C0 := Kd.C_below C0 hW; replace hr1 := Kd.C_below hr1 hW; replace hr2 := Kd.C_below hr2 hW; have B1 := below_step B0 hW; clear hW hR B0 Q1)
    | (go_at_call 23; refine (reefref12_Load.calls 2000000 A0 c0 h A1 c1 l1 a3 n s a6 p _ C0 K0 hr1 hc1 Q2.out).mono ?_; rintro e w3 ⟨v, rfl, hR, hW⟩; obtain ⟨Aq, cq, rfl⟩ := Kd.R_slice hR; have CQ := (Kd.R_reads' hR).2.2; have LQ := (Kd.R_reads' hR).2.1; replace C0 := Kd.C_below C0 hW; replace hr1 := Kd.C_below hr1 hW; replace hr2 := Kd.C_below hr2 hW; replace CP := Kd.C_below CP hW; have B2 := below_step B1 hW; clear hW hR B1 Q2)
    | (go_at_call 12; refine (reeflaw12_ints.calls (p.length + 1) Ap cp p Aq cq p true _ CP LP CQ LQ (ints_same p CP.2.1)).mono ?_; rintro e w11 ⟨rfl, hD⟩; have hW := hD.below; clear hD; replace C0 := Kd.C_below C0 hW; replace hr1 := Kd.C_below hr1 hW; replace hr2 := Kd.C_below hr2 hW; have B3 := below_step B2 hW; clear hW B2 CP CQ LP LQ)
    | (go_at_call 24; refine (rule_Moves.calls 2000000 A0 c0 h A1 c1 l1 A2 c2 l2 a3 n s a6 m _ C0 K0 hr1 hc1 hr2 hc2 M1.out).mono ?_; rintro e w5 ⟨rfl, hW⟩; replace C0 := Kd.C_below C0 hW; replace hr1 := Kd.C_below hr1 hW; replace hr2 := Kd.C_below hr2 hW; have B4 := below_step B3 hW; clear hW B3 M1)
    | (go_at_call 25; refine (reefref12_Moves.calls 2000000 A0 c0 h A1 c1 l1 A2 c2 l2 a3 n s a6 m _ C0 K0 hr1 hc1 hr2 hc2 M2.out).mono ?_; rintro e w6 ⟨rfl, hW⟩; have B5 := below_step B4 hW; clear hW B4 M2)
    | (go_at_call 17; refine (reeflaw12_awake.calls true _ rfl).mono ?_; rintro e w13 ⟨rfl, hW⟩; have B6 := below_step B5 hW; clear hW B5))
  go_ret
  exact ⟨rfl, B6⟩
end Go.Proofs.Ytbaldkcnipmdjaa.P
