/- Texts of this claim, merged by pack.py: B1 PReefref21Same Q3 PReefref21Later PReefref21Behind -/
import Derived.Test.YtbdciklcckjknaaZD09
import Derived.Test.YtbdciklcckjknaaZD05
import Derived.Test.YtbdciklcckjknaaZD08
import Derived.Test.YtbdciklcckjknaaZD01
namespace Go.Proofs.Ytbdciklcckjknaa.P
open Go.RowKit Go.Proofs.YtbdciklcckjknaaW.PrintWords Go.Proofs.YtbdciklcckjknaaW.PrintLast Go.Proofs.YtbdciklcckjknaaW.PrintMore Go.Proofs.YtbdciklcckjknaaW.HB
set_option linter.unusedVariables false
set_option linter.unusedSimpArgs false
def lateB (e v : Int) (x : S34) : Bool := decide (x.f0.f0 > e ∨ x.f0.f0 = e ∧ x.f0.f1 > v)
theorem lateB_f (e v : Int) (x : S34) : pglog_Later.f x.f0.f0 x.f0.f1 e v = some (lateB e v x) := by
  unfold pglog_Later.f lateB
  by_cases h1 : x.f0.f0 > e
  · rw [if_pos h1, decide_eq_true (.inl h1)]
  · rw [if_neg h1]
    by_cases h2 : x.f0.f0 = e
    · rw [if_pos h2]
      congr 1
      rw [Bool.eq_iff_iff, decide_eq_true_iff, decide_eq_true_iff]
      omega
    · rw [if_neg h2, decide_eq_false (by omega)]
theorem pglog_Behind_1.calls (x : S34) (g : Nat) (e v : Int) (w : World) (hb : w.heap[g]? = some (.cells #[.int .i64 e, .int .i64 v] 24 (0, 0))) :
    Calls Try.prog 32 #[.agg #[.int .i64 x.f0.f0, .int .i64 x.f0.f1, .int .i64 x.f1.f0, .int .i64 x.f1.f1, .int .i64 x.f1.f2, .int .i64 x.f1.f3.f0, .string x.f1.f3.f1, .int .i64 x.f1.f3.f2, .int .i64 x.f1.f3.f3, .string x.f1.f3.f4, .int .i64 x.f2.f0, .int .i64 x.f2.f1, .int .i64 x.f2.f2, .string x.f2.f3], .pointer (some ⟨g, 0, none⟩)] w fun r w' => r = .returned (.bool (!lateB e v x)) ∧ Below w.heap.size w w' := by
  have hlt := (Array.getElem?_eq_some_iff.1 hb).1
  have hu := Try.underlying34
  have hu2 := Try.underlying24
  have h0 : w.cell? ⟨g, 0, none⟩ = some (.int .i64 e) := by simp [World.cell?, hb]
  have h1 : w.cell? ⟨g, 1, none⟩ = some (.int .i64 v) := by simp [World.cell?, hb]
  clear hb
  have HL := Aside0.mk (lateB_f e v x)
  generalize lateB e v x = r at *
  go_enter Try.func32, Try.ntmps32
  go_wp2_with (first | (go_at_call 7; refine (pglog_Later.calls _ _ _ _ r _ HL.out).mono ?_; rintro e' w1 ⟨rfl, hB⟩; have HB := Aside0.mk hB; clear hB))
  go_ret
  exact ⟨rfl, below_step (below_alloc (Below.refl _ _) _) HB.out⟩
theorem slices_DeleteFunc_N.empty (fid : Nat) (caps : Array Value) (A : Option Addr) (c : Nat) (w : World) (eg : ∀ args w, (callFunc fid args).run Try.prog w = .ok (.enter fid args) w) (hC : Kd.C k34 w A 0 ([] : List S34)) :
    Calls Try.prog 31 #[.slice A 0 c, .func (.func fid) #[] caps] w fun e w' => e = .returned (.slice A 0 c) ∧ Below w.heap.size w w' := by
  have HC := Aside0.mk hC
  clear hC
  have hi : idxOf (fun _ : S34 => false) [] = -1 := rfl
  go_enter Try.func31, Try.ntmps31
  go_wp2_with (first | (go_at_call 55; refine (slices_IndexFunc_N.calls fid caps (fun _ => false) A c [] _ HC.out (Nat.zero_le _) eg (fun x hx => absurd hx (by simp))).mono ?_; rintro e w1 ⟨rfl, hb⟩; have HB := Aside0.mk hb; clear hb; rw [hi]))
  go_ret
  exact ⟨rfl, HB.out⟩
theorem own_base {α : Type} {d : Kd α} {e : Nat} {w : World} {base : Nat} {ok : Nat → Prop} {v : Value} {xs : List α} (h : d.R e w base ok v xs) (k : Nat) (hk : v.ownBlock = some k) : base ≤ k := ((Kd.R_bound h).1 k hk).2.1
theorem del_late (A : Option Addr) (c : Nat) (base : Nat) (ok : Nat → Prop) (l : List S34) (g : Nat) (e v : Int) (w : World) (hR : Kd.R k34 34 w base ok (.slice A l.length c) l) (hb : w.heap[g]? = some (.cells #[.int .i64 e, .int .i64 v] 24 (0, 0))) (hg : g < base) :
    Calls Try.prog 31 #[.slice A l.length c, .func (.func 32) #[] #[.pointer (some ⟨g, 0, none⟩)]] w fun r w' => ∃ v', r = .returned v' ∧ Kd.R k34 34 w' base ok v' (l.filter (lateB e v)) ∧ ∃ row, w.grownBy w' row ∧ ∀ k, row = some k → base ≤ k := by
  have hen := Go.Proofs.enters_of Try.func32 (by kernel_rfl) rfl
  rcases Nat.eq_zero_or_pos l.length with h0 | hpos
  · obtain rfl := List.eq_nil_of_length_eq_zero h0
    refine (slices_DeleteFunc_N.empty 32 _ A c w hen (Kd.R_reads' hR).2.2).mono ?_
    rintro e w1 ⟨rfl, hb⟩
    exact ⟨_, rfl, Kd.R_below hR hb, none, grown_of_below hb _, fun k e => by cases e⟩
  · obtain ⟨g', c', he, hgb, hgl, hgc⟩ := Kd.R_form hR hpos
    have hown := own_base hR
    injection he with he1 _ he3
    subst he1 he3
    have hfil : l.filter (fun x => !(fun x => !lateB e v x) x) = l.filter (lateB e v) := by simp
    refine (slices_DeleteFunc_N.calls 32 _ (fun x => !lateB e v x) g' l.length c base ok l w hR hen (fun x hx w1 hG => ?_)).mono ?_
    · exact pglog_Behind_1.calls x g e v w1 ((hG.block g (Array.getElem?_eq_some_iff.1 hb).1 (fun e => by cases e; omega)).trans hb)
    · rintro r w1 ⟨m, rfl, hR1, hG⟩
      rw [hfil] at hR1
      exact ⟨_, rfl, hR1, _, hG, fun k e => by cases e; exact hgb⟩
def pglog_Behind.f (l0 : List S34) (e v : Int) : Option (List S34) := if l0.length < 1034834473200 then some (l0.filter (lateB e v)) else none
theorem pglog_Behind.calls (A0 : Option Addr) (c0 : Nat) (l0 : List S34) (e v : Int) (r : List S34) (w : World) (hr0 : Kd.C k34 w A0 l0.length l0) (hc0 : l0.length ≤ c0) (h : pglog_Behind.f l0 e v = some r) :
    Calls Try.prog 15 #[.slice A0 l0.length c0, .agg #[.int .i64 e, .int .i64 v]] w fun e' w' => ∃ v0_ : Value, e' = .returned v0_ ∧ Kd.R k34 34 w' w.heap.size (fun _ => True) v0_ r ∧ Below w.heap.size w w' := by
  unfold pglog_Behind.f at h
  split at h
  case isFalse => cases h
  rename_i hl
  obtain rfl := Option.some.inj h
  clear h
  have HCL := Aside0.mk (show slices_Clone_N.f l0 = some l0 from by unfold slices_Clone_N.f; rw [if_pos hl])
  have HR0 := Aside0.mk hr0
  have HC0 := Aside0.mk hc0
  clear hr0 hc0 hl
  have hu := Try.underlying24
  go_enter Try.func15, Try.ntmps15
  go_wp2_with (first
    | (go_at_call 30; refine (slices_Clone_N.calls A0 c0 l0 l0 _ (Kd.C_alloc HR0.out _) HC0.out HCL.out).mono ?_; rintro e1 w1 ⟨v1, rfl, hR, hW⟩; obtain ⟨Av, cv, rfl⟩ := Kd.R_slice hR; have HR := Aside0.mk hR; have HW := Aside0.mk hW; clear hR hW)
    | (go_at_call 31; refine (del_late Av cv (w.alloc (.cells #[.int .i64 e, .int .i64 v] 24)).heap.size (fun _ => True) l0 w.heap.size e v _ HR.out ((HW.out.block _ (by simp)).trans (World.alloc_heap_new w _)) (by simp)).mono ?_; rintro e2 w2 ⟨v2, rfl, hR, row, hg, hrow⟩; have HR2 := Aside0.mk hR; have HW2 := Aside0.mk (pw_below_grown (below_step (below_alloc (Below.refl w.heap.size w) (.cells #[.int .i64 e, .int .i64 v] 24)) HW.out) row (below_step (below_alloc (Below.refl w.heap.size w) (.cells #[.int .i64 e, .int .i64 v] 24)) HW.out).size hg (fun k hk => by have := hrow k hk; simp at this; omega)); clear hR hg hrow HR HW))
  go_ret
  exact ⟨v2, rfl, Kd.R_lower HR2.out (by simp), HW2.out⟩
end Go.Proofs.Ytbdciklcckjknaa.P
namespace Go.Proofs.Ytbdciklcckjknaa.P
open Go.RowKit Go.Proofs.YtbdciklcckjknaaW.PrintWords Go.Proofs.YtbdciklcckjknaaW.PrintLast Go.Proofs.YtbdciklcckjknaaW.PrintMore
attribute [local go_sem] max2_int min2_int max_two min_two max_three min_three max_four min_four
set_option linter.unusedVariables false
set_option linter.unusedSimpArgs false
attribute [local go_sem high] eqA34
def reefref21_Same.l0 : Nat → List (S34) → List (S34) → Int → Option (Bool)
  | 0, _, _, _ => none
  | k + 1, x0, x1, x5 => if x5 < (x0.length : Int) then (if 0 ≤ x5 then (if x5 < (x1.length : Int) then (if ((!(((rd_T34 x0 x5).f0.f0) == ((rd_T34 x1 x5).f0.f0)) || (!(((rd_T34 x0 x5).f0.f1) == ((rd_T34 x1 x5).f0.f1)))) || ((!(((rd_T34 x0 x5).f1.f0) == ((rd_T34 x1 x5).f1.f0)) || (!(((rd_T34 x0 x5).f1.f1) == ((rd_T34 x1 x5).f1.f1)) || (!(((rd_T34 x0 x5).f1.f2) == ((rd_T34 x1 x5).f1.f2)) || ((!(((rd_T34 x0 x5).f1.f3.f0) == ((rd_T34 x1 x5).f1.f3.f0)) || (!((((rd_T34 x0 x5).f1.f3.f1).toList) == (((rd_T34 x1 x5).f1.f3.f1).toList)) || (!(((rd_T34 x0 x5).f1.f3.f2) == ((rd_T34 x1 x5).f1.f3.f2)) || (!(((rd_T34 x0 x5).f1.f3.f3) == ((rd_T34 x1 x5).f1.f3.f3)) || (!((((rd_T34 x0 x5).f1.f3.f4).toList) == (((rd_T34 x1 x5).f1.f3.f4).toList))))))))))) || ((!(((rd_T34 x0 x5).f2.f0) == ((rd_T34 x1 x5).f2.f0)) || (!(((rd_T34 x0 x5).f2.f1) == ((rd_T34 x1 x5).f2.f1)) || (!(((rd_T34 x0 x5).f2.f2) == ((rd_T34 x1 x5).f2.f2)) || (!((((rd_T34 x0 x5).f2.f3).toList) == (((rd_T34 x1 x5).f2.f3).toList))))))))) = true then (some false) else (reefref21_Same.l0 k x0 x1 (wrap64 (x5 + 1)))) else (none)) else (none)) else (some true)
def reefref21_Same.f (k : Nat) (l0 : List (S34)) (l1 : List (S34)) : Option (Bool) := if (l0.length : Int) = (l1.length : Int) then (reefref21_Same.l0 k l0 l1 0) else (some false)
set_option maxHeartbeats 8000000 in
set_option maxRecDepth 100000 in
theorem reefref21_Same.calls (k : Nat) (A0 : Option Addr) (c0 : Nat) (l0 : List (S34)) (A1 : Option Addr) (c1 : Nat) (l1 : List (S34)) (r : Bool) (w : World) (hr0 : Kd.C k34 w A0 l0.length l0) (hc0 : l0.length ≤ c0) (hr1 : Kd.C k34 w A1 l1.length l1) (hc1 : l1.length ≤ c1) (h : reefref21_Same.f k l0 l1 = some r) :
    Calls Try.prog 14 #[.slice A0 l0.length c0, .slice A1 l1.length c1] w fun e w' => e = .returned (.bool r) ∧ Drawn0 w w' := by
  have hu34 := Try.underlying34
  have HR0 := Aside0.mk hr0
  have HC0 := Aside0.mk hc0
  clear hr0 hc0
  have HR1 := Aside0.mk hr1
  have HC1 := Aside0.mk hc1
  clear hr1 hc1
  have H : (if (l0.length : Int) = (l1.length : Int) then (reefref21_Same.l0 k l0 l1 0) else (some false)) = some r := h
  clear h
  by_cases c3 : (l0.length : Int) = (l1.length : Int)
  · rw [if_pos c3] at H
    have c3b0 : ((l0.length : Int) == (l1.length : Int)) = true := beq_iff_eq.mpr c3
    have c3b1 : ((l0.length : Int) != (l1.length : Int)) = false := bne_eq_false_iff_eq.mpr c3
    have c3b2 : (l0.length == l1.length) = true := by first | simpa using c3 | (simp at c3 ⊢; omega)
    clear c3
    have H' := Aside0.mk H
    clear H
    go_enter Try.func14, Try.ntmps14
    go_wp2
    repeat (go_quiet (fail); try go_wp2)
    go_loopg [5] k (fun kq v5 w' => ∃ (x5_1 : Int), v5 = .int .i64 x5_1 ∧ Aside0 (reefref21_Same.l0 kq l0 l1 x5_1 = some r) ∧ Aside0 (kq ≤ k) ∧ Drawn0 w w')
    case atStart => exact ⟨(0), (by first | rfl | (simp; done) | (simp [*]; done)), H', ⟨Nat.le_refl _⟩, by repeat (first | exact Drawn0.refl _ | apply Drawn0.step)⟩
    case round =>
      clear H'
      try clear c1
      try clear p2
      try clear c3
      try clear c3b0
      try clear c3b1
      try clear c3b2
      obtain ⟨x5_1, rfl, HA, HK1, ⟨m1, rfl⟩⟩ := hrel
      cases gk with
      | zero => exact absurd HA.out (by simp [reefref21_Same.l0])
      | succ k1 =>
        have H := HA.out
        clear HA
        simp only [reefref21_Same.l0] at H
        by_cases c4 : x5_1 < (l0.length : Int)
        · rw [if_pos c4] at H
          have c4b0 : decide (x5_1 < (l0.length : Int)) = true := decide_eq_true c4
          clear c4
          by_cases c5 : 0 ≤ x5_1
          · rw [if_pos c5] at H
            have c5b0 : decide (0 ≤ x5_1) = true := decide_eq_true c5
            clear c5
            by_cases c6 : x5_1 < (l1.length : Int)
            · rw [if_pos c6] at H
              have c6b0 : decide (x5_1 < (l1.length : Int)) = true := decide_eq_true c6
              clear c6
              by_cases c7 : ((!(((rd_T34 l0 x5_1).f0.f0) == ((rd_T34 l1 x5_1).f0.f0)) || (!(((rd_T34 l0 x5_1).f0.f1) == ((rd_T34 l1 x5_1).f0.f1)))) || ((!(((rd_T34 l0 x5_1).f1.f0) == ((rd_T34 l1 x5_1).f1.f0)) || (!(((rd_T34 l0 x5_1).f1.f1) == ((rd_T34 l1 x5_1).f1.f1)) || (!(((rd_T34 l0 x5_1).f1.f2) == ((rd_T34 l1 x5_1).f1.f2)) || ((!(((rd_T34 l0 x5_1).f1.f3.f0) == ((rd_T34 l1 x5_1).f1.f3.f0)) || (!((((rd_T34 l0 x5_1).f1.f3.f1).toList) == (((rd_T34 l1 x5_1).f1.f3.f1).toList)) || (!(((rd_T34 l0 x5_1).f1.f3.f2) == ((rd_T34 l1 x5_1).f1.f3.f2)) || (!(((rd_T34 l0 x5_1).f1.f3.f3) == ((rd_T34 l1 x5_1).f1.f3.f3)) || (!((((rd_T34 l0 x5_1).f1.f3.f4).toList) == (((rd_T34 l1 x5_1).f1.f3.f4).toList))))))))))) || ((!(((rd_T34 l0 x5_1).f2.f0) == ((rd_T34 l1 x5_1).f2.f0)) || (!(((rd_T34 l0 x5_1).f2.f1) == ((rd_T34 l1 x5_1).f2.f1)) || (!(((rd_T34 l0 x5_1).f2.f2) == ((rd_T34 l1 x5_1).f2.f2)) || (!((((rd_T34 l0 x5_1).f2.f3).toList) == (((rd_T34 l1 x5_1).f2.f3).toList))))))))) = true
              · rw [if_pos c7] at H
                have c7b0 : ((!(((rd_T34 l0 x5_1).f0.f0) == ((rd_T34 l1 x5_1).f0.f0)) || (!(((rd_T34 l0 x5_1).f0.f1) == ((rd_T34 l1 x5_1).f0.f1)))) || ((!(((rd_T34 l0 x5_1).f1.f0) == ((rd_T34 l1 x5_1).f1.f0)) || (!(((rd_T34 l0 x5_1).f1.f1) == ((rd_T34 l1 x5_1).f1.f1)) || (!(((rd_T34 l0 x5_1).f1.f2) == ((rd_T34 l1 x5_1).f1.f2)) || ((!(((rd_T34 l0 x5_1).f1.f3.f0) == ((rd_T34 l1 x5_1).f1.f3.f0)) || (!((((rd_T34 l0 x5_1).f1.f3.f1).toList) == (((rd_T34 l1 x5_1).f1.f3.f1).toList)) || (!(((rd_T34 l0 x5_1).f1.f3.f2) == ((rd_T34 l1 x5_1).f1.f3.f2)) || (!(((rd_T34 l0 x5_1).f1.f3.f3) == ((rd_T34 l1 x5_1).f1.f3.f3)) || (!((((rd_T34 l0 x5_1).f1.f3.f4).toList) == (((rd_T34 l1 x5_1).f1.f3.f4).toList))))))))))) || ((!(((rd_T34 l0 x5_1).f2.f0) == ((rd_T34 l1 x5_1).f2.f0)) || (!(((rd_T34 l0 x5_1).f2.f1) == ((rd_T34 l1 x5_1).f2.f1)) || (!(((rd_T34 l0 x5_1).f2.f2) == ((rd_T34 l1 x5_1).f2.f2)) || (!((((rd_T34 l0 x5_1).f2.f3).toList) == (((rd_T34 l1 x5_1).f2.f3).toList))))))))) = true := c7
                clear c7
                obtain rfl := Option.some.inj H
                have p177 : 0 ≤ (x5_1 : Int) := of_decide_eq_true (by first | (with_reducible assumption) | assumption)
                have q177 : x5_1 < (l0.length : Int) := of_decide_eq_true (by first | (with_reducible assumption) | assumption)
                obtain ⟨ad177, e177, hx177_0, hx177_1, hx177_2, hx177_3, hx177_4, hx177_5, hx177_6, hx177_7, hx177_8, hx177_9, hx177_10, hx177_11, hx177_12, hx177_13⟩ := at_T34 HR0.out x5_1 p177 q177
                cases e177
                replace p177 := eq_true p177
                replace q177 := eq_true q177
                have p178 : 0 ≤ (x5_1 : Int) := of_decide_eq_true (by first | (with_reducible assumption) | assumption)
                have q178 : x5_1 < (l1.length : Int) := of_decide_eq_true (by first | (with_reducible assumption) | assumption)
                obtain ⟨ad178, e178, hx178_0, hx178_1, hx178_2, hx178_3, hx178_4, hx178_5, hx178_6, hx178_7, hx178_8, hx178_9, hx178_10, hx178_11, hx178_12, hx178_13⟩ := at_T34 HR1.out x5_1 p178 q178
                cases e178
                replace p178 := eq_true p178
                replace q178 := eq_true q178
                go_wp2
                repeat (go_quiet (fail); try go_wp2)
                go_ret
                exact ⟨by first | rfl | (simp; done) | (simp [*]; done), by repeat (first | exact Drawn0.refl _ | apply Drawn0.step)⟩
              · rw [if_neg c7] at H
                have c7b0 : ((!(((rd_T34 l0 x5_1).f0.f0) == ((rd_T34 l1 x5_1).f0.f0)) || (!(((rd_T34 l0 x5_1).f0.f1) == ((rd_T34 l1 x5_1).f0.f1)))) || ((!(((rd_T34 l0 x5_1).f1.f0) == ((rd_T34 l1 x5_1).f1.f0)) || (!(((rd_T34 l0 x5_1).f1.f1) == ((rd_T34 l1 x5_1).f1.f1)) || (!(((rd_T34 l0 x5_1).f1.f2) == ((rd_T34 l1 x5_1).f1.f2)) || ((!(((rd_T34 l0 x5_1).f1.f3.f0) == ((rd_T34 l1 x5_1).f1.f3.f0)) || (!((((rd_T34 l0 x5_1).f1.f3.f1).toList) == (((rd_T34 l1 x5_1).f1.f3.f1).toList)) || (!(((rd_T34 l0 x5_1).f1.f3.f2) == ((rd_T34 l1 x5_1).f1.f3.f2)) || (!(((rd_T34 l0 x5_1).f1.f3.f3) == ((rd_T34 l1 x5_1).f1.f3.f3)) || (!((((rd_T34 l0 x5_1).f1.f3.f4).toList) == (((rd_T34 l1 x5_1).f1.f3.f4).toList))))))))))) || ((!(((rd_T34 l0 x5_1).f2.f0) == ((rd_T34 l1 x5_1).f2.f0)) || (!(((rd_T34 l0 x5_1).f2.f1) == ((rd_T34 l1 x5_1).f2.f1)) || (!(((rd_T34 l0 x5_1).f2.f2) == ((rd_T34 l1 x5_1).f2.f2)) || (!((((rd_T34 l0 x5_1).f2.f3).toList) == (((rd_T34 l1 x5_1).f2.f3).toList))))))))) = false := by simpa using c7
                clear c7
                have H' := Aside0.mk H
                clear H
                have p177 : 0 ≤ (x5_1 : Int) := of_decide_eq_true (by first | (with_reducible assumption) | assumption)
                have q177 : x5_1 < (l0.length : Int) := of_decide_eq_true (by first | (with_reducible assumption) | assumption)
                obtain ⟨ad177, e177, hx177_0, hx177_1, hx177_2, hx177_3, hx177_4, hx177_5, hx177_6, hx177_7, hx177_8, hx177_9, hx177_10, hx177_11, hx177_12, hx177_13⟩ := at_T34 HR0.out x5_1 p177 q177
                cases e177
                replace p177 := eq_true p177
                replace q177 := eq_true q177
                have p178 : 0 ≤ (x5_1 : Int) := of_decide_eq_true (by first | (with_reducible assumption) | assumption)
                have q178 : x5_1 < (l1.length : Int) := of_decide_eq_true (by first | (with_reducible assumption) | assumption)
                obtain ⟨ad178, e178, hx178_0, hx178_1, hx178_2, hx178_3, hx178_4, hx178_5, hx178_6, hx178_7, hx178_8, hx178_9, hx178_10, hx178_11, hx178_12, hx178_13⟩ := at_T34 HR1.out x5_1 p178 q178
                cases e178
                replace p178 := eq_true p178
                replace q178 := eq_true q178
                go_wp2
                repeat (go_quiet (fail); try go_wp2)
                go_roundg k1
                case measure => have := HK1.out; omega
                case rel => exact ⟨(wrap64 (x5_1 + 1)), (by first | rfl | (simp; done) | (simp [*]; done)), H', ⟨by have := HK1.out; omega⟩, by repeat (first | exact Drawn0.refl _ | apply Drawn0.step)⟩
            · rw [if_neg c6] at H
              exact absurd H (by simp)
          · rw [if_neg c5] at H
            exact absurd H (by simp)
        · rw [if_neg c4] at H
          have c4b0 : decide (x5_1 < (l0.length : Int)) = false := decide_eq_false c4
          clear c4
          obtain rfl := Option.some.inj H
          go_wp2
          repeat (go_quiet (fail); try go_wp2)
          go_ret
          exact ⟨by first | rfl | (simp; done) | (simp [*]; done), by repeat (first | exact Drawn0.refl _ | apply Drawn0.step)⟩
  · rw [if_neg c3] at H
    have c3b0 : ((l0.length : Int) == (l1.length : Int)) = false := beq_eq_false_iff_ne.mpr c3
    have c3b1 : ((l0.length : Int) != (l1.length : Int)) = true := bne_iff_ne.mpr c3
    have c3b2 : (l0.length == l1.length) = false := by first | simpa using c3 | (simp at c3 ⊢; omega)
    obtain rfl := Option.some.inj H
    go_enter Try.func14, Try.ntmps14
    go_wp2
    repeat (go_quiet (fail); try go_wp2)
    go_ret
    exact ⟨by first | rfl | (simp; done) | (simp [*]; done), by repeat (first | exact Drawn0.refl _ | apply Drawn0.step)⟩
end Go.Proofs.Ytbdciklcckjknaa.P
namespace Go.Proofs.Ytbdciklcckjknaa.P
open Go.RowKit Go.Proofs.YtbdciklcckjknaaW.PrintWords Go.Proofs.YtbdciklcckjknaaW.PrintLast Go.Proofs.YtbdciklcckjknaaW.PrintMore Go.Proofs.YtbdciklcckjknaaW.HB
set_option linter.unusedVariables false
set_option linter.unusedSimpArgs false
theorem same_l0 (l : List S34) (hl : l.length ≤ 1099511627776) : ∀ (d k i : Nat), l.length - i ≤ d → i ≤ l.length → d < k → reefref21_Same.l0 k l l i = some true
  | d, 0, i, _, _, h => absurd h (by omega)
  | 0, k + 1, i, h0, h1, _ => by
    simp only [reefref21_Same.l0]
    rw [if_neg (by omega)]
  | d + 1, k + 1, i, h0, h1, h2 => by
    simp only [reefref21_Same.l0]
    by_cases hlt : i < l.length
    · have hrec := same_l0 l hl d k (i + 1) (by omega) (by omega) (by omega)
      have hi0 : (0 : Int) ≤ (i : Int) := by omega
      have hi1 : (i : Int) < (l.length : Int) := by omega
      rw [if_pos hi1, if_pos hi0, if_pos hi1, wrap64_small _ (by omega) (by omega), if_neg (by simp)]
      exact hrec
    · rw [if_neg (by omega)]
theorem same_refl (k : Nat) (l : List S34) (hl : l.length ≤ 1099511627776) (hk : l.length < k) : reefref21_Same.f k l l = some true := by
  unfold reefref21_Same.f
  rw [if_pos rfl]
  exact same_l0 l hl l.length k 0 (by omega) (by omega) hk
structure Gl (l : List S34) (e v : Int) : Prop where
  inv : InvL l e v l.length
  old : ∀ z ∈ l, lateB e v z = false
structure Gn (l : List S34) (e v : Int) (a : List S34) (x y : Int) : Prop where
  inv : InvL a x y a.length
  ge : e ≤ x ∧ v ≤ y
  more : ∃ t, a = l ++ t ∧ ∀ z ∈ t, lateB e v z = true
theorem Gl.nil : Gl [] 0 0 := ⟨InvL.nil, fun z h => by cases h⟩
theorem InvL.grow {l : List S34} {e v : Int} (h : InvL l e v l.length) (h8 : l.length < 8) (z : S34) :
    (pglog_Append.f 40 l e v z.f0.f0 z.f0.f1 z.f1.f0 z.f1.f1 z.f1.f2 z.f1.f3.f0 z.f1.f3.f1 z.f1.f3.f2 z.f1.f3.f3 z.f1.f3.f4 z.f2.f0 z.f2.f1 z.f2.f2 z.f2.f3 = some (l, e, v, false)) ∨ (pglog_Append.f 40 l e v z.f0.f0 z.f0.f1 z.f1.f0 z.f1.f1 z.f1.f2 z.f1.f3.f0 z.f1.f3.f1 z.f1.f3.f2 z.f1.f3.f3 z.f1.f3.f4 z.f2.f0 z.f2.f1 z.f2.f2 z.f2.f3 = some (l ++ [z], z.f0.f0, z.f0.f1, true) ∧ InvL (l ++ [z]) z.f0.f0 z.f0.f1 (l ++ [z]).length ∧ z.f0.f1 = v + 1 ∧ e ≤ z.f0.f0) := by
  rw [app_eq l e v z (by omega)]
  unfold appB
  by_cases hc : entB z = true ∧ z.f0.f1 = wrap64 (v + 1) ∧ ¬ z.f0.f0 < e
  · rw [if_pos hc]
    obtain ⟨h1, h2, _, _, _⟩ := h.step hc.1 hc.2.1 hc.2.2
    have hb := h.bounds
    have hcut : cutL (l ++ [z]) = l ++ [z] := by unfold cutL; rw [if_neg (by simp; omega)]
    rw [hcut] at h1 h2 ⊢
    refine .inr ⟨rfl, ?_, ?_, by omega⟩
    · rw [List.length_append, List.length_singleton]; exact h1
    · rw [hc.2.1, wrap64_small _ (by omega) (by omega)]
  · rw [if_neg hc]; exact .inl rfl
theorem Gl.step {l : List S34} {e v : Int} (h : Gl l e v) (h3 : l.length < 3) (z : S34) : ∃ nx e1 v1 ok, pglog_Append.f 40 l e v z.f0.f0 z.f0.f1 z.f1.f0 z.f1.f1 z.f1.f2 z.f1.f3.f0 z.f1.f3.f1 z.f1.f3.f2 z.f1.f3.f3 z.f1.f3.f4 z.f2.f0 z.f2.f1 z.f2.f2 z.f2.f3 = some (nx, e1, v1, ok) ∧ Gl nx e1 v1 ∧ nx.length ≤ 3 := by
  rcases h.inv.grow (by omega) z with h1 | ⟨h1, h2, h4, h5⟩
  · exact ⟨_, _, _, _, h1, h, by omega⟩
  · refine ⟨_, _, _, _, h1, ⟨h2, fun u hu => ?_⟩, by simp; omega⟩
    rcases List.mem_append.1 hu with hu | hu
    · have := h.old u hu
      unfold lateB at *
      simp only [decide_eq_false_iff_not] at this ⊢
      omega
    · rw [List.mem_singleton] at hu
      subst hu
      unfold lateB
      simp
theorem Gn.refl {l : List S34} {e v : Int} (h : Gl l e v) : Gn l e v l e v := ⟨h.inv, by omega, [], by simp, fun z h => by cases h⟩
theorem Gn.step {l : List S34} {e v : Int} {a : List S34} {x y : Int} (h : Gn l e v a x y) (h8 : a.length < 8) (z : S34) : ∃ nx e1 v1 ok, pglog_Append.f 40 a x y z.f0.f0 z.f0.f1 z.f1.f0 z.f1.f1 z.f1.f2 z.f1.f3.f0 z.f1.f3.f1 z.f1.f3.f2 z.f1.f3.f3 z.f1.f3.f4 z.f2.f0 z.f2.f1 z.f2.f2 z.f2.f3 = some (nx, e1, v1, ok) ∧ Gn l e v nx e1 v1 ∧ nx.length ≤ 8 := by
  rcases h.inv.grow h8 z with h1 | ⟨h1, h2, h4, h5⟩
  · exact ⟨_, _, _, _, h1, h, by omega⟩
  · obtain ⟨t, rfl, ht⟩ := h.more
    have hge := h.ge
    refine ⟨_, _, _, _, h1, ⟨h2, by omega, t ++ [z], by simp, fun u hu => ?_⟩, by simp at h8 ⊢; omega⟩
    rcases List.mem_append.1 hu with hu | hu
    · exact ht u hu
    · rw [List.mem_singleton] at hu
      subst hu
      unfold lateB
      simp only [decide_eq_true_eq]
      omega
theorem alike_self (x : S34) : alikeB x x = true := by
  have h := alikeB_f x x
  unfold pglog_alike.f at h
  simpa using h.symm
theorem alike_at {x y : S34} (h : alikeB x y = true) : x.f0.f0 = y.f0.f0 ∧ x.f0.f1 = y.f0.f1 := by
  have h1 := alikeB_f x y
  rw [h] at h1
  unfold pglog_alike.f at h1
  split at h1
  · rename_i hc; simpa using hc
  · simp at h1
theorem late_ne {e v : Int} {x y : S34} (hx : lateB e v x = true) (hy : lateB e v y = false) : alikeB x y = false := by
  cases h : alikeB x y with
  | false => rfl
  | true =>
    obtain ⟨h1, h2⟩ := alike_at h
    unfold lateB at hx hy
    rw [h1, h2, hy] at hx
    cases hx
theorem common_parts {l t u : List S34} {e v : Int} (h : Gl l e v) (ht : ∀ z ∈ t, lateB e v z = true) (hd : ∀ x ∈ t, ∀ y ∈ u, ¬ (x.f0.f0 = y.f0.f0 ∧ x.f0.f1 = y.f0.f1)) :
    pglog_Common.f (l ++ t) (l ++ u) = some (e, v, decide (0 < l.length)) := by
  unfold pglog_Common.f
  congr 1
  rw [List.reverse_append, List.find?_append]
  have h1 : t.reverse.find? (fun x => (l ++ u).any (alikeB x)) = none := by
    rw [List.find?_eq_none]
    intro x hx hy
    rw [List.mem_reverse] at hx
    rw [List.any_eq_true] at hy
    obtain ⟨y, hy, ha⟩ := hy
    rcases List.mem_append.1 hy with hy | hy
    · rw [late_ne (ht x hx) (h.old y hy)] at ha; cases ha
    · exact hd x hx y hy (alike_at ha)
  rw [h1]
  simp only [Option.none_or]
  rcases List.eq_nil_or_concat l with rfl | ⟨m, z, rfl⟩
  · have := h.inv.ok
    simp [logB] at this
    simp [this]
  · have hz : ((m.concat z) ++ u).any (alikeB z) = true := by
      simp [alike_self]
    rw [List.concat_eq_append] at *
    rw [List.reverse_append, List.reverse_singleton, List.singleton_append, List.find?_cons, hz]
    have h2 := (logB_cons (by simp)).1 h.inv.ok
    rw [show (((m ++ [z]).length : Int) - 1) = (m.length : Int) from by simp, rd_last] at h2
    simp [h2.2.2.1, h2.2.2.2.1]
theorem behind_parts {l t : List S34} {e v : Int} (h : Gl l e v) (ht : ∀ z ∈ t, lateB e v z = true) (hl : (l ++ t).length ≤ 8) : pglog_Behind.f (l ++ t) e v = some t := by
  unfold pglog_Behind.f
  rw [if_pos (by omega), List.filter_append, List.filter_eq_nil_iff.2 (fun z hz => by rw [h.old z hz]; decide), List.filter_eq_self.2 ht, List.nil_append]
theorem parts {l a b : List S34} {e v x y x' y' : Int} (h : Gl l e v) (ha : Gn l e v a x y) (hb : Gn l e v b x' y')
    (hd : ∀ i k : Nat, l.length ≤ i → i < a.length → l.length ≤ k → k < b.length → ((rd_T34 a i).f0.f0 == (rd_T34 b k).f0.f0 && ((rd_T34 a i).f0.f1 == (rd_T34 b k).f0.f1)) = false) :
    pglog_Common.f a b = some (e, v, decide (0 < l.length)) ∧ pglog_Behind.f a e v = some (a.drop l.length) ∧ pglog_Behind.f b e v = some (b.drop l.length) := by
  have la := ha.inv.len
  have lb := hb.inv.len
  obtain ⟨t, rfl, ht⟩ := ha.more
  obtain ⟨u, rfl, hu⟩ := hb.more
  refine ⟨common_parts h ht (fun p hp q hq => ?_), by rw [behind_parts h ht (by omega)]; simp, by rw [behind_parts h hu (by omega)]; simp⟩
  obtain ⟨i, hi, rfl⟩ := List.getElem_of_mem hp
  obtain ⟨k, hk, rfl⟩ := List.getElem_of_mem hq
  have h1 := hd (l.length + i) (l.length + k) (by omega) (by simp; omega) (by omega) (by simp; omega)
  rw [rd_at_N _ (l.length + i) (by simp; omega), rd_at_N _ (l.length + k) (by simp; omega)] at h1
  simp at h1
  rintro ⟨h2, h3⟩
  exact h1 h2 h3
end Go.Proofs.Ytbdciklcckjknaa.P
namespace Go.Proofs.Ytbdciklcckjknaa.P
open Go.RowKit Go.Proofs.YtbdciklcckjknaaW.PrintWords Go.Proofs.YtbdciklcckjknaaW.PrintLast Go.Proofs.YtbdciklcckjknaaW.PrintMore
attribute [local go_sem] max2_int min2_int max_two min_two max_three min_three max_four min_four
set_option linter.unusedVariables false
set_option linter.unusedSimpArgs false
def reefref21_Later.f (a0_0 : Int) (a0_1 : Int) (a1_0 : Int) (a1_1 : Int) : Option (Bool) := if a0_0 > a1_0 then (some true) else (if a0_0 = a1_0 then (some (decide (a0_1 > a1_1))) else (some false))
set_option maxHeartbeats 8000000 in
set_option maxRecDepth 100000 in
theorem reefref21_Later.calls (a0_0 : Int) (a0_1 : Int) (a1_0 : Int) (a1_1 : Int) (r : Bool) (w : World) (h : reefref21_Later.f a0_0 a0_1 a1_0 a1_1 = some r) :
    Calls Try.prog 29 #[.agg #[.int .i64 a0_0, .int .i64 a0_1], .agg #[.int .i64 a1_0, .int .i64 a1_1]] w fun e w' => e = .returned (.bool r) ∧ Below w.heap.size w w' := by
  have hu24 := Try.underlying24
  have HB := Aside0.mk (Below.refl w.heap.size w)
  have H : (if a0_0 > a1_0 then (some true) else (if a0_0 = a1_0 then (some (decide (a0_1 > a1_1))) else (some false))) = some r := h
  clear h
  by_cases c3 : a0_0 > a1_0
  · rw [if_pos c3] at H
    have c3b0 : decide (a1_0 < a0_0) = true := decide_eq_true c3
    clear c3
    obtain rfl := Option.some.inj H
    go_enter Try.func29, Try.ntmps29
    go_wp2_with (first | ((with_reducible refine gate_dst (N := 2) rfl ?_); refine box_event ?hg (N := 2) ?hd (cs := #[.int .i64 a0_0, .int .i64 a0_1]) (t := 24) ?hr ?_; (case hd => rfl); (case hg => rfl); (case hr => first | (go_simp; done) | (go_simp; rfl)); intro gb179 hg w4 hbox hb; have n0_ := Aside0.mk (below_step (by repeat (first | (with_reducible first | exact HB.out | apply below_alloc | apply pw_below_drewN | apply below_drew1) | exact HB.out)) hb); have n1_ := Aside0.mk (hbox); have n2_ := Aside0.mk ((by rw [hg]; exact (below_size (by repeat (first | (with_reducible first | exact HB.out | apply below_alloc | apply pw_below_drewN | apply below_drew1) | exact HB.out))) : w.heap.size ≤ gb179)); have n3_ := Aside0.mk ((by rw [hg]; exact (below_size (by repeat (first | (with_reducible first | exact HB.out | apply below_alloc | apply pw_below_drewN | apply below_drew1) | exact HB.out))) : w.heap.size ≤ gb179)); clear HB; have HB := n0_; have BK179 := n1_; have GW179 := n2_; have GE179 := n3_; clear n0_ n1_ n2_ n3_; clear hb hbox hg) | ((with_reducible refine gate_dst (N := 3) rfl ?_); refine box_event ?hg (N := 3) ?hd (cs := #[.int .i64 a1_0, .int .i64 a1_1]) (t := 24) ?hr ?_; (case hd => rfl); (case hg => rfl); (case hr => first | (go_simp; done) | (go_simp; rfl)); intro gb180 hg w5 hbox hb; have n0_ := Aside0.mk (blk_below (g := gb179) (o := .cells #[.int .i64 a0_0, .int .i64 a0_1] 24 (0, 0)) (by (with_reducible repeat (first | refine blk_drewN ?_ _ | refine blk_drew ?_ | refine blk_alloc ?_ _)); exact BK179.out) hb); have n1_ := Aside0.mk (below_step (by repeat (first | (with_reducible first | exact HB.out | apply below_alloc | apply pw_below_drewN | apply below_drew1 | refine below_set ?_ GE179.out) | exact HB.out)) hb); have n2_ := Aside0.mk (hbox); have n3_ := Aside0.mk ((by rw [hg]; exact (below_size (by repeat (first | (with_reducible first | exact HB.out | apply below_alloc | apply pw_below_drewN | apply below_drew1 | refine below_set ?_ GE179.out) | exact HB.out))) : w.heap.size ≤ gb180)); have n4_ := Aside0.mk ((by rw [hg]; exact (below_size (by repeat (first | (with_reducible first | exact HB.out | apply below_alloc | apply pw_below_drewN | apply below_drew1 | refine below_set ?_ GE179.out) | exact HB.out))) : w.heap.size ≤ gb180)); have n5_ := Aside0.mk ((by rw [hg]; exact Nat.ne_of_lt (blk_lt (g := gb179) (o := .cells #[.int .i64 a0_0, .int .i64 a0_1] 24 (0, 0)) (by (with_reducible repeat (first | refine blk_drewN ?_ _ | refine blk_drew ?_ | refine blk_alloc ?_ _)); exact BK179.out)) : gb179 ≠ gb180)); have n6_ := Aside0.mk ((by rw [hg]; exact Nat.ne_of_gt (blk_lt (g := gb179) (o := .cells #[.int .i64 a0_0, .int .i64 a0_1] 24 (0, 0)) (by (with_reducible repeat (first | refine blk_drewN ?_ _ | refine blk_drew ?_ | refine blk_alloc ?_ _)); exact BK179.out)) : gb180 ≠ gb179)); clear BK179; clear HB; have BK179 := n0_; have HB := n1_; have BK180 := n2_; have GW180 := n3_; have GE180 := n4_; have NB179_180 := n5_; have NB180_179 := n6_; clear n0_ n1_ n2_ n3_ n4_ n5_ n6_; clear hb hbox hg; have hnb6 := NB179_180.out; have hnc6 := NB180_179.out; have hcz7_0 : w5.cell? ⟨gb179, 0, none⟩ = some (.int .i64 a0_0) := (blk_cell BK179.out 0).trans rfl; have hcz7_1 : w5.cell? ⟨gb179, 1, none⟩ = some (.int .i64 a0_1) := (blk_cell BK179.out 1).trans rfl; have hfz7_0 := blk_frozen BK179.out 0; have hfz7_1 := blk_frozen BK179.out 1; have hcz8_0 : w5.cell? ⟨gb180, 0, none⟩ = some (.int .i64 a1_0) := (blk_cell BK180.out 0).trans rfl; have hcz8_1 : w5.cell? ⟨gb180, 1, none⟩ = some (.int .i64 a1_1) := (blk_cell BK180.out 1).trans rfl; have hfz8_0 := blk_frozen BK180.out 0; have hfz8_1 := blk_frozen BK180.out 1))
    go_ret
    exact ⟨by first | rfl | (simp [errW_none, errW_some] <;> rfl) | (simp [*, errW_none, errW_some] <;> rfl), by repeat (first | (with_reducible first | exact HB.out | apply below_alloc | apply pw_below_drewN | apply below_drew1 | refine below_set ?_ GE179.out | refine below_set ?_ GE180.out) | exact HB.out)⟩
  · rw [if_neg c3] at H
    have c3b0 : decide (a1_0 < a0_0) = false := decide_eq_false c3
    clear c3
    by_cases c9 : a0_0 = a1_0
    · rw [if_pos c9] at H
      have c9b0 : (a0_0 == a1_0) = true := beq_iff_eq.mpr c9
      have c9b1 : (a0_0 != a1_0) = false := bne_eq_false_iff_eq.mpr c9
      clear c9
      obtain rfl := Option.some.inj H
      go_enter Try.func29, Try.ntmps29
      go_wp2_with (first | ((with_reducible refine gate_dst (N := 2) rfl ?_); refine box_event ?hg (N := 2) ?hd (cs := #[.int .i64 a0_0, .int .i64 a0_1]) (t := 24) ?hr ?_; (case hd => rfl); (case hg => rfl); (case hr => first | (go_simp; done) | (go_simp; rfl)); intro gb179 hg w10 hbox hb; have n0_ := Aside0.mk (below_step (by repeat (first | (with_reducible first | exact HB.out | apply below_alloc | apply pw_below_drewN | apply below_drew1) | exact HB.out)) hb); have n1_ := Aside0.mk (hbox); have n2_ := Aside0.mk ((by rw [hg]; exact (below_size (by repeat (first | (with_reducible first | exact HB.out | apply below_alloc | apply pw_below_drewN | apply below_drew1) | exact HB.out))) : w.heap.size ≤ gb179)); have n3_ := Aside0.mk ((by rw [hg]; exact (below_size (by repeat (first | (with_reducible first | exact HB.out | apply below_alloc | apply pw_below_drewN | apply below_drew1) | exact HB.out))) : w.heap.size ≤ gb179)); clear HB; have HB := n0_; have BK179 := n1_; have GW179 := n2_; have GE179 := n3_; clear n0_ n1_ n2_ n3_; clear hb hbox hg) | ((with_reducible refine gate_dst (N := 3) rfl ?_); refine box_event ?hg (N := 3) ?hd (cs := #[.int .i64 a1_0, .int .i64 a1_1]) (t := 24) ?hr ?_; (case hd => rfl); (case hg => rfl); (case hr => first | (go_simp; done) | (go_simp; rfl)); intro gb180 hg w11 hbox hb; have n0_ := Aside0.mk (blk_below (g := gb179) (o := .cells #[.int .i64 a0_0, .int .i64 a0_1] 24 (0, 0)) (by (with_reducible repeat (first | refine blk_drewN ?_ _ | refine blk_drew ?_ | refine blk_alloc ?_ _)); exact BK179.out) hb); have n1_ := Aside0.mk (below_step (by repeat (first | (with_reducible first | exact HB.out | apply below_alloc | apply pw_below_drewN | apply below_drew1 | refine below_set ?_ GE179.out) | exact HB.out)) hb); have n2_ := Aside0.mk (hbox); have n3_ := Aside0.mk ((by rw [hg]; exact (below_size (by repeat (first | (with_reducible first | exact HB.out | apply below_alloc | apply pw_below_drewN | apply below_drew1 | refine below_set ?_ GE179.out) | exact HB.out))) : w.heap.size ≤ gb180)); have n4_ := Aside0.mk ((by rw [hg]; exact (below_size (by repeat (first | (with_reducible first | exact HB.out | apply below_alloc | apply pw_below_drewN | apply below_drew1 | refine below_set ?_ GE179.out) | exact HB.out))) : w.heap.size ≤ gb180)); have n5_ := Aside0.mk ((by rw [hg]; exact Nat.ne_of_lt (blk_lt (g := gb179) (o := .cells #[.int .i64 a0_0, .int .i64 a0_1] 24 (0, 0)) (by (with_reducible repeat (first | refine blk_drewN ?_ _ | refine blk_drew ?_ | refine blk_alloc ?_ _)); exact BK179.out)) : gb179 ≠ gb180)); have n6_ := Aside0.mk ((by rw [hg]; exact Nat.ne_of_gt (blk_lt (g := gb179) (o := .cells #[.int .i64 a0_0, .int .i64 a0_1] 24 (0, 0)) (by (with_reducible repeat (first | refine blk_drewN ?_ _ | refine blk_drew ?_ | refine blk_alloc ?_ _)); exact BK179.out)) : gb180 ≠ gb179)); clear BK179; clear HB; have BK179 := n0_; have HB := n1_; have BK180 := n2_; have GW180 := n3_; have GE180 := n4_; have NB179_180 := n5_; have NB180_179 := n6_; clear n0_ n1_ n2_ n3_ n4_ n5_ n6_; clear hb hbox hg; have hnb12 := NB179_180.out; have hnc12 := NB180_179.out; have hcz13_0 : w11.cell? ⟨gb179, 0, none⟩ = some (.int .i64 a0_0) := (blk_cell BK179.out 0).trans rfl; have hcz13_1 : w11.cell? ⟨gb179, 1, none⟩ = some (.int .i64 a0_1) := (blk_cell BK179.out 1).trans rfl; have hfz13_0 := blk_frozen BK179.out 0; have hfz13_1 := blk_frozen BK179.out 1; have hcz14_0 : w11.cell? ⟨gb180, 0, none⟩ = some (.int .i64 a1_0) := (blk_cell BK180.out 0).trans rfl; have hcz14_1 : w11.cell? ⟨gb180, 1, none⟩ = some (.int .i64 a1_1) := (blk_cell BK180.out 1).trans rfl; have hfz14_0 := blk_frozen BK180.out 0; have hfz14_1 := blk_frozen BK180.out 1))
      go_ret
      exact ⟨by first | rfl | (simp [errW_none, errW_some] <;> rfl) | (simp [*, errW_none, errW_some] <;> rfl), by repeat (first | (with_reducible first | exact HB.out | apply below_alloc | apply pw_below_drewN | apply below_drew1 | refine below_set ?_ GE179.out | refine below_set ?_ GE180.out) | exact HB.out)⟩
    · rw [if_neg c9] at H
      have c9b0 : (a0_0 == a1_0) = false := beq_eq_false_iff_ne.mpr c9
      have c9b1 : (a0_0 != a1_0) = true := bne_iff_ne.mpr c9
      obtain rfl := Option.some.inj H
      go_enter Try.func29, Try.ntmps29
      go_wp2_with (first | ((with_reducible refine gate_dst (N := 2) rfl ?_); refine box_event ?hg (N := 2) ?hd (cs := #[.int .i64 a0_0, .int .i64 a0_1]) (t := 24) ?hr ?_; (case hd => rfl); (case hg => rfl); (case hr => first | (go_simp; done) | (go_simp; rfl)); intro gb179 hg w15 hbox hb; have n0_ := Aside0.mk (below_step (by repeat (first | (with_reducible first | exact HB.out | apply below_alloc | apply pw_below_drewN | apply below_drew1) | exact HB.out)) hb); have n1_ := Aside0.mk (hbox); have n2_ := Aside0.mk ((by rw [hg]; exact (below_size (by repeat (first | (with_reducible first | exact HB.out | apply below_alloc | apply pw_below_drewN | apply below_drew1) | exact HB.out))) : w.heap.size ≤ gb179)); have n3_ := Aside0.mk ((by rw [hg]; exact (below_size (by repeat (first | (with_reducible first | exact HB.out | apply below_alloc | apply pw_below_drewN | apply below_drew1) | exact HB.out))) : w.heap.size ≤ gb179)); clear HB; have HB := n0_; have BK179 := n1_; have GW179 := n2_; have GE179 := n3_; clear n0_ n1_ n2_ n3_; clear hb hbox hg) | ((with_reducible refine gate_dst (N := 3) rfl ?_); refine box_event ?hg (N := 3) ?hd (cs := #[.int .i64 a1_0, .int .i64 a1_1]) (t := 24) ?hr ?_; (case hd => rfl); (case hg => rfl); (case hr => first | (go_simp; done) | (go_simp; rfl)); intro gb180 hg w16 hbox hb; have n0_ := Aside0.mk (blk_below (g := gb179) (o := .cells #[.int .i64 a0_0, .int .i64 a0_1] 24 (0, 0)) (by (with_reducible repeat (first | refine blk_drewN ?_ _ | refine blk_drew ?_ | refine blk_alloc ?_ _)); exact BK179.out) hb); have n1_ := Aside0.mk (below_step (by repeat (first | (with_reducible first | exact HB.out | apply below_alloc | apply pw_below_drewN | apply below_drew1 | refine below_set ?_ GE179.out) | exact HB.out)) hb); have n2_ := Aside0.mk (hbox); have n3_ := Aside0.mk ((by rw [hg]; exact (below_size (by repeat (first | (with_reducible first | exact HB.out | apply below_alloc | apply pw_below_drewN | apply below_drew1 | refine below_set ?_ GE179.out) | exact HB.out))) : w.heap.size ≤ gb180)); have n4_ := Aside0.mk ((by rw [hg]; exact (below_size (by repeat (first | (with_reducible first | exact HB.out | apply below_alloc | apply pw_below_drewN | apply below_drew1 | refine below_set ?_ GE179.out) | exact HB.out))) : w.heap.size ≤ gb180)); have n5_ := Aside0.mk ((by rw [hg]; exact Nat.ne_of_lt (blk_lt (g := gb179) (o := .cells #[.int .i64 a0_0, .int .i64 a0_1] 24 (0, 0)) (by (with_reducible repeat (first | refine blk_drewN ?_ _ | refine blk_drew ?_ | refine blk_alloc ?_ _)); exact BK179.out)) : gb179 ≠ gb180)); have n6_ := Aside0.mk ((by rw [hg]; exact Nat.ne_of_gt (blk_lt (g := gb179) (o := .cells #[.int .i64 a0_0, .int .i64 a0_1] 24 (0, 0)) (by (with_reducible repeat (first | refine blk_drewN ?_ _ | refine blk_drew ?_ | refine blk_alloc ?_ _)); exact BK179.out)) : gb180 ≠ gb179)); clear BK179; clear HB; have BK179 := n0_; have HB := n1_; have BK180 := n2_; have GW180 := n3_; have GE180 := n4_; have NB179_180 := n5_; have NB180_179 := n6_; clear n0_ n1_ n2_ n3_ n4_ n5_ n6_; clear hb hbox hg; have hnb17 := NB179_180.out; have hnc17 := NB180_179.out; have hcz18_0 : w16.cell? ⟨gb179, 0, none⟩ = some (.int .i64 a0_0) := (blk_cell BK179.out 0).trans rfl; have hcz18_1 : w16.cell? ⟨gb179, 1, none⟩ = some (.int .i64 a0_1) := (blk_cell BK179.out 1).trans rfl; have hfz18_0 := blk_frozen BK179.out 0; have hfz18_1 := blk_frozen BK179.out 1; have hcz19_0 : w16.cell? ⟨gb180, 0, none⟩ = some (.int .i64 a1_0) := (blk_cell BK180.out 0).trans rfl; have hcz19_1 : w16.cell? ⟨gb180, 1, none⟩ = some (.int .i64 a1_1) := (blk_cell BK180.out 1).trans rfl; have hfz19_0 := blk_frozen BK180.out 0; have hfz19_1 := blk_frozen BK180.out 1))
      go_ret
      exact ⟨by first | rfl | (simp [errW_none, errW_some] <;> rfl) | (simp [*, errW_none, errW_some] <;> rfl), by repeat (first | (with_reducible first | exact HB.out | apply below_alloc | apply pw_below_drewN | apply below_drew1 | refine below_set ?_ GE179.out | refine below_set ?_ GE180.out) | exact HB.out)⟩
end Go.Proofs.Ytbdciklcckjknaa.P
namespace Go.Proofs.Ytbdciklcckjknaa.P
open Go.RowKit Go.Proofs.YtbdciklcckjknaaW.PrintWords Go.Proofs.YtbdciklcckjknaaW.PrintLast Go.Proofs.YtbdciklcckjknaaW.PrintMore
attribute [local go_sem] max2_int min2_int max_two min_two max_three min_three max_four min_four
set_option linter.unusedVariables false
set_option linter.unusedSimpArgs false
def reefref21_Behind.l0 : Nat → List (S34) → List (S34) → Int → Int → Int → Option ((List (S34)))
  | 0, _, _, _, _, _ => none
  | k + 1, x0, x5, x6, x182000, x182001 => if x6 < (x0.length : Int) then (if 0 ≤ x6 then ((reefref21_Later.f ((rd_T34 x0 x6).f0.f0) ((rd_T34 x0 x6).f0.f1) x182000 x182001).bind fun t183 => (if t183 = true then (if x5.length < 1034834473200 then (reefref21_Behind.l0 k x0 (x5 ++ [(⟨(⟨(rd_T34 x0 x6).f0.f0, (rd_T34 x0 x6).f0.f1⟩ : S24), (⟨(rd_T34 x0 x6).f1.f0, (rd_T34 x0 x6).f1.f1, (rd_T34 x0 x6).f1.f2, (⟨(rd_T34 x0 x6).f1.f3.f0, (rd_T34 x0 x6).f1.f3.f1, (rd_T34 x0 x6).f1.f3.f2, (rd_T34 x0 x6).f1.f3.f3, (rd_T34 x0 x6).f1.f3.f4⟩ : S27)⟩ : S29), (⟨(rd_T34 x0 x6).f2.f0, (rd_T34 x0 x6).f2.f1, (rd_T34 x0 x6).f2.f2, (rd_T34 x0 x6).f2.f3⟩ : S32)⟩ : S34)]) (wrap64 (x6 + 1)) x182000 x182001) else (none)) else (reefref21_Behind.l0 k x0 x5 (wrap64 (x6 + 1)) x182000 x182001))) else (none)) else (some x5)
def reefref21_Behind.f (k : Nat) (l0 : List (S34)) (a1_0 : Int) (a1_1 : Int) : Option ((List (S34))) := reefref21_Behind.l0 k l0 ([] : List (S34)) 0 a1_0 a1_1
set_option maxHeartbeats 8000000 in
set_option maxRecDepth 100000 in
theorem reefref21_Behind.calls (k : Nat) (A0 : Option Addr) (c0 : Nat) (l0 : List (S34)) (a1_0 : Int) (a1_1 : Int) (r : List (S34)) (w : World) (hr0 : Kd.C k34 w A0 l0.length l0) (hc0 : l0.length ≤ c0) (h : reefref21_Behind.f k l0 a1_0 a1_1 = some r) :
    Calls Try.prog 16 #[.slice A0 l0.length c0, .agg #[.int .i64 a1_0, .int .i64 a1_1]] w fun e w' => ∃ v0_ : Value, e = .returned (v0_) ∧ Kd.R k34 34 w' w.heap.size (fun _ => True) v0_ r ∧ Below w.heap.size w w' := by
  have hu24 := Try.underlying24
  have hu34 := Try.underlying34
  have HR0 := Aside0.mk hr0
  have HC0 := Aside0.mk hc0
  clear hr0 hc0
  have HB := Aside0.mk (Below.refl w.heap.size w)
  have H : (reefref21_Behind.l0 k l0 ([] : List (S34)) 0 a1_0 a1_1) = some r := h
  clear h
  have H' := Aside0.mk H
  clear H
  go_enter Try.func16, Try.ntmps16
  go_wp2_with (first | ((with_reducible refine gate_dst (N := 3) rfl ?_); refine box_event ?hg (N := 3) ?hd (cs := #[.int .i64 a1_0, .int .i64 a1_1]) (t := 24) ?hr ?_; (case hd => rfl); (case hg => rfl); (case hr => first | (go_simp; done) | (go_simp; rfl)); intro gb181 hg w3 hbox hb; have n0_ := Aside0.mk (below_step (by repeat (first | (with_reducible first | exact HB.out | apply below_alloc | apply pw_below_drewN | apply below_drew1) | exact HB.out)) hb); have n1_ := Aside0.mk (hbox); have n2_ := Aside0.mk ((by rw [hg]; exact (below_size (by repeat (first | (with_reducible first | exact HB.out | apply below_alloc | apply pw_below_drewN | apply below_drew1) | exact HB.out))) : w.heap.size ≤ gb181)); have n3_ := Aside0.mk ((by rw [hg]; exact (below_size (by repeat (first | (with_reducible first | exact HB.out | apply below_alloc | apply pw_below_drewN | apply below_drew1) | exact HB.out))) : w.heap.size ≤ gb181)); clear HB; have HB := n0_; have BK181 := n1_; have GW181 := n2_; have GE181 := n3_; clear n0_ n1_ n2_ n3_; clear hb hbox hg))
  go_loopg [5, 6] k (fun kq v5 v6 w' => ∃ (x5_1 : List (S34)) (x6_1 : Int), v6 = .int .i64 x6_1 ∧ Aside0 (reefref21_Behind.l0 kq l0 x5_1 x6_1 a1_0 a1_1 = some r) ∧ Aside0 (kq ≤ k) ∧ Aside0 (Kd.R k34 34 w' w.heap.size (fun _ => True) v5 x5_1) ∧ Aside0 (w'.heap[gb181]? = some (.cells #[.int .i64 a1_0, .int .i64 a1_1] 24 (0, 0))) ∧ Aside0 (Below w.heap.size w w'))
  case atStart => exact ⟨(([] : List (S34))), (0), (by first | rfl | (simp; done) | (simp [*]; done)), H', ⟨Nat.le_refl _⟩, ⟨by first | exact Kd.R_nil _ _ _ _ _ | exact Kd.N_nil _ _ _ _ _ | exact Kd.V_nil _ _ _ _ _ | exact Kd.Q_nil _ _ _ _ _ | exact Kd.S_nil _ _ _ _ _⟩, ⟨by (with_reducible repeat (first | refine blk_drewN ?_ _ | refine blk_drew ?_ | refine blk_alloc ?_ _)); exact BK181.out⟩, ⟨by repeat (first | (with_reducible first | exact HB.out | apply below_alloc | apply pw_below_drewN | apply below_drew1 | refine below_set ?_ GE181.out) | exact HB.out)⟩⟩
  case round =>
    clear H'
    try clear c1
    try clear p2
    obtain ⟨x5_1, x6_1, rfl, HA, HK1, HO_5, BK181, HB⟩ := hrel
    cases gk with
    | zero => exact absurd HA.out (by simp [reefref21_Behind.l0])
    | succ k1 =>
      have H := HA.out
      clear HA
      simp only [reefref21_Behind.l0] at H
      by_cases c4 : x6_1 < (l0.length : Int)
      · rw [if_pos c4] at H
        have c4b0 : decide (x6_1 < (l0.length : Int)) = true := decide_eq_true c4
        clear c4
        by_cases c5 : 0 ≤ x6_1
        · rw [if_pos c5] at H
          have c5b0 : decide (0 ≤ x6_1) = true := decide_eq_true c5
          clear c5
          replace H := Option.bind_eq_some_iff.mp H
          obtain ⟨t183, A60, H⟩ := H
          replace H : (if t183 = true then (if x5_1.length < 1034834473200 then (reefref21_Behind.l0 k1 l0 (x5_1 ++ [(⟨(⟨(rd_T34 l0 x6_1).f0.f0, (rd_T34 l0 x6_1).f0.f1⟩ : S24), (⟨(rd_T34 l0 x6_1).f1.f0, (rd_T34 l0 x6_1).f1.f1, (rd_T34 l0 x6_1).f1.f2, (⟨(rd_T34 l0 x6_1).f1.f3.f0, (rd_T34 l0 x6_1).f1.f3.f1, (rd_T34 l0 x6_1).f1.f3.f2, (rd_T34 l0 x6_1).f1.f3.f3, (rd_T34 l0 x6_1).f1.f3.f4⟩ : S27)⟩ : S29), (⟨(rd_T34 l0 x6_1).f2.f0, (rd_T34 l0 x6_1).f2.f1, (rd_T34 l0 x6_1).f2.f2, (rd_T34 l0 x6_1).f2.f3⟩ : S32)⟩ : S34)]) (wrap64 (x6_1 + 1)) a1_0 a1_1) else (none)) else (reefref21_Behind.l0 k1 l0 x5_1 (wrap64 (x6_1 + 1)) a1_0 a1_1)) = some r := H
          have A6 := Aside0.mk A60
          clear A60
          by_cases c7 : t183 = true
          · subst c7
            have H1 : (if x5_1.length < 1034834473200 then (reefref21_Behind.l0 k1 l0 (x5_1 ++ [(⟨(⟨(rd_T34 l0 x6_1).f0.f0, (rd_T34 l0 x6_1).f0.f1⟩ : S24), (⟨(rd_T34 l0 x6_1).f1.f0, (rd_T34 l0 x6_1).f1.f1, (rd_T34 l0 x6_1).f1.f2, (⟨(rd_T34 l0 x6_1).f1.f3.f0, (rd_T34 l0 x6_1).f1.f3.f1, (rd_T34 l0 x6_1).f1.f3.f2, (rd_T34 l0 x6_1).f1.f3.f3, (rd_T34 l0 x6_1).f1.f3.f4⟩ : S27)⟩ : S29), (⟨(rd_T34 l0 x6_1).f2.f0, (rd_T34 l0 x6_1).f2.f1, (rd_T34 l0 x6_1).f2.f2, (rd_T34 l0 x6_1).f2.f3⟩ : S32)⟩ : S34)]) (wrap64 (x6_1 + 1)) a1_0 a1_1) else (none)) = some r := by rw [if_pos rfl] at H; exact H
            clear H
            have H := H1
            clear H1
            by_cases c8 : x5_1.length < 1034834473200
            · rw [if_pos c8] at H
              have LMc8 := Aside0.mk c8
              clear c8
              obtain ⟨y185, hy185⟩ : ∃ y_ : List (S34), y_ = (x5_1 ++ [(⟨(⟨(rd_T34 l0 x6_1).f0.f0, (rd_T34 l0 x6_1).f0.f1⟩ : S24), (⟨(rd_T34 l0 x6_1).f1.f0, (rd_T34 l0 x6_1).f1.f1, (rd_T34 l0 x6_1).f1.f2, (⟨(rd_T34 l0 x6_1).f1.f3.f0, (rd_T34 l0 x6_1).f1.f3.f1, (rd_T34 l0 x6_1).f1.f3.f2, (rd_T34 l0 x6_1).f1.f3.f3, (rd_T34 l0 x6_1).f1.f3.f4⟩ : S27)⟩ : S29), (⟨(rd_T34 l0 x6_1).f2.f0, (rd_T34 l0 x6_1).f2.f1, (rd_T34 l0 x6_1).f2.f2, (rd_T34 l0 x6_1).f2.f3⟩ : S32)⟩ : S34)]) := ⟨_, rfl⟩
              replace H : (reefref21_Behind.l0 k1 l0 y185 (wrap64 (x6_1 + 1)) a1_0 a1_1) = some r := by first | (rw [hy185]; with_reducible exact H) | (have H2_ := (Option.bind_some _ _).symm.trans H; rw [hy185]; with_reducible exact H2_) | (have H2_ := (Option.bind_some _ _).symm.trans H; with_reducible exact H2_) | with_reducible exact H | (rw [hy185]; exact H) | exact H
              have Ny185 := Aside0.mk hy185
              clear hy185
              have H' := Aside0.mk H
              clear H
              try go_wp2
              have n0_ := Aside0.mk (Kd.R_drew HO_5.out)
              have n1_ := Aside0.mk (blk_drew BK181.out)
              have n2_ := Aside0.mk (below_drew1 HB.out)
              clear HO_5
              clear BK181
              clear HB
              have HO_5 := n0_
              have BK181 := n1_
              have HB := n2_
              clear n0_ n1_ n2_
              have p182 : 0 ≤ (x6_1 : Int) := of_decide_eq_true (by first | (with_reducible assumption) | assumption)
              have q182 : x6_1 < (l0.length : Int) := of_decide_eq_true (by first | (with_reducible assumption) | assumption)
              obtain ⟨ad182, e182, hx182_0, hx182_1, hx182_2, hx182_3, hx182_4, hx182_5, hx182_6, hx182_7, hx182_8, hx182_9, hx182_10, hx182_11, hx182_12, hx182_13⟩ := at_T34 HR0.out x6_1 p182 q182
              have hw182_13 := hx182_13
              have hw182_12 := hx182_12
              have hw182_11 := hx182_11
              have hw182_10 := hx182_10
              have hw182_9 := hx182_9
              have hw182_8 := hx182_8
              have hw182_7 := hx182_7
              have hw182_6 := hx182_6
              have hw182_5 := hx182_5
              have hw182_4 := hx182_4
              have hw182_3 := hx182_3
              have hw182_2 := hx182_2
              have hw182_1 := hx182_1
              have hw182_0 := hx182_0
              cases e182
              replace hx182_0 := (HB.out.cell (World.block_lt_of_cell? w _ hx182_0)).trans hx182_0
              replace hx182_1 := (HB.out.cell (World.block_lt_of_cell? w _ hx182_1)).trans hx182_1
              replace hx182_2 := (HB.out.cell (World.block_lt_of_cell? w _ hx182_2)).trans hx182_2
              replace hx182_3 := (HB.out.cell (World.block_lt_of_cell? w _ hx182_3)).trans hx182_3
              replace hx182_4 := (HB.out.cell (World.block_lt_of_cell? w _ hx182_4)).trans hx182_4
              replace hx182_5 := (HB.out.cell (World.block_lt_of_cell? w _ hx182_5)).trans hx182_5
              replace hx182_6 := (HB.out.cell (World.block_lt_of_cell? w _ hx182_6)).trans hx182_6
              replace hx182_7 := (HB.out.cell (World.block_lt_of_cell? w _ hx182_7)).trans hx182_7
              replace hx182_8 := (HB.out.cell (World.block_lt_of_cell? w _ hx182_8)).trans hx182_8
              replace hx182_9 := (HB.out.cell (World.block_lt_of_cell? w _ hx182_9)).trans hx182_9
              replace hx182_10 := (HB.out.cell (World.block_lt_of_cell? w _ hx182_10)).trans hx182_10
              replace hx182_11 := (HB.out.cell (World.block_lt_of_cell? w _ hx182_11)).trans hx182_11
              replace hx182_12 := (HB.out.cell (World.block_lt_of_cell? w _ hx182_12)).trans hx182_12
              replace hx182_13 := (HB.out.cell (World.block_lt_of_cell? w _ hx182_13)).trans hx182_13
              replace p182 := eq_true p182
              replace q182 := eq_true q182
              refine start_ (n := 7) (S := fun w' => w'.cell? ⟨gb181, 0, none⟩ = some (.int .i64 a1_0) ∧ w'.cell? ⟨gb181, 1, none⟩ = some (.int .i64 a1_1) ∧ w'.cell? (ad182.add ((x6_1).toNat * 14)) = some (.int .i64 ((rd_T34 l0 x6_1).f0.f0)) ∧ w'.cell? ⟨(ad182.add ((x6_1).toNat * 14)).block, (ad182.add ((x6_1).toNat * 14)).off + 1, none⟩ = some (.int .i64 ((rd_T34 l0 x6_1).f0.f1)) ∧ w'.cell? ⟨(ad182.add ((x6_1).toNat * 14)).block, (ad182.add ((x6_1).toNat * 14)).off + 2, none⟩ = some (.int .i64 ((rd_T34 l0 x6_1).f1.f0)) ∧ w'.cell? ⟨(ad182.add ((x6_1).toNat * 14)).block, (ad182.add ((x6_1).toNat * 14)).off + 3, none⟩ = some (.int .i64 ((rd_T34 l0 x6_1).f1.f1)) ∧ w'.cell? ⟨(ad182.add ((x6_1).toNat * 14)).block, (ad182.add ((x6_1).toNat * 14)).off + 4, none⟩ = some (.int .i64 ((rd_T34 l0 x6_1).f1.f2)) ∧ w'.cell? ⟨(ad182.add ((x6_1).toNat * 14)).block, (ad182.add ((x6_1).toNat * 14)).off + 5, none⟩ = some (.int .i64 ((rd_T34 l0 x6_1).f1.f3.f0)) ∧ w'.cell? ⟨(ad182.add ((x6_1).toNat * 14)).block, (ad182.add ((x6_1).toNat * 14)).off + 6, none⟩ = some (.string ((rd_T34 l0 x6_1).f1.f3.f1)) ∧ w'.cell? ⟨(ad182.add ((x6_1).toNat * 14)).block, (ad182.add ((x6_1).toNat * 14)).off + 7, none⟩ = some (.int .i64 ((rd_T34 l0 x6_1).f1.f3.f2)) ∧ w'.cell? ⟨(ad182.add ((x6_1).toNat * 14)).block, (ad182.add ((x6_1).toNat * 14)).off + 8, none⟩ = some (.int .i64 ((rd_T34 l0 x6_1).f1.f3.f3)) ∧ w'.cell? ⟨(ad182.add ((x6_1).toNat * 14)).block, (ad182.add ((x6_1).toNat * 14)).off + 9, none⟩ = some (.string ((rd_T34 l0 x6_1).f1.f3.f4)) ∧ w'.cell? ⟨(ad182.add ((x6_1).toNat * 14)).block, (ad182.add ((x6_1).toNat * 14)).off + 10, none⟩ = some (.int .i64 ((rd_T34 l0 x6_1).f2.f0)) ∧ w'.cell? ⟨(ad182.add ((x6_1).toNat * 14)).block, (ad182.add ((x6_1).toNat * 14)).off + 11, none⟩ = some (.int .i64 ((rd_T34 l0 x6_1).f2.f1)) ∧ w'.cell? ⟨(ad182.add ((x6_1).toNat * 14)).block, (ad182.add ((x6_1).toNat * 14)).off + 12, none⟩ = some (.int .i64 ((rd_T34 l0 x6_1).f2.f2)) ∧ w'.cell? ⟨(ad182.add ((x6_1).toNat * 14)).block, (ad182.add ((x6_1).toNat * 14)).off + 13, none⟩ = some (.string ((rd_T34 l0 x6_1).f2.f3))) (ds := []) #[false, false, false, false, false, false, false] (by kernel_rfl) rfl rfl ⟨(blk_cell BK181.out 0).trans rfl, (blk_cell BK181.out 1).trans rfl, ((HB.out.cell (World.block_lt_of_cell? w _ hw182_0)).trans hw182_0), ((HB.out.cell (World.block_lt_of_cell? w _ hw182_1)).trans hw182_1), ((HB.out.cell (World.block_lt_of_cell? w _ hw182_2)).trans hw182_2), ((HB.out.cell (World.block_lt_of_cell? w _ hw182_3)).trans hw182_3), ((HB.out.cell (World.block_lt_of_cell? w _ hw182_4)).trans hw182_4), ((HB.out.cell (World.block_lt_of_cell? w _ hw182_5)).trans hw182_5), ((HB.out.cell (World.block_lt_of_cell? w _ hw182_6)).trans hw182_6), ((HB.out.cell (World.block_lt_of_cell? w _ hw182_7)).trans hw182_7), ((HB.out.cell (World.block_lt_of_cell? w _ hw182_8)).trans hw182_8), ((HB.out.cell (World.block_lt_of_cell? w _ hw182_9)).trans hw182_9), ((HB.out.cell (World.block_lt_of_cell? w _ hw182_10)).trans hw182_10), ((HB.out.cell (World.block_lt_of_cell? w _ hw182_11)).trans hw182_11), ((HB.out.cell (World.block_lt_of_cell? w _ hw182_12)).trans hw182_12), ((HB.out.cell (World.block_lt_of_cell? w _ hw182_13)).trans hw182_13)⟩ (fun hHeld => ?_)
              generalize wr.drew = w9 at HO_5 BK181 HB hx182_0 hx182_1 hx182_10 hx182_11 hx182_12 hx182_13 hx182_2 hx182_3 hx182_4 hx182_5 hx182_6 hx182_7 hx182_8 hx182_9 hHeld ⊢
              refine pure_ (i := 0) (N := some 13) (v := ?_) (a' := ?_) #[true, false, false, false, false, false, false] rfl rfl (by kernel_rfl) (fun _ _ _ h => h) (Or.inl ⟨by rfl, ?_⟩) ?_ ?_
              rotate_left
              · intro w'
                go_simp
                with_reducible rfl
              rotate_left
              · simp only [Act.put, List.setIfInBounds_toArray, List.set_cons_zero, List.set_cons_succ, i64_w, i32_w]
                rfl
              refine pure_ (i := 1) (N := some 14) (v := ?_) (a' := ?_) #[true, true, false, false, false, false, false] rfl rfl (by kernel_rfl) (fun _ _ _ h => h) (Or.inl ⟨by rfl, ?_⟩) ?_ ?_
              rotate_left
              · intro w'
                go_simp
                with_reducible rfl
              rotate_left
              · simp only [Act.put, List.setIfInBounds_toArray, List.set_cons_zero, List.set_cons_succ, i64_w, i32_w]
                rfl
              refine pure_ (i := 2) (N := some 15) (v := ?_) (a' := ?_) #[true, true, true, false, false, false, false] rfl rfl (by kernel_rfl) (fun _ _ _ h => h) (Or.inl ⟨by rfl, ?_⟩) ?_ ?_
              rotate_left
              · intro w'
                go_simp
                with_reducible rfl
              rotate_left
              · simp only [Act.put, List.setIfInBounds_toArray, List.set_cons_zero, List.set_cons_succ, i64_w, i32_w]
                rfl
              refine pure_ (i := 3) (N := some 16) (v := ?_) (a' := ?_) #[true, true, true, true, false, false, false] rfl rfl (by kernel_rfl) (fun _ _ _ h => h) (Or.inl ⟨by rfl, ?_⟩) ?_ ?_
              rotate_left
              · intro w'
                go_simp
                with_reducible rfl
              rotate_left
              · simp only [Act.put, List.setIfInBounds_toArray, List.set_cons_zero, List.set_cons_succ, i64_w, i32_w]
                rfl
              refine take_ (i := 4) (N := some 17) (v := ?_) (a' := ?_) #[true, true, true, true, true, false, false] rfl rfl (by kernel_rfl) (fun _ _ _ h => h) (Or.inl ⟨by rfl, ?_⟩) hHeld ?_ ?_
              rotate_left
              · rintro w' ⟨s0, s1, s2, s3, s4, s5, s6, s7, s8, s9, s10, s11, s12, s13, s14, s15⟩
                go_simp
                with_reducible rfl
              rotate_left
              · simp only [Act.put, List.setIfInBounds_toArray, List.set_cons_zero, List.set_cons_succ, i64_w, i32_w]
                rfl
              refine take_ (i := 5) (N := some 18) (v := ?_) (a' := ?_) #[true, true, true, true, true, true, false] rfl rfl (by kernel_rfl) (fun _ _ _ h => h) (Or.inl ⟨by rfl, ?_⟩) hHeld ?_ ?_
              rotate_left
              · rintro w' ⟨s0, s1, s2, s3, s4, s5, s6, s7, s8, s9, s10, s11, s12, s13, s14, s15⟩
                go_simp
                with_reducible rfl
              rotate_left
              · simp only [Act.put, List.setIfInBounds_toArray, List.set_cons_zero, List.set_cons_succ, i64_w, i32_w]
                rfl
              refine one_ (i := 6) (N := some 19) #[true, true, true, true, true, true, true] rfl rfl (by kernel_rfl) (by decide) (fun K hK => ?_)
              refine goes_ Try.func29 (by kernel_rfl) rfl #[.agg #[.int .i64 ((rd_T34 l0 x6_1).f0.f0), .int .i64 ((rd_T34 l0 x6_1).f0.f1)], .agg #[.int .i64 a1_0, .int .i64 a1_1]] (by rfl) rfl rfl (by (try simp only [List.map_toArray, List.map_cons, List.map_nil]); first | done | rfl | (simp only [List.length_drop, List.length_take]; rfl)) ?_
              with_reducible refine (reefref21_Later.calls ((rd_T34 l0 x6_1).f0.f0) ((rd_T34 l0 x6_1).f0.f1) a1_0 a1_1 true _ A6.out).mono ?_
              rintro e w10 ⟨rfl, hb⟩
              refine ⟨_, rfl, ?_⟩
              have n0_ := Aside0.mk (Kd.R_below (by (with_reducible repeat (first | apply Kd.R_alloc | apply Kd.R_drewN | apply Kd.R_drew)); exact HO_5.out) hb)
              have n1_ := Aside0.mk (blk_below (g := gb181) (o := .cells #[.int .i64 a1_0, .int .i64 a1_1] 24 (0, 0)) (by (with_reducible repeat (first | refine blk_drewN ?_ _ | refine blk_drew ?_ | refine blk_alloc ?_ _)); exact BK181.out) hb)
              have n2_ := Aside0.mk (below_step (by repeat (first | (with_reducible first | exact HB.out | apply below_alloc | apply pw_below_drewN | apply below_drew1 | refine below_set ?_ GE181.out) | exact HB.out)) hb)
              clear HO_5
              clear BK181
              clear HB
              have HO_5 := n0_
              have BK181 := n1_
              have HB := n2_
              clear n0_ n1_ n2_
              (try clear hb)
              (try clear hb2)
              (try clear hk)
              (try clear hi)
              refine hK.out _ _ ⟨(blk_cell BK181.out 0).trans rfl, (blk_cell BK181.out 1).trans rfl, ((HB.out.cell (World.block_lt_of_cell? w _ hw182_0)).trans hw182_0), ((HB.out.cell (World.block_lt_of_cell? w _ hw182_1)).trans hw182_1), ((HB.out.cell (World.block_lt_of_cell? w _ hw182_2)).trans hw182_2), ((HB.out.cell (World.block_lt_of_cell? w _ hw182_3)).trans hw182_3), ((HB.out.cell (World.block_lt_of_cell? w _ hw182_4)).trans hw182_4), ((HB.out.cell (World.block_lt_of_cell? w _ hw182_5)).trans hw182_5), ((HB.out.cell (World.block_lt_of_cell? w _ hw182_6)).trans hw182_6), ((HB.out.cell (World.block_lt_of_cell? w _ hw182_7)).trans hw182_7), ((HB.out.cell (World.block_lt_of_cell? w _ hw182_8)).trans hw182_8), ((HB.out.cell (World.block_lt_of_cell? w _ hw182_9)).trans hw182_9), ((HB.out.cell (World.block_lt_of_cell? w _ hw182_10)).trans hw182_10), ((HB.out.cell (World.block_lt_of_cell? w _ hw182_11)).trans hw182_11), ((HB.out.cell (World.block_lt_of_cell? w _ hw182_12)).trans hw182_12), ((HB.out.cell (World.block_lt_of_cell? w _ hw182_13)).trans hw182_13)⟩ (fun hHeld => ?_)
              clear hK K
              refine norm_ (a' := ?_) ?_ ?_
              rotate_left
              · show Act.put _ (some 19) _ = _
                simp only [Act.put, List.setIfInBounds_toArray, List.set_cons_zero, List.set_cons_succ, i64_w, i32_w]
                rfl
              refine done_ (by kernel_rfl) ?_
              have p184 : 0 ≤ (x6_1 : Int) := of_decide_eq_true (by first | (with_reducible assumption) | assumption)
              have q184 : x6_1 < (l0.length : Int) := of_decide_eq_true (by first | (with_reducible assumption) | assumption)
              obtain ⟨ad184, e184, hx184_0, hx184_1, hx184_2, hx184_3, hx184_4, hx184_5, hx184_6, hx184_7, hx184_8, hx184_9, hx184_10, hx184_11, hx184_12, hx184_13⟩ := at_T34 HR0.out x6_1 p184 q184
              obtain rfl : ad182 = ad184 := (by injection e184)
              replace hx184_0 := (HB.out.cell (World.block_lt_of_cell? w _ hx184_0)).trans hx184_0
              replace hx184_1 := (HB.out.cell (World.block_lt_of_cell? w _ hx184_1)).trans hx184_1
              replace hx184_2 := (HB.out.cell (World.block_lt_of_cell? w _ hx184_2)).trans hx184_2
              replace hx184_3 := (HB.out.cell (World.block_lt_of_cell? w _ hx184_3)).trans hx184_3
              replace hx184_4 := (HB.out.cell (World.block_lt_of_cell? w _ hx184_4)).trans hx184_4
              replace hx184_5 := (HB.out.cell (World.block_lt_of_cell? w _ hx184_5)).trans hx184_5
              replace hx184_6 := (HB.out.cell (World.block_lt_of_cell? w _ hx184_6)).trans hx184_6
              replace hx184_7 := (HB.out.cell (World.block_lt_of_cell? w _ hx184_7)).trans hx184_7
              replace hx184_8 := (HB.out.cell (World.block_lt_of_cell? w _ hx184_8)).trans hx184_8
              replace hx184_9 := (HB.out.cell (World.block_lt_of_cell? w _ hx184_9)).trans hx184_9
              replace hx184_10 := (HB.out.cell (World.block_lt_of_cell? w _ hx184_10)).trans hx184_10
              replace hx184_11 := (HB.out.cell (World.block_lt_of_cell? w _ hx184_11)).trans hx184_11
              replace hx184_12 := (HB.out.cell (World.block_lt_of_cell? w _ hx184_12)).trans hx184_12
              replace hx184_13 := (HB.out.cell (World.block_lt_of_cell? w _ hx184_13)).trans hx184_13
              replace p184 := eq_true p184
              replace q184 := eq_true q184
              try go_wp2_with (first | ((with_reducible refine gate_builtin (b := .append) (xs := #[.tmp 20, .tmp 25]) rfl ?_); at_builtin; refine Kd.R_append k34 (w0 := w) w.heap.size rfl (.tmp 20) (.tmp 25) 22 34 (.agg #[(.int .i64 0), (.int .i64 0), (.int .i64 0), (.int .i64 0), (.int .i64 0), (.int .i64 0), (.string ⟨#[]⟩), (.int .i64 0), (.int .i64 0), (.string ⟨#[]⟩), (.int .i64 0), (.int .i64 0), (.int .i64 0), (.string ⟨#[]⟩)]) 136 rfl Try.underlying22 info34 rfl (by decide) (by omega) u5 x5_1 (⟨(⟨(rd_T34 l0 x6_1).f0.f0, (rd_T34 l0 x6_1).f0.f1⟩ : S24), (⟨(rd_T34 l0 x6_1).f1.f0, (rd_T34 l0 x6_1).f1.f1, (rd_T34 l0 x6_1).f1.f2, (⟨(rd_T34 l0 x6_1).f1.f3.f0, (rd_T34 l0 x6_1).f1.f3.f1, (rd_T34 l0 x6_1).f1.f3.f2, (rd_T34 l0 x6_1).f1.f3.f3, (rd_T34 l0 x6_1).f1.f3.f4⟩ : S27)⟩ : S29), (⟨(rd_T34 l0 x6_1).f2.f0, (rd_T34 l0 x6_1).f2.f1, (rd_T34 l0 x6_1).f2.f2, (rd_T34 l0 x6_1).f2.f3⟩ : S32)⟩ : S34) [.int .i64 ((rd_T34 l0 x6_1).f0.f0), .int .i64 ((rd_T34 l0 x6_1).f0.f1), .int .i64 ((rd_T34 l0 x6_1).f1.f0), .int .i64 ((rd_T34 l0 x6_1).f1.f1), .int .i64 ((rd_T34 l0 x6_1).f1.f2), .int .i64 ((rd_T34 l0 x6_1).f1.f3.f0), .string ((rd_T34 l0 x6_1).f1.f3.f1), .int .i64 ((rd_T34 l0 x6_1).f1.f3.f2), .int .i64 ((rd_T34 l0 x6_1).f1.f3.f3), .string ((rd_T34 l0 x6_1).f1.f3.f4), .int .i64 ((rd_T34 l0 x6_1).f2.f0), .int .i64 ((rd_T34 l0 x6_1).f2.f1), .int .i64 ((rd_T34 l0 x6_1).f2.f2), .string ((rd_T34 l0 x6_1).f2.f3)] (fun _ => True) (fun _ => False) rfl rfl ?aP (fun _ hk => hk.elim) ?aF ?aO ?aB ?aS ?aL ?_; (case aP => exact k34_mkM _ _ _ (⟨(⟨(rd_T34 l0 x6_1).f0.f0, (rd_T34 l0 x6_1).f0.f1⟩ : S24), (⟨(rd_T34 l0 x6_1).f1.f0, (rd_T34 l0 x6_1).f1.f1, (rd_T34 l0 x6_1).f1.f2, (⟨(rd_T34 l0 x6_1).f1.f3.f0, (rd_T34 l0 x6_1).f1.f3.f1, (rd_T34 l0 x6_1).f1.f3.f2, (rd_T34 l0 x6_1).f1.f3.f3, (rd_T34 l0 x6_1).f1.f3.f4⟩ : S27)⟩ : S29), (⟨(rd_T34 l0 x6_1).f2.f0, (rd_T34 l0 x6_1).f2.f1, (rd_T34 l0 x6_1).f2.f2, (rd_T34 l0 x6_1).f2.f3⟩ : S32)⟩ : S34)); (case aB => exact (by repeat (first | (with_reducible first | exact HB.out | apply below_alloc | apply pw_below_drewN | apply below_drew1 | refine below_set ?_ GE181.out) | exact HB.out))); (case aF => exact (fun _ _ => trivial)); (case aO => exact (by (with_reducible repeat (first | apply Kd.R_alloc | apply Kd.R_drewN | apply Kd.R_drew)); exact HO_5.out)); (case aS => exact (below_size (by repeat (first | (with_reducible first | exact HB.out | apply below_alloc | apply pw_below_drewN | apply below_drew1 | refine below_set ?_ GE181.out) | exact HB.out)))); (case aL => have := LMc8.out; omega); intro v186 w11 ho hb hg hat; rw [← Ny185.out] at ho; have n0_ := Aside0.mk (blk_grown (g := gb181) (o := .cells #[.int .i64 a1_0, .int .i64 a1_1] 24 (0, 0)) (by (with_reducible repeat (first | refine blk_drewN ?_ _ | refine blk_drew ?_ | refine blk_alloc ?_ _)); exact BK181.out) hg (Kd.R_ne HO_5.out BK181.out (by decide))); have n1_ := Aside0.mk (hb); have n2_ := Aside0.mk (ho); clear BK181; clear HB; clear HO_5; have BK181 := n0_; have HB := n1_; have HO187 := n2_; clear n0_ n1_ n2_; clear ho hb hg hat))
              go_roundg k1
              case measure => have := HK1.out; omega
              case rel => exact ⟨(y185), (wrap64 (x6_1 + 1)), (by first | rfl | (simp; done) | (simp [*]; done)), H', ⟨by have := HK1.out; omega⟩, ⟨by (with_reducible repeat (first | apply Kd.R_alloc | apply Kd.R_drewN | apply Kd.R_drew)); exact HO187.out⟩, ⟨by (with_reducible repeat (first | refine blk_drewN ?_ _ | refine blk_drew ?_ | refine blk_alloc ?_ _)); exact BK181.out⟩, ⟨by repeat (first | (with_reducible first | exact HB.out | apply below_alloc | apply pw_below_drewN | apply below_drew1 | refine below_set ?_ GE181.out) | exact HB.out)⟩⟩
            · rw [if_neg c8] at H
              exact absurd H (by simp)
          · replace c7 := Bool.eq_false_iff.mpr c7
            subst c7
            have H1 : (reefref21_Behind.l0 k1 l0 x5_1 (wrap64 (x6_1 + 1)) a1_0 a1_1) = some r := by rw [if_neg (show ¬ (false = true) by decide)] at H; exact H
            clear H
            have H := H1
            clear H1
            have H' := Aside0.mk H
            clear H
            try go_wp2
            have n0_ := Aside0.mk (Kd.R_drew HO_5.out)
            have n1_ := Aside0.mk (blk_drew BK181.out)
            have n2_ := Aside0.mk (below_drew1 HB.out)
            clear HO_5
            clear BK181
            clear HB
            have HO_5 := n0_
            have BK181 := n1_
            have HB := n2_
            clear n0_ n1_ n2_
            have p182 : 0 ≤ (x6_1 : Int) := of_decide_eq_true (by first | (with_reducible assumption) | assumption)
            have q182 : x6_1 < (l0.length : Int) := of_decide_eq_true (by first | (with_reducible assumption) | assumption)
            obtain ⟨ad182, e182, hx182_0, hx182_1, hx182_2, hx182_3, hx182_4, hx182_5, hx182_6, hx182_7, hx182_8, hx182_9, hx182_10, hx182_11, hx182_12, hx182_13⟩ := at_T34 HR0.out x6_1 p182 q182
            have hw182_13 := hx182_13
            have hw182_12 := hx182_12
            have hw182_11 := hx182_11
            have hw182_10 := hx182_10
            have hw182_9 := hx182_9
            have hw182_8 := hx182_8
            have hw182_7 := hx182_7
            have hw182_6 := hx182_6
            have hw182_5 := hx182_5
            have hw182_4 := hx182_4
            have hw182_3 := hx182_3
            have hw182_2 := hx182_2
            have hw182_1 := hx182_1
            have hw182_0 := hx182_0
            cases e182
            replace hx182_0 := (HB.out.cell (World.block_lt_of_cell? w _ hx182_0)).trans hx182_0
            replace hx182_1 := (HB.out.cell (World.block_lt_of_cell? w _ hx182_1)).trans hx182_1
            replace hx182_2 := (HB.out.cell (World.block_lt_of_cell? w _ hx182_2)).trans hx182_2
            replace hx182_3 := (HB.out.cell (World.block_lt_of_cell? w _ hx182_3)).trans hx182_3
            replace hx182_4 := (HB.out.cell (World.block_lt_of_cell? w _ hx182_4)).trans hx182_4
            replace hx182_5 := (HB.out.cell (World.block_lt_of_cell? w _ hx182_5)).trans hx182_5
            replace hx182_6 := (HB.out.cell (World.block_lt_of_cell? w _ hx182_6)).trans hx182_6
            replace hx182_7 := (HB.out.cell (World.block_lt_of_cell? w _ hx182_7)).trans hx182_7
            replace hx182_8 := (HB.out.cell (World.block_lt_of_cell? w _ hx182_8)).trans hx182_8
            replace hx182_9 := (HB.out.cell (World.block_lt_of_cell? w _ hx182_9)).trans hx182_9
            replace hx182_10 := (HB.out.cell (World.block_lt_of_cell? w _ hx182_10)).trans hx182_10
            replace hx182_11 := (HB.out.cell (World.block_lt_of_cell? w _ hx182_11)).trans hx182_11
            replace hx182_12 := (HB.out.cell (World.block_lt_of_cell? w _ hx182_12)).trans hx182_12
            replace hx182_13 := (HB.out.cell (World.block_lt_of_cell? w _ hx182_13)).trans hx182_13
            replace p182 := eq_true p182
            replace q182 := eq_true q182
            refine start_ (n := 7) (S := fun w' => w'.cell? ⟨gb181, 0, none⟩ = some (.int .i64 a1_0) ∧ w'.cell? ⟨gb181, 1, none⟩ = some (.int .i64 a1_1) ∧ w'.cell? (ad182.add ((x6_1).toNat * 14)) = some (.int .i64 ((rd_T34 l0 x6_1).f0.f0)) ∧ w'.cell? ⟨(ad182.add ((x6_1).toNat * 14)).block, (ad182.add ((x6_1).toNat * 14)).off + 1, none⟩ = some (.int .i64 ((rd_T34 l0 x6_1).f0.f1)) ∧ w'.cell? ⟨(ad182.add ((x6_1).toNat * 14)).block, (ad182.add ((x6_1).toNat * 14)).off + 2, none⟩ = some (.int .i64 ((rd_T34 l0 x6_1).f1.f0)) ∧ w'.cell? ⟨(ad182.add ((x6_1).toNat * 14)).block, (ad182.add ((x6_1).toNat * 14)).off + 3, none⟩ = some (.int .i64 ((rd_T34 l0 x6_1).f1.f1)) ∧ w'.cell? ⟨(ad182.add ((x6_1).toNat * 14)).block, (ad182.add ((x6_1).toNat * 14)).off + 4, none⟩ = some (.int .i64 ((rd_T34 l0 x6_1).f1.f2)) ∧ w'.cell? ⟨(ad182.add ((x6_1).toNat * 14)).block, (ad182.add ((x6_1).toNat * 14)).off + 5, none⟩ = some (.int .i64 ((rd_T34 l0 x6_1).f1.f3.f0)) ∧ w'.cell? ⟨(ad182.add ((x6_1).toNat * 14)).block, (ad182.add ((x6_1).toNat * 14)).off + 6, none⟩ = some (.string ((rd_T34 l0 x6_1).f1.f3.f1)) ∧ w'.cell? ⟨(ad182.add ((x6_1).toNat * 14)).block, (ad182.add ((x6_1).toNat * 14)).off + 7, none⟩ = some (.int .i64 ((rd_T34 l0 x6_1).f1.f3.f2)) ∧ w'.cell? ⟨(ad182.add ((x6_1).toNat * 14)).block, (ad182.add ((x6_1).toNat * 14)).off + 8, none⟩ = some (.int .i64 ((rd_T34 l0 x6_1).f1.f3.f3)) ∧ w'.cell? ⟨(ad182.add ((x6_1).toNat * 14)).block, (ad182.add ((x6_1).toNat * 14)).off + 9, none⟩ = some (.string ((rd_T34 l0 x6_1).f1.f3.f4)) ∧ w'.cell? ⟨(ad182.add ((x6_1).toNat * 14)).block, (ad182.add ((x6_1).toNat * 14)).off + 10, none⟩ = some (.int .i64 ((rd_T34 l0 x6_1).f2.f0)) ∧ w'.cell? ⟨(ad182.add ((x6_1).toNat * 14)).block, (ad182.add ((x6_1).toNat * 14)).off + 11, none⟩ = some (.int .i64 ((rd_T34 l0 x6_1).f2.f1)) ∧ w'.cell? ⟨(ad182.add ((x6_1).toNat * 14)).block, (ad182.add ((x6_1).toNat * 14)).off + 12, none⟩ = some (.int .i64 ((rd_T34 l0 x6_1).f2.f2)) ∧ w'.cell? ⟨(ad182.add ((x6_1).toNat * 14)).block, (ad182.add ((x6_1).toNat * 14)).off + 13, none⟩ = some (.string ((rd_T34 l0 x6_1).f2.f3))) (ds := []) #[false, false, false, false, false, false, false] (by kernel_rfl) rfl rfl ⟨(blk_cell BK181.out 0).trans rfl, (blk_cell BK181.out 1).trans rfl, ((HB.out.cell (World.block_lt_of_cell? w _ hw182_0)).trans hw182_0), ((HB.out.cell (World.block_lt_of_cell? w _ hw182_1)).trans hw182_1), ((HB.out.cell (World.block_lt_of_cell? w _ hw182_2)).trans hw182_2), ((HB.out.cell (World.block_lt_of_cell? w _ hw182_3)).trans hw182_3), ((HB.out.cell (World.block_lt_of_cell? w _ hw182_4)).trans hw182_4), ((HB.out.cell (World.block_lt_of_cell? w _ hw182_5)).trans hw182_5), ((HB.out.cell (World.block_lt_of_cell? w _ hw182_6)).trans hw182_6), ((HB.out.cell (World.block_lt_of_cell? w _ hw182_7)).trans hw182_7), ((HB.out.cell (World.block_lt_of_cell? w _ hw182_8)).trans hw182_8), ((HB.out.cell (World.block_lt_of_cell? w _ hw182_9)).trans hw182_9), ((HB.out.cell (World.block_lt_of_cell? w _ hw182_10)).trans hw182_10), ((HB.out.cell (World.block_lt_of_cell? w _ hw182_11)).trans hw182_11), ((HB.out.cell (World.block_lt_of_cell? w _ hw182_12)).trans hw182_12), ((HB.out.cell (World.block_lt_of_cell? w _ hw182_13)).trans hw182_13)⟩ (fun hHeld => ?_)
            generalize wr.drew = w12 at HO_5 BK181 HB hx182_0 hx182_1 hx182_10 hx182_11 hx182_12 hx182_13 hx182_2 hx182_3 hx182_4 hx182_5 hx182_6 hx182_7 hx182_8 hx182_9 hHeld ⊢
            refine pure_ (i := 0) (N := some 13) (v := ?_) (a' := ?_) #[true, false, false, false, false, false, false] rfl rfl (by kernel_rfl) (fun _ _ _ h => h) (Or.inl ⟨by rfl, ?_⟩) ?_ ?_
            rotate_left
            · intro w'
              go_simp
              with_reducible rfl
            rotate_left
            · simp only [Act.put, List.setIfInBounds_toArray, List.set_cons_zero, List.set_cons_succ, i64_w, i32_w]
              rfl
            refine pure_ (i := 1) (N := some 14) (v := ?_) (a' := ?_) #[true, true, false, false, false, false, false] rfl rfl (by kernel_rfl) (fun _ _ _ h => h) (Or.inl ⟨by rfl, ?_⟩) ?_ ?_
            rotate_left
            · intro w'
              go_simp
              with_reducible rfl
            rotate_left
            · simp only [Act.put, List.setIfInBounds_toArray, List.set_cons_zero, List.set_cons_succ, i64_w, i32_w]
              rfl
            refine pure_ (i := 2) (N := some 15) (v := ?_) (a' := ?_) #[true, true, true, false, false, false, false] rfl rfl (by kernel_rfl) (fun _ _ _ h => h) (Or.inl ⟨by rfl, ?_⟩) ?_ ?_
            rotate_left
            · intro w'
              go_simp
              with_reducible rfl
            rotate_left
            · simp only [Act.put, List.setIfInBounds_toArray, List.set_cons_zero, List.set_cons_succ, i64_w, i32_w]
              rfl
            refine pure_ (i := 3) (N := some 16) (v := ?_) (a' := ?_) #[true, true, true, true, false, false, false] rfl rfl (by kernel_rfl) (fun _ _ _ h => h) (Or.inl ⟨by rfl, ?_⟩) ?_ ?_
            rotate_left
            · intro w'
              go_simp
              with_reducible rfl
            rotate_left
            · simp only [Act.put, List.setIfInBounds_toArray, List.set_cons_zero, List.set_cons_succ, i64_w, i32_w]
              rfl
            refine take_ (i := 4) (N := some 17) (v := ?_) (a' := ?_) #[true, true, true, true, true, false, false] rfl rfl (by kernel_rfl) (fun _ _ _ h => h) (Or.inl ⟨by rfl, ?_⟩) hHeld ?_ ?_
            rotate_left
            · rintro w' ⟨s0, s1, s2, s3, s4, s5, s6, s7, s8, s9, s10, s11, s12, s13, s14, s15⟩
              go_simp
              with_reducible rfl
            rotate_left
            · simp only [Act.put, List.setIfInBounds_toArray, List.set_cons_zero, List.set_cons_succ, i64_w, i32_w]
              rfl
            refine take_ (i := 5) (N := some 18) (v := ?_) (a' := ?_) #[true, true, true, true, true, true, false] rfl rfl (by kernel_rfl) (fun _ _ _ h => h) (Or.inl ⟨by rfl, ?_⟩) hHeld ?_ ?_
            rotate_left
            · rintro w' ⟨s0, s1, s2, s3, s4, s5, s6, s7, s8, s9, s10, s11, s12, s13, s14, s15⟩
              go_simp
              with_reducible rfl
            rotate_left
            · simp only [Act.put, List.setIfInBounds_toArray, List.set_cons_zero, List.set_cons_succ, i64_w, i32_w]
              rfl
            refine one_ (i := 6) (N := some 19) #[true, true, true, true, true, true, true] rfl rfl (by kernel_rfl) (by decide) (fun K hK => ?_)
            refine goes_ Try.func29 (by kernel_rfl) rfl #[.agg #[.int .i64 ((rd_T34 l0 x6_1).f0.f0), .int .i64 ((rd_T34 l0 x6_1).f0.f1)], .agg #[.int .i64 a1_0, .int .i64 a1_1]] (by rfl) rfl rfl (by (try simp only [List.map_toArray, List.map_cons, List.map_nil]); first | done | rfl | (simp only [List.length_drop, List.length_take]; rfl)) ?_
            with_reducible refine (reefref21_Later.calls ((rd_T34 l0 x6_1).f0.f0) ((rd_T34 l0 x6_1).f0.f1) a1_0 a1_1 false _ A6.out).mono ?_
            rintro e w13 ⟨rfl, hb⟩
            refine ⟨_, rfl, ?_⟩
            have n0_ := Aside0.mk (Kd.R_below (by (with_reducible repeat (first | apply Kd.R_alloc | apply Kd.R_drewN | apply Kd.R_drew)); exact HO_5.out) hb)
            have n1_ := Aside0.mk (blk_below (g := gb181) (o := .cells #[.int .i64 a1_0, .int .i64 a1_1] 24 (0, 0)) (by (with_reducible repeat (first | refine blk_drewN ?_ _ | refine blk_drew ?_ | refine blk_alloc ?_ _)); exact BK181.out) hb)
            have n2_ := Aside0.mk (below_step (by repeat (first | (with_reducible first | exact HB.out | apply below_alloc | apply pw_below_drewN | apply below_drew1 | refine below_set ?_ GE181.out) | exact HB.out)) hb)
            clear HO_5
            clear BK181
            clear HB
            have HO_5 := n0_
            have BK181 := n1_
            have HB := n2_
            clear n0_ n1_ n2_
            (try clear hb)
            (try clear hb2)
            (try clear hk)
            (try clear hi)
            refine hK.out _ _ ⟨(blk_cell BK181.out 0).trans rfl, (blk_cell BK181.out 1).trans rfl, ((HB.out.cell (World.block_lt_of_cell? w _ hw182_0)).trans hw182_0), ((HB.out.cell (World.block_lt_of_cell? w _ hw182_1)).trans hw182_1), ((HB.out.cell (World.block_lt_of_cell? w _ hw182_2)).trans hw182_2), ((HB.out.cell (World.block_lt_of_cell? w _ hw182_3)).trans hw182_3), ((HB.out.cell (World.block_lt_of_cell? w _ hw182_4)).trans hw182_4), ((HB.out.cell (World.block_lt_of_cell? w _ hw182_5)).trans hw182_5), ((HB.out.cell (World.block_lt_of_cell? w _ hw182_6)).trans hw182_6), ((HB.out.cell (World.block_lt_of_cell? w _ hw182_7)).trans hw182_7), ((HB.out.cell (World.block_lt_of_cell? w _ hw182_8)).trans hw182_8), ((HB.out.cell (World.block_lt_of_cell? w _ hw182_9)).trans hw182_9), ((HB.out.cell (World.block_lt_of_cell? w _ hw182_10)).trans hw182_10), ((HB.out.cell (World.block_lt_of_cell? w _ hw182_11)).trans hw182_11), ((HB.out.cell (World.block_lt_of_cell? w _ hw182_12)).trans hw182_12), ((HB.out.cell (World.block_lt_of_cell? w _ hw182_13)).trans hw182_13)⟩ (fun hHeld => ?_)
            clear hK K
            refine norm_ (a' := ?_) ?_ ?_
            rotate_left
            · show Act.put _ (some 19) _ = _
              simp only [Act.put, List.setIfInBounds_toArray, List.set_cons_zero, List.set_cons_succ, i64_w, i32_w]
              rfl
            refine done_ (by kernel_rfl) ?_
            try go_wp2
            go_roundg k1
            case measure => have := HK1.out; omega
            case rel => exact ⟨(x5_1), (wrap64 (x6_1 + 1)), (by first | rfl | (simp; done) | (simp [*]; done)), H', ⟨by have := HK1.out; omega⟩, ⟨by (with_reducible repeat (first | apply Kd.R_alloc | apply Kd.R_drewN | apply Kd.R_drew)); exact HO_5.out⟩, ⟨by (with_reducible repeat (first | refine blk_drewN ?_ _ | refine blk_drew ?_ | refine blk_alloc ?_ _)); exact BK181.out⟩, ⟨by repeat (first | (with_reducible first | exact HB.out | apply below_alloc | apply pw_below_drewN | apply below_drew1 | refine below_set ?_ GE181.out) | exact HB.out)⟩⟩
        · rw [if_neg c5] at H
          exact absurd H (by simp)
      · rw [if_neg c4] at H
        have c4b0 : decide (x6_1 < (l0.length : Int)) = false := decide_eq_false c4
        clear c4
        obtain rfl := Option.some.inj H
        go_wp2
        go_ret
        exact ⟨_, by first | rfl | (simp [errW_none, errW_some] <;> rfl) | (simp [*, errW_none, errW_some] <;> rfl), by (with_reducible repeat (first | apply Kd.R_alloc | apply Kd.R_drewN | apply Kd.R_drew)); exact HO_5.out, by repeat (first | (with_reducible first | exact HB.out | apply below_alloc | apply pw_below_drewN | apply below_drew1 | refine below_set ?_ GE181.out) | exact HB.out)⟩
end Go.Proofs.Ytbdciklcckjknaa.P
