/- Texts of this claim, merged by pack.py: B4a HK2 PPglogAlike B4 -/
import Derived.Test.YtbdciklcckjknaaZT01
import Derived.RangeFuncNested
import Derived.WalkMore
import Derived.CallsIn
import Derived.Test.YtbdciklcckjknaaZT08
import Derived.BigRegionIn
import Derived.Stop.RegionWithIn
namespace Go.Proofs.Ytbdciklcckjknaa.P
open Go.RowKit Go.Proofs.YtbdciklcckjknaaW.PrintWords Go.Proofs.YtbdciklcckjknaaW.PrintLast Go.Proofs.YtbdciklcckjknaaW.PrintMore Go.Proofs.YtbdciklcckjknaaW.HB
set_option linter.unusedVariables false
set_option linter.unusedSimpArgs false
attribute [local go_sem] Oper.semAt_some
theorem k34_still (W W' : World) (x : S34) (cs : List Value) (h : k34.K W x cs) : k34.K W' x cs := by
  rw [k34_open h]; exact k34_mk _ x
set_option maxRecDepth 100000 in
set_option maxHeartbeats 4000000 in
theorem back_1_in (F : Fence) (n : Nat) (hF : F.fn 58) (hro : F.round = none) (hn : 1 ≤ n) (l b c N0 : Nat) (X Ts : Nat → Prop) (A : Option Addr) (xs : List S34) (hb : b < N0) (hbX : ¬ X b)
    (hA : ∀ ad, A = some ad → 0 < xs.length → ad.block < N0 ∧ ¬ X ad.block)
    (J Jx : List S34 → World → Prop) (W : World) (hN : N0 ≤ W.heap.size)
    (hY : ∀ pre x W, J pre W → pre.length < xs.length → YieldAt F (n - 1) Try.prog l #[.agg #[.int .i64 x.f0.f0, .int .i64 x.f0.f1, .int .i64 x.f1.f0, .int .i64 x.f1.f1, .int .i64 x.f1.f2, .int .i64 x.f1.f3.f0, .string x.f1.f3.f1, .int .i64 x.f1.f3.f2, .int .i64 x.f1.f3.f3, .string x.f1.f3.f4, .int .i64 x.f2.f0, .int .i64 x.f2.f1, .int .i64 x.f2.f2, .string x.f2.f3]] W fun e W' =>
      (e = .returned (.bool true) ∧ J (pre ++ [x]) W' ∧ KeepX N0 X Ts W W') ∨ (e = .returned (.bool false) ∧ Jx (pre ++ [x]) W'))
    (hB : W.cell? ⟨b, 0, none⟩ = some (.slice A xs.length c)) (hC : Kd.C k34 W A xs.length xs) (hc : xs.length ≤ c) (h0 : J [] W) :
    CallsIn F n Try.prog 58 #[.func (.yield l) #[] #[], .pointer (some ⟨b, 0, none⟩)] W fun e W' => (∃ v, e = .returned v) ∧
      ((∃ ys, ys = xs.reverse ∧ J ys W') ∨ (∃ pre, (∃ q, pre = xs.reverse.take q) ∧ Jx pre W')) := by
  have hu := Try.underlying34
  have hlen := hC.2.1
  have HC := Aside0.mk hC
  have HCC := Aside0.mk hc
  clear hC hc
  refine callsIn_of_wp Try.func58 rfl hF ?_ hro
  simp only [Try.ntmps58, List.size_toArray, List.length_cons, List.length_nil, Nat.reduceAdd, Nat.reduceSub, Array.replicate_succ, Array.replicate_zero, List.push_toArray, List.append_toArray, List.nil_append, List.cons_append]
  gi_wp2
  gi_loopw [3] (fun i wr => ∃ v : Int, -1 ≤ v ∧ v < xs.length ∧ i = .int .i64 v ∧ Aside0 (J (xs.reverse.take (xs.length - (v + 1).toNat)) wr) ∧ Aside0 (KeepX N0 X Ts W wr)) (fun i _ => (intOf i + 1).toNat)
  case atStart => exact ⟨(xs.length : Int) - 1, by omega, by omega, rfl, ⟨by simpa using h0⟩, ⟨KeepX.refl _ _ _ _⟩⟩
  case round =>
    obtain ⟨v, hv1, hv2, rfl, HJ, HK⟩ := hrel
    by_cases hlt : 0 ≤ v
    · obtain ⟨p, rfl⟩ := Int.eq_ofNat_of_zero_le hlt
      have hp : p < xs.length := by omega
      have hBr := HK.out.cell hB hb hbX
      have hq0 : (p : Int) < (xs.length : Int) := by omega
      have hge : decide ((p : Int) ≥ 0) = true := decide_eq_true (by omega)
      have HCr := C_keepX' k34_still HC.out HK.out hA
      obtain ⟨ad, e1, hx0, hx1, hx2, hx3, hx4, hx5, hx6, hx7, hx8, hx9, hx10, hx11, hx12, hx13⟩ := at_T34 HCr (p : Int) (by omega) (by omega)
      cases e1
      simp only [Int.toNat_natCast] at hx0 hx1 hx2 hx3 hx4 hx5 hx6 hx7 hx8 hx9 hx10 hx11 hx12 hx13
      have HQ := Aside0.mk (show xs.length - (((p : Int) + 1)).toNat = xs.length - 1 - p from by omega)
      rw [HQ.out] at HJ
      obtain ⟨fn, tmps, assign, body, hy, hR⟩ := hY _ (rd_T34 xs p) wr HJ.out (by rw [List.length_take]; simp; omega)
      have HS := Aside0.mk (show xs.reverse.take (xs.length - 1 - p) ++ [rd_T34 xs p] = xs.reverse.take (xs.length - p) from by
        have e2 : xs.length - p = (xs.length - 1 - p) + 1 := by omega
        rw [e2, List.take_succ_eq_append_getElem (by simp; omega), rd_at_N xs p hp]
        congr 2
        rw [List.getElem_reverse]
        congr 1
        omega)
      rw [HS.out] at hR
      clear HCr
      gi_wp2
      refine hR.mono ?_
      rintro e W3 (⟨rfl, hJ3, hk3⟩ | ⟨rfl, hJx3⟩)
      · have HJ3 := Aside0.mk hJ3
        have HK3 := Aside0.mk (HK.out.trans hk3)
        clear hJ3 hk3 hR hy HS hBr hx0 hx1 hx2 hx3 hx4 hx5 hx6 hx7 hx8 hx9 hx10 hx11 hx12 hx13
        gi_wp2
        go_roundw
        case rel => exact ⟨(p : Int) - 1, by omega, by omega, by first | rfl | go_num, ⟨by rw [show ((p : Int) - 1 + 1).toNat = p from by omega]; exact HJ3.out⟩, HK3⟩
        case measure => first | (simp [intOf]; done) | (simp [intOf]; omega)
      · have HJ3 := Aside0.mk hJx3
        clear hJx3 hR hy HS hBr hx0 hx1 hx2 hx3 hx4 hx5 hx6 hx7 hx8 hx9 hx10 hx11 hx12 hx13
        gi_wp2
        refine bodyPost_ret (results_none rfl _ _ _) rfl ?_
        exact ⟨⟨_, rfl⟩, .inr ⟨_, ⟨_, rfl⟩, HJ3.out⟩⟩
    · have hv : v = -1 := by omega
      subst hv
      gi_wp2
      go_end0
      have h1 := HJ.out
      rw [show ((-1 : Int) + 1).toNat = 0 from rfl, Nat.sub_zero, List.take_of_length_le (by simp)] at h1
      exact ⟨⟨_, rfl⟩, .inl (by first | exact ⟨_, rfl, h1⟩ | exact h1)⟩
theorem back_stops (F : Fence) (n : Nat) (hF : F.fn 58) (hro : F.round = none) (hn : 1 ≤ n) (b c : Nat) (X Ts : Nat → Prop) (A : Option Addr) (xs : List S34) (w : World) (hb : b < w.heap.size) (hbX : ¬ X b)
    (hA : ∀ ad, A = some ad → 0 < xs.length → ad.block < w.heap.size ∧ ¬ X ad.block) (hB : w.cell? ⟨b, 0, none⟩ = some (.slice A xs.length c)) (hC : Kd.C k34 w A xs.length xs) (hc : xs.length ≤ c) :
    SeqStopsK F n Try.prog 58 #[.pointer (some ⟨b, 0, none⟩)] (fun x : S34 => #[.agg #[.int .i64 x.f0.f0, .int .i64 x.f0.f1, .int .i64 x.f1.f0, .int .i64 x.f1.f1, .int .i64 x.f1.f2, .int .i64 x.f1.f3.f0, .string x.f1.f3.f1, .int .i64 x.f1.f3.f2, .int .i64 x.f1.f3.f3, .string x.f1.f3.f4, .int .i64 x.f2.f0, .int .i64 x.f2.f1, .int .i64 x.f2.f2, .string x.f2.f3]]) (KeepX w.heap.size X Ts) (fun ys => ys = xs.reverse) (fun pre => ∃ q, pre = xs.reverse.take q) xs.length w := fun l J Jx W hW hJ hJx hY h0 =>
  back_1_in F n hF hro hn l b c w.heap.size X Ts A xs hb hbX hA J Jx W hW.size hY ((hW.cell hb).trans hB) (Kd.C_below hC hW) hc h0
theorem back_in (F : Fence) (n : Nat) (hF : F.fn 35) (hro : F.round = none) (A : Option Addr) (m c : Nat) (w : World) :
    CallsIn F n Try.prog 35 #[.slice A m c] w fun e w' => e = .returned (.func (.func 58) #[] #[.pointer (some ⟨w.heap.size, 0, none⟩)]) ∧ w' = w.alloc (.cells #[.slice A m c] 22) := by
  refine callsIn_of_wp Try.func35 rfl hF ?_ hro
  simp only [Try.ntmps35, List.size_toArray, List.length_cons, List.length_nil, Nat.reduceAdd, Nat.reduceSub, Array.replicate_succ, Array.replicate_zero, List.push_toArray, List.append_toArray, List.nil_append, List.cons_append]
  gi_wp2
  go_ret
  exact ⟨rfl, rfl⟩
end Go.Proofs.Ytbdciklcckjknaa.P
namespace Go.Proofs.Ytbdciklcckjknaa.P
open Go.RowKit Go.Proofs.YtbdciklcckjknaaW.PrintWords Go.Proofs.YtbdciklcckjknaaW.PrintLast Go.Proofs.YtbdciklcckjknaaW.PrintMore Go.Proofs.YtbdciklcckjknaaW.HB
set_option linter.unusedVariables false
theorem cells_nc {w w1 : World} {k : Nat} {cs : Array Value} {t : TypeId} {fr : Nat × Nat} (h : w.heap[k]? = some (.cells cs t fr)) {row : Option Nat} (hg : w.grownBy w1 row) (hr : ∀ r, row = some r → ∃ o : Obj, w.heap[r]? = some o ∧ o.isCells = false) : w1.heap[k]? = some (.cells cs t fr) :=
  (hg.block k (Array.getElem?_eq_some_iff.1 h).1 (fun e' => by
    obtain ⟨o, ho, hoc⟩ := hr k e'.symm
    rw [h] at ho; cases ho; cases hoc)).trans h
theorem keepX_nc {N0 : Nat} {X Ts : Nat → Prop} {A B C : World} (h : KeepX N0 X Ts A B) {row : Option Nat} (hg : B.grownBy C row) (hr : ∀ r, row = some r → ∃ o : Obj, B.heap[r]? = some o ∧ o.isCells = false) : KeepX N0 X Ts A C :=
  h.trans ⟨hg.size, fun k cs T fr hk _ => cells_nc hk hg hr⟩
theorem rf_H {F : Fence} {n : Nat} {P : Program} {α : Type} {g : Operand} {ps : Array Tmp} {assign body : Code} {Q : Exit → Act → World → Prop} {a : Act} {w : World}
    (hro : F.round = none) (h1 : 1 ≤ n) {gf : Nat} {lb : Array Value} (hg : a.eval g = .func (.func gf) #[] lb) (hFg : F.fn gf) (eg : ∀ args w, (callFunc gf args).run P w = .ok (.enter gf args) w)
    {encs : α → Array Value} {N0 : Nat} {X Ts : Nat → Prop} {S Sp : List α → Prop} {N : Nat} {w0 : World} (hseq : SeqStopsK F (n - 1) P gf lb encs (KeepX N0 X Ts) S Sp N w0)
    (hb0 : Below w0.heap.size w0 w) (hps : ∀ x, (encs x).size = ps.size)
    (I : List α → World → Prop) (Ix : Code → List α → World → Prop) (hI : OwnFrom w.heap.size I) (hIx : ∀ c, OwnFrom w.heap.size (Ix c)) (h0 : I [] w)
    (Bx : World → Nat → α → Prop) (hBx : ∀ x b, OwnFrom w.heap.size (fun (_ : Unit) W => Bx W b x))
    (h : ∃ f : α → Nat → Act, (∀ (l : Nat) (pre : List α) (x : α) (W : World) (K : Act → World → Prop), I pre W → (∀ b W', KeepsFrom w.heap.size W W' → KeepX N0 X Ts W W' → I pre W' → w.heap.size ≤ b → Bx W' b x → K (f x b) W') →
      assign.wpIn (F.inRound l) (n - 1 - 1) P (Exit.then K (fun _ _ _ => False)) { tmps := (ps.zip (encs x)).foldl (fun t (p, v) => t.setIfInBounds p v) a.tmps, defers := [] } W) ∧
    (∀ (l : Nat) (pre : List α) (x : α) (b : Nat) (W : World), w.heap.size ≤ l → (∃ r, W.heap[l]? = some (.loop r)) → I pre W → w.heap.size ≤ b → Bx W b x → pre.length < N → body.wpIn (F.inRound l) (n - 1 - 1) P (ownPostG w.heap.size (KeepX N0 X Ts) I Ix (pre ++ [x]) W) (f x b) W) ∧
    (∀ (D : Nat) (xs : List α) (W : World), w.heap.size ≤ D → S xs → I xs W → W.heap[D]? = some (.deferred (some [])) → Q .normal { a with defers := { target := .collected D, args := #[] } :: a.defers } W) ∧
    (∀ (D : Nat) (c : Code) (pre : List α) (W : World), w.heap.size ≤ D → Sp pre → Ix c pre W → W.heap[D]? = some (.deferred (some [])) → c.wpIn F n P Q { a with defers := { target := .collected D, args := #[] } :: a.defers } W)) :
    (Code.rangeFunc g ps assign body).wpIn F n P Q a w := by
  obtain ⟨f, hassign, hbody, hdone, hstop⟩ := h
  refine wpIn_rangeFunc_ownH hro h1 hg hFg eg hseq KeepX.trans (fun W l o o' _ h hc _ => KeepX.put W l o o' h hc) hb0 hps I Ix hI hIx h0
    (fun x a' W => ∃ b, w.heap.size ≤ b ∧ Bx W b x ∧ a' = f x b) (fun x a' s X Y row hs hg hr => ?_) (fun l pre x W K hi hK => ?_) (fun l pre x a' W hl hr hi hA hlt => ?_) hdone hstop
  · obtain ⟨b, h1, h2, h3⟩ := hs
    exact ⟨b, h1, hBx x b () X Y row h2 hg hr, h3⟩
  · exact hassign l pre x W K hi (fun b W' k1 k2 k3 k4 k5 => hK _ _ k1 k2 k3 ⟨b, k4, k5, rfl⟩)
  · obtain ⟨b, h1, h2, rfl⟩ := hA
    exact hbody l pre x b W hl hr hi h1 h2 hlt
theorem rf_N {F : Fence} {n : Nat} {P : Program} {α : Type} {g : Operand} {ps : Array Tmp} {assign body : Code} {Q : Exit → Act → World → Prop} {a : Act} {w : World} {l₀ : Nat} {r₀ : Loop}
    (hro : F.round = some l₀) (hl₀ : w.heap[l₀]? = some (.loop r₀)) (h1 : 1 ≤ n) {gf : Nat} {lb : Array Value} (hg : a.eval g = .func (.func gf) #[] lb) (hFg : F.fn gf) (eg : ∀ args w, (callFunc gf args).run P w = .ok (.enter gf args) w)
    {encs : α → Array Value} {N0 : Nat} {X Ts : Nat → Prop} {S Sp : List α → Prop} {N : Nat} {w0 : World} (hseq : SeqStopsK F (n - 1) P gf lb encs (KeepX N0 X Ts) S Sp N w0)
    (hb0 : Below w0.heap.size w0 w) (hps : ∀ x, (encs x).size = ps.size)
    (I : List α → World → Prop) (Ix : Code → List α → World → Prop) (hI : OwnFrom w.heap.size I) (hIx : ∀ c, OwnFrom w.heap.size (Ix c)) (h0 : I [] w)
    (Bx : World → Nat → α → Prop) (hBx : ∀ x b, OwnFrom w.heap.size (fun (_ : Unit) W => Bx W b x))
    (h : ∃ f : α → Nat → Act, (∀ (l : Nat) (pre : List α) (x : α) (W : World) (K : Act → World → Prop), I pre W → (∀ b W', KeepsFrom w.heap.size W W' → KeepX N0 X Ts W W' → I pre W' → w.heap.size ≤ b → Bx W' b x → K (f x b) W') →
      assign.wpIn (F.inRound l) (n - 1 - 1) P (Exit.then K (fun _ _ _ => False)) { tmps := (ps.zip (encs x)).foldl (fun t (p, v) => t.setIfInBounds p v) a.tmps, defers := [] } W) ∧
    (∀ (l : Nat) (pre : List α) (x : α) (b : Nat) (W : World), w.heap.size ≤ l → (∃ r, W.heap[l]? = some (.loop r)) → I pre W → w.heap.size ≤ b → Bx W b x → pre.length < N → body.wpIn (F.inRound l) (n - 1 - 1) P (ownPostG w.heap.size (KeepX N0 X Ts) I Ix (pre ++ [x]) W) (f x b) W) ∧
    (∀ (xs : List α) (W : World), S xs → I xs W → Q .normal a W) ∧
    (∀ (c : Code) (pre : List α) (W : World), Sp pre → Ix c pre W → c.wpIn F n P Q a W)) :
    (Code.rangeFunc g ps assign body).wpIn F n P Q a w := by
  obtain ⟨f, hassign, hbody, hdone, hstop⟩ := h
  refine wpIn_rangeFunc_ownN hro hl₀ h1 hg hFg eg hseq KeepX.trans (fun W l o o' _ h hc _ => KeepX.put W l o o' h hc) hb0 hps I Ix hI hIx h0
    (fun x a' W => ∃ b, w.heap.size ≤ b ∧ Bx W b x ∧ a' = f x b) (fun x a' s X Y row hs hg hr => ?_) (fun l pre x W K hi hK => ?_) (fun l pre x a' W hl hr hi hA hlt => ?_) hdone hstop
  · obtain ⟨b, h1, h2, h3⟩ := hs
    exact ⟨b, h1, hBx x b () X Y row h2 hg hr, h3⟩
  · exact hassign l pre x W K hi (fun b W' k1 k2 k3 k4 k5 => hK _ _ k1 k2 k3 ⟨b, k4, k5, rfl⟩)
  · obtain ⟨b, h1, h2, rfl⟩ := hA
    exact hbody l pre x b W hl hr hi h1 h2 hlt
theorem C_block {α : Type} {d : Kd α} (hs : 0 < d.sz) {W : World} {A : Option Addr} {n : Nat} {xs : List α} (h : Kd.C d W A n xs) : ∀ ad, A = some ad → 0 < n → ad.block < W.heap.size := by
  intro ad e hn
  obtain ⟨ad', e', hc⟩ := h.2.2 hn
  obtain rfl : ad = ad' := by rw [e] at e'; exact Option.some.inj e'
  have hl := h.1
  obtain ⟨c, h1, h2, h3⟩ := hc 0 xs[0] (List.getElem?_eq_getElem (by omega))
  have hc0 : 0 < c.length := by omega
  have := World.block_lt_of_cell? _ _ (h3 0 c[0] (List.getElem?_eq_getElem hc0))
  rw [Nat.zero_mul, Nat.zero_add] at this
  simpa [Addr.add] using this
theorem heap_alloc_if (w : World) (o : Obj) (k : Nat) : (w.alloc o).heap[k]? = if k = w.heap.size then some o else w.heap[k]? := by
  show (w.heap.push o)[k]? = _
  rw [Array.getElem?_push]
theorem keepsFrom_below {W W' : World} (B : Nat) (h : Below W.heap.size W W') : KeepsFrom B W W' := ⟨h.size, fun k o _ ho _ => (h.block k (Array.getElem?_eq_some_iff.1 ho).1).trans ho⟩
theorem meetM {F : Fence} {n : Nat} {P : Program} {c : Code} {Q : Exit → Act → World → Prop} {a : Act} {w : World}
    (h : ∃ a' w', c.wpIn F n P (fun e a w => match e with | .normal => a = a' ∧ w = w' | _ => False) a w ∧ Q .normal a' w') : c.wpIn F n P Q a w := by
  obtain ⟨a', w', h1, h2⟩ := h
  refine wpIn_mono h1 ?_
  rintro e b v hb
  cases e with
  | normal => obtain ⟨rfl, rfl⟩ := hb; exact h2
  | _ => exact hb.elim
theorem wpIn_scope_wide {n : Nat} {P : Program} {c : Code} {Q : Exit → Act → World → Prop} {a : Act} {w : World} (h : c.wpIn Fence.wide n P (Exit.noGoto Q) a w) : (Code.scope c).wpIn Fence.wide n P Q a w := wpIn_wide.2 (wp_scope_straight (wpIn_wide.1 h))
end Go.Proofs.Ytbdciklcckjknaa.P
namespace Go.Proofs.Ytbdciklcckjknaa.P
open Go.RowKit Go.Proofs.YtbdciklcckjknaaW.PrintWords Go.Proofs.YtbdciklcckjknaaW.PrintLast Go.Proofs.YtbdciklcckjknaaW.PrintMore
attribute [local go_sem] max2_int min2_int max_two min_two max_three min_three max_four min_four
set_option linter.unusedVariables false
set_option linter.unusedSimpArgs false
attribute [local go_sem high] eqA24 eqA29 eqA34
def pglog_alike.f (a0_0 : Int) (a0_1 : Int) (a0_2 : Int) (a0_3 : Int) (a0_4 : Int) (a0_5 : Int) (a0_6 : ByteArray) (a0_7 : Int) (a0_8 : Int) (a0_9 : ByteArray) (a0_10 : Int) (a0_11 : Int) (a0_12 : Int) (a0_13 : ByteArray) (a1_0 : Int) (a1_1 : Int) (a1_2 : Int) (a1_3 : Int) (a1_4 : Int) (a1_5 : Int) (a1_6 : ByteArray) (a1_7 : Int) (a1_8 : Int) (a1_9 : ByteArray) (a1_10 : Int) (a1_11 : Int) (a1_12 : Int) (a1_13 : ByteArray) : Option (Bool) := if (a0_0 == a1_0 && (a0_1 == a1_1)) = true then (some (a0_2 == a1_2 && (a0_3 == a1_3 && (a0_4 == a1_4 && ((a0_5 == a1_5 && (a0_6.toList == a1_6.toList && (a0_7 == a1_7 && (a0_8 == a1_8 && (a0_9.toList == a1_9.toList)))))))))) else (some false)
set_option maxHeartbeats 8000000 in
set_option maxRecDepth 100000 in
theorem pglog_alike.calls (a0_0 : Int) (a0_1 : Int) (a0_2 : Int) (a0_3 : Int) (a0_4 : Int) (a0_5 : Int) (a0_6 : ByteArray) (a0_7 : Int) (a0_8 : Int) (a0_9 : ByteArray) (a0_10 : Int) (a0_11 : Int) (a0_12 : Int) (a0_13 : ByteArray) (a1_0 : Int) (a1_1 : Int) (a1_2 : Int) (a1_3 : Int) (a1_4 : Int) (a1_5 : Int) (a1_6 : ByteArray) (a1_7 : Int) (a1_8 : Int) (a1_9 : ByteArray) (a1_10 : Int) (a1_11 : Int) (a1_12 : Int) (a1_13 : ByteArray) (r : Bool) (w : World) (h : pglog_alike.f a0_0 a0_1 a0_2 a0_3 a0_4 a0_5 a0_6 a0_7 a0_8 a0_9 a0_10 a0_11 a0_12 a0_13 a1_0 a1_1 a1_2 a1_3 a1_4 a1_5 a1_6 a1_7 a1_8 a1_9 a1_10 a1_11 a1_12 a1_13 = some r) :
    Calls Try.prog 36 #[.agg #[.int .i64 a0_0, .int .i64 a0_1, .int .i64 a0_2, .int .i64 a0_3, .int .i64 a0_4, .int .i64 a0_5, .string a0_6, .int .i64 a0_7, .int .i64 a0_8, .string a0_9, .int .i64 a0_10, .int .i64 a0_11, .int .i64 a0_12, .string a0_13], .agg #[.int .i64 a1_0, .int .i64 a1_1, .int .i64 a1_2, .int .i64 a1_3, .int .i64 a1_4, .int .i64 a1_5, .string a1_6, .int .i64 a1_7, .int .i64 a1_8, .string a1_9, .int .i64 a1_10, .int .i64 a1_11, .int .i64 a1_12, .string a1_13]] w fun e w' => e = .returned (.bool r) ∧ Below w.heap.size w w' := by
  have hu34 := Try.underlying34
  have hu24 := Try.underlying24
  have hu29 := Try.underlying29
  have HB := Aside0.mk (Below.refl w.heap.size w)
  have H : (if (a0_0 == a1_0 && (a0_1 == a1_1)) = true then (some (a0_2 == a1_2 && (a0_3 == a1_3 && (a0_4 == a1_4 && ((a0_5 == a1_5 && (a0_6.toList == a1_6.toList && (a0_7 == a1_7 && (a0_8 == a1_8 && (a0_9.toList == a1_9.toList)))))))))) else (some false)) = some r := h
  clear h
  by_cases c3 : (a0_0 == a1_0 && (a0_1 == a1_1)) = true
  · rw [if_pos c3] at H
    have c3b0 : (a0_0 == a1_0 && (a0_1 == a1_1)) = true := c3
    (try (have c3b1 : decide (a0_0 = a1_0 && (a0_1 == a1_1)) = true := by simpa using c3))
    (try (have c3b2 : (a0_0 == a1_0 && (a0_1 == a1_1)) = true := by simpa using c3))
    clear c3
    obtain rfl := Option.some.inj H
    go_enter Try.func36, Try.ntmps36
    go_wp2_with (first | ((with_reducible refine gate_dst (N := 2) rfl ?_); refine box_event ?hg (N := 2) ?hd (cs := #[.int .i64 a0_0, .int .i64 a0_1, .int .i64 a0_2, .int .i64 a0_3, .int .i64 a0_4, .int .i64 a0_5, .string a0_6, .int .i64 a0_7, .int .i64 a0_8, .string a0_9, .int .i64 a0_10, .int .i64 a0_11, .int .i64 a0_12, .string a0_13]) (t := 34) ?hr ?_; (case hd => rfl); (case hg => rfl); (case hr => first | (go_simp; done) | (go_simp; rfl)); intro gb150 hg w4 hbox hb; have n0_ := Aside0.mk (below_step (by repeat (first | (with_reducible first | exact HB.out | apply below_alloc | apply pw_below_drewN | apply below_drew1) | exact HB.out)) hb); have n1_ := Aside0.mk (hbox); have n2_ := Aside0.mk ((by rw [hg]; exact (below_size (by repeat (first | (with_reducible first | exact HB.out | apply below_alloc | apply pw_below_drewN | apply below_drew1) | exact HB.out))) : w.heap.size ≤ gb150)); have n3_ := Aside0.mk ((by rw [hg]; exact (below_size (by repeat (first | (with_reducible first | exact HB.out | apply below_alloc | apply pw_below_drewN | apply below_drew1) | exact HB.out))) : w.heap.size ≤ gb150)); clear HB; have HB := n0_; have BK150 := n1_; have GW150 := n2_; have GE150 := n3_; clear n0_ n1_ n2_ n3_; clear hb hbox hg) | ((with_reducible refine gate_dst (N := 3) rfl ?_); refine box_event ?hg (N := 3) ?hd (cs := #[.int .i64 a1_0, .int .i64 a1_1, .int .i64 a1_2, .int .i64 a1_3, .int .i64 a1_4, .int .i64 a1_5, .string a1_6, .int .i64 a1_7, .int .i64 a1_8, .string a1_9, .int .i64 a1_10, .int .i64 a1_11, .int .i64 a1_12, .string a1_13]) (t := 34) ?hr ?_; (case hd => rfl); (case hg => rfl); (case hr => first | (go_simp; done) | (go_simp; rfl)); intro gb151 hg w5 hbox hb; have n0_ := Aside0.mk (blk_below (g := gb150) (o := .cells #[.int .i64 a0_0, .int .i64 a0_1, .int .i64 a0_2, .int .i64 a0_3, .int .i64 a0_4, .int .i64 a0_5, .string a0_6, .int .i64 a0_7, .int .i64 a0_8, .string a0_9, .int .i64 a0_10, .int .i64 a0_11, .int .i64 a0_12, .string a0_13] 34 (0, 0)) (by (with_reducible repeat (first | refine blk_drewN ?_ _ | refine blk_drew ?_ | refine blk_alloc ?_ _)); exact BK150.out) hb); have n1_ := Aside0.mk (below_step (by repeat (first | (with_reducible first | exact HB.out | apply below_alloc | apply pw_below_drewN | apply below_drew1 | refine below_set ?_ GE150.out) | exact HB.out)) hb); have n2_ := Aside0.mk (hbox); have n3_ := Aside0.mk ((by rw [hg]; exact (below_size (by repeat (first | (with_reducible first | exact HB.out | apply below_alloc | apply pw_below_drewN | apply below_drew1 | refine below_set ?_ GE150.out) | exact HB.out))) : w.heap.size ≤ gb151)); have n4_ := Aside0.mk ((by rw [hg]; exact (below_size (by repeat (first | (with_reducible first | exact HB.out | apply below_alloc | apply pw_below_drewN | apply below_drew1 | refine below_set ?_ GE150.out) | exact HB.out))) : w.heap.size ≤ gb151)); have n5_ := Aside0.mk ((by rw [hg]; exact Nat.ne_of_lt (blk_lt (g := gb150) (o := .cells #[.int .i64 a0_0, .int .i64 a0_1, .int .i64 a0_2, .int .i64 a0_3, .int .i64 a0_4, .int .i64 a0_5, .string a0_6, .int .i64 a0_7, .int .i64 a0_8, .string a0_9, .int .i64 a0_10, .int .i64 a0_11, .int .i64 a0_12, .string a0_13] 34 (0, 0)) (by (with_reducible repeat (first | refine blk_drewN ?_ _ | refine blk_drew ?_ | refine blk_alloc ?_ _)); exact BK150.out)) : gb150 ≠ gb151)); have n6_ := Aside0.mk ((by rw [hg]; exact Nat.ne_of_gt (blk_lt (g := gb150) (o := .cells #[.int .i64 a0_0, .int .i64 a0_1, .int .i64 a0_2, .int .i64 a0_3, .int .i64 a0_4, .int .i64 a0_5, .string a0_6, .int .i64 a0_7, .int .i64 a0_8, .string a0_9, .int .i64 a0_10, .int .i64 a0_11, .int .i64 a0_12, .string a0_13] 34 (0, 0)) (by (with_reducible repeat (first | refine blk_drewN ?_ _ | refine blk_drew ?_ | refine blk_alloc ?_ _)); exact BK150.out)) : gb151 ≠ gb150)); clear BK150; clear HB; have BK150 := n0_; have HB := n1_; have BK151 := n2_; have GW151 := n3_; have GE151 := n4_; have NB150_151 := n5_; have NB151_150 := n6_; clear n0_ n1_ n2_ n3_ n4_ n5_ n6_; clear hb hbox hg; have hnb6 := NB150_151.out; have hnc6 := NB151_150.out; have hcz7_0 : w5.cell? ⟨gb150, 0, none⟩ = some (.int .i64 a0_0) := (blk_cell BK150.out 0).trans rfl; have hcz7_1 : w5.cell? ⟨gb150, 1, none⟩ = some (.int .i64 a0_1) := (blk_cell BK150.out 1).trans rfl; have hcz7_2 : w5.cell? ⟨gb150, 2, none⟩ = some (.int .i64 a0_2) := (blk_cell BK150.out 2).trans rfl; have hcz7_3 : w5.cell? ⟨gb150, 3, none⟩ = some (.int .i64 a0_3) := (blk_cell BK150.out 3).trans rfl; have hcz7_4 : w5.cell? ⟨gb150, 4, none⟩ = some (.int .i64 a0_4) := (blk_cell BK150.out 4).trans rfl; have hcz7_5 : w5.cell? ⟨gb150, 5, none⟩ = some (.int .i64 a0_5) := (blk_cell BK150.out 5).trans rfl; have hcz7_6 : w5.cell? ⟨gb150, 6, none⟩ = some (.string a0_6) := (blk_cell BK150.out 6).trans rfl; have hcz7_7 : w5.cell? ⟨gb150, 7, none⟩ = some (.int .i64 a0_7) := (blk_cell BK150.out 7).trans rfl; have hcz7_8 : w5.cell? ⟨gb150, 8, none⟩ = some (.int .i64 a0_8) := (blk_cell BK150.out 8).trans rfl; have hcz7_9 : w5.cell? ⟨gb150, 9, none⟩ = some (.string a0_9) := (blk_cell BK150.out 9).trans rfl; have hcz7_10 : w5.cell? ⟨gb150, 10, none⟩ = some (.int .i64 a0_10) := (blk_cell BK150.out 10).trans rfl; have hcz7_11 : w5.cell? ⟨gb150, 11, none⟩ = some (.int .i64 a0_11) := (blk_cell BK150.out 11).trans rfl; have hcz7_12 : w5.cell? ⟨gb150, 12, none⟩ = some (.int .i64 a0_12) := (blk_cell BK150.out 12).trans rfl; have hcz7_13 : w5.cell? ⟨gb150, 13, none⟩ = some (.string a0_13) := (blk_cell BK150.out 13).trans rfl; have hfz7_0 := blk_frozen BK150.out 0; have hfz7_1 := blk_frozen BK150.out 1; have hfz7_2 := blk_frozen BK150.out 2; have hfz7_3 := blk_frozen BK150.out 3; have hfz7_4 := blk_frozen BK150.out 4; have hfz7_5 := blk_frozen BK150.out 5; have hfz7_6 := blk_frozen BK150.out 6; have hfz7_7 := blk_frozen BK150.out 7; have hfz7_8 := blk_frozen BK150.out 8; have hfz7_9 := blk_frozen BK150.out 9; have hfz7_10 := blk_frozen BK150.out 10; have hfz7_11 := blk_frozen BK150.out 11; have hfz7_12 := blk_frozen BK150.out 12; have hfz7_13 := blk_frozen BK150.out 13; have hcz8_0 : w5.cell? ⟨gb151, 0, none⟩ = some (.int .i64 a1_0) := (blk_cell BK151.out 0).trans rfl; have hcz8_1 : w5.cell? ⟨gb151, 1, none⟩ = some (.int .i64 a1_1) := (blk_cell BK151.out 1).trans rfl; have hcz8_2 : w5.cell? ⟨gb151, 2, none⟩ = some (.int .i64 a1_2) := (blk_cell BK151.out 2).trans rfl; have hcz8_3 : w5.cell? ⟨gb151, 3, none⟩ = some (.int .i64 a1_3) := (blk_cell BK151.out 3).trans rfl; have hcz8_4 : w5.cell? ⟨gb151, 4, none⟩ = some (.int .i64 a1_4) := (blk_cell BK151.out 4).trans rfl; have hcz8_5 : w5.cell? ⟨gb151, 5, none⟩ = some (.int .i64 a1_5) := (blk_cell BK151.out 5).trans rfl; have hcz8_6 : w5.cell? ⟨gb151, 6, none⟩ = some (.string a1_6) := (blk_cell BK151.out 6).trans rfl; have hcz8_7 : w5.cell? ⟨gb151, 7, none⟩ = some (.int .i64 a1_7) := (blk_cell BK151.out 7).trans rfl; have hcz8_8 : w5.cell? ⟨gb151, 8, none⟩ = some (.int .i64 a1_8) := (blk_cell BK151.out 8).trans rfl; have hcz8_9 : w5.cell? ⟨gb151, 9, none⟩ = some (.string a1_9) := (blk_cell BK151.out 9).trans rfl; have hcz8_10 : w5.cell? ⟨gb151, 10, none⟩ = some (.int .i64 a1_10) := (blk_cell BK151.out 10).trans rfl; have hcz8_11 : w5.cell? ⟨gb151, 11, none⟩ = some (.int .i64 a1_11) := (blk_cell BK151.out 11).trans rfl; have hcz8_12 : w5.cell? ⟨gb151, 12, none⟩ = some (.int .i64 a1_12) := (blk_cell BK151.out 12).trans rfl; have hcz8_13 : w5.cell? ⟨gb151, 13, none⟩ = some (.string a1_13) := (blk_cell BK151.out 13).trans rfl; have hfz8_0 := blk_frozen BK151.out 0; have hfz8_1 := blk_frozen BK151.out 1; have hfz8_2 := blk_frozen BK151.out 2; have hfz8_3 := blk_frozen BK151.out 3; have hfz8_4 := blk_frozen BK151.out 4; have hfz8_5 := blk_frozen BK151.out 5; have hfz8_6 := blk_frozen BK151.out 6; have hfz8_7 := blk_frozen BK151.out 7; have hfz8_8 := blk_frozen BK151.out 8; have hfz8_9 := blk_frozen BK151.out 9; have hfz8_10 := blk_frozen BK151.out 10; have hfz8_11 := blk_frozen BK151.out 11; have hfz8_12 := blk_frozen BK151.out 12; have hfz8_13 := blk_frozen BK151.out 13))
    go_ret
    exact ⟨by first | rfl | (simp [errW_none, errW_some] <;> rfl) | (simp [*, errW_none, errW_some] <;> rfl), by repeat (first | (with_reducible first | exact HB.out | apply below_alloc | apply pw_below_drewN | apply below_drew1 | refine below_set ?_ GE150.out | refine below_set ?_ GE151.out) | exact HB.out)⟩
  · rw [if_neg c3] at H
    have c3b0 : (a0_0 == a1_0 && (a0_1 == a1_1)) = false := by simpa using c3
    (try (have c3b1 : decide (a0_0 = a1_0 && (a0_1 == a1_1)) = false := by simpa using c3))
    (try (have c3b2 : (a0_0 == a1_0 && (a0_1 == a1_1)) = false := by simpa using c3))
    (try (have c3b3 : ¬ (a0_0 = a1_0 && (a0_1 == a1_1)) := by simpa using c3))
    clear c3
    obtain rfl := Option.some.inj H
    go_enter Try.func36, Try.ntmps36
    go_wp2_with (first | ((with_reducible refine gate_dst (N := 2) rfl ?_); refine box_event ?hg (N := 2) ?hd (cs := #[.int .i64 a0_0, .int .i64 a0_1, .int .i64 a0_2, .int .i64 a0_3, .int .i64 a0_4, .int .i64 a0_5, .string a0_6, .int .i64 a0_7, .int .i64 a0_8, .string a0_9, .int .i64 a0_10, .int .i64 a0_11, .int .i64 a0_12, .string a0_13]) (t := 34) ?hr ?_; (case hd => rfl); (case hg => rfl); (case hr => first | (go_simp; done) | (go_simp; rfl)); intro gb150 hg w9 hbox hb; have n0_ := Aside0.mk (below_step (by repeat (first | (with_reducible first | exact HB.out | apply below_alloc | apply pw_below_drewN | apply below_drew1) | exact HB.out)) hb); have n1_ := Aside0.mk (hbox); have n2_ := Aside0.mk ((by rw [hg]; exact (below_size (by repeat (first | (with_reducible first | exact HB.out | apply below_alloc | apply pw_below_drewN | apply below_drew1) | exact HB.out))) : w.heap.size ≤ gb150)); have n3_ := Aside0.mk ((by rw [hg]; exact (below_size (by repeat (first | (with_reducible first | exact HB.out | apply below_alloc | apply pw_below_drewN | apply below_drew1) | exact HB.out))) : w.heap.size ≤ gb150)); clear HB; have HB := n0_; have BK150 := n1_; have GW150 := n2_; have GE150 := n3_; clear n0_ n1_ n2_ n3_; clear hb hbox hg) | ((with_reducible refine gate_dst (N := 3) rfl ?_); refine box_event ?hg (N := 3) ?hd (cs := #[.int .i64 a1_0, .int .i64 a1_1, .int .i64 a1_2, .int .i64 a1_3, .int .i64 a1_4, .int .i64 a1_5, .string a1_6, .int .i64 a1_7, .int .i64 a1_8, .string a1_9, .int .i64 a1_10, .int .i64 a1_11, .int .i64 a1_12, .string a1_13]) (t := 34) ?hr ?_; (case hd => rfl); (case hg => rfl); (case hr => first | (go_simp; done) | (go_simp; rfl)); intro gb151 hg w10 hbox hb; have n0_ := Aside0.mk (blk_below (g := gb150) (o := .cells #[.int .i64 a0_0, .int .i64 a0_1, .int .i64 a0_2, .int .i64 a0_3, .int .i64 a0_4, .int .i64 a0_5, .string a0_6, .int .i64 a0_7, .int .i64 a0_8, .string a0_9, .int .i64 a0_10, .int .i64 a0_11, .int .i64 a0_12, .string a0_13] 34 (0, 0)) (by (with_reducible repeat (first | refine blk_drewN ?_ _ | refine blk_drew ?_ | refine blk_alloc ?_ _)); exact BK150.out) hb); have n1_ := Aside0.mk (below_step (by repeat (first | (with_reducible first | exact HB.out | apply below_alloc | apply pw_below_drewN | apply below_drew1 | refine below_set ?_ GE150.out) | exact HB.out)) hb); have n2_ := Aside0.mk (hbox); have n3_ := Aside0.mk ((by rw [hg]; exact (below_size (by repeat (first | (with_reducible first | exact HB.out | apply below_alloc | apply pw_below_drewN | apply below_drew1 | refine below_set ?_ GE150.out) | exact HB.out))) : w.heap.size ≤ gb151)); have n4_ := Aside0.mk ((by rw [hg]; exact (below_size (by repeat (first | (with_reducible first | exact HB.out | apply below_alloc | apply pw_below_drewN | apply below_drew1 | refine below_set ?_ GE150.out) | exact HB.out))) : w.heap.size ≤ gb151)); have n5_ := Aside0.mk ((by rw [hg]; exact Nat.ne_of_lt (blk_lt (g := gb150) (o := .cells #[.int .i64 a0_0, .int .i64 a0_1, .int .i64 a0_2, .int .i64 a0_3, .int .i64 a0_4, .int .i64 a0_5, .string a0_6, .int .i64 a0_7, .int .i64 a0_8, .string a0_9, .int .i64 a0_10, .int .i64 a0_11, .int .i64 a0_12, .string a0_13] 34 (0, 0)) (by (with_reducible repeat (first | refine blk_drewN ?_ _ | refine blk_drew ?_ | refine blk_alloc ?_ _)); exact BK150.out)) : gb150 ≠ gb151)); have n6_ := Aside0.mk ((by rw [hg]; exact Nat.ne_of_gt (blk_lt (g := gb150) (o := .cells #[.int .i64 a0_0, .int .i64 a0_1, .int .i64 a0_2, .int .i64 a0_3, .int .i64 a0_4, .int .i64 a0_5, .string a0_6, .int .i64 a0_7, .int .i64 a0_8, .string a0_9, .int .i64 a0_10, .int .i64 a0_11, .int .i64 a0_12, .string a0_13] 34 (0, 0)) (by (with_reducible repeat (first | refine blk_drewN ?_ _ | refine blk_drew ?_ | refine blk_alloc ?_ _)); exact BK150.out)) : gb151 ≠ gb150)); clear BK150; clear HB; have BK150 := n0_; have HB := n1_; have BK151 := n2_; have GW151 := n3_; have GE151 := n4_; have NB150_151 := n5_; have NB151_150 := n6_; clear n0_ n1_ n2_ n3_ n4_ n5_ n6_; clear hb hbox hg; have hnb11 := NB150_151.out; have hnc11 := NB151_150.out; have hcz12_0 : w10.cell? ⟨gb150, 0, none⟩ = some (.int .i64 a0_0) := (blk_cell BK150.out 0).trans rfl; have hcz12_1 : w10.cell? ⟨gb150, 1, none⟩ = some (.int .i64 a0_1) := (blk_cell BK150.out 1).trans rfl; have hcz12_2 : w10.cell? ⟨gb150, 2, none⟩ = some (.int .i64 a0_2) := (blk_cell BK150.out 2).trans rfl; have hcz12_3 : w10.cell? ⟨gb150, 3, none⟩ = some (.int .i64 a0_3) := (blk_cell BK150.out 3).trans rfl; have hcz12_4 : w10.cell? ⟨gb150, 4, none⟩ = some (.int .i64 a0_4) := (blk_cell BK150.out 4).trans rfl; have hcz12_5 : w10.cell? ⟨gb150, 5, none⟩ = some (.int .i64 a0_5) := (blk_cell BK150.out 5).trans rfl; have hcz12_6 : w10.cell? ⟨gb150, 6, none⟩ = some (.string a0_6) := (blk_cell BK150.out 6).trans rfl; have hcz12_7 : w10.cell? ⟨gb150, 7, none⟩ = some (.int .i64 a0_7) := (blk_cell BK150.out 7).trans rfl; have hcz12_8 : w10.cell? ⟨gb150, 8, none⟩ = some (.int .i64 a0_8) := (blk_cell BK150.out 8).trans rfl; have hcz12_9 : w10.cell? ⟨gb150, 9, none⟩ = some (.string a0_9) := (blk_cell BK150.out 9).trans rfl; have hcz12_10 : w10.cell? ⟨gb150, 10, none⟩ = some (.int .i64 a0_10) := (blk_cell BK150.out 10).trans rfl; have hcz12_11 : w10.cell? ⟨gb150, 11, none⟩ = some (.int .i64 a0_11) := (blk_cell BK150.out 11).trans rfl; have hcz12_12 : w10.cell? ⟨gb150, 12, none⟩ = some (.int .i64 a0_12) := (blk_cell BK150.out 12).trans rfl; have hcz12_13 : w10.cell? ⟨gb150, 13, none⟩ = some (.string a0_13) := (blk_cell BK150.out 13).trans rfl; have hfz12_0 := blk_frozen BK150.out 0; have hfz12_1 := blk_frozen BK150.out 1; have hfz12_2 := blk_frozen BK150.out 2; have hfz12_3 := blk_frozen BK150.out 3; have hfz12_4 := blk_frozen BK150.out 4; have hfz12_5 := blk_frozen BK150.out 5; have hfz12_6 := blk_frozen BK150.out 6; have hfz12_7 := blk_frozen BK150.out 7; have hfz12_8 := blk_frozen BK150.out 8; have hfz12_9 := blk_frozen BK150.out 9; have hfz12_10 := blk_frozen BK150.out 10; have hfz12_11 := blk_frozen BK150.out 11; have hfz12_12 := blk_frozen BK150.out 12; have hfz12_13 := blk_frozen BK150.out 13; have hcz13_0 : w10.cell? ⟨gb151, 0, none⟩ = some (.int .i64 a1_0) := (blk_cell BK151.out 0).trans rfl; have hcz13_1 : w10.cell? ⟨gb151, 1, none⟩ = some (.int .i64 a1_1) := (blk_cell BK151.out 1).trans rfl; have hcz13_2 : w10.cell? ⟨gb151, 2, none⟩ = some (.int .i64 a1_2) := (blk_cell BK151.out 2).trans rfl; have hcz13_3 : w10.cell? ⟨gb151, 3, none⟩ = some (.int .i64 a1_3) := (blk_cell BK151.out 3).trans rfl; have hcz13_4 : w10.cell? ⟨gb151, 4, none⟩ = some (.int .i64 a1_4) := (blk_cell BK151.out 4).trans rfl; have hcz13_5 : w10.cell? ⟨gb151, 5, none⟩ = some (.int .i64 a1_5) := (blk_cell BK151.out 5).trans rfl; have hcz13_6 : w10.cell? ⟨gb151, 6, none⟩ = some (.string a1_6) := (blk_cell BK151.out 6).trans rfl; have hcz13_7 : w10.cell? ⟨gb151, 7, none⟩ = some (.int .i64 a1_7) := (blk_cell BK151.out 7).trans rfl; have hcz13_8 : w10.cell? ⟨gb151, 8, none⟩ = some (.int .i64 a1_8) := (blk_cell BK151.out 8).trans rfl; have hcz13_9 : w10.cell? ⟨gb151, 9, none⟩ = some (.string a1_9) := (blk_cell BK151.out 9).trans rfl; have hcz13_10 : w10.cell? ⟨gb151, 10, none⟩ = some (.int .i64 a1_10) := (blk_cell BK151.out 10).trans rfl; have hcz13_11 : w10.cell? ⟨gb151, 11, none⟩ = some (.int .i64 a1_11) := (blk_cell BK151.out 11).trans rfl; have hcz13_12 : w10.cell? ⟨gb151, 12, none⟩ = some (.int .i64 a1_12) := (blk_cell BK151.out 12).trans rfl; have hcz13_13 : w10.cell? ⟨gb151, 13, none⟩ = some (.string a1_13) := (blk_cell BK151.out 13).trans rfl; have hfz13_0 := blk_frozen BK151.out 0; have hfz13_1 := blk_frozen BK151.out 1; have hfz13_2 := blk_frozen BK151.out 2; have hfz13_3 := blk_frozen BK151.out 3; have hfz13_4 := blk_frozen BK151.out 4; have hfz13_5 := blk_frozen BK151.out 5; have hfz13_6 := blk_frozen BK151.out 6; have hfz13_7 := blk_frozen BK151.out 7; have hfz13_8 := blk_frozen BK151.out 8; have hfz13_9 := blk_frozen BK151.out 9; have hfz13_10 := blk_frozen BK151.out 10; have hfz13_11 := blk_frozen BK151.out 11; have hfz13_12 := blk_frozen BK151.out 12; have hfz13_13 := blk_frozen BK151.out 13))
    go_ret
    exact ⟨by first | rfl | (simp [errW_none, errW_some] <;> rfl) | (simp [*, errW_none, errW_some] <;> rfl), by repeat (first | (with_reducible first | exact HB.out | apply below_alloc | apply pw_below_drewN | apply below_drew1 | refine below_set ?_ GE150.out | refine below_set ?_ GE151.out) | exact HB.out)⟩
end Go.Proofs.Ytbdciklcckjknaa.P
namespace Go.Proofs.Ytbdciklcckjknaa.P
open Go.RowKit Go.Proofs.YtbdciklcckjknaaW.PrintWords Go.Proofs.YtbdciklcckjknaaW.PrintLast Go.Proofs.YtbdciklcckjknaaW.PrintMore Go.Proofs.YtbdciklcckjknaaW.HB
set_option linter.unusedVariables false
set_option linter.unusedSimpArgs false
attribute [local go_sem] Oper.semAt_some
def alikeB (x y : S34) : Bool := (pglog_alike.f x.f0.f0 x.f0.f1 x.f1.f0 x.f1.f1 x.f1.f2 x.f1.f3.f0 x.f1.f3.f1 x.f1.f3.f2 x.f1.f3.f3 x.f1.f3.f4 x.f2.f0 x.f2.f1 x.f2.f2 x.f2.f3 y.f0.f0 y.f0.f1 y.f1.f0 y.f1.f1 y.f1.f2 y.f1.f3.f0 y.f1.f3.f1 y.f1.f3.f2 y.f1.f3.f3 y.f1.f3.f4 y.f2.f0 y.f2.f1 y.f2.f2 y.f2.f3).getD false
theorem alikeB_f (x y : S34) : pglog_alike.f x.f0.f0 x.f0.f1 x.f1.f0 x.f1.f1 x.f1.f2 x.f1.f3.f0 x.f1.f3.f1 x.f1.f3.f2 x.f1.f3.f3 x.f1.f3.f4 x.f2.f0 x.f2.f1 x.f2.f2 x.f2.f3 y.f0.f0 y.f0.f1 y.f1.f0 y.f1.f1 y.f1.f2 y.f1.f3.f0 y.f1.f3.f1 y.f1.f3.f2 y.f1.f3.f3 y.f1.f3.f4 y.f2.f0 y.f2.f1 y.f2.f2 y.f2.f3 = some (alikeB x y) := by
  unfold alikeB pglog_alike.f
  split <;> rfl
def XBox (W : World) (b : Nat) (x : S34) : Prop := W.heap[b]? = some (.cells #[.int .i64 x.f0.f0, .int .i64 x.f0.f1, .int .i64 x.f1.f0, .int .i64 x.f1.f1, .int .i64 x.f1.f2, .int .i64 x.f1.f3.f0, .string x.f1.f3.f1, .int .i64 x.f1.f3.f2, .int .i64 x.f1.f3.f3, .string x.f1.f3.f4, .int .i64 x.f2.f0, .int .i64 x.f2.f1, .int .i64 x.f2.f2, .string x.f2.f3] 34 (0, 0))
theorem XBox.lt {w : World} {b : Nat} {x : S34} (h : XBox w b x) : b < w.heap.size := (Array.getElem?_eq_some_iff.1 h).1
theorem xbox_own (B : Nat) (x : S34) (b : Nat) : OwnFrom B (fun (_ : Unit) W => XBox W b x) := fun _ X Y row hs hg hr => cells_nc hs hg (fun r e => (hr r e).2)
structure CmSt (w : World) (b0 b1 b2 b3 N0 : Nat) (vb : Value) (f : Bool) (e v : Int) (W : World) : Prop where
  xb : Boxed W b0 22 vb
  xr : W.heap[b1]? = some (.cells #[.int .i64 0, .int .i64 0] 24 (0, 0))
  xa : W.heap[b2]? = some (.cells #[.int .i64 e, .int .i64 v] 24 (0, 0))
  xf : Boxed W b3 4 (.bool f)
  below : Below w.heap.size w W
  ge : N0 ≤ W.heap.size
  o : w.heap.size ≤ b0 ∧ b0 < b1 ∧ b1 < b2 ∧ b2 < b3 ∧ b3 < N0
section
variable {w : World} {b0 b1 b2 b3 N0 : Nat} {vb : Value} {f : Bool} {e v : Int} {X Y : World}
theorem CmSt.nc (h : CmSt w b0 b1 b2 b3 N0 vb f e v X) {row : Option Nat} (hg : X.grownBy Y row) (hr : ∀ r, row = some r → w.heap.size ≤ r ∧ ∃ o : Obj, X.heap[r]? = some o ∧ o.isCells = false) : CmSt w b0 b1 b2 b3 N0 vb f e v Y := by
  have hr' := fun r e => (hr r e).2
  exact ⟨boxed_nc h.xb hg hr', cells_nc h.xr hg hr', cells_nc h.xa hg hr', boxed_nc h.xf hg hr', pw_below_grown h.below row h.below.size hg (fun k e => (hr k e).1), Nat.le_trans h.ge hg.size, h.o⟩
theorem CmSt.step (h : CmSt w b0 b1 b2 b3 N0 vb f e v X) (hb : Below X.heap.size X Y) : CmSt w b0 b1 b2 b3 N0 vb f e v Y :=
  ⟨boxed_step h.xb hb, (hb.block _ (Array.getElem?_eq_some_iff.1 h.xr).1).trans h.xr, (hb.block _ (Array.getElem?_eq_some_iff.1 h.xa).1).trans h.xa, boxed_step h.xf hb, below_step h.below hb, Nat.le_trans h.ge hb.size, h.o⟩
theorem CmSt.cells (h : CmSt w b0 b1 b2 b3 N0 vb f e v X) : X.cell? ⟨b0, 0, none⟩ = some vb ∧ X.cell? ⟨b1, 0, none⟩ = some (.int .i64 0) ∧ X.cell? ⟨b1, 1, none⟩ = some (.int .i64 0) ∧ X.cell? ⟨b2, 0, none⟩ = some (.int .i64 e) ∧ X.cell? ⟨b2, 1, none⟩ = some (.int .i64 v) ∧ X.cell? ⟨b3, 0, none⟩ = some (.bool f) := by
  refine ⟨h.xb.cell, ?_, ?_, ?_, ?_, h.xf.cell⟩ <;> simp [World.cell?, h.xr, h.xa]
theorem CmSt.frozen (h : CmSt w b0 b1 b2 b3 N0 vb f e v X) : X.frozen? ⟨b2, 0, none⟩ = false ∧ X.frozen? ⟨b2, 1, none⟩ = false ∧ X.frozen? ⟨b3, 0, none⟩ = false ∧ X.frozen? ⟨b1, 0, none⟩ = false ∧ X.frozen? ⟨b1, 1, none⟩ = false := by
  refine ⟨?_, ?_, h.xf.frozen, ?_, ?_⟩ <;> simp [World.frozen?, h.xr, h.xa]
theorem hset {W : World} {b : Nat} {cs : Array Value} {t : TypeId} {fr : Nat × Nat} (h : W.heap[b]? = some (.cells cs t fr)) (k : Nat) (u : Value) : (W.setCell ⟨b, k, none⟩ u).heap[b]? = some (.cells (cs.setIfInBounds k u) t fr) := by
  show (W.heap.modify b _)[b]? = _
  rw [Array.getElem?_modify, if_pos rfl, h]
  rfl
theorem hfar {W : World} {b b' : Nat} {o : Obj} (h : W.heap[b]? = some o) (hne : b ≠ b') (k : Nat) (u : Value) : (W.setCell ⟨b', k, none⟩ u).heap[b]? = some o := (Below.heap_setCell W _ u b hne).trans h
theorem hsize (Z : World) (a : Addr) (u : Value) : Z.heap.size ≤ (Z.setCell a u).heap.size := (KeepsWalks.setCell Z a u).size
theorem CmSt.found (h : CmSt w b0 b1 b2 b3 N0 vb f e v X) (e' v' : Int) :
    CmSt w b0 b1 b2 b3 N0 vb true e' v' (((X.setCell ⟨b2, 0, none⟩ (.int .i64 e')).setCell ⟨b2, 1, none⟩ (.int .i64 v')).setCell ⟨b3, 0, none⟩ (.bool true)) := by
  have o := h.o
  refine ⟨hfar (hfar (hfar h.xb (by omega) _ _) (by omega) _ _) (by omega) _ _, hfar (hfar (hfar h.xr (by omega) _ _) (by omega) _ _) (by omega) _ _, hfar (hset (hset h.xa 0 _) 1 _) (by omega) _ _, hset (hfar (hfar h.xf (by omega) _ _) (by omega) _ _) 0 _,
    ((h.below.setCell (by show _ ≤ b2; omega) _).setCell (by show _ ≤ b2; omega) _).setCell (by show _ ≤ b3; omega) _, ?_, o⟩
  exact Nat.le_trans h.ge (Nat.le_trans (hsize _ _ _) (Nat.le_trans (hsize _ _ _) (hsize _ _ _)))
theorem CmSt.last (h : CmSt w b0 b1 b2 b3 N0 vb f e v X) {D : Nat} (hD : N0 ≤ D) (hK : X.heap[D]? = some (.deferred (some []))) (p q : Int) :
    (((X.setCell ⟨b1, 0, none⟩ (.int .i64 p)).setCell ⟨b1, 1, none⟩ (.int .i64 q)).drew).heap[D]? = some (.deferred (some [])) ∧
    (((X.setCell ⟨b1, 0, none⟩ (.int .i64 p)).setCell ⟨b1, 1, none⟩ (.int .i64 q)).drew.putObj D (.deferred none)).heap[b1]? = some (.cells #[.int .i64 p, .int .i64 q] 24 (0, 0)) ∧
    Below w.heap.size w (((X.setCell ⟨b1, 0, none⟩ (.int .i64 p)).setCell ⟨b1, 1, none⟩ (.int .i64 q)).drew.putObj D (.deferred none)) := by
  have o := h.o
  have hb : Below w.heap.size w (((X.setCell ⟨b1, 0, none⟩ (.int .i64 p)).setCell ⟨b1, 1, none⟩ (.int .i64 q)).drew) := ((h.below.setCell (by show _ ≤ b1; omega) _).setCell (by show _ ≤ b1; omega) _).drew
  refine ⟨hfar (hfar hK (by omega) _ _) (by omega) _ _, (World.putObj_heap_other (by omega)).trans (hset (hset h.xr 0 _) 1 _), pw_below_grown hb _ hb.size (grownBy_putObj' _ D (.deferred none)) (fun k hk => by cases hk; omega)⟩
theorem XBox.cells {W : World} {b : Nat} {x : S34} (h : XBox W b x) : W.cell? ⟨b, 0, none⟩ = some (.int .i64 x.f0.f0) ∧ W.cell? ⟨b, 1, none⟩ = some (.int .i64 x.f0.f1) ∧ W.cell? ⟨b, 2, none⟩ = some (.int .i64 x.f1.f0) ∧ W.cell? ⟨b, 3, none⟩ = some (.int .i64 x.f1.f1) ∧ W.cell? ⟨b, 4, none⟩ = some (.int .i64 x.f1.f2) ∧ W.cell? ⟨b, 5, none⟩ = some (.int .i64 x.f1.f3.f0) ∧ W.cell? ⟨b, 6, none⟩ = some (.string x.f1.f3.f1) ∧ W.cell? ⟨b, 7, none⟩ = some (.int .i64 x.f1.f3.f2) ∧ W.cell? ⟨b, 8, none⟩ = some (.int .i64 x.f1.f3.f3) ∧ W.cell? ⟨b, 9, none⟩ = some (.string x.f1.f3.f4) ∧ W.cell? ⟨b, 10, none⟩ = some (.int .i64 x.f2.f0) ∧ W.cell? ⟨b, 11, none⟩ = some (.int .i64 x.f2.f1) ∧ W.cell? ⟨b, 12, none⟩ = some (.int .i64 x.f2.f2) ∧ W.cell? ⟨b, 13, none⟩ = some (.string x.f2.f3) := by
  unfold XBox at h
  simp [World.cell?, h]
end
def pglog_Common.f (l0 l1 : List S34) : Option (Int × Int × Bool) := some (match l0.reverse.find? (fun x => l1.any (alikeB x)) with
  | some x => (x.f0.f0, x.f0.f1, true)
  | none => (0, 0, false))
def CmPost (w : World) (r : Option (Int × Int × Bool)) (e : Ending) (w' : World) : Prop := ∃ r1 r2 r3, r = some (r1, r2, r3) ∧ e = .returned (.tuple #[.agg #[.int .i64 r1, .int .i64 r2], .bool r3]) ∧ Below w.heap.size w w'
set_option maxRecDepth 100000 in
set_option maxHeartbeats 8000000 in
theorem common_in (A0 : Option Addr) (c0 : Nat) (xs : List S34) (A1 : Option Addr) (c1 : Nat) (ys : List S34) (w : World) (hr0 : Kd.C k34 w A0 xs.length xs) (hc0 : xs.length ≤ c0) (hr1 : Kd.C k34 w A1 ys.length ys) (hc1 : ys.length ≤ c1) :
    CallsIn Fence.wide 9 Try.prog 20 #[.slice A0 xs.length c0, .slice A1 ys.length c1] w (CmPost w (pglog_Common.f xs ys)) := by
  have HR0 := Aside0.mk hr0
  have HR1 := Aside0.mk hr1
  have HC0 := Aside0.mk hc0
  have HC1 := Aside0.mk hc1
  clear hr0 hr1 hc0 hc1
  have hu := Try.underlying34
  have hu2 := Try.underlying24
  have hz2 := Try.zeroValue24
  refine callsIn_of_wp_marks Try.func20 rfl trivial ?_ rfl
  simp only [Try.ntmps20, List.size_toArray, List.length_cons, List.length_nil, Nat.reduceAdd, Nat.reduceSub, Array.replicate_succ, Array.replicate_zero, List.push_toArray, List.append_toArray, List.nil_append, List.cons_append]
  gi_wp2
  refine wpIn_scope_wide ?_
  gi_wp2
  refine wpIn_label ?_
  gi_wp2_with (refine ⟨trivial, ?_⟩; gi_at_call 35; refine (back_in Fence.wide 8 trivial rfl A0 xs.length c0 _).mono ?_; rintro e w' ⟨rfl, rfl⟩)
  have hA := C_block (by decide) HR0.out
  have hAy := C_block (by decide) HR1.out
  obtain ⟨b0, hb0⟩ : ∃ b0, b0 = w.heap.size := ⟨_, rfl⟩
  obtain ⟨b1, hb1⟩ : ∃ b1, b1 = w.heap.size + 1 := ⟨_, rfl⟩
  obtain ⟨b2, hb2⟩ : ∃ b2, b2 = w.heap.size + 1 + 1 := ⟨_, rfl⟩
  obtain ⟨b3, hb3⟩ : ∃ b3, b3 = w.heap.size + 1 + 1 + 1 := ⟨_, rfl⟩
  obtain ⟨b4, hb4⟩ : ∃ b4, b4 = w.heap.size + 1 + 1 + 1 + 1 := ⟨_, rfl⟩
  rw [← hb4, ← hb3, ← hb2, ← hb1, ← hb0]
  obtain ⟨wl, hwl⟩ : ∃ wl, wl = (((((w.alloc (Obj.cells #[Value.slice A1 ys.length c1] 22)).alloc (Obj.cells #[Value.int IntKind.i64 0, Value.int IntKind.i64 0] 24)).alloc (Obj.cells #[Value.int IntKind.i64 0, Value.int IntKind.i64 0] 24)).alloc (Obj.cells #[Value.bool false] 4)).alloc (Obj.cells #[Value.slice A0 xs.length c0] 22)) := ⟨_, rfl⟩
  rw [← hwl]
  have hsz : wl.heap.size = b4 + 1 := by rw [hwl, hb4]; simp
  have hbw : Below w.heap.size w wl := by rw [hwl]; exact below_alloc (below_alloc (below_alloc (below_alloc (below_alloc (Below.refl _ _) _) _) _) _) _
  have hc4 : wl.cell? ⟨b4, 0, none⟩ = some (.slice A0 xs.length c0) := by rw [hwl, hb4]; go_simp
  have heap_at : ∀ k : Nat, k < 5 → wl.heap[w.heap.size + k]? = [Obj.cells #[Value.slice A1 ys.length c1] 22, Obj.cells #[Value.int IntKind.i64 0, Value.int IntKind.i64 0] 24, Obj.cells #[Value.int IntKind.i64 0, Value.int IntKind.i64 0] 24, Obj.cells #[Value.bool false] 4, Obj.cells #[Value.slice A0 xs.length c0] 22][k]? := by
    intro k hk
    rw [hwl]
    simp only [heap_alloc_if, World.size_alloc]
    match k, hk with
    | 0, _ => repeat (first | rw [if_pos (by omega)]; rfl | rw [if_neg (by omega)])
    | 1, _ => repeat (first | rw [if_pos (by omega)]; rfl | rw [if_neg (by omega)])
    | 2, _ => repeat (first | rw [if_pos (by omega)]; rfl | rw [if_neg (by omega)])
    | 3, _ => repeat (first | rw [if_pos (by omega)]; rfl | rw [if_neg (by omega)])
    | 4, _ => repeat (first | rw [if_pos (by omega)]; rfl | rw [if_neg (by omega)])
  have S0 : CmSt w b0 b1 b2 b3 wl.heap.size (.slice A1 ys.length c1) false 0 0 wl := ⟨by rw [hb0]; exact heap_at 0 (by omega), by rw [hb1]; exact heap_at 1 (by omega), by rw [hb2]; exact heap_at 2 (by omega), by rw [hb3]; exact heap_at 3 (by omega), hbw, Nat.le_refl _, by omega⟩
  have HCx := Aside0.mk (Kd.C_below HR0.out hbw)
  have HB := Aside0.mk (show b0 = w.heap.size ∧ b1 = w.heap.size + 1 ∧ b2 = w.heap.size + 1 + 1 ∧ b3 = w.heap.size + 1 + 1 + 1 ∧ b4 = w.heap.size + 1 + 1 + 1 + 1 ∧ wl.heap.size = b4 + 1 from ⟨hb0, hb1, hb2, hb3, hb4, hsz⟩)
  clear heap_at hwl
  have HSEQ := back_stops Fence.wide 8 trivial rfl (by decide) b4 c0 (fun k => k = b2 ∨ k = b3) (fun _ => False) A0 xs wl (by omega) (by show ¬ (b4 = b2 ∨ b4 = b3); omega) (fun ad e hp => by have := hA ad e hp; refine ⟨by omega, ?_⟩; show ¬ (ad.block = b2 ∨ ad.block = b3); omega) hc4 HCx.out HC0.out
  have HIo : OwnFrom wl.heap.size (fun (pre : List S34) W => CmSt w b0 b1 b2 b3 wl.heap.size (.slice A1 ys.length c1) false 0 0 W ∧ ∀ x ∈ pre, ys.any (alikeB x) = false) := fun s X Y row hs hg hr => ⟨hs.1.nc hg (fun r e => ⟨by have := (hr r e).1; omega, (hr r e).2⟩), hs.2⟩
  have HIx : ∀ c : Code, OwnFrom wl.heap.size (fun (pre : List S34) W => c = .exit 0 ∧ ∃ pre' x, pre = pre' ++ [x] ∧ (∀ x ∈ pre', ys.any (alikeB x) = false) ∧ ys.any (alikeB x) = true ∧ CmSt w b0 b1 b2 b3 wl.heap.size (.slice A1 ys.length c1) true x.f0.f0 x.f0.f1 W) := fun c s X Y row hs hg hr => by
    obtain ⟨h1, p, x, h2, h3, h4, h5⟩ := hs
    exact ⟨h1, p, x, h2, h3, h4, h5.nc hg (fun r e => ⟨by have := (hr r e).1; omega, (hr r e).2⟩)⟩
  refine rf_H (F := Fence.wide) (P := Try.prog) (encs := fun x : S34 => #[.agg #[.int .i64 x.f0.f0, .int .i64 x.f0.f1, .int .i64 x.f1.f0, .int .i64 x.f1.f1, .int .i64 x.f1.f2, .int .i64 x.f1.f3.f0, .string x.f1.f3.f1, .int .i64 x.f1.f3.f2, .int .i64 x.f1.f3.f3, .string x.f1.f3.f4, .int .i64 x.f2.f0, .int .i64 x.f2.f1, .int .i64 x.f2.f2, .string x.f2.f3]]) rfl (by decide) (gf := 58) (lb := #[.pointer (some ⟨b4, 0, none⟩)]) rfl trivial (Go.Proofs.enters_of Try.func58 (by kernel_rfl) rfl) HSEQ (Below.refl _ _) (fun _ => rfl)
    _ _ HIo HIx ⟨S0, fun x hx => by cases hx⟩ XBox (fun x b => xbox_own _ x b) ?_
  clear HSEQ HIo HIx S0 hb0 hb1 hb2 hb3 hb4 hsz hc4
  apply Exists.intro
  refine ⟨?assign, ?body, ?done, ?stop⟩
  case assign =>
    intro l pre x W K hI hK
    have hge := hI.1.ge
    have HI := Aside0.mk hI
    clear hI
    gi_wp2
    obtain ⟨b, hb⟩ : ∃ b, b = W.heap.size := ⟨_, rfl⟩
    rw [← hb]
    refine hK b _ ((KeepsOthers.alloc W _).from _) (KeepX.below (below_alloc (Below.refl _ _) _)) ⟨HI.out.1.step (below_alloc (Below.refl _ _) _), HI.out.2⟩ (by omega) ?_
    rw [hb]
    exact World.alloc_heap_new W _
  case body =>
    rintro l pre x bx W hl ⟨r, hr⟩ ⟨hS, hno⟩ hbx hX hlt
    have hcb := hS.cells.1
    have HS := Aside0.mk hS
    have HX := Aside0.mk hX
    have HN := Aside0.mk hno
    have HR := Aside0.mk hr
    clear hS hX hno hr
    gi_wp2_with (refine ⟨trivial, ?_⟩; gi_at_call 35; refine (CallsIn.inRound l (back_in Fence.wide 6 trivial rfl A1 ys.length c1 _)).mono ?_; rintro e w' ⟨rfl, rfl⟩)
    obtain ⟨bz, hbz⟩ : ∃ bz, bz = W.heap.size := ⟨_, rfl⟩
    rw [← hbz]
    obtain ⟨V0, hV0⟩ : ∃ V0, V0 = W.alloc (.cells #[.slice A1 ys.length c1] 22) := ⟨_, rfl⟩
    rw [← hV0]
    have hbV : Below W.heap.size W V0 := by rw [hV0]; exact below_alloc (Below.refl _ _) _
    have hszV : V0.heap.size = bz + 1 := by rw [hV0, hbz]; simp
    have hcz : V0.cell? ⟨bz, 0, none⟩ = some (.slice A1 ys.length c1) := by rw [hV0, hbz]; exact cell_fresh _ _ _ _ _ rfl
    have ho := HS.out.o
    have hge := HS.out.ge
    have hKV : KeepX wl.heap.size (fun k => k = b2 ∨ k = b3) (fun _ => False) W V0 := KeepX.below hbV
    have hFV : KeepsFrom wl.heap.size W V0 := by rw [hV0]; exact (KeepsOthers.alloc W _).from _
    have HB2 := Aside0.mk hbz
    clear hV0 hbz
    have HSEQ := (back_stops Fence.wide 6 trivial rfl (by decide) bz c1 (fun k => k = b2 ∨ k = b3) (fun _ => False) A1 ys V0 (by omega) (by have := HB2.out; show ¬ (bz = b2 ∨ bz = b3); omega) (fun ad e hp => by have := hAy ad e hp; have := HB2.out; refine ⟨by omega, ?_⟩; show ¬ (ad.block = b2 ∨ ad.block = b3); omega) hcz (Kd.C_below HR1.out (below_step HS.out.below hbV)) HC1.out).inRound l
    have HIo : OwnFrom V0.heap.size (fun (pr : List S34) V => CmSt w b0 b1 b2 b3 wl.heap.size (.slice A1 ys.length c1) false 0 0 V ∧ XBox V bx x ∧ KeepsFrom wl.heap.size W V ∧ KeepX wl.heap.size (fun k => k = b2 ∨ k = b3) (fun _ => False) W V ∧ V0.heap.size ≤ V.heap.size ∧ ∀ y ∈ pr, alikeB x y = false) := fun s X Y row hs hg hr =>
      ⟨hs.1.nc hg (fun r e => ⟨by have := (hr r e).1; have := HB2.out; omega, (hr r e).2⟩), cells_nc hs.2.1 hg (fun r e => (hr r e).2), ownFrom_keepsFrom hbV.size s X Y row hs.2.2.1 hg hr, keepX_nc hs.2.2.2.1 hg (fun r e => (hr r e).2), Nat.le_trans hs.2.2.2.2.1 hg.size, hs.2.2.2.2.2⟩
    have HIx : ∀ c : Code, OwnFrom V0.heap.size (fun (pr : List S34) V => c = .exit 0 ∧ (∃ y ∈ pr, alikeB x y = true) ∧ CmSt w b0 b1 b2 b3 wl.heap.size (.slice A1 ys.length c1) true x.f0.f0 x.f0.f1 V ∧ KeepsFrom wl.heap.size W V) := fun c s X Y row hs hg hr =>
      ⟨hs.1, hs.2.1, hs.2.2.1.nc hg (fun r e => ⟨by have := (hr r e).1; have := HB2.out; omega, (hr r e).2⟩), ownFrom_keepsFrom hbV.size s X Y row hs.2.2.2 hg hr⟩
    refine rf_N (F := Fence.wide.inRound l) (P := Try.prog) (encs := fun x : S34 => #[.agg #[.int .i64 x.f0.f0, .int .i64 x.f0.f1, .int .i64 x.f1.f0, .int .i64 x.f1.f1, .int .i64 x.f1.f2, .int .i64 x.f1.f3.f0, .string x.f1.f3.f1, .int .i64 x.f1.f3.f2, .int .i64 x.f1.f3.f3, .string x.f1.f3.f4, .int .i64 x.f2.f0, .int .i64 x.f2.f1, .int .i64 x.f2.f2, .string x.f2.f3]]) rfl ((hbV.block l (Array.getElem?_eq_some_iff.1 HR.out).1).trans HR.out) (by decide) (gf := 58) (lb := #[.pointer (some ⟨bz, 0, none⟩)]) rfl trivial (Go.Proofs.enters_of Try.func58 (by kernel_rfl) rfl) HSEQ (Below.refl _ _) (fun _ => rfl)
      _ _ HIo HIx ⟨HS.out.step hbV, (hbV.block bx HX.out.lt).trans HX.out, hFV, hKV, Nat.le_refl _, fun x hx => by cases hx⟩ XBox (fun x b => xbox_own _ x b) ?_
    clear HSEQ HIo HIx hKV hFV hcz hcb
    apply Exists.intro
    refine ⟨?assign2, ?body2, ?done2, ?stop2⟩
    case assign2 =>
      intro l2 pr y V K hI hK
      have HI := Aside0.mk hI
      have hge2 := Aside0.mk (show V0.heap.size ≤ V.heap.size from hI.2.2.2.2.1)
      clear hI
      gi_wp2
      obtain ⟨b, hb⟩ : ∃ b, b = V.heap.size := ⟨_, rfl⟩
      rw [← hb]
      refine hK b _ ((KeepsOthers.alloc V _).from _) (KeepX.below (below_alloc (Below.refl _ _) _)) ?_ (by have := hge2.out; omega) ?_
      · have hb2 := below_alloc (Below.refl _ V) (.cells #[.int .i64 y.f0.f0, .int .i64 y.f0.f1, .int .i64 y.f1.f0, .int .i64 y.f1.f1, .int .i64 y.f1.f2, .int .i64 y.f1.f3.f0, .string y.f1.f3.f1, .int .i64 y.f1.f3.f2, .int .i64 y.f1.f3.f3, .string y.f1.f3.f4, .int .i64 y.f2.f0, .int .i64 y.f2.f1, .int .i64 y.f2.f2, .string y.f2.f3] 34)
        exact ⟨HI.out.1.step hb2, (hb2.block bx HI.out.2.1.lt).trans HI.out.2.1, HI.out.2.2.1.trans ((KeepsOthers.alloc V _).from _), HI.out.2.2.2.1.trans (KeepX.below hb2), by have := hge2.out; have := hb2.size; omega, HI.out.2.2.2.2.2⟩
      · rw [hb]
        exact World.alloc_heap_new V _
    case body2 =>
      rintro l2 pr y byy V hl2 _ hI hby hY hlt2
      have HI := Aside0.mk hI
      have HY := Aside0.mk hY
      obtain ⟨x0, x1, x2, x3, x4, x5, x6, x7, x8, x9, x10, x11, x12, x13⟩ := hI.2.1.cells
      obtain ⟨y0, y1, y2, y3, y4, y5, y6, y7, y8, y9, y10, y11, y12, y13⟩ := hY.cells
      clear hI hY
      cases hal : alikeB x y with
      | true =>
        have HAL := Aside0.mk hal
        have HCALL := Aside0.mk ((alikeB_f x y).trans (congrArg some hal))
        clear hal
        gi_wp2_with (refine ⟨trivial, ?_⟩; gi_at_call 36; refine (CallsIn.inRound l2 (callsIn_wide.2 (pglog_alike.calls x.f0.f0 x.f0.f1 x.f1.f0 x.f1.f1 x.f1.f2 x.f1.f3.f0 x.f1.f3.f1 x.f1.f3.f2 x.f1.f3.f3 x.f1.f3.f4 x.f2.f0 x.f2.f1 x.f2.f2 x.f2.f3 y.f0.f0 y.f0.f1 y.f1.f0 y.f1.f1 y.f1.f2 y.f1.f3.f0 y.f1.f3.f1 y.f1.f3.f2 y.f1.f3.f3 y.f1.f3.f4 y.f2.f0 y.f2.f1 y.f2.f2 y.f2.f3 true _ HCALL.out))).mono ?_; rintro e w1 ⟨rfl, hb1⟩; have HB1 := Aside0.mk hb1; have S1 := Aside0.mk (HI.out.1.step hb1); obtain ⟨x0, x1, x2, x3, x4, x5, x6, x7, x8, x9, x10, x11, x12, x13⟩ := (show XBox w1 bx x from (hb1.block bx HI.out.2.1.lt).trans HI.out.2.1).cells; obtain ⟨g0, g1, g2, g3, g4, g5⟩ := S1.out.cells; obtain ⟨f0, f1, f2, f3, f4⟩ := S1.out.frozen; clear hb1 y0 y1 y2 y3 y4 y5 y6 y7 y8 y9 y10 y11 y12 y13)
        have hg1 := grownBy_setCellK w1 b2 0 (.int .i64 x.f0.f0)
        refine ⟨(keepsFrom_below _ HB1.out).trans (((KeepsOthers.setCell _ _ _).trans ((KeepsOthers.setCell _ _ _).trans (KeepsOthers.setCell _ _ _))).from _), rfl, ⟨y, by simp, HAL.out⟩, S1.out.found _ _, ?_⟩
        exact HI.out.2.2.1.trans ((keepsFrom_below _ HB1.out).trans (((KeepsOthers.setCell _ _ _).trans ((KeepsOthers.setCell _ _ _).trans (KeepsOthers.setCell _ _ _))).from _))
      | false =>
        have HAL := Aside0.mk hal
        have HCALL := Aside0.mk ((alikeB_f x y).trans (congrArg some hal))
        clear hal
        gi_wp2_with (refine ⟨trivial, ?_⟩; gi_at_call 36; refine (CallsIn.inRound l2 (callsIn_wide.2 (pglog_alike.calls x.f0.f0 x.f0.f1 x.f1.f0 x.f1.f1 x.f1.f2 x.f1.f3.f0 x.f1.f3.f1 x.f1.f3.f2 x.f1.f3.f3 x.f1.f3.f4 x.f2.f0 x.f2.f1 x.f2.f2 x.f2.f3 y.f0.f0 y.f0.f1 y.f1.f0 y.f1.f1 y.f1.f2 y.f1.f3.f0 y.f1.f3.f1 y.f1.f3.f2 y.f1.f3.f3 y.f1.f3.f4 y.f2.f0 y.f2.f1 y.f2.f2 y.f2.f3 false _ HCALL.out))).mono ?_; rintro e w1 ⟨rfl, hb1⟩; have HB1 := Aside0.mk hb1; clear hb1 x0 x1 x2 x3 x4 x5 x6 x7 x8 x9 x10 x11 x12 x13 y0 y1 y2 y3 y4 y5 y6 y7 y8 y9 y10 y11 y12 y13)
        refine ⟨keepsFrom_below _ HB1.out, KeepX.below HB1.out, HI.out.1.step HB1.out, (HB1.out.block bx HI.out.2.1.lt).trans HI.out.2.1, HI.out.2.2.1.trans (keepsFrom_below _ HB1.out), HI.out.2.2.2.1.trans (KeepX.below HB1.out), Nat.le_trans HI.out.2.2.2.2.1 HB1.out.size, fun z hz => ?_⟩
        rcases List.mem_append.1 hz with hz | hz
        · exact HI.out.2.2.2.2.2 z hz
        · rw [List.mem_singleton.1 hz]; exact HAL.out
    case done2 =>
      intro xs2 V hxs hI
      have HI := Aside0.mk hI
      have HXS := Aside0.mk hxs
      clear hI hxs
      gi_wp2
      refine ⟨HI.out.2.2.1, HI.out.2.2.2.1, HI.out.1, fun z hz => ?_⟩
      rcases List.mem_append.1 hz with hz | hz
      · exact HN.out z hz
      · rw [List.mem_singleton.1 hz, List.any_eq_false]
        intro y hy
        rw [HI.out.2.2.2.2.2 y (by rw [HXS.out]; simpa using hy)]
        simp
    case stop2 =>
      rintro c pr V ⟨q, hq⟩ ⟨rfl, ⟨y, hy, hal⟩, hS2, hF2⟩
      have HQ := Aside0.mk hq
      have HY := Aside0.mk hy
      have HA2 := Aside0.mk hal
      have HS2 := Aside0.mk hS2
      have HF2 := Aside0.mk hF2
      clear hq hy hal hS2 hF2
      gi_wp2
      refine ⟨HF2.out, rfl, pre, x, rfl, HN.out, ?_, HS2.out⟩
      rw [List.any_eq_true]
      refine ⟨y, ?_, HA2.out⟩
      have := HY.out
      rw [HQ.out] at this
      simpa using List.mem_of_mem_take this
  case done =>
    intro D zs W hD hzs hI hK
    obtain ⟨hS, hno⟩ := hI
    obtain ⟨g0, g1, g2, g3, g4, g5⟩ := hS.cells
    obtain ⟨f0, f1, f2, f3, f4⟩ := hS.frozen
    have HS := Aside0.mk hS
    have HN := Aside0.mk hno
    have HZ := Aside0.mk hzs
    clear hS hno hzs
    have o := HS.out.o
    have e1 : ¬ b3 = b1 := by omega
    have e2 : ¬ b1 = b3 := by omega
    have e3 : ¬ b2 = b1 := by omega
    have e4 : ¬ b1 = b2 := by omega
    clear o
    gi_wp2
    refine meetM ?_
    apply Exists.intro
    apply Exists.intro
    refine ⟨?_, ?_⟩
    · gi_region
      all_goals exact ⟨rfl, rfl⟩
    gi_wp2_with fail
    rw [Exit.noGoto_ret]
    obtain ⟨d1, d2, d3⟩ := HS.out.last hD hK 0 0
    have d4 := blk_cell d2 0
    have d5 := blk_cell d2 1
    refine ⟨by simp, .inl ⟨_, _, rfl, run_takeDeferred d1, ?_⟩⟩
    refine ⟨.tuple #[.agg #[.int .i64 0, .int .i64 0], .bool false], ?_, ?_⟩
    · simp at d4 d5
      simp [results, Try.results20, go_sem, d4, d5]
    · refine ⟨0, 0, false, ?_, rfl, d3⟩
      unfold pglog_Common.f
      rw [show xs.reverse.find? (fun x => ys.any (alikeB x)) = none from List.find?_eq_none.2 (fun z hz => by rw [HN.out z (by rw [HZ.out]; exact hz)]; simp)]
  case stop =>
    rintro D c pre W hD hpre ⟨rfl, pre', x, hpe, hno, hyes, hS⟩ hK
    obtain ⟨g0, g1, g2, g3, g4, g5⟩ := hS.cells
    obtain ⟨f0, f1, f2, f3, f4⟩ := hS.frozen
    have HS := Aside0.mk hS
    have HP := Aside0.mk hpre
    have HE := Aside0.mk hpe
    have HN := Aside0.mk hno
    have HY := Aside0.mk hyes
    clear hS hpre hpe hno hyes
    have o := HS.out.o
    have e1 : ¬ b3 = b1 := by omega
    have e2 : ¬ b1 = b3 := by omega
    have e3 : ¬ b2 = b1 := by omega
    have e4 : ¬ b1 = b2 := by omega
    clear o
    gi_wp2
    refine meetM ?_
    apply Exists.intro
    apply Exists.intro
    refine ⟨?_, ?_⟩
    · gi_region
      all_goals exact ⟨rfl, rfl⟩
    gi_wp2_with fail
    rw [Exit.noGoto_ret]
    obtain ⟨d1, d2, d3⟩ := HS.out.last hD hK x.f0.f0 x.f0.f1
    have d4 := blk_cell d2 0
    have d5 := blk_cell d2 1
    refine ⟨by simp, .inl ⟨_, _, rfl, run_takeDeferred d1, ?_⟩⟩
    refine ⟨.tuple #[.agg #[.int .i64 x.f0.f0, .int .i64 x.f0.f1], .bool true], ?_, ?_⟩
    · simp at d4 d5
      simp [results, Try.results20, go_sem, d4, d5]
    · refine ⟨x.f0.f0, x.f0.f1, true, ?_, rfl, d3⟩
      obtain ⟨q, hq⟩ := HP.out
      unfold pglog_Common.f
      rw [show xs.reverse.find? (fun x => ys.any (alikeB x)) = some x from by
        rw [← List.take_append_drop q xs.reverse, ← hq, HE.out, List.append_assoc, List.find?_append, List.find?_eq_none.2 (fun z hz => by rw [HN.out z hz]; simp)]
        simp [HY.out]]
theorem pglog_Common.calls (A0 : Option Addr) (c0 : Nat) (l0 : List S34) (A1 : Option Addr) (c1 : Nat) (l1 : List S34) (r1 : Int) (r2 : Int) (r3 : Bool) (w : World) (hr0 : Kd.C k34 w A0 l0.length l0) (hc0 : l0.length ≤ c0) (hr1 : Kd.C k34 w A1 l1.length l1) (hc1 : l1.length ≤ c1) (h : pglog_Common.f l0 l1 = some (r1, r2, r3)) :
    Calls Try.prog 20 #[.slice A0 l0.length c0, .slice A1 l1.length c1] w fun e w' => e = .returned (.tuple #[.agg #[.int .i64 r1, .int .i64 r2], .bool r3]) ∧ Below w.heap.size w w' := by
  refine (callsIn_wide.1 (common_in A0 c0 l0 A1 c1 l1 w hr0 hc0 hr1 hc1)).mono ?_
  rintro e w' ⟨s1, s2, s3, hs, rfl, hb⟩
  rw [h] at hs
  cases hs
  exact ⟨rfl, hb⟩
end Go.Proofs.Ytbdciklcckjknaa.P
