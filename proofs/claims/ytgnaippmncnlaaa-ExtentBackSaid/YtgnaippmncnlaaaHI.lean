import Derived.RangeFuncNested
import Derived.RangeFuncBound
import Derived.RangeFuncCalls
import Derived.RangeFuncLeaves
import Derived.Shelf.Abstract
import Derived.Shelf.RegionOpen
import Derived.OwnWalkIn
import Derived.TacticsInMore
import Derived.LoopNIn
import Derived.LoopIn
import Derived.Test.YtgnaippmncnlaaaH1
namespace Go.Proofs.Ytgnaippmncnlaaa.P
open Go.RowKit Go.Proofs.YtgnaippmncnlaaaW.PrintWords Go.Proofs.YtgnaippmncnlaaaW.PrintLast Go.Proofs.YtgnaippmncnlaaaW.PrintMore Go.Proofs.YtgnaippmncnlaaaW.HB
set_option linter.unusedVariables false
attribute [local go_sem] Oper.semAt_some

/-- What a round that goes on keeps: the cells' blocks that were there (but X), and those of the types Ts that have come since. -/
def KeepX (N0 : Nat) (X Ts : Nat → Prop) (W W' : World) : Prop :=
  W.heap.size ≤ W'.heap.size ∧ ∀ k cs T fr, W.heap[k]? = some (.cells cs T fr) → ((k < N0 ∧ ¬ X k) ∨ (N0 ≤ k ∧ Ts T)) → W'.heap[k]? = some (.cells cs T fr)
theorem KeepX.refl (N0 : Nat) (X Ts : Nat → Prop) (W : World) : KeepX N0 X Ts W W := ⟨Nat.le_refl _, fun _ _ _ _ h _ => h⟩
theorem KeepX.trans {N0 : Nat} {X Ts : Nat → Prop} {A B C : World} (h : KeepX N0 X Ts A B) (k : KeepX N0 X Ts B C) : KeepX N0 X Ts A C := ⟨Nat.le_trans h.1 k.1, fun i cs T fr hi hx => k.2 i cs T fr (h.2 i cs T fr hi hx) hx⟩
theorem KeepX.put {N0 : Nat} {X Ts : Nat → Prop} (W : World) (l : Nat) (o o' : Obj) (h : W.heap[l]? = some o) (hc : o.isCells = false) : KeepX N0 X Ts W (W.putObj l o') := by
  refine ⟨by simp, fun k cs T fr hk _ => ?_⟩
  have hne : k ≠ l := by
    rintro rfl
    rw [h] at hk
    cases hk
    simp [Obj.isCells] at hc
  exact (World.putObj_heap_other hne).trans hk
theorem KeepX.below {N0 : Nat} {X Ts : Nat → Prop} {W W' : World} (h : Below W.heap.size W W') : KeepX N0 X Ts W W' :=
  ⟨h.size, fun k cs T fr hk _ => (h.block k (Array.getElem?_eq_some_iff.1 hk).1).trans hk⟩
theorem KeepX.grown {N0 : Nat} {X Ts : Nat → Prop} {W W' : World} {row : Option Nat} (h : W.grownBy W' row) (hr : ∀ k cs T fr, row = some k → W.heap[k]? = some (.cells cs T fr) → (k < N0 → X k) ∧ (N0 ≤ k → ¬ Ts T)) : KeepX N0 X Ts W W' :=
  ⟨h.size, fun k cs T fr hk hx => (h.block k (Array.getElem?_eq_some_iff.1 hk).1 (fun e => by
    have := hr k cs T fr e.symm hk
    rcases hx with ⟨h1, h2⟩ | ⟨h1, h2⟩
    · exact h2 (this.1 h1)
    · exact this.2 h1 h2)).trans hk⟩
theorem KeepX.cell {N0 : Nat} {X Ts : Nat → Prop} {W W' : World} (h : KeepX N0 X Ts W W') {a : Addr} {v : Value} (hc : W.cell? a = some v) (hk : a.block < N0) (hX : ¬ X a.block) : W'.cell? a = some v := by
  unfold World.cell? at *
  cases hb : W.heap[a.block]? with
  | none => rw [hb] at hc; cases hc
  | some o =>
    rw [hb] at hc
    cases o with
    | cells cs T fr => rw [h.2 _ cs T fr hb (.inl ⟨hk, hX⟩)]; exact hc
    | _ => cases hc
theorem KeepX.new {N0 : Nat} {X Ts : Nat → Prop} {W W' : World} (h : KeepX N0 X Ts W W') {k : Nat} {cs : Array Value} {T : Nat} {fr : Nat × Nat} (hc : W.heap[k]? = some (.cells cs T fr)) (hk : N0 ≤ k) (hT : Ts T) : W'.heap[k]? = some (.cells cs T fr) := h.2 _ _ _ _ hc (.inr ⟨hk, hT⟩)

theorem abides_alloc {β : Type} {B : Nat} {J : β → World → Prop} (h : AbidesFrom B J) {s : β} {W : World} (o : Obj) (hs : J s W) : J s (W.alloc o) := h s W _ none hs (World.grownBy_alloc W o none) (fun r e => by cases e)
/-- The kit's law for a range over a function whose body may write what lay ahead of the loop; the temporaries behind the assignment are found by the walk. -/
theorem rf_G {F : Fence} {n : Nat} {P : Program} {α : Type} {g : Operand} {ps : Array Tmp} {assign body : Code} {Q : Exit → Act → World → Prop} {a : Act} {w : World}
    (hro : F.round = none) (h1 : 1 ≤ n) {gf : Nat} {lb : Array Value} (hg : a.eval g = .func (.func gf) #[] lb) (hFg : F.fn gf) (eg : ∀ args w, (callFunc gf args).run P w = .ok (.enter gf args) w)
    {encs : α → Array Value} {N0 : Nat} {X Ts : Nat → Prop} {S Sp : List α → Prop} {N : Nat} {w0 : World} (hseq : SeqStopsK F (n - 1) P gf lb encs (KeepX N0 X Ts) S Sp N w0)
    (hb0 : Below w0.heap.size w0 w) (hps : ∀ x, (encs x).size = ps.size)
    (I : List α → World → Prop) (Ix : Code → List α → World → Prop) (hI : OwnFrom w.heap.size I) (hIx : ∀ c, OwnFrom w.heap.size (Ix c)) (h0 : I [] w)
    (h : ∃ a₁ : α → Act, (∀ (l : Nat) (x : α) (W : World) (K : Act → World → Prop), K (a₁ x) W →
      assign.wpIn (F.inRound l) (n - 1 - 1) P (Exit.then K (fun _ _ _ => False)) { tmps := (ps.zip (encs x)).foldl (fun t (p, v) => t.setIfInBounds p v) a.tmps, defers := [] } W) ∧
    (∀ (l : Nat) (pre : List α) (x : α) (W : World), I pre W → pre.length < N → body.wpIn (F.inRound l) (n - 1 - 1) P (ownPostG w.heap.size (KeepX N0 X Ts) I Ix (pre ++ [x]) W) (a₁ x) W) ∧
    (∀ (D : Nat) (xs : List α) (W : World), w.heap.size ≤ D → S xs → I xs W → W.heap[D]? = some (.deferred (some [])) → Q .normal { a with defers := { target := .collected D, args := #[] } :: a.defers } W) ∧
    (∀ (D : Nat) (c : Code) (pre : List α) (W : World), w.heap.size ≤ D → Sp pre → Ix c pre W → W.heap[D]? = some (.deferred (some [])) → c.wpIn F n P Q { a with defers := { target := .collected D, args := #[] } :: a.defers } W)) :
    (Code.rangeFunc g ps assign body).wpIn F n P Q a w := by
  obtain ⟨a₁, hassign, hbody, hdone, hstop⟩ := h
  exact wpIn_rangeFunc_ownG hro h1 hg hFg eg hseq KeepX.trans (fun W l o o' _ h hc _ => KeepX.put W l o o' h hc) hb0 hps I Ix hI hIx h0 a₁ hassign hbody hdone hstop
/-- The ways through a region that all come to one end are one. -/
theorem meetIn {F : Fence} {n : Nat} {P : Program} {c : Code} {Q : Exit → Act → World → Prop} {a : Act} {w : World}
    (h : ∃ A W, c.wpIn F n P (fun e a' w' => e = .normal ∧ a' = A ∧ w' = W) a w ∧ Q .normal A W) : c.wpIn F n P Q a w := by
  obtain ⟨A, W, h1, h2⟩ := h
  refine wpIn_mono h1 ?_
  rintro e a' w' ⟨rfl, rfl, rfl⟩
  exact h2
theorem meet {P : Program} {c : Code} {Q : Exit → Act → World → Prop} {a : Act} {w : World}
    (h : ∃ A W, c.wp P (fun e a' w' => e = .normal ∧ a' = A ∧ w' = W) a w ∧ Q .normal A W) : c.wp P Q a w := by
  obtain ⟨A, W, h1, h2⟩ := h
  refine Code.wp_mono ?_ h1
  rintro e a' w' ⟨rfl, rfl, rfl⟩
  exact h2
def secs (l : List S47) : List Int := l.flatMap fun x => (List.range x.f1.toNat).map fun (k : Nat) => x.f0 + (k : Int)
abbrev Sec (l : List S47) := { v : Int // v ∈ secs l }
def secsA (l : List S47) : List (Sec l) := (secs l).attach
def cnt (l : List S47) (i : Nat) : Nat := (secs (l.take i)).length
theorem secsA_len (l : List S47) : (secsA l).length = (secs l).length := by simp [secsA]
theorem secs_append (a b : List S47) : secs (a ++ b) = secs a ++ secs b := by simp [secs]
theorem cnt_succ (l : List S47) (i : Nat) (h : i < l.length) : cnt l (i + 1) = cnt l i + (rd_T47 l i).f1.toNat := by
  unfold cnt
  rw [List.take_succ_eq_append_getElem h, secs_append, List.length_append, rd_at_E l i h]
  simp [secs]
theorem cnt_all (l : List S47) : cnt l l.length = (secs l).length := by unfold cnt; rw [List.take_length]
theorem secs_get (l : List S47) (i k : Nat) (h : i < l.length) (hk : k < (rd_T47 l i).f1.toNat) : ∃ h2 : cnt l i + k < (secs l).length, (secs l)[cnt l i + k] = (rd_T47 l i).f0 + k := by
  have e : secs l = secs (l.take i) ++ (((List.range (rd_T47 l i).f1.toNat).map fun (k : Nat) => (rd_T47 l i).f0 + (k : Int)) ++ secs (l.drop (i + 1))) := by
    rw [rd_at_E l i h]
    have h1 : secs l = secs (l.take i) ++ secs (l.drop i) := by rw [← secs_append, List.take_append_drop]
    rw [h1, List.drop_eq_getElem_cons h]
    simp only [secs, List.flatMap_cons]
  have hlen : cnt l i + k < (secs l).length := by
    rw [e]; simp only [List.length_append, List.length_map, List.length_range]; unfold cnt; omega
  refine ⟨hlen, ?_⟩
  rw [List.getElem_of_eq e, List.getElem_append_right (by unfold cnt; omega)]
  have : cnt l i + k - (secs (l.take i)).length = k := by unfold cnt; omega
  simp only [this]
  rw [List.getElem_append_left (by simpa using hk)]
  simp
theorem C_keepX {N0 : Nat} {X Ts : Nat → Prop} {W W' : World} {A : Option Addr} {n : Nat} {xs : List S47} (h : Kd.C k47 W A n xs) (hk : KeepX N0 X Ts W W') (hA : ∀ ad, A = some ad → 0 < n → ad.block < N0 ∧ ¬ X ad.block) : Kd.C k47 W' A n xs := by
  refine ⟨h.1, h.2.1, fun hn => ?_⟩
  obtain ⟨ad, e, hc⟩ := h.2.2 hn
  refine ⟨ad, e, fun j p hj => ?_⟩
  obtain ⟨c, h1, h2, h3⟩ := hc j p hj
  obtain rfl := k47_open h2
  refine ⟨_, h1, k47_mk W' p, fun i u hu => hk.cell (h3 i u hu) ?_ ?_⟩
  · have := (hA ad e hn).1; unfold Addr.add; split <;> exact this
  · have := (hA ad e hn).2; unfold Addr.add; split <;> exact this

theorem C_block {W : World} {A : Option Addr} {n : Nat} {xs : List S47} (h : Kd.C k47 W A n xs) : ∀ ad, A = some ad → 0 < n → ad.block < W.heap.size := by
  intro ad e hn
  obtain ⟨ad', e', hc⟩ := h.2.2 hn
  obtain rfl : ad = ad' := by rw [e] at e'; exact Option.some.inj e'
  have hl := h.1
  obtain ⟨c, h1, h2, h3⟩ := hc 0 xs[0] (List.getElem?_eq_getElem (by omega))
  obtain rfl := k47_open h2
  have := World.block_lt_of_cell? _ _ (h3 0 _ rfl)
  rw [Nat.zero_mul, Nat.zero_add] at this
  simpa [Addr.add] using this
set_option maxRecDepth 100000 in
set_option maxHeartbeats 2000000 in
theorem sectors_1_in (F : Fence) (n : Nat) (hF : F.fn 45) (hro : F.round = none) (hn : 1 ≤ n) (l : Nat) (b N0 c0 : Nat) (X Ts : Nat → Prop) (A0 : Option Addr) (l0 : List S47) (hb : b < N0) (hbX : ¬ X b) (hA : ∀ ad, A0 = some ad → 0 < l0.length → ad.block < N0 ∧ ¬ X ad.block) (hT : Ts 47)
    (hgood : ∀ x ∈ l0, 0 ≤ x.f0 ∧ x.f0 + x.f1 ≤ 9007199254740992 ∧ x.f1 ≤ 9007199254740992) (J Jx : List (Sec l0) → World → Prop) (W : World) (hN : N0 ≤ W.heap.size)
    (hJ : AbidesFrom W.heap.size J)
    (hY : ∀ pre x W, J pre W → pre.length < (secs l0).length → YieldAt F (n - 1) Try.prog l #[.int .i64 x.1] W fun e W' =>
      (e = .returned (.bool true) ∧ J (pre ++ [x]) W' ∧ KeepX N0 X Ts W W') ∨ (e = .returned (.bool false) ∧ Jx (pre ++ [x]) W'))
    (hB : W.cell? ⟨b, 0, none⟩ = some (.slice A0 l0.length c0)) (hC : Kd.C k47 W A0 l0.length l0) (h0 : J [] W) :
    CallsIn F n Try.prog 45 #[.func (.yield l) #[] #[], .pointer (some ⟨b, 0, none⟩)] W fun e W' => (∃ v, e = .returned v) ∧
      ((∃ ys, ys = secsA l0 ∧ J ys W') ∨ (∃ pre, (∃ m, pre = (secsA l0).take m) ∧ Jx pre W')) := by
  refine callsIn_of_wp Try.func45 rfl hF ?_ hro
  simp only [Try.ntmps45, List.size_toArray, List.length_cons, List.length_nil, Nat.reduceAdd, Nat.reduceSub, Array.replicate_succ, Array.replicate_zero, List.push_toArray, List.append_toArray, List.nil_append, List.cons_append]
  have hlen := hC.2.1
  have hue := Try.underlying47
  gi_wp2
  gi_loopw [8] (fun i wr => ∃ k : Nat, k ≤ l0.length ∧ i = .int .i64 k ∧ Aside0 (J ((secsA l0).take (cnt l0 k)) wr) ∧ Aside0 (KeepX N0 X Ts W wr)) (fun i _ => l0.length - (intOf i).toNat)
  case atStart => exact ⟨0, Nat.zero_le _, rfl, ⟨by simpa [cnt, secs] using h0⟩, ⟨KeepX.refl _ _ _ _⟩⟩
  case round =>
    obtain ⟨i, hi, rfl, HJ, HK⟩ := hrel
    by_cases hlt : i < l0.length
    · obtain ⟨ad, e1, hx0, hx1⟩ := at_T47 (C_keepX hC HK.out hA) i (by omega) (by omega)
      cases e1
      simp only [Int.toNat_natCast] at hx0 hx1
      obtain ⟨wo, hwo⟩ : ∃ wo : World, wo = wr := ⟨_, rfl⟩
      rw [← hwo] at HJ HK hx0 hx1 ⊢
      clear hwo
      have hrd := Aside0.mk (hgood (rd_T47 l0 i) (by rw [rd_at_E l0 i hlt]; exact List.getElem_mem _))
      obtain ⟨hg1, hg2, hg3⟩ := hrd.out
      have HJ0 := Aside0.mk (abides_alloc hJ (.cells #[.int .i64 (rd_T47 l0 i).f0, .int .i64 (rd_T47 l0 i).f1] 47) HJ.out)
      have HK0 := Aside0.mk (HK.out.trans (KeepX.below (N0 := N0) (X := X) (Ts := Ts) (below_alloc (Below.refl _ wo) (.cells #[.int .i64 (rd_T47 l0 i).f0, .int .i64 (rd_T47 l0 i).f1] 47))))
      have HC0 := Aside0.mk (World.alloc_heap_new wo (.cells #[.int .i64 (rd_T47 l0 i).f0, .int .i64 (rd_T47 l0 i).f1] 47))
      have hNo : N0 ≤ wo.heap.size := Nat.le_trans hN HK.out.1
      clear HJ HK
      gi_wp2
      clear hx0 hx1
      gi_loopw [14] (fun v14 wr => ∃ k : Nat, k ≤ (rd_T47 l0 i).f1.toNat ∧ v14 = .int .i64 k ∧ Aside0 (J ((secsA l0).take (cnt l0 i + k)) wr) ∧ Aside0 (KeepX N0 X Ts W wr) ∧ Aside0 (wr.heap[wo.heap.size]? = some (.cells #[.int .i64 (rd_T47 l0 i).f0, .int .i64 (rd_T47 l0 i).f1] 47))) (fun v _ => (rd_T47 l0 i).f1.toNat - (intOf v).toNat)
      case atStart => exact ⟨0, Nat.zero_le _, rfl, HJ0, HK0, HC0⟩
      case round =>
        obtain ⟨k, hk, rfl, HJ1, HK1, HC1⟩ := hrel
        clear HJ0 HK0 HC0
        have hy0 : wr.cell? ⟨wo.heap.size, 0, none⟩ = some (.int .i64 (rd_T47 l0 i).f0) := by unfold World.cell?; rw [HC1.out]; rfl
        by_cases hkl : (k : Int) < (rd_T47 l0 i).f1
        · obtain ⟨hsl, hsv⟩ := secs_get l0 i k hlt (by omega)
          have hml : cnt l0 i + k < (secsA l0).length := by rw [secsA_len]; exact hsl
          obtain ⟨fn, tmps, assign, body, hy, hR⟩ := hY _ (secsA l0)[cnt l0 i + k] wr HJ1.out (by rw [List.length_take]; omega)
          have hval : ((secsA l0)[cnt l0 i + k]).1 = (rd_T47 l0 i).f0 + k := by rw [← hsv]; simp [secsA]
          rw [hval] at hy
          have HV := Aside0.mk hval
          clear hval
          have HS := Aside0.mk (show (secsA l0).take (cnt l0 i + k) ++ [(secsA l0)[cnt l0 i + k]] = (secsA l0).take (cnt l0 i + (k + 1)) from (List.take_succ_eq_append_getElem hml).symm)
          rw [HS.out] at hR
          gi_wp2
          refine hR.mono ?_
          rintro e W3 (⟨rfl, hJ3, hk3⟩ | ⟨rfl, hJx3⟩)
          · have HJ3 := Aside0.mk hJ3
            have HK3 := Aside0.mk (HK1.out.trans hk3)
            have HC3 := Aside0.mk (hk3.new HC1.out hNo hT)
            clear hJ3 hk3 hy0 hR hy HS HV hsv hml hsl
            gi_wp2
            go_roundw
            case rel => exact ⟨k + 1, by omega, by go_num, HJ3, HK3, HC3⟩
            case measure => simp [intOf]; omega
          · have HJ3 := Aside0.mk hJx3
            clear hJx3 hy0 hR hy HS HV hsv hml hsl
            gi_wp2
            refine bodyPost_ret (results_none rfl _ _ _) rfl ?_
            exact ⟨⟨_, rfl⟩, .inr ⟨_, ⟨_, rfl⟩, HJ3.out⟩⟩
        · have HE := Aside0.mk (show k = (rd_T47 l0 i).f1.toNat from by omega)
          gi_wp2
          go_roundw
          case rel =>
            have h1 := HJ1.out
            rw [HE.out, ← cnt_succ l0 i hlt] at h1
            exact ⟨i + 1, by omega, by go_num, ⟨h1⟩, HK1⟩
          case measure => simp [intOf]; omega
    · have HE := Aside0.mk (show i = l0.length from by omega)
      gi_wp2
      go_end0
      have h1 := HJ.out
      rw [HE.out, cnt_all, List.take_of_length_le (by rw [secsA_len]; exact Nat.le_refl _)] at h1
      exact ⟨⟨_, rfl⟩, .inl ⟨_, rfl, h1⟩⟩
theorem sectors_stops (F : Fence) (n : Nat) (hF : F.fn 45) (hro : F.round = none) (hn : 1 ≤ n) (b c0 : Nat) (X Ts : Nat → Prop) (A0 : Option Addr) (l0 : List S47) (w : World) (hb : b < w.heap.size) (hbX : ¬ X b) (hA : ∀ ad, A0 = some ad → 0 < l0.length → ad.block < w.heap.size ∧ ¬ X ad.block) (hT : Ts 47)
    (hgood : ∀ x ∈ l0, 0 ≤ x.f0 ∧ x.f0 + x.f1 ≤ 9007199254740992 ∧ x.f1 ≤ 9007199254740992)
    (hB : w.cell? ⟨b, 0, none⟩ = some (.slice A0 l0.length c0)) (hC : Kd.C k47 w A0 l0.length l0) :
    SeqStopsK F n Try.prog 45 #[.pointer (some ⟨b, 0, none⟩)] (fun x : Sec l0 => #[Value.int .i64 x.1]) (KeepX w.heap.size X Ts) (fun ys => ys = secsA l0) (fun pre => ∃ m, pre = (secsA l0).take m) (secs l0).length w := fun l J Jx W hW hJ hJx hY h0 =>
  sectors_1_in F n hF hro hn l b w.heap.size c0 X Ts A0 l0 hb hbX hA hT hgood J Jx W hW.size hJ hY ((hW.cell hb).trans hB) (Kd.C_below hC hW) h0
theorem sectors_in (F : Fence) (n : Nat) (hF : F.fn 35) (hro : F.round = none) (a : Option Addr) (len cap : Nat) (w : World) :
    CallsIn F n Try.prog 35 #[.slice a len cap] w fun e w' => e = .returned (.func (.func 45) #[] #[.pointer (some ⟨w.heap.size, 0, none⟩)]) ∧ w' = w.alloc (.cells #[.slice a len cap] 22) := by
  refine callsIn_of_wp Try.func35 rfl hF ?_ hro
  simp only [Try.ntmps35, List.size_toArray, List.length_cons, List.length_nil, Nat.reduceAdd, Nat.reduceSub, Array.replicate_succ, Array.replicate_zero, List.push_toArray, List.append_toArray, List.nil_append, List.cons_append]
  gi_wp2
  go_ret
  exact ⟨rfl, rfl⟩
end Go.Proofs.Ytgnaippmncnlaaa.P
