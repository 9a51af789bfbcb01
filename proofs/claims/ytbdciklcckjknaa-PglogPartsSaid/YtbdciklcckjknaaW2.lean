import Derived.Deep.DeepCutAuto
import Derived.Deep.RegionWith
import Derived.Test.YtbdciklcckjknaaB9
import Derived.Test.YtbdciklcckjknaaHQ
import Derived.Test.YtbdciklcckjknaaQ3m
import Derived.Test.YtbdciklcckjknaaPEq4
import Derived.Test.YtbdciklcckjknaaW2a
namespace Go.Proofs.Ytbdciklcckjknaa.P
open Go.RowKit Go.Proofs.YtbdciklcckjknaaW.PrintWords Go.Proofs.YtbdciklcckjknaaW.PrintLast Go.Proofs.YtbdciklcckjknaaW.PrintMore Go.Proofs.YtbdciklcckjknaaW.HB
set_option linter.unusedVariables false
set_option linter.unusedSimpArgs false
attribute [local go_sem high] eqA24 eqA34
attribute [local go_sem] max2_int min2_int max_two min_two

theorem Q_baseA {α : Type} {d : Kd α} {e n c base : Nat} {w : World} {ok : Nat → Prop} {A : Option Addr} {xs : List α} (h : Kd.Q d e w base ok (.slice A n c) xs) : ∀ ad, A = some ad → base ≤ ad.block := by
  rintro ad rfl
  rcases Kd.Q_base2 h with h1 | ⟨k, h1, h2⟩
  · simp [Value.ownBlock] at h1
  · have : ad.block = k := by simpa [Value.ownBlock] using h1
    omega
theorem C_far {α : Type} {d : Kd α} {W : World} {A : Option Addr} {n : Nat} {xs : List α} (hK : ∀ W W' x cs, d.K W x cs → d.K W' x cs) (h : Kd.C d W A n xs) (p : Addr) (u : Value) (hA : ∀ ad, A = some ad → 0 < n → ad.block ≠ p.block) : Kd.C d (W.setCell p u) A n xs := by
  refine ⟨h.1, h.2.1, fun hn => ?_⟩
  obtain ⟨ad, e, hc⟩ := h.2.2 hn
  refine ⟨ad, e, fun j q hj => ?_⟩
  obtain ⟨c, h1, h2, h3⟩ := hc j q hj
  refine ⟨c, h1, hK _ _ _ _ h2, fun i u hu => (World.cell?_setCell_other _ _ _ _ (fun e' => ?_)).trans (h3 i u hu)⟩
  have := hA ad e hn
  have e2 := congrArg Addr.block e'
  first
    | (rw [add_block] at e2; exact this e2.symm)
    | (rw [add_block] at e2; exact this e2)
/-- A log in memory, and the box of its last stamp. -/
structure Pt (W : World) (b : Nat) (e v : Int) (A : Option Addr) (c : Nat) (l : List S34) : Prop where
  box : W.heap[b]? = some (.cells #[.int .i64 e, .int .i64 v] 24 (0, 0))
  row : Kd.C k34 W A l.length l
  cap : l.length ≤ c
def Far (A : Option Addr) (l : List S34) (b : Nat) : Prop := ∀ ad, A = some ad → 0 < l.length → ad.block ≠ b
section
variable {W W' : World} {b : Nat} {e v : Int} {A : Option Addr} {c : Nat} {l : List S34}
theorem Pt.lt (h : Pt W b e v A c l) : b < W.heap.size := (Array.getElem?_eq_some_iff.1 h.box).1
theorem Pt.below (h : Pt W b e v A c l) (hb : Below W.heap.size W W') : Pt W' b e v A c l := ⟨(hb.block _ h.lt).trans h.box, Kd.C_below h.row hb, h.cap⟩
theorem Pt.alloc (h : Pt W b e v A c l) (o : Obj) : Pt (W.alloc o) b e v A c l := h.below (below_alloc (Below.refl _ _) _)
theorem Pt.set (h : Pt W b e v A c l) {b' : Nat} (hb : b ≠ b') (hf : Far A l b') (k : Nat) (u : Value) : Pt (W.setCell ⟨b', k, none⟩ u) b e v A c l :=
  ⟨hfar h.box hb k u, C_far k34_still h.row _ u (fun ad e h => hf ad e h), h.cap⟩
theorem Pt.cells (h : Pt W b e v A c l) : W.cell? ⟨b, 0, none⟩ = some (.int .i64 e) ∧ W.cell? ⟨b, 1, none⟩ = some (.int .i64 v) ∧ W.frozen? ⟨b, 0, none⟩ = false ∧ W.frozen? ⟨b, 1, none⟩ = false := by
  have := h.box
  simp [World.cell?, World.frozen?, this]
theorem Pt.far (h : Pt W b e v A c l) : Far A l W.heap.size := by
  rintro ad rfl h0
  have := Kd.C_lt h.row h0 (by decide)
  omega
/-- A new log, and its stamp stored into the box. -/
theorem Pt.stored (hb : W.heap[b]? = some (.cells #[.int .i64 e, .int .i64 v] 24 (0, 0))) (hr : Kd.C k34 W A l.length l) (hc : l.length ≤ c) (hf : Far A l b) (e1 v1 : Int) : Pt ((W.setCell ⟨b, 0, none⟩ (.int .i64 e1)).setCell ⟨b, 1, none⟩ (.int .i64 v1)) b e1 v1 A c l :=
  ⟨hset (hset hb 0 _) 1 _, C_far k34_still (C_far k34_still hr _ _ (fun ad e h => hf ad e h)) _ _ (fun ad e h => hf ad e h), hc⟩
end
set_option maxRecDepth 100000 in
set_option maxHeartbeats 8000000 in
theorem reeflaw21_PglogParts.calls (A0 : Option Addr) (c0 : Nat) (l0 : List S34) (A1 : Option Addr) (c1 : Nat) (l1 : List S34) (A2 : Option Addr) (c2 : Nat) (l2 : List S34) (w : World)
    (hr0 : Kd.C k34 w A0 l0.length l0) (hc0 : l0.length ≤ c0) (hr1 : Kd.C k34 w A1 l1.length l1) (hc1 : l1.length ≤ c1) (hr2 : Kd.C k34 w A2 l2.length l2) (hc2 : l2.length ≤ c2) :
    Calls Try.prog 5 #[.slice A0 l0.length c0, .slice A1 l1.length c1, .slice A2 l2.length c2] w fun e w' => e = .returned (.bool true) ∧ Below w.heap.size w w' := by
  have HR0 := Aside0.mk hr0
  have HC0 := Aside0.mk hc0
  have HR1 := Aside0.mk hr1
  have HC1 := Aside0.mk hc1
  have HR2 := Aside0.mk hr2
  have HC2 := Aside0.mk hc2
  have hlen0 := hr0.2.1
  have hlen1 := hr1.2.1
  have hlen2 := hr2.2.1
  clear hr0 hc0 hr1 hc1 hr2 hc2
  have hu := Try.underlying34
  have hu2 := Try.underlying24
  have hz2 := Try.zeroValue24
  go_enter Try.func5, Try.ntmps5
  go_wp2
  obtain ⟨bl, hbl⟩ : ∃ bl, bl = w.heap.size := ⟨_, rfl⟩
  rw [← hbl]
  obtain ⟨W0, hW0⟩ : ∃ W0, W0 = w.alloc (.cells #[.int .i64 0, .int .i64 0] 24) := ⟨_, rfl⟩
  rw [← hW0]
  have HBL := Aside0.mk (show w.heap.size ≤ bl ∧ bl < W0.heap.size from by rw [hW0, hbl]; simp)
  have HB0 := Aside0.mk (show Below w.heap.size w W0 from by rw [hW0]; exact below_alloc (Below.refl _ _) _)
  have HP0 := Aside0.mk (show Pt W0 bl 0 0 none 0 [] from ⟨by rw [hW0, hbl]; exact World.alloc_heap_new w _, Kd.C_nil _ _, by decide⟩)
  clear hW0 hbl
  go_loopw [7, 25] (fun v7 v25 w' => ∃ (i : Nat) (gs : List S34) (gx gy : Int) (gA : Option Addr) (gc : Nat), v25 = .int .i64 i ∧ v7 = .slice gA gs.length gc ∧ Aside0 (i ≤ l0.length ∧ gs.length ≤ 3) ∧ Aside0 (Gl gs gx gy) ∧ Aside0 (Pt w' bl gx gy gA gc gs ∧ Far gA gs bl) ∧ Aside0 (Below w.heap.size w w')) (fun _ v _ => l0.length - (intOf v).toNat)
  case atStart => exact ⟨0, [], 0, 0, none, 0, rfl, rfl, ⟨by omega, by decide⟩, ⟨Gl.nil⟩, ⟨HP0.out, fun ad e h => by cases e⟩, HB0⟩
  case round =>
    obtain ⟨i, l, e, v, Al, cl, rfl, rfl, HI, HINV0, HPT0, HB⟩ := hrel
    by_cases hlt : i < l0.length
    · obtain ⟨ad, e1, hx0, hx1, hx2, hx3, hx4, hx5, hx6, hx7, hx8, hx9, hx10, hx11, hx12, hx13⟩ := at_T34 (Kd.C_below HR0.out HB.out) (i : Int) (by omega) (by omega)
      cases e1
      simp only [Int.toNat_natCast] at hx0 hx1 hx2 hx3 hx4 hx5 hx6 hx7 hx8 hx9 hx10 hx11 hx12 hx13
      generalize rd_T34 l0 (i : Int) = z at *
      by_cases h8 : l.length < 3
      · obtain ⟨nx, e1, v1, ok, happ, hstep, hnl⟩ := HINV0.out.step h8 z
        have HAPP := Aside0.mk happ
        have HSTEP := Aside0.mk hstep
        have HNL := Aside0.mk hnl
        clear happ hstep hnl
        have hbt := HPT0.out.1.lt
        have hbo := HBL.out
        obtain ⟨p0, p1, f0, f1⟩ := HPT0.out.1.cells
        have h8b : decide ((l.length : Int) < 3) = true := decide_eq_true (by omega)
        go_wp2_with (first | (go_at_call 8; refine (pglog_Append.calls 40 Al cl l e v z.f0.f0 z.f0.f1 z.f1.f0 z.f1.f1 z.f1.f2 z.f1.f3.f0 z.f1.f3.f1 z.f1.f3.f2 z.f1.f3.f3 z.f1.f3.f4 z.f2.f0 z.f2.f1 z.f2.f2 z.f2.f3 nx e1 v1 ok _ (Kd.C_alloc HPT0.out.1.row _) HPT0.out.1.cap HAPP.out).mono ?_; rintro e' w1 ⟨u, rfl, hQ, hW⟩; obtain ⟨A9, c9, rfl, hc9, hC9⟩ := Kd.Q_reads hQ; have hbase := Q_baseA hQ; have HN9 := Aside0.mk (show Far A9 nx bl from fun ad ea _ => by have := hbase ad ea; simp at this; omega); have HC9 := Aside0.mk hC9; have HC9l := Aside0.mk hc9; have HW := Aside0.mk (below_step (below_alloc (Below.refl wr.heap.size wr) (.cells #[.int .i64 z.f0.f0, .int .i64 z.f0.f1, .int .i64 z.f1.f0, .int .i64 z.f1.f1, .int .i64 z.f1.f2, .int .i64 z.f1.f3.f0, .string z.f1.f3.f1, .int .i64 z.f1.f3.f2, .int .i64 z.f1.f3.f3, .string z.f1.f3.f4, .int .i64 z.f2.f0, .int .i64 z.f2.f1, .int .i64 z.f2.f2, .string z.f2.f3] 34)) hW); have q0 := (HW.out.cell (p := ⟨bl, 0, none⟩) (by show bl < _; omega)).trans p0; have q1 := (HW.out.cell (p := ⟨bl, 1, none⟩) (by show bl < _; omega)).trans p1; have g0 := (HW.out.frozen (p := ⟨bl, 0, none⟩) (by show bl < _; omega)).trans f0; have g1 := (HW.out.frozen (p := ⟨bl, 1, none⟩) (by show bl < _; omega)).trans f1; clear hW hQ hC9 hc9 hbase p0 p1 f0 f1))
        go_roundw
        case rel =>
          have hpt := HPT0.out.1.below HW.out
          refine ⟨i + 1, nx, e1, v1, A9, c9, by go_num, rfl, ⟨by omega, HNL.out⟩, HSTEP, ⟨Pt.stored hpt.box HC9.out HC9l.out HN9.out e1 v1, HN9.out⟩, ⟨?_⟩⟩
          exact ((below_step HB.out HW.out).setCell (by show _ ≤ bl; omega) _).setCell (by show _ ≤ bl; omega) _
        case measure => simp [intOf]; omega
      · have h8b : decide ((l.length : Int) < 3) = false := decide_eq_false (by omega)
        go_wp2
        go_roundw
        case rel =>
          exact ⟨i + 1, l, e, v, Al, cl, by go_num, rfl, ⟨by omega, HI.out.2⟩, HINV0, ⟨HPT0.out.1.alloc _, HPT0.out.2⟩, ⟨below_alloc HB.out _⟩⟩
        case measure => simp [intOf]; omega
    · have hi0 := hlt
      have H3 := Aside0.mk HI.out.2
      clear HI HP0 HB0
      obtain ⟨p0, p1, f0, f1⟩ := HPT0.out.1.cells
      have hbl1 := HPT0.out.1.lt
      go_wp2
      go_region
      go_wp2
      obtain ⟨ba, hbx⟩ : ∃ ba, ba = wr.heap.size := ⟨_, rfl⟩
      rw [← hbx]
      obtain ⟨W1, hWn⟩ : ∃ W1, W1 = (wr.alloc (.cells #[.int .i64 e, .int .i64 v] 24)).drew := ⟨_, rfl⟩
      rw [← hWn]
      have hbel : Below wr.heap.size wr W1 := by rw [hWn]; exact (below_alloc (Below.refl _ _) _).drew
      have HBA := Aside0.mk (show w.heap.size ≤ ba ∧ ba < W1.heap.size from by have := HB.out.size; rw [hWn, hbx]; simp; omega)
      have HP1 := Aside0.mk (show Pt W1 ba e v Al cl l from ⟨by rw [hWn, hbx]; exact World.alloc_heap_new wr _, Kd.C_below HPT0.out.1.row hbel, HPT0.out.1.cap⟩)
      have HFl1 := Aside0.mk (show Far Al l ba from by rw [hbx]; exact HPT0.out.1.far)
      have HNl1 := Aside0.mk (show bl ≠ ba from by have := HPT0.out.1.lt; omega)
      have OL0 := Aside0.mk (HPT0.out.1.below hbel)
      have HBw1 := Aside0.mk (below_step HB.out hbel)
      clear hbel hWn hbx p0 p1 f0 f1 hbl1 hlt hi0
      clear HB HPT0
      go_loopw [11, 45] (fun v11 v45 w' => ∃ (i : Nat) (gs : List S34) (gx gy : Int) (gA : Option Addr) (gc : Nat), v45 = .int .i64 i ∧ v11 = .slice gA gs.length gc ∧ Aside0 (i ≤ l1.length ∧ gs.length ≤ 8) ∧ Aside0 (Gn l e v gs gx gy) ∧ Aside0 (Pt w' ba gx gy gA gc gs ∧ Far gA gs ba) ∧ Aside0 (Below w.heap.size w w') ∧ Aside0 (Pt w' bl e v Al cl l)) (fun _ v _ => l1.length - (intOf v).toNat)
      case atStart => exact ⟨0, l, e, v, Al, cl, rfl, rfl, ⟨by omega, by have := H3.out; omega⟩, ⟨Gn.refl HINV0.out⟩, ⟨HP1.out, HFl1.out⟩, HBw1, OL0⟩
      case round =>
        obtain ⟨i, a, x, y, Aa, ca, rfl, rfl, HI, HINV1, HPT1, HB, OL⟩ := hrel
        by_cases hlt : i < l1.length
        · obtain ⟨ad, e1, hx0, hx1, hx2, hx3, hx4, hx5, hx6, hx7, hx8, hx9, hx10, hx11, hx12, hx13⟩ := at_T34 (Kd.C_below HR1.out HB.out) (i : Int) (by omega) (by omega)
          cases e1
          simp only [Int.toNat_natCast] at hx0 hx1 hx2 hx3 hx4 hx5 hx6 hx7 hx8 hx9 hx10 hx11 hx12 hx13
          generalize rd_T34 l1 (i : Int) = z at *
          by_cases h8 : a.length < 8
          · obtain ⟨nx, e1, v1, ok, happ, hstep, hnl⟩ := HINV1.out.step h8 z
            have HAPP := Aside0.mk happ
            have HSTEP := Aside0.mk hstep
            have HNL := Aside0.mk hnl
            clear happ hstep hnl
            have hbt := HPT1.out.1.lt
            have hbo := HBA.out
            obtain ⟨p0, p1, f0, f1⟩ := HPT1.out.1.cells
            have h8b : decide ((a.length : Int) < 8) = true := decide_eq_true (by omega)
            go_wp2_with (first | (go_at_call 8; refine (pglog_Append.calls 40 Aa ca a x y z.f0.f0 z.f0.f1 z.f1.f0 z.f1.f1 z.f1.f2 z.f1.f3.f0 z.f1.f3.f1 z.f1.f3.f2 z.f1.f3.f3 z.f1.f3.f4 z.f2.f0 z.f2.f1 z.f2.f2 z.f2.f3 nx e1 v1 ok _ (Kd.C_alloc HPT1.out.1.row _) HPT1.out.1.cap HAPP.out).mono ?_; rintro e' w1 ⟨u, rfl, hQ, hW⟩; obtain ⟨A9, c9, rfl, hc9, hC9⟩ := Kd.Q_reads hQ; have hbase := Q_baseA hQ; have HN9 := Aside0.mk (show Far A9 nx ba from fun ad ea _ => by have := hbase ad ea; simp at this; omega); have HC9 := Aside0.mk hC9; have HC9l := Aside0.mk hc9; have HW := Aside0.mk (below_step (below_alloc (Below.refl wr.heap.size wr) (.cells #[.int .i64 z.f0.f0, .int .i64 z.f0.f1, .int .i64 z.f1.f0, .int .i64 z.f1.f1, .int .i64 z.f1.f2, .int .i64 z.f1.f3.f0, .string z.f1.f3.f1, .int .i64 z.f1.f3.f2, .int .i64 z.f1.f3.f3, .string z.f1.f3.f4, .int .i64 z.f2.f0, .int .i64 z.f2.f1, .int .i64 z.f2.f2, .string z.f2.f3] 34)) hW); have q0 := (HW.out.cell (p := ⟨ba, 0, none⟩) (by show ba < _; omega)).trans p0; have q1 := (HW.out.cell (p := ⟨ba, 1, none⟩) (by show ba < _; omega)).trans p1; have g0 := (HW.out.frozen (p := ⟨ba, 0, none⟩) (by show ba < _; omega)).trans f0; have g1 := (HW.out.frozen (p := ⟨ba, 1, none⟩) (by show ba < _; omega)).trans f1; clear hW hQ hC9 hc9 hbase p0 p1 f0 f1))
            go_roundw
            case rel =>
              have hpt := HPT1.out.1.below HW.out
              refine ⟨i + 1, nx, e1, v1, A9, c9, by go_num, rfl, ⟨by omega, HNL.out⟩, HSTEP, ⟨Pt.stored hpt.box HC9.out HC9l.out HN9.out e1 v1, HN9.out⟩, ⟨?_⟩, ⟨(((OL.out.below HW.out).set HNl1.out HFl1.out 0 _).set HNl1.out HFl1.out 1 _)⟩⟩
              exact ((below_step HB.out HW.out).setCell (by show _ ≤ ba; omega) _).setCell (by show _ ≤ ba; omega) _
            case measure => simp [intOf]; omega
          · have h8b : decide ((a.length : Int) < 8) = false := decide_eq_false (by omega)
            go_wp2
            go_roundw
            case rel =>
              exact ⟨i + 1, a, x, y, Aa, ca, by go_num, rfl, ⟨by omega, HI.out.2⟩, HINV1, ⟨HPT1.out.1.alloc _, HPT1.out.2⟩, ⟨below_alloc HB.out _⟩, ⟨OL.out.alloc _⟩⟩
            case measure => simp [intOf]; omega
        · have hi0 := hlt
          clear HI HP1 HBw1 OL0 HNl1 HFl1
          obtain ⟨p0, p1, f0, f1⟩ := OL.out.cells
          have hbl1 := OL.out.lt
          go_wp2
          go_region
          go_wp2
          obtain ⟨bb, hbx⟩ : ∃ bb, bb = wr.heap.size := ⟨_, rfl⟩
          rw [← hbx]
          obtain ⟨W2, hWn⟩ : ∃ W2, W2 = (wr.alloc (.cells #[.int .i64 e, .int .i64 v] 24)).drew := ⟨_, rfl⟩
          rw [← hWn]
          have hbel : Below wr.heap.size wr W2 := by rw [hWn]; exact (below_alloc (Below.refl _ _) _).drew
          have HBB := Aside0.mk (show w.heap.size ≤ bb ∧ bb < W2.heap.size from by have := HB.out.size; rw [hWn, hbx]; simp; omega)
          have HP2 := Aside0.mk (show Pt W2 bb e v Al cl l from ⟨by rw [hWn, hbx]; exact World.alloc_heap_new wr _, Kd.C_below OL.out.row hbel, OL.out.cap⟩)
          have HFl2 := Aside0.mk (show Far Al l bb from by rw [hbx]; exact OL.out.far)
          have HNl2 := Aside0.mk (show bl ≠ bb from by have := OL.out.lt; omega)
          have OL0 := Aside0.mk (OL.out.below hbel)
          have HFa2 := Aside0.mk (show Far Aa a bb from by rw [hbx]; exact HPT1.out.1.far)
          have HNa2 := Aside0.mk (show ba ≠ bb from by have := HPT1.out.1.lt; omega)
          have OA0 := Aside0.mk (HPT1.out.1.below hbel)
          have HBw2 := Aside0.mk (below_step HB.out hbel)
          clear hbel hWn hbx p0 p1 f0 f1 hbl1 hlt hi0
          clear HB HPT1 OL
          go_loopw [15, 65] (fun v15 v65 w' => ∃ (i : Nat) (gs : List S34) (gx gy : Int) (gA : Option Addr) (gc : Nat), v65 = .int .i64 i ∧ v15 = .slice gA gs.length gc ∧ Aside0 (i ≤ l2.length ∧ gs.length ≤ 8) ∧ Aside0 (Gn l e v gs gx gy) ∧ Aside0 (Pt w' bb gx gy gA gc gs ∧ Far gA gs bb) ∧ Aside0 (Below w.heap.size w w') ∧ Aside0 (Pt w' bl e v Al cl l) ∧ Aside0 (Pt w' ba x y Aa ca a)) (fun _ v _ => l2.length - (intOf v).toNat)
          case atStart => exact ⟨0, l, e, v, Al, cl, rfl, rfl, ⟨by omega, by have := H3.out; omega⟩, ⟨Gn.refl HINV0.out⟩, ⟨HP2.out, HFl2.out⟩, HBw2, OL0, OA0⟩
          case round =>
            obtain ⟨i, b, x2, y2, Ab, cb, rfl, rfl, HI, HINV2, HPT2, HB, OL, OA⟩ := hrel
            by_cases hlt : i < l2.length
            · obtain ⟨ad, e1, hx0, hx1, hx2, hx3, hx4, hx5, hx6, hx7, hx8, hx9, hx10, hx11, hx12, hx13⟩ := at_T34 (Kd.C_below HR2.out HB.out) (i : Int) (by omega) (by omega)
              cases e1
              simp only [Int.toNat_natCast] at hx0 hx1 hx2 hx3 hx4 hx5 hx6 hx7 hx8 hx9 hx10 hx11 hx12 hx13
              generalize rd_T34 l2 (i : Int) = z at *
              by_cases h8 : b.length < 8
              · obtain ⟨nx, e1, v1, ok, happ, hstep, hnl⟩ := HINV2.out.step h8 z
                have HAPP := Aside0.mk happ
                have HSTEP := Aside0.mk hstep
                have HNL := Aside0.mk hnl
                clear happ hstep hnl
                have hbt := HPT2.out.1.lt
                have hbo := HBB.out
                obtain ⟨p0, p1, f0, f1⟩ := HPT2.out.1.cells
                have h8b : decide ((b.length : Int) < 8) = true := decide_eq_true (by omega)
                go_wp2_with (first | (go_at_call 8; refine (pglog_Append.calls 40 Ab cb b x2 y2 z.f0.f0 z.f0.f1 z.f1.f0 z.f1.f1 z.f1.f2 z.f1.f3.f0 z.f1.f3.f1 z.f1.f3.f2 z.f1.f3.f3 z.f1.f3.f4 z.f2.f0 z.f2.f1 z.f2.f2 z.f2.f3 nx e1 v1 ok _ (Kd.C_alloc HPT2.out.1.row _) HPT2.out.1.cap HAPP.out).mono ?_; rintro e' w1 ⟨u, rfl, hQ, hW⟩; obtain ⟨A9, c9, rfl, hc9, hC9⟩ := Kd.Q_reads hQ; have hbase := Q_baseA hQ; have HN9 := Aside0.mk (show Far A9 nx bb from fun ad ea _ => by have := hbase ad ea; simp at this; omega); have HC9 := Aside0.mk hC9; have HC9l := Aside0.mk hc9; have HW := Aside0.mk (below_step (below_alloc (Below.refl wr.heap.size wr) (.cells #[.int .i64 z.f0.f0, .int .i64 z.f0.f1, .int .i64 z.f1.f0, .int .i64 z.f1.f1, .int .i64 z.f1.f2, .int .i64 z.f1.f3.f0, .string z.f1.f3.f1, .int .i64 z.f1.f3.f2, .int .i64 z.f1.f3.f3, .string z.f1.f3.f4, .int .i64 z.f2.f0, .int .i64 z.f2.f1, .int .i64 z.f2.f2, .string z.f2.f3] 34)) hW); have q0 := (HW.out.cell (p := ⟨bb, 0, none⟩) (by show bb < _; omega)).trans p0; have q1 := (HW.out.cell (p := ⟨bb, 1, none⟩) (by show bb < _; omega)).trans p1; have g0 := (HW.out.frozen (p := ⟨bb, 0, none⟩) (by show bb < _; omega)).trans f0; have g1 := (HW.out.frozen (p := ⟨bb, 1, none⟩) (by show bb < _; omega)).trans f1; clear hW hQ hC9 hc9 hbase p0 p1 f0 f1))
                go_roundw
                case rel =>
                  have hpt := HPT2.out.1.below HW.out
                  refine ⟨i + 1, nx, e1, v1, A9, c9, by go_num, rfl, ⟨by omega, HNL.out⟩, HSTEP, ⟨Pt.stored hpt.box HC9.out HC9l.out HN9.out e1 v1, HN9.out⟩, ⟨?_⟩, ⟨(((OL.out.below HW.out).set HNl2.out HFl2.out 0 _).set HNl2.out HFl2.out 1 _)⟩, ⟨(((OA.out.below HW.out).set HNa2.out HFa2.out 0 _).set HNa2.out HFa2.out 1 _)⟩⟩
                  exact ((below_step HB.out HW.out).setCell (by show _ ≤ bb; omega) _).setCell (by show _ ≤ bb; omega) _
                case measure => simp [intOf]; omega
              · have h8b : decide ((b.length : Int) < 8) = false := decide_eq_false (by omega)
                go_wp2
                go_roundw
                case rel =>
                  exact ⟨i + 1, b, x2, y2, Ab, cb, by go_num, rfl, ⟨by omega, HI.out.2⟩, HINV2, ⟨HPT2.out.1.alloc _, HPT2.out.2⟩, ⟨below_alloc HB.out _⟩, ⟨OL.out.alloc _⟩, ⟨OA.out.alloc _⟩⟩
                case measure => simp [intOf]; omega
            · have hi0 := hlt
              clear HI HP2 HBw2 OL0 OA0 HNl2 HFl2 HNa2 HFa2
              have HLA := Aside0.mk (show pglog_Log.f a x y = some true from by unfold pglog_Log.f; rw [if_pos (entF_all a), HINV1.out.inv.ok])
              have HLB := Aside0.mk (show pglog_Log.f b x2 y2 = some true from by unfold pglog_Log.f; rw [if_pos (entF_all b), HINV2.out.inv.ok])
              obtain ⟨p0, p1, _, _⟩ := OA.out.cells
              go_upto_region 25 with (first
                | (go_at_call_of 9 ca; refine (pglog_Log.calls Aa ca a x y true _ OA.out.row OA.out.cap HLA.out).mono ?_; rintro e' w1 ⟨rfl, hW⟩; have HB1 := Aside0.mk (below_step HB.out hW); have OL1 := Aside0.mk (OL.out.below hW); have OA1 := Aside0.mk (OA.out.below hW); have OB1 := Aside0.mk (HPT2.out.1.below hW); clear hW p0 p1 HB OL OA HPT2; obtain ⟨q0, q1, _, _⟩ := OB1.out.cells)
                | (go_at_call_of 9 cb; refine (pglog_Log.calls Ab cb b x2 y2 true _ OB1.out.row OB1.out.cap HLB.out).mono ?_; rintro e' w2 ⟨rfl, hW⟩; have HB2 := Aside0.mk (below_step HB1.out hW); have OL2 := Aside0.mk (OL1.out.below hW); have OA2 := Aside0.mk (OA1.out.below hW); have OB2 := Aside0.mk (OB1.out.below hW); clear hW q0 q1 HB1 OL1 OA1 OB1))
              obtain ⟨be, hbe⟩ : ∃ be : Bool, be = (decide (l.length < a.length) && (decide (l.length < b.length) && ((rd_T34 a l.length).f0.f0 == (rd_T34 b l.length).f0.f0 && ((rd_T34 a l.length).f0.f1 == (rd_T34 b l.length).f0.f1)))) := ⟨_, rfl⟩
              have HBE := Aside0.mk hbe
              clear hbe
              have la8 : a.length ≤ 8 := by have := HINV1.out.inv.len; omega
              have lb8 : b.length ≤ 8 := by have := HINV2.out.inv.len; omega
              obtain ⟨wq, hwq⟩ : ∃ wq : World, wq = w2 := ⟨_, rfl⟩
              go_cut [117] (fun v117 wx => v117 = .bool be ∧ Aside0 (Below w2.heap.size w2 wx))
              case first =>
                by_cases ha : l.length < a.length
                · have ha1 : decide ((a.length : Int) > (l.length : Int)) = true := decide_eq_true (by omega)
                  have da : decide (l.length < a.length) = true := decide_eq_true ha
                  obtain ⟨ad, e1, hx0, hx1, _, _, _, _, _, _, _, _, _, _, _, _⟩ := at_T34 OA2.out.row (l.length : Int) (by omega) (by omega)
                  cases e1
                  by_cases hb : l.length < b.length
                  · have hb1 : decide ((b.length : Int) > (l.length : Int)) = true := decide_eq_true (by omega)
                    have db : decide (l.length < b.length) = true := decide_eq_true hb
                    obtain ⟨ad2, e2, hy0, hy1, _, _, _, _, _, _, _, _, _, _, _, _⟩ := at_T34 OB2.out.row (l.length : Int) (by omega) (by omega)
                    cases e2
                    simp only [Int.toNat_natCast] at hx0 hx1 hy0 hy1
                    have hc0 : (0 : Int) ≤ (l.length : Int) := by omega
                    have hc1 : (l.length : Int) < (a.length : Int) := by omega
                    have hc2 : (l.length : Int) < (b.length : Int) := by omega
                    have hE := HBE.out
                    rw [da, db, Bool.true_and, Bool.true_and] at hE
                    have HE := Aside0.mk hE
                    clear hE da db
                    generalize rd_T34 a (l.length : Int) = za at *
                    generalize rd_T34 b (l.length : Int) = zb at *
                    clear ha hb
                    go_quiet (fail)
                    go_wp2_with fail
                    go_meet
                    exact ⟨by rw [HE.out], ⟨pw_below_drewN (Below.refl _ _) _⟩⟩
                  · have hb1 : decide ((b.length : Int) > (l.length : Int)) = false := decide_eq_false (by omega)
                    have HE := Aside0.mk (show be = false from by rw [HBE.out, decide_eq_false hb]; simp)
                    have hb2 : decide (l.length < b.length) = false := decide_eq_false hb
                    clear ha hb
                    go_quiet (fail)
                    go_wp2_with fail
                    go_meet
                    exact ⟨by rw [HE.out], ⟨pw_below_drewN (Below.refl _ _) _⟩⟩
                · have ha1 : decide ((a.length : Int) > (l.length : Int)) = false := decide_eq_false (by omega)
                  have HE := Aside0.mk (show be = false from by rw [HBE.out, decide_eq_false ha]; simp)
                  have ha2 : decide (l.length < a.length) = false := decide_eq_false ha
                  clear ha
                  go_quiet (fail)
                  go_wp2_with fail
                  go_meet
                  exact ⟨by rw [HE.out], ⟨pw_below_drewN (Below.refl _ _) _⟩⟩
              case rest =>
                obtain ⟨rfl, HWC⟩ := hcut
                have OL3 := Aside0.mk (OL2.out.below HWC.out)
                have OA3 := Aside0.mk (OA2.out.below HWC.out)
                have OB3 := Aside0.mk (OB2.out.below HWC.out)
                have HB3 := Aside0.mk (below_step HB2.out HWC.out)
                clear OL2 OA2 OB2 HB2 HWC HBE
                cases be with
                | true =>
                  go_wp2_with (first | (go_at_call 10; refine (reeflaw21_awake.calls true _ rfl).mono ?_; rintro e' w3 ⟨rfl, hW2⟩; have HW2 := Aside0.mk hW2; clear hW2))
                  go_ret
                  exact ⟨rfl, below_step HB3.out HW2.out⟩
                | false =>
                  have hla : l.length ≤ a.length := by obtain ⟨t, ht, _⟩ := HINV1.out.more; rw [ht]; simp
                  have hlb : l.length ≤ b.length := by obtain ⟨t, ht, _⟩ := HINV2.out.more; rw [ht]; simp
                  go_wp2
                  go_loopw [19, 20] (fun v19 v20 w' => ∃ i : Nat, v19 = .int .i64 i ∧ Aside0 (l.length ≤ i ∧ i ≤ a.length ∧ ∀ i' k : Nat, l.length ≤ i' → i' < i → l.length ≤ k → k < b.length → ((rd_T34 a i').f0.f0 == (rd_T34 b k).f0.f0 && ((rd_T34 a i').f0.f1 == (rd_T34 b k).f0.f1)) = false) ∧ Aside0 (Below wc.heap.size wc w')) (fun v _ _ => a.length - (intOf v).toNat)
                  case atStart => exact ⟨l.length, rfl, ⟨by omega, by omega, by intros; omega⟩, ⟨Below.refl _ _⟩⟩
                  case round =>
                    obtain ⟨i, rfl, HI, HBI⟩ := hrel
                    have hi1 := HI.out.1
                    have hi2 := HI.out.2.1
                    by_cases hlt : i < a.length
                    · obtain ⟨ad, e1, hx0, hx1, _, _, _, _, _, _, _, _, _, _, _, _⟩ := at_T34 (Kd.C_below OA3.out.row HBI.out) (i : Int) (by omega) (by omega)
                      cases e1
                      simp only [Int.toNat_natCast] at hx0 hx1
                      have HX0 := Aside0.mk hx0
                      have HX1 := Aside0.mk hx1
                      clear hx0 hx1
                      go_wp2
                      go_loopw [20] (fun v20 w' => ∃ k : Nat, v20 = .int .i64 k ∧ Aside0 (l.length ≤ k ∧ k ≤ b.length ∧ ∀ k' : Nat, l.length ≤ k' → k' < k → ((rd_T34 a i).f0.f0 == (rd_T34 b k').f0.f0 && ((rd_T34 a i).f0.f1 == (rd_T34 b k').f0.f1)) = false) ∧ Aside0 (Below wr.heap.size wr w')) (fun v _ => b.length - (intOf v).toNat)
                      case atStart => exact ⟨l.length, rfl, ⟨by omega, by omega, by intros; omega⟩, ⟨Below.refl _ _⟩⟩
                      case round =>
                        obtain ⟨k, rfl, HK, HBK⟩ := hrel
                        have hk1 := HK.out.1
                        have hk2 := HK.out.2.1
                        by_cases hkt : k < b.length
                        · obtain ⟨ad2, e2, hy0, hy1, _, _, _, _, _, _, _, _, _, _, _, _⟩ := at_T34 (Kd.C_below (Kd.C_below OB3.out.row HBI.out) HBK.out) (k : Int) (by omega) (by omega)
                          cases e2
                          simp only [Int.toNat_natCast] at hy0 hy1
                          have hx0 := (HBK.out.cell (World.block_lt_of_cell? _ _ HX0.out)).trans HX0.out
                          have hx1 := (HBK.out.cell (World.block_lt_of_cell? _ _ HX1.out)).trans HX1.out
                          have hc0 : (0 : Int) ≤ (i : Int) := by omega
                          have hc1 : (i : Int) < (a.length : Int) := by omega
                          have hc2 : (0 : Int) ≤ (k : Int) := by omega
                          have hc3 : (k : Int) < (b.length : Int) := by omega
                          cases hq : ((rd_T34 a (i : Int)).f0.f0 == (rd_T34 b (k : Int)).f0.f0 && ((rd_T34 a (i : Int)).f0.f1 == (rd_T34 b (k : Int)).f0.f1)) with
                          | true =>
                            go_wp2
                            go_quiet (fail)
                            have HB4 := Aside0.mk (below_step (below_step HB3.out HBI.out) HBK.out)
                            clear hx0 hx1 hy0 hy1
                            go_wp2_with (first | (go_at_call 10; refine (reeflaw21_awake.calls true _ rfl).mono ?_; rintro e' w3 ⟨rfl, hW2⟩; have HW2 := Aside0.mk hW2; clear hW2))
                            go_ret
                            exact ⟨rfl, below_step (pw_below_drewN HB4.out _) HW2.out⟩
                          | false =>
                            have HQ := Aside0.mk hq
                            go_wp2
                            go_quiet (fail)
                            clear hx0 hx1 hy0 hy1
                            go_wp2
                            go_roundw
                            case rel =>
                              refine ⟨k + 1, by go_num, ⟨by omega, by omega, fun k' h1 h2 => ?_⟩, ⟨pw_below_drewN HBK.out _⟩⟩
                              by_cases hkk : k' = k
                              · subst hkk; exact HQ.out
                              · exact HK.out.2.2 k' h1 (by omega)
                            case measure => simp [intOf]; omega
                        · go_wp2
                          go_roundw
                          case rel =>
                            refine ⟨i + 1, by go_num, ⟨by omega, by omega, fun i' k' h1 h2 h3 h4 => ?_⟩, ⟨below_step HBI.out HBK.out⟩⟩
                            by_cases hii : i' = i
                            · subst hii; exact HK.out.2.2 k' h3 (by omega)
                            · exact HI.out.2.2 i' k' h1 (by omega) h3 h4
                          case measure => simp [intOf]; omega
                    · have HD := Aside0.mk (parts HINV0.out HINV1.out HINV2.out (fun i' k' h1 h2 h3 h4 => HI.out.2.2 i' k' h1 (by omega) h3 h4))
                      have OL4 := Aside0.mk (OL3.out.below HBI.out)
                      have OA4 := Aside0.mk (OA3.out.below HBI.out)
                      have OB4 := Aside0.mk (OB3.out.below HBI.out)
                      have HB4 := Aside0.mk (below_step HB3.out HBI.out)
                      clear OL3 OA3 OB3 HB3 HBI HI hi1 hi2
                      have hn1 : (decide (0 < l.length) != decide ((l.length : Int) > 0)) = false := by
                        rw [bne_eq_false_iff_eq, Bool.eq_iff_iff, decide_eq_true_iff, decide_eq_true_iff]; omega
                      have hn2 : (decide (0 < l.length) != decide (0 < (l.length : Int))) = false := hn1
                      go_wp2_with (first
                        | (go_at_call 20; refine (pglog_Common.calls Aa ca a Ab cb b e v (decide (0 < l.length)) _ OA4.out.row OA4.out.cap OB4.out.row OB4.out.cap HD.out.1).mono ?_; rintro e' w4 ⟨rfl, hW⟩; have OL5 := Aside0.mk (OL4.out.below hW); have OA5 := Aside0.mk (OA4.out.below hW); have OB5 := Aside0.mk (OB4.out.below hW); have HB5 := Aside0.mk (below_step HB4.out hW); clear hW OL4 OA4 OB4 HB4; obtain ⟨p0, p1, _, _⟩ := OL5.out.cells; have hpl := OL5.out.lt))
                      obtain ⟨bs, hbs⟩ : ∃ bs, bs = w4.heap.size := ⟨_, rfl⟩
                      rw [← hbs]
                      obtain ⟨W6, hW6⟩ : ∃ W6, W6 = w4.alloc (.cells #[.int .i64 e, .int .i64 v] 24) := ⟨_, rfl⟩
                      rw [← hW6]
                      have HP6 := Aside0.mk (show Pt W6 bs e v none 0 [] from ⟨by rw [hW6, hbs]; exact World.alloc_heap_new w4 _, Kd.C_nil _ _, by decide⟩)
                      have OA6 := Aside0.mk (show Pt W6 ba x y Aa ca a from by rw [hW6]; exact OA5.out.alloc _)
                      have OB6 := Aside0.mk (show Pt W6 bb x2 y2 Ab cb b from by rw [hW6]; exact OB5.out.alloc _)
                      have HB6 := Aside0.mk (show Below w.heap.size w W6 from by rw [hW6]; exact below_alloc HB5.out _)
                      clear hW6 hbs OA5 OB5 HB5 OL5 p0 p1 hpl
                      obtain ⟨p0, p1, _, _⟩ := HP6.out.cells
                      have hla9 : (l.length : Int) ≤ (a.length : Int) := by omega
                      have hlb9 : (l.length : Int) ≤ (b.length : Int) := by omega
                      have hl0 : (0 : Int) ≤ (l.length : Int) := by omega
                      have hca := OA6.out.cap
                      have hcb := OB6.out.cap
                      refine Code.wp_mono ?_ (region38 l a b e v Al Aa Ab cl ca cb bs W6 la8 lb8 hla hlb OA6.out.row OA6.out.cap OB6.out.row OB6.out.cap p0 p1 HP6.out.lt HD.out.2.1 HD.out.2.2)
                      intro x a' w' h
                      cases x
                      case normal =>
                        obtain ⟨t163, t164, t165, t166, t167, t168, t169, t170, t171, t172, t173, t174, t175, t176, t177, t178, t179, t180, t181, t182, rfl, hb⟩ := h
                        have HBZ := Aside0.mk (below_step HB6.out hb)
                        clear hb
                        go_wp2
                        go_ret
                        exact ⟨rfl, HBZ.out⟩
                      all_goals exact h.elim
end Go.Proofs.Ytbdciklcckjknaa.P
