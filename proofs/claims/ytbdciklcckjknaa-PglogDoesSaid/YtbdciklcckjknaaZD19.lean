/- Texts of this claim, merged by pack.py: W3 -/
import Derived.Deep.DeepCutAuto
import Derived.Test.YtbdciklcckjknaaZD12
import Derived.Test.YtbdciklcckjknaaZD18
import Derived.Test.YtbdciklcckjknaaZD05
namespace Go.Proofs.Ytbdciklcckjknaa.P
open Go.RowKit Go.Proofs.YtbdciklcckjknaaW.PrintWords Go.Proofs.YtbdciklcckjknaaW.PrintLast Go.Proofs.YtbdciklcckjknaaW.PrintMore Go.Proofs.YtbdciklcckjknaaW.HB
set_option linter.unusedVariables false
set_option linter.unusedSimpArgs false
attribute [local go_sem high] eqA24 eqA34
attribute [local go_sem] max2_int min2_int max_two min_two
def SBox (W : World) (b : Nat) (e v : Int) : Prop := W.heap[b]? = some (.cells #[.int .i64 e, .int .i64 v] 24 (0, 0))
theorem SBox.step {W W' : World} {b : Nat} {e v : Int} (h : SBox W b e v) (hb : Below W.heap.size W W') : SBox W' b e v := (hb.block _ (Array.getElem?_eq_some_iff.1 h).1).trans h
theorem SBox.lt {W : World} {b : Nat} {e v : Int} (h : SBox W b e v) : b < W.heap.size := (Array.getElem?_eq_some_iff.1 h).1
theorem SBox.cells {W : World} {b : Nat} {e v : Int} (h : SBox W b e v) : W.cell? ⟨b, 0, none⟩ = some (.int .i64 e) ∧ W.cell? ⟨b, 1, none⟩ = some (.int .i64 v) ∧ W.frozen? ⟨b, 0, none⟩ = false ∧ W.frozen? ⟨b, 1, none⟩ = false := by
  unfold SBox at h
  simp [World.cell?, World.frozen?, h]
theorem XBox.step {W W' : World} {b : Nat} {x : S34} (h : XBox W b x) (hb : Below W.heap.size W W') : XBox W' b x := (hb.block _ h.lt).trans h
structure DS (w W : World) (b7 b8 b9 : Nat) (le lv ae av : Int) (x : S34) : Prop where
  s7 : SBox W b7 le lv
  s8 : XBox W b8 x
  s9 : SBox W b9 ae av
  below : Below w.heap.size w W
theorem DS.step {w W W' : World} {b7 b8 b9 : Nat} {le lv ae av : Int} {x : S34} (h : DS w W b7 b8 b9 le lv ae av x) (hb : Below W.heap.size W W') : DS w W' b7 b8 b9 le lv ae av x :=
  ⟨h.s7.step hb, h.s8.step hb, h.s9.step hb, below_step h.below hb⟩
theorem app_len (a : List S34) (e v : Int) (x : S34) (h : a.length ≤ 8) : (appB a e v x).1.length ≤ 8 := by
  unfold appB
  split
  · show (cutL (a ++ [x])).length ≤ 8
    unfold cutL
    split
    · simp; omega
    · omega
  · exact h
theorem C_far {α : Type} {d : Kd α} {W : World} {A : Option Addr} {n : Nat} {xs : List α} (hK : ∀ W W' x cs, d.K W x cs → d.K W' x cs) (h : Kd.C d W A n xs) (p : Addr) (u : Value) (hA : ∀ ad, A = some ad → 0 < n → ad.block ≠ p.block) : Kd.C d (W.setCell p u) A n xs := by
  refine ⟨h.1, h.2.1, fun hn => ?_⟩
  obtain ⟨ad, e, hc⟩ := h.2.2 hn
  refine ⟨ad, e, fun j q hj => ?_⟩
  obtain ⟨c, h1, h2, h3⟩ := hc j q hj
  refine ⟨c, h1, hK _ _ _ _ h2, fun i u hu => (World.cell?_setCell_other _ _ _ _ (fun e' => ?_)).trans (h3 i u hu)⟩
  have := hA ad e hn
  have e2 := congrArg Addr.block e'
  first
    | (rw [add_block] at e2; exact this e2.symm)
    | (rw [add_block] at e2; exact this e2)
theorem C_came {w W : World} {A : Option Addr} {l : List S34} {b : Nat} (h0 : Kd.C k34 w A l.length l) (h : Kd.C k34 W A l.length l) (hb : w.heap.size ≤ b) (k : Nat) (u : Value) : Kd.C k34 (W.setCell ⟨b, k, none⟩ u) A l.length l :=
  C_far k34_still h _ _ (fun ad e hn => by
    subst e
    have := Kd.C_lt h0 hn (by decide)
    show ad.block ≠ b
    omega)
theorem names_len {l : List S34} {ns : List ByteArray} (h : pglog_Names.f l = some ns) : ns.length ≤ l.length := by
  unfold pglog_Names.f at h
  split at h
  · obtain rfl := Option.some.inj h
    rw [fl_len]
    refine Nat.le_trans (compactS_le _) ?_
    simp [tl]
  · cases h
set_option maxRecDepth 100000 in
set_option maxHeartbeats 8000000 in
theorem reeflaw21_PglogDoes.calls (A0 : Option Addr) (c0 : Nat) (a : List S34) (A1 : Option Addr) (c1 : Nat) (b : List S34) (le lv : Int) (x : S34) (ae av : Int) (w : World)
    (hr0 : Kd.C k34 w A0 a.length a) (hc0 : a.length ≤ c0) (hr1 : Kd.C k34 w A1 b.length b) (hc1 : b.length ≤ c1) (hfa : ∀ z ∈ a, fitE z) (hfb : ∀ z ∈ b, fitE z) (hfx : fitE x) :
    Calls Try.prog 4 #[.slice A0 a.length c0, .slice A1 b.length c1, .agg #[.int .i64 le, .int .i64 lv], .agg #[.int .i64 x.f0.f0, .int .i64 x.f0.f1, .int .i64 x.f1.f0, .int .i64 x.f1.f1, .int .i64 x.f1.f2, .int .i64 x.f1.f3.f0, .string x.f1.f3.f1, .int .i64 x.f1.f3.f2, .int .i64 x.f1.f3.f3, .string x.f1.f3.f4, .int .i64 x.f2.f0, .int .i64 x.f2.f1, .int .i64 x.f2.f2, .string x.f2.f3], .agg #[.int .i64 ae, .int .i64 av]] w fun e w' => e = .returned (.bool true) ∧ Below w.heap.size w w' := by
  obtain ⟨K, hK⟩ : ∃ K : Nat, 140737488351260 < K := ⟨140737488351261, by omega⟩
  have HK := Aside0.mk hK
  have HR0 := Aside0.mk hr0
  have HC0 := Aside0.mk hc0
  have HR1 := Aside0.mk hr1
  have HC1 := Aside0.mk hc1
  have HFB := Aside0.mk hfb
  have HFX := Aside0.mk hfx
  have hlen1 := hr1.2.1
  obtain ⟨rb, hrb, hr8⟩ := rlog_some K hK a le lv hfa
  have HRL := Aside0.mk hrb
  have HR8 := Aside0.mk hr8
  clear hr0 hc0 hr1 hc1 hfa hfb hfx hK hrb hr8
  have hu := Try.underlying34
  have hu2 := Try.underlying24
  have hz2 := Try.zeroValue24
  go_enter Try.func4, Try.ntmps4
  go_upto_region 1 with (fail)
  obtain ⟨b7, hb7⟩ : ∃ b7, b7 = w.heap.size := ⟨_, rfl⟩
  obtain ⟨b8, hb8⟩ : ∃ b8, b8 = w.heap.size + 1 := ⟨_, rfl⟩
  obtain ⟨b9, hb9⟩ : ∃ b9, b9 = w.heap.size + 1 + 1 := ⟨_, rfl⟩
  rw [← hb9, ← hb8, ← hb7]
  obtain ⟨W0, hW0⟩ : ∃ W0, W0 = (((w.alloc (.cells #[.int .i64 le, .int .i64 lv] 24)).alloc (.cells #[.int .i64 x.f0.f0, .int .i64 x.f0.f1, .int .i64 x.f1.f0, .int .i64 x.f1.f1, .int .i64 x.f1.f2, .int .i64 x.f1.f3.f0, .string x.f1.f3.f1, .int .i64 x.f1.f3.f2, .int .i64 x.f1.f3.f3, .string x.f1.f3.f4, .int .i64 x.f2.f0, .int .i64 x.f2.f1, .int .i64 x.f2.f2, .string x.f2.f3] 34)).alloc (.cells #[.int .i64 ae, .int .i64 av] 24)) := ⟨_, rfl⟩
  rw [← hW0]
  have D0 := Aside0.mk (show DS w W0 b7 b8 b9 le lv ae av x from by
    have e1 := World.alloc_heap_new w (.cells #[.int .i64 le, .int .i64 lv] 24)
    have e2 := World.alloc_heap_new (w.alloc (.cells #[.int .i64 le, .int .i64 lv] 24)) (.cells #[.int .i64 x.f0.f0, .int .i64 x.f0.f1, .int .i64 x.f1.f0, .int .i64 x.f1.f1, .int .i64 x.f1.f2, .int .i64 x.f1.f3.f0, .string x.f1.f3.f1, .int .i64 x.f1.f3.f2, .int .i64 x.f1.f3.f3, .string x.f1.f3.f4, .int .i64 x.f2.f0, .int .i64 x.f2.f1, .int .i64 x.f2.f2, .string x.f2.f3] 34)
    have e3 := World.alloc_heap_new ((w.alloc (.cells #[.int .i64 le, .int .i64 lv] 24)).alloc (.cells #[.int .i64 x.f0.f0, .int .i64 x.f0.f1, .int .i64 x.f1.f0, .int .i64 x.f1.f1, .int .i64 x.f1.f2, .int .i64 x.f1.f3.f0, .string x.f1.f3.f1, .int .i64 x.f1.f3.f2, .int .i64 x.f1.f3.f3, .string x.f1.f3.f4, .int .i64 x.f2.f0, .int .i64 x.f2.f1, .int .i64 x.f2.f2, .string x.f2.f3] 34)) (.cells #[.int .i64 ae, .int .i64 av] 24)
    rw [hW0]
    refine ⟨?_, ?_, ?_, below_alloc (below_alloc (below_alloc (Below.refl _ _) _) _) _⟩
    · rw [hb7]; exact (Below.heap_alloc _ _ _ (by simp only [World.size_alloc]; omega)).trans ((Below.heap_alloc _ _ _ (by simp)).trans e1)
    · rw [hb8]; rw [World.size_alloc] at e2; exact (Below.heap_alloc _ _ _ (by simp)).trans e2
    · rw [hb9]; rw [World.size_alloc, World.size_alloc] at e3; exact e3)
  clear hW0 hb7 hb8 hb9
  obtain ⟨p0, p1, _, _⟩ := D0.out.s7.cells
  cases rb with
  | false =>
    go_wp2_with (first
      | (go_at_call 11; refine (reefref21_Log.calls K A0 c0 a le lv _ _ (Kd.C_below HR0.out D0.out.below) HC0.out HRL.out).mono ?_; rintro e' w1 ⟨rfl, hW⟩; have D1 := Aside0.mk (D0.out.step hW); clear hW p0 p1 D0)
      | (go_at_call 10; refine (reeflaw21_awake.calls true _ rfl).mono ?_; rintro e' w2 ⟨rfl, hW⟩; have HW2 := Aside0.mk (below_step D1.out.below hW); clear hW))
    go_ret
    exact ⟨rfl, HW2.out⟩
  | true =>
    have a8 := HR8.out rfl
    obtain ⟨nx, hnx⟩ : ∃ nx, nx = (appB a le lv x).1 := ⟨_, rfl⟩
    obtain ⟨e1, he1⟩ : ∃ e1, e1 = (appB a le lv x).2.1 := ⟨_, rfl⟩
    obtain ⟨v1, hv1⟩ : ∃ v1, v1 = (appB a le lv x).2.2.1 := ⟨_, rfl⟩
    obtain ⟨ok, hok⟩ : ∃ ok, ok = (appB a le lv x).2.2.2 := ⟨_, rfl⟩
    have happ : appB a le lv x = (nx, e1, v1, ok) := by rw [hnx, he1, hv1, hok]
    have HAP := Aside0.mk ((app_eq a le lv x (by omega)).trans (congrArg some happ))
    have HRA := Aside0.mk ((rapp_eq K HK.out a le lv x a8 HFX.out).trans (congrArg some happ))
    have N8 := Aside0.mk (show nx.length ≤ 8 from by rw [hnx]; exact app_len a le lv x a8)
    have A8 := Aside0.mk a8
    clear hnx he1 hv1 hok happ a8 HR8
    go_upto_region 8 with (first
      | (go_at_call 11; refine (reefref21_Log.calls K A0 c0 a le lv _ _ (Kd.C_below HR0.out D0.out.below) HC0.out HRL.out).mono ?_; rintro e' w1 ⟨rfl, hW⟩; have D1 := Aside0.mk (D0.out.step hW); clear hW p0 p1 D0)
      | (go_at_call 12; refine (reefref21_Copy.calls A0 c0 a a _ (Kd.C_below HR0.out D1.out.below) HC0.out (rcopy_eq a A8.out)).mono ?_; rintro e' w2 ⟨v2, rfl, hR, hW⟩; obtain ⟨Ao, co, rfl⟩ := Kd.R_slice hR; have HO := Aside0.mk (Kd.R_reads' hR); have D2 := Aside0.mk (D1.out.step hW); clear hR hW; obtain ⟨p0, p1, _, _⟩ := D2.out.s7.cells; obtain ⟨q0, q1, q2, q3, q4, q5, q6, q7, q8, q9, q10, q11, q12, q13⟩ := D2.out.s8.cells)
      | (go_at_call 8; refine (pglog_Append.calls 40 Ao co a le lv x.f0.f0 x.f0.f1 x.f1.f0 x.f1.f1 x.f1.f2 x.f1.f3.f0 x.f1.f3.f1 x.f1.f3.f2 x.f1.f3.f3 x.f1.f3.f4 x.f2.f0 x.f2.f1 x.f2.f2 x.f2.f3 nx e1 v1 ok _ HO.out.2.2 HO.out.2.1 HAP.out).mono ?_; rintro e' w3 ⟨u, rfl, hQ, hW⟩; obtain ⟨A12, c12, rfl, hc12, hC12⟩ := Kd.Q_reads hQ; have HX := Aside0.mk hC12; have HXc := Aside0.mk hc12; have HO3 := Aside0.mk (Kd.C_below HO.out.2.2 hW); have D3 := Aside0.mk (D2.out.step hW); clear hQ hW hC12 hc12 p0 p1 q0 q1 q2 q3 q4 q5 q6 q7 q8 q9 q10 q11 q12 q13; obtain ⟨p0, p1, _, _⟩ := D3.out.s7.cells; obtain ⟨q0, q1, q2, q3, q4, q5, q6, q7, q8, q9, q10, q11, q12, q13⟩ := D3.out.s8.cells; have l7 := D3.out.s7.lt; have l8 := D3.out.s8.lt)
      | (go_at_call 13; refine (reefref21_Append.calls K A0 c0 a le lv x.f0.f0 x.f0.f1 x.f1.f0 x.f1.f1 x.f1.f2 x.f1.f3.f0 x.f1.f3.f1 x.f1.f3.f2 x.f1.f3.f3 x.f1.f3.f4 x.f2.f0 x.f2.f1 x.f2.f2 x.f2.f3 nx e1 v1 ok _ (Kd.C_alloc (Kd.C_below HR0.out D3.out.below) _) HC0.out HRA.out).mono ?_; rintro e' w4 ⟨u, rfl, hQ, hW⟩; obtain ⟨A15, c15, rfl, hc15, hC15⟩ := Kd.Q_reads hQ; have HY := Aside0.mk hC15; have HYc := Aside0.mk hc15; have S13 := Aside0.mk (show SBox w4 w3.heap.size e1 v1 from (show SBox (w3.alloc (.cells #[.int .i64 e1, .int .i64 v1] 24)) w3.heap.size e1 v1 from World.alloc_heap_new w3 _).step hW); have HX4 := Aside0.mk (Kd.C_below (Kd.C_alloc HX.out (.cells #[.int .i64 e1, .int .i64 v1] 24)) hW); have HO4 := Aside0.mk (Kd.C_below (Kd.C_alloc HO3.out (.cells #[.int .i64 e1, .int .i64 v1] 24)) hW); have D4 := Aside0.mk ((D3.out.step (below_alloc (Below.refl _ _) (.cells #[.int .i64 e1, .int .i64 v1] 24))).step hW); clear hQ hW hC15 hc15 p0 p1 q0 q1 q2 q3 q4 q5 q6 q7 q8 q9 q10 q11 q12 q13 l7 l8)
      | (go_at_call 14; refine (same_does nx _ ?_ ?_ N8.out).mono ?_; exact ⟨Kd.C_alloc HX4.out _, HXc.out, rfl⟩; exact ⟨Kd.C_alloc HY.out _, HYc.out, rfl⟩; rintro e' w5 ⟨rfl, hW⟩; have S16 := Aside0.mk (show SBox w5 w4.heap.size e1 v1 from (show SBox (w4.alloc (.cells #[.int .i64 e1, .int .i64 v1] 24)) w4.heap.size e1 v1 from World.alloc_heap_new w4 _).step hW); have S13' := Aside0.mk ((S13.out.step (below_alloc (Below.refl _ _) (.cells #[.int .i64 e1, .int .i64 v1] 24))).step hW); have HO5 := Aside0.mk (Kd.C_below (Kd.C_alloc HO4.out (.cells #[.int .i64 e1, .int .i64 v1] 24)) hW); have D5 := Aside0.mk ((D4.out.step (below_alloc (Below.refl _ _) (.cells #[.int .i64 e1, .int .i64 v1] 24))).step hW); clear hW; obtain ⟨p0, p1, _, _⟩ := S13'.out.cells; obtain ⟨r0, r1, _, _⟩ := S16.out.cells))
    obtain ⟨ns, hns⟩ : ∃ ns, pglog_Names.f a = some ns := ⟨_, if_pos (by have := A8.out; omega)⟩
    obtain ⟨bh, hbh⟩ : ∃ bh, bh = a.filter (lateB ae av) := ⟨_, rfl⟩
    have hb1 : pglog_Behind.f a ae av = some bh := by rw [hbh]; exact if_pos (by have := A8.out; omega)
    have hbl : bh.length ≤ 8 := by rw [hbh]; exact Nat.le_trans (List.length_filter_le _ _) A8.out
    obtain ⟨z0, z1, _, _⟩ := D5.out.s9.cells
    have h34 : w3.heap.size ≠ w4.heap.size := by have := S13.out.lt; omega
    have h3w : w.heap.size ≤ w3.heap.size := D3.out.below.size
    have h4w : w.heap.size ≤ w4.heap.size := D4.out.below.size
    refine Code.wp_mono ?_ (region8 a bh ns ae av A0 Ao c0 co b9 w5 (Kd.C_below HR0.out D5.out.below) HC0.out HO5.out HO.out.2.1 z0 z1 D5.out.s9.lt hb1 ((rbehind_eq a A8.out ae av).trans hb1) hns ((rnames_eq a A8.out).trans hns) ⟨A8.out, hbl, Nat.le_trans (names_len hns) A8.out⟩)
    intro ex a' w8 h
    cases ex
    case normal =>
      obtain ⟨t56, t57, t58, t59, t60, t61, t62, t63, t64, t65, t66, t67, t68, t69, t70, t71, t72, t73, t74, t75, t76, rfl, hb⟩ := h
      have DB := Aside0.mk (below_step D5.out.below hb)
      have S13 := Aside0.mk (S13'.out.step hb)
      have S16 := Aside0.mk (S16.out.step hb)
      have HO8 := Aside0.mk (Kd.C_below HO5.out hb)
      have HOc := Aside0.mk HO.out.2.1
      clear hb z0 z1 p0 p1 r0 r1 hns hbh hb1 hbl D5 S13' HO5 HO HO3 HO4 HX HXc HX4 HY HYc D1 D2 D3 D4
      by_cases hb0 : b.length = 0
      · have hz : ((b.length : Int) == 0) = true := by rw [beq_iff_eq]; omega
        go_wp2_with (first | (go_at_call 10; refine (reeflaw21_awake.calls true _ rfl).mono ?_; rintro e' w9 ⟨rfl, hW⟩; have HW2 := Aside0.mk (below_step DB.out hW); clear hW))
        go_ret
        exact ⟨rfl, HW2.out⟩
      · have hz : ((b.length : Int) == 0) = false := by rw [beq_eq_false_iff_ne]; omega
        obtain ⟨ad, ea, hx0, hx1, _, _, _, _, _, _, _, _, _, _, _, _⟩ := at_T34 (Kd.C_below HR1.out DB.out) ((b.length : Int) - 1) (by omega) (by omega)
        cases ea
        rw [show ((b.length : Int) - 1).toNat = b.length - 1 from by omega] at hx0 hx1
        generalize rd_T34 b ((b.length : Int) - 1) = zb at *
        have hpn : 0 ≤ (b.length : Int) - 1 := by omega
        have hpl : (b.length : Int) - 1 < (b.length : Int) := by omega
        have hwi : IntKind.i64.wrap ((b.length : Int) - 1) = (b.length : Int) - 1 := by simp [IntKind.wrap, IntKind.signed, IntKind.bits]; omega
        obtain ⟨rb2, hrb2, hr82⟩ := rlog_some K HK.out b zb.f0.f0 zb.f0.f1 HFB.out
        have HRL2 := Aside0.mk hrb2
        have HR82 := Aside0.mk hr82
        clear hrb2 hr82
        cases rb2 with
        | false =>
          go_wp2_with (first
            | (go_at_call 11; refine (reefref21_Log.calls K _ c1 b zb.f0.f0 zb.f0.f1 _ _ (Kd.C_below HR1.out DB.out) HC1.out HRL2.out).mono ?_; rintro e' w9 ⟨rfl, hW⟩; have DB9 := Aside0.mk (below_step DB.out hW); clear hW hx0 hx1 DB)
            | (go_at_call 10; refine (reeflaw21_awake.calls true _ rfl).mono ?_; rintro e' w10 ⟨rfl, hW⟩; have HW2 := Aside0.mk (below_step DB9.out hW); clear hW))
          go_ret
          exact ⟨rfl, HW2.out⟩
        | true =>
          have b8 := HR82.out rfl
          obtain ⟨r1, r2, r3, hcm⟩ : ∃ r1 r2 r3, pglog_Common.f a b = some (r1, r2, r3) := ⟨_, _, _, rfl⟩
          have CM1 := Aside0.mk hcm
          have CM2 := Aside0.mk ((rcommon_eq a b A8.out b8).trans hcm)
          clear hcm b8 HR82
          go_wp2_with (first
            | (go_at_call 11; refine (reefref21_Log.calls K _ c1 b zb.f0.f0 zb.f0.f1 _ _ (Kd.C_below HR1.out DB.out) HC1.out HRL2.out).mono ?_; rintro e' w9 ⟨rfl, hW⟩; have HO9 := Aside0.mk (Kd.C_below HO8.out hW); have S13 := Aside0.mk (S13.out.step hW); have S16 := Aside0.mk (S16.out.step hW); have DB9 := Aside0.mk (below_step DB.out hW); clear hW hx0 hx1 DB)
            | (go_at_call 20; refine (pglog_Common.calls Ao co a _ c1 b r1 r2 r3 _ HO9.out HOc.out (Kd.C_below HR1.out DB9.out) HC1.out CM1.out).mono ?_; rintro e' w10 ⟨rfl, hW⟩; have S13a := Aside0.mk (S13.out.step hW); have S16a := Aside0.mk (S16.out.step hW); have DBa := Aside0.mk (below_step DB9.out hW); obtain ⟨g0, g1, f0, f1⟩ := S13a.out.cells; clear hW)
            | (go_at_call 21; refine (reefref21_Common.calls 100 A0 c0 a _ c1 b r1 r2 r3 _ (C_came HR0.out (C_came HR0.out (Kd.C_below HR0.out DBa.out) h3w 0 _) h3w 1 _) HC0.out (C_came HR1.out (C_came HR1.out (Kd.C_below HR1.out DBa.out) h3w 0 _) h3w 1 _) HC1.out CM2.out).mono ?_; rintro e' w11 ⟨rfl, hW⟩; have S13b := Aside0.mk (show SBox w11 w3.heap.size r1 r2 from (show SBox ((w10.setCell ⟨w3.heap.size, 0, none⟩ (.int .i64 r1)).setCell ⟨w3.heap.size, 1, none⟩ (.int .i64 r2)) w3.heap.size r1 r2 from hset (hset S13a.out 0 _) 1 _).step hW); have S16b := Aside0.mk (show SBox w11 w4.heap.size e1 v1 from (show SBox ((w10.setCell ⟨w3.heap.size, 0, none⟩ (.int .i64 r1)).setCell ⟨w3.heap.size, 1, none⟩ (.int .i64 r2)) w4.heap.size e1 v1 from hfar (hfar S16a.out (Ne.symm h34) _ _) (Ne.symm h34) _ _).step hW); have DBb := Aside0.mk (below_step ((DBa.out.setCell (p := ⟨w3.heap.size, 0, none⟩) h3w (.int .i64 r1)).setCell (p := ⟨w3.heap.size, 1, none⟩) h3w (.int .i64 r2)) hW); clear hW g0 g1 f0 f1; obtain ⟨g0, g1, f0, f1⟩ := S16b.out.cells; obtain ⟨m0, m1, _, _⟩ := S13b.out.cells)
            | (go_at_call 10; refine (reeflaw21_awake.calls true _ rfl).mono ?_; rintro e' w12 ⟨rfl, hW⟩; have HWz := Aside0.mk (below_step ((DBb.out.setCell (p := ⟨w4.heap.size, 0, none⟩) h4w (.int .i64 r1)).setCell (p := ⟨w4.heap.size, 1, none⟩) h4w (.int .i64 r2)) hW); clear hW))
          go_ret
          exact ⟨rfl, HWz.out⟩
    all_goals exact h.elim
end Go.Proofs.Ytbdciklcckjknaa.P
