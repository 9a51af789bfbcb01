/- Texts of this claim, merged by pack.py: C6 C7 R1 PReefref12Hosts PReefref12Weight PReefref12Items Q1 Q2 PReefref11Weight PReefref11Choose Q3 PReefref12Clash PReefref12Try PReefref12Place Q4 PRuleMost Q5 PRuleValid PReefref12Valid Q6 PReefref12Most Q7 W1a PReeflaw12Ints W0 W0b Q8 Q9 Q10 PRuleLoad PReefref12Many PReefref12Load -/
import Derived.BigRegionIn
import Derived.WalkMore
import Derived.Test.YtbaldkcnipmdjaaRF01
import Derived.Test.YtbaldkcnipmdjaaRF04
import Derived.Lib.SlicesCompact
namespace Go.Proofs.Ytbaldkcnipmdjaa.P
open Go.RowKit Go.Proofs.YtbaldkcnipmdjaaW.PrintWords Go.Proofs.YtbaldkcnipmdjaaW.PrintLast Go.Proofs.YtbaldkcnipmdjaaW.PrintMore Go.Proofs.YtbaldkcnipmdjaaW.HB
set_option linter.unusedVariables false
set_option linter.unusedSimpArgs false
attribute [local go_sem] Oper.semAt_some
def domS (hs : List Int) (kind v : Int) : Int := if kind = 2 then rd hs v else v
def placeStep (hs : List Int) (kind size : Int) (out : List Int) (v : Int) : List Int :=
  if (out.length : Int) = size then out else if domS hs kind v ∈ out.map (domS hs kind) then out else out ++ [v]
def placeL (hs : List Int) (kind size : Int) (l : List Int) : List Int := l.foldl (placeStep hs kind size) []
theorem place_done (hs : List Int) (kind size : Int) : ∀ (l out : List Int), (out.length : Int) = size → l.foldl (placeStep hs kind size) out = out
  | [], out, h => rfl
  | v :: l, out, h => by
    rw [List.foldl_cons, show placeStep hs kind size out v = out from by unfold placeStep; rw [if_pos h]]
    exact place_done hs kind size l out h
theorem place_len (hs : List Int) (kind size : Int) (l : List Int) : (placeL hs kind size l).length ≤ l.length := by
  suffices h : ∀ (l out : List Int), (l.foldl (placeStep hs kind size) out).length ≤ out.length + l.length by
    have := h l []; unfold placeL; simpa using this
  intro l
  induction l with
  | nil => intro out; simp
  | cons v l ih =>
    intro out
    rw [List.foldl_cons, List.length_cons]
    have h1 := ih (placeStep hs kind size out v)
    have h2 : (placeStep hs kind size out v).length ≤ out.length + 1 := by
      unfold placeStep
      split
      · omega
      · split
        · omega
        · simp
    omega
theorem place_snoc (hs : List Int) (kind size : Int) (l : List Int) (v : Int) : placeL hs kind size (l ++ [v]) = placeStep hs kind size (placeL hs kind size l) v := by unfold placeL; rw [List.foldl_append]; rfl
structure PlSt (w : World) (b0 : Nat) (N0 : Nat) (Ah : Option Addr) (hs : List Int) (ch : Nat) (size kind : Int) (out ds : List Int) (W : World) : Prop where
  h : Boxed W b0 22 (.slice Ah hs.length ch)
  s : Boxed W (b0 + 1) 3 (.int .i64 size)
  k : Boxed W (b0 + 2) 3 (.int .i64 kind)
  o : ∃ v, Boxed W (b0 + 3) 22 v ∧ Kd.R (Kd.int .i64) 3 W w.heap.size (fun k => N0 ≤ k) v out
  m : MB W (b0 + 4) ds
  below : Below w.heap.size w W
  ge : N0 ≤ W.heap.size
theorem PlSt.nc {w : World} {b0 N0 : Nat} {Ah : Option Addr} {hs : List Int} {ch : Nat} {size kind : Int} {out ds : List Int} {X Y : World} {row : Option Nat} (h : PlSt w b0 N0 Ah hs ch size kind out ds X) (hg : X.grownBy Y row) (hr : ∀ r, row = some r → w.heap.size ≤ r ∧ ∃ o : Obj, X.heap[r]? = some o ∧ o.isCells = false) : PlSt w b0 N0 Ah hs ch size kind out ds Y := by
  have hr' := fun r e => (hr r e).2
  obtain ⟨v, hb, hR⟩ := h.o
  refine ⟨boxed_nc h.h hg hr', boxed_nc h.s hg hr', boxed_nc h.k hg hr', ⟨v, boxed_nc hb hg hr', R_nc hR hg hr'⟩, ?_, pw_below_grown h.below row h.below.size hg (fun k e => (hr k e).1), Nat.le_trans h.ge hg.size⟩
  refine (hg.block _ h.m.lt (fun e => ?_)).trans h.m
  obtain ⟨o, ho, hoc⟩ := hr' _ e.symm
  rw [show X.heap[b0 + 4]? = _ from h.m] at ho; cases ho; cases hoc
theorem PlSt.step {w : World} {b0 N0 : Nat} {Ah : Option Addr} {hs : List Int} {ch : Nat} {size kind : Int} {out ds : List Int} {X Y : World} (h : PlSt w b0 N0 Ah hs ch size kind out ds X) (hb : Below X.heap.size X Y) : PlSt w b0 N0 Ah hs ch size kind out ds Y := by
  obtain ⟨v, hbx, hR⟩ := h.o
  exact ⟨boxed_step h.h hb, boxed_step h.s hb, boxed_step h.k hb, ⟨v, boxed_step hbx hb, Kd.R_below hR hb⟩, h.m.below hb h.m.lt, below_step h.below hb, Nat.le_trans h.ge hb.size⟩
theorem PlSt.met {w : World} {b0 N0 : Nat} {Ah : Option Addr} {hs : List Int} {ch : Nat} {size kind : Int} {out ds : List Int} {X : World} (h : PlSt w b0 N0 Ah hs ch size kind out ds X) (hb0 : b0 = w.heap.size) (hN : N0 = b0 + 8) (hl : ds.length < 64) (d : Int) : PlSt w b0 N0 Ah hs ch size kind out (ds ++ [d]) (metW X (b0 + 4) ds d) := by
  have hg := grown_metW X (b0 + 4) ds d
  obtain ⟨v, hbx, hR⟩ := h.o
  exact ⟨h.h.kept hg (fun e => by injection e; omega), h.s.kept hg (fun e => by injection e; omega), h.k.kept hg (fun e => by injection e; omega), ⟨v, hbx.kept hg (fun e => by injection e; omega), Kd.R_grown hR hg (fun k hk e => by injection e with e; have hk' : N0 ≤ k := hk; omega)⟩, h.m.put d hl, pw_below_grown h.below _ h.below.size hg (fun k e => by cases e; omega), Nat.le_trans h.ge hg.size⟩
theorem PlSt.app {w : World} {b0 N0 : Nat} {Ah : Option Addr} {hs : List Int} {ch : Nat} {size kind : Int} {out out' ds : List Int} {X Y : World} {row : Option Nat} {v : Value} (h : PlSt w b0 N0 Ah hs ch size kind out ds X) (hb0 : b0 = w.heap.size) (hN : N0 = b0 + 8) (hg : X.grownBy Y row) (hr : ∀ k, row = some k → N0 ≤ k)
    (hR : Kd.R (Kd.int .i64) 3 Y w.heap.size (fun k => N0 ≤ k) v out') : PlSt w b0 N0 Ah hs ch size kind out' ds (Y.setCell ⟨b0 + 3, 0, none⟩ v) := by
  have hg2 := grownBy_setCellK Y (b0 + 3) 0 v
  have hne : ∀ j, j < 8 → some (b0 + j) ≠ row := fun j hj e => by have := hr _ e.symm; omega
  obtain ⟨vo, hbx, _⟩ := h.o
  have hbY := pw_below_grown h.below row h.below.size hg (fun k e => by have := hr k e; omega)
  exact ⟨(h.h.kept hg (hne 0 (by omega))).kept hg2 (fun e => by injection e; omega), (h.s.kept hg (hne 1 (by omega))).kept hg2 (fun e => by injection e; omega), (h.k.kept hg (hne 2 (by omega))).kept hg2 (fun e => by injection e; omega),
    ⟨v, (hbx.kept hg (hne 3 (by omega))).set _, Kd.R_grown hR hg2 (fun k hk e => by injection e with e; have hk' : N0 ≤ k := hk; omega)⟩,
    (hg2.block _ (by have := (hg.block _ h.m.lt (hne 4 (by omega))).trans h.m; exact (Array.getElem?_eq_some_iff.1 this).1) (fun e => by injection e; omega)).trans ((hg.block _ h.m.lt (hne 4 (by omega))).trans h.m),
    pw_below_grown hbY _ hbY.size hg2 (fun k e => by cases e; omega), Nat.le_trans h.ge (Nat.le_trans hg.size hg2.size)⟩
theorem dom_eq (hs : List Int) (kind v : Int) (h0 : 0 ≤ v) (h1 : v < hs.length) : rule_domain.f hs v kind = some (domS hs kind v) := by
  unfold rule_domain.f domS
  by_cases h : kind = 2
  · rw [if_pos h, if_pos h, if_pos h0, if_pos h1]
  · rw [if_neg h, if_neg h]
theorem R_cellsI {α : Type} {d : Kd α} {e : Nat} {w : World} {base : Nat} {ok : Nat → Prop} {v : Value} {xs : List α} (h : d.R e w base ok v xs) (k : Nat) (hk : v.ownBlock = some k) : ∃ cells, w.heap[k]? = some (.cells cells e (0, 0)) := by
  obtain ⟨_, inner, ho, _⟩ := h
  exact own_typed ho k hk
def placeS (hs : List Int) (its : List S31) (nd : Int → List S31) (x size kind : Int) : List Int := if size < 1 then [] else placeL hs kind size (triesL its nd x)
set_option maxRecDepth 100000 in
set_option maxHeartbeats 8000000 in
theorem place_in (hs ws : List Int) (x size kind : Int) (its : List S31) (nd : Int → List S31) (K : Nat) (hits : rule_Items.f K hs ws = some its) (hnd : ∀ h, rule_nodes.f K hs ws h = some (nd h))
    (hval : ∀ v ∈ triesL its nd x, 0 ≤ v ∧ v < hs.length) (Ah Aw : Option Addr) (ch cw : Nat) (w : World) (hCh : Kd.C (Kd.int .i64) w Ah hs.length hs) (hch : hs.length ≤ ch) (hCw : Kd.C (Kd.int .i64) w Aw ws.length ws) (hcw : ws.length ≤ cw) :
    CallsIn Fence.wide 9 Try.prog 15 #[.slice Ah hs.length ch, .slice Aw ws.length cw, .int .u32 x, .int .i64 size, .int .i64 kind] w (fun e w' => ∃ v, e = .returned v ∧ Kd.R (Kd.int .i64) 3 w' w.heap.size (fun _ => True) v (placeS hs its nd x size kind) ∧ Below w.heap.size w w') := by
  have hu := Try.underlying47
  have hlen := hCh.2.1
  refine callsIn_of_wp_marks Try.func15 rfl trivial ?_ rfl
  simp only [Try.ntmps15, List.size_toArray, List.length_cons, List.length_nil, Nat.reduceAdd, Nat.reduceSub, Array.replicate_succ, Array.replicate_zero, List.push_toArray, List.append_toArray, List.nil_append, List.cons_append]
  by_cases hs1 : size < 1
  · have hd : decide (size < 1) = true := decide_eq_true hs1
    have HPS := Aside0.mk (show placeS hs its nd x size kind = [] from by unfold placeS; rw [if_pos hs1])
    clear hs1
    gi_wp2
    refine wpIn_scope_wide ?_
    gi_wp2
    rw [Exit.noGoto_ret]
    refine ⟨.slice none 0 0, by simp [results, Try.results15, go_sem], _, rfl, ?_, below_alloc (below_alloc (below_alloc (below_alloc (Below.refl _ _) _) _) _) _⟩
    rw [HPS.out]
    exact Kd.R_nil _ _ _ _ _
  · have hd : decide (size < 1) = false := decide_eq_false hs1
    have HPS := Aside0.mk (show placeS hs its nd x size kind = placeL hs kind size (triesL its nd x) from by unfold placeS; rw [if_neg hs1])
    have HS1 := Aside0.mk hs1
    clear hs1
    gi_wp2
    refine wpIn_scope_wide ?_
    gi_wp2
    refine wpIn_label ?_
    gi_wp2_with (refine ⟨trivial, ?_⟩; gi_at_call 31; refine (tries_in x Ah Aw hs.length ws.length ch cw _).mono ?_; rintro e w' ⟨rfl, rfl⟩)
    obtain ⟨b0, hb0⟩ : ∃ b0, b0 = w.heap.size := ⟨_, rfl⟩
    obtain ⟨wl, hwl⟩ : ∃ wl, wl = ((((((((w.alloc (.cells #[.slice Ah hs.length ch] 22)).alloc (.cells #[.int .i64 size] 3)).alloc (.cells #[.int .i64 kind] 3)).alloc (.cells #[.slice none 0 0] 22)).alloc (.cells (metL []).toArray 47)).alloc (.cells #[.slice Ah hs.length ch] 22)).alloc (.cells #[.slice Aw ws.length cw] 23)).alloc (.cells #[.int .u32 x] 24)) := ⟨_, rfl⟩
    rw [show (Try.zeroCells47) = (metL []).toArray from by kernel_rfl, ← hwl]
    rw [show w.heap.size + 1 + 1 + 1 + 1 + 1 + 2 = b0 + 7 from by omega, show w.heap.size + 1 + 1 + 1 + 1 + 1 + 1 = b0 + 6 from by omega, show w.heap.size + 1 + 1 + 1 + 1 + 1 = b0 + 5 from by omega, show w.heap.size + 1 + 1 + 1 + 1 = b0 + 4 from by omega, show w.heap.size + 1 + 1 + 1 = b0 + 3 from by omega, show w.heap.size + 1 + 1 = b0 + 2 from by omega, ← hb0]
    have hsz : wl.heap.size = b0 + 8 := by rw [hwl, hb0]; simp
    have hbw : Below w.heap.size w wl := by rw [hwl]; exact below_alloc (below_alloc (below_alloc (below_alloc (below_alloc (below_alloc (below_alloc (below_alloc (Below.refl _ _) _) _) _) _) _) _) _) _
    have heap_at : ∀ k : Nat, k < 8 → wl.heap[w.heap.size + k]? = [Obj.cells #[.slice Ah hs.length ch] 22, Obj.cells #[.int .i64 size] 3, Obj.cells #[.int .i64 kind] 3, Obj.cells #[.slice none 0 0] 22, Obj.cells (metL []).toArray 47, Obj.cells #[.slice Ah hs.length ch] 22, Obj.cells #[.slice Aw ws.length cw] 23, Obj.cells #[.int .u32 x] 24][k]? := by
      intro k hk
      rw [hwl]
      simp only [heap_alloc_if, World.size_alloc]
      match k, hk with
      | 0, _ => repeat (first | rw [if_pos (by omega)]; rfl | rw [if_neg (by omega)])
      | 1, _ => repeat (first | rw [if_pos (by omega)]; rfl | rw [if_neg (by omega)])
      | 2, _ => repeat (first | rw [if_pos (by omega)]; rfl | rw [if_neg (by omega)])
      | 3, _ => repeat (first | rw [if_pos (by omega)]; rfl | rw [if_neg (by omega)])
      | 4, _ => repeat (first | rw [if_pos (by omega)]; rfl | rw [if_neg (by omega)])
      | 5, _ => repeat (first | rw [if_pos (by omega)]; rfl | rw [if_neg (by omega)])
      | 6, _ => repeat (first | rw [if_pos (by omega)]; rfl | rw [if_neg (by omega)])
      | 7, _ => repeat (first | rw [if_pos (by omega)]; rfl | rw [if_neg (by omega)])
    have S0 : PlSt w b0 wl.heap.size Ah hs ch size kind [] [] wl := ⟨by rw [hb0]; exact heap_at 0 (by omega), by rw [hb0]; exact heap_at 1 (by omega), by rw [hb0]; exact heap_at 2 (by omega), ⟨_, by rw [hb0]; exact heap_at 3 (by omega), Kd.R_nil _ _ _ _ _⟩, by rw [hb0]; exact heap_at 4 (by omega), hbw, Nat.le_refl _⟩
    have hc5 : wl.cell? ⟨b0 + 5, 0, none⟩ = some (.slice Ah hs.length ch) := by have := heap_at 5 (by omega); rw [← hb0] at this; simp [World.cell?, this]
    have hc6 : wl.cell? ⟨b0 + 6, 0, none⟩ = some (.slice Aw ws.length cw) := by have := heap_at 6 (by omega); rw [← hb0] at this; simp [World.cell?, this]
    have hc7 : wl.cell? ⟨b0 + 7, 0, none⟩ = some (.int .u32 x) := by have := heap_at 7 (by omega); rw [← hb0] at this; simp [World.cell?, this]
    have hAh : ∀ ad, Ah = some ad → 0 < hs.length → ad.block < wl.heap.size ∧ ¬ (ad.block = b0 + 3 ∨ ad.block = b0 + 4) := fun ad e hn => by have := C_block (by decide) hCh ad e hn; omega
    have hAw : ∀ ad, Aw = some ad → 0 < ws.length → ad.block < wl.heap.size ∧ ¬ (ad.block = b0 + 3 ∨ ad.block = b0 + 4) := fun ad e hn => by have := C_block (by decide) hCw ad e hn; omega
    have HSEQ := tries_stops hs ws x its nd K hits hnd Ah Aw ch cw (b0 + 5) (b0 + 6) (b0 + 7) (fun k => k = b0 + 3 ∨ k = b0 + 4) wl (by omega) (by omega) (by omega) (by omega) (by omega) (by omega) hAh hAw (Kd.C_below hCh hbw) hch (Kd.C_below hCw hbw) hcw hc5 hc6 hc7
    have HIo : OwnFrom wl.heap.size (fun (pre : List (TrE its nd x)) W => PlSt w b0 wl.heap.size Ah hs ch size kind (placeL hs kind size (pre.map Subtype.val)) ((placeL hs kind size (pre.map Subtype.val)).map (domS hs kind)) W ∧ ((placeL hs kind size (pre.map Subtype.val)).length : Int) ≠ size) := fun s X Y row hq hg hr => ⟨hq.1.nc hg (fun r e => ⟨by have := (hr r e).1; omega, (hr r e).2⟩), hq.2⟩
    have HIx : ∀ c : Code, OwnFrom wl.heap.size (fun (pre : List (TrE its nd x)) W => c = .exit 0 ∧ PlSt w b0 wl.heap.size Ah hs ch size kind (placeL hs kind size (pre.map Subtype.val)) ((placeL hs kind size (pre.map Subtype.val)).map (domS hs kind)) W ∧ ((placeL hs kind size (pre.map Subtype.val)).length : Int) = size) := fun c s X Y row hq hg hr => ⟨hq.1, hq.2.1.nc hg (fun r e => ⟨by have := (hr r e).1; omega, (hr r e).2⟩), hq.2.2⟩
    have HLEN := Aside0.mk (place_len hs kind size)
    have HCH := Aside0.mk hCh
    have HVAL := Aside0.mk hval
    have HB0 := Aside0.mk hb0
    have HSZ := Aside0.mk hsz
    refine rf_G (F := Fence.wide) (P := Try.prog) (encs := fun v : TrE its nd x => #[Value.int .i64 v.1]) rfl (by decide) (gf := 41) (lb := #[.pointer (some ⟨b0 + 5, 0, none⟩), .pointer (some ⟨b0 + 6, 0, none⟩), .pointer (some ⟨b0 + 7, 0, none⟩)]) rfl trivial (Go.Proofs.enters_of Try.func41 (by kernel_rfl) rfl) HSEQ (Below.refl _ _) (fun _ => rfl)
      _ _ HIo HIx ⟨S0, by have := HS1.out; show ((0 : Nat) : Int) ≠ size; omega⟩ ?_
    clear HSEQ HIo HIx S0 hc5 hc6 hc7 hAh hAw heap_at hwl hbw hCh hval hb0 hits hnd
    apply Exists.intro
    refine ⟨?assign, ?body, ?done, ?stop⟩
    case assign =>
      intro l x W K hK
      gi_wp2
      exact hK
    case body =>
      rintro li pre ⟨v, hv⟩ W ⟨hI, hne⟩ hlt
      obtain ⟨hv0, hv1⟩ := HVAL.out v hv
      have HOL := Aside0.mk (HLEN.out (pre.map Subtype.val))
      have HSN := Aside0.mk (show placeL hs kind size ((pre ++ [(⟨v, hv⟩ : TrE its nd x)]).map Subtype.val) = placeStep hs kind size (placeL hs kind size (pre.map Subtype.val)) v from by rw [List.map_append]; exact place_snoc _ _ _ _ _)
      generalize placeL hs kind size (pre.map Subtype.val) = out at *
      have hol : out.length < 64 := by have := HOL.out; rw [List.length_map] at this; omega
      have hdl : (out.map (domS hs kind)).length < 64 := by rw [List.length_map]; exact hol
      have HDOM := Aside0.mk (dom_eq hs kind v hv0 hv1)
      have HSTEP := Aside0.mk (show placeStep hs kind size out v = if (out.length : Int) = size then out else if domS hs kind v ∈ out.map (domS hs kind) then out else out ++ [v] from rfl)
      generalize hd : domS hs kind v = d at *
      have HDD := Aside0.mk hd
      clear hd hv0 hv1 HVAL HLEN HOL
      have HI := Aside0.mk hI
      have hxh := hI.h.cell
      have hxk := hI.k.cell
      clear hI
      have hq : ((out.length : Int) == size) = false := by rw [beq_eq_false_iff_ne]; exact hne
      by_cases hmem : d ∈ out.map (domS hs kind)
      · have HMEM := Aside0.mk hmem
        have HST := Aside0.mk (show placeStep hs kind size out v = out from by rw [HSTEP.out, if_neg hne, if_pos hmem])
        clear hmem HSTEP
        gi_wp2_with (first
          | (refine ⟨trivial, ?_⟩; gi_at_call 33; refine (callsIn_wide.2 (rule_domain.calls Ah ch hs v kind d _ (Kd.C_below HCH.out HI.out.below) hch HDOM.out)).mono ?_; rintro e w2 ⟨rfl, hD⟩; have HI2 := Aside0.mk (HI.out.step hD.below); have HB2 := Aside0.mk hD.below; clear hD)
          | (refine ⟨trivial, ?_⟩; gi_at_call 32; refine (callsIn_wide.2 (met_new_old (b0 + 4) _ d _ HI2.out.m (Nat.le_of_lt hdl) HMEM.out)).mono ?_; rintro e w3 ⟨rfl, hb⟩; have HI3 := Aside0.mk (HI2.out.step hb); have HB3 := Aside0.mk (below_step HB2.out hb); clear hb; obtain ⟨vo, hbx, hR⟩ := HI3.out.o; obtain ⟨Ao, co, rfl⟩ := Kd.R_slice hR; have hxo := hbx.cell; have hxs := HI3.out.s.cell; clear hbx hR))
        refine ⟨keepsFrom_below _ HB3.out, KeepX.below HB3.out, ?_, ?_⟩
        · show PlSt w b0 wl.heap.size Ah hs ch size kind (placeL hs kind size ((pre ++ [(⟨v, hv⟩ : TrE its nd x)]).map Subtype.val)) ((placeL hs kind size ((pre ++ [(⟨v, hv⟩ : TrE its nd x)]).map Subtype.val)).map (domS hs kind)) _
          rw [HSN.out, HST.out]
          exact HI3.out
        · show ((placeL hs kind size ((pre ++ [(⟨v, hv⟩ : TrE its nd x)]).map Subtype.val)).length : Int) ≠ size
          rw [HSN.out, HST.out]
          exact hne
      · have HMEM := Aside0.mk hmem
        have HST := Aside0.mk (show placeStep hs kind size out v = out ++ [v] from by rw [HSTEP.out, if_neg hne, if_neg hmem])
        have HDS := Aside0.mk (show (out ++ [v]).map (domS hs kind) = out.map (domS hs kind) ++ [d] from by rw [List.map_append, ← HDD.out]; rfl)
        clear hmem HSTEP
        have hol8 : out.length ≤ 63 := by omega
        by_cases hfin : (out.length : Int) + 1 = size
        · have hqf : ((out.length : Int) + 1 == size) = true := by rw [beq_iff_eq]; exact hfin
          gi_wp2_with (first
            | (refine ⟨trivial, ?_⟩; gi_at_call 33; refine (callsIn_wide.2 (rule_domain.calls Ah ch hs v kind d _ (Kd.C_below HCH.out HI.out.below) hch HDOM.out)).mono ?_; rintro e w2 ⟨rfl, hD⟩; have HI2 := Aside0.mk (HI.out.step hD.below); have HB2 := Aside0.mk hD.below; clear hD)
            | (refine ⟨trivial, ?_⟩; gi_at_call 32; refine (callsIn_wide.2 (met_new_new (b0 + 4) _ d _ HI2.out.m (Nat.le_of_lt hdl) hdl HMEM.out)).mono ?_; rintro e _ ⟨rfl, w3, hb, rfl⟩; have HI3 := Aside0.mk ((HI2.out.step hb).met HB0.out HSZ.out hdl d); have HKF := Aside0.mk (((keepsFrom_below wl.heap.size (below_step HB2.out hb)).trans ((KeepsOthers.setCell w3 ⟨b0 + 4, (out.map (domS hs kind)).length, none⟩ (.int .i64 d)).from _)).trans ((KeepsOthers.setCell _ ⟨b0 + 4, 64, none⟩ (.int .i64 (((out.map (domS hs kind)).length : Int) + 1))).from _)); have HKX := Aside0.mk ((KeepX.below (N0 := wl.heap.size) (X := fun k => k = b0 + 3 ∨ k = b0 + 4) (Ts := fun T => T = 31) (below_step HB2.out hb)).trans (KeepX.grown (grown_metW w3 (b0 + 4) (out.map (domS hs kind)) d) (fun k cs T fr e _ => by cases e; exact ⟨fun _ => .inr rfl, fun h => by have := HSZ.out; omega⟩))); replace HKF := Aside0.mk (show KeepsFrom wl.heap.size W (metW w3 (b0 + 4) (out.map (domS hs kind)) d) from HKF.out); clear hb; generalize metW w3 (b0 + 4) (out.map (domS hs kind)) d = w5 at *; obtain ⟨vo, hbx, hR⟩ := HI3.out.o; obtain ⟨Ao, co, rfl⟩ := Kd.R_slice hR; have hxo := hbx.cell; have HR4 := Aside0.mk (Kd.R_alloc hR (.cells #[.int .i64 v] 3)); have HONE := Aside0.mk (Kd.R_reads' (R_one (d := Kd.int .i64) (e := 3) (w := w5) (base := w.heap.size) (ok := fun _ => True) (x := v) (cs := #[.int .i64 v]) (Kd.int_mkM _ _ _ v) HI3.out.below.size trivial)).2.2; have HI4 := Aside0.mk (HI3.out.step (below_alloc (Below.refl _ w5) (.cells #[.int .i64 v] 3))); clear hbx hR)
            | (gi_at_builtin; refine R_append_rows_in (Kd.int .i64) (w0 := w) w.heap.size rfl (.tmp 26) (.tmp 28) 22 3 (.int .i64 0) 8 rfl Try.underlying22 (by kernel_rfl) rfl (by decide) (by omega) _ out [v] _ _ _ _ (fun _ => False) rfl rfl HR4.out HONE.out (fun _ _ h => h) (fun _ h => h.elim) (fun j hj => by show wl.heap.size ≤ j; have := HI4.out.ge; omega) (below_alloc HI3.out.below _) HI4.out.below.size (by show (out.length + 1) * 8 ≤ _; omega) ?_; intro v6 w6 ho hb hg hat; obtain ⟨Av6, cv6, hv6⟩ := Kd.R_slice ho; rw [show (out ++ [v]).length = out.length + 1 from by simp] at hv6; subst hv6; have HF := Aside0.mk (HI4.out.app HB0.out HSZ.out hg (fun k hk => HR4.out.1 k hk) ho); have HG := Aside0.mk hg; obtain ⟨v4, hb4, _⟩ := HI4.out.o; have hb6 := hb4.kept hg (fun e => by have h1 := HR4.out.1 _ e.symm; have h2 : wl.heap.size ≤ b0 + 3 := h1; have := HSZ.out; omega); have hx6 := hb6.cell; have hf6 := hb6.frozen; have hs6 := (HI4.out.s.kept hg (fun e => by have h1 := HR4.out.1 _ e.symm; have h2 : wl.heap.size ≤ b0 + 1 := h1; have := HSZ.out; omega)).cell; clear ho hb hg hat hb4 hb6))
          have hKF := ((HKF.out.trans ((KeepsOthers.alloc w5 (.cells #[.int .i64 v] 3)).from _)).trans ((KeepsOthers.of_grownBy HG.out (fun j o hj ho => by obtain ⟨cells, hc⟩ := R_cellsI HR4.out j hj; rw [hc] at ho; cases ho; rfl)).from wl.heap.size)).trans ((KeepsOthers.setCell w6 ⟨b0 + 3, 0, none⟩ (.slice Av6 (out.length + 1) cv6)).from _)
          refine ⟨hKF, rfl, ?_, ?_⟩
          · show PlSt w b0 wl.heap.size Ah hs ch size kind (placeL hs kind size ((pre ++ [(⟨v, hv⟩ : TrE its nd x)]).map Subtype.val)) ((placeL hs kind size ((pre ++ [(⟨v, hv⟩ : TrE its nd x)]).map Subtype.val)).map (domS hs kind)) _
            rw [HSN.out, HST.out, HDS.out]
            exact HF.out
          · show ((placeL hs kind size ((pre ++ [(⟨v, hv⟩ : TrE its nd x)]).map Subtype.val)).length : Int) = size
            rw [HSN.out, HST.out, List.length_append]
            exact hfin
        · have hqf : ((out.length : Int) + 1 == size) = false := by rw [beq_eq_false_iff_ne]; exact hfin
          gi_wp2_with (first
            | (refine ⟨trivial, ?_⟩; gi_at_call 33; refine (callsIn_wide.2 (rule_domain.calls Ah ch hs v kind d _ (Kd.C_below HCH.out HI.out.below) hch HDOM.out)).mono ?_; rintro e w2 ⟨rfl, hD⟩; have HI2 := Aside0.mk (HI.out.step hD.below); have HB2 := Aside0.mk hD.below; clear hD)
            | (refine ⟨trivial, ?_⟩; gi_at_call 32; refine (callsIn_wide.2 (met_new_new (b0 + 4) _ d _ HI2.out.m (Nat.le_of_lt hdl) hdl HMEM.out)).mono ?_; rintro e _ ⟨rfl, w3, hb, rfl⟩; have HI3 := Aside0.mk ((HI2.out.step hb).met HB0.out HSZ.out hdl d); have HKF := Aside0.mk (((keepsFrom_below wl.heap.size (below_step HB2.out hb)).trans ((KeepsOthers.setCell w3 ⟨b0 + 4, (out.map (domS hs kind)).length, none⟩ (.int .i64 d)).from _)).trans ((KeepsOthers.setCell _ ⟨b0 + 4, 64, none⟩ (.int .i64 (((out.map (domS hs kind)).length : Int) + 1))).from _)); have HKX := Aside0.mk ((KeepX.below (N0 := wl.heap.size) (X := fun k => k = b0 + 3 ∨ k = b0 + 4) (Ts := fun T => T = 31) (below_step HB2.out hb)).trans (KeepX.grown (grown_metW w3 (b0 + 4) (out.map (domS hs kind)) d) (fun k cs T fr e _ => by cases e; exact ⟨fun _ => .inr rfl, fun h => by have := HSZ.out; omega⟩))); replace HKF := Aside0.mk (show KeepsFrom wl.heap.size W (metW w3 (b0 + 4) (out.map (domS hs kind)) d) from HKF.out); clear hb; generalize metW w3 (b0 + 4) (out.map (domS hs kind)) d = w5 at *; obtain ⟨vo, hbx, hR⟩ := HI3.out.o; obtain ⟨Ao, co, rfl⟩ := Kd.R_slice hR; have hxo := hbx.cell; have HR4 := Aside0.mk (Kd.R_alloc hR (.cells #[.int .i64 v] 3)); have HONE := Aside0.mk (Kd.R_reads' (R_one (d := Kd.int .i64) (e := 3) (w := w5) (base := w.heap.size) (ok := fun _ => True) (x := v) (cs := #[.int .i64 v]) (Kd.int_mkM _ _ _ v) HI3.out.below.size trivial)).2.2; have HI4 := Aside0.mk (HI3.out.step (below_alloc (Below.refl _ w5) (.cells #[.int .i64 v] 3))); clear hbx hR)
            | (gi_at_builtin; refine R_append_rows_in (Kd.int .i64) (w0 := w) w.heap.size rfl (.tmp 26) (.tmp 28) 22 3 (.int .i64 0) 8 rfl Try.underlying22 (by kernel_rfl) rfl (by decide) (by omega) _ out [v] _ _ _ _ (fun _ => False) rfl rfl HR4.out HONE.out (fun _ _ h => h) (fun _ h => h.elim) (fun j hj => by show wl.heap.size ≤ j; have := HI4.out.ge; omega) (below_alloc HI3.out.below _) HI4.out.below.size (by show (out.length + 1) * 8 ≤ _; omega) ?_; intro v6 w6 ho hb hg hat; obtain ⟨Av6, cv6, hv6⟩ := Kd.R_slice ho; rw [show (out ++ [v]).length = out.length + 1 from by simp] at hv6; subst hv6; have HF := Aside0.mk (HI4.out.app HB0.out HSZ.out hg (fun k hk => HR4.out.1 k hk) ho); have HG := Aside0.mk hg; obtain ⟨v4, hb4, _⟩ := HI4.out.o; have hb6 := hb4.kept hg (fun e => by have h1 := HR4.out.1 _ e.symm; have h2 : wl.heap.size ≤ b0 + 3 := h1; have := HSZ.out; omega); have hx6 := hb6.cell; have hf6 := hb6.frozen; have hs6 := (HI4.out.s.kept hg (fun e => by have h1 := HR4.out.1 _ e.symm; have h2 : wl.heap.size ≤ b0 + 1 := h1; have := HSZ.out; omega)).cell; clear ho hb hg hat hb4 hb6))
          have hKF := ((HKF.out.trans ((KeepsOthers.alloc w5 (.cells #[.int .i64 v] 3)).from _)).trans ((KeepsOthers.of_grownBy HG.out (fun j o hj ho => by obtain ⟨cells, hc⟩ := R_cellsI HR4.out j hj; rw [hc] at ho; cases ho; rfl)).from wl.heap.size)).trans ((KeepsOthers.setCell w6 ⟨b0 + 3, 0, none⟩ (.slice Av6 (out.length + 1) cv6)).from _)
          have hKX := ((HKX.out.trans (KeepX.below (below_alloc (Below.refl _ w5) (.cells #[.int .i64 v] 3)))).trans (KeepX.grown HG.out (fun k cs T fr hk hc => by
            obtain ⟨cells, hc'⟩ := R_cellsI HR4.out k hk
            rw [hc'] at hc
            cases hc
            exact ⟨fun h => by have h1 := HR4.out.1 k hk; have h2 : wl.heap.size ≤ k := h1; omega, fun _ e => by cases e⟩))).trans (KeepX.grown (grownBy_setCellK w6 (b0 + 3) 0 (.slice Av6 (out.length + 1) cv6)) (fun k cs T fr e _ => by cases e; exact ⟨fun _ => .inl rfl, fun h => by have := HSZ.out; omega⟩))
          refine ⟨hKF, hKX, ?_, ?_⟩
          · show PlSt w b0 wl.heap.size Ah hs ch size kind (placeL hs kind size ((pre ++ [(⟨v, hv⟩ : TrE its nd x)]).map Subtype.val)) ((placeL hs kind size ((pre ++ [(⟨v, hv⟩ : TrE its nd x)]).map Subtype.val)).map (domS hs kind)) _
            rw [HSN.out, HST.out, HDS.out]
            exact HF.out
          · show ((placeL hs kind size ((pre ++ [(⟨v, hv⟩ : TrE its nd x)]).map Subtype.val)).length : Int) ≠ size
            rw [HSN.out, HST.out, List.length_append]
            exact hfin
    case done =>
      rintro D xs W hD rfl ⟨hI, hne⟩ hK
      have HEQ := Aside0.mk (show placeL hs kind size (triesL its nd x) = placeL hs kind size ((trA its nd x).map Subtype.val) from by simp [trA])
      clear hne
      generalize placeL hs kind size ((trA its nd x).map Subtype.val) = P at *
      obtain ⟨u, hbx, hR⟩ := hI.o
      obtain ⟨Au, cu, rfl⟩ := Kd.R_slice hR
      have hx := hbx.cell
      have HR := Aside0.mk hR
      have HBL := Aside0.mk hI.below
      have HGE := Aside0.mk hI.ge
      clear hI hbx hR
      gi_wp2_with fail
      rw [Exit.noGoto_ret]
      refine ⟨by simp, .inl ⟨_, _, rfl, run_takeDeferred hK, ?_⟩⟩
      have hg := grownBy_putObj' W D (.deferred none)
      refine ⟨.slice Au P.length cu, by simp [results, Try.results15, go_sem], _, rfl, Kd.R_mono (R_nc (by rw [HPS.out, HEQ.out]; exact HR.out) hg (fun r e => by cases e; exact ⟨_, hK, rfl⟩)) (fun _ _ => trivial), pw_below_grown HBL.out _ HBL.out.size hg (fun k hk => by cases hk; have := HSZ.out; have := HB0.out; omega)⟩
    case stop =>
      rintro D c pre W hD ⟨q, hq⟩ ⟨rfl, hI, heq⟩ hK
      have HEQ := Aside0.mk (show placeL hs kind size (triesL its nd x) = placeL hs kind size (pre.map Subtype.val) from by
        have e1 : triesL its nd x = pre.map Subtype.val ++ (triesL its nd x).drop q := by
          rw [hq, List.map_take]
          have : (trA its nd x).map Subtype.val = triesL its nd x := by simp [trA]
          rw [this, List.take_append_drop]
        have key : ∀ L : List Int, L = pre.map Subtype.val ++ (triesL its nd x).drop q → placeL hs kind size L = placeL hs kind size (pre.map Subtype.val) := fun L e => by
          unfold placeL at heq ⊢
          rw [e, List.foldl_append, place_done hs kind size _ _ heq]
        exact key _ e1)
      clear heq hq
      generalize placeL hs kind size (pre.map Subtype.val) = P at *
      obtain ⟨u, hbx, hR⟩ := hI.o
      obtain ⟨Au, cu, rfl⟩ := Kd.R_slice hR
      have hx := hbx.cell
      have HR := Aside0.mk hR
      have HBL := Aside0.mk hI.below
      have HGE := Aside0.mk hI.ge
      clear hI hbx hR
      gi_wp2_with fail
      rw [Exit.noGoto_ret]
      refine ⟨by simp, .inl ⟨_, _, rfl, run_takeDeferred hK, ?_⟩⟩
      have hg := grownBy_putObj' W D (.deferred none)
      refine ⟨.slice Au P.length cu, by simp [results, Try.results15, go_sem], _, rfl, Kd.R_mono (R_nc (by rw [HPS.out, HEQ.out]; exact HR.out) hg (fun r e => by cases e; exact ⟨_, hK, rfl⟩)) (fun _ _ => trivial), pw_below_grown HBL.out _ HBL.out.size hg (fun k hk => by cases hk; have := HSZ.out; have := HB0.out; omega)⟩
end Go.Proofs.Ytbaldkcnipmdjaa.P
namespace Go.Proofs.Ytbaldkcnipmdjaa.P
open Go.RowKit Go.Proofs.YtbaldkcnipmdjaaW.PrintWords Go.Proofs.YtbaldkcnipmdjaaW.PrintLast Go.Proofs.YtbaldkcnipmdjaaW.PrintMore Go.Proofs.YtbaldkcnipmdjaaW.HB
set_option linter.unusedVariables false
set_option linter.unusedSimpArgs false
def weightS (ws : List Int) (i : Int) : Int := if i ≥ (ws.length : Int) then 0 else mn (mx (rd ws i) 0) 1048576
theorem weight_eq (ws : List Int) (i : Int) (h : 0 ≤ i) : rule_weight.f ws i = some (weightS ws i) := by
  unfold rule_weight.f weightS
  by_cases h1 : i ≥ (ws.length : Int)
  · rw [if_pos h1, if_pos h1]
  · rw [if_neg h1, if_neg h1, if_pos h, if_pos (by omega)]
def nodesN (hs ws : List Int) (h : Int) : Nat → List S31
  | 0 => []
  | n + 1 => if rd hs n = h then nodesN hs ws h n ++ [⟨n, weightS ws n⟩] else nodesN hs ws h n
def nodesS (hs ws : List Int) (h : Int) : List S31 := nodesN hs ws h hs.length
theorem nodesN_len (hs ws : List Int) (h : Int) : ∀ n, (nodesN hs ws h n).length ≤ n
  | 0 => by simp [nodesN]
  | n + 1 => by
    have := nodesN_len hs ws h n
    unfold nodesN
    split
    · rw [List.length_append]; simp; omega
    · omega
theorem nodesN_mem (hs ws : List Int) (h : Int) : ∀ n, ∀ it ∈ nodesN hs ws h n, 0 ≤ it.f0 ∧ it.f0 < n ∧ it.f1 = weightS ws it.f0 ∧ rd hs it.f0 = h
  | 0, it, hi => by simp [nodesN] at hi
  | n + 1, it, hi => by
    unfold nodesN at hi
    split at hi
    · rename_i hr
      rcases List.mem_append.1 hi with hi | hi
      · have := nodesN_mem hs ws h n it hi; exact ⟨this.1, by omega, this.2.2⟩
      · simp at hi; subst hi; exact ⟨by show (0 : Int) ≤ (n : Int); omega, by show (n : Int) < _; omega, rfl, hr⟩
    · have := nodesN_mem hs ws h n it hi; exact ⟨this.1, by omega, this.2.2⟩
theorem nodes_l0 (hs ws : List Int) (h : Int) (hl : hs.length ≤ 1000) : ∀ (d k i : Nat), hs.length = i + d → d < k → rule_nodes.l0 k ws h (nodesN hs ws h i) hs hs.length i = some (nodesS hs ws h) := by
  intro d
  induction d with
  | zero =>
    intro k i hi hk
    obtain ⟨k, rfl⟩ : ∃ k', k = k' + 1 := ⟨k - 1, by omega⟩
    simp only [rule_nodes.l0]
    rw [if_neg (by omega)]
    unfold nodesS
    rw [show i = hs.length from by omega]
  | succ d ih =>
    intro k i hi hk
    obtain ⟨k, rfl⟩ : ∃ k', k = k' + 1 := ⟨k - 1, by omega⟩
    have hw : wrap64 ((i : Int) + 1) = ((i + 1 : Nat) : Int) := by unfold wrap64; omega
    have hn := nodesN_len hs ws h i
    have hrec := ih k (i + 1) (by omega) (by omega)
    have hdef : nodesN hs ws h (i + 1) = if rd hs i = h then nodesN hs ws h i ++ [⟨i, weightS ws i⟩] else nodesN hs ws h i := rfl
    simp only [rule_nodes.l0]
    rw [if_pos (by omega), if_pos (by omega), if_pos (by omega), hw]
    by_cases he : rd hs (i : Int) = h
    · rw [if_pos he] at hdef
      rw [if_pos he, weight_eq ws i (by omega), Option.bind_some, if_pos (by omega), ← hdef, hrec]
    · rw [if_neg he] at hdef
      rw [if_neg he, ← hdef, hrec]
theorem nodes_eq (hs ws : List Int) (h : Int) (hl : hs.length ≤ 1000) (K : Nat) (hK : 2000 ≤ K) : rule_nodes.f K hs ws h = some (nodesS hs ws h) := by
  unfold rule_nodes.f
  exact nodes_l0 hs ws h hl hs.length K 0 (by omega) (by omega)
def sumN (l : List S31) : Int := l.foldl (fun s it => mn (wrap64 (s + it.f1)) 1048576) 0
def itemsS (hs ws : List Int) : List S31 := (hostsL hs).map (fun h => ⟨h, sumN (nodesS hs ws h)⟩)
theorem hostsL_len (l : List Int) : (hostsL l).length ≤ l.length := by
  unfold hostsL
  have := compact_le (l.mergeSort fun x y => decide (x ≤ y))
  rw [List.length_mergeSort] at this
  exact this
theorem rd_IT (l : List S31) (i : Nat) (h : i < l.length) : rd_T31 l (i : Int) = l[i] := by
  simp [rd_T31, List.getD_eq_getElem?_getD, List.getElem?_eq_getElem h]
theorem rd_I (l : List Int) (i : Nat) (h : i < l.length) : rd l (i : Int) = l[i] := by
  simp [rd, List.getD_eq_getElem?_getD, List.getElem?_eq_getElem h]
theorem items_l1 (hs ws : List Int) (acc : List S31) (h : Int) (hh : List Int) (n i : Int) (nl : List S31) (hn : nl.length ≤ 1000) (ha : acc.length ≤ 1000) : ∀ (d k j : Nat) (s : Int), nl.length = j + d → d < k →
    rule_Items.l1 k hs ws acc h s hh n i nl nl.length j = rule_Items.l0 (k - d - 1) hs ws (acc ++ [⟨h, (nl.drop j).foldl (fun s it => mn (wrap64 (s + it.f1)) 1048576) s⟩]) hh n (wrap64 (i + 1)) := by
  intro d
  induction d with
  | zero =>
    intro k j s hj hk
    obtain ⟨k, rfl⟩ : ∃ k', k = k' + 1 := ⟨k - 1, by omega⟩
    simp only [rule_Items.l1]
    rw [if_neg (by omega), if_pos (by omega), List.drop_eq_nil_of_le (by omega)]
    rfl
  | succ d ih =>
    intro k j s hj hk
    obtain ⟨k, rfl⟩ : ∃ k', k = k' + 1 := ⟨k - 1, by omega⟩
    have hw : wrap64 ((j : Int) + 1) = ((j + 1 : Nat) : Int) := by unfold wrap64; omega
    simp only [rule_Items.l1]
    rw [if_pos (by omega), if_pos (by omega), if_pos (by omega), hw, rd_IT nl j (by omega), ih k (j + 1) _ (by omega) (by omega), List.drop_eq_getElem_cons (show j < nl.length by omega), List.foldl_cons]
    congr 1
    omega
theorem items_l0 (hs ws : List Int) (hl : hs.length ≤ 1000) (hh : List Int) (hhl : hh.length ≤ 1000) : ∀ (d k i : Nat) (acc : List S31), hh.length = i + d → acc.length ≤ i → d * 1010 + 3000 < k →
    rule_Items.l0 k hs ws acc hh hh.length i = some (acc ++ (hh.drop i).map (fun h => ⟨h, sumN (nodesS hs ws h)⟩)) := by
  intro d
  induction d with
  | zero =>
    intro k i acc hi ha hk
    obtain ⟨k, rfl⟩ : ∃ k', k = k' + 1 := ⟨k - 1, by omega⟩
    simp only [rule_Items.l0]
    rw [if_neg (by omega), List.drop_eq_nil_of_le (by omega)]
    simp
  | succ d ih =>
    intro k i acc hi ha hk
    obtain ⟨k, rfl⟩ : ∃ k', k = k' + 1 := ⟨k - 1, by omega⟩
    have hw : wrap64 ((i : Int) + 1) = ((i + 1 : Nat) : Int) := by unfold wrap64; omega
    have hnl := nodesN_len hs ws (rd hh i) hs.length
    have hnl2 : (nodesS hs ws (rd hh i)).length ≤ 1000 := by unfold nodesS; omega
    simp only [rule_Items.l0]
    rw [if_pos (by omega), if_pos (by omega), if_pos (by omega), nodes_eq hs ws _ hl k (by omega), Option.bind_some]
    have h1 := items_l1 hs ws acc (rd hh i) hh hh.length i (nodesS hs ws (rd hh i)) hnl2 (by omega) (nodesS hs ws (rd hh i)).length k 0 0 (by omega) (by omega)
    rw [show ((0 : Nat) : Int) = 0 from rfl] at h1
    have ha2 : ∀ z : S31, (acc ++ [z]).length ≤ i + 1 := fun z => by rw [List.length_append, List.length_singleton]; omega
    have hk2 : d * 1010 + 3000 < k - (nodesS hs ws (rd hh i)).length - 1 := by
      clear h1 ha2 hw ih hi ha
      rw [Nat.succ_mul] at hk
      generalize d * 1010 = M at *
      generalize (nodesS hs ws (rd hh i)).length = L at *
      omega
    refine (h1.trans ?_)
    rw [hw, ih _ (i + 1) _ (by omega) (ha2 _) hk2, List.drop_eq_getElem_cons (show i < hh.length by omega), List.map_cons, List.append_assoc, rd_I hh i (by omega)]
    rfl
theorem items_eq (hs ws : List Int) (hl : hs.length ≤ 1000) (K : Nat) (hK : 2000000 ≤ K) : rule_Items.f K hs ws = some (itemsS hs ws) := by
  unfold rule_Items.f rule_Hosts.f
  rw [if_pos (by omega), Option.bind_some]
  have h1 := hostsL_len hs
  have h2 : (hostsL hs).length * 1010 ≤ 1000 * 1010 := Nat.mul_le_mul_right _ (by omega)
  have := items_l0 hs ws hl (hostsL hs) (by omega) (hostsL hs).length K 0 [] (by omega) (by simp) (by omega)
  rw [List.nil_append, List.drop_zero] at this
  exact this
theorem tries_valid (hs ws : List Int) (x : Int) : ∀ v ∈ triesL (itemsS hs ws) (nodesS hs ws) x, 0 ≤ v ∧ v < hs.length := by
  have h1 : ∀ r v, tryN (itemsS hs ws) (nodesS hs ws) x r = some v → 0 ≤ v ∧ v < hs.length := by
    intro r v h
    unfold tryN at h
    split at h
    · rename_i hok
      have hlt := choose_lt _ x _ hok
      generalize (chooseS (nodesS hs ws _) x (r + 64)).1 = k at *
      obtain ⟨k, rfl⟩ : ∃ n : Nat, k = n := ⟨k.toNat, by omega⟩
      rw [rd_IT _ k (by omega)] at h
      obtain rfl := Option.some.inj h
      have hk : k < (nodesS hs ws (rd_T31 (itemsS hs ws) (chooseS (itemsS hs ws) x r).1).f0).length := by omega
      have := nodesN_mem hs ws _ hs.length _ (List.getElem_mem hk)
      exact ⟨this.1, this.2.1⟩
    · cases h
  have h2 : ∀ n, ∀ v ∈ trL (itemsS hs ws) (nodesS hs ws) x n, 0 ≤ v ∧ v < hs.length := by
    intro n
    induction n with
    | zero => intro v h; simp [trL] at h
    | succ n ih =>
      intro v h
      unfold trL at h
      split at h
      · rename_i u hu
        rcases List.mem_append.1 h with h | h
        · exact ih v h
        · simp at h; subst h; exact h1 _ _ hu
      · exact ih v h
  intro v h
  unfold triesL at h
  split at h
  · exact h2 64 v h
  · cases h
def plS (hs ws : List Int) (x size kind : Int) : List Int := placeS hs (itemsS hs ws) (nodesS hs ws) x size kind
def rule_Place.f (hs ws : List Int) (x size kind : Int) : Option (List Int) := if hs.length ≤ 1000 then some (plS hs ws x size kind) else none
theorem rule_Place.calls (A0 : Option Addr) (c0 : Nat) (l0 : List Int) (A1 : Option Addr) (c1 : Nat) (l1 : List Int) (a2 a3 a4 : Int) (r : List Int) (w : World) (hr0 : Kd.C (Kd.int .i64) w A0 l0.length l0) (hc0 : l0.length ≤ c0) (hr1 : Kd.C (Kd.int .i64) w A1 l1.length l1) (hc1 : l1.length ≤ c1) (h : rule_Place.f l0 l1 a2 a3 a4 = some r) :
    Calls Try.prog 15 #[.slice A0 l0.length c0, .slice A1 l1.length c1, .int .u32 a2, .int .i64 a3, .int .i64 a4] w fun e w' => ∃ v0_ : Value, e = .returned (v0_) ∧ Kd.R (Kd.int .i64) 3 w' w.heap.size (fun _ => True) v0_ r ∧ Below w.heap.size w w' := by
  unfold rule_Place.f at h
  split at h
  · rename_i hl
    obtain rfl := Option.some.inj h
    exact callsIn_wide.1 (place_in l0 l1 a2 a3 a4 (itemsS l0 l1) (nodesS l0 l1) 2000000 (items_eq l0 l1 hl _ (by omega)) (fun h => nodes_eq l0 l1 h hl _ (by omega)) (tries_valid l0 l1 a2) A0 A1 c0 c1 w hr0 hc0 hr1 hc1)
  · cases h
end Go.Proofs.Ytbaldkcnipmdjaa.P
namespace Go.Proofs.Ytbaldkcnipmdjaa.P
open Go.RowKit Go.Proofs.YtbaldkcnipmdjaaW.PrintWords Go.Proofs.YtbaldkcnipmdjaaW.PrintLast Go.Proofs.YtbaldkcnipmdjaaW.PrintMore Go.Proofs.YtbaldkcnipmdjaaW.HB
set_option linter.unusedVariables false
set_option linter.unusedSimpArgs false
abbrev Bt := Int
theorem strict_ext : ∀ (l m : List Bt), l.Pairwise (· < ·) → m.Pairwise (· < ·) → (∀ x, x ∈ l ↔ x ∈ m) → l = m
  | [], [], _, _, _ => rfl
  | [], y :: m, _, _, h => absurd ((h y).2 (by simp)) (by simp)
  | x :: l, [], _, _, h => absurd ((h x).1 (by simp)) (by simp)
  | x :: l, y :: m, hl, hm, h => by
    rw [List.pairwise_cons] at hl hm
    have hxy : x = y := by
      rcases List.mem_cons.1 ((h x).1 (by simp)) with e | h1
      · exact e
      · rcases List.mem_cons.1 ((h y).2 (by simp)) with e | h2
        · exact e.symm
        · exact absurd (Int.lt_trans (hm.1 x h1) (hl.1 y h2)) (Int.lt_irrefl _)
    subst hxy
    congr 1
    refine strict_ext l m hl.2 hm.2 (fun z => ⟨fun hz => ?_, fun hz => ?_⟩)
    · rcases List.mem_cons.1 ((h z).1 (List.mem_cons_of_mem _ hz)) with e | h1
      · subst e; exact absurd (hl.1 _ hz) (Int.lt_irrefl _)
      · exact h1
    · rcases List.mem_cons.1 ((h z).2 (List.mem_cons_of_mem _ hz)) with e | h1
      · subst e; exact absurd (hm.1 _ hz) (Int.lt_irrefl _)
      · exact h1
theorem lt_of_le_ne {x y : Bt} (h : x ≤ y) (hn : x ≠ y) : x < y := by
  rcases Classical.em (x < y) with h1 | h1
  · exact h1
  · exact absurd (Int.le_antisymm h (Int.not_lt.1 h1)) hn
theorem compact_strict (zs : List Bt) (hs : zs.Pairwise (· ≤ ·)) : ∀ m, m ≤ zs.length → (Lib.compactUpTo zs.toArray m).Pairwise (· < ·) ∧ ∀ x, x ∈ Lib.compactUpTo zs.toArray m ↔ x ∈ zs.take m
  | 0, _ => by simp [Lib.compactUpTo]
  | m + 1, hm => by
    obtain ⟨h1, h2⟩ := compact_strict zs hs m (by omega)
    have hget : zs.toArray[m]! = zs[m] := by simp [Array.getElem!_eq_getD, List.getElem?_eq_getElem (show m < zs.length by omega)]
    rw [Lib.compactUpTo_succ, List.take_succ_eq_append_getElem (by omega), hget]
    have hle : ∀ x ∈ zs.take m, 0 < m → x ≤ zs[m - 1] := by
      intro x hx h0
      obtain ⟨j, hj, rfl⟩ := List.getElem_of_mem hx
      rw [List.length_take] at hj
      rw [List.getElem_take]
      by_cases hjm : j = m - 1
      · subst hjm; exact Int.le_refl _
      · exact List.pairwise_iff_getElem.1 hs j (m - 1) (by omega) (by omega) (by omega)
    by_cases hk : Lib.keeps zs.toArray m = true
    · rw [if_pos hk]
      refine ⟨List.pairwise_append.2 ⟨h1, by simp, fun x hx y hy => ?_⟩, fun x => by rw [List.mem_append, List.mem_append, h2]⟩
      rw [List.mem_singleton] at hy
      subst hy
      have hx2 := (h2 x).1 hx
      rcases Nat.eq_zero_or_pos m with rfl | h0
      · simp at hx2
      · have hne : zs[m] ≠ zs[m - 1] := by
          simp only [Lib.keeps, decide_eq_true_eq] at hk
          rcases hk with hk | hk
          · omega
          · rw [hget] at hk
            rw [show zs.toArray[m - 1]! = zs[m - 1] from by simp [Array.getElem!_eq_getD, List.getElem?_eq_getElem (show m - 1 < zs.length by omega)]] at hk
            exact hk
        exact Int.lt_of_le_of_lt (hle x hx2 h0) (lt_of_le_ne (List.pairwise_iff_getElem.1 hs (m - 1) m (by omega) (by omega) (by omega)) (Ne.symm hne))
    · rw [if_neg hk]
      simp only [Lib.keeps, decide_eq_true_eq, not_or, ne_eq, Decidable.not_not] at hk
      rw [hget, show zs.toArray[m - 1]! = zs[m - 1] from by simp [Array.getElem!_eq_getD, List.getElem?_eq_getElem (show m - 1 < zs.length by omega)]] at hk
      have h0 : 0 < m := by omega
      refine ⟨by simpa using h1, fun x => ?_⟩
      rw [List.append_nil, List.mem_append, h2, List.mem_singleton]
      refine ⟨.inl, fun h => h.elim id (fun h => ?_)⟩
      subst h
      rw [hk.2]
      exact List.mem_iff_getElem.2 ⟨m - 1, by rw [List.length_take]; omega, by rw [List.getElem_take]⟩
def pos (out : List Bt) (s : Bt) : Nat := (out.takeWhile (fun x => decide (x < s))).length
def insS (out : List Bt) (s : Bt) : List Bt := if out[pos out s]? = some s then out else out.take (pos out s) ++ [s] ++ out.drop (pos out s)
theorem pos_le (out : List Bt) (s : Bt) : pos out s ≤ out.length := (List.takeWhile_prefix _).length_le
theorem take_pos : ∀ (out : List Bt) (s : Bt), ∀ x ∈ out.take (pos out s), x < s
  | [], s, x, h => by simp at h
  | y :: out, s, x, h => by
    by_cases hy : y < s
    · have e : pos (y :: out) s = pos out s + 1 := by unfold pos; rw [List.takeWhile_cons_of_pos (by simpa using hy)]; rfl
      rw [e, List.take_succ_cons, List.mem_cons] at h
      rcases h with rfl | h
      · exact hy
      · exact take_pos out s x h
    · have e : pos (y :: out) s = 0 := by unfold pos; rw [List.takeWhile_cons_of_neg (by simpa using hy)]; rfl
      rw [e] at h; simp at h
theorem at_pos : ∀ (out : List Bt) (s : Bt) (h : pos out s < out.length), ¬ out[pos out s] < s
  | [], s, h => by simp at h
  | y :: out, s, h => by
    by_cases hy : y < s
    · have e : pos (y :: out) s = pos out s + 1 := by unfold pos; rw [List.takeWhile_cons_of_pos (by simpa using hy)]; rfl
      simp only [e, List.getElem_cons_succ]
      exact at_pos out s (by rw [e] at h; simpa using h)
    · have e : pos (y :: out) s = 0 := by unfold pos; rw [List.takeWhile_cons_of_neg (by simpa using hy)]; rfl
      simp only [e, List.getElem_cons_zero]
      exact hy
theorem insS_strict (out : List Bt) (s : Bt) (h : out.Pairwise (· < ·)) : (insS out s).Pairwise (· < ·) ∧ ∀ x, x ∈ insS out s ↔ x ∈ out ∨ x = s := by
  have hp := pos_le out s
  unfold insS
  by_cases he : out[pos out s]? = some s
  · rw [if_pos he]
    exact ⟨h, fun x => ⟨.inl, fun hx => hx.elim id (fun e => by subst e; exact List.mem_of_getElem? he)⟩⟩
  · rw [if_neg he]
    refine ⟨?_, fun x => ?_⟩
    · rw [List.append_assoc, List.pairwise_append]
      have hd : ∀ x ∈ out.drop (pos out s), s < x := by
        intro x hx
        have hlt : pos out s < out.length := by
          rcases Nat.lt_or_ge (pos out s) out.length with h1 | h1
          · exact h1
          · rw [List.drop_eq_nil_of_le h1] at hx; simp at hx
        have hge := at_pos out s hlt
        have hne : out[pos out s] ≠ s := fun e => he (by rw [List.getElem?_eq_getElem hlt, e])
        have h1 : s < out[pos out s] := lt_of_le_ne (Int.not_lt.1 hge) (Ne.symm hne)
        obtain ⟨j, hj, rfl⟩ := List.getElem_of_mem hx
        rw [List.getElem_drop]
        rw [List.length_drop] at hj
        rcases Nat.eq_zero_or_pos j with rfl | hj0
        · exact h1
        · exact Int.lt_trans h1 (List.pairwise_iff_getElem.1 h (pos out s) (pos out s + j) hlt (by omega) (by omega))
      refine ⟨h.sublist (List.take_sublist _ _), ?_, ?_⟩
      · rw [List.singleton_append, List.pairwise_cons]
        exact ⟨hd, h.sublist (List.drop_sublist _ _)⟩
      · intro x hx y hy
        have hxs := take_pos out s x hx
        rw [List.singleton_append, List.mem_cons] at hy
        rcases hy with rfl | hy
        · exact hxs
        · exact Int.lt_trans hxs (hd y hy)
    · rw [List.mem_append, List.mem_append, List.mem_singleton]
      conv => rhs; rw [← List.take_append_drop (pos out s) out, List.mem_append]
      constructor
      · rintro ((h1 | h1) | h1)
        · exact .inl (.inl h1)
        · exact .inr h1
        · exact .inl (.inr h1)
      · rintro ((h1 | h1) | h1)
        · exact .inl (.inl h1)
        · exact .inr h1
        · exact .inl (.inr h1)
theorem ins_all : ∀ (l out : List Bt), out.Pairwise (· < ·) → (l.foldl insS out).Pairwise (· < ·) ∧ ∀ x, x ∈ l.foldl insS out ↔ x ∈ out ∨ x ∈ l
  | [], out, h => ⟨h, by simp⟩
  | s :: l, out, h => by
    obtain ⟨h1, h2⟩ := insS_strict out s h
    obtain ⟨h3, h4⟩ := ins_all l (insS out s) h1
    refine ⟨h3, fun x => ?_⟩
    rw [List.foldl_cons, h4, h2, List.mem_cons, or_assoc]
theorem sorted_le (l : List Bt) : (l.mergeSort fun x y => decide (x ≤ y)).Pairwise (· ≤ ·) := by
  have h := List.pairwise_mergeSort (le := fun x y : Bt => decide (x ≤ y)) (fun a b c h1 h2 => by
    simp only [decide_eq_true_eq] at *; exact Int.le_trans h1 h2) (fun a b => by
    simp only [Bool.or_eq_true, decide_eq_true_eq]; exact Int.le_total a b) l
  exact h.imp (fun h => by simpa using h)
theorem names_law (l : List Bt) : Lib.compact (l.mergeSort fun x y => decide (x ≤ y)) = l.foldl insS [] := by
  obtain ⟨h1, h2⟩ := compact_strict _ (sorted_le l) _ (Nat.le_refl _)
  obtain ⟨h3, h4⟩ := ins_all l [] List.Pairwise.nil
  refine strict_ext _ _ h1 h3 (fun x => ?_)
  show x ∈ Lib.compactUpTo _ _ ↔ _
  rw [h2, h4, List.take_length, List.mem_mergeSort]
  simp
end Go.Proofs.Ytbaldkcnipmdjaa.P
namespace Go.Proofs.Ytbaldkcnipmdjaa.P
open Go.RowKit Go.Proofs.YtbaldkcnipmdjaaW.PrintWords Go.Proofs.YtbaldkcnipmdjaaW.PrintLast Go.Proofs.YtbaldkcnipmdjaaW.PrintMore
attribute [local go_sem] max2_int min2_int max_two min_two max_three min_three max_four min_four
set_option linter.unusedVariables false
set_option linter.unusedSimpArgs false
end Go.Proofs.Ytbaldkcnipmdjaa.P
namespace Go.Proofs.Ytbaldkcnipmdjaa.P
open Go.RowKit Go.Proofs.YtbaldkcnipmdjaaW.PrintWords Go.Proofs.YtbaldkcnipmdjaaW.PrintLast Go.Proofs.YtbaldkcnipmdjaaW.PrintMore
attribute [local go_sem] max2_int min2_int max_two min_two max_three min_three max_four min_four
set_option linter.unusedVariables false
set_option linter.unusedSimpArgs false
end Go.Proofs.Ytbaldkcnipmdjaa.P
namespace Go.Proofs.Ytbaldkcnipmdjaa.P
open Go.RowKit Go.Proofs.YtbaldkcnipmdjaaW.PrintWords Go.Proofs.YtbaldkcnipmdjaaW.PrintLast Go.Proofs.YtbaldkcnipmdjaaW.PrintMore
attribute [local go_sem] max2_int min2_int max_two min_two max_three min_three max_four min_four
set_option linter.unusedVariables false
set_option linter.unusedSimpArgs false
end Go.Proofs.Ytbaldkcnipmdjaa.P
namespace Go.Proofs.Ytbaldkcnipmdjaa.P
open Go.RowKit Go.Proofs.YtbaldkcnipmdjaaW.PrintWords Go.Proofs.YtbaldkcnipmdjaaW.PrintLast Go.Proofs.YtbaldkcnipmdjaaW.PrintMore Go.Proofs.YtbaldkcnipmdjaaW.HB
set_option linter.unusedVariables false
set_option linter.unusedSimpArgs false
end Go.Proofs.Ytbaldkcnipmdjaa.P
namespace Go.Proofs.Ytbaldkcnipmdjaa.P
open Go.RowKit Go.Proofs.YtbaldkcnipmdjaaW.PrintWords Go.Proofs.YtbaldkcnipmdjaaW.PrintLast Go.Proofs.YtbaldkcnipmdjaaW.PrintMore Go.Proofs.YtbaldkcnipmdjaaW.HB
set_option linter.unusedVariables false
set_option linter.unusedSimpArgs false
end Go.Proofs.Ytbaldkcnipmdjaa.P
namespace Go.Proofs.Ytbaldkcnipmdjaa.P
open Go.RowKit Go.Proofs.YtbaldkcnipmdjaaW.PrintWords Go.Proofs.YtbaldkcnipmdjaaW.PrintLast Go.Proofs.YtbaldkcnipmdjaaW.PrintMore
attribute [local go_sem] max2_int min2_int max_two min_two max_three min_three max_four min_four
set_option linter.unusedVariables false
set_option linter.unusedSimpArgs false
end Go.Proofs.Ytbaldkcnipmdjaa.P
namespace Go.Proofs.Ytbaldkcnipmdjaa.P
open Go.RowKit Go.Proofs.YtbaldkcnipmdjaaW.PrintWords Go.Proofs.YtbaldkcnipmdjaaW.PrintLast Go.Proofs.YtbaldkcnipmdjaaW.PrintMore
attribute [local go_sem] max2_int min2_int max_two min_two max_three min_three max_four min_four
set_option linter.unusedVariables false
set_option linter.unusedSimpArgs false
end Go.Proofs.Ytbaldkcnipmdjaa.P
namespace Go.Proofs.Ytbaldkcnipmdjaa.P
open Go.RowKit Go.Proofs.YtbaldkcnipmdjaaW.PrintWords Go.Proofs.YtbaldkcnipmdjaaW.PrintLast Go.Proofs.YtbaldkcnipmdjaaW.PrintMore Go.Proofs.YtbaldkcnipmdjaaW.HB
set_option linter.unusedVariables false
set_option linter.unusedSimpArgs false
end Go.Proofs.Ytbaldkcnipmdjaa.P
namespace Go.Proofs.Ytbaldkcnipmdjaa.P
open Go.RowKit Go.Proofs.YtbaldkcnipmdjaaW.PrintWords Go.Proofs.YtbaldkcnipmdjaaW.PrintLast Go.Proofs.YtbaldkcnipmdjaaW.PrintMore
attribute [local go_sem] max2_int min2_int max_two min_two max_three min_three max_four min_four
set_option linter.unusedVariables false
set_option linter.unusedSimpArgs false
end Go.Proofs.Ytbaldkcnipmdjaa.P
namespace Go.Proofs.Ytbaldkcnipmdjaa.P
open Go.RowKit Go.Proofs.YtbaldkcnipmdjaaW.PrintWords Go.Proofs.YtbaldkcnipmdjaaW.PrintLast Go.Proofs.YtbaldkcnipmdjaaW.PrintMore
attribute [local go_sem] max2_int min2_int max_two min_two max_three min_three max_four min_four
set_option linter.unusedVariables false
set_option linter.unusedSimpArgs false
end Go.Proofs.Ytbaldkcnipmdjaa.P
namespace Go.Proofs.Ytbaldkcnipmdjaa.P
open Go.RowKit Go.Proofs.YtbaldkcnipmdjaaW.PrintWords Go.Proofs.YtbaldkcnipmdjaaW.PrintLast Go.Proofs.YtbaldkcnipmdjaaW.PrintMore
attribute [local go_sem] max2_int min2_int max_two min_two max_three min_three max_four min_four
set_option linter.unusedVariables false
set_option linter.unusedSimpArgs false
end Go.Proofs.Ytbaldkcnipmdjaa.P
namespace Go.Proofs.Ytbaldkcnipmdjaa.P
open Go.RowKit Go.Proofs.YtbaldkcnipmdjaaW.PrintWords Go.Proofs.YtbaldkcnipmdjaaW.PrintLast Go.Proofs.YtbaldkcnipmdjaaW.PrintMore Go.Proofs.YtbaldkcnipmdjaaW.HB
set_option linter.unusedVariables false
set_option linter.unusedSimpArgs false
theorem place_sub (hs : List Int) (kind size : Int) : ∀ (l : List Int) (v : Int), v ∈ placeL hs kind size l → v ∈ l := by
  suffices h : ∀ (l out : List Int) (v : Int), v ∈ l.foldl (placeStep hs kind size) out → v ∈ out ∨ v ∈ l by
    intro l v hv
    rcases h l [] v hv with h | h
    · cases h
    · exact h
  intro l
  induction l with
  | nil => intro out v h; exact Or.inl h
  | cons u l ih =>
    intro out v h
    rw [List.foldl_cons] at h
    rcases ih _ v h with h | h
    · unfold placeStep at h
      split at h
      · exact Or.inl h
      · split at h
        · exact Or.inl h
        · rcases List.mem_append.1 h with h | h
          · exact Or.inl h
          · simp at h; subst h; exact Or.inr List.mem_cons_self
    · exact Or.inr (List.mem_cons_of_mem _ h)
theorem place_max (hs : List Int) (kind size : Int) (h1 : 1 ≤ size) : ∀ (l : List Int), ((placeL hs kind size l).length : Int) ≤ size := by
  suffices h : ∀ (l out : List Int), (out.length : Int) ≤ size → ((l.foldl (placeStep hs kind size) out).length : Int) ≤ size by
    intro l; exact h l [] (by simp; omega)
  intro l
  induction l with
  | nil => intro out h; exact h
  | cons u l ih =>
    intro out h
    rw [List.foldl_cons]
    apply ih
    unfold placeStep
    split
    · exact h
    · split
      · exact h
      · simp; omega
end Go.Proofs.Ytbaldkcnipmdjaa.P
namespace Go.Proofs.Ytbaldkcnipmdjaa.P
open Go.RowKit Go.Proofs.YtbaldkcnipmdjaaW.PrintWords Go.Proofs.YtbaldkcnipmdjaaW.PrintLast Go.Proofs.YtbaldkcnipmdjaaW.PrintMore
attribute [local go_sem] max2_int min2_int max_two min_two max_three min_three max_four min_four
set_option linter.unusedVariables false
set_option linter.unusedSimpArgs false
def rule_Most.l0 : Nat → List Int → List Int → Int → Int → List Int → Int → Int → Option (Int)
  | 0, _, _, _, _, _, _, _ => none
  | k + 1, x0, x1, x2, x3, x9, x12, x13 => if x13 < x12 then ((rule_weight.f x1 x13).bind fun t134 => (if t134 > 0 then ((rule_domain.f x0 x13 x3).bind fun t135 => (if x9.length < 17592186044416 then (rule_Most.l0 k x0 x1 x2 x3 (x9 ++ [t135]) x12 (wrap64 (x13 + 1))) else (none))) else (rule_Most.l0 k x0 x1 x2 x3 x9 x12 (wrap64 (x13 + 1))))) else ((rule_Hosts.f x9).bind fun t131 => (some (mx (mn (t131.length : Int) x2) 0)))
def rule_Most.f (k : Nat) (l0 : List Int) (l1 : List Int) (a2 : Int) (a3 : Int) : Option (Int) := rule_Most.l0 k l0 l1 a2 a3 ([] : List Int) (l0.length : Int) 0
set_option maxHeartbeats 8000000 in
set_option maxRecDepth 100000 in
theorem rule_Most.calls (k : Nat) (A0 : Option Addr) (c0 : Nat) (l0 : List Int) (A1 : Option Addr) (c1 : Nat) (l1 : List Int) (a2 : Int) (a3 : Int) (r : Int) (w : World) (hr0 : Kd.C (Kd.int .i64) w A0 l0.length l0) (hc0 : l0.length ≤ c0) (hr1 : Kd.C (Kd.int .i64) w A1 l1.length l1) (hc1 : l1.length ≤ c1) (h : rule_Most.f k l0 l1 a2 a3 = some r) :
    Calls Try.prog 20 #[.slice A0 l0.length c0, .slice A1 l1.length c1, .int .i64 a2, .int .i64 a3] w fun e w' => e = .returned (.int .i64 r) ∧ Below w.heap.size w w' := by
  have HR0 := Aside0.mk hr0
  have HC0 := Aside0.mk hc0
  clear hr0 hc0
  have HR1 := Aside0.mk hr1
  have HC1 := Aside0.mk hc1
  clear hr1 hc1
  have HB := Aside0.mk (Below.refl w.heap.size w)
  have H : (rule_Most.l0 k l0 l1 a2 a3 ([] : List Int) (l0.length : Int) 0) = some r := h
  clear h
  have H' := Aside0.mk H
  clear H
  go_enter Try.func20, Try.ntmps20
  go_wp2
  go_loopg [9, 13] k (fun kq v9 v13 w' => ∃ (x9_1 : List Int) (x13_1 : Int), v13 = .int .i64 x13_1 ∧ Aside0 (rule_Most.l0 kq l0 l1 a2 a3 x9_1 (l0.length : Int) x13_1 = some r) ∧ Aside0 (kq ≤ k) ∧ Aside0 (Kd.R (Kd.int .i64) 3 w' w.heap.size (fun _ => True) v9 x9_1) ∧ Aside0 (Below w.heap.size w w'))
  case atStart => exact ⟨(([] : List Int)), (0), (by first | rfl | (simp; done) | (simp [*]; done)), H', ⟨Nat.le_refl _⟩, ⟨by first | exact Kd.R_nil _ _ _ _ _ | exact Kd.N_nil _ _ _ _ _ | exact Kd.V_nil _ _ _ _ _ | exact Kd.Q_nil _ _ _ _ _ | exact Kd.S_nil _ _ _ _ _⟩, ⟨by repeat (first | (with_reducible first | exact HB.out | apply below_alloc | apply pw_below_drewN | apply below_drew1) | exact HB.out)⟩⟩
  case round =>
    clear H'
    try clear c1
    try clear c2
    try clear p2
    obtain ⟨x9_1, x13_1, rfl, HA, HK1, HO_9, HB⟩ := hrel
    cases gk with
    | zero => exact absurd HA.out (by simp [rule_Most.l0])
    | succ k1 =>
      have H := HA.out
      clear HA
      simp only [rule_Most.l0] at H
      by_cases c5 : x13_1 < (l0.length : Int)
      · rw [if_pos c5] at H
        have c5b0 : decide (x13_1 < (l0.length : Int)) = true := decide_eq_true c5
        clear c5
        replace H := Option.bind_eq_some_iff.mp H
        obtain ⟨t134, A60, H⟩ := H
        replace H : (if t134 > 0 then ((rule_domain.f l0 x13_1 a3).bind fun t135 => (if x9_1.length < 17592186044416 then (rule_Most.l0 k1 l0 l1 a2 a3 (x9_1 ++ [t135]) (l0.length : Int) (wrap64 (x13_1 + 1))) else (none))) else (rule_Most.l0 k1 l0 l1 a2 a3 x9_1 (l0.length : Int) (wrap64 (x13_1 + 1)))) = some r := H
        have A6 := Aside0.mk A60
        clear A60
        by_cases c7 : t134 > 0
        · rw [if_pos c7] at H
          have c7b0 : decide (0 < t134) = true := decide_eq_true c7
          clear c7
          replace H := Option.bind_eq_some_iff.mp H
          obtain ⟨t135, A80, H⟩ := H
          replace H : (if x9_1.length < 17592186044416 then (rule_Most.l0 k1 l0 l1 a2 a3 (x9_1 ++ [t135]) (l0.length : Int) (wrap64 (x13_1 + 1))) else (none)) = some r := H
          have A8 := Aside0.mk A80
          clear A80
          by_cases c9 : x9_1.length < 17592186044416
          · rw [if_pos c9] at H
            have LMc9 := Aside0.mk c9
            clear c9
            obtain ⟨y136, hy136⟩ : ∃ y_ : List Int, y_ = (x9_1 ++ [t135]) := ⟨_, rfl⟩
            replace H : (rule_Most.l0 k1 l0 l1 a2 a3 y136 (l0.length : Int) (wrap64 (x13_1 + 1))) = some r := by first | (rw [hy136]; with_reducible exact H) | (have H2_ := (Option.bind_some _ _).symm.trans H; rw [hy136]; with_reducible exact H2_) | (have H2_ := (Option.bind_some _ _).symm.trans H; with_reducible exact H2_) | with_reducible exact H | (rw [hy136]; exact H) | exact H
            have Ny136 := Aside0.mk hy136
            clear hy136
            have H' := Aside0.mk H
            clear H
            go_wp2_with (first | ((with_reducible refine gate_callee (f := 36) rfl ?_); refine goesL_ (some 18) rfl rfl Try.func36 (by kernel_rfl) rfl #[.slice A1 l1.length c1, .int .i64 x13_1] rfl (by (try simp only [List.map_toArray, List.map_cons, List.map_nil]); first | done | rfl | (simp only [List.length_drop, List.length_take]; rfl)) ?_; (with_reducible refine (rule_weight.calls _ _ l1 x13_1 t134 _ ?side1 ?side2 A6.out).mono ?_); (case side1 => repeat (first | exact (Kd.C_below HR1.out HB.out) | (with_reducible refine Kd.C_alloc ?_ _) | (with_reducible refine Kd.C_drewN ?_ _) | (with_reducible refine Kd.C_drew ?_))); (case side2 => exact HC1.out); rintro e w10 ⟨rfl, hb⟩; refine ⟨_, rfl, ?_⟩; have n0_ := Aside0.mk (Kd.R_below (by (with_reducible repeat (first | apply Kd.R_alloc | apply Kd.R_drewN | apply Kd.R_drew)); exact HO_9.out) hb); have n1_ := Aside0.mk (below_step (by repeat (first | (with_reducible first | exact HB.out | apply below_alloc | apply pw_below_drewN | apply below_drew1) | exact HB.out)) hb); clear HO_9; clear HB; have HO_9 := n0_; have HB := n1_; clear n0_ n1_; (try clear hb); (try clear hb2); (try clear hk); (try clear hi)) | ((with_reducible refine gate_callee (f := 33) rfl ?_); refine goesL_ (some 24) rfl rfl Try.func33 (by kernel_rfl) rfl #[.slice A0 l0.length c0, .int .i64 x13_1, .int .i64 a3] rfl (by (try simp only [List.map_toArray, List.map_cons, List.map_nil]); first | done | rfl | (simp only [List.length_drop, List.length_take]; rfl)) ?_; (with_reducible refine (rule_domain.calls _ _ l0 x13_1 a3 t135 _ ?side1 ?side2 A8.out).mono ?_); (case side1 => repeat (first | exact (Kd.C_below HR0.out HB.out) | (with_reducible refine Kd.C_alloc ?_ _) | (with_reducible refine Kd.C_drewN ?_ _) | (with_reducible refine Kd.C_drew ?_))); (case side2 => exact HC0.out); rintro e w' ⟨rfl, ⟨nd, rfl⟩⟩; refine ⟨_, rfl, ?_⟩) | ((with_reducible refine gate_builtin (b := .append) (xs := #[.tmp 20, .tmp 25]) rfl ?_); at_builtin; refine Kd.R_append (Kd.int .i64) (w0 := w) w.heap.size rfl (.tmp 20) (.tmp 25) 22 3 (.int .i64 0) 8 rfl Try.underlying22 info3 rfl (by decide) (by omega) u9 x9_1 t135 [.int .i64 t135] (fun _ => True) (fun _ => False) rfl rfl ?aP (fun _ hk => hk.elim) ?aF ?aO ?aB ?aS ?aL ?_; (case aP => exact rfl); (case aB => exact (by repeat (first | (with_reducible first | exact HB.out | apply below_alloc | apply pw_below_drewN | apply below_drew1) | exact HB.out))); (case aF => exact (fun _ _ => trivial)); (case aO => exact (by (with_reducible repeat (first | apply Kd.R_alloc | apply Kd.R_drewN | apply Kd.R_drew)); exact HO_9.out)); (case aS => exact (below_size (by repeat (first | (with_reducible first | exact HB.out | apply below_alloc | apply pw_below_drewN | apply below_drew1) | exact HB.out)))); (case aL => have := LMc9.out; omega); intro v137 w11 ho hb hg hat; rw [← Ny136.out] at ho; have n0_ := Aside0.mk (hb); have n1_ := Aside0.mk (ho); clear HB; clear HO_9; have HB := n0_; have HO138 := n1_; clear n0_ n1_; clear ho hb hg hat))
            go_roundg k1
            case measure => have := HK1.out; omega
            case rel => exact ⟨(y136), (wrap64 (x13_1 + 1)), (by first | rfl | (simp; done) | (simp [*]; done)), H', ⟨by have := HK1.out; omega⟩, ⟨by (with_reducible repeat (first | apply Kd.R_alloc | apply Kd.R_drewN | apply Kd.R_drew)); exact HO138.out⟩, ⟨by repeat (first | (with_reducible first | exact HB.out | apply below_alloc | apply pw_below_drewN | apply below_drew1) | exact HB.out)⟩⟩
          · rw [if_neg c9] at H
            exact absurd H (by simp)
        · rw [if_neg c7] at H
          have c7b0 : decide (0 < t134) = false := decide_eq_false c7
          clear c7
          have H' := Aside0.mk H
          clear H
          go_wp2_with (first | ((with_reducible refine gate_callee (f := 36) rfl ?_); refine goesL_ (some 18) rfl rfl Try.func36 (by kernel_rfl) rfl #[.slice A1 l1.length c1, .int .i64 x13_1] rfl (by (try simp only [List.map_toArray, List.map_cons, List.map_nil]); first | done | rfl | (simp only [List.length_drop, List.length_take]; rfl)) ?_; (with_reducible refine (rule_weight.calls _ _ l1 x13_1 t134 _ ?side1 ?side2 A6.out).mono ?_); (case side1 => repeat (first | exact (Kd.C_below HR1.out HB.out) | (with_reducible refine Kd.C_alloc ?_ _) | (with_reducible refine Kd.C_drewN ?_ _) | (with_reducible refine Kd.C_drew ?_))); (case side2 => exact HC1.out); rintro e w12 ⟨rfl, hb⟩; refine ⟨_, rfl, ?_⟩; have n0_ := Aside0.mk (Kd.R_below (by (with_reducible repeat (first | apply Kd.R_alloc | apply Kd.R_drewN | apply Kd.R_drew)); exact HO_9.out) hb); have n1_ := Aside0.mk (below_step (by repeat (first | (with_reducible first | exact HB.out | apply below_alloc | apply pw_below_drewN | apply below_drew1) | exact HB.out)) hb); clear HO_9; clear HB; have HO_9 := n0_; have HB := n1_; clear n0_ n1_; (try clear hb); (try clear hb2); (try clear hk); (try clear hi)))
          go_roundg k1
          case measure => have := HK1.out; omega
          case rel => exact ⟨(x9_1), (wrap64 (x13_1 + 1)), (by first | rfl | (simp; done) | (simp [*]; done)), H', ⟨by have := HK1.out; omega⟩, ⟨by (with_reducible repeat (first | apply Kd.R_alloc | apply Kd.R_drewN | apply Kd.R_drew)); exact HO_9.out⟩, ⟨by repeat (first | (with_reducible first | exact HB.out | apply below_alloc | apply pw_below_drewN | apply below_drew1) | exact HB.out)⟩⟩
      · rw [if_neg c5] at H
        have c5b0 : decide (x13_1 < (l0.length : Int)) = false := decide_eq_false c5
        clear c5
        replace H := Option.bind_eq_some_iff.mp H
        obtain ⟨t131, A130, H⟩ := H
        replace H : (some (mx (mn (t131.length : Int) a2) 0)) = some r := H
        have A13 := Aside0.mk A130
        clear A130
        obtain ⟨ji14, hji14⟩ : ∃ j_ : Int, (mn (t131.length : Int) a2) = j_ := ⟨_, rfl⟩
        replace H : (some (mx (ji14) 0)) = some r := by first | (rw [hji14] at H; exact H) | (simp only [hji14] at H ⊢; exact H)
        (try rw [hji14] at A13)
        have hji14_ : (if a2 < (t131.length : Int) then a2 else (t131.length : Int)) = ji14 := hji14
        obtain ⟨ji15, hji15⟩ : ∃ j_ : Int, (mx (ji14) 0) = j_ := ⟨_, rfl⟩
        replace H : (some ji15) = some r := by first | (rw [hji15] at H; exact H) | (simp only [hji15] at H ⊢; exact H)
        (try rw [hji15] at A13)
        have hji15_ : (if (ji14) < 0 then 0 else (ji14)) = ji15 := hji15
        obtain rfl := Option.some.inj H
        obtain ⟨Ao16, co16, eo16⟩ := Kd.R_slice HO_9.out
        subst eo16
        go_wp2_with (first | ((with_reducible refine gate_callee (f := 13) rfl ?_); refine goesL_ (some 29) rfl rfl Try.func13 (by kernel_rfl) rfl #[.slice Ao16 x9_1.length co16] rfl (by (try simp only [List.map_toArray, List.map_cons, List.map_nil]); first | done | rfl | (simp only [List.length_drop, List.length_take]; rfl)) ?_; (with_reducible refine (rule_Hosts.calls _ _ x9_1 t131 _ ?side1 ?side2 A13.out).mono ?_); (case side1 => repeat (first | exact (Kd.R_reads' HO_9.out).2.2 | (with_reducible refine Kd.C_alloc ?_ _) | (with_reducible refine Kd.C_drewN ?_ _) | (with_reducible refine Kd.C_drew ?_))); (case side2 => exact (Kd.R_reads' HO_9.out).2.1); rintro e w17 ⟨v132, rfl, ho0, hb⟩; refine ⟨_, rfl, ?_⟩; have n0_ := Aside0.mk (Kd.R_elder' (by (with_reducible repeat (first | apply Kd.R_alloc | apply Kd.R_drewN | apply Kd.R_drew)); exact HO_9.out) (Kd.R_base ho0) hb); have n1_ := Aside0.mk (Kd.R_lower (Kd.R_new' ho0 (Kd.R_lt (by (with_reducible repeat (first | apply Kd.R_alloc | apply Kd.R_drewN | apply Kd.R_drew)); exact HO_9.out))) (below_size (by repeat (first | (with_reducible first | exact HB.out | apply below_alloc | apply pw_below_drewN | apply below_drew1) | exact HB.out)))); have n2_ := Aside0.mk (below_step (by repeat (first | (with_reducible first | exact HB.out | apply below_alloc | apply pw_below_drewN | apply below_drew1) | exact HB.out)) hb); clear HO_9; clear HB; have HO_9 := n0_; have HO133 := n1_; have HB := n2_; clear n0_ n1_ n2_; (try clear hb); (try clear hb2); (try clear hk); (try clear hi); (try clear ho0); obtain ⟨Ao18, co18, eo18⟩ := Kd.R_slice HO133.out; subst eo18))
        go_ret
        exact ⟨by first | rfl | (simp [errW_none, errW_some] <;> rfl) | (simp only [← hji14, ← hji15]; first | rfl | (simp [errW_none, errW_some] <;> rfl)) | (simp [*, errW_none, errW_some] <;> rfl), by repeat (first | (with_reducible first | exact HB.out | apply below_alloc | apply pw_below_drewN | apply below_drew1) | exact HB.out)⟩
end Go.Proofs.Ytbaldkcnipmdjaa.P
namespace Go.Proofs.Ytbaldkcnipmdjaa.P
open Go.RowKit Go.Proofs.YtbaldkcnipmdjaaW.PrintWords Go.Proofs.YtbaldkcnipmdjaaW.PrintLast Go.Proofs.YtbaldkcnipmdjaaW.PrintMore Go.Proofs.YtbaldkcnipmdjaaW.HB
set_option linter.unusedVariables false
set_option linter.unusedSimpArgs false
def itemsF (hs ws : List Int) : List S31 := (hs.foldl insS []).map (fun h => ⟨h, sumN (nodesS hs ws h)⟩)
theorem itemsF_eq (hs ws : List Int) : itemsS hs ws = itemsF hs ws := by unfold itemsS itemsF hostsL; rw [names_law]
def plF (hs ws : List Int) (x size kind : Int) : List Int := placeS hs (itemsF hs ws) (nodesS hs ws) x size kind
theorem plF_eq (hs ws : List Int) (x size kind : Int) : plS hs ws x size kind = plF hs ws x size kind := by unfold plS plF; rw [itemsF_eq]
theorem aw_h : hostsL [3, 1, 3] = [1, 3] := by unfold hostsL; rw [names_law]; decide
theorem aw_n : plS [0] [] 1 1 1 = [] := by rw [plF_eq]; kernel_rfl
theorem aw_0 : (plS [0, 0] [65536, 65536] 7 2 2).length = 1 := by rw [plF_eq]; kernel_rfl
theorem aw_1 : (plS [0, 1] [65536, 65536] 7 1 1).length = 1 := by rw [plF_eq]; kernel_rfl
theorem aw_m : rule_Most.f 20 [0, 0, 1, 1] [1, 0, 0, 0] 2 1 = some 1 := by
  have h : ∀ l : List Int, l.length = 1 → rule_Hosts.f l = some (l.foldl insS []) := by
    intro l hl; unfold rule_Hosts.f hostsL; rw [if_pos (by omega), names_law]
  unfold rule_Most.f
  have h0 := h [0] rfl
  have h1 : ([0] : List Int).foldl insS [] = [0] := by decide
  rw [h1] at h0
  simp [rule_Most.l0, rule_weight.f, rule_domain.f, rd, mn, mx, wrap64, h0]
end Go.Proofs.Ytbaldkcnipmdjaa.P
namespace Go.Proofs.Ytbaldkcnipmdjaa.P
open Go.RowKit Go.Proofs.YtbaldkcnipmdjaaW.PrintWords Go.Proofs.YtbaldkcnipmdjaaW.PrintLast Go.Proofs.YtbaldkcnipmdjaaW.PrintMore
attribute [local go_sem] max2_int min2_int max_two min_two max_three min_three max_four min_four
set_option linter.unusedVariables false
set_option linter.unusedSimpArgs false
end Go.Proofs.Ytbaldkcnipmdjaa.P
namespace Go.Proofs.Ytbaldkcnipmdjaa.P
open Go.RowKit Go.Proofs.YtbaldkcnipmdjaaW.PrintWords Go.Proofs.YtbaldkcnipmdjaaW.PrintLast Go.Proofs.YtbaldkcnipmdjaaW.PrintMore
attribute [local go_sem] max2_int min2_int max_two min_two max_three min_three max_four min_four
set_option linter.unusedVariables false
set_option linter.unusedSimpArgs false
end Go.Proofs.Ytbaldkcnipmdjaa.P
namespace Go.Proofs.Ytbaldkcnipmdjaa.P
open Go.RowKit Go.Proofs.YtbaldkcnipmdjaaW.PrintWords Go.Proofs.YtbaldkcnipmdjaaW.PrintLast Go.Proofs.YtbaldkcnipmdjaaW.PrintMore Go.Proofs.YtbaldkcnipmdjaaW.HB
set_option linter.unusedVariables false
set_option linter.unusedSimpArgs false
end Go.Proofs.Ytbaldkcnipmdjaa.P
namespace Go.Proofs.Ytbaldkcnipmdjaa.P
open Go.RowKit Go.Proofs.YtbaldkcnipmdjaaW.PrintWords Go.Proofs.YtbaldkcnipmdjaaW.PrintLast Go.Proofs.YtbaldkcnipmdjaaW.PrintMore
attribute [local go_sem] max2_int min2_int max_two min_two max_three min_three max_four min_four
set_option linter.unusedVariables false
set_option linter.unusedSimpArgs false
end Go.Proofs.Ytbaldkcnipmdjaa.P
namespace Go.Proofs.Ytbaldkcnipmdjaa.P
open Go.RowKit Go.Proofs.YtbaldkcnipmdjaaW.PrintWords Go.Proofs.YtbaldkcnipmdjaaW.PrintLast Go.Proofs.YtbaldkcnipmdjaaW.PrintMore Go.Proofs.YtbaldkcnipmdjaaW.HB
set_option linter.unusedVariables false
set_option linter.unusedSimpArgs false
end Go.Proofs.Ytbaldkcnipmdjaa.P
namespace Go.Proofs.Ytbaldkcnipmdjaa.P
open Go.RowKit Go.Proofs.YtbaldkcnipmdjaaW.PrintWords Go.Proofs.YtbaldkcnipmdjaaW.PrintLast Go.Proofs.YtbaldkcnipmdjaaW.PrintMore Go.Proofs.YtbaldkcnipmdjaaW.HB
set_option linter.unusedVariables false
set_option linter.unusedSimpArgs false
attribute [local go_sem] max2_int min2_int max_two min_two max_three min_three max_four min_four
theorem few_calls (A : Option Addr) (c m n : Nat) (w : World) (hm : m ≤ c) :
    Calls Try.prog 9 #[.slice A m c, .int .i64 n] w fun e w' => e = .returned (.slice A (min m n) c) ∧ w' = w := by
  by_cases hnm : n < m
  · have hk : min m n = n := by omega
    rw [hk]
    have hkc : n ≤ c := by omega
    have h0 : (0 : Int) ≤ n := Int.natCast_nonneg n
    have h1 : (n : Int) ≤ c := Int.ofNat_le.2 hkc
    have h2 : (n : Int) < (m : Int) := Int.ofNat_lt.2 hnm
    go_enter Try.func9, Try.ntmps9
    go_wp2
    go_ret
    exact ⟨rfl, rfl⟩
  · have hk : min m n = m := by omega
    rw [hk]
    have h1 : (m : Int) ≤ c := Int.ofNat_le.2 hm
    have h2 : ¬ (n : Int) < (m : Int) := fun h => hnm (Int.ofNat_lt.1 h)
    go_enter Try.func9, Try.ntmps9
    go_wp2
    go_ret
    exact ⟨rfl, rfl⟩
theorem C_few {α : Type} {d : Kd α} {w : World} {A : Option Addr} {l : List α} (n : Nat) (h : Kd.C d w A l.length l) : Kd.C d w A (l.take n).length (l.take n) := by
  by_cases hn : n ≤ l.length
  · exact Kd.C_take h hn
  · rw [List.take_of_length_le (by omega)]; exact h
theorem few_len {α : Type} (l : List α) (n : Nat) : min l.length n = (l.take n).length := by rw [List.length_take, Nat.min_comm]
theorem few_at (A : Option Addr) (c : Nat) (l : List Int) (n : Nat) (w : World) (hm : l.length ≤ c) :
    Calls Try.prog 9 #[.slice A l.length c, .int .i64 n] w fun e w' => e = .returned (.slice A (l.take n).length c) ∧ w' = w := by
  rw [← few_len]; exact few_calls A c l.length n w hm
end Go.Proofs.Ytbaldkcnipmdjaa.P
namespace Go.Proofs.Ytbaldkcnipmdjaa.P
open Go.RowKit Go.Proofs.YtbaldkcnipmdjaaW.PrintWords Go.Proofs.YtbaldkcnipmdjaaW.PrintLast Go.Proofs.YtbaldkcnipmdjaaW.PrintMore
attribute [local go_sem] max2_int min2_int max_two min_two max_three min_three max_four min_four
set_option linter.unusedVariables false
set_option linter.unusedSimpArgs false
def reeflaw12_ints.l0 : Nat → List Int → List Int → Int → Option (Bool)
  | 0, _, _, _ => none
  | k + 1, x0, x1, x5 => if x5 < (x0.length : Int) then (if 0 ≤ x5 then (if x5 < (x1.length : Int) then (if (rd x0 x5) = (rd x1 x5) then (reeflaw12_ints.l0 k x0 x1 (wrap64 (x5 + 1))) else (some false)) else (none)) else (none)) else (some true)
def reeflaw12_ints.f (k : Nat) (l0 : List Int) (l1 : List Int) : Option (Bool) := if (l0.length : Int) = (l1.length : Int) then (reeflaw12_ints.l0 k l0 l1 0) else (some false)
set_option maxHeartbeats 8000000 in
set_option maxRecDepth 100000 in
theorem reeflaw12_ints.calls (k : Nat) (A0 : Option Addr) (c0 : Nat) (l0 : List Int) (A1 : Option Addr) (c1 : Nat) (l1 : List Int) (r : Bool) (w : World) (hr0 : Kd.C (Kd.int .i64) w A0 l0.length l0) (hc0 : l0.length ≤ c0) (hr1 : Kd.C (Kd.int .i64) w A1 l1.length l1) (hc1 : l1.length ≤ c1) (h : reeflaw12_ints.f k l0 l1 = some r) :
    Calls Try.prog 12 #[.slice A0 l0.length c0, .slice A1 l1.length c1] w fun e w' => e = .returned (.bool r) ∧ Drawn0 w w' := by
  have HR0 := Aside0.mk hr0
  have HC0 := Aside0.mk hc0
  clear hr0 hc0
  have HR1 := Aside0.mk hr1
  have HC1 := Aside0.mk hc1
  clear hr1 hc1
  have H : (if (l0.length : Int) = (l1.length : Int) then (reeflaw12_ints.l0 k l0 l1 0) else (some false)) = some r := h
  clear h
  by_cases c3 : (l0.length : Int) = (l1.length : Int)
  · rw [if_pos c3] at H
    have c3b0 : ((l0.length : Int) == (l1.length : Int)) = true := beq_iff_eq.mpr c3
    have c3b1 : ((l0.length : Int) != (l1.length : Int)) = false := bne_eq_false_iff_eq.mpr c3
    have c3b2 : (l0.length == l1.length) = true := by first | simpa using c3 | (simp at c3 ⊢; omega)
    clear c3
    have H' := Aside0.mk H
    clear H
    go_enter Try.func12, Try.ntmps12
    go_wp2
    repeat (go_quiet (fail); try go_wp2)
    go_loopg [5] k (fun kq v5 w' => ∃ (x5_1 : Int), v5 = .int .i64 x5_1 ∧ Aside0 (reeflaw12_ints.l0 kq l0 l1 x5_1 = some r) ∧ Aside0 (kq ≤ k) ∧ Drawn0 w w')
    case atStart => exact ⟨(0), (by first | rfl | (simp; done) | (simp [*]; done)), H', ⟨Nat.le_refl _⟩, by repeat (first | exact Drawn0.refl _ | apply Drawn0.step)⟩
    case round =>
      clear H'
      try clear c1
      try clear p2
      try clear c3
      try clear c3b0
      try clear c3b1
      try clear c3b2
      obtain ⟨x5_1, rfl, HA, HK1, ⟨m1, rfl⟩⟩ := hrel
      cases gk with
      | zero => exact absurd HA.out (by simp [reeflaw12_ints.l0])
      | succ k1 =>
        have H := HA.out
        clear HA
        simp only [reeflaw12_ints.l0] at H
        by_cases c4 : x5_1 < (l0.length : Int)
        · rw [if_pos c4] at H
          have c4b0 : decide (x5_1 < (l0.length : Int)) = true := decide_eq_true c4
          clear c4
          by_cases c5 : 0 ≤ x5_1
          · rw [if_pos c5] at H
            have c5b0 : decide (0 ≤ x5_1) = true := decide_eq_true c5
            clear c5
            by_cases c6 : x5_1 < (l1.length : Int)
            · rw [if_pos c6] at H
              have c6b0 : decide (x5_1 < (l1.length : Int)) = true := decide_eq_true c6
              clear c6
              by_cases c7 : (rd l0 x5_1) = (rd l1 x5_1)
              · rw [if_pos c7] at H
                have c7b0 : ((rd l0 x5_1) == (rd l1 x5_1)) = true := beq_iff_eq.mpr c7
                have c7b1 : ((rd l0 x5_1) != (rd l1 x5_1)) = false := bne_eq_false_iff_eq.mpr c7
                clear c7
                have H' := Aside0.mk H
                clear H
                have p158 : 0 ≤ (x5_1 : Int) := of_decide_eq_true (by first | (with_reducible assumption) | assumption)
                have q158 : x5_1 < (l0.length : Int) := of_decide_eq_true (by first | (with_reducible assumption) | assumption)
                obtain ⟨ad158, e158, hx158_0⟩ := Kd.at_int HR0.out x5_1 p158 q158
                cases e158
                replace p158 := eq_true p158
                replace q158 := eq_true q158
                have p159 : 0 ≤ (x5_1 : Int) := of_decide_eq_true (by first | (with_reducible assumption) | assumption)
                have q159 : x5_1 < (l1.length : Int) := of_decide_eq_true (by first | (with_reducible assumption) | assumption)
                obtain ⟨ad159, e159, hx159_0⟩ := Kd.at_int HR1.out x5_1 p159 q159
                cases e159
                replace p159 := eq_true p159
                replace q159 := eq_true q159
                go_wp2
                repeat (go_quiet (fail); try go_wp2)
                go_roundg k1
                case measure => have := HK1.out; omega
                case rel => exact ⟨(wrap64 (x5_1 + 1)), (by first | rfl | (simp; done) | (simp [*]; done)), H', ⟨by have := HK1.out; omega⟩, by repeat (first | exact Drawn0.refl _ | apply Drawn0.step)⟩
              · rw [if_neg c7] at H
                have c7b0 : ((rd l0 x5_1) == (rd l1 x5_1)) = false := beq_eq_false_iff_ne.mpr c7
                have c7b1 : ((rd l0 x5_1) != (rd l1 x5_1)) = true := bne_iff_ne.mpr c7
                obtain rfl := Option.some.inj H
                have p158 : 0 ≤ (x5_1 : Int) := of_decide_eq_true (by first | (with_reducible assumption) | assumption)
                have q158 : x5_1 < (l0.length : Int) := of_decide_eq_true (by first | (with_reducible assumption) | assumption)
                obtain ⟨ad158, e158, hx158_0⟩ := Kd.at_int HR0.out x5_1 p158 q158
                cases e158
                replace p158 := eq_true p158
                replace q158 := eq_true q158
                have p159 : 0 ≤ (x5_1 : Int) := of_decide_eq_true (by first | (with_reducible assumption) | assumption)
                have q159 : x5_1 < (l1.length : Int) := of_decide_eq_true (by first | (with_reducible assumption) | assumption)
                obtain ⟨ad159, e159, hx159_0⟩ := Kd.at_int HR1.out x5_1 p159 q159
                cases e159
                replace p159 := eq_true p159
                replace q159 := eq_true q159
                go_wp2
                repeat (go_quiet (fail); try go_wp2)
                go_ret
                exact ⟨by first | rfl | (simp; done) | (simp [*]; done), by repeat (first | exact Drawn0.refl _ | apply Drawn0.step)⟩
            · rw [if_neg c6] at H
              exact absurd H (by simp)
          · rw [if_neg c5] at H
            exact absurd H (by simp)
        · rw [if_neg c4] at H
          have c4b0 : decide (x5_1 < (l0.length : Int)) = false := decide_eq_false c4
          clear c4
          obtain rfl := Option.some.inj H
          go_wp2
          repeat (go_quiet (fail); try go_wp2)
          go_ret
          exact ⟨by first | rfl | (simp; done) | (simp [*]; done), by repeat (first | exact Drawn0.refl _ | apply Drawn0.step)⟩
  · rw [if_neg c3] at H
    have c3b0 : ((l0.length : Int) == (l1.length : Int)) = false := beq_eq_false_iff_ne.mpr c3
    have c3b1 : ((l0.length : Int) != (l1.length : Int)) = true := bne_iff_ne.mpr c3
    have c3b2 : (l0.length == l1.length) = false := by first | simpa using c3 | (simp at c3 ⊢; omega)
    obtain rfl := Option.some.inj H
    go_enter Try.func12, Try.ntmps12
    go_wp2
    repeat (go_quiet (fail); try go_wp2)
    go_ret
    exact ⟨by first | rfl | (simp; done) | (simp [*]; done), by repeat (first | exact Drawn0.refl _ | apply Drawn0.step)⟩
end Go.Proofs.Ytbaldkcnipmdjaa.P
namespace Go.Proofs.Ytbaldkcnipmdjaa.P
open Go.RowKit Go.Proofs.YtbaldkcnipmdjaaW.PrintWords Go.Proofs.YtbaldkcnipmdjaaW.PrintLast Go.Proofs.YtbaldkcnipmdjaaW.PrintMore Go.Proofs.YtbaldkcnipmdjaaW.HB
set_option linter.unusedVariables false
set_option linter.unusedSimpArgs false
theorem C_litT (T : TypeId) (w : World) (xs : List Int) (hl : xs.length ≤ 1000) : Kd.C (Kd.int .i64) (w.alloc (.cells (xs.map (Value.int .i64)).toArray T)) (some ⟨w.heap.size, 0, none⟩) xs.length xs := by
  have h := World.ownsRow_lit (e := T) (base := 0) (size := 1) w (xs.map (Value.int .i64)).toArray xs.length (Nat.zero_le _) (by simp [maxLen]; omega) (by simp)
  have h2 : (w.alloc (.cells (xs.map (Value.int .i64)).toArray T)).ownsRow 0 T 1 (.slice (some ⟨w.heap.size, 0, none⟩) xs.length xs.length) xs.length (xs.map (Value.int .i64)) := by simpa using h
  exact (Kd.R_reads' (R_of_own (ok := fun _ => True) (fun _ _ => trivial) h2)).2.2
theorem lit_a (T : TypeId) (w : World) : Kd.C (Kd.int .i64) (w.alloc (.cells #[.int .i64 0, .int .i64 0] T)) (some ⟨w.heap.size, 0, none⟩) 2 [0, 0] := C_litT T w [0, 0] (by decide)
theorem lit_b (T : TypeId) (w : World) : Kd.C (Kd.int .i64) (w.alloc (.cells #[.int .i64 65536, .int .i64 65536] T)) (some ⟨w.heap.size, 0, none⟩) 2 [65536, 65536] := C_litT T w [65536, 65536] (by decide)
theorem lit_c (T : TypeId) (w : World) : Kd.C (Kd.int .i64) (w.alloc (.cells #[.int .i64 0, .int .i64 1] T)) (some ⟨w.heap.size, 0, none⟩) 2 [0, 1] := C_litT T w [0, 1] (by decide)
theorem lit_d (T : TypeId) (w : World) : Kd.C (Kd.int .i64) (w.alloc (.cells #[.int .i64 0, .int .i64 0, .int .i64 1, .int .i64 1] T)) (some ⟨w.heap.size, 0, none⟩) 4 [0, 0, 1, 1] := C_litT T w [0, 0, 1, 1] (by decide)
theorem lit_e (T : TypeId) (w : World) : Kd.C (Kd.int .i64) (w.alloc (.cells #[.int .i64 1, .int .i64 0, .int .i64 0, .int .i64 0] T)) (some ⟨w.heap.size, 0, none⟩) 4 [1, 0, 0, 0] := C_litT T w [1, 0, 0, 0] (by decide)
theorem lit_f (T : TypeId) (w : World) : Kd.C (Kd.int .i64) (w.alloc (.cells #[.int .i64 0] T)) (some ⟨w.heap.size, 0, none⟩) 1 [0] := C_litT T w [0] (by decide)
theorem lit_g (T : TypeId) (w : World) : Kd.C (Kd.int .i64) (w.alloc (.cells #[.int .i64 3, .int .i64 1, .int .i64 3] T)) (some ⟨w.heap.size, 0, none⟩) 3 [3, 1, 3] := C_litT T w [3, 1, 3] (by decide)
theorem lit_h (T : TypeId) (w : World) : Kd.C (Kd.int .i64) (w.alloc (.cells #[.int .i64 1, .int .i64 3] T)) (some ⟨w.heap.size, 0, none⟩) 2 [1, 3] := C_litT T w [1, 3] (by decide)
theorem alloc_sz (w : World) (o : Obj) : (w.alloc o).heap.size = w.heap.size + 1 := Array.size_push _
theorem aw_p0 : rule_Place.f [0, 0] [65536, 65536] 7 2 2 = some (plS [0, 0] [65536, 65536] 7 2 2) := if_pos (by decide)
theorem aw_p1 : rule_Place.f [0, 1] [65536, 65536] 7 1 1 = some (plS [0, 1] [65536, 65536] 7 1 1) := if_pos (by decide)
theorem aw_p2 : rule_Place.f [0] [] 1 1 1 = some [] := (if_pos (by decide)).trans (by rw [aw_n])
theorem aw_hf : rule_Hosts.f [3, 1, 3] = some [1, 3] := by unfold rule_Hosts.f; rw [if_pos (by decide), aw_h]
theorem aw_i : reeflaw12_ints.f 5 [1, 3] [1, 3] = some true := by kernel_rfl
def reeflaw12_awake.f : Option Bool := some true
theorem aw_c0 (T U : TypeId) (w : World) : Calls Try.prog 15 #[.slice (some ⟨w.heap.size, 0, none⟩) 2 2, .slice (some ⟨w.heap.size + 1, 0, none⟩) 2 2, .int .u32 7, .int .i64 2, .int .i64 2] ((w.alloc (.cells #[.int .i64 0, .int .i64 0] T)).alloc (.cells #[.int .i64 65536, .int .i64 65536] U)) fun e w' => ∃ A c, e = .returned (.slice A 1 c) ∧ Below w.heap.size w w' := by
  have h0 := aw_0
  have hp := aw_p0
  generalize plS [0, 0] [65536, 65536] 7 2 2 = p at *
  have h := rule_Place.calls _ 2 [0, 0] _ 2 [65536, 65536] 7 2 2 p _ (Kd.C_alloc (lit_a T w) _) (by decide) (alloc_sz w _ ▸ lit_b U _) (by decide) hp
  refine h.mono ?_
  rintro e w1 ⟨v, rfl, hR, hW⟩
  obtain ⟨A, c, rfl⟩ := Kd.R_slice hR
  exact ⟨A, c, by rw [h0], below_step (below_alloc (below_alloc (Below.refl w.heap.size w) _) _) hW⟩
theorem aw_c1 (T U : TypeId) (w : World) : Calls Try.prog 15 #[.slice (some ⟨w.heap.size, 0, none⟩) 2 2, .slice (some ⟨w.heap.size + 1, 0, none⟩) 2 2, .int .u32 7, .int .i64 1, .int .i64 1] ((w.alloc (.cells #[.int .i64 0, .int .i64 1] T)).alloc (.cells #[.int .i64 65536, .int .i64 65536] U)) fun e w' => ∃ A c, e = .returned (.slice A 1 c) ∧ Below w.heap.size w w' := by
  have h0 := aw_1
  have hp := aw_p1
  generalize plS [0, 1] [65536, 65536] 7 1 1 = p at *
  have h := rule_Place.calls _ 2 [0, 1] _ 2 [65536, 65536] 7 1 1 p _ (Kd.C_alloc (lit_c T w) _) (by decide) (alloc_sz w _ ▸ lit_b U _) (by decide) hp
  refine h.mono ?_
  rintro e w1 ⟨v, rfl, hR, hW⟩
  obtain ⟨A, c, rfl⟩ := Kd.R_slice hR
  exact ⟨A, c, by rw [h0], below_step (below_alloc (below_alloc (Below.refl w.heap.size w) _) _) hW⟩
theorem aw_c2 (T U : TypeId) (w : World) : Calls Try.prog 20 #[.slice (some ⟨w.heap.size, 0, none⟩) 4 4, .slice (some ⟨w.heap.size + 1, 0, none⟩) 4 4, .int .i64 2, .int .i64 1] ((w.alloc (.cells #[.int .i64 0, .int .i64 0, .int .i64 1, .int .i64 1] T)).alloc (.cells #[.int .i64 1, .int .i64 0, .int .i64 0, .int .i64 0] U)) fun e w' => e = .returned (.int .i64 1) ∧ Below w.heap.size w w' := by
  have h := rule_Most.calls 20 _ 4 [0, 0, 1, 1] _ 4 [1, 0, 0, 0] 2 1 1 _ (Kd.C_alloc (lit_d T w) _) (by decide) (alloc_sz w _ ▸ lit_e U _) (by decide) aw_m
  refine h.mono ?_
  rintro e w1 ⟨rfl, hW⟩
  exact ⟨rfl, below_step (below_alloc (below_alloc (Below.refl w.heap.size w) _) _) hW⟩
theorem aw_c3 (T : TypeId) (w : World) : Calls Try.prog 15 #[.slice (some ⟨w.heap.size, 0, none⟩) 1 1, .slice none 0 0, .int .u32 1, .int .i64 1, .int .i64 1] (w.alloc (.cells #[.int .i64 0] T)) fun e w' => ∃ A c, e = .returned (.slice A 0 c) ∧ Below w.heap.size w w' := by
  have h := rule_Place.calls _ 1 [0] _ 0 [] 1 1 1 [] _ (lit_f T w) (by decide) (Kd.C_nil _ _) (by decide) aw_p2
  refine h.mono ?_
  rintro e w1 ⟨v, rfl, hR, hW⟩
  obtain ⟨A, c, rfl⟩ := Kd.R_slice hR
  exact ⟨A, c, rfl, below_step (below_alloc (Below.refl w.heap.size w) _) hW⟩
theorem aw_c4 (T : TypeId) (w : World) : Calls Try.prog 13 #[.slice (some ⟨w.heap.size, 0, none⟩) 3 3] (w.alloc (.cells #[.int .i64 3, .int .i64 1, .int .i64 3] T)) fun e w' => ∃ A c, e = .returned (.slice A 2 c) ∧ 2 ≤ c ∧ Kd.C (Kd.int .i64) w' A 2 [1, 3] ∧ Below w.heap.size w w' := by
  have h := rule_Hosts.calls _ 3 [3, 1, 3] [1, 3] _ (lit_g T w) (by decide) aw_hf
  refine h.mono ?_
  rintro e w1 ⟨v, rfl, hR, hW⟩
  obtain ⟨A, c, rfl⟩ := Kd.R_slice hR
  exact ⟨A, c, rfl, (Kd.R_reads' hR).2.1, (Kd.R_reads' hR).2.2, below_step (below_alloc (Below.refl w.heap.size w) _) hW⟩
theorem aw_c5 (T : TypeId) (A : Option Addr) (c : Nat) (hc : 2 ≤ c) (w : World) (hC : Kd.C (Kd.int .i64) w A 2 [1, 3]) : Calls Try.prog 12 #[.slice A 2 c, .slice (some ⟨w.heap.size, 0, none⟩) 2 2] (w.alloc (.cells #[.int .i64 1, .int .i64 3] T)) fun e w' => e = .returned (.bool true) ∧ Below w.heap.size w w' := by
  have h := reeflaw12_ints.calls 5 A c [1, 3] _ 2 [1, 3] true _ (Kd.C_alloc hC _) hc (lit_h T w) (by decide) aw_i
  refine h.mono ?_
  rintro e w1 ⟨rfl, hW⟩
  exact ⟨rfl, below_step (below_alloc (Below.refl w.heap.size w) _) hW.below⟩
end Go.Proofs.Ytbaldkcnipmdjaa.P
namespace Go.Proofs.Ytbaldkcnipmdjaa.P
open Go.RowKit Go.Proofs.YtbaldkcnipmdjaaW.PrintWords Go.Proofs.YtbaldkcnipmdjaaW.PrintLast Go.Proofs.YtbaldkcnipmdjaaW.PrintMore Go.Proofs.YtbaldkcnipmdjaaW.HB
set_option linter.unusedVariables false
set_option linter.unusedSimpArgs false
set_option maxRecDepth 100000 in
set_option maxHeartbeats 1000000 in
theorem reeflaw12_awake.calls (r : Bool) (w : World) (h : reeflaw12_awake.f = some r) : Calls Try.prog 17 #[] w fun e w' => e = .returned (.bool r) ∧ Below w.heap.size w w' := by
  obtain rfl := Option.some.inj h
  clear h
  have B0 := Below.refl w.heap.size w
  go_enter Try.func17, Try.ntmps17
  go_wp2_with (first
    | (go_at_call 15; have H := B0; clear B0; refine (aw_c0 _ _ _).mono ?_; rintro e w1 ⟨Aa, ca, rfl, hW⟩; have B1 := below_step H hW; clear H hW)
    | (go_at_call 15; have H := B1; clear B1; refine (aw_c1 _ _ _).mono ?_; rintro e w2 ⟨Ab, cb, rfl, hW⟩; have B2 := below_step H hW; clear H hW)
    | (go_at_call 20; have H := B2; clear B2; refine (aw_c2 _ _ _).mono ?_; rintro e w3 ⟨rfl, hW⟩; have B3 := below_step H hW; clear H hW)
    | (go_at_call 15; have H := B3; clear B3; refine (aw_c3 _ _).mono ?_; rintro e w4 ⟨Ac, cc, rfl, hW⟩; have B4 := below_step H hW; clear H hW)
    | (go_at_call 13; have H := B4; clear B4; refine (aw_c4 _ _).mono ?_; rintro e w5 ⟨Ad, cd, rfl, K5, C5, hW⟩; have B5 := below_step H hW; clear H hW)
    | (go_at_call 12; have H := B5; clear B5; refine (aw_c5 _ _ _ K5 _ C5).mono ?_; rintro e w6 ⟨rfl, hW⟩; have B6 := below_step H hW; clear H hW))
  go_ret
  exact ⟨rfl, B6⟩
end Go.Proofs.Ytbaldkcnipmdjaa.P
namespace Go.Proofs.Ytbaldkcnipmdjaa.P
open Go.RowKit Go.Proofs.YtbaldkcnipmdjaaW.PrintWords Go.Proofs.YtbaldkcnipmdjaaW.PrintLast Go.Proofs.YtbaldkcnipmdjaaW.PrintMore Go.Proofs.YtbaldkcnipmdjaaW.HB
set_option linter.unusedVariables false
set_option linter.unusedSimpArgs false
end Go.Proofs.Ytbaldkcnipmdjaa.P
namespace Go.Proofs.Ytbaldkcnipmdjaa.P
open Go.RowKit Go.Proofs.YtbaldkcnipmdjaaW.PrintWords Go.Proofs.YtbaldkcnipmdjaaW.PrintLast Go.Proofs.YtbaldkcnipmdjaaW.PrintMore Go.Proofs.YtbaldkcnipmdjaaW.HB
set_option linter.unusedVariables false
set_option linter.unusedSimpArgs false
theorem strawsL_wt (l : List S31) (x r : Int) : ∀ n, ∀ s ∈ strawsL l x r n, 1 ≤ wtI (rd_T31 l s.place)
  | 0, s, h => by simp [strawsL] at h
  | n + 1, s, h => by
    unfold strawsL at h
    split at h
    · rename_i hw
      rcases List.mem_append.1 h with h | h
      · exact strawsL_wt l x r n s h
      · simp at h; subst h; exact hw
    · exact strawsL_wt l x r n s h
theorem choose_wt (l : List S31) (x r : Int) (h : (chooseS l x r).2 = true) : 1 ≤ wtI (rd_T31 l (chooseS l x r).1) := by
  unfold chooseS at *
  cases hb : bestL (strawsL l x r l.length) with
  | none => rw [hb] at h; cases h
  | some s => exact strawsL_wt l x r _ s (bestL_mem _ _ hb)
theorem tries_wt (hs ws : List Int) (x : Int) : ∀ v ∈ triesL (itemsS hs ws) (nodesS hs ws) x, 1 ≤ weightS ws v := by
  have h1 : ∀ r v, tryN (itemsS hs ws) (nodesS hs ws) x r = some v → 1 ≤ weightS ws v := by
    intro r v h
    unfold tryN at h
    split at h
    · rename_i hok
      have hlt := choose_lt _ x _ hok
      have hwt := choose_wt _ x _ hok
      generalize (chooseS (nodesS hs ws _) x (r + 64)).1 = k at *
      obtain ⟨k, rfl⟩ : ∃ n : Nat, k = n := ⟨k.toNat, by omega⟩
      rw [rd_IT _ k (by omega)] at h hwt
      obtain rfl := Option.some.inj h
      have hk : k < (nodesS hs ws (rd_T31 (itemsS hs ws) (chooseS (itemsS hs ws) x r).1).f0).length := by omega
      have := nodesN_mem hs ws _ hs.length _ (List.getElem_mem hk)
      unfold wtI mn at hwt
      have h2 := this.2.2.1
      rw [← h2]
      split at hwt <;> omega
    · cases h
  have h2 : ∀ n, ∀ v ∈ trL (itemsS hs ws) (nodesS hs ws) x n, 1 ≤ weightS ws v := by
    intro n
    induction n with
    | zero => intro v h; simp [trL] at h
    | succ n ih =>
      intro v h
      unfold trL at h
      split at h
      · rename_i u hu
        rcases List.mem_append.1 h with h | h
        · exact ih v h
        · simp at h; subst h; exact h1 _ _ hu
      · exact ih v h
  intro v h
  unfold triesL at h
  split at h
  · exact h2 64 v h
  · cases h
theorem pl_sub (hs ws : List Int) (x size kind : Int) : ∀ v ∈ plS hs ws x size kind, (0 ≤ v ∧ v < hs.length) ∧ 1 ≤ weightS ws v := by
  intro v hv
  unfold plS placeS at hv
  split at hv
  · cases hv
  · have := place_sub hs kind size _ v hv
    exact ⟨tries_valid hs ws x v this, tries_wt hs ws x v this⟩
theorem pl_len (hs ws : List Int) (x size kind : Int) : ((plS hs ws x size kind).length : Int) ≤ mx size 0 := by
  unfold plS placeS mx
  split
  · simp; split <;> omega
  · have := place_max hs kind size (by omega) (triesL (itemsS hs ws) (nodesS hs ws) x)
    split <;> omega
end Go.Proofs.Ytbaldkcnipmdjaa.P
namespace Go.Proofs.Ytbaldkcnipmdjaa.P
open Go.RowKit Go.Proofs.YtbaldkcnipmdjaaW.PrintWords Go.Proofs.YtbaldkcnipmdjaaW.PrintLast Go.Proofs.YtbaldkcnipmdjaaW.PrintMore Go.Proofs.YtbaldkcnipmdjaaW.HB
set_option linter.unusedVariables false
set_option linter.unusedSimpArgs false
end Go.Proofs.Ytbaldkcnipmdjaa.P
namespace Go.Proofs.Ytbaldkcnipmdjaa.P
open Go.RowKit Go.Proofs.YtbaldkcnipmdjaaW.PrintWords Go.Proofs.YtbaldkcnipmdjaaW.PrintLast Go.Proofs.YtbaldkcnipmdjaaW.PrintMore
attribute [local go_sem] max2_int min2_int max_two min_two max_three min_three max_four min_four
set_option linter.unusedVariables false
set_option linter.unusedSimpArgs false
mutual
def rule_Load.l0 : Nat → List Int → List Int → Int → Int → Int → List Int → Int → Int → Option (List Int)
  | 0, _, _, _, _, _, _, _, _ => none
  | k + 1, x0, x1, x2, x4, x5, x13, x22, x23 => if x23 < x22 then ((rule_Place.f x0 x1 ((x2 + ((x23) % 4294967296)) % 4294967296) x4 x5).bind fun t142 => (rule_Load.l1 k x0 x1 x2 x4 x5 x13 x22 x23 t142 (t142.length : Int) 0)) else (some x13)
def rule_Load.l1 : Nat → List Int → List Int → Int → Int → Int → List Int → Int → Int → List Int → Int → Int → Option (List Int)
  | 0, _, _, _, _, _, _, _, _, _, _, _ => none
  | k + 1, x0, x1, x2, x4, x5, x13, x22, x23, x34, x35, x36 => if x36 < x35 then (if 0 ≤ x36 then (if x36 < (x34.length : Int) then (if 0 ≤ (rd x34 x36) then (if (rd x34 x36) < (x13.length : Int) then (rule_Load.l1 k x0 x1 x2 x4 x5 (x13.set ((rd x34 x36) : Int).toNat (wrap64 ((rd x13 (rd x34 x36)) + 1))) x22 x23 x34 x35 (wrap64 (x36 + 1))) else (none)) else (none)) else (none)) else (none)) else (rule_Load.l0 k x0 x1 x2 x4 x5 x13 x22 (wrap64 (x23 + 1)))
end
def rule_Load.f (k : Nat) (l0 : List Int) (l1 : List Int) (a2 : Int) (a3 : Int) (a4 : Int) (a5 : Int) : Option (List Int) := if 0 ≤ (l0.length : Int) then (if ((l0.length : Int) : Int).toNat ≤ 35184372088832 then (rule_Load.l0 k l0 l1 a2 a4 a5 (List.replicate ((l0.length : Int) : Int).toNat 0) (mn (mx a3 0) 2000) 0) else (none)) else (none)
set_option maxHeartbeats 8000000 in
set_option maxRecDepth 100000 in
theorem rule_Load.calls (k : Nat) (A0 : Option Addr) (c0 : Nat) (l0 : List Int) (A1 : Option Addr) (c1 : Nat) (l1 : List Int) (a2 : Int) (a3 : Int) (a4 : Int) (a5 : Int) (r : List Int) (w : World) (hr0 : Kd.C (Kd.int .i64) w A0 l0.length l0) (hc0 : l0.length ≤ c0) (hr1 : Kd.C (Kd.int .i64) w A1 l1.length l1) (hc1 : l1.length ≤ c1) (h : rule_Load.f k l0 l1 a2 a3 a4 a5 = some r) :
    Calls Try.prog 22 #[.slice A0 l0.length c0, .slice A1 l1.length c1, .int .u32 a2, .int .i64 a3, .int .i64 a4, .int .i64 a5] w fun e w' => ∃ v0_ : Value, e = .returned (v0_) ∧ Kd.R (Kd.int .i64) 3 w' w.heap.size (fun _ => True) v0_ r ∧ Below w.heap.size w w' := by
  have HR0 := Aside0.mk hr0
  have HC0 := Aside0.mk hc0
  clear hr0 hc0
  have HR1 := Aside0.mk hr1
  have HC1 := Aside0.mk hc1
  clear hr1 hc1
  have HB := Aside0.mk (Below.refl w.heap.size w)
  have H : (if 0 ≤ (l0.length : Int) then (if ((l0.length : Int) : Int).toNat ≤ 35184372088832 then (rule_Load.l0 k l0 l1 a2 a4 a5 (List.replicate ((l0.length : Int) : Int).toNat 0) (mn (mx a3 0) 2000) 0) else (none)) else (none)) = some r := h
  clear h
  by_cases c7 : 0 ≤ (l0.length : Int)
  · rw [if_pos c7] at H
    have c7b0 := eq_true c7
    have c7b1 : decide (0 ≤ (l0.length : Int)) = true := decide_eq_true c7
    clear c7
    by_cases c8 : ((l0.length : Int) : Int).toNat ≤ 35184372088832
    · rw [if_pos c8] at H
      have c8b0 := eq_true c8
      have c8b1 : decide (((l0.length : Int) : Int).toNat ≤ 35184372088832) = true := decide_eq_true c8
      clear c8
      obtain ⟨y139, hy139⟩ : ∃ y_ : List Int, y_ = (List.replicate ((l0.length : Int) : Int).toNat 0) := ⟨_, rfl⟩
      replace H : (rule_Load.l0 k l0 l1 a2 a4 a5 y139 (mn (mx a3 0) 2000) 0) = some r := by first | (rw [hy139]; with_reducible exact H) | (have H2_ := (Option.bind_some _ _).symm.trans H; rw [hy139]; with_reducible exact H2_) | (have H2_ := (Option.bind_some _ _).symm.trans H; with_reducible exact H2_) | with_reducible exact H | (rw [hy139]; exact H) | exact H
      have Ny139 := Aside0.mk hy139
      clear hy139
      obtain ⟨ji9, hji9⟩ : ∃ j_ : Int, (mx a3 0) = j_ := ⟨_, rfl⟩
      replace H : (rule_Load.l0 k l0 l1 a2 a4 a5 y139 (mn (ji9) 2000) 0) = some r := by first | (rw [hji9] at H; exact H) | (simp only [hji9] at H ⊢; exact H)
      (try (have hji9l : 0 ≤ ji9 := by (rw [← hji9]; unfold mx; (repeat' split) <;> omega)))
      (try (have hji9m : 0 ≤ ji9 := by omega))
      have hji9_ : (if a3 < 0 then 0 else a3) = ji9 := hji9
      obtain ⟨ji10, hji10⟩ : ∃ j_ : Int, (mn (ji9) 2000) = j_ := ⟨_, rfl⟩
      replace H : (rule_Load.l0 k l0 l1 a2 a4 a5 y139 ji10 0) = some r := by first | (rw [hji10] at H; exact H) | (simp only [hji10] at H ⊢; exact H)
      have hji10_ : (if 2000 < (ji9) then 2000 else (ji9)) = ji10 := hji10
      have H' := Aside0.mk H
      clear H
      go_enter Try.func22, Try.ntmps22
      go_wp2_with (first | ((with_reducible refine gate_dst (N := 19) rfl ?_); refine Kd.R_make (Kd.int .i64) _ 3 rfl (N := 19) rfl 22 _ _ rfl (l0.length : Int) rfl rfl Try.underlying22 (.int .i64 0) 8 info3 rfl (by decide) (by omega) 0 (ok := fun _ => True) (okp := fun _ => True) rfl (fun _ hk => hk) trivial (of_decide_eq_true (by first | (with_reducible assumption) | assumption)) (Nat.le_trans (Nat.mul_le_mul_right _ (of_decide_eq_true (by first | (with_reducible assumption) | assumption) : (l0.length : Int).toNat ≤ 35184372088832)) (by omega)) (Below.refl _ _) (Nat.le_refl _) ?_; intro v140 w11 ho12 hb hg_ hnew_; clear hg_ hnew_; (first | rw [← Ny139.out] at ho12 | (simp only [Int.reduceToNat] at ho12; rw [← Ny139.out] at ho12)); have n0_ := Aside0.mk (Kd.R_lower ho12 (below_size (by repeat (first | (with_reducible first | exact HB.out | apply below_alloc | apply pw_below_drewN | apply below_drew1) | exact HB.out)))); have n1_ := Aside0.mk (below_step (by repeat (first | (with_reducible first | exact HB.out | apply below_alloc | apply pw_below_drewN | apply below_drew1) | exact HB.out)) hb); clear HB; have HO141 := n0_; have HB := n1_; clear n0_ n1_; clear hb ho12))
      go_loopg [23] k (fun kq v23 w' => ∃ (x13_1 : List Int) (x23_1 : Int), v23 = .int .i64 x23_1 ∧ Aside0 (rule_Load.l0 kq l0 l1 a2 a4 a5 x13_1 ji10 x23_1 = some r) ∧ Aside0 (kq ≤ k) ∧ Aside0 (Kd.R (Kd.int .i64) 3 w' w.heap.size (fun _ => True) v140 x13_1) ∧ Aside0 (Below w.heap.size w w'))
      case atStart => exact ⟨(y139), (0), (by first | rfl | (simp; done) | (simp [*]; done)), H', ⟨Nat.le_refl _⟩, ⟨by (with_reducible repeat (first | apply Kd.R_alloc | apply Kd.R_drewN | apply Kd.R_drew)); exact HO141.out⟩, ⟨by repeat (first | (with_reducible first | exact HB.out | apply below_alloc | apply pw_below_drewN | apply below_drew1) | exact HB.out)⟩⟩
      case round =>
        clear H'
        try clear c1
        try clear c2
        try clear p2
        try clear c7
        try clear c7b0
        try clear c7b1
        try clear c8
        try clear c8b0
        try clear c8b1
        obtain ⟨x13_1, x23_1, rfl, HA, HK1, HO_13, HB⟩ := hrel
        cases gk with
        | zero => exact absurd HA.out (by simp [rule_Load.l0])
        | succ k1 =>
          have H := HA.out
          clear HA
          simp only [rule_Load.l0] at H
          by_cases c13 : x23_1 < ji10
          · rw [if_pos c13] at H
            have c13b0 : decide (x23_1 < ji10) = true := decide_eq_true c13
            clear c13
            replace H := Option.bind_eq_some_iff.mp H
            obtain ⟨t142, A140, H⟩ := H
            replace H : (rule_Load.l1 k1 l0 l1 a2 a4 a5 x13_1 ji10 x23_1 t142 (t142.length : Int) 0) = some r := H
            have A14 := Aside0.mk A140
            clear A140
            have H' := Aside0.mk H
            clear H
            go_wp2_with (first | ((with_reducible refine gate_callee (f := 15) rfl ?_); refine goesL_ (some 34) rfl rfl Try.func15 (by kernel_rfl) rfl #[.slice A0 l0.length c0, .slice A1 l1.length c1, .int .u32 ((a2 + ((x23_1) % 4294967296)) % 4294967296), .int .i64 a4, .int .i64 a5] rfl (by (try simp only [List.map_toArray, List.map_cons, List.map_nil]); first | done | rfl | (simp only [List.length_drop, List.length_take]; rfl)) ?_; (with_reducible refine (rule_Place.calls _ _ l0 _ _ l1 ((a2 + ((x23_1) % 4294967296)) % 4294967296) a4 a5 t142 _ ?side1 ?side2 ?side3 ?side4 A14.out).mono ?_); (case side1 => repeat (first | exact (Kd.C_below HR0.out HB.out) | (with_reducible refine Kd.C_alloc ?_ _) | (with_reducible refine Kd.C_drewN ?_ _) | (with_reducible refine Kd.C_drew ?_))); (case side2 => exact HC0.out); (case side3 => repeat (first | exact (Kd.C_below HR1.out HB.out) | (with_reducible refine Kd.C_alloc ?_ _) | (with_reducible refine Kd.C_drewN ?_ _) | (with_reducible refine Kd.C_drew ?_))); (case side4 => exact HC1.out); rintro e w15 ⟨v143, rfl, ho0, hb⟩; refine ⟨_, rfl, ?_⟩; have n0_ := Aside0.mk (Kd.R_elder' (by (with_reducible repeat (first | apply Kd.R_alloc | apply Kd.R_drewN | apply Kd.R_drew)); exact HO_13.out) (Kd.R_base ho0) hb); have n1_ := Aside0.mk (Kd.R_lower (Kd.R_new' ho0 (Kd.R_lt (by (with_reducible repeat (first | apply Kd.R_alloc | apply Kd.R_drewN | apply Kd.R_drew)); exact HO_13.out))) (below_size (by repeat (first | (with_reducible first | exact HB.out | apply below_alloc | apply pw_below_drewN | apply below_drew1) | exact HB.out)))); have n2_ := Aside0.mk (below_step (by repeat (first | (with_reducible first | exact HB.out | apply below_alloc | apply pw_below_drewN | apply below_drew1) | exact HB.out)) hb); clear HO_13; clear HB; have HO_13 := n0_; have HO144 := n1_; have HB := n2_; clear n0_ n1_ n2_; (try clear hb); (try clear hb2); (try clear hk); (try clear hi); (try clear ho0); obtain ⟨Ao16, co16, eo16⟩ := Kd.R_slice HO144.out; subst eo16))
            go_loopg [36] k1 (fun kq v36 w' => ∃ (x13_2 : List Int) (x36_2 : Int), v36 = .int .i64 x36_2 ∧ Aside0 (rule_Load.l1 kq l0 l1 a2 a4 a5 x13_2 ji10 x23_1 t142 (t142.length : Int) x36_2 = some r) ∧ Aside0 (kq ≤ k1) ∧ Aside0 (Kd.R (Kd.int .i64) 3 w' w.heap.size (fun k_ => some k_ ≠ ((.slice Ao16 t142.length co16) : Value).ownBlock) v140 x13_2) ∧ Aside0 (Kd.R (Kd.int .i64) 3 w' w.heap.size (fun k_ => some k_ ≠ (v140 : Value).ownBlock) (.slice Ao16 t142.length co16) t142) ∧ Aside0 (Below w.heap.size w w'))
            case atStart => exact ⟨(x13_1), (0), (by first | rfl | (simp; done) | (simp [*]; done)), H', ⟨Nat.le_refl _⟩, ⟨by (with_reducible repeat (first | apply Kd.R_alloc | apply Kd.R_drewN | apply Kd.R_drew)); exact Kd.R_mono HO_13.out (fun _ hk => hk.2)⟩, ⟨by (with_reducible repeat (first | apply Kd.R_alloc | apply Kd.R_drewN | apply Kd.R_drew)); exact Kd.R_mono HO144.out (fun _ hk => hk.2)⟩, ⟨by repeat (first | (with_reducible first | exact HB.out | apply below_alloc | apply pw_below_drewN | apply below_drew1) | exact HB.out)⟩⟩
            case round =>
              clear H'
              try clear c1
              try clear c2
              try clear p2
              try clear c7
              try clear c7b0
              try clear c7b1
              try clear c8
              try clear c8b0
              try clear c8b1
              try clear c13
              try clear c13b0
              try clear c15
              try clear p2
              obtain ⟨x13_2, x36_2, rfl, HA, HK2, HO_13, HO_34, HB⟩ := hrel
              cases gk with
              | zero => exact absurd HA.out (by simp [rule_Load.l1])
              | succ k2 =>
                have H := HA.out
                clear HA
                simp only [rule_Load.l1] at H
                by_cases c17 : x36_2 < (t142.length : Int)
                · rw [if_pos c17] at H
                  have c17b0 : decide (x36_2 < (t142.length : Int)) = true := decide_eq_true c17
                  clear c17
                  by_cases c18 : 0 ≤ x36_2
                  · rw [if_pos c18] at H
                    have c18b0 : decide (0 ≤ x36_2) = true := decide_eq_true c18
                    clear c18
                    by_cases c19 : x36_2 < (t142.length : Int)
                    · rw [if_pos c19] at H
                      have c19b0 : decide (x36_2 < (t142.length : Int)) = true := decide_eq_true c19
                      clear c19
                      by_cases c20 : 0 ≤ (rd t142 x36_2)
                      · rw [if_pos c20] at H
                        have c20b0 : decide (0 ≤ (rd t142 x36_2)) = true := decide_eq_true c20
                        clear c20
                        by_cases c21 : (rd t142 x36_2) < (x13_2.length : Int)
                        · rw [if_pos c21] at H
                          have c21b0 : decide ((rd t142 x36_2) < (x13_2.length : Int)) = true := decide_eq_true c21
                          clear c21
                          obtain ⟨y147, hy147⟩ : ∃ y_ : List Int, y_ = (x13_2.set ((rd t142 x36_2) : Int).toNat (wrap64 ((rd x13_2 (rd t142 x36_2)) + 1))) := ⟨_, rfl⟩
                          replace H : (rule_Load.l1 k2 l0 l1 a2 a4 a5 y147 ji10 x23_1 t142 (t142.length : Int) (wrap64 (x36_2 + 1))) = some r := by first | (rw [hy147]; with_reducible exact H) | (have H2_ := (Option.bind_some _ _).symm.trans H; rw [hy147]; with_reducible exact H2_) | (have H2_ := (Option.bind_some _ _).symm.trans H; with_reducible exact H2_) | with_reducible exact H | (rw [hy147]; exact H) | exact H
                          have Ny147 := Aside0.mk hy147
                          clear hy147
                          have H' := Aside0.mk H
                          clear H
                          have p145 : 0 ≤ (x36_2 : Int) := of_decide_eq_true (by first | (with_reducible assumption) | assumption)
                          have q145 : x36_2 < (t142.length : Int) := of_decide_eq_true (by first | (with_reducible assumption) | assumption)
                          obtain ⟨ad145, e145, hx145_0⟩ := Kd.at_int (Kd.R_reads' HO_34.out).2.2 x36_2 p145 q145
                          cases e145
                          replace p145 := eq_true p145
                          replace q145 := eq_true q145
                          obtain ⟨Ao23, co23, eo23⟩ := Kd.R_slice HO_13.out
                          subst eo23
                          have p146 : 0 ≤ ((rd t142 x36_2) : Int) := of_decide_eq_true (by first | (with_reducible assumption) | assumption)
                          have q146 : (rd t142 x36_2) < (x13_2.length : Int) := of_decide_eq_true (by first | (with_reducible assumption) | assumption)
                          obtain ⟨ad146, e146, hx146_0⟩ := Kd.at_int (Kd.R_reads' HO_13.out).2.2 (rd t142 x36_2) p146 q146
                          cases e146
                          replace p146 := eq_true p146
                          replace q146 := eq_true q146
                          have p22 : 0 ≤ ((rd t142 x36_2) : Int) := of_decide_eq_true (by first | (with_reducible assumption) | assumption)
                          have q22 : ((rd t142 x36_2) : Int) < ((x13_2.length : Int) : Int) := of_decide_eq_true (by first | (with_reducible assumption) | assumption)
                          obtain ⟨go22, co22, eo22, gb22, gl22, cl22, HG22⟩ := Kd.R_form HO_13.out (by omega)
                          (first | cases eo22 | (injection eo22 with ea_ en_ ec_; (first | subst ea_ | (injection ea_ with ea_; subst ea_)); subst ec_; clear en_))
                          have GB22 := Aside0.mk gb22
                          have GG22 := Aside0.mk HG22
                          clear gb22 gl22 HG22
                          (first | simp only [add_plain] at hx146_0 | skip)
                          obtain ⟨hx22_0, hf22_0⟩ := Kd.R_celln 0 HO_13.out ((rd t142 x36_2) : Int) p22 q22
                          replace p22 := eq_true p22
                          replace q22 := eq_true q22
                          have HP24 := Kd.R_putg HO_13.out ((rd t142 x36_2) : Int) (wrap64 ((rd x13_2 (rd t142 x36_2)) + 1))
                          go_wp2_with (first | ((with_reducible refine gate_store (t := 3) (p := 45) rfl ?_); refine store_event (t := 3) (p := 45) (v := ?vo_w25) (w1 := (wr.setCell ⟨go22, ((rd t142 x36_2) : Int).toNat, none⟩ (.int .i64 (wrap64 ((rd x13_2 (rd t142 x36_2)) + 1))))) ?hg ?ho ?hn ?hr ?_; (case ho => rfl); (case hg => rfl); (case hn => rfl); (case hr => first | (go_simp; done) | (go_simp; rfl)); intro w25 hw; have hg : wr.grownBy w25 (some go22) := (by rw [hw]; exact HP24.2); have hp_ : Kd.R (Kd.int .i64) 3 w25 w.heap.size (fun k_ => some k_ ≠ (.slice (some ad145) t142.length co16 : Value).ownBlock) (.slice (some ⟨go22, 0, none⟩) x13_2.length co23) y147 := (by rw [hw, Ny147.out]; exact HP24.1); clear HP24; have n0_ := Aside0.mk (hp_); have n1_ := Aside0.mk (Kd.R_after (v := (.slice (some ⟨go22, 0, none⟩) x13_2.length co23)) (v1 := (.slice (some ⟨go22, 0, none⟩) x13_2.length co23)) (ok := (fun _ => True)) (by (with_reducible repeat (first | apply Kd.R_alloc | apply Kd.R_drewN | apply Kd.R_drew)); exact Kd.R_mono HO_34.out (fun _ hk => ⟨trivial, hk⟩)) hg (.inl rfl)); have n2_ := Aside0.mk ((by rw [hw]; exact below_set (HB.out) GB22.out : Below w.heap.size w w25)); clear HO_13; clear HO_34; clear HB; have HO_13 := n0_; have HO_34 := n1_; have HB := n2_; clear n0_ n1_ n2_; clear hg hw hp_))
                          go_roundg k2
                          case measure => have := HK1.out; have := HK2.out; omega
                          case rel => exact ⟨(y147), (wrap64 (x36_2 + 1)), (by first | rfl | (simp; done) | (simp [*]; done)), H', ⟨by have := HK1.out; have := HK2.out; omega⟩, ⟨by (with_reducible repeat (first | apply Kd.R_alloc | apply Kd.R_drewN | apply Kd.R_drew)); exact HO_13.out⟩, ⟨by (with_reducible repeat (first | apply Kd.R_alloc | apply Kd.R_drewN | apply Kd.R_drew)); exact Kd.R_mono HO_34.out (fun _ hk => hk.2)⟩, ⟨by repeat (first | (with_reducible first | exact HB.out | apply below_alloc | apply pw_below_drewN | apply below_drew1) | exact HB.out)⟩⟩
                        · rw [if_neg c21] at H
                          exact absurd H (by simp)
                      · rw [if_neg c20] at H
                        exact absurd H (by simp)
                    · rw [if_neg c19] at H
                      exact absurd H (by simp)
                  · rw [if_neg c18] at H
                    exact absurd H (by simp)
                · rw [if_neg c17] at H
                  have c17b0 : decide (x36_2 < (t142.length : Int)) = false := decide_eq_false c17
                  clear c17
                  have H' := Aside0.mk H
                  clear H
                  go_wp2
                  go_roundg k2
                  case measure => have := HK1.out; have := HK2.out; omega
                  case rel => exact ⟨(x13_2), (wrap64 (x23_1 + 1)), (by first | rfl | (simp; done) | (simp [*]; done)), H', ⟨by have := HK1.out; have := HK2.out; omega⟩, ⟨by (with_reducible repeat (first | apply Kd.R_alloc | apply Kd.R_drewN | apply Kd.R_drew)); exact Kd.R_mono HO_13.out (fun _ hk => trivial)⟩, ⟨by repeat (first | (with_reducible first | exact HB.out | apply below_alloc | apply pw_below_drewN | apply below_drew1) | exact HB.out)⟩⟩
          · rw [if_neg c13] at H
            have c13b0 : decide (x23_1 < ji10) = false := decide_eq_false c13
            clear c13
            obtain rfl := Option.some.inj H
            go_wp2
            go_ret
            exact ⟨_, by first | rfl | (simp [errW_none, errW_some] <;> rfl) | (simp only [← hji9, ← hji10]; first | rfl | (simp [errW_none, errW_some] <;> rfl)) | (simp [*, errW_none, errW_some] <;> rfl), by (with_reducible repeat (first | apply Kd.R_alloc | apply Kd.R_drewN | apply Kd.R_drew)); exact HO_13.out, by repeat (first | (with_reducible first | exact HB.out | apply below_alloc | apply pw_below_drewN | apply below_drew1) | exact HB.out)⟩
    · rw [if_neg c8] at H
      exact absurd H (by simp)
  · rw [if_neg c7] at H
    exact absurd H (by simp)
end Go.Proofs.Ytbaldkcnipmdjaa.P
namespace Go.Proofs.Ytbaldkcnipmdjaa.P
open Go.RowKit Go.Proofs.YtbaldkcnipmdjaaW.PrintWords Go.Proofs.YtbaldkcnipmdjaaW.PrintLast Go.Proofs.YtbaldkcnipmdjaaW.PrintMore
attribute [local go_sem] max2_int min2_int max_two min_two max_three min_three max_four min_four
set_option linter.unusedVariables false
set_option linter.unusedSimpArgs false
end Go.Proofs.Ytbaldkcnipmdjaa.P
namespace Go.Proofs.Ytbaldkcnipmdjaa.P
open Go.RowKit Go.Proofs.YtbaldkcnipmdjaaW.PrintWords Go.Proofs.YtbaldkcnipmdjaaW.PrintLast Go.Proofs.YtbaldkcnipmdjaaW.PrintMore
attribute [local go_sem] max2_int min2_int max_two min_two max_three min_three max_four min_four
set_option linter.unusedVariables false
set_option linter.unusedSimpArgs false
end Go.Proofs.Ytbaldkcnipmdjaa.P
