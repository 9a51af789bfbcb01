import Derived.BigRegionIn
import Derived.Test.YtpaapnkpijincaaO1
namespace Go.Proofs.Ytpaapnkpijincaa.P
open Go.RowKit Go.Proofs.YtpaapnkpijincaaW.PrintWords Go.Proofs.YtpaapnkpijincaaW.PrintLast Go.Proofs.YtpaapnkpijincaaW.PrintMore Go.Proofs.YtpaapnkpijincaaW.HB
set_option linter.unusedVariables false
set_option linter.unusedSimpArgs false
attribute [local go_sem] Oper.semAt_some

structure RP where
  f0 : Int
  f1 : Int
def zP : RP := ⟨0, 0⟩
def kP : Kd RP := Kd.iso (Kd.pair (Kd.int .i64) (Kd.int .i64)) (fun x : RP => (x.f0, x.f1))
theorem kP_open {w : World} {x : RP} {cs : List Value} (h : kP.K w x cs) : cs = [.int .i64 x.f0, .int .i64 x.f1] := by
  obtain ⟨_, _, rfl, rfl, rfl⟩ := h
  exact rfl
theorem kP_openM {w : World} {base : Nat} {ok : Nat → Prop} {x : RP} {cs : List Value} (h : kP.M w base ok x cs) : cs = [.int .i64 x.f0, .int .i64 x.f1] := by
  obtain ⟨_, _, rfl, rfl, rfl⟩ := h
  exact rfl
theorem kP_mk (w : World) (x : RP) : kP.K w x [.int .i64 x.f0, .int .i64 x.f1] := ⟨[.int .i64 x.f0], [.int .i64 x.f1], rfl, rfl, rfl⟩
theorem kP_mkM (w : World) (base : Nat) (ok : Nat → Prop) (x : RP) : kP.M w base ok x [.int .i64 x.f0, .int .i64 x.f1] := ⟨[.int .i64 x.f0], [.int .i64 x.f1], rfl, rfl, rfl⟩
def rd_P (xs : List RP) (i : Int) : RP := xs.getD i.toNat zP
theorem rd_at_P (l : List RP) (i : Nat) (h : i < l.length) : rd_P l i = l[i] := by
  simp [rd_P, List.getD_eq_getElem?_getD, List.getElem?_eq_getElem h]
theorem at_P {w : World} {A : Option Addr} {n : Nat} {xs : List RP} (h : Kd.C kP w A n xs) (i : Int) (h0 : 0 ≤ i) (h1 : i < n) : ∃ ad , A = some ad ∧ w.cell? (ad.add (i.toNat * 2)) = some (.int .i64 (rd_P xs i).f0) ∧ w.cell? ⟨(ad.add (i.toNat * 2)).block, (ad.add (i.toNat * 2)).off + 1, none⟩ = some (.int .i64 (rd_P xs i).f1) := by
  obtain ⟨ad, c, e, _, hK, hc0⟩ := Kd.C_get h zP i h0 h1
  have hc : ∀ j u, c[j]? = some u → w.cell? (ad.add (i.toNat * 2 + j)) = some u := hc0
  obtain rfl := kP_open hK
  exact ⟨ad, e, hc 0 _ rfl, by rw [← add_field _ _ 1 (by omega)]; exact hc 1 _ rfl⟩
theorem infoP : (Try.prog.info? 31).map (fun i => (i.zero, i.size, i.bytes)) = some (some (.agg #[(.int .i64 0), (.int .i64 0)]), 2, 16) := by kernel_rfl
def rowStep (out : List RP) (k : Int) : List RP :=
  if 0 < out.length ∧ (rd_P out ((out.length : Int) - 1)).f1 = k then out.set (out.length - 1) ⟨(rd_P out ((out.length : Int) - 1)).f0, (rd_P out ((out.length : Int) - 1)).f1 + 1⟩ else out ++ [⟨k, k + 1⟩]
def rowsOf (ks : List Int) : List RP := ks.foldl rowStep []
theorem rowsOf_snoc (ks : List Int) (v : Int) : rowsOf (ks ++ [v]) = rowStep (rowsOf ks) v := by unfold rowsOf; rw [List.foldl_append]; rfl
theorem rowStep_ok (out : List RP) (v : Int) (n : Nat) (hv : 0 ≤ v ∧ v < 4096) (h1 : out.length ≤ n) (h2 : ∀ x ∈ out, 0 ≤ x.f0 ∧ x.f1 ≤ 4096 ∧ 0 ≤ x.f1) : (rowStep out v).length ≤ n + 1 ∧ ∀ x ∈ rowStep out v, 0 ≤ x.f0 ∧ x.f1 ≤ 4096 ∧ 0 ≤ x.f1 := by
  unfold rowStep
  split
  · rename_i h
    refine ⟨by rw [List.length_set]; omega, fun x hx => ?_⟩
    rcases List.mem_or_eq_of_mem_set hx with hx | rfl
    · exact h2 x hx
    · have hm : rd_P out ((out.length : Int) - 1) ∈ out := by
        have : ((out.length : Int) - 1) = ((out.length - 1 : Nat) : Int) := by omega
        rw [this, rd_at_P _ _ (by omega)]; exact List.getElem_mem _
      have := h2 _ hm
      dsimp only
      omega
  · refine ⟨by simp; omega, fun x hx => ?_⟩
    rcases List.mem_append.1 hx with hx | hx
    · exact h2 x hx
    · simp at hx; subst hx; dsimp only; omega
theorem rowsOf_ok (ks : List Int) (hk : ∀ k ∈ ks, 0 ≤ k ∧ k < 4096) : (rowsOf ks).length ≤ ks.length ∧ ∀ x ∈ rowsOf ks, 0 ≤ x.f0 ∧ x.f1 ≤ 4096 ∧ 0 ≤ x.f1 := by
  suffices h : ∀ (l : List Int) (out : List RP) (n : Nat), (∀ k ∈ l, 0 ≤ k ∧ k < 4096) → out.length ≤ n → (∀ x ∈ out, 0 ≤ x.f0 ∧ x.f1 ≤ 4096 ∧ 0 ≤ x.f1) → (l.foldl rowStep out).length ≤ n + l.length ∧ ∀ x ∈ l.foldl rowStep out, 0 ≤ x.f0 ∧ x.f1 ≤ 4096 ∧ 0 ≤ x.f1 by
    have := h ks [] 0 hk (Nat.le_refl _) (by simp)
    rw [Nat.zero_add] at this
    exact this
  intro l
  induction l with
  | nil => intro out n _ h1 h2; exact ⟨h1, h2⟩
  | cons x l ih =>
    intro out n hl h1 h2
    obtain ⟨s1, s2⟩ := rowStep_ok out x n (hl x (by simp)) h1 h2
    obtain ⟨r1, r2⟩ := ih (rowStep out x) (n + 1) (fun k hk => hl k (by simp [hk])) s1 s2
    rw [List.foldl_cons, List.length_cons]
    exact ⟨by omega, r2⟩
def objmap_Rows.f (m : ByteArray) : Option (List RP) := if m.size ≤ 4096 then some (rowsOf (plc m m.size)) else none
theorem setP_f1 {W : World} {base : Nat} {ok : Nat → Prop} {g n cap : Nat} {xs : List RP} (h : Kd.R kP 31 W base ok (.slice (some ⟨g, 0, none⟩) n cap) xs) (p : Nat) (hp : p < n) (v : Int) :
    Kd.R kP 31 (W.setCell ⟨g, p * 2 + 1, none⟩ (.int .i64 v)) base ok (.slice (some ⟨g, 0, none⟩) n cap) (xs.set p ⟨(rd_P xs p).f0, v⟩) ∧ W.grownBy (W.setCell ⟨g, p * 2 + 1, none⟩ (.int .i64 v)) (some g) := by
  have hn := (Kd.R_reads' h).1
  obtain ⟨ce, hcl, hM, hcc, hfr⟩ := Kd.R_elem h zP (p : Int) (by omega) (by omega)
  have hM' := hM
  obtain rfl := kP_openM hM'
  have hseg := Kd.R_seg h (p : Int) (by omega) (by omega) (seg := [.int .i64 v]) (j := 1) hcl hcc (show 2 ≤ 2 from by decide) (x' := (⟨(rd_P xs p).f0, v⟩ : RP)) (okp := fun k => ok k ∧ k ≠ g) (kP_mkM _ _ _ (⟨(rd_P xs p).f0, v⟩ : RP)) (fun _ hk => hk)
  rw [show kP.sz = 2 from rfl] at hseg
  simpa [World.setCells] using hseg
/-- The rows of the call's own, in a box. -/
structure RwSt (w : World) (b1 N0 : Nat) (xs : List RP) (W : World) : Prop where
  s : ∃ v, Boxed W b1 29 v ∧ Kd.R kP 31 W w.heap.size (fun k => N0 ≤ k) v xs
  below : Below w.heap.size w W
  ge : N0 ≤ W.heap.size
theorem RwSt.nc {w : World} {b1 N0 : Nat} {xs : List RP} {X Y : World} {row : Option Nat} (h : RwSt w b1 N0 xs X) (hg : X.grownBy Y row) (hr : ∀ r, row = some r → w.heap.size ≤ r ∧ ∃ o : Obj, X.heap[r]? = some o ∧ o.isCells = false) : RwSt w b1 N0 xs Y := by
  have hr' := fun r e => (hr r e).2
  obtain ⟨v, hb, hR⟩ := h.s
  exact ⟨⟨v, boxed_nc hb hg hr', R_nc hR hg hr'⟩, pw_below_grown h.below row h.below.size hg (fun k e => (hr k e).1), Nat.le_trans h.ge hg.size⟩
set_option maxRecDepth 100000 in
set_option maxHeartbeats 4000000 in
theorem rows_in (m : ByteArray) (w : World) (hm : m.size ≤ 4096) :
    CallsIn Fence.wide 9 Try.prog 13 #[.string m] w (fun e w' => ∃ v, e = .returned v ∧ Kd.R kP 31 w' w.heap.size (fun _ => True) v (rowsOf (plc m m.size)) ∧ Below w.heap.size w w') := by
  have hpl := plc_len m m.size
  have hua := Try.underlying31
  refine callsIn_of_wp_marks Try.func13 rfl trivial ?_ rfl
  simp only [Try.ntmps13, List.size_toArray, List.length_cons, List.length_nil, Nat.reduceAdd, Nat.reduceSub, Array.replicate_succ, Array.replicate_zero, List.push_toArray, List.append_toArray, List.nil_append, List.cons_append]
  gi_wp2_with (refine ⟨trivial, ?_⟩; gi_at_call 36; refine (places_in Fence.wide 8 trivial rfl m _).mono ?_; rintro e w' ⟨rfl, rfl⟩)
  have hbl := cell_fresh (w.alloc (.cells #[.slice none 0 0] 29)) #[.string m] 9 0 _ rfl
  have A0 : RwSt w w.heap.size ((w.alloc (.cells #[.slice none 0 0] 29)).alloc (.cells #[.string m] 9)).heap.size (rowsOf (([] : List (Plc m)).map (·.1))) ((w.alloc (.cells #[.slice none 0 0] 29)).alloc (.cells #[.string m] 9)) := ⟨⟨_, (Boxed.new w _ _).alloc _, Kd.R_nil _ _ _ _ _⟩, below_alloc (below_alloc (Below.refl _ _) _) _, Nat.le_refl _⟩
  have hsz : ((w.alloc (.cells #[.slice none 0 0] 29)).alloc (.cells #[.string m] 9)).heap.size = w.heap.size + 2 := by simp
  rw [World.size_alloc] at hbl
  revert A0 hbl hsz
  generalize ((w.alloc (.cells #[.slice none 0 0] 29)).alloc (.cells #[.string m] 9)) = wl
  intro hbl A0 hsz
  have HSEQ := places_stops Fence.wide 8 trivial rfl (by decide) (w.heap.size + 1) (fun k => k = w.heap.size) (fun _ => False) m (by omega) wl (by omega) (by show ¬ w.heap.size + 1 = w.heap.size; omega) hbl
  have HIo : OwnFrom wl.heap.size (fun (pre : List (Plc m)) W => RwSt w w.heap.size wl.heap.size (rowsOf (pre.map (·.1))) W) := fun s X Y row hs hg hr => hs.nc hg (fun r e => ⟨by have := (hr r e).1; omega, (hr r e).2⟩)
  refine rf_G (F := Fence.wide) (P := Try.prog) (encs := fun x : Plc m => #[Value.int .i64 x.1]) rfl (by decide) (gf := 43) (lb := #[.pointer (some ⟨w.heap.size + 1, 0, none⟩)]) rfl trivial (Go.Proofs.enters_of Try.func43 (by kernel_rfl) rfl) HSEQ (Below.refl _ _) (fun _ => rfl)
    (fun (pre : List (Plc m)) W => RwSt w w.heap.size wl.heap.size (rowsOf (pre.map (·.1))) W) (fun _ _ _ => False)
    HIo (fun _ _ _ _ _ hs _ _ => hs) A0 ?_
  clear HSEQ HIo A0
  apply Exists.intro
  refine ⟨?assign, ?body, ?done, ?stop⟩
  case assign =>
    intro l x W K hK
    gi_wp2
    exact hK
  case stop => intro D c pre W _ _ h _; exact h.elim
  case body =>
    rintro li pre x W hI hlt
    have HSZ := Aside0.mk hsz
    clear hsz
    obtain ⟨hv0, hv1, _⟩ := plc_mem.1 x.2
    have HSN := Aside0.mk (show rowsOf ((pre ++ [x]).map (·.1)) = rowStep (rowsOf (pre.map (·.1))) x.1 from by rw [List.map_append]; exact rowsOf_snoc _ _)
    have HOK := Aside0.mk (rowsOf_ok (pre.map (·.1)) (fun k hk => by obtain ⟨y, _, rfl⟩ := List.mem_map.1 hk; have := plc_mem.1 y.2; omega))
    obtain ⟨⟨u, hbx, hR⟩, hbel, hgw⟩ := hI
    obtain ⟨Au, cu, rfl⟩ := Kd.R_slice hR
    have hol : (rowsOf (pre.map (·.1))).length ≤ 4096 := by have := HOK.out.1; rw [List.length_map] at this; omega
    generalize x.1 = v at *
    have hv2 : v < 4096 := by omega
    have hx := hbx.cell
    have hf := hbx.frozen
    have HBX := Aside0.mk hbx
    have HBL := Aside0.mk hbel
    have HR := Aside0.mk hR
    have HGW := Aside0.mk hgw
    clear hbx hbel hR hgw
    unfold rowStep at HSN
    generalize hro : rowsOf (pre.map (·.1)) = ro at *
    have HRO := Aside0.mk hro
    clear hro
    by_cases hpos : 0 < ro.length
    · obtain ⟨go, co', he, hgb, hgl, hgc⟩ := Kd.R_form HR.out hpos
      injection he with he1 _ he3
      subst he1 he3
      have hlog := Aside0.mk (HR.out.1 go rfl)
      obtain ⟨ce, hcl, hM, hcc, hfr⟩ := Kd.R_elem HR.out zP ((ro.length : Int) - 1) (by omega) (by omega)
      obtain rfl := kP_openM hM
      obtain ⟨p, hp⟩ : ∃ p, ro.length = p + 1 := ⟨ro.length - 1, by omega⟩
      have hpi : ((ro.length : Int) - 1) = (p : Int) := by omega
      have HP := Aside0.mk hp
      have hy1 : W.cell? ⟨go, p * 2 + 1, none⟩ = some (.int .i64 (rd_P ro p).f1) := by have := hcc 1 _ rfl; rw [hpi] at this; exact this
      have hz1 : W.frozen? ⟨go, p * 2 + 1, none⟩ = false := by have := hfr 1; rw [hpi] at this; exact this
      have hmem : rd_P ro p ∈ ro := by rw [rd_at_P _ _ (by omega)]; exact List.getElem_mem _
      obtain ⟨hq1, hq2, hq3⟩ := HOK.out.2 _ hmem
      have hcap := (Kd.R_reads' HR.out).2.1
      have hpl2 : p < 4096 := by omega
      rw [hp] at HR HBX hcap hx
      rw [hpi] at HSN
      clear hcl hM hcc hfr hgb hgc hmem hp hpi
      generalize hf1 : (rd_P ro p).f1 = y1 at *
      have HF1 := Aside0.mk hf1
      clear hf1
      have hd0 : decide ((0 : Int) < (p : Int) + 1) = true := decide_eq_true (by omega)
      have hd1 : decide ((p : Int) < (p : Int) + 1) = true := decide_eq_true (by omega)
      have hd2 : (p : Int) < (p : Int) + 1 := by omega
      by_cases hmq0 : y1 = v
      · have HS := Aside0.mk (HSN.out.trans (if_pos ⟨hpos, hmq0⟩))
        have hmq : (y1 == v) = true := by rw [beq_iff_eq]; exact hmq0
        clear HSN hmq0
        gi_wp2
        have hw1 : IntKind.i64.wrap (p : Int) = p := by simp [IntKind.wrap, IntKind.signed, IntKind.bits]; omega
        have hw2 : IntKind.i64.wrap (y1 + 1) = y1 + 1 := by simp [IntKind.wrap, IntKind.signed, IntKind.bits]; omega
        refine meetIn ?_
        apply Exists.intro
        apply Exists.intro
        refine ⟨?_, ?_⟩
        · gi_region
          all_goals exact ⟨rfl, rfl, rfl⟩
        clear hw1 hw2
        gi_wp2
        obtain ⟨hst, hsg⟩ := setP_f1 HR.out p (by omega) (y1 + 1)
        have hg0 := HGW.out
        refine ⟨((KeepsOthers.of_grownBy hsg (fun j o hj ho => ?_)).trans (KeepsOthers.drew _)).from _, (KeepX.grown hsg (fun k cs T fr hk hc => by cases hk; exact ⟨fun h => by have := hlog.out; omega, fun _ e => by cases e⟩)).trans (KeepX.below (Below.refl _ _).drew), ?_⟩
        · obtain ⟨cells, hc⟩ := R_cells HR.out j hj
          rw [hc] at ho
          cases ho
          rfl
        · show RwSt w w.heap.size wl.heap.size (rowsOf ((pre ++ [x]).map (·.1))) _
          rw [HS.out]
          have e : ro.length - 1 = p := by have := HP.out; omega
          rw [e]
          have hB := HBX.out.kept hsg (by have := hlog.out; have := HSZ.out; simp; omega)
          refine ⟨⟨_, hB, Kd.R_drew hst⟩, (pw_below_grown HBL.out _ HBL.out.size hsg (fun k hk => by cases hk; have := hlog.out; have := HSZ.out; omega)).drew, by have := hsg.size; simp at this ⊢; omega⟩
      · have HS := Aside0.mk (HSN.out.trans (if_neg (fun h => hmq0 h.2)))
        have hmq : (y1 == v) = false := by rw [beq_eq_false_iff_ne]; exact hmq0
        clear HSN hmq0 hd0 hd1 hd2
        have HWB := Aside0.mk HBX.out.lt
        have HONE := Aside0.mk (Kd.R_reads' (R_one (d := kP) (e := 31) (w := W) (base := w.heap.size) (ok := fun _ => True) (x := ⟨v, v + 1⟩) (cs := #[.int .i64 v, .int .i64 (v + 1)]) (kP_mkM _ _ _ (⟨v, v + 1⟩ : RP)) HBL.out.size trivial)).2.2
        have HR3 := Aside0.mk (Kd.R_alloc HR.out (.cells #[.int .i64 v, .int .i64 (v + 1)] 31))
        gi_wp2_with (first | (gi_at_builtin; refine R_append_rows_in kP (w0 := w) w.heap.size rfl (.tmp 32) (.tmp 37) 29 31 (.agg #[(.int .i64 0), (.int .i64 0)]) 16 rfl Try.underlying29 infoP rfl (by decide) (by omega) _ ro [(⟨v, v + 1⟩ : RP)] _ _ _ _ (fun _ => False) rfl rfl HR3.out HONE.out (fun _ _ h => h) (fun _ h => h.elim) (fun j hj => by have := HGW.out; simp at hj; omega) (below_alloc HBL.out _) (by have := HBL.out.size; simp; omega) (by first | omega | (simp; omega)) ?_; intro v6 w6 ho hb hg hat; obtain ⟨Ln, Av6, cv6, rfl⟩ : ∃ (Ln : Nat) (A : Option Addr) (c : Nat), v6 = .slice A Ln c := ⟨_, Kd.R_slice ho⟩; have HO6 := Aside0.mk ho; have HG6 := Aside0.mk hg; have X6 := Aside0.mk ((HBX.out.alloc (.cells #[.int .i64 v, .int .i64 (v + 1)] 31)).kept hg (fun e => by have := HR3.out.1 _ e.symm; have := HSZ.out; have := HWB.out; omega)); have hx7 := X6.out.cell; have hf7 := X6.out.frozen; clear ho hb hg hat))
        clear hx7 hf7
        have hg5 := grownBy_setCellK w6 w.heap.size 0 (.slice Av6 Ln cv6)
        have hb6 := pw_below_grown (below_alloc HBL.out (.cells #[.int .i64 v, .int .i64 (v + 1)] 31)) _ (below_alloc HBL.out _).size HG6.out (fun k hk => by have := HR3.out.1 k hk; have := HSZ.out; omega)
        have hgw6 := HGW.out
        refine ⟨(((KeepsOthers.alloc W _).trans (KeepsOthers.of_grownBy HG6.out (fun j o hj ho => ?_))).trans (KeepsOthers.setCell _ _ _)).from _, (KeepX.below (below_alloc (Below.refl _ _) _)).trans ((KeepX.grown HG6.out (fun k cs T fr hk hc => ?_)).trans (KeepX.grown hg5 (fun k cs T fr hk hc => by cases hk; exact ⟨fun _ => rfl, fun h => by have := HSZ.out; omega⟩))), ?_⟩
        · obtain ⟨cells, hc⟩ := R_cells HR3.out j hj
          rw [hc] at ho
          cases ho
          rfl
        · exact ⟨fun h => by have := HR3.out.1 k hk; omega, fun _ e => by cases e⟩
        · show RwSt w w.heap.size wl.heap.size (rowsOf ((pre ++ [x]).map (·.1))) _
          rw [HS.out]
          exact ⟨⟨_, X6.out.set _, Kd.R_grown HO6.out hg5 (fun k hk e => by cases e; have hk' : wl.heap.size ≤ w.heap.size := hk; have := HSZ.out; omega)⟩, pw_below_grown hb6 _ hb6.size hg5 (fun k hk => by cases hk; exact Nat.le_refl _), by have h1 := HG6.out.size; have h2 := hg5.size; simp at h1 h2 ⊢; omega⟩
    ·   have hz : ro.length = 0 := by omega
        have HS := Aside0.mk (HSN.out.trans (if_neg (fun h => hpos h.1)))
        rw [hz] at HR HBX hx
        clear HSN hpos
        have HWB := Aside0.mk HBX.out.lt
        have HONE := Aside0.mk (Kd.R_reads' (R_one (d := kP) (e := 31) (w := W) (base := w.heap.size) (ok := fun _ => True) (x := ⟨v, v + 1⟩) (cs := #[.int .i64 v, .int .i64 (v + 1)]) (kP_mkM _ _ _ (⟨v, v + 1⟩ : RP)) HBL.out.size trivial)).2.2
        have HR3 := Aside0.mk (Kd.R_alloc HR.out (.cells #[.int .i64 v, .int .i64 (v + 1)] 31))
        gi_wp2_with (first | (gi_at_builtin; refine R_append_rows_in kP (w0 := w) w.heap.size rfl (.tmp 32) (.tmp 37) 29 31 (.agg #[(.int .i64 0), (.int .i64 0)]) 16 rfl Try.underlying29 infoP rfl (by decide) (by omega) _ ro [(⟨v, v + 1⟩ : RP)] _ _ _ _ (fun _ => False) rfl rfl HR3.out HONE.out (fun _ _ h => h) (fun _ h => h.elim) (fun j hj => by have := HGW.out; simp at hj; omega) (below_alloc HBL.out _) (by have := HBL.out.size; simp; omega) (by first | omega | (simp; omega)) ?_; intro v6 w6 ho hb hg hat; obtain ⟨Ln, Av6, cv6, rfl⟩ : ∃ (Ln : Nat) (A : Option Addr) (c : Nat), v6 = .slice A Ln c := ⟨_, Kd.R_slice ho⟩; have HO6 := Aside0.mk ho; have HG6 := Aside0.mk hg; have X6 := Aside0.mk ((HBX.out.alloc (.cells #[.int .i64 v, .int .i64 (v + 1)] 31)).kept hg (fun e => by have := HR3.out.1 _ e.symm; have := HSZ.out; have := HWB.out; omega)); have hx7 := X6.out.cell; have hf7 := X6.out.frozen; clear ho hb hg hat))
        clear hx7 hf7
        have hg5 := grownBy_setCellK w6 w.heap.size 0 (.slice Av6 Ln cv6)
        have hb6 := pw_below_grown (below_alloc HBL.out (.cells #[.int .i64 v, .int .i64 (v + 1)] 31)) _ (below_alloc HBL.out _).size HG6.out (fun k hk => by have := HR3.out.1 k hk; have := HSZ.out; omega)
        have hgw6 := HGW.out
        refine ⟨(((KeepsOthers.alloc W _).trans (KeepsOthers.of_grownBy HG6.out (fun j o hj ho => ?_))).trans (KeepsOthers.setCell _ _ _)).from _, (KeepX.below (below_alloc (Below.refl _ _) _)).trans ((KeepX.grown HG6.out (fun k cs T fr hk hc => ?_)).trans (KeepX.grown hg5 (fun k cs T fr hk hc => by cases hk; exact ⟨fun _ => rfl, fun h => by have := HSZ.out; omega⟩))), ?_⟩
        · obtain ⟨cells, hc⟩ := R_cells HR3.out j hj
          rw [hc] at ho
          cases ho
          rfl
        · exact ⟨fun h => by have := HR3.out.1 k hk; omega, fun _ e => by cases e⟩
        · show RwSt w w.heap.size wl.heap.size (rowsOf ((pre ++ [x]).map (·.1))) _
          rw [HS.out]
          exact ⟨⟨_, X6.out.set _, Kd.R_grown HO6.out hg5 (fun k hk e => by cases e; have hk' : wl.heap.size ≤ w.heap.size := hk; have := HSZ.out; omega)⟩, pw_below_grown hb6 _ hb6.size hg5 (fun k hk => by cases hk; exact Nat.le_refl _), by have h1 := HG6.out.size; have h2 := hg5.size; simp at h1 h2 ⊢; omega⟩
  case done =>
    intro D xs W hD hxs hI hK
    obtain ⟨⟨u, hbx, hR⟩, hbel, hgw⟩ := hI
    have hxm : xs.map (·.1) = plc m m.size := by rw [hxs]; simp [plcA]
    rw [hxm] at hR
    obtain ⟨Au, cu, rfl⟩ := Kd.R_slice hR
    have hx := hbx.cell
    have HBX := Aside0.mk hbx
    have HBL := Aside0.mk hbel
    have HR := Aside0.mk hR
    clear hbx hbel hR
    gi_wp2_with fail
    refine ⟨by simp, .inl ⟨_, _, rfl, run_takeDeferred hK, ?_⟩⟩
    have hg := grownBy_putObj' W D (.deferred none)
    refine ⟨.slice Au (rowsOf (plc m m.size)).length cu, ?_, _, rfl, Kd.R_mono (R_nc HR.out hg (fun r e => by cases e; exact ⟨_, hK, rfl⟩)) (fun _ _ => trivial), pw_below_grown HBL.out _ HBL.out.size hg (fun k hk => by cases hk; omega)⟩
    simp [results, Try.results13, go_sem]
theorem objmap_Rows.calls (a0 : ByteArray) (r : List RP) (w : World) (h : objmap_Rows.f a0 = some r) :
    Calls Try.prog 13 #[.string a0] w fun e w' => ∃ v, e = .returned v ∧ Kd.R kP 31 w' w.heap.size (fun _ => True) v r ∧ Below w.heap.size w w' := by
  unfold objmap_Rows.f at h
  split at h
  · obtain rfl := Option.some.inj h
    exact callsIn_wide.1 (rows_in a0 w (by assumption))
  · cases h
theorem run_eq_pair (w : World) (d : Nat) (a b c e : Int) : (Op.equalIn (d + 1 + 1) 31 (.agg #[.int .i64 a, .int .i64 b]) (.agg #[.int .i64 c, .int .i64 e])).run Try.prog w = .ok (a == c && b == e) w := by
  have h1 : ∀ w : World, (sizeOf 3).run Try.prog w = .ok 1 w := fun w => by kernel_rfl
  have p0 : ∀ (x y : Int) (w : World), (part 3 #[.int .i64 x, .int .i64 y] (0 * 1)).run Try.prog w = .ok (.int .i64 x) w := fun x y w => by kernel_rfl
  have p1 : ∀ (x y : Int) (w : World), (part 3 #[.int .i64 x, .int .i64 y] (1 * 1)).run Try.prog w = .ok (.int .i64 y) w := fun x y w => by kernel_rfl
  rw [Op.equalIn]
  simp only [Sem.run_bind, run_underlying Try.underlying31, Result.andThen_ok, h1]
  by_cases e1 : a = c <;> by_cases e2 : b = e <;> simp [List.range', p0, p1, fun (w : World) (x y : Int) => run_equalIn_int (P := Try.prog) w d 3 .i64 .i64 x y Try.underlying3, e1, e2]
end Go.Proofs.Ytpaapnkpijincaa.P
