import Derived.BigRegionIn
import Derived.Test.YtpaapnkpijincaaO10
import Derived.Test.YtpaapnkpijincaaO12
namespace Go.Proofs.Ytpaapnkpijincaa.P
open Go.RowKit Go.Proofs.YtpaapnkpijincaaW.PrintWords Go.Proofs.YtpaapnkpijincaaW.PrintLast Go.Proofs.YtpaapnkpijincaaW.PrintMore Go.Proofs.YtpaapnkpijincaaW.HB
set_option linter.unusedVariables false
set_option linter.unusedSimpArgs false
attribute [local go_sem] Oper.semAt_some

def dropL (n : Int) (ks : List Int) : List Int := ks.filter (fun k => decide (n ≤ k))
theorem dropL_snoc (n : Int) (ks : List Int) (v : Int) : dropL n (ks ++ [v]) = if n ≤ v then dropL n ks ++ [v] else dropL n ks := by
  unfold dropL
  rw [List.filter_append, List.filter_cons, List.filter_nil]
  by_cases h : n ≤ v <;> simp [h]
theorem dropL_len (n : Int) (ks : List Int) : (dropL n ks).length ≤ ks.length := List.length_filter_le _ _
/-- The count and the row, each in a box. -/
structure DrSt (w : World) (b2 b1 N0 : Nat) (n : Int) (xs : List Int) (W : World) : Prop where
  s : ∃ v, Boxed W b1 38 v ∧ Kd.R (Kd.int .i64) 3 W w.heap.size (fun k => N0 ≤ k) v xs
  nb : Boxed W b2 3 (.int .i64 n)
  below : Below w.heap.size w W
  ge : N0 ≤ W.heap.size
theorem DrSt.nc {w : World} {b2 b1 N0 : Nat} {n : Int} {xs : List Int} {X Y : World} {row : Option Nat} (h : DrSt w b2 b1 N0 n xs X) (hg : X.grownBy Y row) (hr : ∀ r, row = some r → w.heap.size ≤ r ∧ ∃ o : Obj, X.heap[r]? = some o ∧ o.isCells = false) : DrSt w b2 b1 N0 n xs Y := by
  have hr' := fun r e => (hr r e).2
  obtain ⟨v, hb, hR⟩ := h.s
  exact ⟨⟨v, boxed_nc hb hg hr', R_nc hR hg hr'⟩, boxed_nc h.nb hg hr', pw_below_grown h.below row h.below.size hg (fun k e => (hr k e).1), Nat.le_trans h.ge hg.size⟩
set_option maxRecDepth 100000 in
set_option maxHeartbeats 4000000 in
theorem drops_in (u c o sz : Int) (m : ByteArray) (hm : m.size ≤ 4096) (N : Nat) (hN : mn (mx sz 0) 4096 = (N : Int)) (pl : Nat → Int × Int) (hpl : ∀ i, i < N → stripe_find.f u c o (i : Int) = some (pl i)) (w : World) :
    CallsIn Fence.wide 10 Try.prog 33 #[.agg #[.int .i64 u, .int .i64 c, .int .i64 o], .string m, .int .i64 sz] w (fun e w' => ∃ v, e = .returned v ∧ Kd.R (Kd.int .i64) 3 w' w.heap.size (fun _ => True) v (dropL (objsOf (outP pl N)) (plc m m.size)) ∧ Below w.heap.size w w') := by
  have hpl2 := plc_len m m.size
  refine callsIn_of_wp_marks Try.func33 rfl trivial ?_ rfl
  simp only [Try.ntmps33, List.size_toArray, List.length_cons, List.length_nil, Nat.reduceAdd, Nat.reduceSub, Array.replicate_succ, Array.replicate_zero, List.push_toArray, List.append_toArray, List.nil_append, List.cons_append]
  have HOB := objects_in u c o sz N hN pl hpl
  gi_wp2_with (first | (refine ⟨trivial, ?_⟩; gi_at_call 41; refine (HOB _).mono ?_; rintro e w1 ⟨rfl, hb1⟩; have HB1 := Aside0.mk hb1; clear hb1) | (refine ⟨trivial, ?_⟩; gi_at_call 36; refine (places_in Fence.wide 9 trivial rfl m _).mono ?_; rintro e w' ⟨rfl, rfl⟩))
  obtain ⟨n, hn⟩ : ∃ n, n = objsOf (outP pl N) := ⟨_, rfl⟩
  rw [← hn]
  have hbel1 : Below w.heap.size w w1 := ((Below.refl _ w).alloc (Nat.le_refl _) (.cells #[.int .i64 u, .int .i64 c, .int .i64 o] 50)).trans (HB1.out.mono (by simp))
  have hw1 : w.heap.size ≤ w1.heap.size := hbel1.size
  have hnb : Boxed (((w1.alloc (.cells #[.int .i64 n] 3)).alloc (.cells #[.slice none 0 0] 38)).alloc (.cells #[.string m] 9)) w1.heap.size 3 (.int .i64 n) := ((Boxed.new w1 _ _).alloc _).alloc _
  have hob : Boxed (((w1.alloc (.cells #[.int .i64 n] 3)).alloc (.cells #[.slice none 0 0] 38)).alloc (.cells #[.string m] 9)) (w1.heap.size + 1) 38 (.slice none 0 0) := by
    have := (Boxed.new (w1.alloc (.cells #[.int .i64 n] 3)) 38 (.slice none 0 0)).alloc (.cells #[.string m] 9)
    rwa [World.size_alloc] at this
  have hmc := cell_fresh ((w1.alloc (.cells #[.int .i64 n] 3)).alloc (.cells #[.slice none 0 0] 38)) #[.string m] 9 0 _ rfl
  rw [World.size_alloc, World.size_alloc] at hmc
  have hsz : (((w1.alloc (.cells #[.int .i64 n] 3)).alloc (.cells #[.slice none 0 0] 38)).alloc (.cells #[.string m] 9)).heap.size = w1.heap.size + 3 := by simp
  have hbl : Below w.heap.size w (((w1.alloc (.cells #[.int .i64 n] 3)).alloc (.cells #[.slice none 0 0] 38)).alloc (.cells #[.string m] 9)) := below_alloc (below_alloc (below_alloc hbel1 _) _) _
  generalize w1.heap.size = b2 at *
  have hnil : ∀ (W : World) (N0 : Nat), Kd.R (Kd.int .i64) 3 W w.heap.size (fun k => N0 ≤ k) (.slice none 0 0) (dropL n (([] : List (Plc m)).map (·.1))) := fun W N0 => Kd.R_nil _ _ _ _ _
  generalize (((w1.alloc (.cells #[.int .i64 n] 3)).alloc (.cells #[.slice none 0 0] 38)).alloc (.cells #[.string m] 9)) = wl at *
  have A0 : DrSt w b2 (b2 + 1) wl.heap.size n (dropL n (([] : List (Plc m)).map (·.1))) wl := ⟨⟨_, hob, hnil _ _⟩, hnb, hbl, Nat.le_refl _⟩
  have HSEQ := places_stops Fence.wide 9 trivial rfl (by decide) (b2 + 1 + 1) (fun k => k = b2 + 1) (fun _ => False) m (by omega) wl (by omega) (by show ¬ b2 + 1 + 1 = b2 + 1; omega) hmc
  have HIo : OwnFrom wl.heap.size (fun (pre : List (Plc m)) W => DrSt w b2 (b2 + 1) wl.heap.size n (dropL n (pre.map (·.1))) W) := fun s X Y row hs hg hr => hs.nc hg (fun r e => ⟨by have := (hr r e).1; omega, (hr r e).2⟩)
  clear hnil hob hnb hmc hbl hbel1 HB1 HOB
  refine rf_G (F := Fence.wide) (P := Try.prog) (encs := fun x : Plc m => #[Value.int .i64 x.1]) rfl (by decide) (gf := 43) (lb := #[.pointer (some ⟨b2 + 1 + 1, 0, none⟩)]) rfl trivial (Go.Proofs.enters_of Try.func43 (by kernel_rfl) rfl) HSEQ (Below.refl _ _) (fun _ => rfl)
    (fun (pre : List (Plc m)) W => DrSt w b2 (b2 + 1) wl.heap.size n (dropL n (pre.map (·.1))) W) (fun _ _ _ => False)
    HIo (fun _ _ _ _ _ hs _ _ => hs) A0 ?_
  clear HSEQ HIo A0
  apply Exists.intro
  refine ⟨?assign, ?body, ?done, ?stop⟩
  case assign =>
    intro l x W K hK
    gi_wp2
    exact hK
  case stop => intro D c pre W _ _ h _; exact h.elim
  case body =>
    rintro li pre x W hI hlt
    have HSZ := Aside0.mk (show wl.heap.size = b2 + 3 ∧ w.heap.size ≤ b2 from ⟨hsz, hw1⟩)
    clear hsz hw1
    obtain ⟨hv0, hv1, _⟩ := plc_mem.1 x.2
    have HSN := Aside0.mk (show dropL n ((pre ++ [x]).map (·.1)) = if n ≤ x.1 then dropL n (pre.map (·.1)) ++ [x.1] else dropL n (pre.map (·.1)) from by rw [List.map_append]; exact dropL_snoc n _ x.1)
    have hol : (dropL n (pre.map (·.1))).length ≤ 4096 := by have := dropL_len n (pre.map (·.1)); rw [List.length_map] at this; omega
    obtain ⟨⟨u0, hbx, hR⟩, hnb, hbel, hgw⟩ := hI
    obtain ⟨Au, cu, rfl⟩ := Kd.R_slice hR
    generalize x.1 = v at *
    have hx := hbx.cell
    have hf := hbx.frozen
    have hxn := hnb.cell
    have HBX := Aside0.mk hbx
    have HNB := Aside0.mk hnb
    have HBL := Aside0.mk hbel
    have HR := Aside0.mk hR
    have HGW := Aside0.mk hgw
    clear hbx hbel hR hgw hnb
    generalize hro : dropL n (pre.map (·.1)) = ro at *
    have HRO := Aside0.mk hro
    clear hro hn hpl hN
    by_cases hge : n ≤ v
    · have hd : decide (v ≥ n) = true := decide_eq_true hge
      have HS := Aside0.mk (HSN.out.trans (if_pos hge))
      have HWB := Aside0.mk HBX.out.lt
      have HONE := Aside0.mk (Kd.R_reads' (R_one (d := Kd.int .i64) (e := 3) (w := W) (base := w.heap.size) (ok := fun _ => True) (x := v) (cs := #[.int .i64 v]) (Kd.int_mkM _ _ _ v) HBL.out.size trivial)).2.2
      have HR3 := Aside0.mk (Kd.R_alloc HR.out (.cells #[.int .i64 v] 3))
      clear HSN
      gi_wp2_with (first | (gi_at_builtin; refine R_append_rows_in (Kd.int .i64) (w0 := w) w.heap.size rfl (.tmp 19) (.tmp 21) 38 3 (.int .i64 0) 8 rfl Try.underlying38 (by kernel_rfl) rfl (by decide) (by omega) _ ro [v] _ _ _ _ (fun _ => False) rfl rfl HR3.out HONE.out (fun _ _ h => h) (fun _ h => h.elim) (fun j hj => by have := HGW.out; simp at hj; omega) (below_alloc HBL.out _) (by have := HBL.out.size; simp; omega) (by first | omega | (simp; omega)) ?_; intro v6 w6 ho hb hg hat; obtain ⟨Ln, Av6, cv6, rfl⟩ : ∃ (Ln : Nat) (A : Option Addr) (c : Nat), v6 = .slice A Ln c := ⟨_, Kd.R_slice ho⟩; have HO6 := Aside0.mk ho; have HG6 := Aside0.mk hg; have X6 := Aside0.mk ((HBX.out.alloc (.cells #[.int .i64 v] 3)).kept hg (fun e => by have := HR3.out.1 _ e.symm; have := HSZ.out; omega)); have N6 := Aside0.mk ((HNB.out.alloc (.cells #[.int .i64 v] 3)).kept hg (fun e => by have := HR3.out.1 _ e.symm; have := HSZ.out; omega)); have hx7 := X6.out.cell; have hf7 := X6.out.frozen; clear ho hb hg hat))
      clear hx7 hf7
      have hg5 := grownBy_setCellK w6 (b2 + 1) 0 (.slice Av6 Ln cv6)
      have hb6 := pw_below_grown (below_alloc HBL.out (.cells #[.int .i64 v] 3)) _ (below_alloc HBL.out _).size HG6.out (fun k hk => by have := HR3.out.1 k hk; have := HSZ.out; omega)
      have hgw6 := HGW.out
      refine ⟨(((KeepsOthers.alloc W _).trans (KeepsOthers.of_grownBy HG6.out (fun j o hj ho => ?_))).trans (KeepsOthers.setCell _ _ _)).from _, (KeepX.below (below_alloc (Below.refl _ _) _)).trans ((KeepX.grown HG6.out (fun k cs T fr hk hc => ?_)).trans (KeepX.grown hg5 (fun k cs T fr hk hc => by cases hk; exact ⟨fun _ => rfl, fun h => by have := HSZ.out; omega⟩))), ?_⟩
      · obtain ⟨cells, hc⟩ := R_cells HR3.out j hj
        rw [hc] at ho
        cases ho
        rfl
      · exact ⟨fun h => by have := HR3.out.1 k hk; omega, fun _ e => by cases e⟩
      · show DrSt w b2 (b2 + 1) wl.heap.size n (dropL n ((pre ++ [x]).map (·.1))) _
        rw [HS.out]
        exact ⟨⟨_, X6.out.set _, Kd.R_grown HO6.out hg5 (fun k hk e => by cases e; have hk' : wl.heap.size ≤ b2 + 1 := hk; have := HSZ.out; omega)⟩, N6.out.other (by omega) _, pw_below_grown hb6 _ hb6.size hg5 (fun k hk => by cases hk; have := HSZ.out; omega), by have h1 := HG6.out.size; have h2 := hg5.size; simp at h1 h2 ⊢; omega⟩
    · have hd : decide (v ≥ n) = false := decide_eq_false hge
      have HS := Aside0.mk (HSN.out.trans (if_neg hge))
      clear HSN
      gi_wp2
      refine ⟨(KeepsOthers.refl W).from _, KeepX.refl _ _ _ _, ?_⟩
      show DrSt w b2 (b2 + 1) wl.heap.size n (dropL n ((pre ++ [x]).map (·.1))) _
      rw [HS.out]
      exact ⟨⟨_, HBX.out, HR.out⟩, HNB.out, HBL.out, HGW.out⟩
  case done =>
    intro D xs W hD hxs hI hK
    obtain ⟨⟨u0, hbx, hR⟩, hnb, hbel, hgw⟩ := hI
    have hxm : xs.map (·.1) = plc m m.size := by rw [hxs]; simp [plcA]
    rw [hxm, hn] at hR
    obtain ⟨Au, cu, rfl⟩ := Kd.R_slice hR
    have hx := hbx.cell
    have HBX := Aside0.mk hbx
    have HBL := Aside0.mk hbel
    have HR := Aside0.mk hR
    clear hbx hbel hR hnb
    gi_wp2_with fail
    refine ⟨by simp, .inl ⟨_, _, rfl, run_takeDeferred hK, ?_⟩⟩
    have hg := grownBy_putObj' W D (.deferred none)
    refine ⟨.slice Au (dropL (objsOf (outP pl N)) (plc m m.size)).length cu, ?_, _, rfl, Kd.R_mono (R_nc HR.out hg (fun r e => by cases e; exact ⟨_, hK, rfl⟩)) (fun _ _ => trivial), pw_below_grown HBL.out _ HBL.out.size hg (fun k hk => by cases hk; omega)⟩
    simp [results, Try.results33, go_sem]
/-- The places, as the code finds them. -/
def plF (u c o : Int) (i : Nat) : Int × Int := (stripe_find.f u c o (i : Int)).getD (0, 0)
def dropsN (sz : Int) : Nat := (mn (mx sz 0) 4096).toNat
def objmap_Drops.f (u c o : Int) (m : ByteArray) (sz : Int) : Option (List Int) :=
  if m.size ≤ 4096 ∧ ((List.range (dropsN sz)).all (fun i => (stripe_find.f u c o (i : Int)).isSome)) = true then some (dropL (objsOf (outP (plF u c o) (dropsN sz))) (plc m m.size)) else none
theorem objmap_Drops.calls (u c o : Int) (m : ByteArray) (sz : Int) (r : List Int) (w : World) (h : objmap_Drops.f u c o m sz = some r) :
    Calls Try.prog 33 #[.agg #[.int .i64 u, .int .i64 c, .int .i64 o], .string m, .int .i64 sz] w fun e w' => ∃ v0_ : Value, e = .returned v0_ ∧ Kd.R (Kd.int .i64) 3 w' w.heap.size (fun _ => True) v0_ r ∧ Below w.heap.size w w' := by
  unfold objmap_Drops.f at h
  split at h
  · rename_i hc
    obtain rfl := Option.some.inj h
    have hN : mn (mx sz 0) 4096 = ((dropsN sz : Nat) : Int) := by
      have : 0 ≤ mn (mx sz 0) 4096 := by unfold mn mx; split <;> split <;> omega
      unfold dropsN; omega
    refine callsIn_wide.1 (drops_in u c o sz m hc.1 (dropsN sz) hN (plF u c o) (fun i hi => ?_) w)
    have h2 := List.all_eq_true.1 hc.2 i (List.mem_range.2 hi)
    unfold plF
    cases hq : stripe_find.f u c o (i : Int) with
    | none => rw [hq] at h2; cases h2
    | some p => rfl
  · cases h
end Go.Proofs.Ytpaapnkpijincaa.P
