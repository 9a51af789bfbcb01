import Derived.Test.YtgnaippmncnlaaaH4b
import Derived.Test.YtgnaippmncnlaaaHJ
import Derived.Test.YtgnaippmncnlaaaH3b
namespace Go.Proofs.Ytgnaippmncnlaaa.P
open Go.RowKit Go.Proofs.YtgnaippmncnlaaaW.PrintWords Go.Proofs.YtgnaippmncnlaaaW.PrintLast Go.Proofs.YtgnaippmncnlaaaW.PrintMore Go.Proofs.YtgnaippmncnlaaaW.HB
set_option linter.unusedVariables false
attribute [local go_sem] Oper.semAt_some

structure ASt (w : World) (b1 N0 : Nat) (xs : List Int) (W : World) : Prop where
  s : ∃ v, Boxed W b1 38 v ∧ Kd.R (Kd.int .i64) 3 W w.heap.size (fun k => N0 ≤ k) v xs
  below : Below w.heap.size w W
  ge : N0 ≤ W.heap.size
theorem ASt.nc {w : World} {b1 N0 : Nat} {xs : List Int} {X Y : World} {row : Option Nat} (h : ASt w b1 N0 xs X) (hg : X.grownBy Y row) (hr : ∀ r, row = some r → w.heap.size ≤ r ∧ ∃ o : Obj, X.heap[r]? = some o ∧ o.isCells = false) : ASt w b1 N0 xs Y := by
  have hr' := fun r e => (hr r e).2
  obtain ⟨v, hb, hR⟩ := h.s
  exact ⟨⟨v, boxed_nc hb hg hr', R_nc hR hg hr'⟩, pw_below_grown h.below row h.below.size hg (fun k e => (hr k e).1), Nat.le_trans h.ge hg.size⟩

theorem R_cells {α : Type} {d : Kd α} {e : Nat} {w : World} {base : Nat} {ok : Nat → Prop} {v : Value} {xs : List α} (h : d.R e w base ok v xs) (k : Nat) (hk : v.ownBlock = some k) : ∃ cells, w.heap[k]? = some (.cells cells e (0, 0)) := by
  obtain ⟨_, inner, ho, _⟩ := h
  exact own_typed ho k hk

set_option maxRecDepth 100000 in
set_option maxHeartbeats 4000000 in
theorem appendSeq_in (A : Option Addr) (c b : Nat) (l : List S47) (w : World) (hb : b < w.heap.size) (hB : w.cell? ⟨b, 0, none⟩ = some (.slice A l.length c)) (hC : Kd.C k47 w A l.length l)
    (hgood : ∀ x ∈ l, 0 ≤ x.f0 ∧ x.f0 + x.f1 ≤ 9007199254740992 ∧ x.f1 ≤ 9007199254740992) (hlen : (secs l).length ≤ 4294967296) :
    CallsIn Fence.wide 9 Try.prog 44 #[.slice none 0 0, .func (.func 45) #[] #[.pointer (some ⟨b, 0, none⟩)]] w (fun e w' => ∃ v, e = .returned v ∧ Kd.R (Kd.int .i64) 3 w' w.heap.size (fun _ => True) v (secs l) ∧ Below w.heap.size w w') := by
  have HG := Aside0.mk hgood
  have HC := Aside0.mk hC
  clear hgood hC
  refine callsIn_of_wp_marks Try.func44 rfl trivial ?_ rfl
  simp only [Try.ntmps44, List.size_toArray, List.length_cons, List.length_nil, Nat.reduceAdd, Nat.reduceSub, Array.replicate_succ, Array.replicate_zero, List.push_toArray, List.append_toArray, List.nil_append, List.cons_append]
  gi_wp2_with fail
  have hA := C_block HC.out
  have hbl := Lib.cell?_alloc_some (W := w) (.cells #[.slice none 0 0] 38) hB
  have HCl := Aside0.mk (Kd.C_alloc HC.out (.cells #[.slice none 0 0] 38))
  have A0 : ASt w w.heap.size (w.alloc (.cells #[.slice none 0 0] 38)).heap.size (([] : List (Sec l)).map (·.1)) (w.alloc (.cells #[.slice none 0 0] 38)) := ⟨⟨_, Boxed.new w _ _, Kd.R_nil _ _ _ _ _⟩, below_alloc (Below.refl _ _) _, Nat.le_refl _⟩
  have hsz : (w.alloc (.cells #[.slice none 0 0] 38)).heap.size = w.heap.size + 1 := by simp
  revert A0 hbl HCl hsz
  generalize (w.alloc (.cells #[.slice none 0 0] 38)) = wl
  intro hbl HCl A0 hsz
  have HSEQ := sectors_stops Fence.wide 8 trivial rfl (by decide) b c (fun k => k = w.heap.size) (fun t => t = 47) A l wl (by omega) (by show ¬ b = w.heap.size; omega) (fun ad e hp => by have := hA ad e hp; refine ⟨by omega, ?_⟩; show ¬ ad.block = w.heap.size; omega) rfl HG.out hbl HCl.out
  have HIo : OwnFrom wl.heap.size (fun (pre : List (Sec l)) W => ASt w w.heap.size wl.heap.size (pre.map (·.1)) W) := fun s X Y row hs hg hr => hs.nc hg (fun r e => ⟨by have := (hr r e).1; omega, (hr r e).2⟩)
  refine rf_G (F := Fence.wide) (P := Try.prog) (encs := fun x : Sec l => #[Value.int .i64 x.1]) rfl (by decide) (gf := 45) (lb := #[.pointer (some ⟨b, 0, none⟩)]) rfl trivial (Go.Proofs.enters_of Try.func45 (by kernel_rfl) rfl) HSEQ (Below.refl _ _) (fun _ => rfl)
    (fun (pre : List (Sec l)) W => ASt w w.heap.size wl.heap.size (pre.map (·.1)) W) (fun _ _ _ => False)
    HIo (fun _ _ _ _ _ hs _ _ => hs) A0 ?_
  clear HSEQ HIo A0
  apply Exists.intro
  refine ⟨?assign, ?body, ?done, ?stop⟩
  case assign =>
    intro l x W K hK
    gi_wp2
    exact hK
  case stop => intro D c pre W _ _ h _; exact h.elim
  case body =>
    rintro li pre ⟨v, hv⟩ W hI hlt
    obtain ⟨⟨u, hbx, hR⟩, hbel, hgw0⟩ := hI
    obtain ⟨Au, cu, hu⟩ := Kd.R_slice hR
    rw [List.length_map] at hu
    subst hu
    have hx := hbx.cell
    have hgw := hgw0
    have HR3 := Aside0.mk (Kd.R_alloc hR (.cells #[.int .i64 v] 3))
    have HONE := Aside0.mk (Kd.R_reads' (R_one (d := Kd.int .i64) (e := 3) (w := W) (base := w.heap.size) (ok := fun _ => True) (x := v) (cs := #[.int .i64 v]) (Kd.int_mkM _ _ _ v) hbel.size trivial)).2.2
    have HBX := Aside0.mk hbx
    have HBL := Aside0.mk hbel
    have hpl : (pre.map (·.1)).length ≤ 4294967296 := by rw [List.length_map]; omega
    clear hbx hbel hR
    gi_wp2_with (first | (gi_at_builtin; refine R_append_rows_in (Kd.int .i64) (w0 := w) w.heap.size rfl (.tmp 8) (.tmp 10) 38 3 (.int .i64 0) 8 rfl Try.underlying38 (by kernel_rfl) rfl (by decide) (by omega) _ (pre.map (·.1)) [v] _ _ _ _ (fun _ => False) rfl rfl HR3.out HONE.out (fun _ _ h => h) (fun _ h => h.elim) (fun j hj => by simp at hj; omega) (below_alloc HBL.out _) (by have := HBL.out.size; simp; omega) (by simp at hpl ⊢; omega) ?_; intro v6 w6 ho hb hg hat; obtain ⟨Ln, Av6, cv6, rfl⟩ : ∃ (Ln : Nat) (A : Option Addr) (c : Nat), v6 = .slice A Ln c := ⟨_, Kd.R_slice ho⟩; have HO6 := Aside0.mk ho; have HG6 := Aside0.mk hg; have X6 := Aside0.mk ((HBX.out.alloc (.cells #[.int .i64 v] 3)).kept hg (fun e => by have := HR3.out.1 _ e.symm; omega)); have hx7 := X6.out.cell; have hf7 := X6.out.frozen; clear ho hb hg hat))
    clear hx7 hf7
    have hg5 := grownBy_setCellK w6 w.heap.size 0 (.slice Av6 Ln cv6)
    have hb6 := pw_below_grown (below_alloc HBL.out (.cells #[.int .i64 v] 3)) _ (below_alloc HBL.out _).size HG6.out (fun k hk => by have := HR3.out.1 k hk; omega)
    refine ⟨(((KeepsOthers.alloc W _).trans (KeepsOthers.of_grownBy HG6.out (fun j o hj ho => ?_))).trans (KeepsOthers.setCell _ _ _)).from _, (KeepX.below (below_alloc (Below.refl _ _) _)).trans ((KeepX.grown HG6.out (fun k cs T fr hk hc => ?_)).trans (KeepX.grown hg5 (fun k cs T fr hk hc => by cases hk; exact ⟨fun _ => rfl, fun h => by omega⟩))), ?_⟩
    · obtain ⟨cells, hc⟩ := R_cells HR3.out j hj
      rw [hc] at ho
      cases ho
      rfl
    · obtain ⟨cells, hc'⟩ := R_cells HR3.out k hk
      rw [hc'] at hc
      cases hc
      exact ⟨fun h => by have := HR3.out.1 k hk; omega, fun _ e => by cases e⟩
    · have hm : ((pre ++ [(⟨v, hv⟩ : Sec l)]).map (·.1)) = pre.map (·.1) ++ [v] := by simp
      show ASt w w.heap.size _ ((pre ++ [(⟨v, hv⟩ : Sec l)]).map (·.1)) _
      rw [hm]
      exact ⟨⟨_, X6.out.set _, Kd.R_mono (Kd.R_grown HO6.out hg5 (fun k hk e => by cases e; omega)) (fun k hk => by have hk' : wl.heap.size ≤ k := hk; omega)⟩, pw_below_grown hb6 _ hb6.size hg5 (fun k hk => by cases hk; exact Nat.le_refl _), by have h1 := HG6.out.size; have h2 := hg5.size; simp at h1 h2 ⊢; omega⟩
  case done =>
    intro D xs W hD hxs hI hK
    obtain ⟨⟨u, hbx, hR⟩, hbel, hgw⟩ := hI
    have hxm : (secsA l).map (·.1) = secs l := by simp [secsA]
    rw [hxs, hxm] at hR
    obtain ⟨Au, cu, rfl⟩ := Kd.R_slice hR
    have hx := hbx.cell
    have HBX := Aside0.mk hbx
    have HBL := Aside0.mk hbel
    have HR := Aside0.mk hR
    clear hbx hbel hR
    gi_wp2_with fail
    refine ⟨by simp, .inl ⟨_, _, rfl, run_takeDeferred hK, ?_⟩⟩
    have hg := grownBy_putObj' W D (.deferred none)
    refine ⟨.slice Au (secs l).length cu, ?_, _, rfl, Kd.R_mono (R_nc HR.out hg (fun r e => by cases e; exact ⟨_, hK, rfl⟩)) (fun _ _ => trivial), pw_below_grown HBL.out _ HBL.out.size hg (fun k hk => by cases hk; omega)⟩
    simp [results, Try.results44, go_sem]

theorem slices_DeleteFunc_E.empty (fid : Nat) (caps : Array Value) (A : Option Addr) (c : Nat) (w : World) (eg : ∀ args w, (callFunc fid args).run Try.prog w = .ok (.enter fid args) w) (hC : Kd.C k47 w A 0 ([] : List S47)) :
    Calls Try.prog 32 #[.slice A 0 c, .func (.func fid) #[] caps] w fun e w' => e = .returned (.slice A 0 c) ∧ Below w.heap.size w w' := by
  have HC := Aside0.mk hC
  clear hC
  have hi : idxOf (fun _ : S47 => false) [] = -1 := rfl
  go_enter Try.func32, Try.ntmps32
  go_wp2_with (first | (go_at_call 24; refine (slices_IndexFunc_E.calls fid caps (fun _ => false) A c [] _ HC.out (Nat.zero_le _) eg (fun x hx => absurd hx (by simp))).mono ?_; rintro e w1 ⟨rfl, hb⟩; have HB := Aside0.mk hb; clear hb; rw [hi]))
  go_ret
  exact ⟨rfl, HB.out⟩
theorem extent_Sectors_1.calls (a b : Int) (w : World) (h0 : 0 ≤ a ∧ a ≤ 65536) (h1 : 0 ≤ b ∧ b ≤ 65536) :
    Calls Try.prog 33 #[.agg #[.int .i64 a, .int .i64 b]] w fun e w' => e = .returned (.bool false) ∧ Below w.heap.size w w' := by
  have hu := Try.underlying47
  have e1 : decide (b > 65536) = false := decide_eq_false (by omega)
  have e2 : decide (a < 0) = false := decide_eq_false (by omega)
  have e3 : decide (a > 4611686018427387904) = false := decide_eq_false (by omega)
  have e4 : decide (b < 0) = false := decide_eq_false (by omega)
  have f1 : ¬ b > 65536 := by omega
  have f2 : ¬ a < 0 := by omega
  have f3 : ¬ a > 4611686018427387904 := by omega
  have f4 : ¬ b < 0 := by omega
  go_enter Try.func33, Try.ntmps33
  go_wp2
  go_ret
  exact ⟨rfl, below_alloc (Below.refl _ _) _⟩
theorem slices_Collect_int.calls (A : Option Addr) (c b : Nat) (l : List S47) (w : World) (hb : b < w.heap.size) (hB : w.cell? ⟨b, 0, none⟩ = some (.slice A l.length c)) (hC : Kd.C k47 w A l.length l)
    (hgood : ∀ x ∈ l, 0 ≤ x.f0 ∧ x.f0 + x.f1 ≤ 9007199254740992 ∧ x.f1 ≤ 9007199254740992) (hlen : (secs l).length ≤ 4294967296) :
    Calls Try.prog 34 #[.func (.func 45) #[] #[.pointer (some ⟨b, 0, none⟩)]] w fun e w' => ∃ v, e = .returned v ∧ Kd.R (Kd.int .i64) 3 w' w.heap.size (fun _ => True) v (secs l) ∧ Below w.heap.size w w' := by
  have HG := Aside0.mk hgood
  have HC := Aside0.mk hC
  clear hgood hC
  go_enter Try.func34, Try.ntmps34
  go_wp2_with (first | (go_at_call 44; refine (callsIn_wide.1 (appendSeq_in A c b l _ hb hB HC.out HG.out hlen)).mono ?_; rintro e w1 ⟨v, rfl, hR, hW⟩; have HR := Aside0.mk hR; have HW := Aside0.mk hW; clear hR hW))
  go_ret
  exact ⟨v, rfl, HR.out, HW.out⟩
def extent_Sectors.f (l : List S47) : Option (List Int) := if goodL l = true then some (secs l) else none
theorem secs_len (l : List S47) (h : ∀ x ∈ l, x.f1 ≤ 65536) : (secs l).length ≤ 65536 * l.length := by
  induction l with
  | nil => simp [secs]
  | cons x l ih =>
    have h1 := ih (fun y hy => h y (by simp [hy]))
    have h2 := h x (by simp)
    have e : (secs (x :: l)).length = x.f1.toNat + (secs l).length := by simp [secs]
    rw [e, List.length_cons]
    omega
theorem own_base {α : Type} {d : Kd α} {e : Nat} {w : World} {base : Nat} {ok : Nat → Prop} {v : Value} {xs : List α} (h : d.R e w base ok v xs) (k : Nat) (hk : v.ownBlock = some k) : base ≤ k := ((Kd.R_bound h).1 k hk).2.1
theorem del_keep (A : Option Addr) (c : Nat) (base : Nat) (ok : Nat → Prop) (l : List S47) (w : World) (hR : Kd.R k47 47 w base ok (.slice A l.length c) l) (hgm : ∀ x ∈ l, 1 ≤ x.f1 ∧ x.f1 ≤ 65536 ∧ 0 ≤ x.f0 ∧ x.f0 ≤ 65536) :
    Calls Try.prog 32 #[.slice A l.length c, .func (.func 33) #[] #[]] w fun e w' => ∃ A' c', e = .returned (.slice A' l.length c') ∧ Kd.R k47 47 w' base ok (.slice A' l.length c') l ∧ ∃ row, w.grownBy w' row ∧ ∀ k, row = some k → (Value.slice A l.length c).ownBlock = some k := by
  have hen := Go.Proofs.enters_of Try.func33 (by kernel_rfl) rfl
  rcases Nat.eq_zero_or_pos l.length with h0 | hpos
  · obtain rfl := List.eq_nil_of_length_eq_zero h0
    refine (slices_DeleteFunc_E.empty 33 #[] A c w hen (Kd.R_reads' hR).2.2).mono ?_
    rintro e w1 ⟨rfl, hb⟩
    exact ⟨A, c, rfl, Kd.R_below hR hb, none, grown_of_below hb _, fun k e => by cases e⟩
  · obtain ⟨g, c', he, hgb, hgl, hgc⟩ := Kd.R_form hR hpos
    injection he with he1 _ he3
    subst he1 he3
    have hfil : l.filter (fun x => !(fun _ : S47 => false) x) = l := by simp
    refine (slices_DeleteFunc_E.calls 33 #[] (fun _ => false) g l.length c base ok l w hR hen (fun x hx w1 _ => ?_)).mono ?_
    · have := hgm x hx
      exact extent_Sectors_1.calls x.f0 x.f1 w1 (by omega) (by omega)
    · rintro e w1 ⟨m, rfl, hR1, hG⟩
      rw [hfil] at hR1
      have hm : m = l.length := (Kd.R_reads' hR1).1
      subst hm
      exact ⟨_, _, rfl, hR1, _, hG, fun k e => e⟩
set_option maxRecDepth 100000 in
theorem extent_Sectors.calls (A0 : Option Addr) (c0 : Nat) (l0 : List S47) (r : List Int) (w : World) (hr0 : Kd.C k47 w A0 l0.length l0) (hc0 : l0.length ≤ c0) (h : extent_Sectors.f l0 = some r) :
    Calls Try.prog 19 #[.slice A0 l0.length c0] w fun e w' => ∃ v0_ : Value, e = .returned v0_ ∧ Kd.R (Kd.int .i64) 3 w' w.heap.size (fun _ => True) v0_ r ∧ Below w.heap.size w w' := by
  unfold extent_Sectors.f at h
  split at h
  case isFalse => cases h
  rename_i hg
  obtain rfl := Option.some.inj h
  clear h
  have hl := goodL_len hg
  have hgm : ∀ x ∈ l0, 1 ≤ x.f1 ∧ x.f1 ≤ 65536 ∧ 0 ≤ x.f0 ∧ x.f0 ≤ 65536 := fun x hx => goodL_mem hg hx
  have HGM := Aside0.mk hgm
  have HGD : Aside0 (∀ x ∈ l0, 0 ≤ x.f0 ∧ x.f0 + x.f1 ≤ 9007199254740992 ∧ x.f1 ≤ 9007199254740992) := ⟨fun x hx => by have := hgm x hx; omega⟩
  have hsl : (secs l0).length ≤ 4294967296 := by have := secs_len l0 (fun x hx => (hgm x hx).2.1); omega
  have hcl : l0.length < 8796093022208 := by omega
  have HR0 := Aside0.mk hr0
  have HC0 := Aside0.mk hc0
  have HSL := Aside0.mk hsl
  clear hr0 hc0 hg hgm hsl
  go_enter Try.func19, Try.ntmps19
  go_wp2_with (first
    | (go_at_call 23; refine (slices_Clone_E.calls A0 c0 l0 l0 _ HR0.out HC0.out (by unfold slices_Clone_E.f; rw [if_pos hcl])).mono ?_; rintro e w1 ⟨v, rfl, hR, hW⟩; obtain ⟨Av, cv, rfl⟩ := Kd.R_slice hR; have HR := Aside0.mk hR; have HW := Aside0.mk hW; clear hR hW)
    | (go_at_call 32; refine (del_keep Av cv w.heap.size (fun _ => True) l0 _ HR.out HGM.out).mono ?_; rintro e w2 ⟨A2, c2, rfl, hR, row, hg, hrow⟩; have HR2 := Aside0.mk hR; have HW2 := Aside0.mk (pw_below_grown HW.out row HW.out.size hg (fun k hk => own_base HR.out k (hrow k hk))); clear hR hg hrow HR HW)
    | (go_at_call 35; refine (callsIn_wide.1 (sectors_in Fence.wide 9 trivial rfl A2 l0.length c2 w2)).mono ?_; rintro e w3 ⟨rfl, rfl⟩)
    | (go_at_call 34; refine (slices_Collect_int.calls A2 c2 w2.heap.size l0 _ (by simp) (cell_fresh w2 #[.slice A2 l0.length c2] 22 0 _ rfl) (Kd.C_alloc (Kd.R_reads' HR2.out).2.2 _) HGD.out HSL.out).mono ?_; rintro e w4 ⟨v, rfl, hR, hW⟩; have HR4 := Aside0.mk hR; have HW4 := Aside0.mk (below_step (below_alloc HW2.out _) hW); have HS4 := Aside0.mk (below_alloc HW2.out (.cells #[.slice A2 l0.length c2] 22)).size; clear hR hW))
  go_ret
  exact ⟨v, rfl, Kd.R_lower HR4.out HS4.out, HW4.out⟩
end Go.Proofs.Ytgnaippmncnlaaa.P
