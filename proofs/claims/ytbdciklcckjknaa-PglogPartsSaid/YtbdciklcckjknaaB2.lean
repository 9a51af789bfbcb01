import Derived.Test.YtbdciklcckjknaaG1
import Derived.Test.YtbdciklcckjknaaHSS
namespace Go.Proofs.Ytbdciklcckjknaa.P
open Go.RowKit Go.Proofs.YtbdciklcckjknaaW.PrintWords Go.Proofs.YtbdciklcckjknaaW.PrintLast Go.Proofs.YtbdciklcckjknaaW.PrintMore Go.Proofs.YtbdciklcckjknaaW.HB
set_option linter.unusedVariables false
set_option linter.unusedSimpArgs false

def nmE (x : S34) : ByteArray := x.f1.f3.f1
def pglog_Names.f (l0 : List S34) : Option (List ByteArray) := if l0.length < 8796093022208 then some (fl (Lib.compact ((tl (l0.map nmE)).mergeSort fun x y => decide (x ≤ y)))) else none
theorem infoStr : (Try.prog.info? 9).map (fun i => (i.zero, i.size, i.bytes)) = some (some (.string ⟨#[]⟩), 1, 16) := by kernel_rfl
theorem R_append_str {w : World} {base : Nat} {ok : Nat → Prop} (s : ByteArray) (hb : base ≤ w.heap.size) : Kd.C Kd.string (w.alloc (.cells #[.string s] 9)) (some ⟨w.heap.size, 0, none⟩) 1 [s] :=
  (Kd.R_reads' (R_one (d := Kd.string) (e := 9) (w := w) (base := base) (ok := fun _ => True) (x := s) (cs := #[.string s]) rfl hb trivial)).2.2
set_option maxRecDepth 100000 in
set_option maxHeartbeats 4000000 in
theorem pglog_Names.calls (A0 : Option Addr) (c0 : Nat) (l0 : List S34) (r : List ByteArray) (w : World) (hr0 : Kd.C k34 w A0 l0.length l0) (hc0 : l0.length ≤ c0) (h : pglog_Names.f l0 = some r) :
    Calls Try.prog 18 #[.slice A0 l0.length c0] w fun e w' => ∃ v0_ : Value, e = .returned (v0_) ∧ Kd.R Kd.string 9 w' w.heap.size (fun _ => True) v0_ r ∧ Below w.heap.size w w' := by
  unfold pglog_Names.f at h
  split at h
  case isFalse => cases h
  rename_i hln
  obtain rfl := Option.some.inj h
  clear h
  have HR := Aside0.mk hr0
  have HC := Aside0.mk hc0
  clear hr0 hc0
  have hu := Try.underlying34
  go_enter Try.func18, Try.ntmps18
  go_wp2
  go_loopw [3, 8] (fun v3 v8 w' => ∃ (i : Nat) (Av : Option Addr) (cv : Nat), v8 = .int .i64 i ∧ v3 = .slice Av i cv ∧ Aside0 (i ≤ l0.length) ∧ Aside0 (Kd.R Kd.string 9 w' w.heap.size (fun _ => True) (.slice Av i cv) ((l0.take i).map nmE)) ∧ Aside0 (Below w.heap.size w w')) (fun _ v _ => l0.length - (intOf v).toNat)
  case atStart => exact ⟨0, none, 0, rfl, rfl, ⟨by omega⟩, ⟨Kd.R_nil _ _ _ _ _⟩, ⟨Below.refl _ _⟩⟩
  case round =>
    obtain ⟨i, Av, cv, rfl, rfl, HI, HV, HB⟩ := hrel
    by_cases hlt : i < l0.length
    · obtain ⟨ad, e1, hx0, hx1, hx2, hx3, hx4, hx5, hx6, hx7, hx8, hx9, hx10, hx11, hx12, hx13⟩ := at_T34 (Kd.C_below HR.out HB.out) (i : Int) (by omega) (by omega)
      cases e1
      simp only [Int.toNat_natCast] at hx0 hx1 hx2 hx3 hx4 hx5 hx6 hx7 hx8 hx9 hx10 hx11 hx12 hx13
      have HT := Aside0.mk (show (l0.take (i + 1)).map nmE = (l0.take i).map nmE ++ [nmE (rd_T34 l0 i)] from by rw [List.take_succ_eq_append_getElem hlt, List.map_append, rd_at_N l0 i hlt]; rfl)
      have HL := Aside0.mk (show ((l0.take i).map nmE).length = i from by rw [List.length_map, List.length_take]; omega)
      generalize rd_T34 l0 (i : Int) = x at *
      have HB2 := Aside0.mk (below_alloc HB.out (.cells #[.int .i64 x.f0.f0, .int .i64 x.f0.f1, .int .i64 x.f1.f0, .int .i64 x.f1.f1, .int .i64 x.f1.f2, .int .i64 x.f1.f3.f0, .string x.f1.f3.f1, .int .i64 x.f1.f3.f2, .int .i64 x.f1.f3.f3, .string x.f1.f3.f4, .int .i64 x.f2.f0, .int .i64 x.f2.f1, .int .i64 x.f2.f2, .string x.f2.f3] 34))
      have HV2 := Aside0.mk (Kd.R_alloc HV.out (.cells #[.int .i64 x.f0.f0, .int .i64 x.f0.f1, .int .i64 x.f1.f0, .int .i64 x.f1.f1, .int .i64 x.f1.f2, .int .i64 x.f1.f3.f0, .string x.f1.f3.f1, .int .i64 x.f1.f3.f2, .int .i64 x.f1.f3.f3, .string x.f1.f3.f4, .int .i64 x.f2.f0, .int .i64 x.f2.f1, .int .i64 x.f2.f2, .string x.f2.f3] 34))
      have hone := R_append_str (base := w.heap.size) (ok := fun _ => True) x.f1.f3.f1 HB2.out.size
      rw [World.size_alloc] at hone
      have HONE := Aside0.mk hone
      clear hone
      have HV3 := Aside0.mk (Kd.R_alloc HV2.out (.cells #[.string x.f1.f3.f1] 9))
      go_wp2_with (first | (at_builtin; refine Kd.R_append_rows Kd.string (w0 := w) w.heap.size rfl (.tmp 12) (.tmp 17) 44 9 (.string ⟨#[]⟩) 16 rfl Try.underlying44 infoStr rfl (by decide) (by omega) _ ((l0.take i).map nmE) [x.f1.f3.f1] _ _ _ (fun _ => True) (fun _ => False) rfl rfl HV3.out HONE.out (fun _ _ h => h) (fun _ h => h.elim) (fun _ _ => trivial) (below_alloc HB2.out _) (below_alloc HB2.out _).size (by have := HL.out; omega) ?_; intro v6 w6 ho hb hg hat; obtain ⟨Av6, cv6, hv6⟩ := Kd.R_slice ho; rw [show ((l0.take i).map nmE ++ [x.f1.f3.f1]).length = i + 1 from by rw [List.length_append, HL.out]; rfl] at hv6; subst hv6; have HO6 := Aside0.mk ho; have HB6 := Aside0.mk hb; clear ho hb hg hat))
      go_roundw
      case rel => exact ⟨i + 1, Av6, cv6, by go_num, rfl, ⟨by omega⟩, ⟨by rw [HT.out]; exact HO6.out⟩, HB6⟩
      case measure => simp [intOf]; omega
    · have hie : i = l0.length := by have := HI.out; omega
      have HE := Aside0.mk hie
      have HV2 := Aside0.mk (show Kd.R Kd.string 9 wr w.heap.size (fun _ => True) (.slice Av i cv) (l0.map nmE) from by have := HV.out; rw [hie, List.take_length] at this; rw [hie]; exact this)
      clear hie
      go_wp2_with (first
        | (go_at_call 33; refine (sort_S Av cv i (l0.map nmE) 9 w.heap.size (fun _ => True) _ (by rw [List.length_map]; exact HE.out.symm) HV2.out (by have := HE.out; omega)).mono ?_; rintro e w1 ⟨rfl, hR1, row, hg1, hrow⟩; have HR1 := Aside0.mk hR1; have HB1 := Aside0.mk (pw_below_grown HB.out _ HB.out.size hg1 (fun k hk => ((Kd.R_bound HV2.out).1 k (hrow k hk)).2.1)); clear hR1 hg1 hrow)
        | (go_at_call 34; refine (compact_S Av cv i ((tl (l0.map nmE)).mergeSort fun x y => decide (x ≤ y)) 9 w.heap.size (fun _ => True) _ (by simp [tl]; exact HE.out.symm) HR1.out (by have := HE.out; omega)).mono ?_; rintro e w2 ⟨rfl, hR2, row2, hg2, hrow2⟩; have HR2 := Aside0.mk hR2; have HB2 := Aside0.mk (pw_below_grown HB1.out _ HB1.out.size hg2 (fun k hk => ((Kd.R_bound HR1.out).1 k (hrow2 k hk)).2.1)); clear hR2 hg2 hrow2))
      go_ret
      exact ⟨_, rfl, HR2.out, HB2.out⟩
end Go.Proofs.Ytbdciklcckjknaa.P
