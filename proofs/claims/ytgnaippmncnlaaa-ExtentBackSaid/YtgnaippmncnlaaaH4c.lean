import Derived.Test.YtgnaippmncnlaaaH4b
import Derived.Test.YtgnaippmncnlaaaH4d
import Derived.Test.YtgnaippmncnlaaaHJ
namespace Go.Proofs.Ytgnaippmncnlaaa.P
open Go.RowKit Go.Proofs.YtgnaippmncnlaaaW.PrintWords Go.Proofs.YtgnaippmncnlaaaW.PrintLast Go.Proofs.YtgnaippmncnlaaaW.PrintMore Go.Proofs.YtgnaippmncnlaaaW.HB
set_option linter.unusedVariables false
attribute [local go_sem] Oper.semAt_some


set_option maxRecDepth 100000 in
set_option maxHeartbeats 4000000 in
theorem change_main (total : Int) (A1 : Option Addr) (c1 : Nat) (free : List S47) (A2 : Option Addr) (c2 : Nat) (l : List S47) (give : Bool) (wrong : Int) (w : World) (hr1 : Kd.C k47 w A1 free.length free) (hc1 : free.length ≤ c1) (hr2 : Kd.C k47 w A2 l.length l) (hc2 : l.length ≤ c2)
    (h0 : 0 ≤ total) (h1 : total ≤ 65536) (hf : free.length ≤ 65536) (hall : free.all (inB total) = true) (hany : l.any (fun x => !inB total x) = false) (r1 : List S47) (r2 : Int)
    (hres : (match markAll give (marks0 total (secs free)) (secs l) with | none => (free, wrong) | some m => (packB m, 0)) = (r1, r2)) :
    CallsIn Fence.wide 9 Try.prog 29 #[.int .i64 total, .slice A1 free.length c1, .slice A2 l.length c2, .bool give, .int .i64 wrong] w (ChPost w r1 r2) := by
  have HR1 := Aside0.mk hr1
  have HC1 := Aside0.mk hc1
  have HR2 := Aside0.mk hr2
  have HC2 := Aside0.mk hc2
  have HANY := Aside0.mk hany
  have HALL := Aside0.mk hall
  have HRES := Aside0.mk hres
  clear hr1 hc1 hr2 hc2 hany hall hres
  refine callsIn_of_wp_marks Try.func29 rfl trivial ?_ rfl
  simp only [Try.ntmps29, List.size_toArray, List.length_cons, List.length_nil, Nat.reduceAdd, Nat.reduceSub, Array.replicate_succ, Array.replicate_zero, List.push_toArray, List.append_toArray, List.nil_append, List.cons_append]
  gi_wp2_with fail
  refine ⟨trivial, ?_⟩
  have S0 := ChSt.start w total give wrong
  revert S0
  generalize (((((w.alloc (.cells #[.int .i64 total] 3)).alloc (.cells #[.bool give] 4)).alloc (.cells #[.int .i64 wrong] 28)).alloc (.cells #[.slice none 0 0] 22)).alloc (.cells #[.int .i64 0] 28)) = w1
  generalize w.heap.size + 1 + 1 + 1 + 1 = b4
  generalize w.heap.size + 1 + 1 + 1 = b3
  generalize w.heap.size + 1 + 1 = b2
  generalize w.heap.size + 1 = b1
  intro S0
  have S := Aside0.mk S0
  clear S0
  have hl : free.length < 8796093022208 := by omega
  refine (callsIn_wide.2 (slices_Clone_E.calls A1 c1 free free _ (Kd.C_below HR1.out S.out.below) HC1.out (by unfold slices_Clone_E.f; rw [if_pos hl]))).mono ?_
  rintro e w2 ⟨v, rfl, hR, hB⟩
  have HR := Aside0.mk (Kd.R_mono (Kd.R_bound hR) (ok' := fun k => b4 < k ∧ k < w2.heap.size) (fun k hk => ⟨by have := hk.2.1; have := S.out.x4.lt; omega, hk.2.2.1⟩))
  have S2 := Aside0.mk (S.out.step hB)
  have hb42 : b4 < w2.heap.size := by have := S.out.x4.lt; have := hB.size; omega
  have HRL := Aside0.mk (Kd.R_lower HR.out S.out.below.size)
  clear hR hB S HR
  obtain ⟨Av, cv, rfl⟩ := Kd.R_slice HRL.out
  gi_wp2_with fail
  refine ⟨trivial, ?_⟩
  refine (callsIn_wide.2 (slices_ContainsFunc_E.calls 43 #[.pointer (some ⟨w.heap.size, 0, none⟩)] (fun x => !inB total x) A2 c2 l _ (Kd.C_below HR2.out (below_alloc S2.out.below _)) HC2.out (Go.Proofs.enters_of Try.func43 (by kernel_rfl) rfl) (fun x _ w3 hw3 => extent_change_1.calls x.f0 x.f1 total w.heap.size w3 h0 h1 (boxed_step (S2.out.alloc _).x0 hw3).cell))).mono ?_
  rintro e w3 ⟨rfl, hb⟩
  rw [HANY.out]
  have X5 := Aside0.mk (boxed_step (Boxed.new w2 22 (.slice Av free.length cv)) hb)
  have S3 := Aside0.mk ((S2.out.alloc _).step hb)
  have HR3 := Aside0.mk (Kd.R_below (Kd.R_alloc HRL.out _) hb)
  clear hb S2 HRL
  generalize w2.heap.size = b5 at *
  have hc0 := S3.out.x0.cell
  obtain ⟨T, rfl⟩ : ∃ T : Nat, total = T := ⟨total.toNat, by omega⟩
  have hmk := run_make_row' (P := Try.prog) 64 4 (.bool false) 1 Try.underlying64 infoB rfl .i64 .i64 T (by omega) (by omega)
  have HROW := Aside0.mk (R_madeB w3 w.heap.size T S3.out.below.size (by omega))
  have X6 := Aside0.mk (Boxed.new (w3.alloc (.cells (madeCells #[.bool false] T) 4)) 64 (.slice (some ⟨w3.heap.size, 0, none⟩) T T))
  rw [World.size_alloc] at X6
  gi_wp2_with fail
  refine ⟨trivial, ?_⟩
  clear hmk hc0
  have L0 : ChLoop w b1 b2 b3 b4 b5 w3.heap.size (w3.heap.size + 1) T give wrong (.slice none 0 0) 0 (.slice Av free.length cv) free (List.replicate T false) ((w3.alloc (.cells (madeCells #[.bool false] T) 4)).alloc (.cells #[.slice (some ⟨w3.heap.size, 0, none⟩) T T] 64)) :=
    ⟨(S3.out.alloc _).alloc _, (X5.out.alloc _).alloc _, by simpa using X6.out, Kd.R_alloc (Kd.R_alloc HR3.out _) _, by simpa using Kd.R_alloc HROW.out _, hb42, X5.out.lt, by omega⟩
  have LA := Aside0.mk L0
  clear L0 HROW X6 X5 S3 HR3
  revert LA
  generalize ((w3.alloc (.cells (madeCells #[.bool false] T) 4)).alloc (.cells #[.slice (some ⟨w3.heap.size, 0, none⟩) T T] 64)) = w4
  generalize w3.heap.size + 1 = b6
  generalize w3.heap.size = gi
  intro LA
  refine (sectors_in Fence.wide _ trivial rfl A1 free.length c1 w4).mono ?_
  rintro e w5 ⟨rfl, rfl⟩
  have LB := Aside0.mk (LA.out.alloc (.cells #[.slice A1 free.length c1] 22))
  have hgf : ∀ x ∈ free, 0 ≤ x.f0 ∧ x.f0 + x.f1 ≤ 9007199254740992 ∧ x.f1 ≤ 9007199254740992 := fun x hx => by
    have := inB_good h1 (List.all_eq_true.1 HALL.out x hx); omega
  have HGF := Aside0.mk hgf
  have hgi4 : gi < w4.heap.size := by have := LA.out.x6.lt; have := LA.out.o6; omega
  have hA1 := C_block HR1.out
  have hA2 := C_block HR2.out
  have hws : w.heap.size < gi := by have := LA.out.ch.o0; have := LA.out.ch.o1; have := LA.out.ch.o2; have := LA.out.ch.o3; have := LA.out.ch.o4; have := LA.out.o5; have := LA.out.og; omega
  clear hgf
  gi_wp2_with fail
  have hb7 := cell_fresh w4 #[.slice A1 free.length c1] 22 0 _ rfl
  have hsz7 : w4.heap.size < (w4.alloc (.cells #[.slice A1 free.length c1] 22)).heap.size := by simp
  revert LB hb7 hsz7
  generalize (w4.alloc (.cells #[.slice A1 free.length c1] 22)) = wl
  generalize w4.heap.size = b7 at *
  intro LB hb7 hsz7
  clear LA
  have HI0 : ChLoop w b1 b2 b3 b4 b5 gi b6 T give wrong (.slice none 0 0) 0 (.slice Av free.length cv) free (marks0 T (([] : List (Sec free)).map (·.1))) wl := by
    have := LB.out
    have e : marks0 T (([] : List (Sec free)).map (·.1)) = List.replicate T false := by simp [marks0]
    rw [e]; exact this
  have HIo : OwnFrom wl.heap.size (fun (pre : List (Sec free)) W => ChLoop w b1 b2 b3 b4 b5 gi b6 T give wrong (.slice none 0 0) 0 (.slice Av free.length cv) free (marks0 T (pre.map (·.1))) W) := chloop_from LB.out.ch.below.size
  have HSEQ := sectors_stops Fence.wide 8 trivial rfl (by decide) b7 c1 (fun k => k = gi) (fun t => t = 47) A1 free wl hsz7 (by show ¬ b7 = gi; omega) (fun ad e hp => by have := hA1 ad e hp; refine ⟨by omega, ?_⟩; show ¬ ad.block = gi; omega) rfl HGF.out hb7 (Kd.C_below HR1.out LB.out.ch.below)
  refine rf_G (F := Fence.wide) (P := Try.prog) (encs := fun x : Sec free => #[Value.int .i64 x.1]) rfl (by decide) (gf := 45) (lb := #[.pointer (some ⟨b7, 0, none⟩)]) rfl trivial (Go.Proofs.enters_of Try.func45 (by kernel_rfl) rfl) HSEQ (Below.refl _ _) (fun _ => rfl)
    (fun (pre : List (Sec free)) W => ChLoop w b1 b2 b3 b4 b5 gi b6 T give wrong (.slice none 0 0) 0 (.slice Av free.length cv) free (marks0 T (pre.map (·.1))) W) (fun _ _ _ => False)
    HIo (fun _ _ _ _ _ hs _ _ => hs) HI0 ?_
  clear HSEQ HIo HI0 LB
  apply Exists.intro
  refine ⟨?assign, ?body, ?done, ?stop⟩
  case assign =>
    intro l x W K hK
    gi_wp2
    exact hK
  case stop => intro D c pre W _ _ h _; exact h.elim
  case body =>
    rintro li pre ⟨v, hv⟩ W hI hlen
    have HI := Aside0.mk hI
    have hvb := secs_mem h1 (List.all_eq_true.1 HALL.out) hv
    obtain ⟨k, rfl⟩ : ∃ k : Nat, v = k := ⟨v.toNat, by omega⟩
    have hlm := marks0_len (T : Int) (pre.map (·.1))
    simp only [Int.toNat_natCast] at hlm
    have HLM := Aside0.mk hlm
    have hkT : k < T := by omega
    obtain ⟨hb1, hb2⟩ := HI.out.bit k (by rw [HLM.out]; exact hkT)
    have hx6 := HI.out.x6.cell
    rw [HLM.out] at hx6
    clear hI hlm hlen
    gi_wp2
    refine ⟨(KeepsOthers.setCell _ _ _).from _, KeepX.grown (grownBy_setCellK W gi k _) (fun j cs T' fr hj _ => by cases hj; exact ⟨fun _ => rfl, fun h => by omega⟩), ?_⟩
    have := HI.out.setBit k (by rw [HLM.out]; exact hkT) true
    show ChLoop w b1 b2 b3 b4 b5 gi b6 _ _ _ _ _ _ _ (marks0 T ((pre ++ [(⟨(k : Int), hv⟩ : Sec free)]).map (·.1))) _
    rw [List.map_append, List.map_singleton, marks0_snoc]
    simpa using this
  case done =>
    intro D xs W hD hxs hI hK
    have HI := Aside0.mk hI
    have HK := Aside0.mk hK
    have HXS := Aside0.mk hxs
    clear hI hK hxs
    gi_wp2_with fail
    refine ⟨trivial, ?_⟩
    refine (sectors_in Fence.wide _ trivial rfl A2 l.length c2 W).mono ?_
    rintro e w5 ⟨rfl, rfl⟩
    have hxm : (secsA free).map (·.1) = secs free := by simp [secsA]
    rw [HXS.out, hxm] at HI
    have LB := Aside0.mk (HI.out.alloc (.cells #[.slice A2 l.length c2] 22))
    have hlm := marks0_len (T : Int) (secs free)
    simp only [Int.toNat_natCast] at hlm
    have HLM := Aside0.mk hlm
    clear hlm hxm HXS
    have hgi8 : gi < W.heap.size := by have := HI.out.x6.lt; have := HI.out.o6; omega
    have hgl : ∀ x ∈ l, inB (T : Int) x = true := fun x hx => by
      have := List.any_eq_false.1 HANY.out x hx
      simpa using this
    have HGL := Aside0.mk hgl
    have hgf2 : ∀ x ∈ l, 0 ≤ x.f0 ∧ x.f0 + x.f1 ≤ 9007199254740992 ∧ x.f1 ≤ 9007199254740992 := fun x hx => by
      have := inB_good h1 (hgl x hx); omega
    have HGF2 := Aside0.mk hgf2
    clear hgl hgf2
    gi_wp2_with fail
    have hb8 := cell_fresh W #[.slice A2 l.length c2] 22 0 _ rfl
    have hsz8 : W.heap.size < (W.alloc (.cells #[.slice A2 l.length c2] 22)).heap.size := by simp
    have HKb := Aside0.mk ((Below.heap_alloc W (.cells #[.slice A2 l.length c2] 22) D (Array.getElem?_eq_some_iff.1 HK.out).1).trans HK.out)
    revert LB hb8 hsz8 HKb
    generalize (W.alloc (.cells #[.slice A2 l.length c2] 22)) = wm
    generalize hbe : W.heap.size = b8 at *
    intro LB hb8 hsz8 HKb
    clear HI
    have hDm : D < wm.heap.size := (Array.getElem?_eq_some_iff.1 HKb.out).1
    have hDg : D ≠ gi := by omega
    have HSEQ := sectors_stops Fence.wide 8 trivial rfl (by decide) b8 c2 (fun k => k = gi) (fun t => t = 47) A2 l wm hsz8 (by show ¬ b8 = gi; omega) (fun ad e hp => by have := hA2 ad e hp; refine ⟨by omega, ?_⟩; show ¬ ad.block = gi; omega) rfl HGF2.out hb8 (Kd.C_below HR2.out LB.out.ch.below)
    have HIo : OwnFrom wm.heap.size (fun (pre : List (Sec l)) W => (∃ ms, markAll give (marks0 T (secs free)) (pre.map (·.1)) = some ms ∧ ms.length = T ∧ ChLoop w b1 b2 b3 b4 b5 gi b6 T give wrong (.slice none 0 0) 0 (.slice Av free.length cv) free ms W) ∧ W.heap[D]? = some (.deferred (some []))) := fun s X Y row hs hg hr => by
      obtain ⟨⟨ms, e1, e2, h⟩, hd⟩ := hs
      exact ⟨⟨ms, e1, e2, h.nc hg (fun r e => ⟨Nat.le_trans LB.out.ch.below.size (hr r e).1, (hr r e).2⟩)⟩, (hg.block D (Array.getElem?_eq_some_iff.1 hd).1 (fun e => by have := (hr D e.symm).1; omega)).trans hd⟩
    have HIxo : ∀ c, OwnFrom wm.heap.size ((fun (c : Code) (pre : List (Sec l)) W => c = Code.ret ∧ markAll give (marks0 T (secs free)) (pre.map (·.1)) = none ∧ (∃ ms, ChLoop w b1 b2 b3 b4 b5 gi b6 T give wrong (.slice Av free.length cv) wrong (.slice Av free.length cv) free ms W) ∧ W.heap[D]? = some (.deferred (some []))) c) := fun c s X Y row hs hg hr => by
      obtain ⟨e0, e1, ⟨ms, h⟩, hd⟩ := hs
      exact ⟨e0, e1, ⟨ms, h.nc hg (fun r e => ⟨Nat.le_trans LB.out.ch.below.size (hr r e).1, (hr r e).2⟩)⟩, (hg.block D (Array.getElem?_eq_some_iff.1 hd).1 (fun e => by have := (hr D e.symm).1; omega)).trans hd⟩
    refine rf_G (F := Fence.wide) (P := Try.prog) (encs := fun x : Sec l => #[Value.int .i64 x.1]) rfl (by decide) (gf := 45) (lb := #[.pointer (some ⟨b8, 0, none⟩)]) rfl trivial (Go.Proofs.enters_of Try.func45 (by kernel_rfl) rfl) HSEQ (Below.refl _ _) (fun _ => rfl)
      _ _ HIo HIxo ⟨⟨_, rfl, HLM.out, LB.out⟩, HKb.out⟩ ?_
    have LBsz := LB.out.ch.below.size
    clear HSEQ HIo HIxo LB
    apply Exists.intro
    refine ⟨?assign, ?body, ?done, ?stop⟩
    case assign =>
      intro l x W K hK
      gi_wp2
      exact hK
    -- BODY2 BEGIN
    case body =>
      rintro li pre ⟨v, hv⟩ W3 ⟨⟨ms, hms, hml, hI⟩, hD3⟩ hlen
      have HI := Aside0.mk hI
      have HMS := Aside0.mk hms
      have hvb := secs_mem h1 HGL.out hv
      obtain ⟨k, rfl⟩ : ∃ k : Nat, v = k := ⟨v.toNat, by omega⟩
      have HML := Aside0.mk hml
      have HD3 := Aside0.mk hD3
      have hkT : k < T := by omega
      obtain ⟨hb1, hb2⟩ := HI.out.bit k (by rw [HML.out]; exact hkT)
      have hx6 := HI.out.x6.cell
      have hx1 := HI.out.ch.x1.cell
      rw [HML.out] at hx6
      have hx5 := HI.out.x5.cell
      have hx2 := HI.out.ch.x2.cell
      have hx3 := HI.out.ch.x3.cell
      have hf3 := HI.out.ch.x3.frozen
      have hx4 := HI.out.ch.x4.cell
      have hf4 := HI.out.ch.x4.frozen
      have ho4 := HI.out.ch.o4
      have ho3 := HI.out.ch.o3
      have hx2' := fun v => far_cell2 (v := v) (a := ⟨b3, 0, none⟩) hx2 (by simp; omega)
      have hx4' := fun v => far_cell2 (v := v) (a := ⟨b3, 0, none⟩) hx4 (by simp; omega)
      clear hI hml hlen hms hD3
      by_cases hdec : ms.getD k false = give
      · have hq : (ms.getD k false == give) = true := by simpa using hdec
        have HDEC := Aside0.mk hdec
        clear hdec
        rw [List.getD_eq_getElem?_getD] at hq
        gi_wp2
        refine meetIn ?_
        apply Exists.intro
        apply Exists.intro
        refine ⟨?_, ?_⟩
        · gi_region
          all_goals exact ⟨rfl, rfl, rfl⟩
        gi_wp2
        refine meetIn ?_
        apply Exists.intro
        apply Exists.intro
        refine ⟨?_, ?_⟩
        · gi_region
          all_goals exact ⟨rfl, rfl, rfl⟩
        gi_wp2
        have o0 := HI.out.ch.o0
        have o1 := HI.out.ch.o1
        have o2 := HI.out.ch.o2
        have o5 := HI.out.o5
        have og := HI.out.og
        refine ⟨(((KeepsOthers.setCell W3 _ _).trans (KeepsOthers.setCell _ _ _)).trans ((KeepsOthers.drew _).trans (KeepsOthers.drew _))).from _, rfl, ?_, ⟨ms, (HI.out.setRes (.slice Av free.length cv) wrong).step (Below.refl _ _).drew.drew⟩, ?_⟩
        · rw [List.map_append, List.map_singleton, markAll_snoc, HMS.out]
          simp only [Option.bind_some, Int.toNat_natCast]
          rw [if_pos HDEC.out]
        · refine ((grownBy_setCellK (W3.setCell ⟨b3, 0, none⟩ (.slice Av free.length cv)) b4 0 (.int .i64 wrong)).block D (by simp; exact (Array.getElem?_eq_some_iff.1 HD3.out).1) (by simp; omega)).trans (((grownBy_setCellK W3 b3 0 (.slice Av free.length cv)).block D (Array.getElem?_eq_some_iff.1 HD3.out).1 (by simp; omega)).trans HD3.out)
      · have hq : (ms.getD k false == give) = false := by simpa using hdec
        have HDEC := Aside0.mk hdec
        clear hdec
        rw [List.getD_eq_getElem?_getD] at hq
        gi_wp2
        refine meetIn ?_
        apply Exists.intro
        apply Exists.intro
        refine ⟨?_, ?_⟩
        · gi_region
          all_goals exact ⟨rfl, rfl, rfl⟩
        gi_wp2
        refine ⟨((KeepsOthers.setCell W3 _ _).trans (KeepsOthers.drew _)).from _, ?_, ⟨ms.set k give, ?_, by rw [List.length_set]; exact HML.out, (HI.out.setBit k (by rw [HML.out]; exact hkT) give).step (Below.refl _ _).drew⟩, ?_⟩
        · exact (KeepX.grown (grownBy_setCellK W3 gi k _) (fun j cs T' fr hj _ => by cases hj; exact ⟨fun _ => rfl, fun h => by omega⟩)).trans (KeepX.below (Below.refl _ _).drew)
        · rw [List.map_append, List.map_singleton, markAll_snoc, HMS.out]
          simp only [Option.bind_some, Int.toNat_natCast]
          rw [if_neg HDEC.out]
        · exact ((grownBy_setCellK W3 gi k (.bool give)).block D (Array.getElem?_eq_some_iff.1 HD3.out).1 (by simp; omega)).trans HD3.out
    -- BODY2 END
    case stop =>
      rintro D2 c pre Wx hD2 ⟨mm, hpre⟩ ⟨rfl, hnone, ⟨ms, hI⟩, hd⟩ hK2
      have HI := Aside0.mk hI
      have HN := Aside0.mk hnone
      have HPR := Aside0.mk hpre
      have HD := Aside0.mk hd
      have HK2 := Aside0.mk hK2
      have hDD : D ≠ D2 := by omega
      clear hI hnone hpre hd hK2
      gi_wp2
      have hp1 : (Wx.putObj D2 (.deferred none)).heap[D]? = Wx.heap[D]? := World.putObj_heap_other hDD
      refine ⟨by simp, .inl ⟨_, _, rfl, run_takeDeferred HK2.out, ?_⟩⟩
      refine ⟨by simp, .inl ⟨_, _, rfl, run_takeDeferred (hp1.trans HD.out), ?_⟩⟩
      have hE : ChLoop w b1 b2 b3 b4 b5 gi b6 T give wrong (.slice Av free.length cv) wrong (.slice Av free.length cv) free ms ((Wx.putObj D2 (.deferred none)).putObj D (.deferred none)) :=
        (HI.out.nc (grownBy_putObj' Wx D2 (.deferred none)) (fun r e => by cases e; exact ⟨Nat.le_trans LBsz hD2, _, HK2.out, rfl⟩)).nc (grownBy_putObj' _ D (.deferred none)) (fun r e => by cases e; exact ⟨by omega, _, hp1.trans HD.out, rfl⟩)
      have hall2 : markAll give (marks0 T (secs free)) (secs l) = none := by
        have e1 : secs l = (pre.map (·.1)) ++ (secs l).drop mm := by
          rw [HPR.out, List.map_take]
          have : (secsA l).map (·.1) = secs l := by simp [secsA]
          rw [this, List.take_append_drop]
        rw [e1]
        exact markAll_none _ _ _ _ HN.out
      have hr := HRES.out
      rw [hall2] at hr
      obtain ⟨rfl, rfl⟩ := (Prod.mk.injEq _ _ _ _).mp hr
      refine ⟨.tuple #[.slice Av free.length cv, .int .i64 wrong], ?_, _, rfl, Kd.R_mono hE.out (fun _ _ => trivial), hE.ch.below⟩
      have e3 := hE.ch.x3.cell
      have e4 := hE.ch.x4.cell
      simp [results, Try.results29, go_sem, e3, e4]
    case done =>
      rintro D2 xs Wx hD2 hxs ⟨⟨ms, hms, hml, hI⟩, hd⟩ hK2
      have hDD : D ≠ D2 := by omega
      have hxm : (secsA l).map (·.1) = secs l := by simp [secsA]
      rw [hxs, hxm] at hms
      have hr := HRES.out
      rw [hms] at hr
      obtain ⟨rfl, rfl⟩ := (Prod.mk.injEq _ _ _ _).mp hr
      subst hml
      have o0 := hI.ch.o0; have o1 := hI.ch.o1; have o2 := hI.ch.o2; have o3 := hI.ch.o3; have o4 := hI.ch.o4; have o5 := hI.o5; have og := hI.og; have o6 := hI.o6
      have s6 := hI.x6.lt
      have sD := (Array.getElem?_eq_some_iff.1 hd).1
      have sD2 := (Array.getElem?_eq_some_iff.1 hK2).1
      have HB0 : ChBase w b3 b4 b5 b6 gi D D2 Wx.heap.size ms Wx := ⟨hI.ch.x3, hI.ch.x4, hI.x6, hI.row, hI.ch.below, hd, hK2, ⟨by omega, by omega, by omega, by omega, by omega, by omega, by omega, by omega⟩, ⟨by omega, by omega, by omega, by omega, by omega, by omega, by omega, by omega, by omega, by omega, by omega, by omega⟩⟩
      have HX5 := Aside0.mk hI.x5
      have HB := Aside0.mk HB0
      have hx5 := hI.x5.cell
      have hf5 := hI.x5.frozen
      have hx6 := fun v => far_cell2 (v := v) (a := ⟨b5, 0, none⟩) hI.x6.cell (by simp; omega)
      have hT : ms.length ≤ 65536 := by omega
      clear hI hms hd hK2 hxs hr HRES HB0 hxm HK HKb
      have HB1 := Aside0.mk (HB.out.grown (grownBy_setCellK Wx b5 0 (.slice none 0 0)) (fun k e => by cases e; exact .inr rfl))
      have X51 := Aside0.mk (HX5.out.set (.slice none 0 0))
      generalize hlo : Wx.heap.size = lo at *
      clear hlo HB HX5
      gi_wp2_with fail
      clear hx5 hf5 hx6
      gi_loopw [51] (fun v51 wr => ∃ (i : Nat) (ov : Value), v51 = .int .i64 i ∧ Aside0 (i ≤ ms.length) ∧ Aside0 (ChBase w b3 b4 b5 b6 gi D D2 lo ms wr) ∧ Aside0 (Boxed wr b5 22 ov) ∧ Aside0 (Kd.R k47 47 wr w.heap.size (fun k => lo ≤ k) ov (outs ms i))) (fun v _ => ms.length - (intOf v).toNat)
      case atStart => exact ⟨0, _, rfl, ⟨Nat.zero_le _⟩, HB1, X51, ⟨Kd.R_nil _ _ _ _ _⟩⟩
      case round =>
        obtain ⟨i, ov, rfl, HI, HBr, X5r, HRr⟩ := hrel
        clear HB1 X51
        have hok := Aside0.mk (outs_ok ms i)
        by_cases hlt : i < ms.length
        · have hbit := HBr.out.bit i hlt
          have hsucc := Aside0.mk (outs_succ ms i)
          obtain ⟨Ao, co, rfl⟩ := Kd.R_slice HRr.out
          have hx5 := X5r.out.cell
          have hf5 := X5r.out.frozen
          have hx6 := HBr.out.x6.cell
          have hol : (outs ms i).length ≤ 65536 := by have := hok.out.1; omega
          cases hb : ms.getD i false with
          | false =>
            rw [hb] at hbit
            rw [hb] at hsucc
            clear hb
            gi_wp2
            go_roundw
            case rel =>
              refine ⟨i + 1, _, by go_num, ⟨by omega⟩, HBr, X5r, ⟨?_⟩⟩
              rw [hsucc.out]
              exact HRr.out
            case measure => simp [intOf]; omega
          | true =>
            rw [hb] at hbit
            rw [hb] at hsucc
            clear hb
            rw [packStep_true] at hsucc
            by_cases hpos : 0 < (outs ms i).length
            · obtain ⟨go, co', he, hgb, hgl, hgc⟩ := Kd.R_form HRr.out hpos
              have hlog := HRr.out.1
              injection he with he1 _ he3
              subst he1 he3
              have hlog2 : lo ≤ go := hlog go rfl
              obtain ⟨ce, hcl, hM, hcc, hfr⟩ := Kd.R_elem HRr.out z47 (((outs ms i).length : Int) - 1) (by omega) (by omega)
              obtain rfl := k47_openM hM
              obtain ⟨p, hp⟩ : ∃ p, (outs ms i).length = p + 1 := ⟨(outs ms i).length - 1, by omega⟩
              have hpi : (((outs ms i).length : Int) - 1) = (p : Int) := by omega
              have HPI := Aside0.mk hpi
              have HP := Aside0.mk hp
              have hy0 : wr.cell? ⟨go, p * 2, none⟩ = some (.int .i64 (rd_T47 (outs ms i) p).f0) := by have := hcc 0 _ rfl; rw [hpi] at this; exact this
              have hy1 : wr.cell? ⟨go, p * 2 + 1, none⟩ = some (.int .i64 (rd_T47 (outs ms i) p).f1) := by have := hcc 1 _ rfl; rw [hpi] at this; exact this
              have hz1 : wr.frozen? ⟨go, p * 2 + 1, none⟩ = false := by have := hfr 1; rw [hpi] at this; exact this
              have hmem : rd_T47 (outs ms i) p ∈ outs ms i := by rw [rd_at_E _ _ (by omega)]; exact List.getElem_mem _
              obtain ⟨hq1, hq2, hq3⟩ := hok.out.2 _ hmem
              have hcap := (Kd.R_reads' HRr.out).2.1
              have HR2 := Aside0.mk HRr.out
              rw [hp] at HR2 X5r hx5 hcap
              rw [hpi] at hsucc
              have HWP := Aside0.mk (wrap_small (p : Int) (by omega) (by omega))
              have HWQ := Aside0.mk (wrap_small ((rd_T47 (outs ms i) p).f0 + (rd_T47 (outs ms i) p).f1) (by omega) (by omega))
              clear hcl hM hcc hfr hgb hgc hlog hmem hp hpi HRr
              have hd0 : decide ((0 : Int) < (p : Int) + 1) = true := decide_eq_true (by omega)
              have hd1 : decide ((p : Int) < (p : Int) + 1) = true := decide_eq_true (by omega)
              have hd2 : (p : Int) < (p : Int) + 1 := by omega
              by_cases hm : (rd_T47 (outs ms i) p).f0 + (rd_T47 (outs ms i) p).f1 = (i : Int)
              · have hmq : ((rd_T47 (outs ms i) p).f0 + (rd_T47 (outs ms i) p).f1 == (i : Int)) = true := by rw [beq_iff_eq]; exact hm
                have HM := Aside0.mk hm
                clear hm
                have hwp := HWP.out
                have hwq := HWQ.out
                gi_wp2_with fail
                gi_big_quiet_th (fail)
                gi_wp2_with fail
                clear hwp hwq HWP HWQ
                go_roundw
                case rel =>
                  have hst := set_f1 (Kd.R_drewN HR2.out nq) p (by omega) ((rd_T47 (outs ms i) p).f1 + 1)
                  refine ⟨i + 1, _, by go_num, ⟨by omega⟩, ⟨(HBr.out.grown (row := none) (grown_of_below (pw_below_drewN (Below.refl _ _) nq) _) (fun k e => by cases e)).grown hst.2 (fun k e => by cases e; exact .inl hlog2)⟩, ⟨(X5r.out.kept (grown_of_below (pw_below_drewN (Below.refl _ _) nq) none) (by simp)).kept hst.2 (by have := HBr.out.l5; simp; omega)⟩, ⟨?_⟩⟩
                  rw [hsucc.out, if_pos ⟨hpos, HM.out⟩]
                  have e : (outs ms i).length - 1 = p := by have := HP.out; omega
                  rw [e]
                  exact hst.1
                case measure => simp [intOf]; omega
              · have hmq : ((rd_T47 (outs ms i) p).f0 + (rd_T47 (outs ms i) p).f1 == (i : Int)) = false := by rw [beq_eq_false_iff_ne]; exact hm
                have HS := Aside0.mk (hsucc.out.trans (if_neg (fun h => hm h.2)))
                clear hm hsucc
                have hwp := HWP.out
                have hwq := HWQ.out
                gi_wp2_with fail
                gi_big_quiet_th (fail)
                clear hwp hwq HWP HWQ hmq hd0 hd1 hd2 hy0 hy1 hz1
                have HONE := Aside0.mk (Kd.R_reads' (R_one (d := k47) (e := 47) (w := wr.drewN nq) (base := w.heap.size) (ok := fun _ => True) (x := ⟨(i : Int), 1⟩) (cs := #[.int .i64 (i : Int), .int .i64 1]) (k47_mkM _ _ _ (⟨(i : Int), 1⟩ : S47)) HBr.out.below.size trivial)).2.2
                have HR3 := Aside0.mk (Kd.R_alloc (Kd.R_drewN HR2.out nq) (.cells #[.int .i64 (i : Int), .int .i64 1] 47))
                gi_wp2_with (first | (gi_at_builtin; refine R_append_rows_in k47 (w0 := w) w.heap.size rfl (.tmp 58) (.tmp 61) 22 47 (.agg #[(.int .i64 0), (.int .i64 0)]) 16 rfl Try.underlying22 info47 rfl (by decide) (by omega) _ (outs ms i) [(⟨(i : Int), 1⟩ : S47)] _ _ _ _ (fun _ => False) rfl rfl HR3.out HONE.out (fun _ _ h => h) (fun _ h => h.elim) (fun j hj => by simp at hj; have := HBr.out.ls; omega) (below_alloc (pw_below_drewN HBr.out.below _) _) (by have := HBr.out.below.size; simp; omega) (by omega) ?_; intro v6 w6 ho hb hg hat; obtain ⟨Ln, Av6, cv6, rfl⟩ : ∃ (Ln : Nat) (A : Option Addr) (c : Nat), v6 = .slice A Ln c := ⟨_, Kd.R_slice ho⟩; have HO6 := Aside0.mk ho; have HG6 := Aside0.mk hg; have X6 := Aside0.mk (((X5r.out.kept (grown_of_below (pw_below_drewN (Below.refl _ _) nq) none) (by simp)).alloc (.cells #[.int .i64 (i : Int), .int .i64 1] 47)).kept hg (fun e => by have := HR3.out.1 _ e.symm; have := HBr.out.l5; omega)); have hx7 := X6.out.cell; have hf7 := X6.out.frozen; clear ho hb hg hat))
                clear hx7 hf7
                go_roundw
                case rel =>
                  have hg5 := grownBy_setCellK w6 b5 0 (.slice Av6 Ln cv6)
                  refine ⟨i + 1, _, by go_num, ⟨by omega⟩, ⟨(((HBr.out.grown (row := none) (grown_of_below (pw_below_drewN (Below.refl _ _) nq) _) (fun k e => by cases e)).grown (row := none) (World.grownBy_alloc _ _ none) (fun k e => by cases e)).grown HG6.out (fun k e => .inl (HR3.out.1 k e))).grown hg5 (fun k e => by cases e; exact .inr rfl)⟩, ⟨X6.out.set _⟩, ⟨?_⟩⟩
                  rw [HS.out]
                  exact Kd.R_grown HO6.out hg5 (fun k hk e => by cases e; have := HBr.out.l5; omega)
                case measure => simp [intOf]; omega
            ·   have hz : (outs ms i).length = 0 := by omega
                have HS := Aside0.mk (hsucc.out.trans (if_neg (fun h => hpos h.1)))
                have HR2 := Aside0.mk HRr.out
                have X5r' := Aside0.mk X5r.out
                rw [hz] at HR2 X5r' hx5
                clear hsucc HRr X5r hpos
                have X5r := X5r'
                clear X5r'
                gi_wp2_with fail
                gi_big_quiet_th (fail)
                have HONE := Aside0.mk (Kd.R_reads' (R_one (d := k47) (e := 47) (w := wr.drewN nq) (base := w.heap.size) (ok := fun _ => True) (x := ⟨(i : Int), 1⟩) (cs := #[.int .i64 (i : Int), .int .i64 1]) (k47_mkM _ _ _ (⟨(i : Int), 1⟩ : S47)) HBr.out.below.size trivial)).2.2
                have HR3 := Aside0.mk (Kd.R_alloc (Kd.R_drewN HR2.out nq) (.cells #[.int .i64 (i : Int), .int .i64 1] 47))
                gi_wp2_with (first | (gi_at_builtin; refine R_append_rows_in k47 (w0 := w) w.heap.size rfl (.tmp 58) (.tmp 61) 22 47 (.agg #[(.int .i64 0), (.int .i64 0)]) 16 rfl Try.underlying22 info47 rfl (by decide) (by omega) _ (outs ms i) [(⟨(i : Int), 1⟩ : S47)] _ _ _ _ (fun _ => False) rfl rfl HR3.out HONE.out (fun _ _ h => h) (fun _ h => h.elim) (fun j hj => by simp at hj; have := HBr.out.ls; omega) (below_alloc (pw_below_drewN HBr.out.below _) _) (by have := HBr.out.below.size; simp; omega) (by omega) ?_; intro v6 w6 ho hb hg hat; obtain ⟨Ln, Av6, cv6, rfl⟩ : ∃ (Ln : Nat) (A : Option Addr) (c : Nat), v6 = .slice A Ln c := ⟨_, Kd.R_slice ho⟩; have HO6 := Aside0.mk ho; have HG6 := Aside0.mk hg; have X6 := Aside0.mk (((X5r.out.kept (grown_of_below (pw_below_drewN (Below.refl _ _) nq) none) (by simp)).alloc (.cells #[.int .i64 (i : Int), .int .i64 1] 47)).kept hg (fun e => by have := HR3.out.1 _ e.symm; have := HBr.out.l5; omega)); have hx7 := X6.out.cell; have hf7 := X6.out.frozen; clear ho hb hg hat))
                clear hx7 hf7
                go_roundw
                case rel =>
                  have hg5 := grownBy_setCellK w6 b5 0 (.slice Av6 Ln cv6)
                  refine ⟨i + 1, _, by go_num, ⟨by omega⟩, ⟨(((HBr.out.grown (row := none) (grown_of_below (pw_below_drewN (Below.refl _ _) nq) _) (fun k e => by cases e)).grown (row := none) (World.grownBy_alloc _ _ none) (fun k e => by cases e)).grown HG6.out (fun k e => .inl (HR3.out.1 k e))).grown hg5 (fun k e => by cases e; exact .inr rfl)⟩, ⟨X6.out.set _⟩, ⟨?_⟩⟩
                  rw [HS.out]
                  exact Kd.R_grown HO6.out hg5 (fun k hk e => by cases e; have := HBr.out.l5; omega)
                case measure => simp [intOf]; omega
        · obtain rfl : i = ms.length := by have := HI.out; omega
          obtain ⟨Ao, co, rfl⟩ := Kd.R_slice HRr.out
          have hx5 := X5r.out.cell
          have hx6 := HBr.out.x6.cell
          have hx3 := HBr.out.x3.cell
          have hf3 := HBr.out.x3.frozen
          have hf4 := HBr.out.x4.frozen
          have hx4 := HBr.out.x4.cell
          have hls := HBr.out.ls
          have hx4' := fun v => far_cell2 (v := v) (a := ⟨b3, 0, none⟩) hx4 (by simp; omega)
          have hlf : decide ((ms.length : Int) < ms.length) = false := by simp
          clear hls
          have hl5 := Aside0.mk HBr.out.l5
          have hln := Aside0.mk (Kd.R_reads' HRr.out).1
          gi_wp2
          obtain ⟨q1, q2, q3, q4, q5, q6⟩ := HBr.out.ret (by omega) (by omega) (.slice Ao (outs ms ms.length).length co) 0 HRr.out rfl
          refine ⟨by simp, .inl ⟨_, _, rfl, run_takeDeferred q1, ?_⟩⟩
          refine ⟨by simp, .inl ⟨_, _, rfl, run_takeDeferred q2, ?_⟩⟩
          refine ⟨.tuple #[.slice Ao (outs ms ms.length).length co, .int .i64 0], ?_, _, rfl, q5, q6⟩
          simp [results, Try.results29, go_sem, q3, q4]

theorem extent_change.calls (total : Int) (A1 : Option Addr) (c1 : Nat) (free : List S47) (A2 : Option Addr) (c2 : Nat) (l : List S47) (give : Bool) (wrong : Int) (r1 : List S47) (r2 : Int) (w : World) (hr1 : Kd.C k47 w A1 free.length free) (hc1 : free.length ≤ c1) (hr2 : Kd.C k47 w A2 l.length l) (hc2 : l.length ≤ c2)
    (h : extent_change.f total free l give wrong = some (r1, r2)) :
    Calls Try.prog 29 #[.int .i64 total, .slice A1 free.length c1, .slice A2 l.length c2, .bool give, .int .i64 wrong] w fun e w' => ∃ v0_ : Value, e = .returned (.tuple #[v0_, .int .i64 r2]) ∧ Kd.R k47 47 w' w.heap.size (fun _ => True) v0_ r1 ∧ Below w.heap.size w w' := by
  unfold extent_change.f at h
  split at h
  · rename_i hg
    obtain ⟨h0, h1, hf, hall⟩ := hg
    split at h
    · rename_i hany
      simp only [Option.some.injEq, Prod.mk.injEq] at h
      obtain ⟨rfl, rfl⟩ := h
      exact change_number total A1 c1 free A2 c2 l give wrong w hr1 hc1 hr2 hc2 h0 h1 hf hany
    · rename_i hany
      have hres : (match markAll give (marks0 total (secs free)) (secs l) with | none => (free, wrong) | some m => (packB m, 0)) = (r1, r2) := by
        revert h
        cases markAll give (marks0 total (secs free)) (secs l) with
        | none => intro h; exact Option.some.inj h
        | some m => intro h; exact Option.some.inj h
      exact callsIn_wide.1 (change_main total A1 c1 free A2 c2 l give wrong w hr1 hc1 hr2 hc2 h0 h1 hf hall (Bool.eq_false_iff.2 hany) r1 r2 hres)
  · exact absurd h (by simp)
end Go.Proofs.Ytgnaippmncnlaaa.P
