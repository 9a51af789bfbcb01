import Derived.Deep.DeepCutAuto
import Derived.Deep.RegionWith
import Derived.Test.YtbdciklcckjknaaB9
import Derived.Test.YtbdciklcckjknaaHQ
import Derived.Test.YtbdciklcckjknaaQ3m
import Derived.Test.YtbdciklcckjknaaPEq4
namespace Go.Proofs.Ytbdciklcckjknaa.P
open Go.RowKit Go.Proofs.YtbdciklcckjknaaW.PrintWords Go.Proofs.YtbdciklcckjknaaW.PrintLast Go.Proofs.YtbdciklcckjknaaW.PrintMore Go.Proofs.YtbdciklcckjknaaW.HB
set_option linter.unusedVariables false
set_option linter.unusedSimpArgs false
attribute [local go_sem high] eqA24 eqA34
attribute [local go_sem] max2_int min2_int max_two min_two

theorem same_spelt {A7 A8 : Option Addr} {c7 c8 n7 n8 : Nat} (l : List S34) (W : World) (h7 : Kd.C k34 W A7 l.length l ∧ l.length ≤ c7 ∧ n7 = l.length) (h8 : Kd.C k34 W A8 l.length l ∧ l.length ≤ c8 ∧ n8 = l.length) (hl : l.length ≤ 8) :
    Calls Try.prog 14 #[.slice A7 n7 c7, .slice A8 n8 c8] W fun e w' => e = .returned (.bool true) ∧ Below W.heap.size W w' := by
  rw [h7.2.2, h8.2.2]
  refine (reefref21_Same.calls 40 A7 c7 l A8 c8 l true W h7.1 h7.2.1 h8.1 h8.2.1 (same_refl 40 l (by omega) (by omega))).mono ?_
  rintro e w' ⟨rfl, hd⟩
  exact ⟨rfl, hd.below⟩
def findRegion (n : Nat) : Code → Option Code
  | .region k ops d => if k = n then some (.region k ops d) else none
  | .loop c => findRegion n c
  | .seq a b => match findRegion n a with
    | some c => some c
    | none => findRegion n b
  | .block _ c => findRegion n c
  | .scope c => findRegion n c
  | .cond _ a b => match findRegion n a with
    | some c => some c
    | none => findRegion n b
  | _ => none
noncomputable def r38 : Code := (Try.f5.body.bind (findRegion 38)).getD .skip
set_option maxRecDepth 100000 in
set_option maxHeartbeats 8000000 in
theorem region38 (l a b : List S34) (e v : Int) (Al Aa Ab : Option Addr) (cl ca cb bs : Nat) (W : World) {s0 s1 s2 s3 s4 s5 s6 s8 s9 s10 s12 s13 s14 s16 s17 s18 s19 s20 s22 s23 s24 s25 s26 s27 s28 s29 s30 s31 s32 s33 s34 s35 s36 s37 s38 s39 s40 s41 s42 s43 s44 s45 s46 s47 s48 s49 s50 s51 s52 s53 s54 s55 s56 s57 s58 s59 s60 s61 s62 s63 s64 s65 s66 s67 s68 s69 s70 s71 s72 s73 s74 s75 s76 s77 s78 s79 s80 s81 s82 s83 s84 s85 s86 s87 s88 s89 s90 s91 s92 s93 s94 s95 s96 s97 s98 s99 s100 s101 s102 s103 s104 s105 s106 s107 s108 s109 s110 s111 s112 s113 s114 s115 s116 s117 s118 s119 s120 s121 s122 s123 s124 s125 s126 s127 s128 s129 s130 s131 s132 s133 s134 s135 s136 s137 s138 s139 s140 s141 s142 s143 s144 s145 s146 s147 s148 s149 s150 s151 s152 s153 s154 s155 s156 s157 s158 s159 s160 s161 s162 s163 s164 s165 s166 s167 s168 s169 s170 s171 s172 s173 s174 s175 s176 s177 s178 s179 s180 s181 s182 s183 : Value}
    (la8 : a.length ≤ 8) (lb8 : b.length ≤ 8) (hla : l.length ≤ a.length) (hlb : l.length ≤ b.length) (hra : Kd.C k34 W Aa a.length a) (hca : a.length ≤ ca) (hrb : Kd.C k34 W Ab b.length b) (hcb : b.length ≤ cb)
    (p0 : W.cell? ⟨bs, 0, none⟩ = some (.int .i64 e)) (p1 : W.cell? ⟨bs, 1, none⟩ = some (.int .i64 v)) (hbs : bs < W.heap.size)
    (hfa : pglog_Behind.f a e v = some (a.drop l.length)) (hfb : pglog_Behind.f b e v = some (b.drop l.length)) :
    Code.wp Try.prog r38 (fun x a' w' => match x with
      | .normal => ∃ t163 t164 t165 t166 t167 t168 t169 t170 t171 t172 t173 t174 t175 t176 t177 t178 t179 t180 t181 t182 : Value, a' = ⟨#[s0, s1, s2, s3, s4, s5, .bool true, .slice Al l.length cl, s8, s9, s10, .slice Aa a.length ca, s12, s13, s14, .slice Ab b.length cb, s16, s17, s18, s19, s20, .pointer (some ⟨bs, 0, none⟩), s22, s23, s24, s25, s26, s27, s28, s29, s30, s31, s32, s33, s34, s35, s36, s37, s38, s39, s40, s41, s42, s43, s44, s45, s46, s47, s48, s49, s50, s51, s52, s53, s54, s55, s56, s57, s58, s59, s60, s61, s62, s63, s64, s65, s66, s67, s68, s69, s70, s71, s72, s73, s74, s75, s76, s77, s78, s79, s80, s81, s82, s83, s84, s85, s86, s87, s88, s89, s90, s91, s92, s93, s94, s95, s96, s97, s98, s99, s100, s101, s102, s103, s104, s105, s106, s107, s108, s109, s110, s111, s112, s113, s114, s115, s116, s117, s118, s119, s120, s121, s122, s123, s124, s125, s126, s127, s128, s129, s130, s131, s132, s133, s134, s135, s136, s137, s138, s139, s140, s141, s142, s143, s144, s145, s146, s147, s148, s149, s150, s151, s152, s153, s154, s155, s156, s157, s158, s159, s160, s161, s162, t163, t164, t165, t166, t167, t168, t169, t170, t171, t172, t173, t174, t175, t176, t177, t178, t179, t180, t181, t182, .bool true], []⟩ ∧ Below W.heap.size W w'
      | _ => False) ⟨#[s0, s1, s2, s3, s4, s5, s6, .slice Al l.length cl, s8, s9, s10, .slice Aa a.length ca, s12, s13, s14, .slice Ab b.length cb, s16, s17, s18, s19, s20, .pointer (some ⟨bs, 0, none⟩), s22, s23, s24, s25, s26, s27, s28, s29, s30, s31, s32, s33, s34, s35, s36, s37, s38, s39, s40, s41, s42, s43, s44, s45, s46, s47, s48, s49, s50, s51, s52, s53, s54, s55, s56, s57, s58, s59, s60, s61, s62, s63, s64, s65, s66, s67, s68, s69, s70, s71, s72, s73, s74, s75, s76, s77, s78, s79, s80, s81, s82, s83, s84, s85, s86, s87, s88, s89, s90, s91, s92, s93, s94, s95, s96, s97, s98, s99, s100, s101, s102, s103, s104, s105, s106, s107, s108, s109, s110, s111, s112, s113, s114, s115, s116, s117, s118, s119, s120, s121, s122, s123, s124, s125, s126, s127, s128, s129, s130, s131, s132, s133, s134, s135, s136, s137, s138, s139, s140, s141, s142, s143, s144, s145, s146, s147, s148, s149, s150, s151, s152, s153, s154, s155, s156, s157, s158, s159, s160, s161, s162, s163, s164, s165, s166, s167, s168, s169, s170, s171, s172, s173, s174, s175, s176, s177, s178, s179, s180, s181, s182, s183], []⟩ W := by
  conv => arg 2; whnf
  have hu2 := Try.underlying24
  have RA := Aside0.mk hra
  have RB := Aside0.mk hrb
  have FA := Aside0.mk hfa
  have FB := Aside0.mk hfb
  have CA := Aside0.mk hca
  have CB := Aside0.mk hcb
  have BS := Aside0.mk hbs
  have L8 := Aside0.mk (show a.length ≤ 8 ∧ b.length ≤ 8 from ⟨la8, lb8⟩)
  obtain ⟨A8, hA8⟩ : ∃ A8, (if ca = l.length then Aa else Option.map (fun x => x.add (l.length * 14)) Aa) = A8 := ⟨_, rfl⟩
  obtain ⟨B8, hB8⟩ : ∃ A8, (if cb = l.length then Ab else Option.map (fun x => x.add (l.length * 14)) Ab) = A8 := ⟨_, rfl⟩
  have HSA := Aside0.mk (show Kd.C k34 W A8 (a.drop l.length).length (a.drop l.length) ∧ (a.drop l.length).length ≤ ca - l.length ∧ a.length - l.length = (a.drop l.length).length from ⟨by rw [← hA8]; exact Kd.C_drop hra hla hca, by rw [List.length_drop]; omega, by rw [List.length_drop]⟩)
  have HSB := Aside0.mk (show Kd.C k34 W B8 (b.drop l.length).length (b.drop l.length) ∧ (b.drop l.length).length ≤ cb - l.length ∧ b.length - l.length = (b.drop l.length).length from ⟨by rw [← hB8]; exact Kd.C_drop hrb hlb hcb, by rw [List.length_drop]; omega, by rw [List.length_drop]⟩)
  have na := Aside0.mk (show a.length - l.length = (a.drop l.length).length from HSA.out.2.2)
  have nb := Aside0.mk (show b.length - l.length = (b.drop l.length).length from HSB.out.2.2)
  clear hra hrb hfa hfb la8 lb8 hbs
  have hla9 : (l.length : Int) ≤ (a.length : Int) := by omega
  have hlb9 : (l.length : Int) ≤ (b.length : Int) := by omega
  have hl0 : (0 : Int) ≤ (l.length : Int) := by omega
  go_region_with (first
    | (go_at_call_of 15 (a.length); refine (pglog_Behind.calls Aa _ a e v (a.drop l.length) _ ?_ CA.out FA.out).mono ?_; exact Kd.C_drew RA.out; rintro e' w7 ⟨v7, rfl, hR, hW⟩; obtain ⟨A7, c7, rfl⟩ := Kd.R_slice hR; have HR7 := Aside0.mk hR; have HW7 := Aside0.mk (below_step (Below.refl W.heap.size W).drew hW); clear hR hW)
    | (go_at_call_of 14 A7; refine (same_spelt (a.drop l.length) _ ?_ ?_ ?_).mono ?_; exact ⟨(Kd.R_reads' HR7.out).2.2, (Kd.R_reads' HR7.out).2.1, na.out⟩; exact ⟨Kd.C_below HSA.out.1 HW7.out, HSA.out.2⟩; exact Nat.le_trans (by rw [List.length_drop]; exact Nat.sub_le _ _) L8.out.1; rintro e' w8 ⟨rfl, hW⟩; have HW8 := Aside0.mk (below_step HW7.out hW); have h0 := (HW8.out.cell (p := ⟨bs, 0, none⟩) BS.out).trans p0; have h1 := (HW8.out.cell (p := ⟨bs, 1, none⟩) BS.out).trans p1; clear hW HR7)
    | (go_at_call_of 15 (b.length); refine (pglog_Behind.calls Ab _ b e v (b.drop l.length) _ ?_ CB.out FB.out).mono ?_; exact Kd.C_below RB.out HW8.out; rintro e' w9 ⟨v9, rfl, hR, hW⟩; obtain ⟨A9, c9, rfl⟩ := Kd.R_slice hR; have HR9 := Aside0.mk hR; have HW9 := Aside0.mk (below_step HW8.out hW); clear hR hW)
    | (go_at_call_of 14 A9; refine (same_spelt (b.drop l.length) _ ?_ ?_ ?_).mono ?_; exact ⟨(Kd.R_reads' HR9.out).2.2, (Kd.R_reads' HR9.out).2.1, nb.out⟩; exact ⟨Kd.C_below HSB.out.1 HW9.out, HSB.out.2⟩; exact Nat.le_trans (by rw [List.length_drop]; exact Nat.sub_le _ _) L8.out.2; rintro e' w10 ⟨rfl, hW⟩; have HW10 := Aside0.mk (below_step HW9.out hW); clear hW HR9)
    | (go_at_call 10; refine (reeflaw21_awake.calls true _ rfl).mono ?_; rintro e' w11 ⟨rfl, hW⟩; have HW11 := Aside0.mk (below_step HW10.out hW); clear hW))
  go_simp
  exact HW11.out
end Go.Proofs.Ytbdciklcckjknaa.P
