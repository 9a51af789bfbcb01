/- Texts of this claim, merged by pack.py: W3a -/
import Derived.Deep.RegionWith
import Derived.Test.YtbdciklcckjknaaZD07
import Derived.Test.YtbdciklcckjknaaZD08
import Derived.Test.YtbdciklcckjknaaZD11
namespace Go.Proofs.Ytbdciklcckjknaa.P
open Go.RowKit Go.Proofs.YtbdciklcckjknaaW.PrintWords Go.Proofs.YtbdciklcckjknaaW.PrintLast Go.Proofs.YtbdciklcckjknaaW.PrintMore Go.Proofs.YtbdciklcckjknaaW.HB
set_option linter.unusedVariables false
set_option linter.unusedSimpArgs false
theorem texts_l0 (l : List ByteArray) (hl : l.length ≤ 1000) (d : Nat) : ∀ (k i : Nat), l.length = i + d → d < k → reeflaw21_texts.l0 k l l l.length i = some true := by
  induction d with
  | zero =>
    intro k i h hk
    obtain ⟨k, rfl⟩ : ∃ k', k = k' + 1 := ⟨k - 1, by omega⟩
    simp only [reeflaw21_texts.l0]
    rw [if_neg (by omega)]
  | succ d ih =>
    intro k i h hk
    obtain ⟨k, rfl⟩ : ∃ k', k = k' + 1 := ⟨k - 1, by omega⟩
    have hwi : wrap64 ((i : Int) + 1) = ((i + 1 : Nat) : Int) := by rw [wrap64_small _ (by omega) (by omega)]; omega
    have h0 : (0 : Int) ≤ (i : Int) := by omega
    have h1 : (i : Int) < (l.length : Int) := by omega
    simp only [reeflaw21_texts.l0]
    rw [if_pos h1, if_pos h0, if_pos h1, if_pos h1, hwi]
    rw [if_pos (by trivial)]
    exact ih k (i + 1) (by omega) (by omega)
theorem texts_same {A7 A8 : Option Addr} {c7 c8 n7 n8 : Nat} (l : List ByteArray) (W : World) (h7 : Kd.C Kd.string W A7 l.length l ∧ l.length ≤ c7 ∧ n7 = l.length) (h8 : Kd.C Kd.string W A8 l.length l ∧ l.length ≤ c8 ∧ n8 = l.length) (hl : l.length ≤ 8) :
    Calls Try.prog 17 #[.slice A7 n7 c7, .slice A8 n8 c8] W fun e w' => e = .returned (.bool true) ∧ Below W.heap.size W w' := by
  rw [h7.2.2, h8.2.2]
  refine (reeflaw21_texts.calls 40 A7 c7 l A8 c8 l true W h7.1 h7.2.1 h8.1 h8.2.1 (by unfold reeflaw21_texts.f; rw [if_pos rfl]; exact texts_l0 l (by omega) l.length 40 0 (by omega) (by omega))).mono ?_
  rintro e w' ⟨rfl, hd⟩
  exact ⟨rfl, hd.below⟩
theorem same_does {A7 A8 : Option Addr} {c7 c8 n7 n8 : Nat} (l : List S34) (W : World) (h7 : Kd.C k34 W A7 l.length l ∧ l.length ≤ c7 ∧ n7 = l.length) (h8 : Kd.C k34 W A8 l.length l ∧ l.length ≤ c8 ∧ n8 = l.length) (hl : l.length ≤ 8) :
    Calls Try.prog 14 #[.slice A7 n7 c7, .slice A8 n8 c8] W fun e w' => e = .returned (.bool true) ∧ Below W.heap.size W w' := by
  rw [h7.2.2, h8.2.2]
  refine (reefref21_Same.calls 40 A7 c7 l A8 c8 l true W h7.1 h7.2.1 h8.1 h8.2.1 (same_refl 40 l (by omega) (by omega))).mono ?_
  rintro e w' ⟨rfl, hd⟩
  exact ⟨rfl, hd.below⟩
def findRegionD (n : Nat) : Code → Option Code
  | .region k ops d => if k = n then some (.region k ops d) else none
  | .loop c => findRegionD n c
  | .seq a b => match findRegionD n a with
    | some c => some c
    | none => findRegionD n b
  | .block _ c => findRegionD n c
  | .scope c => findRegionD n c
  | .cond _ a b => match findRegionD n a with
    | some c => some c
    | none => findRegionD n b
  | _ => none
noncomputable def r8 : Code := (Try.f4.body.bind (findRegionD 8)).getD .skip
set_option maxRecDepth 100000 in
set_option maxHeartbeats 16000000 in
theorem region8 (a bh : List S34) (ns : List ByteArray) (e v : Int) (A0 Ao : Option Addr) (c0 co bs : Nat) (W : World) {s1 s2 s3 s4 s5 s6 s7 s8 s10 s12 s13 s14 s15 s16 s17 s18 s19 s20 s21 s22 s23 s24 s25 s26 s27 s28 s29 s30 s31 s32 s33 s34 s35 s36 s37 s38 s39 s40 s41 s42 s43 s44 s45 s46 s47 s48 s49 s50 s51 s52 s53 s54 s55 s56 s57 s58 s59 s60 s61 s62 s63 s64 s65 s66 s67 s68 s69 s70 s71 s72 s73 s74 s75 s76 s77 s78 s79 s80 s81 s82 s83 s84 s85 s86 s87 s88 s89 s90 s91 s92 s93 s94 s95 s96 s97 s98 s99 s100 s101 s102 s103 s104 s105 s106 s107 s108 s109 s110 s111 s112 s113 s114 s115 s116 : Value}
    (hr0 : Kd.C k34 W A0 a.length a) (hc0 : a.length ≤ c0) (hro : Kd.C k34 W Ao a.length a) (hco : a.length ≤ co)
    (p0 : W.cell? ⟨bs, 0, none⟩ = some (.int .i64 e)) (p1 : W.cell? ⟨bs, 1, none⟩ = some (.int .i64 v)) (hbs : bs < W.heap.size)
    (hb1 : pglog_Behind.f a e v = some bh) (hb2 : reefref21_Behind.f 40 a e v = some bh) (hn1 : pglog_Names.f a = some ns) (hn2 : reefref21_Names.f 200 a = some ns) (hlen : a.length ≤ 8 ∧ bh.length ≤ 8 ∧ ns.length ≤ 8) :
    Code.wp Try.prog r8 (fun x a' w' => match x with
      | .normal => ∃ t56 t57 t58 t59 t60 t61 t62 t63 t64 t65 t66 t67 t68 t69 t70 t71 t72 t73 t74 t75 t76 : Value, a' = ⟨#[.slice A0 a.length c0, s1, s2, s3, s4, s5, s6, s7, s8, .pointer (some ⟨bs, 0, none⟩), s10, .slice Ao a.length co, s12, s13, s14, s15, s16, s17, s18, s19, s20, s21, s22, s23, s24, s25, s26, s27, s28, s29, s30, s31, s32, s33, s34, s35, s36, s37, s38, s39, s40, s41, s42, s43, s44, s45, s46, s47, s48, s49, s50, s51, s52, s53, s54, s55, t56, t57, t58, t59, t60, t61, t62, t63, t64, t65, t66, t67, t68, t69, t70, t71, t72, t73, t74, t75, t76, .bool false, s78, s79, s80, s81, s82, s83, s84, s85, s86, s87, s88, s89, s90, s91, s92, s93, s94, s95, s96, s97, s98, s99, s100, s101, s102, s103, s104, s105, s106, s107, s108, s109, s110, s111, s112, s113, s114, s115, s116], []⟩ ∧ Below W.heap.size W w'
      | _ => False) ⟨#[.slice A0 a.length c0, s1, s2, s3, s4, s5, s6, s7, s8, .pointer (some ⟨bs, 0, none⟩), s10, .slice Ao a.length co, s12, s13, s14, s15, s16, s17, s18, s19, s20, s21, s22, s23, s24, s25, s26, s27, s28, s29, s30, s31, s32, s33, s34, s35, s36, s37, s38, s39, s40, s41, s42, s43, s44, s45, s46, s47, s48, s49, s50, s51, s52, s53, s54, s55, s56, s57, s58, s59, s60, s61, s62, s63, s64, s65, s66, s67, s68, s69, s70, s71, s72, s73, s74, s75, s76, s77, s78, s79, s80, s81, s82, s83, s84, s85, s86, s87, s88, s89, s90, s91, s92, s93, s94, s95, s96, s97, s98, s99, s100, s101, s102, s103, s104, s105, s106, s107, s108, s109, s110, s111, s112, s113, s114, s115, s116], []⟩ W := by
  conv => arg 2; whnf
  have hu2 := Try.underlying24
  have R0 := Aside0.mk hr0
  have RO := Aside0.mk hro
  have C0 := Aside0.mk hc0
  have CO := Aside0.mk hco
  have B1 := Aside0.mk hb1
  have B2 := Aside0.mk hb2
  have N1 := Aside0.mk hn1
  have N2 := Aside0.mk hn2
  have L8 := Aside0.mk hlen
  have BS := Aside0.mk hbs
  have HW := Aside0.mk (Below.refl W.heap.size W).drew
  clear hr0 hro hc0 hco hb1 hb2 hn1 hn2 hlen hbs
  go_region_with (first
    | (go_at_call 15; refine (pglog_Behind.calls Ao co a e v bh _ ?_ CO.out B1.out).mono ?_; exact Kd.C_below RO.out HW.out; rintro e' w7 ⟨v7, rfl, hR, hW⟩; obtain ⟨A7, c7, rfl⟩ := Kd.R_slice hR; have HC7 := Aside0.mk (Kd.R_reads' hR); have HC8 := Aside0.mk (And.intro HC8.out.1 (And.intro HC8.out.2.1 (Kd.C_below HC8.out.2.2 hW))); have h70 := (hW.cell (p := ⟨bs, 0, none⟩) (Nat.lt_of_lt_of_le BS.out HW.out.size)).trans ((HW.out.cell (p := ⟨bs, 0, none⟩) BS.out).trans p0); have h71 := (hW.cell (p := ⟨bs, 1, none⟩) (Nat.lt_of_lt_of_le BS.out HW.out.size)).trans ((HW.out.cell (p := ⟨bs, 1, none⟩) BS.out).trans p1); have HW := Aside0.mk (below_step HW.out hW); clear hR hW)
    | (go_at_call 15; refine (pglog_Behind.calls Ao co a e v bh _ ?_ CO.out B1.out).mono ?_; exact Kd.C_below RO.out HW.out; rintro e' w7 ⟨v7, rfl, hR, hW⟩; obtain ⟨A7, c7, rfl⟩ := Kd.R_slice hR; have HC7 := Aside0.mk (Kd.R_reads' hR); have h70 := (hW.cell (p := ⟨bs, 0, none⟩) (Nat.lt_of_lt_of_le BS.out HW.out.size)).trans ((HW.out.cell (p := ⟨bs, 0, none⟩) BS.out).trans p0); have h71 := (hW.cell (p := ⟨bs, 1, none⟩) (Nat.lt_of_lt_of_le BS.out HW.out.size)).trans ((HW.out.cell (p := ⟨bs, 1, none⟩) BS.out).trans p1); have HW := Aside0.mk (below_step HW.out hW); clear hR hW)
    | (go_at_call 16; refine (reefref21_Behind.calls 40 A0 c0 a e v bh _ ?_ C0.out B2.out).mono ?_; exact Kd.C_below R0.out HW.out; rintro e' w8 ⟨v8, rfl, hR, hW⟩; obtain ⟨A8, c8, rfl⟩ := Kd.R_slice hR; have HC8 := Aside0.mk (Kd.R_reads' hR); have HC7 := Aside0.mk (And.intro HC7.out.1 (And.intro HC7.out.2.1 (Kd.C_below HC7.out.2.2 hW))); have h80 := (hW.cell (p := ⟨bs, 0, none⟩) (Nat.lt_of_lt_of_le BS.out HW.out.size)).trans ((HW.out.cell (p := ⟨bs, 0, none⟩) BS.out).trans p0); have h81 := (hW.cell (p := ⟨bs, 1, none⟩) (Nat.lt_of_lt_of_le BS.out HW.out.size)).trans ((HW.out.cell (p := ⟨bs, 1, none⟩) BS.out).trans p1); have HW := Aside0.mk (below_step HW.out hW); clear hR hW)
    | (go_at_call 16; refine (reefref21_Behind.calls 40 A0 c0 a e v bh _ ?_ C0.out B2.out).mono ?_; exact Kd.C_below R0.out HW.out; rintro e' w8 ⟨v8, rfl, hR, hW⟩; obtain ⟨A8, c8, rfl⟩ := Kd.R_slice hR; have HC8 := Aside0.mk (Kd.R_reads' hR); have h80 := (hW.cell (p := ⟨bs, 0, none⟩) (Nat.lt_of_lt_of_le BS.out HW.out.size)).trans ((HW.out.cell (p := ⟨bs, 0, none⟩) BS.out).trans p0); have h81 := (hW.cell (p := ⟨bs, 1, none⟩) (Nat.lt_of_lt_of_le BS.out HW.out.size)).trans ((HW.out.cell (p := ⟨bs, 1, none⟩) BS.out).trans p1); have HW := Aside0.mk (below_step HW.out hW); clear hR hW)
    | (go_at_call_of 14 A7; refine (same_does bh _ ?_ ?_ ?_).mono ?_; exact ⟨HC7.out.2.2, HC7.out.2.1, rfl⟩; exact ⟨HC8.out.2.2, HC8.out.2.1, rfl⟩; exact L8.out.2.1; rintro e' w9 ⟨rfl, hW⟩; have HW := Aside0.mk (below_step HW.out hW); clear hW HC7 HC8)
    | (go_at_call 18; refine (pglog_Names.calls Ao co a ns _ ?_ CO.out N1.out).mono ?_; exact Kd.C_below RO.out HW.out; rintro e' w10 ⟨v10, rfl, hR, hW⟩; obtain ⟨A10, c10, rfl⟩ := Kd.R_slice hR; have HC10 := Aside0.mk (Kd.R_reads' hR); have HC11 := Aside0.mk (And.intro HC11.out.1 (And.intro HC11.out.2.1 (Kd.C_below HC11.out.2.2 hW))); have HW := Aside0.mk (below_step HW.out hW); clear hR hW)
    | (go_at_call 18; refine (pglog_Names.calls Ao co a ns _ ?_ CO.out N1.out).mono ?_; exact Kd.C_below RO.out HW.out; rintro e' w10 ⟨v10, rfl, hR, hW⟩; obtain ⟨A10, c10, rfl⟩ := Kd.R_slice hR; have HC10 := Aside0.mk (Kd.R_reads' hR); have HW := Aside0.mk (below_step HW.out hW); clear hR hW)
    | (go_at_call 19; refine (reefref21_Names.calls 200 A0 c0 a ns _ ?_ C0.out N2.out).mono ?_; exact Kd.C_below R0.out HW.out; rintro e' w11 ⟨v11, rfl, hR, hW⟩; obtain ⟨A11, c11, rfl⟩ := Kd.R_slice hR; have HC11 := Aside0.mk (Kd.R_reads' hR); have HC10 := Aside0.mk (And.intro HC10.out.1 (And.intro HC10.out.2.1 (Kd.C_below HC10.out.2.2 hW))); have HW := Aside0.mk (below_step HW.out hW); clear hR hW)
    | (go_at_call 19; refine (reefref21_Names.calls 200 A0 c0 a ns _ ?_ C0.out N2.out).mono ?_; exact Kd.C_below R0.out HW.out; rintro e' w11 ⟨v11, rfl, hR, hW⟩; obtain ⟨A11, c11, rfl⟩ := Kd.R_slice hR; have HC11 := Aside0.mk (Kd.R_reads' hR); have HW := Aside0.mk (below_step HW.out hW); clear hR hW)
    | (go_at_call 17; refine (texts_same ns _ ?_ ?_ ?_).mono ?_; exact ⟨HC10.out.2.2, HC10.out.2.1, rfl⟩; exact ⟨HC11.out.2.2, HC11.out.2.1, rfl⟩; exact L8.out.2.2; rintro e' w12 ⟨rfl, hW⟩; have HW := Aside0.mk (below_step HW.out hW); clear hW HC10 HC11)
    | (go_at_call_of 14 co; refine (same_does a _ ?_ ?_ ?_).mono ?_; exact ⟨Kd.C_below RO.out HW.out, CO.out, rfl⟩; exact ⟨Kd.C_below R0.out HW.out, C0.out, rfl⟩; exact L8.out.1; rintro e' w13 ⟨rfl, hW⟩; have HW := Aside0.mk (below_step HW.out hW); clear hW))
  all_goals go_simp
  all_goals exact HW.out
end Go.Proofs.Ytbdciklcckjknaa.P
