import Derived.Test.YtgnaippmncnlaaaHI
import Derived.Test.YtgnaippmncnlaaaP2
import Derived.Laws.ResultCell
namespace Go.Proofs.Ytgnaippmncnlaaa.P
open Go.RowKit Go.Proofs.YtgnaippmncnlaaaW.PrintWords Go.Proofs.YtgnaippmncnlaaaW.PrintLast Go.Proofs.YtgnaippmncnlaaaW.PrintMore Go.Proofs.YtgnaippmncnlaaaW.HB
set_option linter.unusedVariables false

def inB (total : Int) (x : S47) : Bool := decide (1 ≤ x.f1 ∧ 0 ≤ x.f0 ∧ x.f0 ≤ total ∧ x.f1 ≤ total - x.f0)
def marks0 (total : Int) (l : List Int) : List Bool := l.foldl (fun is k => is.set k.toNat true) (List.replicate total.toNat false)
def markAll (give : Bool) : List Bool → List Int → Option (List Bool)
  | is, [] => some is
  | is, k :: ks => if is.getD k.toNat false = give then none else markAll give (is.set k.toNat give) ks
def packStep (out : List S47) (k : Nat) (b : Bool) : List S47 :=
  if b = false then out
  else match out.getLast? with
    | some x => if x.f0 + x.f1 = (k : Int) then out.dropLast ++ [⟨x.f0, x.f1 + 1⟩] else out ++ [⟨k, 1⟩]
    | none => out ++ [⟨k, 1⟩]
def packB (is : List Bool) : List S47 := (List.range is.length).foldl (fun out k => packStep out k (is.getD k false)) []
def extent_change.f (total : Int) (free l : List S47) (give : Bool) (wrong : Int) : Option (List S47 × Int) :=
  if 0 ≤ total ∧ total ≤ 65536 ∧ free.length ≤ 65536 ∧ free.all (inB total) = true then
    if l.any (fun x => !inB total x) then some (free, 20)
    else match markAll give (marks0 total (secs free)) (secs l) with
      | none => some (free, wrong)
      | some m => some (packB m, 0)
  else none

theorem extent_in_any (a b c : Int) (w : World) (ha : -9223372036854775808 ≤ a ∧ a ≤ 9223372036854775807) (h0 : 0 ≤ a) :
    Calls Try.prog 22 #[.int .i64 a, .agg #[.int .i64 b, .int .i64 c]] w fun e w' => e = .returned (.bool (inB a ⟨b, c⟩)) ∧ Below w.heap.size w w' := by
  refine extent_in.calls a b c _ w ?_
  unfold extent_in.f inB
  by_cases h1 : c ≥ 1
  · rw [if_pos h1]
    by_cases h2 : b ≥ 0
    · rw [if_pos h2]
      by_cases h3 : b ≤ a
      · rw [if_pos h3]
        have e : wrap64 (a - b) = a - b := by unfold wrap64; omega
        rw [e]
        congr 1
        rw [decide_eq_decide]
        exact ⟨fun h => ⟨h1, h2, h3, h⟩, fun h => h.2.2.2⟩
      · rw [if_neg h3]; congr 1; symm; rw [decide_eq_false_iff_not]; intro h; exact h3 h.2.2.1
    · rw [if_neg h2]; congr 1; symm; rw [decide_eq_false_iff_not]; intro h; exact h2 h.2.1
  · rw [if_neg h1]; congr 1; symm; rw [decide_eq_false_iff_not]; intro h; exact h1 h.1
theorem extent_change_1.calls (a b total : Int) (g : Nat) (w : World) (h0 : 0 ≤ total) (h1 : total ≤ 65536) (hc : w.cell? ⟨g, 0, none⟩ = some (.int .i64 total)) :
    Calls Try.prog 43 #[.agg #[.int .i64 a, .int .i64 b], .pointer (some ⟨g, 0, none⟩)] w fun e w' => e = .returned (.bool (!inB total ⟨a, b⟩)) ∧ Below w.heap.size w w' := by
  have hu := Try.underlying47
  have hc1 := fun o => Lib.cell?_alloc_some (W := w) o hc
  go_enter Try.func43, Try.ntmps43
  go_wp2_with (first | (go_at_call 22; refine (extent_in_any total a b _ (by omega) h0).mono ?_; rintro e w1 ⟨rfl, hb⟩; have HB1 := Aside0.mk hb; clear hb))
  go_ret
  exact ⟨rfl, below_then (below_alloc (Below.refl _ _) _) (by simp) HB1.out⟩


theorem far_cell2 {w : World} {a b : Addr} {v u : Value} (h : w.cell? b = some u) (hne : a.block ≠ b.block) : (w.setCell a v).cell? b = some u :=
  (World.cell?_setCell_other _ _ _ _ (fun e => hne (by rw [e]))).trans h
structure ChSt (w wx : World) (b0 b1 b2 b3 b4 : Nat) (total : Int) (give : Bool) (wrong : Int) (vr : Value) (er : Int) : Prop where
  x0 : Boxed wx b0 3 (.int .i64 total)
  x1 : Boxed wx b1 4 (.bool give)
  x2 : Boxed wx b2 28 (.int .i64 wrong)
  x3 : Boxed wx b3 22 vr
  x4 : Boxed wx b4 28 (.int .i64 er)
  o0 : w.heap.size ≤ b0
  o1 : b0 < b1
  o2 : b1 < b2
  o3 : b2 < b3
  o4 : b3 < b4
  below : Below w.heap.size w wx
theorem boxed_step {W W' : World} {B : Nat} {t : TypeId} {v : Value} (h : Boxed W B t v) (hb : Below W.heap.size W W') : Boxed W' B t v := (hb.block B h.lt).trans h
section
variable {w wx wy : World} {b0 b1 b2 b3 b4 : Nat} {total : Int} {give : Bool} {wrong : Int} {vr : Value} {er : Int}
theorem ChSt.step (h : ChSt w wx b0 b1 b2 b3 b4 total give wrong vr er) (hb : Below wx.heap.size wx wy) : ChSt w wy b0 b1 b2 b3 b4 total give wrong vr er :=
  ⟨boxed_step h.x0 hb, boxed_step h.x1 hb, boxed_step h.x2 hb, boxed_step h.x3 hb, boxed_step h.x4 hb, h.o0, h.o1, h.o2, h.o3, h.o4, below_then h.below h.below.size hb⟩
theorem ChSt.alloc (h : ChSt w wx b0 b1 b2 b3 b4 total give wrong vr er) (o : Obj) : ChSt w (wx.alloc o) b0 b1 b2 b3 b4 total give wrong vr er := h.step (below_alloc (Below.refl _ _) o)
theorem ChSt.start (w : World) (total : Int) (give : Bool) (wrong : Int) : ChSt w (((((w.alloc (.cells #[.int .i64 total] 3)).alloc (.cells #[.bool give] 4)).alloc (.cells #[.int .i64 wrong] 28)).alloc (.cells #[.slice none 0 0] 22)).alloc (.cells #[.int .i64 0] 28))
    w.heap.size (w.heap.size + 1) (w.heap.size + 1 + 1) (w.heap.size + 1 + 1 + 1) (w.heap.size + 1 + 1 + 1 + 1) total give wrong (.slice none 0 0) 0 := by
  have h0 := Boxed.new w 3 (.int .i64 total)
  have h1 := Boxed.new (w.alloc (.cells #[.int .i64 total] 3)) 4 (.bool give)
  have h2 := Boxed.new ((w.alloc (.cells #[.int .i64 total] 3)).alloc (.cells #[.bool give] 4)) 28 (.int .i64 wrong)
  have h3 := Boxed.new (((w.alloc (.cells #[.int .i64 total] 3)).alloc (.cells #[.bool give] 4)).alloc (.cells #[.int .i64 wrong] 28)) 22 (.slice none 0 0)
  have h4 := Boxed.new ((((w.alloc (.cells #[.int .i64 total] 3)).alloc (.cells #[.bool give] 4)).alloc (.cells #[.int .i64 wrong] 28)).alloc (.cells #[.slice none 0 0] 22)) 28 (.int .i64 0)
  simp only [World.size_alloc] at h1 h2 h3 h4
  exact ⟨(((h0.alloc _).alloc _).alloc _).alloc _, ((h1.alloc _).alloc _).alloc _, (h2.alloc _).alloc _, h3.alloc _, h4, Nat.le_refl _, by omega, by omega, by omega, by omega, below_alloc (below_alloc (below_alloc (below_alloc (below_alloc (Below.refl _ _) _) _) _) _) _⟩
end

set_option maxHeartbeats 2000000 in
theorem change_number (total : Int) (A1 : Option Addr) (c1 : Nat) (free : List S47) (A2 : Option Addr) (c2 : Nat) (l : List S47) (give : Bool) (wrong : Int) (w : World) (hr1 : Kd.C k47 w A1 free.length free) (hc1 : free.length ≤ c1) (hr2 : Kd.C k47 w A2 l.length l) (hc2 : l.length ≤ c2)
    (h0 : 0 ≤ total) (h1 : total ≤ 65536) (hf : free.length ≤ 65536) (hany : l.any (fun x => !inB total x) = true) :
    Calls Try.prog 29 #[.int .i64 total, .slice A1 free.length c1, .slice A2 l.length c2, .bool give, .int .i64 wrong] w fun e w' => ∃ v0_ : Value, e = .returned (.tuple #[v0_, .int .i64 20]) ∧ Kd.R k47 47 w' w.heap.size (fun _ => True) v0_ free ∧ Below w.heap.size w w' := by
  have HR1 := Aside0.mk hr1
  have HC1 := Aside0.mk hc1
  have HR2 := Aside0.mk hr2
  have HC2 := Aside0.mk hc2
  have HANY := Aside0.mk hany
  clear hr1 hc1 hr2 hc2 hany
  go_enter Try.func29, Try.ntmps29
  go_upto_region 1 with fail
  have S0 := ChSt.start w total give wrong
  revert S0
  generalize (((((w.alloc (.cells #[.int .i64 total] 3)).alloc (.cells #[.bool give] 4)).alloc (.cells #[.int .i64 wrong] 28)).alloc (.cells #[.slice none 0 0] 22)).alloc (.cells #[.int .i64 0] 28)) = w1
  generalize w.heap.size + 1 + 1 + 1 + 1 = b4
  generalize w.heap.size + 1 + 1 + 1 = b3
  generalize w.heap.size + 1 + 1 = b2
  generalize w.heap.size + 1 = b1
  intro S0
  have S := Aside0.mk S0
  clear S0
  have hl : free.length < 8796093022208 := by omega
  have hc0 := S.out.x0.cell
  go_wp2_with (first | (go_at_call 23; refine (slices_Clone_E.calls A1 c1 free free _ (Kd.C_below HR1.out S.out.below) HC1.out (by unfold slices_Clone_E.f; rw [if_pos hl])).mono ?_; rintro e w2 ⟨v, rfl, hR, hB⟩; have HR := Aside0.mk hR; have S2 := Aside0.mk (S.out.step hB); clear hR hB; obtain ⟨Av, cv, rfl⟩ := Kd.R_slice HR.out) | (go_at_call 42; refine (slices_ContainsFunc_E.calls 43 #[.pointer (some ⟨w.heap.size, 0, none⟩)] (fun x => !inB total x) A2 c2 l _ (Kd.C_below HR2.out (below_alloc S2.out.below _)) HC2.out (Go.Proofs.enters_of Try.func43 (by kernel_rfl) rfl) (fun x _ w3 hw3 => extent_change_1.calls x.f0 x.f1 total w.heap.size w3 h0 h1 (boxed_step (S2.out.alloc _).x0 hw3).cell)).mono ?_; rintro e w3 ⟨rfl, hb⟩; rw [HANY.out]; have X5 := Aside0.mk (boxed_step (Boxed.new w2 22 (.slice Av free.length cv)) hb); have S3 := Aside0.mk ((S2.out.alloc _).step hb); have HR3 := Aside0.mk (Kd.R_below (Kd.R_alloc HR.out _) hb); clear hb; have hc5 := X5.out.cell; have hc3 := S3.out.x3.cell; have hf3 := S3.out.x3.frozen; have hc4 := S3.out.x4.cell; have hf4 := S3.out.x4.frozen; have hc4' := fun v => far_cell2 (v := v) (a := ⟨b3, 0, none⟩) hc4 (by have := S3.out.o4; simp; omega)))
  refine bodyPost_ret (v := .tuple #[.slice Av free.length cv, .int .i64 20]) ?_ rfl ?_
  · have e3 : ((w3.setCell ⟨b3, 0, none⟩ (.slice Av free.length cv)).setCell ⟨b4, 0, none⟩ (.int .i64 20)).cell? ⟨b3, 0, none⟩ = some (.slice Av free.length cv) := far_cell2 (World.cell?_setCell_same' _ _ _ (by rw [hc3]; rfl)) (by have := S3.out.o4; simp; omega)
    have e4 : ((w3.setCell ⟨b3, 0, none⟩ (.slice Av free.length cv)).setCell ⟨b4, 0, none⟩ (.int .i64 20)).cell? ⟨b4, 0, none⟩ = some (.int .i64 20) := World.cell?_setCell_same' _ _ _ (by rw [hc4']; rfl)
    simp [results, Try.results29, go_sem, e3, e4]
  · refine ⟨_, rfl, ?_, ?_⟩
    · have hb4 := S.out.x4.lt
      have ho := S.out
      have hR := Kd.R_mono (Kd.R_bound HR3.out) (ok' := fun k => k ≠ b3 ∧ k ≠ b4) (fun k hk => by have := hk.2.1; have := ho.o4; exact ⟨by omega, by omega⟩)
      exact Kd.R_mono (Kd.R_lower (Kd.R_far (Kd.R_far hR (fun k hk => hk.1) _) (fun k hk => hk.2) _) ho.below.size) (fun _ _ => trivial)
    · have ho := S3.out
      exact (ho.below.setCell (by show _ ≤ b3; have := ho.o0; have := ho.o1; have := ho.o2; have := ho.o3; omega) _).setCell (by show _ ≤ b4; have := ho.o0; have := ho.o1; have := ho.o2; have := ho.o3; have := ho.o4; omega) _
end Go.Proofs.Ytgnaippmncnlaaa.P
