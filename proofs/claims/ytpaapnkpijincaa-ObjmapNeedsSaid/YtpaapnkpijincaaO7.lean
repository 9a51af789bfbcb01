import Derived.Test.YtpaapnkpijincaaP1
import Derived.Test.YtpaapnkpijincaaHI0
namespace Go.Proofs.Ytpaapnkpijincaa.P
open Go.RowKit Go.Proofs.YtpaapnkpijincaaW.PrintWords Go.Proofs.YtpaapnkpijincaaW.PrintLast Go.Proofs.YtpaapnkpijincaaW.PrintMore Go.Proofs.YtpaapnkpijincaaW.HB
set_option linter.unusedVariables false
set_option linter.unusedSimpArgs false

theorem rd_at_int (l : List Int) (i : Nat) (h : i < l.length) : rd l i = l[i] := by
  simp [rd, List.getD_eq_getElem?_getD, List.getElem?_eq_getElem h]

set_option maxHeartbeats 1000000 in
theorem slices_IndexFunc_int.calls (fid : Nat) (caps : Array Value) (p : (Int) → Bool) (A0 : Option Addr) (c0 : Nat) (l0 : List (Int)) (w : World) (hr0 : Kd.C (Kd.int .i64) w A0 l0.length l0) (hc0 : l0.length ≤ c0)
    (eg : ∀ args w, (callFunc fid args).run Try.prog w = .ok (.enter fid args) w)
    (hp : ∀ x ∈ l0, ∀ w1, Below w.heap.size w w1 → Calls Try.prog fid (#[.int .i64 x] ++ caps) w1 fun e w' => e = .returned (.bool (p x)) ∧ Below w1.heap.size w1 w') :
    Calls Try.prog 46 #[.slice A0 l0.length c0, .func (.func fid) #[] caps] w fun e w' => e = .returned (.int .i64 (idxOf p l0)) ∧ Below w.heap.size w w' := by
  have HR0 := Aside0.mk hr0
  have HC0 := Aside0.mk hc0
  have HP := Aside0.mk hp
  clear hr0 hc0 hp
  have HB := Aside0.mk (Below.refl w.heap.size w)
  go_enter Try.func46, Try.ntmps46
  go_wp2
  go_loopw [8] (fun v8 w' => ∃ i : Nat, v8 = .int .i64 i ∧ Aside0 (i ≤ l0.length ∧ ∀ j, (hj : j < l0.length) → j < i → p l0[j] = false) ∧ Aside0 (Below w.heap.size w w')) (fun v _ => l0.length - (intOf v).toNat)
  case atStart => exact ⟨0, rfl, ⟨by omega, by intros; omega⟩, HB⟩
  case round =>
    obtain ⟨i, rfl, HI, HB1⟩ := hrel
    clear HB
    have hlen := HR0.out.2.1
    by_cases hlt : i < l0.length
    · obtain ⟨ad, e1, hx0⟩ := Kd.at_int HR0.out i (by omega) (by omega)
      cases e1
      replace hx0 := (HB1.out.cell (World.block_lt_of_cell? w _ hx0)).trans hx0
      simp only [Int.toNat_natCast] at hx0
      have hrd := Aside0.mk (rd_at_int l0 i hlt)
      have hmem : rd l0 i ∈ l0 := by rw [hrd.out]; exact List.getElem_mem _
      have HCALL := Aside0.mk (HP.out (rd l0 i) hmem)
      clear hmem
      cases hpx : p (rd l0 i) with
      | true =>
        rw [hpx] at HCALL
        have HX := Aside0.mk hpx
        clear hpx
        go_wp2
        refine (HCALL.out _ HB1.out).mono ?_
        rintro e w2 ⟨rfl, hb2⟩
        have HB2 := Aside0.mk (below_then HB1.out HB1.out.size hb2)
        clear hb2
        go_wp2
        go_ret
        refine ⟨?_, HB2.out⟩
        rw [idxOf_hit p l0 i hlt (by rw [← hrd.out]; exact HX.out) (fun j hj h => HI.out.2 j hj h)]; rfl
      | false =>
        rw [hpx] at HCALL
        have HX := Aside0.mk hpx
        clear hpx
        go_wp2
        refine (HCALL.out _ HB1.out).mono ?_
        rintro e w2 ⟨rfl, hb2⟩
        have HB2 := Aside0.mk (below_then HB1.out HB1.out.size hb2)
        clear hb2
        go_wp2
        go_roundw
        case rel =>
          refine ⟨i + 1, by go_num, ⟨by omega, fun j hj h => ?_⟩, HB2⟩
          rcases Nat.lt_succ_iff_lt_or_eq.1 h with h | rfl
          · exact HI.out.2 j hj h
          · rw [← hrd.out]; exact HX.out
        case measure => simp [intOf]; omega
    · go_wp2
      go_ret
      refine ⟨?_, HB1.out⟩
      rw [idxOf_none p l0 (fun j hj => HI.out.2 j hj (by omega))]; rfl

theorem slices_ContainsFunc_int.calls (fid : Nat) (caps : Array Value) (p : (Int) → Bool) (A0 : Option Addr) (c0 : Nat) (l0 : List (Int)) (w : World) (hr0 : Kd.C (Kd.int .i64) w A0 l0.length l0) (hc0 : l0.length ≤ c0)
    (eg : ∀ args w, (callFunc fid args).run Try.prog w = .ok (.enter fid args) w)
    (hp : ∀ x ∈ l0, ∀ w1, Below w.heap.size w w1 → Calls Try.prog fid (#[.int .i64 x] ++ caps) w1 fun e w' => e = .returned (.bool (p x)) ∧ Below w1.heap.size w1 w') :
    Calls Try.prog 39 #[.slice A0 l0.length c0, .func (.func fid) #[] caps] w fun e w' => e = .returned (.bool (l0.any p)) ∧ Below w.heap.size w w' := by
  have HR0 := Aside0.mk hr0
  have HC0 := Aside0.mk hc0
  have HP := Aside0.mk hp
  clear hr0 hc0 hp
  rcases idxOf_cases p l0 with ⟨hi, hall⟩ | ⟨i0, hi, hi1, hi2, hi3⟩
  · have HI := Aside0.mk hi
    have HA := Aside0.mk (show l0.any p = false from by simpa using hall)
    clear hi hall
    go_enter Try.func39, Try.ntmps39
    go_wp2_with (first | (go_at_call 46; refine (slices_IndexFunc_int.calls fid caps p A0 c0 l0 _ HR0.out HC0.out eg HP.out).mono ?_; rintro e w1 ⟨rfl, hb⟩; rw [HI.out]; have HB1 := Aside0.mk hb; clear hb))
    go_ret
    exact ⟨by rw [HA.out]; rfl, HB1.out⟩
  · have HI := Aside0.mk hi
    have HA := Aside0.mk (show l0.any p = true from by rw [List.any_eq_true]; exact ⟨_, List.getElem_mem hi1, hi2⟩)
    clear hi hi1 hi2 hi3
    go_enter Try.func39, Try.ntmps39
    go_wp2_with (first | (go_at_call 46; refine (slices_IndexFunc_int.calls fid caps p A0 c0 l0 _ HR0.out HC0.out eg HP.out).mono ?_; rintro e w1 ⟨rfl, hb⟩; rw [HI.out]; have HB1 := Aside0.mk hb; clear hb))
    go_ret
    exact ⟨by rw [HA.out]; simp, HB1.out⟩

def getM (m : ByteArray) (k : Int) : Bool := decide (0 ≤ k ∧ k < (m.size : Int)) && (bt m k == 1)
theorem get_eq (m : ByteArray) (k : Int) : objmap_Get.f m k = some (getM m k) := by
  unfold objmap_Get.f getM
  by_cases h0 : 0 ≤ k
  · by_cases h1 : k < (m.size : Int)
    · rw [if_pos h0, if_pos h1, if_pos h0, decide_eq_true ⟨h0, h1⟩]; simp
    · rw [if_pos h0, if_neg h1, decide_eq_false (fun h => h1 h.2)]; simp
  · rw [if_neg h0, decide_eq_false (fun h => h0 h.1)]; simp
def objmap_Safe.f (m : ByteArray) (l : List Int) : Option Bool := some (!(l.any (fun k => !getM m k)))
theorem objmap_Safe_1.calls (m : ByteArray) (k : Int) (b : Nat) (w : World) (hB : w.cell? ⟨b, 0, none⟩ = some (.string m)) :
    Calls Try.prog 40 #[.int .i64 k, .pointer (some ⟨b, 0, none⟩)] w fun e w' => e = .returned (.bool (!getM m k)) ∧ Below w.heap.size w w' := by
  go_enter Try.func40, Try.ntmps40
  go_wp2_with (first | (go_at_call 18; refine (objmap_Get.calls m k _ _ (get_eq m k)).mono ?_; rintro e w1 ⟨rfl, hD⟩; have HD := Aside0.mk hD.below; clear hD))
  go_ret
  exact ⟨rfl, HD.out⟩
theorem objmap_Safe.calls (a0 : ByteArray) (A1 : Option Addr) (c1 : Nat) (l1 : List Int) (r : Bool) (w : World) (hr1 : Kd.C (Kd.int .i64) w A1 l1.length l1) (hc1 : l1.length ≤ c1) (h : objmap_Safe.f a0 l1 = some r) :
    Calls Try.prog 30 #[.string a0, .slice A1 l1.length c1] w fun e w' => e = .returned (.bool r) ∧ Below w.heap.size w w' := by
  obtain rfl := Option.some.inj h
  clear h
  have HR := Aside0.mk hr1
  have HC := Aside0.mk hc1
  clear hr1 hc1
  have hen := Go.Proofs.enters_of Try.func40 (by kernel_rfl) rfl
  have HP := Aside0.mk (show ∀ x ∈ l1, ∀ w1, Below (w.alloc (.cells #[.string a0] 9)).heap.size (w.alloc (.cells #[.string a0] 9)) w1 → Calls Try.prog 40 (#[.int .i64 x] ++ #[.pointer (some ⟨w.heap.size, 0, none⟩)]) w1 fun e w' => e = .returned (.bool (!getM a0 x)) ∧ Below w1.heap.size w1 w' from
    fun x _ w1 hb => objmap_Safe_1.calls a0 x w.heap.size w1 ((hb.cell (p := ⟨w.heap.size, 0, none⟩) (by simp)).trans (cell_fresh _ _ _ _ _ rfl)))
  have HB := Aside0.mk (below_alloc (Below.refl w.heap.size w) (.cells #[.string a0] 9))
  go_enter Try.func30, Try.ntmps30
  go_wp2_with (first | (go_at_call 39; refine (slices_ContainsFunc_int.calls 40 #[.pointer (some ⟨w.heap.size, 0, none⟩)] (fun k => !getM a0 k) A1 c1 l1 _ (Kd.C_below HR.out HB.out) HC.out hen HP.out).mono ?_; rintro e w1 ⟨rfl, hb⟩; have HW := Aside0.mk hb; clear hb))
  go_ret
  exact ⟨rfl, below_step HB.out HW.out⟩
end Go.Proofs.Ytpaapnkpijincaa.P
