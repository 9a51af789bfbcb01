import Derived.Test.YtpaapnkpijincaaP2
import Derived.Test.YtpaapnkpijincaaO5
namespace Go.Proofs.Ytpaapnkpijincaa.P
open Go.RowKit Go.Proofs.YtpaapnkpijincaaW.PrintWords Go.Proofs.YtpaapnkpijincaaW.PrintLast Go.Proofs.YtpaapnkpijincaaW.PrintMore Go.Proofs.YtpaapnkpijincaaW.HB
attribute [local go_sem] max_two min_two
set_option linter.unusedVariables false
set_option linter.unusedSimpArgs false

theorem str_bytes (m : ByteArray) : strOfNums (bytesOf m) = m := by
  have : (strOfNums (bytesOf m)).data.toList = m.data.toList := by
    rw [strOfNums_data]
    unfold bytesOf
    rw [List.map_map]
    conv => rhs; rw [← List.map_id m.data.toList]
    apply List.map_congr_left
    intro b _
    simp
  cases h1 : strOfNums (bytesOf m) with | mk a => cases m with | mk b => 
    rw [h1] at this
    congr 1
    exact Array.ext' this
theorem bytes_str (l : List Int) (h : ∀ x ∈ l, 0 ≤ x ∧ x ≤ 255) : bytesOf (strOfNums l) = l := by
  unfold bytesOf
  rw [strOfNums_data, List.map_map]
  conv => rhs; rw [← List.map_id l]
  apply List.map_congr_left
  intro x hx
  have := h x hx
  simp
  omega
theorem ba_ext {a b : ByteArray} (h : bytesOf a = bytesOf b) : a = b := by rw [← str_bytes a, ← str_bytes b, h]
theorem bytes_extract (m : ByteArray) (N : Nat) : m.extract 0 N = strOfNums ((bytesOf m).take N) := by
  have : (m.extract 0 N).data.toList = (strOfNums ((bytesOf m).take N)).data.toList := by
    rw [strOfNums_data]
    simp [bytesOf, ByteArray.data_extract]
    congr 1
    exact ((List.map_congr_left (g := id) (fun b _ => by simp)).trans (List.map_id _)).symm
  cases h1 : m.extract 0 N with | mk a => cases h2 : strOfNums ((bytesOf m).take N) with | mk b =>
    rw [h1, h2] at this
    congr 1
    exact Array.ext' this
theorem bytes_append (m : ByteArray) (l : List Int) : m ++ strOfNums l = strOfNums (bytesOf m ++ l) := by
  have : (m ++ strOfNums l).data.toList = (strOfNums (bytesOf m ++ l)).data.toList := by
    rw [strOfNums_data]
    simp [bytesOf, ByteArray.data_append, strOfNums_data]
    exact ((List.map_congr_left (g := id) (fun b _ => by simp)).trans (List.map_id _)).symm
  cases h1 : m ++ strOfNums l with | mk a => cases h2 : strOfNums (bytesOf m ++ l) with | mk b =>
    rw [h1, h2] at this
    congr 1
    exact Array.ext' this
def reefref29_Size.f (m : ByteArray) (n : Int) : Option ByteArray := if m.size ≤ 4096 then some (strOfNums (sizeL (bytesOf m) (mn (mx n 0) 4096).toNat)) else none
set_option maxRecDepth 100000 in
set_option maxHeartbeats 1000000 in
theorem reefref29_Size.calls (a0 : ByteArray) (a1 : Int) (r : ByteArray) (w : World) (h : reefref29_Size.f a0 a1 = some r) :
    Calls Try.prog 27 #[.string a0, .int .i64 a1] w fun e w' => e = .returned (.string r) ∧ Below w.heap.size w w' := by
  unfold reefref29_Size.f at h
  split at h
  case isFalse => cases h
  rename_i hm
  obtain rfl := Option.some.inj h
  clear h
  obtain ⟨N, hN⟩ : ∃ N : Nat, mn (mx a1 0) 4096 = (N : Int) := ⟨(mn (mx a1 0) 4096).toNat, by unfold mn mx; split <;> split <;> omega⟩
  have hN2 : N ≤ 4096 := by have := hN; unfold mn mx at this; split at this <;> split at this <;> omega
  have hbl := bytesOf_length a0
  rw [hN, Int.toNat_natCast]
  obtain ⟨M, hM⟩ : ∃ M, mx a1 0 = M := ⟨_, rfl⟩
  rw [hM] at hN
  have hmx : Builtin.max2 (.int .i64 a1) (.int .i64 0) = pure (.int .i64 M) := (max2_int .i64 .i64 a1 0).trans (by rw [← hM]; rfl)
  have hmn : Builtin.min2 (.int .i64 M) (.int .i64 4096) = pure (.int .i64 (N : Int)) := (min2_int .i64 .i64 M 4096).trans (by rw [← hN]; rfl)
  clear hM hN
  by_cases hle : N ≤ a0.size
  · have HE := Aside0.mk (show strOfNums (sizeL (bytesOf a0) N) = a0.extract 0 N from by
      rw [bytes_extract]; unfold sizeL; rw [hbl, Nat.sub_eq_zero_of_le hle]; simp)
    rw [HE.out]
    clear hbl
    go_enter Try.func27, Try.ntmps27
    go_wp2_with fail
    go_ret
    exact ⟨rfl, Below.refl _ _⟩
  · obtain ⟨d, hd⟩ : ∃ d, N = a0.size + d := ⟨N - a0.size, by omega⟩
    have HE := Aside0.mk (show strOfNums (sizeL (bytesOf a0) N) = a0 ++ strOfNums (List.replicate d 0) from by
      rw [bytes_append]; unfold sizeL; rw [List.take_of_length_le (by omega), hbl, show N - a0.size = d from by omega])
    rw [HE.out]
    have hnew : Aside0 (reefref29_New.f (d : Int) = some (strOfNums (List.replicate d 0))) := ⟨by
      unfold reefref29_New.f
      have e : mn (mx (d : Int) 0) 4096 = (d : Int) := by unfold mn mx; rw [if_neg (by omega), if_neg (by omega)]
      rw [e, if_pos (by omega), if_pos (by omega), Int.toNat_natCast]⟩
    have hds : (strOfNums (List.replicate d 0)).size = d := by rw [strOfNums_size, List.length_replicate]
    have hsub : (N : Int) - (a0.size : Int) = (d : Int) := by omega
    have hcat : a0.size + (strOfNums (List.replicate d 0)).size ≤ 9223372036854775807 := by omega
    have HDS := Aside0.mk hds
    have HD := Aside0.mk hd
    clear hbl hds hd
    generalize strOfNums (List.replicate d 0) = t at *
    have hlt : ¬ (N : Int) ≤ (a0.size : Int) := by omega
    go_enter Try.func27, Try.ntmps27
    go_wp2_with (first | (go_at_call 22; refine (reefref29_New.calls (d : Int) t _ hnew.out).mono ?_; rintro e w1 ⟨rfl, hW⟩; have HW := Aside0.mk hW; clear hW))
    go_ret
    exact ⟨rfl, HW.out⟩
end Go.Proofs.Ytpaapnkpijincaa.P
