import Derived.Test.YtpaapnkpijincaaQ3
namespace Go.Proofs.Ytpaapnkpijincaa.P
open Go.RowKit Go.Proofs.YtpaapnkpijincaaW.PrintWords Go.Proofs.YtpaapnkpijincaaW.PrintLast Go.Proofs.YtpaapnkpijincaaW.PrintMore Go.Proofs.YtpaapnkpijincaaW.HB
set_option linter.unusedVariables false
set_option linter.unusedSimpArgs false

/-! marks come back from their bits -/
theorem bytes_pack (m : ByteArray) (hm : m.size ≤ 4096) : bytesOf (strOfNums (packL m)) = packL m := bytes_str _ (packL_law m hm).1
theorem unL_ok (s : ByteArray) (n : Nat) : ∀ x ∈ unL s n, 0 ≤ x ∧ x ≤ 1 := fun x hx => by
  unfold unL at hx
  obtain ⟨i, _, rfl⟩ := List.mem_map.1 hx
  rcases bitL_01 (bytesOf s) i with h | h <;> omega
theorem bytes_un (s : ByteArray) (n : Nat) : bytesOf (strOfNums (unL s n)) = unL s n := bytes_str _ (fun x hx => by have := unL_ok s n x hx; omega)
theorem bt_un (s : ByteArray) (n i : Nat) (h : i < n) : bt (strOfNums (unL s n)) (i : Int) = bitL (bytesOf s) i := by
  rw [bt_bytes, bytes_un, List.getD_eq_getElem?_getD, List.getElem?_eq_getElem (by rw [unL_len]; exact h)]
  simp [unL]
theorem un_size (s : ByteArray) (n : Nat) : (strOfNums (unL s n)).size = n := by rw [strOfNums_size, unL_len]
theorem fit_un (s : ByteArray) (n : Nat) (h : n ≤ 4096) : fitM (strOfNums (unL s n)) = true := by
  rw [fitM_true, un_size]
  refine ⟨fun j hj => ?_, h⟩
  rw [bt_un s n j hj]
  rcases bitL_01 (bytesOf s) j with h | h <;> omega
theorem pack_un (s : ByteArray) (n : Nat) (hn : n ≤ 4096) (hs : s.size = (n + 7) / 8) (ht : topB s n = false) : strOfNums (packL (strOfNums (unL s n))) = s := by
  have hz := un_size s n
  obtain ⟨p1, p2, p3⟩ := packL_law (strOfNums (unL s n)) (by omega)
  have e : packL (strOfNums (unL s n)) = bytesOf s := by
    refine bitL_ext p1 (bytes_ok s) (by rw [p2, hz, bytesOf_length, hs]) (fun i hi => ?_)
    rw [p3 i, hz]
    rw [p2, hz] at hi
    by_cases h : i < n
    · rw [bt_un s n i h]
      rcases bitL_01 (bytesOf s) i with h2 | h2 <;> rw [h2] <;> simp [h]
    · rw [if_neg (fun q => h q.1)]
      unfold topB at ht
      rw [List.any_eq_false] at ht
      have := ht i (List.mem_range.2 (by omega))
      simp at this
      rcases bitL_01 (bytesOf s) i with h2 | h2
      · exact h2.symm
      · exact absurd h2 (this (by omega))
  rw [e, str_bytes]
theorem bt_ge (m : ByteArray) (i : Int) : 0 ≤ bt m i := (bt_range m i).1
theorem un_pack (m : ByteArray) (hf : fitM m = true) : unR (strOfNums (packL m)) (m.size : Int) = (m, 0) := by
  obtain ⟨h1, h2⟩ := (fitM_true m).1 hf
  obtain ⟨p1, p2, p3⟩ := packL_law m h2
  have hb := bytes_pack m h2
  have hz : (strOfNums (packL m)).size = (m.size + 7) / 8 := by rw [strOfNums_size, p2]
  have ht : topB (strOfNums (packL m)) m.size = false := by
    unfold topB
    rw [List.any_eq_false]
    intro i _
    rw [hb, p3 i]
    simp
    intro h q
    omega
  unfold unR
  rw [if_neg (by omega), if_neg (by rw [hz]; omega), Int.toNat_natCast, if_neg (by rw [ht]; simp)]
  have e : unL (strOfNums (packL m)) m.size = bytesOf m := by
    apply List.ext_getElem (by rw [unL_len, bytesOf_length])
    intro i hi1 hi2
    rw [unL_len] at hi1
    have e2 : (bytesOf m)[i] = bt m (i : Int) := by rw [bt_bytes, List.getD_eq_getElem?_getD, List.getElem?_eq_getElem hi2]; rfl
    rw [e2]
    simp only [unL, List.getElem_map, List.getElem_range]
    rw [hb, p3 i]
    have := h1 i hi1
    have := bt_ge m (i : Int)
    by_cases hq : bt m (i : Int) = 1
    · rw [if_pos ⟨hi1, hq⟩, hq]
    · rw [if_neg (fun h => hq h.2)]; omega
  rw [e, str_bytes]
end Go.Proofs.Ytpaapnkpijincaa.P
