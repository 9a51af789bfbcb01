/- Texts of this claim, merged by pack.py: Q9 W4 -/
import Derived.Test.YtbaldkcnipmdjaaRC05
namespace Go.Proofs.Ytbaldkcnipmdjaa.P
open Go.RowKit Go.Proofs.YtbaldkcnipmdjaaW.PrintWords Go.Proofs.YtbaldkcnipmdjaaW.PrintLast Go.Proofs.YtbaldkcnipmdjaaW.PrintMore Go.Proofs.YtbaldkcnipmdjaaW.HB
set_option linter.unusedVariables false
set_option linter.unusedSimpArgs false
theorem strawsL_wt (l : List S31) (x r : Int) : ∀ n, ∀ s ∈ strawsL l x r n, 1 ≤ wtI (rd_T31 l s.place)
  | 0, s, h => by simp [strawsL] at h
  | n + 1, s, h => by
    unfold strawsL at h
    split at h
    · rename_i hw
      rcases List.mem_append.1 h with h | h
      · exact strawsL_wt l x r n s h
      · simp at h; subst h; exact hw
    · exact strawsL_wt l x r n s h
theorem choose_wt (l : List S31) (x r : Int) (h : (chooseS l x r).2 = true) : 1 ≤ wtI (rd_T31 l (chooseS l x r).1) := by
  unfold chooseS at *
  cases hb : bestL (strawsL l x r l.length) with
  | none => rw [hb] at h; cases h
  | some s => exact strawsL_wt l x r _ s (bestL_mem _ _ hb)
theorem tries_wt (hs ws : List Int) (x : Int) : ∀ v ∈ triesL (itemsS hs ws) (nodesS hs ws) x, 1 ≤ weightS ws v := by
  have h1 : ∀ r v, tryN (itemsS hs ws) (nodesS hs ws) x r = some v → 1 ≤ weightS ws v := by
    intro r v h
    unfold tryN at h
    split at h
    · rename_i hok
      have hlt := choose_lt _ x _ hok
      have hwt := choose_wt _ x _ hok
      generalize (chooseS (nodesS hs ws _) x (r + 64)).1 = k at *
      obtain ⟨k, rfl⟩ : ∃ n : Nat, k = n := ⟨k.toNat, by omega⟩
      rw [rd_IT _ k (by omega)] at h hwt
      obtain rfl := Option.some.inj h
      have hk : k < (nodesS hs ws (rd_T31 (itemsS hs ws) (chooseS (itemsS hs ws) x r).1).f0).length := by omega
      have := nodesN_mem hs ws _ hs.length _ (List.getElem_mem hk)
      unfold wtI mn at hwt
      have h2 := this.2.2.1
      rw [← h2]
      split at hwt <;> omega
    · cases h
  have h2 : ∀ n, ∀ v ∈ trL (itemsS hs ws) (nodesS hs ws) x n, 1 ≤ weightS ws v := by
    intro n
    induction n with
    | zero => intro v h; simp [trL] at h
    | succ n ih =>
      intro v h
      unfold trL at h
      split at h
      · rename_i u hu
        rcases List.mem_append.1 h with h | h
        · exact ih v h
        · simp at h; subst h; exact h1 _ _ hu
      · exact ih v h
  intro v h
  unfold triesL at h
  split at h
  · exact h2 64 v h
  · cases h
theorem pl_sub (hs ws : List Int) (x size kind : Int) : ∀ v ∈ plS hs ws x size kind, (0 ≤ v ∧ v < hs.length) ∧ 1 ≤ weightS ws v := by
  intro v hv
  unfold plS placeS at hv
  split at hv
  · cases hv
  · have := place_sub hs kind size _ v hv
    exact ⟨tries_valid hs ws x v this, tries_wt hs ws x v this⟩
theorem place_nodup (hs : List Int) (kind size : Int) : ∀ (l out : List Int), (out.map (domS hs kind)).Nodup → ((l.foldl (placeStep hs kind size) out).map (domS hs kind)).Nodup
  | [], out, h => h
  | v :: l, out, h => by
    rw [List.foldl_cons]
    refine place_nodup hs kind size l _ ?_
    unfold placeStep
    split
    · exact h
    · split
      · exact h
      · rename_i hm
        rw [List.map_append]
        refine List.nodup_append.2 ⟨h, by simp, fun a ha b hb => ?_⟩
        simp at hb; subst hb
        exact fun e => hm (e ▸ ha)
theorem pl_nodup (hs ws : List Int) (x size kind : Int) : ((plS hs ws x size kind).map (domS hs kind)).Nodup := by
  unfold plS placeS
  split
  · simp
  · exact place_nodup hs kind size _ [] (by simp)
theorem vl_true (hs ws : List Int) (kind : Int) : ∀ (l ds : List Int), (∀ v ∈ l, (0 ≤ v ∧ v < hs.length) ∧ 1 ≤ weightS ws v) → (ds ++ l.map (domS hs kind)).Nodup → vl hs ws kind ds l = true
  | [], ds, _, _ => rfl
  | v :: l, ds, h, hn => by
    have hv := h v (by simp)
    have hd : domS hs kind v ∉ ds := fun hm => by
      have := (List.nodup_append.1 hn).2.2 _ hm (domS hs kind v) (by simp)
      exact this rfl
    unfold vl
    rw [if_neg (by omega), if_neg (by omega), if_neg (by omega), if_neg hd]
    refine vl_true hs ws kind l _ (fun u hu => h u (by simp [hu])) ?_
    rw [List.append_assoc]
    exact hn
theorem pl_len (hs ws : List Int) (x size kind : Int) : ((plS hs ws x size kind).length : Int) ≤ mx size 0 := by
  unfold plS placeS mx
  split
  · simp; split <;> omega
  · have := place_max hs kind size (by omega) (triesL (itemsS hs ws) (nodesS hs ws) x)
    split <;> omega
theorem pl_valid (hs ws : List Int) (x size kind : Int) : validS hs ws (plS hs ws x size kind) size kind = true := by
  unfold validS
  rw [decide_eq_true (pl_len hs ws x size kind), Bool.true_and]
  exact vl_true hs ws kind _ [] (pl_sub hs ws x size kind) (by rw [List.nil_append]; exact pl_nodup hs ws x size kind)
theorem unl_has (hs ws : List Int) (kind : Int) (n : Nat) : ∀ (k : Nat), k < n → 1 ≤ weightS ws k → domS hs kind k ∈ (unlN hs ws kind n).map (domS hs kind) := by
  intro k hk hw
  rw [(unlN_doms hs ws kind n).2]
  induction n with
  | zero => omega
  | succ n ih =>
    unfold domsN
    by_cases hkn : k = n
    · subst hkn; rw [if_pos (by omega)]; simp
    · have := ih (by omega)
      split
      · exact List.mem_append_left _ this
      · exact this
theorem nodup_le : ∀ {a b : List Int}, a.Nodup → (∀ x ∈ a, x ∈ b) → a.length ≤ b.length
  | [], b, _, _ => by simp
  | x :: a, b, h, hs => by
    have hx := hs x (by simp)
    have h' := List.nodup_cons.1 h
    have := nodup_le (a := a) (b := b.erase x) h'.2 (fun y hy => (List.mem_erase_of_ne (fun e : y = x => h'.1 (by rw [← e]; exact hy))).2 (hs y (by simp [hy])))
    rw [List.length_erase_of_mem hx] at this
    have hp := List.length_pos_of_mem hx
    rw [List.length_cons]
    omega
theorem pl_most (hs ws : List Int) (x size kind : Int) : ((plS hs ws x size kind).length : Int) ≤ mostS hs ws size kind := by
  have h1 := pl_len hs ws x size kind
  have h2 : (plS hs ws x size kind).length ≤ (unlN hs ws kind hs.length).length := by
    have := nodup_le (pl_nodup hs ws x size kind) (b := (unlN hs ws kind hs.length).map (domS hs kind)) (fun y hy => by
      obtain ⟨v, hv, rfl⟩ := List.mem_map.1 hy
      have h3 := pl_sub hs ws x size kind v hv
      obtain ⟨k, rfl⟩ : ∃ n : Nat, v = n := ⟨v.toNat, by omega⟩
      exact unl_has hs ws kind hs.length k (by omega) h3.2)
    rwa [List.length_map, List.length_map] at this
  unfold mostS mn
  split <;> omega
def uStep (hs : List Int) (kind : Int) (out : List Int) (v : Int) : List Int := if domS hs kind v ∈ out.map (domS hs kind) then out else out ++ [v]
theorem u_pre (hs : List Int) (kind : Int) : ∀ (l out : List Int), ∃ t, l.foldl (uStep hs kind) out = out ++ t
  | [], out => ⟨[], by simp⟩
  | v :: l, out => by
    rw [List.foldl_cons]
    unfold uStep
    split
    · exact u_pre hs kind l out
    · obtain ⟨t, ht⟩ := u_pre hs kind l (out ++ [v])
      exact ⟨v :: t, by unfold uStep at ht; rw [ht, List.append_assoc]; rfl⟩
theorem place_take (hs : List Int) (kind : Int) (size : Nat) : ∀ (l out : List Int), out.length ≤ size → l.foldl (placeStep hs kind size) out = (l.foldl (uStep hs kind) out).take size
  | [], out, h => by simp [List.take_of_length_le h]
  | v :: l, out, h => by
    by_cases hl : (out.length : Int) = size
    · rw [place_done hs kind size _ out hl]
      obtain ⟨t, ht⟩ := u_pre hs kind (v :: l) out
      rw [ht, List.take_append_of_le_length (by omega), List.take_of_length_le (by omega)]
    · rw [List.foldl_cons, List.foldl_cons]
      have e : placeStep hs kind size out v = uStep hs kind out v := by unfold placeStep uStep; rw [if_neg hl]
      rw [e]
      refine place_take hs kind size l _ ?_
      unfold uStep
      split
      · exact h
      · rw [List.length_append]; simp; omega
theorem pl_take (hs ws : List Int) (x kind : Int) (size : Int) : plS hs ws x size kind = ((triesL (itemsS hs ws) (nodesS hs ws) x).foldl (uStep hs kind) []).take size.toNat := by
  unfold plS placeS
  split
  · rw [show size.toNat = 0 from by omega]; rfl
  · obtain ⟨n, rfl⟩ : ∃ n : Nat, size = n := ⟨size.toNat, by omega⟩
    exact place_take hs kind n _ [] (by simp)
theorem pl_more (hs ws : List Int) (x size kind : Int) : (plS hs ws x size kind).length ≤ (plS hs ws x (size + 1) kind).length ∧ (plS hs ws x (size + 1) kind).length ≤ (plS hs ws x size kind).length + 1 ∧
    (plS hs ws x (size + 1) kind).take (plS hs ws x size kind).length = plS hs ws x size kind := by
  rw [pl_take, pl_take]
  generalize (triesL (itemsS hs ws) (nodesS hs ws) x).foldl (uStep hs kind) [] = u
  refine ⟨by simp only [List.length_take]; omega, by simp only [List.length_take]; omega, ?_⟩
  rw [List.take_take, List.length_take]
  have e : min (min size.toNat u.length) (size + 1).toNat = min size.toNat u.length := by omega
  rw [e]
  by_cases h : size.toNat ≤ u.length
  · rw [Nat.min_eq_left h]
  · rw [Nat.min_eq_right (by omega), List.take_of_length_le (Nat.le_refl _), List.take_of_length_le (by omega)]
end Go.Proofs.Ytbaldkcnipmdjaa.P
namespace Go.Proofs.Ytbaldkcnipmdjaa.P
open Go.RowKit Go.Proofs.YtbaldkcnipmdjaaW.PrintWords Go.Proofs.YtbaldkcnipmdjaaW.PrintLast Go.Proofs.YtbaldkcnipmdjaaW.PrintMore Go.Proofs.YtbaldkcnipmdjaaW.HB
set_option linter.unusedVariables false
set_option linter.unusedSimpArgs false
attribute [local go_sem] max_two min_two max_three min_three max_four min_four
set_option maxRecDepth 100000 in
set_option maxHeartbeats 4000000 in
theorem reeflaw12_RuleValid.calls (A0 : Option Addr) (c0 : Nat) (l0 : List Int) (A1 : Option Addr) (c1 : Nat) (l1 : List Int) (a2 a3 a4 : Int) (w : World) (hr0 : Kd.C (Kd.int .i64) w A0 l0.length l0) (hc0 : l0.length ≤ c0) (hr1 : Kd.C (Kd.int .i64) w A1 l1.length l1) (hc1 : l1.length ≤ c1) (hb3 : -9223372036854775808 ≤ a3) :
    Calls Try.prog 6 #[.slice A0 l0.length c0, .slice A1 l1.length c1, .int .u32 a2, .int .i64 a3, .int .i64 a4] w fun e w' => e = .returned (.bool true) ∧ Below w.heap.size w w' := by
  have F0 := few_at A0 c0 l0 40 w hc0
  have C0 := C_few 40 hr0
  have L0 : (l0.take 40).length ≤ 40 := by rw [List.length_take]; omega
  have K0 : (l0.take 40).length ≤ c0 := by rw [List.length_take]; omega
  generalize l0.take 40 = h at *
  have hmin : Builtin.min2 (.int .i64 a3) (.int .i64 20) = pure (.int .i64 (if 20 < a3 then 20 else a3)) := min2_int _ _ _ _
  have hs1 : (if 20 < a3 then 20 else a3) ≤ 20 ∧ -9223372036854775808 ≤ (if 20 < a3 then 20 else a3) := by split <;> omega
  generalize (if 20 < a3 then 20 else a3) = s at *
  have hw : wrap64 (s + 1) = s + 1 := by unfold wrap64; omega
  have P1 : Aside0 (rule_Place.f h l1 a2 s a4 = some (plS h l1 a2 s a4)) := ⟨by unfold rule_Place.f; rw [if_pos (by omega)]⟩
  have P2 : Aside0 (rule_Place.f h l1 a2 (wrap64 (s + 1)) a4 = some (plS h l1 a2 (s + 1) a4)) := ⟨by unfold rule_Place.f; rw [if_pos (by omega), hw]⟩
  have M0 := pl_more h l1 a2 s a4
  have hlen : (plS h l1 a2 s a4).length ≤ 20 := by have := pl_len h l1 a2 s a4; unfold mx at this; split at this <;> omega
  have V1 := Aside0.mk (valid_eq h l1 (plS h l1 a2 s a4) s a4 (by omega) 2000000 (by omega))
  rw [pl_valid] at V1
  have M1 := Aside0.mk (most_eq h l1 s a4 (by omega) 2000000 (by omega))
  have M2 := pl_most h l1 a2 s a4
  generalize mostS h l1 s a4 = mb at *
  generalize plS h l1 a2 s a4 = p at *
  generalize plS h l1 a2 (s + 1) a4 = m at *
  have hq : ¬ (mb < (p.length : Int)) := by omega
  have hq2 : ¬ ((m.length : Int) < (p.length : Int)) := by omega
  have hq3 : ¬ ((p.length : Int) + 1 < (m.length : Int)) := by omega
  have M3 := Aside0.mk M0.2.2
  have hml : p.length ≤ m.length := M0.1
  clear M0 hw M2 hs1
  replace F0 := Aside0.mk F0
  have B0 := Below.refl w.heap.size w
  clear hr0
  go_enter Try.func6, Try.ntmps6
  go_wp2_with (first
    | (go_at_call 9; refine F0.out.mono ?_; rintro e w1 ⟨rfl, rfl⟩; clear F0)
    | (go_at_call 15; have H := P1; clear P1; refine (rule_Place.calls A0 c0 h A1 c1 l1 a2 s a4 p _ C0 K0 hr1 hc1 H.out).mono ?_; rintro e w2 ⟨v, rfl, hR, hW⟩; obtain ⟨Ap, cp, rfl⟩ := Kd.R_slice hR; have CP := (Kd.R_reads' hR).2.2; have LP := (Kd.R_reads' hR).2.1; replace C0 := Kd.C_below C0 hW; replace hr1 := Kd.C_below hr1 hW; have B1 := below_step B0 hW; clear hW hR B0 H)
    | (go_at_call 15; have H := P2; clear P2; refine (rule_Place.calls A0 c0 h A1 c1 l1 a2 _ a4 m _ C0 K0 hr1 hc1 H.out).mono ?_; rintro e w3 ⟨v, rfl, hR, hW⟩; obtain ⟨Am, cm, rfl⟩ := Kd.R_slice hR; have CM := (Kd.R_reads' hR).2.2; have LM := (Kd.R_reads' hR).2.1; replace C0 := Kd.C_below C0 hW; replace hr1 := Kd.C_below hr1 hW; replace CP := Kd.C_below CP hW; have B2 := below_step B1 hW; clear hW hR B1 H)
    | (go_at_call 18; refine (rule_Valid.calls 2000000 A0 c0 h A1 c1 l1 Ap cp p s a4 true _ C0 K0 hr1 hc1 CP LP V1.out).mono ?_; rintro e w4 ⟨rfl, hW⟩; replace C0 := Kd.C_below C0 hW; replace CP := Kd.C_below CP hW; replace CM := Kd.C_below CM hW; replace hr1 := Kd.C_below hr1 hW; have B3 := below_step B2 hW; clear hW B2 V1)
    | (go_at_call 20; refine (rule_Most.calls 2000000 A0 c0 h A1 c1 l1 s a4 mb _ C0 K0 hr1 hc1 M1.out).mono ?_; rintro e w5 ⟨rfl, hW⟩; replace CP := Kd.C_below CP hW; replace CM := Kd.C_below CM hW; have B4 := below_step B3 hW; clear hW B3 M1; have CT := Kd.C_take CM hml; rw [M3.out] at CT; have LT := Nat.le_trans hml LM)
    | (go_at_call 12; refine (reeflaw12_ints.calls (p.length + 1) Ap cp p Am cm p true _ CP LP CT LT (ints_same p CP.2.1)).mono ?_; rintro e w11 ⟨rfl, hD⟩; have hW := hD.below; clear hD; have B5 := below_step B4 hW; clear hW B4)
    | (go_at_call 17; refine (reeflaw12_awake.calls true _ rfl).mono ?_; rintro e w13 ⟨rfl, hW⟩; have B6 := below_step B5 hW; clear hW B5))
  go_ret
  exact ⟨rfl, B6⟩
end Go.Proofs.Ytbaldkcnipmdjaa.P
