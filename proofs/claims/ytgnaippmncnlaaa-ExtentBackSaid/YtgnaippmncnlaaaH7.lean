import Derived.Test.YtgnaippmncnlaaaP2
import Derived.Test.YtgnaippmncnlaaaP4
import Derived.Test.YtgnaippmncnlaaaP5
import Derived.Test.YtgnaippmncnlaaaH3b
namespace Go.Proofs.Ytgnaippmncnlaaa.P
open Go.RowKit Go.Proofs.YtgnaippmncnlaaaW.PrintWords Go.Proofs.YtgnaippmncnlaaaW.PrintLast Go.Proofs.YtgnaippmncnlaaaW.PrintMore Go.Proofs.YtgnaippmncnlaaaW.HB
set_option linter.unusedVariables false

def cellsE (xs : List S47) : List Value := xs.flatMap (fun x => [.int .i64 x.f0, .int .i64 x.f1])
theorem reps_cellsE (w : World) (base : Nat) (ok : Nat → Prop) : ∀ (n : Nat) (xs : List S47), xs.length = n → Reps (k47.M w base ok) 2 xs (cellsE xs)
  | 0, xs, h => by
    obtain rfl := List.eq_nil_of_length_eq_zero h
    exact Reps.none _ _
  | n + 1, xs, h => by
    rcases List.eq_nil_or_concat xs with rfl | ⟨l, x, rfl⟩
    · simp at h
    · rw [List.concat_eq_append] at *
      have : cellsE (l ++ [x]) = cellsE l ++ [.int .i64 x.f0, .int .i64 x.f1] := by simp [cellsE]
      rw [this]
      exact Reps.snoc (reps_cellsE w base ok n l (by simpa using h)) (k47_mkM _ _ _ x) rfl
theorem C_lit (w : World) (xs : List S47) (hl : xs.length ≤ 1000) : Kd.C k47 (w.alloc (.cells (cellsE xs).toArray 47)) (some ⟨w.heap.size, 0, none⟩) xs.length xs := by
  have hr := reps_cellsE (w.alloc (.cells (cellsE xs).toArray 47)) w.heap.size (fun k => True ∧ some k ≠ (Value.slice (some ⟨w.heap.size, 0, none⟩) xs.length xs.length).ownBlock) _ xs rfl
  have hR : Kd.R k47 47 (w.alloc (.cells (cellsE xs).toArray 47)) w.heap.size (fun _ => True) (.slice (some ⟨w.heap.size, 0, none⟩) xs.length xs.length) xs := by
    refine ⟨fun _ _ => trivial, cellsE xs, ?_, hr⟩
    have := World.ownsRow_lit (e := 47) (base := w.heap.size) (size := 2) w (cellsE xs).toArray xs.length (Nat.le_refl _) (by simp only [maxLen]; omega) (by simpa using hr.1)
    exact this
  exact (Kd.R_reads' hR).2.2
theorem take_4 : extent_Take.f [⟨0, 2⟩, ⟨5, 3⟩] 4 = some ([⟨0, 2⟩, ⟨5, 2⟩], [⟨7, 1⟩], 0) := by
  have h : goodL [(⟨0, 2⟩ : S47), ⟨5, 3⟩] = true := by decide
  simp [extent_Take.f, h, sumL, takeGo, List.findIdx?, List.findIdx?.go]
theorem take_3 : extent_Take.f [⟨0, 2⟩, ⟨5, 3⟩] 3 = some ([⟨5, 3⟩], [⟨0, 2⟩], 0) := by
  have h : goodL [(⟨0, 2⟩ : S47), ⟨5, 3⟩] = true := by decide
  simp [extent_Take.f, h, sumL, List.findIdx?, List.findIdx?.go, rd_T47]
theorem take_2 : extent_Take.f [⟨0, 2⟩] 3 = some ([], [⟨0, 2⟩], 23) := by
  have h : goodL [(⟨0, 2⟩ : S47)] = true := by decide
  simp [extent_Take.f, h, sumL]
theorem give_awake : extent_Give.f 10 [⟨0, 10⟩] [⟨0, 1⟩] = some ([⟨0, 10⟩], 25) := by
  have h : List.all [(⟨0, 10⟩ : S47)] (inB 10) = true := by decide
  have h' : List.any [(⟨0, 1⟩ : S47)] (fun x => !inB 10 x) = false := by decide
  have h2 : markAll true (marks0 10 (secs [(⟨0, 10⟩ : S47)])) (secs [(⟨0, 1⟩ : S47)]) = none := by decide
  unfold extent_Give.f extent_change.f
  rw [h, h', h2]
  simp
theorem all_10 : extent_All.f 10 = some [⟨0, 10⟩] := by simp [extent_All.f]
theorem same_2 : reeflaw09_same.f 5 [(⟨0, 2⟩ : S47), ⟨5, 2⟩] [⟨0, 2⟩, ⟨5, 2⟩] = some true := by simp [reeflaw09_same.f, reeflaw09_same.l0, rd_T47, wrap64]
theorem same_B : reeflaw09_same.f 5 [(⟨7, 1⟩ : S47)] [⟨7, 1⟩] = some true := by simp [reeflaw09_same.f, reeflaw09_same.l0, rd_T47, wrap64]
theorem same_C : reeflaw09_same.f 5 [(⟨5, 3⟩ : S47)] [⟨5, 3⟩] = some true := by simp [reeflaw09_same.f, reeflaw09_same.l0, rd_T47, wrap64]
theorem same_D : reeflaw09_same.f 5 [(⟨0, 2⟩ : S47)] [⟨0, 2⟩] = some true := by simp [reeflaw09_same.f, reeflaw09_same.l0, rd_T47, wrap64]
structure Aw (w W : World) : Prop where
  g : Below w.heap.size w W
theorem Aw.alloc {w W : World} (h : Aw w W) (o : Obj) : Aw w (W.alloc o) := ⟨below_alloc h.g o⟩
theorem Aw.step {w W W' : World} (h : Aw w W) (k : Below W.heap.size W W') : Aw w W' := ⟨below_step h.g k⟩
theorem Aw.drewN {w W : World} (h : Aw w W) (n : Nat) : Aw w (W.drewN n) := ⟨pw_below_drewN h.g n⟩
theorem Aw.refl (w : World) : Aw w w := ⟨Below.refl _ _⟩

def reeflaw09_awake.f : Option Bool := some true
set_option maxRecDepth 100000 in
set_option maxHeartbeats 4000000 in
theorem reeflaw09_awake.calls (r : Bool) (w : World) (h : reeflaw09_awake.f = some r) : Calls Try.prog 11 #[] w fun e w' => e = .returned (.bool r) ∧ Below w.heap.size w w' := by
  obtain rfl : true = r := Option.some.inj h
  clear h
  go_enter Try.func11, Try.ntmps11
  have C1 := C_lit w [⟨0, 2⟩, ⟨5, 3⟩] (by decide); rw [show (cellsE [(⟨0, 2⟩ : S47), (⟨5, 3⟩ : S47)]).toArray = #[.int .i64 0, .int .i64 2, .int .i64 5, .int .i64 3] from rfl] at C1
  have G := Aw.refl w
  go_wp2_with (first
    | (go_at_call 13; refine (extent_Take.calls _ 2 _ 4 _ _ 0 _ C1 (by decide) take_4).mono ?_; clear C1; rintro e w1 ⟨a, b, rfl, hA, hB, hW⟩; replace G := (G.alloc _).step hW; obtain ⟨Aa, ca, rfl⟩ := Kd.R_slice hA; obtain ⟨Ab, cb, rfl⟩ := Kd.R_slice hB; have CA := (Kd.R_reads' hA).2.2; have LA := (Kd.R_reads' hA).2.1; have CB := (Kd.R_reads' hB).2.2; have LB := (Kd.R_reads' hB).2.1; clear hA hB hW; have C2 := C_lit w1 [⟨0, 2⟩, ⟨5, 3⟩] (by decide); rw [show (cellsE [(⟨0, 2⟩ : S47), (⟨5, 3⟩ : S47)]).toArray = #[.int .i64 0, .int .i64 2, .int .i64 5, .int .i64 3] from rfl] at C2)
    | (go_at_call 13; refine (extent_Take.calls _ 2 _ 3 _ _ 0 _ C2 (by decide) take_3).mono ?_; clear C2; rintro e w2 ⟨a, b, rfl, hA, hB, hW⟩; replace G := (G.alloc _).step hW; replace CA := Kd.C_below (Kd.C_alloc CA _) hW; replace CB := Kd.C_below (Kd.C_alloc CB _) hW; obtain ⟨Ac, cc, rfl⟩ := Kd.R_slice hA; obtain ⟨Ad, cd, rfl⟩ := Kd.R_slice hB; have CC := (Kd.R_reads' hA).2.2; have LC := (Kd.R_reads' hA).2.1; have CD := (Kd.R_reads' hB).2.2; have LD := (Kd.R_reads' hB).2.1; clear hA hB hW; have C3 := C_lit w2 [⟨0, 2⟩] (by decide); rw [show (cellsE [(⟨0, 2⟩ : S47)]).toArray = #[.int .i64 0, .int .i64 2] from rfl] at C3)
    | (go_at_call 13; refine (extent_Take.calls _ 1 _ 3 _ _ 23 _ C3 (by decide) take_2).mono ?_; clear C3; rintro e w3 ⟨a, b, rfl, hA, hB, hW⟩; replace G := (G.alloc _).step hW; replace CA := Kd.C_below (Kd.C_alloc CA _) hW; replace CB := Kd.C_below (Kd.C_alloc CB _) hW; replace CC := Kd.C_below (Kd.C_alloc CC _) hW; replace CD := Kd.C_below (Kd.C_alloc CD _) hW; clear hA hB hW; have K4 := True.intro)
    | (go_at_call 9; refine (extent_All.calls 10 _ _ all_10).mono ?_; clear K4; rintro e w4 ⟨a, rfl, hA, hW⟩; replace G := G.step hW; replace CA := Kd.C_below CA hW; replace CB := Kd.C_below CB hW; replace CC := Kd.C_below CC hW; replace CD := Kd.C_below CD hW; obtain ⟨Av, cv, rfl⟩ := Kd.R_slice hA; have CV := (Kd.R_reads' hA).2.2; have LV := (Kd.R_reads' hA).2.1; clear hA hW; have C5 := C_lit w4 [⟨0, 1⟩] (by decide); rw [show (cellsE [(⟨0, 1⟩ : S47)]).toArray = #[.int .i64 0, .int .i64 1] from rfl] at C5)
    | (go_at_call 15; refine (extent_Give.calls 10 _ _ _ _ 1 _ _ 25 _ (Kd.C_alloc CV _) LV C5 (by decide) give_awake).mono ?_; clear C5; rintro e w5 ⟨a, rfl, hA, hW⟩; replace G := (G.alloc _).step hW; replace CA := Kd.C_below (Kd.C_alloc CA _) hW; replace CB := Kd.C_below (Kd.C_alloc CB _) hW; replace CC := Kd.C_below (Kd.C_alloc CC _) hW; replace CD := Kd.C_below (Kd.C_alloc CD _) hW; clear hA hW CV LV; have C6 := C_lit w5 [⟨0, 2⟩, ⟨5, 2⟩] (by decide); rw [show (cellsE [(⟨0, 2⟩ : S47), (⟨5, 2⟩ : S47)]).toArray = #[.int .i64 0, .int .i64 2, .int .i64 5, .int .i64 2] from rfl] at C6)
    | (go_at_call 8; refine (reeflaw09_same.calls 5 _ _ _ _ 2 _ true _ (Kd.C_alloc CA _) LA C6 (by decide) same_2).mono ?_; clear C6 CA; rintro e w6 ⟨rfl, hD⟩; have hW := hD.below; clear hD; replace G := (G.alloc _).step hW; replace CB := Kd.C_below (Kd.C_alloc CB _) hW; replace CC := Kd.C_below (Kd.C_alloc CC _) hW; replace CD := Kd.C_below (Kd.C_alloc CD _) hW; clear hW; have C7 := C_lit w6 [⟨7, 1⟩] (by decide); rw [show (cellsE [(⟨7, 1⟩ : S47)]).toArray = #[.int .i64 7, .int .i64 1] from rfl] at C7)
    | (go_at_call 8; refine (reeflaw09_same.calls 5 _ _ _ _ 1 _ true _ (Kd.C_alloc CB _) LB C7 (by decide) same_B).mono ?_; clear C7 CB; rintro e w7 ⟨rfl, hD⟩; have hW := hD.below; clear hD; replace G := (G.alloc _).step hW; replace CC := Kd.C_below (Kd.C_alloc CC _) hW; replace CD := Kd.C_below (Kd.C_alloc CD _) hW; clear hW; have C8 := C_lit w7 [⟨5, 3⟩] (by decide); rw [show (cellsE [(⟨5, 3⟩ : S47)]).toArray = #[.int .i64 5, .int .i64 3] from rfl] at C8)
    | (go_at_call 8; refine (reeflaw09_same.calls 5 _ _ _ _ 1 _ true _ (Kd.C_alloc CC _) LC C8 (by decide) same_C).mono ?_; clear C8 CC; rintro e w8 ⟨rfl, hD⟩; have hW := hD.below; clear hD; replace G := (G.alloc _).step hW; replace CD := Kd.C_below (Kd.C_alloc CD _) hW; clear hW; have C9 := C_lit w8 [⟨0, 2⟩] (by decide); rw [show (cellsE [(⟨0, 2⟩ : S47)]).toArray = #[.int .i64 0, .int .i64 2] from rfl] at C9)
    | (go_at_call 8; refine (reeflaw09_same.calls 5 _ _ _ _ 1 _ true _ (Kd.C_alloc CD _) LD C9 (by decide) same_D).mono ?_; clear C9 CD; rintro e w9 ⟨rfl, hD⟩; have hW := hD.below; clear hD; replace G := (G.alloc _).step hW; clear hW))
  refine ⟨rfl, .bool true, ?_, rfl, G.g⟩
  simp [results, Try.results11, go_sem]
end Go.Proofs.Ytgnaippmncnlaaa.P
