import Derived.Test.YtpaapnkpijincaaO1
namespace Go.Proofs.Ytpaapnkpijincaa.P
open Go.RowKit Go.Proofs.YtpaapnkpijincaaW.PrintWords Go.Proofs.YtpaapnkpijincaaW.PrintLast Go.Proofs.YtpaapnkpijincaaW.PrintMore Go.Proofs.YtpaapnkpijincaaW.HB
set_option linter.unusedVariables false
attribute [local go_sem] Oper.semAt_some

def objmap_Count.f (m : ByteArray) : Option Int := if m.size ≤ 4096 then some (((plc m m.size).length : Nat) : Int) else none
set_option maxRecDepth 100000 in
set_option maxHeartbeats 4000000 in
theorem count_in (m : ByteArray) (w : World) (hm : m.size ≤ 4096) :
    CallsIn Fence.wide 9 Try.prog 19 #[.string m] w (fun e w' => e = .returned (.int .i64 ((plc m m.size).length : Nat)) ∧ Below w.heap.size w w') := by
  have hpl := plc_len m m.size
  refine callsIn_of_wp_marks Try.func19 rfl trivial ?_ rfl
  simp only [Try.ntmps19, List.size_toArray, List.length_cons, List.length_nil, Nat.reduceAdd, Nat.reduceSub, Array.replicate_succ, Array.replicate_zero, List.push_toArray, List.append_toArray, List.nil_append, List.cons_append]
  gi_wp2_with (refine ⟨trivial, ?_⟩; gi_at_call 36; refine (places_in Fence.wide 8 trivial rfl m _).mono ?_; rintro e w' ⟨rfl, rfl⟩)
  have hbl := cell_fresh (w.alloc (.cells #[.int .i64 0] 3)) #[.string m] 9 0 _ rfl
  have A0 : BoxSt w w.heap.size 3 (.int .i64 ((([] : List (Plc m)).length : Nat) : Int)) ((w.alloc (.cells #[.int .i64 0] 3)).alloc (.cells #[.string m] 9)) := ⟨(Boxed.new w _ _).alloc _, below_alloc (below_alloc (Below.refl _ _) _) _, Nat.le_refl _⟩
  have hsz : ((w.alloc (.cells #[.int .i64 0] 3)).alloc (.cells #[.string m] 9)).heap.size = w.heap.size + 2 := by simp
  rw [World.size_alloc] at hbl
  revert A0 hbl hsz
  generalize ((w.alloc (.cells #[.int .i64 0] 3)).alloc (.cells #[.string m] 9)) = wl
  intro hbl A0 hsz
  have HSEQ := places_stops Fence.wide 8 trivial rfl (by decide) (w.heap.size + 1) (fun k => k = w.heap.size) (fun _ => False) m (by omega) wl (by omega) (by show ¬ w.heap.size + 1 = w.heap.size; omega) hbl
  have HIo : OwnFrom wl.heap.size (fun (pre : List (Plc m)) W => BoxSt w w.heap.size 3 (.int .i64 ((pre.length : Nat) : Int)) W) := fun s X Y row hs hg hr => hs.nc hg (fun r e => ⟨by have := (hr r e).1; omega, (hr r e).2⟩)
  refine rf_G (F := Fence.wide) (P := Try.prog) (encs := fun x : Plc m => #[Value.int .i64 x.1]) rfl (by decide) (gf := 43) (lb := #[.pointer (some ⟨w.heap.size + 1, 0, none⟩)]) rfl trivial (Go.Proofs.enters_of Try.func43 (by kernel_rfl) rfl) HSEQ (Below.refl _ _) (fun _ => rfl)
    (fun (pre : List (Plc m)) W => BoxSt w w.heap.size 3 (.int .i64 ((pre.length : Nat) : Int)) W) (fun _ _ _ => False)
    HIo (fun _ _ _ _ _ hs _ _ => hs) A0 ?_
  clear HSEQ HIo A0
  apply Exists.intro
  refine ⟨?assign, ?body, ?done, ?stop⟩
  case assign =>
    intro l x W K hK
    gi_wp2
    exact hK
  case stop => intro D c pre W _ _ h _; exact h.elim
  case body =>
    rintro li pre x W hI hlt
    have hx := hI.x.cell
    have hf := hI.x.frozen
    have HI := Aside0.mk hI
    clear hI
    have hle : pre.length ≤ 4096 := by omega
    gi_wp2
    have hg := grownBy_setCellK W w.heap.size 0 (.int .i64 ((pre.length : Int) + 1))
    refine ⟨(KeepsOthers.setCell _ _ _).from _, KeepX.grown hg (fun k cs T fr hk hc => by cases hk; exact ⟨fun _ => rfl, fun h => by omega⟩), ?_⟩
    have := HI.out.set (.int .i64 ((pre.length : Int) + 1))
    simpa using this
  case done =>
    intro D xs W hD hxs hI hK
    have hx := hI.x.cell
    have HI := Aside0.mk hI
    have HL := Aside0.mk (show xs.length = (plc m m.size).length from by rw [hxs, plcA_len])
    clear hI hxs
    gi_wp2_with fail
    refine ⟨by simp, .inl ⟨_, _, rfl, run_takeDeferred hK, ?_⟩⟩
    have hg := grownBy_putObj' W D (.deferred none)
    refine ⟨.int .i64 ((xs.length : Nat) : Int), ?_, by rw [HL.out], pw_below_grown HI.out.below _ HI.out.below.size hg (fun k hk => by cases hk; omega)⟩
    simp [results, Try.results19, go_sem]
theorem objmap_Count.calls (a0 : ByteArray) (r : Int) (w : World) (h : objmap_Count.f a0 = some r) :
    Calls Try.prog 19 #[.string a0] w fun e w' => e = .returned (.int .i64 r) ∧ Below w.heap.size w w' := by
  unfold objmap_Count.f at h
  split at h
  · obtain rfl := Option.some.inj h
    exact callsIn_wide.1 (count_in a0 w (by assumption))
  · cases h
end Go.Proofs.Ytpaapnkpijincaa.P
