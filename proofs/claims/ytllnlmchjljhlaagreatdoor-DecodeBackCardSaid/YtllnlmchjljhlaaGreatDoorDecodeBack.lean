/- The law DecodeBack: for every input the Go function returns true, and each argument reads behind the call as it read before. -/
import Derived.Test.YtllnlmchjljhlaaGreatDoorRows
import Derived.Test.YtllnlmchjljhlaaGreatDoorCards
import Derived.Test.YtllnlmchjljhlaaGreatDoorTie
import Derived.Test.YtllnlmchjljhlaaGreatDoorPkDecodeBackI
import Derived.Test.YtllnlmchjljhlaaGreatDoorPkDecodeBackH
import Derived.WalkKit
import Derived.ProofKit
import Derived.OpenShut
import Derived.ShutString
import Derived.ChangeOld
import Derived.Below
import Derived.SevenTiedAt
import Derived.LaidMore
import Derived.LaidLaws
import Derived.Stop.Joined
namespace Go.Proofs.YtllnlmchjljhlaaGreatDoor.decodeBack
open Go.ChangeShapes Go.WideShapes Go.ChangeAt Go.RowKit
set_option linter.unusedVariables false
set_option linter.unusedSimpArgs false

theorem own : ownKnob Tryz.prog.godebug = none := by kernel_rfl
theorem laidOut : laidOutB Tryz.prog = true := by kernel_rfl
theorem plain : plainB Tryz.prog [24, 22, 33, 30, 38, 29, 9, 3, 4, 36, 34, 2, 31, 43, 41, 39, 40, 5] = true := by kernel_rfl
theorem walk {x0 x1 x2 x3 x4 x5 : AV} (m0 : TyAV Tryz.prog 24 x0) (m1 : TyAV Tryz.prog 3 x1) (m2 : TyAV Tryz.prog 43 x2) (m3 : TyAV Tryz.prog 31 x3) (m4 : TyAV Tryz.prog 40 x4) (m5 : TyAV Tryz.prog 40 x5) : Told Tryz.prog 10 [x0, x1, x2, x3, x4, x5] (.c (.v (.bool true))) := by
  obtain ⟨s, rfl⟩ := arg_schema m0
  obtain ⟨a, _, rfl⟩ := arg_place m1
  obtain ⟨v, hv, rfl⟩ := arg_valueL m2
  obtain ⟨cuts, hc, rfl⟩ := arg_ints m3
  obtain ⟨l, rfl⟩ := arg_bytes m4
  obtain ⟨r, rfl⟩ := arg_bytes m5
  exact dback_told s a v hv cuts hc l r

theorem door_met (os : Os) (args : Array Value) : laidMetH Tryz.prog [("avocet/naming.words", Rows.laid_avocet_naming_words)] ((World.doorLaid Tryz.prog 400 os).forCall (fun _ _ => 0) ⟨#[], args, []⟩).memory :=
  laidMetH_of_parts3 (fuel := 8) (laidMet_of_run' 8 (by kernel_rfl) (by kernel_rfl)) (by kernel_rfl) (by kernel_rfl)
set_option maxRecDepth 100000 in
theorem lifted (os : Os) (started : os.Started) (H : Type) (enc : TypeId × Value → H) :
    ReturnsInHanded {} Tryz.checked os 10 .any (fun w args => (Rows.decodeBackSpec.pre enc Tryz.prog Tryz.f10 Rows.decodeBackRow.domain false w args ∧ laidMetH Tryz.prog [("avocet/naming.words", Rows.laid_avocet_naming_words)] w) ∧ sizedMet enc Tryz.prog Tryz.f10 (OpenSpec.ofChange Rows.decodeBackSpec) false w args) (Rows.decodeBackSpec.post enc Tryz.prog Tryz.f10 false true false false) := by
  refine returnsInHanded_of_change_and (C := Tryz.checked) (X := fun w _ => laidMetH Tryz.prog [("avocet/naming.words", Rows.laid_avocet_naming_words)] w) (fun _ _ _ hh h => h.of_heap hh) own started (by kernel_rfl) Tryz.func10
    (ChangeSpec.witness_shaped (enc := enc) (C := Tryz.checked) (os := os) (X := fun w _ => laidMetH Tryz.prog [("avocet/naming.words", Rows.laid_avocet_naming_words)] w) false (World.doorLaid Tryz.prog 400 os) #[.agg #[.slice none 0 0, .int .i64 0], .int .i64 0, .agg #[.int .i64 0, .int .i64 0, .int .u64 0, .slice none 0 0, .slice none 0 0, .slice none 0 0], .slice none 0 0, .slice none 0 0, .slice none 0 0] 8 rfl (World.shaped_of_RefB (by kernel_rfl) (by kernel_rfl)) (by kernel_rfl) (by kernel_rfl) (by kernel_rfl) (door_met os _)) ?_
  intro W base args ds gs before hval0 hW hcnd _ hL _
  have hval : ∀ (j : Nat) t v, Tryz.f10.params[j]? = some t → args[j]? = some v → Value.okWide Tryz.prog W .any base t v := hval0
  have hW' := hW
  obtain ⟨p, q, hA0, hV, rfl, hfz, hnd⟩ := hW
  have hA : DataW.TrodAll enc Tryz.prog W 0 (fun _ => true) true Tryz.f10.params.toList args.toList ds p := hA0
  rw [Tryz.params10] at hA hval
  obtain ⟨v0, vs0, d0, ds0, p0, q0, hargs, rfl, rfl, h0, r0⟩ := trodAll_cons hA
  obtain ⟨v1, vs1, d1, ds1, p1, q1, rfl, rfl, rfl, h1, r1⟩ := trodAll_cons r0
  obtain ⟨v2, vs2, d2, ds2, p2, q2, rfl, rfl, rfl, h2, r2⟩ := trodAll_cons r1
  obtain ⟨v3, vs3, d3, ds3, p3, q3, rfl, rfl, rfl, h3, r3⟩ := trodAll_cons r2
  obtain ⟨v4, vs4, d4, ds4, p4, q4, rfl, rfl, rfl, h4, r4⟩ := trodAll_cons r3
  obtain ⟨v5, vs5, d5, ds5, p5, q5, rfl, rfl, rfl, h5, r5⟩ := trodAll_cons r4
  obtain ⟨rfl, rfl, rfl⟩ := trodAll_nil r5
  obtain rfl : args = #[v0, v1, v2, v3, v4, v5] := by cases args; simp_all
  obtain ⟨rfl, rfl⟩ := trodVars_none hV
  have lt0 : ∀ x ∈ p0, x.block < W.heap.size := by obtain ⟨m, hm⟩ := h0; exact DataW.trod_lt m _ _ _ hm
  obtain ⟨x0, m0, g0⟩ := open_arg plain (by decide) (hval 0 24 v0 rfl rfl) h0
  have lt1 : ∀ x ∈ p1, x.block < W.heap.size := by obtain ⟨m, hm⟩ := h1; exact DataW.trod_lt m _ _ _ hm
  obtain ⟨x1, m1, g1⟩ := open_arg plain (by decide) (hval 1 3 v1 rfl rfl) h1
  have lt2 : ∀ x ∈ p2, x.block < W.heap.size := by obtain ⟨m, hm⟩ := h2; exact DataW.trod_lt m _ _ _ hm
  obtain ⟨x2, m2, g2⟩ := open_arg plain (by decide) (hval 2 43 v2 rfl rfl) h2
  have lt3 : ∀ x ∈ p3, x.block < W.heap.size := by obtain ⟨m, hm⟩ := h3; exact DataW.trod_lt m _ _ _ hm
  obtain ⟨x3, m3, g3⟩ := open_arg plain (by decide) (hval 3 31 v3 rfl rfl) h3
  have lt4 : ∀ x ∈ p4, x.block < W.heap.size := by obtain ⟨m, hm⟩ := h4; exact DataW.trod_lt m _ _ _ hm
  obtain ⟨x4, m4, g4⟩ := open_arg plain (by decide) (hval 4 40 v4 rfl rfl) h4
  have lt5 : ∀ x ∈ p5, x.block < W.heap.size := by obtain ⟨m, hm⟩ := h5; exact DataW.trod_lt m _ _ _ hm
  obtain ⟨x5, m5, g5⟩ := open_arg plain (by decide) (hval 5 40 v5 rfl rfl) h5
  clear hA0 hval0
  refine (law_toldG (gok_words hL) (walk m0 m1 m2 m3 m4 m5) (vs := [v0, v1, v2, v3, v4, v5]) rfl (reps_cons g0 (reps_cons g1 (reps_cons g2 (reps_cons g3 (reps_cons g4 (reps_cons g5 reps_nil))))))).mono fun e W' ⟨he, bel⟩ => ?_
  subst he
  exact ⟨_, rfl, _, _, _, [], _, [], hW', trodAll_mk1 (shut_bool Tryz.underlying4 _), (trodAll_cons_mk (Below.trod laidOut (by kernel_rfl) (of_decide_eq_true (by kernel_rfl)) h0 bel lt0) (trodAll_cons_mk (Below.trod laidOut (by kernel_rfl) (of_decide_eq_true (by kernel_rfl)) h1 bel lt1) (trodAll_cons_mk (Below.trod laidOut (by kernel_rfl) (of_decide_eq_true (by kernel_rfl)) h2 bel lt2) (trodAll_cons_mk (Below.trod laidOut (by kernel_rfl) (of_decide_eq_true (by kernel_rfl)) h3 bel lt3) (trodAll_cons_mk (Below.trod laidOut (by kernel_rfl) (of_decide_eq_true (by kernel_rfl)) h4 bel lt4) (trodAll_cons_mk (Below.trod laidOut (by kernel_rfl) (of_decide_eq_true (by kernel_rfl)) h5 bel lt5) trodAll_mk0)))))), rfl, bel.frame _, fun h => by cases h⟩

theorem kk0 : (fun (P : Program) (f : FuncId) (fn : Func) (s : ChangeSpec) (c : OpenClaim) => c.wf (OpenSpec.ofChange s)) Tryz.prog 10 Tryz.f10 Rows.decodeBackSpec Rows.decodeBackRow = true := by kernel_rfl
theorem kk1 : (fun (P : Program) (f : FuncId) (fn : Func) (s : ChangeSpec) (c : OpenClaim) => laidOutB P) Tryz.prog 10 Tryz.f10 Rows.decodeBackSpec Rows.decodeBackRow = true := by kernel_rfl
theorem kk2 : (fun (P : Program) (f : FuncId) (fn : Func) (s : ChangeSpec) (c : OpenClaim) => mapsRowed P) Tryz.prog 10 Tryz.f10 Rows.decodeBackSpec Rows.decodeBackRow = true := by kernel_rfl
theorem kk3 : (fun (P : Program) (f : FuncId) (fn : Func) (s : ChangeSpec) (c : OpenClaim) => fn.params.all (P.readableRec ·)) Tryz.prog 10 Tryz.f10 Rows.decodeBackSpec Rows.decodeBackRow = true := by kernel_rfl
theorem kk4 : (fun (P : Program) (f : FuncId) (fn : Func) (s : ChangeSpec) (c : OpenClaim) => namedTie P c.named s.vars) Tryz.prog 10 Tryz.f10 Rows.decodeBackSpec Rows.decodeBackRow = true := by kernel_rfl
theorem kk5 : (fun (P : Program) (f : FuncId) (fn : Func) (s : ChangeSpec) (c : OpenClaim) => (c.stops == [])) Tryz.prog 10 Tryz.f10 Rows.decodeBackSpec Rows.decodeBackRow = true := by kernel_rfl
theorem kk6 : (fun (P : Program) (f : FuncId) (fn : Func) (s : ChangeSpec) (c : OpenClaim) => (P.stops == [])) Tryz.prog 10 Tryz.f10 Rows.decodeBackSpec Rows.decodeBackRow = true := by kernel_rfl
theorem kk7 : (fun (P : Program) (f : FuncId) (fn : Func) (s : ChangeSpec) (c : OpenClaim) => (c.knobs == [])) Tryz.prog 10 Tryz.f10 Rows.decodeBackSpec Rows.decodeBackRow = true := by kernel_rfl
theorem kk8 : (fun (P : Program) (f : FuncId) (fn : Func) (s : ChangeSpec) (c : OpenClaim) => (P.stopKnobs == [])) Tryz.prog 10 Tryz.f10 Rows.decodeBackSpec Rows.decodeBackRow = true := by kernel_rfl
theorem kk9 : (fun (P : Program) (f : FuncId) (fn : Func) (s : ChangeSpec) (c : OpenClaim) => (c.inPlace == P.inPlace f)) Tryz.prog 10 Tryz.f10 Rows.decodeBackSpec Rows.decodeBackRow = true := by kernel_rfl
theorem kk10 : (fun (P : Program) (f : FuncId) (fn : Func) (s : ChangeSpec) (c : OpenClaim) => (c.unfollowed == P.unfollowed f)) Tryz.prog 10 Tryz.f10 Rows.decodeBackSpec Rows.decodeBackRow = true := by kernel_rfl
theorem kk11 : (fun (P : Program) (f : FuncId) (fn : Func) (s : ChangeSpec) (c : OpenClaim) => (c.recurses == P.recurses f)) Tryz.prog 10 Tryz.f10 Rows.decodeBackSpec Rows.decodeBackRow = true := by kernel_rfl
theorem kk12 : (fun (P : Program) (f : FuncId) (fn : Func) (s : ChangeSpec) (c : OpenClaim) => (c.named == P.varsNamed f)) Tryz.prog 10 Tryz.f10 Rows.decodeBackSpec Rows.decodeBackRow = true := by kernel_rfl
theorem kk13 : (fun (P : Program) (f : FuncId) (fn : Func) (s : ChangeSpec) (c : OpenClaim) => (c.maps == (fn.params.toList ++ s.plain.varTypes P).any (P.mapsRec ·))) Tryz.prog 10 Tryz.f10 Rows.decodeBackSpec Rows.decodeBackRow = true := by kernel_rfl
theorem kk14 : (fun (P : Program) (f : FuncId) (fn : Func) (s : ChangeSpec) (c : OpenClaim) => (c.ifaces == (fn.params.toList ++ s.plain.varTypes P).any (P.ifacesRec ·))) Tryz.prog 10 Tryz.f10 Rows.decodeBackSpec Rows.decodeBackRow = true := by kernel_rfl
theorem kk15 : (fun (P : Program) (f : FuncId) (fn : Func) (s : ChangeSpec) (c : OpenClaim) => (c.mapsOut == P.mapsAmong fn.resultTypes.toList)) Tryz.prog 10 Tryz.f10 Rows.decodeBackSpec Rows.decodeBackRow = true := by kernel_rfl
theorem kk16 : (fun (P : Program) (f : FuncId) (fn : Func) (s : ChangeSpec) (c : OpenClaim) => (c.loops == (fn.params.toList ++ s.plain.varTypes P).any (P.loopsFrom ·))) Tryz.prog 10 Tryz.f10 Rows.decodeBackSpec Rows.decodeBackRow = true := by kernel_rfl
theorem kk17 : (fun (P : Program) (f : FuncId) (fn : Func) (s : ChangeSpec) (c : OpenClaim) => (c.wideKeys == (fn.params.toList ++ s.plain.varTypes P ++ fn.resultTypes.toList).any (P.wideKeysFrom ·))) Tryz.prog 10 Tryz.f10 Rows.decodeBackSpec Rows.decodeBackRow = true := by kernel_rfl
theorem kk18 : (fun (P : Program) (f : FuncId) (fn : Func) (s : ChangeSpec) (c : OpenClaim) => s.vars.all (P.varReadable ·)) Tryz.prog 10 Tryz.f10 Rows.decodeBackSpec Rows.decodeBackRow = true := by kernel_rfl
theorem kk19 : (fun (P : Program) (f : FuncId) (fn : Func) (s : ChangeSpec) (c : OpenClaim) => fn.resultTypes.all (fun t => P.readableRec t && decide (t < P.types.size))) Tryz.prog 10 Tryz.f10 Rows.decodeBackSpec Rows.decodeBackRow = true := by kernel_rfl
theorem kk20 : (fun (P : Program) (f : FuncId) (fn : Func) (s : ChangeSpec) (c : OpenClaim) => (c.ifacesOut == fn.resultTypes.toList.any (P.ifacesRec ·))) Tryz.prog 10 Tryz.f10 Rows.decodeBackSpec Rows.decodeBackRow = true := by kernel_rfl
theorem kk21 : (fun (P : Program) (f : FuncId) (fn : Func) (s : ChangeSpec) (c : OpenClaim) => (c.loopsOut == fn.resultTypes.toList.any (P.loopsFrom ·))) Tryz.prog 10 Tryz.f10 Rows.decodeBackSpec Rows.decodeBackRow = true := by kernel_rfl
theorem kk22 : (fun (P : Program) (f : FuncId) (fn : Func) (s : ChangeSpec) (c : OpenClaim) => (c.plainKeys == P.plainKeys)) Tryz.prog 10 Tryz.f10 Rows.decodeBackSpec Rows.decodeBackRow = true := by kernel_rfl
theorem kk23 : (fun (P : Program) (f : FuncId) (fn : Func) (s : ChangeSpec) (c : OpenClaim) => c.shortTexts.isNone) Tryz.prog 10 Tryz.f10 Rows.decodeBackSpec Rows.decodeBackRow = true := by kernel_rfl
theorem kk24 : (fun (P : Program) (f : FuncId) (fn : Func) (s : ChangeSpec) (c : OpenClaim) => P.stopsHeard) Tryz.prog 10 Tryz.f10 Rows.decodeBackSpec Rows.decodeBackRow = true := by kernel_rfl
theorem kk25 : (fun (P : Program) (f : FuncId) (fn : Func) (s : ChangeSpec) (c : OpenClaim) => P.mayEnter) Tryz.prog 10 Tryz.f10 Rows.decodeBackSpec Rows.decodeBackRow = true := by kernel_rfl
theorem kk26 : (fun (P : Program) (f : FuncId) (fn : Func) (s : ChangeSpec) (c : OpenClaim) => (c.lifted == P.liftsFinal)) Tryz.prog 10 Tryz.f10 Rows.decodeBackSpec Rows.decodeBackRow = true := by kernel_rfl
theorem kk27 : (fun (P : Program) (f : FuncId) (fn : Func) (s : ChangeSpec) (c : OpenClaim) => (P.make == some c.make)) Tryz.prog 10 Tryz.f10 Rows.decodeBackSpec Rows.decodeBackRow = true := by kernel_rfl
theorem kk28 : (fun (P : Program) (f : FuncId) (fn : Func) (s : ChangeSpec) (c : OpenClaim) => (c.kinds == (if c.domain.isEmpty then [] else fn.params.toList.map fun t => match P.underlying t with | some (.int k) => some k | _ => none))) Tryz.prog 10 Tryz.f10 Rows.decodeBackSpec Rows.decodeBackRow = true := by kernel_rfl
theorem kk29 : (fun (P : Program) (f : FuncId) (fn : Func) (s : ChangeSpec) (c : OpenClaim) => (c.pinned == c.pinnedBy)) Tryz.prog 10 Tryz.f10 Rows.decodeBackSpec Rows.decodeBackRow = true := by kernel_rfl
theorem kk30 : (fun (P : Program) (f : FuncId) (fn : Func) (s : ChangeSpec) (c : OpenClaim) => (c.veiled == (fn.params.toList ++ s.plain.varTypes P ++ fn.resultTypes.toList).any (P.veiledRec ·))) Tryz.prog 10 Tryz.f10 Rows.decodeBackSpec Rows.decodeBackRow = true := by kernel_rfl
theorem kk31 : (fun (P : Program) (f : FuncId) (fn : Func) (s : ChangeSpec) (c : OpenClaim) => c.veiledFits P fn.params.toList (fn.params.toList ++ s.plain.varTypes P ++ fn.resultTypes.toList)) Tryz.prog 10 Tryz.f10 Rows.decodeBackSpec Rows.decodeBackRow = true := by kernel_rfl
set_option maxRecDepth 100000 in
theorem closed : joinedFacts Tryz.prog 10 Tryz.f10 Rows.decodeBackSpec Rows.decodeBackRow = true := by
  unfold joinedFacts
  simp only [Bool.and_eq_true]
  exact ⟨⟨⟨⟨⟨⟨⟨⟨⟨⟨⟨⟨⟨⟨⟨⟨⟨⟨⟨⟨⟨⟨⟨⟨⟨⟨⟨⟨⟨⟨⟨kk0, kk1⟩, kk2⟩, kk3⟩, kk4⟩, kk5⟩, kk6⟩, kk7⟩, kk8⟩, kk9⟩, kk10⟩, kk11⟩, kk12⟩, kk13⟩, kk14⟩, kk15⟩, kk16⟩, kk17⟩, kk18⟩, kk19⟩, kk20⟩, kk21⟩, kk22⟩, kk23⟩, kk24⟩, kk25⟩, kk26⟩, kk27⟩, kk28⟩, kk29⟩, kk30⟩, kk31⟩
theorem over : Rows.decodeBackRow.holds Tryz.pinned (OpenSpec.ofChange Rows.decodeBackSpec) :=
  OpenClaim.holds_of_wide 10 Tryz.f10 rfl rfl rfl rfl rfl rfl rfl ⟨rfl, rfl, rfl, rfl, rfl⟩ rfl rfl rfl rfl rfl (by kernel_rfl) Tryz.func10 closed
    (of_decide_eq_true (by kernel_rfl)) (by unfold Func.isWrapper; first | (rw [if_pos (by decide +kernel)]; kernel_rfl) | (rw [if_neg (by decide +kernel)]; exact ⟨rfl, rfl⟩))
    (fun os started H enc _ => lifted os started H enc)

theorem pw : Rows.decodeBackRow.wfByText (OpenSpec.ofChange Rows.decodeBackSpec) = true := by kernel_rfl
theorem pm : Tryz.prog.mainIs = some ((true, "fa70408086a8d58e9aad3a15037f7576a109375114465499f53e39cf61e6dd2b").1, (true, "fa70408086a8d58e9aad3a15037f7576a109375114465499f53e39cf61e6dd2b").2.toList) := by kernel_rfl
theorem pf : Tryz.prog.funcNamed "avocet/avocetlaw19.DecodeBack" = some 10 := by kernel_rfl
theorem pl : false = Tryz.prog.looks [] := by kernel_rfl
theorem pa : ([3, 24, 31, 40, 43].all fun u => !Tryz.prog.wantsStandIn u) = true := by kernel_rfl
theorem pg : false = Rows.decodeBackRow.goesBy Tryz.prog := by kernel_rfl
/-- THE STATEMENT: the tied card -/
theorem proved : Rows.DecodeBackCardSaid :=
  Claim7.holds_tied_plain_at .later [] [.data] true (true, "fa70408086a8d58e9aad3a15037f7576a109375114465499f53e39cf61e6dd2b") false
    over (fun _ h => by cases h) pw (fun _ h => by cases h) decodeBack_row_tie rfl ⟨rfl, rfl⟩ pm rfl
    (fun f fn hf hfn => by
      obtain rfl : f = 10 := Option.some.inj (pf.symm.trans hf) |>.symm
      obtain rfl : fn = Tryz.f10 := (Option.some.inj (Tryz.func10.symm.trans hfn)).symm
      exact ⟨pl, fun j t ht => by
        rw [Tryz.params10] at ht
        have hm : t ∈ [3, 24, 31, 40, 43] := by
          have := Array.mem_of_getElem? ht
          first | (simpa using this) | (simp at this ⊢; rcases this with h | h <;> simp [h]) | (simp at this ⊢; rcases this with h | h | h <;> simp [h]) | (simp at this ⊢; rcases this with h | h | h | h <;> simp [h]) | (simp at this ⊢; rcases this with h | h | h | h | h <;> simp [h]) | (simp at this ⊢; rcases this with h | h | h | h | h | h <;> simp [h]) | (simp at this ⊢; omega)
        have hall : ([3, 24, 31, 40, 43].all fun u => !Tryz.prog.wantsStandIn u) = true := pa
        exact (show Tryz.prog.wantsStandIn t = false by simpa using List.all_eq_true.1 hall t hm)⟩)
    pg
end Go.Proofs.YtllnlmchjljhlaaGreatDoor.decodeBack
