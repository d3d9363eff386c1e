/- The law BuildBuilds: for every input the Go function returns true, and each argument reads behind the call as it read before. -/
import Derived.Test.YthkofkaocipomaaGreatDoorRows
import Derived.Test.YthkofkaocipomaaGreatDoorCards
import Derived.Test.YthkofkaocipomaaGreatDoorTie
import Derived.Test.YthkofkaocipomaaGreatDoorPkBuildBuildsG
import Derived.WalkKit
import Derived.ProofKit
import Derived.OpenShut
import Derived.ShutString
import Derived.ChangeOld
import Derived.Below
import Derived.SevenTiedAt
import Derived.LaidMore
import Derived.LaidLaws
import Derived.Stop.Joined
namespace Go.Proofs.YthkofkaocipomaaGreatDoor.buildBuilds
open Go.ChangeShapes Go.WideShapes Go.ChangeAt Go.RowKit
set_option linter.unusedVariables false
set_option linter.unusedSimpArgs false

theorem own : ownKnob Tryz.prog.godebug = none := by kernel_rfl
theorem laidOut : laidOutB Tryz.prog = true := by kernel_rfl
theorem plain : plainB Tryz.prog [25, 22, 2, 3, 9, 23] = true := by kernel_rfl
theorem walk {x0 : AV} (m0 : TyAV Tryz.prog 25 x0) : Told Tryz.prog 3 [x0] (.c (.v (.bool true))) := by
  obtain ⟨j, hj, rfl⟩ := arg_json m0
  exact z38 j

theorem door_met (os : Os) (args : Array Value) : laidMetH Tryz.prog [("avocet/naming.words", Rows.laid_avocet_naming_words)] ((World.doorLaid Tryz.prog 400 os).forCall (fun _ _ => 0) ⟨#[], args, []⟩).memory :=
  laidMetH_of_parts3 (fuel := 8) (laidMet_of_run' 8 (by kernel_rfl) (by kernel_rfl)) (by kernel_rfl) (by kernel_rfl)
set_option maxRecDepth 100000 in
theorem lifted (os : Os) (started : os.Started) (H : Type) (enc : TypeId × Value → H) :
    ReturnsInHanded {} Tryz.checked os 3 .any (fun w args => (Rows.buildBuildsSpec.pre enc Tryz.prog Tryz.f3 Rows.buildBuildsRow.domain false w args ∧ laidMetH Tryz.prog [("avocet/naming.words", Rows.laid_avocet_naming_words)] w) ∧ sizedMet enc Tryz.prog Tryz.f3 (OpenSpec.ofChange Rows.buildBuildsSpec) false w args) (Rows.buildBuildsSpec.post enc Tryz.prog Tryz.f3 false true false false) := by
  refine returnsInHanded_of_change_and (C := Tryz.checked) (X := fun w _ => laidMetH Tryz.prog [("avocet/naming.words", Rows.laid_avocet_naming_words)] w) (fun _ _ _ hh h => h.of_heap hh) own started (by kernel_rfl) Tryz.func3
    (ChangeSpec.witness_shaped (enc := enc) (C := Tryz.checked) (os := os) (X := fun w _ => laidMetH Tryz.prog [("avocet/naming.words", Rows.laid_avocet_naming_words)] w) false (World.doorLaid Tryz.prog 400 os) #[.agg #[.int .i64 0, .int .i64 0, .string ByteArray.empty, .slice none 0 0, .slice none 0 0]] 8 rfl (World.shaped_of_RefB (by kernel_rfl) (by kernel_rfl)) (by kernel_rfl) (by kernel_rfl) (by kernel_rfl) (door_met os _)) ?_
  intro W base args ds gs before hval0 hW hcnd _ hL _
  have hval : ∀ (j : Nat) t v, Tryz.f3.params[j]? = some t → args[j]? = some v → Value.okWide Tryz.prog W .any base t v := hval0
  have hW' := hW
  obtain ⟨p, q, hA0, hV, rfl, hfz, hnd⟩ := hW
  have hA : DataW.TrodAll enc Tryz.prog W 0 (fun _ => true) true Tryz.f3.params.toList args.toList ds p := hA0
  rw [Tryz.params3] at hA hval
  obtain ⟨v0, vs0, d0, ds0, p0, q0, hargs, rfl, rfl, h0, r0⟩ := trodAll_cons hA
  obtain ⟨rfl, rfl, rfl⟩ := trodAll_nil r0
  obtain rfl : args = #[v0] := by cases args; simp_all
  obtain ⟨rfl, rfl⟩ := trodVars_none hV
  have lt0 : ∀ x ∈ p0, x.block < W.heap.size := by obtain ⟨m, hm⟩ := h0; exact DataW.trod_lt m _ _ _ hm
  obtain ⟨x0, m0, g0⟩ := open_arg plain (by decide) (hval 0 25 v0 rfl rfl) h0
  clear hA0 hval0
  refine (law_toldG (gok_words hL) (walk m0) (vs := [v0]) rfl (reps_cons g0 reps_nil)).mono fun e W' ⟨he, bel⟩ => ?_
  subst he
  exact ⟨_, rfl, _, _, _, [], _, [], hW', trodAll_mk1 (shut_bool Tryz.underlying4 _), (trodAll_cons_mk (Below.trod laidOut (by kernel_rfl) (of_decide_eq_true (by kernel_rfl)) h0 bel lt0) trodAll_mk0), rfl, bel.frame _, fun h => by cases h⟩

theorem kk0 : (fun (P : Program) (f : FuncId) (fn : Func) (s : ChangeSpec) (c : OpenClaim) => c.wf (OpenSpec.ofChange s)) Tryz.prog 3 Tryz.f3 Rows.buildBuildsSpec Rows.buildBuildsRow = true := by kernel_rfl
theorem kk1 : (fun (P : Program) (f : FuncId) (fn : Func) (s : ChangeSpec) (c : OpenClaim) => laidOutB P) Tryz.prog 3 Tryz.f3 Rows.buildBuildsSpec Rows.buildBuildsRow = true := by kernel_rfl
theorem kk2 : (fun (P : Program) (f : FuncId) (fn : Func) (s : ChangeSpec) (c : OpenClaim) => mapsRowed P) Tryz.prog 3 Tryz.f3 Rows.buildBuildsSpec Rows.buildBuildsRow = true := by kernel_rfl
theorem kk3 : (fun (P : Program) (f : FuncId) (fn : Func) (s : ChangeSpec) (c : OpenClaim) => fn.params.all (P.readableRec ·)) Tryz.prog 3 Tryz.f3 Rows.buildBuildsSpec Rows.buildBuildsRow = true := by kernel_rfl
theorem kk4 : (fun (P : Program) (f : FuncId) (fn : Func) (s : ChangeSpec) (c : OpenClaim) => namedTie P c.named s.vars) Tryz.prog 3 Tryz.f3 Rows.buildBuildsSpec Rows.buildBuildsRow = true := by kernel_rfl
theorem kk5 : (fun (P : Program) (f : FuncId) (fn : Func) (s : ChangeSpec) (c : OpenClaim) => (c.stops == [])) Tryz.prog 3 Tryz.f3 Rows.buildBuildsSpec Rows.buildBuildsRow = true := by kernel_rfl
theorem kk6 : (fun (P : Program) (f : FuncId) (fn : Func) (s : ChangeSpec) (c : OpenClaim) => (P.stops == [])) Tryz.prog 3 Tryz.f3 Rows.buildBuildsSpec Rows.buildBuildsRow = true := by kernel_rfl
theorem kk7 : (fun (P : Program) (f : FuncId) (fn : Func) (s : ChangeSpec) (c : OpenClaim) => (c.knobs == [])) Tryz.prog 3 Tryz.f3 Rows.buildBuildsSpec Rows.buildBuildsRow = true := by kernel_rfl
theorem kk8 : (fun (P : Program) (f : FuncId) (fn : Func) (s : ChangeSpec) (c : OpenClaim) => (P.stopKnobs == [])) Tryz.prog 3 Tryz.f3 Rows.buildBuildsSpec Rows.buildBuildsRow = true := by kernel_rfl
theorem kk9 : (fun (P : Program) (f : FuncId) (fn : Func) (s : ChangeSpec) (c : OpenClaim) => (c.inPlace == P.inPlace f)) Tryz.prog 3 Tryz.f3 Rows.buildBuildsSpec Rows.buildBuildsRow = true := by kernel_rfl
theorem kk10 : (fun (P : Program) (f : FuncId) (fn : Func) (s : ChangeSpec) (c : OpenClaim) => (c.unfollowed == P.unfollowed f)) Tryz.prog 3 Tryz.f3 Rows.buildBuildsSpec Rows.buildBuildsRow = true := by kernel_rfl
theorem kk11 : (fun (P : Program) (f : FuncId) (fn : Func) (s : ChangeSpec) (c : OpenClaim) => (c.recurses == P.recurses f)) Tryz.prog 3 Tryz.f3 Rows.buildBuildsSpec Rows.buildBuildsRow = true := by kernel_rfl
theorem kk12 : (fun (P : Program) (f : FuncId) (fn : Func) (s : ChangeSpec) (c : OpenClaim) => (c.named == P.varsNamed f)) Tryz.prog 3 Tryz.f3 Rows.buildBuildsSpec Rows.buildBuildsRow = true := by kernel_rfl
theorem kk13 : (fun (P : Program) (f : FuncId) (fn : Func) (s : ChangeSpec) (c : OpenClaim) => (c.maps == (fn.params.toList ++ s.plain.varTypes P).any (P.mapsRec ·))) Tryz.prog 3 Tryz.f3 Rows.buildBuildsSpec Rows.buildBuildsRow = true := by kernel_rfl
theorem kk14 : (fun (P : Program) (f : FuncId) (fn : Func) (s : ChangeSpec) (c : OpenClaim) => (c.ifaces == (fn.params.toList ++ s.plain.varTypes P).any (P.ifacesRec ·))) Tryz.prog 3 Tryz.f3 Rows.buildBuildsSpec Rows.buildBuildsRow = true := by kernel_rfl
theorem kk15 : (fun (P : Program) (f : FuncId) (fn : Func) (s : ChangeSpec) (c : OpenClaim) => (c.mapsOut == P.mapsAmong fn.resultTypes.toList)) Tryz.prog 3 Tryz.f3 Rows.buildBuildsSpec Rows.buildBuildsRow = true := by kernel_rfl
theorem kk16 : (fun (P : Program) (f : FuncId) (fn : Func) (s : ChangeSpec) (c : OpenClaim) => (c.loops == (fn.params.toList ++ s.plain.varTypes P).any (P.loopsFrom ·))) Tryz.prog 3 Tryz.f3 Rows.buildBuildsSpec Rows.buildBuildsRow = true := by kernel_rfl
theorem kk17 : (fun (P : Program) (f : FuncId) (fn : Func) (s : ChangeSpec) (c : OpenClaim) => (c.wideKeys == (fn.params.toList ++ s.plain.varTypes P ++ fn.resultTypes.toList).any (P.wideKeysFrom ·))) Tryz.prog 3 Tryz.f3 Rows.buildBuildsSpec Rows.buildBuildsRow = true := by kernel_rfl
theorem kk18 : (fun (P : Program) (f : FuncId) (fn : Func) (s : ChangeSpec) (c : OpenClaim) => s.vars.all (P.varReadable ·)) Tryz.prog 3 Tryz.f3 Rows.buildBuildsSpec Rows.buildBuildsRow = true := by kernel_rfl
theorem kk19 : (fun (P : Program) (f : FuncId) (fn : Func) (s : ChangeSpec) (c : OpenClaim) => fn.resultTypes.all (fun t => P.readableRec t && decide (t < P.types.size))) Tryz.prog 3 Tryz.f3 Rows.buildBuildsSpec Rows.buildBuildsRow = true := by kernel_rfl
theorem kk20 : (fun (P : Program) (f : FuncId) (fn : Func) (s : ChangeSpec) (c : OpenClaim) => (c.ifacesOut == fn.resultTypes.toList.any (P.ifacesRec ·))) Tryz.prog 3 Tryz.f3 Rows.buildBuildsSpec Rows.buildBuildsRow = true := by kernel_rfl
theorem kk21 : (fun (P : Program) (f : FuncId) (fn : Func) (s : ChangeSpec) (c : OpenClaim) => (c.loopsOut == fn.resultTypes.toList.any (P.loopsFrom ·))) Tryz.prog 3 Tryz.f3 Rows.buildBuildsSpec Rows.buildBuildsRow = true := by kernel_rfl
theorem kk22 : (fun (P : Program) (f : FuncId) (fn : Func) (s : ChangeSpec) (c : OpenClaim) => (c.plainKeys == P.plainKeys)) Tryz.prog 3 Tryz.f3 Rows.buildBuildsSpec Rows.buildBuildsRow = true := by kernel_rfl
theorem kk23 : (fun (P : Program) (f : FuncId) (fn : Func) (s : ChangeSpec) (c : OpenClaim) => c.shortTexts.isNone) Tryz.prog 3 Tryz.f3 Rows.buildBuildsSpec Rows.buildBuildsRow = true := by kernel_rfl
theorem kk24 : (fun (P : Program) (f : FuncId) (fn : Func) (s : ChangeSpec) (c : OpenClaim) => P.stopsHeard) Tryz.prog 3 Tryz.f3 Rows.buildBuildsSpec Rows.buildBuildsRow = true := by kernel_rfl
theorem kk25 : (fun (P : Program) (f : FuncId) (fn : Func) (s : ChangeSpec) (c : OpenClaim) => P.mayEnter) Tryz.prog 3 Tryz.f3 Rows.buildBuildsSpec Rows.buildBuildsRow = true := by kernel_rfl
theorem kk26 : (fun (P : Program) (f : FuncId) (fn : Func) (s : ChangeSpec) (c : OpenClaim) => (c.lifted == P.liftsFinal)) Tryz.prog 3 Tryz.f3 Rows.buildBuildsSpec Rows.buildBuildsRow = true := by kernel_rfl
theorem kk27 : (fun (P : Program) (f : FuncId) (fn : Func) (s : ChangeSpec) (c : OpenClaim) => (P.make == some c.make)) Tryz.prog 3 Tryz.f3 Rows.buildBuildsSpec Rows.buildBuildsRow = true := by kernel_rfl
theorem kk28 : (fun (P : Program) (f : FuncId) (fn : Func) (s : ChangeSpec) (c : OpenClaim) => (c.kinds == (if c.domain.isEmpty then [] else fn.params.toList.map fun t => match P.underlying t with | some (.int k) => some k | _ => none))) Tryz.prog 3 Tryz.f3 Rows.buildBuildsSpec Rows.buildBuildsRow = true := by kernel_rfl
theorem kk29 : (fun (P : Program) (f : FuncId) (fn : Func) (s : ChangeSpec) (c : OpenClaim) => (c.pinned == c.pinnedBy)) Tryz.prog 3 Tryz.f3 Rows.buildBuildsSpec Rows.buildBuildsRow = true := by kernel_rfl
theorem kk30 : (fun (P : Program) (f : FuncId) (fn : Func) (s : ChangeSpec) (c : OpenClaim) => (c.veiled == (fn.params.toList ++ s.plain.varTypes P ++ fn.resultTypes.toList).any (P.veiledRec ·))) Tryz.prog 3 Tryz.f3 Rows.buildBuildsSpec Rows.buildBuildsRow = true := by kernel_rfl
theorem kk31 : (fun (P : Program) (f : FuncId) (fn : Func) (s : ChangeSpec) (c : OpenClaim) => c.veiledFits P fn.params.toList (fn.params.toList ++ s.plain.varTypes P ++ fn.resultTypes.toList)) Tryz.prog 3 Tryz.f3 Rows.buildBuildsSpec Rows.buildBuildsRow = true := by kernel_rfl
set_option maxRecDepth 100000 in
theorem closed : joinedFacts Tryz.prog 3 Tryz.f3 Rows.buildBuildsSpec Rows.buildBuildsRow = true := by
  unfold joinedFacts
  simp only [Bool.and_eq_true]
  exact ⟨⟨⟨⟨⟨⟨⟨⟨⟨⟨⟨⟨⟨⟨⟨⟨⟨⟨⟨⟨⟨⟨⟨⟨⟨⟨⟨⟨⟨⟨⟨kk0, kk1⟩, kk2⟩, kk3⟩, kk4⟩, kk5⟩, kk6⟩, kk7⟩, kk8⟩, kk9⟩, kk10⟩, kk11⟩, kk12⟩, kk13⟩, kk14⟩, kk15⟩, kk16⟩, kk17⟩, kk18⟩, kk19⟩, kk20⟩, kk21⟩, kk22⟩, kk23⟩, kk24⟩, kk25⟩, kk26⟩, kk27⟩, kk28⟩, kk29⟩, kk30⟩, kk31⟩
theorem over : Rows.buildBuildsRow.holds Tryz.pinned (OpenSpec.ofChange Rows.buildBuildsSpec) :=
  OpenClaim.holds_of_wide 3 Tryz.f3 rfl rfl rfl rfl rfl rfl rfl ⟨rfl, rfl, rfl, rfl, rfl⟩ rfl rfl rfl rfl rfl (by kernel_rfl) Tryz.func3 closed
    (of_decide_eq_true (by kernel_rfl)) (by unfold Func.isWrapper; first | (rw [if_pos (by decide +kernel)]; kernel_rfl) | (rw [if_neg (by decide +kernel)]; exact ⟨rfl, rfl⟩))
    (fun os started H enc _ => lifted os started H enc)

theorem pw : Rows.buildBuildsRow.wfByText (OpenSpec.ofChange Rows.buildBuildsSpec) = true := by kernel_rfl
theorem pm : Tryz.prog.mainIs = some ((true, "b3c8cfa69d17a9a0c1d70a72594ed962687f8d6aadd1ff0ce7e3497370000252").1, (true, "b3c8cfa69d17a9a0c1d70a72594ed962687f8d6aadd1ff0ce7e3497370000252").2.toList) := by kernel_rfl
theorem pf : Tryz.prog.funcNamed "avocet/avocetlaw12.BuildBuilds" = some 3 := by kernel_rfl
theorem pl : false = Tryz.prog.looks [] := by kernel_rfl
theorem pa : ([25].all fun u => !Tryz.prog.wantsStandIn u) = true := by kernel_rfl
theorem pg : false = Rows.buildBuildsRow.goesBy Tryz.prog := by kernel_rfl
/-- THE STATEMENT: the tied card -/
theorem proved : Rows.BuildBuildsCardSaid :=
  Claim7.holds_tied_plain_at .later [] [.data] true (true, "b3c8cfa69d17a9a0c1d70a72594ed962687f8d6aadd1ff0ce7e3497370000252") false
    over (fun _ h => by cases h) pw (fun _ h => by cases h) buildBuilds_row_tie rfl ⟨rfl, rfl⟩ pm rfl
    (fun f fn hf hfn => by
      obtain rfl : f = 3 := Option.some.inj (pf.symm.trans hf) |>.symm
      obtain rfl : fn = Tryz.f3 := (Option.some.inj (Tryz.func3.symm.trans hfn)).symm
      exact ⟨pl, fun j t ht => by
        rw [Tryz.params3] at ht
        have hm : t ∈ [25] := by
          have := Array.mem_of_getElem? ht
          first | (simpa using this) | (simp at this ⊢; rcases this with h | h <;> simp [h]) | (simp at this ⊢; rcases this with h | h | h <;> simp [h]) | (simp at this ⊢; rcases this with h | h | h | h <;> simp [h]) | (simp at this ⊢; rcases this with h | h | h | h | h <;> simp [h]) | (simp at this ⊢; rcases this with h | h | h | h | h | h <;> simp [h]) | (simp at this ⊢; omega)
        have hall : ([25].all fun u => !Tryz.prog.wantsStandIn u) = true := pa
        exact (show Tryz.prog.wantsStandIn t = false by simpa using List.all_eq_true.1 hall t hm)⟩)
    pg
end Go.Proofs.YthkofkaocipomaaGreatDoor.buildBuilds
