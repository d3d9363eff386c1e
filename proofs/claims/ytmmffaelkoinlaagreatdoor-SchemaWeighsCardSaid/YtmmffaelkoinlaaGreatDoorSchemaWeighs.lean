/- The law SchemaWeighs: for every input the Go function returns true, and each argument reads behind the call as it read before. -/
import Derived.Test.YtmmffaelkoinlaaGreatDoorRows
import Derived.Test.YtmmffaelkoinlaaGreatDoorCards
import Derived.Test.YtmmffaelkoinlaaGreatDoorTie
import Derived.Test.YtmmffaelkoinlaaGreatDoorSy
import Derived.Test.YtmmffaelkoinlaaGreatDoorSm
import Derived.Test.YtmmffaelkoinlaaGreatDoorLd
import Derived.Test.YtmmffaelkoinlaaGreatDoorOpn
import Derived.WalkKit
import Derived.ProofKit
import Derived.OpenShut
import Derived.ShutString
import Derived.ChangeOld
import Derived.Below
import Derived.SevenTiedAt
import Derived.LaidMore
import Derived.LaidLaws
import Derived.Stop.Joined
namespace Go.Proofs.YtmmffaelkoinlaaGreatDoor.schemaWeighs
open Go.ChangeShapes Go.WideShapes Go.ChangeAt Go.RowKit
set_option linter.unusedVariables false
set_option linter.unusedSimpArgs false

theorem own : ownKnob Tryz.prog.godebug = none := by kernel_rfl
theorem laidOut : laidOutB Tryz.prog = true := by kernel_rfl
theorem plain : plainB Tryz.prog [24, 22, 32, 29, 51, 28, 30, 49, 47, 9, 3, 2, 4] = true := by kernel_rfl
theorem walk {x0 : AV} (m0 : TyAV Tryz.prog 24 x0) : Told Tryz.prog 3 [x0] (.c (.v (.bool true))) := by
  obtain ⟨s, rfl⟩ := arg_schema m0
  exact weighs_told s

theorem door_met (os : Os) (args : Array Value) : laidMetH Tryz.prog [("avocet/naming.words", Rows.laid_avocet_naming_words)] ((World.doorLaid Tryz.prog 400 os).forCall (fun _ _ => 0) ⟨#[], args, []⟩).memory :=
  laidMetH_of_parts3 (fuel := 8) (laidMet_of_run' 8 (by kernel_rfl) (by kernel_rfl)) (by kernel_rfl) (by kernel_rfl)
set_option maxRecDepth 100000 in
theorem lifted (os : Os) (started : os.Started) (H : Type) (enc : TypeId × Value → H) :
    ReturnsInHanded {} Tryz.checked os 3 .any (fun w args => (Rows.schemaWeighsSpec.pre enc Tryz.prog Tryz.f3 Rows.schemaWeighsRow.domain false w args ∧ laidMetH Tryz.prog [("avocet/naming.words", Rows.laid_avocet_naming_words)] w) ∧ sizedMet enc Tryz.prog Tryz.f3 (OpenSpec.ofChange Rows.schemaWeighsSpec) false w args) (Rows.schemaWeighsSpec.post enc Tryz.prog Tryz.f3 false true false false) := by
  refine returnsInHanded_of_change_and (C := Tryz.checked) (X := fun w _ => laidMetH Tryz.prog [("avocet/naming.words", Rows.laid_avocet_naming_words)] w) (fun _ _ _ hh h => h.of_heap hh) own started (by kernel_rfl) Tryz.func3
    (ChangeSpec.witness_shaped (enc := enc) (C := Tryz.checked) (os := os) (X := fun w _ => laidMetH Tryz.prog [("avocet/naming.words", Rows.laid_avocet_naming_words)] w) false (World.doorLaid Tryz.prog 400 os) #[.agg #[.slice none 0 0, .int .i64 0]] 8 rfl (World.shaped_of_RefB (by kernel_rfl) (by kernel_rfl)) (by kernel_rfl) (by kernel_rfl) (by kernel_rfl) (door_met os _)) ?_
  intro W base args ds gs before hval0 hW hcnd _ hL _
  have hval : ∀ (j : Nat) t v, Tryz.f3.params[j]? = some t → args[j]? = some v → Value.okWide Tryz.prog W .any base t v := hval0
  have hW' := hW
  obtain ⟨p, q, hA0, hV, rfl, hfz, hnd⟩ := hW
  have hA : DataW.TrodAll enc Tryz.prog W 0 (fun _ => true) true Tryz.f3.params.toList args.toList ds p := hA0
  rw [Tryz.params3] at hA hval
  obtain ⟨v0, vs0, d0, ds0, p0, q0, hargs, rfl, rfl, h0, r0⟩ := trodAll_cons hA
  obtain ⟨rfl, rfl, rfl⟩ := trodAll_nil r0
  obtain rfl : args = #[v0] := by cases args; simp_all
  obtain ⟨rfl, rfl⟩ := trodVars_none hV
  have lt0 : ∀ x ∈ p0, x.block < W.heap.size := by obtain ⟨m, hm⟩ := h0; exact DataW.trod_lt m _ _ _ hm
  obtain ⟨x0, m0, g0⟩ := open_arg plain (by decide) (hval 0 24 v0 rfl rfl) h0
  clear hA0 hval0
  refine (law_toldG (gok_words hL) (walk m0) (vs := [v0]) rfl (reps_cons g0 reps_nil)).mono fun e W' ⟨he, bel⟩ => ?_
  subst he
  exact ⟨_, rfl, _, _, _, [], _, [], hW', trodAll_mk1 (shut_bool Tryz.underlying4 _), (trodAll_cons_mk (Below.trod laidOut (by kernel_rfl) (of_decide_eq_true (by kernel_rfl)) h0 bel lt0) trodAll_mk0), rfl, bel.frame _, fun h => by cases h⟩

theorem over : Rows.schemaWeighsRow.holds Tryz.pinned (OpenSpec.ofChange Rows.schemaWeighsSpec) :=
  OpenClaim.holds_of_wide 3 Tryz.f3 rfl rfl rfl rfl rfl rfl rfl ⟨rfl, rfl, rfl, rfl, rfl⟩ rfl rfl rfl rfl rfl (by kernel_rfl) Tryz.func3 (by kernel_rfl)
    (of_decide_eq_true (by kernel_rfl)) (by unfold Func.isWrapper; first | (rw [if_pos (by decide +kernel)]; kernel_rfl) | (rw [if_neg (by decide +kernel)]; exact ⟨rfl, rfl⟩))
    (fun os started H enc _ => lifted os started H enc)

/-- THE STATEMENT: the tied card -/
theorem proved : Rows.SchemaWeighsCardSaid :=
  Claim7.holds_tied_plain_at .later [] [.data] true (true, "ae3a702f2f6b46f35e702762cf64c0b31451a748d9bb437461d021c1c071aae0") false
    over (fun _ h => by cases h) (by kernel_rfl) (fun _ h => by cases h) schemaWeighs_row_tie rfl ⟨rfl, rfl⟩ (by kernel_rfl) rfl
    (fun f fn hf hfn => by
      obtain rfl : f = 3 := Option.some.inj ((show Tryz.prog.funcNamed "avocet/avocetlaw10.SchemaWeighs" = some 3 by kernel_rfl).symm.trans hf) |>.symm
      obtain rfl : fn = Tryz.f3 := (Option.some.inj (Tryz.func3.symm.trans hfn)).symm
      exact ⟨by kernel_rfl, fun j t ht => by
        rw [Tryz.params3] at ht
        have hm : t ∈ [24] := by
          have := Array.mem_of_getElem? ht
          simpa using this
        have hall : ([24].all fun u => !Tryz.prog.wantsStandIn u) = true := by kernel_rfl
        exact (show Tryz.prog.wantsStandIn t = false by simpa using List.all_eq_true.1 hall t hm)⟩)
    (by kernel_rfl)
end Go.Proofs.YtmmffaelkoinlaaGreatDoor.schemaWeighs
