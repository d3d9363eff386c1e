/- The law EncodeParts: for every input the Go function returns true, and each argument reads behind the call as it read before. -/
import Derived.Test.YtmooihlndkgdaaaGreatDoorRows
import Derived.Test.YtmooihlndkgdaaaGreatDoorCards
import Derived.Test.YtmooihlndkgdaaaGreatDoorTie
import Derived.Test.YtmooihlndkgdaaaGreatDoorPkEncodePartsG
import Derived.Test.YtmooihlndkgdaaaGreatDoorPkEncodePartsA
import Derived.WalkKit
import Derived.ProofKit
import Derived.OpenShut
import Derived.ShutString
import Derived.ChangeOld
import Derived.Below
import Derived.SevenTiedAt
import Derived.LaidMore
import Derived.LaidLaws
import Derived.Stop.Joined
namespace Go.Proofs.YtmooihlndkgdaaaGreatDoor.encodeParts
open Go.ChangeShapes Go.WideShapes Go.ChangeAt Go.RowKit
set_option linter.unusedVariables false
set_option linter.unusedSimpArgs false

theorem own : ownKnob Tryz.prog.godebug = none := by kernel_rfl
theorem laidOut : laidOutB Tryz.prog = true := by kernel_rfl
theorem plain : plainB Tryz.prog [24, 22, 33, 30, 38, 29, 9, 3, 4, 36, 34, 2, 31, 43, 41, 39, 40, 5] = true := by kernel_rfl
theorem walk {x0 x1 x2 : AV} (m0 : TyAV Tryz.prog 24 x0) (m1 : TyAV Tryz.prog 3 x1) (m2 : TyAV Tryz.prog 43 x2) : Told Tryz.prog 8 [x0, x1, x2] (.c (.v (.bool true))) := by
  obtain ⟨s, rfl⟩ := arg_schema m0
  obtain ⟨a, _, rfl⟩ := arg_place m1
  obtain ⟨v, hv, rfl⟩ := arg_valueL m2
  exact encparts_told s a v hv

theorem door_met (os : Os) (args : Array Value) : laidMetH Tryz.prog [("avocet/naming.words", Rows.laid_avocet_naming_words)] ((World.doorLaid Tryz.prog 400 os).forCall (fun _ _ => 0) ⟨#[], args, []⟩).memory :=
  laidMetH_of_parts3 (fuel := 8) (laidMet_of_run' 8 (by kernel_rfl) (by kernel_rfl)) (by kernel_rfl) (by kernel_rfl)
set_option maxRecDepth 100000 in
theorem lifted (os : Os) (started : os.Started) (H : Type) (enc : TypeId × Value → H) :
    ReturnsInHanded {} Tryz.checked os 8 .any (fun w args => (Rows.encodePartsSpec.pre enc Tryz.prog Tryz.f8 Rows.encodePartsRow.domain false w args ∧ laidMetH Tryz.prog [("avocet/naming.words", Rows.laid_avocet_naming_words)] w) ∧ sizedMet enc Tryz.prog Tryz.f8 (OpenSpec.ofChange Rows.encodePartsSpec) false w args) (Rows.encodePartsSpec.post enc Tryz.prog Tryz.f8 false true false false) := by
  refine returnsInHanded_of_change_and (C := Tryz.checked) (X := fun w _ => laidMetH Tryz.prog [("avocet/naming.words", Rows.laid_avocet_naming_words)] w) (fun _ _ _ hh h => h.of_heap hh) own started (by kernel_rfl) Tryz.func8
    (ChangeSpec.witness_shaped (enc := enc) (C := Tryz.checked) (os := os) (X := fun w _ => laidMetH Tryz.prog [("avocet/naming.words", Rows.laid_avocet_naming_words)] w) false (World.doorLaid Tryz.prog 400 os) #[.agg #[.slice none 0 0, .int .i64 0], .int .i64 0, .agg #[.int .i64 0, .int .i64 0, .int .u64 0, .slice none 0 0, .slice none 0 0, .slice none 0 0]] 8 rfl (World.shaped_of_RefB (by kernel_rfl) (by kernel_rfl)) (by kernel_rfl) (by kernel_rfl) (by kernel_rfl) (door_met os _)) ?_
  intro W base args ds gs before hval0 hW hcnd _ hL _
  have hval : ∀ (j : Nat) t v, Tryz.f8.params[j]? = some t → args[j]? = some v → Value.okWide Tryz.prog W .any base t v := hval0
  have hW' := hW
  obtain ⟨p, q, hA0, hV, rfl, hfz, hnd⟩ := hW
  have hA : DataW.TrodAll enc Tryz.prog W 0 (fun _ => true) true Tryz.f8.params.toList args.toList ds p := hA0
  rw [Tryz.params8] at hA hval
  obtain ⟨v0, vs0, d0, ds0, p0, q0, hargs, rfl, rfl, h0, r0⟩ := trodAll_cons hA
  obtain ⟨v1, vs1, d1, ds1, p1, q1, rfl, rfl, rfl, h1, r1⟩ := trodAll_cons r0
  obtain ⟨v2, vs2, d2, ds2, p2, q2, rfl, rfl, rfl, h2, r2⟩ := trodAll_cons r1
  obtain ⟨rfl, rfl, rfl⟩ := trodAll_nil r2
  obtain rfl : args = #[v0, v1, v2] := by cases args; simp_all
  obtain ⟨rfl, rfl⟩ := trodVars_none hV
  have lt0 : ∀ x ∈ p0, x.block < W.heap.size := by obtain ⟨m, hm⟩ := h0; exact DataW.trod_lt m _ _ _ hm
  obtain ⟨x0, m0, g0⟩ := open_arg plain (by decide) (hval 0 24 v0 rfl rfl) h0
  have lt1 : ∀ x ∈ p1, x.block < W.heap.size := by obtain ⟨m, hm⟩ := h1; exact DataW.trod_lt m _ _ _ hm
  obtain ⟨x1, m1, g1⟩ := open_arg plain (by decide) (hval 1 3 v1 rfl rfl) h1
  have lt2 : ∀ x ∈ p2, x.block < W.heap.size := by obtain ⟨m, hm⟩ := h2; exact DataW.trod_lt m _ _ _ hm
  obtain ⟨x2, m2, g2⟩ := open_arg plain (by decide) (hval 2 43 v2 rfl rfl) h2
  clear hA0 hval0
  refine (law_toldG (gok_words hL) (walk m0 m1 m2) (vs := [v0, v1, v2]) rfl (reps_cons g0 (reps_cons g1 (reps_cons g2 reps_nil)))).mono fun e W' ⟨he, bel⟩ => ?_
  subst he
  exact ⟨_, rfl, _, _, _, [], _, [], hW', trodAll_mk1 (shut_bool Tryz.underlying4 _), (trodAll_cons_mk (Below.trod laidOut (by kernel_rfl) (of_decide_eq_true (by kernel_rfl)) h0 bel lt0) (trodAll_cons_mk (Below.trod laidOut (by kernel_rfl) (of_decide_eq_true (by kernel_rfl)) h1 bel lt1) (trodAll_cons_mk (Below.trod laidOut (by kernel_rfl) (of_decide_eq_true (by kernel_rfl)) h2 bel lt2) trodAll_mk0))), rfl, bel.frame _, fun h => by cases h⟩

theorem over : Rows.encodePartsRow.holds Tryz.pinned (OpenSpec.ofChange Rows.encodePartsSpec) :=
  OpenClaim.holds_of_wide 8 Tryz.f8 rfl rfl rfl rfl rfl rfl rfl ⟨rfl, rfl, rfl, rfl, rfl⟩ rfl rfl rfl rfl rfl (by kernel_rfl) Tryz.func8 (by kernel_rfl)
    (of_decide_eq_true (by kernel_rfl)) (by unfold Func.isWrapper; first | (rw [if_pos (by decide +kernel)]; kernel_rfl) | (rw [if_neg (by decide +kernel)]; exact ⟨rfl, rfl⟩))
    (fun os started H enc _ => lifted os started H enc)

/-- THE STATEMENT: the tied card -/
theorem proved : Rows.EncodePartsCardSaid :=
  Claim7.holds_tied_plain_at .later [] [.data] true (true, "70f41708a427ca8c052c85b764194aa6b5b313ac294053cbe9082684b27345c4") false
    over (fun _ h => by cases h) (by kernel_rfl) (fun _ h => by cases h) encodeParts_row_tie rfl ⟨rfl, rfl⟩ (by kernel_rfl) rfl
    (fun f fn hf hfn => by
      obtain rfl : f = 8 := Option.some.inj ((show Tryz.prog.funcNamed "avocet/avocetlaw18.EncodeParts" = some 8 by kernel_rfl).symm.trans hf) |>.symm
      obtain rfl : fn = Tryz.f8 := (Option.some.inj (Tryz.func8.symm.trans hfn)).symm
      exact ⟨by kernel_rfl, fun j t ht => by
        rw [Tryz.params8] at ht
        have hm : t ∈ [3, 24, 43] := by
          have := Array.mem_of_getElem? ht
          first | (simpa using this) | (simp at this ⊢; rcases this with h | h <;> simp [h]) | (simp at this ⊢; rcases this with h | h | h <;> simp [h]) | (simp at this ⊢; rcases this with h | h | h | h <;> simp [h])
        have hall : ([3, 24, 43].all fun u => !Tryz.prog.wantsStandIn u) = true := by kernel_rfl
        exact (show Tryz.prog.wantsStandIn t = false by simpa using List.all_eq_true.1 hall t hm)⟩)
    (by kernel_rfl)
end Go.Proofs.YtmooihlndkgdaaaGreatDoor.encodeParts
