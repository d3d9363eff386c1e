/- A pure slice against nil: two ways where it has no elements. -/
import Derived.Test.YtmmffaelkoinlaaGreatDoorAbB
namespace Go.Proofs.YtmmffaelkoinlaaGreatDoor
open Go.RowKit
set_option linter.unusedVariables false
set_option linter.unusedSimpArgs false

section
variable {P : Program} {N : Nat} {Q : Exit → ASt → Prop} {id : Nat} {o1 o2 : Oper} {t : Nat → AV} {h : Nat → Option Blkd} {n d1 d2 : Nat}
theorem eval_put {a : Act} {v : Value} (h : d1 < a.tmps.size) : (a.put (some d1) v).eval (.tmp d1) = v := by
  show (a.tmps.setIfInBounds d1 v).getD d1 undef = v
  simp [Array.getD, h]
theorem VC.nilq (ty ty' : TypeId) (x : Operand) (T : TyA) (z : Nat) (es : List (List PV)) (ho1 : o1.op = .move x) (hg1 : o1.guard = none) (hd1 : o1.dst = some d1)
    (ho2 : o2.op = .binOp .eql ty (.tmp d1) (.const (.slice none 0 0)) ty') (hg2 : o2.guard = none) (hd2 : o2.dst = some d2) (hx : okx t x) (ex : ev t x = .c (.sl z es)) (hT : tyA P ty = some T) (hk : T.kind = 1)
    (hd : dstOk [o1, o2].toArray N = true) (hL : Nat.ble (n + 8 * [o1, o2].length) L0 = true)
    (H : ∀ b : Bool, (es ≠ [] → b = false) → Q .normal ⟨putd (some d2) (.c (.v (.bool b))) (putd (some d1) (.c (.sl z es)) t), h, n + 8 * [o1, o2].length⟩) : VC P N (.region id [o1, o2].toArray false) ⟨t, h, n⟩ Q := ⟨fun C a W r => by
  obtain ⟨ro, φ, r⟩ := r
  have hdo := dst_of hd
  have hdn : d1 < N := hdo o1 (by simp) d1 hd1
  refine wp_region_list (wpList_step fun K hK => ?_)
  rw [if_pos (show Region.wanted o1 _ = true by unfold Region.wanted; rw [hg1])]
  have hrx := ev_rep r x hx
  have hsx := ev_sc r x hx
  rw [ex] at hrx hsx
  generalize hv : a.eval x = v at hrx
  have r1 := r.put (d := some d1) hrx hsx (fun k hk => by obtain rfl := Option.some.inj hk; exact hdn)
  have he1 : (a.put (some d1) v).eval (.tmp d1) = v := eval_put (by rw [r.size]; exact hdn)
  have hex1 : (execOp a.eval o1).run P W = .ok (.value v) W := by simp [execOp, ho1, hv]
  unfold Oper.wp
  rw [hex1]
  show K (a.put o1.dst v) W
  rw [hd1]
  refine hK _ _ (wpList_step fun K2 hK2 => ?_)
  rw [if_pos (show Region.wanted o2 _ = true by unfold Region.wanted; rw [hg2])]
  obtain ⟨d, i, a1, a2, rfl⟩ := tyA_some hT
  obtain ⟨e, rfl⟩ := kind_slice hk
  obtain ⟨b, hb, hrun⟩ : ∃ b : Bool, (es ≠ [] → b = false) ∧ (execOp (a.put (some d1) v).eval o2).run P W = .ok (.value (.bool b)) W := by
    cases hrx with
    | c hp =>
    cases hp with
    | @sl _ _ aa c vss hn hc hnil ha hvl hz1 hz2 hxx =>
      refine ⟨aa.isNone, fun hne => ?_, ?_⟩
      · obtain ⟨b, off, rfl, _⟩ := ha hne
        rfl
      · have he : (Op.equal ty (.slice aa es.length c) (.slice none 0 0)).run P W = .ok aa.isNone W := by
          show (Op.equalIn (9999 + 1) ty _ _).run P W = _
          rw [Op.equalIn]
          cases aa <;> simp [run_underlying a1]
        have hg : (eqGuard .eql ty (.tmp d1) (.const (.slice none 0 0)) (.slice aa es.length c) (.slice none 0 0)).run P W = .ok () W := by simp [eqGuard]
        have hn0 : (a.put (some d1) (.slice aa es.length c)).eval (.const (.slice none 0 0)) = .slice none 0 0 := rfl
        simp [execOp, ho2, he1, hn0, hg, binOp, he]
  have r2 := r1.put (d := some d2) (x := .c (.v (.bool b))) (v := .bool b) (.c (.v rfl)) .c (fun k hk => by obtain rfl := Option.some.inj hk; exact hdo o2 (by simp) _ hd2)
  unfold Oper.wp
  rw [hrun]
  show K2 ((a.put (some d1) v).put o2.dst (.bool b)) W
  rw [hd2]
  refine hK2 _ _ (wpList_nil ?_)
  refine ⟨_, H b hb, ro, φ, r2.take fun j hj => ?_⟩
  simp only [List.length_cons, List.length_nil] at hj ⊢
  unfold Used at hj ⊢
  omega⟩
end

end Go.Proofs.YtmmffaelkoinlaaGreatDoor
