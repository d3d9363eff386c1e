/- Texts that lead to the law DfltValues, joined. -/
import Derived.Test.YtkaogeogjjcdhaaGreatDoorRows
import Derived.Test.YtkaogeogjjcdhaaGreatDoorPkDfltValuesB
import Derived.Test.YtkaogeogjjcdhaaGreatDoorPkDfltValuesF
import Derived.MakeChecks
import Derived.LaidMore
import Derived.OpenShut
namespace Go.Proofs.YtkaogeogjjcdhaaGreatDoor
open Go.RowKit
set_option linter.unusedVariables false
set_option linter.unusedSimpArgs false
section

theorem gWords : Tryz.prog.globalNamed "avocet/naming.words" = some 0 := by kernel_rfl
theorem tWords : (Tryz.prog.globals[0]?).map (·.type) = some 264 := by kernel_rfl
theorem uWords : Tryz.prog.underlying 264 = some (.array 15 9) := by kernel_rfl
theorem cWords : Tryz.prog.cellsOf 9 = 1 := by kernel_rfl
theorem onlyWords : ((List.range Tryz.prog.globals.size).all fun g => g == 0 || (glob Tryz.prog g).isNone) = true := by kernel_rfl
theorem globWords : glob Tryz.prog 0 = some (kwords.map fun w => PV.v (.string (str w))) := by kernel_rfl
theorem words_cells {W : World} (h : laidMetH Tryz.prog [("avocet/naming.words", Rows.laid_avocet_naming_words)] W) :
    ∃ cs : Array Value, (∀ i, W.cell? ⟨0, i, none⟩ = cs[i]?) ∧ cs.size = 15 ∧ ∀ (i : Nat) (w : List UInt8), kwords[i]? = some w → cs[i]? = some (.string (str w)) := by
  rw [MakeChecks.laidMetH_plain _ _ _ (by kernel_rfl)] at h
  obtain ⟨ps, ⟨g0, t0, cs0, f0, p0, q0, hg0, ht0, hv0, hd0, _, _⟩, _, _⟩ := h
  obtain rfl := Option.some.inj (gWords.symm.trans hg0)
  obtain rfl := Option.some.inj (tWords.symm.trans ht0)
  obtain ⟨xs, m1, rfl, hx1, hlen, hn15, hel⟩ := DataW.trod_array uWords hd0
  simp only [Rows.laid_avocet_naming_words, Prod.mk.injEq, DataW.agg.injEq] at hx1
  have hx2 : kwords.map (fun w => (DataW.lit (.string w) : DataW Unit)) = xs.map (·.1) := hx1.1
  have hat : ∀ i, i < 15 → ∃ s : ByteArray, cs0[i]? = some (.string s) ∧ ∃ x, xs[i]? = some x ∧ x.1 = .lit (.string s.data.toList) := by
    intro i hi
    obtain ⟨x, hx⟩ : ∃ x, xs[i]? = some x := ⟨xs[i]'(by omega), List.getElem?_eq_getElem (by omega)⟩
    have h1 := hel i hi
    rw [hx] at h1
    obtain ⟨s, e1, e2, _⟩ := DataW.trod_string Tryz.underlying9 h1
    rw [cWords, Nat.mul_one] at e1
    refine ⟨s, ?_, x, hx, by rw [e2]⟩
    have h2 : (cs0.toList.drop i)[0]? = some (.string s) := by
      have h3 : ((cs0.toList.drop i).take 1)[0]? = some (.string s) := by rw [e1]; rfl
      rwa [List.getElem?_take_of_lt (by decide)] at h3
    rw [List.getElem?_drop, Nat.add_zero] at h2
    simpa using h2
  refine ⟨cs0, fun i => World.var?_cell hg0 hv0 i, ?_, fun i w hw => ?_⟩
  · have := hlen
    rw [show Tryz.prog.cellsOf 264 = 15 by kernel_rfl] at this
    simpa using this
  · have hi : i < 15 := (List.getElem?_eq_some_iff.1 hw).1
    obtain ⟨s, h1, x, h2, h3⟩ := hat i hi
    have h4 : (xs.map (·.1))[i]? = some (.lit (.string w)) := by rw [← hx2, List.getElem?_map, hw]; rfl
    rw [List.getElem?_map, h2] at h4
    have h5 : x.1 = .lit (.string w) := Option.some.inj h4
    rw [h3] at h5
    have h6 : s.data.toList = w := Lit.string.inj (DataW.lit.inj h5)
    have h7 : s = str w := by
      apply ByteArray.ext
      rw [← h6]
      show s.data = s.data.toList.toArray
      exact (Array.toArray_toList).symm
    rw [h1, h7]
theorem gok_words {W : World} (h : laidMetH Tryz.prog [("avocet/naming.words", Rows.laid_avocet_naming_words)] W) : GOk Tryz.prog W (fun k => k < W.heap.size) := by
  obtain ⟨cs, h1, h2, h3⟩ := words_cells h
  intro g cells hc
  have hg : g = 0 := by
    by_cases hlt : g < Tryz.prog.globals.size
    · have := List.all_eq_true.1 onlyWords g (List.mem_range.2 hlt)
      rw [hc] at this
      simpa using this
    · unfold glob at hc
      rw [Array.getElem?_eq_none (by omega)] at hc
      simp at hc
  subst hg
  rw [globWords] at hc
  obtain rfl := Option.some.inj hc
  refine ⟨?_, cs.toList, fun j hj => ?_, ⟨by simp [h2, kwords], fun j p v hp hv => ?_⟩⟩
  · have h4 := h1 0
    rw [h3 0 [] rfl] at h4
    by_cases hlt : 0 < W.heap.size
    · exact hlt
    · unfold World.cell? at h4
      simp only [] at h4
      rw [Array.getElem?_eq_none (by omega)] at h4
      simp at h4
  · rw [Nat.zero_add, h1 j]
    simp
  · rw [List.getElem?_map] at hp
    cases hw : kwords[j]? with
    | none => rw [hw] at hp; simp at hp
    | some w =>
      rw [hw] at hp
      obtain rfl := Option.some.inj hp
      have h5 := h3 j w hw
      rw [Array.getElem?_toList] at hv
      rw [h5] at hv
      obtain rfl := Option.some.inj hv
      exact .v rfl
section
variable {P : Program} {w : World}
theorem law_toldG (hg : GOk P w (fun k => k < w.heap.size)) {f : FuncId} {args : List AV} (hT : Told P f args (.c (.v (.bool true)))) {vs : List Value} (hl : vs.length = args.length) (hr : ∀ (j : Nat) (x : AV) (v : Value), args[j]? = some x → vs[j]? = some v → Rep w (fun b => b < w.heap.size) φ0 h0 x v) :
    Calls P f vs.toArray w fun e W' => e = .returned (.bool true) ∧ Below w.heap.size w W' := by
  refine (hT.2 w (fun k => k < w.heap.size) vs (fun _ h => h) hg ⟨hl, hr⟩).mono ?_
  rintro e W' ⟨v, ro', rfl, hb, _, _, hr, _⟩
  obtain rfl := rep_prim hr
  exact ⟨rfl, hb⟩
end
end
end Go.Proofs.YtkaogeogjjcdhaaGreatDoor
