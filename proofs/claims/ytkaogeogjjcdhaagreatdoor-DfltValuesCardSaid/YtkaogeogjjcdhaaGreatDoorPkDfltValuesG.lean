/- Texts that lead to the law DfltValues, joined. -/
import Derived.Test.YtkaogeogjjcdhaaGreatDoorPkDfltValuesF
import Derived.Test.YtkaogeogjjcdhaaGreatDoorPkDfltValuesA
import Derived.Test.YtkaogeogjjcdhaaGreatDoorPkDfltValuesE
import Derived.Test.YtkaogeogjjcdhaaGreatDoorPkDfltValuesC
import Derived.Test.YtkaogeogjjcdhaaGreatDoorPkDfltValuesB
import Derived.Test.YtkaogeogjjcdhaaGreatDoorPkDfltValuesD
namespace Go.Proofs.YtkaogeogjjcdhaaGreatDoor
open Go.RowKit
set_option linter.unusedVariables false
set_option linter.unusedSimpArgs false

theorem drop_cut {α : Type} (l : List α) (o k : Nat) : l.drop o = (l.drop o).take k ++ l.drop (o + k) := by rw [← List.drop_drop, List.take_append_drop]
theorem ty_ints {ps : List PV} (h : TyPV Tryz.prog 31 ps) : ∃ ns : List Int, ps = [.sl 1 (ns.map iPV)] := by
  obtain ⟨es, rfl, hx⟩ := ty_sl h Tryz.underlying31
  rw [cells_of tyA_3]
  obtain ⟨ns, rfl⟩ := list_map (f := iPV) fun q hq => by
    obtain ⟨n, rfl, _⟩ := ty_int (hx q hq) Tryz.underlying3
    exact ⟨n, rfl⟩
  exact ⟨ns, rfl⟩
theorem ty_field {ps : List PV} (h : TyPV Tryz.prog 38 ps) : ∃ f : FT, ps = f.cells := by
  obtain ⟨hl, hf⟩ := ty_fields h tyA_38 rfl
  obtain ⟨a, h0, _⟩ := ty_str (hf 0 _ _ rfl _ tyA_9) Tryz.underlying9
  obtain ⟨b, h1⟩ := ty_strs (hf 1 _ _ rfl _ tyA_29)
  obtain ⟨c, h2, _⟩ := ty_int (hf 2 _ _ rfl _ tyA_3) Tryz.underlying3
  obtain ⟨d, h3⟩ := ty_bool (hf 3 _ _ rfl _ tyA_4) Tryz.underlying4
  obtain ⟨e, _, h4⟩ := (ty_json (hf 4 _ _ rfl _ tyA_36)).1 rfl
  have e0 : ps = (ps.drop 0).take 1 ++ ps.drop 1 := drop_cut ps 0 1
  have e1 : ps.drop 1 = (ps.drop 1).take 1 ++ ps.drop 2 := drop_cut ps 1 1
  have e2 : ps.drop 2 = (ps.drop 2).take 1 ++ ps.drop 3 := drop_cut ps 2 1
  have e3 : ps.drop 3 = (ps.drop 3).take 1 ++ ps.drop 4 := drop_cut ps 3 1
  have e4 : ps.drop 4 = (ps.drop 4).take 5 := (List.take_of_length_le (by rw [List.length_drop, hl]; decide)).symm
  exact ⟨⟨a, b, c, d, e⟩, e0.trans (by rw [h0, e1, h1, e2, h2, e3, h3, e4, h4]; rfl)⟩
theorem ty_fieldsL {ps : List PV} (h : TyPV Tryz.prog 30 ps) : ∃ fs : List FT, ps = [.sl 9 (fs.map FT.cells)] := by
  obtain ⟨es, rfl, hx⟩ := ty_sl h Tryz.underlying30
  rw [cells_of tyA_38]
  obtain ⟨ns, rfl⟩ := list_map (f := FT.cells) fun q hq => ty_field (hx q hq)
  exact ⟨ns, rfl⟩
theorem ty_node {ps : List PV} (h : TyPV Tryz.prog 33 ps) : ∃ n : NT, ps = n.cells := by
  obtain ⟨hl, hf⟩ := ty_fields h tyA_33 rfl
  obtain ⟨a0, h0, _⟩ := ty_int (hf 0 _ _ rfl _ tyA_3) Tryz.underlying3
  obtain ⟨a1, h1, _⟩ := ty_str (hf 1 _ _ rfl _ tyA_9) Tryz.underlying9
  obtain ⟨a2, h2⟩ := ty_strs (hf 2 _ _ rfl _ tyA_29)
  obtain ⟨a3, h3⟩ := ty_fieldsL (hf 3 _ _ rfl _ tyA_30)
  obtain ⟨a4, h4⟩ := ty_strs (hf 4 _ _ rfl _ tyA_29)
  obtain ⟨a5, h5⟩ := ty_bool (hf 5 _ _ rfl _ tyA_4) Tryz.underlying4
  obtain ⟨a6, h6, _⟩ := ty_str (hf 6 _ _ rfl _ tyA_9) Tryz.underlying9
  obtain ⟨a7, h7, _⟩ := ty_int (hf 7 _ _ rfl _ tyA_3) Tryz.underlying3
  obtain ⟨a8, h8, _⟩ := ty_int (hf 8 _ _ rfl _ tyA_3) Tryz.underlying3
  obtain ⟨a9, h9⟩ := ty_ints (hf 9 _ _ rfl _ tyA_31)
  have e0 : ps = (ps.drop 0).take 1 ++ ps.drop 1 := drop_cut ps 0 1
  have e1 : ps.drop 1 = (ps.drop 1).take 1 ++ ps.drop 2 := drop_cut ps 1 1
  have e2 : ps.drop 2 = (ps.drop 2).take 1 ++ ps.drop 3 := drop_cut ps 2 1
  have e3 : ps.drop 3 = (ps.drop 3).take 1 ++ ps.drop 4 := drop_cut ps 3 1
  have e4 : ps.drop 4 = (ps.drop 4).take 1 ++ ps.drop 5 := drop_cut ps 4 1
  have e5 : ps.drop 5 = (ps.drop 5).take 1 ++ ps.drop 6 := drop_cut ps 5 1
  have e6 : ps.drop 6 = (ps.drop 6).take 1 ++ ps.drop 7 := drop_cut ps 6 1
  have e7 : ps.drop 7 = (ps.drop 7).take 1 ++ ps.drop 8 := drop_cut ps 7 1
  have e8 : ps.drop 8 = (ps.drop 8).take 1 ++ ps.drop 9 := drop_cut ps 8 1
  have e9 : ps.drop 9 = (ps.drop 9).take 1 := (List.take_of_length_le (by rw [List.length_drop, hl]; decide)).symm
  exact ⟨⟨a0, a1, a2, a3, a4, a5, a6, a7, a8, a9⟩, e0.trans (by rw [h0, e1, h1, e2, h2, e3, h3, e4, h4, e5, h5, e6, h6, e7, h7, e8, h8, e9, h9]; rfl)⟩
theorem arg_schema {x : AV} (h : TyAV Tryz.prog 24 x) : ∃ s : ST, x = s.av := by
  obtain ⟨ps, h1, h2⟩ := h
  obtain ⟨hl, hf⟩ := ty_fields h1 tyA_24 rfl
  obtain ⟨es, h3, hx⟩ := ty_sl (hf 0 _ _ rfl _ tyA_22) Tryz.underlying22
  rw [cells_of tyA_33] at h3
  obtain ⟨ns, rfl⟩ := list_map (f := NT.cells) fun q hq => ty_node (hx q hq)
  obtain ⟨r, h4, _⟩ := ty_int (hf 1 _ _ rfl _ tyA_3) Tryz.underlying3
  have e0 : ps = (ps.drop 0).take 1 ++ ps.drop 1 := drop_cut ps 0 1
  have e1 : ps.drop 1 = (ps.drop 1).take 1 := (List.take_of_length_le (by rw [List.length_drop, hl]; decide)).symm
  have hp : ps = (ST.mk ns r).cells := e0.trans (by rw [h3, e1, h4]; rfl)
  subst hp
  rcases h2 with ⟨_, rfl⟩ | ⟨h2, _⟩
  · exact ⟨_, rfl⟩
  · exact absurd Tryz.underlying24 (h2 _)
section
attribute [local go_sem] opx opE ev okx gcond bnd okO AV.get AV.okb cAV upd_at putd_some putd_none wrs_nil wrs_cons look_nil look_cons st argT_at bpick_and bpick_or bpick_true bpick_false binV binI binS binVOk binOk isShift binSOk unV unVOk loadV loadP cellsA zeroA Blkd.len setE grown moreA moreR moreOk eqRes pv fillA fillE putSeg AV.cellish AV.pureL AV.pureB lentL_is ex_some AV.ren AV.renL renL_c Blkd.ren rho wrM renN lentOk rhoE keepM endOk tyA_2 tyA_3 tyA_4 tyA_5 tyA_6 tyA_7 tyA_8 tyA_9 tyA_10 tyA_11 tyA_12 tyA_13 tyA_14 tyA_15 tyA_16 tyA_17 tyA_18 tyA_19 tyA_21 tyA_22 tyA_23 tyA_24 tyA_29 tyA_30 tyA_31 tyA_32 tyA_33 tyA_34 tyA_35 tyA_36 tyA_37 tyA_38 tyA_39 tyA_40 tyA_41 tyA_42 tyA_43 tyA_48 tyA_89 tyA_93 tyA_107 tyA_108 tyA_109 tyA_113 tyA_114 tyA_115 tyA_116 tyA_117 tyA_119 tyA_120 tyA_121 tyA_122 tyA_131 tyA_134 tyA_135 tyA_136 tyA_137 tyA_138 tyA_154 tyA_156 tyA_157 tyA_158 tyA_159 tyA_170 tyA_180 tyA_181 tyA_182 tyA_196 tyA_202 tyA_208 tyA_209 tyA_210 tyA_211 tyA_212 tyA_213 tyA_229 tyA_230 tyA_231 tyA_241 tyA_264 tyA_268 tyA_293 tyA_294 tyA_295 tyA_311 tyA_313 tyA_321 tyA_326 tyA_334 tyA_338 tyA_340 tyA_343 tyA_344 tyA_345 tyA_346 tyA_347 tyA_348 tyA_349 tyA_351 tyA_352 Option.map_some Option.map_none Option.getD_some Option.getD_none Option.bind_some Option.bind_none List.getElem?_cons_zero List.getElem?_cons_succ List.getElem?_nil List.getElem?_toArray List.length_cons List.length_nil List.length_map List.forall_mem_map List.map_cons List.map_nil List.drop_zero List.drop_succ_cons List.drop_nil List.take_zero List.take_succ_cons List.take_nil List.mem_cons List.not_mem_nil or_false forall_eq_or_imp forall_eq List.set_cons_zero List.set_cons_succ List.cons_append List.nil_append List.append_nil List.foldl_cons List.foldl_nil List.replicate_succ List.replicate_zero List.all_cons List.all_nil if_true if_false Bool.false_eq_true ne_eq not_false_eq_true not_true_eq_false true_and and_true and_self true_implies imp_self implies_true forall_const beq_self_eq_true Bool.and_true Bool.true_and Bool.and_false Bool.false_and Bool.or_true Bool.true_or Bool.or_false Bool.false_or Bool.not_true Bool.not_false Bool.not_eq_eq_eq_not intKindOf Value.oneCell' Int.toNat_natCast beq_true beq_false Bool.not_eq_true false_implies false_or true_or or_true Nat.zero_add Nat.add_zero decide_true decide_false Int.cast_ofNat_Int Int.toNat_zero Int.toNat_one eq_self

noncomputable def ceq {α : Type} (a b : α) : Bool := @decide (a = b) (Classical.propDecidable _)
theorem ceq_iff {α : Type} (a b : α) : ceq a b = true ↔ a = b := by simp [ceq]
theorem ceq_false {α : Type} (a b : α) : ceq a b = false ↔ a ≠ b := by simp [ceq]
theorem ceq_self {α : Type} (a : α) : ceq a a = true := (ceq_iff a a).2 rfl

theorem cellish_map (l : List PV) : ∀ x ∈ l.map AV.c, x.cellish = true := fun x hx => by
  obtain ⟨p, _, rfl⟩ := List.mem_map.1 hx
  rfl
end

theorem ssm_le' {s : ST} (h : s.sm 2500) : s.sm 1000000 := by
  obtain ⟨h1, h2⟩ := h
  refine ⟨by omega, fun n hn => ?_⟩
  obtain ⟨a1, a2, ⟨a3, a4⟩, ⟨a5, a6⟩, a7, a8, a9⟩ := h2 n hn
  refine ⟨by omega, by omega, ⟨by omega, fun y hy => by have := a4 y hy; omega⟩, ⟨by omega, fun y hy => by have := a6 y hy; omega⟩, by omega, by omega, fun f hf => ?_⟩
  obtain ⟨b1, b2, b3, b4⟩ := a9 f hf
  exact ⟨by omega, by omega, fun y hy => by have := b3 y hy; omega, sm_le (by omega) _ b4⟩

def ST.inr (s : ST) : Prop := ∀ n ∈ s.nodes, ∀ f ∈ n.fields, f.dflt.inr
theorem right_say {s : ST} (hs : s.sm 1000000) (hi : s.inr) (hr : rightM s = true) : SayOk s.nodes := by
  refine ⟨hs.1, fun n hn => ?_⟩
  have hN := right_nodes hr n hn
  have hk := ordered_kids (right_ordered hr) n hn
  unfold nodeM at hN
  simp only [Bool.and_eq_true, decide_eq_true_eq] at hN
  obtain ⟨⟨k1, k2, _⟩, _, hK⟩ := hN
  refine ⟨hs.2 n hn, ⟨k1, k2⟩, hk, fun h9 f hf hh => ?_, fun h13 => ?_⟩
  · rw [if_pos h9] at hK
    unfold fieldsM at hK
    simp only [Bool.and_eq_true] at hK
    have := List.all_eq_true.1 hK.1 f hf
    unfold fieldM at this
    rw [hh, if_pos rfl, Bool.and_eq_true, jR_shape, Bool.and_eq_true] at this
    exact ⟨this.2.2, hi n hn f hf, ((hs.2 n hn).2.2.2.2.2.2 f hf).2.2.2⟩
  · rw [if_neg (by omega), if_neg (by omega), if_neg (by omega), if_pos h13] at hK
    unfold unionM at hK
    simp only [Bool.and_eq_true, decide_eq_true_eq] at hK
    exact ⟨n.branches[0]'(by omega), List.getElem?_eq_getElem _⟩
theorem leaf_inr (n : NT) {j : JT} (hj : rshape j = true) (hi : j.inr) : (leafS n j).1.inr := by
  obtain ⟨_, _, i1, i2⟩ := rshape_acc hj hi
  have hf := fltM_lt _ i1 i2
  have hd := dblM_lt _ i1 i2
  have hz : ∀ (k m : Int) (b : List UInt8), (VT.mk k m 0 b [] []).inr := fun k m b => ⟨by omega, trivial⟩
  unfold leafS numS textS
  repeat' split
  all_goals first
    | exact hz _ _ _
    | exact ⟨⟨by omega, by omega⟩, trivial⟩
mutual
theorem isM_sm (ns : List NT) : ∀ (v : VT) (a : Int), v.inr → isM ns a v = true → v.sm 1000000
  | .mk k n b s xs ks, a, hi, h => by
    simp only [VT.inr] at hi
    cases hn : ns[a.toNat]? with
    | none => rw [isM, hn] at h; simp at h
    | some nd =>
      rw [isM_eq hn, Bool.and_eq_true] at h
      have hx := eachM_sm ns xs (itemAt nd n) hi.2 h.2
      have hh := h.1
      unfold headM vbare at hh
      simp only [Bool.and_eq_true, Bool.or_eq_true, beq_iff_eq, decide_eq_true_eq, List.isEmpty_iff] at hh
      obtain ⟨⟨hk, ⟨_, _, _, h4, h5⟩, hs⟩, hc⟩ := hh
      refine ⟨hi.1, by omega, ?_, ?_, ?_, hx⟩
      · by_cases e : k = 12
        · subst e
          simp only [Int.reduceEq, if_false, if_true, Bool.and_eq_true, beq_iff_eq, decide_eq_true_eq] at hc
          omega
        · have := h5.resolve_left e
          rw [this]; simp
      · by_cases e : k = 12
        · subst e
          simp only [Int.reduceEq, if_false, if_true, Bool.and_eq_true, beq_iff_eq, decide_eq_true_eq] at hc
          intro y hy
          have := List.all_eq_true.1 hc.1.2 y hy
          unfold keyM at this
          simp only [Bool.and_eq_true, decide_eq_true_eq] at this
          omega
        · have := h5.resolve_left e
          rw [this]; simp
      · rcases h4 with (((e | e) | e) | e) | e
        · subst e
          simp only [Int.reduceEq, if_false, if_true, Bool.and_eq_true, beq_iff_eq, decide_eq_true_eq] at hc
          omega
        · subst e
          simp only [Int.reduceEq, if_false, if_true, Bool.and_eq_true, beq_iff_eq, decide_eq_true_eq] at hc
          omega
        · subst e
          simp only [Int.reduceEq, if_false, if_true, Bool.and_eq_true, beq_iff_eq, decide_eq_true_eq] at hc
          omega
        · subst e
          simp only [Int.reduceEq, if_false, if_true, Bool.and_eq_true, beq_iff_eq, decide_eq_true_eq] at hc
          omega
        · omega
theorem eachM_sm (ns : List NT) : ∀ (xs : List VT) (f : Nat → Int), VT.inrL xs → eachM ns f xs = true → VT.smL 1000000 xs
  | [], f, _, _ => trivial
  | x :: xs, f, hi, h => by
    rw [eachM, Bool.and_eq_true] at h
    exact ⟨isM_sm ns x _ hi.1 h.1, eachM_sm ns xs _ hi.2 h.2⟩
end
theorem say_inr {ns : List NT} (hD : DfOk ns) : ∀ (d : Nat) (a : Int) (j : JT) (c : Nat), rshape j = true → j.inr → (sayM ns d a j c).1.inr := by
  have hz : ∀ k : Int, (vz k).inr := fun k => ⟨by omega, trivial⟩
  have key : ∀ (f : Say), (∀ a j c, rshape j = true → j.inr → (f a j c).1.inr) → ∀ (n : NT), n ∈ ns → ∀ (j : JT) (c : Nat), rshape j = true → j.inr → (compS f n j c).1.inr := by
    intro f hf n hn j c hj hi
    have hits : ∀ x ∈ j.its, rshape x = true ∧ x.inr := by
      cases j with
      | mk k m s ks xs => exact fun x hx => ⟨(rshape_parts hj).2.2.2.2 x hx, jinr_mem hi x hx⟩
    have hitsF : ∀ (a : Int) (js : List JT), (∀ x ∈ js, rshape x = true ∧ x.inr) → ∀ (c : Nat) (vs : List VT), (itsF f a js c).1 = some vs → VT.inrL vs := by
      intro a js
      induction js with
      | nil =>
        intro _ c vs h
        rw [itsF] at h
        obtain rfl := Option.some.inj h
        trivial
      | cons x xs ih =>
        intro hx c vs h
        rw [itsF] at h
        split at h
        · cases hr : (itsF f a xs (f a x c).2.2).1 with
          | none => rw [hr] at h; simp at h
          | some us =>
            rw [hr] at h
            simp only [Option.map_some, Option.some.injEq] at h
            subst h
            exact ⟨hf _ _ _ (hx x (by simp)).1 (hx x (by simp)).2, ih (fun y hy => hx y (by simp [hy])) _ us hr⟩
        · simp at h
    have hitm : ∀ (a : Int) (c : Nat), VT.inrL ((itemsF f a j c).1.getD []) := by
      intro a c
      unfold itemsF
      split
      · trivial
      · cases hr : (itsF f a j.its c).1 with
        | none => trivial
        | some vs => exact hitsF a j.its hits c vs hr
    unfold compS
    by_cases h9 : n.kind = 9
    · rw [if_pos h9]
      have hrec : ∀ (fs : List FT), (∀ x ∈ fs, x ∈ n.fields) → ∀ (c : Nat) (vs : List VT), (recF f j fs c).1 = some vs → VT.inrL vs := by
        intro fs
        induction fs with
        | nil =>
          intro _ c vs h
          rw [recF] at h
          obtain rfl := Option.some.inj h
          trivial
        | cons x xs ih =>
          intro hx c vs h
          rw [recF] at h
          cases hF : fieldJ j x with
          | none => rw [hF] at h; simp at h
          | some i =>
            rw [hF] at h
            simp only [] at h
            split at h
            · cases hr : (recF f j xs (f x.type i c).2.2).1 with
              | none => rw [hr] at h; simp at h
              | some us =>
                rw [hr] at h
                simp only [Option.map_some, Option.some.injEq] at h
                subst h
                obtain ⟨q1, q2⟩ := fieldJ_ok hD hn h9 (hx x (by simp)) hj hi hF
                exact ⟨hf _ _ _ q1 q2, ih (fun y hy => hx y (by simp [hy])) _ us hr⟩
            · simp at h
      refine ⟨by omega, ?_⟩
      cases hr : (recF f j n.fields c).1 with
      | none => trivial
      | some vs => exact hrec n.fields (fun x hx => hx) c vs hr
    rw [if_neg h9]
    by_cases h11 : n.kind = 11
    · rw [if_pos h11]
      exact ⟨by omega, hitm _ _⟩
    rw [if_neg h11]
    by_cases h12 : n.kind = 12
    · rw [if_pos h12]
      exact ⟨by omega, hitm _ _⟩
    rw [if_neg h12]
    cases hb : n.branches[0]? with
    | none => exact hz _
    | some b => exact ⟨by omega, hf _ _ _ hj hi, trivial⟩
  intro d
  induction d with
  | zero =>
    intro a j c hj hi
    rw [sayM]
    simp only []
    split
    · exact hz _
    · split
      · exact hz _
      · exact leaf_inr _ hj hi
  | succ d ih =>
    intro a j c hj hi
    rw [sayM]
    simp only []
    split
    · exact hz _
    · rename_i n hn
      split
      · exact hz _
      · split
        · exact key _ ih n (List.mem_of_getElem? hn) j _ hj hi
        · exact leaf_inr _ hj hi
theorem say_df {ns : List NT} (h : SayOk ns) : DfOk ns := fun n hn h9 f hf hh => ⟨((h.2 n hn).2.2.2.1 h9 f hf hh).1, ((h.2 n hn).2.2.2.1 h9 f hf hh).2.1⟩
theorem of_good {s : ST} (hok : rightM s = true → SayOk s.nodes) (a : Int) {j : JT} (hi : j.inr) :
    ((ofM s a j).2 = 0 → conM s a (ofM s a j).1 (rightM s) = true ∧ vdeep (ofM s a j).1 ≤ 20) ∧ ((ofM s a j).2 ≠ 0 → (ofM s a j).1 = vz 0) ∧ (ofM s a j).1.sm 1000000 := by
  have hz : (vz 0).sm 1000000 := ⟨by omega, by simp, by simp, by simp, by simp, trivial⟩
  unfold ofM
  by_cases h : 0 ≤ a ∧ a < (s.nodes.length : Int) ∧ rightM s = true ∧ jR j = true
  rotate_left
  · rw [if_neg h]
    exact ⟨fun e => by simp at e, fun _ => rfl, hz⟩
  rw [if_pos h]
  obtain ⟨h0, h1, hr, hj⟩ := h
  have hsh : rshape j = true := by
    rw [jR_shape, Bool.and_eq_true] at hj
    exact hj.2
  by_cases hs : (sayM s.nodes 20 a j 0).2.1 = true
  rotate_left
  · rw [if_neg hs]
    exact ⟨fun e => by simp at e, fun _ => rfl, hz⟩
  rw [if_pos hs]
  have hD := say_df (hok hr)
  obtain ⟨g1, g2⟩ := say_is hD (right_nodes hr) 20 a j 0 hsh hi hs
  have g3 := say_inr hD 20 a j 0 hsh hi
  refine ⟨fun _ => ⟨?_, g2⟩, fun e => absurd rfl e, isM_sm s.nodes _ a g3 g1⟩
  unfold conM
  rw [hr, decide_eq_true h0, decide_eq_true h1, g1]
  rfl
section
attribute [local go_sem] opx opE ev okx gcond bnd okO AV.get AV.okb cAV upd_at putd_some putd_none wrs_nil wrs_cons look_nil look_cons st argT_at bpick_and bpick_or bpick_true bpick_false binV binI binS binVOk binOk isShift binSOk unV unVOk loadV loadP cellsA zeroA Blkd.len setE grown moreA moreR moreOk eqRes pv fillA fillE putSeg AV.cellish AV.pureL AV.pureB lentL_is ex_some AV.ren AV.renL renL_c Blkd.ren rho wrM renN lentOk rhoE keepM endOk tyA_2 tyA_3 tyA_4 tyA_5 tyA_6 tyA_7 tyA_8 tyA_9 tyA_10 tyA_11 tyA_12 tyA_13 tyA_14 tyA_15 tyA_16 tyA_17 tyA_18 tyA_19 tyA_21 tyA_22 tyA_23 tyA_24 tyA_29 tyA_30 tyA_31 tyA_32 tyA_33 tyA_34 tyA_35 tyA_36 tyA_37 tyA_38 tyA_39 tyA_40 tyA_41 tyA_42 tyA_43 tyA_48 tyA_89 tyA_93 tyA_107 tyA_108 tyA_109 tyA_113 tyA_114 tyA_115 tyA_116 tyA_117 tyA_119 tyA_120 tyA_121 tyA_122 tyA_131 tyA_134 tyA_135 tyA_136 tyA_137 tyA_138 tyA_154 tyA_156 tyA_157 tyA_158 tyA_159 tyA_170 tyA_180 tyA_181 tyA_182 tyA_196 tyA_202 tyA_208 tyA_209 tyA_210 tyA_211 tyA_212 tyA_213 tyA_229 tyA_230 tyA_231 tyA_241 tyA_264 tyA_268 tyA_293 tyA_294 tyA_295 tyA_311 tyA_313 tyA_321 tyA_326 tyA_334 tyA_338 tyA_340 tyA_343 tyA_344 tyA_345 tyA_346 tyA_347 tyA_348 tyA_349 tyA_351 tyA_352 Option.map_some Option.map_none Option.getD_some Option.getD_none Option.bind_some Option.bind_none List.getElem?_cons_zero List.getElem?_cons_succ List.getElem?_nil List.getElem?_toArray List.length_cons List.length_nil List.length_map List.forall_mem_map List.map_cons List.map_nil List.drop_zero List.drop_succ_cons List.drop_nil List.take_zero List.take_succ_cons List.take_nil List.mem_cons List.not_mem_nil or_false forall_eq_or_imp forall_eq List.set_cons_zero List.set_cons_succ List.cons_append List.nil_append List.append_nil List.foldl_cons List.foldl_nil List.replicate_succ List.replicate_zero List.all_cons List.all_nil if_true if_false Bool.false_eq_true ne_eq not_false_eq_true not_true_eq_false true_and and_true and_self true_implies imp_self implies_true forall_const beq_self_eq_true Bool.and_true Bool.true_and Bool.and_false Bool.false_and Bool.or_true Bool.true_or Bool.or_false Bool.false_or Bool.not_true Bool.not_false Bool.not_eq_eq_eq_not intKindOf Value.oneCell' Int.toNat_natCast beq_true beq_false Bool.not_eq_true false_implies false_or true_or or_true Nat.zero_add Nat.add_zero decide_true decide_false Int.cast_ofNat_Int Int.toNat_zero Int.toNat_one eq_self

def w13a : NT := ⟨13, [], [], [], [], false, [], 0, 0, [1, 2]⟩
def w13b : NT := ⟨3, [], [], [], [], false, [], 0, 0, []⟩
def w13c : NT := ⟨1, [], [], [], [], false, [], 0, 0, []⟩
def w13d : NT := ⟨7, [], [], [], [], false, [], 0, 0, []⟩
def w13 : ST := ⟨[w13a, w13b, w13c], 0⟩
def w13s : ST := ⟨[w13d], 0⟩
def w13j : JT := .mk 3 7 [] [] []
def w13n : JT := .mk 1 0 [] [] []
def w13t : JT := .mk 4 0 [195, 191] [] []
theorem w13_a : nodeM w13.nodes w13a = true := by
  unfold nodeM
  rw [if_neg (show ¬ w13a.kind = 9 by decide)]
  decide +kernel
theorem w13_b : nodeM w13.nodes w13b = true := by
  unfold nodeM
  rw [if_neg (show ¬ w13b.kind = 9 by decide)]
  decide +kernel
theorem w13_c : nodeM w13.nodes w13c = true := by
  unfold nodeM
  rw [if_neg (show ¬ w13c.kind = 9 by decide)]
  decide +kernel
theorem w13_d : nodeM w13s.nodes w13d = true := by
  unfold nodeM
  rw [if_neg (show ¬ w13d.kind = 9 by decide)]
  decide +kernel
theorem w13_right : rightM w13 = true := by
  have h1 : orderedM w13 = true := by decide +kernel
  have h2 : diffM fullM (namesM w13.nodes) = true := by decide +kernel
  have h3 : rightL w13.nodes w13.nodes 0 (List.replicate w13.nodes.length 0) = true := by
    rw [show rightL w13.nodes w13.nodes = rightL w13.nodes [w13a, w13b, w13c] from rfl]
    rw [rightL, rightL, rightL, rightL, w13_a, w13_b, w13_c]
    decide +kernel
  unfold rightM
  rw [h1, h2, h3]
  rfl
theorem w13s_right : rightM w13s = true := by
  have h1 : orderedM w13s = true := by decide +kernel
  have h2 : diffM fullM (namesM w13s.nodes) = true := by decide +kernel
  have h3 : rightL w13s.nodes w13s.nodes 0 (List.replicate w13s.nodes.length 0) = true := by
    rw [show rightL w13s.nodes w13s.nodes = rightL w13s.nodes [w13d] from rfl]
    rw [rightL, rightL, w13_d]
    decide +kernel
  unfold rightM
  rw [h1, h2, h3]
  rfl
theorem w13_sm : w13.sm 1000000 := by
  refine ⟨by decide, fun n hn => ?_⟩
  simp only [w13, List.mem_cons, List.not_mem_nil, or_false] at hn
  rcases hn with rfl | rfl | rfl
  · exact ⟨by decide, by decide, ⟨by decide, by simp [w13a]⟩, ⟨by decide, by simp [w13a]⟩, by decide, by decide, by simp [w13a]⟩
  · exact ⟨by decide, by decide, ⟨by decide, by simp [w13b]⟩, ⟨by decide, by simp [w13b]⟩, by decide, by decide, by simp [w13b]⟩
  · exact ⟨by decide, by decide, ⟨by decide, by simp [w13c]⟩, ⟨by decide, by simp [w13c]⟩, by decide, by decide, by simp [w13c]⟩
theorem w13s_sm : w13s.sm 1000000 := by
  refine ⟨by decide, fun n hn => ?_⟩
  simp only [w13s, List.mem_cons, List.not_mem_nil, or_false] at hn
  subst hn
  exact ⟨by decide, by decide, ⟨by decide, by simp [w13d]⟩, ⟨by decide, by simp [w13d]⟩, by decide, by decide, by simp [w13d]⟩
theorem w13_inr : w13.inr := fun n hn f hf => by
  simp only [w13, List.mem_cons, List.not_mem_nil, or_false] at hn
  rcases hn with rfl | rfl | rfl <;> simp [w13a, w13b, w13c] at hf
theorem w13s_inr : w13s.inr := fun n hn f hf => by
  simp only [w13s, List.mem_cons, List.not_mem_nil, or_false] at hn
  subst hn
  simp [w13d] at hf
theorem w13j_r : jR w13j = true := by decide +kernel
theorem w13n_r : jR w13n = true := by decide +kernel
theorem w13t_r : jR w13t = true := by decide +kernel
theorem w13_lat : latF [195, 191] 0 = some [255] := by
  rw [latF_next (by decide) (by decide +kernel), if_pos (by decide +kernel), latF_end (by decide +kernel)]
  decide +kernel
theorem w13_say1 : sayM w13.nodes 20 0 w13j 0 = (.mk 13 0 0 [] [.mk 3 7 0 [] [] []] [], true, 2) := by
  rw [sayM]
  rfl
theorem w13_say2 : (sayM w13.nodes 20 0 w13n 0).2.1 = false := by
  rw [sayM]
  rfl
theorem w13_say3 : (sayM w13s.nodes 20 0 w13t 0).1 = .mk 7 0 0 [255] [] [] ∧ (sayM w13s.nodes 20 0 w13t 0).2.1 = true := by
  have h : leafS w13d w13t = (.mk 7 0 0 [255] [] [], true) := by
    unfold leafS
    rw [if_neg (by decide), if_neg (by decide), if_neg (by decide), if_neg (by decide)]
    unfold textS
    rw [if_pos (by decide), if_neg (by decide), show w13t.txt = [195, 191] from rfl, w13_lat]
    rfl
  have hs : sayM w13s.nodes 20 0 w13t 0 = ((leafS w13d w13t).1, (leafS w13d w13t).2, 1) := by
    rw [sayM]
    rfl
  rw [hs, h]
  exact ⟨rfl, rfl⟩
theorem w13_of1 : ofM w13 0 w13j = (.mk 13 0 0 [] [.mk 3 7 0 [] [] []] [], 0) := by
  unfold ofM
  rw [if_pos ⟨by decide, by decide, w13_right, w13j_r⟩, w13_say1]
  rfl
theorem w13_of2 : ofM w13 0 w13n = (vz 0, 35) := by
  unfold ofM
  rw [if_pos ⟨by decide, by decide, w13_right, w13n_r⟩, w13_say2]
  rfl
theorem w13j_sm : w13j.sm 1000000 := ⟨by decide, by decide, by simp, by decide, trivial⟩
theorem w13n_sm : w13n.sm 1000000 := ⟨by decide, by decide, by simp, by decide, trivial⟩
theorem w13t_sm : w13t.sm 1000000 := ⟨by decide, by decide, by simp, by decide, trivial⟩
set_option maxRecDepth 100000 in
set_option maxHeartbeats 1600000 in
theorem of13row_told (a : Int) (ha : a = 0) : ToldM Tryz.prog 30 [.agg [.row 1000000 1, .c (.v (.int .i64 0))], .c (.v (.int .i64 a)), .agg [.c (.v (.int .i64 4)), .c (.v (.int .i64 0)), .c (.v (.string ⟨#[195, 191]⟩)), .c (.v (.slice none 0 0)), .c (.v (.slice none 0 0))]]
    [⟨true, 33, 10, [[.c (.v (.int .i64 7)), .c (.v (.string ⟨#[]⟩)), .c (.v (.slice none 0 0)), .c (.v (.slice none 0 0)), .c (.v (.slice none 0 0)), .c (.v (.bool false)), .c (.v (.string ⟨#[]⟩)), .c (.v (.int .i64 0)), .c (.v (.int .i64 0)), .c (.v (.slice none 0 0))]]⟩] [none] (.tup [(VT.mk 7 0 0 [255] [] []).av, .c (.v (.int .i64 0))]) := by
  have hR := sRight_told w13s w13s_sm
  rw [w13s_right] at hR
  have hJ := jRight_told w13t (sm_le (by omega) _ w13t_sm)
  rw [w13t_r] at hJ
  have hS := say13_top w13s (right_say w13s_sm w13s_inr w13s_right) a (by omega) (by rw [ha]; decide) w13t ⟨by have h := w13t_r; rw [jR_shape, Bool.and_eq_true] at h; exact h.2, ⟨by omega, trivial⟩, w13t_sm⟩
  subst ha
  rw [w13_say3.1, w13_say3.2] at hS
  generalize (sayM w13s.nodes 20 0 w13t 0).2.2 = c2 at *
  have hcell : ∀ v : VT, v = VT.mk 7 0 0 [255] [] [] → ToldM Tryz.prog 30 [.agg [.row 1000000 1, .c (.v (.int .i64 0))], .c (.v (.int .i64 0)), .agg [.c (.v (.int .i64 4)), .c (.v (.int .i64 0)), .c (.v (.string ⟨#[195, 191]⟩)), .c (.v (.slice none 0 0)), .c (.v (.slice none 0 0))]]
    [⟨true, 33, 10, [[.c (.v (.int .i64 7)), .c (.v (.string ⟨#[]⟩)), .c (.v (.slice none 0 0)), .c (.v (.slice none 0 0)), .c (.v (.slice none 0 0)), .c (.v (.bool false)), .c (.v (.string ⟨#[]⟩)), .c (.v (.int .i64 0)), .c (.v (.int .i64 0)), .c (.v (.slice none 0 0))]]⟩] [none] (.tup [v.av, .c (.v (.int .i64 0))]) := by
    intro v hv
    rw [← hv] at hS
    clear hv
    rw [JT.av_eq] at hJ hS
    rw [ST.av_eq, scells_mk] at hR
    rw [VT.av_eq] at hS ⊢
    unfold xSB at hS
    have hlen : w13s.nodes.length = 1 := rfl
    have hge : decide ((0 : Int) ≥ 1) = false := by decide
    have hlt0 : decide ((0 : Int) < 0) = false := by decide
    refine VC.toldM ent_30 [] Tryz.func30 rfl Tryz.ntmps30 (by simp) (by simp only [ rA_len, rA_sc, ScM, zOk, inL, eq_self, used_is, sc_any, sc_c, sc_pp, sc_ref, sc_row, sc_agg, sc_tup, sc_fn, ScL, some_imp, List.forall_mem_map, Nat.le_refl, go_sem, simprocAttr]) (by simp only [ rA_len, rA_sc, ScM, zOk, inL, eq_self, used_is, sc_any, sc_c, sc_pp, sc_ref, sc_row, sc_agg, sc_tup, sc_fn, ScL, some_imp, List.forall_mem_map, Nat.le_refl, go_sem, simprocAttr]) (by simp only [ rA_len, rA_sc, ScM, zOk, inL, eq_self, used_is, sc_any, sc_c, sc_pp, sc_ref, sc_row, sc_agg, sc_tup, sc_fn, ScL, some_imp, List.forall_mem_map, Nat.le_refl, go_sem, simprocAttr]) (by simp only [ rA_len, rA_sc, ScM, zOk, inL, eq_self, used_is, sc_any, sc_c, sc_pp, sc_ref, sc_row, sc_agg, sc_tup, sc_fn, ScL, some_imp, List.forall_mem_map, Nat.le_refl, go_sem, simprocAttr]) (by simp) fun hb hbL => ?_
    clear hb
    refine VC.frz [] [(0, .agg [.row 1000000 1, .c (.v (.int .i64 0))]), (1, .c (.v (.int .i64 0))), (2, .agg (w13t.cells.map .c))] [(1000000, ⟨true, 33, 10, [w13d.cells.map .c]⟩)] 0 ?_ ?_
    · simp only [rA_sc, rA_len, WeakF, used_is, sc_any, sc_c, sc_pp, sc_ref, sc_row, sc_agg, sc_fn, ScL, some_imp, List.forall_mem_map, go_sem, Int.reduceBEq, Int.reduceLE, Int.reduceLT, Int.reduceNeg, Nat.reduceAdd, Nat.reduceEqDiff, Nat.reduceLT, Nat.reduceLeDiff, Nat.reduceMul, Nat.reduceSub, reduceCtorEq, ↓reduceIte]
      exact ⟨⟨.same _, .same _, FV.aggL (.cons (.same _) (.cons (.same _) (.cons (.same _) (.cons (.nil 5) (.cons (.nil 1) .nil)))))⟩, .one (.cons (.same _) (.cons (.same _) (.cons (.nil 1) (.cons (.nil 9) (.cons (.nil 1) (.cons (.same _) (.cons (.same _) (.cons (.same _) (.cons (.same _) (.cons (.nil 1) .nil)))))))))) (cellish_map _)⟩
    refine VC.frz [1000000] [(0, .agg ([.sl 10 (w13s.nodes.map NT.cells), .v (.int .i64 w13s.root)].map .c)), (1, .c (.v (.int .i64 0))), (2, .agg (w13t.cells.map .c))] [] 0 ?_ ?_
    · simp only [rA_sc, rA_len, WeakF, used_is, sc_any, sc_c, sc_pp, sc_ref, sc_row, sc_agg, sc_fn, ScL, some_imp, List.forall_mem_map, go_sem, Int.reduceBEq, Int.reduceLE, Int.reduceLT, Int.reduceNeg, Nat.reduceAdd, Nat.reduceEqDiff, Nat.reduceLT, Nat.reduceLeDiff, Nat.reduceMul, Nat.reduceSub, reduceCtorEq, ↓reduceIte]
      exact ⟨FV.aggL (.cons (.row (B := ⟨true, 33, 10, [w13d.cells.map .c]⟩) (es := w13s.nodes.map NT.cells) (by simp) rfl rfl rfl rfl) (.cons (.same _) .nil)), .same _, .same _⟩
    refine walkGF (And.intro hlen (And.intro hge (And.intro hlt0 (And.intro @len_cells (And.intro @take_cells @take_cellsC))))) ?_
    refine walkC (hR) ?_
    refine walkGF (And.intro @len_cells (And.intro @take_cells @take_cellsC)) ?_
    refine walkCF (@pureL_c) (hJ) ?_
    refine walkBF (And.intro @len_cells (And.intro @take_cells @take_cellsC)) ?_
    ((refine AO.step fun K hK => ?_; simp only [go_sem, Int.reduceBEq, Int.reduceLE, Int.reduceLT, Int.reduceNeg, Nat.reduceAdd, Nat.reduceEqDiff, Nat.reduceLT, Nat.reduceLeDiff, Nat.reduceMul, Nat.reduceSub, reduceCtorEq, ↓reduceIte, len_cells, take_cells, take_cellsC]; (first | refine gsel_go ?_ | skip)); refine .inr (.inr (.inl ⟨?vy1, [200], ?va1, ?vl1, ?vm1, ?cond1, ?cont1⟩)); (case cond1 => ((repeat' apply And.intro) <;> (try ((with_reducible show ToldM _ _ _ _ _ _); exact hS))); (all_goals first | trivial | (simp only [len_cells, take_cells, take_cellsC, go_sem, simprocAttr]; done) | (simp; done) | rfl)); (first | refine hK _ _ _ ?_ | (simp only [len_cells, take_cells, take_cellsC, go_sem, simprocAttr]; first | refine hK _ _ _ ?_ | refine ⟨rfl, hK _ _ _ ?_⟩)); clear hK K)
    refine walkBF (And.intro @len_vcells (And.intro @take_vcells @take_vcellsC)) ?_
    refine ⟨by first | exact .inr rfl | exact .inl rfl, ?_⟩; rw [Tryz.results30]; simp only [len_vcells, take_vcellsC, resOk, resV, go_sem, Int.reduceBEq, Int.reduceLE, Int.reduceLT, Int.reduceNeg, Nat.reduceAdd, Nat.reduceEqDiff, Nat.reduceLT, Nat.reduceLeDiff, Nat.reduceMul, Nat.reduceSub, reduceCtorEq, ↓reduceIte]
    exact ⟨Frz.cs _ _, .c _⟩
  exact hcell _ rfl
set_option maxRecDepth 100000 in
set_option maxHeartbeats 1600000 in
theorem works13_told : Told Tryz.prog 29 [] (.c (.v (.bool true))) := by
  have hA := of13_told w13 w13_sm (right_say w13_sm w13_inr) 0 w13j w13j_sm ⟨by omega, trivial⟩
  have hB := of13_told w13 w13_sm (right_say w13_sm w13_inr) 0 w13n w13n_sm ⟨by omega, trivial⟩
  have hC := of13row_told 0 rfl
  rw [w13_of1] at hA
  rw [w13_of2] at hB
  simp only [ST.av_eq, scells_mk, List.map_cons, List.map_nil] at hA hB hC
  refine VC.told ent_29 Tryz.func29 rfl Tryz.ntmps29 (by simp) (by first | rfl | simp [AV.pureB, AV.pureL, pureL_c, pures]) (by first | rfl | simp [AV.pureB, AV.pureL, pureL_c, pures]) fun hb => ?_
  clear hb
  (refine VC.seq ?_; (first | refine VC.region (by rfl) (by rfl) ?_ | refine VC.draw mixP (by rfl) (by rfl) ?_); (repeat (refine AO.step fun K hK => ?_; simp only [go_sem, Int.reduceBEq, Int.reduceLE, Int.reduceLT, Int.reduceNeg, Nat.reduceAdd, Nat.reduceEqDiff, Nat.reduceLT, Nat.reduceLeDiff, Nat.reduceMul, Nat.reduceSub, reduceCtorEq, ↓reduceIte]; (first | refine gsel_skip ?_ | refine gsel_go ?_ | skip); (first | refine hK _ _ _ ?_ | refine ⟨by first | omega | exact ⟨_, rfl, rfl⟩ | exact fun _ => ⟨_, rfl, rfl⟩ | (intro h; simp only [h, true_and]; omega) | (clear hK; intro h; simp_all <;> omega), hK _ _ _ ?_⟩); clear hK K)); refine AO.nil ?_; first | refine SQ.normal ?_ | refine ⟨okd_of (by kernel_rfl), SQ.normal ?_⟩)
  (refine VC.seq ?_; (first | refine VC.region (by rfl) (by rfl) ?_ | refine VC.draw mixP (by rfl) (by rfl) ?_); (repeat (refine AO.step fun K hK => ?_; simp only [go_sem, Int.reduceBEq, Int.reduceLE, Int.reduceLT, Int.reduceNeg, Nat.reduceAdd, Nat.reduceEqDiff, Nat.reduceLT, Nat.reduceLeDiff, Nat.reduceMul, Nat.reduceSub, reduceCtorEq, ↓reduceIte]; (first | refine gsel_skip ?_ | refine gsel_go ?_ | skip); (first | refine hK _ _ _ ?_ | refine ⟨by first | omega | exact ⟨_, rfl, rfl⟩ | exact fun _ => ⟨_, rfl, rfl⟩ | (intro h; simp only [h, true_and]; omega) | (clear hK; intro h; simp_all <;> omega), hK _ _ _ ?_⟩); clear hK K)); refine AO.nil ?_; first | refine SQ.normal ?_ | refine ⟨okd_of (by kernel_rfl), SQ.normal ?_⟩)
  refine VC.frz [] [(1, .ref 56 1 0 0)] [(8, ⟨true, 3, 1, rA iPV [1, 2]⟩), (40, ⟨true, 33, 10, [[.c (.v (.int .i64 13)), .c (.v (.string ⟨#[]⟩)), .c (.v (.slice none 0 0)), .c (.v (.slice none 0 0)), .c (.v (.slice none 0 0)), .c (.v (.bool false)), .c (.v (.string ⟨#[]⟩)), .c (.v (.int .i64 0)), .c (.v (.int .i64 0)), .row 8 2], w13b.cells.map .c, [.c (.v (.int .i64 1)), .c (.v (.string ⟨#[]⟩)), .c (.v (.slice none 0 0)), .c (.v (.slice none 0 0)), .c (.v (.slice none 0 0)), .c (.v (.bool false)), .c (.v (.string ⟨#[]⟩)), .c (.v (.int .i64 0)), .c (.v (.int .i64 0)), .c (.v (.slice none 0 0))]]⟩), (56, ⟨false, 24, 2, [[.row 40 3, .c (.v (.int .i64 0))]]⟩)] 400 ?_ ?_
  · simp only [rA_sc, rA_len, WeakF, used_is, sc_any, sc_c, sc_pp, sc_ref, sc_row, sc_agg, sc_fn, ScL, some_imp, List.forall_mem_map, go_sem, Int.reduceBEq, Int.reduceLE, Int.reduceLT, Int.reduceNeg, Nat.reduceAdd, Nat.reduceEqDiff, Nat.reduceLT, Nat.reduceLeDiff, Nat.reduceMul, Nat.reduceSub, reduceCtorEq, ↓reduceIte]
    exact ⟨.same _, .same _, .set (i := 1) (e' := w13b.cells.map .c) rfl (.cons (.same _) (.cons (.same _) (.cons (.nil 1) (.cons (.nil 9) (.cons (.nil 1) (.cons (.same _) (.cons (.same _) (.cons (.same _) (.cons (.same _) (.cons (.nil 1) .nil)))))))))) (cellish_map _), .same _⟩
  refine VC.frz [] [(1, .ref 56 1 0 0)] [(8, ⟨true, 3, 1, rA iPV [1, 2]⟩), (40, ⟨true, 33, 10, [[.c (.v (.int .i64 13)), .c (.v (.string ⟨#[]⟩)), .c (.v (.slice none 0 0)), .c (.v (.slice none 0 0)), .c (.v (.slice none 0 0)), .c (.v (.bool false)), .c (.v (.string ⟨#[]⟩)), .c (.v (.int .i64 0)), .c (.v (.int .i64 0)), .row 8 2], w13b.cells.map .c, w13c.cells.map .c]⟩), (56, ⟨false, 24, 2, [[.row 40 3, .c (.v (.int .i64 0))]]⟩)] 400 ?_ ?_
  · simp only [rA_sc, rA_len, WeakF, used_is, sc_any, sc_c, sc_pp, sc_ref, sc_row, sc_agg, sc_fn, ScL, some_imp, List.forall_mem_map, go_sem, Int.reduceBEq, Int.reduceLE, Int.reduceLT, Int.reduceNeg, Nat.reduceAdd, Nat.reduceEqDiff, Nat.reduceLT, Nat.reduceLeDiff, Nat.reduceMul, Nat.reduceSub, reduceCtorEq, ↓reduceIte]
    exact ⟨.same _, .same _, .set (i := 2) (e' := w13c.cells.map .c) rfl (.cons (.same _) (.cons (.same _) (.cons (.nil 1) (.cons (.nil 9) (.cons (.nil 1) (.cons (.same _) (.cons (.same _) (.cons (.same _) (.cons (.same _) (.cons (.nil 1) .nil)))))))))) (cellish_map _), .same _⟩
  refine VC.frz [8] [(1, .ref 56 1 0 0)] [(40, ⟨true, 33, 10, [w13a.cells.map .c, w13b.cells.map .c, w13c.cells.map .c]⟩), (56, ⟨false, 24, 2, [[.row 40 3, .c (.v (.int .i64 0))]]⟩)] 400 ?_ ?_
  · simp only [rA_sc, rA_len, WeakF, used_is, sc_any, sc_c, sc_pp, sc_ref, sc_row, sc_agg, sc_fn, ScL, some_imp, List.forall_mem_map, go_sem, Int.reduceBEq, Int.reduceLE, Int.reduceLT, Int.reduceNeg, Nat.reduceAdd, Nat.reduceEqDiff, Nat.reduceLT, Nat.reduceLeDiff, Nat.reduceMul, Nat.reduceSub, reduceCtorEq, ↓reduceIte]
    exact ⟨.same _, .set (i := 0) (e' := w13a.cells.map .c) rfl (.cons (.same _) (.cons (.same _) (.cons (.nil 1) (.cons (.nil 9) (.cons (.nil 1) (.cons (.same _) (.cons (.same _) (.cons (.same _) (.cons (.same _) (.cons (.row (B := ⟨true, 3, 1, rA iPV [1, 2]⟩) (es := [iPV 1, iPV 2]) (by simp) rfl rfl rfl rfl) .nil)))))))))) (cellish_map _), .same _⟩
  refine VC.frz [40] [(1, .ref 56 1 0 0)] [(56, ⟨false, 24, 2, [[.c (.sl 10 (w13.nodes.map NT.cells)), .c (.v (.int .i64 w13.root))]]⟩)] 400 ?_ ?_
  · simp only [rA_sc, rA_len, WeakF, used_is, sc_any, sc_c, sc_pp, sc_ref, sc_row, sc_agg, sc_fn, ScL, some_imp, List.forall_mem_map, go_sem, Int.reduceBEq, Int.reduceLE, Int.reduceLT, Int.reduceNeg, Nat.reduceAdd, Nat.reduceEqDiff, Nat.reduceLT, Nat.reduceLeDiff, Nat.reduceMul, Nat.reduceSub, reduceCtorEq, ↓reduceIte]
    exact ⟨.same _, .one (.cons (.row (B := ⟨true, 33, 10, [w13a.cells.map .c, w13b.cells.map .c, w13c.cells.map .c]⟩) (es := w13.nodes.map NT.cells) (by simp) rfl rfl rfl rfl) (.cons (.same _) .nil)) (by simp [AV.cellish])⟩
  have hA := Told.co (args := [_, _, .agg [.c (.v (.int .i64 3)), .c (.v (.int .i64 7)), .c (.v (.string ⟨#[]⟩)), .c (.v (.slice none 0 0)), .c (.v (.slice none 0 0))]]) hA (.cons (.same _) (.cons (.same _) (.cons (Co.aggL (.cons (.same _) (.cons (.same _) (.cons (.same _) (.cons (.nil 5) (.cons (.nil 1) .nil)))))) .nil)))
  have hB := Told.co (args := [_, _, .agg [.c (.v (.int .i64 1)), .c (.v (.int .i64 0)), .c (.v (.string ⟨#[]⟩)), .c (.v (.slice none 0 0)), .c (.v (.slice none 0 0))]]) hB (.cons (.same _) (.cons (.same _) (.cons (Co.aggL (.cons (.same _) (.cons (.same _) (.cons (.same _) (.cons (.nil 5) (.cons (.nil 1) .nil)))))) .nil)))
  simp only [VT.av_eq, vz, vcells_mk, List.map_cons, List.map_nil] at hA hB hC
  refine walkG ?_
  refine walkC (hA) ?_
  refine walkG ?_
  refine walkC (hB) ?_
  refine walkG ?_
  have h255 : bytePV [255] = [[.v (.int .u8 255)]] := rfl
  ((refine AO.step fun K hK => ?_; simp only [go_sem, Int.reduceBEq, Int.reduceLE, Int.reduceLT, Int.reduceNeg, Nat.reduceAdd, Nat.reduceEqDiff, Nat.reduceLT, Nat.reduceLeDiff, Nat.reduceMul, Nat.reduceSub, reduceCtorEq, ↓reduceIte]; (first | refine gsel_go ?_ | skip)); refine .inr (.inr (.inl ⟨?vy2, [552], ?va2, ?vl2, ?vm2, ?cond2, ?cont2⟩)); (case cond2 => ((repeat' apply And.intro) <;> (try ((with_reducible show ToldM _ _ _ _ _ _); exact hC))); (all_goals first | trivial | (simp only [go_sem, simprocAttr]; done) | (simp; done) | rfl)); (first | refine hK _ _ _ ?_ | (simp only [go_sem, simprocAttr]; first | refine hK _ _ _ ?_ | refine ⟨rfl, hK _ _ _ ?_⟩)); clear hK K)
  refine walkGF (h255) ?_
  refine ⟨by first | exact .inr rfl | exact .inl rfl, ?_⟩; rw [Tryz.results29]; simp only [resOk, resV, go_sem, Int.reduceBEq, Int.reduceLE, Int.reduceLT, Int.reduceNeg, Nat.reduceAdd, Nat.reduceEqDiff, Nat.reduceLT, Nat.reduceLeDiff, Nat.reduceMul, Nat.reduceSub, reduceCtorEq, ↓reduceIte]
  exact .c _

set_option maxRecDepth 100000 in
set_option maxHeartbeats 400000 in
theorem eqfV_told {g : FuncId} {fs cs : List AV} (hp : AV.pureL fs = true) (hp' : AV.pureL cs = true) (xs ys : List VT) (hcall : ∀ x ∈ xs, ∀ y, Told Tryz.prog g (fs ++ ([x.av, y.av] ++ cs)) (.c (.v (.bool (ceq x y))))) :
    Told Tryz.prog 67 [.c (.sl 6 (xs.map VT.cells)), .c (.sl 6 (ys.map VT.cells)), .fn (.func g) fs cs] (.c (.v (.bool (ceq xs ys)))) := by
  refine VC.told ent_67 Tryz.func67 rfl Tryz.ntmps67 (by simp) (by simp [AV.pureB, AV.pureL, hp, hp']) rfl fun hb => ?_
  simp only [abd_c, pbd_sl, List.mem_cons, List.not_mem_nil, or_false, forall_eq_or_imp, forall_eq, List.length_map] at hb
  have h1 := hb.1.1
  have h2 := hb.2.1.1
  clear hb
  refine walkG ?_
  refine VC.cond (by rfl) (by trivial) (fun hc => ?_) (fun hc => ?_)
  · have hne : ceq xs ys = false := by
      rw [ceq_false]
      intro e
      subst e
      simp at hc
    refine walkG ?_
    refine ⟨.inr rfl, ?_⟩
    rw [Tryz.results67, hne]
    simp only [resOk, resV, go_sem, Int.reduceBEq, Int.reduceLE, Int.reduceLT, Int.reduceNeg, Nat.reduceAdd, Nat.reduceEqDiff, Nat.reduceLT, Nat.reduceLeDiff, Nat.reduceMul, Nat.reduceSub, reduceCtorEq, ↓reduceIte]
    exact .c _
  · have hlen : xs.length = ys.length := by
      simp at hc
      omega
    refine walkG ?_
    refine VC.loop (ι := {i : Nat // i ≤ xs.length ∧ xs.take i = ys.take i}) (fun i => [(1, .c (.sl 6 (ys.map VT.cells))), (2, .fn (.func g) fs cs), (15, .c (.sl 6 (xs.map VT.cells))), (16, .c (.v (.int .i64 xs.length))), (17, .c (.v (.int .i64 i.1)))]) (fun _ => []) 0 (fun i => xs.length - i.1) ⟨0, Nat.zero_le _, rfl⟩ ?_ ?_
    · simp only [sc_pureL hp, sc_pureL hp', Weak, eq_self, used_is, sc_any, sc_c, sc_pp, sc_ref, sc_row, sc_agg, sc_fn, ScL, some_imp, List.forall_mem_map, go_sem, Int.reduceBEq, Int.reduceLE, Int.reduceLT, Int.reduceNeg, Nat.reduceAdd, Nat.reduceEqDiff, Nat.reduceLT, Nat.reduceLeDiff, Nat.reduceMul, Nat.reduceSub, reduceCtorEq, ↓reduceIte]
      all_goals rfl
    rintro ⟨i, hi, ht⟩
    refine walkG ?_
    refine VC.cond (by rfl) (by trivial) (fun hc => ?_) (fun hc => ?_)
    · simp only [decide_eq_true_eq] at hc
      obtain ⟨x, hx⟩ : ∃ x, xs[i]? = some x := ⟨xs[i], List.getElem?_eq_getElem (by omega)⟩
      obtain ⟨y, hy⟩ : ∃ y, ys[i]? = some y := ⟨ys[i], List.getElem?_eq_getElem (by omega)⟩
      have hw : IntKind.i64.wrap ((i : Int) + 1) = (i : Int) + 1 := wrap64_id (by omega) (by omega)
      have hcl := hcall x (List.mem_of_getElem? hx) y
      (repeat (first | refine pass ?_ | refine VC.region (by rfl) (by rfl) ?_ | (refine AO.step fun K hK => ?_; simp only [List.getElem?_map, hx, hy, VT.av, len_vcells, take_vcells, take_vcellsC, go_sem, Int.reduceBEq, Int.reduceLE, Int.reduceLT, Int.reduceNeg, Nat.reduceAdd, Nat.reduceEqDiff, Nat.reduceLT, Nat.reduceLeDiff, Nat.reduceMul, Nat.reduceSub, reduceCtorEq, ↓reduceIte]; (first | refine gsel_skip ?_ | refine gsel_go ?_ | skip); (first | refine hK _ _ _ ?_ | refine ⟨by first | omega | exact ⟨_, rfl, rfl⟩ | exact fun _ => ⟨_, rfl, rfl⟩ | (intro h; simp only [List.getElem?_map, hx, hy, VT.av, len_vcells, take_vcells, take_vcellsC, h, true_and]; omega) | (clear hK; intro h; simp_all <;> omega), hK _ _ _ ?_⟩); clear hK K) | refine VC.draw mixP (by rfl) (by rfl) ?_ | refine ⟨okd_of (by kernel_rfl), ?_⟩ | refine BQ.other (by decide) ?_ | refine VC.seq ?_ | refine AO.nil ?_ | refine VC.block ?_))
      (refine AO.step fun K hK => ?_; simp only [go_sem, Int.reduceBEq, Int.reduceLE, Int.reduceLT, Int.reduceNeg, Nat.reduceAdd, Nat.reduceEqDiff, Nat.reduceLT, Nat.reduceLeDiff, Nat.reduceMul, Nat.reduceSub, reduceCtorEq, ↓reduceIte, VT.av, len_vcells, take_vcells, take_vcellsC, hp, hp', pureL_app, pureL_c, List.append_assoc]; (first | refine gsel_go ?_ | skip))
      refine .inl ⟨_, hcl, hK _ _ _ ?_⟩
      clear hK K
      refine walkG ?_
      refine VC.cond (by rfl) (by trivial) (fun hc2 => ?_) (fun hc2 => ?_)
      · have hne : ceq xs ys = false := by
          rw [ceq_false]
          intro e
          subst e
          rw [hx] at hy
          obtain rfl := Option.some.inj hy
          rw [ceq_self] at hc2
          simp at hc2
        refine walkG ?_
        refine ⟨.inr rfl, ?_⟩
        rw [Tryz.results67, hne]
        simp only [resOk, resV, go_sem, Int.reduceBEq, Int.reduceLE, Int.reduceLT, Int.reduceNeg, Nat.reduceAdd, Nat.reduceEqDiff, Nat.reduceLT, Nat.reduceLeDiff, Nat.reduceMul, Nat.reduceSub, reduceCtorEq, ↓reduceIte]
        exact .c _
      · have hxy : x = y := by
          rw [← ceq_iff]
          simpa using hc2
        refine walkGF (hw) ?_
        refine .next ⟨i + 1, by omega, ?_⟩ ?_ (by simp only []; omega)
        · rw [List.take_add_one, List.take_add_one, hx, hy, ht, hxy]
        simp only [sc_pureL hp, sc_pureL hp', Weak, eq_self, used_is, sc_any, sc_c, sc_pp, sc_ref, sc_row, sc_agg, sc_fn, ScL, some_imp, List.forall_mem_map, go_sem, Int.reduceBEq, Int.reduceLE, Int.reduceLT, Int.reduceNeg, Nat.reduceAdd, Nat.reduceEqDiff, Nat.reduceLT, Nat.reduceLeDiff, Nat.reduceMul, Nat.reduceSub, reduceCtorEq, ↓reduceIte]
        exact cI (by omega)
    · simp only [decide_eq_false_iff_not] at hc
      obtain rfl : i = xs.length := by omega
      have heq : ceq xs ys = true := by
        rw [List.take_length, hlen, List.take_length] at ht
        rw [ceq_iff, ht]
      refine walkG ?_
      refine ⟨.inr rfl, ?_⟩
      rw [Tryz.results67, heq]
      simp only [resOk, resV, go_sem, Int.reduceBEq, Int.reduceLE, Int.reduceLT, Int.reduceNeg, Nat.reduceAdd, Nat.reduceEqDiff, Nat.reduceLT, Nat.reduceLeDiff, Nat.reduceMul, Nat.reduceSub, reduceCtorEq, ↓reduceIte]
      exact .c _
theorem ceq_val (k n b : Int) (s : List UInt8) (xs : List VT) (ks : List (List UInt8)) (k' n' b' : Int) (s' : List UInt8) (xs' : List VT) (ks' : List (List UInt8)) :
    ceq (VT.mk k n b s xs ks) (VT.mk k' n' b' s' xs' ks') = (((((k == k') && (n == n')) && (b == b')) && (s == s')) && (ks == ks') && ceq xs xs') := by
  rw [Bool.eq_iff_iff]
  simp only [ceq_iff, Bool.and_eq_true, beq_iff_eq]
  constructor
  · intro h
    injection h with h1 h2 h3 h4 h5 h6
    exact ⟨⟨⟨⟨⟨h1, h2⟩, h3⟩, h4⟩, h6⟩, h5⟩
  · rintro ⟨⟨⟨⟨⟨rfl, rfl⟩, rfl⟩, rfl⟩, rfl⟩, rfl⟩
    rfl
set_option maxRecDepth 100000 in
set_option maxHeartbeats 400000 in
theorem bequal_told (s t : List UInt8) : Told Tryz.prog 65 [.c (.sl 1 (bytePV s)), .c (.sl 1 (bytePV t))] (.c (.v (.bool (s == t)))) := by
  have e : ∀ l : List UInt8, bstr (bytesOf (bytePV l)) = str l := fun l => by rw [bytesOf_pv]; rfl
  have hs := bytePV_ok s
  have ht := bytePV_ok t
  refine VC.told ent_65 Tryz.func65 rfl Tryz.ntmps65 (by simp) (by first | rfl | simp [AV.pureB, AV.pureL, pureL_c, pures]) (by first | rfl | simp [AV.pureB, AV.pureL, pureL_c, pures]) fun hb => ?_
  clear hb
  refine walkGF (And.intro e @str_toList) ?_
  refine ⟨by first | exact .inr rfl | exact .inl rfl, ?_⟩; rw [Tryz.results65]; simp only [resOk, resV, go_sem, Int.reduceBEq, Int.reduceLE, Int.reduceLT, Int.reduceNeg, Nat.reduceAdd, Nat.reduceEqDiff, Nat.reduceLT, Nat.reduceLeDiff, Nat.reduceMul, Nat.reduceSub, reduceCtorEq, ↓reduceIte]
  exact .c _
set_option maxRecDepth 100000 in
set_option maxHeartbeats 800000 in
theorem vsame_told : ∀ (m : Nat) (v w : VT), SizeOf.sizeOf v ≤ m → Told Tryz.prog 21 [v.av, w.av] (.c (.v (.bool (ceq v w)))) := by
  intro m
  induction m with
  | zero => intro v w hv; cases v; simp at hv
  | succ m ih =>
  intro v w hv
  cases v with
  | mk k n b s xs ks =>
  cases w with
  | mk k' n' b' s' xs' ks' =>
  have hB := bequal_told s s'
  have hS := sequal_told ks ks'
  have hE := eqfV_told (g := 21) (fs := []) (cs := []) rfl rfl xs xs' fun x hx y => ih x y (by
    have h3 := List.sizeOf_lt_of_mem hx
    simp at hv
    omega)
  have hV := ceq_val k n b s xs ks k' n' b' s' xs' ks'
  obtain ⟨V, hVV⟩ : ∃ V, V = ceq (VT.mk k n b s xs ks) (VT.mk k' n' b' s' xs' ks') := ⟨_, rfl⟩
  rw [← hVV] at hV ⊢
  clear hVV ih hv
  generalize (s == s') = b1 at hB hV
  generalize (ks == ks') = b2 at hS hV
  generalize ceq xs xs' = b3 at hE hV
  replace hV := Lib.hid hV
  rw [VT.av_eq, VT.av_eq, vcells_mk, vcells_mk]
  refine VC.told ent_21 Tryz.func21 rfl Tryz.ntmps21 (by simp) (by first | rfl | simp [AV.pureB, AV.pureL, pureL_c, pures]) (by first | rfl | simp [AV.pureB, AV.pureL, pureL_c, pures]) fun hb => ?_
  clear hb
  refine walkG ?_
  refine walkD (hB) ?_
  refine walkG ?_
  refine walkD (hS) ?_
  refine walkG ?_
  refine walkD (hE) ?_
  refine walkG ?_
  refine ⟨by first | exact .inr rfl | exact .inl rfl, ?_⟩; rw [Tryz.results21]; simp only [resOk, resV, go_sem, Int.reduceBEq, Int.reduceLE, Int.reduceLT, Int.reduceNeg, Nat.reduceAdd, Nat.reduceEqDiff, Nat.reduceLT, Nat.reduceLeDiff, Nat.reduceMul, Nat.reduceSub, reduceCtorEq, ↓reduceIte]
  rw [hV.out]
  exact .c _
set_option maxRecDepth 100000 in
set_option maxHeartbeats 800000 in
theorem vdeep_told : ∀ (m : Nat) (v : VT), SizeOf.sizeOf v ≤ m → vdeep v ≤ 1000 → v.sm 1000000 → Told Tryz.prog 23 [v.av] (.c (.v (.int .i64 (vdeep v)))) := by
  intro m
  induction m with
  | zero => intro v hv; cases v; simp at hv
  | succ m ih =>
  intro v hv hd hsm
  cases v with
  | mk k n b s xs ks =>
  obtain ⟨_, _, _, _, hxl, hxs⟩ := hsm
  rw [VT.av_eq, vcells_mk]
  refine VC.told ent_23 Tryz.func23 rfl Tryz.ntmps23 (by simp) (by first | rfl | simp [AV.pureB, AV.pureL, pureL_c, pures]) (by first | rfl | simp [AV.pureB, AV.pureL, pureL_c, pures]) fun hb => ?_
  clear hb
  refine walkG ?_
  rcases (by omega : (k ≠ 9 ∧ k ≠ 11 ∧ k ≠ 12 ∧ k ≠ 13) ∨ k = 9 ∨ k = 11 ∨ k = 12 ∨ k = 13) with ⟨h9, h11, h12, h13⟩ | hk
  · have e9 : (k == 9) = false := by simpa using h9
    have e11 : (k == 11) = false := by simpa using h11
    have e12 : (k == 12) = false := by simpa using h12
    have e13 : (k == 13) = false := by simpa using h13
    have hdd : vdeep (.mk k n b s xs ks) = 0 := by rw [vdeep, if_neg (by omega)]
    rw [hdd, e9]
    refine walkBF (And.intro e9 (And.intro e11 (And.intro e12 e13))) ?_
    refine ⟨by first | exact .inr rfl | exact .inl rfl, ?_⟩; rw [Tryz.results23]; simp only [resOk, resV, go_sem, Int.reduceBEq, Int.reduceLE, Int.reduceLT, Int.reduceNeg, Nat.reduceAdd, Nat.reduceEqDiff, Nat.reduceLT, Nat.reduceLeDiff, Nat.reduceMul, Nat.reduceSub, reduceCtorEq, ↓reduceIte]
    exact .c _
  have hdd : vdeep (.mk k n b s xs ks) = vdeeps 1 xs := by rw [vdeep, if_pos hk]
  rw [hdd] at hd ⊢
  clear hdd
  rcases hk with rfl | rfl | rfl | rfl
  all_goals
    refine walkB ?_
    refine VC.loop (ι := {i : Nat // i ≤ xs.length}) (fun i => [(3, .c (.v (.int .i64 (vdeeps 1 (xs.take i.1))))), (14, .c (.sl 6 (xs.map VT.cells))), (15, .c (.v (.int .i64 xs.length))), (16, .c (.v (.int .i64 i.1)))]) (fun _ => []) 0 (fun i => xs.length - i.1) ⟨0, Nat.zero_le _⟩ ?_ ?_
    · simp only [List.take_zero, vdeeps, List.map_nil, Weak, eq_self, used_is, sc_any, sc_c, sc_pp, sc_ref, sc_row, sc_agg, sc_fn, ScL, some_imp, List.forall_mem_map, go_sem, Int.reduceBEq, Int.reduceLE, Int.reduceLT, Int.reduceNeg, Nat.reduceAdd, Nat.reduceEqDiff, Nat.reduceLT, Nat.reduceLeDiff, Nat.reduceMul, Nat.reduceSub, reduceCtorEq, ↓reduceIte]
    rintro ⟨i, hi⟩
    refine walkG ?_
    refine VC.cond (by rfl) (by trivial) (fun hc => ?_) (fun hc => ?_)
    · simp only [decide_eq_true_eq] at hc
      have hlt : i < xs.length := by omega
      obtain ⟨x, hx⟩ : ∃ x, xs[i]? = some x := ⟨xs[i], List.getElem?_eq_getElem hlt⟩
      have hxm := List.mem_of_getElem? hx
      have hle := (vdeeps_le xs 1).2 x hxm
      have hcall := ih x (by
        have h1 := List.sizeOf_lt_of_mem hxm
        simp at hv
        omega) (by omega) (vsmL_mem hxs x hxm)
      have hmm : vdeeps 1 (xs.take (i + 1)) = max (vdeeps 1 (xs.take i)) (1 + vdeep x) := by
        rw [← vdeeps_snoc, List.take_add_one, hx]
        rfl
      have hxp : (xs.map VT.cells)[i]? = some x.cells := by rw [List.getElem?_map, hx]; rfl
      rw [VT.av_eq] at hcall
      have hw : IntKind.i64.wrap (1 + (vdeep x : Int)) = 1 + (vdeep x : Int) := wrap64_id (by omega) (by omega)
      have hw2 : IntKind.i64.wrap ((i : Int) + 1) = (i : Int) + 1 := wrap64_id (by omega) (by omega)
      refine walkGF (And.intro hxp (And.intro @len_vcells (And.intro @take_vcells @take_vcellsC))) ?_
      refine walkCF (@pureL_c) (hcall) ?_
      refine walkGF (And.intro hw hw2) ?_
      refine .next ⟨i + 1, by omega⟩ ?_ (by simp only []; omega)
      simp only [hmm, Weak, eq_self, used_is, sc_any, sc_c, sc_pp, sc_ref, sc_row, sc_agg, sc_fn, ScL, some_imp, List.forall_mem_map, go_sem, Int.reduceBEq, Int.reduceLE, Int.reduceLT, Int.reduceNeg, Nat.reduceAdd, Nat.reduceEqDiff, Nat.reduceLT, Nat.reduceLeDiff, Nat.reduceMul, Nat.reduceSub, reduceCtorEq, ↓reduceIte]
      exact ⟨cI (by omega), cI (by omega)⟩
    · simp only [decide_eq_false_iff_not] at hc
      obtain rfl : i = xs.length := by omega
      refine walkG ?_
      refine ⟨by first | exact .inr rfl | exact .inl rfl, ?_⟩; rw [Tryz.results23]; simp only [resOk, resV, go_sem, Int.reduceBEq, Int.reduceLE, Int.reduceLT, Int.reduceNeg, Nat.reduceAdd, Nat.reduceEqDiff, Nat.reduceLT, Nat.reduceLeDiff, Nat.reduceMul, Nat.reduceSub, reduceCtorEq, ↓reduceIte]
      rw [List.take_length]
      exact .c _

def bkeys : Nat → List (List UInt8) → Option Nat
  | n, [] => some n
  | n, y :: ys => if n ≤ 2000 then (if 2000 < y.length then none else bkeys (n + 1 + y.length) ys) else some n
mutual
def tbulk (d : Nat) : JT → Nat
  | .mk k n s ks xs => if 60 < d ∨ 2000 < s.length ∨ 2000 < ks.length ∨ 2000 < xs.length then 2001 else match bkeys (1 + s.length) ks with | none => 2001 | some n => bitems d n xs
def bitems (d : Nat) : Nat → List JT → Nat
  | n, [] => n
  | n, x :: xs => if n ≤ 2000 then bitems d (n + tbulk (d + 1) x) xs else n
end
theorem bkeys_le : ∀ (ys : List (List UInt8)) (n m : Nat), n ≤ 4001 → bkeys n ys = some m → m ≤ 4001
  | [], n, m, h, e => by simp [bkeys] at e; omega
  | y :: ys, n, m, h, e => by
    rw [bkeys] at e
    split at e
    · split at e
      · simp at e
      · exact bkeys_le ys _ m (by omega) e
    · simp at e; omega
mutual
theorem tbulk_le (d : Nat) : ∀ (t : JT), tbulk d t ≤ 4001 + 2001 * (61 - d)
  | .mk k n s ks xs => by
    rw [tbulk]
    split
    · omega
    · rename_i h
      split
      · omega
      · rename_i m hm
        exact bitems_le d xs m (by have := bkeys_le ks _ _ (by omega) hm; omega)
theorem bitems_le (d : Nat) : ∀ (xs : List JT) (n : Nat), n ≤ 4001 + 2001 * (61 - d) → bitems d n xs ≤ 4001 + 2001 * (61 - d)
  | [], n, h => by rw [bitems]; exact h
  | x :: xs, n, h => by
    rw [bitems]
    split
    · have := tbulk_le (d + 1) x
      by_cases hd : 60 < d
      · have h2 : tbulk (d + 1) x = 2001 := by
          cases x
          rw [tbulk, if_pos (by omega)]
        exact bitems_le d xs _ (by omega)
      · exact bitems_le d xs _ (by omega)
    · exact h
end
theorem bitems_ge (d : Nat) : ∀ (xs : List JT) (n : Nat), n ≤ bitems d n xs
  | [], n => by rw [bitems]; exact Nat.le_refl _
  | x :: xs, n => by
    rw [bitems]
    split
    · exact Nat.le_trans (Nat.le_add_right _ _) (bitems_ge d xs _)
    · exact Nat.le_refl _
mutual
theorem tbulk_deep (d : Nat) : ∀ (t : JT), tbulk d t ≤ 2000 → tdeep t + d ≤ 61
  | .mk k n s ks xs => fun h => by
    rw [tbulk] at h
    split at h
    · omega
    · rename_i hd
      split at h
      · omega
      · rw [tdeep]
        split
        · exact bitems_deep d xs _ 1 (by omega) h
        · omega
theorem bitems_deep (d : Nat) : ∀ (xs : List JT) (n m : Nat), m + d ≤ 61 → bitems d n xs ≤ 2000 → tdeeps m xs + d ≤ 61
  | [], n, m, hm, h => by rw [tdeeps]; exact hm
  | x :: xs, n, m, hm, h => by
    rw [bitems] at h
    split at h
    · have h1 := bitems_ge d xs (n + tbulk (d + 1) x)
      have h2 := tbulk_deep (d + 1) x (by omega)
      rw [tdeeps]
      exact bitems_deep d xs _ _ (by omega) h
    · omega
end
theorem bkeys_step {ks : List (List UInt8)} {i n : Nat} {y : List UInt8} (hy : ks[i]? = some y) (hn : n ≤ 2000) (hl : y.length ≤ 2000) : bkeys n (ks.drop i) = bkeys (n + 1 + y.length) (ks.drop (i + 1)) := by
  obtain ⟨hlt, rfl⟩ := List.getElem?_eq_some_iff.1 hy
  rw [List.drop_eq_getElem_cons hlt, bkeys, if_pos hn, if_neg (by omega)]
theorem bkeys_none {ks : List (List UInt8)} {i n : Nat} {y : List UInt8} (hy : ks[i]? = some y) (hn : n ≤ 2000) (hl : 2000 < y.length) : bkeys n (ks.drop i) = none := by
  obtain ⟨hlt, rfl⟩ := List.getElem?_eq_some_iff.1 hy
  rw [List.drop_eq_getElem_cons hlt, bkeys, if_pos hn, if_pos hl]
theorem bkeys_end {ks : List (List UInt8)} {i n : Nat} (h : ¬ (i < ks.length ∧ n ≤ 2000)) : bkeys n (ks.drop i) = some n := by
  by_cases hlt : i < ks.length
  · rw [List.drop_eq_getElem_cons hlt, bkeys, if_neg (by omega)]
  · rw [List.drop_of_length_le (by omega), bkeys]
theorem bitems_step {d : Nat} {xs : List JT} {i n : Nat} {x : JT} (hx : xs[i]? = some x) (hn : n ≤ 2000) : bitems d n (xs.drop i) = bitems d (n + tbulk (d + 1) x) (xs.drop (i + 1)) := by
  obtain ⟨hlt, rfl⟩ := List.getElem?_eq_some_iff.1 hx
  rw [List.drop_eq_getElem_cons hlt, bitems, if_pos hn]
theorem bitems_end {d : Nat} {xs : List JT} {i n : Nat} (h : ¬ (i < xs.length ∧ n ≤ 2000)) : bitems d n (xs.drop i) = n := by
  by_cases hlt : i < xs.length
  · rw [List.drop_eq_getElem_cons hlt, bitems, if_neg (by omega)]
  · rw [List.drop_of_length_le (by omega), bitems]
set_option maxRecDepth 100000 in
set_option maxHeartbeats 800000 in
theorem bulk_told : ∀ (m : Nat) (t : JT), SizeOf.sizeOf t ≤ m → ∀ (d : Nat) (z : Int), d ≤ 61 → z = (d : Int) → Told Tryz.prog 75 [t.av, .c (.v (.int .i64 2000)), .c (.v (.int .i64 z))] (.c (.v (.int .i64 (tbulk d t)))) := by
  intro m
  induction m with
  | zero => intro t ht; cases t; simp at ht
  | succ m ih =>
  intro t ht d z hd hz
  cases t with
  | mk k n s ks xs =>
  have hbl := tbulk_le d (.mk k n s ks xs)
  have hbi := bitems_le d xs
  refine VC.told ent_75 Tryz.func75 rfl Tryz.ntmps75 (by simp) rfl rfl fun hb => ?_
  simp only [JT.av, cells_mk, List.map_cons, List.map_nil, abd_agg, abd_c, pbd_v, pbd_sl, List.mem_cons, List.not_mem_nil, or_false, forall_eq_or_imp, forall_eq, true_and, List.length_map] at hb ⊢
  clear hb
  have hw21 : IntKind.i64.wrap (2000 + 1) = 2001 := by rfl
  rw [tbulk] at hbl ⊢
  refine walkGF (@str_size) ?_
  refine VC.cond (by rfl) (by trivial) (fun hc => ?_) (fun hc => ?_)
  · have hcc : 60 < d ∨ 2000 < s.length ∨ 2000 < ks.length ∨ 2000 < xs.length := by
      simp at hc
      omega
    rw [if_pos hcc]
    refine walkGF (hw21) ?_
    refine ⟨.inr rfl, ?_⟩
    rw [Tryz.results75]
    simp only [resOk, resV, go_sem, Int.reduceBEq, Int.reduceLE, Int.reduceLT, Int.reduceNeg, Nat.reduceAdd, Nat.reduceEqDiff, Nat.reduceLT, Nat.reduceLeDiff, Nat.reduceMul, Nat.reduceSub, reduceCtorEq, ↓reduceIte]
    exact .c _
  · have hcc : ¬ (60 < d ∨ 2000 < s.length ∨ 2000 < ks.length ∨ 2000 < xs.length) := by
      simp at hc
      omega
    rw [if_neg hcc] at hbl ⊢
    clear hc
    obtain ⟨V, hV⟩ : ∃ V, V = bkeys (1 + s.length) ks := ⟨_, rfl⟩
    rw [← hV] at hbl ⊢
    have hw1 : IntKind.i64.wrap (1 + (s.length : Int)) = 1 + (s.length : Int) := wrap64_id (by omega) (by omega)
    refine walkGF (And.intro @cells_mk (And.intro @str_size hw1)) ?_
    refine VC.loop (ι := {p : Nat × Nat // p.1 ≤ ks.length ∧ p.2 ≤ 4001 ∧ bkeys p.2 (ks.drop p.1) = V}) (fun p => [(1, .c (.v (.int .i64 2000))), (2, .c (.v (.int .i64 z))), (3, .ref 0 1 0 0), (7, .c (.v (.int .i64 p.1.2))), (8, .c (.v (.int .i64 p.1.1)))])
      (fun _ => [(0, ⟨false, 36, 5, [(JT.mk k n s ks xs).cells.map .c]⟩)]) 8 (fun p => ks.length - p.1.1) ⟨(0, 1 + s.length), Nat.zero_le _, by simp only []; omega, by simpa using hV.symm⟩ ?_ ?_
    · simp only [cells_mk, Weak, eq_self, used_is, sc_any, sc_c, sc_pp, sc_ref, sc_row, sc_agg, sc_fn, ScL, some_imp, List.forall_mem_map, go_sem, Int.reduceBEq, Int.reduceLE, Int.reduceLT, Int.reduceNeg, Nat.reduceAdd, Nat.reduceEqDiff, Nat.reduceLT, Nat.reduceLeDiff, Nat.reduceMul, Nat.reduceSub, reduceCtorEq, ↓reduceIte]
      all_goals first | rfl | exact cI (by omega)
    rintro ⟨⟨i, b⟩, hi, hb, hbk⟩
    simp only [] at hi hb hbk ⊢
    refine walkGF (@cells_mk) ?_
    refine VC.cond (by rfl) (by trivial) (fun hc => ?_) (fun hc => ?_)
    · have hcc : i < ks.length ∧ b ≤ 2000 := by
        simp at hc
        omega
      clear hc
      obtain ⟨y, hy⟩ : ∃ y, ks[i]? = some y := ⟨ks[i], List.getElem?_eq_getElem hcc.1⟩
      (repeat (first | refine pass ?_ | refine VC.region (by rfl) (by rfl) ?_ | (refine AO.step fun K hK => ?_; simp only [cells_mk, List.getElem?_map, hy, sPV, str_size, go_sem, Int.reduceBEq, Int.reduceLE, Int.reduceLT, Int.reduceNeg, Nat.reduceAdd, Nat.reduceEqDiff, Nat.reduceLT, Nat.reduceLeDiff, Nat.reduceMul, Nat.reduceSub, reduceCtorEq, ↓reduceIte]; (first | refine gsel_skip ?_ | refine gsel_go ?_ | skip); (first | refine hK _ _ _ ?_ | refine ⟨by first | omega | exact ⟨_, rfl, rfl⟩ | exact fun _ => ⟨_, rfl, rfl⟩ | (intro h; simp only [cells_mk, List.getElem?_map, hy, sPV, str_size, h, true_and]; omega) | (clear hK; intro h; simp_all <;> omega), hK _ _ _ ?_⟩); clear hK K) | refine VC.draw mixP (by rfl) (by rfl) ?_ | refine ⟨okd_of (by kernel_rfl), ?_⟩ | refine BQ.other (by decide) ?_ | refine VC.seq ?_ | refine AO.nil ?_ | refine VC.block ?_))
      refine VC.cond (by rfl) (by trivial) (fun hc => ?_) (fun hc => ?_)
      · have hl : 2000 < y.length := by
          simp at hc
          omega
        obtain rfl : V = none := hbk.symm.trans (bkeys_none hy hcc.2 hl)
        refine walkGF (hw21) ?_
        refine ⟨.inr rfl, ?_⟩
        rw [Tryz.results75]
        simp only [resOk, resV, go_sem, Int.reduceBEq, Int.reduceLE, Int.reduceLT, Int.reduceNeg, Nat.reduceAdd, Nat.reduceEqDiff, Nat.reduceLT, Nat.reduceLeDiff, Nat.reduceMul, Nat.reduceSub, reduceCtorEq, ↓reduceIte]
        exact .c _
      · have hl : y.length ≤ 2000 := by
          simp at hc
          omega
        have hw2 : IntKind.i64.wrap ((b : Int) + 1) = (b : Int) + 1 := wrap64_id (by omega) (by omega)
        have hw3 : IntKind.i64.wrap ((b : Int) + 1 + (y.length : Int)) = (b : Int) + 1 + (y.length : Int) := wrap64_id (by omega) (by omega)
        have hw4 : IntKind.i64.wrap ((i : Int) + 1) = (i : Int) + 1 := wrap64_id (by omega) (by omega)
        (repeat (first | refine pass ?_ | refine VC.region (by rfl) (by rfl) ?_ | (refine AO.step fun K hK => ?_; simp only [cells_mk, List.getElem?_map, hy, sPV, str_size, hw2, hw3, hw4, go_sem, Int.reduceBEq, Int.reduceLE, Int.reduceLT, Int.reduceNeg, Nat.reduceAdd, Nat.reduceEqDiff, Nat.reduceLT, Nat.reduceLeDiff, Nat.reduceMul, Nat.reduceSub, reduceCtorEq, ↓reduceIte]; (first | refine gsel_skip ?_ | refine gsel_go ?_ | skip); (first | refine hK _ _ _ ?_ | refine ⟨by first | omega | exact ⟨_, rfl, rfl⟩ | exact fun _ => ⟨_, rfl, rfl⟩ | (intro h; simp only [cells_mk, List.getElem?_map, hy, sPV, str_size, hw2, hw3, hw4, h, true_and]; omega) | (clear hK; intro h; simp_all <;> omega), hK _ _ _ ?_⟩); clear hK K) | refine VC.draw mixP (by rfl) (by rfl) ?_ | refine ⟨okd_of (by kernel_rfl), ?_⟩ | refine BQ.other (by decide) ?_ | refine VC.seq ?_ | refine AO.nil ?_ | refine VC.block ?_))
        refine .next ⟨(i + 1, b + 1 + y.length), by simp only []; omega, by simp only []; omega, by simp only []; rw [← hbk, bkeys_step hy hcc.2 hl]⟩ ?_ (by simp only []; omega)
        simp only [cells_mk, Weak, eq_self, used_is, sc_any, sc_c, sc_pp, sc_ref, sc_row, sc_agg, sc_fn, ScL, some_imp, List.forall_mem_map, go_sem, Int.reduceBEq, Int.reduceLE, Int.reduceLT, Int.reduceNeg, Nat.reduceAdd, Nat.reduceEqDiff, Nat.reduceLT, Nat.reduceLeDiff, Nat.reduceMul, Nat.reduceSub, reduceCtorEq, ↓reduceIte]
        exact ⟨cI (by omega), cI (by omega)⟩
    · have hcc : ¬ (i < ks.length ∧ b ≤ 2000) := by
        simp at hc
        omega
      clear hc
      obtain rfl : V = some b := hbk.symm.trans (bkeys_end hcc)
      simp only [] at hbl ⊢
      obtain ⟨V, hV2⟩ : ∃ V, V = bitems d b xs := ⟨_, rfl⟩
      rw [← hV2] at hbl ⊢
      refine walkG ?_
      refine VC.loop (ι := {p : Nat × Nat // p.1 ≤ xs.length ∧ p.2 ≤ 4001 + 2001 * (61 - d) ∧ bitems d p.2 (xs.drop p.1) = V}) (fun p => [(1, .c (.v (.int .i64 2000))), (2, .c (.v (.int .i64 z))), (3, .ref 0 1 0 0), (7, .c (.v (.int .i64 p.1.2))), (9, .c (.v (.int .i64 p.1.1)))])
        (fun _ => [(0, ⟨false, 36, 5, [(JT.mk k n s ks xs).cells.map .c]⟩)]) 8 (fun p => xs.length - p.1.1) ⟨(0, b), Nat.zero_le _, by simp only []; omega, by simpa using hV2.symm⟩ ?_ ?_
      · simp only [cells_mk, Weak, eq_self, used_is, sc_any, sc_c, sc_pp, sc_ref, sc_row, sc_agg, sc_fn, ScL, some_imp, List.forall_mem_map, go_sem, Int.reduceBEq, Int.reduceLE, Int.reduceLT, Int.reduceNeg, Nat.reduceAdd, Nat.reduceEqDiff, Nat.reduceLT, Nat.reduceLeDiff, Nat.reduceMul, Nat.reduceSub, reduceCtorEq, ↓reduceIte]
        all_goals rfl
      clear hi hcc hbk
      rintro ⟨⟨i, c⟩, hi, hcb, hbt⟩
      simp only [] at hi hcb hbt ⊢
      refine walkGF (@cells_mk) ?_
      refine VC.cond (by rfl) (by trivial) (fun hc => ?_) (fun hc => ?_)
      · have hcc : i < xs.length ∧ c ≤ 2000 := by
          simp at hc
          omega
        clear hc
        obtain ⟨x, hx⟩ : ∃ x, xs[i]? = some x := ⟨xs[i], List.getElem?_eq_getElem hcc.1⟩
        have hxm := List.mem_of_getElem? hx
        have hsz : SizeOf.sizeOf x ≤ m := by
          have h1 := List.sizeOf_lt_of_mem hxm
          simp at ht
          omega
        have hcall := ih x hsz (d + 1) (z + 1) (by omega) (by omega)
        have hxb := tbulk_le (d + 1) x
        have hw1 : IntKind.i64.wrap (z + 1) = z + 1 := wrap64_id (by omega) (by omega)
        have hw2 : IntKind.i64.wrap ((c : Int) + (tbulk (d + 1) x : Int)) = (c : Int) + (tbulk (d + 1) x : Int) := wrap64_id (by omega) (by omega)
        have hw4 : IntKind.i64.wrap ((i : Int) + 1) = (i : Int) + 1 := wrap64_id (by omega) (by omega)
        (repeat (first | refine pass ?_ | refine VC.region (by rfl) (by rfl) ?_ | (refine AO.step fun K hK => ?_; simp only [cells_mk, List.getElem?_map, hx, len_cells, take_cells, take_cellsC, hw1, go_sem, Int.reduceBEq, Int.reduceLE, Int.reduceLT, Int.reduceNeg, Nat.reduceAdd, Nat.reduceEqDiff, Nat.reduceLT, Nat.reduceLeDiff, Nat.reduceMul, Nat.reduceSub, reduceCtorEq, ↓reduceIte]; (first | refine gsel_skip ?_ | refine gsel_go ?_ | skip); (first | refine hK _ _ _ ?_ | refine ⟨by first | omega | exact ⟨_, rfl, rfl⟩ | exact fun _ => ⟨_, rfl, rfl⟩ | (intro h; simp only [cells_mk, List.getElem?_map, hx, len_cells, take_cells, take_cellsC, hw1, h, true_and]; omega) | (clear hK; intro h; simp_all <;> omega), hK _ _ _ ?_⟩); clear hK K) | refine VC.draw mixP (by rfl) (by rfl) ?_ | refine ⟨okd_of (by kernel_rfl), ?_⟩ | refine BQ.other (by decide) ?_ | refine VC.seq ?_ | refine AO.nil ?_ | refine VC.block ?_))
        (refine AO.step fun K hK => ?_; simp only [go_sem, Int.reduceBEq, Int.reduceLE, Int.reduceLT, Int.reduceNeg, Nat.reduceAdd, Nat.reduceEqDiff, Nat.reduceLT, Nat.reduceLeDiff, Nat.reduceMul, Nat.reduceSub, reduceCtorEq, ↓reduceIte, pureL_c]; (first | refine gsel_go ?_ | skip))
        refine .inl ⟨_, hcall, hK _ _ _ ?_⟩
        clear hK K
        refine walkGF (And.intro hw2 hw4) ?_
        refine .next ⟨(i + 1, c + tbulk (d + 1) x), by simp only []; omega, by simp only []; omega, by simp only []; rw [← hbt, bitems_step hx hcc.2]⟩ ?_ (by simp only []; omega)
        simp only [cells_mk, Weak, eq_self, used_is, sc_any, sc_c, sc_pp, sc_ref, sc_row, sc_agg, sc_fn, ScL, some_imp, List.forall_mem_map, go_sem, Int.reduceBEq, Int.reduceLE, Int.reduceLT, Int.reduceNeg, Nat.reduceAdd, Nat.reduceEqDiff, Nat.reduceLT, Nat.reduceLeDiff, Nat.reduceMul, Nat.reduceSub, reduceCtorEq, ↓reduceIte]
        exact ⟨cI (by omega), cI (by omega)⟩
      · have hcc : ¬ (i < xs.length ∧ c ≤ 2000) := by
          simp at hc
          omega
        obtain rfl : V = c := hbt.symm.trans (bitems_end hcc)
        refine walkG ?_
        refine ⟨.inr rfl, ?_⟩
        rw [Tryz.results75]
        simp only [resOk, resV, go_sem, Int.reduceBEq, Int.reduceLE, Int.reduceLT, Int.reduceNeg, Nat.reduceAdd, Nat.reduceEqDiff, Nat.reduceLT, Nat.reduceLeDiff, Nat.reduceMul, Nat.reduceSub, reduceCtorEq, ↓reduceIte]
        exact .c _
set_option maxRecDepth 100000 in
set_option maxHeartbeats 400000 in
theorem great_told (t : JT) : Told Tryz.prog 28 [t.av] (.c (.v (.bool (decide (2000 < (tbulk 0 t : Int)))))) := by
  have hB := bulk_told _ t (Nat.le_refl _) 0 0 (by omega) rfl
  refine VC.told ent_28 Tryz.func28 rfl Tryz.ntmps28 (by simp) (by simp [AV.pureB, AV.pureL, JT.av, pureL_c]) (by rfl) fun hb => ?_
  clear hb
  refine walkGF (And.intro @JT.av_eq (And.intro @len_cells @take_cellsC)) ?_
  (refine AO.step fun K hK => ?_; simp only [go_sem, Int.reduceBEq, Int.reduceLE, Int.reduceLT, Int.reduceNeg, Nat.reduceAdd, Nat.reduceEqDiff, Nat.reduceLT, Nat.reduceLeDiff, Nat.reduceMul, Nat.reduceSub, reduceCtorEq, ↓reduceIte, JT.av, len_cells, take_cellsC, pureL_c]; (first | refine gsel_go ?_ | skip))
  refine .inl ⟨_, hB, hK _ _ _ ?_⟩
  clear hK K
  refine walkG ?_
  refine ⟨.inr rfl, ?_⟩
  rw [Tryz.results28]
  simp only [resOk, resV, go_sem, Int.reduceBEq, Int.reduceLE, Int.reduceLT, Int.reduceNeg, Nat.reduceAdd, Nat.reduceEqDiff, Nat.reduceLT, Nat.reduceLeDiff, Nat.reduceMul, Nat.reduceSub, reduceCtorEq, ↓reduceIte]
  exact .c _
end

/-! A tree that is not great is small. -/
theorem bkeys_len : ∀ (ys : List (List UInt8)) (n m : Nat), bkeys n ys = some m → m ≤ 2000 → n + ys.length ≤ m ∧ ∀ y ∈ ys, y.length ≤ 2000
  | [], n, m, h, hm => by rw [bkeys] at h; obtain rfl := Option.some.inj h; exact ⟨by simp, by simp⟩
  | y :: ys, n, m, h, hm => by
    rw [bkeys] at h
    split at h
    · split at h
      · simp at h
      · obtain ⟨h1, h2⟩ := bkeys_len ys _ m h hm
        refine ⟨by simp; omega, fun z hz => ?_⟩
        rcases List.mem_cons.1 hz with rfl | hz
        · omega
        · exact h2 z hz
    · obtain rfl := Option.some.inj h
      omega
mutual
theorem bulk_sm (d : Nat) : ∀ t : JT, tbulk d t ≤ 2000 → t.sm 2000
  | .mk k n s ks xs => fun h => by
    rw [tbulk] at h
    split at h
    · omega
    · rename_i h1
      split at h
      · omega
      · rename_i m hm
        have h2 := bitems_ge d xs m
        obtain ⟨_, h3⟩ := bkeys_len ks _ m hm (by omega)
        exact ⟨by omega, by omega, h3, by omega, bitems_sm d m xs h⟩
theorem bitems_sm (d n : Nat) : ∀ xs : List JT, bitems d n xs ≤ 2000 → JT.smL 2000 xs
  | [] => fun _ => trivial
  | x :: xs => fun h => by
    rw [bitems] at h
    split at h
    · have := bitems_ge d xs (n + tbulk (d + 1) x)
      exact ⟨bulk_sm (d + 1) x (by omega), bitems_sm d _ xs h⟩
    · omega
end
section
attribute [local go_sem] opx opE ev okx gcond bnd okO AV.get AV.okb cAV upd_at putd_some putd_none wrs_nil wrs_cons look_nil look_cons st argT_at bpick_and bpick_or bpick_true bpick_false binV binI binS binVOk binOk isShift binSOk unV unVOk loadV loadP cellsA zeroA Blkd.len setE grown moreA moreR moreOk eqRes pv fillA fillE putSeg AV.cellish AV.pureL AV.pureB lentL_is ex_some AV.ren AV.renL renL_c Blkd.ren rho wrM renN lentOk rhoE keepM endOk tyA_2 tyA_3 tyA_4 tyA_5 tyA_6 tyA_7 tyA_8 tyA_9 tyA_10 tyA_11 tyA_12 tyA_13 tyA_14 tyA_15 tyA_16 tyA_17 tyA_18 tyA_19 tyA_21 tyA_22 tyA_23 tyA_24 tyA_29 tyA_30 tyA_31 tyA_32 tyA_33 tyA_34 tyA_35 tyA_36 tyA_37 tyA_38 tyA_39 tyA_40 tyA_41 tyA_42 tyA_43 tyA_48 tyA_89 tyA_93 tyA_107 tyA_108 tyA_109 tyA_113 tyA_114 tyA_115 tyA_116 tyA_117 tyA_119 tyA_120 tyA_121 tyA_122 tyA_131 tyA_134 tyA_135 tyA_136 tyA_137 tyA_138 tyA_154 tyA_156 tyA_157 tyA_158 tyA_159 tyA_170 tyA_180 tyA_181 tyA_182 tyA_196 tyA_202 tyA_208 tyA_209 tyA_210 tyA_211 tyA_212 tyA_213 tyA_229 tyA_230 tyA_231 tyA_241 tyA_264 tyA_268 tyA_293 tyA_294 tyA_295 tyA_311 tyA_313 tyA_321 tyA_326 tyA_334 tyA_338 tyA_340 tyA_343 tyA_344 tyA_345 tyA_346 tyA_347 tyA_348 tyA_349 tyA_351 tyA_352 Option.map_some Option.map_none Option.getD_some Option.getD_none Option.bind_some Option.bind_none List.getElem?_cons_zero List.getElem?_cons_succ List.getElem?_nil List.getElem?_toArray List.length_cons List.length_nil List.length_map List.forall_mem_map List.map_cons List.map_nil List.drop_zero List.drop_succ_cons List.drop_nil List.take_zero List.take_succ_cons List.take_nil List.mem_cons List.not_mem_nil or_false forall_eq_or_imp forall_eq List.set_cons_zero List.set_cons_succ List.cons_append List.nil_append List.append_nil List.foldl_cons List.foldl_nil List.replicate_succ List.replicate_zero List.all_cons List.all_nil if_true if_false Bool.false_eq_true ne_eq not_false_eq_true not_true_eq_false true_and and_true and_self true_implies imp_self implies_true forall_const beq_self_eq_true Bool.and_true Bool.true_and Bool.and_false Bool.false_and Bool.or_true Bool.true_or Bool.or_false Bool.false_or Bool.not_true Bool.not_false Bool.not_eq_eq_eq_not intKindOf Value.oneCell' Int.toNat_natCast beq_true beq_false Bool.not_eq_true false_implies false_or true_or or_true Nat.zero_add Nat.add_zero decide_true decide_false Int.cast_ofNat_Int Int.toNat_zero Int.toNat_one eq_self

theorem textsL_step {l : List (List UInt8)} {i n : Nat} {y : List UInt8} (hy : l[i]? = some y) (hn : n ≤ 2500) : textsL n (l.drop i) = if 2500 < y.length then 2501 else textsL (n + y.length) (l.drop (i + 1)) := by
  obtain ⟨hlt, rfl⟩ := List.getElem?_eq_some_iff.1 hy
  rw [List.drop_eq_getElem_cons hlt, textsL, if_pos hn]
theorem textsL_end {l : List (List UInt8)} {i n : Nat} (h : ¬ (i < l.length ∧ n ≤ 2500)) : textsL n (l.drop i) = n := by
  by_cases hlt : i < l.length
  · rw [List.drop_eq_getElem_cons hlt, textsL, if_neg (by omega)]
  · rw [List.drop_of_length_le (by omega), textsL]
set_option maxRecDepth 100000 in
set_option maxHeartbeats 800000 in
theorem texts_told (l : List (List UInt8)) : Told Tryz.prog 94 [.c (.sl 1 (l.map sPV)), .c (.v (.int .i64 2500))] (.c (.v (.int .i64 (textsB l)))) := by
  obtain ⟨V, hV⟩ : ∃ V, V = textsB l := ⟨_, rfl⟩
  rw [← hV]
  unfold textsB at hV
  have hw21 : IntKind.i64.wrap (2500 + 1) = 2501 := by rfl
  refine VC.told ent_94 Tryz.func94 rfl Tryz.ntmps94 (by simp) (by first | rfl | simp [AV.pureB, AV.pureL, pureL_c, pures]) (by first | rfl | simp [AV.pureB, AV.pureL, pureL_c, pures]) fun hb => ?_
  clear hb
  refine walkG ?_
  refine VC.cond (by rfl) (by trivial) (fun hc => ?_) (fun hc => ?_)
  · have hcc : 2500 < l.length := by simp at hc; omega
    rw [if_pos hcc] at hV
    subst hV
    refine walkGF (hw21) ?_
    refine ⟨by first | exact .inr rfl | exact .inl rfl, ?_⟩; rw [Tryz.results94]; simp only [resOk, resV, go_sem, Int.reduceBEq, Int.reduceLE, Int.reduceLT, Int.reduceNeg, Nat.reduceAdd, Nat.reduceEqDiff, Nat.reduceLT, Nat.reduceLeDiff, Nat.reduceMul, Nat.reduceSub, reduceCtorEq, ↓reduceIte]
    exact .c _
  have hcc : ¬ 2500 < l.length := by simp at hc; omega
  rw [if_neg hcc] at hV
  clear hc
  refine walkG ?_
  refine VC.loop (ι := {x : Nat × Nat // x.1 ≤ l.length ∧ x.2 ≤ 5000 ∧ textsL x.2 (l.drop x.1) = V}) (fun q => [(0, .c (.sl 1 (l.map sPV))), (1, .c (.v (.int .i64 2500))), (5, .c (.v (.int .i64 (q.1.2 : Int)))), (6, .c (.v (.int .i64 (q.1.1 : Int))))]) (fun _ => []) 800 (fun q => l.length - q.1.1)
    ⟨(0, l.length), Nat.zero_le _, by simp only []; omega, by rw [List.drop_zero]; exact hV.symm⟩ ?_ ?_
  · simp only [Weak, eq_self, used_is, sc_any, sc_c, sc_pp, sc_ref, sc_row, sc_agg, sc_fn, ScL, some_imp, List.forall_mem_map, go_sem, Int.reduceBEq, Int.reduceLE, Int.reduceLT, Int.reduceNeg, Nat.reduceAdd, Nat.reduceEqDiff, Nat.reduceLT, Nat.reduceLeDiff, Nat.reduceMul, Nat.reduceSub, reduceCtorEq, ↓reduceIte]
  clear hV
  rintro ⟨⟨i, n⟩, hi, hn, hV⟩
  simp only [] at hi hn hV ⊢
  refine walkG ?_
  refine VC.cond (by rfl) (by trivial) (fun hc => ?_) (fun hc => ?_)
  · have hcc : i < l.length ∧ n ≤ 2500 := by simp at hc; omega
    clear hc
    obtain ⟨y, hy⟩ : ∃ y, l[i]? = some y := ⟨l[i], List.getElem?_eq_getElem hcc.1⟩
    have hyp : (l.map sPV)[i]? = some (sPV y) := by rw [List.getElem?_map, hy]; rfl
    rw [textsL_step hy hcc.2] at hV
    have hw : IntKind.i64.wrap ((i : Int) + 1) = (i : Int) + 1 := wrap64_id (by omega) (by omega)
    refine walkGF (And.intro hyp (And.intro @sPV_eq @str_size)) ?_
    refine VC.cond (by rfl) (by trivial) (fun hc2 => ?_) (fun hc2 => ?_)
    · rw [if_pos (by simp at hc2; omega)] at hV
      subst hV
      refine walkGF (hw21) ?_
      refine ⟨by first | exact .inr rfl | exact .inl rfl, ?_⟩; rw [Tryz.results94]; simp only [resOk, resV, go_sem, Int.reduceBEq, Int.reduceLE, Int.reduceLT, Int.reduceNeg, Nat.reduceAdd, Nat.reduceEqDiff, Nat.reduceLT, Nat.reduceLeDiff, Nat.reduceMul, Nat.reduceSub, reduceCtorEq, ↓reduceIte]
      exact .c _
    · have hyl : y.length ≤ 2500 := by simp at hc2; omega
      rw [if_neg (by omega)] at hV
      have hw2 : IntKind.i64.wrap ((n : Int) + (y.length : Int)) = ((n + y.length : Nat) : Int) := by rw [wrap64_id (by omega) (by omega)]; rfl
      refine walkGF (And.intro hyp (And.intro @sPV_eq (And.intro @str_size (And.intro hw hw2)))) ?_
      refine .next ⟨(i + 1, n + y.length), by simp only []; omega, by simp only []; omega, hV⟩ ?_ (by simp only []; omega)
      simp only [Weak, eq_self, used_is, sc_any, sc_c, sc_pp, sc_ref, sc_row, sc_agg, sc_fn, ScL, some_imp, List.forall_mem_map, go_sem, Int.reduceBEq, Int.reduceLE, Int.reduceLT, Int.reduceNeg, Nat.reduceAdd, Nat.reduceEqDiff, Nat.reduceLT, Nat.reduceLeDiff, Nat.reduceMul, Nat.reduceSub, reduceCtorEq, ↓reduceIte]
      try exact cI (by omega)
  · have hcc : ¬ (i < l.length ∧ n ≤ 2500) := by simp at hc; omega
    rw [textsL_end hcc] at hV
    subst hV
    refine walkG ?_
    refine ⟨by first | exact .inr rfl | exact .inl rfl, ?_⟩; rw [Tryz.results94]; simp only [resOk, resV, go_sem, Int.reduceBEq, Int.reduceLE, Int.reduceLT, Int.reduceNeg, Nat.reduceAdd, Nat.reduceEqDiff, Nat.reduceLT, Nat.reduceLeDiff, Nat.reduceMul, Nat.reduceSub, reduceCtorEq, ↓reduceIte]
    exact .c _
theorem fieldsB_step {l : List FT} {i n : Nat} {f : FT} (hf : l[i]? = some f) (hn : n ≤ 2500) : fieldsB n (l.drop i) = if 2500 < f.name.length then none else fieldsB (n + f.name.length + textsB f.aliases + tbulk5 0 f.dflt) (l.drop (i + 1)) := by
  obtain ⟨hlt, rfl⟩ := List.getElem?_eq_some_iff.1 hf
  rw [List.drop_eq_getElem_cons hlt, fieldsB, if_pos hn]
theorem fieldsB_end {l : List FT} {i n : Nat} (h : ¬ (i < l.length ∧ n ≤ 2500)) : fieldsB n (l.drop i) = some n := by
  by_cases hlt : i < l.length
  · rw [List.drop_eq_getElem_cons hlt, fieldsB, if_neg (by omega)]
  · rw [List.drop_of_length_le (by omega), fieldsB]
theorem nodesB_end {l : List NT} {i n : Nat} (h : ¬ (i < l.length ∧ n ≤ 2500)) : nodesB n (l.drop i) = n := by
  by_cases hlt : i < l.length
  · rw [List.drop_eq_getElem_cons hlt, nodesB, if_neg (by omega)]
  · rw [List.drop_of_length_le (by omega), nodesB]
theorem nodesB_step {l : List NT} {i n : Nat} {x : NT} (hx : l[i]? = some x) (hn : n ≤ 2500) : nodesB n (l.drop i) = if 2500 < x.name.length ∨ 2500 < x.fields.length ∨ 2500 < x.branches.length ∨ 2500 < x.dflt.length then 2501 else
      match fieldsB (n + x.name.length + x.fields.length + x.branches.length + x.dflt.length + textsB x.aliases + textsB x.symbols) x.fields with | none => 2501 | some m => nodesB m (l.drop (i + 1)) := by
  obtain ⟨hlt, rfl⟩ := List.getElem?_eq_some_iff.1 hx
  rw [List.drop_eq_getElem_cons hlt, nodesB, if_pos hn]
  generalize fieldsB _ _ = F
  cases F <;> rfl
set_option maxRecDepth 100000 in
set_option maxHeartbeats 1600000 in
theorem sbulk_told (s : ST) : Told Tryz.prog 51 [s.av, .c (.v (.int .i64 2500))] (.c (.v (.int .i64 (sbulk s)))) := by
  obtain ⟨V, hV⟩ : ∃ V, V = sbulk s := ⟨_, rfl⟩
  rw [← hV]
  unfold sbulk at hV
  have hw21 : IntKind.i64.wrap (2500 + 1) = 2501 := by rfl
  rw [ST.av_eq, scells_mk]
  refine VC.told ent_51 Tryz.func51 rfl Tryz.ntmps51 (by simp) (by first | rfl | simp [AV.pureB, AV.pureL, pureL_c, pures]) (by first | rfl | simp [AV.pureB, AV.pureL, pureL_c, pures]) fun hb => ?_
  clear hb
  refine walkG ?_
  refine VC.cond (by rfl) (by trivial) (fun hc => ?_) (fun hc => ?_)
  · have hcc : 2500 < s.nodes.length := by simp at hc; omega
    rw [if_pos hcc] at hV
    subst hV
    refine walkGF (hw21) ?_
    refine ⟨by first | exact .inr rfl | exact .inl rfl, ?_⟩; rw [Tryz.results51]; simp only [resOk, resV, go_sem, Int.reduceBEq, Int.reduceLE, Int.reduceLT, Int.reduceNeg, Nat.reduceAdd, Nat.reduceEqDiff, Nat.reduceLT, Nat.reduceLeDiff, Nat.reduceMul, Nat.reduceSub, reduceCtorEq, ↓reduceIte]
    exact .c _
  have hcc : ¬ 2500 < s.nodes.length := by simp at hc; omega
  rw [if_neg hcc] at hV
  clear hc
  refine walkG ?_
  refine VC.loop (ι := {x : Nat × Nat // x.1 ≤ s.nodes.length ∧ x.2 ≤ 300000 ∧ nodesB x.2 (s.nodes.drop x.1) = V}) (fun q => [(1, .c (.v (.int .i64 2500))), (2, .ref 0 1 0 0), (5, .c (.v (.int .i64 (q.1.2 : Int)))), (6, .c (.v (.int .i64 (q.1.1 : Int))))])
    (fun q => [(0, ⟨false, 24, 2, [[.c (.sl 10 (s.nodes.map NT.cells)), .c (.v (.int .i64 s.root))]]⟩)]) 800 (fun q => s.nodes.length - q.1.1)
    ⟨(0, s.nodes.length), Nat.zero_le _, by simp only []; omega, by rw [List.drop_zero]; exact hV.symm⟩ ?_ ?_
  · simp only [Weak, eq_self, used_is, sc_any, sc_c, sc_pp, sc_ref, sc_row, sc_agg, sc_fn, ScL, some_imp, List.forall_mem_map, go_sem, Int.reduceBEq, Int.reduceLE, Int.reduceLT, Int.reduceNeg, Nat.reduceAdd, Nat.reduceEqDiff, Nat.reduceLT, Nat.reduceLeDiff, Nat.reduceMul, Nat.reduceSub, reduceCtorEq, ↓reduceIte]
  clear hV
  rintro ⟨⟨i, b⟩, hi, hb, hV⟩
  simp only [] at hi hb hV ⊢
  refine walkG ?_
  refine VC.cond (by rfl) (by trivial) (fun hc => ?_) (fun hc => ?_)
  · have hcc2 : i < s.nodes.length ∧ b ≤ 2500 := by simp at hc; omega
    clear hc
    obtain ⟨x, hx⟩ : ∃ x, s.nodes[i]? = some x := ⟨s.nodes[i], List.getElem?_eq_getElem hcc2.1⟩
    have hxp : (s.nodes.map NT.cells)[i]? = some x.cells := by rw [List.getElem?_map, hx]; rfl
    rw [nodesB_step hx hcc2.2] at hV
    have hw : IntKind.i64.wrap ((i : Int) + 1) = (i : Int) + 1 := wrap64_id (by omega) (by omega)
    refine walkGF (And.intro hxp (And.intro @ncells_mk @str_size)) ?_
    refine VC.cond (by rfl) (by trivial) (fun hc2 => ?_) (fun hc2 => ?_)
    · rw [if_pos (by simp at hc2; omega)] at hV
      subst hV
      refine walkGF (hw21) ?_
      refine ⟨by first | exact .inr rfl | exact .inl rfl, ?_⟩; rw [Tryz.results51]; simp only [resOk, resV, go_sem, Int.reduceBEq, Int.reduceLE, Int.reduceLT, Int.reduceNeg, Nat.reduceAdd, Nat.reduceEqDiff, Nat.reduceLT, Nat.reduceLeDiff, Nat.reduceMul, Nat.reduceSub, reduceCtorEq, ↓reduceIte]
      exact .c _
    have hsm : ¬ (2500 < x.name.length ∨ 2500 < x.fields.length ∨ 2500 < x.branches.length ∨ 2500 < x.dflt.length) := by simp at hc2; omega
    rw [if_neg hsm] at hV
    clear hc2
    have hT1 := texts_told x.aliases
    have hT2 := texts_told x.symbols
    have ht1 := textsB_le x.aliases
    have ht2 := textsB_le x.symbols
    generalize textsB x.aliases = t1 at hT1 ht1 hV
    generalize textsB x.symbols = t2 at hT2 ht2 hV
    have w1 : IntKind.i64.wrap ((b : Int) + (x.name.length : Int)) = (b : Int) + (x.name.length : Int) := wrap64_id (by omega) (by omega)
    have w2 : IntKind.i64.wrap ((b : Int) + (x.name.length : Int) + (x.fields.length : Int)) = (b : Int) + (x.name.length : Int) + (x.fields.length : Int) := wrap64_id (by omega) (by omega)
    have w3 : IntKind.i64.wrap ((b : Int) + (x.name.length : Int) + (x.fields.length : Int) + (x.branches.length : Int)) = (b : Int) + (x.name.length : Int) + (x.fields.length : Int) + (x.branches.length : Int) := wrap64_id (by omega) (by omega)
    have w4 : IntKind.i64.wrap ((b : Int) + (x.name.length : Int) + (x.fields.length : Int) + (x.branches.length : Int) + (x.dflt.length : Int)) = (b : Int) + (x.name.length : Int) + (x.fields.length : Int) + (x.branches.length : Int) + (x.dflt.length : Int) := wrap64_id (by omega) (by omega)
    have w5 : IntKind.i64.wrap ((b : Int) + (x.name.length : Int) + (x.fields.length : Int) + (x.branches.length : Int) + (x.dflt.length : Int) + (t1 : Int)) = (b : Int) + (x.name.length : Int) + (x.fields.length : Int) + (x.branches.length : Int) + (x.dflt.length : Int) + (t1 : Int) := wrap64_id (by omega) (by omega)
    have w6 : IntKind.i64.wrap ((b : Int) + (x.name.length : Int) + (x.fields.length : Int) + (x.branches.length : Int) + (x.dflt.length : Int) + (t1 : Int) + (t2 : Int)) = ((b + x.name.length + x.fields.length + x.branches.length + x.dflt.length + t1 + t2 : Nat) : Int) := by rw [wrap64_id (by omega) (by omega)]; rfl
    obtain ⟨b0, hb0⟩ : ∃ b0, b0 = b + x.name.length + x.fields.length + x.branches.length + x.dflt.length + t1 + t2 := ⟨_, rfl⟩
    have hb0l : b0 ≤ 30000 := by omega
    rw [← hb0] at hV w6
    clear hb0
    refine walkGF (And.intro @str_size (And.intro w1 (And.intro w2 (And.intro w3 (And.intro w4 (And.intro w5 w6)))))) ?_
    refine walkC (hT1) ?_
    refine walkGF (w5) ?_
    refine walkC (hT2) ?_
    refine walkGF (w6) ?_
    clear hT1 hT2 w1 w2 w3 w4 w5 w6 ht1 ht2
    obtain ⟨F, hF⟩ : ∃ F, F = fieldsB b0 x.fields := ⟨_, rfl⟩
    rw [← hF] at hV
    have hFl : ∀ m, F = some m → m ≤ 300000 := fun m hm => fieldsB_le x.fields b0 m (by omega) (hF ▸ hm)
    refine VC.loop (ι := {y : Nat × Nat // y.1 ≤ x.fields.length ∧ y.2 ≤ 300000 ∧ fieldsB y.2 (x.fields.drop y.1) = F})
      (fun q => [(1, .c (.v (.int .i64 2500))), (2, .ref 0 1 0 0), (5, .c (.v (.int .i64 (q.1.2 : Int)))), (6, .c (.v (.int .i64 (i : Int)))), (7, .ref 920 1 0 0), (8, .c (.v (.int .i64 (q.1.1 : Int))))])
      (fun q => [(0, ⟨false, 24, 2, [[.c (.sl 10 (s.nodes.map NT.cells)), .c (.v (.int .i64 s.root))]]⟩), (920, ⟨false, 33, 10, [x.cells.map .c]⟩)]) 4000 (fun q => x.fields.length - q.1.1)
      ⟨(0, b0), Nat.zero_le _, by simp only []; omega, by rw [List.drop_zero]; exact hF.symm⟩ ?_ ?_
    · simp only [ncells_mk, Weak, eq_self, used_is, sc_any, sc_c, sc_pp, sc_ref, sc_row, sc_agg, sc_fn, ScL, some_imp, List.forall_mem_map, go_sem, Int.reduceBEq, Int.reduceLE, Int.reduceLT, Int.reduceNeg, Nat.reduceAdd, Nat.reduceEqDiff, Nat.reduceLT, Nat.reduceLeDiff, Nat.reduceMul, Nat.reduceSub, reduceCtorEq, ↓reduceIte]
    clear hF
    rintro ⟨⟨k, c⟩, hk, hc, hF⟩
    simp only [] at hk hc hF ⊢
    refine walkGF (@ncells_mk) ?_
    refine VC.cond (by rfl) (by trivial) (fun hc2 => ?_) (fun hc2 => ?_)
    · have hcc3 : k < x.fields.length ∧ c ≤ 2500 := by simp at hc2; omega
      clear hc2
      obtain ⟨f, hf⟩ : ∃ f, x.fields[k]? = some f := ⟨x.fields[k], List.getElem?_eq_getElem hcc3.1⟩
      have hfp : (x.fields.map FT.cells)[k]? = some f.cells := by rw [List.getElem?_map, hf]; rfl
      rw [fieldsB_step hf hcc3.2] at hF
      have hwk : IntKind.i64.wrap ((k : Int) + 1) = (k : Int) + 1 := wrap64_id (by omega) (by omega)
      refine walkGF (And.intro @ncells_mk (And.intro hfp (And.intro @fcells_mk @str_size))) ?_
      refine VC.cond (by rfl) (by trivial) (fun hc2 => ?_) (fun hc2 => ?_)
      · rw [if_pos (by simp at hc2; omega)] at hF
        subst hF
        simp only [] at hV
        subst hV
        refine walkGF (hw21) ?_
        refine ⟨by first | exact .inr rfl | exact .inl rfl, ?_⟩; rw [Tryz.results51]; simp only [resOk, resV, go_sem, Int.reduceBEq, Int.reduceLE, Int.reduceLT, Int.reduceNeg, Nat.reduceAdd, Nat.reduceEqDiff, Nat.reduceLT, Nat.reduceLeDiff, Nat.reduceMul, Nat.reduceSub, reduceCtorEq, ↓reduceIte]
        exact .c _
      have hnl : f.name.length ≤ 2500 := by simp at hc2; omega
      rw [if_neg (by omega)] at hF
      clear hc2
      have hT := texts_told f.aliases
      have ht := textsB_le f.aliases
      have hB := bulk_told5 _ f.dflt (Nat.le_refl _) 0 0 (by omega) rfl
      have hbt := tbulk5_top f.dflt
      generalize textsB f.aliases = t at hT ht hF
      generalize tbulk5 0 f.dflt = u at hB hbt hF
      simp only [JT.av_eq] at hB
      have w1 : IntKind.i64.wrap ((c : Int) + (f.name.length : Int)) = (c : Int) + (f.name.length : Int) := wrap64_id (by omega) (by omega)
      have w2 : IntKind.i64.wrap ((c : Int) + (f.name.length : Int) + (t : Int)) = (c : Int) + (f.name.length : Int) + (t : Int) := wrap64_id (by omega) (by omega)
      have w3 : IntKind.i64.wrap ((c : Int) + (f.name.length : Int) + (t : Int) + (u : Int)) = ((c + f.name.length + t + u : Nat) : Int) := by rw [wrap64_id (by omega) (by omega)]; rfl
      refine walkGF (And.intro @ncells_mk (And.intro hfp (And.intro @fcells_mk (And.intro @str_size w1)))) ?_
      refine walkC (hT) ?_
      refine walkGF (And.intro @ncells_mk (And.intro hfp (And.intro @fcells_mk (And.intro w2 (And.intro @len_cells (And.intro @take_cells @take_cellsC)))))) ?_
      refine walkCF (@pureL_c) (hB) ?_
      refine walkGF (And.intro w3 hwk) ?_
      refine .next ⟨(k + 1, c + f.name.length + t + u), by simp only []; omega, by simp only []; omega, hF⟩ ?_ (by simp only []; omega)
      simp only [ncells_mk, Weak, eq_self, used_is, sc_any, sc_c, sc_pp, sc_ref, sc_row, sc_agg, sc_fn, ScL, some_imp, List.forall_mem_map, go_sem, Int.reduceBEq, Int.reduceLE, Int.reduceLT, Int.reduceNeg, Nat.reduceAdd, Nat.reduceEqDiff, Nat.reduceLT, Nat.reduceLeDiff, Nat.reduceMul, Nat.reduceSub, reduceCtorEq, ↓reduceIte]
      try exact cI (by omega)
    · have hcc3 : ¬ (k < x.fields.length ∧ c ≤ 2500) := by simp at hc2; omega
      rw [fieldsB_end hcc3] at hF
      subst hF
      simp only [] at hV
      refine walkGF (hw) ?_
      refine .next ⟨(i + 1, c), by simp only []; omega, hc, hV⟩ ?_ (by simp only []; omega)
      simp only [Weak, eq_self, used_is, sc_any, sc_c, sc_pp, sc_ref, sc_row, sc_agg, sc_fn, ScL, some_imp, List.forall_mem_map, go_sem, Int.reduceBEq, Int.reduceLE, Int.reduceLT, Int.reduceNeg, Nat.reduceAdd, Nat.reduceEqDiff, Nat.reduceLT, Nat.reduceLeDiff, Nat.reduceMul, Nat.reduceSub, reduceCtorEq, ↓reduceIte]
      try exact cI (by omega)
  · have hcc2 : ¬ (i < s.nodes.length ∧ b ≤ 2500) := by simp at hc; omega
    rw [nodesB_end hcc2] at hV
    subst hV
    refine walkG ?_
    refine ⟨by first | exact .inr rfl | exact .inl rfl, ?_⟩; rw [Tryz.results51]; simp only [resOk, resV, go_sem, Int.reduceBEq, Int.reduceLE, Int.reduceLT, Int.reduceNeg, Nat.reduceAdd, Nat.reduceEqDiff, Nat.reduceLT, Nat.reduceLeDiff, Nat.reduceMul, Nat.reduceSub, reduceCtorEq, ↓reduceIte]
    exact .c _
set_option maxRecDepth 100000 in
set_option maxHeartbeats 400000 in
theorem sgreat_told (s : ST) : Told Tryz.prog 14 [s.av] (.c (.v (.bool (decide (2500 < (sbulk s : Int)))))) := by
  have hB := sbulk_told s
  simp only [ST.av_eq, scells_mk, List.map_cons, List.map_nil] at hB
  rw [ST.av_eq, scells_mk]
  refine VC.told ent_14 Tryz.func14 rfl Tryz.ntmps14 (by simp) (by first | rfl | simp [AV.pureB, AV.pureL, pureL_c, pures]) (by first | rfl | simp [AV.pureB, AV.pureL, pureL_c, pures]) fun hb => ?_
  clear hb
  refine walkG ?_
  refine walkC (hB) ?_
  refine walkG ?_
  refine ⟨by first | exact .inr rfl | exact .inl rfl, ?_⟩; rw [Tryz.results14]; simp only [resOk, resV, go_sem, Int.reduceBEq, Int.reduceLE, Int.reduceLT, Int.reduceNeg, Nat.reduceAdd, Nat.reduceEqDiff, Nat.reduceLT, Nat.reduceLeDiff, Nat.reduceMul, Nat.reduceSub, reduceCtorEq, ↓reduceIte]
  exact .c _

theorem ty_fieldI {ps : List PV} (h : TyPV Tryz.prog 38 ps) : ∃ f : FT, f.dflt.inr ∧ ps = f.cells := by
  obtain ⟨f, rfl⟩ := ty_field h
  obtain ⟨hl, hf⟩ := ty_fields h tyA_38 rfl
  obtain ⟨e, he, h4⟩ := (ty_json (hf 4 _ _ rfl _ tyA_36)).1 rfl
  obtain ⟨a0, a1, a2, a3, a4⟩ := f
  have hc : (FT.mk a0 a1 a2 a3 e).cells = (FT.mk a0 a1 a2 a3 a4).cells := by
    have : ((FT.mk a0 a1 a2 a3 a4).cells.drop 4).take 5 = a4.cells := by
      simp only [fcells_mk, List.drop_succ_cons, List.drop_zero]
      exact take_cells a4
    rw [this] at h4
    rw [fcells_mk, fcells_mk, h4]
  exact ⟨⟨a0, a1, a2, a3, e⟩, he, hc.symm⟩
theorem ty_fieldsI {ps : List PV} (h : TyPV Tryz.prog 30 ps) : ∃ fs : List FT, (∀ f ∈ fs, f.dflt.inr) ∧ ps = [.sl 9 (fs.map FT.cells)] := by
  obtain ⟨es, rfl, hx⟩ := ty_sl h Tryz.underlying30
  rw [cells_of tyA_38]
  obtain ⟨ns, hns, rfl⟩ := list_mapP (f := FT.cells) (p := fun f => f.dflt.inr) fun q hq => ty_fieldI (hx q hq)
  exact ⟨ns, hns, rfl⟩
theorem ty_nodeI {ps : List PV} (h : TyPV Tryz.prog 33 ps) : ∃ n : NT, (∀ f ∈ n.fields, f.dflt.inr) ∧ ps = n.cells := by
  obtain ⟨n, rfl⟩ := ty_node h
  obtain ⟨hl, hf⟩ := ty_fields h tyA_33 rfl
  obtain ⟨fs, hfs, h3⟩ := ty_fieldsI (hf 3 _ _ rfl _ tyA_30)
  have h3 : [PV.sl 9 (n.fields.map FT.cells)] = [PV.sl 9 (fs.map FT.cells)] := h3
  refine ⟨{ n with fields := fs }, hfs, ?_⟩
  rw [ncells_mk, ncells_mk]
  simp only [List.cons.injEq, and_true, true_and]
  exact (List.cons.inj h3).1
theorem arg_schemaI {x : AV} (h : TyAV Tryz.prog 24 x) : ∃ s : ST, s.inr ∧ x = s.av := by
  obtain ⟨s, rfl⟩ := arg_schema h
  obtain ⟨ps, h1, h2⟩ := h
  have hps : ps = s.cells := by
    rcases h2 with ⟨_, h2⟩ | ⟨h2, _⟩
    · rw [ST.av_eq] at h2
      have : s.cells.map AV.c = ps.map AV.c := by simpa using h2
      exact ((List.map_inj_right (fun a b h => by simpa using h)).1 this).symm
    · exact absurd Tryz.underlying24 (h2 _)
  subst hps
  obtain ⟨hl, hf⟩ := ty_fields h1 tyA_24 rfl
  obtain ⟨es, h3, hx⟩ := ty_sl (hf 0 _ _ rfl _ tyA_22) Tryz.underlying22
  rw [cells_of tyA_33] at h3
  obtain ⟨ns, hns, rfl⟩ := list_mapP (f := NT.cells) (p := fun n => ∀ f ∈ n.fields, f.dflt.inr) fun q hq => ty_nodeI (hx q hq)
  have h3 : [PV.sl 10 (s.nodes.map NT.cells)] = [PV.sl 10 (ns.map NT.cells)] := h3
  refine ⟨⟨ns, s.root⟩, hns, ?_⟩
  rw [ST.av_eq, ST.av_eq, scells_mk, scells_mk, (List.cons.inj h3).1]
theorem check_good {s : ST} (hs : s.inr) (hok : rightM s = true → SayOk s.nodes) (h : checkM s = 0) : rightM s = true ∧ ∀ n ∈ s.nodes, ∀ f ∈ n.fields, f.has = true → (ofM s f.type f.dflt).2 = 0 ∧ conM s f.type (ofM s f.type f.dflt).1 (rightM s) = true := by
  unfold checkM at h
  by_cases hr : rightM s = true
  · rw [if_pos hr] at h
    refine ⟨hr, fun n hn f hf hh => ?_⟩
    by_cases hb : badN s s.nodes = true
    · rw [if_pos hb] at h
      simp at h
    · have : (ofM s f.type f.dflt).2 = 0 := by
        apply Classical.byContradiction
        intro hne
        apply hb
        unfold badN badF
        rw [List.any_eq_true]
        refine ⟨n, hn, ?_⟩
        rw [List.any_eq_true]
        refine ⟨f, hf, ?_⟩
        rw [hh, fldM, if_pos hh]
        simpa using hne
      exact ⟨this, ((of_good hok f.type (hs n hn f hf)).1 this).1⟩
  · rw [if_neg hr] at h
    simp at h
set_option maxRecDepth 100000 in
set_option maxHeartbeats 6400000 in
theorem dflts_told (s : ST) (hsi : s.inr) (a : Int) (j : JT) (hji : j.inr) : Told Tryz.prog 10 [s.av, .c (.v (.int .i64 a)), j.av] (.c (.v (.bool true))) := by
  have hS := sgreat_told s
  have hG := great_told j
  by_cases hs : 2500 < sbulk s
  · have e1 : decide (2500 < (sbulk s : Int)) = true := by simp; omega
    rw [e1] at hS
    rw [JT.av_eq]
    rw [ST.av_eq] at hS ⊢
    refine VC.told ent_10 Tryz.func10 rfl Tryz.ntmps10 (by simp) (by first | rfl | simp [AV.pureB, AV.pureL, pureL_c, pures]) (by first | rfl | simp [AV.pureB, AV.pureL, pureL_c, pures]) fun hb => ?_
    clear hb
    refine walkG ?_
    refine walkC (works13_told) ?_
    refine walkBF (And.intro @len_scells (And.intro @take_scells @take_scellsC)) ?_
    refine walkCF (@pureL_c) (hS) ?_
    refine walkBF (And.intro @len_cells (And.intro @take_cells @take_cellsC)) ?_
    refine ⟨by first | exact .inr rfl | exact .inl rfl, ?_⟩; rw [Tryz.results10]; simp only [resOk, resV, go_sem, Int.reduceBEq, Int.reduceLE, Int.reduceLT, Int.reduceNeg, Nat.reduceAdd, Nat.reduceEqDiff, Nat.reduceLT, Nat.reduceLeDiff, Nat.reduceMul, Nat.reduceSub, reduceCtorEq, ↓reduceIte]
    exact .c _
  have e1 : decide (2500 < (sbulk s : Int)) = false := by simp; omega
  rw [e1] at hS
  by_cases hj : 2000 < tbulk 0 j
  · have e2 : decide (2000 < (tbulk 0 j : Int)) = true := by simp; omega
    rw [e2] at hG
    rw [JT.av_eq] at hG ⊢
    rw [ST.av_eq] at hS ⊢
    refine VC.told ent_10 Tryz.func10 rfl Tryz.ntmps10 (by simp) (by first | rfl | simp [AV.pureB, AV.pureL, pureL_c, pures]) (by first | rfl | simp [AV.pureB, AV.pureL, pureL_c, pures]) fun hb => ?_
    clear hb
    refine walkG ?_
    refine walkC (works13_told) ?_
    refine walkBF (And.intro @len_scells (And.intro @take_scells @take_scellsC)) ?_
    refine walkCF (@pureL_c) (hS) ?_
    refine walkGF (And.intro @len_cells (And.intro @take_cells @take_cellsC)) ?_
    refine walkCF (@pureL_c) (hG) ?_
    refine walkBF (And.intro @len_cells (And.intro @take_cells @take_cellsC)) ?_
    refine ⟨by first | exact .inr rfl | exact .inl rfl, ?_⟩; rw [Tryz.results10]; simp only [resOk, resV, go_sem, Int.reduceBEq, Int.reduceLE, Int.reduceLT, Int.reduceNeg, Nat.reduceAdd, Nat.reduceEqDiff, Nat.reduceLT, Nat.reduceLeDiff, Nat.reduceMul, Nat.reduceSub, reduceCtorEq, ↓reduceIte]
    exact .c _
  have e2 : decide (2000 < (tbulk 0 j : Int)) = false := by simp; omega
  rw [e2] at hG
  have hsm := ssm_le' (sbulk_sm (s := s) (by omega))
  have hjm := sm_le (show (2000 : Nat) ≤ 1000000 by omega) j (bulk_sm 0 j (by omega))
  have hok := right_say hsm hsi
  have hO := of13_told s hsm hok a j hjm hji
  obtain ⟨g1, g2, gsm⟩ := of_good hok a hji
  have hCk := check13_told s hsm hok
  have hcg := check_good hsi hok
  have hFl := fun (hr : rightM s = true) (i k : Nat) (n : NT) (hn : s.nodes[i]? = some n) (fd : FT) (hfd : n.fields[k]? = some fd) => field13_told s hsm hr (hok hr) i k n hn (right_kind hr (List.mem_of_getElem? hn) hfd) fd hfd
  have hCon := fun (a : Int) (v : VT) (hv : v.sm 1000000) => vConforms_told s hsm v hv a
  have hgs := fun (fd : FT) (hi : fd.dflt.inr) => (of_good hok fd.type hi).2.2
  have hnl := hsm.1
  have hzero : ∀ v : VT, v = vz 0 → Told Tryz.prog 21 [v.av, .agg [.c (.v (.int .i64 0)), .c (.v (.int .i64 0)), .c (.v (.int .u64 0)), .c (.v (.slice none 0 0)), .c (.v (.slice none 0 0)), .c (.v (.slice none 0 0))]] (.c (.v (.bool true))) := by
    rintro v rfl
    have h := vsame_told _ (vz 0) (vz 0) (Nat.le_refl _)
    rw [ceq_self] at h
    refine Told.co h (.cons (.same _) (.cons ?_ .nil))
    rw [VT.av_eq, vz, vcells_mk]
    exact Co.aggL (.cons (.same _) (.cons (.same _) (.cons (.same _) (.cons (.nil 1) (.cons (.nil 6) (.cons (.nil 1) .nil))))))
  have hA1 := hCon a (ofM s a j).1 gsm
  have hA2 := fun hd : vdeep (ofM s a j).1 ≤ 1000 => vdeep_told _ (ofM s a j).1 (Nat.le_refl _) hd gsm
  have hA3 := hzero (ofM s a j).1
  generalize (ofM s a j).1 = V at *
  generalize (ofM s a j).2 = E at *
  obtain ⟨CK, hCKe⟩ : ∃ CK, CK = checkM s := ⟨_, rfl⟩
  rw [← hCKe] at hCk hcg
  rw [JT.av_eq] at hG hO ⊢
  simp only [VT.av_eq] at hO hA1 hA2 hA3
  simp only [ST.av_eq, scells_mk] at hS hO hCk hFl hCon hA1 ⊢
  -- what follows the first condition
  by_cases hE : E = 0
  · subst hE
    obtain ⟨hc, hd⟩ := g1 rfl
    rw [hc] at hA1
    have hA2 := hA2 (by omega)
    have e20 : decide ((vdeep V : Int) > 20) = false := by simp; omega
    clear g1 g2 hA3 hzero
    refine VC.told ent_10 Tryz.func10 rfl Tryz.ntmps10 (by simp) (by first | rfl | simp [AV.pureB, AV.pureL, pureL_c, pures]) (by first | rfl | simp [AV.pureB, AV.pureL, pureL_c, pures]) fun hb => ?_
    clear hb
    refine walkG ?_
    refine walkC (works13_told) ?_
    refine walkBF (And.intro @len_scells (And.intro @take_scells (And.intro @take_scellsC @scells_mk))) ?_
    refine walkCF (@pureL_c) (hS) ?_
    refine walkGF (And.intro @len_cells (And.intro @take_cells @take_cellsC)) ?_
    refine walkCF (@pureL_c) (hG) ?_
    refine walkBF (And.intro @len_cells (And.intro @take_cells @take_cellsC)) ?_
    refine walkCF (@pureL_c) (hO) ?_
    refine walkGF (And.intro @len_vcells (And.intro @take_vcells @take_vcellsC)) ?_
    refine walkCF (@pureL_c) (hA1) ?_
    refine walkGF (And.intro @len_vcells (And.intro @take_vcells @take_vcellsC)) ?_
    refine walkCF (@pureL_c) (hA2) ?_
    refine walkBF (And.intro e20 (And.intro @len_vcells (And.intro @take_vcells @take_vcellsC))) ?_
    refine walkC (hCk) ?_
    by_cases hck : CK = 0
    rotate_left
    · have eck : (CK != 0) = true := by simpa using hck
      refine walkBF (eck) ?_
      refine ⟨by first | exact .inr rfl | exact .inl rfl, ?_⟩; rw [Tryz.results10]; simp only [resOk, resV, go_sem, Int.reduceBEq, Int.reduceLE, Int.reduceLT, Int.reduceNeg, Nat.reduceAdd, Nat.reduceEqDiff, Nat.reduceLT, Nat.reduceLeDiff, Nat.reduceMul, Nat.reduceSub, reduceCtorEq, ↓reduceIte]
      exact .c _
    have eck : (CK != 0) = false := by simpa using hck
    obtain ⟨hr, hgood⟩ := hcg hck
    have hFl := hFl hr
    rw [hr] at hCon hgood
    refine walkBF (eck) ?_
    refine VC.loop (ι := {i : Nat // i ≤ s.nodes.length}) (fun q => [(3, .ref 0 1 0 0), (58, .c (.sl 10 (s.nodes.map NT.cells))), (59, .c (.v (.int .i64 (s.nodes.length : Int)))), (60, .c (.v (.int .i64 (q.1 : Int))))])
      (fun _ => [(0, ⟨false, 24, 2, [[.c (.sl 10 (s.nodes.map NT.cells)), .c (.v (.int .i64 s.root))]]⟩)]) 2000 (fun q => s.nodes.length - q.1) ⟨0, Nat.zero_le _⟩ ?_ ?_
    · simp only [Weak, eq_self, used_is, sc_any, sc_c, sc_pp, sc_ref, sc_row, sc_agg, sc_fn, ScL, some_imp, List.forall_mem_map, go_sem, Int.reduceBEq, Int.reduceLE, Int.reduceLT, Int.reduceNeg, Nat.reduceAdd, Nat.reduceEqDiff, Nat.reduceLT, Nat.reduceLeDiff, Nat.reduceMul, Nat.reduceSub, reduceCtorEq, ↓reduceIte]
      all_goals rfl
    rintro ⟨i, hi⟩
    simp only []
    refine walkG ?_
    refine VC.cond (by rfl) (by trivial) (fun h1 => ?_) (fun h1 => ?_)
    rotate_left
    · refine walkG ?_
      refine ⟨by first | exact .inr rfl | exact .inl rfl, ?_⟩; rw [Tryz.results10]; simp only [resOk, resV, go_sem, Int.reduceBEq, Int.reduceLE, Int.reduceLT, Int.reduceNeg, Nat.reduceAdd, Nat.reduceEqDiff, Nat.reduceLT, Nat.reduceLeDiff, Nat.reduceMul, Nat.reduceSub, reduceCtorEq, ↓reduceIte]
      exact .c _
    have hlt : i < s.nodes.length := by simp at h1; omega
    obtain ⟨n, hn⟩ : ∃ n, s.nodes[i]? = some n := ⟨s.nodes[i], List.getElem?_eq_getElem hlt⟩
    have hxp : (s.nodes.map NT.cells)[i]? = some n.cells := by rw [List.getElem?_map, hn]; rfl
    have hw : IntKind.i64.wrap ((i : Int) + 1) = (i : Int) + 1 := wrap64_id (by omega) (by omega)
    have hfl := (hsm.2 n (List.mem_of_getElem? hn)).2.2.2.2.2.1
    refine walkGF (And.intro hxp @ncells_mk) ?_
    refine VC.loop (ι := {k : Nat // k ≤ n.fields.length}) (fun q => [(3, .ref 0 1 0 0), (9, .c (.v (.int .i64 (i : Int)))), (58, .c (.sl 10 (s.nodes.map NT.cells))), (59, .c (.v (.int .i64 (s.nodes.length : Int)))), (60, .c (.v (.int .i64 (i : Int)))), (66, .c (.sl 9 (n.fields.map FT.cells))), (67, .c (.v (.int .i64 (n.fields.length : Int)))), (68, .c (.v (.int .i64 (q.1 : Int))))])
      (fun _ => [(0, ⟨false, 24, 2, [[.c (.sl 10 (s.nodes.map NT.cells)), .c (.v (.int .i64 s.root))]]⟩)]) 8000 (fun q => n.fields.length - q.1) ⟨0, Nat.zero_le _⟩ ?_ ?_
    · simp only [Weak, eq_self, used_is, sc_any, sc_c, sc_pp, sc_ref, sc_row, sc_agg, sc_fn, ScL, some_imp, List.forall_mem_map, go_sem, Int.reduceBEq, Int.reduceLE, Int.reduceLT, Int.reduceNeg, Nat.reduceAdd, Nat.reduceEqDiff, Nat.reduceLT, Nat.reduceLeDiff, Nat.reduceMul, Nat.reduceSub, reduceCtorEq, ↓reduceIte]
      all_goals rfl
    rintro ⟨k, hk⟩
    simp only []
    refine walkG ?_
    refine VC.cond (by rfl) (by trivial) (fun h2 => ?_) (fun h2 => ?_)
    rotate_left
    · refine walkGF (hw) ?_
      refine .next ⟨i + 1, by omega⟩ ?_ (by simp only []; omega)
      simp only [Weak, eq_self, used_is, sc_any, sc_c, sc_pp, sc_ref, sc_row, sc_agg, sc_fn, ScL, some_imp, List.forall_mem_map, go_sem, Int.reduceBEq, Int.reduceLE, Int.reduceLT, Int.reduceNeg, Nat.reduceAdd, Nat.reduceEqDiff, Nat.reduceLT, Nat.reduceLeDiff, Nat.reduceMul, Nat.reduceSub, reduceCtorEq, ↓reduceIte]
      exact cI (by omega)
    have hlt2 : k < n.fields.length := by simp at h2; omega
    obtain ⟨fd, hfd⟩ : ∃ fd, n.fields[k]? = some fd := ⟨n.fields[k], List.getElem?_eq_getElem hlt2⟩
    have hxq : (n.fields.map FT.cells)[k]? = some fd.cells := by rw [List.getElem?_map, hfd]; rfl
    have hw2 : IntKind.i64.wrap ((k : Int) + 1) = (k : Int) + 1 := wrap64_id (by omega) (by omega)
    have hFk := hFl i k n hn fd hfd
    have hgf := hgood n (List.mem_of_getElem? hn) fd (List.mem_of_getElem? hfd)
    have hsf := hgs fd (hsi n (List.mem_of_getElem? hn) fd (List.mem_of_getElem? hfd))
    clear hFl hgood
    cases hh : fd.has with
    | false =>
      rw [show fldM s fd = (vz 0, 60) from if_neg (by simp [hh]), VT.av_eq] at hFk
      simp only [] at hFk
      refine walkGF (And.intro hxq (And.intro @fcells_mk (And.intro @len_fcells (And.intro @take_fcells (And.intro @take_fcellsC (And.intro @len_cells (And.intro @take_cells @take_cellsC))))))) ?_
      refine walkCF (@pureL_c) (hFk) ?_
      refine walkBF (And.intro @fcells_mk (And.intro @len_cells (And.intro @take_cells (And.intro @take_cellsC (And.intro hh (And.intro hw2 (And.intro @len_vcells (And.intro @take_vcells @take_vcellsC)))))))) ?_
      refine .next ⟨k + 1, by omega⟩ ?_ (by simp only []; omega)
      simp only [Weak, eq_self, used_is, sc_any, sc_c, sc_pp, sc_ref, sc_row, sc_agg, sc_fn, ScL, some_imp, List.forall_mem_map, go_sem, Int.reduceBEq, Int.reduceLE, Int.reduceLT, Int.reduceNeg, Nat.reduceAdd, Nat.reduceEqDiff, Nat.reduceLT, Nat.reduceLeDiff, Nat.reduceMul, Nat.reduceSub, reduceCtorEq, ↓reduceIte]
      exact cI (by omega)
    | true =>
      obtain ⟨q1, q2⟩ := hgf hh
      have hCn := hCon fd.type _ hsf
      rw [show fldM s fd = ofM s fd.type fd.dflt from if_pos hh, VT.av_eq, q1] at hFk
      rw [q2, VT.av_eq] at hCn
      generalize (ofM s fd.type fd.dflt).1 = W at *
      refine walkGF (And.intro hxq (And.intro @fcells_mk (And.intro @len_fcells (And.intro @take_fcells (And.intro @take_fcellsC (And.intro @len_cells (And.intro @take_cells @take_cellsC))))))) ?_
      refine walkCF (@pureL_c) (hFk) ?_
      refine walkGF (And.intro @fcells_mk (And.intro @len_cells (And.intro @take_cells (And.intro @take_cellsC (And.intro hh (And.intro hw2 (And.intro @len_vcells (And.intro @take_vcells @take_vcellsC)))))))) ?_
      refine walkCF (@pureL_c) (hCn) ?_
      refine walkBF (And.intro @fcells_mk (And.intro @len_cells (And.intro @take_cells (And.intro @take_cellsC (And.intro hh (And.intro hw2 (And.intro @len_vcells (And.intro @take_vcells @take_vcellsC)))))))) ?_
      refine .next ⟨k + 1, by omega⟩ ?_ (by simp only []; omega)
      simp only [Weak, eq_self, used_is, sc_any, sc_c, sc_pp, sc_ref, sc_row, sc_agg, sc_fn, ScL, some_imp, List.forall_mem_map, go_sem, Int.reduceBEq, Int.reduceLE, Int.reduceLT, Int.reduceNeg, Nat.reduceAdd, Nat.reduceEqDiff, Nat.reduceLT, Nat.reduceLeDiff, Nat.reduceMul, Nat.reduceSub, reduceCtorEq, ↓reduceIte]
      exact cI (by omega)
  · have hA3 := hA3 (g2 hE)
    have e0 : (E == 0) = false := by simpa using hE
    have e0' : (E != 0) = true := by simpa using hE
    clear g1 g2 hzero hA1 hA2
    refine VC.told ent_10 Tryz.func10 rfl Tryz.ntmps10 (by simp) (by first | rfl | simp [AV.pureB, AV.pureL, pureL_c, pures]) (by first | rfl | simp [AV.pureB, AV.pureL, pureL_c, pures]) fun hb => ?_
    clear hb
    refine walkG ?_
    refine walkC (works13_told) ?_
    refine walkBF (And.intro @len_scells (And.intro @take_scells (And.intro @take_scellsC @scells_mk))) ?_
    refine walkCF (@pureL_c) (hS) ?_
    refine walkGF (And.intro @len_cells (And.intro @take_cells @take_cellsC)) ?_
    refine walkCF (@pureL_c) (hG) ?_
    refine walkBF (And.intro @len_cells (And.intro @take_cells @take_cellsC)) ?_
    refine walkCF (@pureL_c) (hO) ?_
    refine walkGF (And.intro e0 (And.intro e0' (And.intro @len_vcells (And.intro @take_vcells @take_vcellsC)))) ?_
    refine walkCF (@pureL_c) (hA3) ?_
    refine walkBF (And.intro e0 (And.intro e0' (And.intro @len_vcells (And.intro @take_vcells @take_vcellsC)))) ?_
    refine walkC (hCk) ?_
    by_cases hck : CK = 0
    rotate_left
    · have eck : (CK != 0) = true := by simpa using hck
      refine walkBF (eck) ?_
      refine ⟨by first | exact .inr rfl | exact .inl rfl, ?_⟩; rw [Tryz.results10]; simp only [resOk, resV, go_sem, Int.reduceBEq, Int.reduceLE, Int.reduceLT, Int.reduceNeg, Nat.reduceAdd, Nat.reduceEqDiff, Nat.reduceLT, Nat.reduceLeDiff, Nat.reduceMul, Nat.reduceSub, reduceCtorEq, ↓reduceIte]
      exact .c _
    have eck : (CK != 0) = false := by simpa using hck
    obtain ⟨hr, hgood⟩ := hcg hck
    have hFl := hFl hr
    rw [hr] at hCon hgood
    refine walkBF (eck) ?_
    refine VC.loop (ι := {i : Nat // i ≤ s.nodes.length}) (fun q => [(3, .ref 0 1 0 0), (58, .c (.sl 10 (s.nodes.map NT.cells))), (59, .c (.v (.int .i64 (s.nodes.length : Int)))), (60, .c (.v (.int .i64 (q.1 : Int))))])
      (fun _ => [(0, ⟨false, 24, 2, [[.c (.sl 10 (s.nodes.map NT.cells)), .c (.v (.int .i64 s.root))]]⟩)]) 2000 (fun q => s.nodes.length - q.1) ⟨0, Nat.zero_le _⟩ ?_ ?_
    · simp only [Weak, eq_self, used_is, sc_any, sc_c, sc_pp, sc_ref, sc_row, sc_agg, sc_fn, ScL, some_imp, List.forall_mem_map, go_sem, Int.reduceBEq, Int.reduceLE, Int.reduceLT, Int.reduceNeg, Nat.reduceAdd, Nat.reduceEqDiff, Nat.reduceLT, Nat.reduceLeDiff, Nat.reduceMul, Nat.reduceSub, reduceCtorEq, ↓reduceIte]
      all_goals rfl
    rintro ⟨i, hi⟩
    simp only []
    refine walkG ?_
    refine VC.cond (by rfl) (by trivial) (fun h1 => ?_) (fun h1 => ?_)
    rotate_left
    · refine walkG ?_
      refine ⟨by first | exact .inr rfl | exact .inl rfl, ?_⟩; rw [Tryz.results10]; simp only [resOk, resV, go_sem, Int.reduceBEq, Int.reduceLE, Int.reduceLT, Int.reduceNeg, Nat.reduceAdd, Nat.reduceEqDiff, Nat.reduceLT, Nat.reduceLeDiff, Nat.reduceMul, Nat.reduceSub, reduceCtorEq, ↓reduceIte]
      exact .c _
    have hlt : i < s.nodes.length := by simp at h1; omega
    obtain ⟨n, hn⟩ : ∃ n, s.nodes[i]? = some n := ⟨s.nodes[i], List.getElem?_eq_getElem hlt⟩
    have hxp : (s.nodes.map NT.cells)[i]? = some n.cells := by rw [List.getElem?_map, hn]; rfl
    have hw : IntKind.i64.wrap ((i : Int) + 1) = (i : Int) + 1 := wrap64_id (by omega) (by omega)
    have hfl := (hsm.2 n (List.mem_of_getElem? hn)).2.2.2.2.2.1
    refine walkGF (And.intro hxp @ncells_mk) ?_
    refine VC.loop (ι := {k : Nat // k ≤ n.fields.length}) (fun q => [(3, .ref 0 1 0 0), (9, .c (.v (.int .i64 (i : Int)))), (58, .c (.sl 10 (s.nodes.map NT.cells))), (59, .c (.v (.int .i64 (s.nodes.length : Int)))), (60, .c (.v (.int .i64 (i : Int)))), (66, .c (.sl 9 (n.fields.map FT.cells))), (67, .c (.v (.int .i64 (n.fields.length : Int)))), (68, .c (.v (.int .i64 (q.1 : Int))))])
      (fun _ => [(0, ⟨false, 24, 2, [[.c (.sl 10 (s.nodes.map NT.cells)), .c (.v (.int .i64 s.root))]]⟩)]) 8000 (fun q => n.fields.length - q.1) ⟨0, Nat.zero_le _⟩ ?_ ?_
    · simp only [Weak, eq_self, used_is, sc_any, sc_c, sc_pp, sc_ref, sc_row, sc_agg, sc_fn, ScL, some_imp, List.forall_mem_map, go_sem, Int.reduceBEq, Int.reduceLE, Int.reduceLT, Int.reduceNeg, Nat.reduceAdd, Nat.reduceEqDiff, Nat.reduceLT, Nat.reduceLeDiff, Nat.reduceMul, Nat.reduceSub, reduceCtorEq, ↓reduceIte]
      all_goals rfl
    rintro ⟨k, hk⟩
    simp only []
    refine walkG ?_
    refine VC.cond (by rfl) (by trivial) (fun h2 => ?_) (fun h2 => ?_)
    rotate_left
    · refine walkGF (hw) ?_
      refine .next ⟨i + 1, by omega⟩ ?_ (by simp only []; omega)
      simp only [Weak, eq_self, used_is, sc_any, sc_c, sc_pp, sc_ref, sc_row, sc_agg, sc_fn, ScL, some_imp, List.forall_mem_map, go_sem, Int.reduceBEq, Int.reduceLE, Int.reduceLT, Int.reduceNeg, Nat.reduceAdd, Nat.reduceEqDiff, Nat.reduceLT, Nat.reduceLeDiff, Nat.reduceMul, Nat.reduceSub, reduceCtorEq, ↓reduceIte]
      exact cI (by omega)
    have hlt2 : k < n.fields.length := by simp at h2; omega
    obtain ⟨fd, hfd⟩ : ∃ fd, n.fields[k]? = some fd := ⟨n.fields[k], List.getElem?_eq_getElem hlt2⟩
    have hxq : (n.fields.map FT.cells)[k]? = some fd.cells := by rw [List.getElem?_map, hfd]; rfl
    have hw2 : IntKind.i64.wrap ((k : Int) + 1) = (k : Int) + 1 := wrap64_id (by omega) (by omega)
    have hFk := hFl i k n hn fd hfd
    have hgf := hgood n (List.mem_of_getElem? hn) fd (List.mem_of_getElem? hfd)
    have hsf := hgs fd (hsi n (List.mem_of_getElem? hn) fd (List.mem_of_getElem? hfd))
    clear hFl hgood
    cases hh : fd.has with
    | false =>
      rw [show fldM s fd = (vz 0, 60) from if_neg (by simp [hh]), VT.av_eq] at hFk
      simp only [] at hFk
      refine walkGF (And.intro hxq (And.intro @fcells_mk (And.intro @len_fcells (And.intro @take_fcells (And.intro @take_fcellsC (And.intro @len_cells (And.intro @take_cells @take_cellsC))))))) ?_
      refine walkCF (@pureL_c) (hFk) ?_
      refine walkBF (And.intro @fcells_mk (And.intro @len_cells (And.intro @take_cells (And.intro @take_cellsC (And.intro hh (And.intro hw2 (And.intro @len_vcells (And.intro @take_vcells @take_vcellsC)))))))) ?_
      refine .next ⟨k + 1, by omega⟩ ?_ (by simp only []; omega)
      simp only [Weak, eq_self, used_is, sc_any, sc_c, sc_pp, sc_ref, sc_row, sc_agg, sc_fn, ScL, some_imp, List.forall_mem_map, go_sem, Int.reduceBEq, Int.reduceLE, Int.reduceLT, Int.reduceNeg, Nat.reduceAdd, Nat.reduceEqDiff, Nat.reduceLT, Nat.reduceLeDiff, Nat.reduceMul, Nat.reduceSub, reduceCtorEq, ↓reduceIte]
      exact cI (by omega)
    | true =>
      obtain ⟨q1, q2⟩ := hgf hh
      have hCn := hCon fd.type _ hsf
      rw [show fldM s fd = ofM s fd.type fd.dflt from if_pos hh, VT.av_eq, q1] at hFk
      rw [q2, VT.av_eq] at hCn
      generalize (ofM s fd.type fd.dflt).1 = W at *
      refine walkGF (And.intro hxq (And.intro @fcells_mk (And.intro @len_fcells (And.intro @take_fcells (And.intro @take_fcellsC (And.intro @len_cells (And.intro @take_cells @take_cellsC))))))) ?_
      refine walkCF (@pureL_c) (hFk) ?_
      refine walkGF (And.intro @fcells_mk (And.intro @len_cells (And.intro @take_cells (And.intro @take_cellsC (And.intro hh (And.intro hw2 (And.intro @len_vcells (And.intro @take_vcells @take_vcellsC)))))))) ?_
      refine walkCF (@pureL_c) (hCn) ?_
      refine walkBF (And.intro @fcells_mk (And.intro @len_cells (And.intro @take_cells (And.intro @take_cellsC (And.intro hh (And.intro hw2 (And.intro @len_vcells (And.intro @take_vcells @take_vcellsC)))))))) ?_
      refine .next ⟨k + 1, by omega⟩ ?_ (by simp only []; omega)
      simp only [Weak, eq_self, used_is, sc_any, sc_c, sc_pp, sc_ref, sc_row, sc_agg, sc_fn, ScL, some_imp, List.forall_mem_map, go_sem, Int.reduceBEq, Int.reduceLE, Int.reduceLT, Int.reduceNeg, Nat.reduceAdd, Nat.reduceEqDiff, Nat.reduceLT, Nat.reduceLeDiff, Nat.reduceMul, Nat.reduceSub, reduceCtorEq, ↓reduceIte]
      exact cI (by omega)

mutual
def vbulk (d : Nat) : VT → Nat
  | .mk k n w s xs ks => if 80 < d ∨ 2500 < s.length ∨ 2500 < xs.length ∨ 2500 < ks.length then 2501 else match bkeys5 (1 + s.length) ks with | none => 2501 | some n => vitems d n xs
def vitems (d : Nat) : Nat → List VT → Nat
  | n, [] => n
  | n, x :: xs => if n ≤ 2500 then vitems d (n + vbulk (d + 1) x) xs else n
end
mutual
theorem vbulk_le (d : Nat) : ∀ (t : VT), vbulk d t ≤ 5001 + 2501 * (81 - d)
  | .mk k n w s xs ks => by
    rw [vbulk]
    split
    · omega
    · rename_i h
      split
      · omega
      · rename_i m hm
        exact vitems_le d xs m (by have := bkeys5_le ks _ _ (by omega) hm; omega)
theorem vitems_le (d : Nat) : ∀ (xs : List VT) (n : Nat), n ≤ 5001 + 2501 * (81 - d) → vitems d n xs ≤ 5001 + 2501 * (81 - d)
  | [], n, h => by rw [vitems]; exact h
  | x :: xs, n, h => by
    rw [vitems]
    split
    · have := vbulk_le (d + 1) x
      by_cases hd : 80 < d
      · have h2 : vbulk (d + 1) x = 2501 := by
          cases x
          rw [vbulk, if_pos (by omega)]
        exact vitems_le d xs _ (by omega)
      · exact vitems_le d xs _ (by omega)
    · exact h
end
theorem vitems_ge (d : Nat) : ∀ (xs : List VT) (n : Nat), n ≤ vitems d n xs
  | [], n => by rw [vitems]; exact Nat.le_refl _
  | x :: xs, n => by
    rw [vitems]
    split
    · exact Nat.le_trans (Nat.le_add_right _ _) (vitems_ge d xs _)
    · exact Nat.le_refl _
mutual
theorem vbulk_deep (d : Nat) : ∀ (t : VT), vbulk d t ≤ 2500 → vdeep t + d ≤ 81
  | .mk k n w s xs ks => fun h => by
    rw [vbulk] at h
    split at h
    · omega
    · rename_i hd
      split at h
      · omega
      · rw [vdeep]
        split
        · exact vitems_deep d xs _ 1 (by omega) h
        · omega
theorem vitems_deep (d : Nat) : ∀ (xs : List VT) (n m : Nat), m + d ≤ 81 → vitems d n xs ≤ 2500 → vdeeps m xs + d ≤ 81
  | [], n, m, hm, h => by rw [vdeeps]; exact hm
  | x :: xs, n, m, hm, h => by
    rw [vitems] at h
    split at h
    · have h1 := vitems_ge d xs (n + vbulk (d + 1) x)
      have h2 := vbulk_deep (d + 1) x (by omega)
      rw [vdeeps]
      exact vitems_deep d xs _ _ (by omega) h
    · omega
end
mutual
theorem vbulk_sm (d : Nat) : ∀ v : VT, v.inr → vbulk d v ≤ 2500 → v.sm 2500
  | .mk k n w s xs ks => fun hr h => by
    rw [vbulk] at h
    split at h
    · omega
    · rename_i h1
      split at h
      · omega
      · rename_i m hm
        have h2 := vitems_ge d xs m
        obtain ⟨_, h3⟩ := bkeys5_len ks _ m hm (by omega)
        exact ⟨hr.1, by omega, by omega, h3, by omega, vitems_sm d m xs hr.2 h⟩
theorem vitems_sm (d n : Nat) : ∀ xs : List VT, VT.inrL xs → vitems d n xs ≤ 2500 → VT.smL 2500 xs
  | [] => fun _ _ => trivial
  | x :: xs => fun hr h => by
    rw [vitems] at h
    split at h
    · have := vitems_ge d xs (n + vbulk (d + 1) x)
      exact ⟨vbulk_sm (d + 1) x hr.1 (by omega), vitems_sm d _ xs hr.2 h⟩
    · omega
end
end

theorem arg_place {x : AV} (h : TyAV Tryz.prog 3 x) : ∃ n : Int, (-9223372036854775808 ≤ n ∧ n ≤ 9223372036854775807) ∧ x = .c (.v (.int .i64 n)) := by
  obtain ⟨ps, h1, h2⟩ := h
  obtain ⟨n, rfl, hn⟩ := ty_int h1 Tryz.underlying3
  rcases h2 with ⟨⟨fs, h2⟩, _⟩ | ⟨_, q, h2, rfl⟩
  · simp [Tryz.underlying3] at h2
  · simp at h2
    subst h2
    exact ⟨n, wf64 hn, rfl⟩
end Go.Proofs.YtkaogeogjjcdhaaGreatDoor
