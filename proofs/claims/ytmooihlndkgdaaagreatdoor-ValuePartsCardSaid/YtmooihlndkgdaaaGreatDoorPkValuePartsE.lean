/- Texts that lead to the law ValueParts, joined. -/
import Derived.Test.YtmooihlndkgdaaaGreatDoorPkValuePartsD
import Derived.Test.YtmooihlndkgdaaaGreatDoorPkValuePartsA
import Derived.Test.YtmooihlndkgdaaaGreatDoorPkValuePartsC
import Derived.Test.YtmooihlndkgdaaaGreatDoorRows
import Derived.Test.YtmooihlndkgdaaaGreatDoorPkValuePartsB
import Derived.MakeChecks
import Derived.LaidMore
import Derived.OpenShut
namespace Go.Proofs.YtmooihlndkgdaaaGreatDoor
open Go.RowKit
set_option linter.unusedVariables false
set_option linter.unusedSimpArgs false
section

section
variable {P : Program}
theorem ty_int {t : TypeId} {k : IntKind} {ps : List PV} (h : TyPV P t ps) (hu : P.underlying t = some (.int k)) : ∃ n, ps = [.v (.int k n)] ∧ (Lit.int k n).wf = true := by
  cases h with
  | int ht hw => obtain rfl := TypeDesc.int.inj (Option.some.inj (ht.symm.trans hu)); exact ⟨_, rfl, hw⟩
  | bool ht => simp [ht] at hu
  | str ht hs => simp [ht] at hu
  | sl ht hx => simp [ht] at hu
  | struct ht hl hx => simp [ht] at hu
theorem ty_bool {t : TypeId} {ps : List PV} (h : TyPV P t ps) (hu : P.underlying t = some .bool) : ∃ b, ps = [.v (.bool b)] := by
  cases h with
  | bool ht => exact ⟨_, rfl⟩
  | int ht hw => simp [ht] at hu
  | str ht hs => simp [ht] at hu
  | sl ht hx => simp [ht] at hu
  | struct ht hl hx => simp [ht] at hu
theorem ty_str {t : TypeId} {ps : List PV} (h : TyPV P t ps) (hu : P.underlying t = some .string) : ∃ s : List UInt8, ps = [.v (.string (str s))] ∧ s.length ≤ maxLen := by
  cases h with
  | @str _ s ht hs => exact ⟨s.data.toList, by rw [str_of], by rw [← str_size, str_of]; exact hs⟩
  | bool ht => simp [ht] at hu
  | int ht hw => simp [ht] at hu
  | sl ht hx => simp [ht] at hu
  | struct ht hl hx => simp [ht] at hu
theorem ty_sl {t e : TypeId} {ps : List PV} (h : TyPV P t ps) (hu : P.underlying t = some (.slice e)) : ∃ es, ps = [.sl (P.cellsOf e) es] ∧ ∀ q ∈ es, TyPV P e q := by
  cases h with
  | sl ht hx => obtain rfl := TypeDesc.slice.inj (Option.some.inj (ht.symm.trans hu)); exact ⟨_, rfl, hx⟩
  | bool ht => simp [ht] at hu
  | int ht hw => simp [ht] at hu
  | str ht hs => simp [ht] at hu
  | struct ht hl hx => simp [ht] at hu
theorem list_map {α β : Type} {f : α → β} : ∀ {l : List β}, (∀ y ∈ l, ∃ x, y = f x) → ∃ m : List α, l = m.map f
  | [], _ => ⟨[], rfl⟩
  | y :: l, h => by
    obtain ⟨x, rfl⟩ := h y (by simp)
    obtain ⟨m, rfl⟩ := list_map (l := l) fun z hz => h z (by simp [hz])
    exact ⟨x :: m, rfl⟩
theorem list_mapP {α β : Type} {f : α → β} {p : α → Prop} : ∀ {l : List β}, (∀ y ∈ l, ∃ x, p x ∧ y = f x) → ∃ m : List α, (∀ x ∈ m, p x) ∧ l = m.map f
  | [], _ => ⟨[], by simp, rfl⟩
  | y :: l, h => by
    obtain ⟨x, hx, rfl⟩ := h y (by simp)
    obtain ⟨m, hm, rfl⟩ := list_mapP (l := l) fun z hz => h z (by simp [hz])
    exact ⟨x :: m, fun z hz => by rcases List.mem_cons.1 hz with rfl | hz; exact hx; exact hm z hz, rfl⟩
theorem wf64 {n : Int} (h : (Lit.int .i64 n).wf = true) : -9223372036854775808 ≤ n ∧ n ≤ 9223372036854775807 := by
  simp [Lit.wf, IntKind.min, IntKind.max, IntKind.signed, IntKind.bits] at h
  omega
theorem split5 {α : Type} {l : List α} (h : l.length = 5) : ∃ a b c d e, l = [a, b, c, d, e] := by
  match l, h with
  | [a, b, c, d, e], _ => exact ⟨a, b, c, d, e, rfl⟩
end
theorem fld_of {P : Program} {t : TypeId} {T : TyA} {fs : Array Field} (hT : tyA P t = some T) (hu : P.underlying t = some (.struct fs)) {i o : Nat} {t' : TypeId} (h : T.flds[i]? = some (o, t')) : ∃ f, fs[i]? = some f ∧ f.offset = o ∧ f.type = t' := by
  obtain ⟨d, ii, h1, _, rfl⟩ := tyA_some hT
  obtain rfl := Option.some.inj (hu.symm.trans h1)
  simp only [descFlds, List.getElem?_map] at h
  cases hq : fs.toList[i]? with
  | none => rw [hq] at h; simp at h
  | some f =>
    rw [hq] at h
    simp at h
    exact ⟨f, by simpa using hq, h.1, h.2⟩
theorem cells_of {P : Program} {t : TypeId} {T : TyA} (hT : tyA P t = some T) : P.cellsOf t = T.size := by
  obtain ⟨d, ii, _, h2, rfl⟩ := tyA_some hT
  simp [Program.cellsOf, h2]
theorem ty_strs {ps : List PV} (h : TyPV Tryz.prog 29 ps) : ∃ ks : List (List UInt8), ps = [.sl 1 (ks.map sPV)] := by
  obtain ⟨es, rfl, hx⟩ := ty_sl h Tryz.underlying29
  rw [cells_of tyA_9]
  obtain ⟨ks, rfl⟩ := list_map (f := sPV) fun q hq => by
    obtain ⟨s, rfl, _⟩ := ty_str (hx q hq) Tryz.underlying9
    exact ⟨s, rfl⟩
  exact ⟨ks, rfl⟩
theorem ty_fields {P : Program} {t : TypeId} {T : TyA} {ps : List PV} (h : TyPV P t ps) (hT : tyA P t = some T) (hk : T.kind = 3) :
    ps.length = T.size ∧ ∀ (i o : Nat) (t' : TypeId), T.flds[i]? = some (o, t') → ∀ T', tyA P t' = some T' → TyPV P t' ((ps.drop o).take T'.size) := by
  obtain ⟨d, ii, h1, h2, h3⟩ := tyA_some hT
  obtain ⟨fs, rfl⟩ := kind_struct (d := d) (by rw [h3] at hk; exact hk)
  cases h with
  | struct ht hlen hx =>
    obtain rfl := TypeDesc.struct.inj (Option.some.inj (ht.symm.trans h1))
    refine ⟨by rw [← cells_of hT]; exact hlen, fun i o t' h T' hT' => ?_⟩
    obtain ⟨f, hf, rfl, rfl⟩ := fld_of hT h1 h
    rw [← cells_of hT']
    exact hx i f hf
  | bool ht => simp [ht] at h1
  | int ht hw => simp [ht] at h1
  | str ht hs => simp [ht] at h1
  | sl ht hx => simp [ht] at h1
theorem ty_json : ∀ {t : TypeId} {ps : List PV}, TyPV Tryz.prog t ps → (t = 36 → ∃ j : JT, j.inr ∧ ps = j.cells) ∧ (t = 34 → ∃ xs : List JT, JT.inrL xs ∧ ps = [.sl 5 (xs.map JT.cells)]) := by
  intro t ps h
  induction h with
  | bool ht => exact ⟨fun e => by subst e; simp [Tryz.underlying36] at ht, fun e => by subst e; simp [Tryz.underlying34] at ht⟩
  | int ht hw => exact ⟨fun e => by subst e; simp [Tryz.underlying36] at ht, fun e => by subst e; simp [Tryz.underlying34] at ht⟩
  | str ht hs => exact ⟨fun e => by subst e; simp [Tryz.underlying36] at ht, fun e => by subst e; simp [Tryz.underlying34] at ht⟩
  | @sl t e es ht hx ih =>
    refine ⟨fun e => by subst e; simp [Tryz.underlying36] at ht, fun e => ?_⟩
    subst e
    obtain rfl := TypeDesc.slice.inj (Option.some.inj (ht.symm.trans Tryz.underlying34))
    obtain ⟨xs, hxs, rfl⟩ := list_mapP (f := JT.cells) (p := JT.inr) fun q hq => (ih q hq).1 rfl
    exact ⟨xs, inrL_of hxs, by rw [cells_of tyA_36]⟩
  | @struct t fs ps ht hl hx ih =>
    refine ⟨fun e => ?_, fun e => by subst e; simp [Tryz.underlying34] at ht⟩
    subst e
    have hT := tyA_36
    obtain ⟨a0, a1, a2, a3, a4, rfl⟩ := split5 (hl.trans (cells_of hT))
    obtain ⟨_, hf⟩ := ty_fields (.struct ht hl hx) hT rfl
    obtain ⟨k, h0, _⟩ := ty_int (hf 0 _ _ rfl _ tyA_3) Tryz.underlying3
    obtain ⟨n, h1, hw⟩ := ty_int (hf 1 _ _ rfl _ tyA_2) Tryz.underlying2
    obtain ⟨s, h2, _⟩ := ty_str (hf 2 _ _ rfl _ tyA_9) Tryz.underlying9
    obtain ⟨ks, h4⟩ := ty_strs (hf 4 _ _ rfl _ tyA_29)
    obtain ⟨f, g1, g2, g3⟩ := fld_of hT ht (i := 3) rfl
    obtain ⟨xs, hxs, h3⟩ := (ih 3 f g1).2 g3
    rw [g2, g3, cells_of tyA_34] at h3
    simp at h0 h1 h2 h3 h4
    subst h0 h1 h2 h3 h4
    exact ⟨.mk k n s ks xs, ⟨wf64 hw, hxs⟩, (cells_mk _ _ _ _ _).symm⟩
end

theorem drop_cut {α : Type} (l : List α) (o k : Nat) : l.drop o = (l.drop o).take k ++ l.drop (o + k) := by rw [← List.drop_drop, List.take_append_drop]
theorem ty_ints {ps : List PV} (h : TyPV Tryz.prog 31 ps) : ∃ ns : List Int, ps = [.sl 1 (ns.map iPV)] := by
  obtain ⟨es, rfl, hx⟩ := ty_sl h Tryz.underlying31
  rw [cells_of tyA_3]
  obtain ⟨ns, rfl⟩ := list_map (f := iPV) fun q hq => by
    obtain ⟨n, rfl, _⟩ := ty_int (hx q hq) Tryz.underlying3
    exact ⟨n, rfl⟩
  exact ⟨ns, rfl⟩
theorem ty_field {ps : List PV} (h : TyPV Tryz.prog 38 ps) : ∃ f : FT, ps = f.cells := by
  obtain ⟨hl, hf⟩ := ty_fields h tyA_38 rfl
  obtain ⟨a, h0, _⟩ := ty_str (hf 0 _ _ rfl _ tyA_9) Tryz.underlying9
  obtain ⟨b, h1⟩ := ty_strs (hf 1 _ _ rfl _ tyA_29)
  obtain ⟨c, h2, _⟩ := ty_int (hf 2 _ _ rfl _ tyA_3) Tryz.underlying3
  obtain ⟨d, h3⟩ := ty_bool (hf 3 _ _ rfl _ tyA_4) Tryz.underlying4
  obtain ⟨e, _, h4⟩ := (ty_json (hf 4 _ _ rfl _ tyA_36)).1 rfl
  have e0 : ps = (ps.drop 0).take 1 ++ ps.drop 1 := drop_cut ps 0 1
  have e1 : ps.drop 1 = (ps.drop 1).take 1 ++ ps.drop 2 := drop_cut ps 1 1
  have e2 : ps.drop 2 = (ps.drop 2).take 1 ++ ps.drop 3 := drop_cut ps 2 1
  have e3 : ps.drop 3 = (ps.drop 3).take 1 ++ ps.drop 4 := drop_cut ps 3 1
  have e4 : ps.drop 4 = (ps.drop 4).take 5 := (List.take_of_length_le (by rw [List.length_drop, hl]; decide)).symm
  exact ⟨⟨a, b, c, d, e⟩, e0.trans (by rw [h0, e1, h1, e2, h2, e3, h3, e4, h4]; rfl)⟩
theorem ty_fieldsL {ps : List PV} (h : TyPV Tryz.prog 30 ps) : ∃ fs : List FT, ps = [.sl 9 (fs.map FT.cells)] := by
  obtain ⟨es, rfl, hx⟩ := ty_sl h Tryz.underlying30
  rw [cells_of tyA_38]
  obtain ⟨ns, rfl⟩ := list_map (f := FT.cells) fun q hq => ty_field (hx q hq)
  exact ⟨ns, rfl⟩
theorem ty_node {ps : List PV} (h : TyPV Tryz.prog 33 ps) : ∃ n : NT, ps = n.cells := by
  obtain ⟨hl, hf⟩ := ty_fields h tyA_33 rfl
  obtain ⟨a0, h0, _⟩ := ty_int (hf 0 _ _ rfl _ tyA_3) Tryz.underlying3
  obtain ⟨a1, h1, _⟩ := ty_str (hf 1 _ _ rfl _ tyA_9) Tryz.underlying9
  obtain ⟨a2, h2⟩ := ty_strs (hf 2 _ _ rfl _ tyA_29)
  obtain ⟨a3, h3⟩ := ty_fieldsL (hf 3 _ _ rfl _ tyA_30)
  obtain ⟨a4, h4⟩ := ty_strs (hf 4 _ _ rfl _ tyA_29)
  obtain ⟨a5, h5⟩ := ty_bool (hf 5 _ _ rfl _ tyA_4) Tryz.underlying4
  obtain ⟨a6, h6, _⟩ := ty_str (hf 6 _ _ rfl _ tyA_9) Tryz.underlying9
  obtain ⟨a7, h7, _⟩ := ty_int (hf 7 _ _ rfl _ tyA_3) Tryz.underlying3
  obtain ⟨a8, h8, _⟩ := ty_int (hf 8 _ _ rfl _ tyA_3) Tryz.underlying3
  obtain ⟨a9, h9⟩ := ty_ints (hf 9 _ _ rfl _ tyA_31)
  have e0 : ps = (ps.drop 0).take 1 ++ ps.drop 1 := drop_cut ps 0 1
  have e1 : ps.drop 1 = (ps.drop 1).take 1 ++ ps.drop 2 := drop_cut ps 1 1
  have e2 : ps.drop 2 = (ps.drop 2).take 1 ++ ps.drop 3 := drop_cut ps 2 1
  have e3 : ps.drop 3 = (ps.drop 3).take 1 ++ ps.drop 4 := drop_cut ps 3 1
  have e4 : ps.drop 4 = (ps.drop 4).take 1 ++ ps.drop 5 := drop_cut ps 4 1
  have e5 : ps.drop 5 = (ps.drop 5).take 1 ++ ps.drop 6 := drop_cut ps 5 1
  have e6 : ps.drop 6 = (ps.drop 6).take 1 ++ ps.drop 7 := drop_cut ps 6 1
  have e7 : ps.drop 7 = (ps.drop 7).take 1 ++ ps.drop 8 := drop_cut ps 7 1
  have e8 : ps.drop 8 = (ps.drop 8).take 1 ++ ps.drop 9 := drop_cut ps 8 1
  have e9 : ps.drop 9 = (ps.drop 9).take 1 := (List.take_of_length_le (by rw [List.length_drop, hl]; decide)).symm
  exact ⟨⟨a0, a1, a2, a3, a4, a5, a6, a7, a8, a9⟩, e0.trans (by rw [h0, e1, h1, e2, h2, e3, h3, e4, h4, e5, h5, e6, h6, e7, h7, e8, h8, e9, h9]; rfl)⟩
theorem arg_schema {x : AV} (h : TyAV Tryz.prog 24 x) : ∃ s : ST, x = s.av := by
  obtain ⟨ps, h1, h2⟩ := h
  obtain ⟨hl, hf⟩ := ty_fields h1 tyA_24 rfl
  obtain ⟨es, h3, hx⟩ := ty_sl (hf 0 _ _ rfl _ tyA_22) Tryz.underlying22
  rw [cells_of tyA_33] at h3
  obtain ⟨ns, rfl⟩ := list_map (f := NT.cells) fun q hq => ty_node (hx q hq)
  obtain ⟨r, h4, _⟩ := ty_int (hf 1 _ _ rfl _ tyA_3) Tryz.underlying3
  have e0 : ps = (ps.drop 0).take 1 ++ ps.drop 1 := drop_cut ps 0 1
  have e1 : ps.drop 1 = (ps.drop 1).take 1 := (List.take_of_length_le (by rw [List.length_drop, hl]; decide)).symm
  have hp : ps = (ST.mk ns r).cells := e0.trans (by rw [h3, e1, h4]; rfl)
  subst hp
  rcases h2 with ⟨_, rfl⟩ | ⟨h2, _⟩
  · exact ⟨_, rfl⟩
  · exact absurd Tryz.underlying24 (h2 _)
section
attribute [local go_sem] opx opE ev okx gcond bnd okO AV.get AV.okb cAV upd_at putd_some putd_none wrs_nil wrs_cons look_nil look_cons st argT_at bpick_and bpick_or bpick_true bpick_false binV binI binS binVOk binOk isShift binSOk unV unVOk loadV loadP cellsA zeroA Blkd.len setE grown moreA moreR moreOk eqRes pv fillA fillE putSeg AV.cellish AV.pureL AV.pureB lentL_is ex_some AV.ren AV.renL renL_c Blkd.ren rho wrM renN lentOk rhoE keepM endOk tyA_2 tyA_3 tyA_4 tyA_5 tyA_6 tyA_7 tyA_8 tyA_9 tyA_10 tyA_11 tyA_12 tyA_13 tyA_14 tyA_15 tyA_16 tyA_17 tyA_18 tyA_19 tyA_21 tyA_22 tyA_23 tyA_24 tyA_29 tyA_30 tyA_31 tyA_32 tyA_33 tyA_34 tyA_35 tyA_36 tyA_37 tyA_38 tyA_39 tyA_40 tyA_41 tyA_42 tyA_43 tyA_51 tyA_73 tyA_77 tyA_99 tyA_100 tyA_101 tyA_114 tyA_120 tyA_121 tyA_122 tyA_131 tyA_132 tyA_133 tyA_134 tyA_135 tyA_138 tyA_139 tyA_140 tyA_149 tyA_163 tyA_168 tyA_210 tyA_212 tyA_219 tyA_227 tyA_231 tyA_233 tyA_237 tyA_238 tyA_239 tyA_240 tyA_241 tyA_243 tyA_244 tyA_246 tyA_247 tyA_248 tyA_251 Option.map_some Option.map_none Option.getD_some Option.getD_none Option.bind_some Option.bind_none List.getElem?_cons_zero List.getElem?_cons_succ List.getElem?_nil List.getElem?_toArray List.length_cons List.length_nil List.length_map List.forall_mem_map List.map_cons List.map_nil List.drop_zero List.drop_succ_cons List.drop_nil List.take_zero List.take_succ_cons List.take_nil List.mem_cons List.not_mem_nil or_false forall_eq_or_imp forall_eq List.set_cons_zero List.set_cons_succ List.cons_append List.nil_append List.append_nil List.foldl_cons List.foldl_nil List.replicate_succ List.replicate_zero List.all_cons List.all_nil if_true if_false Bool.false_eq_true ne_eq not_false_eq_true not_true_eq_false true_and and_true and_self true_implies imp_self implies_true forall_const beq_self_eq_true Bool.and_true Bool.true_and Bool.and_false Bool.false_and Bool.or_true Bool.true_or Bool.or_false Bool.false_or Bool.not_true Bool.not_false Bool.not_eq_eq_eq_not intKindOf Value.oneCell' Int.toNat_natCast beq_true beq_false Bool.not_eq_true false_implies false_or true_or or_true Nat.zero_add Nat.add_zero decide_true decide_false Int.cast_ofNat_Int Int.toNat_zero Int.toNat_one eq_self

mutual
def vbulk (d : Nat) : VT → Nat
  | .mk k n w s xs ks => if 80 < d ∨ 2500 < s.length ∨ 2500 < xs.length ∨ 2500 < ks.length then 2501 else match bkeys5 (1 + s.length) ks with | none => 2501 | some n => vitems d n xs
def vitems (d : Nat) : Nat → List VT → Nat
  | n, [] => n
  | n, x :: xs => if n ≤ 2500 then vitems d (n + vbulk (d + 1) x) xs else n
end
mutual
theorem vbulk_le (d : Nat) : ∀ (t : VT), vbulk d t ≤ 5001 + 2501 * (81 - d)
  | .mk k n w s xs ks => by
    rw [vbulk]
    split
    · omega
    · rename_i h
      split
      · omega
      · rename_i m hm
        exact vitems_le d xs m (by have := bkeys5_le ks _ _ (by omega) hm; omega)
theorem vitems_le (d : Nat) : ∀ (xs : List VT) (n : Nat), n ≤ 5001 + 2501 * (81 - d) → vitems d n xs ≤ 5001 + 2501 * (81 - d)
  | [], n, h => by rw [vitems]; exact h
  | x :: xs, n, h => by
    rw [vitems]
    split
    · have := vbulk_le (d + 1) x
      by_cases hd : 80 < d
      · have h2 : vbulk (d + 1) x = 2501 := by
          cases x
          rw [vbulk, if_pos (by omega)]
        exact vitems_le d xs _ (by omega)
      · exact vitems_le d xs _ (by omega)
    · exact h
end
theorem vitems_ge (d : Nat) : ∀ (xs : List VT) (n : Nat), n ≤ vitems d n xs
  | [], n => by rw [vitems]; exact Nat.le_refl _
  | x :: xs, n => by
    rw [vitems]
    split
    · exact Nat.le_trans (Nat.le_add_right _ _) (vitems_ge d xs _)
    · exact Nat.le_refl _
mutual
theorem vbulk_deep (d : Nat) : ∀ (t : VT), vbulk d t ≤ 2500 → vdeep t + d ≤ 81
  | .mk k n w s xs ks => fun h => by
    rw [vbulk] at h
    split at h
    · omega
    · rename_i hd
      split at h
      · omega
      · rw [vdeep]
        split
        · exact vitems_deep d xs _ 1 (by omega) h
        · omega
theorem vitems_deep (d : Nat) : ∀ (xs : List VT) (n m : Nat), m + d ≤ 81 → vitems d n xs ≤ 2500 → vdeeps m xs + d ≤ 81
  | [], n, m, hm, h => by rw [vdeeps]; exact hm
  | x :: xs, n, m, hm, h => by
    rw [vitems] at h
    split at h
    · have h1 := vitems_ge d xs (n + vbulk (d + 1) x)
      have h2 := vbulk_deep (d + 1) x (by omega)
      rw [vdeeps]
      exact vitems_deep d xs _ _ (by omega) h
    · omega
end
theorem vitems_step {d : Nat} {xs : List VT} {i n : Nat} {x : VT} (hx : xs[i]? = some x) (hn : n ≤ 2500) : vitems d n (xs.drop i) = vitems d (n + vbulk (d + 1) x) (xs.drop (i + 1)) := by
  obtain ⟨hlt, rfl⟩ := List.getElem?_eq_some_iff.1 hx
  rw [List.drop_eq_getElem_cons hlt, vitems, if_pos hn]
theorem vitems_end {d : Nat} {xs : List VT} {i n : Nat} (h : ¬ (i < xs.length ∧ n ≤ 2500)) : vitems d n (xs.drop i) = n := by
  by_cases hlt : i < xs.length
  · rw [List.drop_eq_getElem_cons hlt, vitems, if_neg (by omega)]
  · rw [List.drop_of_length_le (by omega), vitems]
set_option maxRecDepth 100000 in
set_option maxHeartbeats 800000 in
theorem vbulk_told : ∀ (m : Nat) (t : VT), SizeOf.sizeOf t ≤ m → ∀ (d : Nat) (z : Int), d ≤ 81 → z = (d : Int) → Told Tryz.prog 51 [t.av, .c (.v (.int .i64 2500)), .c (.v (.int .i64 z))] (.c (.v (.int .i64 (vbulk d t)))) := by
  intro m
  induction m with
  | zero => intro t ht; cases t; simp at ht
  | succ m ih =>
  intro t ht d z hd hz
  cases t with
  | mk k n w s xs ks =>
  have hbl := vbulk_le d (.mk k n w s xs ks)
  have hbi := vitems_le d xs
  refine VC.told ent_51 Tryz.func51 rfl Tryz.ntmps51 (by simp) (by first | rfl | simp [AV.pureB, AV.pureL, pureL_c, pures]) (by first | rfl | simp [AV.pureB, AV.pureL, pureL_c, pures]) fun hb => ?_
  simp only [VT.av, vcells_mk, List.map_cons, List.map_nil, abd_agg, abd_c, pbd_v, pbd_sl, List.mem_cons, List.not_mem_nil, or_false, forall_eq_or_imp, forall_eq, true_and, List.length_map] at hb ⊢
  clear hb
  have hw21 : IntKind.i64.wrap (2500 + 1) = 2501 := by rfl
  rw [vbulk] at hbl ⊢
  refine walkGF (@bytePV_len) ?_
  refine VC.cond (by rfl) (by trivial) (fun hc => ?_) (fun hc => ?_)
  · have hcc : 80 < d ∨ 2500 < s.length ∨ 2500 < xs.length ∨ 2500 < ks.length := by
      simp at hc
      omega
    rw [if_pos hcc]
    refine walkGF (hw21) ?_
    refine ⟨.inr rfl, ?_⟩
    rw [Tryz.results51]
    simp only [resOk, resV, go_sem, Int.reduceBEq, Int.reduceLE, Int.reduceLT, Int.reduceNeg, Nat.reduceAdd, Nat.reduceEqDiff, Nat.reduceLT, Nat.reduceLeDiff, Nat.reduceMul, Nat.reduceSub, reduceCtorEq, ↓reduceIte]
    exact .c _
  · have hcc : ¬ (80 < d ∨ 2500 < s.length ∨ 2500 < xs.length ∨ 2500 < ks.length) := by
      simp at hc
      omega
    rw [if_neg hcc] at hbl ⊢
    clear hc
    obtain ⟨V, hV⟩ : ∃ V, V = bkeys5 (1 + s.length) ks := ⟨_, rfl⟩
    rw [← hV] at hbl ⊢
    have hw1 : IntKind.i64.wrap (1 + (s.length : Int)) = 1 + (s.length : Int) := wrap64_id (by omega) (by omega)
    refine walkGF (And.intro @vcells_mk (And.intro @bytePV_len hw1)) ?_
    refine VC.loop (ι := {p : Nat × Nat // p.1 ≤ ks.length ∧ p.2 ≤ 5001 ∧ bkeys5 p.2 (ks.drop p.1) = V}) (fun p => [(1, .c (.v (.int .i64 2500))), (2, .c (.v (.int .i64 z))), (3, .ref 0 1 0 0), (7, .c (.v (.int .i64 p.1.2))), (8, .c (.v (.int .i64 p.1.1)))])
      (fun _ => [(0, ⟨false, 43, 6, [(VT.mk k n w s xs ks).cells.map .c]⟩)]) 8 (fun p => ks.length - p.1.1) ⟨(0, 1 + s.length), Nat.zero_le _, by simp only []; omega, by simpa using hV.symm⟩ ?_ ?_
    · simp only [vcells_mk, Weak, eq_self, used_is, sc_any, sc_c, sc_pp, sc_ref, sc_row, sc_agg, sc_fn, ScL, some_imp, List.forall_mem_map, go_sem, Int.reduceBEq, Int.reduceLE, Int.reduceLT, Int.reduceNeg, Nat.reduceAdd, Nat.reduceEqDiff, Nat.reduceLT, Nat.reduceLeDiff, Nat.reduceMul, Nat.reduceSub, reduceCtorEq, ↓reduceIte]
      all_goals first | rfl | exact cI (by omega)
    rintro ⟨⟨i, b⟩, hi, hb, hbk⟩
    simp only [] at hi hb hbk ⊢
    refine walkGF (@vcells_mk) ?_
    refine VC.cond (by rfl) (by trivial) (fun hc => ?_) (fun hc => ?_)
    · have hcc : i < ks.length ∧ b ≤ 2500 := by
        simp at hc
        omega
      clear hc
      obtain ⟨y, hy⟩ : ∃ y, ks[i]? = some y := ⟨ks[i], List.getElem?_eq_getElem hcc.1⟩
      (repeat (first | refine pass ?_ | refine VC.region (by rfl) (by rfl) ?_ | (refine AO.step fun K hK => ?_; simp only [vcells_mk, List.getElem?_map, hy, sPV, str_size, go_sem, Int.reduceBEq, Int.reduceLE, Int.reduceLT, Int.reduceNeg, Nat.reduceAdd, Nat.reduceEqDiff, Nat.reduceLT, Nat.reduceLeDiff, Nat.reduceMul, Nat.reduceSub, reduceCtorEq, ↓reduceIte]; (first | refine gsel_skip ?_ | refine gsel_go ?_ | skip); (first | refine hK _ _ _ ?_ | refine ⟨by first | omega | exact ⟨_, rfl, rfl⟩ | exact fun _ => ⟨_, rfl, rfl⟩ | (intro h; simp only [vcells_mk, List.getElem?_map, hy, sPV, str_size, h, true_and]; omega) | (clear hK; intro h; simp_all <;> omega), hK _ _ _ ?_⟩); clear hK K) | refine VC.draw mixP (by rfl) (by rfl) ?_ | refine ⟨okd_of (by kernel_rfl), ?_⟩ | refine BQ.other (by decide) ?_ | refine VC.seq ?_ | refine AO.nil ?_ | refine VC.block ?_))
      refine VC.cond (by rfl) (by trivial) (fun hc => ?_) (fun hc => ?_)
      · have hl : 2500 < y.length := by
          simp at hc
          omega
        obtain rfl : V = none := hbk.symm.trans (bkeys5_none hy hcc.2 hl)
        refine walkGF (hw21) ?_
        refine ⟨.inr rfl, ?_⟩
        rw [Tryz.results51]
        simp only [resOk, resV, go_sem, Int.reduceBEq, Int.reduceLE, Int.reduceLT, Int.reduceNeg, Nat.reduceAdd, Nat.reduceEqDiff, Nat.reduceLT, Nat.reduceLeDiff, Nat.reduceMul, Nat.reduceSub, reduceCtorEq, ↓reduceIte]
        exact .c _
      · have hl : y.length ≤ 2500 := by
          simp at hc
          omega
        have hw2 : IntKind.i64.wrap ((b : Int) + 1) = (b : Int) + 1 := wrap64_id (by omega) (by omega)
        have hw3 : IntKind.i64.wrap ((b : Int) + 1 + (y.length : Int)) = (b : Int) + 1 + (y.length : Int) := wrap64_id (by omega) (by omega)
        have hw4 : IntKind.i64.wrap ((i : Int) + 1) = (i : Int) + 1 := wrap64_id (by omega) (by omega)
        (repeat (first | refine pass ?_ | refine VC.region (by rfl) (by rfl) ?_ | (refine AO.step fun K hK => ?_; simp only [vcells_mk, List.getElem?_map, hy, sPV, str_size, hw2, hw3, hw4, go_sem, Int.reduceBEq, Int.reduceLE, Int.reduceLT, Int.reduceNeg, Nat.reduceAdd, Nat.reduceEqDiff, Nat.reduceLT, Nat.reduceLeDiff, Nat.reduceMul, Nat.reduceSub, reduceCtorEq, ↓reduceIte]; (first | refine gsel_skip ?_ | refine gsel_go ?_ | skip); (first | refine hK _ _ _ ?_ | refine ⟨by first | omega | exact ⟨_, rfl, rfl⟩ | exact fun _ => ⟨_, rfl, rfl⟩ | (intro h; simp only [vcells_mk, List.getElem?_map, hy, sPV, str_size, hw2, hw3, hw4, h, true_and]; omega) | (clear hK; intro h; simp_all <;> omega), hK _ _ _ ?_⟩); clear hK K) | refine VC.draw mixP (by rfl) (by rfl) ?_ | refine ⟨okd_of (by kernel_rfl), ?_⟩ | refine BQ.other (by decide) ?_ | refine VC.seq ?_ | refine AO.nil ?_ | refine VC.block ?_))
        refine .next ⟨(i + 1, b + 1 + y.length), by simp only []; omega, by simp only []; omega, by simp only []; rw [← hbk, bkeys5_step hy hcc.2 hl]⟩ ?_ (by simp only []; omega)
        simp only [vcells_mk, Weak, eq_self, used_is, sc_any, sc_c, sc_pp, sc_ref, sc_row, sc_agg, sc_fn, ScL, some_imp, List.forall_mem_map, go_sem, Int.reduceBEq, Int.reduceLE, Int.reduceLT, Int.reduceNeg, Nat.reduceAdd, Nat.reduceEqDiff, Nat.reduceLT, Nat.reduceLeDiff, Nat.reduceMul, Nat.reduceSub, reduceCtorEq, ↓reduceIte]
        exact ⟨cI (by omega), cI (by omega)⟩
    · have hcc : ¬ (i < ks.length ∧ b ≤ 2500) := by
        simp at hc
        omega
      clear hc
      obtain rfl : V = some b := hbk.symm.trans (bkeys5_end hcc)
      simp only [] at hbl ⊢
      obtain ⟨V, hV2⟩ : ∃ V, V = vitems d b xs := ⟨_, rfl⟩
      rw [← hV2] at hbl ⊢
      refine walkG ?_
      refine VC.loop (ι := {p : Nat × Nat // p.1 ≤ xs.length ∧ p.2 ≤ 5001 + 2501 * (81 - d) ∧ vitems d p.2 (xs.drop p.1) = V}) (fun p => [(1, .c (.v (.int .i64 2500))), (2, .c (.v (.int .i64 z))), (3, .ref 0 1 0 0), (7, .c (.v (.int .i64 p.1.2))), (9, .c (.v (.int .i64 p.1.1)))])
        (fun _ => [(0, ⟨false, 43, 6, [(VT.mk k n w s xs ks).cells.map .c]⟩)]) 8 (fun p => xs.length - p.1.1) ⟨(0, b), Nat.zero_le _, by simp only []; omega, by simpa using hV2.symm⟩ ?_ ?_
      · simp only [vcells_mk, Weak, eq_self, used_is, sc_any, sc_c, sc_pp, sc_ref, sc_row, sc_agg, sc_fn, ScL, some_imp, List.forall_mem_map, go_sem, Int.reduceBEq, Int.reduceLE, Int.reduceLT, Int.reduceNeg, Nat.reduceAdd, Nat.reduceEqDiff, Nat.reduceLT, Nat.reduceLeDiff, Nat.reduceMul, Nat.reduceSub, reduceCtorEq, ↓reduceIte]
        all_goals rfl
      clear hi hcc hbk
      rintro ⟨⟨i, c⟩, hi, hcb, hbt⟩
      simp only [] at hi hcb hbt ⊢
      refine walkGF (@vcells_mk) ?_
      refine VC.cond (by rfl) (by trivial) (fun hc => ?_) (fun hc => ?_)
      · have hcc : i < xs.length ∧ c ≤ 2500 := by
          simp at hc
          omega
        clear hc
        obtain ⟨x, hx⟩ : ∃ x, xs[i]? = some x := ⟨xs[i], List.getElem?_eq_getElem hcc.1⟩
        have hxm := List.mem_of_getElem? hx
        have hsz : SizeOf.sizeOf x ≤ m := by
          have h1 := List.sizeOf_lt_of_mem hxm
          simp at ht
          omega
        have hcall := ih x hsz (d + 1) (z + 1) (by omega) (by omega)
        have hxb := vbulk_le (d + 1) x
        have hw1 : IntKind.i64.wrap (z + 1) = z + 1 := wrap64_id (by omega) (by omega)
        have hw2 : IntKind.i64.wrap ((c : Int) + (vbulk (d + 1) x : Int)) = (c : Int) + (vbulk (d + 1) x : Int) := wrap64_id (by omega) (by omega)
        have hw4 : IntKind.i64.wrap ((i : Int) + 1) = (i : Int) + 1 := wrap64_id (by omega) (by omega)
        (repeat (first | refine pass ?_ | refine VC.region (by rfl) (by rfl) ?_ | (refine AO.step fun K hK => ?_; simp only [vcells_mk, List.getElem?_map, hx, len_vcells, take_vcells, take_vcellsC, hw1, go_sem, Int.reduceBEq, Int.reduceLE, Int.reduceLT, Int.reduceNeg, Nat.reduceAdd, Nat.reduceEqDiff, Nat.reduceLT, Nat.reduceLeDiff, Nat.reduceMul, Nat.reduceSub, reduceCtorEq, ↓reduceIte]; (first | refine gsel_skip ?_ | refine gsel_go ?_ | skip); (first | refine hK _ _ _ ?_ | refine ⟨by first | omega | exact ⟨_, rfl, rfl⟩ | exact fun _ => ⟨_, rfl, rfl⟩ | (intro h; simp only [vcells_mk, List.getElem?_map, hx, len_vcells, take_vcells, take_vcellsC, hw1, h, true_and]; omega) | (clear hK; intro h; simp_all <;> omega), hK _ _ _ ?_⟩); clear hK K) | refine VC.draw mixP (by rfl) (by rfl) ?_ | refine ⟨okd_of (by kernel_rfl), ?_⟩ | refine BQ.other (by decide) ?_ | refine VC.seq ?_ | refine AO.nil ?_ | refine VC.block ?_))
        (refine AO.step fun K hK => ?_; simp only [go_sem, Int.reduceBEq, Int.reduceLE, Int.reduceLT, Int.reduceNeg, Nat.reduceAdd, Nat.reduceEqDiff, Nat.reduceLT, Nat.reduceLeDiff, Nat.reduceMul, Nat.reduceSub, reduceCtorEq, ↓reduceIte, pureL_c]; (first | refine gsel_go ?_ | skip))
        refine .inl ⟨_, hcall, hK _ _ _ ?_⟩
        clear hK K
        refine walkGF (And.intro hw2 hw4) ?_
        refine .next ⟨(i + 1, c + vbulk (d + 1) x), by simp only []; omega, by simp only []; omega, by simp only []; rw [← hbt, vitems_step hx hcc.2]⟩ ?_ (by simp only []; omega)
        simp only [vcells_mk, Weak, eq_self, used_is, sc_any, sc_c, sc_pp, sc_ref, sc_row, sc_agg, sc_fn, ScL, some_imp, List.forall_mem_map, go_sem, Int.reduceBEq, Int.reduceLE, Int.reduceLT, Int.reduceNeg, Nat.reduceAdd, Nat.reduceEqDiff, Nat.reduceLT, Nat.reduceLeDiff, Nat.reduceMul, Nat.reduceSub, reduceCtorEq, ↓reduceIte]
        exact ⟨cI (by omega), cI (by omega)⟩
      · have hcc : ¬ (i < xs.length ∧ c ≤ 2500) := by
          simp at hc
          omega
        obtain rfl : V = c := hbt.symm.trans (vitems_end hcc)
        refine walkG ?_
        refine ⟨.inr rfl, ?_⟩
        rw [Tryz.results51]
        simp only [resOk, resV, go_sem, Int.reduceBEq, Int.reduceLE, Int.reduceLT, Int.reduceNeg, Nat.reduceAdd, Nat.reduceEqDiff, Nat.reduceLT, Nat.reduceLeDiff, Nat.reduceMul, Nat.reduceSub, reduceCtorEq, ↓reduceIte]
        exact .c _
mutual
theorem vbulk_sm (d : Nat) : ∀ v : VT, v.inr → vbulk d v ≤ 2500 → v.sm 2500
  | .mk k n w s xs ks => fun hr h => by
    rw [vbulk] at h
    split at h
    · omega
    · rename_i h1
      split at h
      · omega
      · rename_i m hm
        have h2 := vitems_ge d xs m
        obtain ⟨_, h3⟩ := bkeys5_len ks _ m hm (by omega)
        exact ⟨hr.1, by omega, by omega, h3, by omega, vitems_sm d m xs hr.2 h⟩
theorem vitems_sm (d n : Nat) : ∀ xs : List VT, VT.inrL xs → vitems d n xs ≤ 2500 → VT.smL 2500 xs
  | [] => fun _ _ => trivial
  | x :: xs => fun hr h => by
    rw [vitems] at h
    split at h
    · have := vitems_ge d xs (n + vbulk (d + 1) x)
      exact ⟨vbulk_sm (d + 1) x hr.1 (by omega), vitems_sm d _ xs hr.2 h⟩
    · omega
end
set_option maxRecDepth 100000 in
set_option maxHeartbeats 400000 in
theorem vgreat_told (v : VT) : Told Tryz.prog 17 [v.av] (.c (.v (.bool (decide (2500 < vbulk 0 v))))) := by
  have hK := vbulk_told _ v (Nat.le_refl _) 0 0 (by omega) rfl
  have hBk := hK
  clear hK
  have e : decide (2500 < vbulk 0 v) = decide ((vbulk 0 v : Int) > 2500) := decide_eq_decide.2 (by omega)
  rw [e]
  rw [VT.av_eq] at hBk ⊢
  refine VC.told ent_17 Tryz.func17 rfl Tryz.ntmps17 (by simp) (by first | rfl | simp [AV.pureB, AV.pureL, pureL_c, pures]) (by first | rfl | simp [AV.pureB, AV.pureL, pureL_c, pures]) fun hb => ?_
  clear hb
  refine walkGF (And.intro @len_vcells (And.intro @take_vcells @take_vcellsC)) ?_
  refine walkCF (@pureL_c) (hBk) ?_
  refine walkG ?_
  refine ⟨by first | exact .inr rfl | exact .inl rfl, ?_⟩; rw [Tryz.results17]; simp only [resOk, resV, go_sem, Int.reduceBEq, Int.reduceLE, Int.reduceLT, Int.reduceNeg, Nat.reduceAdd, Nat.reduceEqDiff, Nat.reduceLT, Nat.reduceLeDiff, Nat.reduceMul, Nat.reduceSub, reduceCtorEq, ↓reduceIte]
  exact .c _
end

theorem ty_bytes {ps : List PV} (h : TyPV Tryz.prog 40 ps) : ∃ l : List UInt8, ps = [.sl 1 (bytePV l)] := by
  obtain ⟨es, rfl, hx⟩ := ty_sl h Tryz.underlying40
  rw [cells_of tyA_5]
  obtain ⟨l, rfl⟩ := list_map (f := fun b : UInt8 => [PV.v (.int .u8 (b.toNat : Int))]) fun q hq => by
    obtain ⟨n, rfl, hw⟩ := ty_int (hx q hq) Tryz.underlying5
    simp [Lit.wf, IntKind.min, IntKind.max, IntKind.signed, IntKind.bits] at hw
    refine ⟨n.toNat.toUInt8, ?_⟩
    have : ((n.toNat.toUInt8).toNat : Int) = n := by simp; omega
    rw [this]
  exact ⟨l, rfl⟩
theorem split6 {α : Type} {l : List α} (h : l.length = 6) : ∃ a b c d e f, l = [a, b, c, d, e, f] := by
  match l, h with
  | [a, b, c, d, e, f], _ => exact ⟨a, b, c, d, e, f, rfl⟩
theorem ty_value : ∀ {t : TypeId} {ps : List PV}, TyPV Tryz.prog t ps → (t = 43 → ∃ j : VT, j.inr ∧ ps = j.cells) ∧ (t = 41 → ∃ xs : List VT, VT.inrL xs ∧ ps = [.sl 6 (xs.map VT.cells)]) := by
  intro t ps h
  induction h with
  | bool ht => exact ⟨fun e => by subst e; simp [Tryz.underlying43] at ht, fun e => by subst e; simp [Tryz.underlying41] at ht⟩
  | int ht hw => exact ⟨fun e => by subst e; simp [Tryz.underlying43] at ht, fun e => by subst e; simp [Tryz.underlying41] at ht⟩
  | str ht hs => exact ⟨fun e => by subst e; simp [Tryz.underlying43] at ht, fun e => by subst e; simp [Tryz.underlying41] at ht⟩
  | @sl t e es ht hx ih =>
    refine ⟨fun e => by subst e; simp [Tryz.underlying43] at ht, fun e => ?_⟩
    subst e
    obtain rfl := TypeDesc.slice.inj (Option.some.inj (ht.symm.trans Tryz.underlying41))
    obtain ⟨xs, hxs, rfl⟩ := list_mapP (f := VT.cells) (p := VT.inr) fun q hq => (ih q hq).1 rfl
    exact ⟨xs, vinrL_of hxs, by rw [cells_of tyA_43]⟩
  | @struct t fs ps ht hl hx ih =>
    refine ⟨fun e => ?_, fun e => by subst e; simp [Tryz.underlying41] at ht⟩
    subst e
    have hT := tyA_43
    obtain ⟨a0, a1, a2, a3, a4, a5, rfl⟩ := split6 (hl.trans (cells_of hT))
    obtain ⟨_, hf⟩ := ty_fields (.struct ht hl hx) hT rfl
    obtain ⟨k, h0, _⟩ := ty_int (hf 0 _ _ rfl _ tyA_3) Tryz.underlying3
    obtain ⟨n, h1, _⟩ := ty_int (hf 1 _ _ rfl _ tyA_2) Tryz.underlying2
    obtain ⟨b, h2, hw⟩ := ty_int (hf 2 _ _ rfl _ tyA_39) Tryz.underlying39
    obtain ⟨s, h3⟩ := ty_bytes (hf 3 _ _ rfl _ tyA_40)
    obtain ⟨ks, h5⟩ := ty_strs (hf 5 _ _ rfl _ tyA_29)
    obtain ⟨f, g1, g2, g3⟩ := fld_of hT ht (i := 4) rfl
    obtain ⟨xs, hxs, h4⟩ := (ih 4 f g1).2 g3
    rw [g2, g3, cells_of tyA_41] at h4
    simp at h0 h1 h2 h3 h4 h5
    subst h0 h1 h2 h3 h4 h5
    simp [Lit.wf, IntKind.min, IntKind.max, IntKind.signed, IntKind.bits] at hw
    exact ⟨.mk k n b s xs ks, ⟨by omega, hxs⟩, (vcells_mk _ _ _ _ _ _).symm⟩
theorem arg_value {x : AV} (h : TyAV Tryz.prog 43 x) : ∃ j : VT, j.inr ∧ x = j.av := by
  obtain ⟨ps, h1, h2⟩ := h
  obtain ⟨j, hj, rfl⟩ := (ty_value h1).1 rfl
  rcases h2 with ⟨_, rfl⟩ | ⟨h2, _⟩
  · exact ⟨j, hj, rfl⟩
  · exact absurd Tryz.underlying43 (h2 _)
theorem arg_place {x : AV} (h : TyAV Tryz.prog 3 x) : ∃ n : Int, (-9223372036854775808 ≤ n ∧ n ≤ 9223372036854775807) ∧ x = .c (.v (.int .i64 n)) := by
  obtain ⟨ps, h1, h2⟩ := h
  obtain ⟨n, rfl, hn⟩ := ty_int h1 Tryz.underlying3
  rcases h2 with ⟨⟨fs, h2⟩, _⟩ | ⟨_, q, h2, rfl⟩
  · simp [Tryz.underlying3] at h2
  · simp at h2
    subst h2
    exact ⟨n, wf64 hn, rfl⟩
section
attribute [local go_sem] opx opE ev okx gcond bnd okO AV.get AV.okb cAV upd_at putd_some putd_none wrs_nil wrs_cons look_nil look_cons st argT_at bpick_and bpick_or bpick_true bpick_false binV binI binS binVOk binOk isShift binSOk unV unVOk loadV loadP cellsA zeroA Blkd.len setE grown moreA moreR moreOk eqRes pv fillA fillE putSeg AV.cellish AV.pureL AV.pureB lentL_is ex_some AV.ren AV.renL renL_c Blkd.ren rho wrM renN lentOk rhoE keepM endOk tyA_2 tyA_3 tyA_4 tyA_5 tyA_6 tyA_7 tyA_8 tyA_9 tyA_10 tyA_11 tyA_12 tyA_13 tyA_14 tyA_15 tyA_16 tyA_17 tyA_18 tyA_19 tyA_21 tyA_22 tyA_23 tyA_24 tyA_29 tyA_30 tyA_31 tyA_32 tyA_33 tyA_34 tyA_35 tyA_36 tyA_37 tyA_38 tyA_39 tyA_40 tyA_41 tyA_42 tyA_43 tyA_51 tyA_73 tyA_77 tyA_99 tyA_100 tyA_101 tyA_114 tyA_120 tyA_121 tyA_122 tyA_131 tyA_132 tyA_133 tyA_134 tyA_135 tyA_138 tyA_139 tyA_140 tyA_149 tyA_163 tyA_168 tyA_210 tyA_212 tyA_219 tyA_227 tyA_231 tyA_233 tyA_237 tyA_238 tyA_239 tyA_240 tyA_241 tyA_243 tyA_244 tyA_246 tyA_247 tyA_248 tyA_251 Option.map_some Option.map_none Option.getD_some Option.getD_none Option.bind_some Option.bind_none List.getElem?_cons_zero List.getElem?_cons_succ List.getElem?_nil List.getElem?_toArray List.length_cons List.length_nil List.length_map List.forall_mem_map List.map_cons List.map_nil List.drop_zero List.drop_succ_cons List.drop_nil List.take_zero List.take_succ_cons List.take_nil List.mem_cons List.not_mem_nil or_false forall_eq_or_imp forall_eq List.set_cons_zero List.set_cons_succ List.cons_append List.nil_append List.append_nil List.foldl_cons List.foldl_nil List.replicate_succ List.replicate_zero List.all_cons List.all_nil if_true if_false Bool.false_eq_true ne_eq not_false_eq_true not_true_eq_false true_and and_true and_self true_implies imp_self implies_true forall_const beq_self_eq_true Bool.and_true Bool.true_and Bool.and_false Bool.false_and Bool.or_true Bool.true_or Bool.or_false Bool.false_or Bool.not_true Bool.not_false Bool.not_eq_eq_eq_not intKindOf Value.oneCell' Int.toNat_natCast beq_true beq_false Bool.not_eq_true false_implies false_or true_or or_true Nat.zero_add Nat.add_zero decide_true decide_false Int.cast_ofNat_Int Int.toNat_zero Int.toNat_one eq_self

theorem textsL_step {l : List (List UInt8)} {i n : Nat} {y : List UInt8} (hy : l[i]? = some y) (hn : n ≤ 2500) : textsL n (l.drop i) = if 2500 < y.length then 2501 else textsL (n + y.length) (l.drop (i + 1)) := by
  obtain ⟨hlt, rfl⟩ := List.getElem?_eq_some_iff.1 hy
  rw [List.drop_eq_getElem_cons hlt, textsL, if_pos hn]
theorem textsL_end {l : List (List UInt8)} {i n : Nat} (h : ¬ (i < l.length ∧ n ≤ 2500)) : textsL n (l.drop i) = n := by
  by_cases hlt : i < l.length
  · rw [List.drop_eq_getElem_cons hlt, textsL, if_neg (by omega)]
  · rw [List.drop_of_length_le (by omega), textsL]
set_option maxRecDepth 100000 in
set_option maxHeartbeats 800000 in
theorem texts_told (l : List (List UInt8)) : Told Tryz.prog 78 [.c (.sl 1 (l.map sPV)), .c (.v (.int .i64 2500))] (.c (.v (.int .i64 (textsB l)))) := by
  obtain ⟨V, hV⟩ : ∃ V, V = textsB l := ⟨_, rfl⟩
  rw [← hV]
  unfold textsB at hV
  have hw21 : IntKind.i64.wrap (2500 + 1) = 2501 := by rfl
  refine VC.told ent_78 Tryz.func78 rfl Tryz.ntmps78 (by simp) (by first | rfl | simp [AV.pureB, AV.pureL, pureL_c, pures]) (by first | rfl | simp [AV.pureB, AV.pureL, pureL_c, pures]) fun hb => ?_
  clear hb
  refine walkG ?_
  refine VC.cond (by rfl) (by trivial) (fun hc => ?_) (fun hc => ?_)
  · have hcc : 2500 < l.length := by simp at hc; omega
    rw [if_pos hcc] at hV
    subst hV
    refine walkGF (hw21) ?_
    refine ⟨by first | exact .inr rfl | exact .inl rfl, ?_⟩; rw [Tryz.results78]; simp only [resOk, resV, go_sem, Int.reduceBEq, Int.reduceLE, Int.reduceLT, Int.reduceNeg, Nat.reduceAdd, Nat.reduceEqDiff, Nat.reduceLT, Nat.reduceLeDiff, Nat.reduceMul, Nat.reduceSub, reduceCtorEq, ↓reduceIte]
    exact .c _
  have hcc : ¬ 2500 < l.length := by simp at hc; omega
  rw [if_neg hcc] at hV
  clear hc
  refine walkG ?_
  refine VC.loop (ι := {x : Nat × Nat // x.1 ≤ l.length ∧ x.2 ≤ 5000 ∧ textsL x.2 (l.drop x.1) = V}) (fun q => [(0, .c (.sl 1 (l.map sPV))), (1, .c (.v (.int .i64 2500))), (5, .c (.v (.int .i64 (q.1.2 : Int)))), (6, .c (.v (.int .i64 (q.1.1 : Int))))]) (fun _ => []) 800 (fun q => l.length - q.1.1)
    ⟨(0, l.length), Nat.zero_le _, by simp only []; omega, by rw [List.drop_zero]; exact hV.symm⟩ ?_ ?_
  · simp only [Weak, eq_self, used_is, sc_any, sc_c, sc_pp, sc_ref, sc_row, sc_agg, sc_fn, ScL, some_imp, List.forall_mem_map, go_sem, Int.reduceBEq, Int.reduceLE, Int.reduceLT, Int.reduceNeg, Nat.reduceAdd, Nat.reduceEqDiff, Nat.reduceLT, Nat.reduceLeDiff, Nat.reduceMul, Nat.reduceSub, reduceCtorEq, ↓reduceIte]
  clear hV
  rintro ⟨⟨i, n⟩, hi, hn, hV⟩
  simp only [] at hi hn hV ⊢
  refine walkG ?_
  refine VC.cond (by rfl) (by trivial) (fun hc => ?_) (fun hc => ?_)
  · have hcc : i < l.length ∧ n ≤ 2500 := by simp at hc; omega
    clear hc
    obtain ⟨y, hy⟩ : ∃ y, l[i]? = some y := ⟨l[i], List.getElem?_eq_getElem hcc.1⟩
    have hyp : (l.map sPV)[i]? = some (sPV y) := by rw [List.getElem?_map, hy]; rfl
    rw [textsL_step hy hcc.2] at hV
    have hw : IntKind.i64.wrap ((i : Int) + 1) = (i : Int) + 1 := wrap64_id (by omega) (by omega)
    refine walkGF (And.intro hyp (And.intro @sPV_eq @str_size)) ?_
    refine VC.cond (by rfl) (by trivial) (fun hc2 => ?_) (fun hc2 => ?_)
    · rw [if_pos (by simp at hc2; omega)] at hV
      subst hV
      refine walkGF (hw21) ?_
      refine ⟨by first | exact .inr rfl | exact .inl rfl, ?_⟩; rw [Tryz.results78]; simp only [resOk, resV, go_sem, Int.reduceBEq, Int.reduceLE, Int.reduceLT, Int.reduceNeg, Nat.reduceAdd, Nat.reduceEqDiff, Nat.reduceLT, Nat.reduceLeDiff, Nat.reduceMul, Nat.reduceSub, reduceCtorEq, ↓reduceIte]
      exact .c _
    · have hyl : y.length ≤ 2500 := by simp at hc2; omega
      rw [if_neg (by omega)] at hV
      have hw2 : IntKind.i64.wrap ((n : Int) + (y.length : Int)) = ((n + y.length : Nat) : Int) := by rw [wrap64_id (by omega) (by omega)]; rfl
      refine walkGF (And.intro hyp (And.intro @sPV_eq (And.intro @str_size (And.intro hw hw2)))) ?_
      refine .next ⟨(i + 1, n + y.length), by simp only []; omega, by simp only []; omega, hV⟩ ?_ (by simp only []; omega)
      simp only [Weak, eq_self, used_is, sc_any, sc_c, sc_pp, sc_ref, sc_row, sc_agg, sc_fn, ScL, some_imp, List.forall_mem_map, go_sem, Int.reduceBEq, Int.reduceLE, Int.reduceLT, Int.reduceNeg, Nat.reduceAdd, Nat.reduceEqDiff, Nat.reduceLT, Nat.reduceLeDiff, Nat.reduceMul, Nat.reduceSub, reduceCtorEq, ↓reduceIte]
      try exact cI (by omega)
  · have hcc : ¬ (i < l.length ∧ n ≤ 2500) := by simp at hc; omega
    rw [textsL_end hcc] at hV
    subst hV
    refine walkG ?_
    refine ⟨by first | exact .inr rfl | exact .inl rfl, ?_⟩; rw [Tryz.results78]; simp only [resOk, resV, go_sem, Int.reduceBEq, Int.reduceLE, Int.reduceLT, Int.reduceNeg, Nat.reduceAdd, Nat.reduceEqDiff, Nat.reduceLT, Nat.reduceLeDiff, Nat.reduceMul, Nat.reduceSub, reduceCtorEq, ↓reduceIte]
    exact .c _
theorem fieldsB_step {l : List FT} {i n : Nat} {f : FT} (hf : l[i]? = some f) (hn : n ≤ 2500) : fieldsB n (l.drop i) = if 2500 < f.name.length then none else fieldsB (n + f.name.length + textsB f.aliases + tbulk5 0 f.dflt) (l.drop (i + 1)) := by
  obtain ⟨hlt, rfl⟩ := List.getElem?_eq_some_iff.1 hf
  rw [List.drop_eq_getElem_cons hlt, fieldsB, if_pos hn]
theorem fieldsB_end {l : List FT} {i n : Nat} (h : ¬ (i < l.length ∧ n ≤ 2500)) : fieldsB n (l.drop i) = some n := by
  by_cases hlt : i < l.length
  · rw [List.drop_eq_getElem_cons hlt, fieldsB, if_neg (by omega)]
  · rw [List.drop_of_length_le (by omega), fieldsB]
theorem nodesB_end {l : List NT} {i n : Nat} (h : ¬ (i < l.length ∧ n ≤ 2500)) : nodesB n (l.drop i) = n := by
  by_cases hlt : i < l.length
  · rw [List.drop_eq_getElem_cons hlt, nodesB, if_neg (by omega)]
  · rw [List.drop_of_length_le (by omega), nodesB]
theorem nodesB_step {l : List NT} {i n : Nat} {x : NT} (hx : l[i]? = some x) (hn : n ≤ 2500) : nodesB n (l.drop i) = if 2500 < x.name.length ∨ 2500 < x.fields.length ∨ 2500 < x.branches.length ∨ 2500 < x.dflt.length then 2501 else
      match fieldsB (n + x.name.length + x.fields.length + x.branches.length + x.dflt.length + textsB x.aliases + textsB x.symbols) x.fields with | none => 2501 | some m => nodesB m (l.drop (i + 1)) := by
  obtain ⟨hlt, rfl⟩ := List.getElem?_eq_some_iff.1 hx
  rw [List.drop_eq_getElem_cons hlt, nodesB, if_pos hn]
  generalize fieldsB _ _ = F
  cases F <;> rfl
set_option maxRecDepth 100000 in
set_option maxHeartbeats 1600000 in
theorem sbulk_told (s : ST) : Told Tryz.prog 42 [s.av, .c (.v (.int .i64 2500))] (.c (.v (.int .i64 (sbulk s)))) := by
  obtain ⟨V, hV⟩ : ∃ V, V = sbulk s := ⟨_, rfl⟩
  rw [← hV]
  unfold sbulk at hV
  have hw21 : IntKind.i64.wrap (2500 + 1) = 2501 := by rfl
  rw [ST.av_eq, scells_mk]
  refine VC.told ent_42 Tryz.func42 rfl Tryz.ntmps42 (by simp) (by first | rfl | simp [AV.pureB, AV.pureL, pureL_c, pures]) (by first | rfl | simp [AV.pureB, AV.pureL, pureL_c, pures]) fun hb => ?_
  clear hb
  refine walkG ?_
  refine VC.cond (by rfl) (by trivial) (fun hc => ?_) (fun hc => ?_)
  · have hcc : 2500 < s.nodes.length := by simp at hc; omega
    rw [if_pos hcc] at hV
    subst hV
    refine walkGF (hw21) ?_
    refine ⟨by first | exact .inr rfl | exact .inl rfl, ?_⟩; rw [Tryz.results42]; simp only [resOk, resV, go_sem, Int.reduceBEq, Int.reduceLE, Int.reduceLT, Int.reduceNeg, Nat.reduceAdd, Nat.reduceEqDiff, Nat.reduceLT, Nat.reduceLeDiff, Nat.reduceMul, Nat.reduceSub, reduceCtorEq, ↓reduceIte]
    exact .c _
  have hcc : ¬ 2500 < s.nodes.length := by simp at hc; omega
  rw [if_neg hcc] at hV
  clear hc
  refine walkG ?_
  refine VC.loop (ι := {x : Nat × Nat // x.1 ≤ s.nodes.length ∧ x.2 ≤ 300000 ∧ nodesB x.2 (s.nodes.drop x.1) = V}) (fun q => [(1, .c (.v (.int .i64 2500))), (2, .ref 0 1 0 0), (5, .c (.v (.int .i64 (q.1.2 : Int)))), (6, .c (.v (.int .i64 (q.1.1 : Int))))])
    (fun q => [(0, ⟨false, 24, 2, [[.c (.sl 10 (s.nodes.map NT.cells)), .c (.v (.int .i64 s.root))]]⟩)]) 800 (fun q => s.nodes.length - q.1.1)
    ⟨(0, s.nodes.length), Nat.zero_le _, by simp only []; omega, by rw [List.drop_zero]; exact hV.symm⟩ ?_ ?_
  · simp only [Weak, eq_self, used_is, sc_any, sc_c, sc_pp, sc_ref, sc_row, sc_agg, sc_fn, ScL, some_imp, List.forall_mem_map, go_sem, Int.reduceBEq, Int.reduceLE, Int.reduceLT, Int.reduceNeg, Nat.reduceAdd, Nat.reduceEqDiff, Nat.reduceLT, Nat.reduceLeDiff, Nat.reduceMul, Nat.reduceSub, reduceCtorEq, ↓reduceIte]
  clear hV
  rintro ⟨⟨i, b⟩, hi, hb, hV⟩
  simp only [] at hi hb hV ⊢
  refine walkG ?_
  refine VC.cond (by rfl) (by trivial) (fun hc => ?_) (fun hc => ?_)
  · have hcc2 : i < s.nodes.length ∧ b ≤ 2500 := by simp at hc; omega
    clear hc
    obtain ⟨x, hx⟩ : ∃ x, s.nodes[i]? = some x := ⟨s.nodes[i], List.getElem?_eq_getElem hcc2.1⟩
    have hxp : (s.nodes.map NT.cells)[i]? = some x.cells := by rw [List.getElem?_map, hx]; rfl
    rw [nodesB_step hx hcc2.2] at hV
    have hw : IntKind.i64.wrap ((i : Int) + 1) = (i : Int) + 1 := wrap64_id (by omega) (by omega)
    refine walkGF (And.intro hxp (And.intro @ncells_mk @str_size)) ?_
    refine VC.cond (by rfl) (by trivial) (fun hc2 => ?_) (fun hc2 => ?_)
    · rw [if_pos (by simp at hc2; omega)] at hV
      subst hV
      refine walkGF (hw21) ?_
      refine ⟨by first | exact .inr rfl | exact .inl rfl, ?_⟩; rw [Tryz.results42]; simp only [resOk, resV, go_sem, Int.reduceBEq, Int.reduceLE, Int.reduceLT, Int.reduceNeg, Nat.reduceAdd, Nat.reduceEqDiff, Nat.reduceLT, Nat.reduceLeDiff, Nat.reduceMul, Nat.reduceSub, reduceCtorEq, ↓reduceIte]
      exact .c _
    have hsm : ¬ (2500 < x.name.length ∨ 2500 < x.fields.length ∨ 2500 < x.branches.length ∨ 2500 < x.dflt.length) := by simp at hc2; omega
    rw [if_neg hsm] at hV
    clear hc2
    have hT1 := texts_told x.aliases
    have hT2 := texts_told x.symbols
    have ht1 := textsB_le x.aliases
    have ht2 := textsB_le x.symbols
    generalize textsB x.aliases = t1 at hT1 ht1 hV
    generalize textsB x.symbols = t2 at hT2 ht2 hV
    have w1 : IntKind.i64.wrap ((b : Int) + (x.name.length : Int)) = (b : Int) + (x.name.length : Int) := wrap64_id (by omega) (by omega)
    have w2 : IntKind.i64.wrap ((b : Int) + (x.name.length : Int) + (x.fields.length : Int)) = (b : Int) + (x.name.length : Int) + (x.fields.length : Int) := wrap64_id (by omega) (by omega)
    have w3 : IntKind.i64.wrap ((b : Int) + (x.name.length : Int) + (x.fields.length : Int) + (x.branches.length : Int)) = (b : Int) + (x.name.length : Int) + (x.fields.length : Int) + (x.branches.length : Int) := wrap64_id (by omega) (by omega)
    have w4 : IntKind.i64.wrap ((b : Int) + (x.name.length : Int) + (x.fields.length : Int) + (x.branches.length : Int) + (x.dflt.length : Int)) = (b : Int) + (x.name.length : Int) + (x.fields.length : Int) + (x.branches.length : Int) + (x.dflt.length : Int) := wrap64_id (by omega) (by omega)
    have w5 : IntKind.i64.wrap ((b : Int) + (x.name.length : Int) + (x.fields.length : Int) + (x.branches.length : Int) + (x.dflt.length : Int) + (t1 : Int)) = (b : Int) + (x.name.length : Int) + (x.fields.length : Int) + (x.branches.length : Int) + (x.dflt.length : Int) + (t1 : Int) := wrap64_id (by omega) (by omega)
    have w6 : IntKind.i64.wrap ((b : Int) + (x.name.length : Int) + (x.fields.length : Int) + (x.branches.length : Int) + (x.dflt.length : Int) + (t1 : Int) + (t2 : Int)) = ((b + x.name.length + x.fields.length + x.branches.length + x.dflt.length + t1 + t2 : Nat) : Int) := by rw [wrap64_id (by omega) (by omega)]; rfl
    obtain ⟨b0, hb0⟩ : ∃ b0, b0 = b + x.name.length + x.fields.length + x.branches.length + x.dflt.length + t1 + t2 := ⟨_, rfl⟩
    have hb0l : b0 ≤ 30000 := by omega
    rw [← hb0] at hV w6
    clear hb0
    refine walkGF (And.intro @str_size (And.intro w1 (And.intro w2 (And.intro w3 (And.intro w4 (And.intro w5 w6)))))) ?_
    refine walkC (hT1) ?_
    refine walkGF (w5) ?_
    refine walkC (hT2) ?_
    refine walkGF (w6) ?_
    clear hT1 hT2 w1 w2 w3 w4 w5 w6 ht1 ht2
    obtain ⟨F, hF⟩ : ∃ F, F = fieldsB b0 x.fields := ⟨_, rfl⟩
    rw [← hF] at hV
    have hFl : ∀ m, F = some m → m ≤ 300000 := fun m hm => fieldsB_le x.fields b0 m (by omega) (hF ▸ hm)
    refine VC.loop (ι := {y : Nat × Nat // y.1 ≤ x.fields.length ∧ y.2 ≤ 300000 ∧ fieldsB y.2 (x.fields.drop y.1) = F})
      (fun q => [(1, .c (.v (.int .i64 2500))), (2, .ref 0 1 0 0), (5, .c (.v (.int .i64 (q.1.2 : Int)))), (6, .c (.v (.int .i64 (i : Int)))), (7, .ref 920 1 0 0), (8, .c (.v (.int .i64 (q.1.1 : Int))))])
      (fun q => [(0, ⟨false, 24, 2, [[.c (.sl 10 (s.nodes.map NT.cells)), .c (.v (.int .i64 s.root))]]⟩), (920, ⟨false, 33, 10, [x.cells.map .c]⟩)]) 4000 (fun q => x.fields.length - q.1.1)
      ⟨(0, b0), Nat.zero_le _, by simp only []; omega, by rw [List.drop_zero]; exact hF.symm⟩ ?_ ?_
    · simp only [ncells_mk, Weak, eq_self, used_is, sc_any, sc_c, sc_pp, sc_ref, sc_row, sc_agg, sc_fn, ScL, some_imp, List.forall_mem_map, go_sem, Int.reduceBEq, Int.reduceLE, Int.reduceLT, Int.reduceNeg, Nat.reduceAdd, Nat.reduceEqDiff, Nat.reduceLT, Nat.reduceLeDiff, Nat.reduceMul, Nat.reduceSub, reduceCtorEq, ↓reduceIte]
    clear hF
    rintro ⟨⟨k, c⟩, hk, hc, hF⟩
    simp only [] at hk hc hF ⊢
    refine walkGF (@ncells_mk) ?_
    refine VC.cond (by rfl) (by trivial) (fun hc2 => ?_) (fun hc2 => ?_)
    · have hcc3 : k < x.fields.length ∧ c ≤ 2500 := by simp at hc2; omega
      clear hc2
      obtain ⟨f, hf⟩ : ∃ f, x.fields[k]? = some f := ⟨x.fields[k], List.getElem?_eq_getElem hcc3.1⟩
      have hfp : (x.fields.map FT.cells)[k]? = some f.cells := by rw [List.getElem?_map, hf]; rfl
      rw [fieldsB_step hf hcc3.2] at hF
      have hwk : IntKind.i64.wrap ((k : Int) + 1) = (k : Int) + 1 := wrap64_id (by omega) (by omega)
      refine walkGF (And.intro @ncells_mk (And.intro hfp (And.intro @fcells_mk @str_size))) ?_
      refine VC.cond (by rfl) (by trivial) (fun hc2 => ?_) (fun hc2 => ?_)
      · rw [if_pos (by simp at hc2; omega)] at hF
        subst hF
        simp only [] at hV
        subst hV
        refine walkGF (hw21) ?_
        refine ⟨by first | exact .inr rfl | exact .inl rfl, ?_⟩; rw [Tryz.results42]; simp only [resOk, resV, go_sem, Int.reduceBEq, Int.reduceLE, Int.reduceLT, Int.reduceNeg, Nat.reduceAdd, Nat.reduceEqDiff, Nat.reduceLT, Nat.reduceLeDiff, Nat.reduceMul, Nat.reduceSub, reduceCtorEq, ↓reduceIte]
        exact .c _
      have hnl : f.name.length ≤ 2500 := by simp at hc2; omega
      rw [if_neg (by omega)] at hF
      clear hc2
      have hT := texts_told f.aliases
      have ht := textsB_le f.aliases
      have hB := bulk_told5 _ f.dflt (Nat.le_refl _) 0 0 (by omega) rfl
      have hbt := tbulk5_top f.dflt
      generalize textsB f.aliases = t at hT ht hF
      generalize tbulk5 0 f.dflt = u at hB hbt hF
      simp only [JT.av_eq] at hB
      have w1 : IntKind.i64.wrap ((c : Int) + (f.name.length : Int)) = (c : Int) + (f.name.length : Int) := wrap64_id (by omega) (by omega)
      have w2 : IntKind.i64.wrap ((c : Int) + (f.name.length : Int) + (t : Int)) = (c : Int) + (f.name.length : Int) + (t : Int) := wrap64_id (by omega) (by omega)
      have w3 : IntKind.i64.wrap ((c : Int) + (f.name.length : Int) + (t : Int) + (u : Int)) = ((c + f.name.length + t + u : Nat) : Int) := by rw [wrap64_id (by omega) (by omega)]; rfl
      refine walkGF (And.intro @ncells_mk (And.intro hfp (And.intro @fcells_mk (And.intro @str_size w1)))) ?_
      refine walkC (hT) ?_
      refine walkGF (And.intro @ncells_mk (And.intro hfp (And.intro @fcells_mk (And.intro w2 (And.intro @len_cells (And.intro @take_cells @take_cellsC)))))) ?_
      refine walkCF (@pureL_c) (hB) ?_
      refine walkGF (And.intro w3 hwk) ?_
      refine .next ⟨(k + 1, c + f.name.length + t + u), by simp only []; omega, by simp only []; omega, hF⟩ ?_ (by simp only []; omega)
      simp only [ncells_mk, Weak, eq_self, used_is, sc_any, sc_c, sc_pp, sc_ref, sc_row, sc_agg, sc_fn, ScL, some_imp, List.forall_mem_map, go_sem, Int.reduceBEq, Int.reduceLE, Int.reduceLT, Int.reduceNeg, Nat.reduceAdd, Nat.reduceEqDiff, Nat.reduceLT, Nat.reduceLeDiff, Nat.reduceMul, Nat.reduceSub, reduceCtorEq, ↓reduceIte]
      try exact cI (by omega)
    · have hcc3 : ¬ (k < x.fields.length ∧ c ≤ 2500) := by simp at hc2; omega
      rw [fieldsB_end hcc3] at hF
      subst hF
      simp only [] at hV
      refine walkGF (hw) ?_
      refine .next ⟨(i + 1, c), by simp only []; omega, hc, hV⟩ ?_ (by simp only []; omega)
      simp only [Weak, eq_self, used_is, sc_any, sc_c, sc_pp, sc_ref, sc_row, sc_agg, sc_fn, ScL, some_imp, List.forall_mem_map, go_sem, Int.reduceBEq, Int.reduceLE, Int.reduceLT, Int.reduceNeg, Nat.reduceAdd, Nat.reduceEqDiff, Nat.reduceLT, Nat.reduceLeDiff, Nat.reduceMul, Nat.reduceSub, reduceCtorEq, ↓reduceIte]
      try exact cI (by omega)
  · have hcc2 : ¬ (i < s.nodes.length ∧ b ≤ 2500) := by simp at hc; omega
    rw [nodesB_end hcc2] at hV
    subst hV
    refine walkG ?_
    refine ⟨by first | exact .inr rfl | exact .inl rfl, ?_⟩; rw [Tryz.results42]; simp only [resOk, resV, go_sem, Int.reduceBEq, Int.reduceLE, Int.reduceLT, Int.reduceNeg, Nat.reduceAdd, Nat.reduceEqDiff, Nat.reduceLT, Nat.reduceLeDiff, Nat.reduceMul, Nat.reduceSub, reduceCtorEq, ↓reduceIte]
    exact .c _
set_option maxRecDepth 100000 in
set_option maxHeartbeats 400000 in
theorem sgreat_told (s : ST) : Told Tryz.prog 13 [s.av] (.c (.v (.bool (decide (2500 < (sbulk s : Int)))))) := by
  have hB := sbulk_told s
  simp only [ST.av_eq, scells_mk, List.map_cons, List.map_nil] at hB
  rw [ST.av_eq, scells_mk]
  refine VC.told ent_13 Tryz.func13 rfl Tryz.ntmps13 (by simp) (by first | rfl | simp [AV.pureB, AV.pureL, pureL_c, pures]) (by first | rfl | simp [AV.pureB, AV.pureL, pureL_c, pures]) fun hb => ?_
  clear hb
  refine walkG ?_
  refine walkC (hB) ?_
  refine walkG ?_
  refine ⟨by first | exact .inr rfl | exact .inl rfl, ?_⟩; rw [Tryz.results13]; simp only [resOk, resV, go_sem, Int.reduceBEq, Int.reduceLE, Int.reduceLT, Int.reduceNeg, Nat.reduceAdd, Nat.reduceEqDiff, Nat.reduceLT, Nat.reduceLeDiff, Nat.reduceMul, Nat.reduceSub, reduceCtorEq, ↓reduceIte]
  exact .c _
end

theorem ssm_le' {s : ST} (h : s.sm 2500) : s.sm 1000000 := by
  obtain ⟨h1, h2⟩ := h
  refine ⟨by omega, fun n hn => ?_⟩
  obtain ⟨a1, a2, ⟨a3, a4⟩, ⟨a5, a6⟩, a7, a8, a9⟩ := h2 n hn
  refine ⟨by omega, by omega, ⟨by omega, fun y hy => by have := a4 y hy; omega⟩, ⟨by omega, fun y hy => by have := a6 y hy; omega⟩, by omega, by omega, fun f hf => ?_⟩
  obtain ⟨b1, b2, b3, b4⟩ := a9 f hf
  exact ⟨by omega, by omega, fun y hy => by have := b3 y hy; omega, sm_le (by omega) _ b4⟩
section
attribute [local go_sem] opx opE ev okx gcond bnd okO AV.get AV.okb cAV upd_at putd_some putd_none wrs_nil wrs_cons look_nil look_cons st argT_at bpick_and bpick_or bpick_true bpick_false binV binI binS binVOk binOk isShift binSOk unV unVOk loadV loadP cellsA zeroA Blkd.len setE grown moreA moreR moreOk eqRes pv fillA fillE putSeg AV.cellish AV.pureL AV.pureB lentL_is ex_some AV.ren AV.renL renL_c Blkd.ren rho wrM renN lentOk rhoE keepM endOk tyA_2 tyA_3 tyA_4 tyA_5 tyA_6 tyA_7 tyA_8 tyA_9 tyA_10 tyA_11 tyA_12 tyA_13 tyA_14 tyA_15 tyA_16 tyA_17 tyA_18 tyA_19 tyA_21 tyA_22 tyA_23 tyA_24 tyA_29 tyA_30 tyA_31 tyA_32 tyA_33 tyA_34 tyA_35 tyA_36 tyA_37 tyA_38 tyA_39 tyA_40 tyA_41 tyA_42 tyA_43 tyA_51 tyA_73 tyA_77 tyA_99 tyA_100 tyA_101 tyA_114 tyA_120 tyA_121 tyA_122 tyA_131 tyA_132 tyA_133 tyA_134 tyA_135 tyA_138 tyA_139 tyA_140 tyA_149 tyA_163 tyA_168 tyA_210 tyA_212 tyA_219 tyA_227 tyA_231 tyA_233 tyA_237 tyA_238 tyA_239 tyA_240 tyA_241 tyA_243 tyA_244 tyA_246 tyA_247 tyA_248 tyA_251 Option.map_some Option.map_none Option.getD_some Option.getD_none Option.bind_some Option.bind_none List.getElem?_cons_zero List.getElem?_cons_succ List.getElem?_nil List.getElem?_toArray List.length_cons List.length_nil List.length_map List.forall_mem_map List.map_cons List.map_nil List.drop_zero List.drop_succ_cons List.drop_nil List.take_zero List.take_succ_cons List.take_nil List.mem_cons List.not_mem_nil or_false forall_eq_or_imp forall_eq List.set_cons_zero List.set_cons_succ List.cons_append List.nil_append List.append_nil List.foldl_cons List.foldl_nil List.replicate_succ List.replicate_zero List.all_cons List.all_nil if_true if_false Bool.false_eq_true ne_eq not_false_eq_true not_true_eq_false true_and and_true and_self true_implies imp_self implies_true forall_const beq_self_eq_true Bool.and_true Bool.true_and Bool.and_false Bool.false_and Bool.or_true Bool.true_or Bool.or_false Bool.false_or Bool.not_true Bool.not_false Bool.not_eq_eq_eq_not intKindOf Value.oneCell' Int.toNat_natCast beq_true beq_false Bool.not_eq_true false_implies false_or true_or or_true Nat.zero_add Nat.add_zero decide_true decide_false Int.cast_ofNat_Int Int.toNat_zero Int.toNat_one eq_self

set_option maxRecDepth 100000 in
set_option maxHeartbeats 3200000 in
theorem vparts_told (s : ST) (a : Int) (v : VT) (hi : v.inr) : Told Tryz.prog 6 [s.av, .c (.v (.int .i64 a)), v.av] (.c (.v (.bool true))) := by
  have hS := sgreat_told s
  have hG := vgreat_told v
  rw [ST.av_eq] at hS ⊢
  rw [VT.av_eq] at hG ⊢
  by_cases hs : 2500 < sbulk s
  · have e1 : decide (2500 < (sbulk s : Int)) = true := by simp; omega
    rw [e1] at hS
    refine VC.told ent_6 Tryz.func6 rfl Tryz.ntmps6 (by simp) (by first | rfl | simp [AV.pureB, AV.pureL, pureL_c, pures]) (by first | rfl | simp [AV.pureB, AV.pureL, pureL_c, pures]) fun hb => ?_
    clear hb
    refine walkG ?_
    refine walkC (works11_told) ?_
    refine walkBF (And.intro @len_scells (And.intro @take_scells @take_scellsC)) ?_
    refine walkCF (@pureL_c) (hS) ?_
    refine walkB ?_
    refine ⟨by first | exact .inr rfl | exact .inl rfl, ?_⟩; rw [Tryz.results6]; simp only [resOk, resV, go_sem, Int.reduceBEq, Int.reduceLE, Int.reduceLT, Int.reduceNeg, Nat.reduceAdd, Nat.reduceEqDiff, Nat.reduceLT, Nat.reduceLeDiff, Nat.reduceMul, Nat.reduceSub, reduceCtorEq, ↓reduceIte]
    exact .c _
  have e1 : decide (2500 < (sbulk s : Int)) = false := by simp; omega
  rw [e1] at hS
  by_cases hv : 2500 < vbulk 0 v
  · have e2 : decide (2500 < vbulk 0 v) = true := by simpa using hv
    rw [e2] at hG
    refine VC.told ent_6 Tryz.func6 rfl Tryz.ntmps6 (by simp) (by first | rfl | simp [AV.pureB, AV.pureL, pureL_c, pures]) (by first | rfl | simp [AV.pureB, AV.pureL, pureL_c, pures]) fun hb => ?_
    clear hb
    refine walkG ?_
    refine walkC (works11_told) ?_
    refine walkBF (And.intro @len_scells (And.intro @take_scells @take_scellsC)) ?_
    refine walkCF (@pureL_c) (hS) ?_
    refine walkGF (And.intro @len_vcells (And.intro @take_vcells @take_vcellsC)) ?_
    refine walkCF (@pureL_c) (hG) ?_
    refine walkB ?_
    refine ⟨by first | exact .inr rfl | exact .inl rfl, ?_⟩; rw [Tryz.results6]; simp only [resOk, resV, go_sem, Int.reduceBEq, Int.reduceLE, Int.reduceLT, Int.reduceNeg, Nat.reduceAdd, Nat.reduceEqDiff, Nat.reduceLT, Nat.reduceLeDiff, Nat.reduceMul, Nat.reduceSub, reduceCtorEq, ↓reduceIte]
    exact .c _
  have e2 : decide (2500 < vbulk 0 v) = false := by simpa using hv
  rw [e2] at hG
  have hsm := ssm_le' (sbulk_sm (s := s) (by omega))
  have hvm := vsm_le (show (2500 : Nat) ≤ 1000000 by omega) v (vbulk_sm 0 v hi (by omega))
  have hR := sRight_told s hsm
  rw [ST.av_eq] at hR
  cases hr : rightM s with
  | false =>
    rw [hr] at hR
    refine VC.told ent_6 Tryz.func6 rfl Tryz.ntmps6 (by simp) (by first | rfl | simp [AV.pureB, AV.pureL, pureL_c, pures]) (by first | rfl | simp [AV.pureB, AV.pureL, pureL_c, pures]) fun hb => ?_
    clear hb
    refine walkG ?_
    refine walkC (works11_told) ?_
    refine walkBF (And.intro @len_scells (And.intro @take_scells @take_scellsC)) ?_
    refine walkCF (@pureL_c) (hS) ?_
    refine walkGF (And.intro @len_vcells (And.intro @take_vcells @take_vcellsC)) ?_
    refine walkCF (@pureL_c) (hG) ?_
    refine walkGF (And.intro @len_scells (And.intro @take_scells @take_scellsC)) ?_
    refine walkCF (@pureL_c) (hR) ?_
    refine walkB ?_
    refine ⟨by first | exact .inr rfl | exact .inl rfl, ?_⟩; rw [Tryz.results6]; simp only [resOk, resV, go_sem, Int.reduceBEq, Int.reduceLE, Int.reduceLT, Int.reduceNeg, Nat.reduceAdd, Nat.reduceEqDiff, Nat.reduceLT, Nat.reduceLeDiff, Nat.reduceMul, Nat.reduceSub, reduceCtorEq, ↓reduceIte]
    exact .c _
  | true =>
  rw [hr] at hR
  by_cases h1 : 0 ≤ a
  rotate_left
  · have d1 : decide (a < 0) = true := by simp; omega
    refine VC.told ent_6 Tryz.func6 rfl Tryz.ntmps6 (by simp) (by first | rfl | simp [AV.pureB, AV.pureL, pureL_c, pures]) (by first | rfl | simp [AV.pureB, AV.pureL, pureL_c, pures]) fun hb => ?_
    clear hb
    refine walkG ?_
    refine walkC (works11_told) ?_
    refine walkBF (And.intro @len_scells (And.intro @take_scells @take_scellsC)) ?_
    refine walkCF (@pureL_c) (hS) ?_
    refine walkGF (And.intro @len_vcells (And.intro @take_vcells @take_vcellsC)) ?_
    refine walkCF (@pureL_c) (hG) ?_
    refine walkGF (And.intro @len_scells (And.intro @take_scells @take_scellsC)) ?_
    refine walkCF (@pureL_c) (hR) ?_
    refine walkBF (d1) ?_
    refine ⟨by first | exact .inr rfl | exact .inl rfl, ?_⟩; rw [Tryz.results6]; simp only [resOk, resV, go_sem, Int.reduceBEq, Int.reduceLE, Int.reduceLT, Int.reduceNeg, Nat.reduceAdd, Nat.reduceEqDiff, Nat.reduceLT, Nat.reduceLeDiff, Nat.reduceMul, Nat.reduceSub, reduceCtorEq, ↓reduceIte]
    exact .c _
  have d1 : decide (a < 0) = false := by simp; omega
  by_cases h2 : a < (s.nodes.length : Int)
  rotate_left
  · have d2 : decide (a ≥ (s.nodes.length : Int)) = true := by simp; omega
    refine VC.told ent_6 Tryz.func6 rfl Tryz.ntmps6 (by simp) (by first | rfl | simp [AV.pureB, AV.pureL, pureL_c, pures]) (by first | rfl | simp [AV.pureB, AV.pureL, pureL_c, pures]) fun hb => ?_
    clear hb
    refine walkG ?_
    refine walkC (works11_told) ?_
    refine walkBF (And.intro @len_scells (And.intro @take_scells @take_scellsC)) ?_
    refine walkCF (@pureL_c) (hS) ?_
    refine walkGF (And.intro @len_vcells (And.intro @take_vcells @take_vcellsC)) ?_
    refine walkCF (@pureL_c) (hG) ?_
    refine walkGF (And.intro @len_scells (And.intro @take_scells @take_scellsC)) ?_
    refine walkCF (@pureL_c) (hR) ?_
    refine walkBF (And.intro d1 (And.intro d2 @scells_mk)) ?_
    refine ⟨by first | exact .inr rfl | exact .inl rfl, ?_⟩; rw [Tryz.results6]; simp only [resOk, resV, go_sem, Int.reduceBEq, Int.reduceLE, Int.reduceLT, Int.reduceNeg, Nat.reduceAdd, Nat.reduceEqDiff, Nat.reduceLT, Nat.reduceLeDiff, Nat.reduceMul, Nat.reduceSub, reduceCtorEq, ↓reduceIte]
    exact .c _
  have d2 : decide (a ≥ (s.nodes.length : Int)) = false := by simp; omega
  obtain ⟨p, rfl⟩ : ∃ p : Nat, a = (p : Int) := ⟨a.toNat, by omega⟩
  obtain ⟨nd, hnd⟩ : ∃ nd, s.nodes[p]? = some nd := ⟨s.nodes[p]'(by omega), List.getElem?_eq_getElem (by omega)⟩
  have hmem := List.mem_of_getElem? hnd
  have hnp : (s.nodes.map NT.cells)[p]? = some nd.cells := by rw [List.getElem?_map, hnd]; rfl
  have hki := ordered_kids (right_ordered hr)
  have hcon : ∀ (k : Int) (x : VT), x.sm 1000000 → 0 ≤ k → k < (s.nodes.length : Int) → Told Tryz.prog 18 [.agg (s.cells.map .c), .c (.v (.int .i64 k)), .agg (x.cells.map .c)] (.c (.v (.bool (isM s.nodes k x)))) := fun k x hx k0 k1 => by
    have := vConforms_told s hsm x hx k
    have e : conM s k x (rightM s) = isM s.nodes k x := by
      rw [conM, hr]
      simp [k0, k1]
    rw [e] at this
    exact this
  have hns := hsm.2 nd hmem
  have hKd := kids_told nd hns
  rw [NT.av_eq] at hKd
  have hkl := kids_len hns
  cases v with
  | mk k n b t xs ks =>
  have hC0 := hcon (p : Int) _ hvm (by omega) h2
  have hbl := hns.2.2.2.2.1
  have hxs := hvm.2.2.2.2.2
  have hxl := hvm.2.2.2.2.1
  refine VC.told ent_6 Tryz.func6 rfl Tryz.ntmps6 (by simp) (by first | rfl | simp [AV.pureB, AV.pureL, pureL_c, pures]) (by first | rfl | simp [AV.pureB, AV.pureL, pureL_c, pures]) fun hb => ?_
  clear hb
  refine walkG ?_
  refine walkC (works11_told) ?_
  refine walkBF (And.intro @len_scells (And.intro @take_scells @take_scellsC)) ?_
  refine walkCF (@pureL_c) (hS) ?_
  refine walkGF (And.intro @len_vcells (And.intro @take_vcells @take_vcellsC)) ?_
  refine walkCF (@pureL_c) (hG) ?_
  refine walkGF (And.intro @len_scells (And.intro @take_scells @take_scellsC)) ?_
  refine walkCF (@pureL_c) (hR) ?_
  refine walkBF (And.intro d1 (And.intro d2 (And.intro @scells_mk (And.intro hnp @ncells_mk)))) ?_
  refine VC.meet [(1, .c (.v (.int .i64 (p : Int)))), (3, .ref 0 1 0 0), (5, .ref 8 1 0 0), (7, .ref 256 1 0 0)] [(0, ⟨false, 24, 2, [s.cells.map .c]⟩), (8, ⟨false, 43, 6, [(VT.mk k n b t xs ks).cells.map .c]⟩), (256, ⟨false, 33, 10, [nd.cells.map .c]⟩)] 2000 ?_ ?_
  · refine VC.cond (by rfl) (by trivial) (fun hc => ?_) (fun hc => ?_)
    rotate_left
    · refine walkG ?_
      refine .normal ?_
      simp only [vcells_mk, ncells_mk, scells_mk, Weak, eq_self, used_is, sc_any, sc_c, sc_pp, sc_ref, sc_row, sc_agg, sc_fn, ScL, some_imp, List.forall_mem_map, go_sem, Int.reduceBEq, Int.reduceLE, Int.reduceLT, Int.reduceNeg, Nat.reduceAdd, Nat.reduceEqDiff, Nat.reduceLT, Nat.reduceLeDiff, Nat.reduceMul, Nat.reduceSub, reduceCtorEq, ↓reduceIte]
    have h13 : nd.kind = 13 := by simpa using hc
    have hkd : kidsN nd = nd.branches := by
      unfold kidsN
      rw [if_neg (by omega), if_neg (by omega), if_pos h13]
    refine walkGF (And.intro @vcells_mk (And.intro @ncells_mk @scells_mk)) ?_
    refine VC.loop (ι := {x : Nat × Nat // x.1 ≤ nd.branches.length ∧ x.2 ≤ 1 ∧ (x.2 = 1 → ∃ (j : Nat) (c : Int), j < x.1 ∧ nd.branches[j]? = some c ∧ namedK (kindAt s.nodes c.toNat) = false ∧ isM s.nodes c (.mk k n b t xs ks) = true)}) (fun q => [(1, .c (.v (.int .i64 (p : Int)))), (3, .ref 0 1 0 0), (5, .ref 8 1 0 0), (7, .ref 256 1 0 0), (8, .c (.v (.int .i64 (q.1.2 : Int)))), (48, .c (.sl 1 (nd.branches.map iPV))), (49, .c (.v (.int .i64 (nd.branches.length : Int)))), (50, .c (.v (.int .i64 (q.1.1 : Int))))])
      (fun _ => [(0, ⟨false, 24, 2, [s.cells.map .c]⟩), (8, ⟨false, 43, 6, [(VT.mk k n b t xs ks).cells.map .c]⟩), (256, ⟨false, 33, 10, [nd.cells.map .c]⟩)]) 4000 (fun q => nd.branches.length - q.1.1) ⟨(0, 0), Nat.zero_le _, by simp only []; omega, fun h => by simp at h⟩ ?_ ?_
    · simp only [vcells_mk, ncells_mk, scells_mk, Weak, eq_self, used_is, sc_any, sc_c, sc_pp, sc_ref, sc_row, sc_agg, sc_fn, ScL, some_imp, List.forall_mem_map, go_sem, Int.reduceBEq, Int.reduceLE, Int.reduceLT, Int.reduceNeg, Nat.reduceAdd, Nat.reduceEqDiff, Nat.reduceLT, Nat.reduceLeDiff, Nat.reduceMul, Nat.reduceSub, reduceCtorEq, ↓reduceIte]
      try simp
    rintro ⟨⟨i, m⟩, hib, hm1, hmx⟩
    simp only [] at hib hm1 hmx ⊢
    refine walkG ?_
    refine VC.cond (by rfl) (by trivial) (fun hc2 => ?_) (fun hc2 => ?_)
    · have hlt : i < nd.branches.length := by simp at hc2; omega
      obtain ⟨c, hx⟩ : ∃ c, nd.branches[i]? = some c := ⟨nd.branches[i], List.getElem?_eq_getElem hlt⟩
      obtain ⟨c0, c1⟩ := hki nd hmem c (by rw [hkd]; exact List.mem_of_getElem? hx)
      obtain ⟨r, rfl⟩ : ∃ r : Nat, c = (r : Int) := ⟨c.toNat, by omega⟩
      obtain ⟨w, hwn⟩ : ∃ w, s.nodes[r]? = some w := ⟨s.nodes[r]'(by omega), List.getElem?_eq_getElem (by omega)⟩
      have hwp : (s.nodes.map NT.cells)[r]? = some w.cells := by rw [List.getElem?_map, hwn]; rfl
      have hxp : (nd.branches.map iPV)[i]? = some (iPV (r : Int)) := by rw [List.getElem?_map, hx]; rfl
      have hw : IntKind.i64.wrap ((i : Int) + 1) = (i : Int) + 1 := wrap64_id (by omega) (by omega)
      have q0 : decide ((r : Int) ≥ 0) = true := by simp
      have q1 : decide ((r : Int) < (s.nodes.length : Int)) = true := by simpa using c1
      have hNm := named_told w.kind
      have hCv := hcon (r : Int) _ hvm c0 c1
      have hka : kindAt s.nodes ((r : Int)).toNat = w.kind := by rw [Int.toNat_natCast, kindAt, hwn]
      obtain ⟨bn, hbn⟩ : ∃ bn, bn = namedK w.kind := ⟨_, rfl⟩
      obtain ⟨bi, hbi⟩ : ∃ bi, bi = isM s.nodes (r : Int) (.mk k n b t xs ks) := ⟨_, rfl⟩
      rw [← hbn] at hNm
      rw [← hbi] at hCv
      rw [scells_mk, vcells_mk] at hCv
      refine walkGF (And.intro @vcells_mk (And.intro @ncells_mk (And.intro @scells_mk (And.intro hxp (And.intro @iPV_eq (And.intro q0 (And.intro q1 hwp))))))) ?_
      refine walkC (hNm) ?_
      refine walkGF (And.intro @vcells_mk (And.intro @ncells_mk @scells_mk)) ?_
      refine walkD (hCv) ?_
      refine walkG ?_
      refine VC.cond (by rfl) (by trivial) (fun hc3 => ?_) (fun hc3 => ?_)
      · obtain ⟨rfl, rfl⟩ : bn = false ∧ bi = true := by
          cases bn <;> cases bi <;> simp at hc3 ⊢
        have hm0 : m = 0 := by
          by_cases h : m = 1
          · obtain ⟨j, c, hj, hjb, hjn, hjm⟩ := hmx h
            exact (one_branch hr hmem h13 hjb hx hj hjn (by rw [hka, ← hbn]) hjm hbi.symm).elim
          · omega
        subst hm0
        have hwm : IntKind.i64.wrap (((0 : Nat) : Int) + 1) = 1 := by rfl
        refine walkGF (And.intro hwm hw) ?_
        refine .next ⟨(i + 1, 1), by simp only []; omega, by simp only []; omega, fun _ => ⟨i, (r : Int), by simp only []; omega, hx, by rw [hka, ← hbn], hbi.symm⟩⟩ ?_ (by simp only []; omega)
        simp only [vcells_mk, ncells_mk, scells_mk, Weak, eq_self, used_is, sc_any, sc_c, sc_pp, sc_ref, sc_row, sc_agg, sc_fn, ScL, some_imp, List.forall_mem_map, go_sem, Int.reduceBEq, Int.reduceLE, Int.reduceLT, Int.reduceNeg, Nat.reduceAdd, Nat.reduceEqDiff, Nat.reduceLT, Nat.reduceLeDiff, Nat.reduceMul, Nat.reduceSub, reduceCtorEq, ↓reduceIte]
        exact ⟨rfl, cI (by omega)⟩
      · refine walkGF (hw) ?_
        refine .next ⟨(i + 1, m), by simp only []; omega, hm1, fun h => by
          obtain ⟨j, c, hj, hjs⟩ := hmx h
          exact ⟨j, c, by simp only [] at hj ⊢; omega, hjs⟩⟩ ?_ (by simp only []; omega)
        simp only [vcells_mk, ncells_mk, scells_mk, Weak, eq_self, used_is, sc_any, sc_c, sc_pp, sc_ref, sc_row, sc_agg, sc_fn, ScL, some_imp, List.forall_mem_map, go_sem, Int.reduceBEq, Int.reduceLE, Int.reduceLT, Int.reduceNeg, Nat.reduceAdd, Nat.reduceEqDiff, Nat.reduceLT, Nat.reduceLeDiff, Nat.reduceMul, Nat.reduceSub, reduceCtorEq, ↓reduceIte]
        exact cI (by omega)
    · have hm : decide ((m : Int) > 1) = false := by simp; omega
      refine walkBF (hm) ?_
      refine .normal ?_
      simp only [vcells_mk, ncells_mk, scells_mk, Weak, eq_self, used_is, sc_any, sc_c, sc_pp, sc_ref, sc_row, sc_agg, sc_fn, ScL, some_imp, List.forall_mem_map, go_sem, Int.reduceBEq, Int.reduceLE, Int.reduceLT, Int.reduceNeg, Nat.reduceAdd, Nat.reduceEqDiff, Nat.reduceLT, Nat.reduceLeDiff, Nat.reduceMul, Nat.reduceSub, reduceCtorEq, ↓reduceIte]
  refine walkGF (And.intro @vcells_mk (And.intro @ncells_mk @scells_mk)) ?_
  rw [scells_mk, vcells_mk] at hC0
  cases hb0 : isM s.nodes (p : Int) (.mk k n b t xs ks) with
  | false =>
    rw [hb0] at hC0
    refine walkC (hC0) ?_
    refine walkB ?_
    refine ⟨by first | exact .inr rfl | exact .inl rfl, ?_⟩; rw [Tryz.results6]; simp only [resOk, resV, go_sem, Int.reduceBEq, Int.reduceLE, Int.reduceLT, Int.reduceNeg, Nat.reduceAdd, Nat.reduceEqDiff, Nat.reduceLT, Nat.reduceLeDiff, Nat.reduceMul, Nat.reduceSub, reduceCtorEq, ↓reduceIte]
    exact .c _
  | true =>
  rw [hb0] at hC0
  have hit := fun (i : Nat) (x : VT) (hx : xs[i]? = some x) => item_in hr (a := (p : Int)) (by rw [Int.toNat_natCast]; exact hnd) hb0 hx
  refine walkC (hC0) ?_
  refine walkBF (And.intro @vcells_mk (And.intro @ncells_mk (And.intro @scells_mk (And.intro @len_ncells (And.intro @take_ncells @take_ncellsC))))) ?_
  rw [ncells_mk] at hKd
  obtain ⟨L, hL⟩ : ∃ L, L = kidsN nd := ⟨_, rfl⟩
  rw [← hL] at hKd hit hkl
  refine walkC (hKd) ?_
  refine walkGF (And.intro @vcells_mk (And.intro @ncells_mk @scells_mk)) ?_
  refine VC.loop (ι := {i : Nat // i ≤ xs.length}) (fun q => [(1, .c (.v (.int .i64 (p : Int)))), (3, .ref 0 1 0 0), (5, .ref 8 1 0 0), (7, .ref 256 1 0 0), (11, .c (.sl 1 (L.map iPV))), (92, .c (.sl 6 (xs.map VT.cells))), (93, .c (.v (.int .i64 (xs.length : Int)))), (94, .c (.v (.int .i64 (q.1 : Int))))])
    (fun _ => [(0, ⟨false, 24, 2, [s.cells.map .c]⟩), (8, ⟨false, 43, 6, [(VT.mk k n b t xs ks).cells.map .c]⟩), (256, ⟨false, 33, 10, [nd.cells.map .c]⟩)]) 8000 (fun q => xs.length - q.1) ⟨0, Nat.zero_le _⟩ ?_ ?_
  · simp only [vcells_mk, ncells_mk, scells_mk, Weak, eq_self, used_is, sc_any, sc_c, sc_pp, sc_ref, sc_row, sc_agg, sc_fn, ScL, some_imp, List.forall_mem_map, go_sem, Int.reduceBEq, Int.reduceLE, Int.reduceLT, Int.reduceNeg, Nat.reduceAdd, Nat.reduceEqDiff, Nat.reduceLT, Nat.reduceLeDiff, Nat.reduceMul, Nat.reduceSub, reduceCtorEq, ↓reduceIte]
    try simp
  rintro ⟨i, hib⟩
  simp only []
  refine walkG ?_
  refine VC.cond (by rfl) (by trivial) (fun hc2 => ?_) (fun hc2 => ?_)
  rotate_left
  · refine walkG ?_
    refine ⟨by first | exact .inr rfl | exact .inl rfl, ?_⟩; rw [Tryz.results6]; simp only [resOk, resV, go_sem, Int.reduceBEq, Int.reduceLE, Int.reduceLT, Int.reduceNeg, Nat.reduceAdd, Nat.reduceEqDiff, Nat.reduceLT, Nat.reduceLeDiff, Nat.reduceMul, Nat.reduceSub, reduceCtorEq, ↓reduceIte]
    exact .c _
  have hlt : i < xs.length := by simp at hc2; omega
  obtain ⟨x, hx⟩ : ∃ x, xs[i]? = some x := ⟨xs[i], List.getElem?_eq_getElem hlt⟩
  have hxp : (xs.map VT.cells)[i]? = some x.cells := by rw [List.getElem?_map, hx]; rfl
  have hw : IntKind.i64.wrap ((i : Int) + 1) = (i : Int) + 1 := wrap64_id (by omega) (by omega)
  obtain ⟨t1, t2, t3, _, t4⟩ := hit i x hx
  have hCx := hcon (itemAt nd n i) x (vsmL_mem hxs x (List.mem_of_getElem? hx)) t2 t3
  rw [t1] at hCx
  rw [scells_mk] at hCx
  generalize itemAt nd n i = z at hCx t4
  clear hcon hit t1 t2 t3
  rcases t4 with ⟨h9, hz⟩ | ⟨h13, n0, n1, hz⟩ | ⟨h9, h13, hz⟩
  · have e9 : (nd.kind == 9) = true := by simpa using h9
    have hil := (List.getElem?_eq_some_iff.1 hz).1
    have g1 : decide ((i : Int) < (L.length : Int)) = true := by simp; omega
    have hzp : (L.map iPV)[i]? = some (iPV z) := by rw [List.getElem?_map, hz]; rfl
    refine walkBF (And.intro @vcells_mk (And.intro @ncells_mk (And.intro @scells_mk (And.intro hxp (And.intro @len_vcells (And.intro @take_vcells (And.intro @take_vcellsC (And.intro e9 (And.intro g1 (And.intro hzp @iPV_eq)))))))))) ?_
    refine walkCF (@pureL_c) (hCx) ?_
    refine walkBF (hw) ?_
    refine .next ⟨i + 1, by omega⟩ ?_ (by simp only []; omega)
    simp only [vcells_mk, ncells_mk, scells_mk, Weak, eq_self, used_is, sc_any, sc_c, sc_pp, sc_ref, sc_row, sc_agg, sc_fn, ScL, some_imp, List.forall_mem_map, go_sem, Int.reduceBEq, Int.reduceLE, Int.reduceLT, Int.reduceNeg, Nat.reduceAdd, Nat.reduceEqDiff, Nat.reduceLT, Nat.reduceLeDiff, Nat.reduceMul, Nat.reduceSub, reduceCtorEq, ↓reduceIte]
    exact cI (by omega)
  · have e9 : (nd.kind == 9) = false := by simp; omega
    have e13 : (nd.kind == 13) = true := by simpa using h13
    obtain ⟨q, rfl⟩ : ∃ q : Nat, n = (q : Int) := ⟨n.toNat, by omega⟩
    have g0 : decide ((q : Int) ≥ 0) = true := by simp
    have g1 : decide ((q : Int) < (L.length : Int)) = true := by simpa using n1
    rw [Int.toNat_natCast] at hz
    have hzp : (L.map iPV)[q]? = some (iPV z) := by rw [List.getElem?_map, hz]; rfl
    refine walkBF (And.intro @vcells_mk (And.intro @ncells_mk (And.intro @scells_mk (And.intro hxp (And.intro @len_vcells (And.intro @take_vcells (And.intro @take_vcellsC (And.intro e9 (And.intro e13 (And.intro g0 (And.intro g1 (And.intro hzp @iPV_eq)))))))))))) ?_
    refine walkCF (@pureL_c) (hCx) ?_
    refine walkBF (hw) ?_
    refine .next ⟨i + 1, by omega⟩ ?_ (by simp only []; omega)
    simp only [vcells_mk, ncells_mk, scells_mk, Weak, eq_self, used_is, sc_any, sc_c, sc_pp, sc_ref, sc_row, sc_agg, sc_fn, ScL, some_imp, List.forall_mem_map, go_sem, Int.reduceBEq, Int.reduceLE, Int.reduceLT, Int.reduceNeg, Nat.reduceAdd, Nat.reduceEqDiff, Nat.reduceLT, Nat.reduceLeDiff, Nat.reduceMul, Nat.reduceSub, reduceCtorEq, ↓reduceIte]
    exact cI (by omega)
  · have e9 : (nd.kind == 9) = false := by simpa using h9
    have e13 : (nd.kind == 13) = false := by simpa using h13
    subst hz
    (repeat (first | refine pass ?_ | refine VC.region (by rfl) (by rfl) ?_ | (refine AO.step fun K hK => ?_; simp only [vcells_mk, ncells_mk, scells_mk, hxp, len_vcells, take_vcells, take_vcellsC, e9, e13, iPV, List.length_singleton, go_sem, Int.reduceBEq, Int.reduceLE, Int.reduceLT, Int.reduceNeg, Nat.reduceAdd, Nat.reduceEqDiff, Nat.reduceLT, Nat.reduceLeDiff, Nat.reduceMul, Nat.reduceSub, reduceCtorEq, ↓reduceIte]; (first | refine gsel_skip ?_ | refine gsel_go ?_ | skip); (first | refine hK _ _ _ ?_ | refine ⟨by first | omega | exact ⟨_, rfl, rfl⟩ | exact fun _ => ⟨_, rfl, rfl⟩ | (intro h; simp only [vcells_mk, ncells_mk, scells_mk, hxp, len_vcells, take_vcells, take_vcellsC, e9, e13, iPV, List.length_singleton, h, true_and]; omega) | (clear hK; intro h; simp_all <;> omega), hK _ _ _ ?_⟩); clear hK K) | refine VC.draw mixP (by rfl) (by rfl) ?_ | refine ⟨okd_of (by kernel_rfl), ?_⟩ | refine BQ.other (by decide) ?_ | refine VC.seq ?_ | refine AO.nil ?_ | refine VC.block ?_ | refine VC.condT (by rfl) (by trivial) ?_ | refine VC.condF (by rfl) (by trivial) ?_))
    refine walkCF (@pureL_c) (hCx) ?_
    refine walkBF (hw) ?_
    refine .next ⟨i + 1, by omega⟩ ?_ (by simp only []; omega)
    simp only [vcells_mk, ncells_mk, scells_mk, Weak, eq_self, used_is, sc_any, sc_c, sc_pp, sc_ref, sc_row, sc_agg, sc_fn, ScL, some_imp, List.forall_mem_map, go_sem, Int.reduceBEq, Int.reduceLE, Int.reduceLT, Int.reduceNeg, Nat.reduceAdd, Nat.reduceEqDiff, Nat.reduceLT, Nat.reduceLeDiff, Nat.reduceMul, Nat.reduceSub, reduceCtorEq, ↓reduceIte]
    exact cI (by omega)
end
section

theorem gWords : Tryz.prog.globalNamed "avocet/naming.words" = some 0 := by kernel_rfl
theorem tWords : (Tryz.prog.globals[0]?).map (·.type) = some 163 := by kernel_rfl
theorem uWords : Tryz.prog.underlying 163 = some (.array 15 9) := by kernel_rfl
theorem cWords : Tryz.prog.cellsOf 9 = 1 := by kernel_rfl
theorem onlyWords : ((List.range Tryz.prog.globals.size).all fun g => g == 0 || (glob Tryz.prog g).isNone) = true := by kernel_rfl
theorem globWords : glob Tryz.prog 0 = some (kwords.map fun w => PV.v (.string (str w))) := by kernel_rfl
theorem words_cells {W : World} (h : laidMetH Tryz.prog [("avocet/naming.words", Rows.laid_avocet_naming_words)] W) :
    ∃ cs : Array Value, (∀ i, W.cell? ⟨0, i, none⟩ = cs[i]?) ∧ cs.size = 15 ∧ ∀ (i : Nat) (w : List UInt8), kwords[i]? = some w → cs[i]? = some (.string (str w)) := by
  rw [MakeChecks.laidMetH_plain _ _ _ (by kernel_rfl)] at h
  obtain ⟨ps, ⟨g0, t0, cs0, f0, p0, q0, hg0, ht0, hv0, hd0, _, _⟩, _, _⟩ := h
  obtain rfl := Option.some.inj (gWords.symm.trans hg0)
  obtain rfl := Option.some.inj (tWords.symm.trans ht0)
  obtain ⟨xs, m1, rfl, hx1, hlen, hn15, hel⟩ := DataW.trod_array uWords hd0
  simp only [Rows.laid_avocet_naming_words, Prod.mk.injEq, DataW.agg.injEq] at hx1
  have hx2 : kwords.map (fun w => (DataW.lit (.string w) : DataW Unit)) = xs.map (·.1) := hx1.1
  have hat : ∀ i, i < 15 → ∃ s : ByteArray, cs0[i]? = some (.string s) ∧ ∃ x, xs[i]? = some x ∧ x.1 = .lit (.string s.data.toList) := by
    intro i hi
    obtain ⟨x, hx⟩ : ∃ x, xs[i]? = some x := ⟨xs[i]'(by omega), List.getElem?_eq_getElem (by omega)⟩
    have h1 := hel i hi
    rw [hx] at h1
    obtain ⟨s, e1, e2, _⟩ := DataW.trod_string Tryz.underlying9 h1
    rw [cWords, Nat.mul_one] at e1
    refine ⟨s, ?_, x, hx, by rw [e2]⟩
    have h2 : (cs0.toList.drop i)[0]? = some (.string s) := by
      have h3 : ((cs0.toList.drop i).take 1)[0]? = some (.string s) := by rw [e1]; rfl
      rwa [List.getElem?_take_of_lt (by decide)] at h3
    rw [List.getElem?_drop, Nat.add_zero] at h2
    simpa using h2
  refine ⟨cs0, fun i => World.var?_cell hg0 hv0 i, ?_, fun i w hw => ?_⟩
  · have := hlen
    rw [show Tryz.prog.cellsOf 163 = 15 by kernel_rfl] at this
    simpa using this
  · have hi : i < 15 := (List.getElem?_eq_some_iff.1 hw).1
    obtain ⟨s, h1, x, h2, h3⟩ := hat i hi
    have h4 : (xs.map (·.1))[i]? = some (.lit (.string w)) := by rw [← hx2, List.getElem?_map, hw]; rfl
    rw [List.getElem?_map, h2] at h4
    have h5 : x.1 = .lit (.string w) := Option.some.inj h4
    rw [h3] at h5
    have h6 : s.data.toList = w := Lit.string.inj (DataW.lit.inj h5)
    have h7 : s = str w := by
      apply ByteArray.ext
      rw [← h6]
      show s.data = s.data.toList.toArray
      exact (Array.toArray_toList).symm
    rw [h1, h7]
theorem gok_words {W : World} (h : laidMetH Tryz.prog [("avocet/naming.words", Rows.laid_avocet_naming_words)] W) : GOk Tryz.prog W (fun k => k < W.heap.size) := by
  obtain ⟨cs, h1, h2, h3⟩ := words_cells h
  intro g cells hc
  have hg : g = 0 := by
    by_cases hlt : g < Tryz.prog.globals.size
    · have := List.all_eq_true.1 onlyWords g (List.mem_range.2 hlt)
      rw [hc] at this
      simpa using this
    · unfold glob at hc
      rw [Array.getElem?_eq_none (by omega)] at hc
      simp at hc
  subst hg
  rw [globWords] at hc
  obtain rfl := Option.some.inj hc
  refine ⟨?_, cs.toList, fun j hj => ?_, ⟨by simp [h2, kwords], fun j p v hp hv => ?_⟩⟩
  · have h4 := h1 0
    rw [h3 0 [] rfl] at h4
    by_cases hlt : 0 < W.heap.size
    · exact hlt
    · unfold World.cell? at h4
      simp only [] at h4
      rw [Array.getElem?_eq_none (by omega)] at h4
      simp at h4
  · rw [Nat.zero_add, h1 j]
    simp
  · rw [List.getElem?_map] at hp
    cases hw : kwords[j]? with
    | none => rw [hw] at hp; simp at hp
    | some w =>
      rw [hw] at hp
      obtain rfl := Option.some.inj hp
      have h5 := h3 j w hw
      rw [Array.getElem?_toList] at hv
      rw [h5] at hv
      obtain rfl := Option.some.inj hv
      exact .v rfl
section
variable {P : Program} {w : World}
theorem law_toldG (hg : GOk P w (fun k => k < w.heap.size)) {f : FuncId} {args : List AV} (hT : Told P f args (.c (.v (.bool true)))) {vs : List Value} (hl : vs.length = args.length) (hr : ∀ (j : Nat) (x : AV) (v : Value), args[j]? = some x → vs[j]? = some v → Rep w (fun b => b < w.heap.size) φ0 h0 x v) :
    Calls P f vs.toArray w fun e W' => e = .returned (.bool true) ∧ Below w.heap.size w W' := by
  refine (hT.2 w (fun k => k < w.heap.size) vs (fun _ h => h) hg ⟨hl, hr⟩).mono ?_
  rintro e W' ⟨v, ro', rfl, hb, _, _, hr, _⟩
  obtain rfl := rep_prim hr
  exact ⟨rfl, hb⟩
end
end
end Go.Proofs.YtmooihlndkgdaaaGreatDoor
