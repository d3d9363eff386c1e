/- Texts that lead to the law DecodeBack, joined. -/
import Derived.Test.YtllnlmchjljhlaaGreatDoorPkDecodeBackH
import Derived.Test.YtllnlmchjljhlaaGreatDoorPkDecodeBackA
import Derived.Test.YtllnlmchjljhlaaGreatDoorPkDecodeBackF
import Derived.Test.YtllnlmchjljhlaaGreatDoorPkDecodeBackG
import Derived.Test.YtllnlmchjljhlaaGreatDoorPkDecodeBackB
import Derived.Test.YtllnlmchjljhlaaGreatDoorRows
import Derived.Test.YtllnlmchjljhlaaGreatDoorPkDecodeBackE
import Derived.MakeChecks
import Derived.LaidMore
import Derived.OpenShut
namespace Go.Proofs.YtllnlmchjljhlaaGreatDoor
open Go.RowKit
set_option linter.unusedVariables false
set_option linter.unusedSimpArgs false
section

section
variable {P : Program}
theorem ty_int {t : TypeId} {k : IntKind} {ps : List PV} (h : TyPV P t ps) (hu : P.underlying t = some (.int k)) : ∃ n, ps = [.v (.int k n)] ∧ (Lit.int k n).wf = true := by
  cases h with
  | int ht hw => obtain rfl := TypeDesc.int.inj (Option.some.inj (ht.symm.trans hu)); exact ⟨_, rfl, hw⟩
  | bool ht => simp [ht] at hu
  | str ht hs => simp [ht] at hu
  | sl ht hx => simp [ht] at hu
  | struct ht hl hx => simp [ht] at hu
theorem ty_bool {t : TypeId} {ps : List PV} (h : TyPV P t ps) (hu : P.underlying t = some .bool) : ∃ b, ps = [.v (.bool b)] := by
  cases h with
  | bool ht => exact ⟨_, rfl⟩
  | int ht hw => simp [ht] at hu
  | str ht hs => simp [ht] at hu
  | sl ht hx => simp [ht] at hu
  | struct ht hl hx => simp [ht] at hu
theorem ty_str {t : TypeId} {ps : List PV} (h : TyPV P t ps) (hu : P.underlying t = some .string) : ∃ s : List UInt8, ps = [.v (.string (str s))] ∧ s.length ≤ maxLen := by
  cases h with
  | @str _ s ht hs => exact ⟨s.data.toList, by rw [str_of], by rw [← str_size, str_of]; exact hs⟩
  | bool ht => simp [ht] at hu
  | int ht hw => simp [ht] at hu
  | sl ht hx => simp [ht] at hu
  | struct ht hl hx => simp [ht] at hu
theorem ty_sl {t e : TypeId} {ps : List PV} (h : TyPV P t ps) (hu : P.underlying t = some (.slice e)) : ∃ es, ps = [.sl (P.cellsOf e) es] ∧ ∀ q ∈ es, TyPV P e q := by
  cases h with
  | sl ht hx => obtain rfl := TypeDesc.slice.inj (Option.some.inj (ht.symm.trans hu)); exact ⟨_, rfl, hx⟩
  | bool ht => simp [ht] at hu
  | int ht hw => simp [ht] at hu
  | str ht hs => simp [ht] at hu
  | struct ht hl hx => simp [ht] at hu
theorem list_map {α β : Type} {f : α → β} : ∀ {l : List β}, (∀ y ∈ l, ∃ x, y = f x) → ∃ m : List α, l = m.map f
  | [], _ => ⟨[], rfl⟩
  | y :: l, h => by
    obtain ⟨x, rfl⟩ := h y (by simp)
    obtain ⟨m, rfl⟩ := list_map (l := l) fun z hz => h z (by simp [hz])
    exact ⟨x :: m, rfl⟩
theorem list_mapP {α β : Type} {f : α → β} {p : α → Prop} : ∀ {l : List β}, (∀ y ∈ l, ∃ x, p x ∧ y = f x) → ∃ m : List α, (∀ x ∈ m, p x) ∧ l = m.map f
  | [], _ => ⟨[], by simp, rfl⟩
  | y :: l, h => by
    obtain ⟨x, hx, rfl⟩ := h y (by simp)
    obtain ⟨m, hm, rfl⟩ := list_mapP (l := l) fun z hz => h z (by simp [hz])
    exact ⟨x :: m, fun z hz => by rcases List.mem_cons.1 hz with rfl | hz; exact hx; exact hm z hz, rfl⟩
theorem wf64 {n : Int} (h : (Lit.int .i64 n).wf = true) : -9223372036854775808 ≤ n ∧ n ≤ 9223372036854775807 := by
  simp [Lit.wf, IntKind.min, IntKind.max, IntKind.signed, IntKind.bits] at h
  omega
theorem split5 {α : Type} {l : List α} (h : l.length = 5) : ∃ a b c d e, l = [a, b, c, d, e] := by
  match l, h with
  | [a, b, c, d, e], _ => exact ⟨a, b, c, d, e, rfl⟩
end
theorem fld_of {P : Program} {t : TypeId} {T : TyA} {fs : Array Field} (hT : tyA P t = some T) (hu : P.underlying t = some (.struct fs)) {i o : Nat} {t' : TypeId} (h : T.flds[i]? = some (o, t')) : ∃ f, fs[i]? = some f ∧ f.offset = o ∧ f.type = t' := by
  obtain ⟨d, ii, h1, _, rfl⟩ := tyA_some hT
  obtain rfl := Option.some.inj (hu.symm.trans h1)
  simp only [descFlds, List.getElem?_map] at h
  cases hq : fs.toList[i]? with
  | none => rw [hq] at h; simp at h
  | some f =>
    rw [hq] at h
    simp at h
    exact ⟨f, by simpa using hq, h.1, h.2⟩
theorem cells_of {P : Program} {t : TypeId} {T : TyA} (hT : tyA P t = some T) : P.cellsOf t = T.size := by
  obtain ⟨d, ii, _, h2, rfl⟩ := tyA_some hT
  simp [Program.cellsOf, h2]
theorem ty_strs {ps : List PV} (h : TyPV Tryz.prog 29 ps) : ∃ ks : List (List UInt8), ps = [.sl 1 (ks.map sPV)] := by
  obtain ⟨es, rfl, hx⟩ := ty_sl h Tryz.underlying29
  rw [cells_of tyA_9]
  obtain ⟨ks, rfl⟩ := list_map (f := sPV) fun q hq => by
    obtain ⟨s, rfl, _⟩ := ty_str (hx q hq) Tryz.underlying9
    exact ⟨s, rfl⟩
  exact ⟨ks, rfl⟩
theorem ty_fields {P : Program} {t : TypeId} {T : TyA} {ps : List PV} (h : TyPV P t ps) (hT : tyA P t = some T) (hk : T.kind = 3) :
    ps.length = T.size ∧ ∀ (i o : Nat) (t' : TypeId), T.flds[i]? = some (o, t') → ∀ T', tyA P t' = some T' → TyPV P t' ((ps.drop o).take T'.size) := by
  obtain ⟨d, ii, h1, h2, h3⟩ := tyA_some hT
  obtain ⟨fs, rfl⟩ := kind_struct (d := d) (by rw [h3] at hk; exact hk)
  cases h with
  | struct ht hlen hx =>
    obtain rfl := TypeDesc.struct.inj (Option.some.inj (ht.symm.trans h1))
    refine ⟨by rw [← cells_of hT]; exact hlen, fun i o t' h T' hT' => ?_⟩
    obtain ⟨f, hf, rfl, rfl⟩ := fld_of hT h1 h
    rw [← cells_of hT']
    exact hx i f hf
  | bool ht => simp [ht] at h1
  | int ht hw => simp [ht] at h1
  | str ht hs => simp [ht] at h1
  | sl ht hx => simp [ht] at h1
theorem ty_json : ∀ {t : TypeId} {ps : List PV}, TyPV Tryz.prog t ps → (t = 36 → ∃ j : JT, j.inr ∧ ps = j.cells) ∧ (t = 34 → ∃ xs : List JT, JT.inrL xs ∧ ps = [.sl 5 (xs.map JT.cells)]) := by
  intro t ps h
  induction h with
  | bool ht => exact ⟨fun e => by subst e; simp [Tryz.underlying36] at ht, fun e => by subst e; simp [Tryz.underlying34] at ht⟩
  | int ht hw => exact ⟨fun e => by subst e; simp [Tryz.underlying36] at ht, fun e => by subst e; simp [Tryz.underlying34] at ht⟩
  | str ht hs => exact ⟨fun e => by subst e; simp [Tryz.underlying36] at ht, fun e => by subst e; simp [Tryz.underlying34] at ht⟩
  | @sl t e es ht hx ih =>
    refine ⟨fun e => by subst e; simp [Tryz.underlying36] at ht, fun e => ?_⟩
    subst e
    obtain rfl := TypeDesc.slice.inj (Option.some.inj (ht.symm.trans Tryz.underlying34))
    obtain ⟨xs, hxs, rfl⟩ := list_mapP (f := JT.cells) (p := JT.inr) fun q hq => (ih q hq).1 rfl
    exact ⟨xs, inrL_of hxs, by rw [cells_of tyA_36]⟩
  | @struct t fs ps ht hl hx ih =>
    refine ⟨fun e => ?_, fun e => by subst e; simp [Tryz.underlying34] at ht⟩
    subst e
    have hT := tyA_36
    obtain ⟨a0, a1, a2, a3, a4, rfl⟩ := split5 (hl.trans (cells_of hT))
    obtain ⟨_, hf⟩ := ty_fields (.struct ht hl hx) hT rfl
    obtain ⟨k, h0, _⟩ := ty_int (hf 0 _ _ rfl _ tyA_3) Tryz.underlying3
    obtain ⟨n, h1, hw⟩ := ty_int (hf 1 _ _ rfl _ tyA_2) Tryz.underlying2
    obtain ⟨s, h2, _⟩ := ty_str (hf 2 _ _ rfl _ tyA_9) Tryz.underlying9
    obtain ⟨ks, h4⟩ := ty_strs (hf 4 _ _ rfl _ tyA_29)
    obtain ⟨f, g1, g2, g3⟩ := fld_of hT ht (i := 3) rfl
    obtain ⟨xs, hxs, h3⟩ := (ih 3 f g1).2 g3
    rw [g2, g3, cells_of tyA_34] at h3
    simp at h0 h1 h2 h3 h4
    subst h0 h1 h2 h3 h4
    exact ⟨.mk k n s ks xs, ⟨wf64 hw, hxs⟩, (cells_mk _ _ _ _ _).symm⟩
end

theorem drop_cut {α : Type} (l : List α) (o k : Nat) : l.drop o = (l.drop o).take k ++ l.drop (o + k) := by rw [← List.drop_drop, List.take_append_drop]
theorem ty_ints {ps : List PV} (h : TyPV Tryz.prog 31 ps) : ∃ ns : List Int, ps = [.sl 1 (ns.map iPV)] := by
  obtain ⟨es, rfl, hx⟩ := ty_sl h Tryz.underlying31
  rw [cells_of tyA_3]
  obtain ⟨ns, rfl⟩ := list_map (f := iPV) fun q hq => by
    obtain ⟨n, rfl, _⟩ := ty_int (hx q hq) Tryz.underlying3
    exact ⟨n, rfl⟩
  exact ⟨ns, rfl⟩
theorem ty_field {ps : List PV} (h : TyPV Tryz.prog 38 ps) : ∃ f : FT, ps = f.cells := by
  obtain ⟨hl, hf⟩ := ty_fields h tyA_38 rfl
  obtain ⟨a, h0, _⟩ := ty_str (hf 0 _ _ rfl _ tyA_9) Tryz.underlying9
  obtain ⟨b, h1⟩ := ty_strs (hf 1 _ _ rfl _ tyA_29)
  obtain ⟨c, h2, _⟩ := ty_int (hf 2 _ _ rfl _ tyA_3) Tryz.underlying3
  obtain ⟨d, h3⟩ := ty_bool (hf 3 _ _ rfl _ tyA_4) Tryz.underlying4
  obtain ⟨e, _, h4⟩ := (ty_json (hf 4 _ _ rfl _ tyA_36)).1 rfl
  have e0 : ps = (ps.drop 0).take 1 ++ ps.drop 1 := drop_cut ps 0 1
  have e1 : ps.drop 1 = (ps.drop 1).take 1 ++ ps.drop 2 := drop_cut ps 1 1
  have e2 : ps.drop 2 = (ps.drop 2).take 1 ++ ps.drop 3 := drop_cut ps 2 1
  have e3 : ps.drop 3 = (ps.drop 3).take 1 ++ ps.drop 4 := drop_cut ps 3 1
  have e4 : ps.drop 4 = (ps.drop 4).take 5 := (List.take_of_length_le (by rw [List.length_drop, hl]; decide)).symm
  exact ⟨⟨a, b, c, d, e⟩, e0.trans (by rw [h0, e1, h1, e2, h2, e3, h3, e4, h4]; rfl)⟩
theorem ty_fieldsL {ps : List PV} (h : TyPV Tryz.prog 30 ps) : ∃ fs : List FT, ps = [.sl 9 (fs.map FT.cells)] := by
  obtain ⟨es, rfl, hx⟩ := ty_sl h Tryz.underlying30
  rw [cells_of tyA_38]
  obtain ⟨ns, rfl⟩ := list_map (f := FT.cells) fun q hq => ty_field (hx q hq)
  exact ⟨ns, rfl⟩
theorem ty_node {ps : List PV} (h : TyPV Tryz.prog 33 ps) : ∃ n : NT, ps = n.cells := by
  obtain ⟨hl, hf⟩ := ty_fields h tyA_33 rfl
  obtain ⟨a0, h0, _⟩ := ty_int (hf 0 _ _ rfl _ tyA_3) Tryz.underlying3
  obtain ⟨a1, h1, _⟩ := ty_str (hf 1 _ _ rfl _ tyA_9) Tryz.underlying9
  obtain ⟨a2, h2⟩ := ty_strs (hf 2 _ _ rfl _ tyA_29)
  obtain ⟨a3, h3⟩ := ty_fieldsL (hf 3 _ _ rfl _ tyA_30)
  obtain ⟨a4, h4⟩ := ty_strs (hf 4 _ _ rfl _ tyA_29)
  obtain ⟨a5, h5⟩ := ty_bool (hf 5 _ _ rfl _ tyA_4) Tryz.underlying4
  obtain ⟨a6, h6, _⟩ := ty_str (hf 6 _ _ rfl _ tyA_9) Tryz.underlying9
  obtain ⟨a7, h7, _⟩ := ty_int (hf 7 _ _ rfl _ tyA_3) Tryz.underlying3
  obtain ⟨a8, h8, _⟩ := ty_int (hf 8 _ _ rfl _ tyA_3) Tryz.underlying3
  obtain ⟨a9, h9⟩ := ty_ints (hf 9 _ _ rfl _ tyA_31)
  have e0 : ps = (ps.drop 0).take 1 ++ ps.drop 1 := drop_cut ps 0 1
  have e1 : ps.drop 1 = (ps.drop 1).take 1 ++ ps.drop 2 := drop_cut ps 1 1
  have e2 : ps.drop 2 = (ps.drop 2).take 1 ++ ps.drop 3 := drop_cut ps 2 1
  have e3 : ps.drop 3 = (ps.drop 3).take 1 ++ ps.drop 4 := drop_cut ps 3 1
  have e4 : ps.drop 4 = (ps.drop 4).take 1 ++ ps.drop 5 := drop_cut ps 4 1
  have e5 : ps.drop 5 = (ps.drop 5).take 1 ++ ps.drop 6 := drop_cut ps 5 1
  have e6 : ps.drop 6 = (ps.drop 6).take 1 ++ ps.drop 7 := drop_cut ps 6 1
  have e7 : ps.drop 7 = (ps.drop 7).take 1 ++ ps.drop 8 := drop_cut ps 7 1
  have e8 : ps.drop 8 = (ps.drop 8).take 1 ++ ps.drop 9 := drop_cut ps 8 1
  have e9 : ps.drop 9 = (ps.drop 9).take 1 := (List.take_of_length_le (by rw [List.length_drop, hl]; decide)).symm
  exact ⟨⟨a0, a1, a2, a3, a4, a5, a6, a7, a8, a9⟩, e0.trans (by rw [h0, e1, h1, e2, h2, e3, h3, e4, h4, e5, h5, e6, h6, e7, h7, e8, h8, e9, h9]; rfl)⟩
theorem arg_schema {x : AV} (h : TyAV Tryz.prog 24 x) : ∃ s : ST, x = s.av := by
  obtain ⟨ps, h1, h2⟩ := h
  obtain ⟨hl, hf⟩ := ty_fields h1 tyA_24 rfl
  obtain ⟨es, h3, hx⟩ := ty_sl (hf 0 _ _ rfl _ tyA_22) Tryz.underlying22
  rw [cells_of tyA_33] at h3
  obtain ⟨ns, rfl⟩ := list_map (f := NT.cells) fun q hq => ty_node (hx q hq)
  obtain ⟨r, h4, _⟩ := ty_int (hf 1 _ _ rfl _ tyA_3) Tryz.underlying3
  have e0 : ps = (ps.drop 0).take 1 ++ ps.drop 1 := drop_cut ps 0 1
  have e1 : ps.drop 1 = (ps.drop 1).take 1 := (List.take_of_length_le (by rw [List.length_drop, hl]; decide)).symm
  have hp : ps = (ST.mk ns r).cells := e0.trans (by rw [h3, e1, h4]; rfl)
  subst hp
  rcases h2 with ⟨_, rfl⟩ | ⟨h2, _⟩
  · exact ⟨_, rfl⟩
  · exact absurd Tryz.underlying24 (h2 _)

theorem ty_bytes {ps : List PV} (h : TyPV Tryz.prog 40 ps) : ∃ l : List UInt8, ps = [.sl 1 (bytePV l)] := by
  obtain ⟨es, rfl, hx⟩ := ty_sl h Tryz.underlying40
  rw [cells_of tyA_5]
  obtain ⟨l, rfl⟩ := list_map (f := fun b : UInt8 => [PV.v (.int .u8 (b.toNat : Int))]) fun q hq => by
    obtain ⟨n, rfl, hw⟩ := ty_int (hx q hq) Tryz.underlying5
    simp [Lit.wf, IntKind.min, IntKind.max, IntKind.signed, IntKind.bits] at hw
    refine ⟨n.toNat.toUInt8, ?_⟩
    have : ((n.toNat.toUInt8).toNat : Int) = n := by simp; omega
    rw [this]
  exact ⟨l, rfl⟩
theorem split6 {α : Type} {l : List α} (h : l.length = 6) : ∃ a b c d e f, l = [a, b, c, d, e, f] := by
  match l, h with
  | [a, b, c, d, e, f], _ => exact ⟨a, b, c, d, e, f, rfl⟩
theorem arg_place {x : AV} (h : TyAV Tryz.prog 3 x) : ∃ n : Int, (-9223372036854775808 ≤ n ∧ n ≤ 9223372036854775807) ∧ x = .c (.v (.int .i64 n)) := by
  obtain ⟨ps, h1, h2⟩ := h
  obtain ⟨n, rfl, hn⟩ := ty_int h1 Tryz.underlying3
  rcases h2 with ⟨⟨fs, h2⟩, _⟩ | ⟨_, q, h2, rfl⟩
  · simp [Tryz.underlying3] at h2
  · simp at h2
    subst h2
    exact ⟨n, wf64 hn, rfl⟩
section
attribute [local go_sem] opx opE ev okx gcond bnd okO AV.get AV.okb cAV upd_at putd_some putd_none wrs_nil wrs_cons look_nil look_cons st argT_at bpick_and bpick_or bpick_true bpick_false binV binI binS binVOk binOk isShift binSOk unV unVOk loadV loadP cellsA zeroA Blkd.len setE grown moreA moreR moreOk eqRes pv fillA fillE putSeg AV.cellish AV.pureL AV.pureB lentL_is ex_some AV.ren AV.renL renL_c Blkd.ren rho wrM renN lentOk rhoE keepM endOk tyA_2 tyA_3 tyA_4 tyA_5 tyA_6 tyA_7 tyA_8 tyA_9 tyA_10 tyA_11 tyA_12 tyA_13 tyA_14 tyA_15 tyA_16 tyA_17 tyA_18 tyA_19 tyA_21 tyA_22 tyA_23 tyA_24 tyA_29 tyA_30 tyA_31 tyA_32 tyA_33 tyA_34 tyA_35 tyA_36 tyA_37 tyA_38 tyA_39 tyA_40 tyA_41 tyA_42 tyA_43 tyA_49 tyA_85 tyA_89 tyA_99 tyA_100 tyA_101 tyA_105 tyA_106 tyA_107 tyA_108 tyA_109 tyA_111 tyA_112 tyA_113 tyA_114 tyA_123 tyA_126 tyA_127 tyA_128 tyA_129 tyA_130 tyA_153 tyA_163 tyA_164 tyA_165 tyA_179 tyA_185 tyA_191 tyA_192 tyA_193 tyA_194 tyA_195 tyA_196 tyA_209 tyA_213 tyA_214 tyA_215 tyA_241 tyA_248 tyA_274 tyA_275 tyA_276 tyA_292 tyA_294 tyA_302 tyA_307 tyA_315 tyA_319 tyA_321 tyA_324 tyA_325 tyA_326 tyA_327 tyA_328 tyA_329 tyA_330 tyA_332 tyA_333 Option.map_some Option.map_none Option.getD_some Option.getD_none Option.bind_some Option.bind_none List.getElem?_cons_zero List.getElem?_cons_succ List.getElem?_nil List.getElem?_toArray List.length_cons List.length_nil List.length_map List.forall_mem_map List.map_cons List.map_nil List.drop_zero List.drop_succ_cons List.drop_nil List.take_zero List.take_succ_cons List.take_nil List.mem_cons List.not_mem_nil or_false forall_eq_or_imp forall_eq List.set_cons_zero List.set_cons_succ List.cons_append List.nil_append List.append_nil List.foldl_cons List.foldl_nil List.replicate_succ List.replicate_zero List.all_cons List.all_nil if_true if_false Bool.false_eq_true ne_eq not_false_eq_true not_true_eq_false true_and and_true and_self true_implies imp_self implies_true forall_const beq_self_eq_true Bool.and_true Bool.true_and Bool.and_false Bool.false_and Bool.or_true Bool.true_or Bool.or_false Bool.false_or Bool.not_true Bool.not_false Bool.not_eq_eq_eq_not intKindOf Value.oneCell' Int.toNat_natCast beq_true beq_false Bool.not_eq_true false_implies false_or true_or or_true Nat.zero_add Nat.add_zero decide_true decide_false Int.cast_ofNat_Int Int.toNat_zero Int.toNat_one eq_self

def Slow (f : Enc) : Prop := ∀ c, (f c).2 ≤ c + (f c).1.length
theorem seqF_slow : ∀ {fs : List Enc}, (∀ f ∈ fs, Slow f) → Slow (seqF fs)
  | [], _, c => by rw [seqF]; exact Nat.le_refl _
  | f :: fs, h, c => by
    have h1 := h f (by simp) c
    have h2 := seqF_slow (fs := fs) (fun g hg => h g (by simp [hg])) (f c).2
    rw [seqF]
    simp only [List.length_append]
    omega
theorem vput_pos (n : Int) : 1 ≤ (vput n).length := by
  rw [vput, vint]
  split <;> simp
theorem headB_pos (n : Nat) (sized : Bool) (m : Nat) : 1 ≤ (headB n sized m).length := by
  have a := vput_pos (-(n : Int))
  have c := vput_pos (n : Int)
  unfold headB
  split
  · rw [List.length_append]; omega
  · omega
theorem cutM_slow (cuts : List Int) (c l : Nat) : (cutM cuts c l).2.2 ≤ c + 1 := by
  unfold cutM
  split
  · exact Nat.le_succ _
  · exact Nat.le_refl _
theorem blkF_slow (cuts : List Int) : ∀ (k : Nat) {fs : List Enc}, (∀ f ∈ fs, Slow f) → Slow (blkF cuts k fs)
  | 0, _, _, c => Nat.le_add_right _ _
  | k + 1, [], _, c => Nat.le_add_right _ _
  | k + 1, f :: fs, h, c => by
    rw [blkF]
    simp only [List.length_append]
    have h1 := cutM_slow cuts c (fs.length + 1)
    have h2 := seqF_slow (fs := (f :: fs).take (cutM cuts c (fs.length + 1)).1) (fun g hg => h g (List.mem_of_mem_take hg)) (cutM cuts c (fs.length + 1)).2.2
    have h3 := blkF_slow cuts k (fs := (f :: fs).drop (cutM cuts c (fs.length + 1)).1) (fun g hg => h g (List.mem_of_mem_drop hg)) (seqF ((f :: fs).take (cutM cuts c (fs.length + 1)).1) (cutM cuts c (fs.length + 1)).2.2).2
    have h4 := headB_pos (cutM cuts c (fs.length + 1)).1 (cutM cuts c (fs.length + 1)).2.1 (seqF ((f :: fs).take (cutM cuts c (fs.length + 1)).1) (cutM cuts c (fs.length + 1)).2.2).1.length
    omega
mutual
theorem encM_slow (ns : List NT) (cuts : List Int) : ∀ (v : VT) (a : Int), Slow (encM ns cuts a v)
  | .mk k n b t xs ks, a, c => by
    have h := encsM_slow ns cuts xs
    rw [encM]
    split
    · exact Nat.le_add_right _ _
    · split
      · exact seqF_slow (h _) c
      · split
        · exact blkF_slow cuts _ (h _) c
        · split
          · refine blkF_slow cuts _ (fun f hf => ?_) c
            obtain ⟨i, hi⟩ := List.getElem?_of_mem hf
            rw [List.getElem?_zipWith] at hi
            split at hi
            · obtain rfl := Option.some.inj hi
              rename_i y g hy hg
              intro c
              have := h _ g (List.mem_of_getElem? hg) c
              rw [keyF]
              simp only [List.length_append]
              omega
            · simp at hi
          · split
            · rename_i nd _ _ _ _ _
              have := seqF_slow (fs := encsM ns cuts (fun _ => branchAt nd n) xs) (h _) c
              simp only [List.length_append]
              omega
            · exact Nat.le_add_right _ _
theorem encsM_slow (ns : List NT) (cuts : List Int) : ∀ (xs : List VT) (f : Nat → Int), ∀ e ∈ encsM ns cuts f xs, Slow e
  | [], f => by rw [encsM]; simp
  | x :: xs, f => by
    rw [encsM]
    intro e he
    rcases List.mem_cons.1 he with rfl | he
    · exact encM_slow ns cuts x _
    · exact encsM_slow ns cuts xs _ e he
end
noncomputable def outM (s : ST) (a : Int) (v : VT) (cuts : List Int) : List UInt8 × Int :=
  if conM s a v (rightM s) = true then (if 20 < vdeep v then ([], 15) else if 20000 < (encM s.nodes cuts a v 0).1.length then ([], 3) else ((encM s.nodes cuts a v 0).1, 0)) else ([], 40)
set_option maxRecDepth 100000 in
set_option maxHeartbeats 1600000 in
theorem ecutall_told (s : ST) (hs : s.sm 1000000) (v : VT) (hv : v.sm 1000000) (hlg : v.lng) (hvw : vw v ≤ 1000000) (hd : vdeep v ≤ 1000) (a : Int) (cuts : List Int) (hcr : ∀ n ∈ cuts, -9223372036854775808 ≤ n ∧ n ≤ 9223372036854775807) (hcl : cuts.length ≤ 1000000000) :
    Told Tryz.prog 42 [s.av, .c (.v (.int .i64 a)), v.av, .c (.sl 1 (cuts.map iPV))] (.tup [.c (.sl 1 (bytePV (outM s a v cuts).1)), .c (.v (.int .i64 (outM s a v cuts).2))]) := by
  have hC := vConforms_told s hs v hv a
  have hD := vdeep_told _ v (Nat.le_refl _) hd hv
  unfold outM
  cases hr : conM s a v (rightM s) with
  | false =>
    rw [hr] at hC
    rw [if_neg (by decide)]
    rw [ST.av_eq, VT.av_eq] at hC ⊢
    refine VC.told ent_42 Tryz.func42 rfl Tryz.ntmps42 (by simp) (by first | rfl | simp [AV.pureB, AV.pureL, pureL_c, pures]) (by first | rfl | simp [AV.pureB, AV.pureL, pureL_c, pures]) fun hb => ?_
    clear hb
    refine walkGF (And.intro @len_scells (And.intro @take_scells (And.intro @take_scellsC (And.intro @len_vcells (And.intro @take_vcells @take_vcellsC))))) ?_
    refine walkCF (@pureL_c) (hC) ?_
    refine walkB ?_
    refine ⟨by first | exact .inr rfl | exact .inl rfl, ?_⟩; rw [Tryz.results42]; simp only [resOk, resV, go_sem, simprocAttr]
    exact ⟨.nil 1, .c _⟩
  | true =>
  rw [hr] at hC
  rw [if_pos rfl]
  by_cases h20 : 20 < vdeep v
  · rw [if_pos h20]
    have e20 : decide ((vdeep v : Int) > 20) = true := by simp; omega
    rw [ST.av_eq, VT.av_eq] at hC ⊢
    rw [VT.av_eq] at hD
    refine VC.told ent_42 Tryz.func42 rfl Tryz.ntmps42 (by simp) (by first | rfl | simp [AV.pureB, AV.pureL, pureL_c, pures]) (by first | rfl | simp [AV.pureB, AV.pureL, pureL_c, pures]) fun hb => ?_
    clear hb
    refine walkGF (And.intro @len_scells (And.intro @take_scells (And.intro @take_scellsC (And.intro @len_vcells (And.intro @take_vcells @take_vcellsC))))) ?_
    refine walkCF (@pureL_c) (hC) ?_
    refine walkBF (And.intro @len_vcells (And.intro @take_vcells @take_vcellsC)) ?_
    refine walkCF (@pureL_c) (hD) ?_
    refine walkBF (e20) ?_
    refine ⟨by first | exact .inr rfl | exact .inl rfl, ?_⟩; rw [Tryz.results42]; simp only [resOk, resV, go_sem, simprocAttr]
    exact ⟨.nil 1, .c _⟩
  rw [if_neg h20]
  have e20 : decide ((vdeep v : Int) > 20) = false := by simp; omega
  unfold conM at hr
  simp only [Bool.and_eq_true, decide_eq_true_eq] at hr
  obtain ⟨a0, a1, hr1, hm⟩ := hr
  have hL := enc_len s.nodes cuts v hv hlg hvw a 0
  have hW := encM_slow s.nodes cuts v a 0
  have hP := put_told s hr1 hs.1 s.root cuts hcr hcl _ v (Nat.le_refl _) hv hlg a a0 a1 hm [] 0 (by simp; omega) (by omega)
  simp only [List.nil_append, List.length_nil] at hP
  obtain ⟨E, hE⟩ : ∃ E, E = encM s.nodes cuts a v 0 := ⟨_, rfl⟩
  rw [← hE] at hP hL hW ⊢
  simp only [bB, bA_nil] at hP
  have hP : ToldM Tryz.prog _ _ ([xE s.nodes s.root cuts 0] ++ [⟨true, 5, 1, []⟩]) _ _ := hP
  unfold xE at hP
  rw [show ((0 : Nat) : Int) = 0 from rfl] at hP
  rw [ST.av_eq, VT.av_eq] at hC ⊢
  rw [VT.av_eq] at hD hP
  rw [scells_mk] at hC ⊢
  by_cases hb3 : 20000 < E.1.length
  · rw [if_pos hb3]
    have e3 : decide ((E.1.length : Int) > 20000) = true := by simp; omega
    refine VC.told ent_42 Tryz.func42 rfl Tryz.ntmps42 (by simp) (by first | rfl | simp [AV.pureB, AV.pureL, pureL_c, pures]) (by first | rfl | simp [AV.pureB, AV.pureL, pureL_c, pures]) fun hb => ?_
    clear hb
    refine walkGF (And.intro @len_vcells (And.intro @take_vcells @take_vcellsC)) ?_
    refine walkCF (@pureL_c) (hC) ?_
    refine walkBF (And.intro @len_vcells (And.intro @take_vcells @take_vcellsC)) ?_
    refine walkCF (@pureL_c) (hD) ?_
    refine walkBF (And.intro e20 (And.intro @len_vcells (And.intro @take_vcells @take_vcellsC))) ?_
    ((refine AO.step fun K hK => ?_; simp only [go_sem, Int.reduceBEq, Int.reduceLE, Int.reduceLT, Int.reduceNeg, Nat.reduceAdd, Nat.reduceEqDiff, Nat.reduceLT, Nat.reduceLeDiff, Nat.reduceMul, Nat.reduceSub, reduceCtorEq, ↓reduceIte, bA_nil, bA_ren]; (first | refine gsel_go ?_ | skip)); (first | refine .inr (.inr (.inr ⟨?vy1, [136], ?vt1, ?vz1, ?va1, ?vl1, ?vm1, ?cond1, ?cont1⟩)) | refine .inr (.inr (.inr (.inl ⟨?vy1, [136], ?vt1, ?vz1, ?va1, ?vl1, ?vm1, ?cond1, ?cont1⟩)))); (case cond1 => ((repeat' apply And.intro) <;> (try ((with_reducible show ToldM _ _ _ _ _ _); exact hP))); (all_goals first | trivial | (simp only [bA_nil, bA_ren, go_sem, simprocAttr]; done) | (simp; done) | rfl)); (first | refine hK _ _ _ ?_ | (simp only [bA_nil, bA_ren, go_sem, simprocAttr]; first | refine hK _ _ _ ?_ | refine ⟨rfl, hK _ _ _ ?_⟩)); clear hK K)
    refine walkBF (And.intro @bA_len (And.intro @bA_ren e3)) ?_
    refine ⟨by first | exact .inr rfl | exact .inl rfl, ?_⟩; rw [Tryz.results42]; simp only [resOk, resV, go_sem, simprocAttr]
    exact ⟨.nil 1, .c _⟩
  rw [if_neg hb3]
  have e3 : decide ((E.1.length : Int) > 20000) = false := by simp; omega
  refine VC.told ent_42 Tryz.func42 rfl Tryz.ntmps42 (by simp) (by first | rfl | simp [AV.pureB, AV.pureL, pureL_c, pures]) (by first | rfl | simp [AV.pureB, AV.pureL, pureL_c, pures]) fun hb => ?_
  clear hb
  refine walkGF (And.intro @len_vcells (And.intro @take_vcells @take_vcellsC)) ?_
  refine walkCF (@pureL_c) (hC) ?_
  refine walkBF (And.intro @len_vcells (And.intro @take_vcells @take_vcellsC)) ?_
  refine walkCF (@pureL_c) (hD) ?_
  refine walkBF (And.intro e20 (And.intro @len_vcells (And.intro @take_vcells @take_vcellsC))) ?_
  ((refine AO.step fun K hK => ?_; simp only [go_sem, Int.reduceBEq, Int.reduceLE, Int.reduceLT, Int.reduceNeg, Nat.reduceAdd, Nat.reduceEqDiff, Nat.reduceLT, Nat.reduceLeDiff, Nat.reduceMul, Nat.reduceSub, reduceCtorEq, ↓reduceIte, bA_nil, bA_ren]; (first | refine gsel_go ?_ | skip)); (first | refine .inr (.inr (.inr ⟨?vy2, [136], ?vt2, ?vz2, ?va2, ?vl2, ?vm2, ?cond2, ?cont2⟩)) | refine .inr (.inr (.inr (.inl ⟨?vy2, [136], ?vt2, ?vz2, ?va2, ?vl2, ?vm2, ?cond2, ?cont2⟩)))); (case cond2 => ((repeat' apply And.intro) <;> (try ((with_reducible show ToldM _ _ _ _ _ _); exact hP))); (all_goals first | trivial | (simp only [bA_nil, bA_ren, go_sem, simprocAttr]; done) | (simp; done) | rfl)); (first | refine hK _ _ _ ?_ | (simp only [bA_nil, bA_ren, go_sem, simprocAttr]; first | refine hK _ _ _ ?_ | refine ⟨rfl, hK _ _ _ ?_⟩)); clear hK K)
  refine walkBF (And.intro @bA_len (And.intro @bA_ren e3)) ?_
  refine ⟨by first | exact .inr rfl | exact .inl rfl, ?_⟩; rw [Tryz.results42]; simp only [resOk, resV, go_sem, simprocAttr]
  exact ⟨frz_rA (f := fun b : UInt8 => [PV.v (.int .u8 (b.toNat : Int))]) (l := E.1) (T := 5) (by rw [bA_ren]; rfl) rfl rfl (by simp), .c _⟩

theorem ssm_le' {s : ST} (h : s.sm 2500) : s.sm 1000000 := by
  obtain ⟨h1, h2⟩ := h
  refine ⟨by omega, fun n hn => ?_⟩
  obtain ⟨a1, a2, ⟨a3, a4⟩, ⟨a5, a6⟩, a7, a8, a9⟩ := h2 n hn
  refine ⟨by omega, by omega, ⟨by omega, fun y hy => by have := a4 y hy; omega⟩, ⟨by omega, fun y hy => by have := a6 y hy; omega⟩, by omega, by omega, fun f hf => ?_⟩
  obtain ⟨b1, b2, b3, b4⟩ := a9 f hf
  exact ⟨by omega, by omega, fun y hy => by have := b3 y hy; omega, sm_le (by omega) _ b4⟩

theorem ty_valueL : ∀ {t : TypeId} {ps : List PV}, TyPV Tryz.prog t ps → (t = 43 → ∃ j : VT, (j.inr ∧ j.lng) ∧ ps = j.cells) ∧ (t = 41 → ∃ xs : List VT, (VT.inrL xs ∧ VT.lngL xs) ∧ ps = [.sl 6 (xs.map VT.cells)]) := by
  intro t ps h
  induction h with
  | bool ht => exact ⟨fun e => by subst e; simp [Tryz.underlying43] at ht, fun e => by subst e; simp [Tryz.underlying41] at ht⟩
  | int ht hw => exact ⟨fun e => by subst e; simp [Tryz.underlying43] at ht, fun e => by subst e; simp [Tryz.underlying41] at ht⟩
  | str ht hs => exact ⟨fun e => by subst e; simp [Tryz.underlying43] at ht, fun e => by subst e; simp [Tryz.underlying41] at ht⟩
  | @sl t e es ht hx ih =>
    refine ⟨fun e => by subst e; simp [Tryz.underlying43] at ht, fun e => ?_⟩
    subst e
    obtain rfl := TypeDesc.slice.inj (Option.some.inj (ht.symm.trans Tryz.underlying41))
    obtain ⟨xs, hxs, rfl⟩ := list_mapP (f := VT.cells) (p := fun j => j.inr ∧ j.lng) fun q hq => (ih q hq).1 rfl
    exact ⟨xs, ⟨vinrL_of fun x hx => (hxs x hx).1, vlngL_of fun x hx => (hxs x hx).2⟩, by rw [cells_of tyA_43]⟩
  | @struct t fs ps ht hl hx ih =>
    refine ⟨fun e => ?_, fun e => by subst e; simp [Tryz.underlying41] at ht⟩
    subst e
    have hT := tyA_43
    obtain ⟨a0, a1, a2, a3, a4, a5, rfl⟩ := split6 (hl.trans (cells_of hT))
    obtain ⟨_, hf⟩ := ty_fields (.struct ht hl hx) hT rfl
    obtain ⟨k, h0, _⟩ := ty_int (hf 0 _ _ rfl _ tyA_3) Tryz.underlying3
    obtain ⟨n, h1, hn⟩ := ty_int (hf 1 _ _ rfl _ tyA_2) Tryz.underlying2
    obtain ⟨b, h2, hw⟩ := ty_int (hf 2 _ _ rfl _ tyA_39) Tryz.underlying39
    obtain ⟨s, h3⟩ := ty_bytes (hf 3 _ _ rfl _ tyA_40)
    obtain ⟨ks, h5⟩ := ty_strs (hf 5 _ _ rfl _ tyA_29)
    obtain ⟨f, g1, g2, g3⟩ := fld_of hT ht (i := 4) rfl
    obtain ⟨xs, hxs, h4⟩ := (ih 4 f g1).2 g3
    rw [g2, g3, cells_of tyA_41] at h4
    simp at h0 h1 h2 h3 h4 h5
    subst h0 h1 h2 h3 h4 h5
    have hn := wf64 hn
    simp [Lit.wf, IntKind.min, IntKind.max, IntKind.signed, IntKind.bits] at hw
    exact ⟨.mk k n b s xs ks, ⟨⟨by omega, hxs.1⟩, ⟨hn, hxs.2⟩⟩, (vcells_mk _ _ _ _ _ _).symm⟩
theorem arg_valueL {x : AV} (h : TyAV Tryz.prog 43 x) : ∃ j : VT, (j.inr ∧ j.lng) ∧ x = j.av := by
  obtain ⟨ps, h1, h2⟩ := h
  obtain ⟨j, hj, rfl⟩ := (ty_valueL h1).1 rfl
  rcases h2 with ⟨_, rfl⟩ | ⟨h2, _⟩
  · exact ⟨j, hj, rfl⟩
  · exact absurd Tryz.underlying43 (h2 _)
theorem conM_parts {s : ST} {a : Int} {v : VT} (h : conM s a v (rightM s) = true) : 0 ≤ a ∧ a < (s.nodes.length : Int) ∧ rightM s = true ∧ isM s.nodes a v = true := by
  unfold conM at h
  simpa only [Bool.and_eq_true, decide_eq_true_eq] using h

theorem textsL_step {l : List (List UInt8)} {i n : Nat} {y : List UInt8} (hy : l[i]? = some y) (hn : n ≤ 2500) : textsL n (l.drop i) = if 2500 < y.length then 2501 else textsL (n + y.length) (l.drop (i + 1)) := by
  obtain ⟨hlt, rfl⟩ := List.getElem?_eq_some_iff.1 hy
  rw [List.drop_eq_getElem_cons hlt, textsL, if_pos hn]
theorem textsL_end {l : List (List UInt8)} {i n : Nat} (h : ¬ (i < l.length ∧ n ≤ 2500)) : textsL n (l.drop i) = n := by
  by_cases hlt : i < l.length
  · rw [List.drop_eq_getElem_cons hlt, textsL, if_neg (by omega)]
  · rw [List.drop_of_length_le (by omega), textsL]
set_option maxRecDepth 100000 in
set_option maxHeartbeats 800000 in
theorem texts_told (l : List (List UInt8)) : Told Tryz.prog 83 [.c (.sl 1 (l.map sPV)), .c (.v (.int .i64 2500))] (.c (.v (.int .i64 (textsB l)))) := by
  obtain ⟨V, hV⟩ : ∃ V, V = textsB l := ⟨_, rfl⟩
  rw [← hV]
  unfold textsB at hV
  have hw21 : IntKind.i64.wrap (2500 + 1) = 2501 := by rfl
  refine VC.told ent_83 Tryz.func83 rfl Tryz.ntmps83 (by simp) (by first | rfl | simp [AV.pureB, AV.pureL, pureL_c, pures]) (by first | rfl | simp [AV.pureB, AV.pureL, pureL_c, pures]) fun hb => ?_
  clear hb
  refine walkG ?_
  refine VC.cond (by rfl) (by trivial) (fun hc => ?_) (fun hc => ?_)
  · have hcc : 2500 < l.length := by simp at hc; omega
    rw [if_pos hcc] at hV
    subst hV
    refine walkGF (hw21) ?_
    refine ⟨by first | exact .inr rfl | exact .inl rfl, ?_⟩; rw [Tryz.results83]; simp only [resOk, resV, go_sem, simprocAttr]
    exact .c _
  have hcc : ¬ 2500 < l.length := by simp at hc; omega
  rw [if_neg hcc] at hV
  clear hc
  refine walkG ?_
  refine VC.loop (ι := {x : Nat × Nat // x.1 ≤ l.length ∧ x.2 ≤ 5000 ∧ textsL x.2 (l.drop x.1) = V}) (fun q => [(0, .c (.sl 1 (l.map sPV))), (1, .c (.v (.int .i64 2500))), (5, .c (.v (.int .i64 (q.1.2 : Int)))), (6, .c (.v (.int .i64 (q.1.1 : Int))))]) (fun _ => []) 800 (fun q => l.length - q.1.1)
    ⟨(0, l.length), Nat.zero_le _, by simp only []; omega, by rw [List.drop_zero]; exact hV.symm⟩ ?_ ?_
  · simp only [Weak, eq_self, used_is, sc_any, sc_c, sc_pp, sc_ref, sc_row, sc_agg, sc_fn, ScL, some_imp, List.forall_mem_map, go_sem, Int.reduceBEq, Int.reduceLE, Int.reduceLT, Int.reduceNeg, Nat.reduceAdd, Nat.reduceEqDiff, Nat.reduceLT, Nat.reduceLeDiff, Nat.reduceMul, Nat.reduceSub, reduceCtorEq, ↓reduceIte]
  clear hV
  rintro ⟨⟨i, n⟩, hi, hn, hV⟩
  simp only [] at hi hn hV ⊢
  refine walkG ?_
  refine VC.cond (by rfl) (by trivial) (fun hc => ?_) (fun hc => ?_)
  · have hcc : i < l.length ∧ n ≤ 2500 := by simp at hc; omega
    clear hc
    obtain ⟨y, hy⟩ : ∃ y, l[i]? = some y := ⟨l[i], List.getElem?_eq_getElem hcc.1⟩
    have hyp : (l.map sPV)[i]? = some (sPV y) := by rw [List.getElem?_map, hy]; rfl
    rw [textsL_step hy hcc.2] at hV
    have hw : IntKind.i64.wrap ((i : Int) + 1) = (i : Int) + 1 := wrap64_id (by omega) (by omega)
    refine walkGF (And.intro hyp (And.intro @sPV_eq @str_size)) ?_
    refine VC.cond (by rfl) (by trivial) (fun hc2 => ?_) (fun hc2 => ?_)
    · rw [if_pos (by simp at hc2; omega)] at hV
      subst hV
      refine walkGF (hw21) ?_
      refine ⟨by first | exact .inr rfl | exact .inl rfl, ?_⟩; rw [Tryz.results83]; simp only [resOk, resV, go_sem, simprocAttr]
      exact .c _
    · have hyl : y.length ≤ 2500 := by simp at hc2; omega
      rw [if_neg (by omega)] at hV
      have hw2 : IntKind.i64.wrap ((n : Int) + (y.length : Int)) = ((n + y.length : Nat) : Int) := by rw [wrap64_id (by omega) (by omega)]; rfl
      refine walkGF (And.intro hyp (And.intro @sPV_eq (And.intro @str_size (And.intro hw hw2)))) ?_
      refine .next ⟨(i + 1, n + y.length), by simp only []; omega, by simp only []; omega, hV⟩ ?_ (by simp only []; omega)
      simp only [Weak, eq_self, used_is, sc_any, sc_c, sc_pp, sc_ref, sc_row, sc_agg, sc_fn, ScL, some_imp, List.forall_mem_map, go_sem, Int.reduceBEq, Int.reduceLE, Int.reduceLT, Int.reduceNeg, Nat.reduceAdd, Nat.reduceEqDiff, Nat.reduceLT, Nat.reduceLeDiff, Nat.reduceMul, Nat.reduceSub, reduceCtorEq, ↓reduceIte]
      try exact cI (by omega)
  · have hcc : ¬ (i < l.length ∧ n ≤ 2500) := by simp at hc; omega
    rw [textsL_end hcc] at hV
    subst hV
    refine walkG ?_
    refine ⟨by first | exact .inr rfl | exact .inl rfl, ?_⟩; rw [Tryz.results83]; simp only [resOk, resV, go_sem, simprocAttr]
    exact .c _
theorem fieldsB_step {l : List FT} {i n : Nat} {f : FT} (hf : l[i]? = some f) (hn : n ≤ 2500) : fieldsB n (l.drop i) = if 2500 < f.name.length then none else fieldsB (n + f.name.length + textsB f.aliases + tbulk5 0 f.dflt) (l.drop (i + 1)) := by
  obtain ⟨hlt, rfl⟩ := List.getElem?_eq_some_iff.1 hf
  rw [List.drop_eq_getElem_cons hlt, fieldsB, if_pos hn]
theorem fieldsB_end {l : List FT} {i n : Nat} (h : ¬ (i < l.length ∧ n ≤ 2500)) : fieldsB n (l.drop i) = some n := by
  by_cases hlt : i < l.length
  · rw [List.drop_eq_getElem_cons hlt, fieldsB, if_neg (by omega)]
  · rw [List.drop_of_length_le (by omega), fieldsB]
theorem nodesB_end {l : List NT} {i n : Nat} (h : ¬ (i < l.length ∧ n ≤ 2500)) : nodesB n (l.drop i) = n := by
  by_cases hlt : i < l.length
  · rw [List.drop_eq_getElem_cons hlt, nodesB, if_neg (by omega)]
  · rw [List.drop_of_length_le (by omega), nodesB]
theorem nodesB_step {l : List NT} {i n : Nat} {x : NT} (hx : l[i]? = some x) (hn : n ≤ 2500) : nodesB n (l.drop i) = if 2500 < x.name.length ∨ 2500 < x.fields.length ∨ 2500 < x.branches.length ∨ 2500 < x.dflt.length then 2501 else
      match fieldsB (n + x.name.length + x.fields.length + x.branches.length + x.dflt.length + textsB x.aliases + textsB x.symbols) x.fields with | none => 2501 | some m => nodesB m (l.drop (i + 1)) := by
  obtain ⟨hlt, rfl⟩ := List.getElem?_eq_some_iff.1 hx
  rw [List.drop_eq_getElem_cons hlt, nodesB, if_pos hn]
  generalize fieldsB _ _ = F
  cases F <;> rfl
set_option maxRecDepth 100000 in
set_option maxHeartbeats 1600000 in
theorem sbulk_told (s : ST) : Told Tryz.prog 46 [s.av, .c (.v (.int .i64 2500))] (.c (.v (.int .i64 (sbulk s)))) := by
  obtain ⟨V, hV⟩ : ∃ V, V = sbulk s := ⟨_, rfl⟩
  rw [← hV]
  unfold sbulk at hV
  have hw21 : IntKind.i64.wrap (2500 + 1) = 2501 := by rfl
  rw [ST.av_eq, scells_mk]
  refine VC.told ent_46 Tryz.func46 rfl Tryz.ntmps46 (by simp) (by first | rfl | simp [AV.pureB, AV.pureL, pureL_c, pures]) (by first | rfl | simp [AV.pureB, AV.pureL, pureL_c, pures]) fun hb => ?_
  clear hb
  refine walkG ?_
  refine VC.cond (by rfl) (by trivial) (fun hc => ?_) (fun hc => ?_)
  · have hcc : 2500 < s.nodes.length := by simp at hc; omega
    rw [if_pos hcc] at hV
    subst hV
    refine walkGF (hw21) ?_
    refine ⟨by first | exact .inr rfl | exact .inl rfl, ?_⟩; rw [Tryz.results46]; simp only [resOk, resV, go_sem, simprocAttr]
    exact .c _
  have hcc : ¬ 2500 < s.nodes.length := by simp at hc; omega
  rw [if_neg hcc] at hV
  clear hc
  refine walkG ?_
  refine VC.loop (ι := {x : Nat × Nat // x.1 ≤ s.nodes.length ∧ x.2 ≤ 300000 ∧ nodesB x.2 (s.nodes.drop x.1) = V}) (fun q => [(1, .c (.v (.int .i64 2500))), (2, .ref 0 1 0 0), (5, .c (.v (.int .i64 (q.1.2 : Int)))), (6, .c (.v (.int .i64 (q.1.1 : Int))))])
    (fun q => [(0, ⟨false, 24, 2, [[.c (.sl 10 (s.nodes.map NT.cells)), .c (.v (.int .i64 s.root))]]⟩)]) 800 (fun q => s.nodes.length - q.1.1)
    ⟨(0, s.nodes.length), Nat.zero_le _, by simp only []; omega, by rw [List.drop_zero]; exact hV.symm⟩ ?_ ?_
  · simp only [Weak, eq_self, used_is, sc_any, sc_c, sc_pp, sc_ref, sc_row, sc_agg, sc_fn, ScL, some_imp, List.forall_mem_map, go_sem, Int.reduceBEq, Int.reduceLE, Int.reduceLT, Int.reduceNeg, Nat.reduceAdd, Nat.reduceEqDiff, Nat.reduceLT, Nat.reduceLeDiff, Nat.reduceMul, Nat.reduceSub, reduceCtorEq, ↓reduceIte]
  clear hV
  rintro ⟨⟨i, b⟩, hi, hb, hV⟩
  simp only [] at hi hb hV ⊢
  refine walkG ?_
  refine VC.cond (by rfl) (by trivial) (fun hc => ?_) (fun hc => ?_)
  · have hcc2 : i < s.nodes.length ∧ b ≤ 2500 := by simp at hc; omega
    clear hc
    obtain ⟨x, hx⟩ : ∃ x, s.nodes[i]? = some x := ⟨s.nodes[i], List.getElem?_eq_getElem hcc2.1⟩
    have hxp : (s.nodes.map NT.cells)[i]? = some x.cells := by rw [List.getElem?_map, hx]; rfl
    rw [nodesB_step hx hcc2.2] at hV
    have hw : IntKind.i64.wrap ((i : Int) + 1) = (i : Int) + 1 := wrap64_id (by omega) (by omega)
    refine walkGF (And.intro hxp (And.intro @ncells_mk @str_size)) ?_
    refine VC.cond (by rfl) (by trivial) (fun hc2 => ?_) (fun hc2 => ?_)
    · rw [if_pos (by simp at hc2; omega)] at hV
      subst hV
      refine walkGF (hw21) ?_
      refine ⟨by first | exact .inr rfl | exact .inl rfl, ?_⟩; rw [Tryz.results46]; simp only [resOk, resV, go_sem, simprocAttr]
      exact .c _
    have hsm : ¬ (2500 < x.name.length ∨ 2500 < x.fields.length ∨ 2500 < x.branches.length ∨ 2500 < x.dflt.length) := by simp at hc2; omega
    rw [if_neg hsm] at hV
    clear hc2
    have hT1 := texts_told x.aliases
    have hT2 := texts_told x.symbols
    have ht1 := textsB_le x.aliases
    have ht2 := textsB_le x.symbols
    generalize textsB x.aliases = t1 at hT1 ht1 hV
    generalize textsB x.symbols = t2 at hT2 ht2 hV
    have w1 : IntKind.i64.wrap ((b : Int) + (x.name.length : Int)) = (b : Int) + (x.name.length : Int) := wrap64_id (by omega) (by omega)
    have w2 : IntKind.i64.wrap ((b : Int) + (x.name.length : Int) + (x.fields.length : Int)) = (b : Int) + (x.name.length : Int) + (x.fields.length : Int) := wrap64_id (by omega) (by omega)
    have w3 : IntKind.i64.wrap ((b : Int) + (x.name.length : Int) + (x.fields.length : Int) + (x.branches.length : Int)) = (b : Int) + (x.name.length : Int) + (x.fields.length : Int) + (x.branches.length : Int) := wrap64_id (by omega) (by omega)
    have w4 : IntKind.i64.wrap ((b : Int) + (x.name.length : Int) + (x.fields.length : Int) + (x.branches.length : Int) + (x.dflt.length : Int)) = (b : Int) + (x.name.length : Int) + (x.fields.length : Int) + (x.branches.length : Int) + (x.dflt.length : Int) := wrap64_id (by omega) (by omega)
    have w5 : IntKind.i64.wrap ((b : Int) + (x.name.length : Int) + (x.fields.length : Int) + (x.branches.length : Int) + (x.dflt.length : Int) + (t1 : Int)) = (b : Int) + (x.name.length : Int) + (x.fields.length : Int) + (x.branches.length : Int) + (x.dflt.length : Int) + (t1 : Int) := wrap64_id (by omega) (by omega)
    have w6 : IntKind.i64.wrap ((b : Int) + (x.name.length : Int) + (x.fields.length : Int) + (x.branches.length : Int) + (x.dflt.length : Int) + (t1 : Int) + (t2 : Int)) = ((b + x.name.length + x.fields.length + x.branches.length + x.dflt.length + t1 + t2 : Nat) : Int) := by rw [wrap64_id (by omega) (by omega)]; rfl
    obtain ⟨b0, hb0⟩ : ∃ b0, b0 = b + x.name.length + x.fields.length + x.branches.length + x.dflt.length + t1 + t2 := ⟨_, rfl⟩
    have hb0l : b0 ≤ 30000 := by omega
    rw [← hb0] at hV w6
    clear hb0
    refine walkGF (And.intro @str_size (And.intro w1 (And.intro w2 (And.intro w3 (And.intro w4 (And.intro w5 w6)))))) ?_
    refine walkC (hT1) ?_
    refine walkGF (w5) ?_
    refine walkC (hT2) ?_
    refine walkGF (w6) ?_
    clear hT1 hT2 w1 w2 w3 w4 w5 w6 ht1 ht2
    obtain ⟨F, hF⟩ : ∃ F, F = fieldsB b0 x.fields := ⟨_, rfl⟩
    rw [← hF] at hV
    have hFl : ∀ m, F = some m → m ≤ 300000 := fun m hm => fieldsB_le x.fields b0 m (by omega) (hF ▸ hm)
    refine VC.loop (ι := {y : Nat × Nat // y.1 ≤ x.fields.length ∧ y.2 ≤ 300000 ∧ fieldsB y.2 (x.fields.drop y.1) = F})
      (fun q => [(1, .c (.v (.int .i64 2500))), (2, .ref 0 1 0 0), (5, .c (.v (.int .i64 (q.1.2 : Int)))), (6, .c (.v (.int .i64 (i : Int)))), (7, .ref 920 1 0 0), (8, .c (.v (.int .i64 (q.1.1 : Int))))])
      (fun q => [(0, ⟨false, 24, 2, [[.c (.sl 10 (s.nodes.map NT.cells)), .c (.v (.int .i64 s.root))]]⟩), (920, ⟨false, 33, 10, [x.cells.map .c]⟩)]) 4000 (fun q => x.fields.length - q.1.1)
      ⟨(0, b0), Nat.zero_le _, by simp only []; omega, by rw [List.drop_zero]; exact hF.symm⟩ ?_ ?_
    · simp only [ncells_mk, Weak, eq_self, used_is, sc_any, sc_c, sc_pp, sc_ref, sc_row, sc_agg, sc_fn, ScL, some_imp, List.forall_mem_map, go_sem, Int.reduceBEq, Int.reduceLE, Int.reduceLT, Int.reduceNeg, Nat.reduceAdd, Nat.reduceEqDiff, Nat.reduceLT, Nat.reduceLeDiff, Nat.reduceMul, Nat.reduceSub, reduceCtorEq, ↓reduceIte]
    clear hF
    rintro ⟨⟨k, c⟩, hk, hc, hF⟩
    simp only [] at hk hc hF ⊢
    refine walkGF (@ncells_mk) ?_
    refine VC.cond (by rfl) (by trivial) (fun hc2 => ?_) (fun hc2 => ?_)
    · have hcc3 : k < x.fields.length ∧ c ≤ 2500 := by simp at hc2; omega
      clear hc2
      obtain ⟨f, hf⟩ : ∃ f, x.fields[k]? = some f := ⟨x.fields[k], List.getElem?_eq_getElem hcc3.1⟩
      have hfp : (x.fields.map FT.cells)[k]? = some f.cells := by rw [List.getElem?_map, hf]; rfl
      rw [fieldsB_step hf hcc3.2] at hF
      have hwk : IntKind.i64.wrap ((k : Int) + 1) = (k : Int) + 1 := wrap64_id (by omega) (by omega)
      refine walkGF (And.intro @ncells_mk (And.intro hfp (And.intro @fcells_mk @str_size))) ?_
      refine VC.cond (by rfl) (by trivial) (fun hc2 => ?_) (fun hc2 => ?_)
      · rw [if_pos (by simp at hc2; omega)] at hF
        subst hF
        simp only [] at hV
        subst hV
        refine walkGF (hw21) ?_
        refine ⟨by first | exact .inr rfl | exact .inl rfl, ?_⟩; rw [Tryz.results46]; simp only [resOk, resV, go_sem, simprocAttr]
        exact .c _
      have hnl : f.name.length ≤ 2500 := by simp at hc2; omega
      rw [if_neg (by omega)] at hF
      clear hc2
      have hT := texts_told f.aliases
      have ht := textsB_le f.aliases
      have hB := bulk_told5 _ f.dflt (Nat.le_refl _) 0 0 (by omega) rfl
      have hbt := tbulk5_top f.dflt
      generalize textsB f.aliases = t at hT ht hF
      generalize tbulk5 0 f.dflt = u at hB hbt hF
      simp only [JT.av_eq] at hB
      have w1 : IntKind.i64.wrap ((c : Int) + (f.name.length : Int)) = (c : Int) + (f.name.length : Int) := wrap64_id (by omega) (by omega)
      have w2 : IntKind.i64.wrap ((c : Int) + (f.name.length : Int) + (t : Int)) = (c : Int) + (f.name.length : Int) + (t : Int) := wrap64_id (by omega) (by omega)
      have w3 : IntKind.i64.wrap ((c : Int) + (f.name.length : Int) + (t : Int) + (u : Int)) = ((c + f.name.length + t + u : Nat) : Int) := by rw [wrap64_id (by omega) (by omega)]; rfl
      refine walkGF (And.intro @ncells_mk (And.intro hfp (And.intro @fcells_mk (And.intro @str_size w1)))) ?_
      refine walkC (hT) ?_
      refine walkGF (And.intro @ncells_mk (And.intro hfp (And.intro @fcells_mk (And.intro w2 (And.intro @len_cells (And.intro @take_cells @take_cellsC)))))) ?_
      refine walkCF (@pureL_c) (hB) ?_
      refine walkGF (And.intro w3 hwk) ?_
      refine .next ⟨(k + 1, c + f.name.length + t + u), by simp only []; omega, by simp only []; omega, hF⟩ ?_ (by simp only []; omega)
      simp only [ncells_mk, Weak, eq_self, used_is, sc_any, sc_c, sc_pp, sc_ref, sc_row, sc_agg, sc_fn, ScL, some_imp, List.forall_mem_map, go_sem, Int.reduceBEq, Int.reduceLE, Int.reduceLT, Int.reduceNeg, Nat.reduceAdd, Nat.reduceEqDiff, Nat.reduceLT, Nat.reduceLeDiff, Nat.reduceMul, Nat.reduceSub, reduceCtorEq, ↓reduceIte]
      try exact cI (by omega)
    · have hcc3 : ¬ (k < x.fields.length ∧ c ≤ 2500) := by simp at hc2; omega
      rw [fieldsB_end hcc3] at hF
      subst hF
      simp only [] at hV
      refine walkGF (hw) ?_
      refine .next ⟨(i + 1, c), by simp only []; omega, hc, hV⟩ ?_ (by simp only []; omega)
      simp only [Weak, eq_self, used_is, sc_any, sc_c, sc_pp, sc_ref, sc_row, sc_agg, sc_fn, ScL, some_imp, List.forall_mem_map, go_sem, Int.reduceBEq, Int.reduceLE, Int.reduceLT, Int.reduceNeg, Nat.reduceAdd, Nat.reduceEqDiff, Nat.reduceLT, Nat.reduceLeDiff, Nat.reduceMul, Nat.reduceSub, reduceCtorEq, ↓reduceIte]
      try exact cI (by omega)
  · have hcc2 : ¬ (i < s.nodes.length ∧ b ≤ 2500) := by simp at hc; omega
    rw [nodesB_end hcc2] at hV
    subst hV
    refine walkG ?_
    refine ⟨by first | exact .inr rfl | exact .inl rfl, ?_⟩; rw [Tryz.results46]; simp only [resOk, resV, go_sem, simprocAttr]
    exact .c _
set_option maxRecDepth 100000 in
set_option maxHeartbeats 400000 in
theorem sgreat_told (s : ST) : Told Tryz.prog 12 [s.av] (.c (.v (.bool (decide (2500 < (sbulk s : Int)))))) := by
  have hB := sbulk_told s
  simp only [ST.av_eq, scells_mk, List.map_cons, List.map_nil] at hB
  rw [ST.av_eq, scells_mk]
  refine VC.told ent_12 Tryz.func12 rfl Tryz.ntmps12 (by simp) (by first | rfl | simp [AV.pureB, AV.pureL, pureL_c, pures]) (by first | rfl | simp [AV.pureB, AV.pureL, pureL_c, pures]) fun hb => ?_
  clear hb
  refine walkG ?_
  refine walkC (hB) ?_
  refine walkG ?_
  refine ⟨by first | exact .inr rfl | exact .inl rfl, ?_⟩; rw [Tryz.results12]; simp only [resOk, resV, go_sem, simprocAttr]
  exact .c _

def bkeys : Nat → List (List UInt8) → Option Nat
  | n, [] => some n
  | n, y :: ys => if n ≤ 2000 then (if 2000 < y.length then none else bkeys (n + 1 + y.length) ys) else some n
mutual
def tbulk (d : Nat) : JT → Nat
  | .mk k n s ks xs => if 60 < d ∨ 2000 < s.length ∨ 2000 < ks.length ∨ 2000 < xs.length then 2001 else match bkeys (1 + s.length) ks with | none => 2001 | some n => bitems d n xs
def bitems (d : Nat) : Nat → List JT → Nat
  | n, [] => n
  | n, x :: xs => if n ≤ 2000 then bitems d (n + tbulk (d + 1) x) xs else n
end
theorem bkeys_le : ∀ (ys : List (List UInt8)) (n m : Nat), n ≤ 4001 → bkeys n ys = some m → m ≤ 4001
  | [], n, m, h, e => by simp [bkeys] at e; omega
  | y :: ys, n, m, h, e => by
    rw [bkeys] at e
    split at e
    · split at e
      · simp at e
      · exact bkeys_le ys _ m (by omega) e
    · simp at e; omega
mutual
theorem tbulk_le (d : Nat) : ∀ (t : JT), tbulk d t ≤ 4001 + 2001 * (61 - d)
  | .mk k n s ks xs => by
    rw [tbulk]
    split
    · omega
    · rename_i h
      split
      · omega
      · rename_i m hm
        exact bitems_le d xs m (by have := bkeys_le ks _ _ (by omega) hm; omega)
theorem bitems_le (d : Nat) : ∀ (xs : List JT) (n : Nat), n ≤ 4001 + 2001 * (61 - d) → bitems d n xs ≤ 4001 + 2001 * (61 - d)
  | [], n, h => by rw [bitems]; exact h
  | x :: xs, n, h => by
    rw [bitems]
    split
    · have := tbulk_le (d + 1) x
      by_cases hd : 60 < d
      · have h2 : tbulk (d + 1) x = 2001 := by
          cases x
          rw [tbulk, if_pos (by omega)]
        exact bitems_le d xs _ (by omega)
      · exact bitems_le d xs _ (by omega)
    · exact h
end
theorem bitems_ge (d : Nat) : ∀ (xs : List JT) (n : Nat), n ≤ bitems d n xs
  | [], n => by rw [bitems]; exact Nat.le_refl _
  | x :: xs, n => by
    rw [bitems]
    split
    · exact Nat.le_trans (Nat.le_add_right _ _) (bitems_ge d xs _)
    · exact Nat.le_refl _
mutual
theorem tbulk_deep (d : Nat) : ∀ (t : JT), tbulk d t ≤ 2000 → tdeep t + d ≤ 61
  | .mk k n s ks xs => fun h => by
    rw [tbulk] at h
    split at h
    · omega
    · rename_i hd
      split at h
      · omega
      · rw [tdeep]
        split
        · exact bitems_deep d xs _ 1 (by omega) h
        · omega
theorem bitems_deep (d : Nat) : ∀ (xs : List JT) (n m : Nat), m + d ≤ 61 → bitems d n xs ≤ 2000 → tdeeps m xs + d ≤ 61
  | [], n, m, hm, h => by rw [tdeeps]; exact hm
  | x :: xs, n, m, hm, h => by
    rw [bitems] at h
    split at h
    · have h1 := bitems_ge d xs (n + tbulk (d + 1) x)
      have h2 := tbulk_deep (d + 1) x (by omega)
      rw [tdeeps]
      exact bitems_deep d xs _ _ (by omega) h
    · omega
end

theorem outM_any (s : ST) (a : Int) (v : VT) (cuts : List Int) : (∃ e, (e != 0) = true ∧ outM s a v cuts = ([], e)) ∨
    (outM s a v cuts = ((encM s.nodes cuts a v 0).1, 0) ∧ conM s a v (rightM s) = true ∧ vdeep v ≤ 20 ∧ (encM s.nodes cuts a v 0).1.length ≤ 20000) := by
  unfold outM
  by_cases h1 : conM s a v (rightM s) = true
  · rw [if_pos h1]
    by_cases h2 : 20 < vdeep v
    · rw [if_pos h2]
      exact .inl ⟨15, rfl, rfl⟩
    rw [if_neg h2]
    by_cases h3 : 20000 < (encM s.nodes cuts a v 0).1.length
    · rw [if_pos h3]
      exact .inl ⟨3, rfl, rfl⟩
    rw [if_neg h3]
    exact .inr ⟨rfl, h1, by omega, by omega⟩
  · rw [if_neg h1]
    exact .inl ⟨40, rfl, rfl⟩
theorem take_back {s : ST} {a : Int} {E : List UInt8} {v : VT} (h1 : 0 ≤ a) (h2 : a < (s.nodes.length : Int)) (h3 : rightM s = true) (hb : Back (decM s.nodes 20 a) E v) (A T : List UInt8) : takeM s a (A ++ (E ++ T)) (A.length : Int) = (v, ((A.length + E.length : Nat) : Int), 0) := by
  rw [takeM_go (by rw [h3]; simp only [List.length_append]; simp; omega), Int.toNat_natCast, hb A T]
theorem dall_back {s : ST} {a : Int} {E : List UInt8} {v : VT} (h1 : 0 ≤ a) (h2 : a < (s.nodes.length : Int)) (h3 : rightM s = true) (hb : Back (decM s.nodes 20 a) E v) : dallM s a E = (v, 0) := by
  refine dall_go h1 h2 h3 ?_
  have := hb [] []
  simpa using this
set_option maxRecDepth 100000 in
set_option maxHeartbeats 6400000 in
theorem dback_told (s : ST) (a : Int) (v : VT) (hi : v.inr ∧ v.lng) (cuts : List Int) (hcr : ∀ n ∈ cuts, -9223372036854775808 ≤ n ∧ n ≤ 9223372036854775807) (A T : List UInt8) :
    Told Tryz.prog 10 [s.av, .c (.v (.int .i64 a)), v.av, .c (.sl 1 (cuts.map iPV)), .c (.sl 1 (bytePV A)), .c (.sl 1 (bytePV T))] (.c (.v (.bool true))) := by
  have hS := sgreat_told s
  have hG := vgreat_told v
  have hbA := bytePV_l A
  have hbT := bytePV_l T
  rw [ST.av_eq] at hS ⊢
  rw [VT.av_eq] at hG ⊢
  by_cases hs : 2500 < sbulk s
  · have e1 : decide (2500 < (sbulk s : Int)) = true := by simp; omega
    rw [e1] at hS
    refine VC.told ent_10 Tryz.func10 rfl Tryz.ntmps10 (by simp) (by first | rfl | simp [AV.pureB, AV.pureL, pureL_c, pures]) (by first | rfl | simp [AV.pureB, AV.pureL, pureL_c, pures]) fun hb => ?_
    clear hb
    refine walkG ?_
    refine walkC (works19_told) ?_
    refine walkBF (And.intro @len_scells (And.intro @take_scells @take_scellsC)) ?_
    refine walkCF (@pureL_c) (hS) ?_
    refine walkB ?_
    refine ⟨by first | exact .inr rfl | exact .inl rfl, ?_⟩; rw [Tryz.results10]; simp only [resOk, resV, go_sem, simprocAttr]
    exact .c _
  have e1 : decide (2500 < (sbulk s : Int)) = false := by simp; omega
  rw [e1] at hS
  by_cases hv : 2500 < vbulk 0 v
  · have e2 : decide (2500 < vbulk 0 v) = true := by simpa using hv
    rw [e2] at hG
    refine VC.told ent_10 Tryz.func10 rfl Tryz.ntmps10 (by simp) (by first | rfl | simp [AV.pureB, AV.pureL, pureL_c, pures]) (by first | rfl | simp [AV.pureB, AV.pureL, pureL_c, pures]) fun hb => ?_
    clear hb
    refine walkG ?_
    refine walkC (works19_told) ?_
    refine walkBF (And.intro @len_scells (And.intro @take_scells @take_scellsC)) ?_
    refine walkCF (@pureL_c) (hS) ?_
    refine walkGF (And.intro @len_vcells (And.intro @take_vcells @take_vcellsC)) ?_
    refine walkCF (@pureL_c) (hG) ?_
    refine walkB ?_
    refine ⟨by first | exact .inr rfl | exact .inl rfl, ?_⟩; rw [Tryz.results10]; simp only [resOk, resV, go_sem, simprocAttr]
    exact .c _
  have e2 : decide (2500 < vbulk 0 v) = false := by simpa using hv
  rw [e2] at hG
  by_cases hc1 : 100 < cuts.length
  · have e3 : decide ((cuts.length : Int) > 100) = true := by simp; omega
    refine VC.told ent_10 Tryz.func10 rfl Tryz.ntmps10 (by simp) (by first | rfl | simp [AV.pureB, AV.pureL, pureL_c, pures]) (by first | rfl | simp [AV.pureB, AV.pureL, pureL_c, pures]) fun hb => ?_
    clear hb
    refine walkG ?_
    refine walkC (works19_told) ?_
    refine walkBF (And.intro @len_scells (And.intro @take_scells @take_scellsC)) ?_
    refine walkCF (@pureL_c) (hS) ?_
    refine walkGF (And.intro @len_vcells (And.intro @take_vcells @take_vcellsC)) ?_
    refine walkCF (@pureL_c) (hG) ?_
    refine walkBF (e3) ?_
    refine ⟨by first | exact .inr rfl | exact .inl rfl, ?_⟩; rw [Tryz.results10]; simp only [resOk, resV, go_sem, simprocAttr]
    exact .c _
  have e3 : decide ((cuts.length : Int) > 100) = false := by simp; omega
  by_cases hA1 : 1000 < A.length
  · have e4 : decide ((A.length : Int) > 1000) = true := by simp; omega
    refine VC.told ent_10 Tryz.func10 rfl Tryz.ntmps10 (by simp) (by first | rfl | simp [AV.pureB, AV.pureL, pureL_c, pures]) (by first | rfl | simp [AV.pureB, AV.pureL, pureL_c, pures]) fun hb => ?_
    clear hb
    refine walkG ?_
    refine walkC (works19_told) ?_
    refine walkBF (And.intro @len_scells (And.intro @take_scells @take_scellsC)) ?_
    refine walkCF (@pureL_c) (hS) ?_
    refine walkGF (And.intro @len_vcells (And.intro @take_vcells @take_vcellsC)) ?_
    refine walkCF (@pureL_c) (hG) ?_
    refine walkBF (And.intro e3 (And.intro hbA e4)) ?_
    refine ⟨by first | exact .inr rfl | exact .inl rfl, ?_⟩; rw [Tryz.results10]; simp only [resOk, resV, go_sem, simprocAttr]
    exact .c _
  have e4 : decide ((A.length : Int) > 1000) = false := by simp; omega
  by_cases hT1 : 1000 < T.length
  · have e5 : decide ((T.length : Int) > 1000) = true := by simp; omega
    refine VC.told ent_10 Tryz.func10 rfl Tryz.ntmps10 (by simp) (by first | rfl | simp [AV.pureB, AV.pureL, pureL_c, pures]) (by first | rfl | simp [AV.pureB, AV.pureL, pureL_c, pures]) fun hb => ?_
    clear hb
    refine walkG ?_
    refine walkC (works19_told) ?_
    refine walkBF (And.intro @len_scells (And.intro @take_scells @take_scellsC)) ?_
    refine walkCF (@pureL_c) (hS) ?_
    refine walkGF (And.intro @len_vcells (And.intro @take_vcells @take_vcellsC)) ?_
    refine walkCF (@pureL_c) (hG) ?_
    refine walkBF (And.intro e3 (And.intro hbA (And.intro hbT (And.intro e4 e5)))) ?_
    refine ⟨by first | exact .inr rfl | exact .inl rfl, ?_⟩; rw [Tryz.results10]; simp only [resOk, resV, go_sem, simprocAttr]
    exact .c _
  have e5 : decide ((T.length : Int) > 1000) = false := by simp; omega
  have hsm := ssm_le' (sbulk_sm (s := s) (by omega))
  have hvm := vsm_le (show (2500 : Nat) ≤ 1000000 by omega) v (vbulk_sm 0 v hi.1 (by omega))
  have d1 := vbulk_deep 0 v (by omega)
  have g1 := vbulk_vw 0 v (by omega)
  have hO := ecutall_told s hsm v hvm hi.2 (by omega) (by omega) a cuts hcr (by omega)
  rw [ST.av_eq, VT.av_eq] at hO
  rcases outM_any s a v cuts with ⟨e, he, ho⟩ | ⟨ho, hc, hd, hEl⟩
  · rw [ho] at hO
    refine VC.told ent_10 Tryz.func10 rfl Tryz.ntmps10 (by simp) (by first | rfl | simp [AV.pureB, AV.pureL, pureL_c, pures]) (by first | rfl | simp [AV.pureB, AV.pureL, pureL_c, pures]) fun hb => ?_
    clear hb
    refine walkG ?_
    refine walkC (works19_told) ?_
    refine walkBF (And.intro @len_scells (And.intro @take_scells @take_scellsC)) ?_
    refine walkCF (@pureL_c) (hS) ?_
    refine walkGF (And.intro @len_vcells (And.intro @take_vcells @take_vcellsC)) ?_
    refine walkCF (@pureL_c) (hG) ?_
    refine walkBF (And.intro e3 (And.intro hbA (And.intro hbT (And.intro e4 (And.intro e5 (And.intro @len_scells (And.intro @take_scells (And.intro @take_scellsC (And.intro @len_vcells (And.intro @take_vcells @take_vcellsC)))))))))) ?_
    refine walkCF (@pureL_c) (hO) ?_
    refine walkBF (And.intro he @bytePV_len) ?_
    refine ⟨by first | exact .inr rfl | exact .inl rfl, ?_⟩; rw [Tryz.results10]; simp only [resOk, resV, go_sem, simprocAttr]
    exact .c _
  rw [ho] at hO
  obtain ⟨c1, c2, c3, c4⟩ := conM_parts hc
  have hB := dec_back c3 cuts _ v (Nat.le_refl _) 20 a c1 c4 hd hi.1 hi.2 (by omega) hvm 0
  have hW := vsame_told _ v v (Nat.le_refl _)
  rw [ceq_self, VT.av_eq] at hW
  generalize (encM s.nodes cuts a v 0).1 = E at hO hB hEl
  have hTk := dtake_told s hsm a (A ++ (E ++ T)) (by simp only [List.length_append]; omega) (A.length : Int)
  rw [take_back c1 c2 c3 hB] at hTk
  have hAl := dall_told s hsm a E (by omega)
  rw [dall_back c1 c2 c3 hB] at hAl
  simp only [ST.av_eq, VT.av_eq] at hTk hAl
  simp only [] at hO
  have hbE := bytePV_l E
  have hw : IntKind.i64.wrap ((A.length : Int) + (E.length : Int)) = ((A.length + E.length : Nat) : Int) := by rw [wrap64_id (by omega) (by omega)]; omega
  refine VC.told ent_10 Tryz.func10 rfl Tryz.ntmps10 (by simp) (by first | rfl | simp [AV.pureB, AV.pureL, pureL_c, pures]) (by first | rfl | simp [AV.pureB, AV.pureL, pureL_c, pures]) fun hb => ?_
  clear hb
  refine walkG ?_
  refine walkC (works19_told) ?_
  refine walkBF (And.intro @len_scells (And.intro @take_scells @take_scellsC)) ?_
  refine walkCF (@pureL_c) (hS) ?_
  refine walkGF (And.intro @len_vcells (And.intro @take_vcells @take_vcellsC)) ?_
  refine walkCF (@pureL_c) (hG) ?_
  refine walkBF (And.intro e3 (And.intro hbA (And.intro hbT (And.intro e4 (And.intro e5 (And.intro @len_scells (And.intro @take_scells (And.intro @take_scellsC (And.intro @len_vcells (And.intro @take_vcells @take_vcellsC)))))))))) ?_
  refine walkCF (@pureL_c) (hO) ?_
  (repeat (first | refine pass ?_ | refine VC.region (by rfl) (by rfl) ?_ | (refine AO.step fun K hK => ?_; simp only [hbA, hbT, hbE, List.length_append, List.length_map, len_scells, take_scells, take_scellsC, go_sem, Int.reduceBEq, Int.reduceLE, Int.reduceLT, Int.reduceNeg, Nat.reduceAdd, Nat.reduceEqDiff, Nat.reduceLT, Nat.reduceLeDiff, Nat.reduceMul, Nat.reduceSub, reduceCtorEq, ↓reduceIte]; (first | refine gsel_skip ?_ | refine gsel_go ?_ | skip); (first | refine hK _ _ _ ?_ | refine ⟨by first | omega | exact ⟨_, rfl, rfl⟩ | exact fun _ => ⟨_, rfl, rfl⟩ | (intro h; simp only [hbA, hbT, hbE, List.length_append, List.length_map, len_scells, take_scells, take_scellsC, h, true_and]; omega) | (clear hK; intro h; simp_all <;> omega), hK _ _ _ ?_⟩); clear hK K) | refine VC.draw mixP (by rfl) (by rfl) ?_ | refine ⟨okd_of (by kernel_rfl), ?_⟩ | refine BQ.other (by decide) ?_ | refine VC.seq ?_ | refine AO.nil ?_ | refine VC.block ?_ | refine VC.condT (by rfl) (by trivial) ?_ | refine VC.condF (by rfl) (by trivial) ?_))
  have hall : (bytePV A).map (fun e => e.map AV.c) ++ (bytePV E).map (fun e => e.map AV.c) ++ (bytePV T).map (fun e => e.map AV.c) = (bytePV (A ++ (E ++ T))).map fun e => e.map AV.c := by simp [bytePV]
  refine AO.stepJw rfl (J_callZ _ _ _ _ 304 (A.length + E.length + T.length) _ (bytePV (A ++ (E ++ T))) [.agg (s.cells.map .c), .c (.v (.int .i64 a))] [.c (.v (.int .i64 (A.length : Int)))] rfl (by simp [okx, putd, upd, AV.okb]) rfl rfl ?_ ?_ rfl ?_ hTk) ?_
  · simp [Blkd.len, hbA, hbE, hbT, Nat.add_assoc]
  · exact hall
  · simp [AV.pureL, AV.pureB, pureL_c]
  refine walkBF (And.intro @len_vcells (And.intro @take_vcells (And.intro @take_vcellsC (And.intro @len_scells (And.intro @take_scells @take_scellsC))))) ?_
  refine walkCF (@pureL_c) (hAl) ?_
  refine walkBF (And.intro @len_vcells (And.intro @take_vcells (And.intro @take_vcellsC (And.intro hbA (And.intro hbE hw))))) ?_
  refine walkCF (@pureL_c) (hW) ?_
  refine walkBF (And.intro @len_vcells (And.intro @take_vcells @take_vcellsC)) ?_
  refine walkCF (@pureL_c) (hW) ?_
  refine walkB ?_
  refine ⟨by first | exact .inr rfl | exact .inl rfl, ?_⟩; rw [Tryz.results10]; simp only [resOk, resV, go_sem, simprocAttr]
  exact .c _

theorem ty_intsR {ps : List PV} (h : TyPV Tryz.prog 31 ps) : ∃ ns : List Int, (∀ n ∈ ns, -9223372036854775808 ≤ n ∧ n ≤ 9223372036854775807) ∧ ps = [.sl 1 (ns.map iPV)] := by
  obtain ⟨es, rfl, hx⟩ := ty_sl h Tryz.underlying31
  rw [cells_of tyA_3]
  obtain ⟨ns, hn, rfl⟩ := list_mapP (f := iPV) (p := fun n : Int => -9223372036854775808 ≤ n ∧ n ≤ 9223372036854775807) fun q hq => by
    obtain ⟨n, rfl, hw⟩ := ty_int (hx q hq) Tryz.underlying3
    exact ⟨n, wf64 hw, rfl⟩
  exact ⟨ns, hn, rfl⟩
theorem arg_ints {x : AV} (h : TyAV Tryz.prog 31 x) : ∃ ns : List Int, (∀ n ∈ ns, -9223372036854775808 ≤ n ∧ n ≤ 9223372036854775807) ∧ x = .c (.sl 1 (ns.map iPV)) := by
  obtain ⟨ps, h1, h2⟩ := h
  obtain ⟨ns, hn, rfl⟩ := ty_intsR h1
  rcases h2 with ⟨⟨fs, h2⟩, _⟩ | ⟨_, q, h2, rfl⟩
  · simp [Tryz.underlying31] at h2
  · simp at h2
    subst h2
    exact ⟨ns, hn, rfl⟩
theorem arg_bytes {x : AV} (h : TyAV Tryz.prog 40 x) : ∃ l : List UInt8, x = .c (.sl 1 (bytePV l)) := by
  obtain ⟨ps, h1, h2⟩ := h
  obtain ⟨l, rfl⟩ := ty_bytes h1
  rcases h2 with ⟨⟨fs, h2⟩, _⟩ | ⟨_, q, h2, rfl⟩
  · simp [Tryz.underlying40] at h2
  · simp at h2
    subst h2
    exact ⟨l, rfl⟩
section

theorem gWords : Tryz.prog.globalNamed "avocet/naming.words" = some 0 := by kernel_rfl
theorem tWords : (Tryz.prog.globals[0]?).map (·.type) = some 241 := by kernel_rfl
theorem uWords : Tryz.prog.underlying 241 = some (.array 15 9) := by kernel_rfl
theorem cWords : Tryz.prog.cellsOf 9 = 1 := by kernel_rfl
theorem onlyWords : ((List.range Tryz.prog.globals.size).all fun g => g == 0 || (glob Tryz.prog g).isNone) = true := by kernel_rfl
theorem globWords : glob Tryz.prog 0 = some (kwords.map fun w => PV.v (.string (str w))) := by kernel_rfl
theorem words_cells {W : World} (h : laidMetH Tryz.prog [("avocet/naming.words", Rows.laid_avocet_naming_words)] W) :
    ∃ cs : Array Value, (∀ i, W.cell? ⟨0, i, none⟩ = cs[i]?) ∧ cs.size = 15 ∧ ∀ (i : Nat) (w : List UInt8), kwords[i]? = some w → cs[i]? = some (.string (str w)) := by
  rw [MakeChecks.laidMetH_plain _ _ _ (by kernel_rfl)] at h
  obtain ⟨ps, ⟨g0, t0, cs0, f0, p0, q0, hg0, ht0, hv0, hd0, _, _⟩, _, _⟩ := h
  obtain rfl := Option.some.inj (gWords.symm.trans hg0)
  obtain rfl := Option.some.inj (tWords.symm.trans ht0)
  obtain ⟨xs, m1, rfl, hx1, hlen, hn15, hel⟩ := DataW.trod_array uWords hd0
  simp only [Rows.laid_avocet_naming_words, Prod.mk.injEq, DataW.agg.injEq] at hx1
  have hx2 : kwords.map (fun w => (DataW.lit (.string w) : DataW Unit)) = xs.map (·.1) := hx1.1
  have hat : ∀ i, i < 15 → ∃ s : ByteArray, cs0[i]? = some (.string s) ∧ ∃ x, xs[i]? = some x ∧ x.1 = .lit (.string s.data.toList) := by
    intro i hi
    obtain ⟨x, hx⟩ : ∃ x, xs[i]? = some x := ⟨xs[i]'(by omega), List.getElem?_eq_getElem (by omega)⟩
    have h1 := hel i hi
    rw [hx] at h1
    obtain ⟨s, e1, e2, _⟩ := DataW.trod_string Tryz.underlying9 h1
    rw [cWords, Nat.mul_one] at e1
    refine ⟨s, ?_, x, hx, by rw [e2]⟩
    have h2 : (cs0.toList.drop i)[0]? = some (.string s) := by
      have h3 : ((cs0.toList.drop i).take 1)[0]? = some (.string s) := by rw [e1]; rfl
      rwa [List.getElem?_take_of_lt (by decide)] at h3
    rw [List.getElem?_drop, Nat.add_zero] at h2
    simpa using h2
  refine ⟨cs0, fun i => World.var?_cell hg0 hv0 i, ?_, fun i w hw => ?_⟩
  · have := hlen
    rw [show Tryz.prog.cellsOf 241 = 15 by kernel_rfl] at this
    simpa using this
  · have hi : i < 15 := (List.getElem?_eq_some_iff.1 hw).1
    obtain ⟨s, h1, x, h2, h3⟩ := hat i hi
    have h4 : (xs.map (·.1))[i]? = some (.lit (.string w)) := by rw [← hx2, List.getElem?_map, hw]; rfl
    rw [List.getElem?_map, h2] at h4
    have h5 : x.1 = .lit (.string w) := Option.some.inj h4
    rw [h3] at h5
    have h6 : s.data.toList = w := Lit.string.inj (DataW.lit.inj h5)
    have h7 : s = str w := by
      apply ByteArray.ext
      rw [← h6]
      show s.data = s.data.toList.toArray
      exact (Array.toArray_toList).symm
    rw [h1, h7]
theorem gok_words {W : World} (h : laidMetH Tryz.prog [("avocet/naming.words", Rows.laid_avocet_naming_words)] W) : GOk Tryz.prog W (fun k => k < W.heap.size) := by
  obtain ⟨cs, h1, h2, h3⟩ := words_cells h
  intro g cells hc
  have hg : g = 0 := by
    by_cases hlt : g < Tryz.prog.globals.size
    · have := List.all_eq_true.1 onlyWords g (List.mem_range.2 hlt)
      rw [hc] at this
      simpa using this
    · unfold glob at hc
      rw [Array.getElem?_eq_none (by omega)] at hc
      simp at hc
  subst hg
  rw [globWords] at hc
  obtain rfl := Option.some.inj hc
  refine ⟨?_, cs.toList, fun j hj => ?_, ⟨by simp [h2, kwords], fun j p v hp hv => ?_⟩⟩
  · have h4 := h1 0
    rw [h3 0 [] rfl] at h4
    by_cases hlt : 0 < W.heap.size
    · exact hlt
    · unfold World.cell? at h4
      simp only [] at h4
      rw [Array.getElem?_eq_none (by omega)] at h4
      simp at h4
  · rw [Nat.zero_add, h1 j]
    simp
  · rw [List.getElem?_map] at hp
    cases hw : kwords[j]? with
    | none => rw [hw] at hp; simp at hp
    | some w =>
      rw [hw] at hp
      obtain rfl := Option.some.inj hp
      have h5 := h3 j w hw
      rw [Array.getElem?_toList] at hv
      rw [h5] at hv
      obtain rfl := Option.some.inj hv
      exact .v rfl
section
variable {P : Program} {w : World}
theorem law_toldG (hg : GOk P w (fun k => k < w.heap.size)) {f : FuncId} {args : List AV} (hT : Told P f args (.c (.v (.bool true)))) {vs : List Value} (hl : vs.length = args.length) (hr : ∀ (j : Nat) (x : AV) (v : Value), args[j]? = some x → vs[j]? = some v → Rep w (fun b => b < w.heap.size) φ0 h0 x v) :
    Calls P f vs.toArray w fun e W' => e = .returned (.bool true) ∧ Below w.heap.size w W' := by
  refine (hT.2 w (fun k => k < w.heap.size) vs (fun _ h => h) hg ⟨hl, hr⟩).mono ?_
  rintro e W' ⟨v, ro', rfl, hb, _, _, hr, _⟩
  obtain rfl := rep_prim hr
  exact ⟨rfl, hb⟩
end
end
end
end Go.Proofs.YtllnlmchjljhlaaGreatDoor
