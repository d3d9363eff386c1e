/- Trees and texts that came in as data. -/
import Derived.Test.YtmmffaelkoinlaaGreatDoorOpn
import Derived.Test.YtmmffaelkoinlaaGreatDoorAt
import Derived.Test.YtmmffaelkoinlaaGreatDoorJ0
namespace Go.Proofs.YtmmffaelkoinlaaGreatDoor
open Go.RowKit
set_option linter.unusedVariables false
set_option linter.unusedSimpArgs false

section
variable {P : Program}
theorem ty_int {t : TypeId} {k : IntKind} {ps : List PV} (h : TyPV P t ps) (hu : P.underlying t = some (.int k)) : ∃ n, ps = [.v (.int k n)] ∧ (Lit.int k n).wf = true := by
  cases h with
  | int ht hw => obtain rfl := TypeDesc.int.inj (Option.some.inj (ht.symm.trans hu)); exact ⟨_, rfl, hw⟩
  | bool ht => simp [ht] at hu
  | str ht hs => simp [ht] at hu
  | sl ht hx => simp [ht] at hu
  | struct ht hl hx => simp [ht] at hu
theorem ty_bool {t : TypeId} {ps : List PV} (h : TyPV P t ps) (hu : P.underlying t = some .bool) : ∃ b, ps = [.v (.bool b)] := by
  cases h with
  | bool ht => exact ⟨_, rfl⟩
  | int ht hw => simp [ht] at hu
  | str ht hs => simp [ht] at hu
  | sl ht hx => simp [ht] at hu
  | struct ht hl hx => simp [ht] at hu
theorem ty_str {t : TypeId} {ps : List PV} (h : TyPV P t ps) (hu : P.underlying t = some .string) : ∃ s : List UInt8, ps = [.v (.string (str s))] ∧ s.length ≤ maxLen := by
  cases h with
  | @str _ s ht hs => exact ⟨s.data.toList, by rw [str_of], by rw [← str_size, str_of]; exact hs⟩
  | bool ht => simp [ht] at hu
  | int ht hw => simp [ht] at hu
  | sl ht hx => simp [ht] at hu
  | struct ht hl hx => simp [ht] at hu
theorem ty_sl {t e : TypeId} {ps : List PV} (h : TyPV P t ps) (hu : P.underlying t = some (.slice e)) : ∃ es, ps = [.sl (P.cellsOf e) es] ∧ ∀ q ∈ es, TyPV P e q := by
  cases h with
  | sl ht hx => obtain rfl := TypeDesc.slice.inj (Option.some.inj (ht.symm.trans hu)); exact ⟨_, rfl, hx⟩
  | bool ht => simp [ht] at hu
  | int ht hw => simp [ht] at hu
  | str ht hs => simp [ht] at hu
  | struct ht hl hx => simp [ht] at hu
theorem list_map {α β : Type} {f : α → β} : ∀ {l : List β}, (∀ y ∈ l, ∃ x, y = f x) → ∃ m : List α, l = m.map f
  | [], _ => ⟨[], rfl⟩
  | y :: l, h => by
    obtain ⟨x, rfl⟩ := h y (by simp)
    obtain ⟨m, rfl⟩ := list_map (l := l) fun z hz => h z (by simp [hz])
    exact ⟨x :: m, rfl⟩
theorem list_mapP {α β : Type} {f : α → β} {p : α → Prop} : ∀ {l : List β}, (∀ y ∈ l, ∃ x, p x ∧ y = f x) → ∃ m : List α, (∀ x ∈ m, p x) ∧ l = m.map f
  | [], _ => ⟨[], by simp, rfl⟩
  | y :: l, h => by
    obtain ⟨x, hx, rfl⟩ := h y (by simp)
    obtain ⟨m, hm, rfl⟩ := list_mapP (l := l) fun z hz => h z (by simp [hz])
    exact ⟨x :: m, fun z hz => by rcases List.mem_cons.1 hz with rfl | hz; exact hx; exact hm z hz, rfl⟩
theorem wf64 {n : Int} (h : (Lit.int .i64 n).wf = true) : -9223372036854775808 ≤ n ∧ n ≤ 9223372036854775807 := by
  simp [Lit.wf, IntKind.min, IntKind.max, IntKind.signed, IntKind.bits] at h
  omega
theorem split5 {α : Type} {l : List α} (h : l.length = 5) : ∃ a b c d e, l = [a, b, c, d, e] := by
  match l, h with
  | [a, b, c, d, e], _ => exact ⟨a, b, c, d, e, rfl⟩
end
theorem fld_of {P : Program} {t : TypeId} {T : TyA} {fs : Array Field} (hT : tyA P t = some T) (hu : P.underlying t = some (.struct fs)) {i o : Nat} {t' : TypeId} (h : T.flds[i]? = some (o, t')) : ∃ f, fs[i]? = some f ∧ f.offset = o ∧ f.type = t' := by
  obtain ⟨d, ii, h1, _, rfl⟩ := tyA_some hT
  obtain rfl := Option.some.inj (hu.symm.trans h1)
  simp only [descFlds, List.getElem?_map] at h
  cases hq : fs.toList[i]? with
  | none => rw [hq] at h; simp at h
  | some f =>
    rw [hq] at h
    simp at h
    exact ⟨f, by simpa using hq, h.1, h.2⟩
theorem cells_of {P : Program} {t : TypeId} {T : TyA} (hT : tyA P t = some T) : P.cellsOf t = T.size := by
  obtain ⟨d, ii, _, h2, rfl⟩ := tyA_some hT
  simp [Program.cellsOf, h2]
theorem ty_strs {ps : List PV} (h : TyPV Tryz.prog 28 ps) : ∃ ks : List (List UInt8), ps = [.sl 1 (ks.map sPV)] := by
  obtain ⟨es, rfl, hx⟩ := ty_sl h Tryz.underlying28
  rw [cells_of tyA_9]
  obtain ⟨ks, rfl⟩ := list_map (f := sPV) fun q hq => by
    obtain ⟨s, rfl, _⟩ := ty_str (hx q hq) Tryz.underlying9
    exact ⟨s, rfl⟩
  exact ⟨ks, rfl⟩
theorem ty_fields {P : Program} {t : TypeId} {T : TyA} {ps : List PV} (h : TyPV P t ps) (hT : tyA P t = some T) (hk : T.kind = 3) :
    ps.length = T.size ∧ ∀ (i o : Nat) (t' : TypeId), T.flds[i]? = some (o, t') → ∀ T', tyA P t' = some T' → TyPV P t' ((ps.drop o).take T'.size) := by
  obtain ⟨d, ii, h1, h2, h3⟩ := tyA_some hT
  obtain ⟨fs, rfl⟩ := kind_struct (d := d) (by rw [h3] at hk; exact hk)
  cases h with
  | struct ht hlen hx =>
    obtain rfl := TypeDesc.struct.inj (Option.some.inj (ht.symm.trans h1))
    refine ⟨by rw [← cells_of hT]; exact hlen, fun i o t' h T' hT' => ?_⟩
    obtain ⟨f, hf, rfl, rfl⟩ := fld_of hT h1 h
    rw [← cells_of hT']
    exact hx i f hf
  | bool ht => simp [ht] at h1
  | int ht hw => simp [ht] at h1
  | str ht hs => simp [ht] at h1
  | sl ht hx => simp [ht] at h1
theorem ty_json : ∀ {t : TypeId} {ps : List PV}, TyPV Tryz.prog t ps → (t = 49 → ∃ j : JT, j.inr ∧ ps = j.cells) ∧ (t = 47 → ∃ xs : List JT, JT.inrL xs ∧ ps = [.sl 5 (xs.map JT.cells)]) := by
  intro t ps h
  induction h with
  | bool ht => exact ⟨fun e => by subst e; simp [Tryz.underlying49] at ht, fun e => by subst e; simp [Tryz.underlying47] at ht⟩
  | int ht hw => exact ⟨fun e => by subst e; simp [Tryz.underlying49] at ht, fun e => by subst e; simp [Tryz.underlying47] at ht⟩
  | str ht hs => exact ⟨fun e => by subst e; simp [Tryz.underlying49] at ht, fun e => by subst e; simp [Tryz.underlying47] at ht⟩
  | @sl t e es ht hx ih =>
    refine ⟨fun e => by subst e; simp [Tryz.underlying49] at ht, fun e => ?_⟩
    subst e
    obtain rfl := TypeDesc.slice.inj (Option.some.inj (ht.symm.trans Tryz.underlying47))
    obtain ⟨xs, hxs, rfl⟩ := list_mapP (f := JT.cells) (p := JT.inr) fun q hq => (ih q hq).1 rfl
    exact ⟨xs, inrL_of hxs, by rw [cells_of tyA_49]⟩
  | @struct t fs ps ht hl hx ih =>
    refine ⟨fun e => ?_, fun e => by subst e; simp [Tryz.underlying47] at ht⟩
    subst e
    have hT := tyA_49
    obtain ⟨a0, a1, a2, a3, a4, rfl⟩ := split5 (hl.trans (cells_of hT))
    obtain ⟨_, hf⟩ := ty_fields (.struct ht hl hx) hT rfl
    obtain ⟨k, h0, _⟩ := ty_int (hf 0 _ _ rfl _ tyA_3) Tryz.underlying3
    obtain ⟨n, h1, hw⟩ := ty_int (hf 1 _ _ rfl _ tyA_2) Tryz.underlying2
    obtain ⟨s, h2, _⟩ := ty_str (hf 2 _ _ rfl _ tyA_9) Tryz.underlying9
    obtain ⟨ks, h4⟩ := ty_strs (hf 4 _ _ rfl _ tyA_28)
    obtain ⟨f, g1, g2, g3⟩ := fld_of hT ht (i := 3) rfl
    obtain ⟨xs, hxs, h3⟩ := (ih 3 f g1).2 g3
    rw [g2, g3, cells_of tyA_47] at h3
    simp at h0 h1 h2 h3 h4
    subst h0 h1 h2 h3 h4
    exact ⟨.mk k n s ks xs, ⟨wf64 hw, hxs⟩, (cells_mk _ _ _ _ _).symm⟩
theorem arg_json {x : AV} (h : TyAV Tryz.prog 49 x) : ∃ j : JT, j.inr ∧ x = j.av := by
  obtain ⟨ps, h1, h2⟩ := h
  obtain ⟨j, hj, rfl⟩ := (ty_json h1).1 rfl
  rcases h2 with ⟨_, rfl⟩ | ⟨h2, _⟩
  · exact ⟨j, hj, rfl⟩
  · exact absurd Tryz.underlying49 (h2 _)
theorem arg_int {x : AV} (h : TyAV Tryz.prog 2 x) : ∃ n : Int, (-9223372036854775808 ≤ n ∧ n ≤ 9223372036854775807) ∧ x = .c (.v (.int .i64 n)) := by
  obtain ⟨ps, h1, h2⟩ := h
  obtain ⟨n, rfl, hn⟩ := ty_int h1 Tryz.underlying2
  rcases h2 with ⟨⟨fs, h2⟩, _⟩ | ⟨_, q, h2, rfl⟩
  · simp [Tryz.underlying2] at h2
  · simp at h2
    subst h2
    exact ⟨n, wf64 hn, rfl⟩
theorem arg_str {x : AV} (h : TyAV Tryz.prog 9 x) : ∃ s : List UInt8, s.length ≤ maxLen ∧ x = .c (.v (.string (str s))) := by
  obtain ⟨ps, h1, h2⟩ := h
  obtain ⟨s, rfl, hs⟩ := ty_str h1 Tryz.underlying9
  rcases h2 with ⟨⟨fs, h2⟩, _⟩ | ⟨_, q, h2, rfl⟩
  · simp [Tryz.underlying9] at h2
  · simp at h2
    subst h2
    exact ⟨s, hs, rfl⟩

end Go.Proofs.YtmmffaelkoinlaaGreatDoor
