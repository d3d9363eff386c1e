/- Schemas: plain values, and those that came in as data. -/
import Derived.Test.YtmmffaelkoinlaaGreatDoorOpj
import Derived.Test.YtmmffaelkoinlaaGreatDoorSt
namespace Go.Proofs.YtmmffaelkoinlaaGreatDoor
open Go.RowKit
set_option linter.unusedVariables false
set_option linter.unusedSimpArgs false

theorem drop_cut {α : Type} (l : List α) (o k : Nat) : l.drop o = (l.drop o).take k ++ l.drop (o + k) := by rw [← List.drop_drop, List.take_append_drop]
theorem ty_ints {ps : List PV} (h : TyPV Tryz.prog 30 ps) : ∃ ns : List Int, ps = [.sl 1 (ns.map iPV)] := by
  obtain ⟨es, rfl, hx⟩ := ty_sl h Tryz.underlying30
  rw [cells_of tyA_3]
  obtain ⟨ns, rfl⟩ := list_map (f := iPV) fun q hq => by
    obtain ⟨n, rfl, _⟩ := ty_int (hx q hq) Tryz.underlying3
    exact ⟨n, rfl⟩
  exact ⟨ns, rfl⟩
theorem ty_field {ps : List PV} (h : TyPV Tryz.prog 51 ps) : ∃ f : FT, ps = f.cells := by
  obtain ⟨hl, hf⟩ := ty_fields h tyA_51 rfl
  obtain ⟨a, h0, _⟩ := ty_str (hf 0 _ _ rfl _ tyA_9) Tryz.underlying9
  obtain ⟨b, h1⟩ := ty_strs (hf 1 _ _ rfl _ tyA_28)
  obtain ⟨c, h2, _⟩ := ty_int (hf 2 _ _ rfl _ tyA_3) Tryz.underlying3
  obtain ⟨d, h3⟩ := ty_bool (hf 3 _ _ rfl _ tyA_4) Tryz.underlying4
  obtain ⟨e, _, h4⟩ := (ty_json (hf 4 _ _ rfl _ tyA_49)).1 rfl
  have e0 : ps = (ps.drop 0).take 1 ++ ps.drop 1 := drop_cut ps 0 1
  have e1 : ps.drop 1 = (ps.drop 1).take 1 ++ ps.drop 2 := drop_cut ps 1 1
  have e2 : ps.drop 2 = (ps.drop 2).take 1 ++ ps.drop 3 := drop_cut ps 2 1
  have e3 : ps.drop 3 = (ps.drop 3).take 1 ++ ps.drop 4 := drop_cut ps 3 1
  have e4 : ps.drop 4 = (ps.drop 4).take 5 := (List.take_of_length_le (by rw [List.length_drop, hl]; decide)).symm
  exact ⟨⟨a, b, c, d, e⟩, e0.trans (by rw [h0, e1, h1, e2, h2, e3, h3, e4, h4]; rfl)⟩
theorem ty_fieldsL {ps : List PV} (h : TyPV Tryz.prog 29 ps) : ∃ fs : List FT, ps = [.sl 9 (fs.map FT.cells)] := by
  obtain ⟨es, rfl, hx⟩ := ty_sl h Tryz.underlying29
  rw [cells_of tyA_51]
  obtain ⟨ns, rfl⟩ := list_map (f := FT.cells) fun q hq => ty_field (hx q hq)
  exact ⟨ns, rfl⟩
theorem ty_node {ps : List PV} (h : TyPV Tryz.prog 32 ps) : ∃ n : NT, ps = n.cells := by
  obtain ⟨hl, hf⟩ := ty_fields h tyA_32 rfl
  obtain ⟨a0, h0, _⟩ := ty_int (hf 0 _ _ rfl _ tyA_3) Tryz.underlying3
  obtain ⟨a1, h1, _⟩ := ty_str (hf 1 _ _ rfl _ tyA_9) Tryz.underlying9
  obtain ⟨a2, h2⟩ := ty_strs (hf 2 _ _ rfl _ tyA_28)
  obtain ⟨a3, h3⟩ := ty_fieldsL (hf 3 _ _ rfl _ tyA_29)
  obtain ⟨a4, h4⟩ := ty_strs (hf 4 _ _ rfl _ tyA_28)
  obtain ⟨a5, h5⟩ := ty_bool (hf 5 _ _ rfl _ tyA_4) Tryz.underlying4
  obtain ⟨a6, h6, _⟩ := ty_str (hf 6 _ _ rfl _ tyA_9) Tryz.underlying9
  obtain ⟨a7, h7, _⟩ := ty_int (hf 7 _ _ rfl _ tyA_3) Tryz.underlying3
  obtain ⟨a8, h8, _⟩ := ty_int (hf 8 _ _ rfl _ tyA_3) Tryz.underlying3
  obtain ⟨a9, h9⟩ := ty_ints (hf 9 _ _ rfl _ tyA_30)
  have e0 : ps = (ps.drop 0).take 1 ++ ps.drop 1 := drop_cut ps 0 1
  have e1 : ps.drop 1 = (ps.drop 1).take 1 ++ ps.drop 2 := drop_cut ps 1 1
  have e2 : ps.drop 2 = (ps.drop 2).take 1 ++ ps.drop 3 := drop_cut ps 2 1
  have e3 : ps.drop 3 = (ps.drop 3).take 1 ++ ps.drop 4 := drop_cut ps 3 1
  have e4 : ps.drop 4 = (ps.drop 4).take 1 ++ ps.drop 5 := drop_cut ps 4 1
  have e5 : ps.drop 5 = (ps.drop 5).take 1 ++ ps.drop 6 := drop_cut ps 5 1
  have e6 : ps.drop 6 = (ps.drop 6).take 1 ++ ps.drop 7 := drop_cut ps 6 1
  have e7 : ps.drop 7 = (ps.drop 7).take 1 ++ ps.drop 8 := drop_cut ps 7 1
  have e8 : ps.drop 8 = (ps.drop 8).take 1 ++ ps.drop 9 := drop_cut ps 8 1
  have e9 : ps.drop 9 = (ps.drop 9).take 1 := (List.take_of_length_le (by rw [List.length_drop, hl]; decide)).symm
  exact ⟨⟨a0, a1, a2, a3, a4, a5, a6, a7, a8, a9⟩, e0.trans (by rw [h0, e1, h1, e2, h2, e3, h3, e4, h4, e5, h5, e6, h6, e7, h7, e8, h8, e9, h9]; rfl)⟩
theorem arg_schema {x : AV} (h : TyAV Tryz.prog 24 x) : ∃ s : ST, x = s.av := by
  obtain ⟨ps, h1, h2⟩ := h
  obtain ⟨hl, hf⟩ := ty_fields h1 tyA_24 rfl
  obtain ⟨es, h3, hx⟩ := ty_sl (hf 0 _ _ rfl _ tyA_22) Tryz.underlying22
  rw [cells_of tyA_32] at h3
  obtain ⟨ns, rfl⟩ := list_map (f := NT.cells) fun q hq => ty_node (hx q hq)
  obtain ⟨r, h4, _⟩ := ty_int (hf 1 _ _ rfl _ tyA_3) Tryz.underlying3
  have e0 : ps = (ps.drop 0).take 1 ++ ps.drop 1 := drop_cut ps 0 1
  have e1 : ps.drop 1 = (ps.drop 1).take 1 := (List.take_of_length_le (by rw [List.length_drop, hl]; decide)).symm
  have hp : ps = (ST.mk ns r).cells := e0.trans (by rw [h3, e1, h4]; rfl)
  subst hp
  rcases h2 with ⟨_, rfl⟩ | ⟨h2, _⟩
  · exact ⟨_, rfl⟩
  · exact absurd Tryz.underlying24 (h2 _)

end Go.Proofs.YtmmffaelkoinlaaGreatDoor
