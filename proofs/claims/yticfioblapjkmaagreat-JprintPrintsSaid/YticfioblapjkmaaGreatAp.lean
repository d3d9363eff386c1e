/- Parse, as a contract over plain values. -/
import Derived.Test.YticfioblapjkmaaGreatAt
import Derived.Test.YticfioblapjkmaaGreatJpp
import Derived.Test.YticfioblapjkmaaGreatBa
namespace Go.Proofs.YticfioblapjkmaaGreat
open Go.RowKit
set_option linter.unusedVariables false
set_option linter.unusedSimpArgs false

/-- A tree in memory, as pure cells. -/
theorem jat_rep {W : World} {ok : Nat → Prop} {t : JT} {vs : List Value} (h : JAt W ok t vs) : PRepL W ok t.cells vs := by
  induction h with
  | @mk k n s ks xs iv kv vss hk hi hl hx ih =>
    rw [cells_mk]
    have h5 : ∀ (i : Nat) (vs : List Value), vss[i]? = some vs → vs.length = 5 := by
      intro i vs hv
      have hlt := (List.getElem?_eq_some_iff.1 hv).1
      exact (hx i _ vs (List.getElem?_eq_getElem (show i < xs.length by omega)) hv).five
    refine ⟨rfl, fun j p v h1 h2 => ?_⟩
    match j with
    | 0 => simp at h1 h2; subst h1 h2; exact .v rfl
    | 1 => simp at h1 h2; subst h1 h2; exact .v rfl
    | 2 => simp at h1 h2; subst h1 h2; exact .v rfl
    | 3 =>
      simp at h1 h2
      subst h1 h2
      obtain ⟨⟨hc1, hc2⟩, a, c, rfl, ⟨h3, h4, h5'⟩, h6⟩ := hi
      have hlen : xs.length = (xs.map JT.cells).length := by simp
      rw [hlen]
      refine .sl (vss := vss) (by simpa using h3) h4 h5' (fun hne => ?_) (by simpa using hl) (fun i e he => ?_) h5 (fun i j e vs p v he hvs hp hv => ?_)
      · obtain ⟨b, off, h7, h8, h9⟩ := h6 (by intro e; apply hne; simp [List.eq_nil_of_length_eq_zero e])
        refine ⟨b, off, h7, h8, fun i vs hvs j hj => ?_⟩
        have hlt := (List.getElem?_eq_some_iff.1 hvs).1
        rw [h5 i vs hvs] at hj
        have hf := flatZ h5 hvs
        have := Nat.mul_le_mul_right 5 (show i + 1 ≤ xs.length by omega)
        rw [Nat.add_assoc, h9 (i * 5 + j) (by omega), ← hf, List.getElem?_take_of_lt hj, List.getElem?_drop]
      · rw [List.getElem?_map] at he
        cases hq : xs[i]? with
        | none => rw [hq] at he; simp at he
        | some x => rw [hq] at he; obtain rfl := Option.some.inj he; exact len_cells x
      · rw [List.getElem?_map] at he
        cases hq : xs[i]? with
        | none => rw [hq] at he; simp at he
        | some x => rw [hq] at he; obtain rfl := Option.some.inj he; exact (ih i x vs hq hvs).2 j p v hp hv
    | 4 =>
      simp at h1 h2
      subst h1 h2
      obtain ⟨⟨hc1, hc2⟩, a, c, rfl, ⟨h3, h4, h5'⟩, h6⟩ := hk
      have hlen : ks.length = (ks.map sPV).length := by simp
      rw [hlen]
      refine .sl (vss := ks.map fun s => [strV s]) (by simpa using h3) h4 h5' (fun hne => ?_) (by simp) (fun i e he => ?_) (fun i e he => ?_) (fun i j e vs p v he hvs hp hv => ?_)
      · obtain ⟨b, off, h7, h8, h9⟩ := h6 (by intro e; apply hne; simp [List.eq_nil_of_length_eq_zero e])
        refine ⟨b, off, h7, h8, fun i vs hvs j hj => ?_⟩
        rw [List.getElem?_map] at hvs
        cases hq : ks[i]? with
        | none => rw [hq] at hvs; simp at hvs
        | some s =>
          rw [hq] at hvs
          obtain rfl := Option.some.inj hvs
          simp at hj
          subst hj
          have hlt := (List.getElem?_eq_some_iff.1 hq).1
          rw [Nat.mul_one, Nat.add_zero, h9 i (by omega), List.getElem?_map, hq]
          rfl
      · rw [List.getElem?_map] at he
        cases hq : ks[i]? with
        | none => rw [hq] at he; simp at he
        | some s => rw [hq] at he; obtain rfl := Option.some.inj he; rfl
      · rw [List.getElem?_map] at he
        cases hq : ks[i]? with
        | none => rw [hq] at he; simp at he
        | some s => rw [hq] at he; obtain rfl := Option.some.inj he; rfl
      · rw [List.getElem?_map] at he hvs
        cases hq : ks[i]? with
        | none => rw [hq] at he; simp at he
        | some s =>
          rw [hq] at he hvs
          obtain rfl := Option.some.inj he
          obtain rfl := Option.some.inj hvs
          match j with
          | 0 => simp [sPV] at hp hv; subst hp hv; exact .v rfl
          | j + 1 => simp [sPV] at hp
    | j + 5 => simp at h1
theorem pres_told {f : FuncId} (hE : Enters Tryz.prog f) {l : List UInt8} {T : JT × Nat}
    (hany : ∀ (W : World) (a : Option Addr) (b off c : Nat), BytesAt W a b off l → l.length ≤ c → (a = none → c = 0) → Calls Tryz.prog f #[.slice a l.length c] W (PPost W T)) : Told Tryz.prog f [.c (.sl 1 (bytePV l))] (.tup [T.1.av, .c (.v (.int .i64 (T.2 : Int)))]) := by
  refine ⟨hE, fun W ro vs hro _ hl => ?_⟩
  obtain ⟨v, rfl⟩ : ∃ v, vs = [v] := by
    have := hl.1
    match vs with
    | [v] => exact ⟨v, rfl⟩
    | [] => simp at this
    | _ :: _ :: _ => simp at this
  have hv := hl.2 0 _ v rfl rfl
  cases hv with
  | c hp =>
    obtain ⟨a, b, off, c, rfl, h1, h2, h3⟩ := bytes_at hp
    refine (hany W a b off c h1 h2 h3).mono ?_
    rintro e W' ⟨v0, v1, v2, v3, v4, rfl, hb, hj⟩
    have hr := jat_rep hj
    refine ⟨_, fun k => ro k ∨ (W.heap.size ≤ k ∧ k < W'.heap.size), rfl, hb, fun k hk => .inl hk, fun k hk => ?_, ?_, ?_⟩
    · rcases hk with hk | hk
      · have := hro k hk
        have := hb.size
        exact ⟨.inl hk, by omega⟩
      · exact ⟨.inr hk.1, hk.2⟩
    · refine .tup (vs := [.agg #[v0, v1, v2, v3, v4], .int .i64 (T.2 : Int)]) rfl fun j x v h4 h5 => ?_
      match j with
      | 0 =>
        simp at h4 h5
        subst h4 h5
        refine .agg (vs := [v0, v1, v2, v3, v4]) (by simp [len_cells]) fun j x v h6 h7 => ?_
        rw [List.getElem?_map] at h6
        cases hq : T.1.cells[j]? with
        | none => rw [hq] at h6; simp at h6
        | some p =>
          rw [hq] at h6
          obtain rfl := (Option.some.inj h6).symm
          exact .c ((hr.2 j p v hq h7).map (fun _ _ => rfl) fun k hk => .inr hk)
      | 1 => simp at h4 h5; subst h4 h5; exact .c (.v rfl)
      | j + 2 => simp at h4
    · exact pure_of _ (by simp [AV.pureB, AV.pureL, JT.av, pureL_c])
theorem parse_told (l : List UInt8) (h : l.length ≤ 20000) : Told Tryz.prog 11 [.c (.sl 1 (bytePV l))] (.tup [(resT (mParse l)).1.av, .c (.v (.int .i64 ((resT (mParse l)).2 : Int)))]) :=
  pres_told ent_11 fun W a b off c h1 h2 h3 => parse_any h1 h2 h h3

end Go.Proofs.YticfioblapjkmaaGreat
