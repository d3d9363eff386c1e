/- jlex.Take, as a contract over plain values. -/
import Derived.Test.YtjdeohgedlhbcaaBa
import Derived.Test.YtjdeohgedlhbcaaTake
namespace Go.Proofs.Ytjdeohgedlhbcaa
open Go.RowKit
set_option linter.unusedVariables false
set_option linter.unusedSimpArgs false

theorem take_told (l : List UInt8) (i : Int) (hl : l.length ≤ 140737488351232) : Told Try.prog 9 [.c (.sl 1 (bytePV l)), .c (.v (.int .i64 i))]
    (.tup [.agg [.c (.v (.int .i64 ((mTake l i).k : Int))), .c (.v (.int .i64 (mTake l i).n)), .c (.v (.string (str (mTake l i).s))), .c (.v (.int .i64 ((mTake l i).at_ : Int))), .c (.v (.int .i64 ((mTake l i).nx : Int)))], .c (.v (.int .i64 ((mTake l i).e : Int)))]) := by
  refine ⟨ent_9, fun W ro vs hro _ hls => ?_⟩
  obtain ⟨v, u, rfl⟩ : ∃ v u, vs = [v, u] := by
    have := hls.1
    match vs with
    | [v, u] => exact ⟨v, u, rfl⟩
    | [] => simp at this
    | [_] => simp at this
    | _ :: _ :: _ :: _ => simp at this
  have hv := hls.2 0 _ v rfl rfl
  have hu := rep_prim (hls.2 1 _ u rfl rfl)
  subst hu
  cases hv with
  | c hp =>
    obtain ⟨a, b, off, c, rfl, h1, h2, h3⟩ := bytes_at hp
    refine (take_any h1 (fun hne => h1.lt hne) h2 hl h3 i).mono ?_
    rintro e W' ⟨rfl, hb⟩
    refine ⟨_, ro, rfl, hb, fun _ h => h, fun k hk => ⟨.inl hk, by have := hro k hk; have := hb.size; omega⟩, ?_, pure_of _ (by simp [AV.pureB, AV.pureL])⟩
    refine .tup (vs := [(mTake l i).val, .int .i64 ((mTake l i).e : Int)]) rfl fun j x v h4 h5 => ?_
    match j with
    | 0 =>
      simp at h4 h5
      subst h4 h5
      refine .agg (vs := [.int .i64 ((mTake l i).k : Int), .int .i64 (mTake l i).n, .string (str (mTake l i).s), .int .i64 ((mTake l i).at_ : Int), .int .i64 ((mTake l i).nx : Int)]) rfl fun j x v h6 h7 => ?_
      match j with
      | 0 => simp at h6 h7; subst h6 h7; exact .c (.v rfl)
      | 1 => simp at h6 h7; subst h6 h7; exact .c (.v rfl)
      | 2 => simp at h6 h7; subst h6 h7; exact .c (.v rfl)
      | 3 => simp at h6 h7; subst h6 h7; exact .c (.v rfl)
      | 4 => simp at h6 h7; subst h6 h7; exact .c (.v rfl)
      | j + 5 => simp at h6
    | 1 => simp at h4 h5; subst h4 h5; exact .c (.v rfl)
    | j + 2 => simp at h4

end Go.Proofs.Ytjdeohgedlhbcaa
