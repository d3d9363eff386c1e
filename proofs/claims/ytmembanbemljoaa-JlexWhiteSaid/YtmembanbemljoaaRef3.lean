/- The reference's number: the walk. -/
import Derived.Test.YtmembanbemljoaaRef2
namespace Go.Proofs.Ytmembanbemljoaa
open Go.RowKit
set_option linter.unusedVariables false
set_option linter.unusedSimpArgs false

variable {w : World} {a : Option Addr} {b off c : Nat} {l : List UInt8}
/-- What the reference's number tells. -/
def RNum2 (E : Nat) (M : Int) (e : Nat) (w : World) (r : Ending) (w' : World) : Prop :=
  w = w' ∧ ∃ (n : Int) (q : Int), r = .returned (.tuple #[.int .i64 n, .int .i64 q, .int .i64 (E : Int)]) ∧ (E = 0 → n = M ∧ q = (e : Int))
def RNum (l : List UInt8) (p : Nat) (w : World) (r : Ending) (w' : World) : Prop := RNum2 (mnErr l p) (mnInt l p) (mnEnd l p) w r w'
/-- The ways through the tests behind the digits. -/
def NumWay (m : Nat) (z x : UInt8) (k : Nat) : Prop :=
  (m = 0 ∧ k = 1) ∨ (m ≠ 0 ∧ z = 48 ∧ 1 < m ∧ k = 2) ∨ (m ≠ 0 ∧ (z ≠ 48 ∨ z = 48 ∧ ¬ 1 < m) ∧
    (isLet x = true ∧ x ≠ 101 ∧ x ≠ 69 ∧ k = 3 ∨ isLet x = true ∧ x = 101 ∧ k = 4 ∨ isLet x = true ∧ x = 69 ∧ k = 4 ∨ isLet x = false ∧ x = 46 ∧ k = 4 ∨ isLet x = false ∧ x ≠ 46 ∧ 19 < m ∧ k = 4 ∨ isLet x = false ∧ x ≠ 46 ∧ m ≤ 19 ∧ k = 5))
theorem numWay (m : Nat) (z x : UInt8) : ∃ k, NumWay m z x k := by
  unfold NumWay
  by_cases h1 : m = 0
  · exact ⟨1, .inl ⟨h1, rfl⟩⟩
  by_cases h2 : z = 48 ∧ 1 < m
  · exact ⟨2, .inr (.inl ⟨h1, h2.1, h2.2, rfl⟩)⟩
  have h3 : z ≠ 48 ∨ z = 48 ∧ ¬ 1 < m := by
    by_cases h : z = 48
    · exact .inr ⟨h, fun h' => h2 ⟨h, h'⟩⟩
    · exact .inl h
  cases hl : isLet x with
  | true =>
    by_cases h4 : x = 101
    · exact ⟨4, .inr (.inr ⟨h1, h3, .inr (.inl ⟨rfl, h4, rfl⟩)⟩)⟩
    by_cases h5 : x = 69
    · exact ⟨4, .inr (.inr ⟨h1, h3, .inr (.inr (.inl ⟨rfl, h5, rfl⟩))⟩)⟩
    exact ⟨3, .inr (.inr ⟨h1, h3, .inl ⟨rfl, h4, h5, rfl⟩⟩)⟩
  | false =>
    by_cases h4 : x = 46
    · exact ⟨4, .inr (.inr ⟨h1, h3, .inr (.inr (.inr (.inl ⟨rfl, h4, rfl⟩)))⟩)⟩
    by_cases h5 : 19 < m
    · exact ⟨4, .inr (.inr ⟨h1, h3, .inr (.inr (.inr (.inr (.inl ⟨rfl, h4, h5, rfl⟩))))⟩)⟩
    exact ⟨5, .inr (.inr ⟨h1, h3, .inr (.inr (.inr (.inr (.inr ⟨rfl, h4, by omega, rfl⟩))))⟩)⟩
theorem u8_lit {c : UInt8} {n : Nat} (hn : n < 256) : (c = n.toUInt8) ↔ (((c.toNat : Int) == (n : Int)) = true) := by
  constructor
  · rintro rfl
    simp [Nat.mod_eq_of_lt hn]
  · intro h
    have : c.toNat = n := by
      have := beq_iff_eq.1 h
      omega
    rw [← this]
    simp

set_option maxRecDepth 100000 in
set_option maxHeartbeats 8000000 in
theorem rnumber_any (hb : BytesAt w a b off l) (hbig : l.length ≤ 1000000) (p : Nat) (hp : p ≤ l.length) :
    Calls Try.prog 47 #[.slice a l.length c, .int .i64 (p : Int)] w (RNum l p w) := by
  have herr := mnErr_ref l p
  have hend : mnEnd l p = mnFrom l p + dcount l (mnFrom l p) := rfl
  have hval : mnVal l p = dval ((l.drop (mnFrom l p)).take (dcount l (mnFrom l p))) := rfl
  have hint : mnInt l p = if byteAt l p = 45 then -(mnVal l p : Int) else (mnVal l p : Int) := rfl
  have hq : (byteAt l p = 45 ∧ mnFrom l p = p + 1) ∨ (byteAt l p ≠ 45 ∧ mnFrom l p = p) := by
    unfold mnFrom
    by_cases h : byteAt l p = 45
    · rw [if_pos h]; exact .inl ⟨h, rfl⟩
    · rw [if_neg h]; exact .inr ⟨h, rfl⟩
  have hfl : mnFrom l p ≤ l.length := by
    rcases hq with ⟨h, h'⟩ | ⟨h, h'⟩
    · have := byteAt_in (l := l) (p := p) (by rw [h]; decide)
      omega
    · omega
  obtain ⟨q, hqq⟩ : ∃ q, q = mnFrom l p := ⟨_, rfl⟩
  rw [← hqq] at herr hend hval hq hfl
  have hle := dcount_le l q hfl
  have hdig := dcount_dig l q
  have hstop := dcount_end l q
  have hlt10 := dval_take_lt l q
  obtain ⟨m, hm⟩ : ∃ m, m = dcount l q := ⟨_, rfl⟩
  rw [← hm] at herr hend hval hle hdig hstop hlt10
  unfold RNum
  rw [hend] at herr
  obtain ⟨V, hV⟩ : ∃ V, V = mnVal l p := ⟨_, rfl⟩
  obtain ⟨E, hE⟩ : ∃ E, E = mnErr l p := ⟨_, rfl⟩
  rw [← hV] at herr hval hint
  rw [← hE] at herr ⊢
  rw [hend]
  have hat := Lib.hid fun w i (hb : BytesAt w a b off l) => rat_any (c := c) hb i
  have hidx := fun (k : Int) (W : World) => hb.idx l.length c rfl k W
  have hcl := Lib.hid hb.2
  obtain ⟨k, hk⟩ := numWay m (byteAt l q) (byteAt l (q + m))
  replace herr := Lib.hid herr
  replace hint := Lib.hid hint
  replace hval := Lib.hid hval
  replace hdig := Lib.hid hdig
  replace hstop := Lib.hid hstop
  replace hlt10 := Lib.hid hlt10
  replace hk := Lib.hid hk
  replace hb := Lib.hid hb
  clear hqq hm hV hE hend
  rcases hq with ⟨hmi, hq⟩ | ⟨hmi, hq⟩
  · have h45 : (((byteAt l p).toNat : Int) == 45) = true := by rw [hmi]; rfl
    have hpq : (p : Int) + 1 = (q : Int) := by omega
    replace hmi := Lib.hid hmi
    clear hq
    go_enter Try.func47, Try.ntmps47
    go_wp2_with (first | (go_at_call 70; refine (hat.out _ _ hb.out).mono ?_; rintro r w' ⟨rfl, rfl⟩))
    go_loop [1] (fun t => ∃ j : Nat, j ≤ m ∧ t = .int .i64 (((q + j : Nat) : Int))) (fun t => l.length - (intOf t).toNat)
    case atStart => exact ⟨0, Nat.zero_le _, rfl⟩
    case round =>
      obtain ⟨j, hj, rfl⟩ := hrel
      by_cases hjm : j < m
      · obtain ⟨h1, h2⟩ := hdig.out j hjm
        obtain ⟨i, hi⟩ : ∃ i, i = q + j := ⟨_, rfl⟩
        rw [← hi] at h1 h2 ⊢
        replace hi := Lib.hid hi
        go_wp2_with (first | (go_at_call 70; refine (hat.out _ _ hb.out).mono ?_; rintro r w' ⟨rfl, rfl⟩) | (go_at_call 46; refine (rdigit_any _ _).mono ?_; rintro r w' ⟨rfl, rfl⟩) | (go_at_call 75; refine (rletter_any _ _).mono ?_; rintro r w' ⟨rfl, rfl⟩))
        go_round
        case rel => exact ⟨j + 1, by omega, by have := hi.out; congr 1; omega⟩
        case measure => have := hi.out; simp [intOf]; omega
      · obtain rfl : j = m := by omega
        have hst := hstop.out
        obtain ⟨i, hi⟩ : ∃ i, i = q + j := ⟨_, rfl⟩
        rw [← hi] at hst hk herr hle ⊢
        have hidxq := fun (h : q < l.length) W => hidx (q : Int) W (by omega) (by omega)
        rw [Int.toNat_natCast] at hidxq
        have hclq := hcl.out q
        have e0 : l[q]?.getD 0 = byteAt l q := rfl
        rw [e0] at hclq
        have hdq := fun h => (hdig.out 0 h).2
        have hk' := hk.out
        unfold NumWay at hk'
        have hx256 := (byteAt l i).toNat_lt
        obtain ⟨x, hx⟩ : ∃ x, x = byteAt l i := ⟨_, rfl⟩
        rw [← hx] at hk' hst herr hx256
        have hatx := Lib.hid (rat_any (c := c) hb.out i)
        rw [← hx] at hatx
        clear hx
        replace hat := hatx
        rcases hk' with ⟨hm0, rfl⟩ | ⟨hm0, hz, hm1, rfl⟩ | ⟨hm0, hz, hw⟩
        · have hqi : ((i : Int) == (q : Int)) = true := by have := hi; simp; omega
          have hE : E = 20 := by have := herr.out; rwa [if_pos hm0] at this
          replace hi := Lib.hid hi
          subst hE
          go_wp2_with (first | (go_at_call 70; refine hat.out.mono ?_; rintro r w' ⟨rfl, rfl⟩) | (go_at_call 46; refine (rdigit_any x _).mono ?_; rintro r w' ⟨rfl, rfl⟩) | (go_at_call 75; refine (rletter_any x _).mono ?_; rintro r w' ⟨rfl, rfl⟩))
          go_ret3
          exact ⟨rfl, _, _, rfl, fun h => by simp at h⟩
        · have hqi : ((i : Int) == (q : Int)) = false := by have := hi; simp; omega
          have hE : E = 20 := by have := herr.out; rwa [if_neg hm0, if_pos ⟨hz, hm1⟩] at this
          have hql := hdq (by omega)
          have hi1 := hidxq (by omega)
          have hc1 := hclq (by omega)
          have h48 : (((byteAt l q).toNat : Int) == 48) = true := by rw [hz]; rfl
          have hgt : (q : Int) + 1 < (i : Int) := by have := hi; omega
          replace hi := Lib.hid hi
          replace hz := Lib.hid hz
          replace hm0 := Lib.hid hm0
          subst hE
          clear hidx hidxq hclq hdq
          go_wp2_with (first | (go_at_call 70; refine hat.out.mono ?_; rintro r w' ⟨rfl, rfl⟩) | (go_at_call 46; refine (rdigit_any x _).mono ?_; rintro r w' ⟨rfl, rfl⟩) | (go_at_call 75; refine (rletter_any x _).mono ?_; rintro r w' ⟨rfl, rfl⟩))
          go_ret3
          exact ⟨rfl, _, _, rfl, fun h => by simp at h⟩
        · have hqi : ((i : Int) == (q : Int)) = false := by have := hi; simp; omega
          have hE0 := herr.out
          have hz2 : ¬ (byteAt l q = 48 ∧ 1 < j) := by rintro ⟨h1, h2⟩; rcases hz with h | h; exact h h1; exact h.2 h2
          rw [if_neg hm0, if_neg hz2] at hE0
          have hql := hdq (by omega)
          have hi1 := hidxq (by omega)
          have hc1 := hclq (by omega)
          have hgt : j = 1 → (i : Int) = (q : Int) + 1 := by intro h; omega
          have hsub : (i : Int) - (q : Int) = (j : Int) := by omega
          have hz3 : (((byteAt l q).toNat : Int) == 48) = false ∨ ((((byteAt l q).toNat : Int) == 48) = true ∧ j = 1) := by
            by_cases h : byteAt l q = 48
            · exact .inr ⟨by rw [h]; rfl, by have h9 : ¬ 1 < j := fun h' => hz2 ⟨h, h'⟩; omega⟩
            · left
              cases h' : (((byteAt l q).toNat : Int) == 48) with
              | false => rfl
              | true => exact absurd ((u8_lit (n := 48) (by decide)).2 h') h
          have hneq : ∀ n : Nat, n < 256 → x ≠ n.toUInt8 → (((x.toNat : Int) == (n : Int)) = false ∧ ((x.toNat : Int) != (n : Int)) = true) := by
            intro n hn h
            have : ((x.toNat : Int) == (n : Int)) = false := by
              cases h' : ((x.toNat : Int) == (n : Int)) with
              | false => rfl
              | true => exact absurd ((u8_lit hn).2 h') h
            exact ⟨this, by simp only [bne, this]; rfl⟩
          have hxeq : ∀ n : Nat, n < 256 → x = n.toUInt8 → (((x.toNat : Int) == (n : Int)) = true ∧ ((x.toNat : Int) != (n : Int)) = false) := by
            intro n hn h
            have := (u8_lit hn).1 h
            exact ⟨this, by simp only [bne, this]; rfl⟩
          have hway : (E = 20 ∧ isLet x = true ∧ ((x.toNat : Int) != 101) = true ∧ ((x.toNat : Int) != 69) = true) ∨
              (E = 22 ∧ isLet x = true ∧ ((x.toNat : Int) == 46) = false ∧ ((x.toNat : Int) != 101) = false) ∨
              (E = 22 ∧ isLet x = true ∧ ((x.toNat : Int) == 46) = false ∧ ((x.toNat : Int) != 101) = true ∧ ((x.toNat : Int) != 69) = false) ∨
              (E = 22 ∧ isLet x = false ∧ ((x.toNat : Int) == 46) = true) ∨
              (E = 22 ∧ isLet x = false ∧ ((x.toNat : Int) == 46) = false ∧ 19 < (j : Int)) ∨
              (E = (if top63 < V ∨ byteAt l p ≠ 45 ∧ V = top63 then 22 else 0) ∧ isLet x = false ∧ ((x.toNat : Int) == 46) = false ∧ ¬ 19 < (j : Int)) := by
            rcases hw with ⟨a1, a2, a3, -⟩ | ⟨a1, a2, -⟩ | ⟨a1, a2, -⟩ | ⟨a1, a2, -⟩ | ⟨a1, a2, a3, -⟩ | ⟨a1, a2, a3, -⟩
            · rw [if_pos ⟨a1, a2, a3⟩] at hE0
              exact .inl ⟨hE0, a1, (hneq 101 (by decide) a2).2, (hneq 69 (by decide) a3).2⟩
            · rw [if_neg (fun h => h.2.1 a2)] at hE0
              rw [if_pos (.inr (.inl a1))] at hE0
              exact .inr (.inl ⟨hE0, a1, (hneq 46 (by decide) (by rw [a2]; decide)).1, (hxeq 101 (by decide) a2).2⟩)
            · rw [if_neg (fun h => h.2.2 a2)] at hE0
              rw [if_pos (.inr (.inl a1))] at hE0
              exact .inr (.inr (.inl ⟨hE0, a1, (hneq 46 (by decide) (by rw [a2]; decide)).1, (hneq 101 (by decide) (by rw [a2]; decide)).2, (hxeq 69 (by decide) a2).2⟩))
            · have hn : ¬ (isLet x = true ∧ x ≠ 101 ∧ x ≠ 69) := fun h => by rw [a1] at h; exact Bool.false_ne_true h.1
              rw [if_neg hn] at hE0
              rw [if_pos (.inl a2)] at hE0
              exact .inr (.inr (.inr (.inl ⟨hE0, a1, (hxeq 46 (by decide) a2).1⟩)))
            · have hn : ¬ (isLet x = true ∧ x ≠ 101 ∧ x ≠ 69) := fun h => by rw [a1] at h; exact Bool.false_ne_true h.1
              rw [if_neg hn] at hE0
              rw [if_pos (.inr (.inr a3))] at hE0
              exact .inr (.inr (.inr (.inr (.inl ⟨hE0, a1, (hneq 46 (by decide) a2).1, by omega⟩))))
            · have hn : ¬ (isLet x = true ∧ x ≠ 101 ∧ x ≠ 69) := fun h => by rw [a1] at h; exact Bool.false_ne_true h.1
              have hn2 : ¬ (x = 46 ∨ isLet x = true ∨ 19 < j) := by
                rintro (h | h | h)
                · exact a2 h
                · rw [a1] at h; exact Bool.false_ne_true h
                · omega
              rw [if_neg hn] at hE0
              rw [if_neg hn2] at hE0
              exact .inr (.inr (.inr (.inr (.inr ⟨hE0, a1, (hneq 46 (by decide) a2).1, by omega⟩))))
          have hix2 := Lib.hid fun (z : Nat) (h : z < l.length) W => (by have := hidx (z : Int) W (by omega) (by omega); rwa [Int.toNat_natCast] at this : (Instr.indexAt 22 (.slice a l.length c) (.int .i64 (z : Int))).run Try.prog W = .ok (.pointer (some ⟨b, off + z, none⟩)) W)
          have hcl2 : ∀ z : Nat, z < l.length → w.cell? ⟨b, off + z, none⟩ = some (.int .u8 ((byteAt l z).toNat : Int)) := fun z h => hcl.out z h
          replace hcl2 := Lib.hid hcl2
          clear hw hk hE0 hz2 hneq hxeq hidxq hclq hdq e0 herr hz hidx hatx
          replace hi := Lib.hid hi
          replace hm0 := Lib.hid hm0
          rcases hway with ⟨hE, w1, w2, w3⟩ | ⟨hE, w1, w2, w3⟩ | ⟨hE, w1, w2, w3, w4⟩ | ⟨hE, w1, w2⟩ | ⟨hE, w1, w2, w3⟩ | ⟨hE, w1, w2, w3⟩
          case inr.inr.inr.inr.inr =>
            have hj19 : j ≤ 19 := by omega
            rcases hz3 with hz3 | ⟨hz3, hj1⟩
            · clear hgt
              go_wp2_with (first | (go_at_call 70; refine hat.out.mono ?_; rintro r w' ⟨rfl, rfl⟩) | (go_at_call 46; refine (rdigit_any x _).mono ?_; rintro r w' ⟨rfl, rfl⟩) | (go_at_call 75; refine (rletter_any x _).mono ?_; rintro r w' ⟨rfl, rfl⟩))
              go_loop [9, 10] (fun u t => ∃ k : Nat, k ≤ j ∧ t = .int .i64 ((q + k : Nat) : Int) ∧ u = .int .u64 (dval ((l.drop q).take k) : Int)) (fun _ t => l.length - (intOf t).toNat)
              case atStart => exact ⟨0, Nat.zero_le _, rfl, rfl⟩
              case round =>
                obtain ⟨k, hk, rfl, rfl⟩ := hrel
                have hii := hi.out
                by_cases hkj : k < j
                · obtain ⟨d1, d2⟩ := hdig.out k hkj
                  have d3 := isDig_range d1
                  have d4 := Lib.hid (dval_next l q k d2)
                  have d5 := hlt10.out k hk
                  have d6 : 10 ^ k ≤ 10 ^ 18 := Nat.pow_le_pow_right (by omega) (by omega)
                  have d7 := hix2.out (q + k) d2
                  have d8 := hcl2.out (q + k) d2
                  obtain ⟨P, hP⟩ : ∃ P, P = dval ((l.drop q).take k) := ⟨_, rfl⟩
                  rw [← hP] at d4 d5 ⊢
                  have d9 : P < 1000000000000000000 := by omega
                  obtain ⟨z, hz⟩ : ∃ z, z = q + k := ⟨_, rfl⟩
                  obtain ⟨y, hy⟩ : ∃ y, y = (byteAt l (q + k)).toNat := ⟨_, rfl⟩
                  rw [← hy] at d3 d4 d8
                  rw [← hz] at d7 d8 d2 ⊢
                  have hzi : (z : Int) < (i : Int) := by omega
                  clear d5 d6 d1 hP hy hii
                  replace hz := Lib.hid hz
                  go_wp2_with fail
                  go_round
                  case rel => exact ⟨k + 1, by omega, by have := hz.out; congr 1; omega, by rw [d4.out]; congr 1; omega⟩
                  case measure => have := hz.out; simp [intOf]; omega
                · obtain rfl : k = j := by omega
                  have hV := hval.out
                  rw [← hV, ← hii]
                  have hgtd : V ≤ top63 ∨ top63 < V := by omega
                  unfold top63 at hgtd hE
                  have hmi2 := hmi.out
                  have hin := hint.out
                  rcases hgtd with hg | hg
                  · have g1 : decide ((9223372036854775808 : Int) < (V : Int)) = false := by simp; omega
                    rw [if_neg (by rintro (h | h); omega; exact h.1 hmi2)] at hE
                    rw [if_pos hmi2] at hin
                    replace hin := Lib.hid hin
                    subst hE
                    clear hii hV hmi2
                    obtain ⟨Y, hY⟩ : ∃ Y, Y = (V : Int) := ⟨_, rfl⟩
                    rw [← hY] at g1 hin ⊢
                    have hY0 : 0 ≤ Y ∧ Y ≤ 9223372036854775808 := by omega
                    clear hY
                    have h0 : 0 < Y ∨ Y ≤ 0 := by omega
                    rcases h0 with h0 | h0
                    · by_cases he : Y = 9223372036854775808
                      · have g2 : (Y == 9223372036854775808) = true := by simpa using he
                        replace he := Lib.hid he
                        go_wp2_with fail
                        go_ret3
                        exact ⟨rfl, _, _, rfl, fun _ => ⟨by rw [hin.out]; omega, by have := hi.out; omega⟩⟩
                      · have g2 : (Y == 9223372036854775808) = false := by simpa using he
                        replace he := Lib.hid he
                        go_wp2_with fail
                        go_ret3
                        exact ⟨rfl, _, _, rfl, fun _ => ⟨by rw [hin.out]; omega, by have := hi.out; omega⟩⟩
                    · obtain rfl : Y = 0 := by omega
                      go_wp2_with fail
                      go_ret3
                      exact ⟨rfl, _, _, rfl, fun _ => ⟨by rw [hin.out]; first | rfl | decide | simp [wrap64, IntKind.wrap, IntKind.bits, IntKind.signed], by have := hi.out; omega⟩⟩
                  · have g1 : decide ((9223372036854775808 : Int) < (V : Int)) = true := by simp; omega
                    rw [if_pos (.inl hg)] at hE
                    subst hE
                    clear hii hV hmi2 hin
                    replace hg := Lib.hid hg
                    go_wp2_with fail
                    go_ret3
                    first
                      | exact ⟨rfl, _, _, rfl, fun h => by simp at h⟩
                      | exact ⟨rfl, _, _, rfl⟩
            · have hg2 : decide ((q : Int) + 1 < (i : Int)) = false := by have := hgt hj1; simp; omega
              clear hgt
              replace hj1 := Lib.hid hj1
              go_wp2_with (first | (go_at_call 70; refine hat.out.mono ?_; rintro r w' ⟨rfl, rfl⟩) | (go_at_call 46; refine (rdigit_any x _).mono ?_; rintro r w' ⟨rfl, rfl⟩) | (go_at_call 75; refine (rletter_any x _).mono ?_; rintro r w' ⟨rfl, rfl⟩))
              go_loop [9, 10] (fun u t => ∃ k : Nat, k ≤ j ∧ t = .int .i64 ((q + k : Nat) : Int) ∧ u = .int .u64 (dval ((l.drop q).take k) : Int)) (fun _ t => l.length - (intOf t).toNat)
              case atStart => exact ⟨0, Nat.zero_le _, rfl, rfl⟩
              case round =>
                obtain ⟨k, hk, rfl, rfl⟩ := hrel
                have hii := hi.out
                by_cases hkj : k < j
                · obtain ⟨d1, d2⟩ := hdig.out k hkj
                  have d3 := isDig_range d1
                  have d4 := Lib.hid (dval_next l q k d2)
                  have d5 := hlt10.out k hk
                  have d6 : 10 ^ k ≤ 10 ^ 18 := Nat.pow_le_pow_right (by omega) (by omega)
                  have d7 := hix2.out (q + k) d2
                  have d8 := hcl2.out (q + k) d2
                  obtain ⟨P, hP⟩ : ∃ P, P = dval ((l.drop q).take k) := ⟨_, rfl⟩
                  rw [← hP] at d4 d5 ⊢
                  have d9 : P < 1000000000000000000 := by omega
                  obtain ⟨z, hz⟩ : ∃ z, z = q + k := ⟨_, rfl⟩
                  obtain ⟨y, hy⟩ : ∃ y, y = (byteAt l (q + k)).toNat := ⟨_, rfl⟩
                  rw [← hy] at d3 d4 d8
                  rw [← hz] at d7 d8 d2 ⊢
                  have hzi : (z : Int) < (i : Int) := by omega
                  clear d5 d6 d1 hP hy hii
                  replace hz := Lib.hid hz
                  go_wp2_with fail
                  go_round
                  case rel => exact ⟨k + 1, by omega, by have := hz.out; congr 1; omega, by rw [d4.out]; congr 1; omega⟩
                  case measure => have := hz.out; simp [intOf]; omega
                · obtain rfl : k = j := by omega
                  have hV := hval.out
                  rw [← hV, ← hii]
                  have hgtd : V ≤ top63 ∨ top63 < V := by omega
                  unfold top63 at hgtd hE
                  have hmi2 := hmi.out
                  have hin := hint.out
                  rcases hgtd with hg | hg
                  · have g1 : decide ((9223372036854775808 : Int) < (V : Int)) = false := by simp; omega
                    rw [if_neg (by rintro (h | h); omega; exact h.1 hmi2)] at hE
                    rw [if_pos hmi2] at hin
                    replace hin := Lib.hid hin
                    subst hE
                    clear hii hV hmi2
                    obtain ⟨Y, hY⟩ : ∃ Y, Y = (V : Int) := ⟨_, rfl⟩
                    rw [← hY] at g1 hin ⊢
                    have hY0 : 0 ≤ Y ∧ Y ≤ 9223372036854775808 := by omega
                    clear hY
                    have h0 : 0 < Y ∨ Y ≤ 0 := by omega
                    rcases h0 with h0 | h0
                    · by_cases he : Y = 9223372036854775808
                      · have g2 : (Y == 9223372036854775808) = true := by simpa using he
                        replace he := Lib.hid he
                        go_wp2_with fail
                        go_ret3
                        exact ⟨rfl, _, _, rfl, fun _ => ⟨by rw [hin.out]; omega, by have := hi.out; omega⟩⟩
                      · have g2 : (Y == 9223372036854775808) = false := by simpa using he
                        replace he := Lib.hid he
                        go_wp2_with fail
                        go_ret3
                        exact ⟨rfl, _, _, rfl, fun _ => ⟨by rw [hin.out]; omega, by have := hi.out; omega⟩⟩
                    · obtain rfl : Y = 0 := by omega
                      go_wp2_with fail
                      go_ret3
                      exact ⟨rfl, _, _, rfl, fun _ => ⟨by rw [hin.out]; first | rfl | decide | simp [wrap64, IntKind.wrap, IntKind.bits, IntKind.signed], by have := hi.out; omega⟩⟩
                  · have g1 : decide ((9223372036854775808 : Int) < (V : Int)) = true := by simp; omega
                    rw [if_pos (.inl hg)] at hE
                    subst hE
                    clear hii hV hmi2 hin
                    replace hg := Lib.hid hg
                    go_wp2_with fail
                    go_ret3
                    first
                      | exact ⟨rfl, _, _, rfl, fun h => by simp at h⟩
                      | exact ⟨rfl, _, _, rfl⟩
          all_goals
            subst hE
            rcases hz3 with hz3 | ⟨hz3, hj1⟩
            · clear hgt
              go_wp2_with (first | (go_at_call 70; refine hat.out.mono ?_; rintro r w' ⟨rfl, rfl⟩) | (go_at_call 46; refine (rdigit_any x _).mono ?_; rintro r w' ⟨rfl, rfl⟩) | (go_at_call 75; refine (rletter_any x _).mono ?_; rintro r w' ⟨rfl, rfl⟩))
              go_ret3
              exact ⟨rfl, _, _, rfl, fun h => by simp at h⟩
            · have hg2 : decide ((q : Int) + 1 < (i : Int)) = false := by have := hgt hj1; simp; omega
              clear hgt
              replace hj1 := Lib.hid hj1
              go_wp2_with (first | (go_at_call 70; refine hat.out.mono ?_; rintro r w' ⟨rfl, rfl⟩) | (go_at_call 46; refine (rdigit_any x _).mono ?_; rintro r w' ⟨rfl, rfl⟩) | (go_at_call 75; refine (rletter_any x _).mono ?_; rintro r w' ⟨rfl, rfl⟩))
              go_ret3
              exact ⟨rfl, _, _, rfl, fun h => by simp at h⟩
  · have h45 : (((byteAt l p).toNat : Int) == 45) = false := by
      cases h : (((byteAt l p).toNat : Int) == 45) with
      | false => rfl
      | true => exact absurd ((u8_lit (n := 45) (by decide)).2 h) hmi
    replace hmi := Lib.hid hmi
    rw [show (p : Int) = (q : Int) from by omega]
    rw [← hq] at h45
    replace hq := Lib.hid hq
    go_enter Try.func47, Try.ntmps47
    go_wp2_with (first | (go_at_call 70; refine (hat.out _ _ hb.out).mono ?_; rintro r w' ⟨rfl, rfl⟩))
    go_loop [1] (fun t => ∃ j : Nat, j ≤ m ∧ t = .int .i64 (((q + j : Nat) : Int))) (fun t => l.length - (intOf t).toNat)
    case atStart => exact ⟨0, Nat.zero_le _, rfl⟩
    case round =>
      obtain ⟨j, hj, rfl⟩ := hrel
      by_cases hjm : j < m
      · obtain ⟨h1, h2⟩ := hdig.out j hjm
        obtain ⟨i, hi⟩ : ∃ i, i = q + j := ⟨_, rfl⟩
        rw [← hi] at h1 h2 ⊢
        replace hi := Lib.hid hi
        go_wp2_with (first | (go_at_call 70; refine (hat.out _ _ hb.out).mono ?_; rintro r w' ⟨rfl, rfl⟩) | (go_at_call 46; refine (rdigit_any _ _).mono ?_; rintro r w' ⟨rfl, rfl⟩) | (go_at_call 75; refine (rletter_any _ _).mono ?_; rintro r w' ⟨rfl, rfl⟩))
        go_round
        case rel => exact ⟨j + 1, by omega, by have := hi.out; congr 1; omega⟩
        case measure => have := hi.out; simp [intOf]; omega
      · obtain rfl : j = m := by omega
        have hst := hstop.out
        obtain ⟨i, hi⟩ : ∃ i, i = q + j := ⟨_, rfl⟩
        rw [← hi] at hst hk herr hle ⊢
        have hidxq := fun (h : q < l.length) W => hidx (q : Int) W (by omega) (by omega)
        rw [Int.toNat_natCast] at hidxq
        have hclq := hcl.out q
        have e0 : l[q]?.getD 0 = byteAt l q := rfl
        rw [e0] at hclq
        have hdq := fun h => (hdig.out 0 h).2
        have hk' := hk.out
        unfold NumWay at hk'
        have hx256 := (byteAt l i).toNat_lt
        obtain ⟨x, hx⟩ : ∃ x, x = byteAt l i := ⟨_, rfl⟩
        rw [← hx] at hk' hst herr hx256
        have hatx := Lib.hid (rat_any (c := c) hb.out i)
        rw [← hx] at hatx
        clear hx
        replace hat := hatx
        rcases hk' with ⟨hm0, rfl⟩ | ⟨hm0, hz, hm1, rfl⟩ | ⟨hm0, hz, hw⟩
        · have hqi : ((i : Int) == (q : Int)) = true := by have := hi; simp; omega
          have hE : E = 20 := by have := herr.out; rwa [if_pos hm0] at this
          replace hi := Lib.hid hi
          subst hE
          go_wp2_with (first | (go_at_call 70; refine hat.out.mono ?_; rintro r w' ⟨rfl, rfl⟩) | (go_at_call 46; refine (rdigit_any x _).mono ?_; rintro r w' ⟨rfl, rfl⟩) | (go_at_call 75; refine (rletter_any x _).mono ?_; rintro r w' ⟨rfl, rfl⟩))
          go_ret3
          exact ⟨rfl, _, _, rfl, fun h => by simp at h⟩
        · have hqi : ((i : Int) == (q : Int)) = false := by have := hi; simp; omega
          have hE : E = 20 := by have := herr.out; rwa [if_neg hm0, if_pos ⟨hz, hm1⟩] at this
          have hql := hdq (by omega)
          have hi1 := hidxq (by omega)
          have hc1 := hclq (by omega)
          have h48 : (((byteAt l q).toNat : Int) == 48) = true := by rw [hz]; rfl
          have hgt : (q : Int) + 1 < (i : Int) := by have := hi; omega
          replace hi := Lib.hid hi
          replace hz := Lib.hid hz
          replace hm0 := Lib.hid hm0
          subst hE
          clear hidx hidxq hclq hdq
          go_wp2_with (first | (go_at_call 70; refine hat.out.mono ?_; rintro r w' ⟨rfl, rfl⟩) | (go_at_call 46; refine (rdigit_any x _).mono ?_; rintro r w' ⟨rfl, rfl⟩) | (go_at_call 75; refine (rletter_any x _).mono ?_; rintro r w' ⟨rfl, rfl⟩))
          go_ret3
          exact ⟨rfl, _, _, rfl, fun h => by simp at h⟩
        · have hqi : ((i : Int) == (q : Int)) = false := by have := hi; simp; omega
          have hE0 := herr.out
          have hz2 : ¬ (byteAt l q = 48 ∧ 1 < j) := by rintro ⟨h1, h2⟩; rcases hz with h | h; exact h h1; exact h.2 h2
          rw [if_neg hm0, if_neg hz2] at hE0
          have hql := hdq (by omega)
          have hi1 := hidxq (by omega)
          have hc1 := hclq (by omega)
          have hgt : j = 1 → (i : Int) = (q : Int) + 1 := by intro h; omega
          have hsub : (i : Int) - (q : Int) = (j : Int) := by omega
          have hz3 : (((byteAt l q).toNat : Int) == 48) = false ∨ ((((byteAt l q).toNat : Int) == 48) = true ∧ j = 1) := by
            by_cases h : byteAt l q = 48
            · exact .inr ⟨by rw [h]; rfl, by have h9 : ¬ 1 < j := fun h' => hz2 ⟨h, h'⟩; omega⟩
            · left
              cases h' : (((byteAt l q).toNat : Int) == 48) with
              | false => rfl
              | true => exact absurd ((u8_lit (n := 48) (by decide)).2 h') h
          have hneq : ∀ n : Nat, n < 256 → x ≠ n.toUInt8 → (((x.toNat : Int) == (n : Int)) = false ∧ ((x.toNat : Int) != (n : Int)) = true) := by
            intro n hn h
            have : ((x.toNat : Int) == (n : Int)) = false := by
              cases h' : ((x.toNat : Int) == (n : Int)) with
              | false => rfl
              | true => exact absurd ((u8_lit hn).2 h') h
            exact ⟨this, by simp only [bne, this]; rfl⟩
          have hxeq : ∀ n : Nat, n < 256 → x = n.toUInt8 → (((x.toNat : Int) == (n : Int)) = true ∧ ((x.toNat : Int) != (n : Int)) = false) := by
            intro n hn h
            have := (u8_lit hn).1 h
            exact ⟨this, by simp only [bne, this]; rfl⟩
          have hway : (E = 20 ∧ isLet x = true ∧ ((x.toNat : Int) != 101) = true ∧ ((x.toNat : Int) != 69) = true) ∨
              (E = 22 ∧ isLet x = true ∧ ((x.toNat : Int) == 46) = false ∧ ((x.toNat : Int) != 101) = false) ∨
              (E = 22 ∧ isLet x = true ∧ ((x.toNat : Int) == 46) = false ∧ ((x.toNat : Int) != 101) = true ∧ ((x.toNat : Int) != 69) = false) ∨
              (E = 22 ∧ isLet x = false ∧ ((x.toNat : Int) == 46) = true) ∨
              (E = 22 ∧ isLet x = false ∧ ((x.toNat : Int) == 46) = false ∧ 19 < (j : Int)) ∨
              (E = (if top63 < V ∨ byteAt l p ≠ 45 ∧ V = top63 then 22 else 0) ∧ isLet x = false ∧ ((x.toNat : Int) == 46) = false ∧ ¬ 19 < (j : Int)) := by
            rcases hw with ⟨a1, a2, a3, -⟩ | ⟨a1, a2, -⟩ | ⟨a1, a2, -⟩ | ⟨a1, a2, -⟩ | ⟨a1, a2, a3, -⟩ | ⟨a1, a2, a3, -⟩
            · rw [if_pos ⟨a1, a2, a3⟩] at hE0
              exact .inl ⟨hE0, a1, (hneq 101 (by decide) a2).2, (hneq 69 (by decide) a3).2⟩
            · rw [if_neg (fun h => h.2.1 a2)] at hE0
              rw [if_pos (.inr (.inl a1))] at hE0
              exact .inr (.inl ⟨hE0, a1, (hneq 46 (by decide) (by rw [a2]; decide)).1, (hxeq 101 (by decide) a2).2⟩)
            · rw [if_neg (fun h => h.2.2 a2)] at hE0
              rw [if_pos (.inr (.inl a1))] at hE0
              exact .inr (.inr (.inl ⟨hE0, a1, (hneq 46 (by decide) (by rw [a2]; decide)).1, (hneq 101 (by decide) (by rw [a2]; decide)).2, (hxeq 69 (by decide) a2).2⟩))
            · have hn : ¬ (isLet x = true ∧ x ≠ 101 ∧ x ≠ 69) := fun h => by rw [a1] at h; exact Bool.false_ne_true h.1
              rw [if_neg hn] at hE0
              rw [if_pos (.inl a2)] at hE0
              exact .inr (.inr (.inr (.inl ⟨hE0, a1, (hxeq 46 (by decide) a2).1⟩)))
            · have hn : ¬ (isLet x = true ∧ x ≠ 101 ∧ x ≠ 69) := fun h => by rw [a1] at h; exact Bool.false_ne_true h.1
              rw [if_neg hn] at hE0
              rw [if_pos (.inr (.inr a3))] at hE0
              exact .inr (.inr (.inr (.inr (.inl ⟨hE0, a1, (hneq 46 (by decide) a2).1, by omega⟩))))
            · have hn : ¬ (isLet x = true ∧ x ≠ 101 ∧ x ≠ 69) := fun h => by rw [a1] at h; exact Bool.false_ne_true h.1
              have hn2 : ¬ (x = 46 ∨ isLet x = true ∨ 19 < j) := by
                rintro (h | h | h)
                · exact a2 h
                · rw [a1] at h; exact Bool.false_ne_true h
                · omega
              rw [if_neg hn] at hE0
              rw [if_neg hn2] at hE0
              exact .inr (.inr (.inr (.inr (.inr ⟨hE0, a1, (hneq 46 (by decide) a2).1, by omega⟩))))
          have hix2 := Lib.hid fun (z : Nat) (h : z < l.length) W => (by have := hidx (z : Int) W (by omega) (by omega); rwa [Int.toNat_natCast] at this : (Instr.indexAt 22 (.slice a l.length c) (.int .i64 (z : Int))).run Try.prog W = .ok (.pointer (some ⟨b, off + z, none⟩)) W)
          have hcl2 : ∀ z : Nat, z < l.length → w.cell? ⟨b, off + z, none⟩ = some (.int .u8 ((byteAt l z).toNat : Int)) := fun z h => hcl.out z h
          replace hcl2 := Lib.hid hcl2
          clear hw hk hE0 hz2 hneq hxeq hidxq hclq hdq e0 herr hz hidx hatx
          replace hi := Lib.hid hi
          replace hm0 := Lib.hid hm0
          rcases hway with ⟨hE, w1, w2, w3⟩ | ⟨hE, w1, w2, w3⟩ | ⟨hE, w1, w2, w3, w4⟩ | ⟨hE, w1, w2⟩ | ⟨hE, w1, w2, w3⟩ | ⟨hE, w1, w2, w3⟩
          case inr.inr.inr.inr.inr =>
            have hj19 : j ≤ 19 := by omega
            rcases hz3 with hz3 | ⟨hz3, hj1⟩
            · clear hgt
              go_wp2_with (first | (go_at_call 70; refine hat.out.mono ?_; rintro r w' ⟨rfl, rfl⟩) | (go_at_call 46; refine (rdigit_any x _).mono ?_; rintro r w' ⟨rfl, rfl⟩) | (go_at_call 75; refine (rletter_any x _).mono ?_; rintro r w' ⟨rfl, rfl⟩))
              go_loop [9, 10] (fun u t => ∃ k : Nat, k ≤ j ∧ t = .int .i64 ((q + k : Nat) : Int) ∧ u = .int .u64 (dval ((l.drop q).take k) : Int)) (fun _ t => l.length - (intOf t).toNat)
              case atStart => exact ⟨0, Nat.zero_le _, rfl, rfl⟩
              case round =>
                obtain ⟨k, hk, rfl, rfl⟩ := hrel
                have hii := hi.out
                by_cases hkj : k < j
                · obtain ⟨d1, d2⟩ := hdig.out k hkj
                  have d3 := isDig_range d1
                  have d4 := Lib.hid (dval_next l q k d2)
                  have d5 := hlt10.out k hk
                  have d6 : 10 ^ k ≤ 10 ^ 18 := Nat.pow_le_pow_right (by omega) (by omega)
                  have d7 := hix2.out (q + k) d2
                  have d8 := hcl2.out (q + k) d2
                  obtain ⟨P, hP⟩ : ∃ P, P = dval ((l.drop q).take k) := ⟨_, rfl⟩
                  rw [← hP] at d4 d5 ⊢
                  have d9 : P < 1000000000000000000 := by omega
                  obtain ⟨z, hz⟩ : ∃ z, z = q + k := ⟨_, rfl⟩
                  obtain ⟨y, hy⟩ : ∃ y, y = (byteAt l (q + k)).toNat := ⟨_, rfl⟩
                  rw [← hy] at d3 d4 d8
                  rw [← hz] at d7 d8 d2 ⊢
                  have hzi : (z : Int) < (i : Int) := by omega
                  clear d5 d6 d1 hP hy hii
                  replace hz := Lib.hid hz
                  go_wp2_with fail
                  go_round
                  case rel => exact ⟨k + 1, by omega, by have := hz.out; congr 1; omega, by rw [d4.out]; congr 1; omega⟩
                  case measure => have := hz.out; simp [intOf]; omega
                · obtain rfl : k = j := by omega
                  have hV := hval.out
                  rw [← hV, ← hii]
                  have hgtd : V ≤ top63 ∨ top63 < V := by omega
                  unfold top63 at hgtd hE
                  have hmi2 := hmi.out
                  have hin := hint.out
                  rcases hgtd with hg | hg
                  · have g1 : decide ((9223372036854775808 : Int) < (V : Int)) = false := by simp; omega
                    rw [if_neg hmi2] at hin
                    replace hin := Lib.hid hin
                    obtain ⟨Y, hY⟩ : ∃ Y, Y = (V : Int) := ⟨_, rfl⟩
                    by_cases he : V = 9223372036854775808
                    · rw [if_pos (.inr ⟨hmi2, he⟩)] at hE
                      subst hE
                      rw [← hY] at g1 hin ⊢
                      have g2 : (Y == 9223372036854775808) = true := by rw [hY]; simp; omega
                      clear hii hV hmi2 hY he
                      go_wp2_with fail
                      go_ret3
                      exact ⟨rfl, _, _, rfl, fun h => by simp at h⟩
                    · rw [if_neg (by rintro (h | h); omega; exact he h.2)] at hE
                      subst hE
                      rw [← hY] at g1 hin ⊢
                      have g2 : (Y == 9223372036854775808) = false := by rw [hY]; simp; omega
                      have hY0 : 0 ≤ Y ∧ Y < 9223372036854775808 := by omega
                      clear hii hV hmi2 hY he
                      go_wp2_with fail
                      go_ret3
                      exact ⟨rfl, _, _, rfl, fun _ => ⟨by rw [hin.out], by have := hi.out; omega⟩⟩
                  · have g1 : decide ((9223372036854775808 : Int) < (V : Int)) = true := by simp; omega
                    rw [if_pos (.inl hg)] at hE
                    subst hE
                    clear hii hV hmi2 hin
                    replace hg := Lib.hid hg
                    go_wp2_with fail
                    go_ret3
                    first
                      | exact ⟨rfl, _, _, rfl, fun h => by simp at h⟩
                      | exact ⟨rfl, _, _, rfl⟩
            · have hg2 : decide ((q : Int) + 1 < (i : Int)) = false := by have := hgt hj1; simp; omega
              clear hgt
              replace hj1 := Lib.hid hj1
              go_wp2_with (first | (go_at_call 70; refine hat.out.mono ?_; rintro r w' ⟨rfl, rfl⟩) | (go_at_call 46; refine (rdigit_any x _).mono ?_; rintro r w' ⟨rfl, rfl⟩) | (go_at_call 75; refine (rletter_any x _).mono ?_; rintro r w' ⟨rfl, rfl⟩))
              go_loop [9, 10] (fun u t => ∃ k : Nat, k ≤ j ∧ t = .int .i64 ((q + k : Nat) : Int) ∧ u = .int .u64 (dval ((l.drop q).take k) : Int)) (fun _ t => l.length - (intOf t).toNat)
              case atStart => exact ⟨0, Nat.zero_le _, rfl, rfl⟩
              case round =>
                obtain ⟨k, hk, rfl, rfl⟩ := hrel
                have hii := hi.out
                by_cases hkj : k < j
                · obtain ⟨d1, d2⟩ := hdig.out k hkj
                  have d3 := isDig_range d1
                  have d4 := Lib.hid (dval_next l q k d2)
                  have d5 := hlt10.out k hk
                  have d6 : 10 ^ k ≤ 10 ^ 18 := Nat.pow_le_pow_right (by omega) (by omega)
                  have d7 := hix2.out (q + k) d2
                  have d8 := hcl2.out (q + k) d2
                  obtain ⟨P, hP⟩ : ∃ P, P = dval ((l.drop q).take k) := ⟨_, rfl⟩
                  rw [← hP] at d4 d5 ⊢
                  have d9 : P < 1000000000000000000 := by omega
                  obtain ⟨z, hz⟩ : ∃ z, z = q + k := ⟨_, rfl⟩
                  obtain ⟨y, hy⟩ : ∃ y, y = (byteAt l (q + k)).toNat := ⟨_, rfl⟩
                  rw [← hy] at d3 d4 d8
                  rw [← hz] at d7 d8 d2 ⊢
                  have hzi : (z : Int) < (i : Int) := by omega
                  clear d5 d6 d1 hP hy hii
                  replace hz := Lib.hid hz
                  go_wp2_with fail
                  go_round
                  case rel => exact ⟨k + 1, by omega, by have := hz.out; congr 1; omega, by rw [d4.out]; congr 1; omega⟩
                  case measure => have := hz.out; simp [intOf]; omega
                · obtain rfl : k = j := by omega
                  have hV := hval.out
                  rw [← hV, ← hii]
                  have hgtd : V ≤ top63 ∨ top63 < V := by omega
                  unfold top63 at hgtd hE
                  have hmi2 := hmi.out
                  have hin := hint.out
                  rcases hgtd with hg | hg
                  · have g1 : decide ((9223372036854775808 : Int) < (V : Int)) = false := by simp; omega
                    rw [if_neg hmi2] at hin
                    replace hin := Lib.hid hin
                    obtain ⟨Y, hY⟩ : ∃ Y, Y = (V : Int) := ⟨_, rfl⟩
                    by_cases he : V = 9223372036854775808
                    · rw [if_pos (.inr ⟨hmi2, he⟩)] at hE
                      subst hE
                      rw [← hY] at g1 hin ⊢
                      have g2 : (Y == 9223372036854775808) = true := by rw [hY]; simp; omega
                      clear hii hV hmi2 hY he
                      go_wp2_with fail
                      go_ret3
                      exact ⟨rfl, _, _, rfl, fun h => by simp at h⟩
                    · rw [if_neg (by rintro (h | h); omega; exact he h.2)] at hE
                      subst hE
                      rw [← hY] at g1 hin ⊢
                      have g2 : (Y == 9223372036854775808) = false := by rw [hY]; simp; omega
                      have hY0 : 0 ≤ Y ∧ Y < 9223372036854775808 := by omega
                      clear hii hV hmi2 hY he
                      go_wp2_with fail
                      go_ret3
                      exact ⟨rfl, _, _, rfl, fun _ => ⟨by rw [hin.out], by have := hi.out; omega⟩⟩
                  · have g1 : decide ((9223372036854775808 : Int) < (V : Int)) = true := by simp; omega
                    rw [if_pos (.inl hg)] at hE
                    subst hE
                    clear hii hV hmi2 hin
                    replace hg := Lib.hid hg
                    go_wp2_with fail
                    go_ret3
                    first
                      | exact ⟨rfl, _, _, rfl, fun h => by simp at h⟩
                      | exact ⟨rfl, _, _, rfl⟩
          all_goals
            subst hE
            rcases hz3 with hz3 | ⟨hz3, hj1⟩
            · clear hgt
              go_wp2_with (first | (go_at_call 70; refine hat.out.mono ?_; rintro r w' ⟨rfl, rfl⟩) | (go_at_call 46; refine (rdigit_any x _).mono ?_; rintro r w' ⟨rfl, rfl⟩) | (go_at_call 75; refine (rletter_any x _).mono ?_; rintro r w' ⟨rfl, rfl⟩))
              go_ret3
              exact ⟨rfl, _, _, rfl, fun h => by simp at h⟩
            · have hg2 : decide ((q : Int) + 1 < (i : Int)) = false := by have := hgt hj1; simp; omega
              clear hgt
              replace hj1 := Lib.hid hj1
              go_wp2_with (first | (go_at_call 70; refine hat.out.mono ?_; rintro r w' ⟨rfl, rfl⟩) | (go_at_call 46; refine (rdigit_any x _).mono ?_; rintro r w' ⟨rfl, rfl⟩) | (go_at_call 75; refine (rletter_any x _).mono ?_; rintro r w' ⟨rfl, rfl⟩))
              go_ret3
              exact ⟨rfl, _, _, rfl, fun h => by simp at h⟩


end Go.Proofs.Ytmembanbemljoaa
