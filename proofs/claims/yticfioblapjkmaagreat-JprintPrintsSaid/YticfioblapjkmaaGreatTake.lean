/- jlex.Take; words: their bounds, all of them. -/
import Derived.Test.YticfioblapjkmaaGreatLexv
namespace Go.Proofs.YticfioblapjkmaaGreat
open Go.RowKit
set_option linter.unusedVariables false
set_option linter.unusedSimpArgs false

/-- How many bytes from q on are of a kind. -/
def tw (f : UInt8 → Bool) (l : List UInt8) (q : Nat) : Nat := ((l.drop q).takeWhile f).length
theorem tw_lt (f : UInt8 → Bool) (l : List UInt8) (q k : Nat) (hk : k < tw f l q) : f (byteAt l (q + k)) = true ∧ q + k < l.length := by
  unfold tw at hk
  have h1 : ((l.drop q).takeWhile f)[k]? = (l.drop q)[k]? := by
    have : (l.drop q).takeWhile f <+: l.drop q := List.takeWhile_prefix f
    obtain ⟨t, ht⟩ := this
    conv => rhs; rw [← ht]
    rw [List.getElem?_append_left hk]
  have h2 := List.all_takeWhile (p := f) (l := l.drop q)
  rw [List.all_eq_true] at h2
  have h3 := h2 _ (List.getElem_mem hk)
  rw [List.getElem?_eq_getElem hk, List.getElem?_drop] at h1
  have hlen : q + k < l.length := by
    rcases Nat.lt_or_ge (q + k) l.length with h | h
    · exact h
    · rw [List.getElem?_eq_none h] at h1; simp at h1
  refine ⟨?_, hlen⟩
  unfold byteAt
  rw [← h1]
  exact h3
theorem tw_le (f : UInt8 → Bool) (l : List UInt8) (q : Nat) (hq : q ≤ l.length) : q + tw f l q ≤ l.length := by
  have : ((l.drop q).takeWhile f).length ≤ (l.drop q).length := (List.takeWhile_prefix f).length_le
  simp at this
  unfold tw
  omega
theorem tw_end (f : UInt8 → Bool) (l : List UInt8) (q : Nat) (h : q + tw f l q < l.length) : f (byteAt l (q + tw f l q)) = false := by
  unfold tw byteAt at *
  rw [← List.getElem?_drop]
  have h' : ((l.drop q).takeWhile f).length < (l.drop q).length := by rw [List.length_drop]; omega
  clear h
  generalize l.drop q = m at *
  induction m with
  | nil => simp at h'
  | cons c m ih =>
    by_cases h : f c = true
    · rw [List.takeWhile_cons_of_pos h] at h' ⊢
      simpa using ih (by simpa using h')
    · rw [List.takeWhile_cons_of_neg h]
      simpa using h

def isWh (c : UInt8) : Bool := decide (c.toNat = 32 ∨ c.toNat = 9 ∨ c.toNat = 10 ∨ c.toNat = 13)
def whIdx (y : Int) : Int := Lib.indexByte [32, 9, 10, 13] y.toNat.toUInt8
theorem whIdx_any (y : Int) (w : World) :
    Calls Tryz.prog 41 #[.string ⟨#[32, 9, 10, 13]⟩, .int .u8 y] w fun r w' => r = .returned (.int .i64 (whIdx y)) ∧ w = w' :=
  indexByte_any _ y w
theorem whIdx_all : ∀ y : Nat, y < 256 → decide (0 ≤ whIdx (y : Int)) = isWh y.toUInt8 := by decide +kernel
theorem whIdx_of (c : UInt8) : decide (0 ≤ whIdx (c.toNat : Int)) = isWh c := by
  have := whIdx_all c.toNat c.toNat_lt
  rwa [show c.toNat.toUInt8 = c from by simp] at this

/-- What Take tells: why not, the kind, the number, the text, where it begins and ends. -/
structure MT where
  e : Nat
  k : Nat
  n : Int
  s : List UInt8
  at_ : Nat
  nx : Nat
def MT.val (m : MT) : Value := .agg #[.int .i64 (m.k : Int), .int .i64 m.n, .string (str m.s), .int .i64 (m.at_ : Int), .int .i64 (m.nx : Int)]
def wEnd (l : List UInt8) (i : Nat) : Nat := i + tw isWh l i
def mTakeN (l : List UInt8) (i : Nat) : MT :=
  if wEnd l i = l.length then ⟨0, 11, 0, [], l.length, l.length⟩
  else if (mWord l (wEnd l i)).e = 0 then ⟨0, (mWord l (wEnd l i)).k, (mWord l (wEnd l i)).n, (mWord l (wEnd l i)).s, wEnd l i, (mWord l (wEnd l i)).nx⟩
  else ⟨(mWord l (wEnd l i)).e, 0, 0, [], 0, 0⟩
def mTake (l : List UInt8) (i : Int) : MT := if i < 0 ∨ (l.length : Int) < i then ⟨2, 0, 0, [], 0, 0⟩ else mTakeN l i.toNat

theorem take_ret {W : World} {H : Nat} {v0 v1 v2 v3 v4 v5 : Value} (tmps : Array Value) (hz : tmps[4]?.getD undef = .pointer (some ⟨H, 0, none⟩)) (h5 : tmps[5]?.getD undef = v5) (hc : ∀ j, W.cell? ⟨H, j, none⟩ = (#[v0, v1, v2, v3, v4] : Array Value)[j]?) :
    (results Tryz.f38 tmps).run Tryz.prog W = .ok (.tuple #[.agg #[v0, v1, v2, v3, v4], v5]) W := by
  simp [results, Tryz.results38, go_sem, hz, hc, h5]

variable {w : World} {a : Option Addr} {b off c : Nat} {l : List UInt8}
set_option maxRecDepth 100000 in
set_option maxHeartbeats 2000000 in
theorem take_arg (at_ : Int) (h : at_ < 0 ∨ (l.length : Int) < at_) :
    Calls Tryz.prog 38 #[.slice a l.length c, .int .i64 at_] w fun r w' => r = .returned (.tuple #[(mTake l at_).val, .int .i64 ((mTake l at_).e : Int)]) ∧ Below w.heap.size w w' := by
  unfold mTake
  rw [if_pos h]
  obtain ⟨H, hH⟩ : ∃ H, w.heap.size = H := ⟨_, rfl⟩
  have hz := fun C T => Blk.made w C T H hH
  have hB := fun o => (Below.refl H w).alloc (by omega) o
  have ht : at_ < 0 ∨ (¬ at_ < 0 ∧ (l.length : Int) < at_) := by omega
  rw [hH]
  replace hz := Lib.hid hz
  replace hB := Lib.hid hB
  clear h
  rcases ht with ht | ⟨ht, ht2⟩
  all_goals
    go_enter Tryz.func38, Tryz.ntmps38
    go_wp2
    refine bodyPost_ret (take_ret _ (by rfl) (by rfl) (fun j => (hz.out _ _).cell j)) rfl ?_
    exact ⟨rfl, hB.out _⟩

set_option maxRecDepth 100000 in
set_option maxHeartbeats 4000000 in
theorem take_in (hb : BytesAt w a b off l) (hap : l ≠ [] → b < w.heap.size) (hlen : l.length ≤ c) (hbig : l.length ≤ 140737488351232) (hnil : a = none → c = 0) (i : Nat) (hi : i ≤ l.length) :
    Calls Tryz.prog 38 #[.slice a l.length c, .int .i64 (i : Int)] w fun r w' => r = .returned (.tuple #[(mTakeN l i).val, .int .i64 ((mTakeN l i).e : Int)]) ∧ Below w.heap.size w w' := by
  obtain ⟨H, hH⟩ : ∃ H, w.heap.size = H := ⟨_, rfl⟩
  have hz := fun C T => Blk.made w C T H hH
  have hB := fun o => (Below.refl H w).alloc (by omega) o
  have hbA := fun o => hb.keep (hB o) (by rw [← hH]; exact hap)
  obtain ⟨m, hm⟩ : ∃ m, m = tw isWh l i := ⟨_, rfl⟩
  have hle := tw_le isWh l i hi
  have hend := tw_end isWh l i
  have hlt := tw_lt isWh l i
  have hwe : wEnd l i = i + m := by unfold wEnd; rw [hm]
  rw [← hm] at hle hend hlt
  have hT : mTakeN l i = if i + m = l.length then ⟨0, 11, 0, [], l.length, l.length⟩ else if (mWord l (i + m)).e = 0 then ⟨0, (mWord l (i + m)).k, (mWord l (i + m)).n, (mWord l (i + m)).s, i + m, (mWord l (i + m)).nx⟩ else ⟨(mWord l (i + m)).e, 0, 0, [], 0, 0⟩ := by unfold mTakeN; rw [hwe]
  have hidx := fun (k : Int) (W : World) => hb.idx l.length c rfl k W
  have hcl := fun o j h => (hbA o).2 j h
  replace hcl := Lib.hid hcl
  replace hT := Lib.hid hT
  replace hz := Lib.hid hz
  replace hB := Lib.hid hB
  replace hlt := Lib.hid hlt
  replace hend := Lib.hid hend
  have hap2 : l ≠ [] → b < H := by rw [← hH]; exact hap
  replace hap := Lib.hid hap2
  replace hnil := Lib.hid hnil
  replace hbA := Lib.hid hbA
  have hd1 : decide (l.length < i) = false := by simp; omega
  have hd2 : decide ((i : Int) < 0) = false := by simp
  clear hb hm hwe hap2
  go_enter Tryz.func38, Tryz.ntmps38
  go_wp2
  go_loop [1] (fun t => ∃ j : Nat, j ≤ m ∧ t = .int .i64 (((i + j : Nat) : Int))) (fun t => l.length - (intOf t).toNat)
  case atStart => exact ⟨0, Nat.zero_le _, rfl⟩
  case round =>
    obtain ⟨j, hj, rfl⟩ := hrel
    by_cases hjm : j < m
    · obtain ⟨h1, h2⟩ := hlt.out j hjm
      have hw := whIdx_of (byteAt l (i + j))
      have hcj := fun o => hcl.out o (i + j) h2
      have e0 : l[i + j]?.getD 0 = byteAt l (i + j) := rfl
      rw [h1] at hw
      rw [e0] at hcj
      have hij : ((i + j : Nat) : Int) < (l.length : Int) := by omega
      obtain ⟨p, hp⟩ : ∃ p, p = i + j := ⟨_, rfl⟩
      rw [← hp] at hw hcj hij ⊢
      obtain ⟨y, hy⟩ : ∃ y, y = whIdx ((byteAt l p).toNat : Int) := ⟨_, rfl⟩
      have hyp : 0 ≤ y := by rw [hy]; simpa using hw
      have hix := Lib.hid fun w => whIdx_any ((byteAt l p).toNat : Int) w
      rw [← hy] at hix
      replace hp := Lib.hid hp
      clear hw h1 e0 hy
      go_wp2_with (go_at_call 41; refine (hix.out _).mono ?_; rintro r w' ⟨rfl, rfl⟩)
      go_round
      case rel =>
        have := hp.out
        exact ⟨j + 1, by omega, by congr 1; omega⟩
      case measure => have := hp.out; simp [intOf]; omega
    · obtain rfl : j = m := by omega
      clear hlt
      obtain ⟨p, hp⟩ : ∃ p, p = i + j := ⟨_, rfl⟩
      rw [← hp] at hle hend hT ⊢
      by_cases hpe : p = l.length
      · have hpe' : ((p : Int) == (l.length : Int)) = true := by simp; omega
        have hpl : ¬ ((p : Int) < (l.length : Int)) := by omega
        rw [if_pos hpe] at hT
        replace hpe := Lib.hid hpe
        clear hp hend hcl
        go_wp2
        refine bodyPost_ret (take_ret _ (by rfl) (by rfl) (fun j => (hz.out _ _).cell j)) rfl ?_
        rw [hT.out]
        have := hpe.out
        subst this
        exact ⟨rfl, hB.out _⟩
      · have hlt2 : p < l.length := by omega
        have hlti : (p : Int) < (l.length : Int) := by omega
        have hwh := whIdx_of (byteAt l p)
        rw [hend.out hlt2] at hwh
        have hcj := fun o => hcl.out o p hlt2
        have e0' : l[p]?.getD 0 = byteAt l p := rfl
        rw [e0'] at hcj
        obtain ⟨y, hy⟩ : ∃ y, y = whIdx ((byteAt l p).toNat : Int) := ⟨_, rfl⟩
        have hyp : ¬ 0 ≤ y := by rw [hy]; simpa using hwh
        have hix := Lib.hid fun w => whIdx_any ((byteAt l p).toNat : Int) w
        rw [← hy] at hix
        have hpe' : ((p : Int) == (l.length : Int)) = false := by simp; omega
        rw [if_neg hpe] at hT
        have hcj2 := fun o o2 => ((hbA.out o).below ((Below.refl (w.alloc o).heap.size (w.alloc o)).alloc (Nat.le_refl _) o2)).2 p hlt2
        have e0 : l[p]?.getD 0 = byteAt l p := rfl
        rw [e0] at hcj2
        have hLex : ∀ o, Lex ((w.alloc o).alloc (.cells #[.slice a l.length c, .int .i64 (p : Int), .int .i64 0, .slice none 0 0] 89)) (H + 1) (H + 2) a b off c l p 0 nilB [] := by
          intro o
          refine ⟨Blk.made _ _ _ _ (by simp; omega), ((hbA.out o).below ((Below.refl (w.alloc o).heap.size (w.alloc o)).alloc (Nat.le_refl _) _)), fun h => Nat.lt_succ_of_lt (hap.out h), OwnB.nil _ _, hlen, hbig, hle, hnil.out, by omega, by simp; omega⟩
        have hwd := Lib.hid fun o => word_any (hLex o) hlt2
        have hz2 := Lib.hid fun C T o2 => (hz.out C T).kept ((Below.refl (H + 1) (w.alloc (.cells C T))).alloc (by simp; omega) o2) (by omega)
        have hB2 := Lib.hid fun o o2 => (hB.out o).alloc (by simp; omega) o2
        clear hend hcl hy hwh e0 hpe hp hjm hj hi hLex hbA hz hB hap hnil
        go_wp2_with (go_at_call 41; refine (hix.out _).mono ?_; rintro r w' ⟨rfl, rfl⟩)
        refine (hwd.out _).mono ?_
        rintro r w2 ⟨k, n, s, B', p', tv, T', rfl, hN, hL, hres⟩
        have hz3 := (hz2.out _ _ _).kept hN (by omega)
        have hB3 := (hB2.out _ _).trans (hN.mono (by omega))
        clear hz2 hB2 hwd hN hcj hcj2 hix hidx
        obtain ⟨Y, hY⟩ : ∃ Y, w2.heap.size = Y := ⟨_, rfl⟩
        have hXY := hL.blk.lt
        rw [hY] at hXY
        have c1 := fun o => (hL.alloc o).c1
        have c2 := fun o => (hL.alloc o).c2
        have hzo := fun o => hz3.kept ((Below.refl Y w2).alloc (by omega) o) (by omega)
        have hBo := fun o => hB3.alloc (by omega) o
        have hyo := fun C T => Blk.made w2 C T Y hY
        obtain ⟨e, he⟩ : ∃ e, e = (mWord l p).e := ⟨_, rfl⟩
        rw [← he] at c2 hT hres hL
        clear he
        replace hres := Lib.hid hres
        replace hL := Lib.hid hL
        replace hzo := Lib.hid hzo
        replace hBo := Lib.hid hBo
        replace hyo := Lib.hid hyo
        have cz := fun o j => (hzo.out o).cell j
        have fz := fun o j => (hzo.out o).free j
        by_cases he0 : e = 0
        · have ht : ((e : Int) != 0) = false := by simp [he0]
          subst he0
          go_wp2_with fail
          apply region_one
          · go_region_law (fail)
            all_goals exact ⟨rfl, rfl⟩
          have cy := fun C T j => (hyo.out C T).cell j
          go_wp2_with fail
          have hZ := (((hzo.out (.cells #[.int .i64 k, .int .i64 n, .string s, .int .i64 (p : Int), .int .i64 (p' : Int)] 51)).put5 (.int .i64 k) (.int .i64 n) (.string s) (.int .i64 (p : Int)) (.int .i64 (p' : Int))).drewN 1).cell
          have hBz := below_drewN (below_put5 (hBo.out (.cells #[.int .i64 k, .int .i64 n, .string s, .int .i64 (p : Int), .int .i64 (p' : Int)] 51)) (H := H) (by omega) (.int .i64 k) (.int .i64 n) (.string s) (.int .i64 (p : Int)) (.int .i64 (p' : Int))) 1
          rw [drewN_one] at hZ hBz
          unfold put5 at hZ hBz
          refine bodyPost_ret (take_ret _ (by rfl) (by rfl) hZ) rfl ?_
          obtain ⟨rfl, rfl, rfl, rfl⟩ := hres.out trivial
          rw [hT.out, if_pos trivial, hH]
          exact ⟨rfl, hBz⟩
        · have ht : ((e : Int) != 0) = true := by simp; omega
          rw [if_neg he0] at hT
          replace he0 := Lib.hid he0
          go_wp2_with fail
          apply region_one
          · go_region_law (fail)
            all_goals exact ⟨rfl, rfl⟩
          go_wp2_with fail
          have hZ := (((hzo.out (.cells #[.int .i64 k, .int .i64 n, .string s, .int .i64 0, .int .i64 0] 51)).put5 (.int .i64 0) (.int .i64 0) (.string ⟨#[]⟩) (.int .i64 0) (.int .i64 0)).drewN 1).cell
          have hBz := below_drewN (below_put5 (hBo.out (.cells #[.int .i64 k, .int .i64 n, .string s, .int .i64 0, .int .i64 0] 51)) (H := H) (by omega) (.int .i64 0) (.int .i64 0) (.string ⟨#[]⟩) (.int .i64 0) (.int .i64 0)) 1
          rw [drewN_one] at hZ hBz
          unfold put5 at hZ hBz
          refine bodyPost_ret (take_ret _ (by rfl) (by rfl) hZ) rfl ?_
          rw [hT.out, hH]
          exact ⟨rfl, hBz⟩

theorem take_any (hb : BytesAt w a b off l) (hap : l ≠ [] → b < w.heap.size) (hlen : l.length ≤ c) (hbig : l.length ≤ 140737488351232) (hnil : a = none → c = 0) (i : Int) :
    Calls Tryz.prog 38 #[.slice a l.length c, .int .i64 i] w fun r w' => r = .returned (.tuple #[(mTake l i).val, .int .i64 ((mTake l i).e : Int)]) ∧ Below w.heap.size w w' := by
  by_cases h : i < 0 ∨ (l.length : Int) < i
  · exact take_arg i h
  · have e : mTake l i = mTakeN l i.toNat := by unfold mTake; rw [if_neg h]
    have := take_in hb hap hlen hbig hnil i.toNat (by omega)
    rw [show ((i.toNat : Nat) : Int) = i from by omega] at this
    rw [e]
    exact this

end Go.Proofs.YticfioblapjkmaaGreat

namespace Go.Proofs.YticfioblapjkmaaGreat
open Go.RowKit
set_option linter.unusedVariables false
set_option linter.unusedSimpArgs false

theorem mText_bound {l : List UInt8} : ∀ (n p : Nat) (T S : List UInt8) (q : Nat), l.length - p ≤ n → mText l p T = some (S, q) → p < q ∧ q ≤ l.length := by
  intro n
  induction n with
  | zero =>
    intro p T S q hn h
    rw [mText, dif_neg (by omega)] at h
    simp at h
  | succ n ih =>
    intro p T S q hn h
    by_cases hp : p < l.length
    · rw [mText, dif_pos hp] at h
      split at h
      · simp at h
      · split at h
        · simp at h; omega
        · split at h
          · cases hm : mEsc l (p + 1) with
            | none => rw [hm] at h; simp at h
            | some x =>
              obtain ⟨bs, r⟩ := x
              rw [hm] at h
              have hb := (mEsc_bound hm).1
              simp only [] at h
              rw [dif_pos (by omega)] at h
              have := ih r _ _ _ (by omega) h
              omega
          · split at h
            · split at h
              · have := ih _ _ _ _ (by omega) h
                omega
              · simp at h
            · simp at h
    · rw [mText, dif_neg hp] at h
      simp at h
theorem byteAt_in {l : List UInt8} {p : Nat} (h : (byteAt l p).toNat ≠ 0) : p < l.length := by
  rcases Nat.lt_or_ge p l.length with h' | h'
  · exact h'
  · exfalso; apply h; unfold byteAt; rw [List.getElem?_eq_none h']; rfl
theorem mnEnd_bound {l : List UInt8} {p : Nat} (h : mnErr l p = 0) (hp : p < l.length) : p < mnEnd l p ∧ mnEnd l p ≤ l.length := by
  have hf : mnFrom l p ≤ l.length ∧ p ≤ mnFrom l p := by unfold mnFrom; split <;> omega
  have := dcount_le l (mnFrom l p) hf.1
  have hd : dcount l (mnFrom l p) ≠ 0 := by
    intro e
    unfold mnErr at h
    rw [if_pos (.inl e)] at h
    omega
  unfold mnEnd
  omega
theorem mNamed_bound {l : List UInt8} {p k m : Nat} {n : Int} (h : mNamed l p = some (k, n, m)) : p < p + m ∧ p + m ≤ l.length ∧ (k = 7 ∨ k = 8) := by
  unfold mNamed at h
  split at h
  · rename_i hh
    have h1 := (pre_len hh).resolve_right (by decide)
    simp only [show sTrue.size = 4 from rfl] at h1
    simp at h
    omega
  · split at h
    · rename_i hh
      have h1 := (pre_len hh).resolve_right (by decide)
      simp only [show sFalse.size = 5 from rfl] at h1
      simp at h
      omega
    · split at h
      · rename_i hh
        have h1 := (pre_len hh).resolve_right (by decide)
        simp only [show sNull.size = 4 from rfl] at h1
        simp at h
        omega
      · simp at h
theorem signOf_le (c : UInt8) : signOf c ≤ 6 := by
  unfold signOf
  repeat' split
  all_goals omega
theorem mWord_bound {l : List UInt8} {p : Nat} (h : (mWord l p).e = 0) (hp : p < l.length) : p < (mWord l p).nx ∧ (mWord l p).nx ≤ l.length ∧ 1 ≤ (mWord l p).k ∧ (mWord l p).k ≤ 10 := by
  unfold mWord at h ⊢
  split
  · rename_i h1
    have := signOf_le (byteAt l p)
    simp only []
    omega
  · rename_i h1
    rw [if_neg h1] at h
    split
    · rename_i h2
      rw [if_pos h2] at h
      cases hm : mText l (p + 1) [] with
      | none => rw [hm] at h; simp at h
      | some x =>
        obtain ⟨S, q⟩ := x
        have := mText_bound _ _ _ _ _ (Nat.le_refl _) hm
        simp only []
        omega
    · rename_i h2
      rw [if_neg h2] at h
      split
      · rename_i h3
        rw [if_pos h3] at h
        by_cases he : mnErr l p = 0
        · rw [if_pos he]
          have := mnEnd_bound he hp
          simp only []
          omega
        · rw [if_neg he] at h
          exact absurd h he
      · rename_i h3
        rw [if_neg h3] at h
        unfold mLet at h ⊢
        cases hn : mNamed l p with
        | none => rw [hn] at h; simp at h
        | some x =>
          obtain ⟨k, n, m⟩ := x
          rw [hn] at h
          simp only [] at h ⊢
          split
          · rename_i h4; rw [if_pos h4] at h; simp at h
          · have := mNamed_bound hn
            simp only []
            omega
theorem wEnd_le {l : List UInt8} {i : Nat} (hi : i ≤ l.length) : i ≤ wEnd l i ∧ wEnd l i ≤ l.length := by
  have := tw_le isWh l i hi
  unfold wEnd
  omega
/-- Of a word that Take tells: it ends behind the place, within the text. -/
theorem mTake_bound {l : List UInt8} {i : Nat} (hi : i ≤ l.length) (he : (mTakeN l i).e = 0) (hk : (mTakeN l i).k ≠ 11) :
    i < (mTakeN l i).nx ∧ (mTakeN l i).nx ≤ l.length ∧ i ≤ (mTakeN l i).at_ ∧ (mTakeN l i).at_ < (mTakeN l i).nx := by
  have hw := wEnd_le hi
  unfold mTakeN at he hk ⊢
  split
  · rename_i h1; rw [if_pos h1] at hk; simp at hk
  · rename_i h1
    rw [if_neg h1] at he hk
    split
    · rename_i h2
      have := mWord_bound h2 (by omega)
      simp only []
      omega
    · rename_i h2
      rw [if_neg h2] at he
      exact absurd he h2

/-- The words from a place on, behind those told so far. -/
def mAll (l : List UInt8) (i : Nat) (acc : List MT) : Nat × List MT :=
  if (mTakeN l i).e ≠ 0 then ((mTakeN l i).e, [])
  else if (mTakeN l i).k = 11 then (0, acc)
  else if h : i < (mTakeN l i).nx ∧ (mTakeN l i).nx ≤ l.length then mAll l (mTakeN l i).nx (acc ++ [mTakeN l i])
  else (0, [])
termination_by l.length - i
theorem mAll_bad {l : List UInt8} {i : Nat} {acc : List MT} (h : (mTakeN l i).e ≠ 0) : mAll l i acc = ((mTakeN l i).e, []) := by rw [mAll, if_pos h]
theorem mAll_end {l : List UInt8} {i : Nat} {acc : List MT} (h : (mTakeN l i).e = 0) (hk : (mTakeN l i).k = 11) : mAll l i acc = (0, acc) := by rw [mAll, if_neg (by omega), if_pos hk]
theorem mAll_next {l : List UInt8} {i : Nat} {acc : List MT} (hi : i ≤ l.length) (h : (mTakeN l i).e = 0) (hk : (mTakeN l i).k ≠ 11) : mAll l i acc = mAll l (mTakeN l i).nx (acc ++ [mTakeN l i]) := by
  have := mTake_bound hi h hk
  rw [mAll, if_neg (by omega), if_neg hk, dif_pos ⟨this.1, this.2.1⟩]

def MT.cells (m : MT) : List Value := [.int .i64 (m.k : Int), .int .i64 m.n, .string (str m.s), .int .i64 (m.at_ : Int), .int .i64 (m.nx : Int)]
/-- A slice of words that the call itself made. -/
def OwnW (e : TypeId) (w : World) (base : Nat) (v : Value) (ms : List MT) : Prop := w.ownsRow base e 5 v ms.length (ms.flatMap MT.cells)
theorem OwnW.nil (e : TypeId) (w : World) (base : Nat) : OwnW e w base (.slice none 0 0) [] := World.ownsRow_nil _ _ _ _
theorem OwnW.kept {e : TypeId} {w w' : World} {base : Nat} {v : Value} {ms : List MT} (h : OwnW e w base v ms) (hb : Below w.heap.size w w') : OwnW e w' base v ms := by
  obtain ⟨h1, h2⟩ := h
  refine ⟨h1, ?_⟩
  rcases h2 with h2 | ⟨g, cap, cur, hv, hbg, hg, hr⟩
  · exact .inl h2
  · refine .inr ⟨g, cap, cur, hv, hbg, ?_, hr⟩
    have hlt : g < w.heap.size := by
      rcases Nat.lt_or_ge g w.heap.size with h | h
      · exact h
      · rw [Array.getElem?_eq_none h] at hg; simp at hg
    rw [hb.block g hlt]
    exact hg
theorem OwnW.alloc {e : TypeId} {w : World} {base : Nat} {v : Value} {ms : List MT} (h : OwnW e w base v ms) (o : Obj) : OwnW e (w.alloc o) base v ms := World.ownsRow.alloc h o
theorem OwnW.lt {e : TypeId} {w : World} {base : Nat} {v : Value} {ms : List MT} (h : OwnW e w base v ms) : ∀ k, v.ownBlock = some k → base ≤ k ∧ k < w.heap.size := World.ownsRow.lt h
theorem OwnW.far {e : TypeId} {w : World} {base : Nat} {v : Value} {ms : List MT} (h : OwnW e w base v ms) {k : Nat} (hk : w.heap.size ≤ k) : v.ownBlock ≠ some k := fun e => by
  have := (h.lt k e).2
  omega
theorem OwnW.slice {e : TypeId} {w : World} {base : Nat} {v : Value} {ms : List MT} (h : OwnW e w base v ms) :
    ∃ a c, v = .slice a ms.length c ∧ ms.length ≤ c := by
  obtain ⟨h1, h2⟩ := h
  rcases h2 with ⟨rfl, h0⟩ | ⟨g, cap, cur, rfl, hbg, hg, hnc, hr⟩
  · exact ⟨none, 0, by rw [h0], by omega⟩
  · exact ⟨_, cap, rfl, hnc⟩

theorem OwnW.read {e : TypeId} {w : World} {base : Nat} {v : Value} {ms : List MT} (h : OwnW e w base v ms) (hne : ms ≠ []) :
    ∃ g c, v = .slice (some ⟨g, 0, none⟩) ms.length c ∧ ms.length ≤ c ∧ base ≤ g ∧ g < w.heap.size ∧ ∀ j, j < ms.length * 5 → w.cell? ⟨g, j, none⟩ = (ms.flatMap MT.cells)[j]? := by
  have h' := h
  obtain ⟨h1, h2⟩ := h
  rcases h2 with ⟨rfl, h0⟩ | ⟨g, cap, cur, rfl, hbg, hg, hnc, hr⟩
  · exact absurd (List.eq_nil_of_length_eq_zero h0) hne
  · exact ⟨g, cap, rfl, hnc, hbg, (h'.lt g rfl).2, fun j hj => World.ownsRow.cellAt h' j hj⟩
/-- append(v, x), v the call's own words, x one word in a new row. -/
theorem appendWord {t e : TypeId} (ht : Tryz.prog.underlying t = some (.slice e)) (hinf : (Tryz.prog.info? e).map (fun i => (i.zero, i.size, i.bytes)) = some (some (.agg #[.int .i64 0, .int .i64 0, .string ⟨#[]⟩, .int .i64 0, .int .i64 0]), 5, 48))
    {w : World} {base : Nat} {v : Value} {ms : List MT} {m : MT} (h : OwnW e w base v ms) (B : Nat) (hx : ∀ j, w.cell? ⟨B, j, none⟩ = m.cells[j]?)
    (hn : ms.length < 1099511627776) (hbase : base ≤ w.heap.size) :
    ∃ a' c' w', (Builtin.append_ #[t, t] t #[v, .slice (some ⟨B, 0, none⟩) 1 1]).run Tryz.prog w = .ok (.slice a' (ms ++ [m]).length c') w' ∧ OwnW e w' base (.slice a' (ms ++ [m]).length c') (ms ++ [m]) ∧ w.grownBy w' v.ownBlock := by
  obtain ⟨i, hi, hz0, hz1, hz2⟩ := info_parts hinf
  obtain ⟨v', w', r, h1, h2, _⟩ := run_append_own (P := Tryz.prog) w base t t e i (.agg #[.int .i64 0, .int .i64 0, .string ⟨#[]⟩, .int .i64 0, .int .i64 0]) 5 48 ht hi hz0 hz1 hz2 rfl (by decide) v ms.length (ms.flatMap MT.cells) h ⟨B, 0, none⟩ 1 1 m.cells rfl
    (by intro j u hj; have e : (⟨B, 0, none⟩ : Addr).add j = ⟨B, j, none⟩ := by simp [Addr.add]; omega
        rw [e, hx j]; exact hj)
    (by intro u hu; simp [MT.cells] at hu; rcases hu with rfl | rfl | rfl | rfl | rfl <;> rfl) (by unfold maxLen; omega) (by omega) hbase
  have h3 : OwnW e w' base v' (ms ++ [m]) := by
    unfold OwnW
    simpa using h1
  obtain ⟨a', c', rfl, _⟩ := h3.slice
  exact ⟨a', c', w', r, h3, h2⟩
theorem wpList_appendW {t e : TypeId} (ht : Tryz.prog.underlying t = some (.slice e)) (hinf : (Tryz.prog.info? e).map (fun i => (i.zero, i.size, i.bytes)) = some (some (.agg #[.int .i64 0, .int .i64 0, .string ⟨#[]⟩, .int .i64 0, .int .i64 0]), 5, 48))
    {ops : Array Oper} {rest : List Oper} {o : Oper} {a : Act} {Q : Exit → Act → World → Prop} {w : World}
    (s x : Operand) (ho : o.op = .call { callee := .builtin .append, args := #[s, x], argTypes := #[t, t] }) (hty : o.type = t)
    (hw : Region.wanted o (yielded ops a.tmps) = true)
    (base : Nat) (v : Value) (ms : List MT) (m : MT) (B : Nat) (hs : a.eval s = v) (hx : a.eval x = .slice (some ⟨B, 0, none⟩) 1 1)
    (h : OwnW e w base v ms) (hc : ∀ j, w.cell? ⟨B, j, none⟩ = (#[.int .i64 (m.k : Int), .int .i64 m.n, .string (str m.s), .int .i64 (m.at_ : Int), .int .i64 (m.nx : Int)] : Array Value)[j]?) (hn : ms.length < 1099511627776) (hbase : base ≤ w.heap.size)
    (k : ∀ a' c' w', OwnW e w' base (.slice a' (ms ++ [m]).length c') (ms ++ [m]) → Hid (w.grownBy w' v.ownBlock) → wpList Tryz.prog ops Q rest (a.put o.dst (.slice a' (ms ++ [m]).length c')) w') :
    wpList Tryz.prog ops Q (o :: rest) a w := by
  obtain ⟨a', c', w', r, h1, h2⟩ := appendWord (m := m) ht hinf h B (fun j => (hc j).trans (by simp [MT.cells])) hn hbase
  exact wpList_val hw (exec_append s x _ ho hs hx (by rw [hty]; exact r)) (k a' c' w' h1 h2)
theorem Tryz.infoW : (Tryz.prog.info? 51).map (fun i => (i.zero, i.size, i.bytes)) = some (some (.agg #[.int .i64 0, .int .i64 0, .string ⟨#[]⟩, .int .i64 0, .int .i64 0]), 5, 48) := by kernel_rfl


end Go.Proofs.YticfioblapjkmaaGreat
