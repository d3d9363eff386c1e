/- The parser's take once it has refused, fail, want. -/
import Derived.Test.YtmembanbemljoaaJp
namespace Go.Proofs.Ytmembanbemljoaa
open Go.RowKit
set_option linter.unusedVariables false
set_option linter.unusedSimpArgs false

variable {W W' : World} {X : Nat} {a : Option Addr} {b off c : Nat} {l : List UInt8} {bv : Value} {e : Nat}
set_option maxRecDepth 100000 in
set_option maxHeartbeats 400000 in
theorem ptake_bad (h : Bad W X bv e) : Calls Try.prog 51 #[.pointer (some ⟨X, 0, none⟩)] W fun r W' => r = .returned (.int .i64 0) ∧ W = W' := by
  obtain ⟨he, p, k, n, s, at_, nx, hP⟩ := h
  have c2 := hP.cell 2
  have hez : ((e : Int) == 0) = false := by simp; omega
  replace hP := Lib.hid hP
  go_enter Try.func51, Try.ntmps51
  go_wp2_with fail
  go_ret
  exact ⟨rfl, rfl⟩
set_option maxRecDepth 100000 in
set_option maxHeartbeats 400000 in
theorem pfail_bad (h : Bad W X bv e) (x : Int) : Calls Try.prog 77 #[.pointer (some ⟨X, 0, none⟩), .int .i64 x] W fun r W' => r = .returned (.tuple #[]) ∧ W = W' := by
  obtain ⟨he, p, k, n, s, at_, nx, hP⟩ := h
  have c2 := hP.cell 2
  have hez : ((e : Int) == 0) = false := by simp; omega
  replace hP := Lib.hid hP
  go_enter Try.func77, Try.ntmps77
  go_wp2_with fail
  go_end0
  exact ⟨rfl, rfl⟩
set_option maxRecDepth 100000 in
set_option maxHeartbeats 400000 in
theorem pfail_any {p : Int} (h : Any W X bv p 0) (x : Nat) (hx : x ≠ 0) : Calls Try.prog 77 #[.pointer (some ⟨X, 0, none⟩), .int .i64 (x : Int)] W fun r W' => r = .returned (.tuple #[]) ∧ Near X W.heap.size W W' ∧ Bad W' X bv x := by
  obtain ⟨k, n, s, at_, nx, hP⟩ := h
  have c2 := hP.cell 2
  have f2 := hP.free 2
  have hN := (Near.refl X W.heap.size W).setX 2 (.int .i64 (x : Int))
  have hP2 : Bad (W.setCell ⟨X, 2, none⟩ (.int .i64 (x : Int))) X bv x := ⟨hx, p, k, n, s, at_, nx, Blk.set hP 2 _⟩
  replace hP := Lib.hid hP
  replace hN := Lib.hid hN
  replace hP2 := Lib.hid hP2
  go_enter Try.func77, Try.ntmps77
  go_wp2_with fail
  go_end0
  exact ⟨rfl, hN.out, hP2.out⟩
theorem Good.any {m : MT} (h : Good W X bv m) : Any W X bv (m.nx : Int) 0 := ⟨_, _, _, _, _, h⟩
/-- What want leaves of the word m. -/
def Wanted (W : World) (X : Nat) (bv : Value) (kind : Nat) (m : MT) : Prop := (m.k = kind ∧ m.e = 0 ∧ Good W X bv m) ∨ (m.k ≠ kind ∧ Bad W X bv (wrongE m))
set_option maxRecDepth 100000 in
set_option maxHeartbeats 1000000 in
theorem pwant_any (hE : PEnv W X a b off c l) {p : Nat} (hp : p ≤ l.length) (hs : Any W X (.slice a l.length c) (p : Int) 0) (kind : Nat) (hk : kind ≠ 0) :
    Calls Try.prog 52 #[.pointer (some ⟨X, 0, none⟩), .int .i64 (kind : Int)] W fun r W' => r = .returned (.tuple #[]) ∧ Near X W.heap.size W W' ∧ Wanted W' X (.slice a l.length c) kind (mTakeN l p) := by
  have htk := Lib.hid (ptake_any hE hp hs)
  have hkd := take_kinds hp
  obtain ⟨m, hm⟩ : ∃ m, m = mTakeN l p := ⟨_, rfl⟩
  rw [← hm] at htk hkd ⊢
  clear hE hs hp
  replace hm := Lib.hid hm
  replace hkd := Lib.hid hkd
  by_cases hkk : m.k = kind
  · have hki : ((m.k : Int) == (kind : Int)) = true := by rw [hkk]; simp
    go_enter Try.func52, Try.ntmps52
    go_wp2_with fail
    refine htk.out.mono ?_
    rintro r W1 ⟨rfl, hN, hT⟩
    replace hN := Lib.hid hN
    replace hT := Lib.hid hT
    rw [hkk]
    replace hkk := Lib.hid hkk
    clear hki
    go_wp2_with fail
    go_end0
    refine ⟨rfl, hN.out, ?_⟩
    rcases hT.out with h | h
    · exact .inl ⟨hkk.out, h.1, h.2⟩
    · exact absurd (h.1.symm.trans hkk.out) (fun e => hk e.symm)
  · have hki : ((m.k : Int) == (kind : Int)) = false := by simp; omega
    replace hkk := Lib.hid hkk
    have hki2 : ((0 : Int) == (kind : Int)) = false := by simp; omega
    go_enter Try.func52, Try.ntmps52
    go_wp2_with fail
    refine htk.out.mono ?_
    rintro r W1 ⟨rfl, hN, hT⟩
    rcases hT with ⟨he, hG⟩ | ⟨hk0, hB⟩
    · have hfl := Lib.hid (pfail_any hG.any 20 (by decide))
      replace hN := Lib.hid hN
      replace hG := Lib.hid hG
      replace he := Lib.hid he
      go_wp2_with fail
      refine hfl.out.mono ?_
      rintro r W2 ⟨rfl, hN2, hB2⟩
      have hN3 := Lib.hid (hN.out.later hN2 hN.out.below.size)
      clear hN2
      replace hB2 := Lib.hid hB2
      go_wp2_with fail
      go_end0
      exact ⟨rfl, hN3.out, .inr ⟨hkk.out, by have := hB2.out; unfold wrongE; rw [if_neg (by simpa using he.out)]; exact this⟩⟩
    · have hfl := Lib.hid (pfail_bad hB 20)
      have hez := hB.1
      replace hN := Lib.hid hN
      replace hB := Lib.hid hB
      rw [hk0]
      replace hk0 := Lib.hid hk0
      replace hez := Lib.hid hez
      clear hki
      go_wp2_with fail
      refine hfl.out.mono ?_
      rintro r W2 ⟨rfl, rfl⟩
      go_wp2_with fail
      go_end0
      exact ⟨rfl, hN.out, .inr ⟨hkk.out, by have := hB.out; unfold wrongE; rw [if_pos hez.out]; exact this⟩⟩
set_option maxRecDepth 100000 in
set_option maxHeartbeats 1000000 in
theorem pwant_bad (hB : Bad W X bv e) (kind : Nat) (hk : kind ≠ 0) : Calls Try.prog 52 #[.pointer (some ⟨X, 0, none⟩), .int .i64 (kind : Int)] W fun r W' => r = .returned (.tuple #[]) ∧ W = W' := by
  have htk := Lib.hid (ptake_bad hB)
  have hfl := Lib.hid (pfail_bad hB 20)
  have hki2 : ((0 : Int) == (kind : Int)) = false := by simp; omega
  clear hB
  go_enter Try.func52, Try.ntmps52
  go_wp2_with fail
  refine htk.out.mono ?_
  rintro r W1 ⟨rfl, rfl⟩
  go_wp2_with fail
  refine hfl.out.mono ?_
  rintro r W2 ⟨rfl, rfl⟩
  go_wp2_with fail
  go_end0
  exact ⟨rfl, rfl⟩

end Go.Proofs.Ytmembanbemljoaa
