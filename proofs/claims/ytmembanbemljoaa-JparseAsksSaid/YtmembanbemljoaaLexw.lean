/- The lexer's words. -/
import Derived.Test.YtmembanbemljoaaLexq
import Derived.Handy
import Derived.WalkMore
import Derived.Test.YtmembanbemljoaaLexn
namespace Go.Proofs.Ytmembanbemljoaa
open Go.RowKit
set_option linter.unusedVariables false
set_option linter.unusedSimpArgs false

def sTrue : ByteArray := ⟨#[116, 114, 117, 101]⟩
def sFalse : ByteArray := ⟨#[102, 97, 108, 115, 101]⟩
def sNull : ByteArray := ⟨#[110, 117, 108, 108]⟩
set_option maxRecDepth 100000 in
theorem letters_any (w : World) : Calls Try.prog 64 #[] w fun r w' => r = .returned (.agg #[.string sTrue, .int .i64 7, .int .i64 1, .string sFalse, .int .i64 7, .int .i64 0, .string sNull, .int .i64 8, .int .i64 0]) ∧ Below w.heap.size w w' := by
  have hb := fun o => (Below.refl w.heap.size w).alloc (Nat.le_refl _) o
  obtain ⟨H, hH⟩ : ∃ H, w.heap.size = H := ⟨_, rfl⟩
  rw [hH] at hb ⊢
  go_enter Try.func64, Try.ntmps64
  go_wp2
  have hk := fun j => (Blk.made w #[.string ⟨#[116, 114, 117, 101]⟩, .int .i64 7, .int .i64 1, .string ⟨#[102, 97, 108, 115, 101]⟩, .int .i64 7, .int .i64 0, .string ⟨#[110, 117, 108, 108]⟩, .int .i64 8, .int .i64 0] 104 H hH).cell j
  refine bodyPost_ret (by simp [results, Try.results64, go_sem, hk]; rfl) rfl ?_
  exact ⟨rfl, hb _⟩

/-- The signs, by their kinds; 0: none. -/
def signOf (c : UInt8) : Nat :=
  if c.toNat = 123 then 1 else if c.toNat = 125 then 2 else if c.toNat = 91 then 3 else if c.toNat = 93 then 4 else if c.toNat = 58 then 5 else if c.toNat = 44 then 6 else 0
def signIdx (y : Int) : Int := Lib.indexByte [123, 125, 91, 93, 58, 44] y.toNat.toUInt8
theorem signIdx_any (y : Int) (w : World) :
    Calls Try.prog 42 #[.string ⟨#[123, 125, 91, 93, 58, 44]⟩, .int .u8 y] w fun r w' => r = .returned (.int .i64 (signIdx y)) ∧ w = w' :=
  indexByte_any _ y w
theorem signIdx_all : ∀ y : Nat, y < 256 → signIdx (y : Int) = (signOf y.toUInt8 : Int) - 1 := by decide +kernel
theorem signIdx_of (c : UInt8) : signIdx (c.toNat : Int) = (signOf c : Int) - 1 := by
  have := signIdx_all c.toNat c.toNat_lt
  rwa [show c.toNat.toUInt8 = c from by simp] at this
/-- A word: why it is none, its kind, its number, its text, where it ends. -/
structure MW where
  e : Nat
  k : Nat
  n : Int
  s : List UInt8
  nx : Nat
deriving DecidableEq
def mNamed (l : List UInt8) (p : Nat) : Option (Nat × Int × Nat) :=
  if sTrue.data.toList.isPrefixOf (l.drop p) = true then some (7, 1, 4) else if sFalse.data.toList.isPrefixOf (l.drop p) = true then some (7, 0, 5) else if sNull.data.toList.isPrefixOf (l.drop p) = true then some (8, 0, 4) else none
def mLet (l : List UInt8) (p : Nat) : MW :=
  match mNamed l p with
  | some (k, n, m) => if isLet (byteAt l (p + m)) = true then ⟨20, 0, 0, [], 0⟩ else ⟨0, k, n, [], p + m⟩
  | none => ⟨20, 0, 0, [], 0⟩
def mWord (l : List UInt8) (p : Nat) : MW :=
  if signOf (byteAt l p) ≠ 0 then ⟨0, signOf (byteAt l p), 0, [], p + 1⟩
  else if (byteAt l p).toNat = 34 then (match mText l (p + 1) [] with | some (S, q) => ⟨0, 10, 0, S, q⟩ | none => ⟨20, 0, 0, [], 0⟩)
  else if (byteAt l p).toNat = 45 ∨ isDig (byteAt l p) = true then (if mnErr l p = 0 then ⟨0, 9, mnInt l p, [], mnEnd l p⟩ else ⟨mnErr l p, 0, 0, [], 0⟩)
  else mLet l p
def nilB : Value := .slice none 0 0
variable {w : World} {X B : Nat} {a : Option Addr} {b off c : Nat} {l : List UInt8} {p : Nat} {e : Int} {tv : Value} {T : List UInt8}
theorem Lex.rebase (h : Lex w X B a b off c l p e nilB []) {B' : Nat} (h1 : X < B') (h2 : B' ≤ w.heap.size) : Lex w X B' a b off c l p e nilB [] :=
  ⟨h.blk, h.bytes, h.apart, OwnB.nil _ _, h.len, h.big, h.pos, h.nil, h1, h2⟩
theorem Lex.put (h : Lex w X B a b off c l p e tv T) {H : Nat} (h1 : X < H) (h2 : H < B) (j : Nat) (v : Value) : Lex (w.setCell ⟨H, j, none⟩ v) X B a b off c l p e tv T :=
  have hb := (Below.refl H w).setCell (p := ⟨H, j, none⟩) (Nat.le_refl _) v
  ⟨h.blk.kept hb h1, h.bytes.keep (hb.mono (Nat.le_of_lt h1)) h.apart, h.apart, own_other h.own h2 (setCell_grown w H j v), h.len, h.big, h.pos, h.nil, h.hXB, by simpa using h.hBs⟩
def put5 (w : World) (H : Nat) (v0 v1 v2 v3 v4 : Value) : World :=
  (((((w.setCell ⟨H, 0, none⟩ v0).setCell ⟨H, 1, none⟩ v1).setCell ⟨H, 2, none⟩ v2).setCell ⟨H, 3, none⟩ v3).setCell ⟨H, 4, none⟩ v4)
theorem put5_cell {H : Nat} {z0 z1 z2 z3 z4 : Value} {t : TypeId} (hZ : Blk w H #[z0, z1, z2, z3, z4] t) (v0 v1 v2 v3 v4 : Value) (j : Nat) :
    (put5 w H v0 v1 v2 v3 v4).cell? ⟨H, j, none⟩ = (#[v0, v1, v2, v3, v4] : Array Value)[j]? :=
  (((((hZ.set 0 v0).set 1 v1).set 2 v2).set 3 v3).set 4 v4).cell j
theorem Lex.put5 (h : Lex w X B a b off c l p e tv T) {H : Nat} (h1 : X < H) (h2 : H < B) (v0 v1 v2 v3 v4 : Value) : Lex (put5 w H v0 v1 v2 v3 v4) X B a b off c l p e tv T :=
  ((((h.put h1 h2 0 v0).put h1 h2 1 v1).put h1 h2 2 v2).put h1 h2 3 v3).put h1 h2 4 v4
theorem below_put5 {w0 : World} (h : Below X w0 w) {H : Nat} (h1 : X ≤ H) (v0 v1 v2 v3 v4 : Value) : Below X w0 (Go.Proofs.Ytmembanbemljoaa.put5 w H v0 v1 v2 v3 v4) :=
  ((((h.setCell (p := ⟨H, 0, none⟩) h1 v0).setCell (p := ⟨H, 1, none⟩) h1 v1).setCell (p := ⟨H, 2, none⟩) h1 v2).setCell (p := ⟨H, 3, none⟩) h1 v3).setCell (p := ⟨H, 4, none⟩) h1 v4
theorem word_ret {W : World} {H : Nat} {v0 v1 v2 v3 v4 : Value} (tmps : Array Value) (hz : tmps[4]?.getD undef = .pointer (some ⟨H, 0, none⟩)) (hc : ∀ j, W.cell? ⟨H, j, none⟩ = (#[v0, v1, v2, v3, v4] : Array Value)[j]?) :
    (results Try.f44 tmps).run Try.prog W = .ok (.agg #[v0, v1, v2, v3, v4]) W := by
  simp [results, Try.results44, go_sem, hz, hc]
def WPost (w : World) (X : Nat) (a : Option Addr) (b off c : Nat) (l : List UInt8) (p : Nat) (r : Ending) (w' : World) : Prop :=
  ∃ (k n : Int) (s : ByteArray) (B p' : Nat) (tv : Value) (T : List UInt8), r = .returned (.agg #[.int .i64 k, .int .i64 n, .string s, .int .i64 0, .int .i64 0]) ∧ Below X w w' ∧ Lex w' X B a b off c l p' ((mWord l p).e : Int) tv T ∧
    ((mWord l p).e = 0 → k = ((mWord l p).k : Int) ∧ n = (mWord l p).n ∧ s = str (mWord l p).s ∧ p' = (mWord l p).nx)

set_option maxRecDepth 100000 in
set_option maxHeartbeats 2000000 in
theorem word_sign (h : Lex w X B a b off c l p 0 nilB []) (hp : p < l.length) (hs : signOf (byteAt l p) ≠ 0) :
    Calls Try.prog 44 #[.pointer (some ⟨X, 0, none⟩), .int .u8 ((byteAt l p).toNat : Int)] w (WPost w X a b off c l p) := by
  have hm : mWord l p = ⟨0, signOf (byteAt l p), 0, [], p + 1⟩ := by unfold mWord; rw [if_pos hs]
  have hi := signIdx_of (byteAt l p)
  unfold WPost
  rw [hm]
  obtain ⟨k, hk⟩ : ∃ k, k = signOf (byteAt l p) := ⟨_, rfl⟩
  rw [← hk] at hi hs ⊢
  obtain ⟨k, rfl⟩ : ∃ j, k = j + 1 := ⟨k - 1, by omega⟩
  have hi' : signIdx ((byteAt l p).toNat : Int) = (k : Int) := by rw [hi]; omega
  have hk6 : k < 6 := by
    unfold signOf at hk
    split at hk <;> first | omega | skip
    split at hk <;> first | omega | skip
    split at hk <;> first | omega | skip
    split at hk <;> first | omega | skip
    split at hk <;> first | omega | skip
    split at hk <;> omega
  obtain ⟨y, hy⟩ : ∃ y : Int, y = ((byteAt l p).toNat : Int) := ⟨_, rfl⟩
  rw [← hy] at hi' ⊢
  have hXs := h.blk.lt
  have hpb := h.big
  obtain ⟨H, hH⟩ : ∃ H, w.heap.size = H := ⟨_, rfl⟩
  have hA := fun o => (h.alloc o).rebase (B' := H + 1) (by omega) (by simp; omega)
  have hB := fun o => (Below.refl X w).alloc (Nat.le_of_lt hXs) o
  have c1 := fun o => (hA o).c1
  have f1 := fun o => (hA o).f 1
  have hz := fun C T => Blk.made w C T H hH
  have hset := fun o => (hA o).setAt (p + 1) (by omega)
  have hbs := fun o => (hB o).setCell (p := ⟨X, 1, none⟩) (Nat.le_refl _) (.int .i64 ((p + 1 : Nat) : Int))
  have hzs := fun C T => (hz C T).other (setCell_grown _ X 1 (.int .i64 ((p + 1 : Nat) : Int))) (by simp; omega)
  rw [show ((p + 1 : Nat) : Int) = (p : Int) + 1 from by omega] at hset hbs hzs
  replace hset := Lib.hid hset
  replace hbs := Lib.hid hbs
  replace hzs := Lib.hid hzs
  replace hi' := Lib.hid hi'
  clear h hm hi hs hk hy hA hz hB
  go_enter Try.func44, Try.ntmps44
  go_wp2
  go_step3
  go_wp2_with (go_at_call 42; refine (signIdx_any _ _).mono ?_; rintro r w' ⟨rfl, rfl⟩; rw [hi'.out])
  rw [Exit.noGoto_ret]
  refine bodyPost_ret (word_ret _ (by rfl) (put5_cell (hzs.out _ _) _ _ _ _ _)) rfl ?_
  exact ⟨_, _, _, _, _, _, _, rfl, below_put5 (hbs.out _) (by omega) _ _ _ _ _, (hset.out _).put5 (by omega) (by omega) _ _ _ _ _, fun _ => ⟨by omega, rfl, rfl, rfl⟩⟩

theorem Blk.near {w w' : World} {X B H : Nat} {C : Array Value} {T : TypeId} (h : Blk w H C T) (hn : Near X B w w') (h1 : H < B) (h2 : H ≠ X) : Blk w' H C T := (hn.far H h1 h2).trans h

set_option maxRecDepth 100000 in
set_option maxHeartbeats 2000000 in
theorem word_quote (h : Lex w X B a b off c l p 0 nilB []) (hp : p < l.length) (hc : (byteAt l p).toNat = 34) :
    Calls Try.prog 44 #[.pointer (some ⟨X, 0, none⟩), .int .u8 ((byteAt l p).toNat : Int)] w (WPost w X a b off c l p) := by
  have hs : signOf (byteAt l p) = 0 := by unfold signOf; rw [hc]; rfl
  have hm : mWord l p = (match mText l (p + 1) [] with | some (S, q) => ⟨0, 10, 0, S, q⟩ | none => ⟨20, 0, 0, [], 0⟩) := by unfold mWord; rw [if_neg (by omega), if_pos hc]
  have hi := signIdx_of (byteAt l p)
  rw [hs] at hi
  rw [show ((byteAt l p).toNat : Int) = 34 from by omega] at hi ⊢
  unfold WPost
  have hXs := h.blk.lt
  have hpb := h.big
  obtain ⟨H, hH⟩ : ∃ H, w.heap.size = H := ⟨_, rfl⟩
  have hA := fun o => (h.alloc o).rebase (B' := H + 1) (by omega) (by simp; omega)
  have hB := fun o => (Below.refl X w).alloc (Nat.le_of_lt hXs) o
  have c1 := fun o => (hA o).c1
  have f1 := fun o => (hA o).f 1
  have hz := fun C T => Blk.made w C T H hH
  have hset := fun o => (hA o).setAt (p + 1) (by omega)
  have hbs := fun o => (hB o).setCell (p := ⟨X, 1, none⟩) (Nat.le_refl _) (.int .i64 ((p + 1 : Nat) : Int))
  have hzs := fun C T => (hz C T).other (setCell_grown _ X 1 (.int .i64 ((p + 1 : Nat) : Int))) (by simp; omega)
  rw [show ((p + 1 : Nat) : Int) = (p : Int) + 1 from by omega] at hset hbs hzs
  have hq := Lib.hid fun o => quoted_any (hset o) (by simp)
  replace hbs := Lib.hid hbs
  replace hzs := Lib.hid hzs
  replace hi := Lib.hid hi
  replace hm := Lib.hid hm
  clear h hc hs hA hz hB hset
  go_enter Try.func44, Try.ntmps44
  go_wp2
  go_step3
  go_wp2_with (go_at_call 42; refine (signIdx_any _ _).mono ?_; rintro r w' ⟨rfl, rfl⟩; rw [show signIdx 34 = -1 from hi.out])
  refine (hq.out _).mono ?_
  rintro r w2 ⟨s, p2, e2, tv2, T2, rfl, hN, hL, hres⟩
  have hZ := (hzs.out _ _).near hN (by omega) (by omega)
  have hBw := (hbs.out _).trans hN.below
  have ck := fun j => hZ.cell j
  have fk := fun j => hZ.free j
  replace hZ := Lib.hid hZ
  replace hBw := Lib.hid hBw
  replace hL := Lib.hid hL
  replace hres := Lib.hid hres
  clear hN hq hbs hzs c1 f1 hi
  go_wp2_with fail
  rw [Exit.noGoto_ret]
  refine bodyPost_ret (word_ret _ (by rfl) (put5_cell hZ.out _ _ _ _ _)) rfl ?_
  have hr := hres.out
  unfold QRes at hr
  have hfin := hL.out.put5 (H := H) (by omega) (by omega) (.int .i64 10) (.int .i64 0) (.string s) (.int .i64 0) (.int .i64 0)
  rw [hm.out]
  cases hM : mText l (p + 1) [] with
  | none =>
    rw [hM] at hr
    obtain ⟨rfl, rfl⟩ := hr
    exact ⟨_, _, _, _, _, _, _, rfl, below_put5 hBw.out (by omega) _ _ _ _ _, hfin, fun h => by simp at h⟩
  | some x =>
    obtain ⟨S, q⟩ := x
    rw [hM] at hr
    obtain ⟨rfl, rfl, rfl⟩ := hr
    exact ⟨_, _, _, _, _, _, _, rfl, below_put5 hBw.out (by omega) _ _ _ _ _, hfin, fun _ => ⟨rfl, rfl, rfl, rfl⟩⟩

theorem signOf_num {c : UInt8} (h : c.toNat = 45 ∨ isDig c = true) : signOf c = 0 ∧ c.toNat ≠ 34 := by
  have : c.toNat = 45 ∨ 48 ≤ c.toNat ∧ c.toNat ≤ 57 := by
    rcases h with h | h
    · exact .inl h
    · unfold isDig at h; exact .inr (by simpa using h)
  unfold signOf
  refine ⟨?_, by omega⟩
  rw [if_neg (by omega), if_neg (by omega), if_neg (by omega), if_neg (by omega), if_neg (by omega), if_neg (by omega)]

set_option maxRecDepth 100000 in
set_option maxHeartbeats 2000000 in
theorem word_number (h : Lex w X B a b off c l p 0 nilB []) (hp : p < l.length) (hc : (byteAt l p).toNat = 45 ∨ isDig (byteAt l p) = true) :
    Calls Try.prog 44 #[.pointer (some ⟨X, 0, none⟩), .int .u8 ((byteAt l p).toNat : Int)] w (WPost w X a b off c l p) := by
  obtain ⟨hs, hc34⟩ := signOf_num hc
  have hm : mWord l p = (if mnErr l p = 0 then ⟨0, 9, mnInt l p, [], mnEnd l p⟩ else ⟨mnErr l p, 0, 0, [], 0⟩) := by unfold mWord; rw [if_neg (by omega), if_neg hc34, if_pos hc]
  have hi := signIdx_of (byteAt l p)
  rw [hs] at hi
  have h34 : (((byteAt l p).toNat : Int) == 34) = false := by simp; omega
  unfold WPost
  have hXs := h.blk.lt
  have hpb := h.big
  obtain ⟨H, hH⟩ : ∃ H, w.heap.size = H := ⟨_, rfl⟩
  have hA := fun o => (h.alloc o).rebase (B' := H + 1) (by omega) (by simp; omega)
  have hbs := fun o => (Below.refl X w).alloc (Nat.le_of_lt hXs) o
  have hzs := fun C T => Blk.made w C T H hH
  have hq := Lib.hid fun o => number_any (hA o)
  have hdg := Lib.hid fun w => digit_any (byteAt l p) w
  replace hbs := Lib.hid hbs
  replace hzs := Lib.hid hzs
  replace hm := Lib.hid hm
  have h45 : (((byteAt l p).toNat : Int) == 45) = true ∨ ((((byteAt l p).toNat : Int) == 45) = false ∧ isDig (byteAt l p) = true) := by
    by_cases h : (byteAt l p).toNat = 45
    · left; rw [h]; rfl
    · right; exact ⟨by simp; omega, hc.resolve_left h⟩
  obtain ⟨dg, hdgv⟩ : ∃ dg, dg = isDig (byteAt l p) := ⟨_, rfl⟩
  rw [← hdgv] at h45 hdg
  obtain ⟨y, hy⟩ : ∃ y : Int, y = ((byteAt l p).toNat : Int) := ⟨_, rfl⟩
  rw [← hy] at hi h34 h45 hdg ⊢
  replace hi := Lib.hid hi
  clear h hc hs hA hc34 hy hdgv
  rcases h45 with h45 | ⟨h45, rfl⟩
  all_goals
    go_enter Try.func44, Try.ntmps44
    go_wp2
    go_step3
    go_wp2_with (first | (go_at_call 42; refine (signIdx_any _ _).mono ?_; rintro r w' ⟨rfl, rfl⟩; rw [show signIdx y = -1 from hi.out]) | (go_at_call 62; refine (hdg.out _).mono ?_; rintro r w' ⟨rfl, rfl⟩))
    refine (hq.out _).mono ?_
    rintro r w2 ⟨v, p2, rfl, hN, hL, hres⟩
    have hZ := (hzs.out _ _).near hN (by omega) (by omega)
    have hBw := (hbs.out _).trans hN.below
    have ck := fun j => hZ.cell j
    have fk := fun j => hZ.free j
    replace hZ := Lib.hid hZ
    replace hBw := Lib.hid hBw
    replace hL := Lib.hid hL
    replace hres := Lib.hid hres
    clear hN hq hbs hzs hi
    go_wp2_with fail
    rw [Exit.noGoto_ret]
    refine bodyPost_ret (word_ret _ (by rfl) (put5_cell hZ.out _ _ _ _ _)) rfl ?_
    have hr := hres.out
    have hfin := hL.out.put5 (H := H) (by omega) (by omega) (.int .i64 9) (.int .i64 v) (.string ⟨#[]⟩) (.int .i64 0) (.int .i64 0)
    rw [hm.out]
    by_cases hM : mnErr l p = 0
    · obtain ⟨rfl, rfl⟩ := hr hM
      rw [if_pos hM]
      rw [hM] at hfin
      exact ⟨_, _, _, _, _, _, _, rfl, below_put5 hBw.out (by omega) _ _ _ _ _, hfin, fun _ => ⟨rfl, rfl, rfl, rfl⟩⟩
    · rw [if_neg hM]
      exact ⟨_, _, _, _, _, _, _, rfl, below_put5 hBw.out (by omega) _ _ _ _ _, hfin, fun h => absurd h hM⟩

end Go.Proofs.Ytmembanbemljoaa
