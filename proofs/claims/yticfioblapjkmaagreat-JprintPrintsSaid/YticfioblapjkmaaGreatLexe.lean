/- The lexer's method escape. -/
import Derived.Test.YticfioblapjkmaaGreatLexg
import Derived.Test.YticfioblapjkmaaGreatOwn
import Derived.Test.YticfioblapjkmaaGreatLexn
import Derived.Deep.AppendLies
import Derived.Deep.RegionLaw
namespace Go.Proofs.YticfioblapjkmaaGreat
open Go.RowKit
set_option linter.unusedVariables false
set_option linter.unusedSimpArgs false

theorem put_good (v : Value) (T : List UInt8) (base : Nat) (c : Int) (w : World) (hc : isChr c = true) (ho : OwnB w base v T) (hb : base ≤ w.heap.size) (hT : T.length ≤ 140737488351232) :
    Calls Tryz.prog 97 #[v, .int .i32 c] w fun r w' => ∃ a' c' L, r = .returned (.tuple #[.slice a' L.length c', .int .i64 0]) ∧ L = T ++ uenc c.toNat ∧ OwnB w' base (.slice a' L.length c') L ∧ Below base w w' := by
  have h0 : 0 ≤ c ∧ c < 1114112 := by unfold isChr at hc; simp at hc; omega
  obtain ⟨n, rfl⟩ := Int.eq_ofNat_of_zero_le h0.1
  rw [Int.toNat_natCast]
  by_cases h1 : n < 128
  · exact put_one v T base n w h1 hc ho hb hT
  by_cases h2 : n < 2048
  · exact put_two v T base n w (by omega) h2 hc ho hb hT
  by_cases h3 : n < 65536
  · exact put_three v T base n w (by omega) h3 hc ho hb hT
  · exact put_four v T base n w (by omega) (by omega) hc ho hb hT

/-- What an escape of one sign means. -/
def escOf (c : UInt8) : Option UInt8 :=
  if c.toNat = 34 then some 34 else if c.toNat = 92 then some 92 else if c.toNat = 47 then some 47 else if c.toNat = 98 then some 8 else if c.toNat = 102 then some 12 else if c.toNat = 110 then some 10 else if c.toNat = 114 then some 13 else if c.toNat = 116 then some 9 else none
/-- An escape behind its backslash: what it puts, and where it ends. -/
def mEsc (l : List UInt8) (p : Nat) : Option (List UInt8 × Nat) :=
  match escOf (byteAt l p) with
  | some m => some ([m], p + 1)
  | none =>
    if (byteAt l p).toNat = 117 then
      let n := hexR (hxs l (p + 1) 4)
      if 55296 ≤ n ∧ n < 56320 ∧ ([92, 117] : List UInt8).isPrefixOf (l.drop (p + 5)) = true then
        let v := pairv n (hexR (hxs l (p + 7) 4))
        if v = 0 then none else some (uenc v.toNat, p + 11)
      else if isChr n = true then some (uenc n.toNat, p + 5) else none
    else none

def escIdx (y : Int) : Int := Lib.indexByte [34, 92, 47, 98, 102, 110, 114, 116] y.toNat.toUInt8
theorem escIdx_any (y : Int) (w : World) :
    Calls Tryz.prog 41 #[.string ⟨#[34, 92, 47, 98, 102, 110, 114, 116]⟩, .int .u8 y] w fun r w' => r = .returned (.int .i64 (escIdx y)) ∧ w = w' :=
  indexByte_any _ y w
def escM : List UInt8 := [34, 92, 47, 8, 12, 10, 13, 9]
def escCheck (y : Nat) : Bool := match escOf y.toUInt8 with | some m => decide (0 ≤ escIdx (y : Int) ∧ escIdx (y : Int) < 8 ∧ escM[(escIdx (y : Int)).toNat]? = some m) | none => decide (escIdx (y : Int) = -1)
theorem escIdx_all : ∀ y : Nat, y < 256 → escCheck y = true := by decide +kernel
theorem escIdx_some {c m : UInt8} (h : escOf c = some m) : ∃ k : Nat, k < 8 ∧ escIdx (c.toNat : Int) = (k : Int) ∧ escM[k]? = some m := by
  have := escIdx_all c.toNat c.toNat_lt
  unfold escCheck at this
  rw [show c.toNat.toUInt8 = c from by simp, h] at this
  simp only [decide_eq_true_eq] at this
  exact ⟨(escIdx (c.toNat : Int)).toNat, by omega, by omega, this.2.2⟩
theorem escIdx_none {c : UInt8} (h : escOf c = none) : escIdx (c.toNat : Int) = -1 := by
  have := escIdx_all c.toNat c.toNat_lt
  unfold escCheck at this
  rw [show c.toNat.toUInt8 = c from by simp, h] at this
  simpa using this
/-- The walk goes on in a world of which a few things are known. -/
theorem wp_gen {P : Program} {k : Code} {Q : Exit → Act → World → Prop} {a : Act} (R : World → Prop) (h : ∀ W, R W → k.wp P Q a W) (w : World) (hw : R w) : k.wp P Q a w := h w hw
variable {w : World} {X B : Nat} {a : Option Addr} {b off c : Nat} {l : List UInt8} {p : Nat} {e : Int} {tv : Value} {T : List UInt8}
theorem byteAt_pos {i : Nat} {m : UInt8} (h : escOf (byteAt l i) = some m) : i < l.length := by
  rcases Nat.lt_or_ge i l.length with h' | h'
  · exact h'
  · unfold byteAt at h
    rw [List.getElem?_eq_none h'] at h
    simp [escOf] at h

theorem Lex.alloc (h : Lex w X B a b off c l p e tv T) (o : Obj) : Lex (w.alloc o) X B a b off c l p e tv T :=
  have hb := (Below.refl w.heap.size w).alloc (Nat.le_refl _) o
  ⟨h.blk.kept hb h.blk.lt, h.bytes.below hb, h.apart, h.own.alloc o, h.len, h.big, h.pos, h.nil, h.hXB, Nat.le_trans h.hBs hb.size⟩
/-- A new text laid into the lexer. -/
theorem Lex.text (h : Lex w X B a b off c l p e tv T) {w2 : World} {tv2 : Value} {L2 : List UInt8} (hb : Below B w w2) (ho : OwnB w2 B tv2 L2) :
    Lex (w2.setCell ⟨X, 3, none⟩ tv2) X B a b off c l p e tv2 L2 ∧ Near X B w (w2.setCell ⟨X, 3, none⟩ tv2) :=
  ⟨⟨(h.blk.kept hb h.hXB).set 3 _, (h.bytes.keep (hb.mono h.hX) h.apart).keep (setCell_below w2 X 3 _) h.apart, h.apart, own_other ho h.hXB (setCell_grown w2 X 3 _), h.len, h.big, h.pos, h.nil, h.hXB, by simpa using Nat.le_trans h.hBs hb.size⟩,
   ((Near.refl X B w).on hb h.hX).setX 3 _⟩

/-- What escape leaves. -/
def EscRes (l : List UInt8) (p : Nat) (T : List UInt8) (p' : Nat) (e' : Int) (T' : List UInt8) : Prop :=
  match mEsc l p with | some (bs, q) => p' = q ∧ e' = 0 ∧ T' = T ++ bs | none => e' = 20
def EscPost (w : World) (X B : Nat) (a : Option Addr) (b off c : Nat) (l : List UInt8) (p : Nat) (T : List UInt8) (r : Ending) (w' : World) : Prop :=
  ∃ p' e' tv' T', r = .returned (.tuple #[]) ∧ Near X B w w' ∧ Lex w' X B a b off c l p' e' tv' T' ∧ EscRes l p T p' e' T'

set_option maxRecDepth 100000 in
set_option maxHeartbeats 2000000 in
theorem escape_plain (h : Lex w X B a b off c l p 0 tv T) (hT : T.length ≤ p) (m : UInt8) (hm : escOf (byteAt l p) = some m) :
    Calls Tryz.prog 78 #[.pointer (some ⟨X, 0, none⟩)] w (EscPost w X B a b off c l p T) := by
  have hres : EscRes l p T (p + 1) 0 (T ++ [m]) := by unfold EscRes mEsc; rw [hm]; exact ⟨rfl, rfl, rfl⟩
  obtain ⟨k, hk, hi, hmk⟩ := escIdx_some hm
  have hlt := byteAt_pos hm
  have hpk := peek_any h
  obtain ⟨y, hy⟩ : ∃ y : Int, y = ((byteAt l p).toNat : Int) := ⟨_, rfl⟩
  rw [← hy] at hpk hi
  have c0 := h.c0
  have c1 := h.c1
  have c3 := h.c3
  have f1 := h.f 1
  have f3 := h.f 3
  have hbig := h.big
  have hset := Lib.hid fun n => (h.drewN n).setAt (p + 1) (by omega)
  have hbs := Lib.hid fun n => (near_drewN (Near.refl X B w) n).setX 1 (.int .i64 ((p + 1 : Nat) : Int))
  rw [show ((p + 1 : Nat) : Int) = (p : Int) + 1 from by omega] at hset hbs
  replace hpk := Lib.hid hpk
  replace hi := Lib.hid hi
  have hlt' : (p : Int) < (l.length : Int) := by omega
  have hix := fun W => idxStr ⟨#[34, 92, 47, 8, 12, 10, 13, 9]⟩ k hk W
  have hmm : (((ByteArray.mk #[34, 92, 47, 8, 12, 10, 13, 9]).data.toList[k]?.getD 0).toNat : Int) = (m.toNat : Int) := by
    rw [show (ByteArray.mk #[34, 92, 47, 8, 12, 10, 13, 9]).data.toList = escM from rfl, hmk]; rfl
  rw [hmm] at hix
  replace hres := Lib.hid hres
  clear hmm hmk hm hy h
  go_enter Tryz.func78, Tryz.ntmps78
  go_wp2_with (first | (go_at_call 67; (with_reducible refine hpk.out.mono ?_); rintro r w' ⟨rfl, nq, rfl⟩) | (go_at_call 41; refine (escIdx_any _ _).mono ?_; rintro r w' ⟨rfl, rfl⟩; rw [hi.out]))
  go_quiet (fail)
  go_wp2
  refine wp_gen (fun W => Lex W X B a b off c l (p + 1) 0 tv T ∧ Near X B w W) ?_ _ ⟨hset.out _, hbs.out _⟩
  clear hset hbs c0 c1 c3 f1 f3 hpk hi
  intro W hWW
  obtain ⟨hL, hB⟩ := hWW
  have c3 := hL.c3
  have f3 := hL.f 3
  have g3 := World.new_ne W _ c3
  have hLl := hL.blk.lt
  have hne : some X ≠ tv.ownBlock := (hL.own.far hL.hXB).symm
  have cca : ∀ o, ((W.alloc o).drew).cell? ⟨X, 3, none⟩ = some tv := fun o => (World.cell?_alloc_past (w := W) o X 3 hLl).trans c3
  have ffa : ∀ o, ((W.alloc o).drew).frozen? ⟨X, 3, none⟩ = false := fun o => (World.frozen?_alloc_past (w := W) o X 3 hLl).trans f3
  have hsx : ∀ o, X < ((W.alloc o).drew).heap.size := fun o => by simp; omega
  obtain ⟨H, hWs⟩ : ∃ H, W.heap.size = H := ⟨_, rfl⟩
  go_region_law (refine step_appendB (by rfl) _ _ (by rfl) (by rfl) B tv T [m] (some ⟨H, 0, none⟩) H 0 1 1 (by rfl) (by rfl) (by exact hL.own.alloc _) (by rfl) (by exact newByte m _ rfl W _ hWs) (by simp) (by simp; omega) (by exact Nat.le_trans hL.hBs (by simp)) ?_; intro a2 c2 w2 L2 hL2 hown2 hg; have k1 := (hg.out.cell_far ⟨X, 3, none⟩ (hsx _) hne).trans (cca _); have k2 := (hg.out.frozen_far ⟨X, 3, none⟩ (hsx _) hne).trans (ffa _))
  all_goals
    have hgr := below_own (w := (W.alloc _).drew) (hL.own.alloc _) hg.out (((Below.refl B W).alloc hL.hBs _).drew) (Nat.le_refl _) (by exact Nat.le_trans hL.hBs (by simp))
    have hfin := Lib.hid (hL.text hgr hown2)
    have hL2' := hL2
    clear hg k1 k2 hL c3 f3 cca ffa hown2 hgr
    go_wp2
    refine bodyPost_ret (results_none rfl _ _ _) rfl ?_
    exact ⟨_, _, _, _, rfl, hB.trans hfin.out.2, hfin.out.1, by rw [hL2'.out]; exact hres.out⟩

theorem mEsc_u {l : List UInt8} {p : Nat} (h0 : escOf (byteAt l p) = none) (hu : (byteAt l p).toNat = 117) : mEsc l p =
      if 55296 ≤ hexR (hxs l (p + 1) 4) ∧ hexR (hxs l (p + 1) 4) < 56320 ∧ ([92, 117] : List UInt8).isPrefixOf (l.drop (p + 5)) = true then
        (if pairv (hexR (hxs l (p + 1) 4)) (hexR (hxs l (p + 7) 4)) = 0 then none else some (uenc (pairv (hexR (hxs l (p + 1) 4)) (hexR (hxs l (p + 7) 4))).toNat, p + 11))
      else if isChr (hexR (hxs l (p + 1) 4)) = true then some (uenc (hexR (hxs l (p + 1) 4)).toNat, p + 5) else none := by
  unfold mEsc
  rw [h0]
  simp only [hu, if_true]
theorem hexR_some {l : List UInt8} {q : Nat} (h : 0 ≤ hexR (hxs l q 4)) : hxs l q 4 ≠ none := by
  intro e
  rw [e] at h
  simp [hexR] at h
theorem hexR_bd (l : List UInt8) (q : Nat) : -1 ≤ hexR (hxs l q 4) ∧ hexR (hxs l q 4) < 65536 := by
  cases h : hxs l q 4 with
  | none => simp [hexR]
  | some n => have := hxs_lt h; simp [hexR]; omega

set_option maxRecDepth 100000 in
set_option maxHeartbeats 2000000 in
theorem escape_bad (h : Lex w X B a b off c l p 0 tv T) (hm : escOf (byteAt l p) = none) (hu : (byteAt l p).toNat ≠ 117) :
    Calls Tryz.prog 78 #[.pointer (some ⟨X, 0, none⟩)] w (EscPost w X B a b off c l p T) := by
  have hres : EscRes l p T p 20 T := by unfold EscRes mEsc; rw [hm]; simp only [hu, if_false]
  have hi := escIdx_none hm
  have hpk := peek_any h
  have h117 : (((byteAt l p).toNat : Int) != 117) = true := by rw [bne_iff_ne]; omega
  obtain ⟨y, hy⟩ : ∃ y : Int, y = ((byteAt l p).toNat : Int) := ⟨_, rfl⟩
  rw [← hy] at hpk hi h117
  have hset := Lib.hid fun n => (h.drewN n).setE 20
  have hbs := Lib.hid fun n => (near_drewN (Near.refl X B w) n).setX 2 (.int .i64 20)
  have hfail := Lib.hid fun (n : Nat) (x : Int) => fail_first (h.drewN n) x
  replace hpk := Lib.hid hpk
  replace hi := Lib.hid hi
  replace hres := Lib.hid hres
  clear hm hu hy h
  go_enter Tryz.func78, Tryz.ntmps78
  go_wp2_with (first | (go_at_call 67; (with_reducible refine hpk.out.mono ?_); rintro r w' ⟨rfl, nq, rfl⟩) | (go_at_call 41; refine (escIdx_any _ _).mono ?_; rintro r w' ⟨rfl, rfl⟩; rw [hi.out]))
  go_quiet (fail)
  go_wp2_with (first | (go_at_call 68; (with_reducible refine (hfail.out _ _).mono ?_); rintro r w' ⟨rfl, rfl⟩))
  refine bodyPost_ret (results_none rfl _ _ _) rfl ?_
  exact ⟨_, _, _, _, rfl, hbs.out _, hset.out _, hres.out⟩

theorem calls_gen {P : Program} {f : FuncId} {args : Array Value} {Q : Ending → World → Prop} (R : World → Prop) (h : ∀ W, R W → Calls P f args W Q) (w : World) (hw : R w) : Calls P f args w Q := h w hw
theorem pairv_chr {h l : Int} (hv : ¬ pairv h l = 0) : isChr (pairv h l) = true := by
  unfold pairv at hv ⊢
  split at hv
  · rename_i hc
    rw [if_pos hc]
    unfold isChr
    simp
    omega
  · exact absurd rfl hv
theorem pairv_low {h l : Int} (hv : ¬ pairv h l = 0) : 0 ≤ l := by
  unfold pairv at hv
  split at hv
  · omega
  · exact absurd rfl hv

set_option maxRecDepth 100000 in
set_option maxHeartbeats 4000000 in
theorem escape_u (h : Lex w X B a b off c l p 0 tv T) (hT : T.length ≤ p) (hm : escOf (byteAt l p) = none) (hu : (byteAt l p).toNat = 117) :
    Calls Tryz.prog 78 #[.pointer (some ⟨X, 0, none⟩)] w (EscPost w X B a b off c l p T) := by
  obtain ⟨ta, tb, tc, rfl, -⟩ := h.own.parts
  have hME := Lib.hid (mEsc_u hm hu)
  have hi := escIdx_none hm
  have hpk := peek_any h
  have hlt : p < l.length := by
    rcases Nat.lt_or_ge p l.length with h' | h'
    · exact h'
    · unfold byteAt at hu; rw [List.getElem?_eq_none h'] at hu; simp at hu
  have h117 : (((byteAt l p).toNat : Int) != 117) = false := by simp; omega
  obtain ⟨y, hy⟩ : ∃ y : Int, y = ((byteAt l p).toNat : Int) := ⟨_, rfl⟩
  rw [← hy] at hpk hi h117
  have c1 := h.c1
  have f1 := h.f 1
  have hbig := h.big
  have hset := fun n => (h.drewN n).setAt (p + 1) (by omega)
  have hbs := fun n => (near_drewN (Near.refl X B w) n).setX 1 (.int .i64 ((p + 1 : Nat) : Int))
  rw [show ((p + 1 : Nat) : Int) = (p : Int) + 1 from by omega] at hset hbs
  replace hset := Lib.hid hset
  replace hbs := Lib.hid hbs
  replace hpk := Lib.hid hpk
  replace hi := Lib.hid hi
  have hns : 0 ≤ hexR (hxs l (p + 1) 4) → hxs l (p + 1) 4 ≠ none := hexR_some
  have hp5 : 0 ≤ hexR (hxs l (p + 1) 4) → p + 5 ≤ l.length := by
    intro h0
    have := hns h0
    cases hx : hxs l (p + 1) 4 with
    | none => exact absurd hx this
    | some v =>
      simp only [hxs, Option.bind_eq_some_iff, Option.map_eq_some_iff] at hx
      obtain ⟨_, _, d, hd, _⟩ := hx
      have := nibU_pos hd
      omega
  clear hm hu hy h
  go_enter Tryz.func78, Tryz.ntmps78
  go_wp2_with (first | (go_at_call 67; (with_reducible refine hpk.out.mono ?_); rintro r w' ⟨rfl, nq, rfl⟩) | (go_at_call 41; refine (escIdx_any _ _).mono ?_; rintro r w' ⟨rfl, rfl⟩; rw [hi.out]))
  go_quiet (fail)
  go_wp2_with fail
  refine (hexes_any (hset.out _)).mono ?_
  rintro r W ⟨rfl, hB0, p5, hL, hp5'⟩
  have hB := (hbs.out _).trans hB0
  have hbd := hexR_bd l (p + 1)
  obtain ⟨n, hn⟩ : ∃ n, n = hexR (hxs l (p + 1) 4) := ⟨_, rfl⟩
  rw [← hn] at hbd hns hp5 ⊢
  have hp5'' : 0 ≤ n → p5 = p + 5 := fun h0 => by have := hp5' (hns h0); omega
  clear hset hbs hpk hi c1 f1 hB0 hns hp5'
  replace hn := Lib.hid hn
  by_cases hhi : 55296 ≤ n ∧ n < 56320
  · obtain ⟨hh1, hh2⟩ := hhi
    obtain rfl : p5 = p + 5 := hp5'' (by omega)
    have hp5n := hp5 (by omega)
    have c0 := hL.c0
    have c1 := hL.c1
    have f1 := hL.f 1
    have hLl := hL.blk.lt
    have g0 := World.new_ne W _ c0
    have g1 := World.new_ne W _ c1
    have hsl := slice_tail a l.length c (p + 5) hp5n hL.len
    rw [show ((p + 5 : Nat) : Int) = (p : Int) + 5 from by omega] at hsl c1
    have hpre := hasPrefix_any (tl a (p + 5) c) (some ⟨W.heap.size, 0, none⟩) b (off + (p + 5)) (c - (p + 5)) W.heap.size 0 2 (l.drop (p + 5)) [92, 117] (l.length - (p + 5)) 2 ((W.alloc (.cells #[.int .u8 92, .int .u8 117] 5)).drew)
      (by exact (hL.alloc _).bytes.tail hL.len (p + 5)) (by exact BytesAt.made W [92, 117] _ _ (0, 0) _ rfl rfl) (by simp) rfl (by have := hL.len; omega)
    have hLa := hL.alloc (.cells #[.int .u8 92, .int .u8 117] 5)
    have hBa := hB.alloc hL.hX hL.hBs (.cells #[.int .u8 92, .int .u8 117] 5)
    obtain ⟨pre, hpr⟩ : ∃ pre, pre = ([92, 117] : List UInt8).isPrefixOf (l.drop (p + 5)) := ⟨_, rfl⟩
    rw [← hpr] at hpre
    replace hpre := Lib.hid hpre
    replace hpr := Lib.hid hpr
    have hLb : Lex ((W.alloc (.cells #[.int .u8 92, .int .u8 117] 5)).drew) X B a b off c l (p + 5) 0 (.slice ta T.length tc) T := hLa.drewN 1
    have hBb : Near X B w ((W.alloc (.cells #[.int .u8 92, .int .u8 117] 5)).drew) := hBa.drew
    replace hLb := Lib.hid hLb
    replace hBb := Lib.hid hBb
    have hL0 := Lib.hid hL
    have hB0 := Lib.hid hB
    clear hL hB hLa hBa
    go_wp2_with fail
    go_region_held3 (fun w' => w'.cell? ⟨X, 0, none⟩ = some (.slice a l.length c) ∧ w'.cell? ⟨X, 1, none⟩ = some (.int .i64 ((p : Int) + 5)))
      (first
        | go_keep)
      ((go_at_call 65; refine hpre.out.mono ?_; rintro r w' ⟨rfl, rfl⟩))
    have hLb1 := hLb.out.c1
    have hLbf := hLb.out.f 1
    rw [show ((p + 5 : Nat) : Int) = (p : Int) + 5 from by omega] at hLb1
    cases pre with
    | true =>
      have hlen7 : p + 7 ≤ l.length := by
        have := (List.isPrefixOf_iff_prefix.1 hpr.out.symm).length_le
        simp at this
        omega
      have hset1 := ((hL0.out.setAt (p + 7) hlen7).alloc (.cells #[.int .u8 92, .int .u8 117] 5)).drewN 1
      have hbs1 := ((hB0.out.setX 1 (.int .i64 ((p + 7 : Nat) : Int))).alloc hL0.out.hX (by simpa using hL0.out.hBs) (.cells #[.int .u8 92, .int .u8 117] 5)).drew
      rw [show ((p + 7 : Nat) : Int) = (p : Int) + 5 + 2 from by omega] at hset1 hbs1
      replace hset1 := Lib.hid hset1
      replace hbs1 := Lib.hid hbs1
      clear hLb hBb hpre hsl c0 c1 f1 g0 g1 hp5 hp5''
      go_wp2_with fail
      refine (hexes_any hset1.out).mono ?_
      rintro r W3 ⟨rfl, hB3, p7, hL, hp7⟩
      have hB := hbs1.out.trans hB3
      obtain ⟨m, hm⟩ : ∃ m, m = hexR (hxs l (p + 7) 4) := ⟨_, rfl⟩
      have hmn : 0 ≤ m → p7 = p + 11 := by
        intro h0
        rw [hm] at h0
        have := hp7 (hexR_some h0)
        omega
      rw [← hm]
      have hMEn := hME.out
      rw [← hn.out, ← hm, if_pos ⟨hh1, hh2, hpr.out.symm⟩] at hMEn
      clear hset1 hbs1 hB3 hp7 hLb1 hLbf hME hn hpr hm
      obtain ⟨W, rfl⟩ : ∃ W, W = W3 := ⟨_, rfl⟩
      by_cases hv : pairv n m = 0
      · have hgood : isChr (-1) = false := by decide
        have hres : EscRes l p T p7 20 T := by
          unfold EscRes
          rw [hMEn, if_pos hv]
        replace hres := Lib.hid hres
        replace hMEn := Lib.hid hMEn
        have hpair := Lib.hid fun w => pair_any n m w hh1 hh2
        rw [hv] at hpair
        clear hv hMEn
        have c3p := hL.c3
        go_wp2_with (go_at_call 96; refine (hpair.out _).mono ?_; rintro r w' ⟨rfl, rfl⟩)
        have c3 := hL.c3
        have f3 := hL.f 3
        have hLl := hL.blk.lt
        have c3a := fun (o : Obj) => (hL.alloc o).c3
        have f3a := fun (o : Obj) => (hL.alloc o).f 3
        have hput := Lib.hid fun w => put_bad (.slice ta T.length tc) (-1) w hgood
        have hEnd := Lib.hid (fun (o : Obj) => (((hL).setE 20).text (Below.refl B _) (((hL).setE 20).own)).1.alloc o)
        have hBn := Lib.hid (fun (o : Obj) => ((hB.setX 2 (.int .i64 20)).setX 3 (.slice ta T.length tc)).alloc hL.hX (by simpa using hL.hBs) o)
        have hfail := Lib.hid (fun (o : Obj) (x : Int) => fail_first (hL.alloc o) x)
        replace hgood := Lib.hid hgood
        clear hL hB
        go_wp2_with fail
        refine (hput.out _).mono ?_
        rintro r w2 ⟨rfl, rfl⟩
        go_wp2_with (go_at_call 68; (with_reducible refine (hfail.out _ _).mono ?_); rintro r w' ⟨rfl, rfl⟩)
        go_end0
        exact ⟨_, _, _, _, rfl, hBn.out _, hEnd.out _, hres.out⟩
      · have hgood := pairv_chr hv
        have hml := pairv_low hv
        have h11 := hmn hml
        have hV0 : ((pairv n m : Int) == 0) = false := by simp; exact hv
        have hres : EscRes l p T p7 0 (T ++ uenc (pairv n m).toNat) := by
          unfold EscRes
          rw [hMEn, if_neg hv]
          exact ⟨h11, rfl, rfl⟩
        replace hres := Lib.hid hres
        have hpair := Lib.hid fun w => pair_any n m w hh1 hh2
        obtain ⟨V, hV⟩ : ∃ V, V = pairv n m := ⟨_, rfl⟩
        rw [← hV] at hpair hres hgood hV0
        have hTp : T.length ≤ p7 := by omega
        clear hv hMEn hV h11 hml hmn
        have c3p := hL.c3
        go_wp2_with (go_at_call 96; refine (hpair.out _).mono ?_; rintro r w' ⟨rfl, rfl⟩)
        have c3 := hL.c3
        have hLl := hL.blk.lt
        have hTl : T.length ≤ 140737488351232 := by have := hL.pos; omega
        have hput := Lib.hid ( put_good (.slice ta T.length tc) T B V W hgood (hL.own) hL.hBs hTl)
        have hLn := Lib.hid ( hL)
        have hBn := Lib.hid ( hB)
        have hkeep := Lib.hid fun (w2 : World) (hb : Below B W w2) => hL.blk.kept hb hL.hXB
        replace hgood := Lib.hid hgood
        clear hL hB
        go_wp2_with fail
        refine (hput.out).mono ?_
        rintro r w2 ⟨a2, c2, L2, rfl, hL2, hown2, hb2⟩
        have hfin := Lib.hid ((hLn.out).text hb2 hown2)
        have c3' := (hkeep.out _ hb2).cell 3
        have f3' := (hkeep.out _ hb2).free 3
        replace hL2 := Lib.hid hL2
        clear hput hown2 hb2 hLn c3 hkeep
        go_wp2
        go_end0
        exact ⟨_, _, _, _, rfl, (hBn.out).trans hfin.out.2, hfin.out.1, by rw [hL2.out]; exact hres.out⟩
    | false =>
      have hgood : isChr n = false := by unfold isChr; simp; omega
      have hres : EscRes l p T (p + 5) 20 T := by
        unfold EscRes
        rw [hME.out, ← hn.out, if_neg (fun h => by have := hpr.out; rw [h.2.2] at this; simp at this), if_neg (by rw [hgood]; simp)]
      replace hres := Lib.hid hres
      have c3b := hLb.out.c3
      clear hpre hsl c0 c1 f1 hME hn hpr hp5 hp5'' hLb1 hLbf g0 g1 hL0 hB0
      go_wp2_with fail
      refine calls_gen (fun W2 => Lex W2 X B a b off c l (p + 5) 0 (.slice ta T.length tc) T ∧ Near X B w W2) ?_ _ ⟨hLb.out, hBb.out⟩
      clear hLb hBb c3b hLl
      rintro W ⟨hL, hB⟩
      have c3 := hL.c3
      have f3 := hL.f 3
      have hLl := hL.blk.lt
      have c3a := fun (o : Obj) => (hL.alloc o).c3
      have f3a := fun (o : Obj) => (hL.alloc o).f 3
      have hput := Lib.hid fun w => put_bad (.slice ta T.length tc) n w hgood
      have hEnd := Lib.hid (fun (o : Obj) => (((hL).setE 20).text (Below.refl B _) (((hL).setE 20).own)).1.alloc o)
      have hBn := Lib.hid (fun (o : Obj) => ((hB.setX 2 (.int .i64 20)).setX 3 (.slice ta T.length tc)).alloc hL.hX (by simpa using hL.hBs) o)
      have hfail := Lib.hid (fun (o : Obj) (x : Int) => fail_first (hL.alloc o) x)
      replace hgood := Lib.hid hgood
      clear hL hB
      refine (hput.out _).mono ?_
      rintro r w2 ⟨rfl, rfl⟩
      go_wp2_with (go_at_call 68; (with_reducible refine (hfail.out _ _).mono ?_); rintro r w' ⟨rfl, rfl⟩)
      go_end0
      exact ⟨_, _, _, _, rfl, hBn.out _, hEnd.out _, hres.out⟩
  · have hrange : n < 55296 ∨ 56320 ≤ n := by omega
    by_cases hchr : isChr n = true
    · have hn0 : 0 ≤ n := by unfold isChr at hchr; simp at hchr; omega
      have hres : EscRes l p T p5 0 (T ++ uenc n.toNat) := by
        unfold EscRes
        rw [hME.out, ← hn.out, if_neg (fun h => hhi ⟨h.1, h.2.1⟩), if_pos hchr]
        exact ⟨hp5'' hn0, rfl, rfl⟩
      replace hres := Lib.hid hres
      have hp5n := hp5 hn0
      have hgood := hchr
      have e5 := hp5'' hn0
      have hTp : T.length ≤ p5 := by omega
      clear hchr hhi hME hn hp5 hp5'' e5
      rcases hrange with hr | hr
      · have dd : decide (55296 ≤ n) = false := by simp; omega
        have c3 := hL.c3
        have hLl := hL.blk.lt
        have hTl : T.length ≤ 140737488351232 := by have := hL.pos; omega
        have hput := Lib.hid (fun m => put_good (.slice ta T.length tc) T B n (W.drewN m) hgood ((hL.drewN m).own) hL.hBs hTl)
        have hLn := Lib.hid (fun m => (hL.drewN m))
        have hBn := Lib.hid (fun m => near_drewN hB m)
        have hkeep := Lib.hid fun (m : Nat) (w2 : World) (hb : Below B (W.drewN m) w2) => (hL.drewN m).blk.kept hb hL.hXB
        replace hgood := Lib.hid hgood
        clear hL hB
        go_wp2_with fail
        go_quiet (fail)
        go_wp2_with fail
        refine (hput.out _).mono ?_
        rintro r w2 ⟨a2, c2, L2, rfl, hL2, hown2, hb2⟩
        have hfin := Lib.hid ((hLn.out _).text hb2 hown2)
        have c3' := (hkeep.out _ _ hb2).cell 3
        have f3' := (hkeep.out _ _ hb2).free 3
        replace hL2 := Lib.hid hL2
        clear hput hown2 hb2 hLn c3 hkeep
        go_wp2
        go_end0
        exact ⟨_, _, _, _, rfl, (hBn.out _).trans hfin.out.2, hfin.out.1, by rw [hL2.out]; exact hres.out⟩
      · have dd : decide (n < 56320) = false := by simp; omega
        have dd2 : decide (55296 ≤ n) = true := by simp; omega
        have hr2 : 55296 ≤ n := by omega
        have c3 := hL.c3
        have hLl := hL.blk.lt
        have hTl : T.length ≤ 140737488351232 := by have := hL.pos; omega
        have hput := Lib.hid (fun m => put_good (.slice ta T.length tc) T B n (W.drewN m) hgood ((hL.drewN m).own) hL.hBs hTl)
        have hLn := Lib.hid (fun m => (hL.drewN m))
        have hBn := Lib.hid (fun m => near_drewN hB m)
        have hkeep := Lib.hid fun (m : Nat) (w2 : World) (hb : Below B (W.drewN m) w2) => (hL.drewN m).blk.kept hb hL.hXB
        replace hgood := Lib.hid hgood
        clear hL hB
        go_wp2_with fail
        go_quiet (fail)
        go_wp2_with fail
        refine (hput.out _).mono ?_
        rintro r w2 ⟨a2, c2, L2, rfl, hL2, hown2, hb2⟩
        have hfin := Lib.hid ((hLn.out _).text hb2 hown2)
        have c3' := (hkeep.out _ _ hb2).cell 3
        have f3' := (hkeep.out _ _ hb2).free 3
        replace hL2 := Lib.hid hL2
        clear hput hown2 hb2 hLn c3 hkeep
        go_wp2
        go_end0
        exact ⟨_, _, _, _, rfl, (hBn.out _).trans hfin.out.2, hfin.out.1, by rw [hL2.out]; exact hres.out⟩
    · have hgood : isChr n = false := by simpa using hchr
      have hres : EscRes l p T p5 20 T := by
        unfold EscRes
        rw [hME.out, ← hn.out, if_neg (fun h => hhi ⟨h.1, h.2.1⟩), if_neg hchr]
      replace hres := Lib.hid hres
      clear hchr hhi hME hn hp5 hp5''
      rcases hrange with hr | hr
      · have dd : decide (55296 ≤ n) = false := by simp; omega
        have c3 := hL.c3
        have f3 := hL.f 3
        have hLl := hL.blk.lt
        have c3a := fun m (o : Obj) => ((hL.drewN m).alloc o).c3
        have f3a := fun m (o : Obj) => ((hL.drewN m).alloc o).f 3
        have hput := Lib.hid fun w => put_bad (.slice ta T.length tc) n w hgood
        have hEnd := Lib.hid (fun m (o : Obj) => ((((hL.drewN m).alloc o).setE 20).text (Below.refl B _) ((((hL.drewN m).alloc o).setE 20).own)).1)
        have hBn := Lib.hid (fun m (o : Obj) => (((near_drewN hB m).alloc hL.hX hL.hBs o).setX 2 (.int .i64 20)).setX 3 (.slice ta T.length tc))
        have hfail := Lib.hid (fun m (o : Obj) (x : Int) => fail_first ((hL.drewN m).alloc o) x)
        replace hgood := Lib.hid hgood
        clear hL hB
        go_wp2_with fail
        go_quiet (fail)
        go_wp2_with fail
        refine (hput.out _).mono ?_
        rintro r w2 ⟨rfl, rfl⟩
        go_wp2_with (go_at_call 68; (with_reducible refine (hfail.out _ _ _).mono ?_); rintro r w' ⟨rfl, rfl⟩)
        go_end0
        exact ⟨_, _, _, _, rfl, hBn.out _ _, hEnd.out _ _, hres.out⟩
      · have dd : decide (n < 56320) = false := by simp; omega
        have dd2 : decide (55296 ≤ n) = true := by simp; omega
        have hr2 : 55296 ≤ n := by omega
        have c3 := hL.c3
        have f3 := hL.f 3
        have hLl := hL.blk.lt
        have c3a := fun m (o : Obj) => ((hL.drewN m).alloc o).c3
        have f3a := fun m (o : Obj) => ((hL.drewN m).alloc o).f 3
        have hput := Lib.hid fun w => put_bad (.slice ta T.length tc) n w hgood
        have hEnd := Lib.hid (fun m (o : Obj) => ((((hL.drewN m).alloc o).setE 20).text (Below.refl B _) ((((hL.drewN m).alloc o).setE 20).own)).1)
        have hBn := Lib.hid (fun m (o : Obj) => (((near_drewN hB m).alloc hL.hX hL.hBs o).setX 2 (.int .i64 20)).setX 3 (.slice ta T.length tc))
        have hfail := Lib.hid (fun m (o : Obj) (x : Int) => fail_first ((hL.drewN m).alloc o) x)
        replace hgood := Lib.hid hgood
        clear hL hB
        go_wp2_with fail
        go_quiet (fail)
        go_wp2_with fail
        refine (hput.out _).mono ?_
        rintro r w2 ⟨rfl, rfl⟩
        go_wp2_with (go_at_call 68; (with_reducible refine (hfail.out _ _ _).mono ?_); rintro r w' ⟨rfl, rfl⟩)
        go_end0
        exact ⟨_, _, _, _, rfl, hBn.out _ _, hEnd.out _ _, hres.out⟩

end Go.Proofs.YticfioblapjkmaaGreat
