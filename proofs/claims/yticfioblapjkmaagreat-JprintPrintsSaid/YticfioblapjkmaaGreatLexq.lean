/- The lexer: quoted texts, words. -/
import Derived.Test.YticfioblapjkmaaGreatLexe
import Derived.Handy
import Derived.WalkMore
import Derived.Test.YticfioblapjkmaaGreatLexn
namespace Go.Proofs.YticfioblapjkmaaGreat
open Go.RowKit
set_option linter.unusedVariables false
set_option linter.unusedSimpArgs false

/-- A text behind its first sign: what it is, and where it ends. -/
def mText (l : List UInt8) (p : Nat) (T : List UInt8) : Option (List UInt8 × Nat) :=
  if h : p < l.length then
    if (byteAt l p).toNat < 32 then none
    else if (byteAt l p).toNat = 34 then some (T, p + 1)
    else if (byteAt l p).toNat = 92 then
      match mEsc l (p + 1) with
      | none => none
      | some (bs, q) => if hq : p < q then mText l q (T ++ bs) else none
    else if uerr l p = 0 then (if hu : 0 < ulen l p then mText l (p + ulen l p) (T ++ (l.drop p).take (ulen l p)) else none)
    else none
  else none
termination_by l.length - p

variable {w : World} {X B : Nat} {a : Option Addr} {b off c : Nat} {l : List UInt8} {p : Nat} {e : Int} {tv : Value} {T : List UInt8}

theorem escape_any (h : Lex w X B a b off c l p 0 tv T) (hT : T.length ≤ p) :
    Calls Tryz.prog 78 #[.pointer (some ⟨X, 0, none⟩)] w (EscPost w X B a b off c l p T) := by
  cases hm : escOf (byteAt l p) with
  | some m => exact escape_plain h hT m hm
  | none =>
    by_cases hu : (byteAt l p).toNat = 117
    · exact escape_u h hT hm hu
    · exact escape_bad h hm hu
theorem mEsc_bound {bs : List UInt8} {q : Nat} (h : mEsc l p = some (bs, q)) : p < q ∧ bs.length ≤ q - p := by
  unfold mEsc at h
  cases hm : escOf (byteAt l p) with
  | some m => rw [hm] at h; simp at h; obtain ⟨rfl, rfl⟩ := h; simp
  | none =>
    rw [hm] at h
    simp only [] at h
    split at h
    · split at h
      · split at h
        · simp at h
        · simp at h; obtain ⟨rfl, rfl⟩ := h; have := uenc_len (pairv (hexR (hxs l (p + 1) 4)) (hexR (hxs l (p + 7) 4))).toNat; omega
      · split at h
        · simp at h; obtain ⟨rfl, rfl⟩ := h; have := uenc_len (hexR (hxs l (p + 1) 4)).toNat; omega
        · simp at h
    · simp at h
theorem mText_low (h : ¬ p < l.length ∨ (byteAt l p).toNat < 32) : mText l p T = none := by
  rw [mText]
  split
  · rename_i h1
    rw [if_pos (h.resolve_left (fun h2 => h2 h1))]
  · rfl
theorem mText_quote (h : (byteAt l p).toNat = 34) : mText l p T = some (T, p + 1) := by
  have hp : p < l.length := by
    rcases Nat.lt_or_ge p l.length with h' | h'
    · exact h'
    · unfold byteAt at h; rw [List.getElem?_eq_none h'] at h; simp at h
  rw [mText, dif_pos hp, if_neg (by omega), if_pos h]
theorem mText_esc (h : (byteAt l p).toNat = 92) : mText l p T = match mEsc l (p + 1) with | none => none | some (bs, q) => mText l q (T ++ bs) := by
  have hp : p < l.length := by
    rcases Nat.lt_or_ge p l.length with h' | h'
    · exact h'
    · unfold byteAt at h; rw [List.getElem?_eq_none h'] at h; simp at h
  rw [mText, dif_pos hp, if_neg (by omega), if_neg (by omega), if_pos h]
  cases hm : mEsc l (p + 1) with
  | none => rfl
  | some x =>
    obtain ⟨bs, q⟩ := x
    have := (mEsc_bound hm).1
    simp only []
    rw [dif_pos (by omega)]
theorem mText_bad (hp : p < l.length) (h1 : ¬ (byteAt l p).toNat < 32) (h2 : (byteAt l p).toNat ≠ 34) (h3 : (byteAt l p).toNat ≠ 92) (h : uerr l p ≠ 0) : mText l p T = none := by
  rw [mText, dif_pos hp, if_neg h1, if_neg h2, if_neg h3, if_neg h]
theorem mText_char (hp : p < l.length) (h1 : ¬ (byteAt l p).toNat < 32) (h2 : (byteAt l p).toNat ≠ 34) (h3 : (byteAt l p).toNat ≠ 92) (h : uerr l p = 0) : mText l p T = mText l (p + ulen l p) (T ++ (l.drop p).take (ulen l p)) := by
  rw [mText, dif_pos hp, if_neg h1, if_neg h2, if_neg h3, if_pos h, dif_pos (ulen_bound h).1]
theorem OwnB.toStr {w : World} {base : Nat} {v : Value} {l : List UInt8} (h : OwnB w base v l) : (convert 28 9 v).run Tryz.prog w = .ok (.string (str l)) w := by
  obtain ⟨a, b, c, rfl, hb, -, -, -⟩ := h.parts
  exact hb.toStr l.length c rfl
/-- The loop's measure. -/
def lexMeas (w : World) (X n : Nat) : Nat := match w.cell? ⟨X, 2, none⟩ with | some v => (if intOf v = 0 then n + 1 - posOf w X else 0) | none => 0
theorem Lex.meas0 (h : Lex w X B a b off c l p 0 tv T) (n : Nat) : lexMeas w X n = n + 1 - p := by
  unfold lexMeas
  rw [h.c2, h.posOf]
  simp [intOf]
theorem Lex.measE (h : Lex w X B a b off c l p e tv T) (he : e ≠ 0) (n : Nat) : lexMeas w X n = 0 := by
  unfold lexMeas
  rw [h.c2]
  simp [intOf, he]
/-- What quoted keeps. -/
def QRel (w : World) (X B : Nat) (a : Option Addr) (b off c : Nat) (l : List UInt8) (M : Option (List UInt8 × Nat)) (wr : World) : Prop :=
  Near X B w wr ∧ ∃ p e tv T, Lex wr X B a b off c l p e tv T ∧ ((e = 0 ∧ T.length ≤ p ∧ M = mText l p T) ∨ (e = 20 ∧ M = none))
def QRes (M : Option (List UInt8 × Nat)) (s : ByteArray) (p : Nat) (e : Int) : Prop := match M with | some (S, q) => s = str S ∧ e = 0 ∧ p = q | none => s = str [] ∧ e = 20
def QPost (w : World) (X B : Nat) (a : Option Addr) (b off c : Nat) (l : List UInt8) (M : Option (List UInt8 × Nat)) (r : Ending) (w' : World) : Prop :=
  ∃ s p e tv T, r = .returned (.string s) ∧ Near X B w w' ∧ Lex w' X B a b off c l p e tv T ∧ QRes M s p e

set_option maxRecDepth 100000 in
set_option maxHeartbeats 4000000 in
theorem quoted_any (h : Lex w X B a b off c l p 0 tv T) (hT : T.length ≤ p) :
    Calls Tryz.prog 61 #[.pointer (some ⟨X, 0, none⟩)] w (QPost w X B a b off c l (mText l p T)) := by
  have h0 : QRel w X B a b off c l (mText l p T) w := ⟨Near.refl _ _ _, p, 0, tv, T, h, .inl ⟨rfl, hT, rfl⟩⟩
  obtain ⟨M, hM⟩ : ∃ M, M = mText l p T := ⟨_, rfl⟩
  rw [← hM] at h0 ⊢
  clear hM h hT
  go_enter Tryz.func61, Tryz.ntmps61
  go_wp2
  go_loopw [3] (fun _ wr => QRel w X B a b off c l M wr) (fun _ wr => lexMeas wr X l.length)
  case atStart => exact h0
  case round =>
    obtain ⟨hB, q, e, tv, T, hL, hcase⟩ := hrel
    clear h0
    have c2 := hL.c2
    rcases hcase with ⟨rfl, hT, hM⟩ | ⟨rfl, hM⟩
    · have hpk := peek_any hL
      have hm0 := hL.meas0 l.length
      have hbig := hL.big
      have hpos := hL.pos
      have hLn := Lib.hid fun n => hL.drewN n
      have hBn := Lib.hid fun n => near_drewN hB n
      have hfail := Lib.hid fun (n : Nat) (x : Int) => fail_first (hL.drewN n) x
      by_cases hlow : ¬ q < l.length ∨ (byteAt l q).toNat < 32
      · have hMn := hM.trans (mText_low hlow)
        have hbl : (byteAt l q).toNat < 32 := by
          rcases hlow with h | h
          · unfold byteAt; rw [List.getElem?_eq_none (by omega)]; decide
          · exact h
        obtain ⟨y, hy⟩ : ∃ y, y = (byteAt l q).toNat := ⟨_, rfl⟩
        rw [← hy] at hpk hbl
        have hset := Lib.hid fun n => (hL.drewN n).setE 20
        have hbs := Lib.hid fun n => (near_drewN hB n).setX 2 (.int .i64 20)
        replace hpk := Lib.hid hpk
        replace hm0 := Lib.hid hm0
        replace hMn := Lib.hid hMn
        clear hlow hy hL hB hM
        go_wp2_with (first | (go_at_call 67; (with_reducible refine hpk.out.mono ?_); rintro r w' ⟨rfl, nq, rfl⟩) | (go_at_call 68; (with_reducible refine (hfail.out _ _).mono ?_); rintro r w' ⟨rfl, rfl⟩))
        go_roundw
        case rel => exact ⟨hbs.out _, _, _, _, _, hset.out _, .inr ⟨rfl, hMn.out⟩⟩
        case measure => rw [(hset.out _).measE (by decide), hm0.out]; omega
      · have hq : q < l.length := by omega
        have hge : ¬ (byteAt l q).toNat < 32 := by omega
        clear hlow
        by_cases h34 : (byteAt l q).toNat = 34
        · have hMn := hM.trans (mText_quote h34)
          rw [h34] at hpk
          have c1 := hL.c1
          have c3 := hL.c3
          have f1 := hL.f 1
          have hset := fun n => (hL.drewN n).setAt (q + 1) (by omega)
          have hbs := fun n => (near_drewN hB n).setX 1 (.int .i64 ((q + 1 : Nat) : Int))
          rw [show ((q + 1 : Nat) : Int) = (q : Int) + 1 from by omega] at hset hbs
          have hcv := fun n => (hset n).own.toStr
          replace hset := Lib.hid hset
          replace hbs := Lib.hid hbs
          replace hpk := Lib.hid hpk
          replace hMn := Lib.hid hMn
          clear hL hB hM h34 hge hm0
          go_wp2_with (first | (go_at_call 67; (with_reducible refine hpk.out.mono ?_); rintro r w' ⟨rfl, nq, rfl⟩))
          go_ret
          exact ⟨_, _, _, _, _, rfl, hbs.out _, hset.out _, by rw [hMn.out]; exact ⟨rfl, rfl, rfl⟩⟩
        · by_cases h92 : (byteAt l q).toNat = 92
          · have hMn := hM.trans (mText_esc h92)
            rw [h92] at hpk
            have c1 := hL.c1
            have f1 := hL.f 1
            have hset := fun n => (hL.drewN n).setAt (q + 1) (by omega)
            have hbs := fun n => (near_drewN hB n).setX 1 (.int .i64 ((q + 1 : Nat) : Int))
            rw [show ((q + 1 : Nat) : Int) = (q : Int) + 1 from by omega] at hset hbs
            have hesc := Lib.hid fun n => escape_any (hset n) (by omega)
            replace hset := Lib.hid hset
            replace hbs := Lib.hid hbs
            replace hpk := Lib.hid hpk
            replace hm0 := Lib.hid hm0
            replace hMn := Lib.hid hMn
            clear hL hB hM h92 hge h34
            go_wp2_with (first | (go_at_call 67; (with_reducible refine hpk.out.mono ?_); rintro r w' ⟨rfl, nq, rfl⟩))
            refine (hesc.out _).mono ?_
            rintro r w2 ⟨p2, e2, tv2, T2, rfl, hB2, hL2, hres⟩
            have hrel : QRel w X B a b off c l M w2 ∧ lexMeas w2 X l.length < l.length + 1 - q := by
              refine ⟨⟨(hbs.out _).trans hB2, p2, e2, tv2, T2, hL2, ?_⟩, ?_⟩
              · unfold EscRes at hres
                rw [hMn.out]
                cases hm : mEsc l (q + 1) with
                | none => rw [hm] at hres; exact .inr ⟨hres, rfl⟩
                | some x =>
                  obtain ⟨bs, q2⟩ := x
                  rw [hm] at hres
                  obtain ⟨rfl, rfl, rfl⟩ := hres
                  have := mEsc_bound hm
                  exact .inl ⟨rfl, by rw [List.length_append]; omega, rfl⟩
              · unfold EscRes at hres
                cases hm : mEsc l (q + 1) with
                | none =>
                  rw [hm] at hres
                  obtain rfl : e2 = 20 := hres
                  rw [hL2.measE (by decide)]; omega
                | some x =>
                  obtain ⟨bs, q2⟩ := x
                  rw [hm] at hres
                  obtain ⟨rfl, rfl, rfl⟩ := hres
                  have := mEsc_bound hm
                  rw [hL2.meas0]; omega
            replace hrel := Lib.hid hrel
            clear hB2 hL2 hres hesc hset hbs
            go_wp2
            go_roundw
            case rel => exact hrel.out.1
            case measure => rw [hm0.out]; exact hrel.out.2
          · have hmt := mText_char (T := T) hq hge h34 h92
            have hmb := mText_bad (T := T) hq hge h34 h92
            have hle : (((byteAt l q).toNat : Int) < 32) = False := by simp; omega
            have d32 : decide (((byteAt l q).toNat : Int) < 32) = false := by simp; omega
            have d34 : (((byteAt l q).toNat : Int) == 34) = false := by simp; omega
            have d92 : (((byteAt l q).toNat : Int) == 92) = false := by simp; omega
            obtain ⟨y, hy⟩ : ∃ y : Int, y = ((byteAt l q).toNat : Int) := ⟨_, rfl⟩
            rw [← hy] at hpk d32 d34 d92
            have c0 := hL.c0
            have c1 := hL.c1
            have hut := fun n => (utake_any a b off c l q (wr.drewN n) (hL.drewN n).bytes hL.big hpos).mono (fun _ _ h => And.intro h.1 h.2.symm)
            replace hpk := Lib.hid hpk
            replace hm0 := Lib.hid hm0
            clear hle hge h34 h92 hy
            by_cases hu : uerr l q = 0
            · have hub := ulen_bound hu
              have hMn := hM.trans (hmt hu)
              rw [utv_good hu] at hut
              obtain ⟨nx, hnx⟩ : ∃ nx, nx = q + ulen l q := ⟨_, rfl⟩
              rw [show (q : Int) + (ulen l q : Int) = (nx : Int) from by omega] at hut
              rw [← hnx, show ulen l q = nx - q from by omega] at hMn
              have hqn : q < nx ∧ nx ≤ l.length := by omega
              obtain ⟨uv, huv⟩ : ∃ uv : Int, uv = (uval l q (ulen l q - 1) : Int) := ⟨_, rfl⟩
              rw [← huv] at hut
              replace hut := Lib.hid hut
              replace hMn := Lib.hid hMn
              clear hmt hmb huv hnx hub hu hM hfail
              have hLx := hLn
              have hBx := hBn
              clear hLn hBn hL hB
              go_wp2_with (go_at_call 67; (with_reducible refine hpk.out.mono ?_); rintro r w' ⟨rfl, nq, rfl⟩)
              go_quiet ((go_at_call 71; first | with_reducible exact Calls.quiet_of_same (hut.out _) | with_reducible exact quiet_add_same (hut.out _)))
              go_wp2_with fail
              refine wp_gen (fun W => Lex W X B a b off c l q 0 tv T ∧ Near X B w W) ?_ _ ⟨hLx.out _, hBx.out _⟩
              clear hLx hBx hpk hut c0 c1
              intro W hWW
              obtain ⟨hL, hB⟩ := hWW
              have c0 := hL.c0
              have c1 := hL.c1
              have c3 := hL.c3
              have f3 := hL.f 3
              have f1 := hL.f 1
              have hLl := hL.blk.lt
              have hne : some X ≠ tv.ownBlock := (hL.own.far hL.hXB).symm
              have hbig := hL.big
              have hlen := hL.len
              have hms := fun W => slice_mid a l.length c q nx (by omega) (by omega) W
              have hmid := hL.bytes.mid hL.len q nx
              have hml : nx - q = ((l.drop q).take (nx - q)).length := by simp; omega
              obtain ⟨md, hmd⟩ : ∃ md, md = (l.drop q).take (nx - q) := ⟨_, rfl⟩
              rw [← hmd] at hmid hml
              replace hmd := Lib.hid hmd
              replace hml := Lib.hid hml
              replace hne := Lib.hid hne
              obtain ⟨H, hWs⟩ : ∃ H, W.heap.size = H := ⟨_, rfl⟩
              go_region_law (refine step_appendB (by rfl) _ _ (by rfl) (by rfl) B tv T md (tl a q c) b (off + q) (nx - q) (c - q) (by rfl) (by rfl) (by exact hL.own) hml.out (by exact hmid) (by exact tl_nil hL.nil) (by have := hml.out; omega) (by exact hL.hBs) ?_; intro a2 c2 w2 L2 hL2 hown2 hg; have k1 := (hg.out.cell_far ⟨X, 3, none⟩ hLl hne.out).trans c3; have k2 := (hg.out.frozen_far ⟨X, 3, none⟩ hLl hne.out).trans f3; have k3 := (hg.out.cell_far ⟨X, 0, none⟩ hLl hne.out).trans c0; have k4 := (hg.out.cell_far ⟨X, 1, none⟩ hLl hne.out).trans c1; have k5 := (hg.out.frozen_far ⟨X, 1, none⟩ hLl hne.out).trans f1)
              all_goals
                have hgr := below_own (w := W.drew) hL.own hg.out (Below.refl B W).drew (Nat.le_refl _) (by exact hL.hBs)
                have hfin := hL.text hgr hown2
                have hset := (hfin.1.setAt nx (by omega))
                have hbs := (hB.trans hfin.2).setX 1 (.int .i64 (nx : Int))
                have hlenm := hml.out
                have hL2' := hL2.out
                have hrel : QRel w X B a b off c l M _ ∧ lexMeas _ X l.length < l.length + 1 - q := ⟨⟨hbs, _, _, _, _, hset, .inl ⟨rfl, by rw [hL2', List.length_append]; omega, by rw [hL2', hmd.out]; exact hMn.out⟩⟩, by rw [hset.meas0]; omega⟩
                replace hrel := Lib.hid hrel
                clear hg k1 k2 k3 hL c0 c1 c3 f3 f1 hown2 hgr hfin hset hbs hms hmid hlenm hL2' hL2 hml hmd hne hWs hB
                go_wp2
                go_roundw
                case rel => exact hrel.out.1
                case measure => rw [hm0.out]; exact hrel.out.2
            · have hMn := hM.trans (hmb hu)
              obtain ⟨ue, hue⟩ : ∃ ue, uerr l q = ue := ⟨_, rfl⟩
              obtain ⟨nx, hnx⟩ : ∃ nx, nx = q := ⟨_, rfl⟩
              have hutv : utv l q = .tuple #[.int .i32 0, .int .i64 (nx : Int), .int .i64 (ue : Int)] := by rw [hnx]; exact utv_bad hue (by omega)
              rw [hutv] at hut
              have hqn : q ≤ nx ∧ nx ≤ l.length := by omega
              have due : ((ue : Int) != 0) = true := by rw [bne_iff_ne]; omega
              have hLx := Lib.hid fun n => (hL.drewN n).setE 20
              have hBx := Lib.hid fun n => (near_drewN hB n).setX 2 (.int .i64 20)
              replace hut := Lib.hid hut
              replace hMn := Lib.hid hMn
              clear hmt hmb hu hue hM hutv hnx
              clear hLn hBn hL hB
              go_wp2_with (go_at_call 67; (with_reducible refine hpk.out.mono ?_); rintro r w' ⟨rfl, nq, rfl⟩)
              go_quiet ((go_at_call 71; first | with_reducible exact Calls.quiet_of_same (hut.out _) | with_reducible exact quiet_add_same (hut.out _)))
              go_wp2_with (go_at_call 68; (with_reducible refine (hfail.out _ _).mono ?_); rintro r w' ⟨rfl, rfl⟩)
              go_wp2_with fail
              refine wp_gen (fun W => Lex W X B a b off c l q 20 tv T ∧ Near X B w W) ?_ _ ⟨hLx.out _, hBx.out _⟩
              clear hLx hBx hpk hut c0 c1 hfail
              intro W hWW
              obtain ⟨hL, hB⟩ := hWW
              have c0 := hL.c0
              have c1 := hL.c1
              have c3 := hL.c3
              have f3 := hL.f 3
              have f1 := hL.f 1
              have hLl := hL.blk.lt
              have hne : some X ≠ tv.ownBlock := (hL.own.far hL.hXB).symm
              have hbig := hL.big
              have hlen := hL.len
              have hms := fun W => slice_mid a l.length c q nx (by omega) (by omega) W
              have hmid := hL.bytes.mid hL.len q nx
              have hml : nx - q = ((l.drop q).take (nx - q)).length := by simp; omega
              obtain ⟨md, hmd⟩ : ∃ md, md = (l.drop q).take (nx - q) := ⟨_, rfl⟩
              rw [← hmd] at hmid hml
              replace hmd := Lib.hid hmd
              replace hml := Lib.hid hml
              replace hne := Lib.hid hne
              obtain ⟨H, hWs⟩ : ∃ H, W.heap.size = H := ⟨_, rfl⟩
              go_region_law (refine step_appendB (by rfl) _ _ (by rfl) (by rfl) B tv T md (tl a q c) b (off + q) (nx - q) (c - q) (by rfl) (by rfl) (by exact hL.own) hml.out (by exact hmid) (by exact tl_nil hL.nil) (by have := hml.out; omega) (by exact hL.hBs) ?_; intro a2 c2 w2 L2 hL2 hown2 hg; have k1 := (hg.out.cell_far ⟨X, 3, none⟩ hLl hne.out).trans c3; have k2 := (hg.out.frozen_far ⟨X, 3, none⟩ hLl hne.out).trans f3; have k3 := (hg.out.cell_far ⟨X, 0, none⟩ hLl hne.out).trans c0; have k4 := (hg.out.cell_far ⟨X, 1, none⟩ hLl hne.out).trans c1; have k5 := (hg.out.frozen_far ⟨X, 1, none⟩ hLl hne.out).trans f1)
              all_goals
                have hgr := below_own (w := W.drew) hL.own hg.out (Below.refl B W).drew (Nat.le_refl _) (by exact hL.hBs)
                have hfin := hL.text hgr hown2
                have hset := (hfin.1.setAt nx (by omega))
                have hbs := (hB.trans hfin.2).setX 1 (.int .i64 (nx : Int))
                have hlenm := hml.out
                have hL2' := hL2.out
                have hrel : QRel w X B a b off c l M _ ∧ lexMeas _ X l.length < l.length + 1 - q := ⟨⟨hbs, _, _, _, _, hset, .inr ⟨rfl, hMn.out⟩⟩, by rw [hset.measE (by decide)]; omega⟩
                replace hrel := Lib.hid hrel
                clear hg k1 k2 k3 hL c0 c1 c3 f3 f1 hown2 hgr hfin hset hbs hms hmid hlenm hL2' hL2 hml hmd hne hWs hB
                go_wp2
                go_roundw
                case rel => exact hrel.out.1
                case measure => rw [hm0.out]; exact hrel.out.2
    · have hfin := Lib.hid hL
      have hBB := Lib.hid hB
      clear hL hB
      go_wp2
      go_ret
      exact ⟨_, _, _, _, _, rfl, hBB.out, hfin.out, by rw [hM]; exact ⟨rfl, rfl⟩⟩

end Go.Proofs.YticfioblapjkmaaGreat

namespace Go.Proofs.YticfioblapjkmaaGreat
open Go.RowKit
set_option linter.unusedVariables false
set_option linter.unusedSimpArgs false

def sTrue : ByteArray := ⟨#[116, 114, 117, 101]⟩
def sFalse : ByteArray := ⟨#[102, 97, 108, 115, 101]⟩
def sNull : ByteArray := ⟨#[110, 117, 108, 108]⟩
set_option maxRecDepth 100000 in
theorem letters_any (w : World) : Calls Tryz.prog 64 #[] w fun r w' => r = .returned (.agg #[.string sTrue, .int .i64 7, .int .i64 1, .string sFalse, .int .i64 7, .int .i64 0, .string sNull, .int .i64 8, .int .i64 0]) ∧ Below w.heap.size w w' := by
  have hb := fun o => (Below.refl w.heap.size w).alloc (Nat.le_refl _) o
  obtain ⟨H, hH⟩ : ∃ H, w.heap.size = H := ⟨_, rfl⟩
  rw [hH] at hb ⊢
  go_enter Tryz.func64, Tryz.ntmps64
  go_wp2
  have hk := fun j => (Blk.made w #[.string ⟨#[116, 114, 117, 101]⟩, .int .i64 7, .int .i64 1, .string ⟨#[102, 97, 108, 115, 101]⟩, .int .i64 7, .int .i64 0, .string ⟨#[110, 117, 108, 108]⟩, .int .i64 8, .int .i64 0] 102 H hH).cell j
  refine bodyPost_ret (by simp [results, Tryz.results64, go_sem, hk]; rfl) rfl ?_
  exact ⟨rfl, hb _⟩

/-- The signs, by their kinds; 0: none. -/
def signOf (c : UInt8) : Nat :=
  if c.toNat = 123 then 1 else if c.toNat = 125 then 2 else if c.toNat = 91 then 3 else if c.toNat = 93 then 4 else if c.toNat = 58 then 5 else if c.toNat = 44 then 6 else 0
def signIdx (y : Int) : Int := Lib.indexByte [123, 125, 91, 93, 58, 44] y.toNat.toUInt8
theorem signIdx_any (y : Int) (w : World) :
    Calls Tryz.prog 41 #[.string ⟨#[123, 125, 91, 93, 58, 44]⟩, .int .u8 y] w fun r w' => r = .returned (.int .i64 (signIdx y)) ∧ w = w' :=
  indexByte_any _ y w
theorem signIdx_all : ∀ y : Nat, y < 256 → signIdx (y : Int) = (signOf y.toUInt8 : Int) - 1 := by decide +kernel
theorem signIdx_of (c : UInt8) : signIdx (c.toNat : Int) = (signOf c : Int) - 1 := by
  have := signIdx_all c.toNat c.toNat_lt
  rwa [show c.toNat.toUInt8 = c from by simp] at this
/-- A word: why it is none, its kind, its number, its text, where it ends. -/
structure MW where
  e : Nat
  k : Nat
  n : Int
  s : List UInt8
  nx : Nat
deriving DecidableEq
def mNamed (l : List UInt8) (p : Nat) : Option (Nat × Int × Nat) :=
  if sTrue.data.toList.isPrefixOf (l.drop p) = true then some (7, 1, 4) else if sFalse.data.toList.isPrefixOf (l.drop p) = true then some (7, 0, 5) else if sNull.data.toList.isPrefixOf (l.drop p) = true then some (8, 0, 4) else none
def mLet (l : List UInt8) (p : Nat) : MW :=
  match mNamed l p with
  | some (k, n, m) => if isLet (byteAt l (p + m)) = true then ⟨20, 0, 0, [], 0⟩ else ⟨0, k, n, [], p + m⟩
  | none => ⟨20, 0, 0, [], 0⟩
def mWord (l : List UInt8) (p : Nat) : MW :=
  if signOf (byteAt l p) ≠ 0 then ⟨0, signOf (byteAt l p), 0, [], p + 1⟩
  else if (byteAt l p).toNat = 34 then (match mText l (p + 1) [] with | some (S, q) => ⟨0, 10, 0, S, q⟩ | none => ⟨20, 0, 0, [], 0⟩)
  else if (byteAt l p).toNat = 45 ∨ isDig (byteAt l p) = true then (if mnErr l p = 0 then ⟨0, 9, mnInt l p, [], mnEnd l p⟩ else ⟨mnErr l p, 0, 0, [], 0⟩)
  else mLet l p
def nilB : Value := .slice none 0 0
variable {w : World} {X B : Nat} {a : Option Addr} {b off c : Nat} {l : List UInt8} {p : Nat} {e : Int} {tv : Value} {T : List UInt8}
theorem Lex.rebase (h : Lex w X B a b off c l p e nilB []) {B' : Nat} (h1 : X < B') (h2 : B' ≤ w.heap.size) : Lex w X B' a b off c l p e nilB [] :=
  ⟨h.blk, h.bytes, h.apart, OwnB.nil _ _, h.len, h.big, h.pos, h.nil, h1, h2⟩
theorem Lex.put (h : Lex w X B a b off c l p e tv T) {H : Nat} (h1 : X < H) (h2 : H < B) (j : Nat) (v : Value) : Lex (w.setCell ⟨H, j, none⟩ v) X B a b off c l p e tv T :=
  have hb := (Below.refl H w).setCell (p := ⟨H, j, none⟩) (Nat.le_refl _) v
  ⟨h.blk.kept hb h1, h.bytes.keep (hb.mono (Nat.le_of_lt h1)) h.apart, h.apart, own_other h.own h2 (setCell_grown w H j v), h.len, h.big, h.pos, h.nil, h.hXB, by simpa using h.hBs⟩
def put5 (w : World) (H : Nat) (v0 v1 v2 v3 v4 : Value) : World :=
  (((((w.setCell ⟨H, 0, none⟩ v0).setCell ⟨H, 1, none⟩ v1).setCell ⟨H, 2, none⟩ v2).setCell ⟨H, 3, none⟩ v3).setCell ⟨H, 4, none⟩ v4)
theorem put5_cell {H : Nat} {z0 z1 z2 z3 z4 : Value} {t : TypeId} (hZ : Blk w H #[z0, z1, z2, z3, z4] t) (v0 v1 v2 v3 v4 : Value) (j : Nat) :
    (put5 w H v0 v1 v2 v3 v4).cell? ⟨H, j, none⟩ = (#[v0, v1, v2, v3, v4] : Array Value)[j]? :=
  (((((hZ.set 0 v0).set 1 v1).set 2 v2).set 3 v3).set 4 v4).cell j
theorem Lex.put5 (h : Lex w X B a b off c l p e tv T) {H : Nat} (h1 : X < H) (h2 : H < B) (v0 v1 v2 v3 v4 : Value) : Lex (put5 w H v0 v1 v2 v3 v4) X B a b off c l p e tv T :=
  ((((h.put h1 h2 0 v0).put h1 h2 1 v1).put h1 h2 2 v2).put h1 h2 3 v3).put h1 h2 4 v4
theorem below_put5 {w0 : World} (h : Below X w0 w) {H : Nat} (h1 : X ≤ H) (v0 v1 v2 v3 v4 : Value) : Below X w0 (Go.Proofs.YticfioblapjkmaaGreat.put5 w H v0 v1 v2 v3 v4) :=
  ((((h.setCell (p := ⟨H, 0, none⟩) h1 v0).setCell (p := ⟨H, 1, none⟩) h1 v1).setCell (p := ⟨H, 2, none⟩) h1 v2).setCell (p := ⟨H, 3, none⟩) h1 v3).setCell (p := ⟨H, 4, none⟩) h1 v4
theorem word_ret {W : World} {H : Nat} {v0 v1 v2 v3 v4 : Value} (tmps : Array Value) (hz : tmps[4]?.getD undef = .pointer (some ⟨H, 0, none⟩)) (hc : ∀ j, W.cell? ⟨H, j, none⟩ = (#[v0, v1, v2, v3, v4] : Array Value)[j]?) :
    (results Tryz.f51 tmps).run Tryz.prog W = .ok (.agg #[v0, v1, v2, v3, v4]) W := by
  simp [results, Tryz.results51, go_sem, hz, hc]
def WPost (w : World) (X : Nat) (a : Option Addr) (b off c : Nat) (l : List UInt8) (p : Nat) (r : Ending) (w' : World) : Prop :=
  ∃ (k n : Int) (s : ByteArray) (B p' : Nat) (tv : Value) (T : List UInt8), r = .returned (.agg #[.int .i64 k, .int .i64 n, .string s, .int .i64 0, .int .i64 0]) ∧ Below X w w' ∧ Lex w' X B a b off c l p' ((mWord l p).e : Int) tv T ∧
    ((mWord l p).e = 0 → k = ((mWord l p).k : Int) ∧ n = (mWord l p).n ∧ s = str (mWord l p).s ∧ p' = (mWord l p).nx)

set_option maxRecDepth 100000 in
set_option maxHeartbeats 2000000 in
theorem word_sign (h : Lex w X B a b off c l p 0 nilB []) (hp : p < l.length) (hs : signOf (byteAt l p) ≠ 0) :
    Calls Tryz.prog 51 #[.pointer (some ⟨X, 0, none⟩), .int .u8 ((byteAt l p).toNat : Int)] w (WPost w X a b off c l p) := by
  have hm : mWord l p = ⟨0, signOf (byteAt l p), 0, [], p + 1⟩ := by unfold mWord; rw [if_pos hs]
  have hi := signIdx_of (byteAt l p)
  unfold WPost
  rw [hm]
  obtain ⟨k, hk⟩ : ∃ k, k = signOf (byteAt l p) := ⟨_, rfl⟩
  rw [← hk] at hi hs ⊢
  obtain ⟨k, rfl⟩ : ∃ j, k = j + 1 := ⟨k - 1, by omega⟩
  have hi' : signIdx ((byteAt l p).toNat : Int) = (k : Int) := by rw [hi]; omega
  have hk6 : k < 6 := by
    unfold signOf at hk
    split at hk <;> first | omega | skip
    split at hk <;> first | omega | skip
    split at hk <;> first | omega | skip
    split at hk <;> first | omega | skip
    split at hk <;> first | omega | skip
    split at hk <;> omega
  obtain ⟨y, hy⟩ : ∃ y : Int, y = ((byteAt l p).toNat : Int) := ⟨_, rfl⟩
  rw [← hy] at hi' ⊢
  have hXs := h.blk.lt
  have hpb := h.big
  obtain ⟨H, hH⟩ : ∃ H, w.heap.size = H := ⟨_, rfl⟩
  have hA := fun o => (h.alloc o).rebase (B' := H + 1) (by omega) (by simp; omega)
  have hB := fun o => (Below.refl X w).alloc (Nat.le_of_lt hXs) o
  have c1 := fun o => (hA o).c1
  have f1 := fun o => (hA o).f 1
  have hz := fun C T => Blk.made w C T H hH
  have hset := fun o => (hA o).setAt (p + 1) (by omega)
  have hbs := fun o => (hB o).setCell (p := ⟨X, 1, none⟩) (Nat.le_refl _) (.int .i64 ((p + 1 : Nat) : Int))
  have hzs := fun C T => (hz C T).other (setCell_grown _ X 1 (.int .i64 ((p + 1 : Nat) : Int))) (by simp; omega)
  rw [show ((p + 1 : Nat) : Int) = (p : Int) + 1 from by omega] at hset hbs hzs
  replace hset := Lib.hid hset
  replace hbs := Lib.hid hbs
  replace hzs := Lib.hid hzs
  replace hi' := Lib.hid hi'
  clear h hm hi hs hk hy hA hz hB
  go_enter Tryz.func51, Tryz.ntmps51
  go_wp2
  go_step3
  go_wp2_with (go_at_call 41; refine (signIdx_any _ _).mono ?_; rintro r w' ⟨rfl, rfl⟩; rw [hi'.out])
  rw [Exit.noGoto_ret]
  refine bodyPost_ret (word_ret _ (by rfl) (put5_cell (hzs.out _ _) _ _ _ _ _)) rfl ?_
  exact ⟨_, _, _, _, _, _, _, rfl, below_put5 (hbs.out _) (by omega) _ _ _ _ _, (hset.out _).put5 (by omega) (by omega) _ _ _ _ _, fun _ => ⟨by omega, rfl, rfl, rfl⟩⟩

theorem Blk.near {w w' : World} {X B H : Nat} {C : Array Value} {T : TypeId} (h : Blk w H C T) (hn : Near X B w w') (h1 : H < B) (h2 : H ≠ X) : Blk w' H C T := (hn.far H h1 h2).trans h

set_option maxRecDepth 100000 in
set_option maxHeartbeats 2000000 in
theorem word_quote (h : Lex w X B a b off c l p 0 nilB []) (hp : p < l.length) (hc : (byteAt l p).toNat = 34) :
    Calls Tryz.prog 51 #[.pointer (some ⟨X, 0, none⟩), .int .u8 ((byteAt l p).toNat : Int)] w (WPost w X a b off c l p) := by
  have hs : signOf (byteAt l p) = 0 := by unfold signOf; rw [hc]; rfl
  have hm : mWord l p = (match mText l (p + 1) [] with | some (S, q) => ⟨0, 10, 0, S, q⟩ | none => ⟨20, 0, 0, [], 0⟩) := by unfold mWord; rw [if_neg (by omega), if_pos hc]
  have hi := signIdx_of (byteAt l p)
  rw [hs] at hi
  rw [show ((byteAt l p).toNat : Int) = 34 from by omega] at hi ⊢
  unfold WPost
  have hXs := h.blk.lt
  have hpb := h.big
  obtain ⟨H, hH⟩ : ∃ H, w.heap.size = H := ⟨_, rfl⟩
  have hA := fun o => (h.alloc o).rebase (B' := H + 1) (by omega) (by simp; omega)
  have hB := fun o => (Below.refl X w).alloc (Nat.le_of_lt hXs) o
  have c1 := fun o => (hA o).c1
  have f1 := fun o => (hA o).f 1
  have hz := fun C T => Blk.made w C T H hH
  have hset := fun o => (hA o).setAt (p + 1) (by omega)
  have hbs := fun o => (hB o).setCell (p := ⟨X, 1, none⟩) (Nat.le_refl _) (.int .i64 ((p + 1 : Nat) : Int))
  have hzs := fun C T => (hz C T).other (setCell_grown _ X 1 (.int .i64 ((p + 1 : Nat) : Int))) (by simp; omega)
  rw [show ((p + 1 : Nat) : Int) = (p : Int) + 1 from by omega] at hset hbs hzs
  have hq := Lib.hid fun o => quoted_any (hset o) (by simp)
  replace hbs := Lib.hid hbs
  replace hzs := Lib.hid hzs
  replace hi := Lib.hid hi
  replace hm := Lib.hid hm
  clear h hc hs hA hz hB hset
  go_enter Tryz.func51, Tryz.ntmps51
  go_wp2
  go_step3
  go_wp2_with (go_at_call 41; refine (signIdx_any _ _).mono ?_; rintro r w' ⟨rfl, rfl⟩; rw [show signIdx 34 = -1 from hi.out])
  refine (hq.out _).mono ?_
  rintro r w2 ⟨s, p2, e2, tv2, T2, rfl, hN, hL, hres⟩
  have hZ := (hzs.out _ _).near hN (by omega) (by omega)
  have hBw := (hbs.out _).trans hN.below
  have ck := fun j => hZ.cell j
  have fk := fun j => hZ.free j
  replace hZ := Lib.hid hZ
  replace hBw := Lib.hid hBw
  replace hL := Lib.hid hL
  replace hres := Lib.hid hres
  clear hN hq hbs hzs c1 f1 hi
  go_wp2_with fail
  rw [Exit.noGoto_ret]
  refine bodyPost_ret (word_ret _ (by rfl) (put5_cell hZ.out _ _ _ _ _)) rfl ?_
  have hr := hres.out
  unfold QRes at hr
  have hfin := hL.out.put5 (H := H) (by omega) (by omega) (.int .i64 10) (.int .i64 0) (.string s) (.int .i64 0) (.int .i64 0)
  rw [hm.out]
  cases hM : mText l (p + 1) [] with
  | none =>
    rw [hM] at hr
    obtain ⟨rfl, rfl⟩ := hr
    exact ⟨_, _, _, _, _, _, _, rfl, below_put5 hBw.out (by omega) _ _ _ _ _, hfin, fun h => by simp at h⟩
  | some x =>
    obtain ⟨S, q⟩ := x
    rw [hM] at hr
    obtain ⟨rfl, rfl, rfl⟩ := hr
    exact ⟨_, _, _, _, _, _, _, rfl, below_put5 hBw.out (by omega) _ _ _ _ _, hfin, fun _ => ⟨rfl, rfl, rfl, rfl⟩⟩

theorem signOf_num {c : UInt8} (h : c.toNat = 45 ∨ isDig c = true) : signOf c = 0 ∧ c.toNat ≠ 34 := by
  have : c.toNat = 45 ∨ 48 ≤ c.toNat ∧ c.toNat ≤ 57 := by
    rcases h with h | h
    · exact .inl h
    · unfold isDig at h; exact .inr (by simpa using h)
  unfold signOf
  refine ⟨?_, by omega⟩
  rw [if_neg (by omega), if_neg (by omega), if_neg (by omega), if_neg (by omega), if_neg (by omega), if_neg (by omega)]

set_option maxRecDepth 100000 in
set_option maxHeartbeats 2000000 in
theorem word_number (h : Lex w X B a b off c l p 0 nilB []) (hp : p < l.length) (hc : (byteAt l p).toNat = 45 ∨ isDig (byteAt l p) = true) :
    Calls Tryz.prog 51 #[.pointer (some ⟨X, 0, none⟩), .int .u8 ((byteAt l p).toNat : Int)] w (WPost w X a b off c l p) := by
  obtain ⟨hs, hc34⟩ := signOf_num hc
  have hm : mWord l p = (if mnErr l p = 0 then ⟨0, 9, mnInt l p, [], mnEnd l p⟩ else ⟨mnErr l p, 0, 0, [], 0⟩) := by unfold mWord; rw [if_neg (by omega), if_neg hc34, if_pos hc]
  have hi := signIdx_of (byteAt l p)
  rw [hs] at hi
  have h34 : (((byteAt l p).toNat : Int) == 34) = false := by simp; omega
  unfold WPost
  have hXs := h.blk.lt
  have hpb := h.big
  obtain ⟨H, hH⟩ : ∃ H, w.heap.size = H := ⟨_, rfl⟩
  have hA := fun o => (h.alloc o).rebase (B' := H + 1) (by omega) (by simp; omega)
  have hbs := fun o => (Below.refl X w).alloc (Nat.le_of_lt hXs) o
  have hzs := fun C T => Blk.made w C T H hH
  have hq := Lib.hid fun o => number_any (hA o)
  have hdg := Lib.hid fun w => digit_any (byteAt l p) w
  replace hbs := Lib.hid hbs
  replace hzs := Lib.hid hzs
  replace hm := Lib.hid hm
  have h45 : (((byteAt l p).toNat : Int) == 45) = true ∨ ((((byteAt l p).toNat : Int) == 45) = false ∧ isDig (byteAt l p) = true) := by
    by_cases h : (byteAt l p).toNat = 45
    · left; rw [h]; rfl
    · right; exact ⟨by simp; omega, hc.resolve_left h⟩
  obtain ⟨dg, hdgv⟩ : ∃ dg, dg = isDig (byteAt l p) := ⟨_, rfl⟩
  rw [← hdgv] at h45 hdg
  obtain ⟨y, hy⟩ : ∃ y : Int, y = ((byteAt l p).toNat : Int) := ⟨_, rfl⟩
  rw [← hy] at hi h34 h45 hdg ⊢
  replace hi := Lib.hid hi
  clear h hc hs hA hc34 hy hdgv
  rcases h45 with h45 | ⟨h45, rfl⟩
  all_goals
    go_enter Tryz.func51, Tryz.ntmps51
    go_wp2
    go_step3
    go_wp2_with (first | (go_at_call 41; refine (signIdx_any _ _).mono ?_; rintro r w' ⟨rfl, rfl⟩; rw [show signIdx y = -1 from hi.out]) | (go_at_call 62; refine (hdg.out _).mono ?_; rintro r w' ⟨rfl, rfl⟩))
    refine (hq.out _).mono ?_
    rintro r w2 ⟨v, p2, rfl, hN, hL, hres⟩
    have hZ := (hzs.out _ _).near hN (by omega) (by omega)
    have hBw := (hbs.out _).trans hN.below
    have ck := fun j => hZ.cell j
    have fk := fun j => hZ.free j
    replace hZ := Lib.hid hZ
    replace hBw := Lib.hid hBw
    replace hL := Lib.hid hL
    replace hres := Lib.hid hres
    clear hN hq hbs hzs hi
    go_wp2_with fail
    rw [Exit.noGoto_ret]
    refine bodyPost_ret (word_ret _ (by rfl) (put5_cell hZ.out _ _ _ _ _)) rfl ?_
    have hr := hres.out
    have hfin := hL.out.put5 (H := H) (by omega) (by omega) (.int .i64 9) (.int .i64 v) (.string ⟨#[]⟩) (.int .i64 0) (.int .i64 0)
    rw [hm.out]
    by_cases hM : mnErr l p = 0
    · obtain ⟨rfl, rfl⟩ := hr hM
      rw [if_pos hM]
      rw [hM] at hfin
      exact ⟨_, _, _, _, _, _, _, rfl, below_put5 hBw.out (by omega) _ _ _ _ _, hfin, fun _ => ⟨rfl, rfl, rfl, rfl⟩⟩
    · rw [if_neg hM]
      exact ⟨_, _, _, _, _, _, _, rfl, below_put5 hBw.out (by omega) _ _ _ _ _, hfin, fun h => absurd h hM⟩

end Go.Proofs.YticfioblapjkmaaGreat
