/- The reference's text. -/
import Derived.Test.YtmembanbemljoaaRefA
import Derived.Test.YtmembanbemljoaaPutb
namespace Go.Proofs.Ytmembanbemljoaa
open Go.RowKit
set_option linter.unusedVariables false
set_option linter.unusedSimpArgs false

theorem mText_escn {l : List UInt8} {p : Nat} {T : List UInt8} (h : (byteAt l p).toNat = 92) (hm : mEsc l (p + 1) = none) : mText l p T = none := by rw [mText_esc h, hm]
theorem mText_escs {l : List UInt8} {p q : Nat} {T bs : List UInt8} (h : (byteAt l p).toNat = 92) (hm : mEsc l (p + 1) = some (bs, q)) : mText l p T = mText l q (T ++ bs) := by rw [mText_esc h, hm]
theorem escOf_none {c : UInt8} (h : escOf c = none) : c.toNat ≠ 34 ∧ c.toNat ≠ 47 ∧ c.toNat ≠ 92 ∧ c.toNat ≠ 98 ∧ c.toNat ≠ 102 ∧ c.toNat ≠ 110 ∧ c.toNat ≠ 114 ∧ c.toNat ≠ 116 := by
  unfold escOf at h
  refine ⟨?_, ?_, ?_, ?_, ?_, ?_, ?_, ?_⟩ <;> (intro e; rw [e] at h; simp at h)
theorem pre_u {l : List UInt8} {p : Nat} : ([92, 117] : List UInt8).isPrefixOf (l.drop p) = true ↔ (byteAt l p).toNat = 92 ∧ (byteAt l (p + 1)).toNat = 117 := by
  rw [pre_iff _ _ (by simp)]
  constructor
  · rintro ⟨h1, h2⟩
    have a0 := h2 0 (by simp)
    have a1 := h2 1 (by simp)
    rw [Nat.add_zero] at a0
    rw [a0, a1]
    exact ⟨rfl, rfl⟩
  · rintro ⟨h1, h2⟩
    have q := byteAt_in (l := l) (p := p + 1) (by rw [h2]; decide)
    refine ⟨by simp; omega, fun i hi => ?_⟩
    simp at hi
    have hi : i = 0 ∨ i = 1 := by omega
    rcases hi with rfl | rfl
    · exact u8_eq h1 (by decide)
    · exact u8_eq h2 (by decide)
theorem own_keep {w w' : World} {base : Nat} {v : Value} {l : List UInt8} (h : OwnB w base v l) (hb : Below w.heap.size w w') : OwnB w' base v l :=
  World.ownsRow.kept h ⟨hb.os, hb.tape, hb.output, hb.size, fun k hk _ => hb.block k hk⟩ (row := none) (by
    cases hv : v.ownBlock with
    | none => exact .inl rfl
    | some k => exact .inr (by simp))
/-- What the reference's text tells. -/
def RTx (w : World) (M : Option (List UInt8 × Nat)) (r : Ending) (w' : World) : Prop :=
  ∃ (s : ByteArray) (nx : Int) (ok : Bool), r = .returned (.tuple #[.string s, .int .i64 nx, .bool ok]) ∧ Below w.heap.size w w' ∧ (match M with | some (S, q) => s = str S ∧ nx = (q : Int) ∧ ok = true | none => ok = false)
def TxRel (w : World) (M : Option (List UInt8 × Nat)) (l : List UInt8) (i v : Value) (wr : World) : Prop :=
  ∃ (p : Nat) (T : List UInt8), i = .int .i64 (p : Int) ∧ p ≤ l.length + 12 ∧ OwnB wr w.heap.size v T ∧ Below w.heap.size w wr ∧ T.length ≤ p ∧ M = mText l p T
set_option maxRecDepth 100000 in
set_option maxHeartbeats 8000000 in
theorem rtext_any {w : World} {a : Option Addr} {b off c : Nat} {l : List UInt8} (hbw : BytesAt w a b off l) (hlen : l.length ≤ c) (hbig : l.length ≤ 1000000) (hnil : a = none → c = 0) (p0 : Nat) (hp0 : p0 ≤ l.length) :
    Calls Try.prog 45 #[.slice a l.length c, .int .i64 (p0 : Int)] w (RTx w (mText l p0 [])) := by
  obtain ⟨M, hMM⟩ : ∃ M, M = mText l p0 [] := ⟨_, rfl⟩
  rw [← hMM]
  have h0 : TxRel w M l (.int .i64 (p0 : Int)) (.slice none 0 0) w := ⟨p0, [], rfl, by omega, OwnB.nil _ _, Below.refl _ _, by simp, hMM⟩
  replace h0 := Lib.hid h0
  have hbx := Lib.hid fun wr (h : Below w.heap.size w wr) => hbw.below h
  have hbl := Lib.hid fun (h : l ≠ []) => hbw.lt h
  clear hMM hbw
  go_enter Try.func45, Try.ntmps45
  go_wp2_with fail
  go_loopw [1, 7] (fun i v wr => TxRel w M l i v wr) (fun i _ _ => l.length - (intOf i).toNat)
  case atStart => exact h0.out
  case round =>
    obtain ⟨p, T, rfl, hp, hown, hB, hT, hM⟩ := hrel
    have hb := hbx.out _ hB
    have hsz := hB.size
    obtain ⟨K, hK⟩ : ∃ K, wr.heap.size = K := ⟨_, rfl⟩
    have hwK : w.heap.size ≤ K := by omega
    clear h0 hbx
    by_cases hlt : p < l.length
    · have hc0 := hb.2 p hlt
      have hi0 := fun W => hb.idx l.length c rfl (p : Int) W (by omega) (by omega)
      rw [Int.toNat_natCast] at hi0
      have e0 : l[p]?.getD 0 = byteAt l p := rfl
      rw [e0] at hc0
      have hpi : (p : Int) < (l.length : Int) := by omega
      have hx := (byteAt l p).toNat_lt
      by_cases h32 : (byteAt l p).toNat < 32
      · have hMf := Lib.hid (hM.trans (mText_low (.inr h32)))
        have h32i : decide ((32 : Int) ≤ ((byteAt l p).toNat : Int)) = false := by simp; omega
        have hB' := Lib.hid hB
        replace h32 := Lib.hid h32
        clear hB hb hown hM e0
        go_wp2_with fail
        go_ret3
        exact ⟨_, _, _, rfl, hB'.out, by rw [hMf.out]⟩
      have h32i : (32 : Int) ≤ ((byteAt l p).toNat : Int) := by omega
      by_cases h34 : (byteAt l p).toNat = 34
      · have hMf := Lib.hid (hM.trans (mText_quote h34))
        have h34i : (((byteAt l p).toNat : Int) == 34) = true := by rw [h34]; rfl
        have hstr := hown.toStr
        have hB' := Lib.hid hB
        replace h34 := Lib.hid h34
        clear hB hb hown hM e0
        go_wp2_with fail
        go_ret3
        exact ⟨_, _, _, rfl, hB'.out, by rw [hMf.out]; exact ⟨rfl, by simp, rfl⟩⟩
      have h34i : (((byteAt l p).toNat : Int) == 34) = false := by simp; omega
      by_cases h92 : (byteAt l p).toNat ≠ 92
      · have h92i : (((byteAt l p).toNat : Int) != 92) = true := by rw [bne_iff_ne]; omega
        have htk := rtake3_any hb hlen hbig hnil p hlt
        have hmc := mText_char (T := T) hlt (by omega) h34 h92
        have hmb := mText_bad (T := T) hlt (by omega) h34 h92
        have hub := ulen_bound (l := l) (p := p)
        replace htk := Lib.hid htk
        replace hmc := Lib.hid hmc
        replace hmb := Lib.hid hmb
        replace hM := Lib.hid hM
        have hB' := Lib.hid hB
        replace hown := Lib.hid hown
        have hb' := Lib.hid hb
        replace hub := Lib.hid hub
        replace h92 := Lib.hid h92
        replace h34 := Lib.hid h34
        replace h32 := Lib.hid h32
        clear hB hb e0
        go_wp2_with fail
        refine htk.out.mono ?_
        rintro r w2 ⟨v3, nx, e3, rfl, hb2, hg, hbd⟩
        by_cases hu : uerr l p = 0
        · obtain ⟨rfl, hnx⟩ := hg hu
          obtain ⟨pn, hpn⟩ : ∃ pn, pn = p + ulen l p := ⟨_, rfl⟩
          obtain rfl : nx = (pn : Int) := by omega
          obtain ⟨hu1, hu2⟩ := hub.out hu
          have hMn := Lib.hid (hM.out.trans (hmc.out hu))
          have hms := fun W => slice_mid a l.length c p pn (by omega) (by omega) W
          have hbm := ((hb'.out.below hb2).mid hlen p pn)
          rw [show pn - p = ulen l p from by omega] at hbm hms
          have hown2 := own_keep hown.out hb2
          have hB2 := Lib.hid (hB'.out.trans (hb2.mono hsz))
          have hs2 := hb2.size
          have hlen3 : ulen l p = ((l.drop p).take (ulen l p)).length := by simp; omega
          replace hlen3 := Lib.hid hlen3
          replace hown2 := Lib.hid hown2
          replace hbm := Lib.hid hbm
          replace hu := Lib.hid hu
          replace hpn := Lib.hid hpn
          clear hg hbd hnx htk hb2 hmc hmb
          go_wp2_with (at_builtin; refine wpList_appendB _ _ rfl rfl rfl _ _ T ((l.drop p).take (ulen l p)) (tl a p c) b (off + p) (ulen l p) (c - p) rfl rfl (by exact hown2.out) hlen3.out (by exact hbm.out) (by exact tl_nil hnil) (by have := hlen3.out; omega) (by omega) ?_)
          intro a2 c2 w3 L3 hL3 hown3 hg3
          have hBn := Lib.hid (below_own hown2.out hg3.out hB2.out (Nat.le_refl _) (by omega))
          replace hown3 := Lib.hid hown3
          clear hg3
          go_wp2_with fail
          go_roundw
          case rel => exact ⟨pn, L3, rfl, by have := hpn.out; omega, hown3.out, hBn.out, by have := hpn.out; have := hlen3.out; rw [hL3.out, List.length_append]; omega, by rw [hL3.out, hpn.out]; exact hMn.out⟩
          case measure => have := hpn.out; simp [intOf]; omega
        · have he := hbd hu
          have hei : (e3 != 0) = true := by rw [bne_iff_ne]; exact he
          have hMf := Lib.hid (hM.out.trans (hmb.out hu))
          have hB2 := Lib.hid (hB'.out.trans (hb2.mono hsz))
          replace he := Lib.hid he
          replace hu := Lib.hid hu
          clear hg hbd hb2 htk hmc hmb hB'
          have hB' := hB2
          go_wp2_with fail
          go_ret3
          exact ⟨_, _, _, rfl, hB'.out, by rw [hMf.out]⟩
      · have h92 : (byteAt l p).toNat = 92 := by omega
        have h92i : (((byteAt l p).toNat : Int) != 92) = false := by rw [h92]; rfl
        obtain ⟨p1, hp1⟩ : ∃ p1, p1 = p + 1 := ⟨_, rfl⟩
        obtain ⟨p2, hp2⟩ : ∃ p2, p2 = p + 2 := ⟨_, rfl⟩
        have hq1 : (p : Int) + 1 = (p1 : Int) := by omega
        have hqq2 : (p : Int) + 2 = (p2 : Int) := by omega
        have hq2 := Lib.hid hqq2
        have hat1 := rat_any (c := c) hb (p + 1)
        rw [← hp1] at hat1
        replace hp1 := Lib.hid hp1
        replace hp2 := Lib.hid hp2
        have hB' := Lib.hid hB
        replace hown := Lib.hid hown
        have hb' := Lib.hid hb
        replace hM := Lib.hid hM
        replace h34 := Lib.hid h34
        replace h32 := Lib.hid h32
        clear hB hb e0
        have hy : (byteAt l (p + 1)).toNat = 34 ∨ (byteAt l (p + 1)).toNat = 92 ∨ (byteAt l (p + 1)).toNat = 47 ∨ (byteAt l (p + 1)).toNat = 98 ∨ (byteAt l (p + 1)).toNat = 102 ∨ (byteAt l (p + 1)).toNat = 110 ∨ (byteAt l (p + 1)).toNat = 114 ∨ (byteAt l (p + 1)).toNat = 116 ∨ escOf (byteAt l (p + 1)) = none := by
          unfold escOf
          by_cases g1 : (byteAt l (p + 1)).toNat = 34
          · simp [g1]
          by_cases g2 : (byteAt l (p + 1)).toNat = 92
          · simp [g2]
          by_cases g3 : (byteAt l (p + 1)).toNat = 47
          · simp [g3]
          by_cases g4 : (byteAt l (p + 1)).toNat = 98
          · simp [g4]
          by_cases g5 : (byteAt l (p + 1)).toNat = 102
          · simp [g5]
          by_cases g6 : (byteAt l (p + 1)).toNat = 110
          · simp [g6]
          by_cases g7 : (byteAt l (p + 1)).toNat = 114
          · simp [g7]
          by_cases g8 : (byteAt l (p + 1)).toNat = 116
          · simp [g8]
          simp [g1, g2, g3, g4, g5, g6, g7, g8]
        rw [show p + 1 = p1 from hp1.out.symm] at hy
        rcases hy with hy | hy | hy | hy | hy | hy | hy | hy | hy
        -- the sign 34
        · have hm1 : mText l p T = mText l (p + 2) (T ++ [34]) := by
            rw [mText_esc h92, show p + 1 = p1 from hp1.out.symm]
            have he : mEsc l p1 = some ([34], p + 2) := by
              unfold mEsc
              rw [show p + 2 = p1 + 1 from by have := hp1.out; omega]
              rw [show escOf (byteAt l p1) = some 34 from by unfold escOf; rw [hy]; rfl]
            rw [he]
          have hMn := Lib.hid (hM.out.trans hm1)
          rw [hy] at hat1
          replace hat1 := Lib.hid hat1
          have hnb := Lib.hid fun (W : World) (K : Nat) (hK : W.heap.size = K) => newByte 34 34 rfl W K hK
          clear hm1 hy
          go_wp2_with (first | (go_at_call 70; (with_reducible refine hat1.out.mono ?_); rintro r w' ⟨rfl, rfl⟩) | (at_builtin; refine wpList_appendB _ _ rfl rfl rfl _ _ T [34] (some ⟨K, 0, none⟩) K 0 1 1 rfl rfl (by exact hown.out.alloc _) rfl (by exact hnb.out _ K hK) (by simp) (by simp; omega) (by simp; omega) ?_))
          intro a2 c2 w2 L2 hL2 hown2 hg
          have hBn := Lib.hid (below_own (w := wr.alloc _) (hown.out.alloc _) hg.out (hB'.out.alloc (by omega) _) (Nat.le_refl _) (by simp; omega))
          replace hown2 := Lib.hid hown2
          clear hg
          go_wp2_with fail
          go_roundw
          case rel => exact ⟨p + 2, L2, by congr 1; omega, by omega, hown2.out, hBn.out, by rw [hL2.out]; simp; omega, by rw [hL2.out]; exact hMn.out⟩
          case measure => have := hq2.out; simp [intOf]; omega
        -- the sign 92
        · have hm1 : mText l p T = mText l (p + 2) (T ++ [92]) := by
            rw [mText_esc h92, show p + 1 = p1 from hp1.out.symm]
            have he : mEsc l p1 = some ([92], p + 2) := by
              unfold mEsc
              rw [show p + 2 = p1 + 1 from by have := hp1.out; omega]
              rw [show escOf (byteAt l p1) = some 92 from by unfold escOf; rw [hy]; rfl]
            rw [he]
          have hMn := Lib.hid (hM.out.trans hm1)
          rw [hy] at hat1
          replace hat1 := Lib.hid hat1
          have hnb := Lib.hid fun (W : World) (K : Nat) (hK : W.heap.size = K) => newByte 92 92 rfl W K hK
          clear hm1 hy
          go_wp2_with (first | (go_at_call 70; (with_reducible refine hat1.out.mono ?_); rintro r w' ⟨rfl, rfl⟩) | (at_builtin; refine wpList_appendB _ _ rfl rfl rfl _ _ T [92] (some ⟨K, 0, none⟩) K 0 1 1 rfl rfl (by exact hown.out.alloc _) rfl (by exact hnb.out _ K hK) (by simp) (by simp; omega) (by simp; omega) ?_))
          intro a2 c2 w2 L2 hL2 hown2 hg
          have hBn := Lib.hid (below_own (w := wr.alloc _) (hown.out.alloc _) hg.out (hB'.out.alloc (by omega) _) (Nat.le_refl _) (by simp; omega))
          replace hown2 := Lib.hid hown2
          clear hg
          go_wp2_with fail
          go_roundw
          case rel => exact ⟨p + 2, L2, by congr 1; omega, by omega, hown2.out, hBn.out, by rw [hL2.out]; simp; omega, by rw [hL2.out]; exact hMn.out⟩
          case measure => have := hq2.out; simp [intOf]; omega
        -- the sign 47
        · have hm1 : mText l p T = mText l (p + 2) (T ++ [47]) := by
            rw [mText_esc h92, show p + 1 = p1 from hp1.out.symm]
            have he : mEsc l p1 = some ([47], p + 2) := by
              unfold mEsc
              rw [show p + 2 = p1 + 1 from by have := hp1.out; omega]
              rw [show escOf (byteAt l p1) = some 47 from by unfold escOf; rw [hy]; rfl]
            rw [he]
          have hMn := Lib.hid (hM.out.trans hm1)
          rw [hy] at hat1
          replace hat1 := Lib.hid hat1
          have hnb := Lib.hid fun (W : World) (K : Nat) (hK : W.heap.size = K) => newByte 47 47 rfl W K hK
          clear hm1 hy
          go_wp2_with (first | (go_at_call 70; (with_reducible refine hat1.out.mono ?_); rintro r w' ⟨rfl, rfl⟩) | (at_builtin; refine wpList_appendB _ _ rfl rfl rfl _ _ T [47] (some ⟨K, 0, none⟩) K 0 1 1 rfl rfl (by exact hown.out.alloc _) rfl (by exact hnb.out _ K hK) (by simp) (by simp; omega) (by simp; omega) ?_))
          intro a2 c2 w2 L2 hL2 hown2 hg
          have hBn := Lib.hid (below_own (w := wr.alloc _) (hown.out.alloc _) hg.out (hB'.out.alloc (by omega) _) (Nat.le_refl _) (by simp; omega))
          replace hown2 := Lib.hid hown2
          clear hg
          go_wp2_with fail
          go_roundw
          case rel => exact ⟨p + 2, L2, by congr 1; omega, by omega, hown2.out, hBn.out, by rw [hL2.out]; simp; omega, by rw [hL2.out]; exact hMn.out⟩
          case measure => have := hq2.out; simp [intOf]; omega
        -- the sign 98
        · have hm1 : mText l p T = mText l (p + 2) (T ++ [8]) := by
            rw [mText_esc h92, show p + 1 = p1 from hp1.out.symm]
            have he : mEsc l p1 = some ([8], p + 2) := by
              unfold mEsc
              rw [show p + 2 = p1 + 1 from by have := hp1.out; omega]
              rw [show escOf (byteAt l p1) = some 8 from by unfold escOf; rw [hy]; rfl]
            rw [he]
          have hMn := Lib.hid (hM.out.trans hm1)
          rw [hy] at hat1
          replace hat1 := Lib.hid hat1
          have hnb := Lib.hid fun (W : World) (K : Nat) (hK : W.heap.size = K) => newByte 8 8 rfl W K hK
          clear hm1 hy
          go_wp2_with (first | (go_at_call 70; (with_reducible refine hat1.out.mono ?_); rintro r w' ⟨rfl, rfl⟩) | (at_builtin; refine wpList_appendB _ _ rfl rfl rfl _ _ T [8] (some ⟨K, 0, none⟩) K 0 1 1 rfl rfl (by exact hown.out.alloc _) rfl (by exact hnb.out _ K hK) (by simp) (by simp; omega) (by simp; omega) ?_))
          intro a2 c2 w2 L2 hL2 hown2 hg
          have hBn := Lib.hid (below_own (w := wr.alloc _) (hown.out.alloc _) hg.out (hB'.out.alloc (by omega) _) (Nat.le_refl _) (by simp; omega))
          replace hown2 := Lib.hid hown2
          clear hg
          go_wp2_with fail
          go_roundw
          case rel => exact ⟨p + 2, L2, by congr 1; omega, by omega, hown2.out, hBn.out, by rw [hL2.out]; simp; omega, by rw [hL2.out]; exact hMn.out⟩
          case measure => have := hq2.out; simp [intOf]; omega
        -- the sign 102
        · have hm1 : mText l p T = mText l (p + 2) (T ++ [12]) := by
            rw [mText_esc h92, show p + 1 = p1 from hp1.out.symm]
            have he : mEsc l p1 = some ([12], p + 2) := by
              unfold mEsc
              rw [show p + 2 = p1 + 1 from by have := hp1.out; omega]
              rw [show escOf (byteAt l p1) = some 12 from by unfold escOf; rw [hy]; rfl]
            rw [he]
          have hMn := Lib.hid (hM.out.trans hm1)
          rw [hy] at hat1
          replace hat1 := Lib.hid hat1
          have hnb := Lib.hid fun (W : World) (K : Nat) (hK : W.heap.size = K) => newByte 12 12 rfl W K hK
          clear hm1 hy
          go_wp2_with (first | (go_at_call 70; (with_reducible refine hat1.out.mono ?_); rintro r w' ⟨rfl, rfl⟩) | (at_builtin; refine wpList_appendB _ _ rfl rfl rfl _ _ T [12] (some ⟨K, 0, none⟩) K 0 1 1 rfl rfl (by exact hown.out.alloc _) rfl (by exact hnb.out _ K hK) (by simp) (by simp; omega) (by simp; omega) ?_))
          intro a2 c2 w2 L2 hL2 hown2 hg
          have hBn := Lib.hid (below_own (w := wr.alloc _) (hown.out.alloc _) hg.out (hB'.out.alloc (by omega) _) (Nat.le_refl _) (by simp; omega))
          replace hown2 := Lib.hid hown2
          clear hg
          go_wp2_with fail
          go_roundw
          case rel => exact ⟨p + 2, L2, by congr 1; omega, by omega, hown2.out, hBn.out, by rw [hL2.out]; simp; omega, by rw [hL2.out]; exact hMn.out⟩
          case measure => have := hq2.out; simp [intOf]; omega
        -- the sign 110
        · have hm1 : mText l p T = mText l (p + 2) (T ++ [10]) := by
            rw [mText_esc h92, show p + 1 = p1 from hp1.out.symm]
            have he : mEsc l p1 = some ([10], p + 2) := by
              unfold mEsc
              rw [show p + 2 = p1 + 1 from by have := hp1.out; omega]
              rw [show escOf (byteAt l p1) = some 10 from by unfold escOf; rw [hy]; rfl]
            rw [he]
          have hMn := Lib.hid (hM.out.trans hm1)
          rw [hy] at hat1
          replace hat1 := Lib.hid hat1
          have hnb := Lib.hid fun (W : World) (K : Nat) (hK : W.heap.size = K) => newByte 10 10 rfl W K hK
          clear hm1 hy
          go_wp2_with (first | (go_at_call 70; (with_reducible refine hat1.out.mono ?_); rintro r w' ⟨rfl, rfl⟩) | (at_builtin; refine wpList_appendB _ _ rfl rfl rfl _ _ T [10] (some ⟨K, 0, none⟩) K 0 1 1 rfl rfl (by exact hown.out.alloc _) rfl (by exact hnb.out _ K hK) (by simp) (by simp; omega) (by simp; omega) ?_))
          intro a2 c2 w2 L2 hL2 hown2 hg
          have hBn := Lib.hid (below_own (w := wr.alloc _) (hown.out.alloc _) hg.out (hB'.out.alloc (by omega) _) (Nat.le_refl _) (by simp; omega))
          replace hown2 := Lib.hid hown2
          clear hg
          go_wp2_with fail
          go_roundw
          case rel => exact ⟨p + 2, L2, by congr 1; omega, by omega, hown2.out, hBn.out, by rw [hL2.out]; simp; omega, by rw [hL2.out]; exact hMn.out⟩
          case measure => have := hq2.out; simp [intOf]; omega
        -- the sign 114
        · have hm1 : mText l p T = mText l (p + 2) (T ++ [13]) := by
            rw [mText_esc h92, show p + 1 = p1 from hp1.out.symm]
            have he : mEsc l p1 = some ([13], p + 2) := by
              unfold mEsc
              rw [show p + 2 = p1 + 1 from by have := hp1.out; omega]
              rw [show escOf (byteAt l p1) = some 13 from by unfold escOf; rw [hy]; rfl]
            rw [he]
          have hMn := Lib.hid (hM.out.trans hm1)
          rw [hy] at hat1
          replace hat1 := Lib.hid hat1
          have hnb := Lib.hid fun (W : World) (K : Nat) (hK : W.heap.size = K) => newByte 13 13 rfl W K hK
          clear hm1 hy
          go_wp2_with (first | (go_at_call 70; (with_reducible refine hat1.out.mono ?_); rintro r w' ⟨rfl, rfl⟩) | (at_builtin; refine wpList_appendB _ _ rfl rfl rfl _ _ T [13] (some ⟨K, 0, none⟩) K 0 1 1 rfl rfl (by exact hown.out.alloc _) rfl (by exact hnb.out _ K hK) (by simp) (by simp; omega) (by simp; omega) ?_))
          intro a2 c2 w2 L2 hL2 hown2 hg
          have hBn := Lib.hid (below_own (w := wr.alloc _) (hown.out.alloc _) hg.out (hB'.out.alloc (by omega) _) (Nat.le_refl _) (by simp; omega))
          replace hown2 := Lib.hid hown2
          clear hg
          go_wp2_with fail
          go_roundw
          case rel => exact ⟨p + 2, L2, by congr 1; omega, by omega, hown2.out, hBn.out, by rw [hL2.out]; simp; omega, by rw [hL2.out]; exact hMn.out⟩
          case measure => have := hq2.out; simp [intOf]; omega
        -- the sign 116
        · have hm1 : mText l p T = mText l (p + 2) (T ++ [9]) := by
            rw [mText_esc h92, show p + 1 = p1 from hp1.out.symm]
            have he : mEsc l p1 = some ([9], p + 2) := by
              unfold mEsc
              rw [show p + 2 = p1 + 1 from by have := hp1.out; omega]
              rw [show escOf (byteAt l p1) = some 9 from by unfold escOf; rw [hy]; rfl]
            rw [he]
          have hMn := Lib.hid (hM.out.trans hm1)
          rw [hy] at hat1
          replace hat1 := Lib.hid hat1
          have hnb := Lib.hid fun (W : World) (K : Nat) (hK : W.heap.size = K) => newByte 9 9 rfl W K hK
          clear hm1 hy
          go_wp2_with (first | (go_at_call 70; (with_reducible refine hat1.out.mono ?_); rintro r w' ⟨rfl, rfl⟩) | (at_builtin; refine wpList_appendB _ _ rfl rfl rfl _ _ T [9] (some ⟨K, 0, none⟩) K 0 1 1 rfl rfl (by exact hown.out.alloc _) rfl (by exact hnb.out _ K hK) (by simp) (by simp; omega) (by simp; omega) ?_))
          intro a2 c2 w2 L2 hL2 hown2 hg
          have hBn := Lib.hid (below_own (w := wr.alloc _) (hown.out.alloc _) hg.out (hB'.out.alloc (by omega) _) (Nat.le_refl _) (by simp; omega))
          replace hown2 := Lib.hid hown2
          clear hg
          go_wp2_with fail
          go_roundw
          case rel => exact ⟨p + 2, L2, by congr 1; omega, by omega, hown2.out, hBn.out, by rw [hL2.out]; simp; omega, by rw [hL2.out]; exact hMn.out⟩
          case measure => have := hq2.out; simp [intOf]; omega
        · obtain ⟨g1, g2, g3, g4, g5, g6, g7, g8⟩ := escOf_none hy
          have y1 : (((byteAt l p1).toNat : Int) == 34) = false := by simp; omega
          have y2 : (((byteAt l p1).toNat : Int) == 47) = false := by simp; omega
          have y3 : (((byteAt l p1).toNat : Int) == 92) = false := by simp; omega
          have y4 : (((byteAt l p1).toNat : Int) == 98) = false := by simp; omega
          have y5 : (((byteAt l p1).toNat : Int) == 102) = false := by simp; omega
          have y6 : (((byteAt l p1).toNat : Int) == 110) = false := by simp; omega
          have y7 : (((byteAt l p1).toNat : Int) == 114) = false := by simp; omega
          have y8 : (((byteAt l p1).toNat : Int) == 116) = false := by simp; omega
          have hch1 : isChr (-1) = false := by decide
          have hmn : mEsc l p1 = none → mText l p T = none := fun h => mText_escn h92 (by rw [show p + 1 = p1 from hp1.out.symm]; exact h)
          have hms : ∀ bs q, mEsc l p1 = some (bs, q) → mText l p T = mText l q (T ++ bs) := fun bs q h => mText_escs h92 (by rw [show p + 1 = p1 from hp1.out.symm]; exact h)
          replace hat1 := Lib.hid hat1
          by_cases hu : (byteAt l p1).toNat = 117
          · have hui : (((byteAt l p1).toNat : Int) == 117) = true := by rw [hu]; rfl
            have heu := mEsc_u hy hu
            obtain ⟨p6, hp6⟩ : ∃ p6, p6 = p2 + 4 := ⟨_, rfl⟩
            obtain ⟨p7, hp7⟩ : ∃ p7, p7 = p6 + 1 := ⟨_, rfl⟩
            obtain ⟨p8, hp8⟩ : ∃ p8, p8 = p6 + 2 := ⟨_, rfl⟩
            obtain ⟨p12, hp12⟩ : ∃ p12, p12 = p6 + 6 := ⟨_, rfl⟩
            have e12 := hp1.out
            have e13 := hp2.out
            have q6 : (p2 : Int) + 4 = (p6 : Int) := by omega
            have q7 : (p6 : Int) + 1 = (p7 : Int) := by omega
            have q8 : (p6 : Int) + 2 = (p8 : Int) := by omega
            have q12 : (p6 : Int) + 6 = (p12 : Int) := by omega
            rw [show p1 + 1 = p2 from by omega, show p1 + 5 = p6 from by omega, show p1 + 7 = p8 from by omega, show p1 + 11 = p12 from by omega] at heu
            have hpre := pre_u (l := l) (p := p6)
            rw [show p6 + 1 = p7 from by omega] at hpre
            have hf2 := rfour_any (c := c) hb'.out hbig p2 (by omega)
            have hf8 := Lib.hid (rfour_any (c := c) hb'.out hbig p8 (by omega))
            have hat6 := Lib.hid (rat_any (c := c) hb'.out p6)
            have hat7 := Lib.hid (rat_any (c := c) hb'.out p7)
            have hNb := hexR_bd l p2
            have hLb := hexR_bd l p8
            obtain ⟨N, hN⟩ : ∃ N, N = hexR (hxs l p2 4) := ⟨_, rfl⟩
            rw [← hN] at hf2 hNb heu
            replace hf2 := Lib.hid hf2
            have hl6 := Lib.hid (show p6 = p + 6 from by omega)
            have hl12 := Lib.hid (show p12 = p + 12 from by omega)
            clear hN e12 e13 hu g1 g2 g3 g4 g5 g6 g7 g8 hy
            replace hp6 := Lib.hid hp6
            replace hp7 := Lib.hid hp7
            replace hp8 := Lib.hid hp8
            replace hp12 := Lib.hid hp12
            by_cases hhi : 55296 ≤ N ∧ N < 56320
            · have d1 : decide (55296 ≤ N) = true := by simp; omega
              have d2 : decide (N ≤ 56319) = true := by simp; omega
              by_cases h6 : (byteAt l p6).toNat = 92
              · have h6i : (((byteAt l p6).toNat : Int) == 92) = true := by rw [h6]; rfl
                by_cases h7 : (byteAt l p7).toNat = 117
                · have h7i : (((byteAt l p7).toNat : Int) == 117) = true := by rw [h7]; rfl
                  rw [if_pos ⟨hhi.1, hhi.2, hpre.2 ⟨h6, h7⟩⟩] at heu
                  have hpair := rpair_any N (hexR (hxs l p8 4)) wr hhi.1 hhi.2 hLb.1 hLb.2
                  have hpc := pairv_chr (h := N) (l := hexR (hxs l p8 4))
                  obtain ⟨V, hV⟩ : ∃ V, V = pairv N (hexR (hxs l p8 4)) := ⟨_, rfl⟩
                  rw [← hV] at hpair hpc heu
                  replace hpair := Lib.hid hpair
                  clear hV hpre hLb
                  replace h6 := Lib.hid h6
                  replace h7 := Lib.hid h7
                  replace hhi := Lib.hid hhi
                  replace hNb := Lib.hid hNb
                  by_cases hV0 : V = 0
                  · have hV0i : (V == 0) = true := by rw [hV0]; rfl
                    rw [if_pos hV0] at heu
                    have hMf := Lib.hid (hM.out.trans (hmn heu))
                    clear hmn hms heu
                    replace hV0 := Lib.hid hV0
                    go_wp2_with (first | (go_at_call 70; (with_reducible refine hat1.out.mono ?_); rintro r w' ⟨rfl, rfl⟩) | (go_at_call 70; (with_reducible refine hat6.out.mono ?_); rintro r w' ⟨rfl, rfl⟩) | (go_at_call 70; (with_reducible refine hat7.out.mono ?_); rintro r w' ⟨rfl, rfl⟩) | (go_at_call 71; (with_reducible refine hf2.out.mono ?_); rintro r w' ⟨rfl, rfl⟩) | (go_at_call 71; (with_reducible refine hf8.out.mono ?_); rintro r w' ⟨rfl, rfl⟩) | (go_at_call 72; refine hpair.out.mono ?_; rintro r w' ⟨rfl, rfl⟩) | (go_at_call 73; refine (rchar_any _ _).mono ?_; rintro r w' ⟨rfl, rfl⟩))
                    go_ret3
                    exact ⟨_, _, _, rfl, hB'.out, by rw [hMf.out]⟩
                  · have hV0i : (V == 0) = false := by simpa using hV0
                    rw [if_neg hV0] at heu
                    have hch := hpc hV0
                    have hme := hms _ _ heu
                    obtain ⟨v, rfl⟩ : ∃ v : Nat, V = (v : Int) := ⟨V.toNat, by have := (isChr_iff.1 hch).1; omega⟩
                    rw [Int.toNat_natCast] at hme
                    have hMn := Lib.hid (hM.out.trans hme)
                    have hv := Lib.hid (show v ≤ 1114111 from by have := isChr_iff.1 hch; omega)
                    have hu4 := uenc_len v
                    clear hme heu hpc hmn hms
                    replace hV0 := Lib.hid hV0
                    go_wp2_with (first | (go_at_call 70; (with_reducible refine hat1.out.mono ?_); rintro r w' ⟨rfl, rfl⟩) | (go_at_call 70; (with_reducible refine hat6.out.mono ?_); rintro r w' ⟨rfl, rfl⟩) | (go_at_call 70; (with_reducible refine hat7.out.mono ?_); rintro r w' ⟨rfl, rfl⟩) | (go_at_call 71; (with_reducible refine hf2.out.mono ?_); rintro r w' ⟨rfl, rfl⟩) | (go_at_call 71; (with_reducible refine hf8.out.mono ?_); rintro r w' ⟨rfl, rfl⟩) | (go_at_call 72; refine hpair.out.mono ?_; rintro r w' ⟨rfl, rfl⟩) | (go_at_call 73; refine (rchar_any _ _).mono ?_; rintro r w' ⟨rfl, rfl⟩) | (go_at_call 74; refine (rput_any v _ hv.out).mono ?_; rintro r w' ⟨rfl, rfl⟩) | (at_builtin; refine wpList_appendB _ _ rfl rfl rfl _ _ T (uenc v) (some ⟨K, 0, none⟩) K 0 (uenc v).length (uenc v).length rfl rfl (by exact hown.out.alloc _) rfl (by exact BytesAt.made wr (uenc v) _ _ _ K hK rfl) (by simp) (by omega) (by simp; omega) ?_))
                    intro a2 c2 w2 L2 hL2 hown2 hg
                    have hBn := Lib.hid (below_own (w := wr.alloc _) (hown.out.alloc _) hg.out (hB'.out.alloc (by omega) _) (Nat.le_refl _) (by simp; omega))
                    replace hown2 := Lib.hid hown2
                    clear hg
                    go_wp2_with fail
                    go_roundw
                    case rel => exact ⟨p12, L2, rfl, by have := hl12.out; omega, hown2.out, hBn.out, by have := hl12.out; rw [hL2.out, List.length_append]; omega, by rw [hL2.out]; exact hMn.out⟩
                    case measure => have := hl12.out; simp [intOf]; omega
                · have h7i : (((byteAt l p7).toNat : Int) == 117) = false := by simp; omega
                  have hnp : ¬ (55296 ≤ N ∧ N < 56320 ∧ ([92, 117] : List UInt8).isPrefixOf (l.drop p6) = true) := fun h => h7 (hpre.1 h.2.2).2
                  have hnc : isChr N = false := by unfold isChr; simp; omega
                  replace hhi := Lib.hid hhi
                  replace hNb := Lib.hid hNb
                  rw [if_neg hnp, hnc, if_neg Bool.false_ne_true] at heu
                  have hMf := Lib.hid (hM.out.trans (hmn heu))
                  clear hmn hms heu hpre hLb hnp
                  replace h6 := Lib.hid h6
                  replace h7 := Lib.hid h7
                  go_wp2_with (first | (go_at_call 70; (with_reducible refine hat1.out.mono ?_); rintro r w' ⟨rfl, rfl⟩) | (go_at_call 70; (with_reducible refine hat6.out.mono ?_); rintro r w' ⟨rfl, rfl⟩) | (go_at_call 70; (with_reducible refine hat7.out.mono ?_); rintro r w' ⟨rfl, rfl⟩) | (go_at_call 71; (with_reducible refine hf2.out.mono ?_); rintro r w' ⟨rfl, rfl⟩) | (go_at_call 71; (with_reducible refine hf8.out.mono ?_); rintro r w' ⟨rfl, rfl⟩) | (go_at_call 73; refine (rchar_any _ _).mono ?_; rintro r w' ⟨rfl, rfl⟩))
                  go_ret3
                  exact ⟨_, _, _, rfl, hB'.out, by rw [hMf.out]⟩
              · have h6i : (((byteAt l p6).toNat : Int) == 92) = false := by simp; omega
                have hnp : ¬ (55296 ≤ N ∧ N < 56320 ∧ ([92, 117] : List UInt8).isPrefixOf (l.drop p6) = true) := fun h => h6 (hpre.1 h.2.2).1
                have hnc : isChr N = false := by unfold isChr; simp; omega
                replace hhi := Lib.hid hhi
                replace hNb := Lib.hid hNb
                rw [if_neg hnp, hnc, if_neg Bool.false_ne_true] at heu
                have hMf := Lib.hid (hM.out.trans (hmn heu))
                clear hmn hms heu hpre hLb hnp
                replace h6 := Lib.hid h6
                go_wp2_with (first | (go_at_call 70; (with_reducible refine hat1.out.mono ?_); rintro r w' ⟨rfl, rfl⟩) | (go_at_call 70; (with_reducible refine hat6.out.mono ?_); rintro r w' ⟨rfl, rfl⟩) | (go_at_call 70; (with_reducible refine hat7.out.mono ?_); rintro r w' ⟨rfl, rfl⟩) | (go_at_call 71; (with_reducible refine hf2.out.mono ?_); rintro r w' ⟨rfl, rfl⟩) | (go_at_call 71; (with_reducible refine hf8.out.mono ?_); rintro r w' ⟨rfl, rfl⟩) | (go_at_call 73; refine (rchar_any _ _).mono ?_; rintro r w' ⟨rfl, rfl⟩))
                go_ret3
                exact ⟨_, _, _, rfl, hB'.out, by rw [hMf.out]⟩
            · have hnp : ¬ (55296 ≤ N ∧ N < 56320 ∧ ([92, 117] : List UInt8).isPrefixOf (l.drop p6) = true) := fun h => hhi ⟨h.1, h.2.1⟩
              rw [if_neg hnp] at heu
              have hdd : (decide (55296 ≤ N) = false) ∨ (decide (55296 ≤ N) = true ∧ decide (N ≤ 56319) = false) := by
                by_cases h : 55296 ≤ N
                · right; exact ⟨by simpa using h, by simp; omega⟩
                · left; simpa using h
              clear hpre hLb hnp hhi
              cases hch : isChr N with
              | false =>
                rw [hch, if_neg Bool.false_ne_true] at heu
                have hMf := Lib.hid (hM.out.trans (hmn heu))
                clear hmn hms heu
                rcases hdd with d1 | ⟨d1, d2⟩
                all_goals
                  go_wp2_with (first | (go_at_call 70; (with_reducible refine hat1.out.mono ?_); rintro r w' ⟨rfl, rfl⟩) | (go_at_call 70; (with_reducible refine hat6.out.mono ?_); rintro r w' ⟨rfl, rfl⟩) | (go_at_call 70; (with_reducible refine hat7.out.mono ?_); rintro r w' ⟨rfl, rfl⟩) | (go_at_call 71; (with_reducible refine hf2.out.mono ?_); rintro r w' ⟨rfl, rfl⟩) | (go_at_call 71; (with_reducible refine hf8.out.mono ?_); rintro r w' ⟨rfl, rfl⟩) | (go_at_call 73; refine (rchar_any _ _).mono ?_; rintro r w' ⟨rfl, rfl⟩))
                  go_ret3
                  exact ⟨_, _, _, rfl, hB'.out, by rw [hMf.out]⟩
              | true =>
                rw [hch, if_pos rfl] at heu
                have hme := hms _ _ heu
                obtain ⟨v, rfl⟩ : ∃ v : Nat, N = (v : Int) := ⟨N.toNat, by have := (isChr_iff.1 hch).1; omega⟩
                rw [Int.toNat_natCast] at hme
                have hMn := Lib.hid (hM.out.trans hme)
                have hv := Lib.hid (show v ≤ 1114111 from by have := isChr_iff.1 hch; omega)
                have hu4 := uenc_len v
                clear hme heu hmn hms
                rcases hdd with d1 | ⟨d1, d2⟩
                all_goals
                  go_wp2_with (first | (go_at_call 70; (with_reducible refine hat1.out.mono ?_); rintro r w' ⟨rfl, rfl⟩) | (go_at_call 70; (with_reducible refine hat6.out.mono ?_); rintro r w' ⟨rfl, rfl⟩) | (go_at_call 70; (with_reducible refine hat7.out.mono ?_); rintro r w' ⟨rfl, rfl⟩) | (go_at_call 71; (with_reducible refine hf2.out.mono ?_); rintro r w' ⟨rfl, rfl⟩) | (go_at_call 71; (with_reducible refine hf8.out.mono ?_); rintro r w' ⟨rfl, rfl⟩) | (go_at_call 72; refine hpair.out.mono ?_; rintro r w' ⟨rfl, rfl⟩) | (go_at_call 73; refine (rchar_any _ _).mono ?_; rintro r w' ⟨rfl, rfl⟩) | (go_at_call 74; refine (rput_any v _ hv.out).mono ?_; rintro r w' ⟨rfl, rfl⟩) | (at_builtin; refine wpList_appendB _ _ rfl rfl rfl _ _ T (uenc v) (some ⟨K, 0, none⟩) K 0 (uenc v).length (uenc v).length rfl rfl (by exact hown.out.alloc _) rfl (by exact BytesAt.made wr (uenc v) _ _ _ K hK rfl) (by simp) (by omega) (by simp; omega) ?_))
                  intro a2 c2 w2 L2 hL2 hown2 hg
                  have hBn := Lib.hid (below_own (w := wr.alloc _) (hown.out.alloc _) hg.out (hB'.out.alloc (by omega) _) (Nat.le_refl _) (by simp; omega))
                  replace hown2 := Lib.hid hown2
                  clear hg
                  go_wp2_with fail
                  go_roundw
                  case rel => exact ⟨p6, L2, rfl, by have := hl6.out; omega, hown2.out, hBn.out, by have := hl6.out; rw [hL2.out, List.length_append]; omega, by rw [hL2.out]; exact hMn.out⟩
                  case measure => have := hl6.out; simp [intOf]; omega
          · have hui : (((byteAt l p1).toNat : Int) == 117) = false := by simp; omega
            have hmn2 : mEsc l p1 = none := by
              unfold mEsc
              rw [hy]
              simp only [hu, if_false]
            have hMf := Lib.hid (hM.out.trans (hmn hmn2))
            clear hmn hms hmn2 hy g1 g2 g3 g4 g5 g6 g7 g8
            replace hu := Lib.hid hu
            go_wp2_with (first | (go_at_call 70; (with_reducible refine hat1.out.mono ?_); rintro r w' ⟨rfl, rfl⟩) | (go_at_call 70; (with_reducible refine hat6.out.mono ?_); rintro r w' ⟨rfl, rfl⟩) | (go_at_call 70; (with_reducible refine hat7.out.mono ?_); rintro r w' ⟨rfl, rfl⟩) | (go_at_call 73; refine (rchar_any _ _).mono ?_; rintro r w' ⟨rfl, rfl⟩))
            go_ret3
            exact ⟨_, _, _, rfl, hB'.out, by rw [hMf.out]⟩
    · have hpi : ¬ (p : Int) < (l.length : Int) := by omega
      have hMf := Lib.hid (hM.trans (mText_low (.inl hlt)))
      have hB' := Lib.hid hB
      clear hB hb hown hM
      go_wp2_with fail
      go_ret3
      exact ⟨_, _, _, rfl, hB'.out, by rw [hMf.out]⟩

end Go.Proofs.Ytmembanbemljoaa
