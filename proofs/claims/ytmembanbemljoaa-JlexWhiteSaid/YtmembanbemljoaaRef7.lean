/- The reference's begun: it tells something. -/
import Derived.Test.YtmembanbemljoaaRef6
import Derived.Test.YtmembanbemljoaaPutb
namespace Go.Proofs.Ytmembanbemljoaa
open Go.RowKit
set_option linter.unusedVariables false
set_option linter.unusedSimpArgs false

def fillL (j : Nat) : List UInt8 := if j = 0 then [128, 128, 128] else if j = 1 then [191, 191, 191] else if j = 2 then [160, 128, 128] else if j = 3 then [144, 128, 128] else if j = 4 then [143, 191, 191] else [159, 191, 191]
theorem fillL_len (j : Nat) : (fillL j).length = 3 := by
  unfold fillL
  repeat' split
  all_goals rfl
def fillC (H : Nat) : Array Value := #[.slice (some ⟨H, 0, none⟩) 3 3, .slice (some ⟨H + 1, 0, none⟩) 3 3, .slice (some ⟨H + 1 + 1, 0, none⟩) 3 3, .slice (some ⟨H + 1 + 1 + 1, 0, none⟩) 3 3, .slice (some ⟨H + 1 + 1 + 1 + 1, 0, none⟩) 3 3, .slice (some ⟨H + 1 + 1 + 1 + 1 + 1, 0, none⟩) 3 3]
theorem fillC_at (H j : Nat) (hj : j < 6) : (fillC H)[j]? = some (.slice (some ⟨H + j, 0, none⟩) 3 3) := by
  have h : j = 0 ∨ j = 1 ∨ j = 2 ∨ j = 3 ∨ j = 4 ∨ j = 5 := by omega
  rcases h with rfl | rfl | rfl | rfl | rfl | rfl <;> rfl
/-- The fillings in memory. -/
def Fills (wr : World) (H : Nat) : Prop := Blk wr (H + 6) (fillC H) 22 ∧ ∀ j, j < 6 → Blk wr (H + j) ((fillL j).map bv).toArray 5
theorem Fills.kept {wr w2 : World} {H B : Nat} (h : Fills wr H) (hb : Below B wr w2) (hB : H + 6 < B) : Fills w2 H :=
  ⟨h.1.kept hb hB, fun j hj => (h.2 j hj).kept hb (by omega)⟩
theorem Blk.bytes {w : World} {X : Nat} {l : List UInt8} {t : TypeId} (h : Blk w X (l.map bv).toArray t) : BytesAt w (some ⟨X, 0, none⟩) X 0 l := by
  refine ⟨fun _ => rfl, fun j hj => ?_⟩
  rw [Nat.zero_add, h.cell j]
  simp [List.getElem?_eq_getElem hj, bv]
def BegRel (w : World) (H : Nat) (t : Value) (wr : World) : Prop := ∃ i : Nat, t = .int .i64 (i : Int) ∧ i ≤ 6 ∧ Below H w wr ∧ H + 6 < wr.heap.size ∧ Fills wr H
def BegPost (w : World) (r : Ending) (w' : World) : Prop := ∃ bo : Bool, r = .returned (.bool bo) ∧ Below w.heap.size w w'

set_option maxRecDepth 100000 in
set_option maxHeartbeats 8000000 in
theorem rbegun_any {w : World} {a : Option Addr} {b off c : Nat} {m : List UInt8} (hbw : BytesAt w a b off m) (hlen : m.length ≤ c) (hbig : m.length ≤ 3) (hnil : a = none → c = 0) :
    Calls Try.prog 85 #[.slice a m.length c] w (BegPost w) := by
  obtain ⟨H, hH⟩ : ∃ H, w.heap.size = H := ⟨_, rfl⟩
  have h0 : BegRel w H (.int .i64 0) (((((((w.alloc (.cells #[.int .u8 128, .int .u8 128, .int .u8 128] 5)).alloc (.cells #[.int .u8 191, .int .u8 191, .int .u8 191] 5)).alloc (.cells #[.int .u8 160, .int .u8 128, .int .u8 128] 5)).alloc (.cells #[.int .u8 144, .int .u8 128, .int .u8 128] 5)).alloc (.cells #[.int .u8 143, .int .u8 191, .int .u8 191] 5)).alloc (.cells #[.int .u8 159, .int .u8 191, .int .u8 191] 5)).alloc (.cells (fillC H) 22)) := by
    generalize hw6 : ((((((w.alloc (.cells #[.int .u8 128, .int .u8 128, .int .u8 128] 5)).alloc (.cells #[.int .u8 191, .int .u8 191, .int .u8 191] 5)).alloc (.cells #[.int .u8 160, .int .u8 128, .int .u8 128] 5)).alloc (.cells #[.int .u8 144, .int .u8 128, .int .u8 128] 5)).alloc (.cells #[.int .u8 143, .int .u8 191, .int .u8 191] 5)).alloc (.cells #[.int .u8 159, .int .u8 191, .int .u8 191] 5)) = w6
    have hs6 : w6.heap.size = H + 6 := by rw [← hw6]; simp; omega
    have hB6 : Below H w w6 := by
      rw [← hw6]
      exact ((((((Below.refl H w).alloc (by omega) _).alloc (by simp; omega) _).alloc (by simp; omega) _).alloc (by simp; omega) _).alloc (by simp; omega) _).alloc (by simp; omega) _
    have hblk : ∀ j, j < 6 → Blk w6 (H + j) ((fillL j).map bv).toArray 5 := by
      intro j hj
      have h : j = 0 ∨ j = 1 ∨ j = 2 ∨ j = 3 ∨ j = 4 ∨ j = 5 := by omega
      rw [← hw6]
      unfold Blk
      rcases h with rfl | rfl | rfl | rfl | rfl | rfl
      all_goals
        simp only [World.alloc, Array.getElem?_push, Array.size_push, hH]
        repeat (first | rw [if_pos (by omega)] | rw [if_neg (by omega)])
        rfl
    have ha := (Below.refl (H + 6) w6).alloc (by omega) (.cells (fillC H) 22)
    exact ⟨0, rfl, by omega, hB6.alloc (by omega) _, by simp; omega, Blk.made w6 _ _ _ hs6, fun j hj => (hblk j hj).kept ha (by omega)⟩
  replace h0 := Lib.hid h0
  unfold fillC at h0
  have hbx := Lib.hid fun wr (h : Below H w wr) => hbw.below (hH ▸ h)
  by_cases hm0 : m = []
  · subst hm0
    have hB := Lib.hid (Below.refl H w)
    clear hbw h0 hbx
    go_enter Try.func85, Try.ntmps85
    go_wp2_with fail
    go_ret
    exact ⟨_, rfl, by rw [hH]; exact hB.out⟩
  · have hm1 : 0 < m.length := by
      rcases Nat.eq_zero_or_pos m.length with h | h
      · exact absurd (List.eq_nil_of_length_eq_zero h) hm0
      · exact h
    have hmz : ((m.length : Int) == 0) = false := by simp; omega
    clear hbw hm0
    go_enter Try.func85, Try.ntmps85
    go_wp2_with fail
    go_loopw [4] (fun t wr => BegRel w H t wr) (fun t _ => 6 - (intOf t).toNat)
    case atStart => exact h0.out
    case round =>
      obtain ⟨i, rfl, hi6, hB, hsz, hF⟩ := hrel
      have hb := hbx.out _ hB
      clear h0 hbx
      obtain ⟨K, hK⟩ : ∃ K, wr.heap.size = K := ⟨_, rfl⟩
      have hB' := Lib.hid hB
      have hF' := Lib.hid hF
      have hb' := Lib.hid hb
      rw [hK] at hsz
      have hcb : ∀ q, i < 6 → (wr.drewN q).cell? ⟨H + 1 + 1 + 1 + 1 + 1 + 1, i, none⟩ = some (.slice (some ⟨H + i, 0, none⟩) 3 3) := fun q h => ((hF.1.drewN q).cell i).trans (fillC_at H i h)
      have hca : ∀ o, i < 6 → (wr.alloc o).cell? ⟨H + 1 + 1 + 1 + 1 + 1 + 1, i, none⟩ = some (.slice (some ⟨H + i, 0, none⟩) 3 3) := fun o h => ((hF.1.kept ((Below.refl (H + 7) wr).alloc (by omega) o) (by omega)).cell i).trans (fillC_at H i h)
      have hown0 := OwnB.made wr K K #[] [] 0 hK (Nat.le_refl _) rfl rfl (by decide)
      replace hown0 := Lib.hid hown0
      have hb2 := Lib.hid fun o => hb.below ((Below.refl wr.heap.size wr).alloc (Nat.le_refl _) o)
      clear hB hF hb
      by_cases hlt : i < 6
      · have hlti : (i : Int) < 6 := by omega
        have hcw : wr.cell? ⟨H + 1 + 1 + 1 + 1 + 1 + 1, i, none⟩ = some (.slice (some ⟨H + i, 0, none⟩) 3 3) := hcb 0 hlt
        have hcb := fun q => hcb q hlt
        have hca := fun o => hca o hlt
        go_wp2_with fail
        have hne : (some (H + 1 + 1 + 1 + 1 + 1 + 1) : Option Nat) ≠ (Value.slice (some ⟨K, 0, none⟩) 0 0).ownBlock := by simp [Value.ownBlock]; omega
        have hsx : ∀ o, H + 1 + 1 + 1 + 1 + 1 + 1 < ((wr.alloc o).drew).heap.size := fun o => by simp; omega
        have hcd : ∀ o, ((wr.alloc o).drew).cell? ⟨H + 1 + 1 + 1 + 1 + 1 + 1, i, none⟩ = some (.slice (some ⟨H + i, 0, none⟩) 3 3) := fun o => hca o
        have hB0 := Lib.hid fun o => ((Below.refl K wr).alloc (by omega) o).drew
        replace hsx := Lib.hid hsx
        replace hcd := Lib.hid hcd
        go_region_law (first
          | (refine step_appendB (by rfl) _ _ (by rfl) (by rfl) K (.slice (some ⟨K, 0, none⟩) 0 0) [] m a b off m.length c (by rfl) (by rfl) (by exact hown0.out) (by rfl) (by exact hb2.out _) hnil (by simp; omega) (by simp; omega) ?_; intro a2 c2 w2 L2 hL2 hown2 hg2; have k1 := (hg2.out.cell_far ⟨H + 1 + 1 + 1 + 1 + 1 + 1, i, none⟩ (hsx.out _) hne).trans (hcd.out _); have hBw2 := below_own (w := (wr.alloc (.cells #[] 5)).drew) hown0.out hg2.out (hB0.out _) (Nat.le_refl _) (by simp; omega))
          | (refine step_appendB (by rfl) _ _ (by rfl) (by rfl) K (.slice a2 L2.length c2) L2 (fillL i) (some ⟨H + i, 0, none⟩) (H + i) 0 3 3 (by rfl) (by rfl) (by exact hown2) (by rw [fillL_len]) (by exact ((hF'.out.kept hBw2 (by omega)).2 i hlt).bytes) (by simp) (by have := congrArg List.length hL2.out; rw [fillL_len]; simp at this; omega) (by have := hBw2.size; omega) ?_; intro a3 c3 w3 L3 hL3 hown3 hg3; have hBw3 := below_own hown2 hg3.out hBw2 (Nat.le_refl _) (by have := hBw2.size; omega)))
        all_goals
          have hL3n : L3.length ≤ 6 := by
            have h1 := congrArg List.length hL2.out
            have h2 := congrArg List.length hL3.out
            simp at h1
            rw [List.length_append, fillL_len] at h2
            omega
          obtain ⟨x, bx, cx, hx, hbx3, hlc3, -, -⟩ := hown3.parts
          simp only [Value.slice.injEq] at hx
          obtain ⟨rfl, -, rfl⟩ := hx
          have hwh := Lib.hid (rwhole_any hbx3 hlc3 (by omega))
          have hBw3' := Lib.hid hBw3
          have hVV := wholeV_len (l := L3) (p := 0)
          clear hcw hL2 hL3 hown2 hown3 hg2 hg3 hBw2 hBw3 hbx3 hcb hca hcd hsx hne hown0 hb2 hB0
          obtain ⟨V, hV⟩ : ∃ V, V = wholeV L3 0 := ⟨_, rfl⟩
          rw [← hV] at hwh hVV
          go_wp2_with fail
          refine hwh.out.mono ?_
          rintro r w4 ⟨rfl, hb4⟩
          have hBw4 := Lib.hid (hBw3'.out.trans (hb4.mono (by have := hBw3'.out.size; omega)))
          have hfin := Lib.hid fun W5 (h5 : Below K wr W5) => (⟨i + 1, rfl, by omega, hB'.out.trans (h5.mono (by omega)), by have := h5.size; omega, hF'.out.kept h5 (by omega)⟩ : BegRel w H (.int .i64 ((i + 1 : Nat) : Int)) W5)
          have hBall := Lib.hid fun W5 (h5 : Below K wr W5) => hB'.out.trans (h5.mono (by omega))
          have hs4 : K ≤ w4.heap.size := by have := hBw4.out.size; omega
          clear hb4 hwh hF' hBw3' hsz hB' hb' hV
          replace hlt := Lib.hid hlt
          by_cases hV0 : 0 ≤ V
          · have hch := (hVV hV0).2.1
            obtain ⟨v, rfl⟩ : ∃ v : Nat, V = (v : Int) := ⟨V.toNat, by omega⟩
            have hv := Lib.hid (show v ≤ 1114111 from by have := isChr_iff.1 hch; omega)
            clear hVV hch hV0
            by_cases hgt : m.length < (uenc v).length
            · have hgti : (m.length : Int) < ((uenc v).length : Int) := by omega
              replace hgt := Lib.hid hgt
              go_wp2_with (go_at_call 74; refine (rput_any v _ hv.out).mono ?_; rintro r w' ⟨rfl, rfl⟩)
              go_ret
              exact ⟨_, rfl, by rw [hH]; exact hBall.out _ (hBw4.out.alloc hs4 _)⟩
            · have hgti : decide ((m.length : Int) < ((uenc v).length : Int)) = false := by simp; omega
              replace hgt := Lib.hid hgt
              go_wp2_with (go_at_call 74; refine (rput_any v _ hv.out).mono ?_; rintro r w' ⟨rfl, rfl⟩)
              go_roundw
              case rel => exact hfin.out _ (hBw4.out.alloc hs4 _)
              case measure => simp [intOf]; omega
          · have hV1 : decide (0 ≤ V) = false := by simp; omega
            replace hV0 := Lib.hid hV0
            clear hVV
            go_wp2_with fail
            go_roundw
            case rel => exact hfin.out _ hBw4.out
            case measure => simp [intOf]; omega
      · have hlti : ¬ (i : Int) < 6 := by omega
        clear hcb hca
        go_wp2_with fail
        go_ret
        exact ⟨_, rfl, by rw [hH]; exact hB'.out⟩

end Go.Proofs.Ytmembanbemljoaa
