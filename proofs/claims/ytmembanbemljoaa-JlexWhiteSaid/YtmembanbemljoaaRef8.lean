/- The reference's Take of utf, named. -/
import Derived.Test.YtmembanbemljoaaRef7
namespace Go.Proofs.Ytmembanbemljoaa
open Go.RowKit
set_option linter.unusedVariables false
set_option linter.unusedSimpArgs false

theorem byteAt_drop (l : List UInt8) (p i : Nat) : byteAt (l.drop p) i = byteAt l (p + i) := by
  unfold byteAt
  rw [List.getElem?_drop]
theorem bN_drop (l : List UInt8) (p i : Nat) : bN (l.drop p) i = bN l (p + i) := by unfold bN; rw [byteAt_drop]
theorem form_drop {l : List UInt8} {p n : Nat} : UForm (l.drop p) 0 n ↔ UForm l p n := by
  have e : ∀ k, (k < l.length - p) = (p + k < l.length) := fun k => propext (by omega)
  unfold UForm
  simp only [bN_drop, List.length_drop, Nat.zero_add, Nat.add_zero, e]
theorem cvN_drop (l : List UInt8) (p n : Nat) : cvN (l.drop p) 0 n = cvN l p n := by
  unfold cvN
  simp only [bN_drop, Nat.zero_add, Nat.add_zero]
theorem wholeV_drop (l : List UInt8) (p : Nat) : wholeV (l.drop p) 0 = wholeV l p := by
  by_cases h : uerr l p = 0
  · have hf := uerr_form h
    have h2 := form_uerr (form_drop.2 hf)
    unfold wholeV
    rw [if_pos h, if_pos h2.1, h2.2, cvN_drop]
  · have h2 : uerr (l.drop p) 0 ≠ 0 := fun e => h (form_uerr (form_drop.1 (uerr_form e))).1
    unfold wholeV
    rw [if_neg h, if_neg h2]
/-- What the reference's Take tells. -/
def RT3 (l : List UInt8) (p : Nat) (w : World) (r : Ending) (w' : World) : Prop :=
  ∃ v nx e : Int, r = .returned (.tuple #[.int .i64 v, .int .i64 nx, .int .i64 e]) ∧ Below w.heap.size w w' ∧ (uerr l p = 0 → e = 0 ∧ nx = (p : Int) + (ulen l p : Int)) ∧ (uerr l p ≠ 0 → e ≠ 0)
set_option maxRecDepth 100000 in
set_option maxHeartbeats 4000000 in
theorem rtake3_any {w : World} {a : Option Addr} {b off c : Nat} {l : List UInt8} (hb : BytesAt w a b off l) (hlen : l.length ≤ c) (hbig : l.length ≤ 1000000) (hnil : a = none → c = 0) (p : Nat) (hp : p < l.length) :
    Calls Try.prog 69 #[.slice a l.length c, .int .i64 (p : Int)] w (RT3 l p w) := by
  have hb1 := hb.tail hlen p
  have hwh := rwhole_any (c := c - p) hb1 (by rw [List.length_drop]; omega) (by rw [List.length_drop]; omega)
  rw [wholeV_drop, List.length_drop] at hwh
  have hsl := slice_tail a l.length c p (by omega) hlen
  have hpi : (p : Int) < (l.length : Int) := by omega
  have hpn : decide ((l.length : Int) < (p : Int)) = false := by simp; omega
  have hbg : l.length - p < 4 → ∀ w2, Below w.heap.size w w2 → Calls Try.prog 85 #[.slice (tl a p c) (l.length - p) (c - p)] w2 (BegPost w2) := by
    intro h4 w2 hB2
    have hb2 := (hb.below hB2).tail hlen p
    have := rbegun_any (c := c - p) hb2 (by rw [List.length_drop]; omega) (by rw [List.length_drop]; omega) (by
      unfold tl
      split
      · intro h; have := hnil h; omega
      · intro h
        cases a with
        | none => have := hnil rfl; omega
        | some x => simp at h)
    rwa [List.length_drop] at this
  have hVV := wholeV_len (l := l) (p := p)
  have hVn : wholeV l p < 0 → uerr l p ≠ 0 := by
    intro h e
    have := wtest_n (form_test (uerr_form e))
    have h2 := form_test (uerr_form e)
    unfold wtest at h2
    rw [Bool.and_eq_true] at h2
    have h3 := (isChr_iff.1 h2.1).1
    omega
  obtain ⟨V, hV⟩ : ∃ V, V = wholeV l p := ⟨_, rfl⟩
  rw [← hV] at hwh hVV hVn
  replace hwh := Lib.hid hwh
  replace hbg := Lib.hid hbg
  replace hVV := Lib.hid hVV
  replace hVn := Lib.hid hVn
  obtain ⟨K, hK⟩ : ∃ K, w.heap.size = K := ⟨_, rfl⟩
  clear hb hb1 hV
  by_cases hV0 : 0 ≤ V
  · obtain ⟨h1, hch, h3⟩ := hVV.out hV0
    obtain ⟨v, rfl⟩ : ∃ v : Nat, V = (v : Int) := ⟨V.toNat, by omega⟩
    rw [Int.toNat_natCast] at h3
    have hv := Lib.hid (show v ≤ 1114111 from by have := isChr_iff.1 hch; omega)
    have hu5 := uenc_len v
    replace h1 := Lib.hid h1
    replace h3 := Lib.hid h3
    clear hVV hVn hch hV0
    go_enter Try.func69, Try.ntmps69
    go_wp2_with (first | (go_at_call 84; refine hwh.out.mono ?_; rintro r w2 ⟨rfl, hb2⟩; replace hb2 := Lib.hid hb2) | (go_at_call 74; refine (rput_any v _ hv.out).mono ?_; rintro r w' ⟨rfl, rfl⟩))
    go_ret3
    refine ⟨_, _, _, rfl, hb2.out.alloc hb2.out.size _, fun _ => ⟨rfl, by rw [h3.out]⟩, fun h => absurd h1.out h⟩
  · have hd : decide (0 ≤ V) = false := by simp; omega
    have hun := hVn.out (by omega)
    replace hun := Lib.hid hun
    clear hVV hVn
    replace hV0 := Lib.hid hV0
    by_cases h4 : l.length - p < 4
    · have h4i : (l.length : Int) - (p : Int) < 4 := by omega
      have hbg2 := hbg.out h4
      replace hbg2 := Lib.hid hbg2
      clear hbg
      replace h4 := Lib.hid h4
      go_enter Try.func69, Try.ntmps69
      go_wp2_with (first | (go_at_call 84; refine hwh.out.mono ?_; rintro r w2 ⟨rfl, hb2⟩; replace hb2 := Lib.hid hb2))
      refine (hbg2.out _ hb2.out).mono ?_
      rintro r w3 ⟨bo, rfl, hb3⟩
      have hb4 := Lib.hid (hb2.out.trans (hb3.mono hb2.out.size))
      clear hb3 hb2 hbg2
      cases bo with
      | true =>
        go_wp2_with fail
        go_ret3
        exact ⟨_, _, _, rfl, hb4.out, fun h => absurd h hun.out, fun _ => by decide⟩
      | false =>
        go_wp2_with fail
        go_ret3
        exact ⟨_, _, _, rfl, hb4.out, fun h => absurd h hun.out, fun _ => by decide⟩
    · have h4i : decide ((l.length : Int) - (p : Int) < 4) = false := by simp; omega
      clear hbg
      replace h4 := Lib.hid h4
      go_enter Try.func69, Try.ntmps69
      go_wp2_with (first | (go_at_call 84; refine hwh.out.mono ?_; rintro r w2 ⟨rfl, hb2⟩; replace hb2 := Lib.hid hb2))
      go_ret3
      exact ⟨_, _, _, rfl, hb2.out, fun h => absurd h hun.out, fun _ => by decide⟩

end Go.Proofs.Ytmembanbemljoaa
