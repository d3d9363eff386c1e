/- JlexQuotes: the law's walk (written by gen_qts.py). -/
import Derived.Test.YtmembanbemljoaaQuo
import Derived.Test.YtmembanbemljoaaRquo
import Derived.Test.YtmembanbemljoaaWorks
import Derived.Deep.RegionHeld
namespace Go.Proofs.Ytmembanbemljoaa
open Go.RowKit
set_option linter.unusedVariables false
set_option linter.unusedSimpArgs false

/-- A region's end at which the law's slot is true. -/
def TrueEnd (n B : Nat) (w0 : World) (e : Exit) (a : Act) (w : World) : Prop := match e with | .normal => a.tmps[n]?.getD undef = .bool true ∧ a.defers = [] ∧ Below B w0 w | _ => False
theorem region_true {P : Program} {id : Nat} {ops : Array Oper} {b : Bool} {Q : Exit → Act → World → Prop} {a : Act} {w : World} {n B : Nat} {w0 : World} (h : (Code.region id ops b).wp P (TrueEnd n B w0) a w)
    (hq : ∀ a w, a.tmps[n]?.getD undef = .bool true → a.defers = [] → Below B w0 w → Q .normal a w) : (Code.region id ops b).wp P Q a w :=
  Code.wp_mono (fun e a w h => by
    cases e <;> first | (exact hq a w h.1 h.2.1 h.2.2) | exact (h : False).elim) h
theorem quotes_ret {W : World} (tmps : Array Value) (h4 : tmps[4]?.getD undef = .bool true) : (results Try.f9 tmps).run Try.prog W = .ok (.bool true) W := by
  simp [results, Try.results9, go_sem, h4]
theorem below_next {B : Nat} {w w1 w2 : World} (hB : w.heap.size = B) (h1 : Below B w w1) (h2 : Below w1.heap.size w1 w2) : Below B w w2 := h1.trans (h2.mono (hB ▸ h1.size))
theorem oper_appendB {o : Oper} {a : Act} {K : Act → World → Prop} {Q : Exit → Act → World → Prop} {w : World}
    (s x : Operand) (ho : o.op = .call { callee := .builtin .append, args := #[s, x], argTypes := #[22, 22] }) (hty : o.type = 22)
    (base : Nat) (v : Value) (l m : List UInt8) (ax : Option Addr) (b off n c : Nat) (hs : a.eval s = v) (hx : a.eval x = .slice ax n c)
    (h : OwnB w base v l) (hm : n = m.length) (hbx : BytesAt w ax b off m) (hc : ax = none → c = 0) (hn : l.length + m.length ≤ 140737488355328) (hbase : base ≤ w.heap.size)
    (k : ∀ a' c' w' L, Hid (L = l ++ m) → OwnB w' base (.slice a' L.length c') L → Hid (w.grownBy w' v.ownBlock) → K (a.put o.dst (.slice a' L.length c')) w') :
    Oper.wp Try.prog o a w K Q := by
  obtain ⟨v', w', r, h1, h2⟩ := appendBytes h hbx hc hn hbase n hm
  obtain ⟨a', b', c', rfl, -, -, -, -⟩ := h1.parts
  unfold Oper.wp
  rw [exec_append s x _ ho hs hx (by rw [hty]; exact r)]
  exact k a' c' w' _ rfl h1 h2
theorem OwnB.below {w w' : World} {base : Nat} {v : Value} {l : List UInt8} (h : OwnB w base v l) (hb : Below w.heap.size w w') : OwnB w' base v l := by
  obtain ⟨h1, h2⟩ := h
  refine ⟨h1, ?_⟩
  rcases h2 with h2 | ⟨g, cap, cur, hv, hbg, hg, hr⟩
  · exact .inl h2
  · refine .inr ⟨g, cap, cur, hv, hbg, ?_, hr⟩
    have hlt : g < w.heap.size := by
      rcases Nat.lt_or_ge g w.heap.size with h | h
      · exact h
      · rw [Array.getElem?_eq_none h] at hg; simp at hg
    rw [hb.block g hlt]
    exact hg
theorem mQuote_len (s : List UInt8) : (mQuote s).length ≤ 6 * s.length + 2 := by
  have h : (s.flatMap qByte).length ≤ 6 * s.length := by
    induction s with
    | nil => simp
    | cons c s ih =>
      have := qByte_len c
      rw [List.flatMap_cons, List.length_append, List.length_cons]
      omega
  unfold mQuote
  simp only [List.length_append, List.length_cons, List.length_nil]
  omega
theorem str_append (l m : List UInt8) : str l ++ str m = str (l ++ m) := by
  apply ByteArray.ext
  simp [str]

set_option maxRecDepth 100000 in
set_option maxHeartbeats 2000000 in
theorem quotes_l (a : Option Addr) (b off c : Nat) (l : List UInt8) (s : ByteArray) (w : World) (hli : (2000 : Int) < (l.length : Int)) :
    Calls Try.prog 9 #[.slice a l.length c, .string s] w fun e w' => e = .returned (.bool true) ∧ Below w.heap.size w w' := by
  obtain ⟨B, hBB⟩ : ∃ B, w.heap.size = B := ⟨_, rfl⟩
  rw [hBB]
  have hB0 : Below B w w.drew := (Below.refl B w).drew
  go_enter Try.func9, Try.ntmps9
  go_wp2_with fail
  apply region_true (n := 4) (B := B) (w0 := w)
  · refine wp_region_held_drew (S := Below B w) (by kernel_rfl) hB0 (fun hS => ?_)
    refine wpAnyH_take (i := 0) (v := .slice a l.length c) rfl (by kernel_rfl) (by kernel_rfl) (by kernel_rfl) (fun _ _ _ h => h) (Or.inl ⟨by kernel_rfl, fun W hW => by go_simp⟩) hS ?_
    refine wpAnyH_take (i := 1) (v := .int .i64 (l.length : Int)) rfl (by kernel_rfl) (by kernel_rfl) (by kernel_rfl) (fun _ _ _ h => h) (Or.inl ⟨by kernel_rfl, fun W hW => by go_simp⟩) hS ?_
    refine wpAnyH_take (i := 2) (v := .bool true) rfl (by kernel_rfl) (by kernel_rfl) (by kernel_rfl) (fun _ _ _ h => h) (Or.inl ⟨by kernel_rfl, fun W hW => by go_simp⟩) hS ?_
    refine wpAnyH_take (i := 3) (v := .bool true) rfl (by kernel_rfl) (by kernel_rfl) (by kernel_rfl) (fun _ _ _ h => h) (Or.inl ⟨by kernel_rfl, fun W hW => by go_simp⟩) hS ?_
    refine wpAnyH_take (i := 4) (v := undef) rfl (by kernel_rfl) (by kernel_rfl) (by kernel_rfl) (fun _ _ _ h => h) (Or.inr ⟨by kernel_rfl, rfl⟩) hS ?_
    refine wpAnyH_take (i := 5) (v := undef) rfl (by kernel_rfl) (by kernel_rfl) (by kernel_rfl) (fun _ _ _ h => h) (Or.inr ⟨by kernel_rfl, rfl⟩) hS ?_
    refine wpAnyH_take (i := 6) (v := undef) rfl (by kernel_rfl) (by kernel_rfl) (by kernel_rfl) (fun _ _ _ h => h) (Or.inr ⟨by kernel_rfl, rfl⟩) hS ?_
    refine wpAnyH_take (i := 7) (v := .bool true) rfl (by kernel_rfl) (by kernel_rfl) (by kernel_rfl) (fun _ _ _ h => h) (Or.inl ⟨by kernel_rfl, fun W hW => by go_simp⟩) hS ?_
    refine wpAnyH_take (i := 8) (v := .bool true) rfl (by kernel_rfl) (by kernel_rfl) (by kernel_rfl) (fun _ _ _ h => h) (Or.inl ⟨by kernel_rfl, fun W hW => by go_simp⟩) hS ?_
    refine wpAnyH_take (i := 9) (v := undef) rfl (by kernel_rfl) (by kernel_rfl) (by kernel_rfl) (fun _ _ _ h => h) (Or.inr ⟨by kernel_rfl, rfl⟩) hS ?_
    refine wpAnyH_take (i := 10) (v := undef) rfl (by kernel_rfl) (by kernel_rfl) (by kernel_rfl) (fun _ _ _ h => h) (Or.inr ⟨by kernel_rfl, rfl⟩) hS ?_
    refine wpAnyH_take (i := 11) (v := undef) rfl (by kernel_rfl) (by kernel_rfl) (by kernel_rfl) (fun _ _ _ h => h) (Or.inr ⟨by kernel_rfl, rfl⟩) hS ?_
    refine wpAnyH_take (i := 12) (v := undef) rfl (by kernel_rfl) (by kernel_rfl) (by kernel_rfl) (fun _ _ _ h => h) (Or.inr ⟨by kernel_rfl, rfl⟩) hS ?_
    refine wpAnyH_take (i := 13) (v := undef) rfl (by kernel_rfl) (by kernel_rfl) (by kernel_rfl) (fun _ _ _ h => h) (Or.inr ⟨by kernel_rfl, rfl⟩) hS ?_
    refine wpAnyH_take (i := 14) (v := undef) rfl (by kernel_rfl) (by kernel_rfl) (by kernel_rfl) (fun _ _ _ h => h) (Or.inr ⟨by kernel_rfl, rfl⟩) hS ?_
    refine wpAnyH_take (i := 15) (v := undef) rfl (by kernel_rfl) (by kernel_rfl) (by kernel_rfl) (fun _ _ _ h => h) (Or.inr ⟨by kernel_rfl, rfl⟩) hS ?_
    refine wpAnyH_take (i := 16) (v := undef) rfl (by kernel_rfl) (by kernel_rfl) (by kernel_rfl) (fun _ _ _ h => h) (Or.inr ⟨by kernel_rfl, rfl⟩) hS ?_
    refine wpAnyH_take (i := 17) (v := undef) rfl (by kernel_rfl) (by kernel_rfl) (by kernel_rfl) (fun _ _ _ h => h) (Or.inr ⟨by kernel_rfl, rfl⟩) hS ?_
    refine wpAnyH_take (i := 18) (v := undef) rfl (by kernel_rfl) (by kernel_rfl) (by kernel_rfl) (fun _ _ _ h => h) (Or.inr ⟨by kernel_rfl, rfl⟩) hS ?_
    refine wpAnyH_take (i := 19) (v := undef) rfl (by kernel_rfl) (by kernel_rfl) (by kernel_rfl) (fun _ _ _ h => h) (Or.inr ⟨by kernel_rfl, rfl⟩) hS ?_
    refine wpAnyH_take (i := 20) (v := undef) rfl (by kernel_rfl) (by kernel_rfl) (by kernel_rfl) (fun _ _ _ h => h) (Or.inr ⟨by kernel_rfl, rfl⟩) hS ?_
    refine wpAnyH_take (i := 21) (v := undef) rfl (by kernel_rfl) (by kernel_rfl) (by kernel_rfl) (fun _ _ _ h => h) (Or.inr ⟨by kernel_rfl, rfl⟩) hS ?_
    refine wpAnyH_take (i := 22) (v := undef) rfl (by kernel_rfl) (by kernel_rfl) (by kernel_rfl) (fun _ _ _ h => h) (Or.inr ⟨by kernel_rfl, rfl⟩) hS ?_
    refine wpAnyH_take (i := 23) (v := undef) rfl (by kernel_rfl) (by kernel_rfl) (by kernel_rfl) (fun _ _ _ h => h) (Or.inr ⟨by kernel_rfl, rfl⟩) hS ?_
    refine wpAnyH_take (i := 24) (v := .bool true) rfl (by kernel_rfl) (by kernel_rfl) (by kernel_rfl) (fun _ _ _ h => h) (Or.inl ⟨by kernel_rfl, fun W hW => by go_simp⟩) hS ?_
    refine wpAnyH_ready (rs := [25]) (by kernel_rfl) (by simp) (AllReadyH.cons rfl (fun K hK => ?_) AllReadyH.nil)
    rw [if_pos (by kernel_rfl)]
    go_simp
    refine hK.out _ _ hS (fun hS => ?_)
    exact wpAnyH_done (by kernel_rfl) ⟨rfl, rfl, hS⟩ _
  intro a' w' h4 hd hB
  go_wp2_with fail
  exact bodyPost_ret (quotes_ret _ h4) hd ⟨rfl, hB⟩

set_option maxRecDepth 100000 in
set_option maxHeartbeats 2000000 in
theorem quotes_s (a : Option Addr) (b off c : Nat) (l : List UInt8) (s : ByteArray) (w : World) (hli : decide ((2000 : Int) < (l.length : Int)) = false) (hsi : (2000 : Int) < (s.size : Int)) :
    Calls Try.prog 9 #[.slice a l.length c, .string s] w fun e w' => e = .returned (.bool true) ∧ Below w.heap.size w w' := by
  obtain ⟨B, hBB⟩ : ∃ B, w.heap.size = B := ⟨_, rfl⟩
  rw [hBB]
  have hB0 : Below B w w.drew := (Below.refl B w).drew
  go_enter Try.func9, Try.ntmps9
  go_wp2_with fail
  apply region_true (n := 4) (B := B) (w0 := w)
  · refine wp_region_held_drew (S := Below B w) (by kernel_rfl) hB0 (fun hS => ?_)
    refine wpAnyH_take (i := 0) (v := .slice a l.length c) rfl (by kernel_rfl) (by kernel_rfl) (by kernel_rfl) (fun _ _ _ h => h) (Or.inl ⟨by kernel_rfl, fun W hW => by go_simp⟩) hS ?_
    refine wpAnyH_take (i := 1) (v := .int .i64 (l.length : Int)) rfl (by kernel_rfl) (by kernel_rfl) (by kernel_rfl) (fun _ _ _ h => h) (Or.inl ⟨by kernel_rfl, fun W hW => by go_simp⟩) hS ?_
    refine wpAnyH_take (i := 2) (v := .bool false) rfl (by kernel_rfl) (by kernel_rfl) (by kernel_rfl) (fun _ _ _ h => h) (Or.inl ⟨by kernel_rfl, fun W hW => by go_simp⟩) hS ?_
    refine wpAnyH_take (i := 3) (v := .bool false) rfl (by kernel_rfl) (by kernel_rfl) (by kernel_rfl) (fun _ _ _ h => h) (Or.inl ⟨by kernel_rfl, fun W hW => by go_simp⟩) hS ?_
    refine wpAnyH_take (i := 4) (v := .string s) rfl (by kernel_rfl) (by kernel_rfl) (by kernel_rfl) (fun _ _ _ h => h) (Or.inl ⟨by kernel_rfl, fun W hW => by go_simp⟩) hS ?_
    refine wpAnyH_take (i := 5) (v := .int .i64 (s.size : Int)) rfl (by kernel_rfl) (by kernel_rfl) (by kernel_rfl) (fun _ _ _ h => h) (Or.inl ⟨by kernel_rfl, fun W hW => by go_simp⟩) hS ?_
    refine wpAnyH_take (i := 6) (v := .bool true) rfl (by kernel_rfl) (by kernel_rfl) (by kernel_rfl) (fun _ _ _ h => h) (Or.inl ⟨by kernel_rfl, fun W hW => by go_simp⟩) hS ?_
    refine wpAnyH_take (i := 7) (v := .bool true) rfl (by kernel_rfl) (by kernel_rfl) (by kernel_rfl) (fun _ _ _ h => h) (Or.inl ⟨by kernel_rfl, fun W hW => by go_simp⟩) hS ?_
    refine wpAnyH_take (i := 8) (v := .bool true) rfl (by kernel_rfl) (by kernel_rfl) (by kernel_rfl) (fun _ _ _ h => h) (Or.inl ⟨by kernel_rfl, fun W hW => by go_simp⟩) hS ?_
    refine wpAnyH_take (i := 9) (v := undef) rfl (by kernel_rfl) (by kernel_rfl) (by kernel_rfl) (fun _ _ _ h => h) (Or.inr ⟨by kernel_rfl, rfl⟩) hS ?_
    refine wpAnyH_take (i := 10) (v := undef) rfl (by kernel_rfl) (by kernel_rfl) (by kernel_rfl) (fun _ _ _ h => h) (Or.inr ⟨by kernel_rfl, rfl⟩) hS ?_
    refine wpAnyH_take (i := 11) (v := undef) rfl (by kernel_rfl) (by kernel_rfl) (by kernel_rfl) (fun _ _ _ h => h) (Or.inr ⟨by kernel_rfl, rfl⟩) hS ?_
    refine wpAnyH_take (i := 12) (v := undef) rfl (by kernel_rfl) (by kernel_rfl) (by kernel_rfl) (fun _ _ _ h => h) (Or.inr ⟨by kernel_rfl, rfl⟩) hS ?_
    refine wpAnyH_take (i := 13) (v := undef) rfl (by kernel_rfl) (by kernel_rfl) (by kernel_rfl) (fun _ _ _ h => h) (Or.inr ⟨by kernel_rfl, rfl⟩) hS ?_
    refine wpAnyH_take (i := 14) (v := undef) rfl (by kernel_rfl) (by kernel_rfl) (by kernel_rfl) (fun _ _ _ h => h) (Or.inr ⟨by kernel_rfl, rfl⟩) hS ?_
    refine wpAnyH_take (i := 15) (v := undef) rfl (by kernel_rfl) (by kernel_rfl) (by kernel_rfl) (fun _ _ _ h => h) (Or.inr ⟨by kernel_rfl, rfl⟩) hS ?_
    refine wpAnyH_take (i := 16) (v := undef) rfl (by kernel_rfl) (by kernel_rfl) (by kernel_rfl) (fun _ _ _ h => h) (Or.inr ⟨by kernel_rfl, rfl⟩) hS ?_
    refine wpAnyH_take (i := 17) (v := undef) rfl (by kernel_rfl) (by kernel_rfl) (by kernel_rfl) (fun _ _ _ h => h) (Or.inr ⟨by kernel_rfl, rfl⟩) hS ?_
    refine wpAnyH_take (i := 18) (v := undef) rfl (by kernel_rfl) (by kernel_rfl) (by kernel_rfl) (fun _ _ _ h => h) (Or.inr ⟨by kernel_rfl, rfl⟩) hS ?_
    refine wpAnyH_take (i := 19) (v := undef) rfl (by kernel_rfl) (by kernel_rfl) (by kernel_rfl) (fun _ _ _ h => h) (Or.inr ⟨by kernel_rfl, rfl⟩) hS ?_
    refine wpAnyH_take (i := 20) (v := undef) rfl (by kernel_rfl) (by kernel_rfl) (by kernel_rfl) (fun _ _ _ h => h) (Or.inr ⟨by kernel_rfl, rfl⟩) hS ?_
    refine wpAnyH_take (i := 21) (v := undef) rfl (by kernel_rfl) (by kernel_rfl) (by kernel_rfl) (fun _ _ _ h => h) (Or.inr ⟨by kernel_rfl, rfl⟩) hS ?_
    refine wpAnyH_take (i := 22) (v := undef) rfl (by kernel_rfl) (by kernel_rfl) (by kernel_rfl) (fun _ _ _ h => h) (Or.inr ⟨by kernel_rfl, rfl⟩) hS ?_
    refine wpAnyH_take (i := 23) (v := undef) rfl (by kernel_rfl) (by kernel_rfl) (by kernel_rfl) (fun _ _ _ h => h) (Or.inr ⟨by kernel_rfl, rfl⟩) hS ?_
    refine wpAnyH_take (i := 24) (v := .bool true) rfl (by kernel_rfl) (by kernel_rfl) (by kernel_rfl) (fun _ _ _ h => h) (Or.inl ⟨by kernel_rfl, fun W hW => by go_simp⟩) hS ?_
    refine wpAnyH_ready (rs := [25]) (by kernel_rfl) (by simp) (AllReadyH.cons rfl (fun K hK => ?_) AllReadyH.nil)
    rw [if_pos (by kernel_rfl)]
    go_simp
    refine hK.out _ _ hS (fun hS => ?_)
    exact wpAnyH_done (by kernel_rfl) ⟨rfl, rfl, hS⟩ _
  intro a' w' h4 hd hB
  go_wp2_with fail
  exact bodyPost_ret (quotes_ret _ h4) hd ⟨rfl, hB⟩

set_option maxRecDepth 100000 in
set_option maxHeartbeats 2000000 in
theorem quotes_main (a : Option Addr) (b off c : Nat) (l : List UInt8) (s : ByteArray) (w : World) (hb : BytesAt w a b off l) (hlc : l.length ≤ c) (n0 : a = none → c = 0) (hl : ¬ 2000 < l.length) (hs : ¬ 2000 < s.size) (hli : decide ((2000 : Int) < (l.length : Int)) = false) (hsi : decide ((2000 : Int) < (s.size : Int)) = false) :
    Calls Try.prog 9 #[.slice a l.length c, .string s] w fun e w' => e = .returned (.bool true) ∧ Below w.heap.size w w' := by
  obtain ⟨B, hBB⟩ : ∃ B, w.heap.size = B := ⟨_, rfl⟩
  rw [hBB]
  have hB0 : Below B w w.drew := (Below.refl B w).drew
  have hbx := Lib.hid fun W (h : Below B w W) => hb.below (hBB ▸ h)
  have hcv := Lib.hid fun W (h : Below B w W) => (hbx.out W h).toStr l.length c rfl
  have hB1 := Lib.hid fun o => ((Below.refl B w).alloc (by omega) o).drew
  have hown0 := Lib.hid (OwnB.made w B B #[] [] 0 hBB (Nat.le_refl _) rfl rfl (by decide))
  obtain ⟨M, hM⟩ : ∃ M, M = mQuote s.data.toList := ⟨_, rfl⟩
  have hqu := Lib.hid fun W v T0 ho hbase hT0 => hM ▸ quote_any (w := W) (base := B) (v := v) (T0 := T0) s ho hbase hT0 (by omega)
  have hrq := Lib.hid fun W => hM ▸ rquote_any (w := W) s (by omega)
  have hadd := Lib.hid (str_append l M)
  have hsz := Lib.hid (show (str l).size + (str M).size ≤ 9223372036854775807 by
    have h1 := mQuote_len s.data.toList
    have h2 : s.data.toList.length = s.size := Array.length_toList
    rw [str_size, str_size, hM]
    omega)
  have hll := Lib.hid hl
  clear hb hl hs hM
  go_enter Try.func9, Try.ntmps9
  go_wp2_with fail
  apply region_true (n := 4) (B := B) (w0 := w)
  · refine wp_region_held_drew (S := Below B w) (by kernel_rfl) hB0 (fun hS => ?_)
    refine wpAnyH_take (i := 0) (v := .slice a l.length c) rfl (by kernel_rfl) (by kernel_rfl) (by kernel_rfl) (fun _ _ _ h => h) (Or.inl ⟨by kernel_rfl, fun W hW => by go_simp⟩) hS ?_
    refine wpAnyH_take (i := 1) (v := .int .i64 (l.length : Int)) rfl (by kernel_rfl) (by kernel_rfl) (by kernel_rfl) (fun _ _ _ h => h) (Or.inl ⟨by kernel_rfl, fun W hW => by go_simp⟩) hS ?_
    refine wpAnyH_take (i := 2) (v := .bool false) rfl (by kernel_rfl) (by kernel_rfl) (by kernel_rfl) (fun _ _ _ h => h) (Or.inl ⟨by kernel_rfl, fun W hW => by go_simp⟩) hS ?_
    refine wpAnyH_take (i := 3) (v := .bool false) rfl (by kernel_rfl) (by kernel_rfl) (by kernel_rfl) (fun _ _ _ h => h) (Or.inl ⟨by kernel_rfl, fun W hW => by go_simp⟩) hS ?_
    refine wpAnyH_take (i := 4) (v := .string s) rfl (by kernel_rfl) (by kernel_rfl) (by kernel_rfl) (fun _ _ _ h => h) (Or.inl ⟨by kernel_rfl, fun W hW => by go_simp⟩) hS ?_
    refine wpAnyH_take (i := 5) (v := .int .i64 (s.size : Int)) rfl (by kernel_rfl) (by kernel_rfl) (by kernel_rfl) (fun _ _ _ h => h) (Or.inl ⟨by kernel_rfl, fun W hW => by go_simp⟩) hS ?_
    refine wpAnyH_take (i := 6) (v := .bool false) rfl (by kernel_rfl) (by kernel_rfl) (by kernel_rfl) (fun _ _ _ h => h) (Or.inl ⟨by kernel_rfl, fun W hW => by go_simp⟩) hS ?_
    refine wpAnyH_take (i := 7) (v := .bool false) rfl (by kernel_rfl) (by kernel_rfl) (by kernel_rfl) (fun _ _ _ h => h) (Or.inl ⟨by kernel_rfl, fun W hW => by go_simp⟩) hS ?_
    refine wpAnyH_take (i := 8) (v := .bool false) rfl (by kernel_rfl) (by kernel_rfl) (by kernel_rfl) (fun _ _ _ h => h) (Or.inl ⟨by kernel_rfl, fun W hW => by go_simp⟩) hS ?_
    refine wpAnyH_take (i := 10) (v := .slice a l.length c) rfl (by kernel_rfl) (by kernel_rfl) (by kernel_rfl) (fun _ _ _ h => h) (Or.inl ⟨by kernel_rfl, fun W hW => by go_simp⟩) hS ?_
    refine wpAnyH_take (i := 12) (v := .string s) rfl (by kernel_rfl) (by kernel_rfl) (by kernel_rfl) (fun _ _ _ h => h) (Or.inl ⟨by kernel_rfl, fun W hW => by go_simp⟩) hS ?_
    refine wpAnyH_take (i := 15) (v := .slice a l.length c) rfl (by kernel_rfl) (by kernel_rfl) (by kernel_rfl) (fun _ _ _ h => h) (Or.inl ⟨by kernel_rfl, fun W hW => by go_simp⟩) hS ?_
    refine wpAnyH_take (i := 17) (v := .string s) rfl (by kernel_rfl) (by kernel_rfl) (by kernel_rfl) (fun _ _ _ h => h) (Or.inl ⟨by kernel_rfl, fun W hW => by go_simp⟩) hS ?_
    refine wpAnyH_take (i := 16) (v := .string (str l)) rfl (by kernel_rfl) (by kernel_rfl) (by kernel_rfl) (fun _ _ _ h => h) (Or.inl ⟨by kernel_rfl, fun W hW => by (have hc := hcv.out W hW; go_simp)⟩) hS ?_
    refine wpAnyH_ready (rs := [9]) (by kernel_rfl) (by simp) (AllReadyH.cons rfl (fun K hK => ?_) AllReadyH.nil)
    rw [if_pos (by kernel_rfl)]
    go_simp
    refine hK.out _ _ (hB1.out _) (fun hS => ?_)
    clear hK K
    refine wpAnyH_ready (rs := [11]) (by kernel_rfl) (by simp) (AllReadyH.cons rfl (fun K hK => ?_) AllReadyH.nil)
    rw [if_pos (by kernel_rfl)]
    refine oper_appendB _ _ (by rfl) (by rfl) B (.slice (some ⟨B, 0, none⟩) 0 0) [] l a b off l.length c (by rfl) (by rfl) (by exact hown0.out) rfl (by exact hbx.out _ (hB1.out _)) n0 (by have := hll.out; simp; omega) (by simp; omega) ?_
    intro a2 c2 w2 L2 hL2 hown2 hg2
    have hBw2 := below_own (w := (w.alloc (.cells #[] 5)).drew) hown0.out hg2.out (hB1.out _) (Nat.le_refl _) (by simp; omega)
    have eL : l = L2 := by simpa using hL2.out.symm
    subst eL
    replace hown2 := Lib.hid hown2
    clear hL2 hg2
    try go_simp
    refine hK.out _ _ hBw2 (fun hS => ?_)
    clear hK K
    refine wpAnyH_ready (rs := [13]) (by kernel_rfl) (by simp) (AllReadyH.cons rfl (fun K hK => ?_) AllReadyH.nil)
    rw [if_pos (by kernel_rfl)]
    go_simp
    go_at_call 28
    refine (hqu.out _ _ _ hown2.out (hBB ▸ hBw2.size) (by have := hll.out; omega)).mono ?_
    rintro r w4 ⟨a4, c4, L4, rfl, hL4, hown4, hb4⟩
    subst hL4
    have hBw4 := hBw2.trans hb4
    replace hown4 := Lib.hid hown4
    replace hb4 := Lib.hid hb4
    try go_simp
    refine hK.out _ _ hBw4 (fun hS => ?_)
    clear hK K
    have hcv4 := hown4.out.toStr
    rw [List.length_append] at hcv4
    replace hcv4 := Lib.hid hcv4
    refine wpAnyH_ready (rs := [14, 18]) (by kernel_rfl) (by simp) (AllReadyH.cons rfl (fun K hK => ?_) (AllReadyH.cons rfl (fun K hK => ?_) AllReadyH.nil))
    · rw [if_pos (by kernel_rfl)]
      have hc := hcv4.out
      go_simp
      refine hK.out _ _ hBw4 (fun hS => ?_)
      clear hK K hc
      refine wpAnyH_ready (rs := [18]) (by kernel_rfl) (by simp) (AllReadyH.cons rfl (fun K hK => ?_) AllReadyH.nil)
      rw [if_pos (by kernel_rfl)]
      go_simp
      go_at_call 29
      refine (hrq.out _).mono ?_
      rintro r w5 ⟨rfl, hb5⟩
      have hBw5 := below_next hBB hBw4 hb5
      try go_simp
      refine hK.out _ _ hBw5 (fun hS => ?_)
      clear hK K
      refine wpAnyH_take (i := 19) (v := .string (str (l ++ M))) rfl (by kernel_rfl) (by kernel_rfl) (by kernel_rfl) (fun _ _ _ h => h) (Or.inl ⟨by kernel_rfl, fun W hW => by (have hc := hadd.out; have hz := hsz.out; go_simp)⟩) hS ?_
      refine wpAnyH_take (i := 20) (v := .bool true) rfl (by kernel_rfl) (by kernel_rfl) (by kernel_rfl) (fun _ _ _ h => h) (Or.inl ⟨by kernel_rfl, fun W hW => by go_simp⟩) hS ?_
      refine wpAnyH_take (i := 21) (v := .bool true) rfl (by kernel_rfl) (by kernel_rfl) (by kernel_rfl) (fun _ _ _ h => h) (Or.inl ⟨by kernel_rfl, fun W hW => by go_simp⟩) hS ?_
      refine wpAnyH_ready (rs := [22]) (by kernel_rfl) (by simp) (AllReadyH.cons rfl (fun K hK => ?_) AllReadyH.nil)
      rw [if_pos (by kernel_rfl)]
      go_simp
      go_at_call 23
      refine (works06_any _).mono ?_
      rintro r w6 ⟨rfl, hb6⟩
      have hBw6 := below_next hBB hBw5 hb6
      try go_simp
      refine hK.out _ _ hBw6 (fun hS => ?_)
      clear hK K
      refine wpAnyH_take (i := 23) (v := .bool true) rfl (by kernel_rfl) (by kernel_rfl) (by kernel_rfl) (fun _ _ _ h => h) (Or.inl ⟨by kernel_rfl, fun W hW => by go_simp⟩) hS ?_
      refine wpAnyH_take (i := 24) (v := .bool true) rfl (by kernel_rfl) (by kernel_rfl) (by kernel_rfl) (fun _ _ _ h => h) (Or.inl ⟨by kernel_rfl, fun W hW => by go_simp⟩) hS ?_
      refine wpAnyH_ready (rs := [25]) (by kernel_rfl) (by simp) (AllReadyH.cons rfl (fun K hK => ?_) AllReadyH.nil)
      rw [if_pos (by kernel_rfl)]
      go_simp
      refine hK.out _ _ hS (fun hS => ?_)
      exact wpAnyH_done (by kernel_rfl) ⟨rfl, rfl, hS⟩ _
    · rw [if_pos (by kernel_rfl)]
      go_simp
      go_at_call 29
      refine (hrq.out _).mono ?_
      rintro r w5 ⟨rfl, hb5⟩
      have hBw5 := below_next hBB hBw4 hb5
      try go_simp
      refine hK.out _ _ hBw5 (fun hS => ?_)
      clear hK K
      have hc := OwnB.toStr (hown4.out.below hb5)
      rw [List.length_append] at hc
      refine wpAnyH_take (i := 19) (v := .string (str (l ++ M))) rfl (by kernel_rfl) (by kernel_rfl) (by kernel_rfl) (fun _ _ _ h => h) (Or.inl ⟨by kernel_rfl, fun W hW => by (have hc := hadd.out; have hz := hsz.out; go_simp)⟩) hS ?_
      refine wpAnyH_ready (rs := [14]) (by kernel_rfl) (by simp) (AllReadyH.cons rfl (fun K hK => ?_) AllReadyH.nil)
      rw [if_pos (by kernel_rfl)]
      go_simp
      refine hK.out _ _ hBw5 (fun hS => ?_)
      clear hK K hc
      refine wpAnyH_take (i := 20) (v := .bool true) rfl (by kernel_rfl) (by kernel_rfl) (by kernel_rfl) (fun _ _ _ h => h) (Or.inl ⟨by kernel_rfl, fun W hW => by go_simp⟩) hS ?_
      refine wpAnyH_take (i := 21) (v := .bool true) rfl (by kernel_rfl) (by kernel_rfl) (by kernel_rfl) (fun _ _ _ h => h) (Or.inl ⟨by kernel_rfl, fun W hW => by go_simp⟩) hS ?_
      refine wpAnyH_ready (rs := [22]) (by kernel_rfl) (by simp) (AllReadyH.cons rfl (fun K hK => ?_) AllReadyH.nil)
      rw [if_pos (by kernel_rfl)]
      go_simp
      go_at_call 23
      refine (works06_any _).mono ?_
      rintro r w6 ⟨rfl, hb6⟩
      have hBw6 := below_next hBB hBw5 hb6
      try go_simp
      refine hK.out _ _ hBw6 (fun hS => ?_)
      clear hK K
      refine wpAnyH_take (i := 23) (v := .bool true) rfl (by kernel_rfl) (by kernel_rfl) (by kernel_rfl) (fun _ _ _ h => h) (Or.inl ⟨by kernel_rfl, fun W hW => by go_simp⟩) hS ?_
      refine wpAnyH_take (i := 24) (v := .bool true) rfl (by kernel_rfl) (by kernel_rfl) (by kernel_rfl) (fun _ _ _ h => h) (Or.inl ⟨by kernel_rfl, fun W hW => by go_simp⟩) hS ?_
      refine wpAnyH_ready (rs := [25]) (by kernel_rfl) (by simp) (AllReadyH.cons rfl (fun K hK => ?_) AllReadyH.nil)
      rw [if_pos (by kernel_rfl)]
      go_simp
      refine hK.out _ _ hS (fun hS => ?_)
      exact wpAnyH_done (by kernel_rfl) ⟨rfl, rfl, hS⟩ _
  intro a' w' h4 hd hB
  go_wp2_with fail
  exact bodyPost_ret (quotes_ret _ h4) hd ⟨rfl, hB⟩

theorem jlexQuotes_walk (a : Option Addr) (b off c : Nat) (l : List UInt8) (s : ByteArray) (w : World) (hb : BytesAt w a b off l) (hlc : l.length ≤ c) (n0 : a = none → c = 0) :
    Calls Try.prog 9 #[.slice a l.length c, .string s] w fun e w' => e = .returned (.bool true) ∧ Below w.heap.size w w' := by
  by_cases hl : 2000 < l.length
  · exact quotes_l a b off c l s w (by omega)
  · have hli : decide ((2000 : Int) < (l.length : Int)) = false := by simp; omega
    by_cases hs : 2000 < s.size
    · exact quotes_s a b off c l s w hli (by omega)
    · exact quotes_main a b off c l s w hb hlc n0 hl hs hli (by simp; omega)

end Go.Proofs.Ytmembanbemljoaa
