/- JlexBack: the law's walk. -/
import Derived.Test.YtmembanbemljoaaBak
import Derived.Test.YtmembanbemljoaaWorks
namespace Go.Proofs.Ytmembanbemljoaa
open Go.RowKit
set_option linter.unusedVariables false
set_option linter.unusedSimpArgs false

theorem bnext {B : Nat} {w w1 w2 : World} (h1 : Below B w w1) (hB : B ≤ w1.heap.size) (h2 : Below w1.heap.size w1 w2) : Below B w w2 := h1.trans (h2.mono hB)
theorem quote_len (s : List UInt8) : (mQuote s).length ≤ 6 * s.length + 2 := by
  have h : (s.flatMap qByte).length ≤ 6 * s.length := by
    induction s with
    | nil => simp
    | cons c s ih =>
      have := qByte_len c
      rw [List.flatMap_cons, List.length_append, List.length_cons]
      omega
  unfold mQuote
  simp only [List.length_append, List.length_cons, List.length_nil]
  omega

set_option maxRecDepth 100000 in
set_option maxHeartbeats 4000000 in
theorem jlexBack_walk (a : Option Addr) (b off c : Nat) (l : List UInt8) (s : ByteArray) (w : World) (hb : BytesAt w a b off l) (hlc : l.length ≤ c) (n0 : a = none → c = 0) :
    Calls Try.prog 10 #[.string s, .slice a l.length c] w fun e w' => e = .returned (.bool true) ∧ Below w.heap.size w w' := by
  obtain ⟨B, hBB⟩ : ∃ B, w.heap.size = B := ⟨_, rfl⟩
  have hWk := Lib.hid (works06_any w)
  rw [hBB] at hWk ⊢
  by_cases hs : 2000 < s.size
  · have hsi : (2000 : Int) < (s.size : Int) := by omega
    clear hb
    go_enter Try.func10, Try.ntmps10
    go_wp2_with fail
    refine hWk.out.mono ?_
    rintro r w1 ⟨rfl, hB1⟩
    replace hB1 := Lib.hid hB1
    go_wp2_with fail
    go_ret
    exact ⟨rfl, hB1.out⟩
  have hsi : ¬ (2000 : Int) < (s.size : Int) := by omega
  by_cases hl : 2000 < l.length
  · have hli : (2000 : Int) < (l.length : Int) := by omega
    clear hb
    go_enter Try.func10, Try.ntmps10
    go_wp2_with fail
    refine hWk.out.mono ?_
    rintro r w1 ⟨rfl, hB1⟩
    replace hB1 := Lib.hid hB1
    go_wp2_with fail
    go_ret
    exact ⟨rfl, hB1.out⟩
  have hli : ¬ (2000 : Int) < (l.length : Int) := by omega
  have hbx := Lib.hid fun W (h : Below B w W) => hb.below (hBB ▸ h)
  have hsl : s.data.toList.length = s.size := Array.length_toList
  obtain ⟨Q, hQ⟩ : ∃ Q, Q = mQuote s.data.toList := ⟨_, rfl⟩
  have hQl : Q.length ≤ 12002 := by have := quote_len s.data.toList; rw [hQ]; omega
  have hQ0 : Q ≠ [] := by rw [hQ]; unfold mQuote; simp
  have hqu := Lib.hid fun W (hW : B ≤ W.heap.size) => quote_any (w := W) (base := B) s (OwnB.nil W B) hW (by simp) (by omega)
  obtain ⟨m, hm⟩ : ∃ m, m = mTake (Q ++ l) 0 := ⟨_, rfl⟩
  have hmt : m = if isRight s.data.toList = true then ⟨0, 10, 0, s.data.toList, 0, Q.length⟩ else ⟨20, 0, 0, [], 0, 0⟩ := by
    rw [hm]
    unfold mTake
    rw [if_neg (by omega), hQ]
    exact take_quote _ _
  obtain ⟨rb, hrb⟩ : ∃ rb, rb = isRight s.data.toList := ⟨_, rfl⟩
  rw [← hrb] at hmt
  replace hmt := Lib.hid hmt
  replace hrb := Lib.hid hrb
  replace hm := Lib.hid hm
  replace hQ := Lib.hid hQ
  replace hQ0 := Lib.hid hQ0
  replace hQl := Lib.hid hQl
  replace hsl := Lib.hid hsl
  replace hl := Lib.hid hl
  replace hs := Lib.hid hs
  clear hb
  go_enter Try.func10, Try.ntmps10
  go_wp2_with fail
  refine hWk.out.mono ?_
  rintro r w1 ⟨rfl, hB1⟩
  have hz1 : B ≤ w1.heap.size := hBB ▸ hB1.size
  replace hB1 := Lib.hid hB1
  go_wp2_with fail
  refine (hqu.out w1 hz1).mono ?_
  rintro r w2 ⟨a2, c2, L2, rfl, hL2, hown2, hB2⟩
  obtain rfl : L2 = Q := by rw [hL2, hQ.out]; rfl
  clear hL2 hz1 hWk hqu
  replace hB2 := hB1.out.trans hB2
  obtain ⟨K, hK⟩ : ∃ K, w2.heap.size = K := ⟨_, rfl⟩
  have hBK : B ≤ K := by have := hB2.size; omega
  obtain ⟨a2', b2, c2', e2, hb2, hlc2, -, h2s⟩ := hown2.parts
  simp only [Value.slice.injEq] at e2
  obtain ⟨rfl, -, rfl⟩ := e2
  have hn2 : a2 = none → c2 = 0 := by rw [(h2s hQ0.out).2]; intro h; simp at h
  have hown0 := Lib.hid (OwnB.made w2 B K #[] [] 0 hK hBK rfl rfl (by decide))
  have hb2' := Lib.hid (hb2.below ((Below.refl w2.heap.size w2).alloc (Nat.le_refl _) (.cells #[] 5)))
  have hB3 := Lib.hid (hB2.alloc (by omega) (.cells #[] 5))
  replace hB2 := Lib.hid hB2
  clear hB1 hown2 hb2 h2s
  go_wp2_with (at_builtin; refine wpList_appendB _ _ rfl rfl rfl B (.slice (some ⟨K, 0, none⟩) 0 0) [] L2 a2 b2 0 L2.length c2 rfl rfl (by exact hown0.out) rfl (by exact hb2'.out) hn2 (by have := hQl.out; simp; omega) (by simp; omega) ?_)
  intro a3 c3 w3 L3 hL3 hown3 hg3
  have hB3' := below_own (w := w2.alloc _) hown0.out hg3.out hB3.out (Nat.le_refl _) (by simp; omega)
  obtain rfl : L3 = L2 := by simpa using hL3.out
  have hb3 := Lib.hid (hbx.out _ hB3')
  have hz3 : B ≤ w3.heap.size := hBB ▸ hB3'.size
  replace hB3' := Lib.hid hB3'
  replace hown3 := Lib.hid hown3
  clear hL3 hown0 hg3 hB3 hb2' hn2
  go_wp2_with (at_builtin; refine wpList_appendB _ _ rfl rfl rfl B (.slice a3 L3.length c3) L3 l a b off l.length c rfl rfl (by exact hown3.out) rfl (by exact hb3.out) n0 (by have := hQl.out; have := hl.out; omega) hz3 ?_)
  intro a4 c4 w4 L4 hL4 hown4 hg4
  have hB4 := below_own hown3.out hg4.out hB3'.out (Nat.le_refl _) hz3
  obtain ⟨a4', b4, c4', e4, hb4, hlc4, -, h4s⟩ := hown4.parts
  simp only [Value.slice.injEq] at e4
  obtain ⟨rfl, -, rfl⟩ := e4
  have h40 : L4 ≠ [] := by rw [hL4.out]; intro h; exact hQ0.out (List.append_eq_nil_iff.1 h).1
  have hTk := take_any (c := c4) hb4 (fun h => hb4.lt h) hlc4 (by rw [hL4.out, List.length_append]; have := hQl.out; have := hl.out; omega) (by rw [(h4s h40).2]; intro h; simp at h) 0
  rw [show mTake L4 0 = m from by rw [hL4.out, hm.out]] at hTk
  unfold MT.val at hTk
  replace hTk := Lib.hid hTk
  have hz4 : B ≤ w4.heap.size := hBB ▸ hB4.size
  replace hB4 := Lib.hid hB4
  clear hB3' hown3 hb3 hz3 hg4 hown4 hb4 h4s hlc4
  go_wp2_with fail
  refine hTk.out.mono ?_
  rintro r w5 ⟨rfl, hB5⟩
  replace hB5 := bnext hB4.out hz4 hB5
  obtain ⟨H, hH⟩ : ∃ H, w5.heap.size = H := ⟨_, rfl⟩
  have hBH : B ≤ H := by have := hB5.size; omega
  have hRt : ∀ cap fr, Calls Try.prog 30 #[.slice (some ⟨H + 1, 0, none⟩) s.size cap] ((w5.alloc (.cells #[.int .i64 (m.k : Int), .int .i64 m.n, .string (str m.s), .int .i64 (m.at_ : Int), .int .i64 (m.nx : Int)] 36)).alloc (.cells (bytesRow s cap) 5 fr)).drew
      (fun r w' => r = .returned (.bool rb) ∧ Below B w w' ∧ Blk w' H #[.int .i64 (m.k : Int), .int .i64 m.n, .string (str m.s), .int .i64 (m.at_ : Int), .int .i64 (m.nx : Int)] 36) := by
    intro cap fr
    have hbr := (bytesRow_at (w5.alloc (.cells #[.int .i64 (m.k : Int), .int .i64 m.n, .string (str m.s), .int .i64 (m.at_ : Int), .int .i64 (m.nx : Int)] 36)) s cap 5 fr (H + 1) (by simp; omega)).drewN 1
    have := uright_any (c := cap) hbr (by have := hsl.out; have := hs.out; omega)
    rw [hsl.out, ← hrb.out] at this
    refine Calls.mono this ?_
    rintro r w' ⟨rfl, n, rfl⟩
    refine ⟨rfl, below_drewN (below_drewN ((hB5.alloc (by omega) _).alloc (by simp; omega) _) 1) n, ?_⟩
    exact (((Blk.made w5 _ _ H hH).kept ((Below.refl (H + 1) (w5.alloc _)).alloc (by simp; omega) _) (by omega)).drewN 1).drewN n
  replace hRt := Lib.hid hRt
  have hcv := fun (w : World) => run_bytes_of_string w 9 22 5 s Try.underlying9 Try.underlying22 Try.underlying5
  clear hTk hB4 hz4
  go_wp2_with fail
  refine (hRt.out _ _).mono ?_
  rintro r w6 ⟨rfl, hB6, hZ⟩
  have hck := fun j => hZ.cell j
  clear hcv hRt hZ
  replace hB6 := Lib.hid hB6
  cases rb with
  | true =>
    obtain rfl := hmt.out
    have hst := str_of s
    go_wp2_with fail
    go_ret
    exact ⟨rfl, hB6.out⟩
  | false =>
    obtain rfl := hmt.out
    go_wp2_with fail
    go_ret
    exact ⟨rfl, hB6.out⟩

end Go.Proofs.Ytmembanbemljoaa
