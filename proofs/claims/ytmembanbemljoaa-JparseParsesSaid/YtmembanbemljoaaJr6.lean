/- avocet/avocetref07.Parse. -/
import Derived.Test.YtmembanbemljoaaJr5
import Derived.Test.YtmembanbemljoaaJpp
namespace Go.Proofs.Ytmembanbemljoaa
open Go.RowKit
set_option linter.unusedVariables false
set_option linter.unusedSimpArgs false

variable {a : Option Addr} {b off c : Nat} {l : List UInt8}
theorem rparse_ret {W : World} {H : Nat} {v0 v1 v2 v3 v4 v5 : Value} (tmps : Array Value) (hz : tmps[2]?.getD undef = .pointer (some ⟨H, 0, none⟩)) (h3 : tmps[3]?.getD undef = v5) (hc : ∀ j, W.cell? ⟨H, j, none⟩ = (#[v0, v1, v2, v3, v4] : Array Value)[j]?) :
    (results Try.f33 tmps).run Try.prog W = .ok (.tuple #[.agg #[v0, v1, v2, v3, v4], v5]) W := by
  simp [results, Try.results33, go_sem, hz, hc, h3]
theorem PPost.no {W W1 : World} {H e : Nat} (hH : W.heap.size = H) (hB : Below H W W1) : PPost W (zJ, e) (.returned (.tuple #[.agg #[.int .i64 0, .int .i64 0, .string ⟨#[]⟩, .slice none 0 0, .slice none 0 0], .int .i64 (e : Int)])) W1 :=
  ⟨_, _, _, _, _, rfl, hH ▸ hB, zJ_at _ _⟩

set_option maxRecDepth 100000 in
set_option maxHeartbeats 1000000 in
theorem rparse_any {W : World} (hb : BytesAt W a b off l) (hlen : l.length ≤ c) (hbig : l.length ≤ 20000) (hnil : a = none → c = 0) :
    Calls Try.prog 33 #[.slice a l.length c] W (PPost W (resT (mParse l))) := by
  obtain ⟨H, hH⟩ : ∃ H, W.heap.size = H := ⟨_, rfl⟩
  have hli : decide ((20000 : Int) < (l.length : Int)) = false := by simp; omega
  have hbz := hb.below ((Below.refl W.heap.size W).alloc (Nat.le_refl _) (.cells #[.int .i64 0, .int .i64 0, .string ⟨#[]⟩, .slice none 0 0, .slice none 0 0] 58))
  have hws := Lib.hid (rwords_any hbz hlen (by omega) hnil)
  have hwl := words_len (l := l) _ 0 (Nat.le_refl _) (Nat.zero_le _)
  have hB1 : Below H W (W.alloc (.cells #[.int .i64 0, .int .i64 0, .string ⟨#[]⟩, .slice none 0 0, .slice none 0 0] 58)) := (Below.refl H W).alloc (by omega) _
  have hz1 := Blk.made W #[.int .i64 0, .int .i64 0, .string ⟨#[]⟩, .slice none 0 0, .slice none 0 0] 58 H hH
  have hat0 : At l (wordsOf l 0) 0 0 := ⟨rfl, Nat.zero_le _⟩
  have hne : wordsOf l 0 ≠ [] := by intro e; have := hat0.lt; rw [e] at this; simp at this
  obtain ⟨ws, hwse⟩ : ∃ ws, ws = wordsOf l 0 := ⟨_, rfl⟩
  rw [← hwse] at hws hwl hat0 hne
  replace hwse := Lib.hid hwse
  replace hB1 := Lib.hid hB1
  replace hz1 := Lib.hid hz1
  obtain ⟨T, hT⟩ : ∃ T, T = resT (mParse l) := ⟨_, rfl⟩
  rw [← hT]
  replace hT := Lib.hid hT
  clear hb hbz
  go_enter Try.func33, Try.ntmps33
  go_wp2_with fail
  refine hws.out.mono ?_
  rintro r W2 ⟨v, rfl, own2, b2⟩
  have hs2 := b2.size
  simp at hs2
  obtain ⟨g, cp, rfl, _, hg, hcells⟩ := own2.word hne
  have hWs : WsAt W2 g ws := ⟨hg, hcells⟩
  have hB2 := Lib.hid (hB1.out.trans (b2.mono (by simp; omega)))
  have hz2 : Blk W2 H _ _ := hz1.out.kept b2 (by simp; omega)
  have hvc := Lib.hid (rvalue_all (g := g) (cp := cp) (by omega) 32 (Nat.le_refl _) W2 0 0 hWs hat0)
  clear own2 b2 hcells hws hat0
  go_wp2_with fail
  refine hvc.out.mono ?_
  rintro r W3 ⟨v0, v1, v2, v3, v4, i', e', rfl, hones, b3, hbad, hok⟩
  obtain ⟨Y, hY⟩ : ∃ Y, W3.heap.size = Y := ⟨_, rfl⟩
  have hs3 := b3.size
  have t0 := fun W' A => run_store Try.prog W' A v0 .plain (hones v0 (by simp))
  have t1 := fun W' A => run_store Try.prog W' A v1 .plain (hones v1 (by simp))
  have t2 := fun W' A => run_store Try.prog W' A v2 .plain (hones v2 (by simp))
  have t3 := fun W' A => run_store Try.prog W' A v3 .plain (hones v3 (by simp))
  have t4 := fun W' A => run_store Try.prog W' A v4 .plain (hones v4 (by simp))
  have hB3 := hB2.out.trans (b3.mono (by omega))
  have hz3 := hz2.kept b3 (by omega)
  have hB4 := hB3.alloc (by omega) (.cells #[v0, v1, v2, v3, v4] 58)
  have hz4 : Blk (W3.alloc (.cells #[v0, v1, v2, v3, v4] 58)) H _ _ := (heap_alloc_old W3 _ (by omega)).trans hz3
  have hy4 := Blk.made W3 #[v0, v1, v2, v3, v4] 58 Y hY
  have hWs4 : WsAt (W3.alloc (.cells #[v0, v1, v2, v3, v4] 58)) g ws := hWs.below (b3.alloc hs3 _) hg
  have r4 := hz4.cell
  have s4 := hz4.free
  rcases hr : mVal l 32 (mTakeN l 0) with e1 | ⟨t, q⟩
  · obtain rfl := hbad e1 hr
    have hp1 : mParse l = .bad e1 := by unfold mParse; rw [hr]
    have hTe : T = (zJ, e1) := by rw [hT.out, hp1]; rfl
    have he1 : e1 ≠ 0 := by
      have := item_within (reads_val (l := l) 32) (Nat.zero_le _)
      rw [hr] at this
      exact this
    have hez : ((e1 : Int) == 0) = false := by simp; omega
    have hzr := put5_cell hz4 (.int .i64 0) (.int .i64 0) (.string ⟨#[]⟩) (.slice none 0 0) (.slice none 0 0)
    have hp := PPost.no (e := e1) hH (below_put5 hB4 (Nat.le_refl H) (.int .i64 0) (.int .i64 0) (.string ⟨#[]⟩) (.slice none 0 0) (.slice none 0 0))
    rw [← hTe] at hp
    replace hp := Lib.hid hp
    replace hzr := Lib.hid hzr
    replace he1 := Lib.hid he1
    replace hTe := Lib.hid hTe
    clear hbad hok hr hp1 b3 hz3 hz4 hz2 hvc hWs hWs4 hB3 hB4 hy4
    go_wp2_with fail
    refine bodyPost_ret (rparse_ret _ (by rfl) (by rfl) hzr.out) rfl ?_
    exact hp.out
  · obtain ⟨rfl, hJ, j, rfl, hij, hAtj⟩ := hok t q hr
    have hjl := hAtj.lt
    have hjlt : (j : Int) < (ws.length : Int) := by omega
    have hkq := w0_k hAtj.2
    obtain ⟨m0, m1, m2, m3, m4⟩ := hWs4.2 j _ hAtj.get
    have y4 := hy4.cell
    by_cases hk : (mTakeN l q).k = 11
    · rw [hkq, hk] at m0
      have hp1 : mParse l = .ok t q := by unfold mParse; rw [hr]; simp only []; rw [if_pos hk]
      have hTe : T = (t, 0) := by rw [hT.out, hp1]; rfl
      have hzr := put5_cell hz4 v0 v1 v2 v3 v4
      have hp : PPost W (t, 0) (.returned (.tuple #[.agg #[v0, v1, v2, v3, v4], .int .i64 0])) (put5 (W3.alloc (.cells #[v0, v1, v2, v3, v4] 58)) H v0 v1 v2 v3 v4) := by
        refine ⟨_, _, _, _, _, rfl, ?_, ?_⟩
        · rw [hH]; exact below_put5 hB4 (Nat.le_refl H) _ _ _ _ _
        · refine (hJ.frame (fun b hb => ?_)).mono (fun b hb => ⟨by omega, by rw [size_put5]; simp; omega⟩)
          rw [heap_put5 _ _ _ _ _ _ _ _ (by omega)]
          exact heap_alloc_old W3 _ hb.2
      rw [← hTe] at hp
      replace hp := Lib.hid hp
      replace hzr := Lib.hid hzr
      replace hk := Lib.hid hk
      replace hTe := Lib.hid hTe
      clear hbad hok hr hp1 b3 hz3 hz4 hz2 hvc hWs hWs4 hB3 hB4 hy4 hJ hkq hAtj
      go_wp2_with fail
      refine bodyPost_ret (rparse_ret _ (by rfl) (by rfl) hzr.out) rfl ?_
      exact hp.out
    · have hp1 : mParse l = .bad (wrongE (mTakeN l q)) := by unfold mParse; rw [hr]; simp only []; rw [if_neg hk]
      have hwr := fun W' => rwrong_any (W := W') hAtj.2
      obtain ⟨x, hx⟩ : ∃ x, x = w0 l q := ⟨_, rfl⟩
      obtain ⟨e, he⟩ : ∃ e, e = wrongE (mTakeN l q) := ⟨_, rfl⟩
      have hTe : T = (zJ, e) := by rw [hT.out, hp1, he]; rfl
      rw [← hx] at hkq m0 m1 m2 m3 m4 hwr
      rw [← he] at hwr
      have hki : ((x.k : Int) == 11) = false := by simp; omega
      have hki2 : ((x.k : Int) != 11) = true := by simp; omega
      have hzb := Lib.hid hz4
      have hBb := Lib.hid hB4
      replace hwr := Lib.hid hwr
      replace hk := Lib.hid hk
      replace hTe := Lib.hid hTe
      replace hx := Lib.hid hx
      replace he := Lib.hid he
      clear hbad hok hr hp1 b3 hz3 hz4 hz2 hvc hWs hWs4 hB3 hB4 hy4 hJ hkq hAtj r4 s4
      go_wp2_with fail
      refine (hwr.out _).mono ?_
      rintro r w7 ⟨rfl, hb7⟩
      have h47 := hzb.out.kept hb7 hzb.out.lt
      have hB7 := hBb.out.trans (hb7.mono (Nat.le_of_lt hzb.out.lt))
      have r4 := h47.cell
      have s4 := h47.free
      have hzr := put5_cell h47 (.int .i64 0) (.int .i64 0) (.string ⟨#[]⟩) (.slice none 0 0) (.slice none 0 0)
      have hp := PPost.no (e := e) hH (below_put5 hB7 (Nat.le_refl H) (.int .i64 0) (.int .i64 0) (.string ⟨#[]⟩) (.slice none 0 0) (.slice none 0 0))
      rw [← hTe.out] at hp
      replace hp := Lib.hid hp
      replace hzr := Lib.hid hzr
      clear hb7 h47 hB7 m0 m1 m2 m3 m4
      go_wp2_with fail
      refine bodyPost_ret (rparse_ret _ (by rfl) (by rfl) hzr.out) rfl ?_
      exact hp.out

end Go.Proofs.Ytmembanbemljoaa
