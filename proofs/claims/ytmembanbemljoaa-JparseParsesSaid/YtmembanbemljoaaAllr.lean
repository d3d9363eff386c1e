/- avocet/avocetref06.All: all words of a text. -/
import Derived.Test.YtmembanbemljoaaRtake
namespace Go.Proofs.Ytmembanbemljoaa
open Go.RowKit
set_option linter.unusedVariables false
set_option linter.unusedSimpArgs false

variable {w : World} {a : Option Addr} {b off c : Nat} {l : List UInt8}
def rallPost (w : World) (M : Nat × List MT) (r : Ending) (w' : World) : Prop :=
  ∃ v, r = .returned (.tuple #[v, .int .i64 (M.1 : Int)]) ∧ OwnW 40 w' w.heap.size v M.2 ∧ Below w.heap.size w w'
def rallRel (w : World) (M : Nat × List MT) (l : List UInt8) (k : Nat) (v : Value) (wr : World) : Prop :=
  k ≤ l.length ∧ ∃ acc : List MT, acc.length ≤ k ∧ OwnW 40 wr w.heap.size v acc ∧ Below w.heap.size w wr ∧ M = mAll l k acc
set_option maxRecDepth 100000 in
set_option maxHeartbeats 4000000 in
theorem rall_any (hb : BytesAt w a b off l) (hlen : l.length ≤ c) (hbig : l.length ≤ 1000000) (hnil : a = none → c = 0) :
    Calls Try.prog 27 #[.slice a l.length c] w (rallPost w (mAll l 0 [])) := by
  obtain ⟨M, hM⟩ : ∃ M, M = mAll l 0 [] := ⟨_, rfl⟩
  rw [← hM]
  have h0 : rallRel w M l 0 (.slice none 0 0) w := ⟨Nat.zero_le _, [], by simp, OwnW.nil _ _ _, Below.refl _ _, hM⟩
  clear hM
  go_enter Try.func27, Try.ntmps27
  go_wp2
  go_loopw [4, 5] (fun v i wr => ∃ k : Nat, i = .int .i64 (k : Int) ∧ rallRel w M l k v wr) (fun _ i _ => l.length - (intOf i).toNat)
  case atStart => exact ⟨0, rfl, h0⟩
  case round =>
    obtain ⟨k, rfl, hk, acc, hacc, hown, hB, hMk⟩ := hrel
    have hbw := hb.below hB
    have hsz := hB.size
    have htk := rtake_in2 hbw (fun hne => Nat.lt_of_lt_of_le (hb.lt hne) hsz) hlen (by omega) hnil k hk
    have hbd := mTake_bound (l := l) (i := k) hk
    have hAb := mAll_bad (l := l) (i := k) (acc := acc)
    have hAe := mAll_end (l := l) (i := k) (acc := acc)
    have hAn := mAll_next (l := l) (i := k) (acc := acc) hk
    obtain ⟨m, hm⟩ : ∃ m, m = mTakeN l k := ⟨_, rfl⟩
    rw [← hm] at htk hbd hAb hAe hAn
    have hcells : m.cells = [.int .i64 (m.k : Int), .int .i64 m.n, .string (str m.s), .int .i64 (m.at_ : Int), .int .i64 (m.nx : Int)] := rfl
    replace hcells := Lib.hid hcells
    unfold MT.val at htk
    replace htk := Lib.hid htk
    replace hMk := Lib.hid hMk
    replace hown := Lib.hid hown
    replace hB := Lib.hid hB
    replace hbd := Lib.hid hbd
    replace hAb := Lib.hid hAb
    replace hAe := Lib.hid hAe
    replace hAn := Lib.hid hAn
    clear hb hbw hm h0
    by_cases he : m.e = 0
    · have ht : ((m.e : Int) != 0) = false := by simp [he]
      by_cases hk11 : m.k = 11
      · have ht2 : ((m.k : Int) == 11) = true := by simp; omega
        replace he := Lib.hid he
        replace hk11 := Lib.hid hk11
        go_wp2_with fail
        refine htk.out.mono ?_
        rintro r w2 ⟨rfl, hb2⟩
        obtain ⟨Y, hY⟩ : ∃ Y, w2.heap.size = Y := ⟨_, rfl⟩
        have cy := fun C T j => (Blk.made w2 C T Y hY).cell j
        have hown2 := Lib.hid (hown.out.kept hb2)
        have hB2 := Lib.hid (hB.out.trans (hb2.mono hsz))
        have hs2 := hb2.size
        clear hb2 htk hown hB
        go_wp2_with fail
        go_ret2
        have hMM := hMk.out.trans (hAe.out he.out hk11.out)
        rw [hMM]
        refine ⟨_, rfl, OwnW.kept hown2.out ((Below.refl _ _).alloc (Nat.le_refl _) _), hB2.out.alloc (by omega) _⟩
      · have ht2 : ((m.k : Int) == 11) = false := by simp; omega
        have hbd' := hbd.out he hk11
        have hMM := Lib.hid (hMk.out.trans (hAn.out he hk11))
        replace he := Lib.hid he
        replace hk11 := Lib.hid hk11
        have hbdn := hbd'.1
        clear hAn hAe hAb hbd hMk
        go_wp2_with fail
        refine htk.out.mono ?_
        rintro r w2 ⟨rfl, hb2⟩
        obtain ⟨Y, hY⟩ : ∃ Y, w2.heap.size = Y := ⟨_, rfl⟩
        have cy := fun C T j => (Blk.made w2 C T Y hY).cell j
        have hown2 := Lib.hid (hown.out.kept hb2)
        have hB2 := Lib.hid (hB.out.trans (hb2.mono hsz))
        have hs2 := hb2.size
        clear hb2 htk hown hB
        go_wp2_with (at_builtin; refine wpList_appendW Try.underlying46 Try.infoR _ _ rfl rfl rfl _ _ acc m (Y + 1) rfl rfl (by exact (hown2.out.alloc _).alloc _) (by exact (Blk.made _ _ _ (Y + 1) (by simp; omega)).cell) (by omega) (by simp; omega) ?_)
        intro a2 c2 w3 hown3 hg
        have hne := hown2.out.far (k := Y) (by omega)
        have hg2 := hg.out.block Y (by simp; omega) (fun e => hne e.symm)
        have c4 : w3.cell? ⟨Y, 4, none⟩ = some (.int .i64 (m.nx : Int)) := by
          have h1 : ∀ o, ((w2.alloc (.cells #[.int .i64 (m.k : Int), .int .i64 m.n, .string (str m.s), .int .i64 (m.at_ : Int), .int .i64 (m.nx : Int)] 40)).alloc o).heap[Y]? = some (.cells #[.int .i64 (m.k : Int), .int .i64 m.n, .string (str m.s), .int .i64 (m.at_ : Int), .int .i64 (m.nx : Int)] 40 (0, 0)) := fun o =>
            (Blk.made w2 _ _ Y hY).kept ((Below.refl (Y + 1) _).alloc (by simp; omega) o) (by omega)
          exact Blk.cell (hg2.trans (h1 _)) 4
        have hB3 : Below w.heap.size w w3 := ((hB2.out.alloc (by omega) _).alloc (by simp; omega) _).grown hg.out (by simp; omega) (fun k hk => (hown2.out.lt k hk).1)
        replace hown3 := Lib.hid hown3
        replace hB3 := Lib.hid hB3
        clear hg hg2 hne cy hown2 hB2
        go_wp2_with fail
        go_roundw
        case rel =>
          exact ⟨m.nx, rfl, hbd'.2.1, acc ++ [m], by simp; omega, hown3.out, hB3.out, hMM.out⟩
        case measure => simp [intOf]; omega
    · have ht : ((m.e : Int) != 0) = true := by simp; omega
      replace he := Lib.hid he
      go_wp2_with fail
      refine htk.out.mono ?_
      rintro r w2 ⟨rfl, hb2⟩
      obtain ⟨Y, hY⟩ : ∃ Y, w2.heap.size = Y := ⟨_, rfl⟩
      have cy := fun C T j => (Blk.made w2 C T Y hY).cell j
      have hB2 := Lib.hid (hB.out.trans (hb2.mono hsz))
      have hs2 := hb2.size
      clear hb2 htk hown hB
      go_wp2_with fail
      go_ret2
      have hMM := hMk.out.trans (hAb.out he.out)
      rw [hMM]
      exact ⟨_, rfl, OwnW.nil _ _ _, hB2.out.alloc (by omega) _⟩

end Go.Proofs.Ytmembanbemljoaa
