/- avocet/avocetref07: all words; the refusal of a word. -/
import Derived.Test.YtmembanbemljoaaJm
import Derived.Test.YtmembanbemljoaaRtake
namespace Go.Proofs.Ytmembanbemljoaa
open Go.RowKit
set_option linter.unusedVariables false
set_option linter.unusedSimpArgs false

/-- The word that stands for a refusal. -/
def ew (e : Nat) : MT := ⟨e, 0, (e : Int), [], 0, 0⟩
/-- All words from p on. -/
def wordsOf (l : List UInt8) (p : Nat) : List MT :=
  if (mTakeN l p).e ≠ 0 then [ew (mTakeN l p).e]
  else if (mTakeN l p).k = 11 then [mTakeN l p]
  else if h : p < (mTakeN l p).nx ∧ (mTakeN l p).nx ≤ l.length then mTakeN l p :: wordsOf l (mTakeN l p).nx else []
termination_by l.length - p
/-- The first of them. -/
def w0 (l : List UInt8) (p : Nat) : MT := if (mTakeN l p).e ≠ 0 then ew (mTakeN l p).e else mTakeN l p
theorem words_bad {l : List UInt8} {p : Nat} (h : (mTakeN l p).e ≠ 0) : wordsOf l p = [ew (mTakeN l p).e] := by rw [wordsOf, if_pos h]
theorem words_end {l : List UInt8} {p : Nat} (h : (mTakeN l p).e = 0) (hk : (mTakeN l p).k = 11) : wordsOf l p = [mTakeN l p] := by rw [wordsOf, if_neg (by omega), if_pos hk]
theorem words_next {l : List UInt8} {p : Nat} (hp : p ≤ l.length) (h : (mTakeN l p).e = 0) (hk : (mTakeN l p).k ≠ 11) : wordsOf l p = mTakeN l p :: wordsOf l (mTakeN l p).nx := by
  have := take_kinds hp
  rw [wordsOf, if_neg (by omega), if_neg hk, dif_pos (by omega)]
theorem words_head {l : List UInt8} {p : Nat} (hp : p ≤ l.length) : (wordsOf l p)[0]? = some (w0 l p) := by
  unfold w0
  by_cases h : (mTakeN l p).e = 0
  · rw [if_neg (by omega)]
    by_cases hk : (mTakeN l p).k = 11
    · rw [words_end h hk]; rfl
    · rw [words_next hp h hk]; rfl
  · rw [if_pos h, words_bad h]; rfl
theorem words_len {l : List UInt8} : ∀ (n p : Nat), l.length - p ≤ n → p ≤ l.length → (wordsOf l p).length ≤ l.length - p + 1 := by
  intro n
  induction n with
  | zero =>
    intro p hn hp
    by_cases h : (mTakeN l p).e = 0
    · by_cases hk : (mTakeN l p).k = 11
      · rw [words_end h hk]; simp
      · have := take_kinds hp; omega
    · rw [words_bad h]; simp
  | succ n ih =>
    intro p hn hp
    by_cases h : (mTakeN l p).e = 0
    · by_cases hk : (mTakeN l p).k = 11
      · rw [words_end h hk]; simp
      · have hkk := take_kinds hp
        have := ih (mTakeN l p).nx (by omega) (by omega)
        rw [words_next hp h hk, List.length_cons]
        omega
    · rw [words_bad h]; simp
variable {w : World} {a : Option Addr} {b off c : Nat} {l : List UInt8}
def rwPost (w : World) (M : List MT) (r : Ending) (w' : World) : Prop :=
  ∃ v, r = .returned v ∧ OwnW 40 w' w.heap.size v M ∧ Below w.heap.size w w'
def rwRel (w : World) (M : List MT) (l : List UInt8) (k : Nat) (v : Value) (wr : World) : Prop :=
  k ≤ l.length ∧ ∃ acc : List MT, acc.length ≤ k ∧ OwnW 40 wr w.heap.size v acc ∧ Below w.heap.size w wr ∧ M = acc ++ wordsOf l k
set_option maxRecDepth 100000 in
set_option maxHeartbeats 4000000 in
theorem rwords_any (hb : BytesAt w a b off l) (hlen : l.length ≤ c) (hbig : l.length ≤ 1000000) (hnil : a = none → c = 0) :
    Calls Try.prog 53 #[.slice a l.length c] w (rwPost w (wordsOf l 0)) := by
  obtain ⟨M, hM⟩ : ∃ M, M = wordsOf l 0 := ⟨_, rfl⟩
  rw [← hM]
  have h0 : rwRel w M l 0 (.slice none 0 0) w := ⟨Nat.zero_le _, [], by simp, OwnW.nil _ _ _, Below.refl _ _, by simpa using hM⟩
  clear hM
  go_enter Try.func53, Try.ntmps53
  go_wp2
  go_loopw [3, 4] (fun v i wr => ∃ k : Nat, i = .int .i64 (k : Int) ∧ rwRel w M l k v wr) (fun _ i _ => l.length - (intOf i).toNat)
  case atStart => exact ⟨0, rfl, h0⟩
  case round =>
    obtain ⟨k, rfl, hk, acc, hacc, hown, hB, hMk⟩ := hrel
    have hbw := hb.below hB
    have hsz := hB.size
    have htk := rtake_in2 hbw (fun hne => Nat.lt_of_lt_of_le (hb.lt hne) hsz) hlen (by omega) hnil k hk
    have hbd := mTake_bound (l := l) (i := k) hk
    have hAb := words_bad (l := l) (p := k)
    have hAe := words_end (l := l) (p := k)
    have hAn := words_next (l := l) (p := k) hk
    obtain ⟨m, hm⟩ : ∃ m, m = mTakeN l k := ⟨_, rfl⟩
    rw [← hm] at htk hbd hAb hAe hAn
    unfold MT.val at htk
    replace htk := Lib.hid htk
    replace hMk := Lib.hid hMk
    replace hown := Lib.hid hown
    replace hB := Lib.hid hB
    replace hbd := Lib.hid hbd
    replace hAb := Lib.hid hAb
    replace hAe := Lib.hid hAe
    replace hAn := Lib.hid hAn
    have haccs : acc.length < 1099511627776 := by omega
    clear hb hbw hm h0
    by_cases he : m.e = 0
    · have ht : ((m.e : Int) != 0) = false := by simp [he]
      have hmk1 : m.k = 11 → M = acc ++ [m] := fun h => by rw [hMk.out, hAe.out he h]
      have hmk2 : m.k ≠ 11 → M = (acc ++ [m]) ++ wordsOf l m.nx := fun h => by rw [hMk.out, hAn.out he h]; simp
      replace he := Lib.hid he
      replace hmk1 := Lib.hid hmk1
      replace hmk2 := Lib.hid hmk2
      clear hAn hAe hAb hMk
      go_wp2_with fail
      refine htk.out.mono ?_
      rintro r w2 ⟨rfl, hb2⟩
      obtain ⟨Y, hY⟩ : ∃ Y, w2.heap.size = Y := ⟨_, rfl⟩
      have cy := fun C T j => (Blk.made w2 C T Y hY).cell j
      have hown2 := Lib.hid (hown.out.kept hb2)
      have hB2 := Lib.hid (hB.out.trans (hb2.mono hsz))
      have hs2 := hb2.size
      clear hb2 htk hown hB
      go_wp2_with (at_builtin; refine wpList_appendW Try.underlying46 Try.infoR _ _ rfl rfl rfl _ _ acc m (Y + 1) rfl rfl (by exact (hown2.out.alloc _).alloc _) (by exact (Blk.made _ _ _ (Y + 1) (by simp; omega)).cell) (by omega) (by simp; omega) ?_)
      intro a2 c2 w3 hown3 hg
      have hne := hown2.out.far (k := Y) (by omega)
      have hg2 := hg.out.block Y (by simp; omega) (fun e => hne e.symm)
      have h1 : ∀ o, ((w2.alloc (.cells #[.int .i64 (m.k : Int), .int .i64 m.n, .string (str m.s), .int .i64 (m.at_ : Int), .int .i64 (m.nx : Int)] 40)).alloc o).heap[Y]? = some (.cells #[.int .i64 (m.k : Int), .int .i64 m.n, .string (str m.s), .int .i64 (m.at_ : Int), .int .i64 (m.nx : Int)] 40 (0, 0)) := fun o =>
        (Blk.made w2 _ _ Y hY).kept ((Below.refl (Y + 1) _).alloc (by simp; omega) o) (by omega)
      have c0 : w3.cell? ⟨Y, 0, none⟩ = some (.int .i64 (m.k : Int)) := Blk.cell (hg2.trans (h1 _)) 0
      have c4 : w3.cell? ⟨Y, 4, none⟩ = some (.int .i64 (m.nx : Int)) := Blk.cell (hg2.trans (h1 _)) 4
      have hB3 : Below w.heap.size w w3 := ((hB2.out.alloc (by omega) _).alloc (by simp; omega) _).grown hg.out (by simp; omega) (fun k hk => (hown2.out.lt k hk).1)
      replace hown3 := Lib.hid hown3
      replace hB3 := Lib.hid hB3
      clear hg hg2 hne cy hown2 hB2 h1
      by_cases hk11 : m.k = 11
      · have ht2 : ((m.k : Int) == 11) = true := by simp; omega
        have hM2 := hmk1.out hk11
        replace hk11 := Lib.hid hk11
        subst hM2
        go_wp2_with fail
        go_ret
        exact ⟨_, rfl, hown3.out, hB3.out⟩
      · have ht2 : ((m.k : Int) == 11) = false := by simp; omega
        have hM2 := Lib.hid (hmk2.out hk11)
        have hbd' := hbd.out he.out hk11
        have hbdn := hbd'.1
        replace hk11 := Lib.hid hk11
        go_wp2_with fail
        go_roundw
        case rel => exact ⟨m.nx, rfl, hbd'.2.1, acc ++ [m], by simp; omega, hown3.out, hB3.out, hM2.out⟩
        case measure => simp [intOf]; omega
    · have ht : ((m.e : Int) != 0) = true := by simp; omega
      have hM2 : M = acc ++ [ew m.e] := by rw [hMk.out, hAb.out he]
      subst hM2
      replace he := Lib.hid he
      clear hMk hAb hAe hAn
      go_wp2_with fail
      refine htk.out.mono ?_
      rintro r w2 ⟨rfl, hb2⟩
      obtain ⟨Y, hY⟩ : ∃ Y, w2.heap.size = Y := ⟨_, rfl⟩
      have cy := fun C T j => (Blk.made w2 C T Y hY).cell j
      have hown2 := Lib.hid (hown.out.kept hb2)
      have hB2 := Lib.hid (hB.out.trans (hb2.mono hsz))
      have hs2 := hb2.size
      clear hb2 htk hown hB
      go_wp2_with (at_builtin; refine wpList_appendW Try.underlying46 Try.infoR _ _ rfl rfl rfl _ _ acc (ew m.e) (Y + 1) rfl rfl (by exact (hown2.out.alloc _).alloc _) (by intro j; exact (Blk.made _ _ _ (Y + 1) (by simp; omega)).cell j) (by omega) (by simp; omega) ?_)
      intro a2 c2 w3 hown3 hg
      have hB3 : Below w.heap.size w w3 := ((hB2.out.alloc (by omega) _).alloc (by simp; omega) _).grown hg.out (by simp; omega) (fun k hk => (hown2.out.lt k hk).1)
      replace hown3 := Lib.hid hown3
      replace hB3 := Lib.hid hB3
      clear hg cy hown2 hB2
      go_wp2_with fail
      go_ret
      exact ⟨_, rfl, hown3.out, hB3.out⟩

set_option maxRecDepth 100000 in
set_option maxHeartbeats 1000000 in
/-- The refusal of a word that may not stand there. -/
theorem rwrong_any {W : World} {p : Nat} (hp : p ≤ l.length) :
    Calls Try.prog 55 #[.agg #[.int .i64 ((w0 l p).k : Int), .int .i64 (w0 l p).n, .string (str (w0 l p).s), .int .i64 ((w0 l p).at_ : Int), .int .i64 ((w0 l p).nx : Int)]] W fun r W' => r = .returned (.int .i64 (wrongE (mTakeN l p) : Int)) ∧ Below W.heap.size W W' := by
  have hkd := take_kinds hp
  obtain ⟨H, hH⟩ : ∃ H, W.heap.size = H := ⟨_, rfl⟩
  have hck := fun C => (Blk.made W C 40 H hH).cell
  have hB := fun o => (Below.refl H W).alloc (by omega) o
  rw [hH]
  by_cases he : (mTakeN l p).e = 0
  · have h1 : w0 l p = mTakeN l p := by unfold w0; rw [if_neg (by omega)]
    have h2 : wrongE (mTakeN l p) = 20 := by unfold wrongE; rw [if_neg (by omega)]
    rw [h1, h2]
    obtain ⟨m, hm⟩ : ∃ m, m = mTakeN l p := ⟨_, rfl⟩
    rw [← hm] at hkd ⊢
    have hk : ((m.k : Int) == 0) = false := by rw [← hm] at he; simp; omega
    replace hkd := Lib.hid hkd
    replace hB := Lib.hid hB
    clear h1 h2 he hm hp
    go_enter Try.func55, Try.ntmps55
    go_wp2_with fail
    go_ret
    exact ⟨rfl, hB.out _⟩
  · have h1 : w0 l p = ew (mTakeN l p).e := by unfold w0; rw [if_pos he]
    have h2 : wrongE (mTakeN l p) = (mTakeN l p).e := by unfold wrongE; rw [if_pos he]
    rw [h1, h2]
    obtain ⟨e, hee⟩ : ∃ e, e = (mTakeN l p).e := ⟨_, rfl⟩
    rw [← hee]
    unfold ew
    replace hB := Lib.hid hB
    clear h1 h2 he hkd hp hee
    go_enter Try.func55, Try.ntmps55
    go_wp2_with fail
    go_ret
    exact ⟨rfl, hB.out _⟩

end Go.Proofs.Ytmembanbemljoaa
