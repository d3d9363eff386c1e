/- The chapter's example of jlex. -/
import Derived.Test.YtmembanbemljoaaAllp
namespace Go.Proofs.Ytmembanbemljoaa
open Go.RowKit
set_option linter.unusedVariables false
set_option linter.unusedSimpArgs false

def wl : List UInt8 := [91, 45, 55, 44, 32, 34, 97, 92, 117, 48, 48, 101, 52, 34, 93]
theorem wl_text : mText wl 6 [] = some ([97, 195, 164], 14) := by
  rw [mText_char (by decide) (by decide) (by decide) (by decide) (by decide)]
  rw [show 6 + ulen wl 6 = 7 from by decide]
  rw [mText_esc (by decide), show mEsc wl (7 + 1) = some ([195, 164], 13) from by decide]
  simp only []
  rw [mText_quote (by decide)]
  rfl
theorem wl0 : mTakeN wl 0 = ⟨0, 3, 0, [], 0, 1⟩ := by rfl
theorem wl1 : mTakeN wl 1 = ⟨0, 9, -7, [], 1, 3⟩ := by rfl
theorem wl3 : mTakeN wl 3 = ⟨0, 6, 0, [], 3, 4⟩ := by rfl
theorem wl14 : mTakeN wl 14 = ⟨0, 4, 0, [], 14, 15⟩ := by rfl
theorem wl15 : mTakeN wl 15 = ⟨0, 11, 0, [], 15, 15⟩ := by rfl
theorem wl4 : mTakeN wl 4 = ⟨0, 10, 0, [97, 195, 164], 5, 14⟩ := by
  have h : mWord wl 5 = ⟨0, 10, 0, [97, 195, 164], 14⟩ := by
    unfold mWord
    rw [if_neg (by decide), if_pos (by decide), wl_text]
  unfold mTakeN
  rw [show wEnd wl 4 = 5 from by rfl, if_neg (by decide), h]
  rfl
def wms : List MT := [⟨0, 3, 0, [], 0, 1⟩, ⟨0, 9, -7, [], 1, 3⟩, ⟨0, 6, 0, [], 3, 4⟩, ⟨0, 10, 0, [97, 195, 164], 5, 14⟩, ⟨0, 4, 0, [], 14, 15⟩]
theorem wl_all : mAll wl 0 [] = (0, wms) := by
  rw [mAll_next (by decide) (by rw [wl0]) (by rw [wl0]; decide), wl0]
  rw [mAll_next (by decide) (by rw [wl1]) (by rw [wl1]; decide), wl1]
  rw [mAll_next (by decide) (by rw [wl3]) (by rw [wl3]; decide), wl3]
  rw [mAll_next (by decide) (by rw [wl4]) (by rw [wl4]; decide), wl4]
  rw [mAll_next (by decide) (by rw [wl14]) (by rw [wl14]; decide), wl14]
  rw [mAll_end (by rw [wl15]) (by rw [wl15])]
  rfl

set_option maxRecDepth 100000 in
set_option maxHeartbeats 2000000 in
theorem works06_any (w : World) : Calls Try.prog 23 #[] w fun r w' => r = .returned (.bool true) ∧ Below w.heap.size w w' := by
  obtain ⟨H, hH⟩ : ∃ H, w.heap.size = H := ⟨_, rfl⟩
  have hcall := all_any (c := 15) (BytesAt.made w wl #[.int .u8 91, .int .u8 45, .int .u8 55, .int .u8 44, .int .u8 32, .int .u8 34, .int .u8 97, .int .u8 92, .int .u8 117, .int .u8 48, .int .u8 48, .int .u8 101, .int .u8 52, .int .u8 34, .int .u8 93] 5 (15, 16) H hH rfl) (by decide) (by decide) (by simp)
  rw [wl_all, show wl.length = 15 from rfl] at hcall
  replace hcall := Lib.hid hcall
  have hcv := fun (C : Array Value) n c => Lib.run_convert_bytes_const (P := Try.prog) w 22 5 C n c Try.underlying22 Try.underlying5
  rw [hH] at hcv ⊢
  go_enter Try.func23, Try.ntmps23
  go_wp2_with fail
  refine hcall.out.mono ?_
  rintro r w2 ⟨v, rfl, hown, hb⟩
  obtain ⟨g, cap, rfl, -, -, -, hc⟩ := hown.read (by decide)
  have c0 : w2.cell? ⟨g, 0, none⟩ = some (.int .i64 3) := hc 0 (by decide)
  have c6 : w2.cell? ⟨g, 6, none⟩ = some (.int .i64 (-7)) := hc 6 (by decide)
  have c10 : w2.cell? ⟨g, 10, none⟩ = some (.int .i64 6) := hc 10 (by decide)
  have c17 : w2.cell? ⟨g, 17, none⟩ = some (.string ⟨#[97, 195, 164]⟩) := hc 17 (by decide)
  have c24 : w2.cell? ⟨g, 24, none⟩ = some (.int .i64 15) := hc 24 (by decide)
  have hbb := Lib.hid (((Below.refl H w).alloc (by omega) _).trans (hb.mono (by simp; omega)))
  rw [show wms.length = 5 from rfl]
  clear hcall hcv hown hb hc
  go_wp2_with fail
  go_ret
  exact ⟨rfl, hbb.out⟩

end Go.Proofs.Ytmembanbemljoaa
