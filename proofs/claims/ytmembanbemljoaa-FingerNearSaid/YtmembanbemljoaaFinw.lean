/- The chapter's examples hold of the fingerprint's functions. -/
import Derived.Test.YtmembanbemljoaaFing
import Derived.Test.YtmembanbemljoaaFinh
import Derived.Lib.SlBytesConst
namespace Go.Proofs.Ytmembanbemljoaa
open Go.RowKit
set_option linter.unusedVariables false
set_option linter.unusedSimpArgs false

def exNull : List UInt8 := [34, 110, 117, 108, 108, 34]
def exInt : List UInt8 := [34, 105, 110, 116, 34]
def exHex : List UInt8 := [55, 50, 55, 53, 100, 53, 49, 97, 51, 102, 51, 57, 53, 99, 56, 102]
def exNum : Nat := 8247732601305521295
theorem ex1 : fsum exNull = 7195948357588979594 := by decide +kernel
theorem ex2 : fsum exInt = exNum := by decide +kernel
theorem ex3 : readh exHex = (exNum, true) := by decide +kernel
theorem ex4 : hexd 16 exNum = exHex := by decide +kernel
theorem exNum_lt : exNum < 18446744073709551616 := by decide

set_option maxHeartbeats 800000 in
theorem works16_any (w : World) :
    Calls Try.prog 14 #[] w fun e w' => e = .returned (.bool true) ∧ Below w.heap.size w w' := by
  have kc := bytesConst
  go_enter Try.func14, Try.ntmps14
  go_wp2_with fail
  refine (read_any _ _ (by decide)).mono ?_
  rw [show (ByteArray.mk #[55, 50, 55, 53, 100, 53, 49, 97, 51, 102, 51, 57, 53, 99, 56, 102]).data.toList = exHex from rfl, ex3]
  rintro e w' ⟨rfl, rfl⟩
  obtain ⟨X, hX⟩ : ∃ X, X = exNum := ⟨_, rfl⟩
  rw [← hX]
  replace hX := Lib.hid hX
  go_wp2_with fail
  refine (sum_any _ _ 0 6 exNull _ (by decide) (BytesAt.made w exNull _ _ _ _ rfl rfl)).mono ?_
  rintro e w' ⟨rfl, rfl⟩
  have hY : ((((fsum exNull : Nat) : Int)) == 7195948357588979594) = true := by rw [ex1]; rfl
  obtain ⟨Y, hY'⟩ : ∃ Y : Int, Y = ((fsum exNull : Nat) : Int) := ⟨_, rfl⟩
  rw [← hY'] at hY ⊢
  clear hY'
  go_wp2_with fail
  refine (sum_any _ _ 0 5 exInt _ (by decide) (BytesAt.made _ exInt _ _ _ _ (by simp) rfl)).mono ?_
  rintro e w' ⟨rfl, rfl⟩
  rw [ex2, ← hX.out]
  go_wp2_with fail
  refine (hex_any X _ (by rw [hX.out]; exact exNum_lt)).mono ?_
  rintro e w' ⟨rfl, hb⟩
  rw [hX.out, ex4, ← hX.out]
  have hL : ((str exHex).toList == [55, 50, 55, 53, 100, 53, 49, 97, 51, 102, 51, 57, 53, 99, 56, 102]) = true := by rw [str_toList]; decide
  go_wp2
  go_ret
  refine ⟨rfl, ?_⟩
  exact (((Below.refl w.heap.size w).alloc (Nat.le_refl _) _).alloc (by simp) _).trans (hb.mono (by simp; omega))

end Go.Proofs.Ytmembanbemljoaa
