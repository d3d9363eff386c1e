/- The example of the chapters 7 and 8, parsed. -/
import Derived.Test.YticfioblapjkmaaGreatAp
namespace Go.Proofs.YticfioblapjkmaaGreat
open Go.RowKit
set_option linter.unusedVariables false
set_option linter.unusedSimpArgs false

def w7a : List UInt8 := [123, 34, 97, 34, 58, 32, 91, 49, 44, 32, 116, 114, 117, 101, 93, 125]
theorem wa0 : mTakeN w7a 0 = ⟨0, 1, 0, [], 0, 1⟩ := by rfl
theorem wa4 : mTakeN w7a 4 = ⟨0, 5, 0, [], 4, 5⟩ := by rfl
theorem wa5 : mTakeN w7a 5 = ⟨0, 3, 0, [], 6, 7⟩ := by rfl
theorem wa7 : mTakeN w7a 7 = ⟨0, 9, 1, [], 7, 8⟩ := by rfl
theorem wa8 : mTakeN w7a 8 = ⟨0, 6, 0, [], 8, 9⟩ := by rfl
theorem wa9 : mTakeN w7a 9 = ⟨0, 7, 1, [], 10, 14⟩ := by rfl
theorem wa14 : mTakeN w7a 14 = ⟨0, 4, 0, [], 14, 15⟩ := by rfl
theorem wa15 : mTakeN w7a 15 = ⟨0, 2, 0, [], 15, 16⟩ := by rfl
theorem wa16 : mTakeN w7a 16 = ⟨0, 11, 0, [], 16, 16⟩ := by rfl
theorem wa1 : mTakeN w7a 1 = ⟨0, 10, 0, [97], 1, 4⟩ := by
  have ht : mText w7a 2 [] = some ([97], 4) := by
    rw [mText_char (by decide) (by decide) (by decide) (by decide) (by decide)]
    rw [show 2 + ulen w7a 2 = 3 from by decide]
    rw [mText_quote (by decide)]
    rfl
  have h : mWord w7a 1 = ⟨0, 10, 0, [97], 4⟩ := by
    unfold mWord
    rw [if_neg (by decide), if_pos (by decide), ht]
  unfold mTakeN
  rw [show wEnd w7a 1 = 1 from by rfl, if_neg (by decide), h]
  rfl
def w7t : JT := .mk 6 0 [] [[97]] [.mk 5 0 [] [] [.mk 3 1 [] [] [], .mk 2 1 [] [] []]]
theorem wa_list : mLoop w7a (mVal w7a 30) false 7 [] [] = .ok (.mk 5 0 [] [] [.mk 3 1 [] [] [], .mk 2 1 [] [] []]) 15 := by
  rw [loop_eq (reads_val 30) (by decide)]
  have h1 : mHead w7a (mVal w7a 30) false 7 [] = .ok (.mk 3 1 [] [] []) 8 := by
    unfold mHead
    rw [if_neg (by decide), wa7]
    rfl
  rw [h1]
  unfold mAfter
  simp only []
  rw [wa8, if_neg (by decide), if_neg (by decide)]
  rw [loop_eq (reads_val 30) (by decide)]
  have h2 : mHead w7a (mVal w7a 30) false 9 (mKeys w7a false 7 []) = .ok (.mk 2 1 [] [] []) 14 := by
    unfold mHead
    rw [if_neg (by decide), wa9]
    rfl
  rw [h2]
  unfold mAfter
  simp only []
  rw [wa14, if_pos (by decide)]
  rfl
theorem w7a_parse : mParse w7a = .ok w7t 16 := by
  have hv : mVal w7a 32 (mTakeN w7a 0) = .ok w7t 16 := by
    rw [wa0]
    have h0 : mVal w7a 32 ⟨0, 1, 0, [], 0, 1⟩ = mItems w7a (mVal w7a 31) true 1 := by rfl
    rw [h0]
    unfold mItems
    rw [wa1, if_neg (by decide)]
    rw [loop_eq (reads_val 31) (by decide)]
    have h1 : mHead w7a (mVal w7a 31) true 1 [] = .ok (.mk 5 0 [] [] [.mk 3 1 [] [] [], .mk 2 1 [] [] []]) 15 := by
      unfold mHead
      rw [if_pos rfl, wa1, if_neg (by decide), if_neg (by simp)]
      simp only []
      rw [wa4, if_neg (by decide)]
      simp only []
      rw [wa5]
      have h2 : mVal w7a 31 ⟨0, 3, 0, [], 6, 7⟩ = mItems w7a (mVal w7a 30) false 7 := by rfl
      rw [h2]
      unfold mItems
      rw [wa7, if_neg (by decide), wa_list]
    rw [h1]
    unfold mAfter
    simp only []
    rw [wa15, if_pos (by decide)]
    unfold mKeys
    rw [if_pos rfl, wa1]
    rfl
  unfold mParse
  rw [hv]
  simp only []
  rw [wa16, if_pos rfl]

end Go.Proofs.YticfioblapjkmaaGreat
