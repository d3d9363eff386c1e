/- A tree that is not great is small: plain. -/
import Derived.Test.YticfioblapjkmaaGreatGr
import Derived.Test.YticfioblapjkmaaGreatJb
namespace Go.Proofs.YticfioblapjkmaaGreat
open Go.RowKit
set_option linter.unusedVariables false
set_option linter.unusedSimpArgs false

/-! A tree that is not great is small. -/
theorem bkeys_len : ∀ (ys : List (List UInt8)) (n m : Nat), bkeys n ys = some m → m ≤ 2000 → n + ys.length ≤ m ∧ ∀ y ∈ ys, y.length ≤ 2000
  | [], n, m, h, hm => by rw [bkeys] at h; obtain rfl := Option.some.inj h; exact ⟨by simp, by simp⟩
  | y :: ys, n, m, h, hm => by
    rw [bkeys] at h
    split at h
    · split at h
      · simp at h
      · obtain ⟨h1, h2⟩ := bkeys_len ys _ m h hm
        refine ⟨by simp; omega, fun z hz => ?_⟩
        rcases List.mem_cons.1 hz with rfl | hz
        · omega
        · exact h2 z hz
    · obtain rfl := Option.some.inj h
      omega
mutual
theorem bulk_sm (d : Nat) : ∀ t : JT, tbulk d t ≤ 2000 → t.sm 2000
  | .mk k n s ks xs => fun h => by
    rw [tbulk] at h
    split at h
    · omega
    · rename_i h1
      split at h
      · omega
      · rename_i m hm
        have h2 := bitems_ge d xs m
        obtain ⟨_, h3⟩ := bkeys_len ks _ m hm (by omega)
        exact ⟨by omega, by omega, h3, by omega, bitems_sm d m xs h⟩
theorem bitems_sm (d n : Nat) : ∀ xs : List JT, bitems d n xs ≤ 2000 → JT.smL 2000 xs
  | [] => fun _ => trivial
  | x :: xs => fun h => by
    rw [bitems] at h
    split at h
    · have := bitems_ge d xs (n + tbulk (d + 1) x)
      exact ⟨bulk_sm (d + 1) x (by omega), bitems_sm d _ xs h⟩
    · omega
end

end Go.Proofs.YticfioblapjkmaaGreat
