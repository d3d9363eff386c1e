/- Texts that lead to the law EncodeParts, joined. -/
import Derived.Test.YtmooihlndkgdaaaGreatDoorPkEncodePartsE
import Derived.Test.YtmooihlndkgdaaaGreatDoorPkEncodePartsB
import Derived.Test.YtmooihlndkgdaaaGreatDoorPkEncodePartsA
import Derived.Test.YtmooihlndkgdaaaGreatDoorPkEncodePartsC
import Derived.Test.YtmooihlndkgdaaaGreatDoorPkEncodePartsD
import Derived.Test.YtmooihlndkgdaaaGreatDoorPkEncodePartsXAbB
namespace Go.Proofs.YtmooihlndkgdaaaGreatDoor
open Go.RowKit
set_option linter.unusedVariables false
set_option linter.unusedSimpArgs false

/-! Without cuts, how many were taken does not matter. -/
def Still (f : Enc) : Prop := ∀ c, f c = ((f 0).1, c)
def catF (fs : List Enc) : List UInt8 := (fs.map fun f => (f 0).1).flatten
theorem catF_cons (f : Enc) (fs : List Enc) : catF (f :: fs) = (f 0).1 ++ catF fs := rfl
theorem seqF_still : ∀ {fs : List Enc}, (∀ f ∈ fs, Still f) → ∀ c, seqF fs c = (catF fs, c)
  | [], _, c => by rw [seqF]; rfl
  | f :: fs, h, c => by
    rw [seqF, h f (by simp) c, catF_cons]
    simp only []
    rw [seqF_still (fun g hg => h g (by simp [hg])) c]
def blkP (m : Nat) (l : List UInt8) : List UInt8 := if m = 0 then vput 0 else vput (m : Int) ++ (l ++ vput 0)
theorem blkF_still : ∀ (k : Nat) {fs : List Enc}, (∀ f ∈ fs, Still f) → fs.length ≤ k → ∀ c, blkF [] k fs c = (blkP fs.length (catF fs), c)
  | 0, [], _, _, c => by rw [blkF]; rfl
  | 0, f :: fs, _, h, c => by simp at h
  | k + 1, [], _, _, c => by rw [blkF]; rfl
  | k + 1, f :: fs, h, hl, c => by
    have e1 : cutM [] c (fs.length + 1) = (fs.length + 1, false, c) := rfl
    have e2 : (f :: fs).take (fs.length + 1) = f :: fs := List.take_of_length_le (by simp)
    have e3 : (f :: fs).drop (fs.length + 1) = [] := List.drop_of_length_le (by simp)
    have e4 : ∀ c, blkF [] k [] c = (vput 0, c) := fun c => by cases k <;> rw [blkF]
    rw [blkF, e1]
    simp only []
    rw [e2, e3, seqF_still h c, e4]
    simp only [blkP, headB, List.length_cons]
    rfl
theorem keyF_still {y : List UInt8} {f : Enc} (h : Still f) : Still (keyF y f) := fun c => by
  rw [keyF, keyF]
  simp only []
  rw [h c]
theorem zipF_still {ks : List (List UInt8)} {fs : List Enc} (h : ∀ f ∈ fs, Still f) : ∀ f ∈ List.zipWith keyF ks fs, Still f := fun f hf => by
  obtain ⟨i, hi⟩ := List.getElem?_of_mem hf
  rw [List.getElem?_zipWith] at hi
  split at hi
  · obtain rfl := Option.some.inj hi
    rename_i y g hy hg
    exact keyF_still (h g (List.mem_of_getElem? hg))
  · simp at hi
mutual
theorem encM_still (ns : List NT) : ∀ (v : VT) (a : Int), Still (encM ns [] a v)
  | .mk k n b t xs ks, a, c => by
    have h := encsM_still ns xs
    rw [encM]
    simp only []
    split
    · rfl
    · split
      · rw [seqF_still (h _), seqF_still (h _)]
      · split
        · rw [blkF_still _ (h _) (by rw [encs_len]; exact Nat.le_refl _), blkF_still _ (h _) (by rw [encs_len]; exact Nat.le_refl _)]
        · split
          · rename_i nd _ _ _ _
            have h2 : (List.zipWith keyF ks (encsM ns [] (fun _ => nd.items) xs)).length ≤ xs.length := by
              rw [List.length_zipWith, encs_len]
              exact Nat.min_le_right _ _
            rw [blkF_still _ (zipF_still (h _)) h2, blkF_still _ (zipF_still (h _)) h2]
          · split
            · simp only []
              rw [seqF_still (h _), seqF_still (h _)]
            · rfl
theorem encsM_still (ns : List NT) : ∀ (xs : List VT) (f : Nat → Int), ∀ e ∈ encsM ns [] f xs, Still e
  | [], f => by rw [encsM]; simp
  | x :: xs, f => by
    rw [encsM]
    intro e he
    rcases List.mem_cons.1 he with rfl | he
    · exact encM_still ns x _
    · exact encsM_still ns xs _ e he
end
def encP (ns : List NT) (a : Int) (v : VT) : List UInt8 := (encM ns [] a v 0).1
def catP (ns : List NT) (f : Nat → Int) (xs : List VT) : List UInt8 := catF (encsM ns [] f xs)
def catK (ns : List NT) (f : Nat → Int) (ks : List (List UInt8)) (xs : List VT) : List UInt8 := catF (List.zipWith keyF ks (encsM ns [] f xs))
theorem catP_nil (ns : List NT) (f : Nat → Int) : catP ns f [] = [] := by rw [catP, encsM]; rfl
theorem catP_cons (ns : List NT) (f : Nat → Int) (x : VT) (xs : List VT) : catP ns f (x :: xs) = encP ns (f 0) x ++ catP ns (fun i => f (i + 1)) xs := by
  rw [catP, encsM]
  rfl
theorem catK_cons (ns : List NT) (f : Nat → Int) (y : List UInt8) (ks : List (List UInt8)) (x : VT) (xs : List VT) : catK ns f (y :: ks) (x :: xs) = vput (y.length : Int) ++ (y ++ (encP ns (f 0) x ++ catK ns (fun i => f (i + 1)) ks xs)) := by
  rw [catK, encsM, List.zipWith_cons_cons, catF_cons, keyF]
  simp only [List.append_assoc]
  rfl
theorem encP_eq {ns : List NT} {a : Int} {nd : NT} (h : ns[a.toNat]? = some nd) (k n b : Int) (t : List UInt8) (xs : List VT) (ks : List (List UInt8)) : encP ns a (.mk k n b t xs ks) =
    if nd.kind = 9 then catP ns (fun j => typeAt nd j) xs else if nd.kind = 11 then blkP xs.length (catP ns (fun _ => nd.items) xs) else if nd.kind = 12 then blkP (min ks.length xs.length) (catK ns (fun _ => nd.items) ks xs)
    else if nd.kind = 13 then vput n ++ catP ns (fun _ => branchAt nd n) xs else leafM nd nd.kind n b t := by
  have hs := encsM_still ns xs
  rw [encP, encM, h]
  simp only []
  split
  · rw [seqF_still (hs _)]
    rfl
  · split
    · rw [blkF_still _ (hs _) (by rw [encs_len]; exact Nat.le_refl _), encs_len]
      rfl
    · split
      · rw [blkF_still _ (zipF_still (hs _)) (by rw [List.length_zipWith, encs_len]; exact Nat.min_le_right _ _), List.length_zipWith, encs_len]
        rfl
      · split
        · rw [seqF_still (hs _)]
          rfl
        · rfl
theorem catP_take (ns : List NT) : ∀ (xs : List VT) (f : Nat → Int) (i : Nat) (x : VT), xs[i]? = some x → catP ns f (xs.take (i + 1)) = catP ns f (xs.take i) ++ encP ns (f i) x
  | [], f, i, x, h => by simp at h
  | y :: ys, f, 0, x, h => by
    obtain rfl := Option.some.inj h
    rw [List.take_succ_cons, List.take_zero, List.take_zero, catP_cons, catP_nil, catP_nil]
    simp
  | y :: ys, f, i + 1, x, h => by
    rw [List.take_succ_cons, List.take_succ_cons, catP_cons, catP_cons, catP_take ns ys _ i x (by simpa using h), List.append_assoc]
theorem catP_le (ns : List NT) (xs : List VT) (f : Nat → Int) (i : Nat) (x : VT) (h : xs[i]? = some x) : (encP ns (f i) x).length ≤ (catP ns f xs).length := by
  induction xs generalizing f i with
  | nil => simp at h
  | cons y ys ih =>
    rw [catP_cons, List.length_append]
    cases i with
    | zero =>
      obtain rfl := Option.some.inj h
      omega
    | succ i =>
      exact Nat.le_trans (ih (fun i => f (i + 1)) i (by simpa using h)) (Nat.le_add_left _ _)
/-! Bytes tell values apart. -/
theorem vint_inj : ∀ (u w : Nat) (R S : List UInt8), vint u ++ R = vint w ++ S → u = w ∧ R = S := by
  intro u
  induction u using Nat.strongRecOn with
  | _ u ih =>
  intro w R S h
  by_cases hu : u < 128
  · rw [vint_lt hu] at h
    by_cases hw : w < 128
    · rw [vint_lt hw] at h
      simp only [List.cons_append, List.nil_append, List.cons.injEq] at h
      obtain ⟨h1, h2⟩ := h
      have h3 := congrArg UInt8.toNat h1
      simp at h3
      exact ⟨by omega, h2⟩
    · rw [vint_ge hw] at h
      simp only [List.cons_append, List.nil_append, List.cons.injEq] at h
      have h3 := congrArg UInt8.toNat h.1
      simp at h3
      omega
  · rw [vint_ge hu] at h
    by_cases hw : w < 128
    · rw [vint_lt hw] at h
      simp only [List.cons_append, List.nil_append, List.cons.injEq] at h
      have h3 := congrArg UInt8.toNat h.1
      simp at h3
      omega
    · rw [vint_ge hw] at h
      simp only [List.cons_append, List.cons.injEq] at h
      have h3 := congrArg UInt8.toNat h.1
      simp at h3
      obtain ⟨h4, h5⟩ := ih (u / 128) (by omega) (w / 128) R S h.2
      exact ⟨by omega, h5⟩
theorem vput_inj {m n : Int} {R S : List UInt8} (h : vput m ++ R = vput n ++ S) : m = n ∧ R = S := by
  obtain ⟨h1, h2⟩ := vint_inj _ _ R S h
  refine ⟨?_, h2⟩
  unfold zigN at h1
  split at h1 <;> split at h1 <;> omega
theorem bits_mod (b c : Int) : ∀ k, bitsB b k = bitsB c k → b.toNat % 256 ^ k = c.toNat % 256 ^ k
  | 0, _ => by simp [Nat.mod_one]
  | k + 1, h => by
    rw [bitsB, bitsB] at h
    obtain ⟨h1, h2⟩ := List.append_inj h (by rw [bitsB_len, bitsB_len])
    have h3 := bits_mod b c k h1
    have h4 := congrArg UInt8.toNat (List.cons.inj h2).1
    simp at h4
    rw [Nat.pow_succ, Nat.mod_mul, Nat.mod_mul, h3, h4]
theorem bits_inj {b c : Int} {k : Nat} {R S : List UInt8} (h : bitsB b k ++ R = bitsB c k ++ S) (hb : 0 ≤ b) (hc : 0 ≤ c) (hb' : b.toNat < 256 ^ k) (hc' : c.toNat < 256 ^ k) : b = c ∧ R = S := by
  obtain ⟨h1, h2⟩ := List.append_inj h (by rw [bitsB_len, bitsB_len])
  have h3 := bits_mod b c k h1
  rw [Nat.mod_eq_of_lt hb', Nat.mod_eq_of_lt hc'] at h3
  exact ⟨by omega, h2⟩
theorem blk_inj {m n : Nat} {l r R S : List UInt8} (h : blkP m l ++ R = blkP n r ++ S) : m = n ∧ ((m = 0 ∧ R = S) ∨ (m ≠ 0 ∧ l ++ (vput 0 ++ R) = r ++ (vput 0 ++ S))) := by
  unfold blkP at h
  by_cases hm : m = 0
  · rw [if_pos hm] at h
    by_cases hn : n = 0
    · rw [if_pos hn] at h
      exact ⟨by omega, .inl ⟨hm, List.append_cancel_left h⟩⟩
    · rw [if_neg hn, List.append_assoc] at h
      have := (vput_inj h).1
      omega
  · rw [if_neg hm, List.append_assoc] at h
    by_cases hn : n = 0
    · rw [if_pos hn] at h
      have := (vput_inj h).1
      omega
    · rw [if_neg hn, List.append_assoc, List.append_assoc, List.append_assoc] at h
      obtain ⟨h1, h2⟩ := vput_inj h
      exact ⟨by omega, .inr ⟨hm, h2⟩⟩
theorem vbare_parts {k n b : Int} {t : List UInt8} {m : Nat} {ks : List (List UInt8)} (h : vbare k n b t m ks = true) :
    (¬ (k = 2 ∨ k = 3 ∨ k = 4 ∨ k = 10 ∨ k = 13) → n = 0) ∧ (¬ (k = 5 ∨ k = 6) → b = 0) ∧ (¬ (k = 7 ∨ k = 8 ∨ k = 14) → t = []) ∧ (¬ (k = 9 ∨ k = 11 ∨ k = 12 ∨ k = 13) → m = 0) ∧ (k ≠ 12 → ks = []) := by
  unfold vbare at h
  simp only [Bool.and_eq_true, Bool.or_eq_true, beq_iff_eq, List.isEmpty_iff] at h
  obtain ⟨h1, h2, h3, h4, h5⟩ := h
  refine ⟨fun g => ?_, fun g => ?_, fun g => ?_, fun g => ?_, fun g => ?_⟩
  · rcases h1 with h1 | h1
    · omega
    · exact h1
  · rcases h2 with h2 | h2
    · omega
    · exact h2
  · rcases h3 with h3 | h3
    · omega
    · exact h3
  · rcases h4 with h4 | h4
    · omega
    · exact h4
  · rcases h5 with h5 | h5
    · omega
    · exact h5
theorem leaf_inj {nd : NT} {n b n' b' : Int} {t t' R S : List UInt8} (h : leafM nd nd.kind n b t ++ R = leafM nd nd.kind n' b' t' ++ S)
    (b0 : 0 ≤ b) (b1 : b < 18446744073709551616) (c0 : 0 ≤ b') (c1 : b' < 18446744073709551616)
    (p14 : nd.kind = 14 → (t.length : Int) = nd.size) (q14 : nd.kind = 14 → (t'.length : Int) = nd.size) (p2 : nd.kind = 2 → n = 0 ∨ n = 1) (q2 : nd.kind = 2 → n' = 0 ∨ n' = 1)
    (p5 : nd.kind = 5 → b < 4294967296) (q5 : nd.kind = 5 → b' < 4294967296) (h13 : nd.kind ≠ 13)
    (z1 : ¬ (nd.kind = 2 ∨ nd.kind = 3 ∨ nd.kind = 4 ∨ nd.kind = 10 ∨ nd.kind = 13) → n = 0) (z2 : ¬ (nd.kind = 5 ∨ nd.kind = 6) → b = 0) (z3 : ¬ (nd.kind = 7 ∨ nd.kind = 8 ∨ nd.kind = 14) → t = [])
    (y1 : ¬ (nd.kind = 2 ∨ nd.kind = 3 ∨ nd.kind = 4 ∨ nd.kind = 10 ∨ nd.kind = 13) → n' = 0) (y2 : ¬ (nd.kind = 5 ∨ nd.kind = 6) → b' = 0) (y3 : ¬ (nd.kind = 7 ∨ nd.kind = 8 ∨ nd.kind = 14) → t' = []) :
    n = n' ∧ b = b' ∧ t = t' ∧ R = S := by
  generalize nd.kind = k at *
  unfold leafM at h
  by_cases h2 : k = 2
  · rw [if_pos h2, if_pos h2] at h
    simp only [List.cons_append, List.nil_append, List.cons.injEq] at h
    obtain ⟨g1, g2⟩ := h
    refine ⟨?_, by rw [z2 (by omega), y2 (by omega)], by rw [z3 (by omega), y3 (by omega)], g2⟩
    rcases p2 h2 with rfl | rfl <;> rcases q2 h2 with rfl | rfl <;> first | rfl | (revert g1; decide)
  rw [if_neg h2, if_neg h2] at h
  by_cases h3 : k = 3 ∨ k = 4 ∨ k = 10
  · rw [if_pos h3, if_pos h3] at h
    obtain ⟨g1, g2⟩ := vput_inj h
    exact ⟨g1, by rw [z2 (by omega), y2 (by omega)], by rw [z3 (by omega), y3 (by omega)], g2⟩
  rw [if_neg h3, if_neg h3] at h
  have en : n = n' := by rw [z1 (by omega), y1 (by omega)]
  by_cases h5 : k = 5
  · rw [if_pos h5, if_pos h5] at h
    have := p5 h5
    have := q5 h5
    obtain ⟨g1, g2⟩ := bits_inj h b0 c0 (by omega) (by omega)
    exact ⟨en, g1, by rw [z3 (by omega), y3 (by omega)], g2⟩
  rw [if_neg h5, if_neg h5] at h
  by_cases h6 : k = 6
  · rw [if_pos h6, if_pos h6] at h
    obtain ⟨g1, g2⟩ := bits_inj h b0 c0 (by omega) (by omega)
    exact ⟨en, g1, by rw [z3 (by omega), y3 (by omega)], g2⟩
  rw [if_neg h6, if_neg h6] at h
  have eb : b = b' := by rw [z2 (by omega), y2 (by omega)]
  by_cases h7 : k = 7 ∨ k = 8
  · rw [if_pos h7, if_pos h7, List.append_assoc, List.append_assoc] at h
    obtain ⟨g1, g2⟩ := vput_inj h
    obtain ⟨g3, g4⟩ := List.append_inj g2 (by omega)
    exact ⟨en, eb, g3, g4⟩
  rw [if_neg h7, if_neg h7] at h
  by_cases h14 : k = 14
  · rw [if_pos h14, if_pos h14] at h
    have := p14 h14
    have := q14 h14
    obtain ⟨g3, g4⟩ := List.append_inj h (by omega)
    exact ⟨en, eb, g3, g4⟩
  rw [if_neg h14, if_neg h14] at h
  exact ⟨en, eb, by rw [z3 (by omega), y3 (by omega)], h⟩
mutual
theorem enc_inj (ns : List NT) : ∀ (v w : VT) (a : Int), v.inr → w.inr → isM ns a v = true → isM ns a w = true → ∀ R S, encP ns a v ++ R = encP ns a w ++ S → v = w ∧ R = S
  | .mk k n b t xs ks, .mk k' n' b' t' xs' ks', a, hi, hi', hv, hw, R, S, h => by
    have hE := items_inj ns xs
    have hK := keys_inj ns xs
    cases hnd : ns[a.toNat]? with
    | none => rw [isM, hnd] at hv; simp at hv
    | some nd =>
    obtain ⟨rfl, hb, _, p9, p12, p13, p14, p2, p5⟩ := isM_parts hnd hv
    obtain ⟨rfl, hb', _, q9, q12, q13, q14, q2, q5⟩ := isM_parts hnd hw
    rw [isM_eq hnd, Bool.and_eq_true] at hv hw
    have hx := hv.2
    have hx' := hw.2
    rw [encP_eq hnd, encP_eq hnd] at h
    obtain ⟨z1, z2, z3, z4, z5⟩ := vbare_parts hb
    obtain ⟨y1, y2, y3, y4, y5⟩ := vbare_parts hb'
    obtain ⟨⟨b0, b1⟩, hi1⟩ := hi
    obtain ⟨⟨c0, c1⟩, hi2⟩ := hi'
    by_cases h9 : nd.kind = 9
    · rw [if_pos h9, if_pos h9] at h
      have e9 : ∀ n, itemAt nd n = fun j => typeAt nd j := fun n => by funext i; rw [itemAt, if_pos h9]
      rw [e9] at hx hx'
      obtain ⟨g1, g2⟩ := hE xs' _ hi1 hi2 hx hx' (by rw [p9 h9, q9 h9]) R S h
      refine ⟨?_, g2⟩
      rw [g1, z1 (by omega), y1 (by omega), z2 (by omega), y2 (by omega), z3 (by omega), y3 (by omega), z5 (by omega), y5 (by omega)]
    rw [if_neg h9, if_neg h9] at h
    by_cases h11 : nd.kind = 11
    · rw [if_pos h11, if_pos h11] at h
      have e9 : ∀ n, itemAt nd n = fun _ => nd.items := fun n => by funext i; rw [itemAt, if_neg h9, if_neg (by omega)]
      rw [e9] at hx hx'
      obtain ⟨g0, g⟩ := blk_inj h
      have key : xs = xs' ∧ R = S := by
        rcases g with ⟨g1, g2⟩ | ⟨_, g2⟩
        · rw [List.eq_nil_of_length_eq_zero g1, List.eq_nil_of_length_eq_zero (show xs'.length = 0 by omega)]
          exact ⟨rfl, g2⟩
        · obtain ⟨g3, g4⟩ := hE xs' _ hi1 hi2 hx hx' g0 _ _ g2
          exact ⟨g3, List.append_cancel_left g4⟩
      refine ⟨?_, key.2⟩
      rw [key.1, z1 (by omega), y1 (by omega), z2 (by omega), y2 (by omega), z3 (by omega), y3 (by omega), z5 (by omega), y5 (by omega)]
    rw [if_neg h11, if_neg h11] at h
    by_cases h12 : nd.kind = 12
    · rw [if_pos h12, if_pos h12] at h
      have e9 : ∀ n, itemAt nd n = fun _ => nd.items := fun n => by funext i; rw [itemAt, if_neg h9, if_neg (by omega)]
      rw [e9] at hx hx'
      have l1 := p12 h12
      have l2 := q12 h12
      obtain ⟨g0, g⟩ := blk_inj h
      have key : (ks = ks' ∧ xs = xs') ∧ R = S := by
        rcases g with ⟨g1, g2⟩ | ⟨_, g2⟩
        · rw [List.eq_nil_of_length_eq_zero (show xs.length = 0 by omega), List.eq_nil_of_length_eq_zero (show xs'.length = 0 by omega), List.eq_nil_of_length_eq_zero (show ks.length = 0 by omega), List.eq_nil_of_length_eq_zero (show ks'.length = 0 by omega)]
          exact ⟨⟨rfl, rfl⟩, g2⟩
        · obtain ⟨g3, g4⟩ := hK xs' ks ks' _ hi1 hi2 hx hx' (by omega) (by omega) (by omega) _ _ g2
          exact ⟨g3, List.append_cancel_left g4⟩
      refine ⟨?_, key.2⟩
      rw [key.1.1, key.1.2, z1 (by omega), y1 (by omega), z2 (by omega), y2 (by omega), z3 (by omega), y3 (by omega)]
    rw [if_neg h12, if_neg h12] at h
    by_cases h13 : nd.kind = 13
    · rw [if_pos h13, if_pos h13, List.append_assoc, List.append_assoc] at h
      obtain ⟨rfl, g⟩ := vput_inj h
      have e9 : itemAt nd n = fun _ => branchAt nd n := by funext i; rw [itemAt, if_neg h9, if_pos h13]
      rw [e9] at hx hx'
      obtain ⟨g1, g2⟩ := hE xs' _ hi1 hi2 hx hx' (by rw [(p13 h13).2.2, (q13 h13).2.2]) R S g
      refine ⟨?_, g2⟩
      rw [g1, z2 (by omega), y2 (by omega), z3 (by omega), y3 (by omega), z5 (by omega), y5 (by omega)]
    rw [if_neg h13, if_neg h13] at h
    obtain ⟨g1, g2, g3, g4⟩ := leaf_inj h b0 b1 c0 c1 p14 q14 p2 q2 p5 q5 h13 z1 z2 z3 y1 y2 y3
    refine ⟨?_, g4⟩
    rw [g1, g2, g3, z5 (by omega), y5 (by omega), List.eq_nil_of_length_eq_zero (z4 (by omega)), List.eq_nil_of_length_eq_zero (y4 (by omega))]
theorem items_inj (ns : List NT) : ∀ (xs ys : List VT) (f : Nat → Int), VT.inrL xs → VT.inrL ys → eachM ns f xs = true → eachM ns f ys = true → xs.length = ys.length → ∀ R S, catP ns f xs ++ R = catP ns f ys ++ S → xs = ys ∧ R = S
  | [], [], f, _, _, _, _, _, R, S, h => ⟨rfl, by rw [catP_nil] at h; exact h⟩
  | [], y :: ys, f, _, _, _, _, hl, R, S, h => by simp at hl
  | x :: xs, [], f, _, _, _, _, hl, R, S, h => by simp at hl
  | x :: xs, y :: ys, f, hi, hj, hx, hy, hl, R, S, h => by
    rw [eachM, Bool.and_eq_true] at hx hy
    rw [catP_cons, catP_cons, List.append_assoc, List.append_assoc] at h
    obtain ⟨g1, g2⟩ := enc_inj ns x y (f 0) hi.1 hj.1 hx.1 hy.1 _ _ h
    obtain ⟨g3, g4⟩ := items_inj ns xs ys _ hi.2 hj.2 hx.2 hy.2 (by simpa using hl) _ _ g2
    exact ⟨by rw [g1, g3], g4⟩
theorem keys_inj (ns : List NT) : ∀ (xs ys : List VT) (ks js : List (List UInt8)) (f : Nat → Int), VT.inrL xs → VT.inrL ys → eachM ns f xs = true → eachM ns f ys = true → xs.length = ys.length → ks.length = xs.length → js.length = ys.length → ∀ R S, catK ns f ks xs ++ R = catK ns f js ys ++ S → (ks = js ∧ xs = ys) ∧ R = S
  | [], [], [], [], f, _, _, _, _, _, _, _, R, S, h => ⟨⟨rfl, rfl⟩, by rw [catK, encsM] at h; exact h⟩
  | [], [], [], j :: js, f, _, _, _, _, _, _, hj, R, S, h => by simp at hj
  | [], [], k :: ks, js, f, _, _, _, _, _, hk, _, R, S, h => by simp at hk
  | [], y :: ys, ks, js, f, _, _, _, _, hl, _, _, R, S, h => by simp at hl
  | x :: xs, [], ks, js, f, _, _, _, _, hl, _, _, R, S, h => by simp at hl
  | x :: xs, y :: ys, [], js, f, _, _, _, _, _, hk, _, R, S, h => by simp at hk
  | x :: xs, y :: ys, k :: ks, [], f, _, _, _, _, _, _, hj, R, S, h => by simp at hj
  | x :: xs, y :: ys, k :: ks, j :: js, f, hi, hj, hx, hy, hl, hk, hjl, R, S, h => by
    rw [eachM, Bool.and_eq_true] at hx hy
    rw [catK_cons, catK_cons] at h
    simp only [List.append_assoc] at h
    obtain ⟨a1, a2⟩ := vput_inj h
    obtain ⟨a3, a4⟩ := List.append_inj a2 (by omega)
    obtain ⟨g1, g2⟩ := enc_inj ns x y (f 0) hi.1 hj.1 hx.1 hy.1 _ _ a4
    obtain ⟨g3, g4⟩ := keys_inj ns xs ys ks js _ hi.2 hj.2 hx.2 hy.2 (by simpa using hl) (by simpa using hk) (by simpa using hjl) _ _ g2
    exact ⟨⟨by rw [a3, g3.1], by rw [g1, g3.2]⟩, g4⟩
end

def kw : List (List UInt8) → Nat
  | [] => 0
  | y :: ys => 1 + y.length + kw ys
mutual
def vw : VT → Nat
  | .mk k n b t xs ks => 1 + t.length + kw ks + vwL xs
def vwL : List VT → Nat
  | [] => 0
  | x :: xs => vw x + vwL xs
end
theorem vw_pos (v : VT) : 1 ≤ vw v := by cases v; rw [vw]; omega
def BL : List Enc → Nat → Prop
  | [], _ => True
  | f :: fs, N => ∃ w r, w + r ≤ N ∧ (∀ c, (f c).1.length ≤ w) ∧ BL fs r
theorem BL.le : ∀ {fs : List Enc} {N M : Nat}, BL fs N → N ≤ M → BL fs M
  | [], _, _, _, _ => trivial
  | f :: fs, N, M, ⟨w, r, h1, h2, h3⟩, h => ⟨w, r, by omega, h2, h3⟩
theorem BL.cut : ∀ {fs : List Enc} {N : Nat} (n : Nat), BL fs N → ∃ a b, a + b ≤ N ∧ BL (fs.take n) a ∧ BL (fs.drop n) b
  | fs, N, 0, h => ⟨0, N, by omega, by simp [BL], by simpa using h⟩
  | [], N, n + 1, h => ⟨0, 0, by omega, trivial, trivial⟩
  | f :: fs, N, n + 1, ⟨w, r, h1, h2, h3⟩ => by
    obtain ⟨a, b, h4, h5, h6⟩ := BL.cut n h3
    exact ⟨w + a, b, by omega, ⟨w, a, Nat.le_refl _, h2, h5⟩, h6⟩
theorem seqF_len : ∀ {fs : List Enc} {N : Nat}, BL fs N → ∀ c, (seqF fs c).1.length ≤ N
  | [], N, _, c => by simp [seqF]
  | f :: fs, N, ⟨w, r, h1, h2, h3⟩, c => by
    rw [seqF, List.length_append]
    have a := h2 c
    have b := seqF_len h3 (f c).2
    omega
theorem headB_len (n : Nat) (sized : Bool) (m : Nat) (hn : n ≤ 1000000000) (hm : m ≤ 1000000000) : (headB n sized m).length ≤ 20 := by
  have a := vput_len (-(n : Int)) (by omega) (by omega)
  have b := vput_len (m : Int) (by omega) (by omega)
  have c := vput_len (n : Int) (by omega) (by omega)
  unfold headB
  split
  · rw [List.length_append]; omega
  · omega
theorem blkF_len (cuts : List Int) : ∀ (k : Nat) (fs : List Enc) (N : Nat), BL fs N → N ≤ 1000000000 → fs.length ≤ 1000000000 → ∀ c, (blkF cuts k fs c).1.length ≤ N + 20 * fs.length + 10
  | 0, fs, N, _, _, _, c => by
    have := vput_len 0 (by decide) (by decide)
    rw [blkF]
    simp only []
    omega
  | k + 1, [], N, _, _, _, c => by
    have := vput_len 0 (by decide) (by decide)
    rw [blkF]
    simp only []
    omega
  | k + 1, f :: fs, N, h, hN, hl, c => by
    rw [blkF]
    simp only []
    have hp := cutM_pos cuts c (fs.length + 1) (by omega)
    obtain ⟨a, b, h1, h2, h3⟩ := h.cut (cutM cuts c (fs.length + 1)).1
    simp at hl
    have s1 := seqF_len h2 (cutM cuts c (fs.length + 1)).2.2
    have s2 := headB_len (cutM cuts c (fs.length + 1)).1 (cutM cuts c (fs.length + 1)).2.1 (seqF ((f :: fs).take (cutM cuts c (fs.length + 1)).1) (cutM cuts c (fs.length + 1)).2.2).1.length (by omega) (by omega)
    have s3 := blkF_len cuts k ((f :: fs).drop (cutM cuts c (fs.length + 1)).1) b h3 (by omega) (by simp; omega) (seqF ((f :: fs).take (cutM cuts c (fs.length + 1)).1) (cutM cuts c (fs.length + 1)).2.2).2
    rw [List.length_drop] at s3
    simp only [List.length_append, List.length_cons] at s3 ⊢
    omega
theorem leaf_len (nd : NT) (k n b : Int) (t : List UInt8) (ht : t.length ≤ 1000000) (h1 : -9223372036854775808 ≤ n) (h2 : n ≤ 9223372036854775807) : (leafM nd k n b t).length ≤ 10 + t.length := by
  have a := vput_len n h1 h2
  have c := vput_len (t.length : Int) (by omega) (by omega)
  have d := bitsB_len b 4
  have e := bitsB_len b 8
  unfold leafM
  split
  · simp
    omega
  · split
    · omega
    · split
      · omega
      · split
        · omega
        · split
          · rw [List.length_append]; omega
          · split
            · omega
            · simp
mutual
theorem enc_len (ns : List NT) (cuts : List Int) : ∀ (v : VT), v.sm 1000000 → v.lng → vw v ≤ 1000000 → ∀ (a : Int) (c : Nat), (encM ns cuts a v c).1.length + 30 ≤ 60 * vw v
  | .mk k n b t xs ks, hs, hl, hw, a, c => by
    obtain ⟨_, ht, _, hk, hx, hxs⟩ := hs
    obtain ⟨⟨hn1, hn2⟩, hls⟩ := hl
    rw [vw] at hw ⊢
    have hB := fun f => encs_len2 ns cuts xs hxs hls (by omega) f
    rw [encM]
    split
    · simp
      omega
    · rename_i nd hnd
      split
      · obtain ⟨N, hN, hb⟩ := hB (fun j => typeAt nd j)
        have := seqF_len hb c
        simp only []
        omega
      · split
        · obtain ⟨N, hN, hb⟩ := hB (fun _ => nd.items)
          have hel := encs_len ns cuts xs (fun _ => nd.items)
          have := blkF_len cuts xs.length _ N hb (by omega) (by omega) c
          simp only []
          omega
        · split
          · obtain ⟨N, hN, hb⟩ := hB (fun _ => nd.items)
            have hel := encs_len ns cuts xs (fun _ => nd.items)
            have hz : ∀ (ks : List (List UInt8)) (fs : List Enc) (N : Nat), (∀ y ∈ ks, y.length ≤ 1000000) → BL fs N → BL (List.zipWith keyF ks fs) (N + 10 * fs.length + kw ks) := by
              intro ks
              induction ks with
              | nil => intro fs N _ _; simp [BL]
              | cons y ys ih =>
                intro fs N hy h
                cases fs with
                | nil => simp [BL]
                | cons f fs =>
                  obtain ⟨w, r, h1, h2, h3⟩ := h
                  have hv := vput_len (y.length : Int) (by have := hy y (by simp); omega) (by have := hy y (by simp); omega)
                  refine ⟨w + 10 + y.length, r + 10 * fs.length + kw ys, by simp [kw]; omega, fun c => ?_, ih fs r (fun z hz => hy z (by simp [hz])) h3⟩
                  have := h2 c
                  simp only [keyF, List.length_append]
                  omega
            have hzz := hz ks _ N hk hb
            have hzl : (List.zipWith keyF ks (encsM ns cuts (fun _ => nd.items) xs)).length ≤ xs.length := by rw [List.length_zipWith]; omega
            have := blkF_len cuts xs.length _ _ hzz (by omega) (by omega) c
            simp only []
            omega
          · split
            · obtain ⟨N, hN, hb⟩ := hB (fun _ => branchAt nd n)
              have a1 := seqF_len hb c
              have a2 := vput_len n hn1 hn2
              simp only [List.length_append]
              omega
            · have := leaf_len nd nd.kind n b t ht hn1 hn2
              simp only []
              omega
theorem encs_len2 (ns : List NT) (cuts : List Int) : ∀ (xs : List VT), VT.smL 1000000 xs → VT.lngL xs → vwL xs ≤ 1000000 → ∀ (f : Nat → Int), ∃ N, N + 30 * xs.length ≤ 60 * vwL xs ∧ BL (encsM ns cuts f xs) N
  | [], _, _, _, f => ⟨0, by simp [vwL], by rw [encsM]; trivial⟩
  | x :: xs, hs, hl, hw, f => by
    rw [vwL] at hw ⊢
    obtain ⟨N, h1, h2⟩ := encs_len2 ns cuts xs hs.2 hl.2 (by omega) (fun i => f (i + 1))
    have hp := vw_pos x
    refine ⟨(60 * vw x - 30) + N, by simp; omega, ?_⟩
    rw [encsM]
    exact ⟨60 * vw x - 30, N, Nat.le_refl _, fun c => by have := enc_len ns cuts x hs.1 hl.1 (by omega) (f 0) c; omega, h2⟩
end
theorem bkeys_kw : ∀ (ks : List (List UInt8)) (n m : Nat), bkeys5 n ks = some m → m ≤ 2500 → n + kw ks = m
  | [], n, m, e, h => by rw [bkeys5] at e; obtain rfl := Option.some.inj e; rfl
  | y :: ys, n, m, e, h => by
    have hl := bkeys5_len (y :: ys) n m e h
    rw [bkeys5] at e
    split at e
    · split at e
      · simp at e
      · have := bkeys_kw ys _ m e h
        rw [kw]
        omega
    · obtain rfl := Option.some.inj e
      simp at hl
      omega
mutual
theorem vbulk_vw (d : Nat) : ∀ v : VT, vbulk d v ≤ 2500 → vw v ≤ vbulk d v
  | .mk k n w s xs ks => fun h => by
    rw [vbulk] at h ⊢
    split at h
    · omega
    · rename_i h1
      rw [if_neg h1]
      split at h
      · omega
      · rename_i m hm
        have h2 := vitems_ge d xs m
        have h3 := bkeys_kw ks _ m hm (by omega)
        have h4 := vitems_vw d xs m h
        rw [vw]
        omega
theorem vitems_vw (d : Nat) : ∀ (xs : List VT) (n : Nat), vitems d n xs ≤ 2500 → n + vwL xs ≤ vitems d n xs
  | [], n => fun h => by rw [vitems, vwL]; exact Nat.le_refl _
  | x :: xs, n => fun h => by
    rw [vitems] at h ⊢
    split at h
    · rename_i hn
      rw [if_pos hn, vwL]
      have h1 := vitems_ge d xs (n + vbulk (d + 1) x)
      have h2 := vbulk_vw (d + 1) x (by omega)
      have h3 := vitems_vw d xs _ h
      omega
    · omega
end
section
attribute [local go_sem] opx opE ev okx gcond bnd okO AV.get AV.okb cAV upd_at putd_some putd_none wrs_nil wrs_cons look_nil look_cons st argT_at bpick_and bpick_or bpick_true bpick_false binV binI binS binVOk binOk isShift binSOk unV unVOk loadV loadP cellsA zeroA Blkd.len setE grown moreA moreR moreOk eqRes pv fillA fillE putSeg AV.cellish AV.pureL AV.pureB lentL_is ex_some AV.ren AV.renL renL_c Blkd.ren rho wrM renN lentOk rhoE keepM endOk tyA_2 tyA_3 tyA_4 tyA_5 tyA_6 tyA_7 tyA_8 tyA_9 tyA_10 tyA_11 tyA_12 tyA_13 tyA_14 tyA_15 tyA_16 tyA_17 tyA_18 tyA_19 tyA_21 tyA_22 tyA_23 tyA_24 tyA_29 tyA_30 tyA_31 tyA_32 tyA_33 tyA_34 tyA_35 tyA_36 tyA_37 tyA_38 tyA_39 tyA_40 tyA_41 tyA_42 tyA_43 tyA_51 tyA_73 tyA_77 tyA_99 tyA_100 tyA_101 tyA_114 tyA_120 tyA_121 tyA_122 tyA_131 tyA_132 tyA_133 tyA_134 tyA_135 tyA_138 tyA_139 tyA_140 tyA_149 tyA_163 tyA_168 tyA_210 tyA_212 tyA_219 tyA_227 tyA_231 tyA_233 tyA_237 tyA_238 tyA_239 tyA_240 tyA_241 tyA_243 tyA_244 tyA_246 tyA_247 tyA_248 tyA_251 Option.map_some Option.map_none Option.getD_some Option.getD_none Option.bind_some Option.bind_none List.getElem?_cons_zero List.getElem?_cons_succ List.getElem?_nil List.getElem?_toArray List.length_cons List.length_nil List.length_map List.forall_mem_map List.map_cons List.map_nil List.drop_zero List.drop_succ_cons List.drop_nil List.take_zero List.take_succ_cons List.take_nil List.mem_cons List.not_mem_nil or_false forall_eq_or_imp forall_eq List.set_cons_zero List.set_cons_succ List.cons_append List.nil_append List.append_nil List.foldl_cons List.foldl_nil List.replicate_succ List.replicate_zero List.all_cons List.all_nil if_true if_false Bool.false_eq_true ne_eq not_false_eq_true not_true_eq_false true_and and_true and_self true_implies imp_self implies_true forall_const beq_self_eq_true Bool.and_true Bool.true_and Bool.and_false Bool.false_and Bool.or_true Bool.true_or Bool.or_false Bool.false_or Bool.not_true Bool.not_false Bool.not_eq_eq_eq_not intKindOf Value.oneCell' Int.toNat_natCast beq_true beq_false Bool.not_eq_true false_implies false_or true_or or_true Nat.zero_add Nat.add_zero decide_true decide_false Int.cast_ofNat_Int Int.toNat_zero Int.toNat_one eq_self

set_option maxRecDepth 100000 in
set_option maxHeartbeats 800000 in
theorem vdeep_told : ∀ (m : Nat) (v : VT), SizeOf.sizeOf v ≤ m → vdeep v ≤ 1000 → v.sm 1000000 → Told Tryz.prog 24 [v.av] (.c (.v (.int .i64 (vdeep v)))) := by
  intro m
  induction m with
  | zero => intro v hv; cases v; simp at hv
  | succ m ih =>
  intro v hv hd hsm
  cases v with
  | mk k n b s xs ks =>
  obtain ⟨_, _, _, _, hxl, hxs⟩ := hsm
  rw [VT.av_eq, vcells_mk]
  refine VC.told ent_24 Tryz.func24 rfl Tryz.ntmps24 (by simp) (by first | rfl | simp [AV.pureB, AV.pureL, pureL_c, pures]) (by first | rfl | simp [AV.pureB, AV.pureL, pureL_c, pures]) fun hb => ?_
  clear hb
  refine walkG ?_
  rcases (by omega : (k ≠ 9 ∧ k ≠ 11 ∧ k ≠ 12 ∧ k ≠ 13) ∨ k = 9 ∨ k = 11 ∨ k = 12 ∨ k = 13) with ⟨h9, h11, h12, h13⟩ | hk
  · have e9 : (k == 9) = false := by simpa using h9
    have e11 : (k == 11) = false := by simpa using h11
    have e12 : (k == 12) = false := by simpa using h12
    have e13 : (k == 13) = false := by simpa using h13
    have hdd : vdeep (.mk k n b s xs ks) = 0 := by rw [vdeep, if_neg (by omega)]
    rw [hdd, e9]
    refine walkBF (And.intro e9 (And.intro e11 (And.intro e12 e13))) ?_
    refine ⟨by first | exact .inr rfl | exact .inl rfl, ?_⟩; rw [Tryz.results24]; simp only [resOk, resV, go_sem, Int.reduceBEq, Int.reduceLE, Int.reduceLT, Int.reduceNeg, Nat.reduceAdd, Nat.reduceEqDiff, Nat.reduceLT, Nat.reduceLeDiff, Nat.reduceMul, Nat.reduceSub, reduceCtorEq, ↓reduceIte]
    exact .c _
  have hdd : vdeep (.mk k n b s xs ks) = vdeeps 1 xs := by rw [vdeep, if_pos hk]
  rw [hdd] at hd ⊢
  clear hdd
  rcases hk with rfl | rfl | rfl | rfl
  all_goals
    refine walkB ?_
    refine VC.loop (ι := {i : Nat // i ≤ xs.length}) (fun i => [(3, .c (.v (.int .i64 (vdeeps 1 (xs.take i.1))))), (14, .c (.sl 6 (xs.map VT.cells))), (15, .c (.v (.int .i64 xs.length))), (16, .c (.v (.int .i64 i.1)))]) (fun _ => []) 0 (fun i => xs.length - i.1) ⟨0, Nat.zero_le _⟩ ?_ ?_
    · simp only [List.take_zero, vdeeps, List.map_nil, Weak, eq_self, used_is, sc_any, sc_c, sc_pp, sc_ref, sc_row, sc_agg, sc_fn, ScL, some_imp, List.forall_mem_map, go_sem, Int.reduceBEq, Int.reduceLE, Int.reduceLT, Int.reduceNeg, Nat.reduceAdd, Nat.reduceEqDiff, Nat.reduceLT, Nat.reduceLeDiff, Nat.reduceMul, Nat.reduceSub, reduceCtorEq, ↓reduceIte]
    rintro ⟨i, hi⟩
    refine walkG ?_
    refine VC.cond (by rfl) (by trivial) (fun hc => ?_) (fun hc => ?_)
    · simp only [decide_eq_true_eq] at hc
      have hlt : i < xs.length := by omega
      obtain ⟨x, hx⟩ : ∃ x, xs[i]? = some x := ⟨xs[i], List.getElem?_eq_getElem hlt⟩
      have hxm := List.mem_of_getElem? hx
      have hle := (vdeeps_le xs 1).2 x hxm
      have hcall := ih x (by
        have h1 := List.sizeOf_lt_of_mem hxm
        simp at hv
        omega) (by omega) (vsmL_mem hxs x hxm)
      have hmm : vdeeps 1 (xs.take (i + 1)) = max (vdeeps 1 (xs.take i)) (1 + vdeep x) := by
        rw [← vdeeps_snoc, List.take_add_one, hx]
        rfl
      have hxp : (xs.map VT.cells)[i]? = some x.cells := by rw [List.getElem?_map, hx]; rfl
      rw [VT.av_eq] at hcall
      have hw : IntKind.i64.wrap (1 + (vdeep x : Int)) = 1 + (vdeep x : Int) := wrap64_id (by omega) (by omega)
      have hw2 : IntKind.i64.wrap ((i : Int) + 1) = (i : Int) + 1 := wrap64_id (by omega) (by omega)
      refine walkGF (And.intro hxp (And.intro @len_vcells (And.intro @take_vcells @take_vcellsC))) ?_
      refine walkCF (@pureL_c) (hcall) ?_
      refine walkGF (And.intro hw hw2) ?_
      refine .next ⟨i + 1, by omega⟩ ?_ (by simp only []; omega)
      simp only [hmm, Weak, eq_self, used_is, sc_any, sc_c, sc_pp, sc_ref, sc_row, sc_agg, sc_fn, ScL, some_imp, List.forall_mem_map, go_sem, Int.reduceBEq, Int.reduceLE, Int.reduceLT, Int.reduceNeg, Nat.reduceAdd, Nat.reduceEqDiff, Nat.reduceLT, Nat.reduceLeDiff, Nat.reduceMul, Nat.reduceSub, reduceCtorEq, ↓reduceIte]
      exact ⟨cI (by omega), cI (by omega)⟩
    · simp only [decide_eq_false_iff_not] at hc
      obtain rfl : i = xs.length := by omega
      refine walkG ?_
      refine ⟨by first | exact .inr rfl | exact .inl rfl, ?_⟩; rw [Tryz.results24]; simp only [resOk, resV, go_sem, Int.reduceBEq, Int.reduceLE, Int.reduceLT, Int.reduceNeg, Nat.reduceAdd, Nat.reduceEqDiff, Nat.reduceLT, Nat.reduceLeDiff, Nat.reduceMul, Nat.reduceSub, reduceCtorEq, ↓reduceIte]
      rw [List.take_length]
      exact .c _

def Slow (f : Enc) : Prop := ∀ c, (f c).2 ≤ c + (f c).1.length
theorem seqF_slow : ∀ {fs : List Enc}, (∀ f ∈ fs, Slow f) → Slow (seqF fs)
  | [], _, c => by rw [seqF]; exact Nat.le_refl _
  | f :: fs, h, c => by
    have h1 := h f (by simp) c
    have h2 := seqF_slow (fs := fs) (fun g hg => h g (by simp [hg])) (f c).2
    rw [seqF]
    simp only [List.length_append]
    omega
theorem vput_pos (n : Int) : 1 ≤ (vput n).length := by
  rw [vput, vint]
  split <;> simp
theorem headB_pos (n : Nat) (sized : Bool) (m : Nat) : 1 ≤ (headB n sized m).length := by
  have a := vput_pos (-(n : Int))
  have c := vput_pos (n : Int)
  unfold headB
  split
  · rw [List.length_append]; omega
  · omega
theorem cutM_slow (cuts : List Int) (c l : Nat) : (cutM cuts c l).2.2 ≤ c + 1 := by
  unfold cutM
  split
  · exact Nat.le_succ _
  · exact Nat.le_refl _
theorem blkF_slow (cuts : List Int) : ∀ (k : Nat) {fs : List Enc}, (∀ f ∈ fs, Slow f) → Slow (blkF cuts k fs)
  | 0, _, _, c => Nat.le_add_right _ _
  | k + 1, [], _, c => Nat.le_add_right _ _
  | k + 1, f :: fs, h, c => by
    rw [blkF]
    simp only [List.length_append]
    have h1 := cutM_slow cuts c (fs.length + 1)
    have h2 := seqF_slow (fs := (f :: fs).take (cutM cuts c (fs.length + 1)).1) (fun g hg => h g (List.mem_of_mem_take hg)) (cutM cuts c (fs.length + 1)).2.2
    have h3 := blkF_slow cuts k (fs := (f :: fs).drop (cutM cuts c (fs.length + 1)).1) (fun g hg => h g (List.mem_of_mem_drop hg)) (seqF ((f :: fs).take (cutM cuts c (fs.length + 1)).1) (cutM cuts c (fs.length + 1)).2.2).2
    have h4 := headB_pos (cutM cuts c (fs.length + 1)).1 (cutM cuts c (fs.length + 1)).2.1 (seqF ((f :: fs).take (cutM cuts c (fs.length + 1)).1) (cutM cuts c (fs.length + 1)).2.2).1.length
    omega
mutual
theorem encM_slow (ns : List NT) (cuts : List Int) : ∀ (v : VT) (a : Int), Slow (encM ns cuts a v)
  | .mk k n b t xs ks, a, c => by
    have h := encsM_slow ns cuts xs
    rw [encM]
    split
    · exact Nat.le_add_right _ _
    · split
      · exact seqF_slow (h _) c
      · split
        · exact blkF_slow cuts _ (h _) c
        · split
          · refine blkF_slow cuts _ (fun f hf => ?_) c
            obtain ⟨i, hi⟩ := List.getElem?_of_mem hf
            rw [List.getElem?_zipWith] at hi
            split at hi
            · obtain rfl := Option.some.inj hi
              rename_i y g hy hg
              intro c
              have := h _ g (List.mem_of_getElem? hg) c
              rw [keyF]
              simp only [List.length_append]
              omega
            · simp at hi
          · split
            · rename_i nd _ _ _ _ _
              have := seqF_slow (fs := encsM ns cuts (fun _ => branchAt nd n) xs) (h _) c
              simp only [List.length_append]
              omega
            · exact Nat.le_add_right _ _
theorem encsM_slow (ns : List NT) (cuts : List Int) : ∀ (xs : List VT) (f : Nat → Int), ∀ e ∈ encsM ns cuts f xs, Slow e
  | [], f => by rw [encsM]; simp
  | x :: xs, f => by
    rw [encsM]
    intro e he
    rcases List.mem_cons.1 he with rfl | he
    · exact encM_slow ns cuts x _
    · exact encsM_slow ns cuts xs _ e he
end
noncomputable def outM (s : ST) (a : Int) (v : VT) (cuts : List Int) : List UInt8 × Int :=
  if conM s a v (rightM s) = true then (if 20 < vdeep v then ([], 15) else if 20000 < (encM s.nodes cuts a v 0).1.length then ([], 3) else ((encM s.nodes cuts a v 0).1, 0)) else ([], 40)
set_option maxRecDepth 100000 in
set_option maxHeartbeats 1600000 in
theorem ecutall_told (s : ST) (hs : s.sm 1000000) (v : VT) (hv : v.sm 1000000) (hlg : v.lng) (hvw : vw v ≤ 1000000) (hd : vdeep v ≤ 1000) (a : Int) (cuts : List Int) (hcr : ∀ n ∈ cuts, -9223372036854775808 ≤ n ∧ n ≤ 9223372036854775807) (hcl : cuts.length ≤ 1000000000) :
    Told Tryz.prog 72 [s.av, .c (.v (.int .i64 a)), v.av, .c (.sl 1 (cuts.map iPV))] (.tup [.c (.sl 1 (bytePV (outM s a v cuts).1)), .c (.v (.int .i64 (outM s a v cuts).2))]) := by
  have hC := vConforms_told s hs v hv a
  have hD := vdeep_told _ v (Nat.le_refl _) hd hv
  unfold outM
  cases hr : conM s a v (rightM s) with
  | false =>
    rw [hr] at hC
    rw [if_neg (by decide)]
    rw [ST.av_eq, VT.av_eq] at hC ⊢
    refine VC.told ent_72 Tryz.func72 rfl Tryz.ntmps72 (by simp) (by first | rfl | simp [AV.pureB, AV.pureL, pureL_c, pures]) (by first | rfl | simp [AV.pureB, AV.pureL, pureL_c, pures]) fun hb => ?_
    clear hb
    refine walkGF (And.intro @len_scells (And.intro @take_scells (And.intro @take_scellsC (And.intro @len_vcells (And.intro @take_vcells @take_vcellsC))))) ?_
    refine walkCF (@pureL_c) (hC) ?_
    refine walkB ?_
    refine ⟨by first | exact .inr rfl | exact .inl rfl, ?_⟩; rw [Tryz.results72]; simp only [resOk, resV, go_sem, Int.reduceBEq, Int.reduceLE, Int.reduceLT, Int.reduceNeg, Nat.reduceAdd, Nat.reduceEqDiff, Nat.reduceLT, Nat.reduceLeDiff, Nat.reduceMul, Nat.reduceSub, reduceCtorEq, ↓reduceIte]
    exact ⟨.nil 1, .c _⟩
  | true =>
  rw [hr] at hC
  rw [if_pos rfl]
  by_cases h20 : 20 < vdeep v
  · rw [if_pos h20]
    have e20 : decide ((vdeep v : Int) > 20) = true := by simp; omega
    rw [ST.av_eq, VT.av_eq] at hC ⊢
    rw [VT.av_eq] at hD
    refine VC.told ent_72 Tryz.func72 rfl Tryz.ntmps72 (by simp) (by first | rfl | simp [AV.pureB, AV.pureL, pureL_c, pures]) (by first | rfl | simp [AV.pureB, AV.pureL, pureL_c, pures]) fun hb => ?_
    clear hb
    refine walkGF (And.intro @len_scells (And.intro @take_scells (And.intro @take_scellsC (And.intro @len_vcells (And.intro @take_vcells @take_vcellsC))))) ?_
    refine walkCF (@pureL_c) (hC) ?_
    refine walkBF (And.intro @len_vcells (And.intro @take_vcells @take_vcellsC)) ?_
    refine walkCF (@pureL_c) (hD) ?_
    refine walkBF (e20) ?_
    refine ⟨by first | exact .inr rfl | exact .inl rfl, ?_⟩; rw [Tryz.results72]; simp only [resOk, resV, go_sem, Int.reduceBEq, Int.reduceLE, Int.reduceLT, Int.reduceNeg, Nat.reduceAdd, Nat.reduceEqDiff, Nat.reduceLT, Nat.reduceLeDiff, Nat.reduceMul, Nat.reduceSub, reduceCtorEq, ↓reduceIte]
    exact ⟨.nil 1, .c _⟩
  rw [if_neg h20]
  have e20 : decide ((vdeep v : Int) > 20) = false := by simp; omega
  unfold conM at hr
  simp only [Bool.and_eq_true, decide_eq_true_eq] at hr
  obtain ⟨a0, a1, hr1, hm⟩ := hr
  have hL := enc_len s.nodes cuts v hv hlg hvw a 0
  have hW := encM_slow s.nodes cuts v a 0
  have hP := put_told s hr1 hs.1 s.root cuts hcr hcl _ v (Nat.le_refl _) hv hlg a a0 a1 hm [] 0 (by simp; omega) (by omega)
  simp only [List.nil_append, List.length_nil] at hP
  obtain ⟨E, hE⟩ : ∃ E, E = encM s.nodes cuts a v 0 := ⟨_, rfl⟩
  rw [← hE] at hP hL hW ⊢
  simp only [bB, bA_nil] at hP
  have hP : ToldM Tryz.prog _ _ ([xE s.nodes s.root cuts 0] ++ [⟨true, 5, 1, []⟩]) _ _ := hP
  unfold xE at hP
  rw [show ((0 : Nat) : Int) = 0 from rfl] at hP
  rw [ST.av_eq, VT.av_eq] at hC ⊢
  rw [VT.av_eq] at hD hP
  rw [scells_mk] at hC ⊢
  by_cases hb3 : 20000 < E.1.length
  · rw [if_pos hb3]
    have e3 : decide ((E.1.length : Int) > 20000) = true := by simp; omega
    refine VC.told ent_72 Tryz.func72 rfl Tryz.ntmps72 (by simp) (by first | rfl | simp [AV.pureB, AV.pureL, pureL_c, pures]) (by first | rfl | simp [AV.pureB, AV.pureL, pureL_c, pures]) fun hb => ?_
    clear hb
    refine walkGF (And.intro @len_vcells (And.intro @take_vcells @take_vcellsC)) ?_
    refine walkCF (@pureL_c) (hC) ?_
    refine walkBF (And.intro @len_vcells (And.intro @take_vcells @take_vcellsC)) ?_
    refine walkCF (@pureL_c) (hD) ?_
    refine walkBF (And.intro e20 (And.intro @len_vcells (And.intro @take_vcells @take_vcellsC))) ?_
    ((refine AO.step fun K hK => ?_; simp only [go_sem, Int.reduceBEq, Int.reduceLE, Int.reduceLT, Int.reduceNeg, Nat.reduceAdd, Nat.reduceEqDiff, Nat.reduceLT, Nat.reduceLeDiff, Nat.reduceMul, Nat.reduceSub, reduceCtorEq, ↓reduceIte, bA_nil, bA_ren]; (first | refine gsel_go ?_ | skip)); (first | refine .inr (.inr (.inr ⟨?vy1, [136], ?vt1, ?vz1, ?va1, ?vl1, ?vm1, ?cond1, ?cont1⟩)) | refine .inr (.inr (.inr (.inl ⟨?vy1, [136], ?vt1, ?vz1, ?va1, ?vl1, ?vm1, ?cond1, ?cont1⟩)))); (case cond1 => ((repeat' apply And.intro) <;> (try ((with_reducible show ToldM _ _ _ _ _ _); exact hP))); (all_goals first | trivial | (simp only [bA_nil, bA_ren, go_sem, Int.reduceBEq, Int.reduceLE, Int.reduceLT, Int.reduceNeg, Nat.reduceAdd, Nat.reduceEqDiff, Nat.reduceLT, Nat.reduceLeDiff, Nat.reduceMul, Nat.reduceSub, reduceCtorEq, ↓reduceIte]; done) | (simp; done) | rfl)); (first | refine hK _ _ _ ?_ | (simp only [bA_nil, bA_ren, go_sem, Int.reduceBEq, Int.reduceLE, Int.reduceLT, Int.reduceNeg, Nat.reduceAdd, Nat.reduceEqDiff, Nat.reduceLT, Nat.reduceLeDiff, Nat.reduceMul, Nat.reduceSub, reduceCtorEq, ↓reduceIte]; first | refine hK _ _ _ ?_ | refine ⟨rfl, hK _ _ _ ?_⟩)); clear hK K)
    refine walkBF (And.intro @bA_len (And.intro @bA_ren e3)) ?_
    refine ⟨by first | exact .inr rfl | exact .inl rfl, ?_⟩; rw [Tryz.results72]; simp only [resOk, resV, go_sem, Int.reduceBEq, Int.reduceLE, Int.reduceLT, Int.reduceNeg, Nat.reduceAdd, Nat.reduceEqDiff, Nat.reduceLT, Nat.reduceLeDiff, Nat.reduceMul, Nat.reduceSub, reduceCtorEq, ↓reduceIte]
    exact ⟨.nil 1, .c _⟩
  rw [if_neg hb3]
  have e3 : decide ((E.1.length : Int) > 20000) = false := by simp; omega
  refine VC.told ent_72 Tryz.func72 rfl Tryz.ntmps72 (by simp) (by first | rfl | simp [AV.pureB, AV.pureL, pureL_c, pures]) (by first | rfl | simp [AV.pureB, AV.pureL, pureL_c, pures]) fun hb => ?_
  clear hb
  refine walkGF (And.intro @len_vcells (And.intro @take_vcells @take_vcellsC)) ?_
  refine walkCF (@pureL_c) (hC) ?_
  refine walkBF (And.intro @len_vcells (And.intro @take_vcells @take_vcellsC)) ?_
  refine walkCF (@pureL_c) (hD) ?_
  refine walkBF (And.intro e20 (And.intro @len_vcells (And.intro @take_vcells @take_vcellsC))) ?_
  ((refine AO.step fun K hK => ?_; simp only [go_sem, Int.reduceBEq, Int.reduceLE, Int.reduceLT, Int.reduceNeg, Nat.reduceAdd, Nat.reduceEqDiff, Nat.reduceLT, Nat.reduceLeDiff, Nat.reduceMul, Nat.reduceSub, reduceCtorEq, ↓reduceIte, bA_nil, bA_ren]; (first | refine gsel_go ?_ | skip)); (first | refine .inr (.inr (.inr ⟨?vy2, [136], ?vt2, ?vz2, ?va2, ?vl2, ?vm2, ?cond2, ?cont2⟩)) | refine .inr (.inr (.inr (.inl ⟨?vy2, [136], ?vt2, ?vz2, ?va2, ?vl2, ?vm2, ?cond2, ?cont2⟩)))); (case cond2 => ((repeat' apply And.intro) <;> (try ((with_reducible show ToldM _ _ _ _ _ _); exact hP))); (all_goals first | trivial | (simp only [bA_nil, bA_ren, go_sem, Int.reduceBEq, Int.reduceLE, Int.reduceLT, Int.reduceNeg, Nat.reduceAdd, Nat.reduceEqDiff, Nat.reduceLT, Nat.reduceLeDiff, Nat.reduceMul, Nat.reduceSub, reduceCtorEq, ↓reduceIte]; done) | (simp; done) | rfl)); (first | refine hK _ _ _ ?_ | (simp only [bA_nil, bA_ren, go_sem, Int.reduceBEq, Int.reduceLE, Int.reduceLT, Int.reduceNeg, Nat.reduceAdd, Nat.reduceEqDiff, Nat.reduceLT, Nat.reduceLeDiff, Nat.reduceMul, Nat.reduceSub, reduceCtorEq, ↓reduceIte]; first | refine hK _ _ _ ?_ | refine ⟨rfl, hK _ _ _ ?_⟩)); clear hK K)
  refine walkBF (And.intro @bA_len (And.intro @bA_ren e3)) ?_
  refine ⟨by first | exact .inr rfl | exact .inl rfl, ?_⟩; rw [Tryz.results72]; simp only [resOk, resV, go_sem, Int.reduceBEq, Int.reduceLE, Int.reduceLT, Int.reduceNeg, Nat.reduceAdd, Nat.reduceEqDiff, Nat.reduceLT, Nat.reduceLeDiff, Nat.reduceMul, Nat.reduceSub, reduceCtorEq, ↓reduceIte]
  exact ⟨frz_rA (f := fun b : UInt8 => [PV.v (.int .u8 (b.toNat : Int))]) (l := E.1) (T := 5) (by rw [bA_ren]; rfl) rfl rfl (by simp), .c _⟩
set_option maxRecDepth 100000 in
set_option maxHeartbeats 1600000 in
theorem ecutrow_told (s : ST) (hs : s.sm 1000000) (v : VT) (hv : v.sm 1000000) (hlg : v.lng) (hvw : vw v ≤ 1000000) (hd : vdeep v ≤ 20) (a : Int) (cuts : List Int) (hcr : ∀ n ∈ cuts, -9223372036854775808 ≤ n ∧ n ≤ 9223372036854775807) (hcl : cuts.length ≤ 1000000000)
    (hr : conM s a v (rightM s) = true) (hl : (encM s.nodes cuts a v 0).1.length ≤ 20000) :
    ToldM Tryz.prog 72 [s.av, .c (.v (.int .i64 a)), v.av, .row 1000000 cuts.length] [⟨true, 3, 1, rA iPV cuts⟩] [none] (.tup [.c (.sl 1 (bytePV (encM s.nodes cuts a v 0).1)), .c (.v (.int .i64 0))]) := by
  have hC := vConforms_told s hs v hv a
  have hD := vdeep_told _ v (Nat.le_refl _) (by omega) hv
  rw [hr] at hC
  have e20 : decide ((vdeep v : Int) > 20) = false := by simp; omega
  unfold conM at hr
  simp only [Bool.and_eq_true, decide_eq_true_eq] at hr
  obtain ⟨a0, a1, hr1, hm⟩ := hr
  have hL := enc_len s.nodes cuts v hv hlg hvw a 0
  have hW := encM_slow s.nodes cuts v a 0
  have hP := put_told s hr1 hs.1 s.root cuts hcr hcl _ v (Nat.le_refl _) hv hlg a a0 a1 hm [] 0 (by simp; omega) (by omega)
  simp only [List.nil_append, List.length_nil] at hP
  obtain ⟨E, hE⟩ : ∃ E, E = encM s.nodes cuts a v 0 := ⟨_, rfl⟩
  rw [← hE] at hP hL hW hl ⊢
  simp only [bB, bA_nil] at hP
  have hP : ToldM Tryz.prog _ _ ([xE s.nodes s.root cuts 0] ++ [⟨true, 5, 1, []⟩]) _ _ := hP
  unfold xE at hP
  rw [show ((0 : Nat) : Int) = 0 from rfl] at hP
  rw [ST.av_eq, VT.av_eq] at hC ⊢
  rw [VT.av_eq] at hD hP
  rw [scells_mk] at hC ⊢
  have e3 : decide ((E.1.length : Int) > 20000) = false := by simp; omega
  refine VC.toldM ent_72 [] Tryz.func72 rfl Tryz.ntmps72 (by simp) (by simp only [ rA_len, rA_sc, ScM, zOk, inL, eq_self, used_is, sc_any, sc_c, sc_pp, sc_ref, sc_row, sc_agg, sc_tup, sc_fn, ScL, some_imp, List.forall_mem_map, Nat.le_refl, go_sem, Int.reduceBEq, Int.reduceLE, Int.reduceLT, Int.reduceNeg, Nat.reduceAdd, Nat.reduceEqDiff, Nat.reduceLT, Nat.reduceLeDiff, Nat.reduceMul, Nat.reduceSub, reduceCtorEq, ↓reduceIte]) (by simp only [ rA_len, rA_sc, ScM, zOk, inL, eq_self, used_is, sc_any, sc_c, sc_pp, sc_ref, sc_row, sc_agg, sc_tup, sc_fn, ScL, some_imp, List.forall_mem_map, Nat.le_refl, go_sem, Int.reduceBEq, Int.reduceLE, Int.reduceLT, Int.reduceNeg, Nat.reduceAdd, Nat.reduceEqDiff, Nat.reduceLT, Nat.reduceLeDiff, Nat.reduceMul, Nat.reduceSub, reduceCtorEq, ↓reduceIte]) (by simp only [ rA_len, rA_sc, ScM, zOk, inL, eq_self, used_is, sc_any, sc_c, sc_pp, sc_ref, sc_row, sc_agg, sc_tup, sc_fn, ScL, some_imp, List.forall_mem_map, Nat.le_refl, go_sem, Int.reduceBEq, Int.reduceLE, Int.reduceLT, Int.reduceNeg, Nat.reduceAdd, Nat.reduceEqDiff, Nat.reduceLT, Nat.reduceLeDiff, Nat.reduceMul, Nat.reduceSub, reduceCtorEq, ↓reduceIte]) (by simp only [ rA_len, rA_sc, ScM, zOk, inL, eq_self, used_is, sc_any, sc_c, sc_pp, sc_ref, sc_row, sc_agg, sc_tup, sc_fn, ScL, some_imp, List.forall_mem_map, Nat.le_refl, go_sem, Int.reduceBEq, Int.reduceLE, Int.reduceLT, Int.reduceNeg, Nat.reduceAdd, Nat.reduceEqDiff, Nat.reduceLT, Nat.reduceLeDiff, Nat.reduceMul, Nat.reduceSub, reduceCtorEq, ↓reduceIte]) (by simp) fun hb hbL => ?_
  clear hb
  refine VC.frz [1000000] [(0, .agg ([.sl 10 (s.nodes.map NT.cells), .v (.int .i64 s.root)].map .c)), (1, .c (.v (.int .i64 a))), (2, .agg (v.cells.map .c)), (3, .c (.sl 1 (cuts.map iPV)))] [] 0 ?_ ?_
  · simp only [rA_sc, rA_len, WeakF, used_is, sc_any, sc_c, sc_pp, sc_ref, sc_row, sc_agg, sc_fn, ScL, some_imp, List.forall_mem_map, go_sem, Int.reduceBEq, Int.reduceLE, Int.reduceLT, Int.reduceNeg, Nat.reduceAdd, Nat.reduceEqDiff, Nat.reduceLT, Nat.reduceLeDiff, Nat.reduceMul, Nat.reduceSub, reduceCtorEq, ↓reduceIte]
    exact ⟨.same _, .same _, .same _, .row (B := ⟨true, 3, 1, rA iPV cuts⟩) (es := cuts.map iPV) (by simp) rfl rfl (rA_len iPV cuts) (rA_pv iPV cuts)⟩
  refine walkGF (And.intro @len_vcells (And.intro @take_vcells @take_vcellsC)) ?_
  refine walkCF (@pureL_c) (hC) ?_
  refine walkBF (And.intro @len_vcells (And.intro @take_vcells @take_vcellsC)) ?_
  refine walkCF (@pureL_c) (hD) ?_
  refine walkBF (And.intro e20 (And.intro @len_vcells (And.intro @take_vcells @take_vcellsC))) ?_
  ((refine AO.step fun K hK => ?_; simp only [go_sem, Int.reduceBEq, Int.reduceLE, Int.reduceLT, Int.reduceNeg, Nat.reduceAdd, Nat.reduceEqDiff, Nat.reduceLT, Nat.reduceLeDiff, Nat.reduceMul, Nat.reduceSub, reduceCtorEq, ↓reduceIte, bA_nil, bA_ren]; (first | refine gsel_go ?_ | skip)); (first | refine .inr (.inr (.inr ⟨?vy3, [136], ?vt3, ?vz3, ?va3, ?vl3, ?vm3, ?cond3, ?cont3⟩)) | refine .inr (.inr (.inr (.inl ⟨?vy3, [136], ?vt3, ?vz3, ?va3, ?vl3, ?vm3, ?cond3, ?cont3⟩)))); (case cond3 => ((repeat' apply And.intro) <;> (try ((with_reducible show ToldM _ _ _ _ _ _); exact hP))); (all_goals first | trivial | (simp only [bA_nil, bA_ren, go_sem, Int.reduceBEq, Int.reduceLE, Int.reduceLT, Int.reduceNeg, Nat.reduceAdd, Nat.reduceEqDiff, Nat.reduceLT, Nat.reduceLeDiff, Nat.reduceMul, Nat.reduceSub, reduceCtorEq, ↓reduceIte]; done) | (simp; done) | rfl)); (first | refine hK _ _ _ ?_ | (simp only [bA_nil, bA_ren, go_sem, Int.reduceBEq, Int.reduceLE, Int.reduceLT, Int.reduceNeg, Nat.reduceAdd, Nat.reduceEqDiff, Nat.reduceLT, Nat.reduceLeDiff, Nat.reduceMul, Nat.reduceSub, reduceCtorEq, ↓reduceIte]; first | refine hK _ _ _ ?_ | refine ⟨rfl, hK _ _ _ ?_⟩)); clear hK K)
  refine walkBF (And.intro @bA_len (And.intro @bA_ren e3)) ?_
  refine ⟨by first | exact .inr rfl | exact .inl rfl, ?_⟩; rw [Tryz.results72]; simp only [resOk, resV, go_sem, Int.reduceBEq, Int.reduceLE, Int.reduceLT, Int.reduceNeg, Nat.reduceAdd, Nat.reduceEqDiff, Nat.reduceLT, Nat.reduceLeDiff, Nat.reduceMul, Nat.reduceSub, reduceCtorEq, ↓reduceIte]
  exact ⟨frz_rA (f := fun b : UInt8 => [PV.v (.int .u8 (b.toNat : Int))]) (l := E.1) (T := 5) (by rw [bA_ren]; rfl) rfl rfl (by simp), .c _⟩
set_option maxRecDepth 100000 in
set_option maxHeartbeats 800000 in
theorem eput_told (s : ST) (hs : s.sm 1000000) (v : VT) (hv : v.sm 1000000) (hlg : v.lng) (hvw : vw v ≤ 1000000) (hd : vdeep v ≤ 1000) (a : Int) :
    Told Tryz.prog 33 [s.av, .c (.v (.int .i64 a)), v.av] (.tup [.c (.sl 1 (bytePV (outM s a v []).1)), .c (.v (.int .i64 (outM s a v []).2))]) := by
  have hC := ecutall_told s hs v hv hlg hvw hd a [] (by simp) (by simp)
  obtain ⟨E, hE⟩ : ∃ E, E = outM s a v [] := ⟨_, rfl⟩
  rw [← hE] at hC ⊢
  rw [ST.av_eq, VT.av_eq] at hC ⊢
  rw [List.map_nil] at hC
  have hC := Told.co hC (.cons (.same _) (.cons (.same _) (.cons (.same _) (.cons (.nil 1) .nil))))
  refine VC.told ent_33 Tryz.func33 rfl Tryz.ntmps33 (by simp) (by first | rfl | simp [AV.pureB, AV.pureL, pureL_c, pures]) (by first | rfl | simp [AV.pureB, AV.pureL, pureL_c, pures]) fun hb => ?_
  clear hb
  refine walkGF (And.intro @len_scells (And.intro @take_scells (And.intro @take_scellsC (And.intro @len_vcells (And.intro @take_vcells @take_vcellsC))))) ?_
  refine walkCF (@pureL_c) (hC) ?_
  refine walkG ?_
  refine ⟨by first | exact .inr rfl | exact .inl rfl, ?_⟩; rw [Tryz.results33]; simp only [resOk, resV, go_sem, Int.reduceBEq, Int.reduceLE, Int.reduceLT, Int.reduceNeg, Nat.reduceAdd, Nat.reduceEqDiff, Nat.reduceLT, Nat.reduceLeDiff, Nat.reduceMul, Nat.reduceSub, reduceCtorEq, ↓reduceIte]
  exact ⟨.c _, .c _⟩
end
section

section
variable {P : Program} {N : Nat} {Q : Exit → ASt → Prop} {id : Nat} {o1 o2 : Oper} {t : Nat → AV} {h : Nat → Option Blkd} {n d1 d2 : Nat}
end
end
section
attribute [local go_sem] opx opE ev okx gcond bnd okO AV.get AV.okb cAV upd_at putd_some putd_none wrs_nil wrs_cons look_nil look_cons st argT_at bpick_and bpick_or bpick_true bpick_false binV binI binS binVOk binOk isShift binSOk unV unVOk loadV loadP cellsA zeroA Blkd.len setE grown moreA moreR moreOk eqRes pv fillA fillE putSeg AV.cellish AV.pureL AV.pureB lentL_is ex_some AV.ren AV.renL renL_c Blkd.ren rho wrM renN lentOk rhoE keepM endOk tyA_2 tyA_3 tyA_4 tyA_5 tyA_6 tyA_7 tyA_8 tyA_9 tyA_10 tyA_11 tyA_12 tyA_13 tyA_14 tyA_15 tyA_16 tyA_17 tyA_18 tyA_19 tyA_21 tyA_22 tyA_23 tyA_24 tyA_29 tyA_30 tyA_31 tyA_32 tyA_33 tyA_34 tyA_35 tyA_36 tyA_37 tyA_38 tyA_39 tyA_40 tyA_41 tyA_42 tyA_43 tyA_51 tyA_73 tyA_77 tyA_99 tyA_100 tyA_101 tyA_114 tyA_120 tyA_121 tyA_122 tyA_131 tyA_132 tyA_133 tyA_134 tyA_135 tyA_138 tyA_139 tyA_140 tyA_149 tyA_163 tyA_168 tyA_210 tyA_212 tyA_219 tyA_227 tyA_231 tyA_233 tyA_237 tyA_238 tyA_239 tyA_240 tyA_241 tyA_243 tyA_244 tyA_246 tyA_247 tyA_248 tyA_251 Option.map_some Option.map_none Option.getD_some Option.getD_none Option.bind_some Option.bind_none List.getElem?_cons_zero List.getElem?_cons_succ List.getElem?_nil List.getElem?_toArray List.length_cons List.length_nil List.length_map List.forall_mem_map List.map_cons List.map_nil List.drop_zero List.drop_succ_cons List.drop_nil List.take_zero List.take_succ_cons List.take_nil List.mem_cons List.not_mem_nil or_false forall_eq_or_imp forall_eq List.set_cons_zero List.set_cons_succ List.cons_append List.nil_append List.append_nil List.foldl_cons List.foldl_nil List.replicate_succ List.replicate_zero List.all_cons List.all_nil if_true if_false Bool.false_eq_true ne_eq not_false_eq_true not_true_eq_false true_and and_true and_self true_implies imp_self implies_true forall_const beq_self_eq_true Bool.and_true Bool.true_and Bool.and_false Bool.false_and Bool.or_true Bool.true_or Bool.or_false Bool.false_or Bool.not_true Bool.not_false Bool.not_eq_eq_eq_not intKindOf Value.oneCell' Int.toNat_natCast beq_true beq_false Bool.not_eq_true false_implies false_or true_or or_true Nat.zero_add Nat.add_zero decide_true decide_false Int.cast_ofNat_Int Int.toNat_zero Int.toNat_one eq_self

theorem cellish_map (l : List PV) : ∀ x ∈ l.map AV.c, x.cellish = true := fun x hx => by
  obtain ⟨p, _, rfl⟩ := List.mem_map.1 hx
  rfl
end

theorem ssm_le' {s : ST} (h : s.sm 2500) : s.sm 1000000 := by
  obtain ⟨h1, h2⟩ := h
  refine ⟨by omega, fun n hn => ?_⟩
  obtain ⟨a1, a2, ⟨a3, a4⟩, ⟨a5, a6⟩, a7, a8, a9⟩ := h2 n hn
  refine ⟨by omega, by omega, ⟨by omega, fun y hy => by have := a4 y hy; omega⟩, ⟨by omega, fun y hy => by have := a6 y hy; omega⟩, by omega, by omega, fun f hf => ?_⟩
  obtain ⟨b1, b2, b3, b4⟩ := a9 f hf
  exact ⟨by omega, by omega, fun y hy => by have := b3 y hy; omega, sm_le (by omega) _ b4⟩

theorem ty_valueL : ∀ {t : TypeId} {ps : List PV}, TyPV Tryz.prog t ps → (t = 43 → ∃ j : VT, (j.inr ∧ j.lng) ∧ ps = j.cells) ∧ (t = 41 → ∃ xs : List VT, (VT.inrL xs ∧ VT.lngL xs) ∧ ps = [.sl 6 (xs.map VT.cells)]) := by
  intro t ps h
  induction h with
  | bool ht => exact ⟨fun e => by subst e; simp [Tryz.underlying43] at ht, fun e => by subst e; simp [Tryz.underlying41] at ht⟩
  | int ht hw => exact ⟨fun e => by subst e; simp [Tryz.underlying43] at ht, fun e => by subst e; simp [Tryz.underlying41] at ht⟩
  | str ht hs => exact ⟨fun e => by subst e; simp [Tryz.underlying43] at ht, fun e => by subst e; simp [Tryz.underlying41] at ht⟩
  | @sl t e es ht hx ih =>
    refine ⟨fun e => by subst e; simp [Tryz.underlying43] at ht, fun e => ?_⟩
    subst e
    obtain rfl := TypeDesc.slice.inj (Option.some.inj (ht.symm.trans Tryz.underlying41))
    obtain ⟨xs, hxs, rfl⟩ := list_mapP (f := VT.cells) (p := fun j => j.inr ∧ j.lng) fun q hq => (ih q hq).1 rfl
    exact ⟨xs, ⟨vinrL_of fun x hx => (hxs x hx).1, vlngL_of fun x hx => (hxs x hx).2⟩, by rw [cells_of tyA_43]⟩
  | @struct t fs ps ht hl hx ih =>
    refine ⟨fun e => ?_, fun e => by subst e; simp [Tryz.underlying41] at ht⟩
    subst e
    have hT := tyA_43
    obtain ⟨a0, a1, a2, a3, a4, a5, rfl⟩ := split6 (hl.trans (cells_of hT))
    obtain ⟨_, hf⟩ := ty_fields (.struct ht hl hx) hT rfl
    obtain ⟨k, h0, _⟩ := ty_int (hf 0 _ _ rfl _ tyA_3) Tryz.underlying3
    obtain ⟨n, h1, hn⟩ := ty_int (hf 1 _ _ rfl _ tyA_2) Tryz.underlying2
    obtain ⟨b, h2, hw⟩ := ty_int (hf 2 _ _ rfl _ tyA_39) Tryz.underlying39
    obtain ⟨s, h3⟩ := ty_bytes (hf 3 _ _ rfl _ tyA_40)
    obtain ⟨ks, h5⟩ := ty_strs (hf 5 _ _ rfl _ tyA_29)
    obtain ⟨f, g1, g2, g3⟩ := fld_of hT ht (i := 4) rfl
    obtain ⟨xs, hxs, h4⟩ := (ih 4 f g1).2 g3
    rw [g2, g3, cells_of tyA_41] at h4
    simp at h0 h1 h2 h3 h4 h5
    subst h0 h1 h2 h3 h4 h5
    have hn := wf64 hn
    simp [Lit.wf, IntKind.min, IntKind.max, IntKind.signed, IntKind.bits] at hw
    exact ⟨.mk k n b s xs ks, ⟨⟨by omega, hxs.1⟩, ⟨hn, hxs.2⟩⟩, (vcells_mk _ _ _ _ _ _).symm⟩
theorem arg_valueL {x : AV} (h : TyAV Tryz.prog 43 x) : ∃ j : VT, (j.inr ∧ j.lng) ∧ x = j.av := by
  obtain ⟨ps, h1, h2⟩ := h
  obtain ⟨j, hj, rfl⟩ := (ty_valueL h1).1 rfl
  rcases h2 with ⟨_, rfl⟩ | ⟨h2, _⟩
  · exact ⟨j, hj, rfl⟩
  · exact absurd Tryz.underlying43 (h2 _)
theorem outM_cases (s : ST) (a : Int) (v : VT) : (∃ e, (e != 0) = true ∧ outM s a v [] = ([], e)) ∨
    (outM s a v [] = (encP s.nodes a v, 0) ∧ conM s a v (rightM s) = true ∧ vdeep v ≤ 20 ∧ (encP s.nodes a v).length ≤ 20000) := by
  unfold outM encP
  split
  · rename_i h
    split
    · exact .inl ⟨15, rfl, rfl⟩
    · split
      · exact .inl ⟨3, rfl, rfl⟩
      · exact .inr ⟨rfl, h, by omega, by omega⟩
  · exact .inl ⟨40, rfl, rfl⟩
theorem outM_ok {s : ST} {a : Int} {v : VT} (h1 : conM s a v (rightM s) = true) (h2 : vdeep v ≤ 20) (h3 : (encP s.nodes a v).length ≤ 20000) : outM s a v [] = (encP s.nodes a v, 0) := by
  unfold outM
  unfold encP at h3 ⊢
  rw [if_pos h1, if_neg (by omega), if_neg (by omega)]
theorem conM_parts {s : ST} {a : Int} {v : VT} (h : conM s a v (rightM s) = true) : 0 ≤ a ∧ a < (s.nodes.length : Int) ∧ rightM s = true ∧ isM s.nodes a v = true := by
  unfold conM at h
  simpa only [Bool.and_eq_true, decide_eq_true_eq] using h
theorem conM_of {s : ST} {a : Int} {v : VT} (h1 : 0 ≤ a) (h2 : a < (s.nodes.length : Int)) (h3 : rightM s = true) (h4 : isM s.nodes a v = true) : conM s a v (rightM s) = true := by
  unfold conM
  rw [h3, h4]
  simp [h1, h2]
section
attribute [local go_sem] opx opE ev okx gcond bnd okO AV.get AV.okb cAV upd_at putd_some putd_none wrs_nil wrs_cons look_nil look_cons st argT_at bpick_and bpick_or bpick_true bpick_false binV binI binS binVOk binOk isShift binSOk unV unVOk loadV loadP cellsA zeroA Blkd.len setE grown moreA moreR moreOk eqRes pv fillA fillE putSeg AV.cellish AV.pureL AV.pureB lentL_is ex_some AV.ren AV.renL renL_c Blkd.ren rho wrM renN lentOk rhoE keepM endOk tyA_2 tyA_3 tyA_4 tyA_5 tyA_6 tyA_7 tyA_8 tyA_9 tyA_10 tyA_11 tyA_12 tyA_13 tyA_14 tyA_15 tyA_16 tyA_17 tyA_18 tyA_19 tyA_21 tyA_22 tyA_23 tyA_24 tyA_29 tyA_30 tyA_31 tyA_32 tyA_33 tyA_34 tyA_35 tyA_36 tyA_37 tyA_38 tyA_39 tyA_40 tyA_41 tyA_42 tyA_43 tyA_51 tyA_73 tyA_77 tyA_99 tyA_100 tyA_101 tyA_114 tyA_120 tyA_121 tyA_122 tyA_131 tyA_132 tyA_133 tyA_134 tyA_135 tyA_138 tyA_139 tyA_140 tyA_149 tyA_163 tyA_168 tyA_210 tyA_212 tyA_219 tyA_227 tyA_231 tyA_233 tyA_237 tyA_238 tyA_239 tyA_240 tyA_241 tyA_243 tyA_244 tyA_246 tyA_247 tyA_248 tyA_251 Option.map_some Option.map_none Option.getD_some Option.getD_none Option.bind_some Option.bind_none List.getElem?_cons_zero List.getElem?_cons_succ List.getElem?_nil List.getElem?_toArray List.length_cons List.length_nil List.length_map List.forall_mem_map List.map_cons List.map_nil List.drop_zero List.drop_succ_cons List.drop_nil List.take_zero List.take_succ_cons List.take_nil List.mem_cons List.not_mem_nil or_false forall_eq_or_imp forall_eq List.set_cons_zero List.set_cons_succ List.cons_append List.nil_append List.append_nil List.foldl_cons List.foldl_nil List.replicate_succ List.replicate_zero List.all_cons List.all_nil if_true if_false Bool.false_eq_true ne_eq not_false_eq_true not_true_eq_false true_and and_true and_self true_implies imp_self implies_true forall_const beq_self_eq_true Bool.and_true Bool.true_and Bool.and_false Bool.false_and Bool.or_true Bool.true_or Bool.or_false Bool.false_or Bool.not_true Bool.not_false Bool.not_eq_eq_eq_not intKindOf Value.oneCell' Int.toNat_natCast beq_true beq_false Bool.not_eq_true false_implies false_or true_or or_true Nat.zero_add Nat.add_zero decide_true decide_false Int.cast_ofNat_Int Int.toNat_zero Int.toNat_one eq_self

def w11a : NT := ⟨11, [], [], [], [], false, [], 0, 1, []⟩
def w11b : NT := ⟨3, [], [], [], [], false, [], 0, 0, []⟩
def w11 : ST := ⟨[w11a, w11b], 0⟩
theorem w11_a : nodeM w11.nodes w11a = true := by
  unfold nodeM
  rw [if_neg (show ¬ w11a.kind = 9 by decide)]
  decide +kernel
theorem w11_b : nodeM w11.nodes w11b = true := by
  unfold nodeM
  rw [if_neg (show ¬ w11b.kind = 9 by decide)]
  decide +kernel
theorem w11_right : rightM w11 = true := by
  have h1 : orderedM w11 = true := by decide +kernel
  have h2 : diffM fullM (namesM w11.nodes) = true := by decide +kernel
  have h3 : rightL w11.nodes w11.nodes 0 (List.replicate w11.nodes.length 0) = true := by
    rw [show rightL w11.nodes w11.nodes = rightL w11.nodes [w11a, w11b] from rfl]
    rw [rightL, rightL, rightL, w11_a, w11_b]
    decide +kernel
  unfold rightM
  rw [h1, h2, h3]
  rfl
theorem w11_sm : w11.sm 1000000 := by
  refine ⟨by decide, fun n hn => ?_⟩
  simp only [w11, List.mem_cons, List.not_mem_nil, or_false] at hn
  rcases hn with rfl | rfl
  · exact ⟨by decide, by decide, ⟨by decide, by simp [w11a]⟩, ⟨by decide, by simp [w11a]⟩, by decide, by decide, by simp [w11a]⟩
  · exact ⟨by decide, by decide, ⟨by decide, by simp [w11b]⟩, ⟨by decide, by simp [w11b]⟩, by decide, by decide, by simp [w11b]⟩

theorem pvOk18 (l : List UInt8) : bytesOk (bytePV l) = True := eq_true (bytePV_ok l)
def w18x : VT := .mk 3 3 0 [] [] []
def w18y : VT := .mk 3 27 0 [] [] []
def w18v : VT := .mk 11 0 0 [] [w18x, w18y] []
theorem w18x_sm : w18x.sm 1000000 := ⟨by decide, by decide, by decide, by simp, by decide, trivial⟩
theorem w18y_sm : w18y.sm 1000000 := ⟨by decide, by decide, by decide, by simp, by decide, trivial⟩
theorem w18v_sm : w18v.sm 1000000 := ⟨by decide, by decide, by decide, by simp, by decide, w18x_sm, w18y_sm, trivial⟩
theorem w18_lng : w18v.lng := ⟨by decide, ⟨by decide, trivial⟩, ⟨by decide, trivial⟩, trivial⟩
theorem w18_is : isM w11.nodes 0 w18v = true := by decide +kernel
theorem w18_deep : vdeep w18v = 1 := by decide +kernel
theorem w18_vw : vw w18v = 3 := by decide +kernel
theorem w18_con : conM w11 0 w18v (rightM w11) = true := by
  unfold conM
  rw [w11_right, w18_is]
  rfl
theorem vput_lo (n : Int) (h : zigN n < 128) : vput n = [(zigN n).toUInt8] := by rw [vput, vint_lt h]
theorem w18_p0 : vput 0 = [0] := vput_lo 0 (by decide)
theorem w18_p1 : vput 1 = [2] := vput_lo 1 (by decide)
theorem w18_p2 : vput 2 = [4] := vput_lo 2 (by decide)
theorem w18_p3 : vput 3 = [6] := vput_lo 3 (by decide)
theorem w18_p27 : vput 27 = [54] := vput_lo 27 (by decide)
theorem w18_m1 : vput (-1) = [1] := vput_lo (-1) (by decide)
def k18 (l : List UInt8) : Enc := fun c => (l, c)
theorem w18_items (cuts : List Int) : encsM w11.nodes cuts (fun _ => w11a.items) [w18x, w18y] = [k18 [6], k18 [54]] := by
  have e : ∀ n : Int, encM w11.nodes cuts 1 (.mk 3 n 0 [] [] []) = k18 (vput n) := fun n => by
    funext c
    rw [encM]
    rfl
  rw [encsM, encsM, encsM]
  rw [show encM w11.nodes cuts w11a.items w18x = k18 (vput 3) from e 3, show encM w11.nodes cuts w11a.items w18y = k18 (vput 27) from e 27, w18_p3, w18_p27]
theorem w18_at (cuts : List Int) (c : Nat) : encM w11.nodes cuts 0 w18v c = blkF cuts 2 [k18 [6], k18 [54]] c := by
  rw [← w18_items, w18v, encM]
  rfl
theorem w18_enc : encM w11.nodes [] 0 w18v 0 = ([4, 6, 54, 0], 0) := by
  rw [w18_at]
  have : blkF [] 2 [k18 [6], k18 [54]] 0 = (vput 2 ++ ([6, 54] ++ vput 0), 0) := rfl
  rw [this, w18_p0, w18_p2]
  rfl
theorem w18_cut : (encM w11.nodes [0, -4] 0 w18v 0).1 = [2, 6, 1, 2, 54, 0] := by
  rw [w18_at]
  have : blkF [0, -4] 2 [k18 [6], k18 [54]] 0 = (vput 1 ++ ([6] ++ ((vput (-1) ++ vput 1) ++ ([54] ++ vput 0))), 2) := rfl
  rw [this, w18_p0, w18_p1, w18_m1]
  rfl
theorem w18_out : outM w11 0 w18v [] = ([4, 6, 54, 0], 0) := by
  unfold outM
  rw [w18_con, if_pos rfl, w18_deep, if_neg (by decide), w18_enc]
  rfl
set_option maxRecDepth 100000 in
set_option maxHeartbeats 1600000 in
theorem works18_told : Told Tryz.prog 32 [] (.c (.v (.bool true))) := by
  have hA := eput_told w11 w11_sm w18v w18v_sm w18_lng (by rw [w18_vw]; decide) (by rw [w18_deep]; decide) 0
  rw [w18_out] at hA
  have hB := ecutrow_told w11 w11_sm w18v w18v_sm w18_lng (by rw [w18_vw]; decide) (by rw [w18_deep]; decide) 0 [0, -4] (by decide) (by decide) w18_con (by rw [w18_cut]; decide)
  rw [w18_cut] at hB
  simp only [ST.av_eq, scells_mk, List.map_cons, List.map_nil] at hA hB
  refine VC.told ent_32 Tryz.func32 rfl Tryz.ntmps32 (by simp) (by first | rfl | simp [AV.pureB, AV.pureL, pureL_c, pures]) (by first | rfl | simp [AV.pureB, AV.pureL, pureL_c, pures]) fun hb => ?_
  clear hb
  (refine VC.seq ?_; (first | refine VC.region (by rfl) (by rfl) ?_ | refine VC.draw mixP (by rfl) (by rfl) ?_); (repeat (refine AO.step fun K hK => ?_; simp only [go_sem, Int.reduceBEq, Int.reduceLE, Int.reduceLT, Int.reduceNeg, Nat.reduceAdd, Nat.reduceEqDiff, Nat.reduceLT, Nat.reduceLeDiff, Nat.reduceMul, Nat.reduceSub, reduceCtorEq, ↓reduceIte]; (first | refine gsel_skip ?_ | refine gsel_go ?_ | skip); (first | refine hK _ _ _ ?_ | refine ⟨by first | omega | exact ⟨_, rfl, rfl⟩ | exact fun _ => ⟨_, rfl, rfl⟩ | (intro h; simp only [h, true_and]; omega) | (clear hK; intro h; simp_all <;> omega), hK _ _ _ ?_⟩); clear hK K)); refine AO.nil ?_; first | refine SQ.normal ?_ | refine ⟨okd_of (by kernel_rfl), SQ.normal ?_⟩)
  (refine VC.seq ?_; (first | refine VC.region (by rfl) (by rfl) ?_ | refine VC.draw mixP (by rfl) (by rfl) ?_); (repeat (refine AO.step fun K hK => ?_; simp only [go_sem, Int.reduceBEq, Int.reduceLE, Int.reduceLT, Int.reduceNeg, Nat.reduceAdd, Nat.reduceEqDiff, Nat.reduceLT, Nat.reduceLeDiff, Nat.reduceMul, Nat.reduceSub, reduceCtorEq, ↓reduceIte]; (first | refine gsel_skip ?_ | refine gsel_go ?_ | skip); (first | refine hK _ _ _ ?_ | refine ⟨by first | omega | exact ⟨_, rfl, rfl⟩ | exact fun _ => ⟨_, rfl, rfl⟩ | (intro h; simp only [h, true_and]; omega) | (clear hK; intro h; simp_all <;> omega), hK _ _ _ ?_⟩); clear hK K)); refine AO.nil ?_; first | refine SQ.normal ?_ | refine ⟨okd_of (by kernel_rfl), SQ.normal ?_⟩)
  refine VC.frz [] [(1, .ref 40 1 0 0)] [(24, ⟨true, 33, 10, [w11a.cells.map .c, [.c (.v (.int .i64 3)), .c (.v (.string ⟨#[]⟩)), .c (.v (.slice none 0 0)), .c (.v (.slice none 0 0)), .c (.v (.slice none 0 0)), .c (.v (.bool false)), .c (.v (.string ⟨#[]⟩)), .c (.v (.int .i64 0)), .c (.v (.int .i64 0)), .c (.v (.slice none 0 0))]]⟩), (40, ⟨false, 24, 2, [[.row 24 2, .c (.v (.int .i64 0))]]⟩)] 400 ?_ ?_
  · simp only [rA_sc, rA_len, WeakF, used_is, sc_any, sc_c, sc_pp, sc_ref, sc_row, sc_agg, sc_fn, ScL, some_imp, List.forall_mem_map, go_sem, Int.reduceBEq, Int.reduceLE, Int.reduceLT, Int.reduceNeg, Nat.reduceAdd, Nat.reduceEqDiff, Nat.reduceLT, Nat.reduceLeDiff, Nat.reduceMul, Nat.reduceSub, reduceCtorEq, ↓reduceIte]
    exact ⟨.same _, .set (i := 0) (e' := w11a.cells.map .c) rfl (.cons (.same _) (.cons (.same _) (.cons (.nil 1) (.cons (.nil 9) (.cons (.nil 1) (.cons (.same _) (.cons (.same _) (.cons (.same _) (.cons (.same _) (.cons (.nil 1) .nil)))))))))) (cellish_map _), .same _⟩
  refine VC.frz [] [(1, .ref 40 1 0 0)] [(24, ⟨true, 33, 10, [w11a.cells.map .c, w11b.cells.map .c]⟩), (40, ⟨false, 24, 2, [[.row 24 2, .c (.v (.int .i64 0))]]⟩)] 400 ?_ ?_
  · simp only [rA_sc, rA_len, WeakF, used_is, sc_any, sc_c, sc_pp, sc_ref, sc_row, sc_agg, sc_fn, ScL, some_imp, List.forall_mem_map, go_sem, Int.reduceBEq, Int.reduceLE, Int.reduceLT, Int.reduceNeg, Nat.reduceAdd, Nat.reduceEqDiff, Nat.reduceLT, Nat.reduceLeDiff, Nat.reduceMul, Nat.reduceSub, reduceCtorEq, ↓reduceIte]
    exact ⟨.same _, .set (i := 1) (e' := w11b.cells.map .c) rfl (.cons (.same _) (.cons (.same _) (.cons (.nil 1) (.cons (.nil 9) (.cons (.nil 1) (.cons (.same _) (.cons (.same _) (.cons (.same _) (.cons (.same _) (.cons (.nil 1) .nil)))))))))) (cellish_map _), .same _⟩
  refine VC.frz [24] [(1, .ref 40 1 0 0)] [(40, ⟨false, 24, 2, [[.c (.sl 10 (w11.nodes.map NT.cells)), .c (.v (.int .i64 w11.root))]]⟩)] 400 ?_ ?_
  · simp only [rA_sc, rA_len, WeakF, used_is, sc_any, sc_c, sc_pp, sc_ref, sc_row, sc_agg, sc_fn, ScL, some_imp, List.forall_mem_map, go_sem, Int.reduceBEq, Int.reduceLE, Int.reduceLT, Int.reduceNeg, Nat.reduceAdd, Nat.reduceEqDiff, Nat.reduceLT, Nat.reduceLeDiff, Nat.reduceMul, Nat.reduceSub, reduceCtorEq, ↓reduceIte]
    exact ⟨.same _, .one (.cons (.row (B := ⟨true, 33, 10, [w11a.cells.map .c, w11b.cells.map .c]⟩) (es := w11.nodes.map NT.cells) (by simp) rfl rfl rfl rfl) (.cons (.same _) .nil)) (by simp [AV.cellish])⟩
  (refine VC.seq ?_; (first | refine VC.region (by rfl) (by rfl) ?_ | refine VC.draw mixP (by rfl) (by rfl) ?_); (repeat (refine AO.step fun K hK => ?_; simp only [go_sem, Int.reduceBEq, Int.reduceLE, Int.reduceLT, Int.reduceNeg, Nat.reduceAdd, Nat.reduceEqDiff, Nat.reduceLT, Nat.reduceLeDiff, Nat.reduceMul, Nat.reduceSub, reduceCtorEq, ↓reduceIte]; (first | refine gsel_skip ?_ | refine gsel_go ?_ | skip); (first | refine hK _ _ _ ?_ | refine ⟨by first | omega | exact ⟨_, rfl, rfl⟩ | exact fun _ => ⟨_, rfl, rfl⟩ | (intro h; simp only [h, true_and]; omega) | (clear hK; intro h; simp_all <;> omega), hK _ _ _ ?_⟩); clear hK K)); refine AO.nil ?_; first | refine SQ.normal ?_ | refine ⟨okd_of (by kernel_rfl), SQ.normal ?_⟩)
  refine VC.frz [] [(1, .ref 40 1 0 0), (2, .ref 432 1 0 0)] [(40, ⟨false, 24, 2, [w11.cells.map .c]⟩), (416, ⟨true, 43, 6, [w18x.cells.map .c, [.c (.v (.int .i64 3)), .c (.v (.int .i64 27)), .c (.v (.int .u64 0)), .c (.v (.slice none 0 0)), .c (.v (.slice none 0 0)), .c (.v (.slice none 0 0))]]⟩), (432, ⟨false, 43, 6, [[.c (.v (.int .i64 11)), .c (.v (.int .i64 0)), .c (.v (.int .u64 0)), .c (.v (.slice none 0 0)), .row 416 2, .c (.v (.slice none 0 0))]]⟩)] 800 ?_ ?_
  · simp only [rA_sc, rA_len, WeakF, used_is, sc_any, sc_c, sc_pp, sc_ref, sc_row, sc_agg, sc_fn, ScL, some_imp, List.forall_mem_map, go_sem, Int.reduceBEq, Int.reduceLE, Int.reduceLT, Int.reduceNeg, Nat.reduceAdd, Nat.reduceEqDiff, Nat.reduceLT, Nat.reduceLeDiff, Nat.reduceMul, Nat.reduceSub, reduceCtorEq, ↓reduceIte]
    exact ⟨⟨.same _, .same _⟩, .same _, .set (i := 0) (e' := w18x.cells.map .c) rfl (.cons (.same _) (.cons (.same _) (.cons (.same _) (.cons (.nil 1) (.cons (.nil 6) (.cons (.nil 1) .nil)))))) (cellish_map _), .same _⟩
  refine VC.frz [] [(1, .ref 40 1 0 0), (2, .ref 432 1 0 0)] [(40, ⟨false, 24, 2, [w11.cells.map .c]⟩), (416, ⟨true, 43, 6, [w18x.cells.map .c, w18y.cells.map .c]⟩), (432, ⟨false, 43, 6, [[.c (.v (.int .i64 11)), .c (.v (.int .i64 0)), .c (.v (.int .u64 0)), .c (.v (.slice none 0 0)), .row 416 2, .c (.v (.slice none 0 0))]]⟩)] 800 ?_ ?_
  · simp only [rA_sc, rA_len, WeakF, used_is, sc_any, sc_c, sc_pp, sc_ref, sc_row, sc_agg, sc_fn, ScL, some_imp, List.forall_mem_map, go_sem, Int.reduceBEq, Int.reduceLE, Int.reduceLT, Int.reduceNeg, Nat.reduceAdd, Nat.reduceEqDiff, Nat.reduceLT, Nat.reduceLeDiff, Nat.reduceMul, Nat.reduceSub, reduceCtorEq, ↓reduceIte]
    exact ⟨⟨.same _, .same _⟩, .same _, .set (i := 1) (e' := w18y.cells.map .c) rfl (.cons (.same _) (.cons (.same _) (.cons (.same _) (.cons (.nil 1) (.cons (.nil 6) (.cons (.nil 1) .nil)))))) (cellish_map _), .same _⟩
  refine VC.frz [416] [(1, .ref 40 1 0 0), (2, .ref 432 1 0 0)] [(40, ⟨false, 24, 2, [w11.cells.map .c]⟩), (432, ⟨false, 43, 6, [w18v.cells.map .c]⟩)] 800 ?_ ?_
  · simp only [rA_sc, rA_len, WeakF, used_is, sc_any, sc_c, sc_pp, sc_ref, sc_row, sc_agg, sc_fn, ScL, some_imp, List.forall_mem_map, go_sem, Int.reduceBEq, Int.reduceLE, Int.reduceLT, Int.reduceNeg, Nat.reduceAdd, Nat.reduceEqDiff, Nat.reduceLT, Nat.reduceLeDiff, Nat.reduceMul, Nat.reduceSub, reduceCtorEq, ↓reduceIte]
    exact ⟨⟨.same _, .same _⟩, .same _, .one (.cons (.same _) (.cons (.same _) (.cons (.same _) (.cons (.nil 1) (.cons (.row (B := ⟨true, 43, 6, [w18x.cells.map .c, w18y.cells.map .c]⟩) (es := [w18x.cells, w18y.cells]) (by simp) rfl rfl rfl rfl) (.cons (.nil 1) .nil)))))) (by simp [AV.cellish])⟩
  simp only [VT.av_eq] at hA hB
  have lv := len_vcells w18v
  have tv := take_vcellsC w18v
  have tvn := take_vcells w18v
  generalize w18v.cells = cv at hA hB lv tv tvn ⊢
  refine walkGF (And.intro @scells_mk (And.intro lv (And.intro tv tvn))) ?_
  refine walkCF (@pureL_c) (hA) ?_
  refine walkGF (And.intro @scells_mk (And.intro lv (And.intro tv tvn))) ?_
  ((refine AO.step fun K hK => ?_; simp only [go_sem, Int.reduceBEq, Int.reduceLE, Int.reduceLT, Int.reduceNeg, Nat.reduceAdd, Nat.reduceEqDiff, Nat.reduceLT, Nat.reduceLeDiff, Nat.reduceMul, Nat.reduceSub, reduceCtorEq, ↓reduceIte, pureL_c]; (first | refine gsel_go ?_ | skip)); refine .inr (.inr (.inl ⟨?vy1, [880], ?va1, ?vl1, ?vm1, ?cond1, ?cont1⟩)); (case cond1 => ((repeat' apply And.intro) <;> (try ((with_reducible show ToldM _ _ _ _ _ _); exact hB))); (all_goals first | trivial | (simp only [pureL_c, go_sem, Int.reduceBEq, Int.reduceLE, Int.reduceLT, Int.reduceNeg, Nat.reduceAdd, Nat.reduceEqDiff, Nat.reduceLT, Nat.reduceLeDiff, Nat.reduceMul, Nat.reduceSub, reduceCtorEq, ↓reduceIte]; done) | (simp; done) | rfl)); (first | refine hK _ _ _ ?_ | (simp only [pureL_c, go_sem, Int.reduceBEq, Int.reduceLE, Int.reduceLT, Int.reduceNeg, Nat.reduceAdd, Nat.reduceEqDiff, Nat.reduceLT, Nat.reduceLeDiff, Nat.reduceMul, Nat.reduceSub, reduceCtorEq, ↓reduceIte]; first | refine hK _ _ _ ?_ | refine ⟨rfl, hK _ _ _ ?_⟩)); clear hK K)
  have hq1 : ((⟨([4, 6, 54, 0] : List UInt8).toArray⟩ : ByteArray).toList == (⟨#[4, 6, 54, 0]⟩ : ByteArray).toList) = true := by
    show ((str [4, 6, 54, 0]).toList == (str [4, 6, 54, 0]).toList) = true
    simp
  have hq2 : ((⟨([2, 6, 1, 2, 54, 0] : List UInt8).toArray⟩ : ByteArray).toList == (⟨#[2, 6, 1, 2, 54, 0]⟩ : ByteArray).toList) = true := by
    show ((str [2, 6, 1, 2, 54, 0]).toList == (str [2, 6, 1, 2, 54, 0]).toList) = true
    simp
  (repeat (first | refine pass ?_ | refine VC.region (by rfl) (by rfl) ?_ | (refine AO.step fun K hK => ?_; simp only [bytesOf_pv, pvOk18, bstr, hq1, hq2, go_sem, Int.reduceBEq, Int.reduceLE, Int.reduceLT, Int.reduceNeg, Nat.reduceAdd, Nat.reduceEqDiff, Nat.reduceLT, Nat.reduceLeDiff, Nat.reduceMul, Nat.reduceSub, reduceCtorEq, ↓reduceIte]; (first | refine gsel_skip ?_ | refine gsel_go ?_ | skip); (first | refine hK _ _ _ ?_ | refine ⟨by first | omega | exact ⟨_, rfl, rfl⟩ | exact fun _ => ⟨_, rfl, rfl⟩ | (intro h; simp only [bytesOf_pv, pvOk18, bstr, hq1, hq2, h, true_and]; omega) | (clear hK; intro h; simp_all <;> omega), hK _ _ _ ?_⟩); clear hK K) | refine VC.draw mixP (by rfl) (by rfl) ?_ | refine ⟨okd_of (by kernel_rfl), ?_⟩ | refine BQ.other (by decide) ?_ | refine VC.seq ?_ | refine AO.nil ?_ | refine VC.block ?_))
  refine ⟨by first | exact .inr rfl | exact .inl rfl, ?_⟩; rw [Tryz.results32]; simp only [resOk, resV, go_sem, Int.reduceBEq, Int.reduceLE, Int.reduceLT, Int.reduceNeg, Nat.reduceAdd, Nat.reduceEqDiff, Nat.reduceLT, Nat.reduceLeDiff, Nat.reduceMul, Nat.reduceSub, reduceCtorEq, ↓reduceIte]
  exact .c _

theorem textsL_step {l : List (List UInt8)} {i n : Nat} {y : List UInt8} (hy : l[i]? = some y) (hn : n ≤ 2500) : textsL n (l.drop i) = if 2500 < y.length then 2501 else textsL (n + y.length) (l.drop (i + 1)) := by
  obtain ⟨hlt, rfl⟩ := List.getElem?_eq_some_iff.1 hy
  rw [List.drop_eq_getElem_cons hlt, textsL, if_pos hn]
theorem textsL_end {l : List (List UInt8)} {i n : Nat} (h : ¬ (i < l.length ∧ n ≤ 2500)) : textsL n (l.drop i) = n := by
  by_cases hlt : i < l.length
  · rw [List.drop_eq_getElem_cons hlt, textsL, if_neg (by omega)]
  · rw [List.drop_of_length_le (by omega), textsL]
set_option maxRecDepth 100000 in
set_option maxHeartbeats 800000 in
theorem texts_told (l : List (List UInt8)) : Told Tryz.prog 78 [.c (.sl 1 (l.map sPV)), .c (.v (.int .i64 2500))] (.c (.v (.int .i64 (textsB l)))) := by
  obtain ⟨V, hV⟩ : ∃ V, V = textsB l := ⟨_, rfl⟩
  rw [← hV]
  unfold textsB at hV
  have hw21 : IntKind.i64.wrap (2500 + 1) = 2501 := by rfl
  refine VC.told ent_78 Tryz.func78 rfl Tryz.ntmps78 (by simp) (by first | rfl | simp [AV.pureB, AV.pureL, pureL_c, pures]) (by first | rfl | simp [AV.pureB, AV.pureL, pureL_c, pures]) fun hb => ?_
  clear hb
  refine walkG ?_
  refine VC.cond (by rfl) (by trivial) (fun hc => ?_) (fun hc => ?_)
  · have hcc : 2500 < l.length := by simp at hc; omega
    rw [if_pos hcc] at hV
    subst hV
    refine walkGF (hw21) ?_
    refine ⟨by first | exact .inr rfl | exact .inl rfl, ?_⟩; rw [Tryz.results78]; simp only [resOk, resV, go_sem, Int.reduceBEq, Int.reduceLE, Int.reduceLT, Int.reduceNeg, Nat.reduceAdd, Nat.reduceEqDiff, Nat.reduceLT, Nat.reduceLeDiff, Nat.reduceMul, Nat.reduceSub, reduceCtorEq, ↓reduceIte]
    exact .c _
  have hcc : ¬ 2500 < l.length := by simp at hc; omega
  rw [if_neg hcc] at hV
  clear hc
  refine walkG ?_
  refine VC.loop (ι := {x : Nat × Nat // x.1 ≤ l.length ∧ x.2 ≤ 5000 ∧ textsL x.2 (l.drop x.1) = V}) (fun q => [(0, .c (.sl 1 (l.map sPV))), (1, .c (.v (.int .i64 2500))), (5, .c (.v (.int .i64 (q.1.2 : Int)))), (6, .c (.v (.int .i64 (q.1.1 : Int))))]) (fun _ => []) 800 (fun q => l.length - q.1.1)
    ⟨(0, l.length), Nat.zero_le _, by simp only []; omega, by rw [List.drop_zero]; exact hV.symm⟩ ?_ ?_
  · simp only [Weak, eq_self, used_is, sc_any, sc_c, sc_pp, sc_ref, sc_row, sc_agg, sc_fn, ScL, some_imp, List.forall_mem_map, go_sem, Int.reduceBEq, Int.reduceLE, Int.reduceLT, Int.reduceNeg, Nat.reduceAdd, Nat.reduceEqDiff, Nat.reduceLT, Nat.reduceLeDiff, Nat.reduceMul, Nat.reduceSub, reduceCtorEq, ↓reduceIte]
  clear hV
  rintro ⟨⟨i, n⟩, hi, hn, hV⟩
  simp only [] at hi hn hV ⊢
  refine walkG ?_
  refine VC.cond (by rfl) (by trivial) (fun hc => ?_) (fun hc => ?_)
  · have hcc : i < l.length ∧ n ≤ 2500 := by simp at hc; omega
    clear hc
    obtain ⟨y, hy⟩ : ∃ y, l[i]? = some y := ⟨l[i], List.getElem?_eq_getElem hcc.1⟩
    have hyp : (l.map sPV)[i]? = some (sPV y) := by rw [List.getElem?_map, hy]; rfl
    rw [textsL_step hy hcc.2] at hV
    have hw : IntKind.i64.wrap ((i : Int) + 1) = (i : Int) + 1 := wrap64_id (by omega) (by omega)
    refine walkGF (And.intro hyp (And.intro @sPV_eq @str_size)) ?_
    refine VC.cond (by rfl) (by trivial) (fun hc2 => ?_) (fun hc2 => ?_)
    · rw [if_pos (by simp at hc2; omega)] at hV
      subst hV
      refine walkGF (hw21) ?_
      refine ⟨by first | exact .inr rfl | exact .inl rfl, ?_⟩; rw [Tryz.results78]; simp only [resOk, resV, go_sem, Int.reduceBEq, Int.reduceLE, Int.reduceLT, Int.reduceNeg, Nat.reduceAdd, Nat.reduceEqDiff, Nat.reduceLT, Nat.reduceLeDiff, Nat.reduceMul, Nat.reduceSub, reduceCtorEq, ↓reduceIte]
      exact .c _
    · have hyl : y.length ≤ 2500 := by simp at hc2; omega
      rw [if_neg (by omega)] at hV
      have hw2 : IntKind.i64.wrap ((n : Int) + (y.length : Int)) = ((n + y.length : Nat) : Int) := by rw [wrap64_id (by omega) (by omega)]; rfl
      refine walkGF (And.intro hyp (And.intro @sPV_eq (And.intro @str_size (And.intro hw hw2)))) ?_
      refine .next ⟨(i + 1, n + y.length), by simp only []; omega, by simp only []; omega, hV⟩ ?_ (by simp only []; omega)
      simp only [Weak, eq_self, used_is, sc_any, sc_c, sc_pp, sc_ref, sc_row, sc_agg, sc_fn, ScL, some_imp, List.forall_mem_map, go_sem, Int.reduceBEq, Int.reduceLE, Int.reduceLT, Int.reduceNeg, Nat.reduceAdd, Nat.reduceEqDiff, Nat.reduceLT, Nat.reduceLeDiff, Nat.reduceMul, Nat.reduceSub, reduceCtorEq, ↓reduceIte]
      try exact cI (by omega)
  · have hcc : ¬ (i < l.length ∧ n ≤ 2500) := by simp at hc; omega
    rw [textsL_end hcc] at hV
    subst hV
    refine walkG ?_
    refine ⟨by first | exact .inr rfl | exact .inl rfl, ?_⟩; rw [Tryz.results78]; simp only [resOk, resV, go_sem, Int.reduceBEq, Int.reduceLE, Int.reduceLT, Int.reduceNeg, Nat.reduceAdd, Nat.reduceEqDiff, Nat.reduceLT, Nat.reduceLeDiff, Nat.reduceMul, Nat.reduceSub, reduceCtorEq, ↓reduceIte]
    exact .c _
theorem fieldsB_step {l : List FT} {i n : Nat} {f : FT} (hf : l[i]? = some f) (hn : n ≤ 2500) : fieldsB n (l.drop i) = if 2500 < f.name.length then none else fieldsB (n + f.name.length + textsB f.aliases + tbulk5 0 f.dflt) (l.drop (i + 1)) := by
  obtain ⟨hlt, rfl⟩ := List.getElem?_eq_some_iff.1 hf
  rw [List.drop_eq_getElem_cons hlt, fieldsB, if_pos hn]
theorem fieldsB_end {l : List FT} {i n : Nat} (h : ¬ (i < l.length ∧ n ≤ 2500)) : fieldsB n (l.drop i) = some n := by
  by_cases hlt : i < l.length
  · rw [List.drop_eq_getElem_cons hlt, fieldsB, if_neg (by omega)]
  · rw [List.drop_of_length_le (by omega), fieldsB]
theorem nodesB_end {l : List NT} {i n : Nat} (h : ¬ (i < l.length ∧ n ≤ 2500)) : nodesB n (l.drop i) = n := by
  by_cases hlt : i < l.length
  · rw [List.drop_eq_getElem_cons hlt, nodesB, if_neg (by omega)]
  · rw [List.drop_of_length_le (by omega), nodesB]
theorem nodesB_step {l : List NT} {i n : Nat} {x : NT} (hx : l[i]? = some x) (hn : n ≤ 2500) : nodesB n (l.drop i) = if 2500 < x.name.length ∨ 2500 < x.fields.length ∨ 2500 < x.branches.length ∨ 2500 < x.dflt.length then 2501 else
      match fieldsB (n + x.name.length + x.fields.length + x.branches.length + x.dflt.length + textsB x.aliases + textsB x.symbols) x.fields with | none => 2501 | some m => nodesB m (l.drop (i + 1)) := by
  obtain ⟨hlt, rfl⟩ := List.getElem?_eq_some_iff.1 hx
  rw [List.drop_eq_getElem_cons hlt, nodesB, if_pos hn]
  generalize fieldsB _ _ = F
  cases F <;> rfl
set_option maxRecDepth 100000 in
set_option maxHeartbeats 1600000 in
theorem sbulk_told (s : ST) : Told Tryz.prog 42 [s.av, .c (.v (.int .i64 2500))] (.c (.v (.int .i64 (sbulk s)))) := by
  obtain ⟨V, hV⟩ : ∃ V, V = sbulk s := ⟨_, rfl⟩
  rw [← hV]
  unfold sbulk at hV
  have hw21 : IntKind.i64.wrap (2500 + 1) = 2501 := by rfl
  rw [ST.av_eq, scells_mk]
  refine VC.told ent_42 Tryz.func42 rfl Tryz.ntmps42 (by simp) (by first | rfl | simp [AV.pureB, AV.pureL, pureL_c, pures]) (by first | rfl | simp [AV.pureB, AV.pureL, pureL_c, pures]) fun hb => ?_
  clear hb
  refine walkG ?_
  refine VC.cond (by rfl) (by trivial) (fun hc => ?_) (fun hc => ?_)
  · have hcc : 2500 < s.nodes.length := by simp at hc; omega
    rw [if_pos hcc] at hV
    subst hV
    refine walkGF (hw21) ?_
    refine ⟨by first | exact .inr rfl | exact .inl rfl, ?_⟩; rw [Tryz.results42]; simp only [resOk, resV, go_sem, Int.reduceBEq, Int.reduceLE, Int.reduceLT, Int.reduceNeg, Nat.reduceAdd, Nat.reduceEqDiff, Nat.reduceLT, Nat.reduceLeDiff, Nat.reduceMul, Nat.reduceSub, reduceCtorEq, ↓reduceIte]
    exact .c _
  have hcc : ¬ 2500 < s.nodes.length := by simp at hc; omega
  rw [if_neg hcc] at hV
  clear hc
  refine walkG ?_
  refine VC.loop (ι := {x : Nat × Nat // x.1 ≤ s.nodes.length ∧ x.2 ≤ 300000 ∧ nodesB x.2 (s.nodes.drop x.1) = V}) (fun q => [(1, .c (.v (.int .i64 2500))), (2, .ref 0 1 0 0), (5, .c (.v (.int .i64 (q.1.2 : Int)))), (6, .c (.v (.int .i64 (q.1.1 : Int))))])
    (fun q => [(0, ⟨false, 24, 2, [[.c (.sl 10 (s.nodes.map NT.cells)), .c (.v (.int .i64 s.root))]]⟩)]) 800 (fun q => s.nodes.length - q.1.1)
    ⟨(0, s.nodes.length), Nat.zero_le _, by simp only []; omega, by rw [List.drop_zero]; exact hV.symm⟩ ?_ ?_
  · simp only [Weak, eq_self, used_is, sc_any, sc_c, sc_pp, sc_ref, sc_row, sc_agg, sc_fn, ScL, some_imp, List.forall_mem_map, go_sem, Int.reduceBEq, Int.reduceLE, Int.reduceLT, Int.reduceNeg, Nat.reduceAdd, Nat.reduceEqDiff, Nat.reduceLT, Nat.reduceLeDiff, Nat.reduceMul, Nat.reduceSub, reduceCtorEq, ↓reduceIte]
  clear hV
  rintro ⟨⟨i, b⟩, hi, hb, hV⟩
  simp only [] at hi hb hV ⊢
  refine walkG ?_
  refine VC.cond (by rfl) (by trivial) (fun hc => ?_) (fun hc => ?_)
  · have hcc2 : i < s.nodes.length ∧ b ≤ 2500 := by simp at hc; omega
    clear hc
    obtain ⟨x, hx⟩ : ∃ x, s.nodes[i]? = some x := ⟨s.nodes[i], List.getElem?_eq_getElem hcc2.1⟩
    have hxp : (s.nodes.map NT.cells)[i]? = some x.cells := by rw [List.getElem?_map, hx]; rfl
    rw [nodesB_step hx hcc2.2] at hV
    have hw : IntKind.i64.wrap ((i : Int) + 1) = (i : Int) + 1 := wrap64_id (by omega) (by omega)
    refine walkGF (And.intro hxp (And.intro @ncells_mk @str_size)) ?_
    refine VC.cond (by rfl) (by trivial) (fun hc2 => ?_) (fun hc2 => ?_)
    · rw [if_pos (by simp at hc2; omega)] at hV
      subst hV
      refine walkGF (hw21) ?_
      refine ⟨by first | exact .inr rfl | exact .inl rfl, ?_⟩; rw [Tryz.results42]; simp only [resOk, resV, go_sem, Int.reduceBEq, Int.reduceLE, Int.reduceLT, Int.reduceNeg, Nat.reduceAdd, Nat.reduceEqDiff, Nat.reduceLT, Nat.reduceLeDiff, Nat.reduceMul, Nat.reduceSub, reduceCtorEq, ↓reduceIte]
      exact .c _
    have hsm : ¬ (2500 < x.name.length ∨ 2500 < x.fields.length ∨ 2500 < x.branches.length ∨ 2500 < x.dflt.length) := by simp at hc2; omega
    rw [if_neg hsm] at hV
    clear hc2
    have hT1 := texts_told x.aliases
    have hT2 := texts_told x.symbols
    have ht1 := textsB_le x.aliases
    have ht2 := textsB_le x.symbols
    generalize textsB x.aliases = t1 at hT1 ht1 hV
    generalize textsB x.symbols = t2 at hT2 ht2 hV
    have w1 : IntKind.i64.wrap ((b : Int) + (x.name.length : Int)) = (b : Int) + (x.name.length : Int) := wrap64_id (by omega) (by omega)
    have w2 : IntKind.i64.wrap ((b : Int) + (x.name.length : Int) + (x.fields.length : Int)) = (b : Int) + (x.name.length : Int) + (x.fields.length : Int) := wrap64_id (by omega) (by omega)
    have w3 : IntKind.i64.wrap ((b : Int) + (x.name.length : Int) + (x.fields.length : Int) + (x.branches.length : Int)) = (b : Int) + (x.name.length : Int) + (x.fields.length : Int) + (x.branches.length : Int) := wrap64_id (by omega) (by omega)
    have w4 : IntKind.i64.wrap ((b : Int) + (x.name.length : Int) + (x.fields.length : Int) + (x.branches.length : Int) + (x.dflt.length : Int)) = (b : Int) + (x.name.length : Int) + (x.fields.length : Int) + (x.branches.length : Int) + (x.dflt.length : Int) := wrap64_id (by omega) (by omega)
    have w5 : IntKind.i64.wrap ((b : Int) + (x.name.length : Int) + (x.fields.length : Int) + (x.branches.length : Int) + (x.dflt.length : Int) + (t1 : Int)) = (b : Int) + (x.name.length : Int) + (x.fields.length : Int) + (x.branches.length : Int) + (x.dflt.length : Int) + (t1 : Int) := wrap64_id (by omega) (by omega)
    have w6 : IntKind.i64.wrap ((b : Int) + (x.name.length : Int) + (x.fields.length : Int) + (x.branches.length : Int) + (x.dflt.length : Int) + (t1 : Int) + (t2 : Int)) = ((b + x.name.length + x.fields.length + x.branches.length + x.dflt.length + t1 + t2 : Nat) : Int) := by rw [wrap64_id (by omega) (by omega)]; rfl
    obtain ⟨b0, hb0⟩ : ∃ b0, b0 = b + x.name.length + x.fields.length + x.branches.length + x.dflt.length + t1 + t2 := ⟨_, rfl⟩
    have hb0l : b0 ≤ 30000 := by omega
    rw [← hb0] at hV w6
    clear hb0
    refine walkGF (And.intro @str_size (And.intro w1 (And.intro w2 (And.intro w3 (And.intro w4 (And.intro w5 w6)))))) ?_
    refine walkC (hT1) ?_
    refine walkGF (w5) ?_
    refine walkC (hT2) ?_
    refine walkGF (w6) ?_
    clear hT1 hT2 w1 w2 w3 w4 w5 w6 ht1 ht2
    obtain ⟨F, hF⟩ : ∃ F, F = fieldsB b0 x.fields := ⟨_, rfl⟩
    rw [← hF] at hV
    have hFl : ∀ m, F = some m → m ≤ 300000 := fun m hm => fieldsB_le x.fields b0 m (by omega) (hF ▸ hm)
    refine VC.loop (ι := {y : Nat × Nat // y.1 ≤ x.fields.length ∧ y.2 ≤ 300000 ∧ fieldsB y.2 (x.fields.drop y.1) = F})
      (fun q => [(1, .c (.v (.int .i64 2500))), (2, .ref 0 1 0 0), (5, .c (.v (.int .i64 (q.1.2 : Int)))), (6, .c (.v (.int .i64 (i : Int)))), (7, .ref 920 1 0 0), (8, .c (.v (.int .i64 (q.1.1 : Int))))])
      (fun q => [(0, ⟨false, 24, 2, [[.c (.sl 10 (s.nodes.map NT.cells)), .c (.v (.int .i64 s.root))]]⟩), (920, ⟨false, 33, 10, [x.cells.map .c]⟩)]) 4000 (fun q => x.fields.length - q.1.1)
      ⟨(0, b0), Nat.zero_le _, by simp only []; omega, by rw [List.drop_zero]; exact hF.symm⟩ ?_ ?_
    · simp only [ncells_mk, Weak, eq_self, used_is, sc_any, sc_c, sc_pp, sc_ref, sc_row, sc_agg, sc_fn, ScL, some_imp, List.forall_mem_map, go_sem, Int.reduceBEq, Int.reduceLE, Int.reduceLT, Int.reduceNeg, Nat.reduceAdd, Nat.reduceEqDiff, Nat.reduceLT, Nat.reduceLeDiff, Nat.reduceMul, Nat.reduceSub, reduceCtorEq, ↓reduceIte]
    clear hF
    rintro ⟨⟨k, c⟩, hk, hc, hF⟩
    simp only [] at hk hc hF ⊢
    refine walkGF (@ncells_mk) ?_
    refine VC.cond (by rfl) (by trivial) (fun hc2 => ?_) (fun hc2 => ?_)
    · have hcc3 : k < x.fields.length ∧ c ≤ 2500 := by simp at hc2; omega
      clear hc2
      obtain ⟨f, hf⟩ : ∃ f, x.fields[k]? = some f := ⟨x.fields[k], List.getElem?_eq_getElem hcc3.1⟩
      have hfp : (x.fields.map FT.cells)[k]? = some f.cells := by rw [List.getElem?_map, hf]; rfl
      rw [fieldsB_step hf hcc3.2] at hF
      have hwk : IntKind.i64.wrap ((k : Int) + 1) = (k : Int) + 1 := wrap64_id (by omega) (by omega)
      refine walkGF (And.intro @ncells_mk (And.intro hfp (And.intro @fcells_mk @str_size))) ?_
      refine VC.cond (by rfl) (by trivial) (fun hc2 => ?_) (fun hc2 => ?_)
      · rw [if_pos (by simp at hc2; omega)] at hF
        subst hF
        simp only [] at hV
        subst hV
        refine walkGF (hw21) ?_
        refine ⟨by first | exact .inr rfl | exact .inl rfl, ?_⟩; rw [Tryz.results42]; simp only [resOk, resV, go_sem, Int.reduceBEq, Int.reduceLE, Int.reduceLT, Int.reduceNeg, Nat.reduceAdd, Nat.reduceEqDiff, Nat.reduceLT, Nat.reduceLeDiff, Nat.reduceMul, Nat.reduceSub, reduceCtorEq, ↓reduceIte]
        exact .c _
      have hnl : f.name.length ≤ 2500 := by simp at hc2; omega
      rw [if_neg (by omega)] at hF
      clear hc2
      have hT := texts_told f.aliases
      have ht := textsB_le f.aliases
      have hB := bulk_told5 _ f.dflt (Nat.le_refl _) 0 0 (by omega) rfl
      have hbt := tbulk5_top f.dflt
      generalize textsB f.aliases = t at hT ht hF
      generalize tbulk5 0 f.dflt = u at hB hbt hF
      simp only [JT.av_eq] at hB
      have w1 : IntKind.i64.wrap ((c : Int) + (f.name.length : Int)) = (c : Int) + (f.name.length : Int) := wrap64_id (by omega) (by omega)
      have w2 : IntKind.i64.wrap ((c : Int) + (f.name.length : Int) + (t : Int)) = (c : Int) + (f.name.length : Int) + (t : Int) := wrap64_id (by omega) (by omega)
      have w3 : IntKind.i64.wrap ((c : Int) + (f.name.length : Int) + (t : Int) + (u : Int)) = ((c + f.name.length + t + u : Nat) : Int) := by rw [wrap64_id (by omega) (by omega)]; rfl
      refine walkGF (And.intro @ncells_mk (And.intro hfp (And.intro @fcells_mk (And.intro @str_size w1)))) ?_
      refine walkC (hT) ?_
      refine walkGF (And.intro @ncells_mk (And.intro hfp (And.intro @fcells_mk (And.intro w2 (And.intro @len_cells (And.intro @take_cells @take_cellsC)))))) ?_
      refine walkCF (@pureL_c) (hB) ?_
      refine walkGF (And.intro w3 hwk) ?_
      refine .next ⟨(k + 1, c + f.name.length + t + u), by simp only []; omega, by simp only []; omega, hF⟩ ?_ (by simp only []; omega)
      simp only [ncells_mk, Weak, eq_self, used_is, sc_any, sc_c, sc_pp, sc_ref, sc_row, sc_agg, sc_fn, ScL, some_imp, List.forall_mem_map, go_sem, Int.reduceBEq, Int.reduceLE, Int.reduceLT, Int.reduceNeg, Nat.reduceAdd, Nat.reduceEqDiff, Nat.reduceLT, Nat.reduceLeDiff, Nat.reduceMul, Nat.reduceSub, reduceCtorEq, ↓reduceIte]
      try exact cI (by omega)
    · have hcc3 : ¬ (k < x.fields.length ∧ c ≤ 2500) := by simp at hc2; omega
      rw [fieldsB_end hcc3] at hF
      subst hF
      simp only [] at hV
      refine walkGF (hw) ?_
      refine .next ⟨(i + 1, c), by simp only []; omega, hc, hV⟩ ?_ (by simp only []; omega)
      simp only [Weak, eq_self, used_is, sc_any, sc_c, sc_pp, sc_ref, sc_row, sc_agg, sc_fn, ScL, some_imp, List.forall_mem_map, go_sem, Int.reduceBEq, Int.reduceLE, Int.reduceLT, Int.reduceNeg, Nat.reduceAdd, Nat.reduceEqDiff, Nat.reduceLT, Nat.reduceLeDiff, Nat.reduceMul, Nat.reduceSub, reduceCtorEq, ↓reduceIte]
      try exact cI (by omega)
  · have hcc2 : ¬ (i < s.nodes.length ∧ b ≤ 2500) := by simp at hc; omega
    rw [nodesB_end hcc2] at hV
    subst hV
    refine walkG ?_
    refine ⟨by first | exact .inr rfl | exact .inl rfl, ?_⟩; rw [Tryz.results42]; simp only [resOk, resV, go_sem, Int.reduceBEq, Int.reduceLE, Int.reduceLT, Int.reduceNeg, Nat.reduceAdd, Nat.reduceEqDiff, Nat.reduceLT, Nat.reduceLeDiff, Nat.reduceMul, Nat.reduceSub, reduceCtorEq, ↓reduceIte]
    exact .c _
set_option maxRecDepth 100000 in
set_option maxHeartbeats 400000 in
theorem sgreat_told (s : ST) : Told Tryz.prog 13 [s.av] (.c (.v (.bool (decide (2500 < (sbulk s : Int)))))) := by
  have hB := sbulk_told s
  simp only [ST.av_eq, scells_mk, List.map_cons, List.map_nil] at hB
  rw [ST.av_eq, scells_mk]
  refine VC.told ent_13 Tryz.func13 rfl Tryz.ntmps13 (by simp) (by first | rfl | simp [AV.pureB, AV.pureL, pureL_c, pures]) (by first | rfl | simp [AV.pureB, AV.pureL, pureL_c, pures]) fun hb => ?_
  clear hb
  refine walkG ?_
  refine walkC (hB) ?_
  refine walkG ?_
  refine ⟨by first | exact .inr rfl | exact .inl rfl, ?_⟩; rw [Tryz.results13]; simp only [resOk, resV, go_sem, Int.reduceBEq, Int.reduceLE, Int.reduceLT, Int.reduceNeg, Nat.reduceAdd, Nat.reduceEqDiff, Nat.reduceLT, Nat.reduceLeDiff, Nat.reduceMul, Nat.reduceSub, reduceCtorEq, ↓reduceIte]
  exact .c _
end
end Go.Proofs.YtmooihlndkgdaaaGreatDoor
