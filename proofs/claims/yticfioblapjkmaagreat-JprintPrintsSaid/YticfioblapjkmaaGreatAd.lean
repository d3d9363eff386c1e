/- A cell of a variable that holds nil is a row of nothing. -/
import Derived.Test.YticfioblapjkmaaGreatAbB
namespace Go.Proofs.YticfioblapjkmaaGreat
open Go.RowKit
set_option linter.unusedVariables false
set_option linter.unusedSimpArgs false
section
variable {P : Program} {N : Nat} {Q : Exit → ASt → Prop}
theorem VC.nilH {c : Code} {t : Nat → AV} {h : Nat → Option Blkd} {n : Nat} (j o : Nat) (T : TypeId) (z : Nat) (B : Blkd) (e : List AV) (hB : h j = some B) (hrow : B.row = false) (he : B.elems = [e]) (ho : e[o]? = some (.c (.v (.slice none 0 0)))) (hn : Nat.ble (n + 1) L0 = true)
    (hv : VC P N c ⟨t, upd (upd h n (some ⟨true, T, z, []⟩)) j (some ⟨false, B.T, B.z, [e.set o (.row n 0)]⟩), n + 8⟩ Q) : VC P N c ⟨t, h, n⟩ Q := ⟨fun C a W r => by
  obtain ⟨ro, φ, r⟩ := r
  have hn := Nat.le_of_ble_eq_true hn
  have hnu : ¬ Used n n := fun hu => by unfold Used at hu; omega
  have hjn : j ≠ n := fun e => hnu (e ▸ (r.scH j B hB).1)
  have r2 : Rel C (fun j => Used n j ∨ j = n) N t (upd h n (some ⟨true, T, z, []⟩)) ro (upd φ n (.slice none 0 0)) a W :=
    r.block (W' := W) (Keeps.refl _ _) (fun b hb => by simp [blkOf] at hb) (.inr hnu)
      ⟨fun i e he => by simp at he, fun e he => by simp at he, [], ⟨rfl, fun j x v hx => by simp at hx⟩, by rw [if_pos rfl, upd_same]; exact World.ownsRow_nil W 0 T z⟩ (fun e he => by simp at he)
  have r3 := r2.take (used' := Used (n + 8)) fun j hj => by
    unfold Used at hj ⊢
    omega
  have hB3 : upd h n (some ⟨true, T, z, []⟩) j = some B := by rw [upd_ne _ _ hjn]; exact hB
  obtain ⟨b1, b2, vs, b3, b4⟩ := r3.hp j B hB3
  have helen : e.length = B.z := b1 0 e (by rw [he]; rfl)
  have hol := (List.getElem?_eq_some_iff.1 ho).1
  rw [he, List.flatten_cons, List.flatten_nil, List.append_nil] at b3
  have hg : ∀ k B', Used (n + 8) k → upd (upd h n (some ⟨true, T, z, []⟩)) j (some ⟨false, B.T, B.z, [e.set o (.row n 0)]⟩) k = some B' → ∃ B0, upd h n (some ⟨true, T, z, []⟩) k = some B0 ∧ (B0.len < B'.len ∨ (B0.len = B'.len ∧ B0.z = B'.z ∧ upd (upd φ n (.slice none 0 0)) j (upd φ n (.slice none 0 0) j) k = upd φ n (.slice none 0 0) k)) := by
    intro k B' hk hB'
    by_cases hkj : k = j
    · subst hkj
      rw [upd_same] at hB'
      obtain rfl := Option.some.inj hB'
      exact ⟨B, hB3, .inr ⟨by unfold Blkd.len; rw [he]; rfl, rfl, by rw [upd_same]⟩⟩
    · rw [upd_ne _ _ hkj] at hB'
      exact ⟨B', hB', .inr ⟨rfl, rfl, upd_ne _ _ hkj⟩⟩
  have hnew : ∀ (i : Nat) (x : AV), (e.set o (.row n 0))[i]? = some x → (i = o ∧ x = .row n 0) ∨ (i ≠ o ∧ e[i]? = some x) := by
    intro i x hx
    by_cases hio : i = o
    · subst hio
      rw [List.getElem?_set_self hol] at hx
      exact .inl ⟨rfl, (Option.some.inj hx).symm⟩
    · rw [List.getElem?_set_ne (fun e => hio e.symm)] at hx
      exact .inr ⟨hio, hx⟩
  have hrow0 : ∀ v : Value, v = .slice none 0 0 → Rep W ro (upd (upd φ n (.slice none 0 0)) j (upd φ n (.slice none 0 0) j)) (upd (upd h n (some ⟨true, T, z, []⟩)) j (some ⟨false, B.T, B.z, [e.set o (.row n 0)]⟩)) (.row n 0) v := by
    rintro v rfl
    refine .row rfl fun B' hB' _ => ?_
    rw [upd_ne _ _ (fun e => hjn e.symm), upd_same]
  have hscn : Sc (fun k => Used (n + 8) k ∨ k = j) (upd (upd h n (some ⟨true, T, z, []⟩)) j (some ⟨false, B.T, B.z, [e.set o (.row n 0)]⟩)) (.row n 0) := by
    refine .row (.inl (by unfold Used; omega)) fun B' hB' => Nat.zero_le _
  have r4 := r3.block (W' := W) (ℓ := j) (B := ⟨false, B.T, B.z, [e.set o (.row n 0)]⟩) (v := upd φ n (.slice none 0 0) j) (Keeps.refl _ _) (fun b hb => .inr ⟨B, hB3, hb⟩)
    (.inl ⟨B, hB3, .inr ⟨by unfold Blkd.len; rw [he]; rfl, rfl, rfl⟩⟩)
    ⟨fun i e' he' => by
        match i, he' with
        | 0, he' => obtain rfl := Option.some.inj he'; simpa using helen,
      fun e' he' x hx => by
        obtain rfl := List.mem_singleton.1 he'
        obtain ⟨i, hi, hxi⟩ := List.getElem_of_mem hx
        rcases hnew i x (by rw [List.getElem?_eq_getElem hi, hxi]) with ⟨_, rfl⟩ | ⟨_, h5⟩
        · rfl
        · exact b2 e (by rw [he]; exact List.mem_singleton.2 rfl) x (List.mem_of_getElem? h5),
      vs, by
        refine ⟨by simpa using b3.1, fun i x v hx hvv => ?_⟩
        simp only [List.flatten_cons, List.flatten_nil, List.append_nil] at hx
        rcases hnew i x hx with ⟨rfl, rfl⟩ | ⟨_, h5⟩
        · exact hrow0 v (rep_prim (b3.2 i _ v ho hvv))
        · exact (b3.2 i x v h5 hvv).map ((r3.scH j B hB3).2 e (by rw [he]; exact List.mem_singleton.2 rfl) x (List.mem_of_getElem? h5)) (fun _ _ => rfl) (fun _ h => h) hg, by
        rw [if_neg (by simp)]
        rw [if_neg (by simp [hrow])] at b4
        rw [upd_same]
        exact b4⟩
    (fun e' he' x hx => by
      obtain rfl := List.mem_singleton.1 he'
      obtain ⟨i, hi, hxi⟩ := List.getElem_of_mem hx
      rcases hnew i x (by rw [List.getElem?_eq_getElem hi, hxi]) with ⟨_, rfl⟩ | ⟨_, h5⟩
      · exact hscn
      · refine ((r3.scH j B hB3).2 e (by rw [he]; exact List.mem_singleton.2 rfl) x (List.mem_of_getElem? h5)).map (fun k hk => .inl hk) fun k B' hk hB' => ?_
        obtain ⟨B0, h6, h7⟩ := hg k B' hk hB'
        exact ⟨B0, h6, by rcases h7 with h7 | h7 <;> omega⟩)
  have r5 := r4.take (used' := Used (n + 8)) fun k hk => by
    rcases hk with hk | rfl
    · exact hk
    · have := (r.scH k B hB).1
      unfold Used at this ⊢
      simp only [] at this
      omega
  exact hv.out C a W ⟨ro, _, r5⟩⟩
end

end Go.Proofs.YticfioblapjkmaaGreat
