/- What a node weighs: the memo tells the greatest weights that are each 1 and the fields' ones: plain. -/
import Derived.Test.YtmmffaelkoinlaaGreatDoorWe
namespace Go.Proofs.YtmmffaelkoinlaaGreatDoor
open Go.RowKit
set_option linter.unusedVariables false
set_option linter.unusedSimpArgs false

/-- A record's weight out of its fields' ones. -/
def foldW (g : Nat → Int) : List FT → Int → Int
  | [], n => n
  | x :: xs, n => foldW g xs (min (n + g x.type.toNat) 1001)
def omg (ns : List NT) : Nat → Nat → Int
  | 0, _ => 1001
  | d + 1, p => foldW (omg ns d) (fieldsAt ns p) 1
theorem foldW_mono {g h : Nat → Int} (hgh : ∀ q, g q ≤ h q) : ∀ (xs : List FT) (n m : Int), n ≤ m → foldW g xs n ≤ foldW h xs m
  | [], n, m, h => h
  | x :: xs, n, m, h => by
    rw [foldW, foldW]
    have := hgh x.type.toNat
    exact foldW_mono hgh xs _ _ (by omega)
theorem foldW_le {g : Nat → Int} : ∀ (xs : List FT) (n : Int), n ≤ 1001 → foldW g xs n ≤ 1001
  | [], n, h => h
  | x :: xs, n, h => by
    rw [foldW]
    exact foldW_le xs _ (by omega)
theorem foldW_ge {g : Nat → Int} (hg : ∀ q, 1 ≤ g q) : ∀ (xs : List FT) (n : Int), n ≤ 1001 → n ≤ foldW g xs n
  | [], n, h => Int.le_refl _
  | x :: xs, n, h => by
    rw [foldW]
    have h1 := hg x.type.toNat
    have := foldW_ge hg xs (min (n + g x.type.toNat) 1001) (by omega)
    omega
theorem foldW_top {g : Nat → Int} (hg : ∀ q, 1 ≤ g q) : ∀ (xs : List FT) (n : Int), 1 ≤ n → n ≤ 1001 → (∃ x ∈ xs, g x.type.toNat = 1001) → foldW g xs n = 1001
  | [], n, _, h, hx => by obtain ⟨x, hx, _⟩ := hx; simp at hx
  | x :: xs, n, h1, h, hx => by
    rw [foldW]
    have hgx := hg x.type.toNat
    by_cases he : g x.type.toNat = 1001
    · have hm : min (n + g x.type.toNat) 1001 = 1001 := by omega
      rw [hm]
      have a := foldW_ge hg xs 1001 (by omega)
      have b := foldW_le (g := g) xs 1001 (by omega)
      omega
    · obtain ⟨y, hy, hy2⟩ := hx
      rcases List.mem_cons.1 hy with rfl | hy
      · exact absurd hy2 he
      · exact foldW_top hg xs _ (by omega) (by omega) ⟨y, hy, hy2⟩
theorem foldW_congr {g h : Nat → Int} : ∀ (xs : List FT) (n : Int), (∀ x ∈ xs, g x.type.toNat = h x.type.toNat) → foldW g xs n = foldW h xs n
  | [], n, _ => rfl
  | x :: xs, n, e => by
    rw [foldW, foldW, e x (by simp)]
    exact foldW_congr xs _ fun y hy => e y (by simp [hy])
theorem omg_range (ns : List NT) : ∀ (d p : Nat), 1 ≤ omg ns d p ∧ omg ns d p ≤ 1001
  | 0, p => ⟨by rw [omg]; decide, by rw [omg]; decide⟩
  | d + 1, p => by
    rw [omg]
    exact ⟨foldW_ge (fun q => (omg_range ns d q).1) _ _ (by decide), foldW_le _ _ (by decide)⟩
theorem omg_dec (ns : List NT) : ∀ (d p : Nat), omg ns (d + 1) p ≤ omg ns d p
  | 0, p => by rw [omg.eq_1]; exact (omg_range ns 1 p).2
  | d + 1, p => by
    rw [omg, omg]
    exact foldW_mono (omg_dec ns d) _ _ _ (Int.le_refl _)
theorem omg_anti (ns : List NT) (d p : Nat) : ∀ e, omg ns (d + e) p ≤ omg ns d p
  | 0 => Int.le_refl _
  | e + 1 => Int.le_trans (omg_dec ns (d + e) p) (omg_anti ns d p e)
/-- Weights stand still from some depth on. -/
theorem omg_one (ns : List NT) (p : Nat) : ∀ (b d : Nat), omg ns d p ≤ (b : Int) → ∃ D, ∀ e, omg ns (D + e) p = omg ns D p
  | 0, d, h => by have := (omg_range ns d p).1; omega
  | b + 1, d, h => by
    by_cases hs : ∀ e, omg ns (d + e) p = omg ns d p
    · exact ⟨d, hs⟩
    · obtain ⟨e, he⟩ := Classical.not_forall.1 hs
      have := omg_anti ns d p e
      exact omg_one ns p b (d + e) (by omega)
theorem omg_all (ns : List NT) : ∀ N : Nat, ∃ D, ∀ p, p < N → ∀ e, omg ns (D + e) p = omg ns D p
  | 0 => ⟨0, fun p h => by omega⟩
  | N + 1 => by
    obtain ⟨D1, h1⟩ := omg_all ns N
    obtain ⟨D2, h2⟩ := omg_one ns N 1001 0 (by rw [omg]; decide)
    refine ⟨max D1 D2, fun p hp e => ?_⟩
    by_cases hpN : p < N
    · have a := h1 p hpN (max D1 D2 - D1 + e)
      have b := h1 p hpN (max D1 D2 - D1)
      rw [show D1 + (max D1 D2 - D1 + e) = max D1 D2 + e by omega] at a
      rw [show D1 + (max D1 D2 - D1) = max D1 D2 by omega] at b
      rw [a, b]
    · obtain rfl : p = N := by omega
      have a := h2 (max D1 D2 - D2 + e)
      have b := h2 (max D1 D2 - D2)
      rw [show D2 + (max D1 D2 - D2 + e) = max D1 D2 + e by omega] at a
      rw [show D2 + (max D1 D2 - D2) = max D1 D2 by omega] at b
      rw [a, b]
/-- A weight: G. -/
structure IsG (ns : List NT) (G : Nat → Int) : Prop where
  range : ∀ p, 1 ≤ G p ∧ G p ≤ 1001
  fix : ∀ p, p < ns.length → G p = foldW G (fieldsAt ns p) 1
  top : ∀ S : Nat → Prop, (∀ q, S q → ∃ x ∈ fieldsAt ns q, S x.type.toNat) → ∀ q, S q → G q = 1001
theorem omg_top (ns : List NT) (S : Nat → Prop) (hS : ∀ q, S q → ∃ x ∈ fieldsAt ns q, S x.type.toNat) : ∀ (d q : Nat), S q → omg ns d q = 1001
  | 0, q, _ => by rw [omg]
  | d + 1, q, h => by
    rw [omg]
    obtain ⟨x, hx, hx2⟩ := hS q h
    exact foldW_top (fun q => (omg_range ns d q).1) _ _ (by decide) (by decide) ⟨x, hx, omg_top ns S hS d _ hx2⟩
theorem exG (ns : List NT) (hr : ∀ p, ∀ x ∈ fieldsAt ns p, x.type.toNat < ns.length) : ∃ G, IsG ns G := by
  obtain ⟨D, hD⟩ := omg_all ns ns.length
  refine ⟨omg ns D, fun p => omg_range ns D p, fun p hp => ?_, fun S hS q hq => omg_top ns S hS D q hq⟩
  have h := hD p hp 1
  rw [← h, omg]
def Edge (ns : List NT) (p q : Nat) : Prop := ∃ x ∈ fieldsAt ns p, x.type.toNat = q
inductive Way (ns : List NT) : Nat → Nat → Prop
  | one {p q : Nat} (h : Edge ns p q) : Way ns p q
  | step {p q r : Nat} (h : Edge ns p q) (w : Way ns q r) : Way ns p r
theorem Way.tail {ns : List NT} {p q r : Nat} (w : Way ns p q) (h : Edge ns q r) : Way ns p r := by
  induction w with
  | one h1 => exact .step h1 (.one h)
  | step h1 _ ih => exact .step h1 (ih h)
theorem IsG.cyc {ns : List NT} {G : Nat → Int} (h : IsG ns G) {p : Nat} (hp : Way ns p p) : G p = 1001 := by
  refine h.top (fun q => Way ns q p) (fun q hq => ?_) p hp
  cases hq with
  | one h1 =>
    obtain ⟨x, hx, he⟩ := h1
    exact ⟨x, hx, by rw [he]; exact hp⟩
  | step h1 w =>
    obtain ⟨x, hx, he⟩ := h1
    exact ⟨x, hx, by rw [he]; exact w⟩
/-- A memo whose known weights are G's, and whose nodes that are being told lead to p. -/
structure Memo (ns : List NT) (G : Nat → Int) (kn : List Int) (p : Nat) : Prop where
  len : kn.length = ns.length
  ok : KnOk kn
  pos : ∀ (j : Nat) (v : Int), kn[j]? = some v → 0 < v → v = G j
  neg : ∀ (j : Nat) (v : Int), kn[j]? = some v → v < 0 → Way ns j p
/-- Behind a call: as good, and no more nodes are being told. -/
structure Kept (ns : List NT) (G : Nat → Int) (kn kn' : List Int) : Prop where
  len : kn'.length = ns.length
  ok : KnOk kn'
  pos : ∀ (j : Nat) (v : Int), kn'[j]? = some v → 0 < v → v = G j
  neg : ∀ (j : Nat) (v : Int), kn'[j]? = some v → v < 0 → ∃ u, kn[j]? = some u ∧ u < 0
  cnt : kn'.count 0 ≤ kn.count 0
theorem weighK_spec {ns : List NT} {G : Nat → Int} (hG : IsG ns G) (f : Nat → List Int → Int × List Int) (p : Nat) (c : Nat)
    (hf : ∀ (q : Nat) (kn : List Int), q < ns.length → Memo ns G kn q → kn.count 0 < c → (f q kn).1 = G q ∧ Kept ns G kn (f q kn).2) :
    ∀ (xs : List FT) (n : Int) (kn0 kn : List Int), (∀ x ∈ xs, x.type.toNat < ns.length ∧ Edge ns p x.type.toNat) → Kept ns G kn0 kn → (∀ (j : Nat) (v : Int), kn0[j]? = some v → v < 0 → j = p ∨ Way ns j p) → kn0.count 0 < c →
      (weighK f xs n kn).1 = foldW G xs n ∧ Kept ns G kn0 (weighK f xs n kn).2
  | [], n, kn0, kn, _, hk, _, _ => ⟨rfl, hk⟩
  | x :: xs, n, kn0, kn, hx, hk, hn, hc => by
    rw [weighK, foldW]
    obtain ⟨hxl, hxe⟩ := hx x (by simp)
    have hm : Memo ns G kn x.type.toNat := ⟨hk.len, hk.ok, hk.pos, fun j v hj hv => by
      obtain ⟨u, hu, hu0⟩ := hk.neg j v hj hv
      rcases hn j u hu hu0 with rfl | w
      · exact .one hxe
      · exact w.tail hxe⟩
    obtain ⟨h1, h2⟩ := hf x.type.toNat kn hxl hm (by have := hk.cnt; omega)
    rw [h1]
    exact weighK_spec hG f p c hf xs _ kn0 _ (fun y hy => hx y (by simp [hy])) ⟨h2.len, h2.ok, h2.pos, fun j v hj hv => by
      obtain ⟨u, hu, hu0⟩ := h2.neg j v hj hv
      exact hk.neg j u hu hu0, by have := hk.cnt; have := h2.cnt; omega⟩ hn hc
theorem set_get {kn : List Int} {p j : Nat} {v w : Int} (h : (kn.set p w)[j]? = some v) : (j = p ∧ v = w) ∨ (j ≠ p ∧ kn[j]? = some v) := by
  rw [List.getElem?_set] at h
  split at h
  · rename_i hp
    split at h
    · exact .inl ⟨hp.symm, (Option.some.inj h).symm⟩
    · simp at h
  · rename_i hp
    exact .inr ⟨fun e => hp e.symm, h⟩
theorem weighM_spec {ns : List NT} {G : Nat → Int} (hG : IsG ns G) (hr : ∀ p, ∀ x ∈ fieldsAt ns p, x.type.toNat < ns.length) : ∀ (d p : Nat) (kn : List Int), p < ns.length → Memo ns G kn p → kn.count 0 < d → (weighM ns d p kn).1 = G p ∧ Kept ns G kn (weighM ns d p kn).2
  | 0, p, kn, _, _, h => by omega
  | d + 1, p, kn, hp, hm, hc => by
    obtain ⟨v, hv⟩ : ∃ v, kn[p]? = some v := ⟨kn[p]'(by rw [hm.len]; exact hp), List.getElem?_eq_getElem _⟩
    have hself : Kept ns G kn kn := ⟨hm.len, hm.ok, hm.pos, fun j u hj hu => ⟨u, hj, hu⟩, Nat.le_refl _⟩
    rw [weighM, knAt_of hv]
    split
    · rename_i h0
      exact ⟨(hG.cyc (hm.neg p v hv h0)).symm, hself⟩
    · split
      · rename_i h0 h1
        exact ⟨hm.pos p v hv h1, hself⟩
      · rename_i h0 h1
        obtain rfl : v = 0 := by omega
        have hct := count_set_lt (v := -1) hv (by decide)
        have hk1 : Kept ns G (kn.set p (-1)) (kn.set p (-1)) := ⟨by rw [List.length_set]; exact hm.len, hm.ok.set p (by decide), fun j u hj hu => by
          rcases set_get hj with ⟨_, rfl⟩ | ⟨_, h⟩
          · omega
          · exact hm.pos j u h hu, fun j u hj hu => ⟨u, hj, hu⟩, Nat.le_refl _⟩
        obtain ⟨h2, h3⟩ := weighK_spec hG (weighM ns d) p d (fun q kn hq hmq hcq => weighM_spec hG hr d q kn hq hmq hcq) (fieldsAt ns p) 1 (kn.set p (-1)) (kn.set p (-1)) (fun x hx => ⟨hr p x hx, x, hx, rfl⟩) hk1 (fun j u hj hu => by
          rcases set_get hj with ⟨e, _⟩ | ⟨_, h⟩
          · exact .inl e
          · exact .inr (hm.neg j u h hu)) (by omega)
        simp only []
        rw [h2, ← hG.fix p hp]
        have hGp := hG.range p
        have c2 := count_set_le (kn := (weighK (weighM ns d) (fieldsAt ns p) 1 (kn.set p (-1))).2) p (v := G p) (by omega)
        refine ⟨rfl, by rw [List.length_set]; exact h3.len, h3.ok.set p (by omega), fun j u hj hu => ?_, fun j u hj hu => ?_, by have := h3.cnt; omega⟩
        · rcases set_get hj with ⟨rfl, rfl⟩ | ⟨_, h⟩
          · rfl
          · exact h3.pos j u h hu
        · rcases set_get hj with ⟨_, rfl⟩ | ⟨hne, h⟩
          · omega
          · obtain ⟨w, hw, hw0⟩ := h3.neg j u h hu
            rcases set_get hw with ⟨e, _⟩ | ⟨_, h'⟩
            · exact absurd e hne
            · exact ⟨w, h', hw0⟩
theorem memo_none {ns : List NT} {G : Nat → Int} {kn : List Int} (h1 : kn.length = ns.length) (h2 : KnOk kn) (h3 : ∀ (j : Nat) (v : Int), kn[j]? = some v → 0 < v → v = G j) (h4 : ∀ (j : Nat) (v : Int), kn[j]? = some v → ¬ v < 0) (p : Nat) : Memo ns G kn p :=
  ⟨h1, h2, h3, fun j v hj hv => absurd hv (h4 j v hj)⟩
/-- A weight told from nothing. -/
def wOf (ns : List NT) (p : Nat) : Int := (weighM ns (ns.length + 1) p (List.replicate ns.length 0)).1
theorem wOf_G {ns : List NT} {G : Nat → Int} (hG : IsG ns G) (hr : ∀ p, ∀ x ∈ fieldsAt ns p, x.type.toNat < ns.length) {p : Nat} (hp : p < ns.length) : wOf ns p = G p := by
  have hz : ∀ (j : Nat) (v : Int), (List.replicate ns.length (0 : Int))[j]? = some v → v = 0 := fun j v hj => (List.mem_replicate.1 (List.mem_of_getElem? hj)).2
  refine (weighM_spec hG hr (ns.length + 1) p _ hp (memo_none (by simp) (fun x hx => by obtain rfl := (List.mem_replicate.1 hx).2; decide) (fun j v hj hv => ?_) (fun j v hj => ?_) p) ?_).1
  · have := hz j v hj; omega
  · have := hz j v hj; omega
  · have := List.count_le_length (a := (0 : Int)) (l := List.replicate ns.length 0); simp at this ⊢
theorem rightL_G {ns : List NT} {G : Nat → Int} (hG : IsG ns G) (hr : ∀ p, ∀ x ∈ fieldsAt ns p, x.type.toNat < ns.length) : ∀ (r : List NT) (p : Nat) (kn : List Int), p + r.length = ns.length → kn.length = ns.length → KnOk kn → (∀ (j : Nat) (v : Int), kn[j]? = some v → 0 < v → v = G j) → (∀ (j : Nat) (v : Int), kn[j]? = some v → ¬ v < 0) →
    rightL ns r p kn = true → ∀ i, p ≤ i → i < ns.length → G i ≤ 1000
  | [], p, kn, hl, _, _, _, _, _, i, h1, h2 => by simp at hl; omega
  | n :: r, p, kn, hl, h1, h2, h3, h4, h, i, hi, hi2 => by
    rw [rightL] at h
    simp only [Bool.and_eq_true, decide_eq_true_eq] at h
    simp at hl
    have hc := List.count_le_length (a := (0 : Int)) (l := kn)
    obtain ⟨e, hk⟩ := weighM_spec hG hr (ns.length + 1) p kn (by omega) (memo_none h1 h2 h3 h4 p) (by omega)
    rw [e] at h
    by_cases hip : i = p
    · rw [hip]; exact h.2.1
    · exact rightL_G hG hr r (p + 1) _ (by omega) hk.len hk.ok hk.pos (fun j v hj hv => by
        obtain ⟨u, hu, hu0⟩ := hk.neg j v hj hv
        exact h4 j u hu hu0) h.2.2 i (by omega) hi2

end Go.Proofs.YtmmffaelkoinlaaGreatDoor
