/- Schemas as plain values, and the order of their nodes: plain. -/
import Derived.Test.YtmmffaelkoinlaaGreatDoorAt
namespace Go.Proofs.YtmmffaelkoinlaaGreatDoor
open Go.RowKit
set_option linter.unusedVariables false
set_option linter.unusedSimpArgs false

/-- A number, as an element of a row. -/
def iPV (n : Int) : List PV := [.v (.int .i64 n)]
structure FT where
  name : List UInt8
  aliases : List (List UInt8)
  type : Int
  has : Bool
  dflt : JT
def FT.cells (f : FT) : List PV := .v (.string (str f.name)) :: .sl 1 (f.aliases.map sPV) :: .v (.int .i64 f.type) :: .v (.bool f.has) :: f.dflt.cells
structure NT where
  kind : Int
  name : List UInt8
  aliases : List (List UInt8)
  fields : List FT
  symbols : List (List UInt8)
  has : Bool
  dflt : List UInt8
  size : Int
  items : Int
  branches : List Int
def NT.cells (n : NT) : List PV := [.v (.int .i64 n.kind), .v (.string (str n.name)), .sl 1 (n.aliases.map sPV), .sl 9 (n.fields.map FT.cells), .sl 1 (n.symbols.map sPV), .v (.bool n.has), .v (.string (str n.dflt)), .v (.int .i64 n.size), .v (.int .i64 n.items), .sl 1 (n.branches.map iPV)]
structure ST where
  nodes : List NT
  root : Int
def ST.cells (s : ST) : List PV := [.sl 10 (s.nodes.map NT.cells), .v (.int .i64 s.root)]
def FT.av (f : FT) : AV := .agg (f.cells.map .c)
def NT.av (n : NT) : AV := .agg (n.cells.map .c)
def ST.av (s : ST) : AV := .agg (s.cells.map .c)
theorem FT.av_eq (f : FT) : f.av = .agg (f.cells.map .c) := rfl
theorem NT.av_eq (n : NT) : n.av = .agg (n.cells.map .c) := rfl
theorem ST.av_eq (s : ST) : s.av = .agg (s.cells.map .c) := rfl
theorem iPV_eq (n : Int) : iPV n = [.v (.int .i64 n)] := rfl
theorem ncells_mk (n : NT) : n.cells = [.v (.int .i64 n.kind), .v (.string (str n.name)), .sl 1 (n.aliases.map sPV), .sl 9 (n.fields.map FT.cells), .sl 1 (n.symbols.map sPV), .v (.bool n.has), .v (.string (str n.dflt)), .v (.int .i64 n.size), .v (.int .i64 n.items), .sl 1 (n.branches.map iPV)] := rfl
theorem scells_mk (s : ST) : s.cells = [.sl 10 (s.nodes.map NT.cells), .v (.int .i64 s.root)] := rfl
theorem fcells_mk (f : FT) : f.cells = .v (.string (str f.name)) :: .sl 1 (f.aliases.map sPV) :: .v (.int .i64 f.type) :: .v (.bool f.has) :: f.dflt.cells := rfl
theorem len_fcells (f : FT) : f.cells.length = 9 := by simp [FT.cells, len_cells]
theorem len_ncells (n : NT) : n.cells.length = 10 := rfl
theorem len_scells (s : ST) : s.cells.length = 2 := rfl
theorem take_fcells (f : FT) : f.cells.take 9 = f.cells := List.take_of_length_le (by rw [len_fcells]; exact Nat.le_refl _)
theorem take_fcellsC (f : FT) : (f.cells.map AV.c).take 9 = f.cells.map .c := List.take_of_length_le (by rw [List.length_map, len_fcells]; exact Nat.le_refl _)
theorem take_ncells (n : NT) : n.cells.take 10 = n.cells := rfl
theorem take_ncellsC (n : NT) : (n.cells.map AV.c).take 10 = n.cells.map .c := rfl
theorem take_scells (s : ST) : s.cells.take 2 = s.cells := rfl
theorem take_scellsC (s : ST) : (s.cells.map AV.c).take 2 = s.cells.map .c := rfl

/-! The order of a schema's nodes. -/
def namedK (k : Int) : Bool := k == 9 || k == 10 || k == 14
def kidsN (n : NT) : List Int := if n.kind = 9 then n.fields.map (·.type) else if n.kind = 11 ∨ n.kind = 12 then [n.items] else if n.kind = 13 then n.branches else []
def kindAt (ns : List NT) (k : Nat) : Int := match ns[k]? with | some n => n.kind | none => 0
def walkK (ns : List NT) (f : Nat → Bool × Nat) : List Int → Nat → Bool × Nat
  | [], p => (true, p)
  | k :: ks, p => if k = (p : Int) then (if (f p).1 = true then walkK ns f ks (f p).2 else (false, (f p).2)) else if k < 0 ∨ k > (p : Int) ∨ namedK (kindAt ns k.toNat) = false then (false, p) else walkK ns f ks p
def walkM (ns : List NT) : Nat → Nat → Bool × Nat
  | 0, p => (false, p)
  | d + 1, p => match ns[p]? with | none => (false, p) | some n => walkK ns (walkM ns d) (kidsN n) (p + 1)
def orderedM (s : ST) : Bool := decide (0 < s.nodes.length) && (decide (s.nodes.length ≤ 200) && (decide (s.root = 0) && ((walkM s.nodes 33 0).1 && decide ((walkM s.nodes 33 0).2 = s.nodes.length))))
theorem walkK_le (ns : List NT) (f : Nat → Bool × Nat) (hf : ∀ p, p ≤ ns.length → p ≤ (f p).2 ∧ (f p).2 ≤ ns.length) : ∀ (ks : List Int) (p : Nat), p ≤ ns.length → p ≤ (walkK ns f ks p).2 ∧ (walkK ns f ks p).2 ≤ ns.length
  | [], p, h => ⟨Nat.le_refl _, h⟩
  | k :: ks, p, h => by
    rw [walkK]
    have h1 := hf p h
    split
    · split
      · have h2 := walkK_le ns f hf ks (f p).2 h1.2
        omega
      · exact h1
    · split
      · exact ⟨Nat.le_refl _, h⟩
      · exact walkK_le ns f hf ks p h
theorem walkM_le (ns : List NT) : ∀ (d p : Nat), p ≤ ns.length → p ≤ (walkM ns d p).2 ∧ (walkM ns d p).2 ≤ ns.length
  | 0, p, h => ⟨Nat.le_refl _, h⟩
  | d + 1, p, h => by
    rw [walkM]
    split
    · exact ⟨Nat.le_refl _, h⟩
    · rename_i n hn
      have hp : p < ns.length := (List.getElem?_eq_some_iff.1 hn).1
      have := walkK_le ns _ (walkM_le ns d) (kidsN n) (p + 1) hp
      omega
/-- What stands in order from one place to another: kids are places, and one that is not behind its parent has a name; and each but the first is a kid of one ahead. -/
def Stand (ns : List NT) (a b : Nat) : Prop :=
  (∀ (i : Nat) (n : NT), a ≤ i → i < b → ns[i]? = some n → ∀ k ∈ kidsN n, 0 ≤ k ∧ k < (b : Int) ∧ (k ≤ (i : Int) → namedK (kindAt ns k.toNat) = true)) ∧ (∀ i : Nat, a < i → i < b → ∃ (j : Nat) (n : NT), a ≤ j ∧ j < i ∧ ns[j]? = some n ∧ (i : Int) ∈ kidsN n)
theorem stand_le {ns : List NT} {a b : Nat} (h : Stand ns a b) {c : Nat} (hc : b ≤ c) : ∀ (i : Nat) (n : NT), a ≤ i → i < b → ns[i]? = some n → ∀ k ∈ kidsN n, 0 ≤ k ∧ k < (c : Int) ∧ (k ≤ (i : Int) → namedK (kindAt ns k.toNat) = true) := fun i n h1 h2 h3 k hk => by
  have := h.1 i n h1 h2 h3 k hk
  exact ⟨this.1, by omega, this.2.2⟩
/-- The kids that were met of the node at a. -/
def Met (ns : List NT) (a : Nat) (done : List Int) (b : Nat) : Prop :=
  a < b ∧ (∀ k ∈ done, 0 ≤ k ∧ k < (b : Int) ∧ (k ≤ (a : Int) → namedK (kindAt ns k.toNat) = true)) ∧ (∀ (i : Nat) (n : NT), a < i → i < b → ns[i]? = some n → ∀ k ∈ kidsN n, 0 ≤ k ∧ k < (b : Int) ∧ (k ≤ (i : Int) → namedK (kindAt ns k.toNat) = true))
    ∧ (∀ i : Nat, a < i → i < b → (i : Int) ∈ done ∨ ∃ (j : Nat) (n : NT), a < j ∧ j < i ∧ ns[j]? = some n ∧ (i : Int) ∈ kidsN n)
theorem walkK_met (ns : List NT) (f : Nat → Bool × Nat) (hf : ∀ p q, f p = (true, q) → p < q ∧ Stand ns p q) (a : Nat) : ∀ (ks : List Int) (done : List Int) (p q : Nat), Met ns a done p → walkK ns f ks p = (true, q) → Met ns a (done ++ ks) q
  | [], done, p, q, h, hw => by
    rw [walkK] at hw
    obtain rfl : p = q := (Prod.mk.inj hw).2
    rwa [List.append_nil]
  | k :: ks, done, p, q, h, hw => by
    rw [walkK] at hw
    obtain ⟨h0, h1, h2, h3⟩ := h
    have hc : done ++ k :: ks = (done ++ [k]) ++ ks := by simp
    rw [hc]
    split at hw
    · rename_i hk
      split at hw
      · rename_i hb
        obtain ⟨hlt, hs⟩ := hf p (f p).2 (by rw [← hb])
        refine walkK_met ns f hf a ks (done ++ [k]) (f p).2 q ⟨by omega, ?_, ?_, ?_⟩ hw
        · intro k' hk'
          rcases List.mem_append.1 hk' with h | h
          · have := h1 k' h
            exact ⟨this.1, by omega, this.2.2⟩
          · obtain rfl := List.mem_singleton.1 h
            exact ⟨by omega, by omega, fun h => by omega⟩
        · intro i n hi1 hi2 hn k' hk'
          by_cases hip : i < p
          · have := h2 i n hi1 hip hn k' hk'
            exact ⟨this.1, by omega, this.2.2⟩
          · exact hs.1 i n (by omega) hi2 hn k' hk'
        · intro i hi1 hi2
          by_cases hip : i < p
          · rcases h3 i hi1 hip with h | h
            · exact .inl (List.mem_append.2 (.inl h))
            · exact .inr h
          · by_cases hie : i = p
            · exact .inl (List.mem_append.2 (.inr (by rw [hie, hk]; simp)))
            · obtain ⟨j, n, hj1, hj2, hn, hm⟩ := hs.2 i (by omega) hi2
              exact .inr ⟨j, n, by omega, hj2, hn, hm⟩
      · simp at hw
    · rename_i hk
      split at hw
      · simp at hw
      · rename_i hc2
        refine walkK_met ns f hf a ks (done ++ [k]) p q ⟨h0, ?_, h2, ?_⟩ hw
        · intro k' hk'
          rcases List.mem_append.1 hk' with h | h
          · exact h1 k' h
          · obtain rfl := List.mem_singleton.1 h
            have hnn : namedK (kindAt ns k'.toNat) = true := by
              cases hb : namedK (kindAt ns k'.toNat) with
              | true => rfl
              | false => exact absurd (.inr (.inr hb)) hc2
            have : ¬ (k' < 0) := fun h => hc2 (.inl h)
            have : ¬ (k' > (p : Int)) := fun h => hc2 (.inr (.inl h))
            exact ⟨by omega, by omega, fun _ => hnn⟩
        · intro i hi1 hi2
          rcases h3 i hi1 hi2 with h | h
          · exact .inl (List.mem_append.2 (.inl h))
          · exact .inr h
theorem walkM_stand (ns : List NT) : ∀ (d p q : Nat), walkM ns d p = (true, q) → p < q ∧ Stand ns p q
  | 0, p, q, h => by simp [walkM] at h
  | d + 1, p, q, h => by
    rw [walkM] at h
    split at h
    · simp at h
    · rename_i n hn
      have hm := walkK_met ns _ (walkM_stand ns d) p (kidsN n) [] (p + 1) q ⟨by omega, by simp, fun i n h1 h2 => by omega, fun i h1 h2 => by omega⟩ h
      rw [List.nil_append] at hm
      obtain ⟨h0, h1, h2, h3⟩ := hm
      refine ⟨h0, ?_, ?_⟩
      · intro i n' hi1 hi2 hn' k hk
        by_cases hi : i = p
        · subst hi
          rw [hn] at hn'
          obtain rfl := Option.some.inj hn'
          exact h1 k hk
        · exact h2 i n' (by omega) hi2 hn' k hk
      · intro i hi1 hi2
        rcases h3 i hi1 hi2 with h | ⟨j, n', hj1, hj2, hn', hm⟩
        · exact ⟨p, n, by omega, hi1, hn, h⟩
        · exact ⟨j, n', by omega, hj2, hn', hm⟩
theorem ordered_stand {s : ST} (h : orderedM s = true) : Stand s.nodes 0 s.nodes.length := by
  unfold orderedM at h
  simp only [Bool.and_eq_true, decide_eq_true_eq] at h
  obtain ⟨_, _, _, h1, h2⟩ := h
  exact (walkM_stand s.nodes 33 0 _ (by rw [← h1, ← h2])).2

end Go.Proofs.YtmmffaelkoinlaaGreatDoor
