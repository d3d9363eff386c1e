/- Small words shared by the proofs of this seat: a slice of bytes as it reads in memory, and what the walk's operations make of it. -/
import Derived.Test.YtmmffaelkoinlaaGreatDoorProg
import Derived.WalkKit
import Derived.WalkSpells
import Derived.WalkLawsBesides
import Derived.Handy
import Derived.Lib.Hide
import Derived.Laws.BytesArg
import Derived.Lib.SlBytesConst
set_option linter.unusedVariables false
set_option linter.unusedSimpArgs false
namespace Go.Proofs.YtmmffaelkoinlaaGreatDoor
open Go.RowKit

/-- The slice at 'a' (length l.length) holds the bytes l in the world w: where it is not empty, it begins at ⟨b, off⟩. -/
def BytesAt (w : World) (a : Option Addr) (b off : Nat) (l : List UInt8) : Prop :=
  (l ≠ [] → a = some ⟨b, off, none⟩) ∧ ∀ j, j < l.length → w.cell? ⟨b, off + j, none⟩ = some (.int .u8 ((l[j]?.getD 0).toNat : Int))

/-- An index into such a slice: the address, by the law of the walk, whether the slice's own address is known or not. -/
theorem BytesAt.idx {w : World} {a : Option Addr} {b off : Nat} {l : List UInt8} (h : BytesAt w a b off l) (n c : Nat) (hn : n = l.length) (i : Int) (W : World) (h0 : 0 ≤ i) (h1 : i < (n : Int)) :
    (Instr.indexAt 35 (.slice a n c) (.int .i64 i)).run Tryz.prog W = .ok (.pointer (some ⟨b, off + i.toNat, none⟩)) W := by
  have hne : l ≠ [] := by intro e; subst e; simp at hn; omega
  rw [h.1 hne]
  simp [go_sem, h0, h1, Addr.add]
  try (split <;> simp_all)

/-- A byte of a string, by its place in the list of its bytes. -/
theorem idxStr (s : ByteArray) (k : Nat) (hk : k < s.data.toList.length) (W : World) (kk : IntKind := .i64) :
    (Instr.index 9 (.string s) (.int kk (k : Int))).run Tryz.prog W = .ok (.int .u8 ((s.data.toList[k]?.getD 0).toNat : Int)) W := by
  have hk' : k < s.size := hk
  have e : s.data.toList[k]?.getD 0 = s[k] := by rw [List.getElem?_eq_getElem hk]; rfl
  rw [e]
  simp [go_sem, hk']

/-- A string of a list of bytes. -/
def str (l : List UInt8) : ByteArray := ⟨l.toArray⟩
theorem str_eq (l : List UInt8) : str l = ⟨l.toArray⟩ := rfl
theorem str_list (l : List UInt8) : (str l).data.toList = l := rfl
theorem str_toList (l : List UInt8) : (str l).toList = l := by rw [ByteArray.toList_eq]; rfl
theorem str_size (l : List UInt8) : (str l).size = l.length := by simp [str, ByteArray.size]
theorem str_of (s : ByteArray) : str s.data.toList = s := by cases s; rfl

/-- A slice of bytes made a string. -/
theorem BytesAt.toStr {w : World} {a : Option Addr} {b off : Nat} {l : List UInt8} (h : BytesAt w a b off l) (n c : Nat) (hn : n = l.length) :
    (convert 35 9 (.slice a n c)).run Tryz.prog w = .ok (.string (str l)) w := by
  subst hn
  by_cases hne : l = []
  · subst hne
    rw [run_convert_bytes_string w _ _ _ a _ c Tryz.underlying35 Tryz.underlying5 Tryz.underlying9]
    cases a with
    | none => simp [Conv.bytesToString]; rfl
    | some x => simp [Conv.bytesToString, loadCells]; rfl
  · rw [h.1 hne, run_convert_bytes_arg w 35 5 Tryz.underlying35 Tryz.underlying5 b off l.length c (l.map fun x => (x.toNat : Int)) (by simp) ?_ 9 Tryz.underlying9]
    · have e : strOfNums (l.map fun x => (x.toNat : Int)) = str l := by
        simp only [strOfNums, str, List.map_map]
        congr 2
        conv => rhs; rw [← List.map_id l]
        apply List.map_congr_left
        intro x _
        simp
      rw [e]
    · intro i hi
      rw [h.2 i hi]
      simp [List.getD, List.getElem?_map, List.getElem?_eq_getElem hi]

/-- A slice of bytes stays as it reads while only newer blocks are written. -/
theorem BytesAt.keep {w w' : World} {a : Option Addr} {b off : Nat} {l : List UInt8} (h : BytesAt w a b off l) {B : Nat} (hb : Below B w w') (hlt : l ≠ [] → b < B) : BytesAt w' a b off l := by
  refine ⟨h.1, fun j hj => ?_⟩
  rw [← h.2 j hj]
  exact hb.cell (p := ⟨b, off + j, none⟩) (hlt (by intro e; subst e; simp at hj))
theorem BytesAt.lt {w : World} {a : Option Addr} {b off : Nat} {l : List UInt8} (h : BytesAt w a b off l) (hne : l ≠ []) : b < w.heap.size := by
  have := h.2 0 (List.length_pos_iff.2 hne)
  rcases Nat.lt_or_ge b w.heap.size with h | h
  · exact h
  · simp [World.cell?, Array.getElem?_eq_none h] at this
theorem BytesAt.below {w w' : World} {a : Option Addr} {b off : Nat} {l : List UInt8} (h : BytesAt w a b off l) (hb : Below w.heap.size w w') : BytesAt w' a b off l :=
  h.keep hb fun hne => h.lt hne
/-- A new block of bytes. -/
theorem BytesAt.made (w : World) (l : List UInt8) (C : Array Value) (t : TypeId) (fr : Nat × Nat) (B : Nat) (hB : w.heap.size = B) (hC : C = (l.map fun x => Value.int .u8 (x.toNat : Int)).toArray) :
    BytesAt (w.alloc (.cells C t fr)) (some ⟨B, 0, none⟩) B 0 l := by
  refine ⟨fun _ => rfl, fun j hj => ?_⟩
  subst hC hB
  rw [World.cell?_alloc_mark, Nat.zero_add]
  simp [List.getElem?_eq_getElem hj]
/-- What a row of bytes that came in is to the proofs. -/
theorem bytes_of_row {w : World} {a : Option Addr} {len cap : Nat} {zs : List Int}
    (h : (a = none ∧ len = 0 ∧ cap = 0 ∧ zs = []) ∨ ∃ x, a = some x ∧ len ≤ cap ∧ cap ≤ maxLen ∧ zs.length = cap ∧ (∀ i, i < zs.length → w.cell? (x.add i) = some (.int .u8 (zs.getD i 0))) ∧ ∀ n ∈ zs, (Lit.int .u8 n).wf = true) :
    ∃ b off l, len = l.length ∧ len ≤ cap ∧ cap ≤ maxLen ∧ BytesAt w a b off l := by
  rcases h with ⟨rfl, rfl, rfl, rfl⟩ | ⟨x, rfl, h1, h2, h3, h4, h5⟩
  · exact ⟨0, 0, [], rfl, Nat.le_refl _, by unfold maxLen; omega, fun h => absurd rfl h, fun j hj => by simp at hj⟩
  · have hu : ∀ n ∈ zs, 0 ≤ n ∧ n < 256 := by
      intro n hn
      have := h5 n hn
      simp [Lit.wf, IntKind.min, IntKind.max, IntKind.bits, IntKind.signed] at this
      omega
    refine ⟨x.block, x.off, (zs.take len).map fun n => n.toNat.toUInt8, by simp; omega, h1, h2, ?_, ?_⟩
    · intro hne
      have hlen : 0 < len := by
        rcases Nat.eq_zero_or_pos len with h | h
        · subst h; simp at hne
        · exact h
      have hc := h4 0 (by omega)
      have := World.cell?_spot hc
      cases x
      simp [Addr.add] at this
      simp [this]
    · intro j hj
      simp at hj
      have hc := h4 j (by omega)
      have hs := World.cell?_spot hc
      have e : x.add j = ⟨x.block, x.off + j, none⟩ := by
        cases x
        unfold Addr.add at hs ⊢
        split
        · rename_i h; rw [if_pos h] at hs; simp at hs; simp [hs, h]
        · rfl
      rw [e] at hc
      rw [hc]
      have hm : zs.getD j 0 ∈ zs := by
        simp [List.getD, List.getElem?_eq_getElem (show j < zs.length by omega)]
      have hr := hu _ hm
      have e2 : ((zs.take len).map fun n => n.toNat.toUInt8)[j]? = some (zs.getD j 0).toNat.toUInt8 := by
        rw [List.getElem?_map, List.getElem?_take_of_lt (by omega)]
        simp [List.getD, List.getElem?_eq_getElem (show j < zs.length by omega)]
      rw [e2]
      generalize zs.getD j 0 = q at hr
      simp
      omega

/-- A list of bytes written out in the text, made a slice: its block bears a mark. -/
theorem bytesConst (w : World) (C : Array Value) (B n c : Nat) (hB : w.heap.size = B) :
    (convert 35 35 (.slice (some ⟨B, 0, none⟩) n c)).run Tryz.prog (w.alloc (.cells C 5)) = .ok (.slice (some ⟨B, 0, none⟩) n c) (w.alloc (.cells C 5 (C.size, C.size + 1))) := by
  subst hB
  exact Lib.run_convert_bytes_const (P := Tryz.prog) w 35 5 C n c Tryz.underlying35 Tryz.underlying5

end Go.Proofs.YtmmffaelkoinlaaGreatDoor
