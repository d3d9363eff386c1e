/- Names, and schemas that may be: plain. -/
import Derived.Test.YtmmffaelkoinlaaGreatDoorSt
import Derived.Test.YtmmffaelkoinlaaGreatDoorPd
import Derived.Test.YtmmffaelkoinlaaGreatDoorAs
namespace Go.Proofs.YtmmffaelkoinlaaGreatDoor
open Go.RowKit
set_option linter.unusedVariables false
set_option linter.unusedSimpArgs false

/-! Names. -/
def isLet (c : UInt8) : Bool := (decide (97 ≤ c.toNat) && decide (c.toNat ≤ 122)) || ((decide (65 ≤ c.toNat) && decide (c.toNat ≤ 90)) || decide (c.toNat = 95))
def isDig (c : UInt8) : Bool := decide (48 ≤ c.toNat) && decide (c.toNat ≤ 57)
def simp1 : List UInt8 → Bool
  | [] => false
  | c :: cs => isLet c && cs.all fun c => isLet c || isDig c
def simpleM (s : List UInt8) : Bool := decide (s.length ≤ 100) && simp1 s
def fullF : Nat → List UInt8 → Bool
  | 0, _ => false
  | n + 1, s => simp1 (s.takeWhile (· != 46)) && (match s.dropWhile (· != 46) with | [] => true | _ :: r => fullF n r)
def fullM (s : List UInt8) : Bool := decide (s.length ≤ 100) && fullF (s.length + 1) s
theorem fullF_fuel : ∀ (n m : Nat) (s : List UInt8), s.length < n → s.length < m → fullF n s = fullF m s
  | 0, _, _, h, _ => by omega
  | _, 0, _, _, h => by omega
  | n + 1, m + 1, s, h1, h2 => by
    rw [fullF, fullF]
    congr 1
    have hd : (s.dropWhile (· != 46)).length ≤ s.length := (List.dropWhile_sublist _).length_le
    split
    · rfl
    · rename_i x r hr
      rw [hr] at hd
      simp at hd
      exact fullF_fuel n m r (by omega) (by omega)
/-- The kinds' words. -/
def kwords : List (List UInt8) := [[], [110, 117, 108, 108], [98, 111, 111, 108, 101, 97, 110], [105, 110, 116], [108, 111, 110, 103], [102, 108, 111, 97, 116], [100, 111, 117, 98, 108, 101], [98, 121, 116, 101, 115], [115, 116, 114, 105, 110, 103], [114, 101, 99, 111, 114, 100], [101, 110, 117, 109], [97, 114, 114, 97, 121], [109, 97, 112], [], [102, 105, 120, 101, 100]]
def kindM (s : List UInt8) : Nat := if s = [] then 0 else match kwords.findIdx? (· == s) with | some i => i | none => 0

/-! Schemas that may be. -/
def diffM (rule : List UInt8 → Bool) (l : List (List UInt8)) : Bool := l.all rule && decide l.Nodup
def allM (rule : List UInt8 → Bool) (l : List (List UInt8)) : Bool := decide (l.length ≤ 40) && l.all rule
def jzero : JT := .mk 0 0 [] [] []
def bareM (n : NT) : Bool :=
  (namedK n.kind || (n.name.isEmpty && n.aliases.isEmpty)) && ((n.kind == 9 || n.fields.isEmpty) && ((n.kind == 10 || (n.symbols.isEmpty && (!n.has && n.dflt.isEmpty))) && ((n.kind == 14 || n.size == 0) && ((n.kind == 11 || n.kind == 12 || n.items == 0) && (n.kind == 13 || n.branches.isEmpty)))))
noncomputable def fieldM (f : FT) : Bool := allM simpleM f.aliases && (if f.has = true then jR f.dflt else jeq f.dflt jzero)
noncomputable def fieldsM (l : List FT) : Bool := l.all fieldM && (decide (l.length ≤ 40) && diffM simpleM (l.map (·.name)))
def branchM (ns : List NT) (l : List Int) (k : Int) : Bool := kindAt ns k.toNat != 13 && !l.any fun m => m == k || (!namedK (kindAt ns k.toNat) && kindAt ns m.toNat == kindAt ns k.toNat)
def branchesM (ns : List NT) : List Int → List Int → Bool
  | _, [] => true
  | l, k :: ks => branchM ns l k && branchesM ns (l ++ [k]) ks
def unionM (ns : List NT) (l : List Int) : Bool := decide (1 ≤ l.length) && (decide (l.length ≤ 10) && branchesM ns [] l)
noncomputable def nodeM (ns : List NT) (n : NT) : Bool :=
  (decide (1 ≤ n.kind) && (decide (n.kind ≤ 14) && bareM n)) && ((!namedK n.kind || (fullM n.name && (kindM n.name == 0 && allM fullM n.aliases))) && (
    if n.kind = 9 then fieldsM n.fields else if n.kind = 10 then ((n.has == n.symbols.contains n.dflt) && (n.has || n.dflt.isEmpty)) && (decide (1 ≤ n.symbols.length) && (decide (n.symbols.length ≤ 40) && diffM simpleM n.symbols))
    else if n.kind = 14 then decide (0 ≤ n.size) && decide (n.size ≤ 1000) else if n.kind = 13 then unionM ns n.branches else true))
def weighK (f : Nat → List Int → Int × List Int) : List FT → Int → List Int → Int × List Int
  | [], n, kn => (n, kn)
  | x :: xs, n, kn => weighK f xs (min (n + (f x.type.toNat kn).1) 1001) (f x.type.toNat kn).2
def knAt (kn : List Int) (k : Nat) : Int := match kn[k]? with | some n => n | none => 0
def fieldsAt (ns : List NT) (k : Nat) : List FT := match ns[k]? with | some n => (if n.kind = 9 then n.fields else []) | none => []
def weighM (ns : List NT) : Nat → Nat → List Int → Int × List Int
  | 0, _, kn => (1001, kn)
  | d + 1, p, kn => if knAt kn p < 0 then (1001, kn) else if 0 < knAt kn p then (knAt kn p, kn) else
      ((weighK (weighM ns d) (fieldsAt ns p) 1 (kn.set p (-1))).1, (weighK (weighM ns d) (fieldsAt ns p) 1 (kn.set p (-1))).2.set p (weighK (weighM ns d) (fieldsAt ns p) 1 (kn.set p (-1))).1)
noncomputable def rightL (ns : List NT) : List NT → Nat → List Int → Bool
  | [], _, _ => true
  | n :: r, p, kn => nodeM ns n && (decide ((weighM ns (ns.length + 1) p kn).1 ≤ 1000) && rightL ns r (p + 1) (weighM ns (ns.length + 1) p kn).2)
def namesM (ns : List NT) : List (List UInt8) := (ns.filter fun n => namedK n.kind).map (·.name)
noncomputable def rightM (s : ST) : Bool := orderedM s && (rightL s.nodes s.nodes 0 (List.replicate s.nodes.length 0) && diffM fullM (namesM s.nodes))
def isN (name : List UInt8) (n : NT) : Bool := namedK n.kind && n.name == name
def findM (s : ST) (name : List UInt8) : Int := match s.nodes.findIdx? (isN name) with | some i => (i : Int) | none => -1
theorem right_ordered {s : ST} (h : rightM s = true) : orderedM s = true := by
  unfold rightM at h
  simp only [Bool.and_eq_true] at h
  exact h.1
theorem names_find : ∀ (ns : List NT), (namesM ns).Nodup → ∀ (i : Nat) (n : NT), ns[i]? = some n → namedK n.kind = true → ns.findIdx? (isN n.name) = some i
  | [], _, i, n, h, _ => by simp at h
  | x :: xs, hd, i, n, h, hk => by
    rw [List.findIdx?_cons]
    match i with
    | 0 =>
      rw [List.getElem?_cons_zero] at h
      obtain rfl := Option.some.inj h
      rw [if_pos (by simp [isN, hk])]
    | i + 1 =>
      rw [List.getElem?_cons_succ] at h
      have hm : n.name ∈ namesM xs := by
        unfold namesM
        exact List.mem_map.2 ⟨n, List.mem_filter.2 ⟨List.mem_of_getElem? h, hk⟩, rfl⟩
      by_cases hx : namedK x.kind = true
      · have hc : namesM (x :: xs) = x.name :: namesM xs := by simp [namesM, hx]
        rw [hc, List.nodup_cons] at hd
        have hne : x.name ≠ n.name := fun e => hd.1 (e ▸ hm)
        rw [if_neg (by simp [isN, hne])]
        rw [names_find xs hd.2 i n h hk]
        rfl
      · have hc : namesM (x :: xs) = namesM xs := by simp [namesM, hx]
        rw [hc] at hd
        rw [if_neg (by simp [isN, hx])]
        rw [names_find xs hd i n h hk]
        rfl
theorem right_find {s : ST} (h : rightM s = true) {i : Nat} {n : NT} (hn : s.nodes[i]? = some n) (hk : namedK n.kind = true) : findM s n.name = (i : Int) := by
  unfold rightM diffM at h
  simp only [Bool.and_eq_true, decide_eq_true_eq] at h
  unfold findM
  rw [names_find s.nodes h.2.2.2 i n hn hk]

end Go.Proofs.YtmmffaelkoinlaaGreatDoor
