/- Texts that lead to the law BuildBuilds, joined. -/
import Derived.Test.YthkofkaocipomaaGreatDoorPkBuildBuildsA
import Derived.Test.YthkofkaocipomaaGreatDoorPkBuildBuildsXShelf
import Derived.Test.YthkofkaocipomaaGreatDoorPkBuildBuildsXAbB
import Derived.Test.YthkofkaocipomaaGreatDoorPkBuildBuildsXAc
import Derived.Laws.CopyOwn
namespace Go.Proofs.YthkofkaocipomaaGreatDoor
set_option maxRecDepth 100000
set_option maxHeartbeats 6400000
open Go.RowKit
set_option linter.unusedVariables false
set_option linter.unusedSimpArgs false

/-! Names by their last dot. -/
def sp1 : List UInt8 → List UInt8 × List (List UInt8)
 | [] => ([], [])
 | c :: cs => if c = 46 then ([], (sp1 cs).1 :: (sp1 cs).2) else (c :: (sp1 cs).1, (sp1 cs).2)
def okF (s : List UInt8) : Bool := q4e (sp1 s).1 && (sp1 s).2.all q4e
theorem j7z : ∀ t : List UInt8, 46 ∉ t → sp1 t = (t, [])
 | [], _ => rfl
 | c :: cs, h => by
   have hc : c ≠ 46 := fun e => h (e ▸ List.mem_cons_self)
   rw [sp1, if_neg hc, j7z cs fun hm => h (List.mem_cons_of_mem _ hm)]
theorem sp1_dot {t : List UInt8} (ht : 46 ∉ t) : ∀ s : List UInt8, sp1 (s ++ 46 :: t) = ((sp1 s).1, (sp1 s).2 ++ [t])
 | [] => by
   have e : sp1 (46 :: t) = ([], (sp1 t).1 :: (sp1 t).2) := by rw [sp1.eq_2, if_pos rfl]
   rw [List.nil_append, e, j7z t ht]
   rfl
 | c :: cs => by
   rw [List.cons_append, sp1, sp1, sp1_dot ht cs]
   split
   · rfl
   · rfl
theorem okF_none {t : List UInt8} (h : 46 ∉ t) : okF t = q4e t := by
 rw [okF, j7z t h]
 simp
theorem okF_dot {t : List UInt8} (ht : 46 ∉ t) (s : List UInt8) : okF (s ++ 46 :: t) = (okF s && q4e t) := by
 rw [okF, sp1_dot ht, okF]
 simp [List.all_append, Bool.and_assoc]
theorem z2o : ∀ s : List UInt8, (sp1 s).1 = s.takeWhile (· != 46) ∧ (sp1 s).2 = match s.dropWhile (· != 46) with | [] => [] | _ :: r => (sp1 r).1 :: (sp1 r).2
 | [] => ⟨rfl, rfl⟩
 | c :: cs => by
   obtain ⟨h1, h2⟩ := z2o cs
   by_cases h : c = 46
   · subst h
     exact ⟨by simp [sp1], by simp [sp1]⟩
   · have hb : (c != 46) = true := by simp [h]
     rw [sp1, if_neg h, List.takeWhile_cons, List.dropWhile_cons, if_pos hb, if_pos hb]
     exact ⟨by rw [h1], h2⟩
theorem z0g : ∀ (n : Nat) (s : List UInt8), s.length < n → q54 n s = okF s
 | 0, _, h => by omega
 | n + 1, s, h => by
   obtain ⟨h1, h2⟩ := z2o s
   rw [q54, okF, h1, h2]
   congr 1
   have hd : (s.dropWhile (· != 46)).length ≤ s.length := (List.dropWhile_sublist _).length_le
   cases hr : s.dropWhile (· != 46) with
   | nil => rfl
   | cons x r =>
     rw [hr] at hd
     simp at hd
     simp only []
     rw [z0g n r (by omega), List.all_cons]
     rfl
theorem fullM_ok (s : List UInt8) : q4u s = (decide (s.length ≤ 100) && okF s) := by rw [q4u, z0g _ s (by omega)]
def dotA : Nat → Int → List UInt8 → Int
 | _, a, [] => a
 | i, a, c :: cs => dotA (i + 1) (if c = 46 then (i : Int) else a) cs
def dotI (s : List UInt8) : Int := dotA 0 (-1) s
theorem j9q : ∀ (l : List UInt8) (i : Nat) (a : Int), (46 ∉ l ∧ dotA i a l = a) ∨ ∃ j : Nat, j < l.length ∧ l[j]? = some 46 ∧ 46 ∉ l.drop (j + 1) ∧ dotA i a l = ((i + j : Nat) : Int)
 | [], i, a => .inl ⟨by simp, rfl⟩
 | c :: cs, i, a => by
   rw [dotA]
   rcases j9q cs (i + 1) (if c = 46 then (i : Int) else a) with ⟨h1, h2⟩ | ⟨j, h0, h1, h2, h3⟩
   · by_cases hc : c = 46
     · rw [if_pos hc] at h2 ⊢
       exact .inr ⟨0, by simp, by simp [hc], by simpa using h1, by rw [h2]; simp⟩
     · rw [if_neg hc] at h2 ⊢
       refine .inl ⟨?_, h2⟩
       intro hm
       rcases List.mem_cons.1 hm with e | hm
       · exact hc e.symm
       · exact h1 hm
   · exact .inr ⟨j + 1, by simp; omega, by simpa using h1, by simpa using h2, by rw [h3]; congr 1; omega⟩
theorem j14 (l : List UInt8) : (46 ∉ l ∧ dotI l = -1) ∨ ∃ j : Nat, j < l.length ∧ dotI l = (j : Int) ∧ l = l.take j ++ 46 :: l.drop (j + 1) ∧ 46 ∉ l.drop (j + 1) := by
 rcases j9q l 0 (-1) with h | ⟨j, h0, h1, h2, h3⟩
 · exact .inl h
 · refine .inr ⟨j, h0, by rw [dotI, h3]; simp, ?_, h2⟩
   obtain ⟨hlt, he⟩ := List.getElem?_eq_some_iff.1 h1
   conv => lhs; rw [← List.take_append_drop j l, List.drop_eq_getElem_cons hlt, he]
/-! Nodes that are met. -/
/-! Weights by rounds. -/
def wAt (l : List Int) (q : Nat) : Int := match l[q]? with | some n => n | none => 1
theorem j5q {l : List Int} {p : Nat} {v : Int} (h : l[p]? = some v) : wAt l p = v := by rw [wAt, h]
def q14 (ns : List NT) (l : List Int) : List Int := (List.range ns.length).map fun p => q2a (wAt l) (q15 ns p) 1
def WOk (ns : List NT) (l : List Int) : Prop := l.length = ns.length ∧ (∀ x ∈ l, 1 ≤ x ∧ x ≤ 1001) ∧ ∀ p, p < ns.length → wAt l p ≤ q2a (wAt l) (q15 ns p) 1
theorem j8g {ns : List NT} {l : List Int} {p : Nat} (h : p < ns.length) : (q14 ns l)[p]? = some (q2a (wAt l) (q15 ns p) 1) := by
 unfold q14
 rw [List.getElem?_map, List.getElem?_range h]
 rfl
theorem j5s {ns : List NT} {l : List Int} {p : Nat} (h : p < ns.length) : wAt (q14 ns l) p = q2a (wAt l) (q15 ns p) 1 := j5q (j8g h)
theorem j5r {l : List Int} (h : ∀ x ∈ l, 1 ≤ x ∧ x ≤ 1001) (q : Nat) : 1 ≤ wAt l q ∧ wAt l q ≤ 1001 := by
 unfold wAt
 split
 · rename_i n hn
   exact h n (List.mem_of_getElem? hn)
 · exact ⟨by decide, by decide⟩
theorem wok_one (ns : List NT) : WOk ns (List.replicate ns.length 1) := by
 have hr : ∀ x ∈ List.replicate ns.length (1 : Int), 1 ≤ x ∧ x ≤ 1001 := fun x hx => by
  obtain rfl := (List.mem_replicate.1 hx).2
  exact ⟨by decide, by decide⟩
 refine ⟨by simp, hr, fun p hp => ?_⟩
 have : wAt (List.replicate ns.length 1) p = 1 := j5q (by rw [List.getElem?_replicate, if_pos hp])
 rw [this]
 exact q8o (fun q => (j5r hr q).1) _ _ (by decide)
theorem z3r {ns : List NT} {l : List Int} (h : WOk ns l) : WOk ns (q14 ns l) := by
 obtain ⟨h1, h2, h3⟩ := h
 have hr : ∀ x ∈ q14 ns l, 1 ≤ x ∧ x ≤ 1001 := fun x hx => by
  unfold q14 at hx
  obtain ⟨p, _, rfl⟩ := List.mem_map.1 hx
  exact ⟨q8o (fun q => (j5r h2 q).1) _ _ (by decide), j3b _ _ (by decide)⟩
 refine ⟨by simp [q14], hr, fun p hp => ?_⟩
 rw [j5s hp]
 refine j6l (fun q => ?_) _ _ _ (Int.le_refl _)
 by_cases hq : q < ns.length
 · rw [j5s hq]
   exact h3 q hq
 · have e1 : wAt l q = 1 := by rw [wAt, List.getElem?_eq_none (by omega)]
   have e2 : wAt (q14 ns l) q = 1 := by rw [wAt, List.getElem?_eq_none (by simp [q14]; omega)]
   omega
def q6z : List Int → Nat
 | [] => 0
 | x :: xs => (1001 - x).toNat + q6z xs
theorem z3p : ∀ (l l' : List Int), l.length = l'.length → (∀ p, wAt l p ≤ wAt l' p) → q6z l' ≤ q6z l
 | [], [], _, _ => Nat.le_refl _
 | x :: xs, y :: ys, hl, h => by
   have h0 := h 0
   have := z3p xs ys (by simpa using hl) fun p => h (p + 1)
   simp [wAt] at h0
   simp only [q6z]
   omega
theorem z3q : ∀ (l l' : List Int), l.length = l'.length → (∀ p, wAt l p ≤ wAt l' p) → (∀ x ∈ l', x ≤ 1001) → l ≠ l' → q6z l' < q6z l
 | [], [], _, _, _, h => absurd rfl h
 | x :: xs, y :: ys, hl, h, hb, hne => by
   have h0 := h 0
   have hy := hb y (by simp)
   have hle := z3p xs ys (by simpa using hl) fun p => h (p + 1)
   simp [wAt] at h0
   simp only [q6z]
   by_cases hx : x = y
   · have := z3q xs ys (by simpa using hl) (fun p => h (p + 1)) (fun z hz => hb z (by simp [hz])) fun e => hne (by rw [hx, e])
     omega
   · omega
theorem z7x {ns : List NT} {l : List Int} (h : WOk ns l) (hne : q14 ns l ≠ l) : q6z (q14 ns l) < q6z l := by
 refine z3q l _ (by simp [q14, h.1]) (fun p => ?_) (fun x hx => ((z3r h).2.1 x hx).2) fun e => hne e.symm
 by_cases hp : p < ns.length
 · rw [j5s hp]
   exact h.2.2 p hp
 · rw [wAt, List.getElem?_eq_none (by have := h.1; omega), wAt, List.getElem?_eq_none (by simp [q14]; omega)]
   exact Int.le_refl _
theorem z0b {g : Nat → Int} (hg : ∀ q, 1 ≤ g q) : ∀ (xs : List FT) (n : Int), 1 ≤ n → n ≤ 1001 → q2a g xs n < 1001 → ∀ x ∈ xs, g x.type.toNat < q2a g xs n
 | [], n, _, _, _, x, hx => by simp at hx
 | y :: ys, n, h1, h2, h, x, hx => by
   rw [q2a] at h ⊢
   have hgy := hg y.type.toNat
   rcases List.mem_cons.1 hx with rfl | hx
   · have := q8o hg ys (min (n + g x.type.toNat) 1001) (by omega)
     omega
   · exact z0b hg ys _ (by omega) (by omega) h x hx
theorem fix_le {ns : List NT} {G H : Nat → Int} (hG : ∀ p, 1 ≤ G p ∧ G p ≤ 1001) (hH : ∀ p, 1 ≤ H p ∧ H p ≤ 1001) (fG : ∀ p, p < ns.length → G p = q2a G (q15 ns p) 1) (fH : ∀ p, p < ns.length → H p = q2a H (q15 ns p) 1)
  (hr : ∀ p, ∀ x ∈ q15 ns p, x.type.toNat < ns.length) : ∀ (m : Nat) (p : Nat), p < ns.length → G p < 1001 → G p ≤ (m : Int) → H p = G p
 | 0, p, _, _, h => by have := (hG p).1; omega
 | m + 1, p, hp, h1, h2 => by
   rw [fG p hp] at h1 h2 ⊢
   rw [fH p hp]
   refine z0a _ _ fun x hx => ?_
   have := z0b (fun q => (hG q).1) (q15 ns p) 1 (by decide) (by decide) h1 x hx
   exact fix_le hG hH fG fH hr m _ (hr p x hx) (by omega) (by omega)
theorem fix_one {ns : List NT} {G H : Nat → Int} (hG : ∀ p, 1 ≤ G p ∧ G p ≤ 1001) (hH : ∀ p, 1 ≤ H p ∧ H p ≤ 1001) (fG : ∀ p, p < ns.length → G p = q2a G (q15 ns p) 1) (fH : ∀ p, p < ns.length → H p = q2a H (q15 ns p) 1)
  (hr : ∀ p, ∀ x ∈ q15 ns p, x.type.toNat < ns.length) (p : Nat) (hp : p < ns.length) : H p = G p := by
 by_cases h1 : G p < 1001
 · exact fix_le hG hH fG fH hr 1001 p hp h1 (hG p).2
 · by_cases h2 : H p < 1001
   · exact (fix_le hH hG fH fG hr 1001 p hp h2 (hH p).2).symm
   · have := (hG p).2
     have := (hH p).2
     omega
theorem wok_G {ns : List NT} {G : Nat → Int} {l : List Int} (hG : IsG ns G) (hr : ∀ p, ∀ x ∈ q15 ns p, x.type.toNat < ns.length) (h : WOk ns l) (he : q14 ns l = l) (p : Nat) (hp : p < ns.length) : l[p]? = some (G p) := by
 have hlt : p < l.length := by rw [h.1]; exact hp
 have e : l[p]? = some (wAt l p) := by
  rw [List.getElem?_eq_getElem hlt]
  congr 1
  exact (j5q (List.getElem?_eq_getElem hlt)).symm
 rw [e]
 congr 1
 exact fix_one hG.range (fun q => j5r h.2.1 q) hG.fix (fun q hq => by rw [← j5s hq, he]) hr p hp

def q89 (s : List UInt8) : JT := .mk 4 0 s [] []
def listJ (l : List JT) : JT := .mk 5 0 [] [] l
def objJ (l : List (List UInt8 × JT)) : JT := .mk 6 0 [] (l.map Prod.fst) (l.map Prod.snd)
def q1n (s : List UInt8) : List UInt8 := s.take (dotI s).toNat
def q0x : List UInt8 := [110, 97, 109, 101]
def q0k : List UInt8 := [116, 121, 112, 101]
def q1d : List UInt8 := [110, 97, 109, 101, 115, 112, 97, 99, 101]
def q0z : List UInt8 := [97, 108, 105, 97, 115, 101, 115]
def q1q : List UInt8 := [100, 101, 102, 97, 117, 108, 116]
def q0q : List UInt8 := [102, 105, 101, 108, 100, 115]
def q1j : List UInt8 := [115, 121, 109, 98, 111, 108, 115]
def q1z : List UInt8 := [115, 105, 122, 101]
def q61 : List UInt8 := [105, 116, 101, 109, 115]
def q62 : List UInt8 := [118, 97, 108, 117, 101, 115]
theorem dotI_no {s : List UInt8} (h : 46 ∉ s) : dotI s = -1 := by
 rcases j14 s with ⟨_, h2⟩ | ⟨j, hj, h2, h3, h4⟩
 · exact h2
 · exact absurd (by rw [h3]; simp) h
theorem dotI_at {s : List UInt8} {j : Nat} (h : s[j]? = some 46) (hd : 46 ∉ s.drop (j + 1)) : dotI s = (j : Int) := by
 rcases j14 s with ⟨h1, _⟩ | ⟨i, hi, h2, h3, h4⟩
 · exact absurd (List.mem_of_getElem? h) h1
 · rw [h2]
   have hx : s[i]? = some 46 := by
    have e : s[i]? = (s.take i ++ 46 :: s.drop (i + 1))[i]? := congrArg (fun l => l[i]?) h3
    rw [e, List.getElem?_append_right (by simp; omega)]
    simp [Nat.min_eq_left (Nat.le_of_lt hi)]
   have key : ∀ a b : Nat, s[b]? = some 46 → 46 ∉ s.drop (a + 1) → ¬ a < b := fun a b hb ha hlt => by
    apply ha
    apply List.mem_of_getElem? (i := b - (a + 1))
    rw [List.getElem?_drop, show a + 1 + (b - (a + 1)) = b by omega]
    exact hb
   have k1 := key j i hx hd
   have k2 := key i j h h4
   omega
theorem z2q {s : List UInt8} (h : dotI s = -1) : q1n s = [] := by rw [q1n, h]; simp
theorem z2p {s : List UInt8} {j : Nat} (h : dotI s = (j : Int)) : q1n s = s.take j := by rw [q1n, h]; simp

abbrev HN := Int × List UInt8
def q0p (n : NT) : HN := (n.kind, n.name)
def isH (name : List UInt8) (h : HN) : Bool := q1w h.1 && h.2 == name
def q19 (hs : List HN) (name : List UInt8) : Int := match hs.findIdx? (isH name) with | some i => (i : Int) | none => -1
def q2r (hs : List HN) (k : Nat) : Int := match hs[k]? with | some h => h.1 | none => 0
def q1e (sp name : List UInt8) : Option (List UInt8) :=
 if 0 ≤ dotI name then (if q4u name = true then some name else none)
 else if q1h name = false then none
 else if sp = [] then (if q4u name = true then some name else none)
 else if q4u (sp ++ 46 :: name) = true then some (sp ++ 46 :: name) else none
abbrev BR := Except Int
def q7g (j : JT) (key : List UInt8) : BR (List UInt8) := match jget j key with
 | some x => if x.kd = 4 then .ok x.txt else .error 30
 | none => .error 30
def tlB : List JT → BR (List (List UInt8))
 | [] => .ok []
 | x :: xs => if x.kd = 4 then (match tlB xs with | .ok l => .ok (x.txt :: l) | .error e => .error e) else .error 30
def q7s (x : JT) : BR (List (List UInt8)) := if x.kd ≠ 5 then .error 30 else match tlB x.its with
 | .ok l => if 40 < l.length then .error 3 else .ok l
 | .error e => .error e
def mapB (full : List UInt8 → Option (List UInt8)) : List (List UInt8) → BR (List (List UInt8))
 | [] => .ok []
 | s :: l => match full s with
   | none => .error 31
   | some t => match mapB full l with | .ok r => .ok (t :: r) | .error e => .error e
def q7k (full : List UInt8 → Option (List UInt8)) (j : JT) : BR (List (List UInt8)) := match jget j q0z with
 | none => .ok []
 | some x => match q7s x with | .ok l => mapB full l | .error e => .error e
def q3k (hs : List HN) (n : NT) : BR (List NT × Int) := if 200 ≤ hs.length then .error 3 else .ok ([n], (hs.length : Int))
def q1g (k : Int) : NT := ⟨k, [], [], [], [], false, [], 0, 0, []⟩
def q5h (hs : List HN) (w a : List UInt8) : BR (List NT × Int) :=
 if 1 ≤ q0h w ∧ q0h w ≤ 8 then q3k hs (q1g (q0h w)) else match q1e a w with
 | none => .error 31
 | some f => if q19 hs f < 0 then .error 33 else .ok ([], q19 hs f)
def j5m (j : JT) (a : List UInt8) : BR (List UInt8) := match jget j q1d with | none => .ok a | some _ => q7g j q1d
def selfM (s : List UInt8) : Option (List UInt8) := if q1h s = true then some s else none
def q64 (hs : List HN) (j : JT) (k : Int) (a : List UInt8) : BR NT := match q7g j q0x with
 | .error e => .error e
 | .ok name => match j5m j a with
   | .error e => .error e
   | .ok sp => match q1e sp name with
     | none => .error 31
     | some f => if q0h f ≠ 0 then .error 31 else if 0 ≤ q19 hs f then .error 32 else match q7k (q1e (q1n f)) j with
       | .error e => .error e
       | .ok l => .ok ⟨k, f, l, [], [], false, [], 0, 0, []⟩
def q8n (x : JT) (l : List FT) : BR FT := if x.kd ≠ 6 then .error 30 else match q7g x q0x with
 | .error e => .error e
 | .ok name => if q1h name = false then .error 31 else if (l.any fun f => f.name == name) = true then .error 36 else match q7k selfM x with
   | .error e => .error e
   | .ok a => if (jget x q0k).isNone then .error 30 else .ok ⟨name, a, 0, (jget x q1q).isSome, (jget x q1q).getD q39⟩
def q4f (hs : List HN) (l : List Int) (k : Int) : Bool := q2r hs k.toNat != 13 && !l.any fun o => o == k || (!q1w (q2r hs k.toNat) && q2r hs o.toNat == q2r hs k.toNat)
abbrev q18 := List HN → JT → List UInt8 → BR (List NT × Int)
def q3f (f : q18) (hs : List HN) (a : List UInt8) : List JT → List Int → List NT → BR (List Int × List NT)
 | [], ks, new => .ok (ks, new)
 | x :: xs, ks, new => match f (hs ++ new.map q0p) x a with
   | .error e => .error e
   | .ok (m, k) => if q4f (hs ++ (new ++ m).map q0p) ks k = true then q3f f hs a xs (ks ++ [k]) (new ++ m) else .error 34
def q3d (f : q18) (hs : List HN) (a : List UInt8) : List JT → List FT → List NT → BR (List FT × List NT)
 | [], fs, new => .ok (fs, new)
 | x :: xs, fs, new => match q8n x fs with
   | .error e => .error e
   | .ok g => match f (hs ++ new.map q0p) ((jget x q0k).getD q39) a with
     | .error e => .error e
     | .ok (m, k) => q3d f hs a xs (fs ++ [{ g with type := k }]) (new ++ m)
def q3p : List (List UInt8) → List (List UInt8) → BR Unit
 | _, [] => .ok ()
 | done, s :: l => if q1h s = false then .error 31 else if s ∈ done then .error 36 else q3p (done ++ [s]) l
def q63 (hs : List HN) (j : JT) (n : NT) : BR (List NT × Int) := match q7s ((jget j q1j).getD q39) with
 | .error e => .error e
 | .ok l => if l = [] then .error 30 else match q3p [] l with
   | .error e => .error e
   | .ok _ => match jget j q1q with
     | none => q3k hs { n with symbols := l }
     | some _ => match q7g j q1q with
       | .error e => .error e
       | .ok d => if d ∈ l then q3k hs { n with symbols := l, has := true, dflt := d } else .error 35
def q7n (hs : List HN) (j : JT) (n : NT) : BR (List NT × Int) :=
 if ((jget j q1z).getD q39).kd ≠ 3 then .error 30 else if ((jget j q1z).getD q39).num < 0 ∨ 1000 < ((jget j q1z).getD q39).num then .error 3 else q3k hs { n with size := ((jget j q1z).getD q39).num }
def q6r (f : q18) (hs : List HN) (j : JT) (n : NT) : BR (List NT × Int) :=
 if ((jget j q0q).getD q39).kd ≠ 5 then .error 30 else if 40 < ((jget j q0q).getD q39).its.length then .error 3 else if 200 ≤ hs.length then .error 3
 else match q3d f (hs ++ [q0p n]) (q1n n.name) ((jget j q0q).getD q39).its [] [] with
  | .error e => .error e
  | .ok (fs, new) => .ok ({ n with fields := fs } :: new, (hs.length : Int))
def q6d (f : q18) (hs : List HN) (l : List JT) (a : List UInt8) : BR (List NT × Int) :=
 if l.length < 1 ∨ 10 < l.length then .error 34 else if 200 ≤ hs.length then .error 3
 else match q3f f (hs ++ [(13, [])]) a l [] [] with
  | .error e => .error e
  | .ok (ks, new) => .ok ({ q1g 13 with branches := ks } :: new, (hs.length : Int))
def q5o (f : q18) (hs : List HN) (j : JT) (k : Int) (key a : List UInt8) : BR (List NT × Int) := match jget j key with
 | none => .error 30
 | some x => if 200 ≤ hs.length then .error 3 else match f (hs ++ [(k, [])]) x a with
   | .error e => .error e
   | .ok (new, i) => .ok ({ q1g k with items := i } :: new, (hs.length : Int))
def q5p (f : q18) (hs : List HN) (j : JT) (a : List UInt8) : BR (List NT × Int) := match q7g j q0k with
 | .error e => .error e
 | .ok w => if q0h w = 11 then q5o f hs j 11 q61 a else if q0h w = 12 then q5o f hs j 12 q62 a
   else if q1w (q0h w) = true then (match q64 hs j (q0h w) a with
    | .error e => .error e
    | .ok n => if q0h w = 9 then q6r f hs j n else if q0h w = 10 then q63 hs j n else q7n hs j n)
   else q5h hs w a
def q3e : Nat → q18
 | 0 => fun _ _ _ => .error 30
 | d + 1 => fun hs j a => if j.kd = 4 then q5h hs j.txt a else if j.kd = 5 then q6d (q3e d) hs j.its a else if j.kd = 6 then q5p (q3e d) hs j a else .error 30
noncomputable def q49 (j : JT) : BR ST := if jR j = true then (match q3e 33 [] j [] with | .error e => .error e | .ok (ns, _) => .ok ⟨ns, 0⟩) else .error 2
section
attribute [local go_sem] opx opE ev okx q5a bnd okO AV.get AV.okb cAV q8a q83 q82 j1w q60 q8z q8y st q8h q50 q8j q8k q8i binV binI binS q4s q5j q5b q5k unV q5w q4a q3m q00 q2d Blkd.len setE grown q1r q4x q3n q26 pv q41 q3t q4o AV.cellish AV.pureL AV.pureB q8w q8m AV.ren AV.renL q85 Blkd.ren rho wrM renN q2w rhoE q4m q4t q75 q78 j1b j1e j1i j1n j1q q7i q9a q9f q9g q9l q9p q9r q9s q9t q9y q93 q98 q76 q77 j0e q7h j0j j0k j0m j0n j08 j09 j1a j1c j1d j1f j1g j1h j1j j1k j1l j1m j1o j1p j1r j1s j1t j1u j1v q9b q9c q9d q9e q9h q9i q9j q9k q9m q9n q9o q9q q9u q9v q9w q9x q9z q90 q91 q92 q94 q95 q96 q97 q99 j0a j0b j0c j0d j0f j0g j0h j0i j0l j0o j0p j0q j0r j0s j0t j0u j0v j0w j0x j0y j0z j00 j01 j02 j03 j04 j05 j06 j07 Option.map_some Option.map_none Option.getD_some Option.getD_none Option.bind_some Option.bind_none List.getElem?_cons_zero List.getElem?_cons_succ List.getElem?_nil List.getElem?_toArray List.length_cons List.length_nil List.length_map List.forall_mem_map List.map_cons List.map_nil List.drop_zero List.drop_succ_cons List.drop_nil List.take_zero List.take_succ_cons List.take_nil List.mem_cons List.not_mem_nil or_false forall_eq_or_imp forall_eq List.set_cons_zero List.set_cons_succ List.cons_append List.nil_append List.append_nil List.foldl_cons List.foldl_nil List.replicate_succ List.replicate_zero List.all_cons List.all_nil if_true if_false Bool.false_eq_true ne_eq not_false_eq_true not_true_eq_false true_and and_true and_self true_implies imp_self implies_true forall_const beq_self_eq_true Bool.and_true Bool.true_and Bool.and_false Bool.false_and Bool.or_true Bool.true_or Bool.or_false Bool.false_or Bool.not_true Bool.not_false Bool.not_eq_eq_eq_not q55 Value.oneCell' Int.toNat_natCast beq_true beq_false Bool.not_eq_true false_implies false_or true_or or_true Nat.zero_add Nat.add_zero decide_true decide_false Int.cast_ofNat_Int Int.toNat_zero Int.toNat_one eq_self

def wB (ns : List NT) (r : Int) (p : Nat) : Blkd := ⟨false, 123, 3, [[.c (.sl 10 (ns.map NT.cells)), .c (.v (.int .i64 r)), .c (.v (.int .i64 (p : Int)))]]⟩
theorem kids_len {n : NT} (h : n.sm 1000000) : (q28 n).length ≤ 1000000 := by
 unfold q28
 have h1 := h.2.2.2.2.1
 have h2 := h.2.2.2.2.2.1
 split
 · simpa using h2
 · split
   · simp
   · split
     · exact h1
     · simp
theorem j9r {α : Type} {l : List α} {i : Nat} {x : α} (h : l[i]? = some x) : l.drop i = x :: l.drop (i + 1) := by
 obtain ⟨hlt, rfl⟩ := List.getElem?_eq_some_iff.1 h
 exact List.drop_eq_getElem_cons hlt
theorem walk_told (ns : List NT) (r : Int) (hl : ns.length ≤ 1000000) (hs : ∀ n ∈ ns, n.sm 1000000) : ∀ (d : Nat) (z : Int), z = 33 - (d : Int) → d ≤ 33 → ∀ p : Nat, p ≤ ns.length →
  ToldM Tryz.prog 91 [.ref 1000000 1 0 0, .c (.v (.int .i64 z))] [wB ns r p] [some (wB ns r (q21 ns d p).2)] (.c (.v (.bool (q21 ns d p).1))) := by
 intro d
 induction d with
 | zero =>
   intro z hz hd p hp
   have hz2 : decide (z > 32) = true := by simp; omega
   rw [q21]
   unfold wB
   refine VC.toldX ent_91 [] Tryz.func91 rfl Tryz.ntmps91 fun hb hbL => ?_
   clear hb hbL
   refine q0d (hz2) ?_
   refine VC.cond (by rfl) (by trivial) (fun hc => ?_) (fun hc => ?_)
   · refine q0c ?_
     refine retX Tryz.results91 ?_
     exact .c _
   · exact absurd hc (by simp)
 | succ d ih =>
   intro z hz hd p hp
   have hz2 : decide (z > 32) = false := by simp; omega
   have hwz : IntKind.i64.wrap (z + 1) = z + 1 := q0w (by omega) (by omega)
   have hI := ih (z + 1) (by omega) (by omega)
   clear ih
   obtain ⟨R, hR⟩ : ∃ R, R = q21 ns (d + 1) p := ⟨_, rfl⟩
   rw [← hR]
   rw [q21] at hR
   have hle := z3j ns d
   by_cases hlt : p < ns.length
   · obtain ⟨n, hn⟩ : ∃ n, ns[p]? = some n := ⟨ns[p], List.getElem?_eq_getElem hlt⟩
     have hnp : (ns.map NT.cells)[p]? = some n.cells := by rw [List.getElem?_map, hn]; rfl
     have hge : decide ((p : Int) ≥ (ns.length : Int)) = false := by simp; omega
     have hwp : IntKind.i64.wrap ((p : Int) + 1) = ((p + 1 : Nat) : Int) := by rw [q0w (by omega) (by omega)]; rfl
     have hns := hs n (List.mem_of_getElem? hn)
     have hK := kids_told n hns
     have hkl := kids_len hns
     rw [hn] at hR
     simp only [] at hR
     obtain ⟨ks, hks⟩ : ∃ ks, ks = q28 n := ⟨_, rfl⟩
     rw [← hks] at hK hR hkl
     simp only [NT.av_eq] at hK
     clear hks
     have hKi := hK
     clear hK
     unfold wB at hI ⊢
     refine VC.toldX ent_91 [] Tryz.func91 rfl Tryz.ntmps91 fun hb hbL => ?_
     clear hb hbL
     refine q0d (And.intro hge hz2) ?_
     refine VC.cond (by rfl) (by trivial) (fun hc => ?_) (fun hc => ?_)
     · exact absurd hc (by simp)
     refine q0d (And.intro hwp (And.intro hnp (And.intro @z5g (And.intro @z60 @z61)))) ?_
     refine q33 (@q20) (hKi) ?_
     refine q0c ?_
     clear hKi
     refine VC.loop (ι := {x : Nat × Nat // x.1 ≤ ks.length ∧ x.2 ≤ ns.length ∧ q3x ns (q21 ns d) (ks.drop x.1) x.2 = R})
      (fun q => [(0, .ref 1000000 1 0 0), (1, .c (.v (.int .i64 z))), (6, .fn (.func 91) [.ref 1000000 1 0 0] []), (42, .c (.sl 1 (ks.map iPV))), (43, .c (.v (.int .i64 (ks.length : Int)))), (44, .c (.v (.int .i64 (q.1.1 : Int))))])
      (fun q => [(1000000, ⟨false, 123, 3, [[.c (.sl 10 (ns.map NT.cells)), .c (.v (.int .i64 r)), .c (.v (.int .i64 (q.1.2 : Int)))]]⟩)]) 800 (fun q => ks.length - q.1.1) ⟨(0, p + 1), Nat.zero_le _, hlt, by rw [List.drop_zero]; exact hR.symm⟩ ?_ ?_
     · simp only [Weak, eq_self, q09, q03, sc_c, q05, q06, q07, q02, q04, ScL, q08, List.forall_mem_map, go_sem, Int.reduceBEq, Int.reduceLE, Int.reduceLT, Int.reduceNeg, Nat.reduceAdd, Nat.reduceEqDiff, Nat.reduceLT, Nat.reduceLeDiff, Nat.reduceMul, Nat.reduceSub, reduceCtorEq, ↓reduceIte]
       try simp
     clear hR
     rintro ⟨⟨i, q⟩, hi, hq, hR⟩
     simp only [] at hi hq hR ⊢
     refine q0c ?_
     refine VC.cond (by rfl) (by trivial) (fun hc2 => ?_) (fun hc2 => ?_)
     · have hil : i < ks.length := by simp at hc2; omega
       obtain ⟨x, hx⟩ : ∃ x, ks[i]? = some x := ⟨ks[i], List.getElem?_eq_getElem hil⟩
       have hxp : (ks.map iPV)[i]? = some (iPV x) := by rw [List.getElem?_map, hx]; rfl
       have hw : IntKind.i64.wrap ((i : Int) + 1) = (i : Int) + 1 := q0w (by omega) (by omega)
       rw [j9r hx, q3x] at hR
       by_cases hk : x = (q : Int)
       · rw [if_pos hk] at hR
         have hkq : (x == (q : Int)) = true := by simpa using hk
         have hIq := hI q hq
         have hqb := (hle q hq).2
         obtain ⟨M, hM⟩ : ∃ M, M = q21 ns d q := ⟨_, rfl⟩
         rw [← hM] at hIq hR hqb
         clear hI hM
         refine q0f (And.intro hxp (And.intro @q66 (And.intro hkq hwz))) ?_
         refine walkL [1000000] (hIq) ?_
         refine q0c ?_
         refine VC.cond (by rfl) (by trivial) (fun hc3 => ?_) (fun hc3 => ?_)
         · have hf : R = (false, M.2) := by
            rw [if_neg (by simpa using hc3)] at hR
            exact hR.symm
           subst hf
           refine q0c ?_
           refine retX Tryz.results91 ?_
           exact .c _
         · rw [if_pos (by simpa using hc3)] at hR
           refine q0d (hw) ?_
           refine .next ⟨(i + 1, M.2), by simp only []; omega, hqb, hR⟩ ?_ (by simp only []; omega)
           simp only [Weak, eq_self, q09, q03, sc_c, q05, q06, q07, q02, q04, ScL, q08, List.forall_mem_map, go_sem, Int.reduceBEq, Int.reduceLE, Int.reduceLT, Int.reduceNeg, Nat.reduceAdd, Nat.reduceEqDiff, Nat.reduceLT, Nat.reduceLeDiff, Nat.reduceMul, Nat.reduceSub, reduceCtorEq, ↓reduceIte]
           try exact cI (by omega)
       · rw [if_neg hk] at hR
         have hkq : (x == (q : Int)) = false := by simpa using hk
         by_cases hx0 : x < 0
         · have hf : R = (false, q) := by
            rw [if_pos (.inl hx0)] at hR
            exact hR.symm
           subst hf
           have e0 : decide (x < 0) = true := by simpa using hx0
           refine q0f (And.intro hxp (And.intro @q66 (And.intro hkq e0))) ?_
           refine retX Tryz.results91 ?_
           exact .c _
         have e0 : decide (x < 0) = false := by simpa using hx0
         by_cases hxq : x > (q : Int)
         · have hf : R = (false, q) := by
            rw [if_pos (.inr (.inl hxq))] at hR
            exact hR.symm
           subst hf
           have e1 : decide (x > (q : Int)) = true := by simpa using hxq
           refine q0f (And.intro hxp (And.intro @q66 (And.intro hkq (And.intro e0 e1)))) ?_
           refine retX Tryz.results91 ?_
           exact .c _
         have e1 : decide (x > (q : Int)) = false := by simpa using hxq
         obtain ⟨j, rfl⟩ : ∃ j : Nat, x = (j : Int) := ⟨x.toNat, by omega⟩
         have hj : j < ns.length := by omega
         obtain ⟨m, hm⟩ : ∃ m, ns[j]? = some m := ⟨ns[j], List.getElem?_eq_getElem hj⟩
         have hmp : (ns.map NT.cells)[j]? = some m.cells := by rw [List.getElem?_map, hm]; rfl
         have hka : q6n ns ((j : Int)).toNat = m.kind := by rw [Int.toNat_natCast, q6n, hm]
         rw [hka] at hR
         have hN := j7b m.kind
         refine q0f (And.intro hxp (And.intro @q66 (And.intro hkq (And.intro e0 (And.intro e1 (And.intro hmp @q3w)))))) ?_
         refine q0e (hN) ?_
         refine q0c ?_
         refine VC.cond (by rfl) (by trivial) (fun hc3 => ?_) (fun hc3 => ?_)
         · have hf : R = (false, q) := by
            rw [if_pos (.inr (.inr (by simpa using hc3)))] at hR
            exact hR.symm
           subst hf
           refine q0c ?_
           refine retX Tryz.results91 ?_
           exact .c _
         · have hnn : q1w m.kind = true := by simpa using hc3
           have hno : ¬ ((j : Int) < 0 ∨ (j : Int) > (q : Int) ∨ q1w m.kind = false) := by
            rintro (h | h | h)
            · exact hx0 h
            · exact hxq h
            · rw [hnn] at h
              exact absurd h (by simp)
           rw [if_neg hno] at hR
           refine q0d (hw) ?_
           refine .next ⟨(i + 1, q), by simp only []; omega, hq, hR⟩ ?_ (by simp only []; omega)
           simp only [Weak, eq_self, q09, q03, sc_c, q05, q06, q07, q02, q04, ScL, q08, List.forall_mem_map, go_sem, Int.reduceBEq, Int.reduceLE, Int.reduceLT, Int.reduceNeg, Nat.reduceAdd, Nat.reduceEqDiff, Nat.reduceLT, Nat.reduceLeDiff, Nat.reduceMul, Nat.reduceSub, reduceCtorEq, ↓reduceIte]
           try exact cI (by omega)
     · have hie : i = ks.length := by simp at hc2; omega
       have hf : R = (true, q) := by
        rw [hie, List.drop_length, q3x] at hR
        exact hR.symm
       subst hf
       refine q0c ?_
       refine retX Tryz.results91 ?_
       exact .c _
   · have hR : R = (false, p) := by
      rw [hR, List.getElem?_eq_none (by omega)]
     subst hR
     have hge : decide ((p : Int) ≥ (ns.length : Int)) = true := by simp; omega
     unfold wB
     refine VC.toldX ent_91 [] Tryz.func91 rfl Tryz.ntmps91 fun hb hbL => ?_
     clear hb hbL
     refine q0d (hge) ?_
     refine VC.cond (by rfl) (by trivial) (fun hc => ?_) (fun hc => ?_)
     · refine q0c ?_
       refine retX Tryz.results91 ?_
       exact .c _
     · exact absurd hc (by simp)
theorem z5t (s : ST) (hl : s.nodes.length ≤ 1000000) (hs : ∀ n ∈ s.nodes, n.sm 1000000) : Told Tryz.prog 52 [s.av] (.c (.v (.bool (q5s s)))) := by
 have hW := walk_told s.nodes s.root hl hs 33 0 (by omega) (by omega) 0 (Nat.zero_le _)
 unfold wB at hW
 obtain ⟨V, hV⟩ : ∃ V, V = q5s s := ⟨_, rfl⟩
 rw [← hV]
 unfold q5s at hV
 obtain ⟨M, hM⟩ : ∃ M, M = q21 s.nodes 33 0 := ⟨_, rfl⟩
 rw [← hM] at hV hW
 clear hM
 have hv : V = (decide ((s.nodes.length : Int) > 0) && decide ((s.nodes.length : Int) ≤ 200) && (s.root == 0) && M.1 && ((M.2 : Int) == (s.nodes.length : Int))) := by
  have e1 : decide ((s.nodes.length : Int) > 0) = decide (0 < s.nodes.length) := by simp
  have e2 : decide ((s.nodes.length : Int) ≤ 200) = decide (s.nodes.length ≤ 200) := by simp; omega
  have e3 : (s.root == 0) = decide (s.root = 0) := by by_cases h : s.root = 0 <;> simp [h]
  have e4 : ((M.2 : Int) == (s.nodes.length : Int)) = decide (M.2 = s.nodes.length) := by
   by_cases h : M.2 = s.nodes.length
   · simp [h]
   · have : ¬ ((M.2 : Int) = (s.nodes.length : Int)) := by omega
     simp [h, this]
  rw [hV, e1, e2, e3, e4]
  simp only [Bool.and_assoc]
 clear hV
 replace hv := Lib.hid hv
 rw [ST.av_eq, q2q]
 rw [show ((0 : Nat) : Int) = 0 from rfl] at hW
 by_cases c1 : 0 < s.nodes.length
 · have e1 : decide ((s.nodes.length : Int) > 0) = true := by simpa using c1
   by_cases c2 : s.nodes.length ≤ 200
   · have e2 : decide ((s.nodes.length : Int) ≤ 200) = true := by simp; omega
     by_cases c3 : s.root = 0
     · have e3 : (s.root == 0) = true := by simpa using c3
       have hv2 : V = (M.1 && ((M.2 : Int) == (s.nodes.length : Int))) := by rw [hv.out, e1, e2, e3]; simp
       clear hv
       replace hv2 := Lib.hid hv2
       refine VC.toldP j4g Tryz.func52 rfl Tryz.ntmps52 fun hb => ?_
       clear hb
       refine q0d (And.intro e1 (And.intro e2 e3)) ?_
       refine walkL [32] (hW) ?_
       refine q0c ?_
       refine retX Tryz.results52 ?_
       rw [hv2.out]
       exact .c _
     · have e3 : (s.root == 0) = false := by simpa using c3
       have hv2 : V = false := by rw [hv.out, e3]; simp
       clear hv
       subst hv2
       refine VC.toldP j4g Tryz.func52 rfl Tryz.ntmps52 fun hb => ?_
       clear hb
       refine q0d (And.intro e1 (And.intro e2 e3)) ?_
       refine retX Tryz.results52 ?_
       exact .c _
   · have e2 : decide ((s.nodes.length : Int) ≤ 200) = false := by simp; omega
     have hv2 : V = false := by rw [hv.out, e2]; simp
     clear hv
     subst hv2
     refine VC.toldP j4g Tryz.func52 rfl Tryz.ntmps52 fun hb => ?_
     clear hb
     refine q0d (And.intro e1 e2) ?_
     refine retX Tryz.results52 ?_
     exact .c _
 · have e1 : decide ((s.nodes.length : Int) > 0) = false := by
    rw [show s.nodes.length = 0 by omega]
    rfl
   have hv2 : V = false := by rw [hv.out, e1]; simp
   clear hv
   subst hv2
   refine VC.toldP j4g Tryz.func52 rfl Tryz.ntmps52 fun hb => ?_
   clear hb
   refine q0d (e1) ?_
   refine retX Tryz.results52 ?_
   exact .c _

theorem rA_rep (N : Nat) : rA iPV (List.replicate N 0) = List.replicate N [AV.c (.v (.int .i64 0))] := by
 simp [rA, iPV]
theorem z5r {s : ST} (h : q5s s = true) : ∀ n ∈ s.nodes, ∀ k ∈ q28 n, 0 ≤ k ∧ k < (s.nodes.length : Int) := by
 intro n hn k hk
 obtain ⟨i, hi⟩ := List.getElem?_of_mem hn
 have := (z5s h).1 i n (Nat.zero_le _) (List.getElem?_eq_some_iff.1 hi).1 hi k hk
 exact ⟨this.1, this.2.1⟩

structure EN where
 n : NT
 f : PV
 b : PV
def EN.cells (e : EN) : List PV := [.v (.int .i64 e.n.kind), .v (.string (str e.n.name)), .sl 1 (e.n.aliases.map sPV), e.f, .sl 1 (e.n.symbols.map sPV), .v (.bool e.n.has), .v (.string (str e.n.dflt)), .v (.int .i64 e.n.size), .v (.int .i64 e.n.items), e.b]
def EN.av (e : EN) : AV := .agg (e.cells.map .c)
theorem EN.av_eq (e : EN) : e.av = .agg (e.cells.map .c) := rfl
theorem q2v (e : EN) : e.cells = [.v (.int .i64 e.n.kind), .v (.string (str e.n.name)), .sl 1 (e.n.aliases.map sPV), e.f, .sl 1 (e.n.symbols.map sPV), .v (.bool e.n.has), .v (.string (str e.n.dflt)), .v (.int .i64 e.n.size), .v (.int .i64 e.n.items), e.b] := rfl
theorem j64 (e : EN) : e.cells.length = 10 := rfl
theorem j71 (e : EN) : e.cells.take 10 = e.cells := rfl
theorem j72 (e : EN) : (e.cells.map AV.c).take 10 = e.cells.map .c := rfl
def EN.of (n : NT) : EN := ⟨n, .sl 9 (n.fields.map FT.cells), .sl 1 (n.branches.map iPV)⟩
def isE (name : List UInt8) (e : EN) : Bool := isN name e.n
theorem j97 (es : List EN) (name : List UInt8) : q19 (es.map fun e => q0p e.n) name = idxP (isE name) es := by
 unfold q19 idxP
 rw [List.findIdx?_map]
 rfl
theorem ixfE_told {g : FuncId} {fs cs : List AV} (hp : AV.pureL fs = true) (hp' : AV.pureL cs = true) (l : List EN) (p : EN → Bool) (hk : ∀ x ∈ l, Told Tryz.prog g (fs ++ ([x.av] ++ cs)) (.c (.v (.bool (p x))))) :
  Told Tryz.prog 163 [.c (.sl 10 (l.map EN.cells)), .fn (.func g) fs cs] (.c (.v (.int .i64 (idxP p l)))) := by
 refine VC.told ent_163 Tryz.func163 rfl Tryz.ntmps163 (by simp) (by simp [AV.pureB, AV.pureL, hp, hp']) rfl fun hb => ?_
 simp only [List.mem_cons, List.not_mem_nil, or_false, forall_eq_or_imp, forall_eq, q47, q5d, List.length_map] at hb
 have h1 := hb.1.1
 clear hb
 refine q0c ?_
 refine VC.loop (ι := {i : Nat // i ≤ l.length ∧ ∀ j x, j < i → l[j]? = some x → p x = false}) (fun i => [(0, .c (.sl 10 (l.map EN.cells))), (1, .fn (.func g) fs cs), (7, .c (.v (.int .i64 l.length))), (8, .c (.v (.int .i64 i.1)))]) (fun _ => []) 0 (fun i => l.length - i.1) ⟨0, Nat.zero_le _, by intro j x hj; omega⟩ ?_ ?_
 · simp only [q4d hp, q4d hp', Weak, eq_self, q09, q03, sc_c, q05, q06, q07, q02, q04, ScL, q08, List.forall_mem_map, go_sem, Int.reduceBEq, Int.reduceLE, Int.reduceLT, Int.reduceNeg, Nat.reduceAdd, Nat.reduceEqDiff, Nat.reduceLT, Nat.reduceLeDiff, Nat.reduceMul, Nat.reduceSub, reduceCtorEq, ↓reduceIte]
   all_goals rfl
 rintro ⟨i, hi, ht⟩
 refine q0c ?_
 refine VC.cond (by rfl) (by trivial) (fun hc => ?_) (fun hc => ?_)
 · simp only [decide_eq_true_eq] at hc
   obtain ⟨x, hx⟩ : ∃ x, l[i]? = some x := ⟨l[i]'(by omega), List.getElem?_eq_getElem _⟩
   have hw : IntKind.i64.wrap ((i : Int) + 1) = (i : Int) + 1 := q0w (by omega) (by omega)
   have hkx := hk x (List.mem_of_getElem? hx)
   (repeat (first | refine pass ?_ | refine VC.region (by rfl) (by rfl) ?_ | (refine AO.step fun K hK => ?_; simp only [List.getElem?_map, hx, EN.av, j64, j71, j72, go_sem, Int.reduceBEq, Int.reduceLE, Int.reduceLT, Int.reduceNeg, Nat.reduceAdd, Nat.reduceEqDiff, Nat.reduceLT, Nat.reduceLeDiff, Nat.reduceMul, Nat.reduceSub, reduceCtorEq, ↓reduceIte]; (first | refine q38 ?_ | refine q1m ?_ | skip); (first | refine hK _ _ _ ?_ | refine ⟨by first | omega | exact ⟨_, rfl, rfl⟩ | exact fun _ => ⟨_, rfl, rfl⟩ | (intro h; simp only [List.getElem?_map, hx, EN.av, j64, j71, j72, h, true_and]; omega) | (clear hK; intro h; simp_all <;> omega), hK _ _ _ ?_⟩); clear hK K) | refine VC.draw mixP (by rfl) (by rfl) ?_ | refine ⟨q4b (by kernel_rfl), ?_⟩ | refine BQ.other (by decide) ?_ | refine VC.seq ?_ | refine AO.nil ?_ | refine VC.block ?_))
   ((refine AO.step fun K hK => ?_; simp only [go_sem, Int.reduceBEq, Int.reduceLE, Int.reduceLT, Int.reduceNeg, Nat.reduceAdd, Nat.reduceEqDiff, Nat.reduceLT, Nat.reduceLeDiff, Nat.reduceMul, Nat.reduceSub, reduceCtorEq, ↓reduceIte, EN.av, j64, j71, j72, hp, hp', j3l, q20, List.append_assoc]; (first | refine q1m ?_ | skip)); refine .inl ⟨_, hkx, hK _ _ _ ?_⟩; clear hK K)
   refine q0c ?_
   refine VC.cond (by rfl) (by trivial) (fun hpx => ?_) (fun hpx => ?_)
   · have hr := j2m hx hpx ht
     refine q0c ?_
     refine retX Tryz.results163 ?_
     rw [hr]
     exact .c _
   · refine q0d (hw) ?_
     refine .next ⟨i + 1, by omega, fun j y hj hy => ?_⟩ ?_ (by simp only []; omega)
     · rcases Nat.lt_or_ge j i with h | h
       · exact ht j y h hy
       · obtain rfl : j = i := by omega
         rw [hx] at hy
         obtain rfl := Option.some.inj hy
         exact hpx
     simp only [q4d hp, q4d hp', Weak, eq_self, q09, q03, sc_c, q05, q06, q07, q02, q04, ScL, q08, List.forall_mem_map, go_sem, Int.reduceBEq, Int.reduceLE, Int.reduceLT, Int.reduceNeg, Nat.reduceAdd, Nat.reduceEqDiff, Nat.reduceLT, Nat.reduceLeDiff, Nat.reduceMul, Nat.reduceSub, reduceCtorEq, ↓reduceIte]
     exact cI (by omega)
 · simp only [decide_eq_false_iff_not] at hc
   obtain rfl : i = l.length := by omega
   have hr := j2n ht
   refine q0c ?_
   refine retX Tryz.results163 ?_
   rw [hr]
   exact .c _
theorem z47 (e : EN) (name : List UInt8) : Told Tryz.prog 164 [e.av, .pp [.v (.string (str name))]] (.c (.v (.bool (isE name e)))) := by
 have hN := j7b e.n.kind
 obtain ⟨V, hV⟩ : ∃ V, V = isE name e := ⟨_, rfl⟩
 rw [← hV]
 unfold isE isN at hV
 replace hV := Lib.hid hV
 rw [EN.av_eq, q2v]
 refine VC.toldP ent_164 Tryz.func164 rfl Tryz.ntmps164 fun hb => ?_
 clear hb
 refine q0c ?_
 refine q0e (hN) ?_
 refine q0d (@q2i) ?_
 refine retX Tryz.results164 ?_
 rw [hV.out]
 exact .c _
theorem j96 (es : List EN) (r : Int) (name : List UInt8) : Told Tryz.prog 119 [.agg [.c (.sl 10 (es.map EN.cells)), .c (.v (.int .i64 r))], .c (.v (.string (str name)))] (.c (.v (.int .i64 (q19 (es.map fun e => q0p e.n) name)))) := by
 have hF := ixfE_told (g := 164) (fs := []) (cs := [.pp [.v (.string (str name))]]) rfl rfl es (isE name) fun n _ => z47 n name
 rw [← j97] at hF
 generalize q19 (es.map fun e => q0p e.n) name = V at *
 refine VC.toldP ent_119 Tryz.func119 rfl Tryz.ntmps119 fun hb => ?_
 clear hb
 refine q0c ?_
 (refine AO.step fun K hK => ?_; simp only [go_sem, Int.reduceBEq, Int.reduceLE, Int.reduceLT, Int.reduceNeg, Nat.reduceAdd, Nat.reduceEqDiff, Nat.reduceLT, Nat.reduceLeDiff, Nat.reduceMul, Nat.reduceSub, reduceCtorEq, ↓reduceIte]; (first | refine q1m ?_ | skip))
 refine .inr (.inl ⟨.c (.v (.int .i64 V)), [.c (.sl 10 (es.map EN.cells)), .fn (.func 164) [] [.pp [.v (.string (str name))]]], [8], ⟨by rfl, rfl, fun k x z h5 h6 => ?_, rfl, hF⟩, hK _ _ _ ?_⟩)
 · match k with
   | 0 => obtain rfl := Option.some.inj h5; obtain rfl := Option.some.inj h6; exact .same _
   | 1 =>
     obtain rfl := Option.some.inj h5
     obtain rfl := Option.some.inj h6
     refine .fn rfl (by simp) rfl fun k x z h7 h8 => ?_
     match k with
     | 0 => obtain rfl := Option.some.inj h7; obtain rfl := Option.some.inj h8; exact View.ref (es := [.v (.string (str name))]) rfl rfl rfl rfl
     | k + 1 => simp at h7
   | k + 2 => simp at h5
 clear hK K
 refine q0c ?_
 refine retX Tryz.results119 ?_
 exact .c _

theorem z17 (c : UInt8) : Told Tryz.prog 175 [.c (.v (.int .u8 (c.toNat : Int)))] (.c (.v (.bool (q4h c)))) := by
 obtain ⟨V, hV⟩ : ∃ V, V = q4h c := ⟨_, rfl⟩
 rw [← hV]
 obtain ⟨y, hy⟩ : ∃ y : Int, y = (c.toNat : Int) := ⟨_, rfl⟩
 rw [← hy]
 have hv : V = ((decide (y ≥ 97) && decide (y ≤ 122)) || ((decide (y ≥ 65) && decide (y ≤ 90)) || (y == 95))) := by
  have e : (y == 95) = decide (c.toNat = 95) := by
   rw [hy]
   by_cases h : c.toNat = 95
   · simp [h]
   · have : ¬ ((c.toNat : Int) = 95) := by omega
     simp [h, this]
  rw [hV, q4h, e, hy]
  congr 1
  · congr 1 <;> simp <;> omega
  · congr 1
    congr 1 <;> simp <;> omega
 clear hV hy
 replace hv := Lib.hid hv
 refine VC.toldP ent_175 Tryz.func175 rfl Tryz.ntmps175 fun hb => ?_
 clear hb
 refine q0d (@lAss) ?_
 refine retX Tryz.results175 ?_
 have hv2 : V = ((decide (y ≥ 97) && decide (y ≤ 122)) || (decide (y ≥ 65) && decide (y ≤ 90)) || (y == 95)) := by rw [hv.out, Bool.or_assoc]
 rw [hv2]
 exact .c _
theorem z52 (c : UInt8) : Told Tryz.prog 176 [.c (.v (.int .u8 (c.toNat : Int)))] (.c (.v (.bool (q6m c)))) := by
 have e : q6m c = (decide ((c.toNat : Int) ≥ 48) && decide ((c.toNat : Int) ≤ 57)) := by
  unfold q6m
  congr 1 <;> simp <;> omega
 rw [e]
 refine VC.toldP ent_176 Tryz.func176 rfl Tryz.ntmps176 fun hb => ?_
 clear hb
 refine q0c ?_
 refine retX Tryz.results176 ?_
 exact .c _
theorem q86 (s : List UInt8) (hs : s.length ≤ 1000000000) : Told Tryz.prog 137 [.c (.v (.string (str s)))] (.c (.v (.bool (q1h s)))) := by
 obtain ⟨V, hV⟩ : ∃ V, V = q1h s := ⟨_, rfl⟩
 rw [← hV]
 cases s with
 | nil =>
   obtain rfl : V = false := by rw [hV]; rfl
   refine VC.toldP j6c Tryz.func137 rfl Tryz.ntmps137 fun hb => ?_
   clear hb
   refine q0f (@q2l) ?_
   refine retX Tryz.results137 ?_
   exact .c _
 | cons c cs =>
 obtain ⟨l, hll⟩ : ∃ l, l = c :: cs := ⟨_, rfl⟩
 have hpos : 0 < l.length := by rw [hll]; simp
 have e2 : ((l.length : Int) == 0) = false := beq_eq_false_iff_ne.2 (by omega)
 have hc0 : l[0]? = some c := by rw [hll]; rfl
 rw [← hll] at hV hs ⊢
 by_cases hl : l.length ≤ 100
 rotate_left
 · obtain rfl : V = false := by rw [hV, q1h, decide_eq_false hl]; rfl
   have e1 : decide ((l.length : Int) > 100) = true := by simp; omega
   refine VC.toldP j6c Tryz.func137 rfl Tryz.ntmps137 fun hb => ?_
   clear hb
   refine q0f (And.intro @q2l (And.intro e1 e2)) ?_
   refine retX Tryz.results137 ?_
   exact .c _
 have e1 : decide ((l.length : Int) > 100) = false := by simp; omega
 have hL := z17 c
 have hv : V = (q4h c && l.all fun c => q4h c || q6m c) := by
  rw [hV, q1h, decide_eq_true hl, Bool.true_and, hll]
  simp only [q4e, List.all_cons]
  cases q4h c <;> simp
 clear hV hll
 obtain ⟨bl, hbl⟩ : ∃ b, b = q4h c := ⟨_, rfl⟩
 rw [← hbl] at hL hv
 refine VC.toldP j6c Tryz.func137 rfl Tryz.ntmps137 fun hb => ?_
 clear hb
 refine q0d (And.intro @q2l (And.intro e1 (And.intro e2 (And.intro @q6t hc0)))) ?_
 refine q0e (hL) ?_
 refine q0c ?_
 refine VC.cond (by rfl) (by trivial) (fun hc => ?_) (fun hc => ?_)
 · obtain rfl : V = false := by
    rw [hv]
    have : bl = false := by simpa using hc
    rw [this]
    rfl
   refine q0c ?_
   refine retX Tryz.results137 ?_
   exact .c _
 have hbt : bl = true := by simpa using hc
 subst hbt
 rw [Bool.true_and] at hv
 refine q0d (@q2l) ?_
 refine VC.loop (ι := {i : Nat // i ≤ l.length ∧ ∀ (j : Nat) (c : UInt8), j < i → l[j]? = some c → (q4h c || q6m c) = true})
  (fun q => [(0, .c (.v (.string (str l)))), (3, .c (.v (.int .i64 (q.1 : Int))))]) (fun _ => []) 800 (fun q => l.length - q.1) ⟨0, Nat.zero_le _, fun j c h => by omega⟩ ?_ ?_
 · exact q4r
 rintro ⟨i, hi, ht⟩
 simp only []
 refine q0d (@q2l) ?_
 refine VC.cond (by rfl) (by trivial) (fun hc => ?_) (fun hc => ?_)
 · have hlt : i < l.length := by simp at hc; omega
   obtain ⟨d, hx⟩ : ∃ d, l[i]? = some d := ⟨l[i], List.getElem?_eq_getElem hlt⟩
   have hw : IntKind.i64.wrap ((i : Int) + 1) = (i : Int) + 1 := q0w (by omega) (by omega)
   have hL := z17 d
   have hD := z52 d
   obtain ⟨b1, hb1⟩ : ∃ b, b = q4h d := ⟨_, rfl⟩
   obtain ⟨b2, hb2⟩ : ∃ b, b = q6m d := ⟨_, rfl⟩
   rw [← hb1] at hL
   rw [← hb2] at hD
   refine q0d (And.intro @q2l (And.intro @q6t hx)) ?_
   refine q0e (hL) ?_
   refine q0d (And.intro @q2l (And.intro @q6t hx)) ?_
   refine q6x (hD) ?_
   refine q0c ?_
   refine VC.cond (by rfl) (by trivial) (fun hc2 => ?_) (fun hc2 => ?_)
   · have hf : V = false := by
      rw [hv, List.all_eq_false]
      refine ⟨d, List.mem_of_getElem? hx, ?_⟩
      rw [← hb1, ← hb2]
      cases b1 <;> cases b2 <;> simp at hc2 ⊢
     subst hf
     refine q0c ?_
     refine retX Tryz.results137 ?_
     exact .c _
   · refine q0d (hw) ?_
     refine .next ⟨i + 1, by omega, ?_⟩ ?_ (by simp only []; omega)
     · intro j e hj he
       by_cases hji : j < i
       · exact ht j e hji he
       · obtain rfl : j = i := by omega
         rw [hx] at he
         obtain rfl := Option.some.inj he
         rw [← hb1, ← hb2]
         cases b1 <;> cases b2 <;> simp at hc2 ⊢
     simp only [Weak, eq_self, q09, q03, sc_c, q05, q06, q07, q02, q04, ScL, q08, List.forall_mem_map, go_sem, Int.reduceBEq, Int.reduceLE, Int.reduceLT, Int.reduceNeg, Nat.reduceAdd, Nat.reduceEqDiff, Nat.reduceLT, Nat.reduceLeDiff, Nat.reduceMul, Nat.reduceSub, reduceCtorEq, ↓reduceIte]
     try exact cI (by omega)
 · have hie : i = l.length := by simp at hc; omega
   have hf : V = true := by
    rw [hv, List.all_eq_true]
    intro e he
    obtain ⟨j, hj⟩ := List.getElem?_of_mem he
    exact ht j e (by have := (List.getElem?_eq_some_iff.1 hj).1; omega) hj
   subst hf
   refine q0c ?_
   refine retX Tryz.results137 ?_
   exact .c _
theorem j7k (s : List UInt8) (hs : s.length ≤ 1000000000) : Told Tryz.prog 173 [.c (.v (.string (str s)))] (.c (.v (.int .i64 (dotI s)))) := by
 obtain ⟨V, hV⟩ : ∃ V, V = dotI s := ⟨_, rfl⟩
 rw [← hV]
 unfold dotI at hV
 refine VC.toldP ent_173 Tryz.func173 rfl Tryz.ntmps173 fun hb => ?_
 clear hb
 refine q0c ?_
 refine VC.loop (ι := {x : Nat × Int // x.1 ≤ s.length ∧ dotA x.1 x.2 (s.drop x.1) = V})
  (fun q => [(0, .c (.v (.string (str s)))), (3, .c (.v (.int .i64 q.1.2))), (4, .c (.v (.int .i64 (q.1.1 : Int))))]) (fun _ => []) 800 (fun q => s.length - q.1.1) ⟨(0, -1), Nat.zero_le _, by simpa using hV.symm⟩ ?_ ?_
 · exact q4r
 rintro ⟨⟨i, a⟩, hi, hv⟩
 simp only [] at hi hv ⊢
 refine q0d (@q2l) ?_
 refine VC.cond (by rfl) (by trivial) (fun hc => ?_) (fun hc => ?_)
 · have hlt : i < s.length := by simp at hc; omega
   obtain ⟨d, hx⟩ : ∃ d, s[i]? = some d := ⟨s[i], List.getElem?_eq_getElem hlt⟩
   have hw : IntKind.i64.wrap ((i : Int) + 1) = (i : Int) + 1 := q0w (by omega) (by omega)
   rw [(List.drop_eq_getElem_cons hlt).trans (by rw [(List.getElem?_eq_some_iff.1 hx).2] : _ = d :: s.drop (i + 1)), dotA] at hv
   refine q0d (And.intro @q2l (And.intro @q6t hx)) ?_
   refine VC.cond (by rfl) (by trivial) (fun hc2 => ?_) (fun hc2 => ?_)
   · have hd : d = 46 := by
      simp at hc2
      exact UInt8.toNat_inj.1 (by simp; omega)
     rw [if_pos hd] at hv
     refine q0d (hw) ?_
     refine .next ⟨(i + 1, (i : Int)), by simp only []; omega, hv⟩ ?_ (by simp only []; omega)
     simp only [Weak, eq_self, q09, q03, sc_c, q05, q06, q07, q02, q04, ScL, q08, List.forall_mem_map, go_sem, Int.reduceBEq, Int.reduceLE, Int.reduceLT, Int.reduceNeg, Nat.reduceAdd, Nat.reduceEqDiff, Nat.reduceLT, Nat.reduceLeDiff, Nat.reduceMul, Nat.reduceSub, reduceCtorEq, ↓reduceIte]
     try exact cI (by omega)
   · have hd : d ≠ 46 := by
      rintro rfl
      simp at hc2
     rw [if_neg hd] at hv
     refine q0d (hw) ?_
     refine .next ⟨(i + 1, a), by simp only []; omega, hv⟩ ?_ (by simp only []; omega)
     simp only [Weak, eq_self, q09, q03, sc_c, q05, q06, q07, q02, q04, ScL, q08, List.forall_mem_map, go_sem, Int.reduceBEq, Int.reduceLE, Int.reduceLT, Int.reduceNeg, Nat.reduceAdd, Nat.reduceEqDiff, Nat.reduceLT, Nat.reduceLeDiff, Nat.reduceMul, Nat.reduceSub, reduceCtorEq, ↓reduceIte]
     try exact cI (by omega)
 · have hie : i = s.length := by simp at hc; omega
   have hf : V = a := by rw [← hv, hie, List.drop_length, dotA]
   subst hf
   refine q0c ?_
   refine retX Tryz.results173 ?_
   exact .c _
theorem z13 (s : List UInt8) (hs : s.length ≤ 1000000000) : Told Tryz.prog 174 [.c (.v (.string (str s)))] (.c (.v (.bool (q4u s)))) := by
 obtain ⟨V, hV⟩ : ∃ V, V = q4u s := ⟨_, rfl⟩
 rw [← hV]
 rw [fullM_ok] at hV
 refine VC.toldP ent_174 Tryz.func174 rfl Tryz.ntmps174 fun hb => ?_
 clear hb
 refine q0d (@q2l) ?_
 refine VC.cond (by rfl) (by trivial) (fun hc => ?_) (fun hc => ?_)
 · have hf : V = false := by
    have : ¬ (s.length ≤ 100) := by simp at hc; omega
    rw [hV]
    simp [this]
   subst hf
   refine q0c ?_
   refine retX Tryz.results174 ?_
   exact .c _
 have hl : s.length ≤ 100 := by simp at hc; omega
 have hv : okF s = V := by rw [hV]; simp [hl]
 clear hV hc
 refine q0c ?_
 refine VC.loop (ι := {l : List UInt8 // l.length ≤ 100 ∧ okF l = V}) (fun q => [(0, .c (.v (.string (str q.1))))]) (fun _ => []) 800 (fun q => q.1.length) ⟨s, hl, hv⟩ ?_ ?_
 · exact q4r
 rintro ⟨l, hl, hv⟩
 simp only []
 have hD := j7k l (by omega)
 refine q0c ?_
 refine q0e (hD) ?_
 rcases j14 l with ⟨h1, h2⟩ | ⟨j, hj, h2, h3, h4⟩
 · rw [okF_none h1] at hv
   have hS := q86 l (by omega)
   have hsv : q1h l = V := by rw [q1h, ← hv]; simp [hl]
   rw [hsv] at hS
   rw [h2] at hD ⊢
   refine q0u ?_
   refine q0e (hS) ?_
   refine q0c ?_
   refine retX Tryz.results174 ?_
   exact .c _
 · rw [h2] at hD ⊢
   obtain ⟨t, htt⟩ : ∃ t, t = l.drop (j + 1) := ⟨_, rfl⟩
   have htl : t.length ≤ 100 := by rw [htt, List.length_drop]; omega
   have hS := q86 t (by omega)
   have hsv : q1h t = q4e t := by rw [q1h]; simp [htl]
   rw [hsv] at hS
   have hv2 : (okF (l.take j) && q4e t) = V := by
    rw [← okF_dot (by rw [htt]; exact h4), htt, ← h3]
    exact hv
   obtain ⟨b, hbb⟩ : ∃ b, b = q4e t := ⟨_, rfl⟩
   rw [← hbb] at hS hv2
   have hd : decide ((j : Int) ≥ 0) = true := by simp
   have hw : IntKind.i64.wrap ((j : Int) + 1) = (j : Int) + 1 := q0w (by omega) (by omega)
   have ht : ((j : Int) + 1).toNat = j + 1 := by omega
   have hx1 : (str l).extract 0 j = str (l.take j) := by rw [q88, List.drop_zero]
   have hx2 : (str l).extract (j + 1) l.length = str t := by rw [q88, List.take_length, htt]
   refine q0f (hd) ?_
   refine q0e (hD) ?_
   refine q0d (And.intro hw (And.intro @q2l (And.intro ht hx2))) ?_
   refine q0e (hS) ?_
   refine q0c ?_
   refine VC.cond (by rfl) (by trivial) (fun hc => ?_) (fun hc => ?_)
   · have hf : V = false := by
      have : b = false := by simpa using hc
      rw [← hv2, this]
      simp
     subst hf
     refine q0c ?_
     refine retX Tryz.results174 ?_
     exact .c _
   · have hbt : b = true := by simpa using hc
     rw [hbt, Bool.and_true] at hv2
     refine q0c ?_
     refine q0e (hD) ?_
     refine q0d (And.intro @q2l hx1) ?_
     refine .next ⟨l.take j, by rw [List.length_take]; omega, hv2⟩ ?_ (by simp only [List.length_take]; omega)
     exact q4r
theorem z6w (k : Nat) (hk : k ≤ 14) (w : List UInt8) (hw : q3v[k]? = some w) : Told Tryz.prog 132 [.c (.v (.int .i64 (k : Int)))] (.c (.v (.string (str w)))) := by
 rcases (by omega : k = 0 ∨ k = 1 ∨ k = 2 ∨ k = 3 ∨ k = 4 ∨ k = 5 ∨ k = 6 ∨ k = 7 ∨ k = 8 ∨ k = 9 ∨ k = 10 ∨ k = 11 ∨ k = 12 ∨ k = 13 ∨ k = 14) with rfl | rfl | rfl | rfl | rfl | rfl | rfl | rfl | rfl | rfl | rfl | rfl | rfl | rfl | rfl
 all_goals
  obtain rfl := Option.some.inj hw
  refine VC.toldP ent_132 Tryz.func132 rfl Tryz.ntmps132 fun hb => ?_
  clear hb
  refine q0u ?_
  refine retX Tryz.results132 ?_
  exact .c _
theorem q7c (s : List UInt8) : Told Tryz.prog 78 [.c (.v (.string (str s)))] (.c (.v (.int .i64 (q0h s : Int)))) := by
 obtain ⟨V, hV⟩ : ∃ V, V = q0h s := ⟨_, rfl⟩
 rw [← hV]
 refine VC.toldP ent_78 Tryz.func78 rfl Tryz.ntmps78 fun hb => ?_
 clear hb
 have hE : (⟨#[]⟩ : ByteArray).toList = [] := q2i []
 have hkl : q3v.length = 15 := rfl
 refine q0c ?_
 refine VC.loop (ι := {i : Nat // 1 ≤ i ∧ i ≤ 15 ∧ ∀ (j : Nat) (w : List UInt8), j < i → q3v[j]? = some w → s ≠ [] → w ≠ s}) (fun q => [(0, .c (.v (.string (str s)))), (3, .c (.v (.int .i64 (q.1 : Int))))]) (fun _ => []) 800 (fun q => 15 - q.1)
  ⟨1, by omega, by omega, fun j w h hj hs => by
   obtain rfl : j = 0 := by omega
   obtain rfl := Option.some.inj hj
   exact fun e => hs e.symm⟩ ?_ ?_
 · exact q4r
 rintro ⟨i, hi0, hi, ht⟩
 simp only []
 refine q0c ?_
 refine VC.cond (by rfl) (by trivial) (fun hc => ?_) (fun hc => ?_)
 · have hlt : i < 15 := by simp at hc; omega
   obtain ⟨w, hx⟩ : ∃ w, q3v[i]? = some w := ⟨q3v[i]'(by omega), List.getElem?_eq_getElem (by omega)⟩
   have hw : IntKind.i64.wrap ((i : Int) + 1) = (i : Int) + 1 := q0w (by omega) (by omega)
   have hW := z6w i (by omega) w hx
   refine q0d (And.intro @q2i hE) ?_
   refine q6x (hW) ?_
   refine q0d (And.intro @q2i hE) ?_
   refine VC.cond (by rfl) (by trivial) (fun hc2 => ?_) (fun hc2 => ?_)
   · have hh : s ≠ [] ∧ w = s := by simpa using hc2
     have hf : V = i := by
      rw [hV, q0h, if_neg hh.1]
      have : q3v.findIdx? (· == s) = some i := by
       rw [List.findIdx?_eq_some_iff_getElem]
       refine ⟨by omega, ?_, fun j hj => ?_⟩
       · have := (List.getElem?_eq_some_iff.1 hx).2
         simp [this, hh.2]
       · have := ht j _ hj (List.getElem?_eq_getElem (by omega)) hh.1
         simpa using this
      rw [this]
     subst hf
     refine q0c ?_
     refine retX Tryz.results78 ?_
     exact .c _
   · have hh : ¬ (s ≠ [] ∧ w = s) := by simpa using hc2
     refine q0d (hw) ?_
     refine .next ⟨i + 1, by omega, by omega, ?_⟩ ?_ (by simp only []; omega)
     · intro j u hj hu hs
       by_cases hji : j < i
       · exact ht j u hji hu hs
       · obtain rfl : j = i := by omega
         rw [hx] at hu
         obtain rfl := Option.some.inj hu
         exact fun e => hh ⟨hs, e⟩
     refine q4q ?_
     exact cI (by omega)
 · have hie : i = 15 := by simp at hc; omega
   have hf : V = 0 := by
    rw [hV, q0h]
    split
    · rfl
    · rename_i hs
      have : q3v.findIdx? (· == s) = none := by
       rw [List.findIdx?_eq_none_iff]
       intro w hw
       obtain ⟨j, hj⟩ := List.getElem?_of_mem hw
       have := ht j w (by have := (List.getElem?_eq_some_iff.1 hj).1; omega) hj hs
       simpa using this
      rw [this]
   subst hf
   refine q0c ?_
   refine retX Tryz.results78 ?_
   exact .c _

theorem z0m (s : ByteArray) (c : Int) : Told Tryz.prog 155 [.c (.v (.string s)), .c (.v (.int .u8 c))] (.c (.v (.int .i64 (Lib.indexByte s.data.toList c.toNat.toUInt8)))) :=
 z23 (xs := [.string s, .int .u8 c]) ent_155 rfl fun W => Tryz.strings_IndexByte s c W

theorem z5f (s : List UInt8) (hs : s.length ≤ 1000000000) : Told Tryz.prog 90 [.c (.v (.string (str s))), .c (.v (.int .u8 46))] (.c (.v (.int .i64 (dotI s)))) := by
 obtain ⟨V, hV⟩ : ∃ V, V = dotI s := ⟨_, rfl⟩
 rw [← hV]
 have hw0 : IntKind.i64.wrap ((s.length : Int) - 1) = (s.length : Int) - 1 := q0w (by omega) (by omega)
 refine VC.toldP ent_90 Tryz.func90 rfl Tryz.ntmps90 fun hb => ?_
 clear hb
 refine q0d (And.intro @q2l hw0) ?_
 refine VC.loop (ι := {x : Nat // x ≤ s.length ∧ 46 ∉ s.drop x}) (fun q => [(0, .c (.v (.string (str s)))), (1, .c (.v (.int .u8 46))), (5, .c (.v (.int .i64 ((q.1 : Int) - 1))))]) (fun _ => []) 800 (fun q => q.1) ⟨s.length, Nat.le_refl _, by simp⟩ ?_ ?_
 · exact q4r
 rintro ⟨i, hi, hd⟩
 simp only []
 cases i with
 | zero =>
   have hf : V = -1 := by rw [hV]; exact dotI_no (by simpa using hd)
   subst hf
   rw [show ((0 : Nat) : Int) - 1 = -1 from rfl]
   refine q0u ?_
   refine retX Tryz.results90 ?_
   exact .c _
 | succ j =>
   obtain ⟨c, hx⟩ : ∃ c, s[j]? = some c := ⟨s[j], List.getElem?_eq_getElem (by omega)⟩
   rw [show ((j + 1 : Nat) : Int) - 1 = (j : Int) by omega]
   have hge : decide ((j : Int) ≥ 0) = true := by simp
   have hw : IntKind.i64.wrap ((j : Int) - 1) = (j : Int) - 1 := q0w (by omega) (by omega)
   refine q0f (And.intro @q2l (And.intro @q6t (And.intro hx hge))) ?_
   refine VC.cond (by rfl) (by trivial) (fun hc2 => ?_) (fun hc2 => ?_)
   · have hcd : c = 46 := by
      simp at hc2
      exact UInt8.toNat_inj.1 (by simp; omega)
     have hf : V = (j : Int) := by rw [hV]; exact dotI_at (by rw [hx, hcd]) hd
     subst hf
     refine q0c ?_
     refine retX Tryz.results90 ?_
     exact .c _
   · have hcd : c ≠ 46 := by
      rintro rfl
      simp at hc2
     refine q0d (hw) ?_
     refine .next ⟨j, by omega, ?_⟩ ?_ (by simp only []; omega)
     · rw [List.drop_eq_getElem_cons (by omega), (List.getElem?_eq_some_iff.1 hx).2]
       intro hm
       rcases List.mem_cons.1 hm with e | hm
       · exact hcd e.symm
       · exact hd hm
     exact q4r
theorem z5e (s : List UInt8) (hs : s.length ≤ 1000000000) : Told Tryz.prog 51 [.c (.v (.string (str s))), .c (.v (.int .u8 46))] (.c (.v (.int .i64 (dotI s)))) := by
 have hL := z5f s hs
 refine VC.toldP ent_51 Tryz.func51 rfl Tryz.ntmps51 fun hb => ?_
 clear hb
 refine q0c ?_
 refine q0e (hL) ?_
 refine q0c ?_
 refine retX Tryz.results51 ?_
 exact .c _
theorem z2r (s : List UInt8) (hs : s.length ≤ 1000000000) : Told Tryz.prog 18 [.c (.v (.string (str s)))] (.c (.v (.string (str (q1n s))))) := by
 have hL := z5e s hs
 rcases j14 s with ⟨h1, h2⟩ | ⟨j, hj, h2, h3, h4⟩
 · rw [z2q h2]
   rw [h2] at hL
   have hm : max (-1 : Int) 0 = 0 := rfl
   have hx : (str s).extract 0 0 = str [] := by rw [q88]; rfl
   refine VC.toldP ent_18 Tryz.func18 rfl Tryz.ntmps18 fun hb => ?_
   clear hb
   refine q0c ?_
   refine q0e (hL) ?_
   refine q0d (And.intro hm (And.intro @q2l hx)) ?_
   refine retX Tryz.results18 ?_
   exact .c _
 · rw [z2p h2]
   rw [h2] at hL
   have hm : max (j : Int) 0 = (j : Int) := by omega
   have hx : (str s).extract 0 j = str (s.take j) := by rw [q88, List.drop_zero]
   refine VC.toldP ent_18 Tryz.func18 rfl Tryz.ntmps18 fun hb => ?_
   clear hb
   refine q0c ?_
   refine q0e (hL) ?_
   refine q0d (And.intro hm (And.intro @q2l hx)) ?_
   refine retX Tryz.results18 ?_
   exact .c _
theorem j7s (s : List UInt8) (hs : s.length ≤ 1000000000) : Told Tryz.prog 134 [.c (.v (.string (str s)))] (.c (.v (.string (str (q1n s))))) := by
 have hL := j7k s hs
 rcases j14 s with ⟨h1, h2⟩ | ⟨j, hj, h2, h3, h4⟩
 · rw [z2q h2]
   rw [h2] at hL
   refine VC.toldP ent_134 Tryz.func134 rfl Tryz.ntmps134 fun hb => ?_
   clear hb
   refine q0c ?_
   refine q0e (hL) ?_
   refine q0u ?_
   refine retX Tryz.results134 ?_
   exact .c _
 · rw [z2p h2]
   rw [h2] at hL
   have hd : decide ((j : Int) < 0) = false := by simp
   have hx : (str s).extract 0 j = str (s.take j) := by rw [q88, List.drop_zero]
   refine VC.toldP ent_134 Tryz.func134 rfl Tryz.ntmps134 fun hb => ?_
   clear hb
   refine q0c ?_
   refine q0e (hL) ?_
   refine q0f (hd) ?_
   refine q0e (hL) ?_
   refine q0d (And.intro @q2l hx) ?_
   refine retX Tryz.results134 ?_
   exact .c _

theorem strJ (l m : List UInt8) : str l ++ str m = str (l ++ m) := ByteArray.mk_append_mk l m
def q5c (o : Option (List UInt8)) : AV := .tup [.c (.v (.string (str (o.getD [])))), .c (.v (.bool o.isSome))]
theorem dot_mem (s : List UInt8) : 0 ≤ dotI s ↔ 46 ∈ s := by
 rcases j14 s with ⟨h1, h2⟩ | ⟨j, hj, h2, h3, h4⟩
 · rw [h2]
   exact ⟨fun h => absurd h (by decide), fun h => absurd h h1⟩
 · rw [h2]
   exact ⟨fun _ => by rw [h3]; simp, fun _ => by omega⟩
theorem index_mem (s : List UInt8) : 0 ≤ Lib.indexByte s 46 ↔ 46 ∈ s := by
 induction s with
 | nil => simp [Lib.indexByte]
 | cons b l ih =>
   rw [Lib.indexByte]
   by_cases hb : b = 46
   · subst hb
     simp
   · rw [if_neg (by simpa using hb)]
     have : 46 ∈ b :: l ↔ 46 ∈ l := by simp [Ne.symm hb]
     rw [this, ← ih]
     have hge : Lib.indexByte l 46 = -1 ∨ 0 ≤ Lib.indexByte l 46 := by
      rcases j6u 46 l with ⟨h, _⟩ | ⟨i, _, h, _⟩
      · exact .inl h
      · exact .inr (by rw [h]; omega)
     rcases hge with h | h
     · rw [h]; decide
     · rw [if_neg (by simp; omega)]
       omega
theorem j6z (sp name : List UInt8) (h1 : sp.length ≤ 100000000) (h2 : name.length ≤ 100000000) : Told Tryz.prog 118 [.c (.v (.string (str sp))), .c (.v (.string (str name)))] (q5c (q1e sp name)) := by
 have hI := z0m (str name) 46
 rw [q6t, show (46 : Int).toNat.toUInt8 = 46 from rfl] at hI
 have hS := j5k name (by omega)
 have hF := z0i name (by omega)
 have hF2 := z0i (sp ++ 46 :: name) (by simp; omega)
 have hcat : str sp ++ (⟨#[46]⟩ : ByteArray) ++ str name = str (sp ++ 46 :: name) := by
  rw [show (⟨#[46]⟩ : ByteArray) = str [46] from rfl, strJ, strJ]
  simp
 have hz : (⟨#[46]⟩ : ByteArray).size = 1 := rfl
 have hi := index_mem name
 have hdm := dot_mem name
 have hJ : q1e sp name = if 0 ≤ Lib.indexByte name 46 then (if q4u name = true then some name else none)
   else if q1h name = false then none
   else if sp = [] then (if q4u name = true then some name else none)
   else if q4u (sp ++ 46 :: name) = true then some (sp ++ 46 :: name) else none := by
  unfold q1e
  by_cases h : 46 ∈ name
  · rw [if_pos (hdm.2 h), if_pos (hi.2 h)]
  · rw [if_neg (fun h' => h (hdm.1 h')), if_neg (fun h' => h (hi.1 h'))]
 unfold q5c
 rw [hJ]
 clear hJ hi hdm
 obtain ⟨I, hIe⟩ : ∃ I, I = Lib.indexByte name 46 := ⟨_, rfl⟩
 rw [← hIe] at hI ⊢
 replace hIe := Lib.hid hIe
 refine VC.toldP ent_118 Tryz.func118 rfl Tryz.ntmps118 fun hb => ?_
 clear hb
 refine q0c ?_
 refine q0e (hI) ?_
 refine q0c ?_
 refine VC.cond (by rfl) (by trivial) (fun h1 => ?_) (fun h1 => ?_)
 · rw [if_pos (by simpa using h1)]
   refine q0c ?_
   refine q0e (hF) ?_
   refine q0c ?_
   refine VC.cond (by rfl) (by trivial) (fun h2 => ?_) (fun h2 => ?_)
   · rw [if_neg (by simpa using h2)]
     refine q0c ?_
     refine retX Tryz.results118 ?_
     exact ⟨.c _, .c _⟩
   · rw [if_pos (by simpa using h2)]
     refine q0c ?_
     refine retX Tryz.results118 ?_
     exact ⟨.c _, .c _⟩
 · rw [if_neg (by simpa using h1)]
   refine q0c ?_
   refine q0e (hS) ?_
   refine q0c ?_
   refine VC.cond (by rfl) (by trivial) (fun h2 => ?_) (fun h2 => ?_)
   · rw [if_pos (by simpa using h2)]
     refine q0c ?_
     refine retX Tryz.results118 ?_
     exact ⟨.c _, .c _⟩
   · rw [if_neg (by simpa using h2)]
     refine q0c ?_
     refine VC.cond (by rfl) (by trivial) (fun h3 => ?_) (fun h3 => ?_)
     · have hn : sp ≠ [] := by
        rintro rfl
        simp [q2i] at h3
       rw [if_neg hn]
       refine q0d (And.intro @q2l (And.intro hz hcat)) ?_
       refine q33 (hcat) (hF2) ?_
       refine q0c ?_
       refine VC.cond (by rfl) (by trivial) (fun h4 => ?_) (fun h4 => ?_)
       · rw [if_neg (by simpa using h4)]
         refine q0c ?_
         refine retX Tryz.results118 ?_
         exact ⟨.c _, .c _⟩
       · rw [if_pos (by simpa using h4)]
         refine q0c ?_
         refine retX Tryz.results118 ?_
         exact ⟨.c _, .c _⟩
     · have hn : sp = [] := by
        simpa [q2i] using h3
       rw [if_pos hn]
       refine q0c ?_
       refine q0e (hF) ?_
       refine q0c ?_
       refine VC.cond (by rfl) (by trivial) (fun h4 => ?_) (fun h4 => ?_)
       · rw [if_neg (by simpa using h4)]
         refine q0c ?_
         refine retX Tryz.results118 ?_
         exact ⟨.c _, .c _⟩
       · rw [if_pos (by simpa using h4)]
         refine q0c ?_
         refine retX Tryz.results118 ?_
         exact ⟨.c _, .c _⟩
theorem z57 (sp ar name : List UInt8) (given : Bool) (h1 : sp.length ≤ 100000000) (h2 : name.length ≤ 100000000) (h3 : ar.length ≤ 100000000) : Told Tryz.prog 168 [.c (.v (.string (str name))), .c (.v (.string (str sp))), .c (.v (.bool given)), .c (.v (.string (str ar)))] (q5c (q1e (if given = true then sp else ar) name)) := by
 have hJ := j6z (if given = true then sp else ar) name (by split <;> assumption) h2
 unfold q5c at hJ ⊢
 generalize q1e (if given = true then sp else ar) name = o at hJ ⊢
 cases given with
 | true =>
   rw [if_pos rfl] at hJ
   refine VC.toldP ent_168 Tryz.func168 rfl Tryz.ntmps168 fun hb => ?_
   clear hb
   refine q0u ?_
   refine q0e (hJ) ?_
   refine q0c ?_
   refine retX Tryz.results168 ?_
   exact ⟨.c _, .c _⟩
 | false =>
   rw [if_neg (by simp)] at hJ
   refine VC.toldP ent_168 Tryz.func168 rfl Tryz.ntmps168 fun hb => ?_
   clear hb
   refine q0u ?_
   refine q0e (hJ) ?_
   refine q0c ?_
   refine retX Tryz.results168 ?_
   exact ⟨.c _, .c _⟩
theorem j7p (sp name : List UInt8) (h1 : sp.length ≤ 100000000) (h2 : name.length ≤ 100000000) : Told Tryz.prog 129 [.c (.v (.string (str sp))), .c (.v (.string (str name)))] (q5c (q1e sp name)) := by
 have hI := j7k name (by omega)
 have hS := q86 name (by omega)
 have hF := z13 name (by omega)
 have hF2 := z13 (sp ++ 46 :: name) (by simp; omega)
 have hcat : str sp ++ (⟨#[46]⟩ : ByteArray) ++ str name = str (sp ++ 46 :: name) := by
  rw [show (⟨#[46]⟩ : ByteArray) = str [46] from rfl, strJ, strJ]
  simp
 have hz : (⟨#[46]⟩ : ByteArray).size = 1 := rfl
 unfold q5c q1e
 generalize dotI name = I at *
 refine VC.toldP ent_129 Tryz.func129 rfl Tryz.ntmps129 fun hb => ?_
 clear hb
 refine q0c ?_
 refine q0e (hI) ?_
 refine q0c ?_
 refine VC.cond (by rfl) (by trivial) (fun h1 => ?_) (fun h1 => ?_)
 · rw [if_neg (by simp at h1; omega)]
   refine q0c ?_
   refine q0e (hS) ?_
   refine q0c ?_
   refine VC.cond (by rfl) (by trivial) (fun h2 => ?_) (fun h2 => ?_)
   · rw [if_pos (by simpa using h2)]
     refine q0c ?_
     refine retX Tryz.results129 ?_
     exact ⟨.c _, .c _⟩
   · rw [if_neg (by simpa using h2)]
     refine q0c ?_
     refine VC.cond (by rfl) (by trivial) (fun h3 => ?_) (fun h3 => ?_)
     · have hn : sp ≠ [] := by
        rintro rfl
        simp [q2i] at h3
       rw [if_neg hn]
       refine q0d (And.intro @q2l (And.intro hz hcat)) ?_
       refine q33 (hcat) (hF2) ?_
       refine q0c ?_
       refine VC.cond (by rfl) (by trivial) (fun h4 => ?_) (fun h4 => ?_)
       · rw [if_neg (by simpa using h4)]
         refine q0c ?_
         refine retX Tryz.results129 ?_
         exact ⟨.c _, .c _⟩
       · rw [if_pos (by simpa using h4)]
         refine q0c ?_
         refine retX Tryz.results129 ?_
         exact ⟨.c _, .c _⟩
     · have hn : sp = [] := by
        simpa [q2i] using h3
       rw [if_pos hn]
       refine q0c ?_
       refine q0e (hF) ?_
       refine q0c ?_
       refine VC.cond (by rfl) (by trivial) (fun h4 => ?_) (fun h4 => ?_)
       · rw [if_neg (by simpa using h4)]
         refine q0c ?_
         refine retX Tryz.results129 ?_
         exact ⟨.c _, .c _⟩
       · rw [if_pos (by simpa using h4)]
         refine q0c ?_
         refine retX Tryz.results129 ?_
         exact ⟨.c _, .c _⟩
 · rw [if_pos (by simp at h1; omega)]
   refine q0c ?_
   refine q0e (hF) ?_
   refine q0c ?_
   refine VC.cond (by rfl) (by trivial) (fun h2 => ?_) (fun h2 => ?_)
   · rw [if_neg (by simpa using h2)]
     refine q0c ?_
     refine retX Tryz.results129 ?_
     exact ⟨.c _, .c _⟩
   · rw [if_pos (by simpa using h2)]
     refine q0c ?_
     refine retX Tryz.results129 ?_
     exact ⟨.c _, .c _⟩

theorem Rep.less {W : World} {ro : Nat → Prop} {φ : Nat → Value} {h h' : Nat → Option Blkd} (hh : ∀ j B', h' j = some B' → ∃ B, h j = some B ∧ B.len = B'.len ∧ B.z = B'.z) {x : AV} {v : Value} (hr : Rep W ro φ h x v) : Rep W ro φ h' x v := by
 induction hr with
 | any v => exact .any v
 | c hp => exact .c hp
 | @ref j n i off v h1 hv =>
   refine .ref h1 fun B' hB' hn => ?_
   obtain ⟨B, h2, h3, h4⟩ := hh j B' hB'
   rw [← h4]
   exact hv B h2 (h3.trans hn)
 | @row j n v h1 hv =>
   refine .row h1 fun B' hB' hn => ?_
   obtain ⟨B, h2, h3, h4⟩ := hh j B' hB'
   exact hv B h2 (h3.trans hn)
 | pp hb hc hp => exact .pp hb hc hp
 | agg hl hx ih => exact .agg hl ih
 | tup hl hx ih => exact .tup hl ih
 | opt hx hu ih => exact .opt ih hu
 | fn hl hx hl' hx' ih ih' => exact .fn hl ih hl' ih'
def hidA (r n : Nat) (x : Value) : AV → AV
 | .row j m => if j = r ∧ m = n then .c (.v x) else .row j m
 | a => a
theorem j6t (r n : Nat) (x : Value) (a : AV) : (a = .row r n ∧ hidA r n x a = .c (.v x)) ∨ hidA r n x a = a := by
 cases a with
 | row j m =>
   unfold hidA
   by_cases h : j = r ∧ m = n
   · obtain ⟨rfl, rfl⟩ := h
     exact .inl ⟨rfl, if_pos ⟨rfl, rfl⟩⟩
   · exact .inr (if_neg h)
 | _ => exact .inr rfl
def hidB (r n : Nat) (x : Value) (B : Blkd) : Blkd := ⟨B.row, B.T, B.z, B.elems.map fun e => e.map (hidA r n x)⟩
theorem j2j (r n : Nat) (x : Value) (B : Blkd) : (hidB r n x B).len = B.len := by unfold hidB Blkd.len; simp
theorem z0l (r n : Nat) (x : Value) (a : AV) : (hidA r n x a).cellish = a.cellish := by
 rcases j6t r n x a with ⟨rfl, h⟩ | h <;> rw [h] <;> rfl
theorem j4s (r n : Nat) (x : Value) : ∀ l : List (List AV), (l.map fun e => e.map (hidA r n x)).flatten = l.flatten.map (hidA r n x)
 | [] => rfl
 | e :: l => by rw [List.map_cons, List.flatten_cons, List.flatten_cons, List.map_append, j4s r n x l]
theorem j66 {f : Blkd → Blkd} {L : List (Option Blkd)} {j : Nat} {B' : Blkd} (h : q0l (L.map (Option.map f)) j = some B') : ∃ B, q0l L j = some B ∧ B' = f B := by
 obtain ⟨h1, h2⟩ := q4n h
 rw [List.getElem?_map] at h2
 obtain ⟨b, h3, h4⟩ := Option.map_eq_some_iff.1 h2
 obtain ⟨B, rfl, rfl⟩ := Option.map_eq_some_iff.1 h4
 refine ⟨B, ?_, rfl⟩
 unfold q0l
 rw [if_pos h1, h3]
 rfl
theorem z5i {f : Blkd → Blkd} {L : List (Option Blkd)} {j : Nat} {B : Blkd} (h : q0l L j = some B) : q0l (L.map (Option.map f)) j = some (f B) := by
 obtain ⟨h1, h2⟩ := q4n h
 unfold q0l
 rw [if_pos h1, List.getElem?_map, h2]
 rfl
theorem j65 {L : List (Option Blkd)} {o : Option Blkd} {j : Nat} {B : Blkd} (h : q0l L j = some B) : q0l (L ++ [o]) j = some B := by
 obtain ⟨h1, h2⟩ := q4n h
 unfold q0l
 rw [if_pos h1, List.getElem?_append_left (List.getElem?_eq_some_iff.1 h2).1, h2]
 rfl
theorem z5h {L : List (Option Blkd)} {R : Blkd} {j : Nat} {B : Blkd} (h : q0l (L ++ [some R]) j = some B) : (j = 1000000 + L.length ∧ B = R) ∨ (j < 1000000 + L.length ∧ q0l L j = some B) := by
 obtain ⟨h1, h2⟩ := q4n h
 by_cases hj : j - 1000000 < L.length
 · rw [List.getElem?_append_left hj] at h2
   refine .inr ⟨by omega, ?_⟩
   unfold q0l
   rw [if_pos h1, h2]
   rfl
 · rw [List.getElem?_append_right (by omega)] at h2
   have hlt := (List.getElem?_eq_some_iff.1 h2).1
   simp at hlt
   rw [show j - 1000000 - L.length = 0 by omega] at h2
   obtain rfl := Option.some.inj (Option.some.inj h2)
   exact .inl ⟨by omega, rfl⟩
theorem z0v {L : List (Option Blkd)} {R : Blkd} : q0l (L ++ [some R]) (1000000 + L.length) = some R := by
 rw [j4x, List.getElem?_append_right (Nat.le_refl _)]
 simp
theorem row_one {W : World} {T : TypeId} {z n : Nat} {v : Value} {xs : List Value} (h : W.ownsRow 0 T z v n xs) : v.oneCell' = true := by
 rcases h.2 with ⟨rfl, _⟩ | ⟨g, cap, cur, rfl, _⟩ <;> rfl
theorem some_maps (f : Blkd → Blkd) (L : List Blkd) : (L.map f).map some = (L.map some).map (Option.map f) := by simp
/-- The contract of a callee that takes the cells of a row for plain values, whichever they are. -/
theorem ToldM.hide {P : Program} {f : FuncId} {args : List AV} {L : List Blkd} {L' : List (Option Blkd)} {y : AV} (R : Blkd) (hrow : R.row = true) (hpure : ∀ e ∈ R.elems, ∀ x ∈ e, ∃ p, x = .c p) (hl : L'.length = L.length)
  (hT : ∀ x : Value, x.oneCell' = true → ToldM P f args (L.map (hidB (1000000 + L.length) R.len x)) (L'.map (Option.map (hidB (1000000 + L.length) R.len x))) y)
  (hz : zOk (L ++ [R]) (L' ++ [some R])) (hsc : ScM (L' ++ [some R]) y) : ToldM P f args (L ++ [R]) (L' ++ [some R]) y := by
 refine ⟨(hT (.slice none 0 0) rfl).enters, hz, hsc, fun W ro φ vs hro hgk hargs hh => ?_⟩
 rw [List.map_append] at hargs hh ⊢
 simp only [List.map_cons, List.map_nil] at hargs hh ⊢
 have hLm : (L.map some).length = L.length := by simp
 obtain ⟨r, hr⟩ : ∃ r, r = 1000000 + L.length := ⟨_, rfl⟩
 obtain ⟨n, hn⟩ : ∃ n, n = R.len := ⟨_, rfl⟩
 have hR : q0l (L.map some ++ [some R]) r = some R := by rw [hr, ← hLm]; exact z0v
 have hx1 : (φ r).oneCell' = true := by
  obtain ⟨_, _, vs, _, h4⟩ := hh.hp r R hR
  rw [if_pos hrow] at h4
  exact row_one h4
 rw [← hr, ← hn] at hT
 have hX := hT (φ r) hx1
 obtain ⟨x, hx⟩ : ∃ x, x = φ r := ⟨_, rfl⟩
 rw [← hx] at hX hx1
 obtain ⟨_, _, hsX, hout⟩ := hX
 rw [some_maps] at hout
 -- the callee's view of what is lent
 have hless : ∀ j B', q0l ((L.map some).map (Option.map (hidB r n x))) j = some B' → ∃ B, q0l (L.map some ++ [some R]) j = some B ∧ B.len = B'.len ∧ B.z = B'.z := fun j B' hB' => by
  obtain ⟨B, h1, rfl⟩ := j66 hB'
  exact ⟨B, j65 h1, (j2j _ _ _ _).symm, rfl⟩
 have hold : ∀ j B', q0l ((L.map some).map (Option.map (hidB r n x))) j = some B' → j ≠ r ∧ ∃ B, q0l (L.map some) j = some B ∧ q0l (L.map some ++ [some R]) j = some B ∧ B' = hidB r n x B := fun j B' hB' => by
  obtain ⟨B, h1, rfl⟩ := j66 hB'
  refine ⟨?_, B, h1, j65 h1, rfl⟩
  obtain ⟨h2, h3⟩ := q4n h1
  have := (List.getElem?_eq_some_iff.1 h3).1
  simp at this
  omega
 have hhX : HOk W ro φ (q0l ((L.map some).map (Option.map (hidB r n x)))) := by
  refine ⟨fun j B' hB' => ?_, fun j k B B' b hj hk hne hb => ?_, fun j B b hj hb => ?_⟩
  · obtain ⟨_, B, h1, h2, rfl⟩ := hold j B' hB'
    obtain ⟨h3, h4, ws, h5, h6⟩ := hh.hp j B h2
    refine ⟨fun i e he => ?_, fun e he z hz => ?_, ws, ?_, ?_⟩
    · change (B.elems.map fun e => e.map (hidA r n x))[i]? = some e at he
      rw [List.getElem?_map] at he
      obtain ⟨e0, h7, rfl⟩ := Option.map_eq_some_iff.1 he
      rw [List.length_map]
      exact h3 i e0 h7
    · change e ∈ B.elems.map fun e => e.map (hidA r n x) at he
      obtain ⟨e0, h7, rfl⟩ := List.mem_map.1 he
      obtain ⟨z0, h8, rfl⟩ := List.mem_map.1 hz
      rw [z0l]
      exact h4 e0 h7 z0 h8
    · change RepL W ro φ _ (B.elems.map fun e => e.map (hidA r n x)).flatten ws
      rw [j4s]
      refine ⟨by rw [List.length_map]; exact h5.1, fun k z v hz hv => ?_⟩
      rw [List.getElem?_map] at hz
      obtain ⟨z0, h7, rfl⟩ := Option.map_eq_some_iff.1 hz
      have h8 := h5.2 k z0 v h7 hv
      rcases j6t r n x z0 with ⟨rfl, h9⟩ | h9
      · rw [h9]
        cases h8 with
        | row h1' hv' =>
          have := hv' R hR hn.symm
          rw [this, ← hx]
          exact .c (.v hx1)
      · rw [h9]
        exact h8.less hless
    · rw [j2j]
      exact h6
  · obtain ⟨_, C, _, h2, _⟩ := hold j B hj
    obtain ⟨_, C', _, h3, _⟩ := hold k B' hk
    exact hh.inj j k C C' b h2 h3 hne hb
  · obtain ⟨_, C, _, h2, _⟩ := hold j B hj
    exact hh.own j C b h2 hb
 have hcall := hout W ro φ vs hro hgk ⟨hargs.1, fun j z v h1 h2 => (hargs.2 j z v h1 h2).less hless⟩ hhX
 refine hcall.mono fun e W' ⟨v, ro', φ', he, hK, hro1, hro2, hy, hH, hG, hnew⟩ => ?_
 -- the row itself stands where it stood
 have hbR : ∀ b, q0y (φ r) = some b → b < W.heap.size := fun b hb => by
  obtain ⟨_, _, ws, _, h4⟩ := hh.hp r R hR
  rw [if_pos hrow] at h4
  rcases h4.2 with ⟨h5, _⟩ | ⟨g, cap, cur, h5, _, h6, _⟩
  · rw [h5] at hb; simp [q0y] at hb
  · rw [h5] at hb
    simp [q0y] at hb
    subst hb
    exact (Array.getElem?_eq_some_iff.1 h6).1
 have hmd : ∀ b, (∃ j B, q0l ((L.map some).map (Option.map (hidB r n x))) j = some B ∧ q0y (φ j) = some b) → ∃ j B, j ≠ r ∧ q0l (L.map some ++ [some R]) j = some B ∧ q0y (φ j) = some b := fun b ⟨j, B, h1, h2⟩ => by
  obtain ⟨h3, C, _, h4, _⟩ := hold j B h1
  exact ⟨j, C, h3, h4, h2⟩
 have hrow_same : ∀ b, q0y (φ r) = some b → W'.heap[b]? = W.heap[b]? := fun b hb => hK.block b (hbR b hb) fun hm => by
  obtain ⟨j, B, h1, h2, h3⟩ := hmd b hm
  exact hh.inj j r B R b h2 hR h1 h3 hb
 have hro_same : ∀ b, ro b → W'.heap[b]? = W.heap[b]? := fun b hb => hK.block b (hro b hb) fun hm => by
  obtain ⟨j, B, _, h2, h3⟩ := hmd b hm
  exact hh.own j B b h2 h3 hb
 obtain ⟨φ2, hφ2⟩ : ∃ φ2 : Nat → Value, φ2 = fun j => if j = r then φ r else φ' j := ⟨_, rfl⟩
 have e1 : φ2 r = φ r := by rw [hφ2]; simp
 have e2 : ∀ j, j ≠ r → φ2 j = φ' j := fun j hj => by rw [hφ2]; simp [hj]
 have hLl : 1000000 + L'.length = r := by rw [hl, hr]
 have hnewl : ∀ j B, q0l (L' ++ [some R]) j = some B → (j = r ∧ B = R) ∨ (j ≠ r ∧ q0l (L'.map (Option.map (hidB r n x))) j = some (hidB r n x B) ∧ q0l L' j = some B) := fun j B hB => by
  rcases z5h hB with ⟨h1, h2⟩ | ⟨h1, h2⟩
  · exact .inl ⟨by omega, h2⟩
  · exact .inr ⟨by omega, z5i h2, h2⟩
 have hRn : q0l (L' ++ [some R]) r = some R := by rw [← hLl]; exact z0v
 have hused : ∀ j, inL (L'.map (Option.map (hidB r n x))).length j → j ≠ r := fun j hj => by
  unfold inL at hj
  rw [List.length_map] at hj
  omega
 have hgo : Goes (inL (L'.map (Option.map (hidB r n x))).length) φ' φ2 (q0l (L'.map (Option.map (hidB r n x)))) (q0l (L' ++ [some R])) := fun j B hu hB => by
  rcases hnewl j B hB with ⟨h1, _⟩ | ⟨h1, h2, _⟩
  · exact absurd h1 (hused j hu)
  · exact ⟨_, h2, .inr ⟨j2j _ _ _ _, rfl, e2 j h1⟩⟩
 refine ⟨v, ro', φ2, he, ⟨hK.os, hK.tape, hK.output, hK.size, fun b hb hm => hK.block b hb fun hm' => hm ?_⟩, hro1, fun b hb => ?_, ?_, ?_, ?_, ?_⟩
 · obtain ⟨j, B, _, h2, h3⟩ := hmd b hm'
   exact ⟨j, B, h2, h3⟩
 · obtain ⟨h1, h2⟩ := hro2 b hb
   refine ⟨?_, h2⟩
   rcases h1 with h1 | h1 | h1
   · exact .inl h1
   · exact .inr (.inl h1)
   · obtain ⟨j, B, _, h4, h5⟩ := hmd b h1
     exact .inr (.inr ⟨j, B, h4, h5⟩)
 · exact hy.map hsX.1 (fun _ _ => rfl) (fun _ h => h) hgo
 · refine ⟨fun j B hB => ?_, fun j k B B' b hj hk hne hb hb' => ?_, fun j B b hj hb => ?_⟩
   · rcases hnewl j B hB with ⟨rfl, rfl⟩ | ⟨h1, h2, h3⟩
     · obtain ⟨g1, g2, ws, g3, g4⟩ := hh.hp j B hR
       refine ⟨g1, g2, ws, ⟨g3.1, fun k z v hz hv => ?_⟩, ?_⟩
       · obtain ⟨e, he, hze⟩ := List.mem_flatten.1 (List.mem_of_getElem? hz)
         obtain ⟨p, rfl⟩ := hpure e he z hze
         cases g3.2 k _ v hz hv with
         | c hp => exact .c (hp.map hro_same hro1)
       · rw [if_pos hrow] at g4 ⊢
         rw [e1]
         refine ⟨g4.1, ?_⟩
         rcases g4.2 with h5 | ⟨g, cap, cur, h5, h6, h7, h8⟩
         · exact .inl h5
         · exact .inr ⟨g, cap, cur, h5, h6, by rw [hrow_same g (by rw [h5]; rfl)]; exact h7, h8⟩
     · obtain ⟨g1, g2, ws, g3, g4⟩ := hH.hp j _ h2
       refine ⟨fun i e he => ?_, fun e he z hz => ?_, ws, ⟨?_, fun k z v hz hv => ?_⟩, ?_⟩
       · have := g1 i (e.map (hidA r n x)) (by show (B.elems.map fun e => e.map (hidA r n x))[i]? = _; rw [List.getElem?_map, he]; rfl)
         rw [List.length_map] at this
         exact this
       · have := g2 (e.map (hidA r n x)) (List.mem_map.2 ⟨e, he, rfl⟩) (hidA r n x z) (List.mem_map.2 ⟨z, hz, rfl⟩)
         rwa [z0l] at this
       · have := g3.1
         change ws.length = (B.elems.map fun e => e.map (hidA r n x)).flatten.length at this
         rw [j4s, List.length_map] at this
         exact this
       · have h5 : (hidB r n x B).elems.flatten[k]? = some (hidA r n x z) := by
          change (B.elems.map fun e => e.map (hidA r n x)).flatten[k]? = _
          rw [j4s, List.getElem?_map, hz]
          rfl
         have h6 := g3.2 k _ v h5 hv
         rcases j6t r n x z with ⟨rfl, h7⟩ | h7
         · rw [h7] at h6
           obtain rfl := q13 h6
           exact .row hx1 fun B' hB' _ => by rw [e1, hx]
         · rw [h7] at h6
           have h8 : hidA r n x z ∈ (hidB r n x B).elems.flatten := List.mem_of_getElem? h5
           obtain ⟨e', he', hze'⟩ := List.mem_flatten.1 h8
           have h9 := hsX.2 (some (hidB r n x B)) (List.mem_of_getElem? (q4n h2).2) _ rfl e' he' _ hze'
           rw [h7] at h9
           exact h6.map h9 (fun _ _ => rfl) (fun _ h => h) hgo
       · rw [j2j] at g4
         rw [e2 j h1]
         exact g4
   · rcases hnewl j B hj with ⟨rfl, rfl⟩ | ⟨h1, h2, _⟩
     · rcases hnewl k B' hk with ⟨rfl, rfl⟩ | ⟨h3, h4, _⟩
       · exact hne rfl
       · rw [e1] at hb
         rw [e2 k h3] at hb'
         rcases hnew k _ b h4 hb' with h5 | h5
         · exact absurd (hbR b hb) (by omega)
         · obtain ⟨i, C, h6, h7, h8⟩ := hmd b h5
           exact hh.inj i j C B b h7 hR h6 h8 hb
     · rcases hnewl k B' hk with ⟨rfl, rfl⟩ | ⟨h3, h4, _⟩
       · rw [e1] at hb'
         rw [e2 j h1] at hb
         rcases hnew j _ b h2 hb with h5 | h5
         · exact absurd (hbR b hb') (by omega)
         · obtain ⟨i, C, h6, h7, h8⟩ := hmd b h5
           exact hh.inj i k C B' b h7 hR h6 h8 hb'
       · rw [e2 j h1] at hb
         rw [e2 k h3] at hb'
         exact hH.inj j k _ _ b h2 h4 hne hb hb'
   · rcases hnewl j B hj with ⟨rfl, rfl⟩ | ⟨h1, h2, _⟩
     · rw [e1] at hb
       intro hr'
       rcases (hro2 b hr').1 with h5 | h5 | h5
       · exact hh.own j B b hR hb h5
       · exact absurd (hbR b hb) (by omega)
       · obtain ⟨i, C, h6, h7, h8⟩ := hmd b h5
         exact hh.inj i j C B b h7 hR h6 h8 hb
     · rw [e2 j h1] at hb
       exact hH.own j _ b h2 hb
 · intro j B' hu hB'
   rcases hnewl j B' hB' with ⟨rfl, rfl⟩ | ⟨h1, h2, _⟩
   · exact ⟨B', hR, .inr ⟨rfl, rfl, e1⟩⟩
   · have hu' : inL (L.map (hidB r n x)).length j := by
      unfold inL at hu ⊢
      rw [List.length_append, List.length_singleton] at hu
      rw [List.length_map]
      omega
     obtain ⟨B, h3, h4⟩ := hG j _ hu' h2
     obtain ⟨C, h5, rfl⟩ := j66 h3
     rw [j2j, j2j] at h4
     refine ⟨C, j65 h5, ?_⟩
     rw [e2 j h1]
     exact h4
 · intro j B b hB hb
   rcases hnewl j B hB with ⟨rfl, rfl⟩ | ⟨h1, h2, _⟩
   · rw [e1] at hb
     exact .inr ⟨j, B, hR, hb⟩
   · rw [e2 j h1] at hb
     rcases hnew j _ b h2 hb with h3 | h3
     · exact .inl h3
     · obtain ⟨i, C, _, h6, h7⟩ := hmd b h3
       exact .inr ⟨i, C, h6, h7⟩

def zJ : JT := .mk 0 0 [] [] []
theorem zJ_cells : zJ.cells = [.v (.int .i64 0), .v (.int .i64 0), .v (.string ⟨#[]⟩), .sl 5 [], .sl 1 []] := by simp [zJ, JT.cells, JT.cellsL]; rfl
theorem frz_zJ {K : Nat → Bool} (h : Nat → Option Blkd) : Frz K h (.agg [.c (.v (.int .i64 0)), .c (.v (.int .i64 0)), .c (.v (.string ⟨#[]⟩)), .c (.v (.slice none 0 0)), .c (.v (.slice none 0 0))]) (.agg (List.map AV.c zJ.cells)) := by
 rw [zJ_cells]
 exact Frz.aggL (.cons (.c _) (.cons (.c _) (.cons (.c _) (.cons (.nil 5) (.cons (.nil 1) .nil)))))
theorem q44 (t : JT) (key : List UInt8) : Told Tryz.prog 166 [t.av, .c (.v (.string (str key)))] (.tup [((jget t key).getD zJ).av, .c (.v (.bool (jget t key).isSome))]) := by
 cases t with
 | mk k n s ks xs =>
 refine VC.told ent_166 Tryz.func166 rfl Tryz.ntmps166 (by simp) (by rfl) (by simp [AV.pureB, AV.pureL, JT.av, q20]) fun hb => ?_
 simp only [JT.av, q0t, List.map_cons, List.map_nil, q8f, q47, q81, q5d, List.mem_cons, List.not_mem_nil, or_false, forall_eq_or_imp, forall_eq, true_and, List.length_map] at hb ⊢
 have hx1 := hb.1.1.1
 clear hb
 have hil := idxS_le key ks
 obtain ⟨i, hi⟩ : ∃ i, i = idxS key ks := ⟨_, rfl⟩
 have hcall := z2n ks key
 have hg : jget (.mk k n s ks xs) key = if k = 6 ∧ 0 ≤ i then xs[i.toNat]? else none := by rw [hi]; rfl
 rw [hg]
 rw [← hi] at hcall hil
 clear hg hi
 refine q0c ?_
 (refine AO.step fun K hK => ?_; simp only [go_sem, Int.reduceBEq, Int.reduceLE, Int.reduceLT, Int.reduceNeg, Nat.reduceAdd, Nat.reduceEqDiff, Nat.reduceLT, Nat.reduceLeDiff, Nat.reduceMul, Nat.reduceSub, reduceCtorEq, ↓reduceIte]; (first | refine q1m ?_ | skip))
 refine .inl ⟨_, hcall, hK _ _ _ ?_⟩
 clear hK K
 refine q0c ?_
 refine VC.cond (by rfl) (by trivial) (fun hc => ?_) (fun hc => ?_)
 · have hn : (if k = 6 ∧ 0 ≤ i then xs[i.toNat]? else none) = none := by
    split
    · rename_i h
      rw [List.getElem?_eq_none]
      simp [h.1, Int.not_lt.2 h.2] at hc
      omega
    · rfl
   rw [hn]
   refine q0c ?_
   refine ⟨.inr rfl, ?_⟩
   rw [Tryz.results166]
   simp only [q1x, resV, go_sem, simprocAttr]
   exact ⟨frz_zJ _, .c _⟩
 · have hk : k = 6 ∧ 0 ≤ i ∧ i < xs.length := by
    simp at hc
    omega
   obtain ⟨rfl, h0, h1⟩ := hk
   obtain ⟨x, hx⟩ : ∃ x, xs[i.toNat]? = some x := ⟨xs[i.toNat], List.getElem?_eq_getElem (by omega)⟩
   rw [if_pos ⟨rfl, h0⟩, hx]
   refine q0d (And.intro @q4w (And.intro hx (And.intro @q2n (And.intro @q3a @q2t)))) ?_
   refine ⟨.inr rfl, ?_⟩
   rw [Tryz.results166]
   simp only [q2n, q2t, q1x, resV, go_sem, simprocAttr]
   exact ⟨Frz.cs _ _, .c _⟩

def xW (n : Nat) (e : Int) : Blkd := ⟨false, 60, 3, [[.row 1000001 n, .c (.v (.int .i64 0)), .c (.v (.int .i64 e))]]⟩
def xN (es : List EN) : Blkd := ⟨true, 40, 10, rA EN.cells es⟩
def fl (e : Int) (b : Bool) (c : Int) : Int := if e ≠ 0 then e else if b = true then c else 0
theorem q1i (e : Int) (b : Bool) (c : Int) (h : e ≠ 0) : fl e b c = e := by unfold fl; rw [if_pos h]
theorem fl_ok (b : Bool) (c : Int) : fl 0 b c = if b = true then c else 0 := by unfold fl; rw [if_neg (by simp)]
theorem q2j (es : List EN) (n : Nat) (hn : n = es.length) (e c : Int) (b : Bool) : ToldM Tryz.prog 36 [.ref 1000000 1 0 0, .c (.v (.bool b)), .c (.v (.int .i64 c))] [xW n e, xN es] [some (xW n (fl e b c)), some (xN es)] (.tup []) := by
 unfold xW xN
 cases b with
 | false =>
   have hf : fl e false c = e := by unfold fl; split; rfl; simp; omega
   rw [hf]
   refine VC.toldXF (And.intro @q0a (And.intro @q0g hn)) ent_36 [] Tryz.func36 rfl Tryz.ntmps36 fun hb hbL => ?_
   clear hb hbL
   refine q0u ?_
   exact retZF (@q0b) Tryz.results36
 | true =>
   by_cases he : e = 0
   · subst he
     rw [fl_ok, if_pos rfl]
     refine VC.toldXF (And.intro @q0a (And.intro @q0g hn)) ent_36 [] Tryz.func36 rfl Tryz.ntmps36 fun hb hbL => ?_
     clear hb hbL
     refine q0u ?_
     exact retZF (@q0b) Tryz.results36
   · rw [q1i _ _ _ he]
     have hd : (e == 0) = false := by simpa using he
     refine VC.toldXF (And.intro @q0a (And.intro @q0g hn)) ent_36 [] Tryz.func36 rfl Tryz.ntmps36 fun hb hbL => ?_
     clear hb hbL
     refine q0f (hd) ?_
     exact retZF (@q0b) Tryz.results36
def q2k (hs : List HN) (e : Int) (n : NT) : List NT × Int × Int :=
 if fl e (decide (200 ≤ hs.length)) 3 ≠ 0 then ([], 0, fl e (decide (200 ≤ hs.length)) 3) else ([n], (hs.length : Int), 0)
theorem j32 (es : List EN) (hl : es.length ≤ 200) (e : Int) (m : EN) : ToldM Tryz.prog 117 [.ref 1000000 1 0 0, m.av] [xW es.length e, xN es]
  [some (xW (if fl e (decide (200 ≤ es.length)) 3 = 0 then es ++ [m] else es).length (fl e (decide (200 ≤ es.length)) 3)), some (xN (if fl e (decide (200 ≤ es.length)) 3 = 0 then es ++ [m] else es))] (.c (.v (.int .i64 (if fl e (decide (200 ≤ es.length)) 3 = 0 then (es.length : Int) else 0)))) := by
 have hF := q2j es es.length rfl e 3 (decide (200 ≤ es.length))
 have hge : decide ((es.length : Int) ≥ 200) = decide (200 ≤ es.length) := decide_eq_decide.2 (by omega)
 generalize fl e (decide (200 ≤ es.length)) 3 = E at hF ⊢
 unfold xW xN at hF ⊢
 rw [EN.av_eq, q2v]
 by_cases hE : E = 0
 · subst hE
   simp only [if_true]
   have hw : IntKind.i64.wrap (((es.length + 1 : Nat) : Int) - 1) = (es.length : Int) := by rw [show ((es.length + 1 : Nat) : Int) - 1 = (es.length : Int) by omega]; exact q0w (by omega) (by omega)
   refine VC.toldXF (And.intro @q0a @q0g) ent_117 [] Tryz.func117 rfl Tryz.ntmps117 fun hb hbL => ?_
   clear hb hbL
   refine q0d (And.intro @q0a hge) ?_
   refine q0i (And.intro @q0a (And.intro hge @q0b)) [1000000, 1000001] (hF) ?_
   have hone : rA EN.cells es ++ [[.c (.v (.int .i64 m.n.kind)), .c (.v (.string (str m.n.name))), .c (.sl 1 (m.n.aliases.map sPV)), .c m.f, .c (.sl 1 (m.n.symbols.map sPV)), .c (.v (.bool m.n.has)), .c (.v (.string (str m.n.dflt))), .c (.v (.int .i64 m.n.size)), .c (.v (.int .i64 m.n.items)), .c m.b]] = rA EN.cells (es ++ [m]) := q58 EN.cells es m
   have hlen : (es ++ [m]).length = es.length + 1 := by simp
   refine q0f (And.intro @q0b (And.intro @q0a (And.intro hone (And.intro hlen hw)))) ?_
   refine q0j (And.intro @q0b (And.intro hone hlen)) Tryz.results117 ?_
   exact .c _
 · rw [if_neg hE, if_neg hE]
   have hd : (E != 0) = true := by simpa using hE
   refine VC.toldXF (And.intro @q0a @q0g) ent_117 [] Tryz.func117 rfl Tryz.ntmps117 fun hb hbL => ?_
   clear hb hbL
   refine q0d (And.intro @q0a hge) ?_
   refine q0i (And.intro @q0a (And.intro hge @q0b)) [1000000, 1000001] (hF) ?_
   refine q0f (And.intro @q0a hd) ?_
   refine q0j (@q0b) Tryz.results117 ?_
   exact .c _
theorem q0m (j : JT) : j.cells = [.v (.int .i64 j.kd), .v (.int .i64 j.num), .v (.string (str j.txt)), .sl 5 (j.its.map JT.cells), .sl 1 (j.keys.map sPV)] := by
 cases j with
 | mk k n s ks xs =>
   rw [q0t]
   rfl
def gt (j : JT) (key : List UInt8) : JT := (jget j key).getD zJ
theorem j1y (es : List EN) (n : Nat) (hn : n = es.length) (e : Int) (j : JT) (key : List UInt8) : ToldM Tryz.prog 121 [.ref 1000000 1 0 0, j.av, .c (.v (.string (str key)))] [xW n e, xN es] [some (xW n (fl e ((gt j key).kd != 4) 30)), some (xN es)] (.c (.v (.string (str (gt j key).txt)))) := by
 have hG := q44 j key
 have hF := q2j es n hn e 30 ((gt j key).kd != 4)
 have hsome : (jget j key).isSome = false → (gt j key).kd != 4 := by
  intro h
  unfold gt
  cases hq : jget j key with
  | none => rfl
  | some y => rw [hq] at h; simp at h
 rw [show (jget j key).getD zJ = gt j key from rfl] at hG
 generalize fl e ((gt j key).kd != 4) 30 = E at hF ⊢
 generalize (jget j key).isSome = b at hG hsome
 generalize gt j key = x at *
 rw [JT.av_eq x, q0m x] at hG
 rw [JT.av_eq, q0m] at hG ⊢
 generalize j.kd = j1 at *
 generalize j.num = j2 at *
 generalize j.txt = j3 at *
 generalize j.its = j4 at *
 generalize j.keys = j5 at *
 generalize x.kd = x1 at *
 generalize x.num = x2 at *
 generalize x.txt = x3 at *
 generalize x.its = x4 at *
 generalize x.keys = x5 at *
 unfold xW xN at hF ⊢
 cases b with
 | false =>
   rw [hsome rfl] at hF
   refine VC.toldXF (And.intro @q0a (And.intro @q0g hn)) ent_121 [] Tryz.func121 rfl Tryz.ntmps121 fun hb hbL => ?_
   clear hb hbL
   refine q0c ?_
   refine q0e (hG) ?_
   refine q0c ?_
   refine q0i (And.intro @q0a (And.intro @q0b hn)) [1000000, 1000001] (hF) ?_
   refine q0c ?_
   refine q0j (@q0b) Tryz.results121 ?_
   exact .c _
 | true =>
   refine VC.toldXF (And.intro @q0a (And.intro @q0g hn)) ent_121 [] Tryz.func121 rfl Tryz.ntmps121 fun hb hbL => ?_
   clear hb hbL
   refine q0c ?_
   refine q0e (hG) ?_
   refine q0c ?_
   refine q0i (And.intro @q0a (And.intro @q0b hn)) [1000000, 1000001] (hF) ?_
   refine q0c ?_
   refine q0j (@q0b) Tryz.results121 ?_
   exact .c _
theorem fl_fl (e : Int) (a b : Bool) (c : Int) (hc : c ≠ 0) : fl (fl e a c) b c = fl e (a || b) c := by
 unfold fl
 by_cases he : e = 0
 · subst he
   cases a <;> simp [hc]
 · simp [he]
def q2u (e : Int) (x : JT) : Int := fl (fl (fl e (x.kd != 5) 30) (x.its.any fun y => y.kd != 4) 30) (decide (40 < x.its.length)) 3
theorem j5o {l : List JT} {i : Nat} {x : JT} (h : l[i]? = some x) : rA sPV ((l.take i).map JT.txt) ++ [[.c (.v (.string (str x.txt)))]] = rA sPV ((l.take (i + 1)).map JT.txt) := by
 rw [List.take_add_one, h]
 simp [rA, sPV]
theorem j50 (es : List EN) (n : Nat) (hn : n = es.length) (e : Int) (x : JT) (hl : x.its.length ≤ 1000000) : ToldM Tryz.prog 171 [.ref 1000000 1 0 0, x.av] [xW n e, xN es] [some (xW n (q2u e x)), some (xN es)] (.c (.sl 1 ((x.its.map JT.txt).map sPV))) := by
 have hF1 := q2j es n hn e 30 (x.kd != 5)
 unfold q2u
 generalize fl e (x.kd != 5) 30 = e1 at hF1 ⊢
 have hF3 := q2j es n hn (fl e1 (x.its.any fun y => y.kd != 4) 30) 3 (decide (40 < x.its.length))
 generalize fl (fl e1 (x.its.any fun y => y.kd != 4) 30) (decide (40 < x.its.length)) 3 = e3 at hF3 ⊢
 have hgt : decide ((x.its.length : Int) > 40) = decide (40 < x.its.length) := decide_eq_decide.2 (by omega)
 rw [JT.av_eq, q0m]
 generalize x.kd = x1 at *
 generalize x.num = x2 at *
 generalize x.txt = x3 at *
 generalize x.its = l at *
 generalize x.keys = x5 at *
 unfold xW xN at hF1 hF3 ⊢
 refine VC.toldXF (And.intro @q0a (And.intro @q0g hn)) ent_171 [] Tryz.func171 rfl Tryz.ntmps171 fun hb hbL => ?_
 clear hb hbL
 refine q0c ?_
 refine q0i (And.intro @q0a (And.intro @q0b hn)) [1000000, 1000001] (hF1) ?_
 refine q0c ?_
 refine VC.nil 5 9 1 (by rfl) (by trivial) (by rfl) ?_
 refine VC.loop (ι := {i : Nat // i ≤ l.length}) (fun q => [(0, .ref 1000000 1 0 0), (5, .row 96 q.1), (14, .c (.sl 5 (l.map JT.cells))), (15, .c (.v (.int .i64 (l.length : Int)))), (16, .c (.v (.int .i64 (q.1 : Int))))])
  (fun q => [(1000000, ⟨false, 60, 3, [[.row 1000001 n, .c (.v (.int .i64 0)), .c (.v (.int .i64 (fl e1 ((l.take q.1).any fun y => y.kd != 4) 30)))]]⟩), (1000001, ⟨true, 40, 10, rA EN.cells es⟩), (96, ⟨true, 9, 1, rA sPV ((l.take q.1).map JT.txt)⟩)]) 800 (fun q => l.length - q.1) ⟨0, Nat.zero_le _⟩ ?_ ?_
 · have h0 : fl e1 (([] : List JT).any fun y => y.kd != 4) 30 = e1 := by
    unfold fl
    split
    · rfl
    · simp; omega
   simp only [q32, q0a, q0g, q0b, hn, List.take_zero, h0, Weak, eq_self, q09, q03, sc_c, q05, q06, q07, q02, q04, ScL, q08, List.forall_mem_map, go_sem, Int.reduceBEq, Int.reduceLE, Int.reduceLT, Int.reduceNeg, Nat.reduceAdd, Nat.reduceEqDiff, Nat.reduceLT, Nat.reduceLeDiff, Nat.reduceMul, Nat.reduceSub, reduceCtorEq, ↓reduceIte]
   exact Nat.le_refl _
 rintro ⟨i, hi⟩
 simp only []
 have hti : ((l.take i).map JT.txt).length = i := by simp; omega
 refine q0c ?_
 refine VC.cond (by rfl) (by trivial) (fun hc => ?_) (fun hc => ?_)
 · have hlt : i < l.length := by simp at hc; omega
   obtain ⟨y, hy⟩ : ∃ y, l[i]? = some y := ⟨l[i], List.getElem?_eq_getElem hlt⟩
   have hyp : (l.map JT.cells)[i]? = some [.v (.int .i64 y.kd), .v (.int .i64 y.num), .v (.string (str y.txt)), .sl 5 (y.its.map JT.cells), .sl 1 (y.keys.map sPV)] := by rw [List.getElem?_map, hy, ← q0m]; rfl
   have hw : IntKind.i64.wrap ((i : Int) + 1) = (i : Int) + 1 := q0w (by omega) (by omega)
   have hap := j5o hy
   have hti2 : ((l.take (i + 1)).map JT.txt).length = i + 1 := by simp; omega
   have hany : (l.take (i + 1)).any (fun y => y.kd != 4) = ((l.take i).any (fun y => y.kd != 4) || y.kd != 4) := by
    rw [List.take_add_one, hy]
    simp
   have hE := fl_fl e1 ((l.take i).any fun y => y.kd != 4) (y.kd != 4) 30 (by decide)
   rw [← hany] at hE
   have hF2 := q2j es n hn (fl e1 ((l.take i).any fun y => y.kd != 4) 30) 30 (y.kd != 4)
   unfold xW xN at hF2
   rw [hE] at hF2
   generalize fl e1 ((l.take i).any fun y => y.kd != 4) 30 = ei at *
   refine q0d (hyp) ?_
   refine q0i (And.intro @q0a (And.intro @q0b hn)) [1000000, 1000001] (hF2) ?_
   refine q0d (And.intro @q0a (And.intro hti (And.intro hap hw))) ?_
   refine .next ⟨i + 1, by omega⟩ ?_ (by simp only []; omega)
   refine q1l (And.intro @q0a (And.intro @q0g (And.intro @q0b (And.intro hti2 hn)))) ?_
   exact ⟨cI (by omega), Nat.le_refl _, Nat.le_refl _⟩
 · have hie : i = l.length := by simp at hc; omega
   subst hie
   rw [List.take_length] at *
   refine q0d (And.intro @q0a (And.intro hti hgt)) ?_
   refine q0i (And.intro @q0a (And.intro @q0b hn)) [1000000, 1000001] (hF3) ?_
   refine q0d (@q0a) ?_
   refine q0j (@q0b) Tryz.results171 ?_
   exact q43 (f := sPV) (T := 9) rfl (by rw [List.length_map]) rfl fun x _ => rfl

def q3i (j : JT) (v : List UInt8 → List UInt8) : List (List UInt8) := if (jget j q0z).isSome = true then ((gt j q0z).its.map JT.txt).map v else []
def q2z (e : Int) (j : JT) (ok : List UInt8 → Bool) : Int := if (jget j q0z).isSome = true then fl (q2u e (gt j q0z)) (((gt j q0z).its.map JT.txt).any fun s => !ok s) 31 else e
theorem al_next {l : List (List UInt8)} {v : List UInt8 → List UInt8} {i : Nat} {x : List UInt8} (h : l[i]? = some x) : rA sPV ((l.take i).map v) ++ [[.c (.v (.string (str (v x))))]] = rA sPV ((l.take (i + 1)).map v) := by
 rw [List.take_add_one, h]
 simp [rA, sPV]
theorem z35 (es : List EN) (n : Nat) (hn : n = es.length) (e : Int) (j : JT) (hl : (gt j q0z).its.length ≤ 1000000) {g : FuncId} {fs cs : List AV} (hp : AV.pureL fs = true) (hp' : AV.pureL cs = true) (v : List UInt8 → List UInt8) (ok : List UInt8 → Bool)
  (hk : ∀ x ∈ (gt j q0z).its, Told Tryz.prog g (fs ++ ([.c (.v (.string (str x.txt)))] ++ cs)) (.tup [.c (.v (.string (str (v x.txt)))), .c (.v (.bool (ok x.txt)))])) :
  ToldM Tryz.prog 169 [.ref 1000000 1 0 0, j.av, .fn (.func g) fs cs] [xW n e, xN es] [some (xW n (q2z e j ok)), some (xN es)] (.c (.sl 1 ((q3i j v).map sPV))) := by
 have hG := q44 j q0z
 have hT := j50 es n hn e (gt j q0z) hl
 unfold q3i q2z
 rw [show (jget j q0z).getD zJ = gt j q0z from rfl] at hG
 rw [show (gt j q0z).its.map JT.txt = (gt j q0z).its.map JT.txt from rfl] at hT
 generalize (jget j q0z).isSome = b at hG ⊢
 generalize q2u e (gt j q0z) = e1 at hT ⊢
 have hk' : ∀ s ∈ (gt j q0z).its.map JT.txt, Told Tryz.prog g (fs ++ ([.c (.v (.string (str s)))] ++ cs)) (.tup [.c (.v (.string (str (v s)))), .c (.v (.bool (ok s)))]) := fun s hs => by
  obtain ⟨x, hx, rfl⟩ := List.mem_map.1 hs
  exact hk x hx
 clear hk
 have hl' : ((gt j q0z).its.map JT.txt).length ≤ 1000000 := by rw [List.length_map]; exact hl
 clear hl
 generalize (gt j q0z).its.map JT.txt = l at *
 generalize gt j q0z = x at *
 rw [JT.av_eq x, q0m x] at hG hT
 rw [JT.av_eq, q0m] at hG ⊢
 generalize j.kd = j1 at *
 generalize j.num = j2 at *
 generalize j.txt = j3 at *
 generalize j.its = j4 at *
 generalize j.keys = j5 at *
 generalize x.kd = x1 at *
 generalize x.num = x2 at *
 generalize x.txt = x3 at *
 generalize x.its = x4 at *
 generalize x.keys = x5 at *
 rw [q0z, q2h [97, 108, 105, 97, 115, 101, 115]] at hG
 unfold xW xN at hT ⊢
 have hq1 : ∀ (used : Nat → Prop) (h : Nat → Option Blkd), (∀ x ∈ fs, Sc used h x) = True := fun used h => q4d hp
 have hq2 : ∀ (used : Nat → Prop) (h : Nat → Option Blkd), (∀ x ∈ cs, Sc used h x) = True := fun used h => q4d hp'
 cases b with
 | false =>
   simp only [Bool.false_eq_true, if_false]
   refine VC.toldXF (And.intro @q0a (And.intro @q0g (And.intro hn (And.intro hq1 hq2)))) j4d [] Tryz.func169 rfl Tryz.ntmps169 fun hb hbL => ?_
   clear hb hbL
   refine q0c ?_
   refine q0e (hG) ?_
   refine q0u ?_
   refine q0j (@q0b) Tryz.results169 ?_
   exact .nil 1
 | true =>
   simp only [if_true]
   refine VC.toldXF (And.intro @q0a (And.intro @q0g (And.intro hn (And.intro hq1 hq2)))) j4d [] Tryz.func169 rfl Tryz.ntmps169 fun hb hbL => ?_
   clear hb hbL
   refine q0c ?_
   refine q0e (hG) ?_
   refine q0u ?_
   refine q0i (And.intro @q0a (And.intro @q0b hn)) [1000000, 1000001] (hT) ?_
   refine q0c ?_
   refine VC.nil 9 9 1 (by rfl) (by trivial) (by rfl) ?_
   refine VC.loop (ι := {i : Nat // i ≤ l.length}) (fun q => [(0, .ref 1000000 1 0 0), (2, .fn (.func g) fs cs), (9, .row 144 q.1), (23, .c (.sl 1 (l.map sPV))), (24, .c (.v (.int .i64 (l.length : Int)))), (25, .c (.v (.int .i64 (q.1 : Int))))])
    (fun q => [(1000000, ⟨false, 60, 3, [[.row 1000001 n, .c (.v (.int .i64 0)), .c (.v (.int .i64 (fl e1 ((l.take q.1).any fun s => !ok s) 31)))]]⟩), (1000001, ⟨true, 40, 10, rA EN.cells es⟩), (144, ⟨true, 9, 1, rA sPV ((l.take q.1).map v)⟩)]) 800 (fun q => l.length - q.1) ⟨0, Nat.zero_le _⟩ ?_ ?_
   · have h0 : fl e1 (([] : List (List UInt8)).any fun s => !ok s) 31 = e1 := by
      unfold fl
      split
      · rfl
      · simp; omega
     simp only [q32, q0a, q0g, q0b, hn, List.take_zero, h0, hq1, hq2, Weak, eq_self, q09, q03, sc_c, q05, q06, q07, q02, q04, ScL, q08, List.forall_mem_map, go_sem, Int.reduceBEq, Int.reduceLE, Int.reduceLT, Int.reduceNeg, Nat.reduceAdd, Nat.reduceEqDiff, Nat.reduceLT, Nat.reduceLeDiff, Nat.reduceMul, Nat.reduceSub, reduceCtorEq, ↓reduceIte]
     exact Nat.le_refl _
   rintro ⟨i, hi⟩
   simp only []
   have hti : ((l.take i).map v).length = i := by simp; omega
   refine q0c ?_
   refine VC.cond (by rfl) (by trivial) (fun hc => ?_) (fun hc => ?_)
   · have hlt : i < l.length := by simp at hc; omega
     obtain ⟨y, hy⟩ : ∃ y, l[i]? = some y := ⟨l[i], List.getElem?_eq_getElem hlt⟩
     have hyp : (l.map sPV)[i]? = some [.v (.string (str y))] := by rw [List.getElem?_map, hy]; rfl
     have hw : IntKind.i64.wrap ((i : Int) + 1) = (i : Int) + 1 := q0w (by omega) (by omega)
     have hap := al_next (v := v) hy
     have hti2 : ((l.take (i + 1)).map v).length = i + 1 := by simp; omega
     have hany : (l.take (i + 1)).any (fun s => !ok s) = ((l.take i).any (fun s => !ok s) || !ok y) := by
      rw [List.take_add_one, hy]
      simp
     have hE := fl_fl e1 ((l.take i).any fun s => !ok s) (!ok y) 31 (by decide)
     rw [← hany] at hE
     have hF2 := q2j es n hn (fl e1 ((l.take i).any fun s => !ok s) 31) 31 (!ok y)
     unfold xW xN at hF2
     rw [hE] at hF2
     generalize fl e1 ((l.take i).any fun s => !ok s) 31 = ei at *
     have hky := hk' y (List.mem_of_getElem? hy)
     refine q0d (hyp) ?_
     refine q33 (And.intro hp (And.intro hp' (And.intro @j3l (And.intro @q20 @lAss)))) (hky) ?_
     refine q0c ?_
     refine q0i (And.intro @q0a (And.intro @q0b hn)) [1000000, 1000001] (hF2) ?_
     refine q0d (And.intro @q0a (And.intro hti (And.intro hap hw))) ?_
     refine .next ⟨i + 1, by omega⟩ ?_ (by simp only []; omega)
     refine q1l (And.intro @q0a (And.intro @q0g (And.intro @q0b (And.intro hti2 (And.intro hn (And.intro hq1 hq2)))))) ?_
     exact ⟨cI (by omega), Nat.le_refl _, Nat.le_refl _⟩
   · have hie : i = l.length := by simp at hc; omega
     subst hie
     rw [List.take_length] at *
     refine q0d (And.intro @q0a hti) ?_
     refine q0j (@q0b) Tryz.results169 ?_
     exact q43 (f := sPV) (T := 9) rfl (by rw [List.length_map]) rfl fun x _ => rfl

theorem ToldM.co {P : Program} {f : FuncId} {args args' : List AV} {L : List Blkd} {L' : List (Option Blkd)} {y : AV} (hT : ToldM P f args' L L' y) (hc : CoL args args') : ToldM P f args L L' y :=
 ⟨hT.enters, hT.zs, hT.sc, fun W ro φ vs hro hgk hl hh => hT.out W ro φ vs hro hgk ⟨by rw [hl.1, hc.at_.1], fun j y v h1 h2 => by
  have hk : j < args.length := by have := (List.getElem?_eq_some_iff.1 h1).1; have := hc.at_.1; omega
  exact (hc.at_.2 j _ y (List.getElem?_eq_getElem hk) h1).rep (hl.2 j _ v (List.getElem?_eq_getElem hk) h2)⟩ hh⟩

theorem j55 (k : Int) : Co (.agg [.c (.v (.int .i64 k)), .c (.v (.string ⟨#[]⟩)), .c (.v (.slice none 0 0)), .c (.v (.slice none 0 0)), .c (.v (.slice none 0 0)), .c (.v (.bool false)), .c (.v (.string ⟨#[]⟩)), .c (.v (.int .i64 0)), .c (.v (.int .i64 0)), .c (.v (.slice none 0 0))]) (EN.of (q1g k)).av := by
 rw [EN.av_eq, q2v]
 exact Co.aggL (.cons (.same _) (.cons (.same _) (.cons (.nil 1) (.cons (.nil 9) (.cons (.nil 1) (.cons (.same _) (.cons (.same _) (.cons (.same _) (.cons (.same _) (.cons (.nil 1) .nil))))))))))
def hsE (es : List EN) : List HN := es.map fun e => q0p e.n
theorem j31 (es : List EN) (hl : es.length ≤ 200) (e : Int) (n : NT) : ToldM Tryz.prog 117 [.ref 1000000 1 0 0, (EN.of n).av] [xW es.length e, xN es]
  [some (xW (es ++ (q2k (hsE es) e n).1.map EN.of).length (q2k (hsE es) e n).2.2), some (xN (es ++ (q2k (hsE es) e n).1.map EN.of))] (.c (.v (.int .i64 (q2k (hsE es) e n).2.1))) := by
 have h := j32 es hl e (EN.of n)
 unfold q2k hsE
 rw [List.length_map]
 by_cases hE : fl e (decide (200 ≤ es.length)) 3 = 0
 · simp only [if_pos hE] at h
   rw [hE] at h
   rw [if_neg (by simpa using hE)]
   exact h
 · simp only [if_neg hE] at h
   rw [if_pos hE]
   simpa using h
theorem j30 (es : List EN) (hl : es.length ≤ 200) (e k : Int) : ToldM Tryz.prog 117 [.ref 1000000 1 0 0, .agg [.c (.v (.int .i64 k)), .c (.v (.string ⟨#[]⟩)), .c (.v (.slice none 0 0)), .c (.v (.slice none 0 0)), .c (.v (.slice none 0 0)), .c (.v (.bool false)), .c (.v (.string ⟨#[]⟩)), .c (.v (.int .i64 0)), .c (.v (.int .i64 0)), .c (.v (.slice none 0 0))]] [xW es.length e, xN es]
  [some (xW (es ++ (q2k (hsE es) e (q1g k)).1.map EN.of).length (q2k (hsE es) e (q1g k)).2.2), some (xN (es ++ (q2k (hsE es) e (q1g k)).1.map EN.of))] (.c (.v (.int .i64 (q2k (hsE es) e (q1g k)).2.1))) :=
 (j31 es hl e (q1g k)).co (.cons (.same _) (.cons (j55 k) .nil))
def q6f (hs : List HN) (w a : List UInt8) : List NT × Int × Int :=
 if 1 ≤ q0h w ∧ q0h w ≤ 8 then q2k hs 0 (q1g (q0h w))
 else ([], max (q19 hs ((q1e a w).getD [])) 0, fl (fl 0 (!(q1e a w).isSome) 31) (decide (q19 hs ((q1e a w).getD []) < 0)) 33)
theorem j9d (es : List EN) (hl : es.length ≤ 200) (s a : List UInt8) (h1 : s.length ≤ 100000000) (h2 : a.length ≤ 100000000) : ToldM Tryz.prog 70 [.ref 1000000 1 0 0, .c (.v (.string (str s))), .c (.v (.string (str a)))] [xW es.length 0, xN es]
  [some (xW (es ++ (q6f (hsE es) s a).1.map EN.of).length (q6f (hsE es) s a).2.2), some (xN (es ++ (q6f (hsE es) s a).1.map EN.of))] (.c (.v (.int .i64 (q6f (hsE es) s a).2.1))) := by
 have hK := j63 s
 have hJ := j6z a s h2 h1
 unfold q5c at hJ
 have hFr := j30 es hl 0 (q0h s)
 unfold q6f
 by_cases hk : 1 ≤ q0h s ∧ q0h s ≤ 8
 · rw [if_pos hk]
   have hg1 : decide ((q0h s : Int) ≥ 1) = true := by simp; omega
   have hg2 : decide ((q0h s : Int) ≤ 8) = true := by simp; omega
   generalize q2k (hsE es) 0 (q1g (q0h s)) = V at *
   obtain ⟨V1, V2, V3⟩ := V
   simp only [] at hFr ⊢
   generalize es ++ V1.map EN.of = es' at *
   generalize (q0h s : Int) = k at *
   unfold xW xN at hFr ⊢
   refine VC.toldXF (And.intro @q0a @q0g) ent_70 [] Tryz.func70 rfl Tryz.ntmps70 fun hb hbL => ?_
   clear hb hbL
   refine q0c ?_
   refine q0e (hK) ?_
   refine q0f (And.intro hg1 hg2) ?_
   refine q0i (And.intro @q0a @q0b) [1000000, 1000001] (hFr) ?_
   refine q0d (And.intro @q0a @q0b) ?_
   refine q0j (@q0b) Tryz.results70 ?_
   exact .c _
 · rw [if_neg hk]
   simp only [List.map_nil, List.append_nil]
   have hF := j96 es 0 ((q1e a s).getD [])
   rw [show (es.map fun e => q0p e.n) = hsE es from rfl] at hF
   have hF1 := q2j es es.length rfl 0 31 (!(q1e a s).isSome)
   have hF2 := q2j es es.length rfl (fl 0 (!(q1e a s).isSome) 31) 33 (decide (q19 (hsE es) ((q1e a s).getD []) < 0))
   generalize fl (fl 0 (!(q1e a s).isSome) 31) (decide (q19 (hsE es) ((q1e a s).getD []) < 0)) 33 = e2 at *
   generalize fl 0 (!(q1e a s).isSome) 31 = e1 at *
   generalize q19 (hsE es) ((q1e a s).getD []) = at' at *
   generalize (q1e a s).getD [] = f at *
   generalize (q1e a s).isSome = b at *
   have hkk : (q0h s : Int) < 1 ∨ (1 ≤ (q0h s : Int) ∧ 8 < (q0h s : Int)) := by omega
   generalize (q0h s : Int) = k at *
   unfold xW xN at hF1 hF2 ⊢
   rcases hkk with hkk | ⟨hkk, hkk2⟩
   · have hg1 : decide (k ≥ 1) = false := by simp; omega
     refine VC.toldXF (And.intro @q0a @q0g) ent_70 [] Tryz.func70 rfl Tryz.ntmps70 fun hb hbL => ?_
     clear hb hbL
     refine q0c ?_
     refine q0e (hK) ?_
     refine q0f (hg1) ?_
     refine q0e (hJ) ?_
     refine q0c ?_
     refine q0i (And.intro @q0a @q0b) [1000000, 1000001] (hF1) ?_
     refine q0d (And.intro @q0a @q0b) ?_
     (refine AO.step fun K hK => ?_; simp only [go_sem, Int.reduceBEq, Int.reduceLE, Int.reduceLT, Int.reduceNeg, Nat.reduceAdd, Nat.reduceEqDiff, Nat.reduceLT, Nat.reduceLeDiff, Nat.reduceMul, Nat.reduceSub, reduceCtorEq, ↓reduceIte]; (first | refine q1m ?_ | skip))
     refine .inr (.inl ⟨_, [.agg [.c (.sl 10 (es.map EN.cells)), .c (.v (.int .i64 0))], .c (.v (.string (str f)))], [1000001], ⟨by rfl, by rfl, fun k x z h5 h6 => ?_, by rfl, hF⟩, hK _ _ _ ?_⟩)
     · match k with
       | 0 =>
         obtain rfl := Option.some.inj h5
         obtain rfl := Option.some.inj h6
         refine View.agg rfl fun k x z h7 h8 => ?_
         match k with
         | 0 =>
           obtain rfl := Option.some.inj h7
           obtain rfl := Option.some.inj h8
           exact View.row (B := ⟨true, 40, 10, rA EN.cells es⟩) (es := es.map EN.cells) (by simp [q0b]) rfl (q0a _ _) (q4p _ _)
         | 1 =>
           obtain rfl := Option.some.inj h7
           obtain rfl := Option.some.inj h8
           exact .same _
         | k + 2 => simp at h7
       | 1 =>
         obtain rfl := Option.some.inj h5
         obtain rfl := Option.some.inj h6
         exact .same _
       | k + 2 => simp at h5
     clear hK K
     refine q0d (And.intro @q0a @q0b) ?_
     refine q0i (And.intro @q0a @q0b) [1000000, 1000001] (hF2) ?_
     refine q0d (And.intro @q0a @q0b) ?_
     refine q0j (@q0b) Tryz.results70 ?_
     exact .c _
   · have hg1 : decide (k ≥ 1) = true := by simp; omega
     have hg2 : decide (k ≤ 8) = false := by simp; omega
     refine VC.toldXF (And.intro @q0a @q0g) ent_70 [] Tryz.func70 rfl Tryz.ntmps70 fun hb hbL => ?_
     clear hb hbL
     refine q0c ?_
     refine q0e (hK) ?_
     refine q0f (And.intro hg1 hg2) ?_
     refine q0e (hJ) ?_
     refine q0c ?_
     refine q0i (And.intro @q0a @q0b) [1000000, 1000001] (hF1) ?_
     refine q0d (And.intro @q0a @q0b) ?_
     (refine AO.step fun K hK => ?_; simp only [go_sem, Int.reduceBEq, Int.reduceLE, Int.reduceLT, Int.reduceNeg, Nat.reduceAdd, Nat.reduceEqDiff, Nat.reduceLT, Nat.reduceLeDiff, Nat.reduceMul, Nat.reduceSub, reduceCtorEq, ↓reduceIte]; (first | refine q1m ?_ | skip))
     refine .inr (.inl ⟨_, [.agg [.c (.sl 10 (es.map EN.cells)), .c (.v (.int .i64 0))], .c (.v (.string (str f)))], [1000001], ⟨by rfl, by rfl, fun k x z h5 h6 => ?_, by rfl, hF⟩, hK _ _ _ ?_⟩)
     · match k with
       | 0 =>
         obtain rfl := Option.some.inj h5
         obtain rfl := Option.some.inj h6
         refine View.agg rfl fun k x z h7 h8 => ?_
         match k with
         | 0 =>
           obtain rfl := Option.some.inj h7
           obtain rfl := Option.some.inj h8
           exact View.row (B := ⟨true, 40, 10, rA EN.cells es⟩) (es := es.map EN.cells) (by simp [q0b]) rfl (q0a _ _) (q4p _ _)
         | 1 =>
           obtain rfl := Option.some.inj h7
           obtain rfl := Option.some.inj h8
           exact .same _
         | k + 2 => simp at h7
       | 1 =>
         obtain rfl := Option.some.inj h5
         obtain rfl := Option.some.inj h6
         exact .same _
       | k + 2 => simp at h5
     clear hK K
     refine q0d (And.intro @q0a @q0b) ?_
     refine q0i (And.intro @q0a @q0b) [1000000, 1000001] (hF2) ?_
     refine q0d (And.intro @q0a @q0b) ?_
     refine q0j (@q0b) Tryz.results70 ?_
     exact .c _

theorem q68 (n : NT) : (EN.of n).cells = [.v (.int .i64 n.kind), .v (.string (str n.name)), .sl 1 (n.aliases.map sPV), .sl 9 (n.fields.map FT.cells), .sl 1 (n.symbols.map sPV), .v (.bool n.has), .v (.string (str n.dflt)), .v (.int .i64 n.size), .v (.int .i64 n.items), .sl 1 (n.branches.map iPV)] := rfl
def j2e (e : Int) (j : JT) : Int := fl (fl e ((gt j q1z).kd != 3) 30) (decide ((gt j q1z).num < 0) || decide (1000 < (gt j q1z).num)) 3
def q6j (hs : List HN) (e : Int) (j : JT) (n : NT) : List NT × Int × Int := q2k hs (j2e e j) { n with size := (gt j q1z).num }
theorem z4b (es : List EN) (hl : es.length ≤ 200) (e : Int) (j : JT) (n : NT) : ToldM Tryz.prog 126 [.ref 1000000 1 0 0, j.av, (EN.of n).av] [xW es.length e, xN es]
  [some (xW (es ++ (q6j (hsE es) e j n).1.map EN.of).length (q6j (hsE es) e j n).2.2), some (xN (es ++ (q6j (hsE es) e j n).1.map EN.of))] (.c (.v (.int .i64 (q6j (hsE es) e j n).2.1))) := by
 have hG := q44 j q1z
 have hFr := j31 es hl (j2e e j) { n with size := (gt j q1z).num }
 have hF1 := q2j es es.length rfl e 30 ((gt j q1z).kd != 3)
 have hF2 := q2j es es.length rfl (fl e ((gt j q1z).kd != 3) 30) 3 (decide ((gt j q1z).num < 0) || decide (1000 < (gt j q1z).num))
 unfold q6j
 generalize q2k (hsE es) (j2e e j) { n with size := (gt j q1z).num } = V at *
 obtain ⟨V1, V2, V3⟩ := V
 simp only [] at hFr ⊢
 generalize es ++ V1.map EN.of = es' at *
 unfold j2e at hFr
 generalize fl (fl e ((gt j q1z).kd != 3) 30) (decide ((gt j q1z).num < 0) || decide (1000 < (gt j q1z).num)) 3 = e2 at *
 generalize fl e ((gt j q1z).kd != 3) 30 = e1 at *
 rw [show (jget j q1z).getD zJ = gt j q1z from rfl] at hG
 generalize (jget j q1z).isSome = b at hG
 generalize gt j q1z = x at *
 rw [EN.av_eq, q68] at hFr ⊢
 simp only [] at hFr
 rw [JT.av_eq x, q0m x] at hG
 rw [JT.av_eq, q0m] at hG ⊢
 generalize j.kd = j1 at *
 generalize j.num = j2 at *
 generalize j.txt = j3 at *
 generalize j.its = j4 at *
 generalize j.keys = j5 at *
 generalize x.kd = x1 at *
 generalize x.num = x2 at *
 generalize x.txt = x3 at *
 generalize x.its = x4 at *
 generalize x.keys = x5 at *
 rw [q1z, q2h [115, 105, 122, 101]] at hG
 have hgt : decide (x2 > 1000) = decide (1000 < x2) := rfl
 unfold xW xN at hF1 hF2 hFr ⊢
 rcases (show x2 < 0 ∨ 0 ≤ x2 by omega) with h0 | h0
 · have hd : decide (x2 < 0) = true := by simpa using h0
   rw [hd, Bool.true_or] at hF2
   refine VC.toldXF (And.intro @q0a @q0g) ent_126 [] Tryz.func126 rfl Tryz.ntmps126 fun hb hbL => ?_
   clear hb hbL
   refine q0c ?_
   refine q0e (hG) ?_
   refine q0c ?_
   refine q0i (And.intro @q0a @q0b) [1000000, 1000001] (hF1) ?_
   refine q0d (And.intro @q0a (And.intro @q0b hd)) ?_
   refine q0i (And.intro @q0a (And.intro @q0b hd)) [1000000, 1000001] (hF2) ?_
   refine q0d (And.intro @q0a @q0b) ?_
   refine q0i (And.intro @q0a @q0b) [1000000, 1000001] (hFr) ?_
   refine q0d (And.intro @q0a @q0b) ?_
   refine q0j (@q0b) Tryz.results126 ?_
   exact .c _
 · have hd : decide (x2 < 0) = false := by simpa using h0
   rw [hd, Bool.false_or] at hF2
   refine VC.toldXF (And.intro @q0a @q0g) ent_126 [] Tryz.func126 rfl Tryz.ntmps126 fun hb hbL => ?_
   clear hb hbL
   refine q0c ?_
   refine q0e (hG) ?_
   refine q0c ?_
   refine q0i (And.intro @q0a @q0b) [1000000, 1000001] (hF1) ?_
   refine q0d (And.intro @q0a (And.intro @q0b (And.intro hd hgt))) ?_
   refine q0i (And.intro @q0a (And.intro @q0b (And.intro hd hgt))) [1000000, 1000001] (hF2) ?_
   refine q0d (And.intro @q0a @q0b) ?_
   refine q0i (And.intro @q0a @q0b) [1000000, 1000001] (hFr) ?_
   refine q0d (And.intro @q0a @q0b) ?_
   refine q0j (@q0b) Tryz.results126 ?_
   exact .c _

theorem z49 (full s : List UInt8) (h1 : full.length ≤ 100000000) (h2 : s.length ≤ 100000000) : Told Tryz.prog 170 [.c (.v (.string (str s))), .pp [.v (.string (str full))]] (q5c (q1e (q1n full) s)) := by
 have hS := z2r full (by omega)
 have hJ := j6z (q1n full) s (by unfold q1n; simp; omega) h2
 unfold q5c at hJ ⊢
 generalize q1n full = sp at *
 generalize q1e sp s = o at *
 refine VC.toldP ent_170 Tryz.func170 rfl Tryz.ntmps170 fun hb => ?_
 clear hb
 refine q0c ?_
 refine q0e (hS) ?_
 refine q0c ?_
 refine q0e (hJ) ?_
 refine q0c ?_
 refine retX Tryz.results170 ?_
 exact ⟨.c _, .c _⟩
theorem z43 (s : List UInt8) (h2 : s.length ≤ 100000000) : Told Tryz.prog 225 [.c (.v (.string (str s)))] (.tup [.c (.v (.string (str s))), .c (.v (.bool (q1h s)))]) := by
 have hS := j5k s (by omega)
 refine VC.toldP ent_225 Tryz.func225 rfl Tryz.ntmps225 fun hb => ?_
 clear hb
 refine q0c ?_
 refine q0e (hS) ?_
 refine q0c ?_
 refine retX Tryz.results225 ?_
 exact ⟨.c _, .c _⟩

def xF (F : List UInt8) : Blkd := ⟨false, 9, 1, [[.c (.v (.string (str F)))]]⟩
theorem z34 (es : List EN) (n : Nat) (hn : n = es.length) (e : Int) (j : JT) (hl : (gt j q0z).its.length ≤ 1000000) {g : FuncId} (F : List UInt8) (v : List UInt8 → List UInt8) (ok : List UInt8 → Bool)
  (hk : ∀ x ∈ (gt j q0z).its, Told Tryz.prog g [.c (.v (.string (str x.txt))), .pp [.v (.string (str F))]] (.tup [.c (.v (.string (str (v x.txt)))), .c (.v (.bool (ok x.txt)))])) :
  ToldM Tryz.prog 169 [.ref 1000000 1 0 0, j.av, .fn (.func g) [] [.ref 1000002 1 0 0]] [xW n e, xN es, xF F] [some (xW n (q2z e j ok)), some (xN es), some (xF F)] (.c (.sl 1 ((q3i j v).map sPV))) := by
 have hG := q44 j q0z
 have hT := j50 es n hn e (gt j q0z) hl
 unfold q3i q2z
 rw [show (jget j q0z).getD zJ = gt j q0z from rfl] at hG
 rw [show (gt j q0z).its.map JT.txt = (gt j q0z).its.map JT.txt from rfl] at hT
 generalize (jget j q0z).isSome = b at hG ⊢
 generalize q2u e (gt j q0z) = e1 at hT ⊢
 have hk' : ∀ s ∈ (gt j q0z).its.map JT.txt, Told Tryz.prog g [.c (.v (.string (str s))), .pp [.v (.string (str F))]] (.tup [.c (.v (.string (str (v s)))), .c (.v (.bool (ok s)))]) := fun s hs => by
  obtain ⟨x, hx, rfl⟩ := List.mem_map.1 hs
  exact hk x hx
 clear hk
 have hl' : ((gt j q0z).its.map JT.txt).length ≤ 1000000 := by rw [List.length_map]; exact hl
 clear hl
 generalize (gt j q0z).its.map JT.txt = l at *
 generalize gt j q0z = x at *
 rw [JT.av_eq x, q0m x] at hG hT
 rw [JT.av_eq, q0m] at hG ⊢
 generalize j.kd = j1 at *
 generalize j.num = j2 at *
 generalize j.txt = j3 at *
 generalize j.its = j4 at *
 generalize j.keys = j5 at *
 generalize x.kd = x1 at *
 generalize x.num = x2 at *
 generalize x.txt = x3 at *
 generalize x.its = x4 at *
 generalize x.keys = x5 at *
 rw [q0z, q2h [97, 108, 105, 97, 115, 101, 115]] at hG
 unfold xW xN at hT ⊢
 unfold xF
 cases b with
 | false =>
   simp only [Bool.false_eq_true, if_false]
   refine VC.toldXF (And.intro @q0a (And.intro @q0g hn)) j4d [] Tryz.func169 rfl Tryz.ntmps169 fun hb hbL => ?_
   clear hb hbL
   refine q0c ?_
   refine q0e (hG) ?_
   refine q0u ?_
   refine q0j (@q0b) Tryz.results169 ?_
   exact .nil 1
 | true =>
   simp only [if_true]
   refine VC.toldXF (And.intro @q0a (And.intro @q0g hn)) j4d [] Tryz.func169 rfl Tryz.ntmps169 fun hb hbL => ?_
   clear hb hbL
   refine q0c ?_
   refine q0e (hG) ?_
   refine q0u ?_
   refine q0i (And.intro @q0a (And.intro @q0b hn)) [1000000, 1000001] (hT) ?_
   refine q0c ?_
   refine VC.nil 9 9 1 (by rfl) (by trivial) (by rfl) ?_
   refine VC.loop (ι := {i : Nat // i ≤ l.length}) (fun q => [(0, .ref 1000000 1 0 0), (2, .fn (.func g) [] [.ref 1000002 1 0 0]), (9, .row 144 q.1), (23, .c (.sl 1 (l.map sPV))), (24, .c (.v (.int .i64 (l.length : Int)))), (25, .c (.v (.int .i64 (q.1 : Int))))])
    (fun q => [(1000000, ⟨false, 60, 3, [[.row 1000001 n, .c (.v (.int .i64 0)), .c (.v (.int .i64 (fl e1 ((l.take q.1).any fun s => !ok s) 31)))]]⟩), (1000001, ⟨true, 40, 10, rA EN.cells es⟩), (1000002, ⟨false, 9, 1, [[.c (.v (.string (str F)))]]⟩), (144, ⟨true, 9, 1, rA sPV ((l.take q.1).map v)⟩)]) 800 (fun q => l.length - q.1) ⟨0, Nat.zero_le _⟩ ?_ ?_
   · have h0 : fl e1 (([] : List (List UInt8)).any fun s => !ok s) 31 = e1 := by
      unfold fl
      split
      · rfl
      · simp; omega
     simp only [q32, q0a, q0g, q0b, hn, List.take_zero, h0, Weak, eq_self, q09, q03, sc_c, q05, q06, q07, q02, q04, ScL, q08, List.forall_mem_map, go_sem, Int.reduceBEq, Int.reduceLE, Int.reduceLT, Int.reduceNeg, Nat.reduceAdd, Nat.reduceEqDiff, Nat.reduceLT, Nat.reduceLeDiff, Nat.reduceMul, Nat.reduceSub, reduceCtorEq, ↓reduceIte]
     exact Nat.le_refl _
   rintro ⟨i, hi⟩
   simp only []
   have hti : ((l.take i).map v).length = i := by simp; omega
   refine q0c ?_
   refine VC.cond (by rfl) (by trivial) (fun hc => ?_) (fun hc => ?_)
   · have hlt : i < l.length := by simp at hc; omega
     obtain ⟨y, hy⟩ : ∃ y, l[i]? = some y := ⟨l[i], List.getElem?_eq_getElem hlt⟩
     have hyp : (l.map sPV)[i]? = some [.v (.string (str y))] := by rw [List.getElem?_map, hy]; rfl
     have hw : IntKind.i64.wrap ((i : Int) + 1) = (i : Int) + 1 := q0w (by omega) (by omega)
     have hap := al_next (v := v) hy
     have hti2 : ((l.take (i + 1)).map v).length = i + 1 := by simp; omega
     have hany : (l.take (i + 1)).any (fun s => !ok s) = ((l.take i).any (fun s => !ok s) || !ok y) := by
      rw [List.take_add_one, hy]
      simp
     have hE := fl_fl e1 ((l.take i).any fun s => !ok s) (!ok y) 31 (by decide)
     rw [← hany] at hE
     have hF2 := q2j es n hn (fl e1 ((l.take i).any fun s => !ok s) 31) 31 (!ok y)
     unfold xW xN at hF2
     rw [hE] at hF2
     generalize fl e1 ((l.take i).any fun s => !ok s) 31 = ei at *
     have hky := hk' y (List.mem_of_getElem? hy)
     refine q0d (hyp) ?_
     (refine AO.step fun K hK => ?_; simp only [go_sem, Int.reduceBEq, Int.reduceLE, Int.reduceLT, Int.reduceNeg, Nat.reduceAdd, Nat.reduceEqDiff, Nat.reduceLT, Nat.reduceLeDiff, Nat.reduceMul, Nat.reduceSub, reduceCtorEq, ↓reduceIte]; (first | refine q1m ?_ | skip))
     refine .inr (.inl ⟨_, [.c (.v (.string (str y))), .pp [.v (.string (str F))]], [1000002], ⟨by rfl, by rfl, fun k x z h5 h6 => ?_, by rfl, hky⟩, hK _ _ _ ?_⟩)
     · match k with
       | 0 => obtain rfl := Option.some.inj h5; obtain rfl := Option.some.inj h6; exact .same _
       | 1 => obtain rfl := Option.some.inj h5; obtain rfl := Option.some.inj h6; exact View.ref (es := [.v (.string (str F))]) rfl rfl rfl rfl
       | k + 2 => simp at h5
     clear hK K
     refine q0c ?_
     refine q0i (And.intro @q0a (And.intro @q0b hn)) [1000000, 1000001] (hF2) ?_
     refine q0d (And.intro @q0a (And.intro hti (And.intro hap hw))) ?_
     refine .next ⟨i + 1, by omega⟩ ?_ (by simp only []; omega)
     refine q1l (And.intro @q0a (And.intro @q0g (And.intro @q0b (And.intro hti2 hn)))) ?_
     exact ⟨cI (by omega), Nat.le_refl _, Nat.le_refl _⟩
   · have hie : i = l.length := by simp at hc; omega
     subst hie
     rw [List.take_length] at *
     refine q0d (And.intro @q0a hti) ?_
     refine q0j (@q0b) Tryz.results169 ?_
     exact q43 (f := sPV) (T := 9) rfl (by rw [List.length_map]) rfl fun x _ => rfl
section

section
variable {P : Program} {ops : Array Oper} {o : Oper} {ℓ : Nat} {t : Nat → AV} {h : Nat → Option Blkd}
theorem AO.stepJw {l : List Oper} {n : Nat} {fs : Foot} {R : (Nat → AV) → (Nat → Option Blkd) → Foot → Prop} {v : AV} {rd : List Nat} {wr : List (Nat × Option Blkd)} (hgd : o.guard = none) (hJ : J P o n t h ⟨v, rd, wr⟩) (H : AO P ops l (n + 8) (putd o.dst v t) (wrs wr h) (fs ++ [(rd, wr.map (·.1))]) R) : AO P ops (o :: l) n t h fs R :=
 ⟨_, JG.plain hgd hJ, H.out⟩
end
end

def wrK (ρ : Nat → Nat) : Nat → List Bool → List (Option Blkd) → List (Nat × Option Blkd)
 | i, true :: m, _ :: l => wrK ρ (i + 1) m l
 | i, false :: m, b :: l => (ρ i, b.map (Blkd.ren ρ)) :: wrK ρ (i + 1) m l
 | i, [], l => wrM ρ i l
 | _, _, [] => []
def q7d : List Bool → List Blkd → List (Option Blkd) → Prop
 | [], _, _ => True
 | true :: m, B :: L, b :: L' => b = some B ∧ q7d m L L'
 | false :: m, _ :: L, _ :: L' => q7d m L L'
 | _ :: _, _, _ => False
theorem upd_idK {α : Type} {f : Nat → α} {k : Nat} {x : α} (h : f k = x) : upd f k x = f := by
 funext m
 unfold upd
 split
 · rename_i hm; rw [hm, h]
 · rfl
theorem wrK_is {ρ : Nat → Nat} : ∀ (m : List Bool) (L : List Blkd) (L' : List (Option Blkd)) (ks : List Nat) (i : Nat) (h : Nat → Option Blkd), q7d m L L' → q2w h ρ ks L → ks.Nodup → (∀ p k, ks[p]? = some k → ρ (i + p) = k) → wrs (wrK ρ i m L') h = wrs (wrM ρ i L') h
 | [], _, L', _, i, h, _, _, _, _ => by cases L' <;> rfl
 | _ :: _, [], _, _, _, _, hs, _, _, _ => by simp [q7d] at hs
 | _ :: _, _ :: _, [], _, _, _, hs, _, _, _ => by simp [q7d] at hs
 | _ :: _, _ :: _, _ :: _, [], _, _, _, hl, _, _ => by simp [q2w] at hl
 | b :: m, B :: L, c :: L', k :: ks, i, h, hs, hl, hn, hp => by
   have h0 : ρ i = k := hp 0 k rfl
   have hp' : ∀ p k', ks[p]? = some k' → ρ (i + 1 + p) = k' := fun p k' hk => by
    have := hp (p + 1) k' (by simpa using hk)
    rwa [show i + (p + 1) = i + 1 + p from by omega] at this
   obtain ⟨hn1, hn2⟩ := List.nodup_cons.1 hn
   have hl2 : ∀ x, q2w (upd h k x) ρ ks L := fun x => j3g ks L (fun j hj => q1p _ _ fun e => hn1 (e ▸ hj)) hl.2
   cases b with
   | true =>
     obtain ⟨rfl, hs⟩ := hs
     show wrs (wrK ρ (i + 1) m L') h = wrs ((ρ i, some (B.ren ρ)) :: wrM ρ (i + 1) L') h
     rw [q60, h0, upd_idK hl.1]
     exact wrK_is m L L' ks (i + 1) h hs hl.2 hn2 hp'
   | false =>
     show wrs ((ρ i, c.map (Blkd.ren ρ)) :: wrK ρ (i + 1) m L') h = wrs ((ρ i, c.map (Blkd.ren ρ)) :: wrM ρ (i + 1) L') h
     rw [q60, q60, h0]
     exact wrK_is m L L' ks (i + 1) _ hs (hl2 _) hn2 hp'
theorem j5x {P : Program} {o : Oper} {ℓ : Nat} {t : Nat → AV} {h : Nat → Option Blkd} (c : Operand) (f : FuncId) (fs cs args : List AV) (xs : Array Operand) (tys : Array TypeId) (y : AV) (ks : List Nat) (L : List Blkd) (L' : List (Option Blkd)) (m : List Bool) (ho : o.op = .call { callee := .value c, args := xs, argTypes := tys }) (hc : okx t c) (ec : ev t c = .fn (.func f) fs cs)
  (hx : ∀ x ∈ xs, okx t x) (hL : q2w h (rho ks ℓ) ks L) (hnd : ks.Nodup) (hn8 : L'.length ≤ L.length + 8) (ha : fs ++ xs.toList.map (ev t) ++ cs = AV.renL (rho ks ℓ) args) (hs : q7d m L L') (hT : ToldM P f args L L' y) :
  J P o ℓ t h ⟨y.ren (rho ks ℓ), ks, wrK (rho ks ℓ) 1000000 m L'⟩ := by
 intro C used N t1 h1 ro φ a W ht hh hu hd r K Q hK
 refine J_callM c f fs cs args xs tys y ks L L' ho hc ec hx hL hnd hn8 ha hT C used N t1 h1 ro φ a W ht hh hu hd r K Q fun a' W' ro' φ' r' => hK a' W' ro' φ' ?_
 show Rel C _ N _ (wrs (wrK (rho ks ℓ) 1000000 m L') h1) ro' φ' a' W'
 rw [wrK_is m L L' ks 1000000 h1 hs (j3g ks L (fun k hk => hh k hk) hL) hnd fun p k hk => j3n hk]
 exact r'

def q1b (j : JT) (a : List UInt8) : Option (List UInt8) := q1e (if (jget j q1d).isSome = true then (gt j q1d).txt else a) (gt j q0x).txt
def q3u (j : JT) (k : Int) (a : List UInt8) : NT := ⟨k, (q1b j a).getD [], q3i j fun s => (q1e (q1n ((q1b j a).getD [])) s).getD [], [], [], false, [], 0, 0, []⟩
def q4g (j : JT) : Int := if (jget j q1d).isSome = true then fl (fl 0 ((gt j q0x).kd != 4) 30) ((gt j q1d).kd != 4) 30 else fl 0 ((gt j q0x).kd != 4) 30
def q5n (hs : List HN) (j : JT) (a : List UInt8) : Int := fl (fl (q4g j) (!(q1b j a).isSome || (q0h ((q1b j a).getD []) : Int) != 0) 31) (decide (0 ≤ q19 hs ((q1b j a).getD []))) 32
def q27 (hs : List HN) (j : JT) (a : List UInt8) : Int := q2z (q5n hs j a) j fun s => (q1e (q1n ((q1b j a).getD [])) s).isSome

theorem fresh_no {es : List EN} (hl : es.length ≤ 200) {e : Int} (he : e ≠ 0) (n : NT) : ToldM Tryz.prog 117 [.ref 1000000 1 0 0, (EN.of n).av] [xW es.length e, xN es] [some (xW es.length e), some (xN es)] (.c (.v (.int .i64 0))) := by
 have h := j31 es hl e n
 have hv : q2k (hsE es) e n = ([], 0, e) := by
  unfold q2k
  simp only [q1i _ _ _ he]
  simp [he]
 rw [hv] at h
 simpa using h
theorem z0e {es : List EN} (hl : es.length ≤ 200) {e : Int} (he : e ≠ 0) (k : Int) : ToldM Tryz.prog 117 [.ref 1000000 1 0 0, .agg [.c (.v (.int .i64 k)), .c (.v (.string ⟨#[]⟩)), .c (.v (.slice none 0 0)), .c (.v (.slice none 0 0)), .c (.v (.slice none 0 0)), .c (.v (.bool false)), .c (.v (.string ⟨#[]⟩)), .c (.v (.int .i64 0)), .c (.v (.int .i64 0)), .c (.v (.slice none 0 0))]] [xW es.length e, xN es] [some (xW es.length e), some (xN es)] (.c (.v (.int .i64 0))) :=
 (fresh_no hl he (q1g k)).co (.cons (.same _) (.cons (j55 k) .nil))
theorem zJ_av : zJ.av = .agg ([PV.v (.int .i64 0), .v (.int .i64 0), .v (.string (str [])), .sl 5 [], .sl 1 []].map .c) := by rw [JT.av_eq, q0m]; rfl
theorem bmany_no (es : List EN) (hl : es.length ≤ 200) (e : Int) (j : JT) (k : Int) (key a : List UInt8) (hno : jget j key = none) : ToldM Tryz.prog 122 [.ref 1000000 1 0 0, j.av, .c (.v (.int .i64 k)), .c (.v (.string (str key))), .c (.v (.string (str a)))] [xW es.length e, xN es]
  [some (xW es.length (fl e true 30)), some (xN es)] (.c (.v (.int .i64 0))) := by
 have hG := q44 j key
 rw [hno] at hG
 have hF1 := q2j es es.length rfl e 30 true
 have h0 : fl e true 30 ≠ 0 := by
  unfold fl
  split
  · assumption
  · decide
 generalize fl e true 30 = e1 at *
 have hFr := z0e hl h0 k
 have hq : (e1 == 0) = false := by simpa using h0
 simp only [Option.getD_none, Option.isSome_none] at hG
 rw [zJ_av] at hG
 rw [JT.av_eq, q0m] at hG ⊢
 generalize j.kd = j1 at *
 generalize j.num = j2 at *
 generalize j.txt = j3 at *
 generalize j.its = j4 at *
 generalize j.keys = j5 at *
 unfold xW xN at hF1 hFr ⊢
 refine VC.toldXF (And.intro @q0a @q0g) j6a [] Tryz.func122 rfl Tryz.ntmps122 fun hb hbL => ?_
 clear hb hbL
 refine q0c ?_
 refine q0e (hG) ?_
 refine q0c ?_
 refine q0i (And.intro @q0a @q0b) [1000000, 1000001] (hF1) ?_
 refine q0d (And.intro @q0a @q0b) ?_
 refine q0i (And.intro @q0a @q0b) [1000000, 1000001] (hFr) ?_
 refine q0f (And.intro @q0a (And.intro @q0b hq)) ?_
 refine q0j (@q0b) Tryz.results122 ?_
 exact .c _

def q1o (f : FuncId) (es : List EN) (e : Int) (args : List AV) (V : List NT × Int × Int) : Prop :=
 ToldM Tryz.prog f (.ref 1000000 1 0 0 :: args) [xW es.length e, xN es] [some (xW (es ++ V.1.map EN.of).length V.2.2), some (xN (es ++ V.1.map EN.of))] (.c (.v (.int .i64 V.2.1)))
def strV (s : List UInt8) : AV := .c (.v (.string (str s)))
def intV (k : Int) : AV := .c (.v (.int .i64 k))
theorem z4o (es : List EN) (hl : es.length ≤ 200) (j : JT) (a : List UInt8) (hty : ((gt j q0k).kd != 4) = true) : q1o 72 es 0 [j.av, strV a] ([], 0, 30) := by
 unfold q1o strV
 have hT := j1y es es.length rfl 0 j q0k
 rw [hty, show fl 0 true 30 = 30 from rfl] at hT
 simp only [List.map_nil, List.append_nil]
 generalize (gt j q0k).txt = w at *
 clear hty
 rw [JT.av_eq, q0m] at hT ⊢
 generalize j.kd = j1 at *
 generalize j.num = j2 at *
 generalize j.txt = j3 at *
 generalize j.its = j4 at *
 generalize j.keys = j5 at *
 rw [q0k, q2h [116, 121, 112, 101]] at hT
 unfold xW xN at hT ⊢
 refine VC.toldXF (And.intro @q0a @q0g) q8l [] Tryz.func72 rfl Tryz.ntmps72 fun hb hbL => ?_
 clear hb hbL
 refine q0c ?_
 refine q0i (And.intro @q0a @q0b) [1000000, 1000001] (hT) ?_
 refine q0f (And.intro @q0a @q0b) ?_
 refine q0j (@q0b) Tryz.results72 ?_
 exact .c _
/-- An object whose type is a text. -/

def xI (k : Int) : Blkd := ⟨false, 3, 1, [[.c (.v (.int .i64 k))]]⟩
def xB : Blkd := ⟨false, 58, 1, [[.ref 1000003 1 0 0]]⟩
def xW4 (n : Nat) (e : Int) : Blkd := ⟨false, 60, 3, [[.row 1000004 n, .c (.v (.int .i64 0)), .c (.v (.int .i64 e))]]⟩
def xL (l : List Int) : Blkd := ⟨true, 3, 1, rA iPV l⟩
def q6p (hs : List HN) (k kd : Int) (o : Int) : Bool := o == k || (!q1w kd && q2r hs o.toNat == kd)
theorem like_told (es : List EN) (e k kd o : Int) (h0 : 0 ≤ o) (h1 : o < (es.length : Int)) : ToldM Tryz.prog 165 [.c (.v (.int .i64 o)), .ref 1000000 1 0 0, .ref 1000001 1 0 0, .ref 1000002 1 0 0] [xI k, xI kd, xB, xW4 es.length e, xN es]
  [some (xI k), some (xI kd), some xB, some (xW4 es.length e), some (xN es)] (.c (.v (.bool (q6p (hsE es) k kd o)))) := by
 have hNm := j7b kd
 obtain ⟨m, hm⟩ : ∃ m, es[o.toNat]? = some m := ⟨es[o.toNat]'(by omega), List.getElem?_eq_getElem _⟩
 have hat : (rA EN.cells es)[o.toNat]? = some (m.cells.map .c) := q4j hm
 have hkh : q2r (hsE es) o.toNat = m.n.kind := by
  unfold q2r hsE
  rw [List.getElem?_map, hm]
  rfl
 unfold q6p
 rw [hkh]
 have hd0 : decide (0 ≤ o) = true := by simpa using h0
 have hd1 : decide (o < (es.length : Int)) = true := by simpa using h1
 unfold xI xB xW4 xN
 cases hq : o == k with
 | true =>
   rw [Bool.true_or]
   refine VC.toldXF (And.intro @q0a @q0g) j6d [] Tryz.func165 rfl Tryz.ntmps165 fun hb hbL => ?_
   clear hb hbL
   refine q0d (hq) ?_
   refine q0j (@q0b) Tryz.results165 ?_
   exact .c _
 | false =>
   rw [Bool.false_or]
   cases hn : q1w kd with
   | true =>
     rw [hn] at hNm
     refine VC.toldXF (And.intro @q0a @q0g) j6d [] Tryz.func165 rfl Tryz.ntmps165 fun hb hbL => ?_
     clear hb hbL
     refine q0d (hq) ?_
     refine q0e (hNm) ?_
     refine q0c ?_
     refine q0j (@q0b) Tryz.results165 ?_
     exact .c _
   | false =>
     rw [hn] at hNm
     rw [q2v] at hat
     generalize m.n.kind = mk at *
     refine VC.toldXF (And.intro @q0a @q0g) j6d [] Tryz.func165 rfl Tryz.ntmps165 fun hb hbL => ?_
     clear hb hbL
     refine q0d (hq) ?_
     refine q0e (hNm) ?_
     (repeat (first | refine pass ?_ | refine VC.region (by rfl) (by rfl) ?_ | (refine AO.step fun K hK => ?_; simp only [hat, q0a, h0, h1, go_sem, Int.reduceBEq, Int.reduceLE, Int.reduceLT, Int.reduceNeg, Nat.reduceAdd, Nat.reduceEqDiff, Nat.reduceLT, Nat.reduceLeDiff, Nat.reduceMul, Nat.reduceSub, reduceCtorEq, ↓reduceIte]; (first | refine q38 ?_ | refine q1m ?_ | skip); (first | refine hK _ _ _ ?_ | refine ⟨by first | omega | exact ⟨_, rfl, rfl⟩ | exact fun _ => ⟨_, rfl, rfl⟩ | (intro h; simp only [hat, q0a, h0, h1, h, true_and]; omega) | (clear hK; intro h; simp_all <;> omega), hK _ _ _ ?_⟩); clear hK K) | refine VC.draw mixP (by rfl) (by rfl) ?_ | refine ⟨q4b (by kernel_rfl), ?_⟩ | refine BQ.other (by decide) ?_ | refine VC.seq ?_ | refine AO.nil ?_ | refine VC.block ?_))
     refine q0j (@q0b) Tryz.results165 ?_
     exact .c _
section
section
variable {P : Program} {N : Nat} {Q : Exit → ASt → Prop}
theorem j6j {r y : AV} : ∀ (l : List (List AV)) (i : Nat) (e e' : List AV), l[i]? = some e → e'.length = e.length → (∀ (q : Nat) (x : AV), e'[q]? = some x → e[q]? = some x ∨ (x = r ∧ e[q]? = some y)) →
  ∀ (k : Nat) (x : AV), (l.set i e').flatten[k]? = some x → l.flatten[k]? = some x ∨ (x = r ∧ l.flatten[k]? = some y)
 | [], i, e, e', h, _, _, k, x, _ => by simp at h
 | a :: l, 0, e, e', h, hl, hq, k, x, hx => by
   obtain rfl := Option.some.inj h
   rw [List.set_cons_zero, List.flatten_cons] at hx
   rw [List.flatten_cons]
   by_cases hk : k < e'.length
   · rw [List.getElem?_append_left hk] at hx
     rw [List.getElem?_append_left (by omega)]
     exact hq k x hx
   · rw [List.getElem?_append_right (by omega)] at hx
     rw [List.getElem?_append_right (by omega), ← hl]
     exact .inl hx
 | a :: l, i + 1, e, e', h, hl, hq, k, x, hx => by
   rw [List.set_cons_succ, List.flatten_cons] at hx
   rw [List.flatten_cons]
   by_cases hk : k < a.length
   · rw [List.getElem?_append_left hk] at hx ⊢
     exact .inl hx
   · rw [List.getElem?_append_right (by omega)] at hx ⊢
     exact j6j l i e e' (by simpa using h) hl hq _ x hx
theorem j6k : ∀ (l : List (List AV)) (i : Nat) (e e' : List AV), l[i]? = some e → e'.length = e.length → (l.set i e').flatten.length = l.flatten.length
 | [], i, e, e', h, _ => by simp at h
 | a :: l, 0, e, e', h, hl => by
   obtain rfl := Option.some.inj h
   rw [List.set_cons_zero, List.flatten_cons, List.flatten_cons, List.length_append, List.length_append, hl]
 | a :: l, i + 1, e, e', h, hl => by
   rw [List.set_cons_succ, List.flatten_cons, List.flatten_cons, List.length_append, List.length_append, j6k l i e e' (by simpa using h) hl]
theorem VC.nilR {c : Code} {t : Nat → AV} {h : Nat → Option Blkd} {n : Nat} (j i o : Nat) (T : TypeId) (z : Nat) (B : Blkd) (e : List AV) (hB : h j = some B) (he : B.elems[i]? = some e) (ho : e[o]? = some (.c (.v (.slice none 0 0)))) (hn : Nat.ble (n + 1) L0 = true)
  (hv : VC P N c ⟨t, upd (upd h n (some ⟨true, T, z, []⟩)) j (some ⟨B.row, B.T, B.z, B.elems.set i (e.set o (.row n 0))⟩), n + 8⟩ Q) : VC P N c ⟨t, h, n⟩ Q := ⟨fun C a W r => by
 obtain ⟨ro, φ, r⟩ := r
 have hn := Nat.le_of_ble_eq_true hn
 have hnu : ¬ Used n n := fun hu => by unfold Used at hu; omega
 have hjn : j ≠ n := fun e => hnu (e ▸ (r.scH j B hB).1)
 have r2 : Rel C (fun j => Used n j ∨ j = n) N t (upd h n (some ⟨true, T, z, []⟩)) ro (upd φ n (.slice none 0 0)) a W :=
  r.block (W' := W) (Keeps.refl _ _) (fun b hb => by simp [q0y] at hb) (.inr hnu)
   ⟨fun i e he => by simp at he, fun e he => by simp at he, [], ⟨rfl, fun j x v hx => by simp at hx⟩, by rw [if_pos rfl, q1a]; exact World.ownsRow_nil W 0 T z⟩ (fun e he => by simp at he)
 have r3 := r2.take (used' := Used (n + 8)) fun j hj => by
  unfold Used at hj ⊢
  omega
 have hB3 : upd h n (some ⟨true, T, z, []⟩) j = some B := by rw [q1p _ _ hjn]; exact hB
 obtain ⟨b1, b2, vs, b3, b4⟩ := r3.hp j B hB3
 have hsl : (e.set o (AV.row n 0)).length = e.length := List.length_set
 have hmem : e ∈ B.elems := List.mem_of_getElem? he
 have hol := (List.getElem?_eq_some_iff.1 ho).1
 have hg : ∀ k B', Used (n + 8) k → upd (upd h n (some ⟨true, T, z, []⟩)) j (some ⟨B.row, B.T, B.z, B.elems.set i (e.set o (.row n 0))⟩) k = some B' → ∃ B0, upd h n (some ⟨true, T, z, []⟩) k = some B0 ∧ (B0.len < B'.len ∨ (B0.len = B'.len ∧ B0.z = B'.z ∧ upd (upd φ n (.slice none 0 0)) j (upd φ n (.slice none 0 0) j) k = upd φ n (.slice none 0 0) k)) := by
  intro k B' hk hB'
  by_cases hkj : k = j
  · subst hkj
    rw [q1a] at hB'
    obtain rfl := Option.some.inj hB'
    exact ⟨B, hB3, .inr ⟨by unfold Blkd.len; rw [List.length_set], rfl, by rw [q1a]⟩⟩
  · rw [q1p _ _ hkj] at hB'
    exact ⟨B', hB', .inr ⟨rfl, rfl, q1p _ _ hkj⟩⟩
 have hnew : ∀ (i : Nat) (x : AV), (e.set o (.row n 0))[i]? = some x → e[i]? = some x ∨ (x = .row n 0 ∧ e[i]? = some (.c (.v (.slice none 0 0)))) := by
  intro i x hx
  by_cases hio : i = o
  · subst hio
    rw [List.getElem?_set_self hol] at hx
    exact .inr ⟨(Option.some.inj hx).symm, ho⟩
  · rw [List.getElem?_set_ne (fun e => hio e.symm)] at hx
    exact .inl hx
 have hsetm : ∀ e' ∈ B.elems.set i (e.set o (.row n 0)), e' ∈ B.elems ∨ e' = e.set o (.row n 0) := fun e' he' => List.mem_or_eq_of_mem_set he'
 have hrow0 : ∀ v : Value, v = .slice none 0 0 → Rep W ro (upd (upd φ n (.slice none 0 0)) j (upd φ n (.slice none 0 0) j)) (upd (upd h n (some ⟨true, T, z, []⟩)) j (some ⟨B.row, B.T, B.z, B.elems.set i (e.set o (.row n 0))⟩)) (.row n 0) v := by
  rintro v rfl
  refine .row rfl fun B' hB' _ => ?_
  rw [q1p _ _ (fun e => hjn e.symm), q1a]
 have hscn : Sc (fun k => Used (n + 8) k ∨ k = j) (upd (upd h n (some ⟨true, T, z, []⟩)) j (some ⟨B.row, B.T, B.z, B.elems.set i (e.set o (.row n 0))⟩)) (.row n 0) := by
  refine .row (.inl (by unfold Used; omega)) fun B' hB' => Nat.zero_le _
 have r4 := r3.block (W' := W) (ℓ := j) (B := ⟨B.row, B.T, B.z, B.elems.set i (e.set o (.row n 0))⟩) (v := upd φ n (.slice none 0 0) j) (Keeps.refl _ _) (fun b hb => .inr ⟨B, hB3, hb⟩)
  (.inl ⟨B, hB3, .inr ⟨by unfold Blkd.len; rw [List.length_set], rfl, rfl⟩⟩)
  ⟨fun q e' he' => by
    rcases hsetm e' (List.mem_of_getElem? he') with h5 | rfl
    · obtain ⟨q', hq', hqe⟩ := List.getElem_of_mem h5
      exact b1 q' e' (by rw [List.getElem?_eq_getElem hq', hqe])
    · rw [hsl]; exact b1 i e he,
   fun e' he' x hx => by
    rcases hsetm e' he' with h5 | rfl
    · exact b2 e' h5 x hx
    · obtain ⟨q, hq, hxi⟩ := List.getElem_of_mem hx
      rcases hnew q x (by rw [List.getElem?_eq_getElem hq, hxi]) with h5 | ⟨rfl, _⟩
      · exact b2 e hmem x (List.mem_of_getElem? h5)
      · rfl,
   vs, by
    refine ⟨by rw [b3.1]; exact (j6k _ _ _ _ he hsl).symm, fun q x v hx hvv => ?_⟩
    rcases j6j _ _ _ _ he hsl hnew q x hx with h5 | ⟨rfl, h5⟩
    · obtain ⟨e0, he0, hx0⟩ := List.mem_flatten.1 (List.mem_of_getElem? h5)
      exact (b3.2 q x v h5 hvv).map ((r3.scH j B hB3).2 e0 he0 x hx0) (fun _ _ => rfl) (fun _ h => h) hg
    · exact hrow0 v (q13 (b3.2 q _ v h5 hvv)), by
    have hbl : (⟨B.row, B.T, B.z, B.elems.set i (e.set o (.row n 0))⟩ : Blkd).len = B.len := by unfold Blkd.len; rw [List.length_set]
    rw [q1a]
    simp only [hbl] at b4 ⊢
    exact b4⟩
  (fun e' he' x hx => by
   have hmp : ∀ x, (∃ e0, e0 ∈ B.elems ∧ x ∈ e0) → Sc (fun k => Used (n + 8) k ∨ k = j) (upd (upd h n (some ⟨true, T, z, []⟩)) j (some ⟨B.row, B.T, B.z, B.elems.set i (e.set o (.row n 0))⟩)) x := by
    rintro x ⟨e0, he0, hx0⟩
    refine ((r3.scH j B hB3).2 e0 he0 x hx0).map (fun k hk => .inl hk) fun k B' hk hB' => ?_
    obtain ⟨B0, h6, h7⟩ := hg k B' hk hB'
    exact ⟨B0, h6, by rcases h7 with h7 | h7 <;> omega⟩
   rcases hsetm e' he' with h5 | rfl
   · exact hmp x ⟨e', h5, hx⟩
   · obtain ⟨q, hq, hxi⟩ := List.getElem_of_mem hx
     rcases hnew q x (by rw [List.getElem?_eq_getElem hq, hxi]) with h5 | ⟨rfl, _⟩
     · exact hmp x ⟨e, hmem, List.mem_of_getElem? h5⟩
     · exact hscn)
 have r5 := r4.take (used' := Used (n + 8)) fun k hk => by
  rcases hk with hk | rfl
  · exact hk
  · have := (r.scH k B hB).1
    unfold Used at this ⊢
    simp only [] at this
    omega
 exact hv.out C a W ⟨ro, _, r5⟩⟩
end
end

def opB (e : EN) (r m : Nat) : List AV := [.c (.v (.int .i64 e.n.kind)), .c (.v (.string (str e.n.name))), .c (.sl 1 (e.n.aliases.map sPV)), .c e.f, .c (.sl 1 (e.n.symbols.map sPV)), .c (.v (.bool e.n.has)), .c (.v (.string (str e.n.dflt))), .c (.v (.int .i64 e.n.size)), .c (.v (.int .i64 e.n.items)), .row r m]
def opF (e : EN) (r m : Nat) : List AV := [.c (.v (.int .i64 e.n.kind)), .c (.v (.string (str e.n.name))), .c (.sl 1 (e.n.aliases.map sPV)), .row r m, .c (.sl 1 (e.n.symbols.map sPV)), .c (.v (.bool e.n.has)), .c (.v (.string (str e.n.dflt))), .c (.v (.int .i64 e.n.size)), .c (.v (.int .i64 e.n.items)), .c e.b]
def xNB (es : List EN) (i : Nat) (e : EN) (r m : Nat) : Blkd := ⟨true, 40, 10, (rA EN.cells es).set i (opB e r m)⟩
def xNF (es : List EN) (i : Nat) (e : EN) (r m : Nat) : Blkd := ⟨true, 40, 10, (rA EN.cells es).set i (opF e r m)⟩
theorem q0v (ρ : Nat → Nat) (es : List EN) (i : Nat) (c : List AV) : ((rA EN.cells es).set i c).map (AV.renL ρ) = (rA EN.cells es).set i (AV.renL ρ c) := by rw [List.map_set, q0b]
theorem q1s (ρ : Nat → Nat) (e : EN) (r m : Nat) : AV.renL ρ (opB e r m) = opB e (ρ r) m := rfl
theorem q1k (ρ : Nat → Nat) (e : EN) (r m : Nat) : AV.renL ρ (opF e r m) = opF e (ρ r) m := rfl
theorem q4z {used : Nat → Prop} {h : Nat → Option Blkd} {es : List EN} {i : Nat} (hi : i < es.length) (c : List AV) : (∀ e ∈ (rA EN.cells es).set i c, ∀ x ∈ e, Sc used h x) = (∀ x ∈ c, Sc used h x) := propext ⟨fun H x hx => H c (List.mem_set (by rw [q0a]; exact hi) c) x hx, fun H e he x hx => by
 rcases List.mem_or_eq_of_mem_set he with h5 | rfl
 · have h6 : (∀ e ∈ rA EN.cells es, ∀ x ∈ e, Sc used h x) := (q0g (used := used) (h := h) EN.cells es) ▸ trivial
   exact h6 e h5 x hx
 · exact H x hx⟩
theorem q5r {used : Nat → Prop} {h : Nat → Option Blkd} (e : EN) (r m : Nat) : (∀ x ∈ opB e r m, Sc used h x) = Sc used h (.row r m) := propext ⟨fun H => H _ (by simp [opB]), fun H x hx => by
 simp only [opB, List.mem_cons, List.not_mem_nil, or_false] at hx
 rcases hx with rfl | rfl | rfl | rfl | rfl | rfl | rfl | rfl | rfl | rfl
 all_goals first | exact .c | exact H⟩
theorem j2r {used : Nat → Prop} {h : Nat → Option Blkd} (e : EN) (r m : Nat) : (∀ x ∈ opF e r m, Sc used h x) = Sc used h (.row r m) := propext ⟨fun H => H _ (by simp [opF]), fun H x hx => by
 simp only [opF, List.mem_cons, List.not_mem_nil, or_false] at hx
 rcases hx with rfl | rfl | rfl | rfl | rfl | rfl | rfl | rfl | rfl | rfl
 all_goals first | exact .c | exact H⟩
theorem j3p {es : List EN} {i o : Nat} {e m : EN} (hi : es[i]? = some e) (ho : es[o]? = some m) (r n : Nat) : ∃ c1 c2 c3 c4 c5 c6 c7 c8 c9, ((rA EN.cells es).set i (opB e r n))[o]? = some [.c (.v (.int .i64 m.n.kind)), c1, c2, c3, c4, c5, c6, c7, c8, c9] := by
 by_cases h : i = o
 · subst h
   rw [hi] at ho
   obtain rfl := Option.some.inj ho
   rw [List.getElem?_set_self (by rw [q0a]; exact (List.getElem?_eq_some_iff.1 hi).1)]
   exact ⟨_, _, _, _, _, _, _, _, _, rfl⟩
 · rw [List.getElem?_set_ne h, q4j ho]
   exact ⟨_, _, _, _, _, _, _, _, _, rfl⟩
def EN.wb (e : EN) (x : PV) : EN := ⟨e.n, e.f, x⟩
def EN.wf (e : EN) (x : PV) : EN := ⟨e.n, x, e.b⟩
theorem map_hid (r n : Nat) (x : Value) (l : List PV) : (l.map AV.c).map (hidA r n x) = l.map .c := by
 rw [List.map_map]
 exact List.map_congr_left fun p _ => rfl
theorem rA_hid (r n : Nat) (x : Value) (es : List EN) : (rA EN.cells es).map (fun e => e.map (hidA r n x)) = rA EN.cells es := by
 unfold rA
 rw [List.map_map]
 exact List.map_congr_left fun p _ => map_hid r n x _
theorem j2k (es : List EN) (i : Nat) (e : EN) (r n : Nat) (x : Value) : hidB r n x (xNB es i e r n) = xN (es.set i (e.wb (.v x))) := by
 unfold hidB xNB xN
 simp only [List.map_set, rA_hid, ← q69]
 congr 1
 simp [opB, hidA, EN.wb, EN.cells]
theorem j3d (es : List EN) (i : Nat) (e : EN) (r n : Nat) (x : Value) : hidB r n x (xNF es i e r n) = xN (es.set i (e.wf (.v x))) := by
 unfold hidB xNF xN
 simp only [List.map_set, rA_hid, ← q69]
 congr 1
 simp [opF, hidA, EN.wf, EN.cells]
theorem q8r {es : List EN} {i : Nat} {e : EN} (hi : es[i]? = some e) (e' : EN) (hn : e'.n = e.n) : hsE (es.set i e') = hsE es := by
 unfold hsE
 rw [List.map_set, hn]
 refine List.ext_getElem? fun k => ?_
 by_cases h : i = k
 · subst h
   rw [List.getElem?_set_self (by rw [List.length_map]; exact (List.getElem?_eq_some_iff.1 hi).1), List.getElem?_map, hi]
   rfl
 · rw [List.getElem?_set_ne h]
theorem like_open {es : List EN} {i : Nat} {e0 : EN} (hi : es[i]? = some e0) (e k kd o : Int) (l : List Int) (h0 : 0 ≤ o) (h1 : o < (es.length : Int)) : ToldM Tryz.prog 165 [.c (.v (.int .i64 o)), .ref 1000000 1 0 0, .ref 1000001 1 0 0, .ref 1000002 1 0 0] [xI k, xI kd, xB, xW4 es.length e, xNB es i e0 1000005 l.length, xL l]
  [some (xI k), some (xI kd), some xB, some (xW4 es.length e), some (xNB es i e0 1000005 l.length), some (xL l)] (.c (.v (.bool (q6p (hsE es) k kd o)))) := by
 have hlt := (List.getElem?_eq_some_iff.1 hi).1
 have hlen : (xL l).len = l.length := by unfold xL Blkd.len; rw [q0a]
 refine ToldM.hide (L := [xI k, xI kd, xB, xW4 es.length e, xNB es i e0 1000005 l.length]) (L' := [some (xI k), some (xI kd), some xB, some (xW4 es.length e), some (xNB es i e0 1000005 l.length)]) (xL l) rfl ?_ rfl ?_ ?_ ?_
 · intro e he x hx
   obtain ⟨b, _, rfl⟩ := List.mem_map.1 he
   obtain ⟨p, _, rfl⟩ := List.mem_map.1 hx
   exact ⟨p, rfl⟩
 · intro x _
   rw [hlen]
   have h := like_told (es.set i (e0.wb (.v x))) e k kd o h0 (by rw [List.length_set]; exact h1)
   rw [q8r hi (e0.wb (.v x)) rfl, List.length_set] at h
   have hw : hidB (1000000 + 5) l.length x (xW4 es.length e) = xW4 es.length e := by
    unfold hidB xW4
    simp [hidA]
   have hn := j2k es i e0 1000005 l.length x
   simp only [List.map_cons, List.map_nil, Option.map_some, List.length_cons, List.length_nil]
   rw [show hidB (1000000 + 5) l.length x (xI k) = xI k from rfl, show hidB (1000000 + 5) l.length x (xI kd) = xI kd from rfl, show hidB (1000000 + 5) l.length x xB = xB from rfl, hw, show 1000000 + 5 = 1000005 from rfl, hn]
   exact h
 · exact ⟨rfl, rfl, rfl, rfl, rfl, rfl, trivial⟩
 · refine ⟨.c, fun b hb B hB e' he' => ?_⟩
   simp only [List.mem_append, List.mem_cons, List.not_mem_nil, or_false] at hb
   rcases hb with (rfl | rfl | rfl | rfl | rfl) | rfl
   all_goals obtain rfl := Option.some.inj hB
   · obtain rfl := List.mem_singleton.1 he'
     intro z hz
     obtain rfl := List.mem_singleton.1 hz
     exact .c
   · obtain rfl := List.mem_singleton.1 he'
     intro z hz
     obtain rfl := List.mem_singleton.1 hz
     exact .c
   · obtain rfl := List.mem_singleton.1 he'
     intro z hz
     obtain rfl := List.mem_singleton.1 hz
     refine .ref (by unfold inL; simp) fun B hB => ?_
     obtain rfl := Option.some.inj hB
     exact Nat.le_refl _
   · obtain rfl := List.mem_singleton.1 he'
     intro z hz
     simp only [List.mem_cons, List.not_mem_nil, or_false] at hz
     rcases hz with rfl | rfl | rfl
     · refine .row (by unfold inL; simp) fun B hB => ?_
       obtain rfl := Option.some.inj hB
       show es.length ≤ ((rA EN.cells es).set i _).length
       rw [List.length_set, q0a]
       exact Nat.le_refl _
     · exact .c
     · exact .c
   · have hs := (q4z (used := inL ([some (xI k), some (xI kd), some xB, some (xW4 es.length e), some (xNB es i e0 1000005 l.length)] ++ [some (xL l)]).length) (h := q0l ([some (xI k), some (xI kd), some xB, some (xW4 es.length e), some (xNB es i e0 1000005 l.length)] ++ [some (xL l)])) hlt (opB e0 1000005 l.length)).mpr
     rw [q5r] at hs
     refine hs (.row (by unfold inL; simp) fun B hB => ?_) e' he'
     obtain rfl := Option.some.inj hB
     exact Nat.le_of_eq hlen.symm
   · intro z hz
     obtain ⟨b, _, rfl⟩ := List.mem_map.1 he'
     obtain ⟨p, _, rfl⟩ := List.mem_map.1 hz
     exact .c

theorem ixfB_told {es : List EN} {i0 : Nat} {e0 : EN} (hi0 : es[i0]? = some e0) (e k kd : Int) (l : List Int) (hl0 : l.length ≤ 1000000) (hl : ∀ o ∈ l, 0 ≤ o ∧ o < (es.length : Int)) : ToldM Tryz.prog 182 [.row 1000005 l.length, .fn (.func 165) [] [.ref 1000000 1 0 0, .ref 1000001 1 0 0, .ref 1000002 1 0 0]] [xI k, xI kd, xB, xW4 es.length e, xNB es i0 e0 1000005 l.length, xL l]
  [some (xI k), some (xI kd), some xB, some (xW4 es.length e), some (xNB es i0 e0 1000005 l.length), some (xL l)] (.c (.v (.int .i64 (idxP (q6p (hsE es) k kd) l)))) := by
 have hk := fun o (ho : o ∈ l) => like_open hi0 e k kd o l (hl o ho).1 (hl o ho).2
 have hlt := (List.getElem?_eq_some_iff.1 hi0).1
 have hsc : ∀ {used : Nat → Prop} {h : Nat → Option Blkd}, _ := fun {used} {h} => q4z (used := used) (h := h) hlt (opB e0 1000005 l.length)
 generalize q6p (hsE es) k kd = p at *
 unfold xI xB xW4 xNB xL at hk ⊢
 refine VC.toldXF (And.intro @q0a (And.intro @q0g (And.intro @hsc (And.intro @q5r @q0s)))) ent_182 [] Tryz.func182 rfl Tryz.ntmps182 fun hb hbL => ?_
 clear hb hbL
 refine q0d (And.intro @q0s @q0a) ?_
 refine VC.loop (ι := {i : Nat // i ≤ l.length ∧ ∀ j x, j < i → l[j]? = some x → p x = false}) (fun i => [(0, .row 1000005 l.length), (1, .fn (.func 165) [] [.ref 1000000 1 0 0, .ref 1000001 1 0 0, .ref 1000002 1 0 0]), (7, .c (.v (.int .i64 l.length))), (8, .c (.v (.int .i64 i.1)))])
  (fun _ => [(1000000, ⟨false, 3, 1, [[.c (.v (.int .i64 k))]]⟩), (1000001, ⟨false, 3, 1, [[.c (.v (.int .i64 kd))]]⟩), (1000002, ⟨false, 58, 1, [[.ref 1000003 1 0 0]]⟩), (1000003, ⟨false, 60, 3, [[.row 1000004 es.length, .c (.v (.int .i64 0)), .c (.v (.int .i64 e))]]⟩),
   (1000004, ⟨true, 40, 10, (rA EN.cells es).set i0 (opB e0 1000005 l.length)⟩), (1000005, ⟨true, 3, 1, rA iPV l⟩)]) 800 (fun i => l.length - i.1) ⟨0, Nat.zero_le _, by simp⟩ ?_ ?_
 · simp only [q0a, q0g, hsc, q5r, List.length_set, q0b, q0v, q1s, Weak, eq_self, q09, q03, sc_c, q05, q06, q07, q02, q04, ScL, q08, List.forall_mem_map, go_sem, Int.reduceBEq, Int.reduceLE, Int.reduceLT, Int.reduceNeg, Nat.reduceAdd, Nat.reduceEqDiff, Nat.reduceLT, Nat.reduceLeDiff, Nat.reduceMul, Nat.reduceSub, reduceCtorEq, ↓reduceIte]
   all_goals exact ⟨Nat.le_refl _, Nat.le_refl _, Nat.le_refl _⟩
 rintro ⟨i, hi, ht⟩
 simp only []
 refine q0d (And.intro @q0s @q0a) ?_
 refine VC.cond (by rfl) (by trivial) (fun hc => ?_) (fun hc => ?_)
 · simp only [decide_eq_true_eq] at hc
   obtain ⟨x, hx⟩ : ∃ x, l[i]? = some x := ⟨l[i]'(by omega), List.getElem?_eq_getElem _⟩
   have hw : IntKind.i64.wrap ((i : Int) + 1) = (i : Int) + 1 := q0w (by omega) (by omega)
   have hkx := hk x (List.mem_of_getElem? hx)
   have hix : (rA iPV l)[i]? = some [.c (.v (.int .i64 x))] := q4j hx
   refine q0d (And.intro @q0s (And.intro @q0a hix)) ?_
   refine q0i (And.intro @q0a (And.intro @q0b (And.intro @q0v (And.intro @q1s @q0s)))) [1000000, 1000001, 1000002, 1000003, 1000004, 1000005] (hkx) ?_
   refine q0d (And.intro @q0s (And.intro @q0a (And.intro @q0b (And.intro @q0v @q1s)))) ?_
   refine VC.cond (by rfl) (by trivial) (fun hpx => ?_) (fun hpx => ?_)
   · have hr := j2m hx hpx ht
     refine q0d (And.intro @q0s (And.intro @q0a (And.intro @q0b (And.intro @q0v @q1s)))) ?_
     refine q0j (And.intro @q0b (And.intro @q0v @q1s)) Tryz.results182 ?_
     rw [hr]
     exact .c _
   · refine q0d (And.intro hw (And.intro @q0a (And.intro @q0b (And.intro @q0v @q1s)))) ?_
     refine .next ⟨i + 1, by omega, fun j y hj hy => ?_⟩ ?_ (by simp only []; omega)
     · rcases Nat.lt_or_ge j i with h | h
       · exact ht j y h hy
       · obtain rfl : j = i := by omega
         rw [hx] at hy
         obtain rfl := Option.some.inj hy
         exact hpx
     simp only [q0a, q0g, hsc, q5r, List.length_set, q0b, q0v, q1s, Weak, eq_self, q09, q03, sc_c, q05, q06, q07, q02, q04, ScL, q08, List.forall_mem_map, go_sem, Int.reduceBEq, Int.reduceLE, Int.reduceLT, Int.reduceNeg, Nat.reduceAdd, Nat.reduceEqDiff, Nat.reduceLT, Nat.reduceLeDiff, Nat.reduceMul, Nat.reduceSub, reduceCtorEq, ↓reduceIte]
     all_goals exact ⟨cI (by omega), Nat.le_refl _, Nat.le_refl _, Nat.le_refl _⟩
 · simp only [decide_eq_false_iff_not] at hc
   obtain rfl : i = l.length := by omega
   have hr := j2n ht
   refine q0d (And.intro @q0s (And.intro @q0a (And.intro @q0b (And.intro @q0v @q1s)))) ?_
   refine q0j (And.intro @q0b (And.intro @q0v @q1s)) Tryz.results182 ?_
   rw [hr]
   exact .c _
theorem cfB_told {es : List EN} {i0 : Nat} {e0 : EN} (hi0 : es[i0]? = some e0) (e k kd : Int) (l : List Int) (hl0 : l.length ≤ 1000000) (hl : ∀ o ∈ l, 0 ≤ o ∧ o < (es.length : Int)) : ToldM Tryz.prog 143 [.row 1000005 l.length, .fn (.func 165) [] [.ref 1000000 1 0 0, .ref 1000001 1 0 0, .ref 1000002 1 0 0]] [xI k, xI kd, xB, xW4 es.length e, xNB es i0 e0 1000005 l.length, xL l]
  [some (xI k), some (xI kd), some xB, some (xW4 es.length e), some (xNB es i0 e0 1000005 l.length), some (xL l)] (.c (.v (.bool (decide (0 ≤ idxP (q6p (hsE es) k kd) l))))) := by
 have hI := ixfB_told hi0 e k kd l hl0 hl
 have hlt := (List.getElem?_eq_some_iff.1 hi0).1
 have hsc : ∀ {used : Nat → Prop} {h : Nat → Option Blkd}, _ := fun {used} {h} => q4z (used := used) (h := h) hlt (opB e0 1000005 l.length)
 generalize idxP (q6p (hsE es) k kd) l = V at *
 unfold xI xB xW4 xNB xL at hI ⊢
 refine VC.toldXF (And.intro @q0a (And.intro @q0g (And.intro @hsc (And.intro @q5r @q0s)))) ent_143 [] Tryz.func143 rfl Tryz.ntmps143 fun hb hbL => ?_
 clear hb hbL
 refine q0d (And.intro @q0s @q0a) ?_
 refine q0i (And.intro @q0a (And.intro @q0b (And.intro @q0v (And.intro @q1s @q0s)))) [1000000, 1000001, 1000002, 1000003, 1000004, 1000005] (hI) ?_
 refine q0d (And.intro @q0s (And.intro @q0a (And.intro @q0b (And.intro @q0v @q1s)))) ?_
 refine q0j (And.intro @q0b (And.intro @q0v @q1s)) Tryz.results143 ?_
 exact .c _
theorem z4p {es : List EN} {i0 : Nat} {e0 : EN} (hi0 : es[i0]? = some e0) (e k : Int) (h0 : 0 ≤ k) (h1 : k < (es.length : Int)) (l : List Int) (hl0 : l.length ≤ 1000000) (hl : ∀ o ∈ l, 0 ≤ o ∧ o < (es.length : Int)) : ToldM Tryz.prog 120 [.ref 1000000 1 0 0, .row 1000002 l.length, .c (.v (.int .i64 k))] [xW es.length e, xNB es i0 e0 1000002 l.length, xL l]
  [some (xW es.length e), some (xNB es i0 e0 1000002 l.length), some (xL l)] (.c (.v (.bool (q2r (hsE es) k.toNat != 13 && !decide (0 ≤ idxP (q6p (hsE es) k (q2r (hsE es) k.toNat)) l))))) := by
 have hlt := (List.getElem?_eq_some_iff.1 hi0).1
 have hsc : ∀ {used : Nat → Prop} {h : Nat → Option Blkd}, _ := fun {used} {h} => q4z (used := used) (h := h) hlt (opB e0 1000002 l.length)
 obtain ⟨m, hm⟩ : ∃ m, es[k.toNat]? = some m := ⟨es[k.toNat]'(by omega), List.getElem?_eq_getElem _⟩
 have hkh : q2r (hsE es) k.toNat = m.n.kind := by
  unfold q2r hsE
  rw [List.getElem?_map, hm]
  rfl
 have hC := cfB_told hi0 e k m.n.kind l hl0 hl
 rw [hkh]
 obtain ⟨c1, c2, c3, c4, c5, c6, c7, c8, c9, hat⟩ := j3p hi0 hm 1000002 l.length
 generalize idxP (q6p (hsE es) k m.n.kind) l = V at *
 generalize m.n.kind = mk at *
 unfold xW xNB xL at *
 unfold xI xB xW4 at hC
 cases hq : mk != 13 with
 | false =>
   rw [Bool.false_and]
   refine VC.toldXF (And.intro @q0a (And.intro @q0g (And.intro @hsc (And.intro @q5r @q0s)))) ent_120 [] Tryz.func120 rfl Tryz.ntmps120 fun hb hbL => ?_
   clear hb hbL
   (repeat (first | refine pass ?_ | refine VC.region (by rfl) (by rfl) ?_ | (refine AO.step fun K hK => ?_; simp only [List.length_set, q0a, hat, hq, h0, h1, go_sem, Int.reduceBEq, Int.reduceLE, Int.reduceLT, Int.reduceNeg, Nat.reduceAdd, Nat.reduceEqDiff, Nat.reduceLT, Nat.reduceLeDiff, Nat.reduceMul, Nat.reduceSub, reduceCtorEq, ↓reduceIte]; (first | refine q38 ?_ | refine q1m ?_ | skip); (first | refine hK _ _ _ ?_ | refine ⟨by first | omega | exact ⟨_, rfl, rfl⟩ | exact fun _ => ⟨_, rfl, rfl⟩ | (intro h; simp only [List.length_set, q0a, hat, hq, h0, h1, h, true_and]; omega) | (clear hK; intro h; simp_all <;> omega), hK _ _ _ ?_⟩); clear hK K) | refine VC.draw mixP (by rfl) (by rfl) ?_ | refine ⟨q4b (by kernel_rfl), ?_⟩ | refine BQ.other (by decide) ?_ | refine VC.seq ?_ | refine AO.nil ?_ | refine VC.block ?_))
   refine q0j (And.intro @q0b (And.intro @q0v @q1s)) Tryz.results120 ?_
   exact .c _
 | true =>
   rw [Bool.true_and]
   refine VC.toldXF (And.intro @q0a (And.intro @q0g (And.intro @hsc (And.intro @q5r @q0s)))) ent_120 [] Tryz.func120 rfl Tryz.ntmps120 fun hb hbL => ?_
   clear hb hbL
   (repeat (first | refine pass ?_ | refine VC.region (by rfl) (by rfl) ?_ | (refine AO.step fun K hK => ?_; simp only [List.length_set, q0a, hat, hq, h0, h1, go_sem, Int.reduceBEq, Int.reduceLE, Int.reduceLT, Int.reduceNeg, Nat.reduceAdd, Nat.reduceEqDiff, Nat.reduceLT, Nat.reduceLeDiff, Nat.reduceMul, Nat.reduceSub, reduceCtorEq, ↓reduceIte]; (first | refine q38 ?_ | refine q1m ?_ | skip); (first | refine hK _ _ _ ?_ | refine ⟨by first | omega | exact ⟨_, rfl, rfl⟩ | exact fun _ => ⟨_, rfl, rfl⟩ | (intro h; simp only [List.length_set, q0a, hat, hq, h0, h1, h, true_and]; omega) | (clear hK; intro h; simp_all <;> omega), hK _ _ _ ?_⟩); clear hK K) | refine VC.draw mixP (by rfl) (by rfl) ?_ | refine ⟨q4b (by kernel_rfl), ?_⟩ | refine BQ.other (by decide) ?_ | refine VC.seq ?_ | refine AO.nil ?_ | refine VC.block ?_))
   refine q0i (And.intro @q0a (And.intro @q0b (And.intro @q0v (And.intro @q1s @q0s)))) [8, 96, 0, 1000000, 1000001, 1000002] (hC) ?_
   refine q0d (And.intro @q0s (And.intro @q0a (And.intro @q0b (And.intro @q0v @q1s)))) ?_
   refine q0j (And.intro @q0b (And.intro @q0v @q1s)) Tryz.results120 ?_
   exact .c _
end
end Go.Proofs.YthkofkaocipomaaGreatDoor
