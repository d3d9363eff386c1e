/- Regions, code, functions over abstract states. -/
import Derived.Test.YthkofkaocipomaaGreatDoorPkBuildBuildsXAc
import Derived.RegionTactic
import Derived.Deep.LoopGhost
import Derived.IntWalk
import Derived.Laws.MakeOwn
namespace Go.Proofs.YthkofkaocipomaaGreatDoor
open Go.RowKit
set_option linter.unusedVariables false
set_option linter.unusedSimpArgs false

section
variable {P : Program} {ops : Array Oper} {ℓ : Nat} {t : Nat → AV} {h : Nat → Option Blkd}
def JG (P : Program) (ops : Array Oper) (o : Oper) (ℓ : Nat) (t : Nat → AV) (h : Nat → Option Blkd) (e : Eff) : Prop :=
  ∀ (C : Ctx P) (used : Nat → Prop) (N : Nat) (t1 : Nat → AV) (h1 : Nat → Option Blkd) (ro : Nat → Prop) (φ : Nat → Value) (a : Act) (W : World),
    (∀ k ∈ o.looksAt ops, t1 k = t k) → (∀ j ∈ e.rd, h1 j = h j) → (∀ j, lab ℓ j → ¬ used j) → (∀ d, o.dst = some d → d < N) → Rel C used N t1 h1 ro φ a W →
    ∀ (K : Act → World → Prop) (Q : Exit → Act → World → Prop),
      (∀ a' W' ro' φ', Rel C (fun j => used j ∨ lab ℓ j) N (putd o.dst e.val t1) (wrs e.wr h1) ro' φ' a' W' → K a' W') →
      if Region.wanted o (yielded ops a.tmps) = true then o.wp P a W K Q else K (a.put o.dst undef) W
theorem j7a {o : Oper} {k : Nat} (hk : Operand.tmp k ∈ o.op.operands) : k ∈ o.looksAt ops :=
  List.mem_append_left _ (List.mem_filterMap.2 ⟨.tmp k, by simpa using hk, rfl⟩)
theorem z04 {o : Oper} {g d : Nat} {w : Bool} (hg : o.guard = some (g, w)) (hd : (ops[g]?).bind (·.dst) = some d) : d ∈ o.looksAt ops :=
  List.mem_append_right _ (by rw [hg]; simp [hd])
theorem JG.plain {o : Oper} {e : Eff} (hg : o.guard = none) (hJ : J P o ℓ t h e) : JG P ops o ℓ t h e := by
  intro C used N t1 h1 ro φ a W ht hh hu hd r K Q hK
  rw [if_pos (by simp [Region.wanted, hg])]
  exact hJ C used N t1 h1 ro φ a W (fun k hk => ht k (j7a hk)) hh hu hd r K Q hK
def q5a : AV → Bool → Option Bool
  | .c (.v (.bool b)), w => some (b == w)
  | .opt b' (.c (.v (.bool b))), w => some (b' && (b == w))
  | .opt false _, _ => some false
  | _, _ => none
theorem z0j {C : Ctx P} {used : Nat → Prop} {N : Nat} {t1 : Nat → AV} {h1 : Nat → Option Blkd} {ro : Nat → Prop} {φ : Nat → Value} {a : Act} {W : World} (r : Rel C used N t1 h1 ro φ a W) {o : Oper} {g d : Nat} {w b : Bool} (hg : o.guard = some (g, w)) (hd : (ops[g]?).bind (·.dst) = some d)
    (ht : q5a (t1 d) w = some b) : Region.wanted o (yielded ops a.tmps) = b := by
  have h2 := r.tm d
  generalize ht1 : t1 d = x at ht h2
  have key : ∀ c : Bool, a.tmps.getD d undef = .bool c → Region.wanted o (yielded ops a.tmps) = (c == w) := by
    intro c h3
    have h4 : a.tmps[d]? = some (.bool c) := by
      cases hq : a.tmps[d]? with
      | none => simp [Array.getD_eq_getD_getElem?, hq, undef] at h3
      | some u => simp [Array.getD_eq_getD_getElem?, hq] at h3; rw [h3]
    simp only [Region.wanted, hg, yielded, hd, Option.bind_some, h4]
    cases c <;> cases w <;> rfl
  unfold q5a at ht
  split at ht
  · obtain rfl := Option.some.inj ht
    exact key _ (q13 h2)
  · rename_i _ b' c
    obtain rfl := Option.some.inj ht
    cases h2 with
    | opt hx hu =>
      cases b' with
      | true => rw [key _ (q13 (hx rfl))]; simp
      | false =>
        have h3 := hu rfl
        have h4 : a.tmps[d]? = none ∨ a.tmps[d]? = some undef := by
          cases hq : a.tmps[d]? with
          | none => exact .inl rfl
          | some u => right; simp [Array.getD_eq_getD_getElem?, hq] at h3; rw [h3]
        simp only [Region.wanted, hg, yielded, hd, Option.bind_some, Bool.false_and]
        rcases h4 with h4 | h4 <;> rw [h4] <;> cases w <;> rfl
  · obtain rfl := Option.some.inj ht
    cases h2 with
    | opt hx hu =>
      have h3 := hu rfl
      have h4 : a.tmps[d]? = none ∨ a.tmps[d]? = some undef := by
        cases hq : a.tmps[d]? with
        | none => exact .inl rfl
        | some u => right; simp [Array.getD_eq_getD_getElem?, hq] at h3; rw [h3]
      simp only [Region.wanted, hg, yielded, hd, Option.bind_some]
      rcases h4 with h4 | h4 <;> rw [h4] <;> cases w <;> rfl
  · simp at ht
theorem JG.guarded {o : Oper} {e : Eff} {g d : Nat} {w : Bool} (hg : o.guard = some (g, w)) (hd : (ops[g]?).bind (·.dst) = some d) (hb : q5a (t d) w = some true) (hJ : J P o ℓ t h e) : JG P ops o ℓ t h e := by
  intro C used N t1 h1 ro φ a W ht hh hu hdd r K Q hK
  rw [if_pos (z0j r hg hd (by rw [ht d (z04 hg hd), hb]))]
  exact hJ C used N t1 h1 ro φ a W (fun k hk => ht k (j7a hk)) hh hu hdd r K Q hK
theorem JG.maybe {o : Oper} {v : AV} {rd : List Nat} {g d : Nat} {w b : Bool} (hg : o.guard = some (g, w)) (hd : (ops[g]?).bind (·.dst) = some d) (hb : q5a (t d) w = some b) (hJ : b = true → J P o ℓ t h ⟨v, rd, []⟩) : JG P ops o ℓ t h ⟨.opt b v, rd, []⟩ := by
  intro C used N t1 h1 ro φ a W ht hh hu hdd r K Q hK
  rw [z0j r hg hd (by rw [ht d (z04 hg hd), hb])]
  cases hbw : b with
  | true =>
    subst hbw
    rw [if_pos rfl]
    refine hJ rfl C used N t1 h1 ro φ a W (fun k hk => ht k (j7a hk)) hh hu hdd r K Q fun a' W' ro' φ' r' => hK a' W' ro' φ' ?_
    have hx : ∀ k, Rep W' ro' φ' (wrs [] h1) (putd o.dst (.opt true v) t1 k) (a'.tmps.getD k undef) ∧ Sc (fun j => used j ∨ lab ℓ j) (wrs [] h1) (putd o.dst (.opt true v) t1 k) := by
      intro k
      have h2 := r'.tm k
      have h3 := r'.scT k
      cases hdst : o.dst with
      | none => rw [hdst] at h2 h3; exact ⟨h2, h3⟩
      | some d' =>
        rw [hdst] at h2 h3
        simp only [putd] at h2 h3 ⊢
        by_cases hk : k = d'
        · rw [hk, q1a] at h2 h3
          rw [hk, q1a]
          exact ⟨.opt (fun _ => h2) (fun h => by simp at h), .opt fun _ => h3⟩
        · rw [q1p _ _ hk] at h2 h3 ⊢
          exact ⟨h2, h3⟩
    exact ⟨r'.keep, r'.defers, r'.size, fun k => (hx k).1, r'.hp, r'.inj, r'.own, r'.rolt, r'.ro0, r'.ronew, fun k => (hx k).2, r'.scH, r'.lent, r'.glob⟩
  | false =>
    subst hbw
    rw [if_neg (by simp)]
    refine hK _ _ ro φ ?_
    exact (r.take fun j hj => .inl hj).put (.opt (fun h => by simp at h) fun _ => rfl) (.opt fun h => by simp at h) hdd
end

end Go.Proofs.YthkofkaocipomaaGreatDoor

namespace Go.Proofs.YthkofkaocipomaaGreatDoor
open Go.RowKit
set_option linter.unusedVariables false
set_option linter.unusedSimpArgs false

abbrev Foot := List (List Nat × List Nat)
def Eff.foot (e : Eff) : List Nat × List Nat := (e.rd, e.wr.map (·.1))
def AOps (P : Program) (ops : Array Oper) : List Oper → Nat → (Nat → AV) → (Nat → Option Blkd) → Foot → ((Nat → AV) → (Nat → Option Blkd) → Foot → Prop) → Prop
  | [], _, t, h, fs, R => R t h fs
  | o :: l, n, t, h, fs, R => ∃ e, JG P ops o n t h e ∧ AOps P ops l (n + 8) (putd o.dst e.val t) (wrs e.wr h) (fs ++ [e.foot]) R

section
variable {P : Program} {ops : Array Oper} {Q : Exit → Act → World → Prop} {C : Ctx P} {N : Nat}
theorem aops_list : ∀ (l : List Oper) (n : Nat) (t : Nat → AV) (h : Nat → Option Blkd) (fs : Foot) (R : (Nat → AV) → (Nat → Option Blkd) → Foot → Prop), AOps P ops l n t h fs R → (∀ o ∈ l, ∀ d, o.dst = some d → d < N) →
    ∀ (used : Nat → Prop) (ro : Nat → Prop) (φ : Nat → Value) (a : Act) (W : World), (∀ j, n ≤ j → j < n + 8 * l.length → ¬ used j) → Rel C used N t h ro φ a W →
    (∀ t' h' fs' ro' φ' a' W', R t' h' fs' → Rel C (fun j => used j ∨ (n ≤ j ∧ j < n + 8 * l.length)) N t' h' ro' φ' a' W' → Q .normal a' W') → wpList P ops Q l a W := by
  intro l
  induction l with
  | nil =>
    intro n t h fs R hA _ used ro φ a W _ r hQ
    exact wpList_nil (hQ t h fs ro φ a W hA (r.take fun j hj => .inl hj))
  | cons o l ih =>
    intro n t h fs R hA hd used ro φ a W hu r hQ
    obtain ⟨e, hJ, hA⟩ := hA
    refine wpList_step fun K hK => hJ C used N t h ro φ a W (fun _ _ => rfl) (fun _ _ => rfl) (fun j hj => hu j hj.1 (by have := hj.2; rw [List.length_cons]; omega)) (hd o (by simp)) r K Q fun a' W' ro' φ' r' => hK a' W' ?_
    refine ih (n + 8) _ _ _ R hA (fun o ho => hd o (by simp [ho])) _ ro' φ' a' W' (fun j hj hj2 hu' => ?_) r' fun t' h' fs' ro'' φ'' a'' W'' hR r'' => hQ t' h' fs' ro'' φ'' a'' W'' hR (r''.take fun j hj => ?_)
    · rcases hu' with h1 | h1
      · exact hu j (by omega) (by rw [List.length_cons]; omega) h1
      · have := h1.2; omega
    · rcases hj with (hj | hj) | hj
      · exact .inl hj
      · exact .inr ⟨hj.1, by have := hj.2; rw [List.length_cons]; omega⟩
      · exact .inr ⟨by omega, by rw [List.length_cons]; omega⟩

def runT (S : Nat → Bool) : (Nat → AV) → List (Option Nat × Eff) → Nat → (Nat → AV)
  | t, [], _ => t
  | t, p :: ps, i => runT S (if S i = true then putd p.1 p.2.val t else t) ps (i + 1)
def runH (S : Nat → Bool) : (Nat → Option Blkd) → List (Option Nat × Eff) → Nat → (Nat → Option Blkd)
  | h, [], _ => h
  | h, p :: ps, i => runH S (if S i = true then wrs p.2.wr h else h) ps (i + 1)
theorem j47 {α : Type} {d : Option Nat} {x : Nat} (hd : d ≠ some x) (v : α) (f : Nat → α) : putd d v f x = f x := by
  cases d with
  | none => rfl
  | some k => exact q1p _ _ fun e => hd (by rw [e])
theorem j46 {α : Type} {d : Option Nat} {x : Nat} (hd : d = some x) (v : α) (f : Nat → α) : putd d v f x = v := by
  rw [hd]; exact q1a _ _ _
theorem j3t : ∀ (l : List (Nat × Option Blkd)) (h : Nat → Option Blkd) (j : Nat), j ∉ l.map (·.1) → wrs l h j = h j
  | [], _, _, _ => rfl
  | p :: l, h, j, hj => by
    simp only [List.map_cons, List.mem_cons, not_or] at hj
    show wrs l (upd h p.1 p.2) j = _
    rw [j3t l _ j hj.2, q1p _ _ hj.1]
theorem wrs_eq : ∀ (l : List (Nat × Option Blkd)) (h h' : Nat → Option Blkd) (j : Nat), (j ∈ l.map (·.1) ∨ h j = h' j) → wrs l h j = wrs l h' j
  | [], _, _, _, hj => by
    rcases hj with hj | hj
    · simp at hj
    · exact hj
  | p :: l, h, h', j, hj => by
    show wrs l (upd h p.1 p.2) j = wrs l (upd h' p.1 p.2) j
    refine wrs_eq l _ _ j ?_
    by_cases hp : j = p.1
    · subst hp
      exact .inr (by rw [q1a, q1a])
    · rw [q1p _ _ hp, q1p _ _ hp]
      rcases hj with hj | hj
      · simp only [List.map_cons, List.mem_cons] at hj
        rcases hj with hj | hj
        · exact absurd hj hp
        · exact .inl hj
      · exact .inr hj
theorem j5f {S S' : Nat → Bool} {x : Nat} : ∀ (ps : List (Option Nat × Eff)) (i : Nat) (t t' : Nat → AV), t x = t' x → (∀ j p, ps[j]? = some p → S (i + j) ≠ S' (i + j) → p.1 ≠ some x) → runT S t ps i x = runT S' t' ps i x
  | [], _, _, _, ht, _ => ht
  | p :: ps, i, t, t', ht, hp => by
    refine j5f ps (i + 1) _ _ ?_ fun j q hq hS => hp (j + 1) q (by simpa using hq) (by rw [show i + (j + 1) = i + 1 + j from by omega]; exact hS)
    by_cases hd : p.1 = some x
    · have : S i = S' i := by
        by_cases h : S i = S' i
        · exact h
        · exact absurd hd (hp 0 p rfl h)
      rw [this]
      split
      · rw [j46 hd, j46 hd]
      · exact ht
    · split <;> split <;> (try rw [j47 hd]) <;> (try rw [j47 hd]) <;> exact ht
theorem j5g {S : Nat → Bool} {x : Nat} : ∀ (ps : List (Option Nat × Eff)) (i : Nat) (t : Nat → AV), (∀ j p, ps[j]? = some p → S (i + j) = true → p.1 ≠ some x) → runT S t ps i x = t x
  | [], _, _, _ => rfl
  | p :: ps, i, t, hp => by
    show runT S _ ps (i + 1) x = _
    rw [j5g ps (i + 1) _ fun j q hq hS => hp (j + 1) q (by simpa using hq) (by rw [show i + (j + 1) = i + 1 + j from by omega]; exact hS)]
    split
    · rename_i hS
      exact j47 (hp 0 p rfl hS) _ _
    · rfl
theorem z2d {S : Nat → Bool} {x k : Nat} {p : Option Nat × Eff} : ∀ (ps : List (Option Nat × Eff)) (i : Nat) (t : Nat → AV), i ≤ k → ps[k - i]? = some p → S k = true → p.1 = some x → (∀ j q, ps[j]? = some q → k < i + j → S (i + j) = true → q.1 ≠ some x) → runT S t ps i x = p.2.val
  | [], i, t, _, hk, _, _, _ => by simp at hk
  | q :: ps, i, t, hi, hk, hS, hx, hp => by
    rcases Nat.lt_or_eq_of_le hi with h1 | h1
    · refine z2d ps (i + 1) _ h1 (by rw [← hk, show k - i = k - (i + 1) + 1 from by omega, List.getElem?_cons_succ]) hS hx fun j q hq hj hS => hp (j + 1) q (by simpa using hq) (by omega) (by rw [show i + (j + 1) = i + 1 + j from by omega]; exact hS)
    · subst h1
      simp at hk
      subst hk
      show runT S _ ps (i + 1) x = _
      rw [j5g ps (i + 1) _ fun j q hq hS' => hp (j + 1) q (by simpa using hq) (by omega) (by rw [show i + (j + 1) = i + 1 + j from by omega]; exact hS'), if_pos hS, j46 hx]
theorem j5d {S S' : Nat → Bool} {x : Nat} : ∀ (ps : List (Option Nat × Eff)) (i : Nat) (t t' : Nat → Option Blkd), t x = t' x → (∀ j p, ps[j]? = some p → S (i + j) ≠ S' (i + j) → x ∉ p.2.wr.map (·.1)) → runH S t ps i x = runH S' t' ps i x
  | [], _, _, _, ht, _ => ht
  | p :: ps, i, t, t', ht, hp => by
    refine j5d ps (i + 1) _ _ ?_ fun j q hq hS => hp (j + 1) q (by simpa using hq) (by rw [show i + (j + 1) = i + 1 + j from by omega]; exact hS)
    by_cases hd : x ∈ p.2.wr.map (·.1)
    · have : S i = S' i := by
        by_cases h : S i = S' i
        · exact h
        · exact absurd hd (hp 0 p rfl h)
      rw [this]
      split
      · exact wrs_eq _ _ _ _ (.inl hd)
      · exact ht
    · split <;> split <;> (try rw [j3t _ _ _ hd]) <;> (try rw [j3t _ _ _ hd]) <;> exact ht
theorem j5e {S : Nat → Bool} {x : Nat} : ∀ (ps : List (Option Nat × Eff)) (i : Nat) (t : Nat → Option Blkd), (∀ j p, ps[j]? = some p → S (i + j) = true → x ∉ p.2.wr.map (·.1)) → runH S t ps i x = t x
  | [], _, _, _ => rfl
  | p :: ps, i, t, hp => by
    show runH S _ ps (i + 1) x = _
    rw [j5e ps (i + 1) _ fun j q hq hS => hp (j + 1) q (by simpa using hq) (by rw [show i + (j + 1) = i + 1 + j from by omega]; exact hS)]
    split
    · rename_i hS
      exact j3t _ _ _ (hp 0 p rfl hS)
    · rfl
theorem z2c {S : Nat → Bool} {x k : Nat} {p : Option Nat × Eff} (h0 : Nat → Option Blkd) : ∀ (ps : List (Option Nat × Eff)) (i : Nat) (t : Nat → Option Blkd), i ≤ k → ps[k - i]? = some p → S k = true → x ∈ p.2.wr.map (·.1) → (∀ j q, ps[j]? = some q → k < i + j → S (i + j) = true → x ∉ q.2.wr.map (·.1)) → runH S t ps i x = wrs p.2.wr h0 x
  | [], i, t, _, hk, _, _, _ => by simp at hk
  | q :: ps, i, t, hi, hk, hS, hx, hp => by
    rcases Nat.lt_or_eq_of_le hi with h1 | h1
    · refine z2c h0 ps (i + 1) _ h1 (by rw [← hk, show k - i = k - (i + 1) + 1 from by omega, List.getElem?_cons_succ]) hS hx fun j q hq hj hS => hp (j + 1) q (by simpa using hq) (by omega) (by rw [show i + (j + 1) = i + 1 + j from by omega]; exact hS)
    · subst h1
      simp at hk
      subst hk
      show runH S _ ps (i + 1) x = _
      rw [j5e ps (i + 1) _ fun j q hq hS' => hp (j + 1) q (by simpa using hq) (by omega) (by rw [show i + (j + 1) = i + 1 + j from by omega]; exact hS'), if_pos hS]
      exact wrs_eq _ _ _ _ (.inl hx)
theorem aops_effs : ∀ (l : List Oper) (n : Nat) (t : Nat → AV) (h : Nat → Option Blkd) (fs : Foot) (R : (Nat → AV) → (Nat → Option Blkd) → Foot → Prop), AOps P ops l n t h fs R →
    ∃ es : List Eff, es.length = l.length ∧ (∀ k o e, l[k]? = some o → es[k]? = some e → JG P ops o (n + 8 * k) (runT (fun i => decide (i < k)) t ((l.map (·.dst)).zip es) 0) (runH (fun i => decide (i < k)) h ((l.map (·.dst)).zip es) 0) e) ∧
      R (runT (fun _ => true) t ((l.map (·.dst)).zip es) 0) (runH (fun _ => true) h ((l.map (·.dst)).zip es) 0) (fs ++ es.map (·.foot)) := by
  intro l
  induction l with
  | nil => intro n t h fs R hA; exact ⟨[], rfl, fun k o e hk => by simp at hk, by simpa [runT, runH, AOps] using hA⟩
  | cons o l ih =>
    intro n t h fs R hA
    obtain ⟨e, hJ, hA⟩ := hA
    obtain ⟨es, h1, h2, h3⟩ := ih (n + 8) _ _ _ R hA
    have hsh : ∀ (S : Nat → Bool) (f : Nat → AV) (ps : List (Option Nat × Eff)) (i : Nat), runT S f ps (i + 1) = runT (fun j => S (j + 1)) f ps i := by
      intro S f ps
      induction ps generalizing f with
      | nil => intro i; rfl
      | cons p ps ih => intro i; exact ih _ (i + 1)
    have hsh' : ∀ (S : Nat → Bool) (f : Nat → Option Blkd) (ps : List (Option Nat × Eff)) (i : Nat), runH S f ps (i + 1) = runH (fun j => S (j + 1)) f ps i := by
      intro S f ps
      induction ps generalizing f with
      | nil => intro i; rfl
      | cons p ps ih => intro i; exact ih _ (i + 1)
    refine ⟨e :: es, by simp [h1], fun k o' e' ho he => ?_, ?_⟩
    · cases k with
      | zero =>
        simp at ho he
        subst ho he
        have e1 : runT (fun i => decide (i < 0)) t (((o :: l).map (·.dst)).zip (e :: es)) 0 = t := funext fun x => j5g _ _ _ fun j p hp hS => by simp at hS
        have e2 : runH (fun i => decide (i < 0)) h (((o :: l).map (·.dst)).zip (e :: es)) 0 = h := funext fun x => j5e _ _ _ fun j p hp hS => by simp at hS
        rw [e1, e2]
        exact hJ
      | succ k =>
        simp at ho he
        have h4 := h2 k o' e' ho he
        have e1 : runT (fun i => decide (i < k + 1)) t (((o :: l).map (·.dst)).zip (e :: es)) 0 = runT (fun i => decide (i < k)) (putd o.dst e.val t) ((l.map (·.dst)).zip es) 0 := by
          simp only [List.map_cons, List.zip_cons_cons, runT]
          rw [hsh]
          simp
        have e2 : runH (fun i => decide (i < k + 1)) h (((o :: l).map (·.dst)).zip (e :: es)) 0 = runH (fun i => decide (i < k)) (wrs e.wr h) ((l.map (·.dst)).zip es) 0 := by
          simp only [List.map_cons, List.zip_cons_cons, runH]
          rw [hsh']
          simp
        rw [e1, e2, show n + 8 * (k + 1) = n + 8 + 8 * k from by omega]
        exact h4
    · simp only [List.map_cons, List.zip_cons_cons, runT, runH, if_true]
      rw [hsh, hsh']
      simpa using h3

def maskOf (acc : List Nat) (o : Oper) : Nat := o.after.toList.foldl (fun s e => if Region.binds .any e = true then s ||| 2 ^ e.on ||| acc.getD e.on 0 else s) 0
def ancL : List Oper → List Nat → List Nat
  | [], acc => acc
  | o :: l, acc => ancL l (acc ++ [maskOf acc o])
def disj (l m : List Nat) : Bool := l.all fun x => !m.contains x
def pairOk (ops : Array Oper) (anc : List Nat) (fs : Foot) (j k : Nat) : Bool :=
  (anc.getD k 0).testBit j ||
    (match ops[j]?, ops[k]?, fs[j]?, fs[k]? with
     | some x, some y, some f, some g => x.apart ops y && disj f.2 g.1 && disj f.2 g.2 && disj g.2 f.1
     | _, _, _, _ => false)
def okD (ops : Array Oper) (fs : Foot) : Bool :=
  ((List.range ops.size).all fun k => (match ops[k]? with | some o => o.after.toList.all fun e => !Region.binds .any e || decide (e.on < k) | none => true)) &&
  ((List.range ops.size).all fun k => (List.range k).all fun j => pairOk ops (ancL ops.toList []) fs j k)
theorem q4b {ops : Array Oper} {fs : Foot} (h : okD ops fs = true) : okD ops fs = true := h
def Clos (ops : Array Oper) (S : Nat → Bool) : Prop := ∀ k o, ops[k]? = some o → S k = true → ∀ e ∈ o.after, Region.binds .any e = true → S e.on = true
def Preds (ops : Array Oper) (S : Nat → Bool) (k : Nat) : Prop := ∀ o, ops[k]? = some o → ∀ e ∈ o.after, Region.binds .any e = true → S e.on = true
theorem z09 {S : Nat → Bool} {acc : List Nat} (hacc : ∀ k m, acc[k]? = some m → S k = true → ∀ j, m.testBit j = true → S j = true) : ∀ (l : List Edge), (∀ e ∈ l, Region.binds .any e = true → S e.on = true) → ∀ s, (∀ j, Nat.testBit s j = true → S j = true) →
    ∀ j, (l.foldl (fun s e => if Region.binds .any e = true then s ||| 2 ^ e.on ||| acc.getD e.on 0 else s) s).testBit j = true → S j = true
  | [], _, s, hs, j, hj => hs j hj
  | e :: l, hl, s, hs, j, hj => by
    refine z09 hacc l (fun e he => hl e (by simp [he])) _ (fun i hi => ?_) j hj
    simp only [] at hi
    split at hi
    · rename_i hb
      have hon := hl e (by simp) hb
      rw [Nat.testBit_or, Nat.testBit_or, Bool.or_eq_true, Bool.or_eq_true] at hi
      rcases hi with (hi | hi) | hi
      · exact hs i hi
      · rw [Nat.testBit_two_pow] at hi
        have : e.on = i := by simpa using hi
        rw [← this]; exact hon
      · rw [List.getD_eq_getElem?_getD] at hi
        cases hq : acc[e.on]? with
        | none => rw [hq] at hi; simp at hi
        | some m => rw [hq] at hi; exact hacc _ m hq hon i hi
    · exact hs i hi
theorem j82 {S : Nat → Bool} (hS : Clos ops S) : ∀ (l : List Oper) (acc : List Nat), (∀ j o, l[j]? = some o → ops[acc.length + j]? = some o) →
    (∀ k m, acc[k]? = some m → (S k = true ∨ Preds ops S k) → ∀ j, m.testBit j = true → S j = true) →
    ∀ k m, (ancL l acc)[k]? = some m → (S k = true ∨ Preds ops S k) → ∀ j, m.testBit j = true → S j = true
  | [], acc, _, hacc => hacc
  | o :: l, acc, hl, hacc => by
    refine j82 hS l (acc ++ [maskOf acc o]) (fun j q hq => ?_) fun k m hk hp j hj => ?_
    · have := hl (j + 1) q (by simpa using hq)
      rw [List.length_append, List.length_singleton, show acc.length + 1 + j = acc.length + (j + 1) from by omega]
      exact this
    · rcases Nat.lt_trichotomy k acc.length with h1 | h1 | h1
      · rw [List.getElem?_append_left h1] at hk
        exact hacc k m hk hp j hj
      · subst h1
        rw [List.getElem?_append_right (Nat.le_refl _)] at hk
        simp at hk
        subst hk
        have ho := hl 0 o rfl
        rw [Nat.add_zero] at ho
        have hpr : ∀ e ∈ o.after.toList, Region.binds .any e = true → S e.on = true := fun e he hb => by
          rcases hp with hp | hp
          · exact hS _ o ho hp e (by simpa using he) hb
          · exact hp o ho e (by simpa using he) hb
        exact z09 (fun k m hk hsk => hacc k m hk (.inl hsk)) _ hpr 0 (fun j hj => by simp at hj) j hj
      · rw [List.getElem?_eq_none (by simp; omega)] at hk
        simp at hk
end

end Go.Proofs.YthkofkaocipomaaGreatDoor

namespace Go.Proofs.YthkofkaocipomaaGreatDoor
open Go.RowKit
set_option linter.unusedVariables false
set_option linter.unusedSimpArgs false

section
variable {P : Program} {ops : Array Oper} {Q : Exit → Act → World → Prop} {C : Ctx P} {N : Nat}
theorem count_set : ∀ (l : List Bool) (i : Nat), l[i]? = some false → (l.set i true).countP (!·) + 1 = l.countP (!·)
  | [], i, h => by simp at h
  | b :: l, 0, h => by
    simp at h
    subst h
    simp
  | b :: l, i + 1, h => by
    have := count_set l i (by simpa using h)
    simp only [List.set_cons_succ, List.countP_cons]
    omega
theorem z41 {l : List Bool} (h : l.countP (!·) = 0) : ∀ b ∈ l, b = true := by
  intro b hb
  rw [List.countP_eq_zero] at h
  simpa using h b hb
theorem j58 {l m : List Nat} (h : disj l m = true) {x : Nat} (h1 : x ∈ l) (h2 : x ∈ m) : False := by
  have := List.all_eq_true.1 h x h1
  simp [h2] at this
theorem aops_any {n : Nat} {t : Nat → AV} {h : Nat → Option Blkd} {R : (Nat → AV) → (Nat → Option Blkd) → Foot → Prop} (hA : AOps P ops ops.toList n t h [] R) (hok : ∀ t' h' fs, R t' h' fs → okD ops fs = true) (hd : ∀ o ∈ ops, ∀ d, o.dst = some d → d < N)
    {used : Nat → Prop} (hu : ∀ j, n ≤ j → j < n + 8 * ops.size → ¬ used j) {ro : Nat → Prop} {φ : Nat → Value} {a : Act} {W : World} (r : Rel C used N t h ro φ a W)
    (hQ : ∀ t' h' fs' ro' φ' a' W', R t' h' fs' → Rel C (fun j => used j ∨ (n ≤ j ∧ j < n + 8 * ops.size)) N t' h' ro' φ' a' W' → Q .normal a' W') : wpAny P .any ops Q ops.size (Array.replicate ops.size false) a W := by
  obtain ⟨es, hlen, hJ, hR⟩ := aops_effs ops.toList n t h [] R hA
  rw [List.nil_append] at hR
  have hlen' : es.length = ops.size := by simpa using hlen
  have hD := hok _ _ _ hR
  simp only [okD, Bool.and_eq_true, List.all_eq_true, List.mem_range] at hD
  obtain ⟨hE, hP⟩ := hD
  generalize hps : (ops.toList.map (·.dst)).zip es = ps at hJ hR
  have hpsl : ps.length = ops.size := by rw [← hps]; simp [hlen']
  have hpsk : ∀ (k : Nat) (p : Option Nat × Eff), ps[k]? = some p → ∃ (o : Oper) (e : Eff), ops[k]? = some o ∧ es[k]? = some e ∧ p = (o.dst, e) := by
    intro k p hk
    rw [← hps] at hk
    have hlt := (List.getElem?_eq_some_iff.1 hk).1
    simp [hlen'] at hlt
    have h1 : ops[k]? = some ops[k] := Array.getElem?_eq_getElem hlt
    have h2 : es[k]? = some (es[k]'(by omega)) := List.getElem?_eq_getElem _
    refine ⟨_, _, h1, h2, ?_⟩
    rw [List.getElem?_zip_eq_some] at hk
    obtain ⟨h3, h4⟩ := hk
    rw [h2] at h4
    rw [List.getElem?_map] at h3
    have h5 : ops.toList[k]? = some ops[k] := by simp
    rw [h5] at h3
    cases p
    simp at h3 h4
    rw [h3, h4]
  have hpk : ∀ k, k < ops.size → ∃ (o : Oper) (e : Eff), ops[k]? = some o ∧ es[k]? = some e ∧ ps[k]? = some (o.dst, e) := by
    intro k hk
    have hq : ps[k]? = some (ps[k]'(by omega)) := List.getElem?_eq_getElem _
    obtain ⟨o, e, h1, h2, h3⟩ := hpsk k _ hq
    exact ⟨o, e, h1, h2, by rw [hq, h3]⟩
  -- two operations of which neither must come ahead of the other
  have hpair : ∀ (S : Nat → Bool), Clos ops S → ∀ (j k : Nat) (x y : Oper) (f g : Eff), j < k → ops[j]? = some x → ops[k]? = some y → es[j]? = some f → es[k]? = some g → S j = false → (S k = true ∨ Preds ops S k) →
      x.apart ops y = true ∧ disj (f.foot).2 (g.foot).1 = true ∧ disj (f.foot).2 (g.foot).2 = true ∧ disj (g.foot).2 (f.foot).1 = true := by
    intro S hS j k x y f g hjk hx hy hf hg hSj hSk
    have hklt : k < ops.size := (Array.getElem?_eq_some_iff.1 hy).1
    have h1 := hP k hklt j hjk
    unfold pairOk at h1
    rw [hx, hy, List.getElem?_map, List.getElem?_map, hf, hg] at h1
    rw [Bool.or_eq_true] at h1
    rcases h1 with h1 | h1
    · exfalso
      rw [List.getD_eq_getElem?_getD] at h1
      cases hq : (ancL ops.toList [])[k]? with
      | none => rw [hq] at h1; simp at h1
      | some m =>
        rw [hq] at h1
        have := j82 hS ops.toList [] (fun j o ho => by simpa using ho) (fun k m hk => by simp at hk) k m hq hSk j h1
        rw [hSj] at this
        simp at this
    · simp only [Option.map_some, Bool.and_eq_true] at h1
      exact ⟨h1.1.1.1, h1.1.1.2, h1.1.2, h1.2⟩
  have hall : ∀ (listed : Array Bool), listed.size = ops.size → Region.ready .any ops listed = [] → ∀ k, k < ops.size → listed.getD k false = true := by
    intro listed hsz hr k
    induction k using Nat.strongRecOn with
    | _ k ih =>
      intro hk
      cases hq : listed.getD k false with
      | true => rfl
      | false =>
        exfalso
        have hm : k ∈ Region.ready .any ops listed := by
          rw [mem_ready]
          refine ⟨by have hk' : k < listed.size := by omega
                     simp [hk'] at hq ⊢; exact hq, _, Array.getElem?_eq_getElem hk, fun e he hb => ?_⟩
          have h1 := hE k hk
          rw [Array.getElem?_eq_getElem hk] at h1
          have h2 := List.all_eq_true.1 h1 e (by simpa using he)
          simp only [hb, Bool.not_true, Bool.false_or, decide_eq_true_eq] at h2
          exact ih e.on h2 (by omega)
        rw [hr] at hm
        simp at hm
  have hend : ∀ (listed : Array Bool) (ro : Nat → Prop) (φ : Nat → Value) (a : Act) (W : World), (∀ k, k < ops.size → listed.getD k false = true) →
      Rel C (fun j => used j ∨ ∃ k, k < ops.size ∧ listed.getD k false = true ∧ lab (n + 8 * k) j) N (runT (fun i => listed.getD i false) t ps 0) (runH (fun i => listed.getD i false) h ps 0) ro φ a W → Q .normal a W := by
    intro listed ro φ a W hl r'
    have e1 : runT (fun i => listed.getD i false) t ps 0 = runT (fun _ => true) t ps 0 := funext fun x => j5f _ _ _ _ rfl fun j p hp hS => by
      have := (List.getElem?_eq_some_iff.1 hp).1
      exact absurd (by rw [Nat.zero_add]; exact hl j (by omega)) hS
    have e2 : runH (fun i => listed.getD i false) h ps 0 = runH (fun _ => true) h ps 0 := funext fun x => j5d _ _ _ _ rfl fun j p hp hS => by
      have := (List.getElem?_eq_some_iff.1 hp).1
      exact absurd (by rw [Nat.zero_add]; exact hl j (by omega)) hS
    rw [e1, e2] at r'
    refine hQ _ _ _ ro φ a W hR (r'.take fun j hj => ?_)
    rcases hj with hj | ⟨k, hk, _, hk'⟩
    · exact .inl hj
    · unfold lab at hk'
      exact .inr (by omega)
  -- the orders
  have main : ∀ (fuel : Nat) (listed : Array Bool) (ro : Nat → Prop) (φ : Nat → Value) (a : Act) (W : World), listed.size = ops.size → Clos ops (fun i => listed.getD i false) → listed.toList.countP (!·) ≤ fuel →
      Rel C (fun j => used j ∨ ∃ k, k < ops.size ∧ listed.getD k false = true ∧ lab (n + 8 * k) j) N (runT (fun i => listed.getD i false) t ps 0) (runH (fun i => listed.getD i false) h ps 0) ro φ a W → wpAny P .any ops Q fuel listed a W := by
    intro fuel
    induction fuel with
    | zero =>
      intro listed ro φ a W hsz hC hc r'
      have hall' : ∀ k, k < ops.size → listed.getD k false = true := by
        intro k hk
        have := z41 (Nat.le_zero.1 hc) (listed[k]'(by omega)) (by simp)
        have hk' : k < listed.size := by omega
        simp [hk', this]
      refine ⟨?_, hend listed ro φ a W hall' r'⟩
      rw [List.eq_nil_iff_forall_not_mem]
      intro k hk
      obtain ⟨h1, o, ho, _⟩ := mem_ready.1 hk
      have hlt := (Array.getElem?_eq_some_iff.1 ho).1
      have := hall' k hlt
      have hk' : k < listed.size := by omega
      simp [hk'] at this h1
      rw [this] at h1
      simp at h1
    | succ fuel ih =>
      intro listed ro φ a W hsz hC hc r'
      refine ⟨fun hr => hend listed ro φ a W (hall listed hsz hr) r', fun i hi => ?_⟩
      obtain ⟨hun, o, ho, hpre⟩ := mem_ready.1 hi
      have hilt : i < ops.size := (Array.getElem?_eq_some_iff.1 ho).1
      have hil : i < listed.size := by omega
      have hSi : listed.getD i false = false := by simp [hil] at hun ⊢; exact hun
      have hPi : Preds ops (fun i => listed.getD i false) i := fun o' ho' e he hb => by
        rw [ho] at ho'
        obtain rfl := Option.some.inj ho'
        exact hpre e he hb
      obtain ⟨o', e, ho', hei, hpi⟩ := hpk i hilt
      rw [ho] at ho'
      obtain rfl := Option.some.inj ho'
      have hJi := hJ i o e (by simpa using ho) hei
      -- what is seen, is as in the text's order
      have hsee : ∀ k ∈ o.looksAt ops, runT (fun i => listed.getD i false) t ps 0 k = runT (fun j => decide (j < i)) t ps 0 k := by
        intro k hk
        refine j5f _ _ _ _ rfl fun j p hp hS hpk' => ?_
        rw [Nat.zero_add] at hS
        obtain ⟨oj, ej, hoj, hej, rfl⟩ := hpsk j p hp
        simp only [] at hpk'
        rcases Nat.lt_trichotomy j i with h1 | h1 | h1
        · have hSj : listed.getD j false = false := by
            cases hq : listed.getD j false with
            | false => rfl
            | true => exact absurd (by simp only [hq]; simp [h1]) hS
          have := (Oper.apart_spec (hpair _ hC j i oj o ej e h1 hoj ho hej hei hSj (.inr hPi)).1).1 k hpk'
          exact this hk
        · subst h1
          exact absurd (by simp only [hSi]; simp) hS
        · have hSj : listed.getD j false = true := by
            cases hq : listed.getD j false with
            | true => rfl
            | false => exact absurd (by simp only [hq]; simp; omega) hS
          have := (Oper.apart_spec (hpair _ hC i j o oj e ej h1 ho hoj hei hej hSi (.inl hSj)).1).2.2 k hpk'
          exact this hk
      have hread : ∀ k ∈ e.rd, runH (fun i => listed.getD i false) h ps 0 k = runH (fun j => decide (j < i)) h ps 0 k := by
        intro k hk
        refine j5d _ _ _ _ rfl fun j p hp hS hpk' => ?_
        rw [Nat.zero_add] at hS
        obtain ⟨oj, ej, hoj, hej, rfl⟩ := hpsk j p hp
        simp only [] at hpk'
        rcases Nat.lt_trichotomy j i with h1 | h1 | h1
        · have hSj : listed.getD j false = false := by
            cases hq : listed.getD j false with
            | false => rfl
            | true => exact absurd (by simp only [hq]; simp [h1]) hS
          exact j58 (hpair _ hC j i oj o ej e h1 hoj ho hej hei hSj (.inr hPi)).2.1 hpk' hk
        · subst h1
          exact absurd (by simp only [hSi]; simp) hS
        · have hSj : listed.getD j false = true := by
            cases hq : listed.getD j false with
            | true => rfl
            | false => exact absurd (by simp only [hq]; simp; omega) hS
          exact j58 (hpair _ hC i j o oj e ej h1 ho hoj hei hej hSi (.inl hSj)).2.2.2 hpk' hk
      have hset : ∀ k, (listed.setIfInBounds i true).getD k false = if k = i then true else listed.getD k false := by
        intro k
        by_cases hk : k = i
        · subst hk
          simp [hil]
        · rw [if_neg hk]
          exact getD_set_ne false (fun e => hk e.symm)
      have hT : runT (fun k => (listed.setIfInBounds i true).getD k false) t ps 0 = putd o.dst e.val (runT (fun k => listed.getD k false) t ps 0) := by
        funext x
        by_cases hx : o.dst = some x
        · rw [j46 hx]
          refine z2d (k := i) (p := (o.dst, e)) ps 0 t (Nat.zero_le _) (by simpa using hpi) (by simp only [hset, if_true]) hx fun j q hq hj hS hqx => ?_
          rw [Nat.zero_add] at hj hS
          obtain ⟨oj, ej, hoj, hej, rfl⟩ := hpsk j q hq
          rw [hset, if_neg (by omega)] at hS
          exact (Oper.apart_spec (hpair _ hC i j o oj e ej hj ho hoj hei hej hSi (.inl hS)).1).2.1 x hx hqx
        · rw [j47 hx]
          refine j5f _ _ _ _ rfl fun j p hp hS hpx => ?_
          rw [Nat.zero_add] at hS
          simp only [hset] at hS
          split at hS
          · rename_i hji
            subst hji
            rw [hpi] at hp
            obtain rfl := Option.some.inj hp
            exact hx hpx
          · exact hS rfl
      have hH : runH (fun k => (listed.setIfInBounds i true).getD k false) h ps 0 = wrs e.wr (runH (fun k => listed.getD k false) h ps 0) := by
        funext x
        by_cases hx : x ∈ e.wr.map (·.1)
        · refine z2c (k := i) (p := (o.dst, e)) _ ps 0 h (Nat.zero_le _) (by simpa using hpi) (by simp only [hset, if_true]) hx fun j q hq hj hS hqx => ?_
          rw [Nat.zero_add] at hj hS
          obtain ⟨oj, ej, hoj, hej, rfl⟩ := hpsk j q hq
          rw [hset, if_neg (by omega)] at hS
          exact j58 (hpair _ hC i j o oj e ej hj ho hoj hei hej hSi (.inl hS)).2.2.1 hx hqx
        · rw [j3t _ _ _ hx]
          refine j5d _ _ _ _ rfl fun j p hp hS hpx => ?_
          rw [Nat.zero_add] at hS
          simp only [hset] at hS
          split at hS
          · rename_i hji
            subst hji
            rw [hpi] at hp
            obtain rfl := Option.some.inj hp
            exact hx hpx
          · exact hS rfl
      have hC' : Clos ops (fun k => (listed.setIfInBounds i true).getD k false) := by
        intro k q hq hS e' he' hb
        simp only [hset] at hS ⊢
        split at hS
        · rename_i hki
          subst hki
          rw [ho] at hq
          obtain rfl := Option.some.inj hq
          split
          · rfl
          · exact hpre e' he' hb
        · split
          · rfl
          · exact hC k q hq hS e' he' hb
      have hfresh : ∀ j, lab (n + 8 * i) j → ¬ (used j ∨ ∃ k, k < ops.size ∧ listed.getD k false = true ∧ lab (n + 8 * k) j) := by
        intro j hj hx
        unfold lab at hj hx
        rcases hx with hx | ⟨k, hk, hSk, hk'⟩
        · exact hu j (by omega) (by omega) hx
        · have : k = i := by omega
          subst this
          rw [hSi] at hSk
          simp at hSk
      have hgo := hJi C _ N _ _ ro φ a W hsee hread hfresh (hd o (Array.mem_of_getElem? ho)) r' (wpAny P .any ops Q fuel (listed.setIfInBounds i true)) Q fun a' W' ro' φ' r'' => by
        refine ih _ ro' φ' a' W' (by simpa using hsz) hC' ?_ ?_
        · have := count_set listed.toList i (by simp [hil] at hSi ⊢; exact hSi)
          rw [Array.toList_setIfInBounds]
          omega
        · rw [hT, hH]
          refine r''.take fun j hj => ?_
          rcases hj with (hj | ⟨k, hk, hSk, hk'⟩) | hj
          · exact .inl hj
          · refine .inr ⟨k, hk, ?_, hk'⟩
            rw [hset]
            split
            · rfl
            · exact hSk
          · exact .inr ⟨i, hilt, by rw [hset, if_pos rfl], hj⟩
      unfold wpOp
      rw [ho]
      simp only []
      split
      · rename_i hw
        rw [if_pos hw] at hgo
        exact .inl hgo
      · rename_i hw
        rw [if_neg hw] at hgo
        exact hgo
  have h00 : ∀ k, (Array.replicate ops.size false).getD k false = false := by
    intro k
    simp [Array.getD_eq_getD_getElem?, Array.getElem?_replicate]
    split <;> rfl
  refine main ops.size _ ro φ a W (by simp) (fun k o ho hS => by simp only [h00] at hS; simp at hS) (by rw [Array.toList_replicate]; exact Nat.le_trans List.countP_le_length (by simp)) ?_
  have e1 : runT (fun i => (Array.replicate ops.size false).getD i false) t ps 0 = t := funext fun x => j5g _ _ _ fun j p hp hS => by simp only [h00] at hS; simp at hS
  have e2 : runH (fun i => (Array.replicate ops.size false).getD i false) h ps 0 = h := funext fun x => j5e _ _ _ fun j p hp hS => by simp only [h00] at hS; simp at hS
  rw [e1, e2]
  exact r.take fun j hj => .inl hj
end

end Go.Proofs.YthkofkaocipomaaGreatDoor

namespace Go.Proofs.YthkofkaocipomaaGreatDoor
open Go.RowKit
set_option linter.unusedVariables false
set_option linter.unusedSimpArgs false

inductive PBd : PV → Prop
  | v (x : Value) : PBd (.v x)
  | sl {z : Nat} {es : List (List PV)} (hl : es.length ≤ 9223372036854775807) (hx : ∀ e ∈ es, ∀ p ∈ e, PBd p) : PBd (.sl z es)
inductive ABd : AV → Prop
  | any : ABd .any
  | c {p : PV} (hp : PBd p) : ABd (.c p)
  | agg {l : List AV} (hl : ∀ x ∈ l, ABd x) : ABd (.agg l)
  | tup {l : List AV} (hl : ∀ x ∈ l, ABd x) : ABd (.tup l)
  | pp {l : List PV} (hl : ∀ p ∈ l, PBd p) : ABd (.pp l)
  | fn {f : Fn} {l m : List AV} : ABd (.fn f l m)
theorem PRep.bd {W : World} {ro : Nat → Prop} {p : PV} {v : Value} (hr : PRep W ro p v) : PBd p := by
  induction hr with
  | v h => exact .v _
  | @sl z es a c vss hn hc hnil ha hl hz hz' hx ih =>
    refine .sl (by omega) fun e he p hp => ?_
    obtain ⟨i, hi, hie⟩ := List.getElem_of_mem he
    obtain ⟨j, hj, hjp⟩ := List.getElem_of_mem hp
    have h1 : es[i]? = some e := by rw [List.getElem?_eq_getElem hi, hie]
    have h2 : vss[i]? = some (vss[i]'(by omega)) := List.getElem?_eq_getElem _
    have h3 : e[j]? = some p := by rw [List.getElem?_eq_getElem hj, hjp]
    have h4 := hz i e h1
    have h5 := hz' i _ h2
    exact ih i j e _ p _ h1 h2 h3 (List.getElem?_eq_getElem (show j < (vss[i]'(by omega)).length by omega))
theorem Rep.bd {W : World} {ro : Nat → Prop} {φ : Nat → Value} {h : Nat → Option Blkd} {x : AV} {v : Value} (hr : Rep W ro φ h x v) (hp : Pure x) : ABd x := by
  induction hr with
  | any => exact .any
  | c hq => exact .c hq.bd
  | pp hb hc hq =>
    refine .pp fun p hp => ?_
    obtain ⟨j, hj, hjp⟩ := List.getElem_of_mem hp
    have h2 := hq.1
    exact (hq.2 j p _ (by rw [List.getElem?_eq_getElem hj, hjp]) (List.getElem?_eq_getElem (by omega))).bd
  | agg hl hx ih =>
    cases hp with
    | agg hp =>
    refine .agg fun x hm => ?_
    obtain ⟨j, hj, hjp⟩ := List.getElem_of_mem hm
    exact ih j x _ (by rw [List.getElem?_eq_getElem hj, hjp]) (List.getElem?_eq_getElem (by omega)) (hp x hm)
  | tup hl hx ih =>
    cases hp with
    | tup hp =>
    refine .tup fun x hm => ?_
    obtain ⟨j, hj, hjp⟩ := List.getElem_of_mem hm
    exact ih j x _ (by rw [List.getElem?_eq_getElem hj, hjp]) (List.getElem?_eq_getElem (by omega)) (hp x hm)
  | fn => exact .fn
  | _ => cases hp

section
variable {P : Program} {o : Oper} {ℓ : Nat} {t : Nat → AV} {h : Nat → Option Blkd}
def bnd (t : Nat → AV) (d : Int) : Option Operand → Option Int
  | none => some d
  | some x => match ev t x with | .c (.v (.int _ i)) => some i | _ => none
def okO (t : Nat → AV) : Option Operand → Prop | none => True | some x => okx t x
def bndV (d : Int) : Option Value → Option Int | none => some d | some (.int _ i) => some i | some _ => none
theorem j5h (x : Value) (i : Int) (y : Nat) (code : BoundsCode) (hx : bndV 0 (some x) = some i) (h0 : 0 ≤ i) (h1 : i ≤ y) (W : World) : (Instr.sliceBound x y code).run P W = .ok i.toNat W := by
  cases x <;> simp [bndV] at hx
  subst hx
  simp [Instr.sliceBound, asIntOf, h0, h1]
theorem z2f (b : Bool) (len cap : Nat) (lo hi : Option Value) (l u : Int) (hl : bndV 0 lo = some l) (hu : bndV len hi = some u) (h0 : 0 ≤ l) (h1 : l ≤ u) (h2 : u ≤ len) (h3 : len ≤ cap) (W : World) :
    (Instr.sliceBounds b len cap lo hi none).run P W = .ok (l.toNat, u.toNat, cap) W := by
  cases lo with
  | none =>
    obtain rfl := Option.some.inj hl
    cases hi with
    | none =>
      obtain rfl := Option.some.inj hu
      simp [Instr.sliceBounds]
    | some y =>
      have := j5h (P := P) y u cap (if b = true then .sliceAcap else .sliceAlen) (by cases y <;> simp_all [bndV]) (by omega) (by omega) W
      simp [Instr.sliceBounds, this]
  | some x =>
    cases hi with
    | none =>
      obtain rfl := Option.some.inj hu
      have := j5h (P := P) x l len .sliceB (by cases x <;> simp_all [bndV]) (by omega) (by omega) W
      simp [Instr.sliceBounds, this]
    | some y =>
      have h4 := j5h (P := P) y u cap (if b = true then .sliceAcap else .sliceAlen) (by cases y <;> simp_all [bndV]) (by omega) (by omega) W
      have h5 := j5h (P := P) x l u.toNat .sliceB (by cases x <;> simp_all [bndV]) (by omega) (by omega) W
      simp [Instr.sliceBounds, h4, h5]
theorem j36 {C : Ctx P} {used : Nat → Prop} {N : Nat} {t1 : Nat → AV} {h1 : Nat → Option Blkd} {ro : Nat → Prop} {φ : Nat → Value} {a : Act} {W : World} (r : Rel C used N t1 h1 ro φ a W) {d : Int} {x : Option Operand} {i : Int}
    (hh : ∀ y, x = some y → ev t1 y = ev t y ∧ okx t1 y = okx t y) (ho : okO t x) (hb : bnd t d x = some i) : bndV d (x.map a.eval) = some i := by
  cases x with
  | none => exact hb
  | some y =>
    obtain ⟨h2, h3⟩ := hh y rfl
    have hr := q1c r y (h3 ▸ ho)
    rw [h2] at hr
    simp only [bnd] at hb
    split at hb
    · rename_i k j hy
      rw [hy] at hr
      obtain rfl := Option.some.inj hb
      simp [q13 hr, bndV]
    · simp at hb
theorem j8w (ty : TypeId) (x : Operand) (lo hi : Option Operand) (T E : TyA) (z : Nat) (es : List (List PV)) (l u : Int) (ho : o.op = .slice ty x lo hi none) (hx : okx t x) (hlo : okO t lo) (hhi : okO t hi) (ex : ev t x = .c (.sl z es))
    (hT : tyA P ty = some T) (hk : T.kind = 1) (hE : tyA P T.elem = some E) (hz : E.size = z) (hl : bnd t 0 lo = some l) (hu : bnd t es.length hi = some u) (h0 : 0 ≤ l) (h1 : l ≤ u) (h2 : u ≤ (es.length : Int)) :
    J P o ℓ t h ⟨.c (.sl z ((es.take u.toNat).drop l.toNat)), [], []⟩ := by
  refine J.val fun C used N t1 h1' ro φ a W ht hh r => ?_
  obtain ⟨g2, g3⟩ := ht x (by simp [ho, Op.operands])
  have hr := q1c r x (g3 ▸ hx)
  have hlv := j36 r (fun y hy => ht y (by subst hy; simp [ho, Op.operands])) hlo hl
  have huv := j36 r (fun y hy => ht y (by subst hy; simp [ho, Op.operands])) hhi hu
  rw [g2, ex] at hr
  obtain ⟨d, ii, h4, h5, rfl⟩ := q1v hT
  obtain ⟨e, rfl⟩ := q57 hk
  simp only [q4l] at hE
  generalize hv : a.eval x = v at hr
  cases hr with
  | c hp =>
    cases hp with
    | @sl _ _ aa c vss hn hc hnil ha hvl hz1 hz2 hxx =>
      have hlen : ((es.take u.toNat).drop l.toNat).length = u.toNat - l.toNat := by simp; omega
      refine ⟨.slice (if c = l.toNat then aa else aa.map (·.add (l.toNat * z))) (u.toNat - l.toNat) (c - l.toNat), ?_, .c ?_, .c⟩
      · have := z2f (P := P) true es.length c (lo.map a.eval) (hi.map a.eval) l u hlv huv h0 h1 h2 hn W
        simp [execOp, ho, hv, Instr.sliceAt, Instr.slice, run_underlying h4, this, j2w hE, hz]
      · rw [← hlen]
        refine .sl (vss := (vss.take u.toNat).drop l.toNat) (by omega) (by omega) (fun hq => ?_) (fun hne => ?_) (by simp; omega) (fun i e he => ?_) (fun i vs he => ?_) (fun i j e vs p v he hvs hp hv => ?_)
        · split at hq
          · omega
          · have := hnil (by simpa using hq)
            omega
        · have hlt : l.toNat < u.toNat := by
            rw [← List.length_pos_iff, hlen] at hne
            omega
          obtain ⟨b, off, rfl, hb, hcell⟩ := ha (by intro e; subst e; simp at h2; omega)
          refine ⟨b, off + l.toNat * z, by rw [if_neg (by omega)]; simp [q8g], hb, fun i vs hvs => ?_⟩
          rw [List.getElem?_drop, List.getElem?_take] at hvs
          split at hvs
          · have := hcell _ _ hvs
            rw [show off + l.toNat * z + i * z = off + (l.toNat + i) * z by rw [Nat.add_mul]; omega]
            exact this
          · simp at hvs
        · rw [List.getElem?_drop, List.getElem?_take] at he
          split at he
          · exact hz1 _ _ he
          · simp at he
        · rw [List.getElem?_drop, List.getElem?_take] at he
          split at he
          · exact hz2 _ _ he
          · simp at he
        · rw [List.getElem?_drop, List.getElem?_take] at he hvs
          split at he
          · rw [if_pos (by assumption)] at hvs
            exact hxx _ _ _ _ _ _ he hvs hp hv
          · simp at he
theorem j8x (ty : TypeId) (x : Operand) (lo hi : Option Operand) (T : TyA) (s : ByteArray) (l u : Int) (ho : o.op = .slice ty x lo hi none) (hx : okx t x) (hlo : okO t lo) (hhi : okO t hi) (ex : ev t x = .c (.v (.string s)))
    (hT : tyA P ty = some T) (hk : T.kind = 2) (hl : bnd t 0 lo = some l) (hu : bnd t s.size hi = some u) (h0 : 0 ≤ l) (h1 : l ≤ u) (h2 : u ≤ (s.size : Int)) :
    J P o ℓ t h ⟨.c (.v (.string (s.extract l.toNat u.toNat))), [], []⟩ := by
  refine J.val fun C used N t1 h1' ro φ a W ht hh r => ?_
  obtain ⟨g2, g3⟩ := ht x (by simp [ho, Op.operands])
  have hr := q1c r x (g3 ▸ hx)
  have hlv := j36 r (fun y hy => ht y (by subst hy; simp [ho, Op.operands])) hlo hl
  have huv := j36 r (fun y hy => ht y (by subst hy; simp [ho, Op.operands])) hhi hu
  rw [g2, ex] at hr
  obtain ⟨d, ii, h4, h5, rfl⟩ := q1v hT
  obtain rfl := q8t hk
  have hv := q13 hr
  refine ⟨.string (s.extract l.toNat u.toNat), ?_, .c (.v rfl), .c⟩
  have := z2f (P := P) false s.size s.size (lo.map a.eval) (hi.map a.eval) l u hlv huv h0 h1 h2 (Nat.le_refl _) W
  simp [execOp, ho, hv, Instr.sliceAt, Instr.slice, run_underlying h4, this]
end

section
variable {P : Program} {o : Oper} {ℓ : Nat} {t : Nat → AV} {h : Nat → Option Blkd}
theorem J_nilR (x : Operand) (j n i off : Nat) (B : Blkd) (ho : o.op = .nilCheck x) (hx : okx t x) (ex : ev t x = .ref j n i off) (hB : h j = some B) (hn : B.len = n) : J P o ℓ t h ⟨.ref j n i off, [j], []⟩ := by
  refine J.val fun C used N t1 h1 ro φ a W ht hh r => ?_
  obtain ⟨h2, h3⟩ := ht x (by simp [ho, Op.operands])
  have hr := q1c r x (h3 ▸ hx)
  have hs := q3j r x (h3 ▸ hx)
  rw [h2, ex] at hr hs
  generalize hv : a.eval x = v at hr
  have hr' := hr
  cases hr with
  | ref h4 h5 =>
    obtain ⟨b, _, rfl⟩ := h5 B ((hh j (by simp)).trans hB) hn
    exact ⟨_, by simp [execOp, ho, hv], hr', hs⟩
theorem J_nilP (x : Operand) (e : List PV) (ho : o.op = .nilCheck x) (hx : okx t x) (ex : ev t x = .pp e) : J P o ℓ t h ⟨.pp e, [], []⟩ := by
  refine J.val fun C used N t1 h1 ro φ a W ht hh r => ?_
  obtain ⟨h2, h3⟩ := ht x (by simp [ho, Op.operands])
  have hr := q1c r x (h3 ▸ hx)
  have hs := q3j r x (h3 ▸ hx)
  rw [h2, ex] at hr hs
  generalize hv : a.eval x = v at hr
  have hr' := hr
  cases hr with
  | pp h4 h5 h6 => exact ⟨_, by simp [execOp, ho, hv], hr', hs⟩
theorem z5d {d : TypeDesc} (h : q2m d = 6) : ∃ n e, d = .array n e := by
  cases d with
  | array n e => exact ⟨n, e, rfl⟩
  | int k => cases k <;> simp [q2m] at h
  | _ => simp [q2m] at h
theorem j8q (ty : TypeId) (x y : Operand) (T E : TyA) (l : List AV) (k : IntKind) (i : Int) (n e : Nat) (q : AV) (ho : o.op = .index ty x y) (hx : okx t x) (hy : okx t y) (ex : ev t x = .agg l) (ey : ev t y = .c (.v (.int k i)))
    (hT : tyA P ty = some T) (hk : T.kind = 6) (hf : T.flds = [(n, e)]) (hE : tyA P e = some E) (hr : E.row = false) (hs : E.size = 1) (h0 : 0 ≤ i) (h1 : i < (n : Int)) (hq : l[i.toNat]? = some q) : J P o ℓ t h ⟨q, [], []⟩ := by
  refine J.val fun C used N t1 h1' ro φ a W ht hh r => ?_
  obtain ⟨x2, x3⟩ := ht x (by simp [ho, Op.operands])
  obtain ⟨y2, y3⟩ := ht y (by simp [ho, Op.operands])
  have hrx := q1c r x (x3 ▸ hx)
  have hsx := q3j r x (x3 ▸ hx)
  have hry := q1c r y (y3 ▸ hy)
  rw [x2, ex] at hrx hsx
  rw [y2, ey] at hry
  have hvy := q13 hry
  obtain ⟨d, ii, g2, g3, rfl⟩ := q1v hT
  obtain ⟨n', e', rfl⟩ := z5d hk
  obtain ⟨rfl, rfl⟩ : n' = n ∧ e' = e := by simpa [j13] using hf
  generalize hv : a.eval x = v at hrx
  cases hrx with
  | @agg _ vs hl hxx =>
    have hlt := (List.getElem?_eq_some_iff.1 hq).1
    have hlt' : i.toNat < vs.length := by omega
    cases hsx with
    | agg hsx =>
    refine ⟨vs[i.toNat], ?_, hxx _ q _ hq (List.getElem?_eq_getElem hlt'), hsx q (List.mem_of_getElem? hq)⟩
    have hag : (isAgg e').run P W = .ok false W := by rw [j7w hE, hr]
    have hsz : (sizeOf e').run P W = .ok 1 W := by rw [j2w hE, hs]
    simp [execOp, ho, hv, hvy, Instr.index, asIntOf, run_underlying g2, h0, h1, part, hag, hsz, hlt']
theorem J_loadG (ty g : Nat) (T : TyA) (e : List PV) (ho : o.op = .load ty (.global g)) (hg : glob P g = some e) (hT : tyA P ty = some T) (hs : T.size ≤ e.length) (h1 : T.row = false → T.size = 1) : J P o ℓ t h ⟨q3m T e, [], []⟩ := by
  refine J.val fun C used N t1 h1' ro φ a W ht hh r => ?_
  have hv : a.eval (.global g) = .pointer (some ⟨g, 0, none⟩) := rfl
  obtain ⟨_, vs, hc, hl⟩ := r.gok g e hg
  have hvl := hl.1
  cases hrow : T.row with
  | true =>
    refine ⟨.agg (vs.take T.size).toArray, ?_, ?_, ?_⟩
    · have := j5j (P := P) hT hrow (hc.sub 0 T.size) (by simp; omega)
      simp only [Nat.add_zero, List.drop_zero] at this
      simp [execOp, ho, hv, this]
    · have := hl.sub 0 T.size
      simp only [List.drop_zero] at this
      simp only [q3m, hrow, if_true]
      refine .agg (by simpa using this.1) fun j x v h1 h2 => ?_
      rw [List.getElem?_map] at h1
      obtain ⟨p, hp, rfl⟩ := Option.map_eq_some_iff.1 h1
      exact .c (this.2 j p v hp h2)
    · simp only [q3m, hrow, if_true]
      refine .agg fun x hx => ?_
      obtain ⟨p, _, rfl⟩ := List.mem_map.1 hx
      exact .c
  | false =>
    have := h1 hrow
    have hlt : 0 < vs.length := by omega
    have hlt' : 0 < e.length := by omega
    have hcell := hc 0 hlt
    rw [List.getElem?_eq_getElem hlt, Nat.add_zero] at hcell
    refine ⟨vs[0], ?_, ?_, ?_⟩
    · have := j5i (P := P) hT hrow hcell
      simp [execOp, ho, hv, this]
    · simp only [q3m, hrow, Bool.false_eq_true, if_false]
      rw [List.getElem?_eq_getElem hlt']
      exact .c (hl.2 0 _ _ (List.getElem?_eq_getElem hlt') (List.getElem?_eq_getElem hlt))
    · simp only [q3m, hrow, Bool.false_eq_true, if_false]
      rw [List.getElem?_eq_getElem hlt']
      exact .c
theorem J_make (ty : TypeId) (x y : Operand) (T E : TyA) (k k' : IntKind) (n : Int) (ho : o.op = .makeSlice ty x y) (hx : okx t x) (hy : okx t y) (ex : ev t x = .c (.v (.int k n))) (ey : ev t y = .c (.v (.int k' n)))
    (hT : tyA P ty = some T) (hk : T.kind = 1) (hE : tyA P T.elem = some E) (hz : E.zero.length = E.size) (h0 : 0 < E.size) (hone : E.zero.all (·.oneCell') = true) (hn0 : 0 ≤ n) (hn : n ≤ 4294967296) (hb : (E.bytes : Int) * n ≤ 140737488355328) :
    J P o ℓ t h ⟨.row ℓ n.toNat, [], [(ℓ, some ⟨true, T.elem, E.size, List.replicate n.toNat (q2d E)⟩)]⟩ := by
  have key := J.rowNew (P := P) (o := o) (ℓ := ℓ) (t := t) (h := h) (elems := List.replicate n.toNat (q2d E)) (T := T.elem) (z := E.size) (rd := [])
    (fun i e he => by
      rw [(List.mem_replicate.1 (List.mem_of_getElem? he)).2]
      simp [q2d, hz])
    (fun e he x hx => by
      rw [(List.mem_replicate.1 he).2] at hx
      exact j53 _ x hx) (by rw [List.length_replicate]; omega) (fun C used N t1 h1 ro φ a W ht hh r => by
    obtain ⟨x2, x3⟩ := ht x (by simp [ho, Op.operands])
    obtain ⟨y2, y3⟩ := ht y (by simp [ho, Op.operands])
    have hrx := q1c r x (x3 ▸ hx)
    have hry := q1c r y (y3 ▸ hy)
    rw [x2, ex] at hrx
    rw [y2, ey] at hry
    have hvx := q13 hrx
    have hvy := q13 hry
    obtain ⟨d, i, g2, g3, rfl⟩ := q1v hT
    obtain ⟨e, rfl⟩ := q57 hk
    simp only [q4l] at hE ⊢
    obtain ⟨de, ie, h4, h5, rfl⟩ := q1v hE
    simp only [] at hz h0 hone hb
    obtain ⟨z, h6, h7⟩ := j3v (i := ie) (by intro e0; rw [e0] at hz; simp at hz; omega)
    rw [h7] at hz hone
    have hsz : z.cells.size = ie.size := by simpa using hz
    refine ⟨(Array.range (n.toNat * ie.size) |>.map (z.cells[· % z.cells.size]!)).toList, ?_, ?_, fun e' he x hx => ?_⟩
    · have := run_make W ty e ie z g2 h5 h6 k k' n n hn0 (Int.le_refl _) (by omega) (by omega)
      simp only [execOp, ho, hvx, hvy, Sem.run_bind, this, Result.andThen_ok, Sem.run_pure, List.length_replicate]
      congr 2
    · rw [← hsz, z3x]
      unfold q2d
      simp only []
      rw [h7]
      have := j44 (h := h1) (W := W) (ro := ro) (φ := φ) (l := (List.replicate n.toNat z.cells.toList).flatten) (by
        rw [List.all_eq_true]
        intro x hx
        obtain ⟨e', he', hx⟩ := List.mem_flatten.1 hx
        rw [(List.mem_replicate.1 he').2] at hx
        exact List.all_eq_true.1 hone x hx)
      rwa [List.map_flatten, List.map_replicate] at this
    · rw [(List.mem_replicate.1 he).2] at hx
      simp only [q2d] at hx
      obtain ⟨u, _, rfl⟩ := List.mem_map.1 hx
      exact .c)
  rw [List.length_replicate] at key
  exact key
end

def q0l (L : List (Option Blkd)) : Nat → Option Blkd := fun j => if 1000000 ≤ j then (L[j - 1000000]?).getD none else none
theorem q4n {L : List (Option Blkd)} {j : Nat} {B : Blkd} (h : q0l L j = some B) : 1000000 ≤ j ∧ L[j - 1000000]? = some (some B) := by
  unfold q0l at h
  split at h
  · rename_i hj
    refine ⟨hj, ?_⟩
    cases hq : L[j - 1000000]? with
    | none => rw [hq] at h; simp at h
    | some o => rw [hq] at h; simp at h; rw [h]
  · simp at h
theorem j4x {L : List (Option Blkd)} {i : Nat} : q0l L (1000000 + i) = (L[i]?).getD none := by
  unfold q0l
  rw [if_pos (by omega), Nat.add_sub_cancel_left]
theorem z0y {L : List Blkd} {j : Nat} {B : Blkd} (h : q0l (L.map some) j = some B) : 1000000 ≤ j ∧ L[j - 1000000]? = some B := by
  obtain ⟨h1, h2⟩ := q4n h
  refine ⟨h1, ?_⟩
  rw [List.getElem?_map] at h2
  obtain ⟨B0, h3, h4⟩ := Option.map_eq_some_iff.1 h2
  rw [h3, Option.some.inj h4]
theorem z0x {L : List Blkd} {i : Nat} {B : Blkd} (h : L[i]? = some B) : q0l (L.map some) (1000000 + i) = some B := by
  rw [j4x, List.getElem?_map, h]; rfl
def inL (n : Nat) (j : Nat) : Prop := 1000000 ≤ j ∧ j < 1000000 + n
mutual
def AV.ren (ρ : Nat → Nat) : AV → AV
  | .any => .any
  | .c p => .c p
  | .ref j n i off => .ref (ρ j) n i off
  | .row j n => .row (ρ j) n
  | .pp l => .pp l
  | .agg l => .agg (AV.renL ρ l)
  | .tup l => .tup (AV.renL ρ l)
  | .opt b x => .opt b (x.ren ρ)
  | .fn f l m => .fn f (AV.renL ρ l) (AV.renL ρ m)
def AV.renL (ρ : Nat → Nat) : List AV → List AV
  | [] => []
  | x :: l => x.ren ρ :: AV.renL ρ l
end
theorem q2s (ρ : Nat → Nat) : ∀ (l : List AV), AV.renL ρ l = l.map (AV.ren ρ)
  | [] => rfl
  | x :: l => by rw [AV.renL, q2s ρ l]; rfl
theorem q85 (ρ : Nat → Nat) (l : List PV) : AV.renL ρ (l.map .c) = l.map .c := by
  induction l with
  | nil => rfl
  | cons p l ih => simp only [List.map_cons, AV.renL, AV.ren, ih]
def Blkd.ren (ρ : Nat → Nat) (B : Blkd) : Blkd := ⟨B.row, B.T, B.z, B.elems.map (AV.renL ρ)⟩
theorem q7b (ρ : Nat → Nat) (B : Blkd) : (B.ren ρ).len = B.len := by simp [Blkd.ren, Blkd.len]
theorem z1x (ρ : Nat → Nat) (B : Blkd) : (B.ren ρ).elems.flatten = B.elems.flatten.map (AV.ren ρ) := by
  show (B.elems.map (AV.renL ρ)).flatten = _
  rw [List.map_flatten]
  congr 1
  exact List.map_congr_left fun e _ => q2s ρ e
theorem z1w (ρ : Nat → Nat) (x : AV) : (x.ren ρ).cellish = x.cellish := by cases x <;> rfl
theorem Rep.renTo {W : World} {ro : Nat → Prop} {φ φc : Nat → Value} {h hc : Nat → Option Blkd} {used : Nat → Prop} {ρ : Nat → Nat} (hh : ∀ j B, used j → h (ρ j) = some B → ∃ Bc, hc j = some Bc ∧ Bc.len = B.len ∧ Bc.z = B.z) (hφ : ∀ j Bc, used j → hc j = some Bc → φ (ρ j) = φc j)
    {x : AV} {v : Value} (hr : Rep W ro φc hc x v) : Sc used hc x → Rep W ro φ h (x.ren ρ) v := by
  induction hr with
  | any v => exact fun _ => .any v
  | c hp => exact fun _ => .c hp
  | @ref j n i off v h1 hv =>
    intro hs
    cases hs with
    | ref hu hn =>
    refine .ref h1 fun B hB hl => ?_
    obtain ⟨Bc, h2, h3, h4⟩ := hh j B hu hB
    rw [hφ j Bc hu h2, ← h4]
    exact hv Bc h2 (h3.trans hl)
  | @row j n v h1 hv =>
    intro hs
    cases hs with
    | row hu hn =>
    refine .row h1 fun B hB hl => ?_
    obtain ⟨Bc, h2, h3, h4⟩ := hh j B hu hB
    rw [hφ j Bc hu h2]
    exact hv Bc h2 (h3.trans hl)
  | pp hb hc hp => exact fun _ => .pp hb hc hp
  | agg hl hx ih =>
    intro hs
    cases hs with
    | agg hs =>
    show Rep _ _ _ _ (.agg (AV.renL ρ _)) _
    rw [q2s]
    refine .agg (by simpa using hl) fun j x v h1 h2 => ?_
    rw [List.getElem?_map] at h1
    obtain ⟨x0, h3, rfl⟩ := Option.map_eq_some_iff.1 h1
    exact ih j x0 v h3 h2 (hs x0 (List.mem_of_getElem? h3))
  | tup hl hx ih =>
    intro hs
    cases hs with
    | tup hs =>
    show Rep _ _ _ _ (.tup (AV.renL ρ _)) _
    rw [q2s]
    refine .tup (by simpa using hl) fun j x v h1 h2 => ?_
    rw [List.getElem?_map] at h1
    obtain ⟨x0, h3, rfl⟩ := Option.map_eq_some_iff.1 h1
    exact ih j x0 v h3 h2 (hs x0 (List.mem_of_getElem? h3))
  | opt hx hu ih =>
    intro hs
    cases hs with
    | opt hs => exact .opt (fun hb => ih hb (hs hb)) hu
  | fn hl hx hl' hx' ih ih' =>
    intro hs
    cases hs with
    | fn hs hs' =>
    show Rep _ _ _ _ (.fn _ (AV.renL ρ _) (AV.renL ρ _)) _
    rw [q2s, q2s]
    refine .fn (by simpa using hl) (fun j x v h1 h2 => ?_) (by simpa using hl') (fun j x v h1 h2 => ?_)
    · rw [List.getElem?_map] at h1
      obtain ⟨x0, h3, rfl⟩ := Option.map_eq_some_iff.1 h1
      exact ih j x0 v h3 h2 (hs x0 (List.mem_of_getElem? h3))
    · rw [List.getElem?_map] at h1
      obtain ⟨x0, h3, rfl⟩ := Option.map_eq_some_iff.1 h1
      exact ih' j x0 v h3 h2 (hs' x0 (List.mem_of_getElem? h3))
theorem Rep.renFrom {W : World} {ro : Nat → Prop} {φ φc : Nat → Value} {h hc : Nat → Option Blkd} {ρ : Nat → Nat} (hh : ∀ j Bc, hc j = some Bc → ∃ B, h (ρ j) = some B ∧ B.len = Bc.len ∧ B.z = Bc.z) (hφ : ∀ j Bc, hc j = some Bc → φc j = φ (ρ j))
    {y : AV} {v : Value} (hr : Rep W ro φ h y v) : ∀ x : AV, x.ren ρ = y → Rep W ro φc hc x v := by
  induction hr with
  | any v => intro x e; cases x <;> simp [AV.ren] at e; exact .any v
  | c hp => intro x e; cases x <;> simp [AV.ren] at e; subst e; exact .c hp
  | @ref j n i off v h1 hv =>
    intro x e
    cases x <;> simp [AV.ren] at e
    obtain ⟨rfl, rfl, rfl, rfl⟩ := e
    refine .ref h1 fun Bc hB hl => ?_
    obtain ⟨B, h2, h3, h4⟩ := hh _ Bc hB
    rw [hφ _ _ hB, ← h4]
    exact hv B h2 (h3.trans hl)
  | @row j n v h1 hv =>
    intro x e
    cases x <;> simp [AV.ren] at e
    obtain ⟨rfl, rfl⟩ := e
    refine .row h1 fun Bc hB hl => ?_
    obtain ⟨B, h2, h3, h4⟩ := hh _ Bc hB
    rw [hφ _ _ hB]
    exact hv B h2 (h3.trans hl)
  | pp hb hc hp => intro x e; cases x <;> simp [AV.ren] at e; subst e; exact .pp hb hc hp
  | agg hl hx ih =>
    intro x e
    cases x <;> simp [AV.ren] at e
    subst e
    exact .agg (by rw [hl, q2s]; simp) fun j x v h1 h2 => ih j (x.ren ρ) v (by rw [q2s, List.getElem?_map, h1]; rfl) h2 x rfl
  | tup hl hx ih =>
    intro x e
    cases x <;> simp [AV.ren] at e
    subst e
    exact .tup (by rw [hl, q2s]; simp) fun j x v h1 h2 => ih j (x.ren ρ) v (by rw [q2s, List.getElem?_map, h1]; rfl) h2 x rfl
  | opt hx hu ih =>
    intro x e
    cases x <;> simp [AV.ren] at e
    obtain ⟨rfl, rfl⟩ := e
    exact .opt (fun hb => ih hb _ rfl) hu
  | fn hl hx hl' hx' ih ih' =>
    intro x e
    cases x <;> simp [AV.ren] at e
    obtain ⟨rfl, rfl, rfl⟩ := e
    exact .fn (by rw [hl, q2s]; simp) (fun j x v h1 h2 => ih j (x.ren ρ) v (by rw [q2s, List.getElem?_map, h1]; rfl) h2 x rfl) (by rw [hl', q2s]; simp) (fun j x v h1 h2 => ih' j (x.ren ρ) v (by rw [q2s, List.getElem?_map, h1]; rfl) h2 x rfl)
theorem RepL.renFrom {W : World} {ro : Nat → Prop} {φ φc : Nat → Value} {h hc : Nat → Option Blkd} {ρ : Nat → Nat} (hh : ∀ j Bc, hc j = some Bc → ∃ B, h (ρ j) = some B ∧ B.len = Bc.len ∧ B.z = Bc.z) (hφ : ∀ j Bc, hc j = some Bc → φc j = φ (ρ j))
    {l : List AV} {vs : List Value} (hr : RepL W ro φ h (AV.renL ρ l) vs) : RepL W ro φc hc l vs :=
  ⟨by rw [hr.1, q2s]; simp, fun j x v h1 h2 => (hr.2 j (x.ren ρ) v (by rw [q2s, List.getElem?_map, h1]; rfl) h2).renFrom hh hφ x rfl⟩
theorem Sc.renTo {h hc : Nat → Option Blkd} {used used' : Nat → Prop} {ρ : Nat → Nat} (hu : ∀ j, used j → used' (ρ j)) (hh : ∀ j B, used j → h (ρ j) = some B → ∃ Bc, hc j = some Bc ∧ Bc.len = B.len) {x : AV} (hs : Sc used hc x) : Sc used' h (x.ren ρ) := by
  induction hs with
  | any => exact .any
  | c => exact .c
  | ref hj hn => exact .ref (hu _ hj) fun B hB => by obtain ⟨Bc, h1, h2⟩ := hh _ B hj hB; rw [← h2]; exact hn Bc h1
  | row hj hn => exact .row (hu _ hj) fun B hB => by obtain ⟨Bc, h1, h2⟩ := hh _ B hj hB; rw [← h2]; exact hn Bc h1
  | pp => exact .pp
  | agg hx ih =>
    show Sc _ _ (.agg (AV.renL ρ _))
    rw [q2s]
    refine .agg fun x hx => ?_
    obtain ⟨x0, h1, rfl⟩ := List.mem_map.1 hx
    exact ih x0 h1
  | tup hx ih =>
    show Sc _ _ (.tup (AV.renL ρ _))
    rw [q2s]
    refine .tup fun x hx => ?_
    obtain ⟨x0, h1, rfl⟩ := List.mem_map.1 hx
    exact ih x0 h1
  | opt hx ih => exact .opt ih
  | fn hx hx' ih ih' =>
    show Sc _ _ (.fn _ (AV.renL ρ _) (AV.renL ρ _))
    rw [q2s, q2s]
    refine .fn (fun x hx => ?_) fun x hx => ?_
    · obtain ⟨x0, h1, rfl⟩ := List.mem_map.1 hx
      exact ih x0 h1
    · obtain ⟨x0, h1, rfl⟩ := List.mem_map.1 hx
      exact ih' x0 h1
theorem BRep.renTo {W : World} {ro : Nat → Prop} {φ φc : Nat → Value} {h hc : Nat → Option Blkd} {used : Nat → Prop} {ρ : Nat → Nat} (hh : ∀ j B, used j → h (ρ j) = some B → ∃ Bc, hc j = some Bc ∧ Bc.len = B.len ∧ Bc.z = B.z) (hφ : ∀ j Bc, used j → hc j = some Bc → φ (ρ j) = φc j)
    {j k : Nat} {B : Blkd} (hr : BRep W ro φc hc j B) (hs : ∀ e ∈ B.elems, ScL used hc e) (hk : φ k = φc j) : BRep W ro φ h k (B.ren ρ) := by
  obtain ⟨h1, h2, vs, h3, h4⟩ := hr
  refine ⟨fun i e he => ?_, fun e he x hx => ?_, vs, ?_, ?_⟩
  · change (B.elems.map (AV.renL ρ))[i]? = some e at he
    rw [List.getElem?_map] at he
    obtain ⟨e0, h5, rfl⟩ := Option.map_eq_some_iff.1 he
    rw [q2s, List.length_map]
    exact h1 i e0 h5
  · change e ∈ B.elems.map (AV.renL ρ) at he
    obtain ⟨e0, h5, rfl⟩ := List.mem_map.1 he
    rw [q2s] at hx
    obtain ⟨x0, h6, rfl⟩ := List.mem_map.1 hx
    rw [z1w]
    exact h2 e0 h5 x0 h6
  · rw [z1x]
    refine ⟨by rw [List.length_map]; exact h3.1, fun k x v hx hv => ?_⟩
    rw [List.getElem?_map] at hx
    obtain ⟨x0, h5, rfl⟩ := Option.map_eq_some_iff.1 hx
    obtain ⟨e, he, hxe⟩ := List.mem_flatten.1 (List.mem_of_getElem? h5)
    exact (h3.2 k x0 v h5 hv).renTo hh hφ (hs e he x0 hxe)
  · rw [hk, q7b]
    exact h4
theorem BRep.renFrom {W : World} {ro : Nat → Prop} {φ φc : Nat → Value} {h hc : Nat → Option Blkd} {ρ : Nat → Nat} (hh : ∀ j Bc, hc j = some Bc → ∃ B, h (ρ j) = some B ∧ B.len = Bc.len ∧ B.z = Bc.z) (hφ : ∀ j Bc, hc j = some Bc → φc j = φ (ρ j))
    {j k : Nat} {B : Blkd} (hr : BRep W ro φ h k (B.ren ρ)) (hk : φc j = φ k) : BRep W ro φc hc j B := by
  obtain ⟨h1, h2, vs, h3, h4⟩ := hr
  refine ⟨fun i e he => ?_, fun e he x hx => ?_, vs, ?_, ?_⟩
  · have := h1 i (AV.renL ρ e) (by show (B.elems.map (AV.renL ρ))[i]? = _; rw [List.getElem?_map, he]; rfl)
    rw [q2s, List.length_map] at this
    exact this
  · have := h2 (AV.renL ρ e) (List.mem_map.2 ⟨e, he, rfl⟩) (x.ren ρ) (by rw [q2s]; exact List.mem_map.2 ⟨x, hx, rfl⟩)
    rwa [z1w] at this
  · rw [z1x, ← q2s] at h3
    exact h3.renFrom hh hφ
  · rw [hk]
    rw [q7b] at h4
    exact h4
structure HOk (W : World) (ro : Nat → Prop) (φ : Nat → Value) (h : Nat → Option Blkd) : Prop where
  hp : ∀ j B, h j = some B → BRep W ro φ h j B
  inj : ∀ j k B B' b, h j = some B → h k = some B' → j ≠ k → q0y (φ j) = some b → q0y (φ k) ≠ some b
  own : ∀ j B b, h j = some B → q0y (φ j) = some b → ¬ ro b
def zOk : List Blkd → List (Option Blkd) → Prop
  | [], _ => True
  | B :: L, some B' :: L' => B'.z = B.z ∧ zOk L L'
  | _ :: L, none :: L' => zOk L L'
  | _ :: _, [] => False
theorem j3u : ∀ (L : List Blkd) (L' : List (Option Blkd)), zOk L L' → L.length ≤ L'.length
  | [], _, _ => Nat.zero_le _
  | B :: L, some B' :: L', h => by simpa using j3u L L' h.2
  | B :: L, none :: L', h => by simpa using j3u L L' h
theorem zOk_at : ∀ (L : List Blkd) (L' : List (Option Blkd)), zOk L L' → ∀ (i : Nat) (B B' : Blkd), L[i]? = some B → L'[i]? = some (some B') → B'.z = B.z
  | [], _, _, i, B, B', h1, _ => by simp at h1
  | B :: L, some B' :: L', h, 0, _, _, h1, h2 => by simp at h1 h2; subst h1 h2; exact h.1
  | B :: L, some B' :: L', h, i + 1, C, C', h1, h2 => zOk_at L L' h.2 i C C' (by simpa using h1) (by simpa using h2)
  | B :: L, none :: L', h, 0, _, _, h1, h2 => by simp at h2
  | B :: L, none :: L', h, i + 1, C, C', h1, h2 => zOk_at L L' h i C C' (by simpa using h1) (by simpa using h2)
def ScM (L' : List (Option Blkd)) (y : AV) : Prop := Sc (inL L'.length) (q0l L') y ∧ ∀ b ∈ L', ∀ B, b = some B → ∀ e ∈ B.elems, ScL (inL L'.length) (q0l L') e
structure ToldM (P : Program) (f : FuncId) (args : List AV) (L : List Blkd) (L' : List (Option Blkd)) (y : AV) : Prop where
  enters : q0n P f
  zs : zOk L L'
  sc : ScM L' y
  out : ∀ (W : World) (ro : Nat → Prop) (φ : Nat → Value) (vs : List Value), (∀ b, ro b → b < W.heap.size) → GOk P W ro → RepL W ro φ (q0l (L.map some)) args vs → HOk W ro φ (q0l (L.map some)) →
    Calls P f vs.toArray W fun e W' => ∃ v ro' φ', e = .returned v ∧ Keeps (fun b => ∃ j B, q0l (L.map some) j = some B ∧ q0y (φ j) = some b) W W' ∧ (∀ b, ro b → ro' b) ∧
      (∀ b, ro' b → (ro b ∨ W.heap.size ≤ b ∨ ∃ j B, q0l (L.map some) j = some B ∧ q0y (φ j) = some b) ∧ b < W'.heap.size) ∧ Rep W' ro' φ' (q0l L') y v ∧ HOk W' ro' φ' (q0l L') ∧
      Goes (inL L.length) φ φ' (q0l (L.map some)) (q0l L') ∧ (∀ j B b, q0l L' j = some B → q0y (φ' j) = some b → W.heap.size ≤ b ∨ ∃ j B, q0l (L.map some) j = some B ∧ q0y (φ j) = some b)
def rho (ks : List Nat) (ℓ : Nat) (j : Nat) : Nat := (ks[j - 1000000]?).getD (ℓ + (j - 1000000 - ks.length))
theorem j3n {ks : List Nat} {ℓ i k : Nat} (h : ks[i]? = some k) : rho ks ℓ (1000000 + i) = k := by
  unfold rho
  rw [Nat.add_sub_cancel_left, h]; rfl
theorem j7o {ks : List Nat} {ℓ i : Nat} (h : ks.length ≤ i) : rho ks ℓ (1000000 + i) = ℓ + (i - ks.length) := by
  unfold rho
  rw [Nat.add_sub_cancel_left, List.getElem?_eq_none h]; rfl
def wrM (ρ : Nat → Nat) : Nat → List (Option Blkd) → List (Nat × Option Blkd)
  | _, [] => []
  | i, b :: l => (ρ i, b.map (Blkd.ren ρ)) :: wrM ρ (i + 1) l
def q2w (h : Nat → Option Blkd) (ρ : Nat → Nat) : List Nat → List Blkd → Prop
  | [], [] => True
  | k :: ks, B :: L => h k = some (B.ren ρ) ∧ q2w h ρ ks L
  | _, _ => False
theorem j4y {h : Nat → Option Blkd} {ρ : Nat → Nat} : ∀ (ks : List Nat) (L : List Blkd), q2w h ρ ks L → ks.length = L.length ∧ ∀ (i : Nat) (B : Blkd), L[i]? = some B → ∃ k, ks[i]? = some k ∧ h k = some (B.ren ρ)
  | [], [], _ => ⟨rfl, fun i B h => by simp at h⟩
  | k :: ks, B :: L, hh => by
    obtain ⟨h1, h2⟩ := j4y ks L hh.2
    refine ⟨by simp [h1], fun i C hC => ?_⟩
    cases i with
    | zero => simp at hC; subst hC; exact ⟨k, rfl, hh.1⟩
    | succ i => exact h2 i C (by simpa using hC)
theorem wrM_ne {ρ : Nat → Nat} {k : Nat} : ∀ (L' : List (Option Blkd)) (m : Nat) (h : Nat → Option Blkd), (∀ i, i < L'.length → ρ (m + i) ≠ k) → wrs (wrM ρ m L') h k = h k
  | [], _, _, _ => rfl
  | b :: l, m, h, hne => by
    show wrs (wrM ρ (m + 1) l) (upd h (ρ m) _) k = h k
    rw [wrM_ne l (m + 1) _ fun i hi => by rw [Nat.add_assoc, Nat.add_comm 1 i]; exact hne (i + 1) (by simpa using hi)]
    exact q1p _ _ fun e => hne 0 (by simp) e.symm
theorem wrM_at {ρ : Nat → Nat} : ∀ (L' : List (Option Blkd)) (m : Nat) (h : Nat → Option Blkd), (∀ i i', i < L'.length → i' < L'.length → ρ (m + i) = ρ (m + i') → i = i') → ∀ i, i < L'.length → wrs (wrM ρ m L') h (ρ (m + i)) = ((L'[i]?).getD none).map (Blkd.ren ρ)
  | [], _, _, _, i, hi => by simp at hi
  | b :: l, m, h, hinj, 0, _ => by
    show wrs (wrM ρ (m + 1) l) (upd h (ρ m) _) (ρ m) = _
    rw [wrM_ne l (m + 1) _ fun i hi e => by
      have := hinj (i + 1) 0 (by simpa using hi) (by simp) (by rw [show m + (i + 1) = m + 1 + i from by omega]; exact e)
      omega, q1a]
    rfl
  | b :: l, m, h, hinj, i + 1, hi => by
    show wrs (wrM ρ (m + 1) l) (upd h (ρ m) _) (ρ (m + (i + 1))) = _
    have := wrM_at (ρ := ρ) l (m + 1) (upd h (ρ m) (b.map (Blkd.ren ρ))) (fun j j' hj hj' e => by
      have := hinj (j + 1) (j' + 1) (by simpa using hj) (by simpa using hj') (by rw [show m + (j + 1) = m + 1 + j from by omega, show m + (j' + 1) = m + 1 + j' from by omega]; exact e)
      omega) i (by simpa using hi)
    rw [show m + (i + 1) = m + 1 + i from by omega, this]
    simp
theorem j3g {h h1 : Nat → Option Blkd} {ρ : Nat → Nat} : ∀ (ks : List Nat) (L : List Blkd), (∀ k ∈ ks, h1 k = h k) → q2w h ρ ks L → q2w h1 ρ ks L
  | [], [], _, _ => trivial
  | k :: ks, _ :: L, hs, hh => ⟨(hs k (by simp)).trans hh.1, j3g ks L (fun k hk => hs k (by simp [hk])) hh.2⟩
theorem j9l {P : Program} {o : Oper} {ℓ : Nat} {C : Ctx P} {used : Nat → Prop} {N : Nat} {t1 : Nat → AV} {h1 : Nat → Option Blkd} {ro : Nat → Prop} {φ : Nat → Value} {a : Act} {W : World} (r : Rel C used N t1 h1 ro φ a W) {f : FuncId} {args : List AV} {y : AV} {ks : List Nat} {L : List Blkd} {L' : List (Option Blkd)}
    (hL : q2w h1 (rho ks ℓ) ks L) (hnd : ks.Nodup) (hu : ∀ j, ℓ ≤ j → j < ℓ + (L'.length - L.length) → ¬ used j) (hn8 : L'.length ≤ L.length + 8) (hd : ∀ d, o.dst = some d → d < N) (hT : ToldM P f args L L' y) {vs : List Value} (hall : RepL W ro φ h1 (AV.renL (rho ks ℓ) args) vs)
    {K : Act → World → Prop} {Q : Exit → Act → World → Prop} (hK : ∀ a' W' ro' φ', Rel C (fun j => used j ∨ lab ℓ j) N (putd o.dst (y.ren (rho ks ℓ)) t1) (wrs (wrM (rho ks ℓ) 1000000 L') h1) ro' φ' a' W' → K a' W') : o.upon P a K Q (.ok (.enter f vs.toArray) W) := by
  obtain ⟨hE, hz, ⟨hsy, hsL⟩, hT⟩ := hT
  obtain ⟨hkl, hLat⟩ := j4y ks L hL
  have hLL := j3u L L' hz
  obtain ⟨ρ, hρ⟩ : ∃ ρ, ρ = rho ks ℓ := ⟨_, rfl⟩
  rw [← hρ] at hL hLat hall hK
  -- the lent blocks, as the caller knows them
  have hlent : ∀ j Bc, q0l (L.map some) j = some Bc → ∃ i k, j = 1000000 + i ∧ i < L.length ∧ L[i]? = some Bc ∧ ks[i]? = some k ∧ ρ j = k ∧ h1 k = some (Bc.ren ρ) := by
    intro j Bc hj
    obtain ⟨h2, h3⟩ := z0y hj
    obtain ⟨k, h4, h5⟩ := hLat _ Bc h3
    refine ⟨j - 1000000, k, by omega, (List.getElem?_eq_some_iff.1 h3).1, h3, h4, ?_, ?_⟩
    · have := j3n (ℓ := ℓ) h4
      rw [hρ]
      rwa [show 1000000 + (j - 1000000) = j from by omega] at this
    · exact h5
  have hold : ∀ i, i < ks.length → ∃ k, ks[i]? = some k ∧ ρ (1000000 + i) = k ∧ used k := by
    intro i hi
    obtain ⟨B, hB⟩ : ∃ B, L[i]? = some B := ⟨L[i], List.getElem?_eq_getElem (by omega)⟩
    obtain ⟨k, h4, h5⟩ := hLat i B hB
    exact ⟨k, h4, by rw [hρ]; exact j3n h4, (r.scH k _ h5).1⟩
  have hnew : ∀ i, ks.length ≤ i → i < L'.length → lab ℓ (ρ (1000000 + i)) ∧ ¬ used (ρ (1000000 + i)) := by
    intro i h2 h3
    rw [hρ, j7o h2]
    unfold lab
    exact ⟨by omega, hu _ (by omega) (by omega)⟩
  have hinj : ∀ i i', i < L'.length → i' < L'.length → ρ (1000000 + i) = ρ (1000000 + i') → i = i' := by
    intro i i' h2 h3 e
    rcases Nat.lt_or_ge i ks.length with h4 | h4 <;> rcases Nat.lt_or_ge i' ks.length with h5 | h5
    · obtain ⟨k, g1, g2, _⟩ := hold i h4
      obtain ⟨k', g3, g4, _⟩ := hold i' h5
      rw [g2, g4] at e
      subst e
      exact (List.getElem?_inj h4 hnd).1 (g1.trans g3.symm)
    · obtain ⟨k, g1, g2, g3⟩ := hold i h4
      have := (hnew i' h5 h3).2
      rw [← e, g2] at this
      exact absurd g3 this
    · obtain ⟨k, g1, g2, g3⟩ := hold i' h5
      have := (hnew i h4 h2).2
      rw [e, g2] at this
      exact absurd g3 this
    · rw [hρ, j7o h4, j7o h5] at e
      omega
  have hren1 : ∀ j Bc, q0l (L.map some) j = some Bc → ∃ B, h1 (ρ j) = some B ∧ B.len = Bc.len ∧ B.z = Bc.z := by
    intro j Bc hj
    obtain ⟨i, k, _, _, _, _, h6, h7⟩ := hlent j Bc hj
    exact ⟨_, by rw [h6]; exact h7, q7b _ _, rfl⟩
  have hlt : ∀ b, (∃ j B, q0l (L.map some) j = some B ∧ q0y (φ (ρ j)) = some b) → ∃ i B, i < L.length ∧ h1 (ρ (1000000 + i)) = some B ∧ q0y (φ (ρ (1000000 + i))) = some b := by
    rintro b ⟨j, B, hj, hb⟩
    obtain ⟨i, k, rfl, h3, _, _, h6, h7⟩ := hlent j B hj
    exact ⟨i, _, h3, by rw [h6]; exact h7, hb⟩
  refine (hT W ro (fun j => φ (ρ j)) _ r.rolt r.gok (hall.renFrom hren1 fun _ _ _ => rfl) ⟨fun j B hj => ?_, fun j k B B' b h2 h3 h4 h5 => ?_, fun j B b h2 h3 => ?_⟩).mono ?_
  · obtain ⟨i, k, _, _, _, _, h6, h7⟩ := hlent j B hj
    have := r.hp k _ h7
    rw [← h6] at this
    exact this.renFrom hren1 (fun _ _ _ => rfl) rfl
  · obtain ⟨i, k1, rfl, g1, _, _, g2, g3⟩ := hlent j B h2
    obtain ⟨i', k2, rfl, g4, _, _, g5, g6⟩ := hlent k B' h3
    refine r.inj _ _ _ _ b (by rw [g2]; exact g3) (by rw [g5]; exact g6) (fun e => ?_) h5
    have := hinj i i' (by omega) (by omega) e
    omega
  · obtain ⟨i, k, _, _, _, _, h6, h7⟩ := hlent j B h2
    exact (r.own _ _ b (by rw [h6]; exact h7) h3).1
  · rintro e W' ⟨v, ro', φ', rfl, hk, q1, q2, q3, hok, hgo, hown⟩
    obtain ⟨h2, hh2⟩ : ∃ h2, h2 = wrs (wrM ρ 1000000 L') h1 := ⟨_, rfl⟩
    have hat : ∀ i, i < L'.length → h2 (ρ (1000000 + i)) = ((L'[i]?).getD none).map (Blkd.ren ρ) := fun i hi => by rw [hh2]; exact wrM_at L' 1000000 h1 hinj i hi
    have hne : ∀ k, (∀ i, i < L'.length → ρ (1000000 + i) ≠ k) → h2 k = h1 k := fun k hk => by rw [hh2]; exact wrM_ne L' 1000000 h1 hk
    obtain ⟨φ2, p1, p2⟩ : ∃ φ2 : Nat → Value, (∀ i, i < L'.length → φ2 (ρ (1000000 + i)) = φ' (1000000 + i)) ∧ ∀ k, (∀ i, i < L'.length → ρ (1000000 + i) ≠ k) → φ2 k = φ k := by
      classical
      refine ⟨fun k => if hx : ∃ i, i < L'.length ∧ ρ (1000000 + i) = k then φ' (1000000 + hx.choose) else φ k, fun i hi => ?_, fun k hk => ?_⟩
      · have hx : ∃ i', i' < L'.length ∧ ρ (1000000 + i') = ρ (1000000 + i) := ⟨i, hi, rfl⟩
        show (if hx : ∃ i', i' < L'.length ∧ ρ (1000000 + i') = ρ (1000000 + i) then φ' (1000000 + hx.choose) else _) = _
        rw [dif_pos hx, hinj _ i hx.choose_spec.1 hi hx.choose_spec.2]
      · exact dif_neg fun ⟨i, h5, h6⟩ => hk i h5 h6
    have hcase : ∀ k B, h2 k = some B → (∃ i Bc, i < L'.length ∧ q0l L' (1000000 + i) = some Bc ∧ k = ρ (1000000 + i) ∧ B = Bc.ren ρ ∧ φ2 k = φ' (1000000 + i)) ∨ ((∀ i, i < L'.length → ρ (1000000 + i) ≠ k) ∧ h1 k = some B ∧ φ2 k = φ k) := by
      intro k B hB
      by_cases hx : ∃ i, i < L'.length ∧ ρ (1000000 + i) = k
      · obtain ⟨i, h5, rfl⟩ := hx
        rw [hat i h5] at hB
        obtain ⟨Bc, h6, h7⟩ := Option.map_eq_some_iff.1 hB
        exact .inl ⟨i, Bc, h5, by rw [j4x]; exact h6, rfl, h7.symm, p1 i h5⟩
      · have hk' : ∀ i, i < L'.length → ρ (1000000 + i) ≠ k := fun i h5 h6 => hx ⟨i, h5, h6⟩
        rw [hne k hk'] at hB
        exact .inr ⟨hk', hB, p2 k hk'⟩
    have hw : ∀ b, ro b → W'.heap[b]? = W.heap[b]? := fun b hb => hk.block b (r.rolt b hb) fun e => by
      obtain ⟨i, B, _, h5, h6⟩ := hlt b e
      exact (r.own _ B b h5 h6).1 hb
    have hgx : ∀ i Bc, i < L'.length → q0l L' (1000000 + i) = some Bc → used (ρ (1000000 + i)) → i < L.length ∧ ∃ B0, h1 (ρ (1000000 + i)) = some B0 ∧ (B0.len < (Bc.ren ρ).len ∨ (B0.len = (Bc.ren ρ).len ∧ B0.z = (Bc.ren ρ).z ∧ φ' (1000000 + i) = φ (ρ (1000000 + i)))) := by
      intro i Bc hi hB huj
      have hil : i < L.length := by
        rcases Nat.lt_or_ge i ks.length with h5 | h5
        · omega
        · exact absurd huj (hnew i h5 hi).2
      obtain ⟨B0, h5, h6⟩ := hgo (1000000 + i) Bc ⟨by omega, by omega⟩ hB
      obtain ⟨i', k, h7, _, _, _, h10, h11⟩ := hlent _ B0 h5
      refine ⟨hil, _, by rw [h10]; exact h11, ?_⟩
      rw [q7b, q7b]
      exact h6
    have hg : Goes used φ φ2 h1 h2 := by
      intro j B' huj hB'
      rcases hcase j B' hB' with ⟨i, Bc, h5, h6, rfl, rfl, h7⟩ | ⟨_, h5, h6⟩
      · obtain ⟨_, B0, h8, h9⟩ := hgx i Bc h5 h6 huj
        rw [h7]
        exact ⟨B0, h8, h9⟩
      · exact ⟨B', h5, .inr ⟨rfl, rfl, h6⟩⟩
    have hsg : ∀ j B1, used j → h2 j = some B1 → ∃ B0, h1 j = some B0 ∧ B0.len ≤ B1.len := by
      intro j B1 huj h3
      obtain ⟨B0, h4, h5⟩ := hg j B1 huj h3
      exact ⟨B0, h4, by rcases h5 with h5 | h5 <;> omega⟩
    have hto : ∀ j B, inL L'.length j → h2 (ρ j) = some B → ∃ Bc, q0l L' j = some Bc ∧ Bc.len = B.len ∧ Bc.z = B.z := by
      rintro j B ⟨h5, h6⟩ hB
      obtain ⟨i, rfl⟩ : ∃ i, j = 1000000 + i := ⟨j - 1000000, by omega⟩
      rw [hat i (by omega)] at hB
      obtain ⟨Bc, h7, h8⟩ := Option.map_eq_some_iff.1 hB
      exact ⟨Bc, by rw [j4x]; exact h7, by rw [← h8, q7b], by rw [← h8]; rfl⟩
    have hφto : ∀ j Bc, inL L'.length j → q0l L' j = some Bc → φ2 (ρ j) = φ' j := by
      rintro j Bc ⟨h5, h6⟩ _
      obtain ⟨i, rfl⟩ : ∃ i, j = 1000000 + i := ⟨j - 1000000, by omega⟩
      exact p1 i (by omega)
    have huto : ∀ j, inL L'.length j → used (ρ j) ∨ lab ℓ (ρ j) := by
      rintro j ⟨h5, h6⟩
      obtain ⟨i, rfl⟩ : ∃ i, j = 1000000 + i := ⟨j - 1000000, by omega⟩
      rcases Nat.lt_or_ge i ks.length with h7 | h7
      · obtain ⟨k, _, h8, h9⟩ := hold i h7
        exact .inl (by rw [h8]; exact h9)
      · exact .inr (hnew i h7 (by omega)).1
    have hsLe : ∀ j B, q0l L' j = some B → ∀ e ∈ B.elems, ScL (inL L'.length) (q0l L') e := fun j B hj => hsL _ (List.mem_of_getElem? (q4n hj).2) B rfl
    have hapart : ∀ b j B, (∀ i, i < L'.length → ρ (1000000 + i) ≠ j) → h1 j = some B → q0y (φ j) = some b → ¬ ∃ j B, q0l (L.map some) j = some B ∧ q0y (φ (ρ j)) = some b := by
      intro b j B h5 h6 h7 e
      obtain ⟨i, B2, h8, h9, h10⟩ := hlt b e
      exact r.inj _ j B2 B b h9 h6 (h5 i (by omega)) h10 h7
    have rel : Rel C (fun j => used j ∨ lab ℓ j) N t1 h2 ro' φ2 a W' := by
      refine ⟨⟨hk.os.trans r.keep.os, hk.tape.trans r.keep.tape, hk.output.trans r.keep.output, Nat.le_trans r.keep.size hk.size, fun b hb hm => ?_⟩, r.defers, r.size,
        fun m => (r.tm m).map (r.scT m) hw q1 hg, fun j B1 h3 => ?_, fun j j' B1 B2 b h3 h4 h5 h6 h7 => ?_, fun j B1 b h3 hb => ?_, fun b hb => (q2 b hb).2, fun b hb => q1 b (r.ro0 b hb), fun b hb => ?_, fun m => (r.scT m).map (fun _ h => .inl h) hsg, fun j B1 h3 => ?_, fun j n hn => ⟨(r.lent j n hn).1, .inl (r.lent j n hn).2.1, fun B1 h3 => ?_⟩, r.glob⟩
      · rw [hk.block b (Nat.lt_of_lt_of_le hb r.keep.size) fun e => by
          obtain ⟨i, B, _, h5, h6⟩ := hlt b e
          exact hm ((r.own _ B b h5 h6).2 hb)]
        exact r.keep.block b hb hm
      · rcases hcase j B1 h3 with ⟨i, Bc, h5, h6, rfl, rfl, h7⟩ | ⟨h4, h5, h6⟩
        · exact (hok.hp _ Bc h6).renTo hto hφto (hsLe _ Bc h6) h7
        · exact (r.hp j B1 h5).map (r.scH j B1 h5).2 hw q1 hg h6 fun b hb => hk.block b (r.blk_lt h5 hb) (hapart b j B1 h4 h5 hb)
      · rcases hcase j B1 h3 with ⟨i, Bc, g1, g2, rfl, rfl, g3⟩ | ⟨g1, g2, g3⟩ <;> rcases hcase j' B2 h4 with ⟨i', Bc', g4, g5, rfl, rfl, g6⟩ | ⟨g4, g5, g6⟩
        · rw [g3] at h6
          rw [g6] at h7
          exact hok.inj _ _ Bc Bc' b g2 g5 (fun e => h5 (by rw [e])) h6 h7
        · rw [g3] at h6
          rw [g6] at h7
          rcases hown _ Bc b g2 h6 with h8 | h8
          · have := r.blk_lt g5 h7
            omega
          · exact hapart b j' B2 g4 g5 h7 h8
        · rw [g3] at h6
          rw [g6] at h7
          rcases hown _ Bc' b g5 h7 with h8 | h8
          · have := r.blk_lt g2 h6
            omega
          · exact hapart b j B1 g1 g2 h6 h8
        · rw [g3] at h6
          rw [g6] at h7
          exact r.inj j j' B1 B2 b g2 g5 h5 h6 h7
      · rcases hcase j B1 h3 with ⟨i, Bc, g1, g2, rfl, rfl, g3⟩ | ⟨g1, g2, g3⟩
        · rw [g3] at hb
          refine ⟨hok.own _ Bc b g2 hb, fun hlt0 => ?_⟩
          rcases hown _ Bc b g2 hb with h8 | h8
          · have := r.keep.size
            omega
          · obtain ⟨i, B, _, h5, h6⟩ := hlt b h8
            exact (r.own _ B b h5 h6).2 hlt0
        · rw [g3] at hb
          refine ⟨fun hr => ?_, (r.own j B1 b g2 hb).2⟩
          rcases (q2 b hr).1 with h6 | h6 | h6
          · exact (r.own j B1 b g2 hb).1 h6
          · have := r.blk_lt g2 hb
            omega
          · exact hapart b j B1 g1 g2 hb h6
      · rcases (q2 b hb).1 with h6 | h6 | h6
        · exact r.ronew b h6
        · exact .inr (.inl (Nat.le_trans r.keep.size h6))
        · obtain ⟨i, B, _, h5, h7⟩ := hlt b h6
          rcases Nat.lt_or_ge b C.W0.heap.size with h8 | h8
          · exact .inr (.inr ((r.own _ B b h5 h7).2 h8))
          · exact .inr (.inl h8)
      · rcases hcase j B1 h3 with ⟨i, Bc, g1, g2, rfl, rfl, g3⟩ | ⟨g1, g2, g3⟩
        · refine ⟨huto _ ⟨by omega, by omega⟩, fun e he => ?_⟩
          change e ∈ Bc.elems.map (AV.renL ρ) at he
          obtain ⟨e0, h5, rfl⟩ := List.mem_map.1 he
          intro x hx
          rw [q2s] at hx
          obtain ⟨x0, h6, rfl⟩ := List.mem_map.1 hx
          exact (hsLe _ Bc g2 e0 h5 x0 h6).renTo huto fun j B h7 h8 => by obtain ⟨Bd, h9, h10, _⟩ := hto j B h7 h8; exact ⟨Bd, h9, h10⟩
        · exact ⟨.inl (r.scH j B1 g2).1, fun e he x hx => ((r.scH j B1 g2).2 e he x hx).map (fun _ h => .inl h) hsg⟩
      · rcases hcase j B1 h3 with ⟨i, Bc, g1, g2, rfl, rfl, g3⟩ | ⟨g1, g2, g3⟩
        · obtain ⟨_, B0, h8, h9⟩ := hgx i Bc g1 g2 (r.lent _ n hn).2.1
          obtain ⟨h5, h6⟩ := (r.lent _ n hn).2.2 B0 h8
          rcases h9 with h9 | ⟨h9, _, h10⟩
          · exact ⟨by omega, fun h => by omega⟩
          · exact ⟨by omega, fun h => by rw [g3, h10]; exact h6 (by omega)⟩
        · rw [g3]
          exact (r.lent j n hn).2.2 B1 g2
    subst hh2
    exact hK _ _ ro' φ2 (rel.put (q3.renTo hto hφto hsy) (hsy.renTo huto fun j B h7 h8 => by obtain ⟨Bd, h9, h10, _⟩ := hto j B h7 h8; exact ⟨Bd, h9, h10⟩) hd)
theorem J_callM {P : Program} {o : Oper} {ℓ : Nat} {t : Nat → AV} {h : Nat → Option Blkd} (c : Operand) (f : FuncId) (fs cs args : List AV) (xs : Array Operand) (tys : Array TypeId) (y : AV) (ks : List Nat) (L : List Blkd) (L' : List (Option Blkd)) (ho : o.op = .call { callee := .value c, args := xs, argTypes := tys }) (hc : okx t c) (ec : ev t c = .fn (.func f) fs cs)
    (hx : ∀ x ∈ xs, okx t x) (hL : q2w h (rho ks ℓ) ks L) (hnd : ks.Nodup) (hn8 : L'.length ≤ L.length + 8) (ha : fs ++ xs.toList.map (ev t) ++ cs = AV.renL (rho ks ℓ) args) (hT : ToldM P f args L L' y) :
    J P o ℓ t h ⟨y.ren (rho ks ℓ), ks, wrM (rho ks ℓ) 1000000 L'⟩ := by
  intro C used N t1 h1 ro φ a W ht hh hu hd r K Q hK
  have hs : ∀ x ∈ xs, ev t1 x = ev t x ∧ okx t1 x = okx t x := fun x hx => q22 ht (by simp [ho, Op.operands, Call.operands, hx])
  obtain ⟨c2, c3⟩ := q22 ht (x := c) (by simp [ho, Op.operands, Call.operands])
  have hrc := q1c r c (c3 ▸ hc)
  rw [c2, ec] at hrc
  generalize hcv : a.eval c = v at hrc
  unfold Oper.wp
  cases hrc with
  | @fn _ _ _ us vs hl hxx hl' hxx' =>
    have hex : (execOp a.eval o).run P W = .ok (.enter f (us ++ xs.toList.map a.eval ++ vs).toArray) W := by
      have := hT.1 (us.toArray ++ xs.map a.eval ++ vs.toArray) W
      simp only [execOp, ho, resolve, hcv, Deferred.ofValue, Sem.run_bind, Sem.run_pure, Result.andThen_ok, invoke]
      rw [this]
      congr 2
      simp
    rw [hex]
    have hall := RepL.app (RepL.app ⟨hl, hxx⟩ (q80 r hs hx)) ⟨hl', hxx'⟩
    rw [ha] at hall
    exact j9l r (j3g ks L (fun k hk => hh k hk) hL) hnd (fun j h2 h3 => hu j ⟨h2, by omega⟩) hn8 hd hT hall fun a' W' ro' φ' r' => hK a' W' ro' φ' r'
def renN (ρ : Nat → Nat) (i : Nat) : AV → AV
  | .row j n => if j = 1000000 + i then .c (.v (.slice none 0 0)) else .row (ρ j) n
  | x => x.ren ρ
theorem z0w {h : Nat → Option Blkd} {ρ : Nat → Nat} {k : Nat} {B : Blkd} : ∀ (ks : List Nat) (L : List Blkd), q2w h ρ ks L → h k = some (B.ren ρ) → q2w h ρ (ks ++ [k]) (L ++ [B])
  | [], [], _, hk => ⟨hk, trivial⟩
  | _ :: ks, _ :: L, hh, hk => ⟨hh.1, z0w ks L hh.2 hk⟩
theorem J_callN {P : Program} {o : Oper} {ℓ : Nat} {t : Nat → AV} {h : Nat → Option Blkd} (c : Operand) (f : FuncId) (fs cs args : List AV) (xs : Array Operand) (tys : Array TypeId) (y : AV) (ks : List Nat) (T : TypeId) (z : Nat) (L : List Blkd) (L' : List (Option Blkd)) (ho : o.op = .call { callee := .value c, args := xs, argTypes := tys }) (hc : okx t c) (ec : ev t c = .fn (.func f) fs cs)
    (hx : ∀ x ∈ xs, okx t x) (hL : q2w h (rho (ks ++ [ℓ + 7]) ℓ) ks L) (hnd : ks.Nodup) (hn8 : L'.length ≤ L.length + 8) (ha : fs ++ xs.toList.map (ev t) ++ cs = args.map (renN (rho (ks ++ [ℓ + 7]) ℓ) L.length)) (hT : ToldM P f args (L ++ [⟨true, T, z, []⟩]) L' y) :
    J P o ℓ t h ⟨y.ren (rho (ks ++ [ℓ + 7]) ℓ), ks, (ℓ + 7, some ⟨true, T, z, []⟩) :: wrM (rho (ks ++ [ℓ + 7]) ℓ) 1000000 L'⟩ := by
  intro C used N t1 h1 ro φ a W ht hh hu hd r K Q hK
  have hs : ∀ x ∈ xs, ev t1 x = ev t x ∧ okx t1 x = okx t x := fun x hx => q22 ht (by simp [ho, Op.operands, Call.operands, hx])
  obtain ⟨c2, c3⟩ := q22 ht (x := c) (by simp [ho, Op.operands, Call.operands])
  have hrc := q1c r c (c3 ▸ hc)
  rw [c2, ec] at hrc
  generalize hcv : a.eval c = v at hrc
  have hkl := (j4y ks L hL).1
  have hn7 : ¬ used (ℓ + 7) := hu _ ⟨by omega, by omega⟩
  have hku : ∀ k ∈ ks, used k := by
    intro k hk
    obtain ⟨i, hi, rfl⟩ := List.getElem_of_mem hk
    obtain ⟨k', h4, h5⟩ := (j4y ks L hL).2 i L[i] (List.getElem?_eq_getElem (by omega))
    rw [List.getElem?_eq_getElem hi] at h4
    obtain rfl := Option.some.inj h4
    exact (r.scH _ _ ((hh _ (List.getElem_mem _)).trans h5)).1
  have r2 : Rel C (fun j => used j ∨ j = ℓ + 7) N t1 (upd h1 (ℓ + 7) (some ⟨true, T, z, []⟩)) ro (upd φ (ℓ + 7) (.slice none 0 0)) a W :=
    r.block (W' := W) (Keeps.refl _ _) (fun b hb => by simp [q0y] at hb) (.inr hn7)
      ⟨fun i e he => by simp at he, fun e he => by simp at he, [], ⟨rfl, fun j x v hx => by simp at hx⟩, by rw [if_pos rfl, q1a]; exact World.ownsRow_nil W 0 T z⟩ (fun e he => by simp at he)
  unfold Oper.wp
  cases hrc with
  | @fn _ _ _ us vs hl hxx hl' hxx' =>
    have hex : (execOp a.eval o).run P W = .ok (.enter f (us ++ xs.toList.map a.eval ++ vs).toArray) W := by
      have := hT.1 (us.toArray ++ xs.map a.eval ++ vs.toArray) W
      simp only [execOp, ho, resolve, hcv, Deferred.ofValue, Sem.run_bind, Sem.run_pure, Result.andThen_ok, invoke]
      rw [this]
      congr 2
      simp
    rw [hex]
    have hall := RepL.app (RepL.app ⟨hl, hxx⟩ (q80 r hs hx)) ⟨hl', hxx'⟩
    have hscs : ScL used h1 (fs ++ xs.toList.map (ev t) ++ cs) := by
      intro q hq
      have h9 := q3j r c (c3 ▸ hc)
      rw [c2, ec] at h9
      cases h9 with
      | fn h9 h10 =>
        rcases List.mem_append.1 hq with hq | hq
        · rcases List.mem_append.1 hq with hq | hq
          · exact h9 q hq
          · obtain ⟨q0, hq0, rfl⟩ := List.mem_map.1 hq
            obtain ⟨h11, h12⟩ := hs q0 (by simpa using hq0)
            rw [← h11]
            exact q3j r q0 (h12 ▸ hx q0 (by simpa using hq0))
        · exact h10 q hq
    have hg : Goes used φ (upd φ (ℓ + 7) (.slice none 0 0)) h1 (upd h1 (ℓ + 7) (some ⟨true, T, z, []⟩)) := by
      intro j B' hj hB'
      by_cases he : j = ℓ + 7
      · exact absurd (he ▸ hj) hn7
      · rw [q1p _ _ he] at hB'
        exact ⟨B', hB', .inr ⟨rfl, rfl, q1p _ _ he⟩⟩
    have hall2 : RepL W ro (upd φ (ℓ + 7) (.slice none 0 0)) (upd h1 (ℓ + 7) (some ⟨true, T, z, []⟩)) (AV.renL (rho (ks ++ [ℓ + 7]) ℓ) args) (us ++ xs.toList.map a.eval ++ vs) := by
      have h12 := hall.map hscs (fun _ _ => rfl) (fun _ h => h) hg
      rw [ha] at h12
      refine ⟨by rw [h12.1, q2s]; simp, fun j x v h2 h3 => ?_⟩
      rw [q2s, List.getElem?_map] at h2
      obtain ⟨x0, h4, rfl⟩ := Option.map_eq_some_iff.1 h2
      have h5 := h12.2 j (renN (rho (ks ++ [ℓ + 7]) ℓ) L.length x0) v (by rw [List.getElem?_map, h4]; rfl) h3
      cases x0 with
      | row j0 n0 =>
        unfold renN at h5
        by_cases hj0 : j0 = 1000000 + L.length
        · simp only [hj0, if_true] at h5
          have hv0 := q13 h5
          have hr0 : rho (ks ++ [ℓ + 7]) ℓ j0 = ℓ + 7 := by rw [hj0]; exact j3n (by rw [← hkl, List.getElem?_append_right (Nat.le_refl _)]; simp)
          show Rep _ _ _ _ (.row (rho (ks ++ [ℓ + 7]) ℓ j0) n0) v
          rw [hr0, hv0]
          exact .row rfl fun B hB hn => by rw [q1a]
        · simp only [hj0, if_false] at h5
          exact h5
      | _ => exact h5
    have hnd2 : (ks ++ [ℓ + 7]).Nodup := by
      rw [List.nodup_append]
      refine ⟨hnd, by simp, fun x hx y hy e => ?_⟩
      simp at hy
      subst e hy
      exact hn7 (hku _ hx)
    have hL2 : q2w (upd h1 (ℓ + 7) (some ⟨true, T, z, []⟩)) (rho (ks ++ [ℓ + 7]) ℓ) (ks ++ [ℓ + 7]) (L ++ [⟨true, T, z, []⟩]) :=
      z0w ks L (j3g ks L (fun k hk => (q1p _ _ (fun e => by subst e; exact hn7 (hku _ hk))).trans (hh k hk)) hL) (by rw [q1a]; rfl)
    refine j9l r2 hL2 hnd2 (fun j h2 h3 h4 => ?_) (by simp; omega) hd hT hall2 fun a' W' ro' φ' r' => hK a' W' ro' φ' (r'.take fun j hj => ?_)
    · simp at h3
      rcases h4 with h4 | h4
      · exact hu j ⟨h2, by omega⟩ h4
      · omega
    · rcases hj with (hj | hj) | hj
      · exact .inl hj
      · exact .inr (by rw [hj]; exact ⟨by omega, by omega⟩)
      · exact .inr hj
def q55 (n : Nat) : Option IntKind := if n = 10 then some .i8 else if n = 11 then some .i16 else if n = 12 then some .i32 else if n = 13 then some .i64 else if n = 14 then some .u8 else if n = 15 then some .u16 else if n = 16 then some .u32 else if n = 17 then some .u64 else none
theorem z0o {n : Nat} {k : IntKind} (h : q55 n = some k) : n = q2m (.int k) := by
  unfold q55 at h
  repeat' (split at h <;> first | (obtain rfl := Option.some.inj h; simpa [q2m]) | skip)
  simp at h
def q26 (op : BinOp) (same : Bool) : Option Bool := match op with | .eql => some same | .neq => some (!same) | _ => none
theorem j4j {op : BinOp} {b : Bool} (h : q26 op false = some b) : (op = .eql ∧ b = false) ∨ (op = .neq ∧ b = true) := by
  cases op <;> simp [q26] at h <;> simp [h]
theorem j90 {op : BinOp} {b : Bool} (h : q26 op true = some b) : (op = .eql ∧ b = true) ∨ (op = .neq ∧ b = false) := by
  cases op <;> simp [q26] at h <;> simp [h]
def opE (P : Program) (o : Oper) (n : Nat) (t : Nat → AV) (h : Nat → Option Blkd) (g : Prop) (K : Eff → Prop) : Prop :=
  match o.op with
  | .move x | .assign x => (g → okx t x) ∧ K ⟨ev t x, [], []⟩
  | .pick c x y =>
    match ev t c, ev t x, ev t y with
    | .c (.v (.bool b)), .c (.v (.bool p)), .c (.v (.bool q)) => (g → okx t c ∧ (b = true → okx t x) ∧ (b = false → okx t y)) ∧ K ⟨.c (.v (.bool (q5z b p q))), [], []⟩
    | .c (.v (.bool true)), _, _ => (g → okx t c ∧ okx t x) ∧ K ⟨ev t x, [], []⟩
    | .c (.v (.bool false)), _, _ => (g → okx t c ∧ okx t y) ∧ K ⟨ev t y, [], []⟩
    | _, _, _ => False
  | .binOp op ty x y _ =>
    match ev t x, ev t y with
    | .c (.v u), .c (.v u') => (g → okx t x ∧ okx t y ∧ q4s P op ty u u') ∧ K ⟨.c (.v (binV op u u')), [], []⟩
    | .ref j m _ _, .c (.v (.pointer none)) => match tyA P ty, h j, q26 op false with
      | some T, some B, some b => (g → okx t x ∧ okx t y ∧ T.kind = 7 ∧ B.len = m) ∧ K ⟨.c (.v (.bool b)), [j], []⟩
      | _, _, _ => False
    | .pp _, .c (.v (.pointer none)) => match tyA P ty, q26 op false with
      | some T, some b => (g → okx t x ∧ okx t y ∧ T.kind = 7) ∧ K ⟨.c (.v (.bool b)), [], []⟩
      | _, _ => False
    | .ref j m i off, .ref j' m' i' off' => match tyA P ty, h j, q26 op true with
      | some T, some B, some b => match tyA P T.elem with
        | some E => (g → okx t x ∧ okx t y ∧ T.kind = 7 ∧ B.len = m ∧ j' = j ∧ m' = m ∧ i' = i ∧ off' = off ∧ E.size ≠ 0) ∧ K ⟨.c (.v (.bool b)), [j], []⟩
        | none => False
      | _, _, _ => False
    | _, _ => False
  | .unOp op _ x =>
    match ev t x with
    | .c (.v u) => (g → okx t x ∧ q5w op u) ∧ K ⟨.c (.v (unV op u)), [], []⟩
    | _ => False
  | .extract x i =>
    match ev t x with
    | .tup l => match l[i]? with
      | some y => (g → okx t x) ∧ K ⟨y, [], []⟩
      | none => False
    | _ => False
  | .alloc ty =>
    match tyA P ty with
    | some T => (g → T.zero ≠ [] ∧ T.zero.all (·.oneCell') = true) ∧ K ⟨.ref n 1 0 0, [], [(n, some ⟨false, ty, (q2d T).length, [q2d T]⟩)]⟩
    | none => False
  | .box ty x => (g → okx t x ∧ ∀ y ∈ q00 (ev t x), y.cellish = true) ∧ K ⟨.ref n 1 0 0, [], [(n, some ⟨false, ty, (q00 (ev t x)).length, [q00 (ev t x)]⟩)]⟩
  | .build ty parts =>
    match tyA P ty with
    | some T => (g → T.kind = 3 ∧ (∀ p ∈ parts.toList, okx t p.2) ∧ T.zero ≠ [] ∧ T.zero.all (·.oneCell') = true ∧ T.pls ≠ [] ∧
        ∀ p ∈ pv t parts, (∀ c ∈ q00 p.2, c.cellish = true) ∧ T.pls[p.1]? = some ((((T.pls[p.1]?).map (·.1)).getD 0), (q00 p.2).length) ∧ ((T.pls[p.1]?).map (·.1)).getD 0 + (q00 p.2).length ≤ T.zero.length) ∧
        K ⟨.agg (q41 (fun i => ((T.pls[i]?).map (·.1)).getD 0) (q2d T) (pv t parts)), [], []⟩
    | none => False
  | .buildSlice ty len parts =>
    match tyA P ty with
    | some T => match tyA P T.elem with
      | some E => (g → T.kind = 1 ∧ (∀ p ∈ parts.toList, okx t p.2) ∧ E.zero.length = E.size ∧ 0 < E.size ∧ E.zero.all (·.oneCell') = true ∧ len * E.size ≤ 16777216 ∧ ∀ p ∈ pv t parts, (∀ c ∈ q00 p.2, c.cellish = true) ∧ p.1 < len ∧ (q00 p.2).length = E.size) ∧
          K ⟨.row n (q3t (List.replicate len (q2d E)) (pv t parts)).length, [], [(n, some ⟨true, T.elem, E.size, q3t (List.replicate len (q2d E)) (pv t parts)⟩)]⟩
      | none => False
    | none => False
  | .load ty x =>
    match tyA P ty with
    | some T => match ev t x with
      | .ref j m i off => match h j with
        | some B => match B.elems[i]? with
          | some e => (g → okx t x ∧ B.len = m ∧ off + T.size ≤ e.length ∧ (T.row = false → T.size = 1)) ∧ K ⟨q4a T e off, [j], []⟩
          | none => False
        | none => False
      | .pp e => (g → okx t x ∧ T.size ≤ e.length ∧ (T.row = false → T.size = 1)) ∧ K ⟨q3m T e, [], []⟩
      | _ => match x with
        | .global gl => match glob P gl with
          | some e => (g → T.size ≤ e.length ∧ (T.row = false → T.size = 1)) ∧ K ⟨q3m T e, [], []⟩
          | none => False
        | _ => False
    | none => False
  | .store ty x y =>
    match tyA P ty with
    | some T => match ev t x with
      | .ref j m i off => match h j with
        | some B => match B.elems[i]? with
          | some e => (g → okx t x ∧ okx t y ∧ B.len = m ∧ (∀ c ∈ q00 (ev t y), c.cellish = true) ∧ (q00 (ev t y)).length = T.size ∧ off + T.size ≤ e.length) ∧ K ⟨.any, [j], [(j, some (setE B i e off (q00 (ev t y))))]⟩
          | none => False
        | none => False
      | _ => False
    | none => False
  | .fieldAddr s x f =>
    match tyA P s with
    | some T => match T.flds[f]? with
      | some (o', ft) => match tyA P ft with
        | some F => match ev t x with
          | .ref j m i off => match h j with
            | some B => (g → okx t x ∧ T.kind = 3 ∧ F.size ≠ 0 ∧ B.len = m) ∧ K ⟨.ref j m i (off + o'), [j], []⟩
            | none => False
          | .pp e => (g → okx t x ∧ T.kind = 3 ∧ F.size ≠ 0) ∧ K ⟨.pp (e.drop o'), [], []⟩
          | _ => False
        | none => False
      | none => False
    | none => False
  | .indexAddr s x y =>
    match tyA P s with
    | some T => match tyA P T.elem with
      | some E => match ev t y with
        | .c (.v (.int k i)) => match ev t x with
          | .c (.sl z es) => (g → okx t x ∧ okx t y ∧ T.kind = 1 ∧ E.size = z ∧ 0 ≤ i ∧ i < (es.length : Int)) ∧ K ⟨.pp ((es[i.toNat]?).getD []), [], []⟩
          | .row j m => match h j with
            | some B => (g → okx t x ∧ okx t y ∧ T.kind = 1 ∧ B.row = true ∧ B.len = m ∧ E.size = B.z ∧ 0 ≤ i ∧ i < (m : Int)) ∧ K ⟨.ref j m i.toNat 0, [j], []⟩
            | none => False
          | _ => False
        | _ => False
      | none => False
    | none => False
  | .call c =>
    match c.callee, c.args.toList, c.argTypes.toList with
    | .builtin .len, [x], [ty] =>
      match tyA P ty with
      | some T => match ev t x with
        | .c (.sl _ es) => (g → okx t x ∧ T.kind = 1) ∧ K ⟨.c (.v (.int .i64 (es.length : Int))), [], []⟩
        | .c (.v (.slice _ m _)) => (g → okx t x ∧ T.kind = 1) ∧ K ⟨.c (.v (.int .i64 (m : Int))), [], []⟩
        | .c (.v (.string s)) => (g → okx t x ∧ T.kind = 2) ∧ K ⟨.c (.v (.int .i64 (s.size : Int))), [], []⟩
        | .row j m => match h j with
          | some B => (g → okx t x ∧ T.kind = 1 ∧ B.len = m ∧ B.row = true) ∧ K ⟨.c (.v (.int .i64 (m : Int))), [j], []⟩
          | none => False
        | _ => False
      | none => False
    | .builtin .append, [x, y], [ty, ty'] =>
      match tyA P ty with
      | some T => match tyA P T.elem with
        | some E => match ev t x with
          | .row j m => match h j with
            | some B => match ev t y with
              | .c (.v (.string s)) => match tyA P ty' with
                | some U => (g → okx t x ∧ okx t y ∧ o.type = ty ∧ T.kind = 1 ∧ 0 < E.size ∧ E.zero.length = E.size ∧ B.row = true ∧ B.len = m ∧ B.T = T.elem ∧ B.z = E.size ∧ E.bytes = 1 ∧ E.size = 1 ∧ zU8 P T.elem ∧ U.kind = 2 ∧ m + s.size ≤ 1099511627776) ∧ K ⟨.row j (m + s.size), [j], [(j, some (grown B (q7w s)))]⟩
                | none => False
              | _ => (g → okx t x ∧ okx t y ∧ ty' = ty ∧ o.type = ty ∧ T.kind = 1 ∧ 0 < E.size ∧ E.zero.length = E.size ∧ B.row = true ∧ B.len = m ∧ B.T = T.elem ∧ B.z = E.size ∧ q3n h E.size (ev t y) ∧
                (m + (q1r h (ev t y)).length) * E.bytes ≤ 140737488355328 ∧ m + (q1r h (ev t y)).length ≤ 1099511627776) ∧
                K ⟨.row j (m + (q1r h (ev t y)).length), j :: q4x (ev t y), [(j, some (grown B (q1r h (ev t y))))]⟩
            | none => False
          | .c (.v (.slice none 0 0)) => (g → okx t x ∧ okx t y ∧ ty' = ty ∧ o.type = ty ∧ T.kind = 1 ∧ 0 < E.size ∧ E.zero.length = E.size ∧ q3n h E.size (ev t y) ∧
                (q1r h (ev t y)).length * E.bytes ≤ 140737488355328 ∧ (q1r h (ev t y)).length ≤ 1099511627776) ∧
                K ⟨.row n (q1r h (ev t y)).length, q4x (ev t y), [(n, some ⟨true, T.elem, E.size, q1r h (ev t y)⟩)]⟩
          | _ => False
        | none => False
      | none => False
    | .builtin .max, [x, y], _ =>
      match ev t x, ev t y with
      | .c (.v (.int k a)), .c (.v (.int k' b)) => (g → okx t x ∧ okx t y ∧ k' = k) ∧ K ⟨.c (.v (.int k (max a b))), [], []⟩
      | _, _ => False
    | .builtin .min, [x, y], _ =>
      match ev t x, ev t y with
      | .c (.v (.int k a)), .c (.v (.int k' b)) => (g → okx t x ∧ okx t y ∧ k' = k) ∧ K ⟨.c (.v (.int k (min a b))), [], []⟩
      | _, _ => False
    | .builtin .unsafeSliceData, [x], [_] =>
      match ev t x with
      | .row j m => match h j with
        | some B => (g → okx t x ∧ B.len = m ∧ 0 < m ∧ B.row = true) ∧ K ⟨.ref j m 0 0, [j], []⟩
        | none => False
      | _ => False
    | .builtin .unsafeString, [x, y], [pt, _] =>
      match ev t x, ev t y with
      | .ref j m i off, .c (.v (.int k q)) => match h j, tyA P pt with
        | some B, some S => match tyA P S.elem with
          | some E => ∃ es, (g → okx t x ∧ okx t y ∧ i = 0 ∧ off = 0 ∧ k = .i64 ∧ q = (m : Int) ∧ S.kind = 7 ∧ B.T = S.elem ∧ E.size = 1 ∧ B.row = true ∧ B.len = m ∧ 0 < m ∧ B.z = 1 ∧ B.elems = es.map (fun e => e.map .c) ∧ q51 es) ∧ K ⟨.c (.v (.string (bstr (q3c es)))), [j], [(j, none)]⟩
          | none => False
        | _, _ => False
      | _, _ => False
    | .value f, xs, _ =>
      match ev t f with
      | .fn (.func f') fs cs => (∃ y, ((g → okx t f ∧ (∀ x ∈ xs, okx t x) ∧ AV.pureL (fs ++ xs.map (ev t) ++ cs) = true) ∧ (g → Told P f' (fs ++ xs.map (ev t) ++ cs) y)) ∧ K ⟨y, [], []⟩) ∨
          (∃ y bs rd, (g → okx t f ∧ (∀ x ∈ xs, okx t x) ∧ AV.pureL bs = true ∧ bs.length = (fs ++ xs.map (ev t) ++ cs).length ∧
            (∀ (k : Nat) (x z : AV), (fs ++ xs.map (ev t) ++ cs)[k]? = some x → bs[k]? = some z → View (fun j => if j ∈ rd then h j else none) x z) ∧ y.flatB = true ∧ Told P f' bs y) ∧ K ⟨y, rd, []⟩) ∨
          (∃ y ks args L L', ((g → okx t f ∧ ∀ x ∈ xs, okx t x) ∧ q2w h (rho ks n) ks L ∧ ks.Nodup ∧ L'.length ≤ L.length + 8 ∧ fs ++ xs.map (ev t) ++ cs = AV.renL (rho ks n) args ∧ ToldM P f' args L L' y) ∧ K ⟨y.ren (rho ks n), ks, wrM (rho ks n) 1000000 L'⟩) ∨
          (∃ y ks T z args L L', ((g → okx t f ∧ ∀ x ∈ xs, okx t x) ∧ q2w h (rho (ks ++ [n + 7]) n) ks L ∧ ks.Nodup ∧ L'.length ≤ L.length + 8 ∧ fs ++ xs.map (ev t) ++ cs = args.map (renN (rho (ks ++ [n + 7]) n) L.length) ∧ ToldM P f' args (L ++ [⟨true, T, z, []⟩]) L' y) ∧ K ⟨y.ren (rho (ks ++ [n + 7]) n), ks, (n + 7, some ⟨true, T, z, []⟩) :: wrM (rho (ks ++ [n + 7]) n) 1000000 L'⟩) ∨
          (match fs, cs, xs with | [], [], [x] => (g → okx t f ∧ okx t x ∧ NoEsc P f') ∧ K ⟨ev t x, [], []⟩ | _, _, _ => False)
      | .c (.v (.func (.func f') ⟨[]⟩ ⟨[]⟩)) => (∃ y, ((g → okx t f ∧ (∀ x ∈ xs, okx t x) ∧ AV.pureL (xs.map (ev t)) = true) ∧ (g → Told P f' (xs.map (ev t)) y)) ∧ K ⟨y, [], []⟩) ∨ False
      | _ => False
    | _, _, _ => False
  | .index ty x y =>
    match tyA P ty with
    | some T => match ev t x, ev t y with
      | .c (.v (.string s)), .c (.v (.int _ i)) => (g → okx t x ∧ okx t y ∧ T.kind = 2 ∧ 0 ≤ i ∧ i < (s.size : Int)) ∧ K ⟨.c (.v (.int .u8 (((s.data.toList[i.toNat]?).getD 0).toNat : Int))), [], []⟩
      | .agg l, .c (.v (.int _ i)) => match T.flds with
        | [(n, e)] => match tyA P e, l[i.toNat]? with
          | some E, some q => (g → okx t x ∧ okx t y ∧ T.kind = 6 ∧ E.row = false ∧ E.size = 1 ∧ 0 ≤ i ∧ i < (n : Int)) ∧ K ⟨q, [], []⟩
          | _, _ => False
        | _ => False
      | _, _ => False
    | none => False
  | .nilCheck x =>
    match ev t x with
    | .ref j m i off => match h j with
      | some B => (g → okx t x ∧ B.len = m) ∧ K ⟨.ref j m i off, [j], []⟩
      | none => False
    | .pp e => (g → okx t x) ∧ K ⟨.pp e, [], []⟩
    | _ => False
  | .makeSlice ty x y =>
    match tyA P ty with
    | some T => match tyA P T.elem with
      | some E => match ev t x, ev t y with
        | .c (.v (.int _ m)), .c (.v (.int _ m')) => (g → okx t x ∧ okx t y ∧ m' = m ∧ T.kind = 1 ∧ E.zero.length = E.size ∧ 0 < E.size ∧ E.zero.all (·.oneCell') = true ∧ 0 ≤ m ∧ m ≤ 4294967296 ∧ (E.bytes : Int) * m ≤ 140737488355328) ∧
            K ⟨.row n m.toNat, [], [(n, some ⟨true, T.elem, E.size, List.replicate m.toNat (q2d E)⟩)]⟩
        | _, _ => False
      | none => False
    | none => False
  | .convert src dst x =>
    match tyA P src, tyA P dst with
    | some S, some D => match ev t x with
      | .c (.v (.int _ m)) => match q55 D.kind with
        | some k' => (g → okx t x) ∧ K ⟨.c (.v (.int k' (k'.wrap m))), [], []⟩
        | none => False
      | .c (.v (.string s)) => if D.kind = 2 then (g → okx t x) ∧ K ⟨.c (.v (.string s)), [], []⟩ else
        match tyA P D.elem with
        | some E => (g → okx t x ∧ S.kind = 2 ∧ D.kind = 1 ∧ E.kind = 14 ∧ s.size ≤ 140737488355328) ∧ K ⟨.c (.sl 1 (q0o s.data.toList)), [], []⟩
        | none => False
      | .c (.sl z es) => match tyA P S.elem with
        | some E => (g → okx t x ∧ z = 1 ∧ S.kind = 1 ∧ E.kind = 14 ∧ D.kind = 2 ∧ q51 es) ∧ K ⟨.c (.v (.string (bstr (q3c es)))), [], []⟩
        | none => False
      | .row j m => match h j with
        | some B => match tyA P S.elem with
          | some E => if D.kind = 2 then ∃ es, (g → okx t x ∧ S.kind = 1 ∧ E.kind = 14 ∧ B.row = true ∧ B.len = m ∧ B.z = 1 ∧ B.elems = es.map (fun e => e.map .c) ∧ q51 es) ∧ K ⟨.c (.v (.string (bstr (q3c es)))), [j], []⟩
            else ∃ es, (g → okx t x ∧ dst = src ∧ S.kind = 1 ∧ E.kind = 14 ∧ B.row = true ∧ B.len = m ∧ 0 < m ∧ B.elems = es.map (fun e => e.map .c)) ∧ K ⟨.c (.sl B.z es), [j], [(j, none)]⟩
          | none => False
        | none => False
      | .ref j m i off => match h j with
        | some B => if D.kind = 8 then match tyA P S.elem with
            | some E => (g → okx t x ∧ B.len = m ∧ m = 1 ∧ i = 0 ∧ off = 0 ∧ B.row = false ∧ 0 < B.z ∧ S.kind = 7 ∧ E.size ≠ 0) ∧ K ⟨.ref j m i off, [j], []⟩
            | none => False
          else match tyA P D.elem with
            | some E => (g → okx t x ∧ B.len = m ∧ m = 1 ∧ i = 0 ∧ off = 0 ∧ B.row = false ∧ 0 < B.z ∧ S.kind = 8 ∧ D.kind = 7 ∧ LiesB P B.T B.z D.elem) ∧ K ⟨.ref j m i off, [j], []⟩
            | none => False
        | none => False
      | _ => False
    | _, _ => False
  | .slice ty x lo hi none =>
    match tyA P ty with
    | some T => match ev t x with
      | .c (.sl z es) => match bnd t 0 lo, bnd t es.length hi, tyA P T.elem with
        | some l, some u, some E => (g → okx t x ∧ okO t lo ∧ okO t hi ∧ T.kind = 1 ∧ E.size = z ∧ 0 ≤ l ∧ l ≤ u ∧ u ≤ (es.length : Int)) ∧ K ⟨.c (.sl z ((es.take u.toNat).drop l.toNat)), [], []⟩
        | _, _, _ => False
      | .c (.v (.string s)) => match bnd t 0 lo, bnd t s.size hi with
        | some l, some u => (g → okx t x ∧ okO t lo ∧ okO t hi ∧ T.kind = 2 ∧ 0 ≤ l ∧ l ≤ u ∧ u ≤ (s.size : Int)) ∧ K ⟨.c (.v (.string (s.extract l.toNat u.toNat))), [], []⟩
        | _, _ => False
      | _ => False
    | none => False
  | .makeFunc fn first captured => (g → (∀ x ∈ first.toList, okx t x) ∧ (∀ x ∈ captured.toList, okx t x)) ∧ K ⟨.fn fn (first.toList.map (ev t)) (captured.toList.map (ev t)), [], []⟩
  | _ => False
section
variable {P : Program}
theorem q5m {c : Call} {k : Callee} {l : List Operand} {m : List TypeId} (h1 : c.callee = k) (h2 : c.args.toList = l) (h3 : c.argTypes.toList = m) : c = ⟨k, l.toArray, m.toArray⟩ := by
  cases c
  simp only at h1 h2 h3
  subst h1 h2 h3
  simp
theorem z1g {o : Oper} {n : Nat} {t : Nat → AV} {h : Nat → Option Blkd} {g : Prop} {K : Eff → Prop} (hop : opE P o n t h g K) : ∃ e, K e ∧ (g → J P o n t h e) := by
  unfold opE at hop
  split at hop
  · rename_i x ho
    exact ⟨_, hop.2, fun hg => j3w x (.inl ho) (hop.1 hg)⟩
  · rename_i x ho
    exact ⟨_, hop.2, fun hg => j3w x (.inr ho) (hop.1 hg)⟩
  · rename_i c x y ho
    split at hop
    · rename_i b p q h1 h2 h3
      exact ⟨_, hop.2, fun hg => J_pick c x y b p q ho (hop.1 hg).1 (hop.1 hg).2.1 (hop.1 hg).2.2 h1 h2 h3⟩
    · rename_i h1 _
      exact ⟨_, hop.2, fun hg => j3x c x y true ho (hop.1 hg).1 (hop.1 hg).2 h1⟩
    · rename_i h1 _
      exact ⟨_, hop.2, fun hg => j3x c x y false ho (hop.1 hg).1 (hop.1 hg).2 h1⟩
    · exact hop.elim
  · rename_i op ty x y ty' ho
    split at hop
    · rename_i u u' h1 h2
      exact ⟨_, hop.2, fun hg => J_bin op ty ty' x y u u' ho (hop.1 hg).1 (hop.1 hg).2.1 h1 h2 (hop.1 hg).2.2⟩
    · rename_i j m i off h1 h2
      split at hop
      · rename_i T B b h3 h4 h5
        exact ⟨_, hop.2, fun hg => by have := j3z (h := h) (ℓ := n) op ty ty' x y T b ho (j4j h5) (hop.1 hg).1 (hop.1 hg).2.1 (.inl ⟨j, m, i, off, B, h1, h4, (hop.1 hg).2.2.2⟩) h2 h3 (hop.1 hg).2.2.1; rw [h1] at this; exact this⟩
      · exact hop.elim
    · rename_i e h1 h2
      split at hop
      · rename_i T b h3 h5
        exact ⟨_, hop.2, fun hg => by have := j3z (h := h) (ℓ := n) op ty ty' x y T b ho (j4j h5) (hop.1 hg).1 (hop.1 hg).2.1 (.inr ⟨e, h1⟩) h2 h3 (hop.1 hg).2.2; rw [h1] at this; exact this⟩
      · exact hop.elim
    · rename_i j m i off j' m' i' off' h1 h2
      split at hop
      · rename_i T B b h3 h4 h5
        split at hop
        · rename_i E h6
          refine ⟨_, hop.2, fun hg => ?_⟩
          obtain ⟨a1, a2, a3, a4, rfl, rfl, rfl, rfl, a5⟩ := hop.1 hg
          exact j8v op ty ty' x y T E b _ _ _ _ B ho (j90 h5) a1 a2 h1 h2 h4 a4 h3 a3 h6 a5
        · exact hop.elim
      · exact hop.elim
    · exact hop.elim
  · rename_i op ty x ho
    split at hop
    · rename_i u h1
      exact ⟨_, hop.2, fun hg => J_un op ty x u ho (hop.1 hg).1 h1 (hop.1 hg).2⟩
    · exact hop.elim
  · rename_i x i ho
    split at hop
    · rename_i l h1
      split at hop
      · rename_i y h2
        exact ⟨_, hop.2, fun hg => j8o x i l y ho (hop.1 hg) h1 h2⟩
      · exact hop.elim
    · exact hop.elim
  · rename_i ty ho
    split at hop
    · rename_i T h1
      exact ⟨_, hop.2, fun hg => J_alloc ty T ho h1 (hop.1 hg).1 (hop.1 hg).2⟩
    · exact hop.elim
  · rename_i ty x ho
    exact ⟨_, hop.2, fun hg => J_box ty x ho (hop.1 hg).1 (hop.1 hg).2⟩
  · rename_i ty parts ho
    split at hop
    · rename_i T h1
      exact ⟨_, hop.2, fun hg => J_build ty parts T ho h1 (hop.1 hg).1 (hop.1 hg).2.1 (hop.1 hg).2.2.1 (hop.1 hg).2.2.2.1 (hop.1 hg).2.2.2.2.1 (hop.1 hg).2.2.2.2.2⟩
    · exact hop.elim
  · rename_i ty len parts ho
    split at hop
    · rename_i T h1
      split at hop
      · rename_i E h2
        exact ⟨_, hop.2, fun hg => j8k ty len parts T E ho h1 (hop.1 hg).1 h2 (hop.1 hg).2.1 (hop.1 hg).2.2.1 (hop.1 hg).2.2.2.1 (hop.1 hg).2.2.2.2.1 (hop.1 hg).2.2.2.2.2.1 (hop.1 hg).2.2.2.2.2.2⟩
      · exact hop.elim
    · exact hop.elim
  · rename_i ty x ho
    split at hop
    · rename_i T h1
      split at hop
      · rename_i j m i off h2
        split at hop
        · rename_i B h3
          split at hop
          · rename_i e h4
            exact ⟨_, hop.2, fun hg => J_load ty x T j m i off B e ho (hop.1 hg).1 h2 h1 h3 (hop.1 hg).2.1 h4 (hop.1 hg).2.2.1 (hop.1 hg).2.2.2⟩
          · exact hop.elim
        · exact hop.elim
      · rename_i e h2
        exact ⟨_, hop.2, fun hg => J_loadP ty x T e ho (hop.1 hg).1 h2 h1 (hop.1 hg).2.1 (hop.1 hg).2.2⟩
      · split at hop
        · split at hop
          · rename_i e h2
            exact ⟨_, hop.2, fun hg => J_loadG ty _ T e ho h2 h1 (hop.1 hg).1 (hop.1 hg).2⟩
          · exact hop.elim
        · exact hop.elim
    · exact hop.elim
  · rename_i ty x y ho
    split at hop
    · rename_i T h1
      split at hop
      · rename_i j m i off h2
        split at hop
        · rename_i B h3
          split at hop
          · rename_i e h4
            exact ⟨_, hop.2, fun hg => J_store ty x y T j m i off B e ho (hop.1 hg).1 (hop.1 hg).2.1 h2 h1 h3 (hop.1 hg).2.2.1 h4 (hop.1 hg).2.2.2.1 (hop.1 hg).2.2.2.2.1 (hop.1 hg).2.2.2.2.2⟩
          · exact hop.elim
        · exact hop.elim
      · exact hop.elim
    · exact hop.elim
  · rename_i s x f ho
    split at hop
    · rename_i T h1
      split at hop
      · rename_i o' ft h2
        split at hop
        · rename_i F h3
          split at hop
          · rename_i j m i off h4
            split at hop
            · rename_i B h5
              exact ⟨_, hop.2, fun hg => J_field s x f T F j m i off o' ft ho (hop.1 hg).1 h4 h1 (hop.1 hg).2.1 h2 h3 (hop.1 hg).2.2.1 h5 (hop.1 hg).2.2.2⟩
            · exact hop.elim
          · rename_i e h4
            exact ⟨_, hop.2, fun hg => j8p s x f T F e o' ft ho (hop.1 hg).1 h4 h1 (hop.1 hg).2.1 h2 h3 (hop.1 hg).2.2⟩
          · exact hop.elim
        · exact hop.elim
      · exact hop.elim
    · exact hop.elim
  · rename_i s x y ho
    split at hop
    · rename_i T h1
      split at hop
      · rename_i E h2
        split at hop
        · rename_i k i h3
          split at hop
          · rename_i z es h4
            exact ⟨_, hop.2, fun hg => j8r s x y T E z es k i ho (hop.1 hg).1 (hop.1 hg).2.1 h4 h3 h1 (hop.1 hg).2.2.1 h2 (hop.1 hg).2.2.2.1 (hop.1 hg).2.2.2.2.1 (hop.1 hg).2.2.2.2.2⟩
          · rename_i j m h4
            split at hop
            · rename_i B h5
              exact ⟨_, hop.2, fun hg => j8s s x y T E j m B k i ho (hop.1 hg).1 (hop.1 hg).2.1 h4 h3 h1 (hop.1 hg).2.2.1 h2 h5 (hop.1 hg).2.2.2.1 (hop.1 hg).2.2.2.2.1 (hop.1 hg).2.2.2.2.2.1 (hop.1 hg).2.2.2.2.2.2.1 (hop.1 hg).2.2.2.2.2.2.2⟩
            · exact hop.elim
          · exact hop.elim
        · exact hop.elim
      · exact hop.elim
    · exact hop.elim
  · rename_i c ho
    split at hop
    · rename_i x ty q1 q2 q3
      have ho := ho.trans (congrArg Op.call (q5m q1 q2 q3))
      split at hop
      · rename_i T h1
        split at hop
        · rename_i z es h2
          exact ⟨_, hop.2, fun hg => by have := q7j (o := o) (ℓ := n) (h := h) ty 0 x T ho (hop.1 hg).1 h1 es.length (.inl ⟨(hop.1 hg).2, .inl ⟨z, es, h2, rfl⟩⟩); rw [h2] at this; exact this⟩
        · rename_i a m c h2
          exact ⟨_, hop.2, fun hg => by have := q7j (o := o) (ℓ := n) (h := h) ty 0 x T ho (hop.1 hg).1 h1 m (.inl ⟨(hop.1 hg).2, .inr (.inl ⟨a, m, c, h2, rfl⟩)⟩); rw [h2] at this; exact this⟩
        · rename_i s h2
          exact ⟨_, hop.2, fun hg => by have := q7j (o := o) (ℓ := n) (h := h) ty 0 x T ho (hop.1 hg).1 h1 s.size (.inr ⟨(hop.1 hg).2, s, h2, rfl⟩); rw [h2] at this; exact this⟩
        · rename_i j m h2
          split at hop
          · rename_i B h3
            exact ⟨_, hop.2, fun hg => by have := q7j (o := o) (ℓ := n) (h := h) ty 0 x T ho (hop.1 hg).1 h1 m (.inl ⟨(hop.1 hg).2.1, .inr (.inr ⟨j, m, B, h2, h3, (hop.1 hg).2.2.1, (hop.1 hg).2.2.2, rfl⟩)⟩); rw [h2] at this; exact this⟩
          · exact hop.elim
        · exact hop.elim
      · exact hop.elim
    · rename_i x y ty ty' q1 q2 q3
      have ho := ho.trans (congrArg Op.call (q5m q1 q2 q3))
      split at hop
      · rename_i T h1
        split at hop
        · rename_i E h2
          split at hop
          · rename_i j m h3
            split at hop
            · rename_i B h4
              split at hop
              · rename_i s h5
                split at hop
                · rename_i U h6
                  refine ⟨_, hop.2, fun hg => ?_⟩
                  obtain ⟨a1, a2, a4, a5, a6, a7, a8, a9, a10, a11, a12, a13, a14, a15, a16⟩ := hop.1 hg
                  exact J_appendS ty ty' x y T E j m B ho a4 a1 a2 h3 h1 a5 h2 a6 a7 h4 a8 a9 a10 a11 a12 a13 a14 U h6 a15 s h5 a16
                · exact hop.elim
              · refine ⟨_, hop.2, fun hg => ?_⟩
                obtain ⟨a1, a2, a3, a4, a5, a6, a7, a8, a9, a10, a11, a12, a13, a14⟩ := hop.1 hg
                subst a3
                exact j8i ty' 0 x y T E j m B ho a4 a1 a2 h3 h1 a5 h2 a6 a7 h4 a8 a9 a10 a11 a12 a13 a14
            · exact hop.elim
          · rename_i h3
            refine ⟨_, hop.2, fun hg => ?_⟩
            obtain ⟨a1, a2, a3, a4, a5, a6, a7, a8, a9, a10⟩ := hop.1 hg
            subst a3
            exact j8j ty' x y T E ho a4 a1 a2 h3 h1 a5 h2 a6 a7 a8 a9 a10
          · exact hop.elim
        · exact hop.elim
      · exact hop.elim
    · rename_i x y q1 q2
      have ho := ho.trans (congrArg Op.call (q5m q1 q2 rfl))
      split at hop
      · rename_i k a k' b h1 h2
        refine ⟨_, hop.2, fun hg => ?_⟩
        obtain ⟨a1, a2, a3⟩ := hop.1 hg
        subst a3
        exact J_max x y k' a b _ ho a1 a2 h1 h2
      · exact hop.elim
    · rename_i x y q1 q2
      have ho := ho.trans (congrArg Op.call (q5m q1 q2 rfl))
      split at hop
      · rename_i k a k' b h1 h2
        refine ⟨_, hop.2, fun hg => ?_⟩
        obtain ⟨a1, a2, a3⟩ := hop.1 hg
        subst a3
        exact J_min x y k' a b _ ho a1 a2 h1 h2
      · exact hop.elim
    · rename_i x ty q1 q2 q3
      have ho := ho.trans (congrArg Op.call (q5m q1 q2 q3))
      split at hop
      · rename_i j m h1
        split at hop
        · rename_i B h2
          exact ⟨_, hop.2, fun hg => z3y x ty j m B ho (hop.1 hg).1 h1 h2 (hop.1 hg).2.1 (hop.1 hg).2.2.1 (hop.1 hg).2.2.2⟩
        · exact hop.elim
      · exact hop.elim
    · rename_i x y pt it q1 q2 q3
      have ho := ho.trans (congrArg Op.call (q5m q1 q2 q3))
      split at hop
      · rename_i j m i off k q h1 h2
        split at hop
        · rename_i B S h3 h4
          split at hop
          · rename_i E h5
            obtain ⟨es, hop⟩ := hop
            refine ⟨_, hop.2, fun hg => ?_⟩
            obtain ⟨a1, a2, rfl, rfl, rfl, rfl, a3, a4, a5, a6, a7, a8, a9, a10, a11⟩ := hop.1 hg
            exact z3z x y pt it S E j m B es ho a1 a2 h1 h2 h4 a3 a4 h5 a5 h3 a6 a7 a8 a9 a10 a11
          · exact hop.elim
        · exact hop.elim
      · exact hop.elim
    · rename_i f q1
      have ho := ho.trans (congrArg Op.call (q5m q1 rfl rfl))
      split at hop
      · rename_i f' fs cs h1
        rcases hop with ⟨y, ⟨h2, h2'⟩, h3⟩ | ⟨y, bs, rd, h2, h3⟩ | ⟨y, ks, args, L, L', ⟨h2, q2, q3, q4, q5, q6⟩, h3⟩ | ⟨y, ks, T, z, args, L, L', ⟨h2, q2, q3, q4, q5, q6⟩, h3⟩ | hop
        · exact ⟨_, h3, fun hg => J_callF f f' fs cs _ _ y ho (h2 hg).1 h1 (fun x hx => (h2 hg).2.1 x (by simpa using hx)) (h2 hg).2.2 (h2' hg)⟩
        · refine ⟨_, h3, fun hg => ?_⟩
          obtain ⟨a1, a2, a3, a5, a6, a7, a8⟩ := h2 hg
          exact J_callV f f' fs cs bs _ _ y rd ho a1 h1 (fun x hx => a2 x (by simpa using hx)) a3 a5 a6 a7 a8
        · exact ⟨_, h3, fun hg => J_callM f f' fs cs args _ _ y ks L L' ho (h2 hg).1 h1 (fun x hx => (h2 hg).2 x (by simpa using hx)) q2 q3 q4 q5 q6⟩
        · exact ⟨_, h3, fun hg => J_callN f f' fs cs args _ _ y ks T z L L' ho (h2 hg).1 h1 (fun x hx => (h2 hg).2 x (by simpa using hx)) q2 q3 q4 q5 q6⟩
        · split at hop
          · rename_i x q2
            rw [q2] at ho
            exact ⟨_, hop.2, fun hg => J_noEsc f f' x _ ho (hop.1 hg).1 h1 (hop.1 hg).2.1 (hop.1 hg).2.2⟩
          · exact hop.elim
      · rename_i f' h1
        rcases hop with ⟨y, ⟨h2, h2'⟩, h3⟩ | hop
        · exact ⟨_, h3, fun hg => J_callP f f' _ _ y ho (h2 hg).1 h1 (fun x hx => (h2 hg).2.1 x (by simpa using hx)) (h2 hg).2.2 (h2' hg)⟩
        · exact hop.elim
      · exact hop.elim
    · exact hop.elim
  · rename_i ty x y ho
    split at hop
    · rename_i T h1
      split at hop
      · rename_i s k i h2 h3
        exact ⟨_, hop.2, fun hg => j8t ty x y T s k i ho h1 (hop.1 hg).2.2.1 (hop.1 hg).1 (hop.1 hg).2.1 h2 h3 (hop.1 hg).2.2.2.1 (hop.1 hg).2.2.2.2⟩
      · rename_i l k i h2 h3
        split at hop
        · rename_i m e hf
          split at hop
          · rename_i E q h4 h5
            exact ⟨_, hop.2, fun hg => j8q ty x y T E l k i m e q ho (hop.1 hg).1 (hop.1 hg).2.1 h2 h3 h1 (hop.1 hg).2.2.1 hf h4 (hop.1 hg).2.2.2.1 (hop.1 hg).2.2.2.2.1 (hop.1 hg).2.2.2.2.2.1 (hop.1 hg).2.2.2.2.2.2 h5⟩
          · exact hop.elim
        · exact hop.elim
      · exact hop.elim
    · exact hop.elim
  · rename_i x ho
    split at hop
    · rename_i j m i off h1
      split at hop
      · rename_i B h2
        exact ⟨_, hop.2, fun hg => J_nilR x j m i off B ho (hop.1 hg).1 h1 h2 (hop.1 hg).2⟩
      · exact hop.elim
    · rename_i e h1
      exact ⟨_, hop.2, fun hg => J_nilP x e ho (hop.1 hg) h1⟩
    · exact hop.elim
  · rename_i ty x y ho
    split at hop
    · rename_i T h1
      split at hop
      · rename_i E h2
        split at hop
        · rename_i k m k' m' h3 h4
          refine ⟨_, hop.2, fun hg => ?_⟩
          obtain ⟨a1, a2, rfl, a4, a5, a6, a7, a8, a9, a10⟩ := hop.1 hg
          exact J_make ty x y T E k k' _ ho a1 a2 h3 h4 h1 a4 h2 a5 a6 a7 a8 a9 a10
        · exact hop.elim
      · exact hop.elim
    · exact hop.elim
  · rename_i src dst x ho
    split at hop
    · rename_i S D h1 h2
      split at hop
      · rename_i k m h3
        split at hop
        · rename_i k' h4
          exact ⟨_, hop.2, fun hg => J_convI src dst x S D k k' m ho h1 h2 (z0o h4) (hop.1 hg) h3⟩
        · exact hop.elim
      · rename_i s h3
        split at hop
        · rename_i h4
          exact ⟨_, hop.2, fun hg => j8n src dst x S D s ho h1 h2 h4 (hop.1 hg) h3⟩
        · split at hop
          · rename_i E h5
            exact ⟨_, hop.2, fun hg => j8y src dst x S D E s ho h1 (hop.1 hg).2.1 h2 (hop.1 hg).2.2.1 h5 (hop.1 hg).2.2.2.1 (hop.1 hg).1 h3 (hop.1 hg).2.2.2.2⟩
          · exact hop.elim
      · rename_i z es h3
        split at hop
        · rename_i E h4
          refine ⟨_, hop.2, fun hg => ?_⟩
          obtain ⟨a1, a2, a3, a4, a5, a6⟩ := hop.1 hg
          subst a2
          exact j8l src dst x S E D es ho h1 a3 h4 a4 h2 a5 a1 h3 a6
        · exact hop.elim
      · rename_i j m h3
        split at hop
        · rename_i B h4
          split at hop
          · rename_i E h5
            split at hop
            · rename_i h6
              obtain ⟨es, h7, h8⟩ := hop
              exact ⟨_, h8, fun hg => j8m src dst x S E D j m B es ho h1 (h7 hg).2.1 h5 (h7 hg).2.2.1 h2 h6 (h7 hg).1 h3 h4 (h7 hg).2.2.2.1 (h7 hg).2.2.2.2.1 (h7 hg).2.2.2.2.2.1 (h7 hg).2.2.2.2.2.2.1 (h7 hg).2.2.2.2.2.2.2⟩
            · obtain ⟨es, h7, h8⟩ := hop
              refine ⟨_, h8, fun hg => ?_⟩
              obtain ⟨a1, a2, a3, a4, a5, a6, a7, a8⟩ := h7 hg
              subst a2
              exact J_mark dst x S E j m B es ho h1 a3 h5 a4 a1 h3 h4 a5 a6 a7 a8
          · exact hop.elim
        · exact hop.elim
      · rename_i j m i off h3
        split at hop
        · rename_i B h4
          split at hop
          · rename_i h6
            split at hop
            · rename_i E h5
              refine ⟨_, hop.2, fun hg => ?_⟩
              obtain ⟨a1, a2, rfl, rfl, rfl, a3, a4, a5, a6⟩ := hop.1 hg
              exact J_convU src dst x S D j _ B [] ho h1 h2 a1 h3 h4 a2 rfl a3 a4 (.inl ⟨a5, h6, E, h5, a6⟩)
            · exact hop.elim
          · split at hop
            · rename_i E h5
              refine ⟨_, hop.2, fun hg => ?_⟩
              obtain ⟨a1, a2, rfl, rfl, rfl, a3, a4, a5, a6, a7⟩ := hop.1 hg
              exact J_convU src dst x S D j _ B [] ho h1 h2 a1 h3 h4 a2 rfl a3 a4 (.inr ⟨a5, a6, ⟨E, h5⟩, a7⟩)
            · exact hop.elim
        · exact hop.elim
      · exact hop.elim
    · exact hop.elim
  · rename_i ty x lo hi ho
    split at hop
    · rename_i T h1
      split at hop
      · rename_i z es h2
        split at hop
        · rename_i l u E h3 h4 h5
          exact ⟨_, hop.2, fun hg => j8w ty x lo hi T E z es l u ho (hop.1 hg).1 (hop.1 hg).2.1 (hop.1 hg).2.2.1 h2 h1 (hop.1 hg).2.2.2.1 h5 (hop.1 hg).2.2.2.2.1 h3 h4 (hop.1 hg).2.2.2.2.2.1 (hop.1 hg).2.2.2.2.2.2.1 (hop.1 hg).2.2.2.2.2.2.2⟩
        · exact hop.elim
      · rename_i s h2
        split at hop
        · rename_i l u h3 h4
          exact ⟨_, hop.2, fun hg => j8x ty x lo hi T s l u ho (hop.1 hg).1 (hop.1 hg).2.1 (hop.1 hg).2.2.1 h2 h1 (hop.1 hg).2.2.2.1 h3 h4 (hop.1 hg).2.2.2.2.1 (hop.1 hg).2.2.2.2.2.1 (hop.1 hg).2.2.2.2.2.2⟩
        · exact hop.elim
      · exact hop.elim
    · exact hop.elim
  · rename_i fn first captured ho
    exact ⟨_, hop.2, fun hg => j8u fn first captured ho (fun x hx => (hop.1 hg).1 x (by simpa using hx)) (fun x hx => (hop.1 hg).2 x (by simpa using hx))⟩
  · exact hop.elim
def gsel (b : Bool) (p q : Prop) : Prop := (b = false ∧ p) ∨ q
theorem q38 {p q : Prop} (h : p) : gsel false p q := .inl ⟨rfl, h⟩
theorem q1m {b : Bool} {p q : Prop} (h : q) : gsel b p q := .inr h
def opx (P : Program) (ops : Array Oper) (o : Oper) (n : Nat) (t : Nat → AV) (h : Nat → Option Blkd) (K : Eff → Prop) : Prop :=
  match o.guard with
  | none => opE P o n t h True K
  | some (g, w) => match (ops[g]?).bind (·.dst) with
    | some d => match q5a (t d) w with
      | some b => gsel b (K ⟨.opt b .any, [], []⟩) (opE P o n t h (b = true) fun e => match e.wr with
        | [] => K ⟨.opt b e.val, e.rd, []⟩
        | _ => b = true ∧ K e)
      | none => False
    | none => False
theorem opx_sound {ops : Array Oper} {o : Oper} {n : Nat} {t : Nat → AV} {h : Nat → Option Blkd} {K : Eff → Prop} (hop : opx P ops o n t h K) : ∃ e, JG P ops o n t h e ∧ K e := by
  unfold opx at hop
  split at hop
  · rename_i hg
    obtain ⟨e, h1, h2⟩ := z1g hop
    exact ⟨e, JG.plain hg (h2 trivial), h1⟩
  · rename_i g w hg
    split at hop
    · rename_i d hd
      split at hop
      · rename_i b hb
        rcases hop with ⟨hb0, hop⟩ | hop
        · exact ⟨_, JG.maybe hg hd hb fun hbw => by rw [hb0] at hbw; simp at hbw, hop⟩
        obtain ⟨e, h1, h2⟩ := z1g hop
        split at h1
        · rename_i hw
          refine ⟨_, JG.maybe hg hd hb fun hbw => ?_, h1⟩
          have := h2 hbw
          obtain ⟨v, rd, wr⟩ := e
          simp only at hw
          subst hw
          exact this
        · obtain ⟨rfl, h1⟩ := h1
          exact ⟨e, JG.guarded hg hd hb (h2 rfl), h1⟩
      · exact hop.elim
    · exact hop.elim
end

end Go.Proofs.YthkofkaocipomaaGreatDoor

namespace Go.Proofs.YthkofkaocipomaaGreatDoor
open Go.RowKit
set_option linter.unusedVariables false
set_option linter.unusedSimpArgs false

structure ASt where
  t : Nat → AV
  h : Nat → Option Blkd
  n : Nat
def look {α : Type} (d : α) : List (Nat × α) → Nat → α
  | [], _ => d
  | p :: l, k => if k = p.1 then p.2 else look d l k
def st (l : List (Nat × AV)) (hl : List (Nat × Blkd)) (n : Nat) : ASt := ⟨look .any l, look none (hl.map fun p => (p.1, some p.2)), n⟩
def Used (n j : Nat) : Prop := j < n ∨ L0 ≤ j
theorem q09 (n j : Nat) : Used n j = (j < n ∨ 1000000 ≤ j) := rfl
def RelS {P : Program} (C : Ctx P) (N : Nat) (σ : ASt) (a : Act) (W : World) : Prop := ∃ ro φ, Rel C (Used σ.n) N σ.t σ.h ro φ a W
def Weak (σ : ASt) (l : List (Nat × AV)) (hl : List (Nat × Blkd)) (n : Nat) : Prop :=
  (∀ p ∈ l, p.2 = (σ.t p.1).get ∧ (σ.t p.1).okb) ∧ (∀ p ∈ hl, σ.h p.1 = some p.2 ∧ Used n p.1) ∧ (∀ p ∈ l, Sc (Used n) (st l hl n).h p.2) ∧ (∀ p ∈ hl, ∀ e ∈ p.2.elems, ScL (Used n) (st l hl n).h e)
theorem q8x {α : Type} {d : α} : ∀ (l : List (Nat × α)) (k : Nat), look d l k = d ∨ ∃ p ∈ l, p.1 = k ∧ look d l k = p.2
  | [], _ => .inl rfl
  | p :: l, k => by
    unfold look
    split
    · rename_i h
      exact .inr ⟨p, by simp, h.symm, rfl⟩
    · rcases q8x l k with h | ⟨q, h1, h2, h3⟩
      · exact .inl h
      · exact .inr ⟨q, by simp [h1], h2, h3⟩
theorem j7m {P : Program} {C : Ctx P} {N : Nat} {σ : ASt} {a : Act} {W : World} {l : List (Nat × AV)} {hl : List (Nat × Blkd)} {n : Nat} (r : RelS C N σ a W) (hw : Weak σ l hl n) : RelS C N (st l hl n) a W := by
  obtain ⟨ro, φ, r⟩ := r
  obtain ⟨h1, h2, h3, h4⟩ := hw
  have hh : ∀ j B, (st l hl n).h j = some B → σ.h j = some B ∧ Used n j ∧ ∃ p ∈ hl, p.2 = B := by
    intro j B hB
    rcases q8x (d := none) (hl.map fun p => (p.1, some p.2)) j with h | ⟨p, hp, hpj, hpe⟩
    · simp only [st] at hB
      rw [h] at hB
      simp at hB
    · obtain ⟨q, hq, rfl⟩ := List.mem_map.1 hp
      simp only [st] at hB
      rw [hpe] at hB
      simp only [] at hB hpj
      obtain rfl := Option.some.inj hB
      subst hpj
      exact ⟨(h2 q hq).1, (h2 q hq).2, q, hq, rfl⟩
  have hg : Goes (Used σ.n) φ φ σ.h (st l hl n).h := fun j B hu hB => ⟨B, (hh j B hB).1, .inr ⟨rfl, rfl, rfl⟩⟩
  refine ⟨ro, φ, r.keep, r.defers, r.size, fun k => ?_, fun j B hB => ?_, fun j k B B' b hB hB' => r.inj j k B B' b (hh j B hB).1 (hh k B' hB').1, fun j B b hB => r.own j B b (hh j B hB).1, r.rolt, r.ro0, r.ronew, fun k => ?_, fun j B hB => ?_, fun j n hn => ⟨(r.lent j n hn).1, .inr (r.lent j n hn).1, fun B hB => (r.lent j n hn).2.2 B (hh j B hB).1⟩, r.glob⟩
  · rcases q8x (d := AV.any) l k with h | ⟨p, hp, hpk, hpe⟩
    · simp only [st]; rw [h]; exact .any _
    · simp only [st]; rw [hpe]
      obtain ⟨h5, h6⟩ := h1 p hp
      rw [h5, hpk]
      rw [hpk] at h6
      exact ((r.tm k).get h6).map ((r.scT k).get h6) (fun _ _ => rfl) (fun _ h => h) hg
  · obtain ⟨h5, h6, _⟩ := hh j B hB
    exact (r.hp j B h5).map (r.scH j B h5).2 (fun _ _ => rfl) (fun _ h => h) hg rfl (fun _ _ => rfl)
  · rcases q8x (d := AV.any) l k with h | ⟨p, hp, hpk, hpe⟩
    · simp only [st]; rw [h]; exact .any
    · simp only [st]; rw [hpe]
      exact h3 p hp
  · obtain ⟨h5, h6, p, hp, rfl⟩ := hh j B hB
    exact ⟨h6, h4 p hp⟩

def dstOk (ops : Array Oper) (N : Nat) : Bool := ops.toList.all fun o => match o.dst with | some d => decide (d < N) | none => true
section
variable {P : Program} {N : Nat}
inductive Frz (K : Nat → Bool) (h : Nat → Option Blkd) : AV → AV → Prop
  | any (x : AV) : Frz K h x .any
  | c (p : PV) : Frz K h (.c p) (.c p)
  | nil (z : Nat) : Frz K h (.c (.v (.slice none 0 0))) (.c (.sl z []))
  | pp (l : List PV) : Frz K h (.pp l) (.pp l)
  | keepR {j n i off : Nat} (hk : K j = true) : Frz K h (.ref j n i off) (.ref j n i off)
  | keepW {j n : Nat} (hk : K j = true) : Frz K h (.row j n) (.row j n)
  | refP {j n i off : Nat} {B : Blkd} {e : List AV} {es : List PV} (hB : h j = some B) (hn : B.len = n) (hk : K j = false) (hi : B.elems[i]? = some e) (he : e = es.map .c) : Frz K h (.ref j n i off) (.pp (es.drop off))
  | fn {f : Fn} {l m l' m' : List AV} (hl : l'.length = l.length) (hx : ∀ (k : Nat) (x y : AV), l[k]? = some x → l'[k]? = some y → Frz K h x y) (hl' : m'.length = m.length) (hx' : ∀ (k : Nat) (x y : AV), m[k]? = some x → m'[k]? = some y → Frz K h x y) : Frz K h (.fn f l m) (.fn f l' m')
  | row {j n : Nat} {B : Blkd} {es : List (List PV)} (hB : h j = some B) (hr : B.row = true) (hn : B.len = n) (hk : K j = false) (hl : es.length = B.elems.length) (hz : ∀ (i : Nat) (e : List AV) (e' : List PV), B.elems[i]? = some e → es[i]? = some e' → e'.length = e.length)
      (hx : ∀ (i k : Nat) (e : List AV) (e' : List PV) (x : AV) (p : PV), B.elems[i]? = some e → es[i]? = some e' → e[k]? = some x → e'[k]? = some p → Frz K h x (.c p)) : Frz K h (.row j n) (.c (.sl B.z es))
  | agg {l m : List AV} (hl : m.length = l.length) (hx : ∀ (k : Nat) (x y : AV), l[k]? = some x → m[k]? = some y → Frz K h x y) : Frz K h (.agg l) (.agg m)
  | tup {l m : List AV} (hl : m.length = l.length) (hx : ∀ (k : Nat) (x y : AV), l[k]? = some x → m[k]? = some y → Frz K h x y) : Frz K h (.tup l) (.tup m)
def noK : Nat → Bool := fun _ => false
theorem j6r {C : Ctx P} {used : Nat → Prop} {t : Nat → AV} {h : Nat → Option Blkd} {ro : Nat → Prop} {φ : Nat → Value} {a : Act} {W : World} (r : Rel C used N t h ro φ a W) {K : Nat → Bool} {x y : AV} (hf : Frz K h x y) : ∀ {v : Value}, Rep W ro φ h x v → Rep W (fun b => ro b ∨ ∃ j B, h j = some B ∧ K j = false ∧ q0y (φ j) = some b) φ (fun j => if K j = true then h j else none) y v := by
  induction hf with
  | any => intro v _; exact .any v
  | c p => intro v hr; cases hr with | c hp => exact .c (hp.map (fun _ _ => rfl) fun b hb => .inl hb)
  | nil z =>
    intro v hr
    obtain rfl := q13 hr
    exact .c (PRep.nil _ _ z)
  | pp l => intro v hr; cases hr with | pp hb hc hp => exact .pp (.inl hb) hc (hp.map (fun _ _ => rfl) fun b hb => .inl hb)
  | @keepR j n i off hk =>
    intro v hr
    cases hr with
    | ref h1 hv => exact .ref h1 fun B hB hl => hv B (by simpa [hk] using hB) hl
  | @keepW j n hk =>
    intro v hr
    cases hr with
    | row h1 hv => exact .row h1 fun B hB hl => hv B (by simpa [hk] using hB) hl
  | @refP j n i off B e es hB hn hkj hi he =>
    intro v hr
    cases hr with
    | ref _ hv =>
      obtain ⟨b, hb, rfl⟩ := hv _ hB hn
      obtain ⟨g, vs, hg', hc, hl⟩ := (r.hp j B hB).read hi
      rw [hb] at hg'
      obtain rfl := Option.some.inj hg'
      refine .pp (vs := vs.drop off) (.inr ⟨_, _, hB, hkj, hb⟩) ?_ ⟨?_, fun k p v hp hv => ?_⟩
      · have := hc.sub off (vs.length - off)
        rwa [List.take_of_length_le (by simp)] at this
      · rw [List.length_drop, List.length_drop, hl.1, he, List.length_map]
      · rw [List.getElem?_drop] at hp hv
        have := hl.2 (off + k) (.c p) v (by rw [he, List.getElem?_map, hp]; rfl) hv
        cases this with
        | c hp => exact hp.map (fun _ _ => rfl) fun b hb => .inl hb
  | fn hl1 hx hl2 hx' ih ih' =>
    intro v hr
    cases hr with
    | fn q1 q2 q3 q4 =>
      rename_i l m l' m' us vs
      refine .fn (by omega) (fun k y u h1 h2 => ?_) (by omega) (fun k y u h1 h2 => ?_)
      · have hk : k < l.length := by have := (List.getElem?_eq_some_iff.1 h1).1; omega
        exact ih k _ y (List.getElem?_eq_getElem hk) h1 (q2 k _ u (List.getElem?_eq_getElem hk) h2)
      · have hk : k < m.length := by have := (List.getElem?_eq_some_iff.1 h1).1; omega
        exact ih' k _ y (List.getElem?_eq_getElem hk) h1 (q4 k _ u (List.getElem?_eq_getElem hk) h2)
  | @row j n B es hB hrow hn hkj hl hz hx ih =>
    intro v hr
    cases hr with
    | row _ hr =>
    obtain rfl := hr B hB hn
    obtain ⟨b1, b2, vs, b3, b4⟩ := r.hp j B hB
    rw [if_pos hrow] at b4
    have hflat := q42 b1
    have hzz : ∀ (i : Nat) (e' : List PV), es[i]? = some e' → e'.length = B.z := by
      intro i e' he'
      have hlt := (List.getElem?_eq_some_iff.1 he').1
      have he : B.elems[i]? = some (B.elems[i]'(by omega)) := List.getElem?_eq_getElem _
      rw [hz i _ e' he he', b1 i _ he]
    have cells : ∀ (i : Nat), i < es.length → ∃ e e' vv, B.elems[i]? = some e ∧ es[i]? = some e' ∧ vv = (vs.drop (i * B.z)).take B.z ∧ vv.length = B.z ∧ RepL W ro φ h e vv := by
      intro i hi
      have he : B.elems[i]? = some (B.elems[i]'(by omega)) := List.getElem?_eq_getElem _
      have hs := b3.sub (i * B.z) B.z
      rw [q6k b1 he] at hs
      exact ⟨_, _, _, he, List.getElem?_eq_getElem hi, rfl, by rw [hs.1]; exact b1 i _ he, hs⟩
    have hmk : ∀ (aa : Option Addr) (c : Nat), φ j = .slice aa B.len c → B.len ≤ c → c ≤ 9223372036854775807 → (aa = none → c = 0) → (es ≠ [] → ∃ b, aa = some ⟨b, 0, none⟩ ∧ ∀ k, k < vs.length → W.cell? ⟨b, k, none⟩ = vs[k]?) →
        PRep W (fun b => ro b ∨ ∃ j B, h j = some B ∧ K j = false ∧ q0y (φ j) = some b) (.sl B.z es) (φ j) := by
      intro aa c hφ h1 h2 h3 h4
      have hlen : B.len = es.length := by rw [hl]; rfl
      rw [hφ, hlen]
      refine .sl (vss := (List.range es.length).map fun i => (vs.drop (i * B.z)).take B.z) (by omega) h2 h3 (fun hne => ?_) (by simp) hzz ?_ ?_
      · obtain ⟨b, h5, h6⟩ := h4 hne
        refine ⟨b, 0, h5, .inr ⟨j, B, hB, hkj, by rw [hφ, h5]; rfl⟩, fun i vv hvv => ?_⟩
        rw [List.getElem?_map] at hvv
        cases hq : (List.range es.length)[i]? with
        | none => rw [hq] at hvv; simp at hvv
        | some q =>
          rw [hq] at hvv
          have hqi := List.getElem?_range (show i < es.length from by have := (List.getElem?_eq_some_iff.1 hq).1; simpa using this)
          rw [hqi] at hq
          obtain rfl := Option.some.inj hq
          obtain rfl := Option.some.inj hvv
          have : q34 W b 0 vs := fun k hk => by rw [Nat.zero_add]; exact h6 k hk
          have := this.sub (i * B.z) B.z
          rwa [Nat.zero_add] at this ⊢
      · intro i vv hvv
        rw [List.getElem?_map] at hvv
        cases hq : (List.range es.length)[i]? with
        | none => rw [hq] at hvv; simp at hvv
        | some q =>
          rw [hq] at hvv
          have hi : i < es.length := by have := (List.getElem?_eq_some_iff.1 hq).1; simpa using this
          have hqi := List.getElem?_range hi
          rw [hqi] at hq
          obtain rfl := Option.some.inj hq
          obtain rfl := Option.some.inj hvv
          obtain ⟨_, _, vv, _, _, h7, h8, _⟩ := cells i hi
          show (List.take B.z (List.drop (i * B.z) vs)).length = B.z
          rw [← h7]; exact h8
      · intro i k e' vv p u he' hvv hp hu
        have hi := (List.getElem?_eq_some_iff.1 he').1
        rw [List.getElem?_map, List.getElem?_range hi] at hvv
        obtain rfl := Option.some.inj hvv
        obtain ⟨e, e'', vv, h7, h8, h9, h10, h11⟩ := cells i hi
        rw [he'] at h8
        obtain rfl := Option.some.inj h8
        replace hu : (List.take B.z (List.drop (i * B.z) vs))[k]? = some u := hu
        rw [← h9] at hu
        have hk : k < e.length := by
          have := (List.getElem?_eq_some_iff.1 hp).1
          rw [hz i e e' h7 he'] at this
          exact this
        have := ih i k e e' _ p h7 he' (List.getElem?_eq_getElem hk) hp (h11.2 k _ u (List.getElem?_eq_getElem hk) hu)
        cases this with | c hp => exact hp
    rcases b4.2 with ⟨h5, h6⟩ | ⟨g, cap, cur, h5, _, h6, h7, h8, h9, h10⟩
    · exact .c (hmk none 0 (by rw [h5, h6]) (by omega) (by omega) (fun _ => rfl) fun hne => absurd (List.eq_nil_of_length_eq_zero (by rw [hl]; exact h6)) hne)
    · refine .c (hmk _ cap h5 h7 (by unfold maxLen at h8; omega) (fun h => by simp at h) fun _ => ⟨g, rfl, fun k hk => ?_⟩)
      have := j12 h6 (B.len * B.z)
      rw [h10] at this
      have := this k hk
      rwa [Nat.zero_add] at this
  | agg hl hx ih =>
    intro v hr
    cases hr with
    | agg hl' hx' =>
      refine .agg (by omega) fun k y v h1 h2 => ?_
      rename_i l m vs
      have hk : k < l.length := by have := (List.getElem?_eq_some_iff.1 h1).1; omega
      exact ih k _ y (List.getElem?_eq_getElem hk) h1 (hx' k _ v (List.getElem?_eq_getElem hk) h2)
  | tup hl hx ih =>
    intro v hr
    cases hr with
    | tup hl' hx' =>
      refine .tup (by omega) fun k y v h1 h2 => ?_
      rename_i l m vs
      have hk : k < l.length := by have := (List.getElem?_eq_some_iff.1 h1).1; omega
      exact ih k _ y (List.getElem?_eq_getElem hk) h1 (hx' k _ v (List.getElem?_eq_getElem hk) h2)
def resV (P : Program) (K : Nat → Bool) (σ : ASt) (x : ResultVar) (y : AV) : Prop :=
  match x with
  | .tmp k => (σ.t k).okb ∧ Frz K σ.h (σ.t k).get y
  | .cell a ty =>
    match tyA P ty with
    | some T => match (σ.t a).get with
      | .ref j m i off => match σ.h j with
        | some B => match B.elems[i]? with
          | some e => (σ.t a).okb ∧ B.len = m ∧ off + T.size ≤ e.length ∧ (T.row = false → T.size = 1) ∧ Frz K σ.h (q4a T e off) y
          | none => False
        | none => False
      | _ => False
    | none => False
def q1x (P : Program) (K : Nat → Bool) (σ : ASt) : List ResultVar → AV → Prop
  | [], y => y = .tup []
  | [a], y => resV P K σ a y
  | [a, b], .tup [y1, y2] => resV P K σ a y1 ∧ resV P K σ b y2
  | [a, b, c], .tup [y1, y2, y3] => resV P K σ a y1 ∧ resV P K σ b y2 ∧ resV P K σ c y3
  | _, _ => False
def resF (tmps : Array Value) : ResultVar → Sem Value
  | .tmp t => pure (tmps.getD t undef)
  | .cell b t => do loadVar t (← asAddr (tmps.getD b undef))
theorem z58 (fn : Func) (tmps : Array Value) : results fn tmps = (do let vs ← fn.results.mapM (resF tmps); pure (if h : vs.size = 1 then vs[0] else .tuple vs)) := by
  unfold results
  congr 1
theorem j2u {C : Ctx P} {used : Nat → Prop} {σ : ASt} {ro : Nat → Prop} {φ : Nat → Value} {a : Act} {W : World} (r : Rel C used N σ.t σ.h ro φ a W) {K : Nat → Bool} {x : ResultVar} {y : AV} (h : resV P K σ x y) :
    ∃ v, (resF a.tmps x).run P W = .ok v W ∧ Rep W (fun b => ro b ∨ ∃ j B, σ.h j = some B ∧ K j = false ∧ q0y (φ j) = some b) φ (fun j => if K j = true then σ.h j else none) y v := by
  cases x with
  | tmp k => exact ⟨_, rfl, j6r r h.2 ((r.tm k).get h.1)⟩
  | cell b ty =>
    unfold resV at h
    simp only [] at h
    split at h
    case h_2 => exact h.elim
    rename_i T h3
    split at h
    case h_2 => exact h.elim
    rename_i j m i off h2
    split at h
    case h_2 => exact h.elim
    rename_i B h4
    split at h
    case h_2 => exact h.elim
    rename_i e h6
    obtain ⟨h1, h5, h7, h8, h9⟩ := h
    have hr := (r.tm b).get h1
    rw [h2] at hr
    obtain ⟨g, vs, hb, hc, hl⟩ := (r.hp j B h4).read h6
    generalize hv : a.tmps.getD b undef = v at hr
    cases hr with
    | ref _ hr =>
    obtain ⟨b', hb', rfl⟩ := hr B h4 h5
    rw [hb] at hb'
    obtain rfl := Option.some.inj hb'
    have hvl := hl.1
    cases hrow : T.row with
    | true =>
      refine ⟨.agg ((vs.drop off).take T.size).toArray, ?_, j6r r h9 ?_⟩
      · have := j5j (P := P) h3 hrow (hc.sub off T.size) (by simp; omega)
        simp only [Instr.loadAt, Instr.sureAddr, Sem.run_bind, Sem.run_pure, Result.andThen_ok] at this
        simp only [resF, hv, asAddr, Sem.run_bind, Sem.run_pure, Result.andThen_ok, this]
      · have := hl.sub off T.size
        simp only [q4a, hrow, if_true]
        exact .agg this.1 this.2
    | false =>
      have := h8 hrow
      have hlt : off < vs.length := by omega
      have hlt' : off < e.length := by omega
      have hcell := hc off hlt
      rw [List.getElem?_eq_getElem hlt] at hcell
      refine ⟨vs[off], ?_, j6r r h9 ?_⟩
      · have := j5i (P := P) h3 hrow hcell
        simp only [Instr.loadAt, Instr.sureAddr, Sem.run_bind, Sem.run_pure, Result.andThen_ok] at this
        simp only [resF, hv, asAddr, Sem.run_bind, Sem.run_pure, Result.andThen_ok, this]
      · simp only [q4a, hrow, Bool.false_eq_true, if_false]
        rw [List.getElem?_eq_getElem hlt']
        exact hl.2 off _ _ (List.getElem?_eq_getElem hlt') (List.getElem?_eq_getElem hlt)
theorem res_run {C : Ctx P} {used : Nat → Prop} {σ : ASt} {ro : Nat → Prop} {φ : Nat → Value} {a : Act} {W : World} (r : Rel C used N σ.t σ.h ro φ a W) {K : Nat → Bool} {fn : Func} {y : AV} (h : q1x P K σ fn.results.toList y) :
    ∃ v, (results fn a.tmps).run P W = .ok v W ∧ Rep W (fun b => ro b ∨ ∃ j B, σ.h j = some B ∧ K j = false ∧ q0y (φ j) = some b) φ (fun j => if K j = true then σ.h j else none) y v := by
  generalize hl : fn.results.toList = l at h
  have hl' : fn.results = l.toArray := by rw [← hl]
  rw [z58, hl']
  unfold q1x at h
  split at h
  · subst h
    exact ⟨.tuple #[], by simp, .tup (vs := []) rfl (by simp)⟩
  · rename_i x
    obtain ⟨v, h1, h2⟩ := j2u r h
    refine ⟨v, ?_, h2⟩
    simp only [List.mapM_toArray, List.mapM_cons, List.mapM_nil, Sem.run_bind, Sem.run_map]
    simp [h1]
  · rename_i x x' y1 y2
    obtain ⟨h3, h4⟩ := h
    obtain ⟨v, h1, h2⟩ := j2u r h3
    obtain ⟨v', h1', h2'⟩ := j2u r h4
    refine ⟨.tuple #[v, v'], ?_, .tup (vs := [v, v']) rfl fun k x u hx hu => ?_⟩
    · simp only [List.mapM_toArray, List.mapM_cons, List.mapM_nil, Sem.run_bind, Sem.run_map]
      simp [h1, h1']
    · match k with
      | 0 => simp at hx hu; subst hx hu; exact h2
      | 1 => simp at hx hu; subst hx hu; exact h2'
      | k + 2 => simp at hx
  · rename_i x x' x'' y1 y2 y3
    obtain ⟨h3, h4, h5⟩ := h
    obtain ⟨v, h1, h2⟩ := j2u r h3
    obtain ⟨v', h1', h2'⟩ := j2u r h4
    obtain ⟨v'', h1'', h2''⟩ := j2u r h5
    refine ⟨.tuple #[v, v', v''], ?_, .tup (vs := [v, v', v'']) rfl fun k x u hx hu => ?_⟩
    · simp only [List.mapM_toArray, List.mapM_cons, List.mapM_nil, Sem.run_bind, Sem.run_map]
      simp [h1, h1', h1'']
    · match k with
      | 0 => simp at hx hu; subst hx hu; exact h2
      | 1 => simp at hx hu; subst hx hu; exact h2'
      | 2 => simp at hx hu; subst hx hu; exact h2''
      | k + 3 => simp at hx
  · exact h.elim
def argT (args : List AV) : Nat → AV := fun k => (args[k]?).getD .any
theorem told_wpI {f : FuncId} (hE : q0n P f) {fn : Func} {c : Code} {args : List AV} {y : AV} (hf : P.funcs[f]? = some fn) (hb : fn.body = some c) (hn : fn.ntmps = N) (hN : args.length ≤ N) (hp : AV.pureL args = true) (hy : y.pureB = true)
    (hv : (∀ x ∈ args, ABd x) → ∀ (C : Ctx P) (a : Act) (W : World), RelS C N ⟨argT args, fun _ => none, 0⟩ a W → c.wp P (fun e a' W' => ∃ σ', ((e = .normal ∨ e = .ret) ∧ q1x P noK σ' fn.results.toList y) ∧ RelS C N σ' a' W') a W) : Told P f args y := by
  refine ⟨hE, ?_⟩
  intro W ro vs hro hgk hl
  have hpp := q5t args hp
  have hbd : ∀ x ∈ args, ABd x := by
    intro x hx
    obtain ⟨j, hj, hje⟩ := List.getElem_of_mem hx
    have h1 : args[j]? = some x := by rw [List.getElem?_eq_getElem hj, hje]
    exact (hl.2 j x _ h1 (List.getElem?_eq_getElem (show j < vs.length by rw [hl.1]; exact hj))).bd (hpp x hx)
  refine calls_of_wp hf hb ?_
  have hsz : (vs.toArray ++ Array.replicate (fn.ntmps - vs.toArray.size) undef).size = N := by
    have := hl.1
    simp [hn]
    omega
  have hget : ∀ k, k < vs.length → (vs.toArray ++ Array.replicate (fn.ntmps - vs.toArray.size) undef).getD k undef = (vs[k]?).getD undef := by
    intro k hk
    simp only [Array.getD_eq_getD_getElem?]
    rw [Array.getElem?_append_left (by simpa using hk)]
    simp
  have r0 : RelS (P := P) ⟨W, fun _ => False, ro, fun _ => none, φ0⟩ N ⟨argT args, fun _ => none, 0⟩ { tmps := vs.toArray ++ Array.replicate (fn.ntmps - vs.toArray.size) undef, defers := [] } W := by
    refine ⟨ro, φ0, Keeps.refl _ _, rfl, hsz, fun k => ?_, fun j B h => by simp at h, fun j k B B' b h => by simp at h, fun j B b h => by simp at h, hro, fun b h => h, fun b h => .inl h, fun k => ?_, fun j B h => by simp at h, fun j n h => by simp at h, ⟨fun b hb => ⟨hro b hb, fun h => h⟩, hgk⟩⟩
    · simp only [argT]
      cases hk : args[k]? with
      | none => exact .any _
      | some x =>
        have hlt := (List.getElem?_eq_some_iff.1 hk).1
        have hlt' : k < vs.length := by rw [hl.1]; exact hlt
        simp only [Option.getD_some]
        rw [hget k hlt', List.getElem?_eq_getElem hlt', Option.getD_some]
        exact (hl.2 k x _ hk (List.getElem?_eq_getElem hlt')).pure (hpp x (List.mem_of_getElem? hk))
    · simp only [argT]
      cases hk : args[k]? with
      | none => exact .any
      | some x => exact (hpp x (List.mem_of_getElem? hk)).sc
  refine Code.wp_mono ?_ (hv hbd _ _ W r0)
  intro e a' W' h
  obtain ⟨σ', ⟨he, hres⟩, ro', φ', r⟩ := h
  obtain ⟨v, h1, h2⟩ := res_run r hres
  have hpost : ∃ v' ro', Ending.returned v = .returned v' ∧ Below W.heap.size W W' ∧ (∀ b, ro b → ro' b) ∧ (∀ b, ro' b → (ro b ∨ W.heap.size ≤ b) ∧ b < W'.heap.size) ∧ Rep W' ro' φ0 h0 y v' ∧ Pure y := by
    refine ⟨v, _, rfl, ⟨r.keep.os, r.keep.tape, r.keep.output, r.keep.size, fun k hk => r.keep.block k hk fun h => h⟩, fun b hb => .inl (r.ro0 b hb), fun b hb => ?_, h2.pure (q7z y hy), q7z y hy⟩
    rcases hb with hb | ⟨j, B, hB, _, hb⟩
    · refine ⟨?_, r.rolt b hb⟩
      rcases r.ronew b hb with h | h | h
      · exact .inl h
      · exact .inr h
      · exact h.elim
    · refine ⟨.inr ?_, r.blk_lt hB hb⟩
      rcases Nat.lt_or_ge b W.heap.size with h | h
      · exact ((r.own j B b hB hb).2 h).elim
      · exact h
  rcases he with rfl | rfl
  · exact bodyPost_end h1 r.defers hpost
  · exact bodyPost_ret h1 r.defers hpost
end

end Go.Proofs.YthkofkaocipomaaGreatDoor

namespace Go.Proofs.YthkofkaocipomaaGreatDoor
open Go.RowKit
set_option linter.unusedVariables false
set_option linter.unusedSimpArgs false

structure VC (P : Program) (N : Nat) (c : Code) (σ : ASt) (Q : Exit → ASt → Prop) : Prop where
  out : ∀ (C : Ctx P) (a : Act) (W : World), RelS C N σ a W → c.wp P (fun e a' W' => ∃ σ', Q e σ' ∧ RelS C N σ' a' W') a W
structure AO (P : Program) (ops : Array Oper) (l : List Oper) (n : Nat) (t : Nat → AV) (h : Nat → Option Blkd) (fs : Foot) (R : (Nat → AV) → (Nat → Option Blkd) → Foot → Prop) : Prop where
  out : AOps P ops l n t h fs R
inductive SQ (P : Program) (N : Nat) (y : Code) (Q : Exit → ASt → Prop) : Exit → ASt → Prop
  | normal {σ : ASt} (h : VC P N y σ Q) : SQ P N y Q .normal σ
  | ret {σ : ASt} (h : Q .ret σ) : SQ P N y Q .ret σ
  | exit {σ : ASt} {id : Nat} (h : Q (.exit id) σ) : SQ P N y Q (.exit id) σ
inductive BQ (id : Nat) (Q : Exit → ASt → Prop) : Exit → ASt → Prop
  | normal {σ : ASt} (h : Q .normal σ) : BQ id Q .normal σ
  | ret {σ : ASt} (h : Q .ret σ) : BQ id Q .ret σ
  | exit {σ : ASt} (h : Q .normal σ) : BQ id Q (.exit id) σ
  | other {σ : ASt} {id' : Nat} (hn : id' ≠ id) (h : Q (.exit id') σ) : BQ id Q (.exit id') σ
inductive RQ {ι : Type} (l : ι → List (Nat × AV)) (hl : ι → List (Nat × Blkd)) (n : Nat) (μ : ι → Nat) (i : ι) (Q : Exit → ASt → Prop) : Exit → ASt → Prop
  | next {σ : ASt} (j : ι) (h : Weak σ (l j) (hl j) n) (hm : μ j < μ i) : RQ l hl n μ i Q .normal σ
  | ret {σ : ASt} (h : Q .ret σ) : RQ l hl n μ i Q .ret σ
  | exit {σ : ASt} {id : Nat} (h : Q (.exit id) σ) : RQ l hl n μ i Q (.exit id) σ
inductive MQ (l : List (Nat × AV)) (hl : List (Nat × Blkd)) (n : Nat) (Q : Exit → ASt → Prop) : Exit → ASt → Prop
  | normal {σ : ASt} (h : Weak σ l hl n) : MQ l hl n Q .normal σ
  | ret {σ : ASt} (h : Q .ret σ) : MQ l hl n Q .ret σ
  | exit {σ : ASt} {id : Nat} (h : Q (.exit id) σ) : MQ l hl n Q (.exit id) σ
section
variable {P : Program} {N : Nat} {σ : ASt} {Q : Exit → ASt → Prop} {ops : Array Oper}
theorem VC.skip (h : Q .normal σ) : VC P N .skip σ Q := ⟨fun C a W r => wp_skip ⟨σ, h, r⟩⟩
theorem VC.exit {id : Nat} (h : Q (.exit id) σ) : VC P N (.exit id) σ Q := ⟨fun C a W r => wp_exit ⟨σ, h, r⟩⟩
theorem VC.ret (h : Q .ret σ) : VC P N .ret σ Q := ⟨fun C a W r => wp_ret ⟨σ, h, r⟩⟩
theorem VC.seq {x y : Code} (h : VC P N x σ (SQ P N y Q)) : VC P N (.seq x y) σ Q := ⟨fun C a W r => by
  refine wp_seq (Code.wp_mono ?_ (h.out C a W r))
  rintro e a' W' ⟨σ', h1, h2⟩
  cases h1 with
  | normal h => exact h.out C a' W' h2
  | ret h => exact ⟨σ', h, h2⟩
  | exit h => exact ⟨σ', h, h2⟩⟩
theorem VC.block {id : Nat} {x : Code} (h : VC P N x σ (BQ id Q)) : VC P N (.block id x) σ Q := ⟨fun C a W r => by
  refine wp_block (Code.wp_mono ?_ (h.out C a W r))
  rintro e a' W' ⟨σ', h1, h2⟩
  cases h1 with
  | normal h => exact ⟨σ', h, h2⟩
  | ret h => exact ⟨σ', h, h2⟩
  | exit h => simp only [Exit.inBlock, if_true]; exact ⟨σ', h, h2⟩
  | other hn h => simp only [Exit.inBlock, if_neg hn]; exact ⟨σ', h, h2⟩⟩
theorem VC.cond {c : Operand} {x y : Code} {b : Bool} (hc : ev σ.t c = .c (.v (.bool b))) (ho : okx σ.t c) (h1 : b = true → VC P N x σ Q) (h2 : b = false → VC P N y σ Q) : VC P N (.cond c x y) σ Q := ⟨fun C a W r => by
  have r' := r
  obtain ⟨ro, φ, r⟩ := r
  have hb := q1c r c ho
  rw [hc] at hb
  exact wp_cond_split (q13 hb) (fun hb => (h1 hb).out C a W r') (fun hb => (h2 hb).out C a W r')⟩
theorem VC.condT {c : Operand} {x y : Code} (hc : ev σ.t c = .c (.v (.bool true))) (ho : okx σ.t c) (h1 : VC P N x σ Q) : VC P N (.cond c x y) σ Q := VC.cond hc ho (fun _ => h1) fun h => by simp at h
theorem VC.condF {c : Operand} {x y : Code} (hc : ev σ.t c = .c (.v (.bool false))) (ho : okx σ.t c) (h1 : VC P N y σ Q) : VC P N (.cond c x y) σ Q := VC.cond hc ho (fun h => by simp at h) fun _ => h1
theorem VC.loop {x : Code} {ι : Type} (l : ι → List (Nat × AV)) (hl : ι → List (Nat × Blkd)) (n : Nat) (μ : ι → Nat) (i : ι) (h0 : Weak σ (l i) (hl i) n) (hr : ∀ i, VC P N x (st (l i) (hl i) n) (RQ l hl n μ i Q)) : VC P N (.loop x) σ Q := ⟨fun C a W r => by
  refine wp_loop_ghost (fun m a' W' => ∃ i, μ i = m ∧ RelS C N (st (l i) (hl i) n) a' W') (μ i) ⟨i, rfl, j7m r h0⟩ ?_
  rintro m a' W' ⟨i, rfl, hI⟩
  refine Code.wp_mono ?_ ((hr i).out C a' W' hI)
  rintro e a'' W'' ⟨σ', h3, h4⟩
  cases h3 with
  | next j h5 h6 => exact ⟨μ j, h6, j, rfl, j7m h4 h5⟩
  | ret h => exact ⟨σ', h, h4⟩
  | exit h => exact ⟨σ', h, h4⟩⟩
theorem VC.weak {c : Code} (l : List (Nat × AV)) (hl : List (Nat × Blkd)) (n : Nat) (hw : Weak σ l hl n) (h : VC P N c (st l hl n) Q) : VC P N c σ Q := ⟨fun C a W r => h.out C a W (j7m r hw)⟩
theorem VC.mono {c : Code} {Q' : Exit → ASt → Prop} (h : VC P N c σ Q) (hq : ∀ e σ, Q e σ → Q' e σ) : VC P N c σ Q' := ⟨fun C a W r => Code.wp_mono (fun e a' W' ⟨σ', h1, h2⟩ => ⟨σ', hq e σ' h1, h2⟩) (h.out C a W r)⟩
theorem dst_of {l : List Oper} (hd : dstOk l.toArray N = true) : ∀ o ∈ l, ∀ d, o.dst = some d → d < N := by
  intro o ho d hod
  have := List.all_eq_true.1 hd o ho
  rw [hod] at this
  simpa using this
theorem VC.region {id : Nat} {l : List Oper} {t : Nat → AV} {h : Nat → Option Blkd} {n : Nat} (hd : dstOk l.toArray N = true) (hL : Nat.ble (n + 8 * l.length) L0 = true) (H : AO P l.toArray l n t h [] fun t h fs => Q .normal ⟨t, h, n + 8 * l.length⟩) : VC P N (.region id l.toArray false) ⟨t, h, n⟩ Q := ⟨fun C a W r => by
  obtain ⟨ro, φ, r⟩ := r
  have hL := Nat.le_of_ble_eq_true hL
  refine wp_region_list (aops_list l n t h [] _ H.out (dst_of hd) (Used n) ro φ a W (fun j hj hj2 h => by unfold Used at h; omega) r fun t' h' fs' ro' φ' a' W' hR r' => ?_)
  refine ⟨_, hR, ro', φ', r'.take fun j hj => ?_⟩
  unfold Used at hj ⊢
  simp only [] at hj ⊢
  omega⟩
theorem VC.draw {id : Nat} {l : List Oper} {t : Nat → AV} {h : Nat → Option Blkd} {n : Nat} (hmix : P.follows .mixedOrders = true) (hd : dstOk l.toArray N = true) (hL : Nat.ble (n + 8 * l.length) L0 = true) (H : AO P l.toArray l n t h [] fun t h fs => okD l.toArray fs = true ∧ Q .normal ⟨t, h, n + 8 * l.length⟩) : VC P N (.region id l.toArray true) ⟨t, h, n⟩ Q := ⟨fun C a W r => by
  obtain ⟨ro, φ, r⟩ := r
  have hL := Nat.le_of_ble_eq_true hL
  have r0 : Rel C (Used n) N t h ro φ a { W with drawn := W.drawn + 1 } := r.world rfl rfl rfl rfl
  refine wp_region_any hmix (aops_any H.out (fun t' h' fs hR => hR.1) (fun o ho => dst_of hd o (by simpa using ho)) (fun j hj hj2 h => by simp only [List.size_toArray] at hj2; unfold Used at h; omega) r0 fun t' h' fs' ro' φ' a' W' hR r' => ?_)
  refine ⟨_, hR.2, ro', φ', r'.take fun j hj => ?_⟩
  simp only [List.size_toArray] at hj ⊢
  unfold Used at hj ⊢
  omega⟩
variable {o : Oper} {l : List Oper} {n : Nat} {t : Nat → AV} {h : Nat → Option Blkd} {fs : Foot} {R : (Nat → AV) → (Nat → Option Blkd) → Foot → Prop}
theorem AO.step (H : ∀ K : Eff → Prop, (∀ v rd wr, AO P ops l (n + 8) (putd o.dst v t) (wrs wr h) (fs ++ [(rd, wr.map (·.1))]) R → K ⟨v, rd, wr⟩) → opx P ops o n t h K) : AO P ops (o :: l) n t h fs R :=
  ⟨opx_sound (H _ fun _ _ _ h => h.out)⟩
theorem AO.nil (H : R t h fs) : AO P ops [] n t h fs R := ⟨H⟩
class Pass (A : Prop) (B : outParam Prop) : Prop where
  p : B → A
theorem pass {A B : Prop} [h : Pass A B] (b : B) : A := h.p b
instance p1 {x y : Code} {σ : ASt} {Q : Exit → ASt → Prop} : Pass (VC P N (.seq x y) σ Q) (VC P N x σ (SQ P N y Q)) := ⟨VC.seq⟩
instance p2 {id : Nat} {x : Code} {σ : ASt} {Q : Exit → ASt → Prop} : Pass (VC P N (.block id x) σ Q) (VC P N x σ (BQ id Q)) := ⟨VC.block⟩
instance p3 {σ : ASt} {Q : Exit → ASt → Prop} : Pass (VC P N .skip σ Q) (Q .normal σ) := ⟨VC.skip⟩
instance p4 {id : Nat} {σ : ASt} {Q : Exit → ASt → Prop} : Pass (VC P N (.exit id) σ Q) (Q (.exit id) σ) := ⟨VC.exit⟩
instance p5 {σ : ASt} {Q : Exit → ASt → Prop} : Pass (VC P N .ret σ Q) (Q .ret σ) := ⟨VC.ret⟩
instance p6 {y : Code} {σ : ASt} {Q : Exit → ASt → Prop} : Pass (SQ P N y Q .normal σ) (VC P N y σ Q) := ⟨.normal⟩
instance p7 {y : Code} {σ : ASt} {Q : Exit → ASt → Prop} : Pass (SQ P N y Q .ret σ) (Q .ret σ) := ⟨.ret⟩
instance p8 {y : Code} {σ : ASt} {Q : Exit → ASt → Prop} {id : Nat} : Pass (SQ P N y Q (.exit id) σ) (Q (.exit id) σ) := ⟨.exit⟩
instance p9 {id : Nat} {σ : ASt} {Q : Exit → ASt → Prop} : Pass (BQ id Q .normal σ) (Q .normal σ) := ⟨.normal⟩
instance p10 {id : Nat} {σ : ASt} {Q : Exit → ASt → Prop} : Pass (BQ id Q .ret σ) (Q .ret σ) := ⟨.ret⟩
instance p11 {id : Nat} {σ : ASt} {Q : Exit → ASt → Prop} : Pass (BQ id Q (.exit id) σ) (Q .normal σ) := ⟨.exit⟩
instance p12 {ι : Type} {lv : ι → List (Nat × AV)} {hl : ι → List (Nat × Blkd)} {n : Nat} {μ : ι → Nat} {i : ι} {σ : ASt} {Q : Exit → ASt → Prop} : Pass (RQ lv hl n μ i Q .ret σ) (Q .ret σ) := ⟨.ret⟩
instance p13 {ι : Type} {lv : ι → List (Nat × AV)} {hl : ι → List (Nat × Blkd)} {n : Nat} {μ : ι → Nat} {i : ι} {σ : ASt} {Q : Exit → ASt → Prop} {id : Nat} : Pass (RQ lv hl n μ i Q (.exit id) σ) (Q (.exit id) σ) := ⟨.exit⟩
instance p14 {lv : List (Nat × AV)} {hl : List (Nat × Blkd)} {n : Nat} {σ : ASt} {Q : Exit → ASt → Prop} : Pass (MQ lv hl n Q .ret σ) (Q .ret σ) := ⟨.ret⟩
instance p15 {lv : List (Nat × AV)} {hl : List (Nat × Blkd)} {n : Nat} {σ : ASt} {Q : Exit → ASt → Prop} {id : Nat} : Pass (MQ lv hl n Q (.exit id) σ) (Q (.exit id) σ) := ⟨.exit⟩
instance p16 {n : Nat} {t : Nat → AV} {h : Nat → Option Blkd} {fs : Foot} {R : (Nat → AV) → (Nat → Option Blkd) → Foot → Prop} : Pass (AO P ops [] n t h fs R) (R t h fs) := ⟨AO.nil⟩
theorem VC.meet {x y : Code} (l : List (Nat × AV)) (hl : List (Nat × Blkd)) (n : Nat) (h1 : VC P N x σ (MQ l hl n Q)) (h2 : VC P N y (st l hl n) Q) : VC P N x σ (SQ P N y Q) :=
  h1.mono fun e σ h => by
    cases h with
    | normal h => exact .normal (VC.weak l hl n h h2)
    | ret h => exact .ret h
    | exit h => exact .exit h
theorem VC.nil {c : Code} {t : Nat → AV} {h : Nat → Option Blkd} {n : Nat} (k : Nat) (T : TypeId) (z : Nat) (hk : (t k).get = .c (.v (.slice none 0 0))) (ho : (t k).okb) (hn : Nat.ble (n + 1) L0 = true) (hv : VC P N c ⟨upd t k (.row n 0), upd h n (some ⟨true, T, z, []⟩), n + 8⟩ Q) : VC P N c ⟨t, h, n⟩ Q := ⟨fun C a W r => by
  obtain ⟨ro, φ, r⟩ := r
  have hn := Nat.le_of_ble_eq_true hn
  have hnu : ¬ Used n n := fun hu => by unfold Used at hu; omega
  have r2 : Rel C (fun j => Used n j ∨ j = n) N t (upd h n (some ⟨true, T, z, []⟩)) ro (upd φ n (.slice none 0 0)) a W :=
    r.block (W' := W) (Keeps.refl _ _) (fun b hb => by simp [q0y] at hb) (.inr hnu)
      ⟨fun i e he => by simp at he, fun e he => by simp at he, [], ⟨rfl, fun j x v hx => by simp at hx⟩, by rw [if_pos rfl, q1a]; exact World.ownsRow_nil W 0 T z⟩ (fun e he => by simp at he)
  have r3 := r2.take (used' := Used (n + 8)) fun j hj => by
    unfold Used at hj ⊢
    omega
  have hv0 := (r.tm k).get ho
  rw [hk] at hv0
  have hv1 := q13 hv0
  refine hv.out C a W ⟨ro, _, r3.keep, r3.defers, r3.size, fun m => ?_, r3.hp, r3.inj, r3.own, r3.rolt, r3.ro0, r3.ronew, fun m => ?_, r3.scH, r3.lent, r3.glob⟩
  · show Rep W ro _ _ (upd t k (.row n 0) m) _
    by_cases hm : m = k
    · rw [hm, q1a, hv1]
      exact .row rfl fun B hB hl => by rw [q1a]
    · rw [q1p _ _ hm]
      exact r3.tm m
  · show Sc _ _ (upd t k (.row n 0) m)
    by_cases hm : m = k
    · rw [hm, q1a]
      exact .row (by unfold Used; simp only []; omega) fun B hB => Nat.zero_le _
    · rw [q1p _ _ hm]
      exact r3.scT m⟩
theorem VC.told {f : FuncId} (hE : q0n P f) {fn : Func} {c : Code} {args : List AV} {y : AV} (hf : P.funcs[f]? = some fn) (hb : fn.body = some c) (hn : fn.ntmps = N) (hN : args.length ≤ N) (hp : AV.pureL args = true) (hy : y.pureB = true)
    (hv : (∀ x ∈ args, ABd x) → VC P N c ⟨argT args, fun _ => none, 0⟩ fun e σ => (e = .normal ∨ e = .ret) ∧ q1x P noK σ fn.results.toList y) : Told P f args y := by
  refine told_wpI hE hf hb hn hN hp hy fun hbd C a W r => (hv hbd).out C a W r
def rhoE (n : Nat) (news : List Nat) (j : Nat) : Nat := if j < 1000000 + n then j else (news[j - (1000000 + n)]?).getD j
def q4m (news : List Nat) (j : Nat) : Bool := decide (1000000 ≤ j) || news.contains j
def q4t (h : Nat → Option Blkd) (ρ : Nat → Nat) : Nat → List (Option Blkd) → Prop
  | _, [] => True
  | i, none :: l => q4t h ρ (i + 1) l
  | i, some B :: l => h (ρ i) = some (B.ren ρ) ∧ q4t h ρ (i + 1) l
theorem j59 {h : Nat → Option Blkd} {ρ : Nat → Nat} : ∀ (l : List (Option Blkd)) (m : Nat), q4t h ρ m l → ∀ i B, l[i]? = some (some B) → h (ρ (m + i)) = some (B.ren ρ)
  | [], _, _, i, B, hi => by simp at hi
  | none :: l, m, he, 0, B, hi => by simp at hi
  | none :: l, m, he, i + 1, B, hi => by
    have := j59 l (m + 1) he i B (by simpa using hi)
    rwa [show m + 1 + i = m + (i + 1) from by omega] at this
  | some C :: l, m, he, 0, B, hi => by simp at hi; subst hi; exact he.1
  | some C :: l, m, he, i + 1, B, hi => by
    have := j59 l (m + 1) he.2 i B (by simpa using hi)
    rwa [show m + 1 + i = m + (i + 1) from by omega] at this
theorem VC.toldM {f : FuncId} (hE : q0n P f) {fn : Func} {c : Code} {args : List AV} {L : List Blkd} {L' : List (Option Blkd)} {y : AV} (news : List Nat) (hf : P.funcs[f]? = some fn) (hb : fn.body = some c) (hn : fn.ntmps = N) (hN : args.length ≤ N)
    (hsc : ∀ x ∈ args, Sc (Used 0) (q0l (L.map some)) x) (hscL : ∀ B ∈ L, ∀ e ∈ B.elems, ScL (Used 0) (q0l (L.map some)) e)
    (hz : zOk L L') (hsM : ScM L' y) (hnews : L'.length = L.length + news.length ∧ news.Nodup ∧ ∀ k ∈ news, k < 1000000)
    (hv : (∀ x ∈ args, x.pureB = true → ABd x) → (∀ B ∈ L, (B.row = true → B.len ≤ 9223372036854775807) ∧ ∀ e ∈ B.elems, ∀ x ∈ e, x.pureB = true → ABd x) →
      VC P N c ⟨argT args, q0l (L.map some), 0⟩ fun e σ => (e = .normal ∨ e = .ret) ∧ q4t σ.h (rhoE L.length news) 1000000 L' ∧ q1x P (q4m news) σ fn.results.toList (y.ren (rhoE L.length news))) : ToldM P f args L L' y := by
  refine ⟨hE, hz, hsM, ?_⟩
  have hLL := j3u L L' hz
  obtain ⟨hn1, hn2, hn3⟩ := hnews
  intro W ro φ vs hro hgk hl hok
  have hbd : ∀ x ∈ args, x.pureB = true → ABd x := by
    intro x hx hp
    obtain ⟨j, hj, hje⟩ := List.getElem_of_mem hx
    have h1 : args[j]? = some x := by rw [List.getElem?_eq_getElem hj, hje]
    exact (hl.2 j x _ h1 (List.getElem?_eq_getElem (show j < vs.length by rw [hl.1]; exact hj))).bd (q7z x hp)
  have hbdL : ∀ B ∈ L, (B.row = true → B.len ≤ 9223372036854775807) ∧ ∀ e ∈ B.elems, ∀ x ∈ e, x.pureB = true → ABd x := by
    intro B hB
    obtain ⟨j, hj, rfl⟩ := List.getElem_of_mem hB
    have h1 := hok.hp _ _ (z0x (List.getElem?_eq_getElem hj))
    obtain ⟨_, _, cs, h3, h4⟩ := h1
    refine ⟨fun hr => ?_, fun e he x hx hp => ?_⟩
    · rw [if_pos hr] at h4
      rcases h4.2 with ⟨_, h6⟩ | ⟨g, cap, cur, h5, _, h6, h7, h8, _⟩
      · omega
      · unfold maxLen at h8
        omega
    · obtain ⟨k, hk, hke⟩ := List.getElem_of_mem (List.mem_flatten.2 ⟨e, he, hx⟩)
      have h1 : L[j].elems.flatten[k]? = some x := by rw [List.getElem?_eq_getElem hk, hke]
      exact (h3.2 k x _ h1 (List.getElem?_eq_getElem (show k < cs.length by rw [h3.1]; exact hk))).bd (q7z x hp)
  refine calls_of_wp hf hb ?_
  have hsz : (vs.toArray ++ Array.replicate (fn.ntmps - vs.toArray.size) undef).size = N := by
    have := hl.1
    simp [hn]
    omega
  have hget : ∀ k, k < vs.length → (vs.toArray ++ Array.replicate (fn.ntmps - vs.toArray.size) undef).getD k undef = (vs[k]?).getD undef := by
    intro k hk
    simp only [Array.getD_eq_getD_getElem?]
    rw [Array.getElem?_append_left (by simpa using hk)]
    simp
  have r0 : RelS (P := P) ⟨W, fun b => ∃ j B, q0l (L.map some) j = some B ∧ q0y (φ j) = some b, ro, fun j => (q0l (L.map some) j).map (·.len), φ⟩ N ⟨argT args, q0l (L.map some), 0⟩ { tmps := vs.toArray ++ Array.replicate (fn.ntmps - vs.toArray.size) undef, defers := [] } W := by
    refine ⟨ro, φ, Keeps.refl _ _, rfl, hsz, fun k => ?_, hok.hp, hok.inj, fun j B1 b h1 h2 => ⟨hok.own j B1 b h1 h2, fun _ => ⟨j, B1, h1, h2⟩⟩, hro, fun b h => h, fun b h => .inl h, fun k => ?_, fun j B1 h => ?_, fun j n h => ?_, ⟨fun b hb => ⟨hro b hb, fun ⟨j, B1, h1, h2⟩ => hok.own j B1 b h1 h2 hb⟩, hgk⟩⟩
    · simp only [argT]
      cases hk : args[k]? with
      | none => exact .any _
      | some x =>
        have hlt := (List.getElem?_eq_some_iff.1 hk).1
        have hlt' : k < vs.length := by rw [hl.1]; exact hlt
        simp only [Option.getD_some]
        rw [hget k hlt', List.getElem?_eq_getElem hlt', Option.getD_some]
        exact hl.2 k x _ hk (List.getElem?_eq_getElem hlt')
    · simp only [argT]
      cases hk : args[k]? with
      | none => exact .any
      | some x => exact hsc x (List.mem_of_getElem? hk)
    · obtain ⟨h1, h2⟩ := z0y h
      exact ⟨.inr h1, hscL B1 (List.mem_of_getElem? h2)⟩
    · obtain ⟨B, h1, h2⟩ := Option.map_eq_some_iff.1 h
      obtain ⟨h3, _⟩ := q4n h1
      refine ⟨h3, .inr h3, fun B1 h4 => ?_⟩
      replace h4 : q0l (L.map some) j = some B1 := h4
      rw [h1] at h4
      obtain rfl := Option.some.inj h4
      exact ⟨by omega, fun _ => rfl⟩
  refine Code.wp_mono ?_ ((hv hbd hbdL).out _ _ _ r0)
  intro e a' W' h
  obtain ⟨σ', ⟨he, hend, hres⟩, ro', φ', r⟩ := h
  obtain ⟨v, h1, h2⟩ := res_run r hres
  obtain ⟨ρ, hρ⟩ : ∃ ρ, ρ = rhoE L.length news := ⟨_, rfl⟩
  rw [← hρ] at hend h2
  have hkeep : ∀ j B, q0l L' j = some B → σ'.h (ρ j) = some (B.ren ρ) ∧ q4m news (ρ j) = true := by
    intro j B hj
    obtain ⟨h3, h4⟩ := q4n hj
    refine ⟨?_, ?_⟩
    · have := j59 L' 1000000 hend _ B h4
      rwa [show 1000000 + (j - 1000000) = j from by omega] at this
    · rw [hρ]
      unfold rhoE q4m
      by_cases hlt : j < 1000000 + L.length
      · rw [if_pos hlt]; simp [h3]
      · rw [if_neg hlt]
        have hi : j - (1000000 + L.length) < news.length := by
          have := (List.getElem?_eq_some_iff.1 h4).1
          omega
        rw [List.getElem?_eq_getElem hi]
        simp
  have hinj : ∀ j k B B', q0l L' j = some B → q0l L' k = some B' → ρ j = ρ k → j = k := by
    intro j k B B' hj hk e
    obtain ⟨h3, h4⟩ := q4n hj
    obtain ⟨h5, h6⟩ := q4n hk
    have h7 := (List.getElem?_eq_some_iff.1 h4).1
    have h8 := (List.getElem?_eq_some_iff.1 h6).1
    rw [hρ] at e
    unfold rhoE at e
    by_cases hlt : j < 1000000 + L.length <;> by_cases hlt' : k < 1000000 + L.length
    · rwa [if_pos hlt, if_pos hlt'] at e
    · rw [if_pos hlt, if_neg hlt', List.getElem?_eq_getElem (show k - (1000000 + L.length) < news.length by omega)] at e
      have := hn3 _ (List.getElem_mem (show k - (1000000 + L.length) < news.length by omega))
      simp only [Option.getD_some] at e
      omega
    · rw [if_neg hlt, if_pos hlt', List.getElem?_eq_getElem (show j - (1000000 + L.length) < news.length by omega)] at e
      have := hn3 _ (List.getElem_mem (show j - (1000000 + L.length) < news.length by omega))
      simp only [Option.getD_some] at e
      omega
    · rw [if_neg hlt, if_neg hlt', List.getElem?_eq_getElem (show k - (1000000 + L.length) < news.length by omega), List.getElem?_eq_getElem (show j - (1000000 + L.length) < news.length by omega)] at e
      simp only [Option.getD_some] at e
      have h9 : news[j - (1000000 + L.length)]? = news[k - (1000000 + L.length)]? := by
        rw [List.getElem?_eq_getElem (show k - (1000000 + L.length) < news.length by omega), List.getElem?_eq_getElem (show j - (1000000 + L.length) < news.length by omega), e]
      have := (List.getElem?_inj (show j - (1000000 + L.length) < news.length by omega) hn2).1 h9
      omega
  obtain ⟨ro2, hro2⟩ : ∃ ro2 : Nat → Prop, ro2 = fun b => ro' b ∨ ∃ j B, σ'.h j = some B ∧ q4m news j = false ∧ q0y (φ' j) = some b := ⟨_, rfl⟩
  rw [← hro2] at h2
  have hsub : ∀ b, ro' b → ro2 b := fun b hb => by rw [hro2]; exact .inl hb
  have hfrom : ∀ j Bc, q0l L' j = some Bc → ∃ B, (fun j => if q4m news j = true then σ'.h j else none) (ρ j) = some B ∧ B.len = Bc.len ∧ B.z = Bc.z := by
    intro j Bc hj
    obtain ⟨h3, h4⟩ := hkeep j Bc hj
    exact ⟨_, by simp only [h4, if_true]; exact h3, q7b _ _, rfl⟩
  have hfrom0 : ∀ j Bc, q0l L' j = some Bc → ∃ B, σ'.h (ρ j) = some B ∧ B.len = Bc.len ∧ B.z = Bc.z := by
    intro j Bc hj
    obtain ⟨h3, h4⟩ := hkeep j Bc hj
    exact ⟨_, h3, q7b _ _, rfl⟩
  have hlt : ∀ b, ro2 b → (ro b ∨ W.heap.size ≤ b ∨ ∃ j B, q0l (L.map some) j = some B ∧ q0y (φ j) = some b) ∧ b < W'.heap.size := by
    intro b hb
    rw [hro2] at hb
    rcases hb with hb | ⟨j, B, hB, _, hb⟩
    · exact ⟨r.ronew b hb, r.rolt b hb⟩
    · refine ⟨?_, r.blk_lt hB hb⟩
      rcases Nat.lt_or_ge b W.heap.size with h | h
      · exact .inr (.inr ((r.own j B b hB hb).2 h))
      · exact .inr (.inl h)
  have hpost : ∃ v' ro' φ'', Ending.returned v = .returned v' ∧ Keeps (fun b => ∃ j B, q0l (L.map some) j = some B ∧ q0y (φ j) = some b) W W' ∧ (∀ b, ro b → ro' b) ∧
      (∀ b, ro' b → (ro b ∨ W.heap.size ≤ b ∨ ∃ j B, q0l (L.map some) j = some B ∧ q0y (φ j) = some b) ∧ b < W'.heap.size) ∧ Rep W' ro' φ'' (q0l L') y v' ∧ HOk W' ro' φ'' (q0l L') ∧
      Goes (inL L.length) φ φ'' (q0l (L.map some)) (q0l L') ∧ (∀ j B b, q0l L' j = some B → q0y (φ'' j) = some b → W.heap.size ≤ b ∨ ∃ j B, q0l (L.map some) j = some B ∧ q0y (φ j) = some b) := by
    refine ⟨v, ro2, fun j => φ' (ρ j), rfl, r.keep, fun b hb => hsub b (r.ro0 b hb), hlt, Rep.renFrom (ρ := ρ) (φc := fun j => φ' (ρ j)) hfrom (fun _ _ _ => rfl) h2 y rfl, ⟨fun j B hj => ?_, fun j k B B' b hj hk hne hb => ?_, fun j B b hj hb => ?_⟩, fun j B' hj hB' => ?_, fun j B b hj hb => ?_⟩
    · obtain ⟨h3, _⟩ := hkeep j B hj
      have h5 := (r.hp _ _ h3).map (W' := W') (ro' := ro2) (φ' := φ') (h' := σ'.h) (r.scH _ _ h3).2 (fun _ _ => rfl) hsub (fun j B' _ h => ⟨B', h, .inr ⟨rfl, rfl, rfl⟩⟩) rfl (fun _ _ => rfl)
      exact h5.renFrom hfrom0 (fun _ _ _ => rfl) rfl
    · obtain ⟨h3, _⟩ := hkeep j B hj
      obtain ⟨h4, _⟩ := hkeep k B' hk
      exact r.inj _ _ _ _ b h3 h4 (fun e => hne (hinj j k B B' hj hk e)) hb
    · obtain ⟨h3, h4⟩ := hkeep j B hj
      intro hr
      rw [hro2] at hr
      rcases hr with hr | ⟨k, B2, h5, h6, h7⟩
      · exact (r.own _ _ b h3 hb).1 hr
      · refine r.inj _ _ _ _ b h5 h3 (fun e => ?_) h7 hb
        rw [e, h4] at h6
        exact absurd h6 (by simp)
    · obtain ⟨h3, h4⟩ := hkeep j B' hB'
      obtain ⟨h5, h6⟩ := q4n hB'
      have hρj : ρ j = j := by rw [hρ]; exact if_pos hj.2
      obtain ⟨B, hB⟩ : ∃ B, L[j - 1000000]? = some B := ⟨_, List.getElem?_eq_getElem (show j - 1000000 < L.length by have := hj.2; omega)⟩
      have hBl : q0l (L.map some) j = some B := by
        have := z0x hB
        rwa [show 1000000 + (j - 1000000) = j from by omega] at this
      obtain ⟨_, _, h7⟩ := r.lent j B.len (by simp only []; rw [hBl]; rfl)
      rw [hρj] at h3
      obtain ⟨h8, h9⟩ := h7 _ h3
      rw [q7b] at h8 h9
      refine ⟨B, hBl, ?_⟩
      rcases Nat.lt_or_ge B.len B'.len with h10 | h10
      · exact .inl h10
      · exact .inr ⟨by omega, (zOk_at L L' hz _ B B' hB h6).symm, by simp only []; rw [hρj]; exact h9 (by omega)⟩
    · obtain ⟨h3, h4⟩ := hkeep j B hj
      rcases Nat.lt_or_ge b W.heap.size with h | h
      · exact .inr ((r.own _ _ b h3 hb).2 h)
      · exact .inl h
  rcases he with rfl | rfl
  · exact bodyPost_end h1 r.defers hpost
  · exact bodyPost_ret h1 r.defers hpost
end
inductive Co : AV → AV → Prop
  | same (x : AV) : Co x x
  | nil (z : Nat) : Co (.c (.v (.slice none 0 0))) (.c (.sl z []))
  | agg {l m : List AV} (hl : m.length = l.length) (hx : ∀ (k : Nat) (x y : AV), l[k]? = some x → m[k]? = some y → Co x y) : Co (.agg l) (.agg m)
theorem Co.rep {W : World} {ro : Nat → Prop} {φ : Nat → Value} {h : Nat → Option Blkd} {x y : AV} (hc : Co x y) : ∀ {v : Value}, Rep W ro φ h x v → Rep W ro φ h y v := by
  induction hc with
  | same x => exact fun h => h
  | nil z => intro v hr; obtain rfl := q13 hr; exact .c (PRep.nil _ _ z)
  | agg hl hx ih =>
    intro v hr
    cases hr with
    | agg hl' hx' =>
      rename_i l m vs
      refine .agg (by omega) fun k y u h1 h2 => ?_
      have hk : k < l.length := by have := (List.getElem?_eq_some_iff.1 h1).1; omega
      exact ih k _ y (List.getElem?_eq_getElem hk) h1 (hx' k _ u (List.getElem?_eq_getElem hk) h2)
inductive CoL : List AV → List AV → Prop
  | nil : CoL [] []
  | cons {x y : AV} {l m : List AV} (h : Co x y) (t : CoL l m) : CoL (x :: l) (y :: m)
theorem CoL.at_ {l m : List AV} (h : CoL l m) : m.length = l.length ∧ ∀ (k : Nat) (x y : AV), l[k]? = some x → m[k]? = some y → Co x y := by
  induction h with
  | nil => exact ⟨rfl, by simp⟩
  | cons h t ih =>
    refine ⟨by simp [ih.1], fun k x y h1 h2 => ?_⟩
    cases k with
    | zero => simp at h1 h2; subst h1 h2; exact h
    | succ k => exact ih.2 k x y (by simpa using h1) (by simpa using h2)
theorem Co.aggL {l m : List AV} (h : CoL l m) : Co (.agg l) (.agg m) := .agg h.at_.1 h.at_.2
theorem Told.co {P : Program} {f : FuncId} {args args' : List AV} {y : AV} (hT : Told P f args' y) (hc : CoL args args') : Told P f args y := by
  refine ⟨hT.1, fun W ro vs hro hgk hl => hT.2 W ro vs hro hgk ⟨by rw [hl.1, hc.at_.1], fun j y v h1 h2 => ?_⟩⟩
  have hk : j < args.length := by have := (List.getElem?_eq_some_iff.1 h1).1; have := hc.at_.1; omega
  exact (hc.at_.2 j _ y (List.getElem?_eq_getElem hk) h1).rep (hl.2 j _ v (List.getElem?_eq_getElem hk) h2)
inductive FrzL (K : Nat → Bool) (h : Nat → Option Blkd) : List AV → List AV → Prop
  | nil : FrzL K h [] []
  | cons {x y : AV} {l m : List AV} (e : Frz K h x y) (t : FrzL K h l m) : FrzL K h (x :: l) (y :: m)
theorem FrzL.at_ {K : Nat → Bool} {h : Nat → Option Blkd} {l m : List AV} (e : FrzL K h l m) : m.length = l.length ∧ ∀ (k : Nat) (x y : AV), l[k]? = some x → m[k]? = some y → Frz K h x y := by
  induction e with
  | nil => exact ⟨rfl, by simp⟩
  | cons e t ih =>
    refine ⟨by simp [ih.1], fun k x y h1 h2 => ?_⟩
    cases k with
    | zero => simp at h1 h2; subst h1 h2; exact e
    | succ k => exact ih.2 k x y (by simpa using h1) (by simpa using h2)
theorem Frz.aggL {K : Nat → Bool} {h : Nat → Option Blkd} {l m : List AV} (e : FrzL K h l m) : Frz K h (.agg l) (.agg m) := .agg e.at_.1 e.at_.2
theorem Frz.fnL {K : Nat → Bool} {h : Nat → Option Blkd} {f : Fn} {l m l' m' : List AV} (e : FrzL K h l l') (e' : FrzL K h m m') : Frz K h (.fn f l m) (.fn f l' m') := .fn e.at_.1 e.at_.2 e'.at_.1 e'.at_.2
theorem Frz.cs {K : Nat → Bool} (h : Nat → Option Blkd) (l : List PV) : Frz K h (.agg (l.map .c)) (.agg (l.map .c)) := .agg rfl fun k x y h1 h2 => by
  rw [h1] at h2
  obtain rfl := Option.some.inj h2
  obtain ⟨p, _, rfl⟩ := List.mem_map.1 (List.mem_of_getElem? h1)
  exact .c p
theorem q8a {α : Type} (f : Nat → α) (k m : Nat) (x : α) : upd f k x m = if m = k then x else f m := rfl
theorem q83 {α : Type} (k : Nat) (x : α) (f : Nat → α) : putd (some k) x f = upd f k x := rfl
theorem q82 {α : Type} (x : α) (f : Nat → α) : putd none x f = f := rfl
theorem j1w (h : Nat → Option Blkd) : wrs [] h = h := rfl
theorem q60 (p : Nat × Option Blkd) (l : List (Nat × Option Blkd)) (h : Nat → Option Blkd) : wrs (p :: l) h = wrs l (upd h p.1 p.2) := rfl
theorem q8z {α : Type} (d : α) (k : Nat) : look d [] k = d := rfl
theorem q8y {α : Type} (d : α) (p : Nat × α) (l : List (Nat × α)) (k : Nat) : look d (p :: l) k = if k = p.1 then p.2 else look d l k := rfl
theorem q8h (args : List AV) (k : Nat) : argT args k = (args[k]?).getD .any := rfl
theorem q50 (b p : Bool) : q5z b p false = (b && p) := by cases b <;> simp [q5z]
theorem q8j (b q : Bool) : q5z b true q = (b || q) := by cases b <;> simp [q5z]
theorem q8k (p q : Bool) : q5z true p q = p := rfl
theorem q8i (p q : Bool) : q5z false p q = q := rfl
theorem q03 {used : Nat → Prop} {h : Nat → Option Blkd} : Sc used h .any = True := eq_true .any
theorem sc_c {used : Nat → Prop} {h : Nat → Option Blkd} (p : PV) : Sc used h (.c p) = True := eq_true .c
theorem q05 {used : Nat → Prop} {h : Nat → Option Blkd} (p : List PV) : Sc used h (.pp p) = True := eq_true .pp
theorem q06 {used : Nat → Prop} {h : Nat → Option Blkd} (j n i off : Nat) : Sc used h (.ref j n i off) = (used j ∧ ∀ B, h j = some B → n ≤ B.len) := by
  apply propext
  constructor
  · intro hs; cases hs with | ref h1 h2 => exact ⟨h1, h2⟩
  · exact fun ⟨h1, h2⟩ => .ref h1 h2
theorem q07 {used : Nat → Prop} {h : Nat → Option Blkd} (j n : Nat) : Sc used h (.row j n) = (used j ∧ ∀ B, h j = some B → n ≤ B.len) := by
  apply propext
  constructor
  · intro hs; cases hs with | row h1 h2 => exact ⟨h1, h2⟩
  · exact fun ⟨h1, h2⟩ => .row h1 h2
theorem q02 {used : Nat → Prop} {h : Nat → Option Blkd} (l : List AV) : Sc used h (.agg l) = ∀ x ∈ l, Sc used h x := by
  apply propext
  constructor
  · intro hs; cases hs with | agg h1 => exact h1
  · exact fun h1 => .agg h1
theorem q72 {used : Nat → Prop} {h : Nat → Option Blkd} (l : List AV) : Sc used h (.tup l) = ∀ x ∈ l, Sc used h x := by
  apply propext
  constructor
  · intro hs; cases hs with | tup h1 => exact h1
  · exact .tup
theorem q04 {used : Nat → Prop} {h : Nat → Option Blkd} (f : Fn) (l m : List AV) : Sc used h (.fn f l m) = ((∀ x ∈ l, Sc used h x) ∧ ∀ x ∈ m, Sc used h x) := by
  apply propext
  constructor
  · intro hs; cases hs with | fn h1 h2 => exact ⟨h1, h2⟩
  · exact fun ⟨h1, h2⟩ => .fn h1 h2
theorem q8f (l : List AV) : ABd (.agg l) = ∀ x ∈ l, ABd x := propext ⟨fun h => by cases h with | agg h => exact h, fun h => .agg h⟩
theorem q47 (p : PV) : ABd (.c p) = PBd p := propext ⟨fun h => by cases h with | c h => exact h, fun h => .c h⟩
theorem q81 (x : Value) : PBd (.v x) = True := eq_true (.v x)
theorem q5d (z : Nat) (es : List (List PV)) : PBd (.sl z es) = (es.length ≤ 9223372036854775807 ∧ ∀ e ∈ es, ∀ p ∈ e, PBd p) := propext ⟨fun h => by cases h with | sl h1 h2 => exact ⟨h1, h2⟩, fun h => .sl h.1 h.2⟩
theorem q20 (l : List PV) : AV.pureL (l.map .c) = true := by induction l with | nil => rfl | cons p l ih => simpa [AV.pureL, AV.pureB] using ih
theorem q8m {α : Type} {a : α} {p : α → Prop} : (∃ B, some a = some B ∧ p B) = p a := propext ⟨fun ⟨B, h1, h2⟩ => Option.some.inj h1 ▸ h2, fun h => ⟨a, rfl, h⟩⟩
theorem q8w (L : List (Option Blkd)) (j : Nat) : q0l L j = if 1000000 ≤ j then (L[j - 1000000]?).getD none else none := rfl
theorem pures (l : List PV) : AV.pureL (l.map .c) = true := q20 l
theorem q0w {n : Int} (h1 : -9223372036854775808 ≤ n) (h2 : n ≤ 9223372036854775807) : IntKind.i64.wrap n = n := IntWalk.i64_in n ⟨h1, h2⟩
theorem cI {k : IntKind} {a b : Int} (e : a = b) : AV.c (.v (.int k a)) = AV.c (.v (.int k b)) := by rw [e]
theorem q30 {K : Nat → Bool} {h : Nat → Option Blkd} {p q : PV} (e : p = q) : Frz K h (.c p) (.c q) := e ▸ .c p
theorem q08 {α : Type} (x : α) (p : α → Prop) : (∀ B, some x = some B → p B) = p x := propext ⟨fun h => h x rfl, fun h B e => Option.some.inj e ▸ h⟩

end Go.Proofs.YthkofkaocipomaaGreatDoor

namespace Go.Proofs.YthkofkaocipomaaGreatDoor
open Go.RowKit
set_option linter.unusedVariables false
set_option linter.unusedSimpArgs false

inductive FV (F : List Nat) (h : Nat → Option Blkd) : AV → AV → Prop
  | same (x : AV) : FV F h x x
  | any (x : AV) : FV F h x .any
  | nil (z : Nat) : FV F h (.c (.v (.slice none 0 0))) (.c (.sl z []))
  | fnV {f : Fn} : FV F h (.fn f [] []) (.c (.v (.func f ⟨[]⟩ ⟨[]⟩)))
  | ref {j n i off : Nat} {B : Blkd} {e : List AV} {es : List PV} (hj : j ∈ F) (hB : h j = some B) (hn : B.len = n) (hi : B.elems[i]? = some e) (he : e = es.map .c) : FV F h (.ref j n i off) (.pp (es.drop off))
  | fn {f : Fn} {l m l' m' : List AV} (hl : l'.length = l.length) (hx : ∀ (k : Nat) (x y : AV), l[k]? = some x → l'[k]? = some y → FV F h x y) (hl' : m'.length = m.length) (hx' : ∀ (k : Nat) (x y : AV), m[k]? = some x → m'[k]? = some y → FV F h x y) : FV F h (.fn f l m) (.fn f l' m')
  | row {j n : Nat} {B : Blkd} {es : List (List PV)} (hj : j ∈ F) (hB : h j = some B) (hr : B.row = true) (hn : B.len = n) (he : B.elems = es.map fun e => e.map .c) : FV F h (.row j n) (.c (.sl B.z es))
  | agg {l m : List AV} (hl : m.length = l.length) (hx : ∀ (k : Nat) (x y : AV), l[k]? = some x → m[k]? = some y → FV F h x y) : FV F h (.agg l) (.agg m)
inductive FVL (F : List Nat) (h : Nat → Option Blkd) : List AV → List AV → Prop
  | nil : FVL F h [] []
  | cons {x y : AV} {l m : List AV} (e : FV F h x y) (t : FVL F h l m) : FVL F h (x :: l) (y :: m)
theorem FVL.at_ {F : List Nat} {h : Nat → Option Blkd} {l m : List AV} (e : FVL F h l m) : m.length = l.length ∧ ∀ (k : Nat) (x y : AV), l[k]? = some x → m[k]? = some y → FV F h x y := by
  induction e with
  | nil => exact ⟨rfl, by simp⟩
  | cons e t ih =>
    refine ⟨by simp [ih.1], fun k x y h1 h2 => ?_⟩
    cases k with
    | zero => simp at h1 h2; subst h1 h2; exact e
    | succ k => exact ih.2 k x y (by simpa using h1) (by simpa using h2)
theorem FV.aggL {F : List Nat} {h : Nat → Option Blkd} {l m : List AV} (e : FVL F h l m) : FV F h (.agg l) (.agg m) := .agg e.at_.1 e.at_.2
theorem FV.fnL {F : List Nat} {h : Nat → Option Blkd} {f : Fn} {l m l' m' : List AV} (e : FVL F h l l') (e' : FVL F h m m') : FV F h (.fn f l m) (.fn f l' m') := .fn e.at_.1 e.at_.2 e'.at_.1 e'.at_.2
theorem FVL.same (F : List Nat) (h : Nat → Option Blkd) : ∀ (l : List AV), FVL F h l l
  | [] => .nil
  | x :: l => .cons (.same x) (FVL.same F h l)
inductive FB (F : List Nat) (h : Nat → Option Blkd) : Blkd → Blkd → Prop
  | same (B : Blkd) : FB F h B B
  | one {row : Bool} {T : TypeId} {z : Nat} {e e' : List AV} (he : FVL F h e e') (hc : ∀ x ∈ e', x.cellish = true) : FB F h ⟨row, T, z, [e]⟩ ⟨row, T, z, [e']⟩
  | set {row : Bool} {T : TypeId} {z : Nat} {es : List (List AV)} {i : Nat} {e e' : List AV} (hi : es[i]? = some e) (he : FVL F h e e') (hc : ∀ x ∈ e', x.cellish = true) : FB F h ⟨row, T, z, es⟩ ⟨row, T, z, es.set i e'⟩
  | many {row : Bool} {T : TypeId} {z : Nat} {es es' : List (List AV)} (hl : es'.length = es.length) (hx : ∀ (k : Nat) (e e' : List AV), es[k]? = some e → es'[k]? = some e' → FVL F h e e') (hc : ∀ e' ∈ es', ∀ x ∈ e', x.cellish = true) : FB F h ⟨row, T, z, es⟩ ⟨row, T, z, es'⟩
def WeakF (σ : ASt) (F : List Nat) (l : List (Nat × AV)) (hl : List (Nat × Blkd)) (n : Nat) : Prop :=
  (∀ p ∈ l, FV F σ.h (σ.t p.1).get p.2 ∧ (σ.t p.1).okb) ∧ (∀ p ∈ hl, p.1 ∉ F ∧ Used n p.1 ∧ ∃ B, σ.h p.1 = some B ∧ FB F σ.h B p.2) ∧ (∀ p ∈ l, Sc (Used n) (st l hl n).h p.2) ∧ (∀ p ∈ hl, ∀ e ∈ p.2.elems, ScL (Used n) (st l hl n).h e)
theorem FB.dims {F : List Nat} {h : Nat → Option Blkd} {B B' : Blkd} (e : FB F h B B') : B.row = B'.row ∧ B.T = B'.T ∧ B.z = B'.z ∧ B.len = B'.len ∧
    ∀ (i : Nat) (c c' : List AV), B.elems[i]? = some c → B'.elems[i]? = some c' → FVL F h c c' := by
  cases e with
  | same => exact ⟨rfl, rfl, rfl, rfl, fun i c c' h1 h2 => by rw [h1] at h2; obtain rfl := Option.some.inj h2; exact FVL.same _ _ _⟩
  | one he hc =>
    refine ⟨rfl, rfl, rfl, rfl, fun i c c' h1 h2 => ?_⟩
    cases i with
    | zero => simp at h1 h2; subst h1 h2; exact he
    | succ i => simp at h1
  | @set row T z es i e e' hi he hc =>
    refine ⟨rfl, rfl, rfl, by simp [Blkd.len], fun k c c' h1 h2 => ?_⟩
    simp only [] at h1 h2
    rw [List.getElem?_set] at h2
    split at h2
    · rename_i hk
      subst hk
      rw [hi] at h1
      obtain rfl := Option.some.inj h1
      split at h2
      · obtain rfl := Option.some.inj h2
        exact he
      · simp at h2
    · rw [h1] at h2
      obtain rfl := Option.some.inj h2
      exact FVL.same _ _ _
  | many hl hx hc => exact ⟨rfl, rfl, rfl, hl.symm, hx⟩
theorem z1v {P : Program} {C : Ctx P} {N : Nat} {σ : ASt} {a : Act} {W : World} {F : List Nat} {l : List (Nat × AV)} {hl : List (Nat × Blkd)} {n : Nat} (r : RelS C N σ a W) (hw : WeakF σ F l hl n) : RelS C N (st l hl n) a W := by
  obtain ⟨ro, φ, r⟩ := r
  obtain ⟨h1, h2, h3, h4⟩ := hw
  have hh : ∀ j B', (st l hl n).h j = some B' → j ∉ F ∧ Used n j ∧ (∃ p ∈ hl, p.2 = B') ∧ ∃ B, σ.h j = some B ∧ FB F σ.h B B' := by
    intro j B hB
    rcases q8x (d := none) (hl.map fun p => (p.1, some p.2)) j with h | ⟨p, hp, hpj, hpe⟩
    · simp only [st] at hB
      rw [h] at hB
      simp at hB
    · obtain ⟨q, hq, rfl⟩ := List.mem_map.1 hp
      simp only [st] at hB
      rw [hpe] at hB
      simp only [] at hB hpj
      obtain rfl := Option.some.inj hB
      subst hpj
      exact ⟨(h2 q hq).1, (h2 q hq).2.1, ⟨q, hq, rfl⟩, (h2 q hq).2.2⟩
  have hg : Goes (Used σ.n) φ φ σ.h (st l hl n).h := fun j B' hu hB => by
    obtain ⟨_, _, _, B, h5, h6⟩ := hh j B' hB
    exact ⟨B, h5, .inr ⟨h6.dims.2.2.2.1, h6.dims.2.2.1, rfl⟩⟩
  obtain ⟨ro', hro'⟩ : ∃ ro' : Nat → Prop, ro' = fun b => ro b ∨ ∃ j B, j ∈ F ∧ σ.h j = some B ∧ q0y (φ j) = some b := ⟨_, rfl⟩
  have hsub : ∀ b, ro b → ro' b := fun b hb => by rw [hro']; exact .inl hb
  have hfv : ∀ {x y : AV}, FV F σ.h x y → ∀ {v : Value}, Rep W ro φ σ.h x v → Sc (Used σ.n) σ.h x → Rep W ro' φ (st l hl n).h y v := by
    intro x y e
    induction e with
    | same x => exact fun hr hs => hr.map hs (fun _ _ => rfl) hsub hg
    | any x => exact fun _ _ => .any _
    | nil z =>
      intro v hrep _
      obtain rfl := q13 hrep
      exact .c (PRep.nil _ _ z)
    | fnV =>
      intro v hrep _
      cases hrep with
      | @fn _ _ _ us vs q1 q2 q3 q4 =>
        obtain rfl := List.eq_nil_of_length_eq_zero q1
        obtain rfl := List.eq_nil_of_length_eq_zero q3
        exact .c (.v rfl)
    | @ref j n i off B e es hj hB hn hi he =>
      intro v hrep _
      cases hrep with
      | ref _ hv =>
        obtain ⟨b, hb, rfl⟩ := hv _ hB hn
        obtain ⟨g, vs, hg', hc, hl⟩ := (r.hp j B hB).read hi
        rw [hb] at hg'
        obtain rfl := Option.some.inj hg'
        refine .pp (vs := vs.drop off) (by rw [hro']; exact .inr ⟨_, _, hj, hB, hb⟩) ?_ ⟨?_, fun k p v hp hv => ?_⟩
        · have := hc.sub off (vs.length - off)
          rwa [List.take_of_length_le (by simp)] at this
        · rw [List.length_drop, List.length_drop, hl.1, he, List.length_map]
        · rw [List.getElem?_drop] at hp hv
          have := hl.2 (off + k) (.c p) v (by rw [he, List.getElem?_map, hp]; rfl) hv
          cases this with
          | c hp => exact hp.map (fun _ _ => rfl) hsub
    | fn hl1 hx hl2 hx' ih ih' =>
      intro v hrep hs
      cases hrep with
      | fn q1 q2 q3 q4 =>
        cases hs with
        | fn hs hs' =>
        rename_i l m l' m' us vs
        refine .fn (by omega) (fun k y u h1 h2 => ?_) (by omega) (fun k y u h1 h2 => ?_)
        · have hk : k < l.length := by have := (List.getElem?_eq_some_iff.1 h1).1; omega
          exact ih k _ y (List.getElem?_eq_getElem hk) h1 (q2 k _ u (List.getElem?_eq_getElem hk) h2) (hs _ (List.getElem_mem _))
        · have hk : k < m.length := by have := (List.getElem?_eq_some_iff.1 h1).1; omega
          exact ih' k _ y (List.getElem?_eq_getElem hk) h1 (q4 k _ u (List.getElem?_eq_getElem hk) h2) (hs' _ (List.getElem_mem _))
    | row hj hB hr hn he =>
      intro v hrep _
      cases hrep with
      | row _ hv =>
        obtain rfl := hv _ hB hn
        refine .c ((j5c r hB hr he).map (fun _ _ => rfl) fun b hb => ?_)
        rcases hb with hb | hb
        · exact hsub b hb
        · rw [hro']; exact .inr ⟨_, _, hj, hB, hb⟩
    | agg hl' hx ih =>
      intro v hrep hs
      cases hrep with
      | agg hl'' hx' =>
        cases hs with
        | agg hs =>
        rename_i l m vs
        refine .agg (by omega) fun k y u h1 h2 => ?_
        have hk : k < l.length := by have := (List.getElem?_eq_some_iff.1 h1).1; omega
        exact ih k _ y (List.getElem?_eq_getElem hk) h1 (hx' k _ u (List.getElem?_eq_getElem hk) h2) (hs _ (List.getElem_mem _))
  refine ⟨ro', φ, r.keep, r.defers, r.size, fun k => ?_, fun j B' hB' => ?_, fun j k B B' b hB hB' => ?_, fun j B' b hB' hb => ?_, fun b hb => ?_, fun b hb => hsub b (r.ro0 b hb), fun b hb => ?_, fun k => ?_, fun j B' hB' => ?_, fun j n hn => ⟨(r.lent j n hn).1, .inr (r.lent j n hn).1, fun B' hB' => ?_⟩, r.glob⟩
  · rcases q8x (d := AV.any) l k with h | ⟨p, hp, hpk, hpe⟩
    · simp only [st]; rw [h]; exact .any _
    · simp only [st]; rw [hpe]
      obtain ⟨h5, h6⟩ := h1 p hp
      rw [hpk] at h5 h6
      exact hfv h5 ((r.tm k).get h6) ((r.scT k).get h6)
  · obtain ⟨h5, h6, ⟨p, hp, hpB⟩, B, h7, h8⟩ := hh j B' hB'
    obtain ⟨d1, d2, d3, d4, d5⟩ := h8.dims
    obtain ⟨b1, b2, vs, b3, b4⟩ := r.hp j B h7
    have hlen : B'.elems.length = B.elems.length := d4.symm
    have hz' : ∀ (i : Nat) (e : List AV), B'.elems[i]? = some e → e.length = B'.z := by
      intro i e he
      have hi : i < B.elems.length := by have := (List.getElem?_eq_some_iff.1 he).1; omega
      rw [(d5 i _ e (List.getElem?_eq_getElem hi) he).at_.1, ← d3]
      exact b1 i _ (List.getElem?_eq_getElem hi)
    refine ⟨hz', fun e he x hx => ?_, vs, ?_, ?_⟩
    · cases h8 with
      | same => exact b2 e he x hx
      | one he' hc => simp at he; subst he; exact hc x hx
      | many _ _ hc => exact hc e he x hx
      | set hi he' hc =>
        rcases List.mem_or_eq_of_mem_set he with h | h
        · exact b2 e h x hx
        · exact hc x (h ▸ hx)
    · refine ⟨by rw [b3.1, q42 b1, q42 hz', hlen, d3], fun k y v hk hv => ?_⟩
      have hkl : k < B'.elems.length * B'.z := by rw [← q42 hz']; exact (List.getElem?_eq_some_iff.1 hk).1
      have hz0 : 0 < B'.z := by
        rcases Nat.eq_zero_or_pos B'.z with h | h
        · rw [h] at hkl; simp at hkl
        · exact h
      have hd : k / B'.z < B'.elems.length := (Nat.div_lt_iff_lt_mul hz0).2 hkl
      have hm := Nat.mod_lt k hz0
      have hdm : k / B'.z * B'.z + k % B'.z = k := by rw [Nat.mul_comm]; exact Nat.div_add_mod k B'.z
      have he' := List.getElem?_eq_getElem hd
      have he : B.elems[k / B'.z]? = some (B.elems[k / B'.z]'(by omega)) := List.getElem?_eq_getElem _
      have hf' := q6k hz' he'
      have hf := q6k b1 he
      have hy : (B'.elems[k / B'.z])[k % B'.z]? = some y := by rw [← hf', List.getElem?_take_of_lt hm, List.getElem?_drop, hdm]; exact hk
      have hfl := d5 _ _ _ he he'
      have hx : k % B'.z < (B.elems[k / B'.z]'(by omega)).length := by rw [b1 _ _ he, d3]; exact hm
      have hxk : B.elems.flatten[k]? = some ((B.elems[k / B'.z]'(by omega))[k % B'.z]) := by
        have h9 := List.getElem?_eq_getElem hx
        have h10 : ((B.elems.flatten.drop (k / B'.z * B.z)).take B.z)[k % B'.z]? = some ((B.elems[k / B'.z]'(by omega))[k % B'.z]) := by rw [hf]; exact h9
        rw [List.getElem?_take_of_lt (by rw [d3]; exact hm), List.getElem?_drop, d3, hdm] at h10
        exact h10
      refine hfv (hfl.at_.2 _ _ y (List.getElem?_eq_getElem hx) hy) (b3.2 k _ v hxk hv) ?_
      exact (r.scH j B h7).2 _ (List.getElem_mem _) _ (List.getElem_mem _)
    · rw [← d1, ← d2, ← d3, ← d4]
      exact b4
  · obtain ⟨_, _, _, B1, h7, _⟩ := hh j B hB
    obtain ⟨_, _, _, B2, h8, _⟩ := hh k B' hB'
    exact r.inj j k B1 B2 b h7 h8
  · obtain ⟨h5, _, _, B1, h7, _⟩ := hh j B' hB'
    refine ⟨fun hr => ?_, (r.own j B1 b h7 hb).2⟩
    rw [hro'] at hr
    rcases hr with hr | ⟨k, B2, hk, h8, h9⟩
    · exact (r.own j B1 b h7 hb).1 hr
    · exact r.inj k j B2 B1 b h8 h7 (fun e => h5 (e ▸ hk)) h9 hb
  · rw [hro'] at hb
    rcases hb with hb | ⟨k, B2, hk, h8, h9⟩
    · exact r.rolt b hb
    · exact r.blk_lt h8 h9
  · rw [hro'] at hb
    rcases hb with hb | ⟨k, B2, hk, h8, h9⟩
    · exact r.ronew b hb
    · rcases Nat.lt_or_ge b C.W0.heap.size with h | h
      · exact .inr (.inr ((r.own k B2 b h8 h9).2 h))
      · exact .inr (.inl h)
  · rcases q8x (d := AV.any) l k with h | ⟨p, hp, hpk, hpe⟩
    · simp only [st]; rw [h]; exact .any
    · simp only [st]; rw [hpe]
      exact h3 p hp
  · obtain ⟨h5, h6, ⟨p, hp, rfl⟩, _⟩ := hh j B' hB'
    exact ⟨h6, h4 p hp⟩
  · obtain ⟨_, _, _, B, h5, h6⟩ := hh j B' hB'
    obtain ⟨h7, h8⟩ := (r.lent j n hn).2.2 B h5
    have := h6.dims.2.2.2.1
    exact ⟨by omega, fun h => h8 (by omega)⟩
theorem VC.frz {P : Program} {N : Nat} {σ : ASt} {Q : Exit → ASt → Prop} {c : Code} (F : List Nat) (l : List (Nat × AV)) (hl : List (Nat × Blkd)) (n : Nat) (hw : WeakF σ F l hl n) (h : VC P N c (st l hl n) Q) : VC P N c σ Q := ⟨fun C a W r => h.out C a W (z1v r hw)⟩

/-! Walks as theorems: the steps lie in an argument's own proof, so a walk's text is one row. -/
structure HoldQ (Q : Prop) : Prop where
  out : Q
theorem q0c {P Q : Prop} (q : Q) (e : HoldQ Q → P := by
  intro hq
  repeat (first | refine pass ?_ | refine VC.region (by rfl) (by rfl) ?_ | (refine AO.step fun K hK => ?_; simp only [go_sem, Int.reduceBEq, Int.reduceLE, Int.reduceLT, Int.reduceNeg, Nat.reduceAdd, Nat.reduceEqDiff, Nat.reduceLT, Nat.reduceLeDiff, Nat.reduceMul, Nat.reduceSub, reduceCtorEq, ↓reduceIte]; (first | refine q38 ?_ | refine q1m ?_ | skip); (first | refine hK _ _ _ ?_ | refine ⟨by first | omega | exact ⟨_, rfl, rfl⟩ | exact fun _ => ⟨_, rfl, rfl⟩ | (intro h; simp only [h, true_and]; omega) | (clear hK hq; intro h; simp_all <;> omega), hK _ _ _ ?_⟩); clear hK K) | refine VC.draw mixP (by rfl) (by rfl) ?_ | refine ⟨q4b (by kernel_rfl), ?_⟩ | refine BQ.other (by decide) ?_ | refine VC.seq ?_ | refine AO.nil ?_ | refine VC.block ?_)
  exact hq.out) : P := e ⟨q⟩
theorem q0u {P Q : Prop} (q : Q) (e : HoldQ Q → P := by
  intro hq
  repeat (first | refine pass ?_ | refine VC.region (by rfl) (by rfl) ?_ | (refine AO.step fun K hK => ?_; simp only [go_sem, Int.reduceBEq, Int.reduceLE, Int.reduceLT, Int.reduceNeg, Nat.reduceAdd, Nat.reduceEqDiff, Nat.reduceLT, Nat.reduceLeDiff, Nat.reduceMul, Nat.reduceSub, reduceCtorEq, ↓reduceIte]; (first | refine q38 ?_ | refine q1m ?_ | skip); (first | refine hK _ _ _ ?_ | refine ⟨by first | omega | exact ⟨_, rfl, rfl⟩ | exact fun _ => ⟨_, rfl, rfl⟩ | (intro h; simp only [h, true_and]; omega) | (clear hK hq; intro h; simp_all <;> omega), hK _ _ _ ?_⟩); clear hK K) | refine VC.draw mixP (by rfl) (by rfl) ?_ | refine ⟨q4b (by kernel_rfl), ?_⟩ | refine BQ.other (by decide) ?_ | refine VC.seq ?_ | refine AO.nil ?_ | refine VC.block ?_ | refine VC.condT (by rfl) (by trivial) ?_ | refine VC.condF (by rfl) (by trivial) ?_)
  exact hq.out) : P := e ⟨q⟩
theorem q0e {A P Q : Prop} (c : A) (q : Q) (e : A → HoldQ Q → P := by
  intro hc hq
  refine AO.step fun K hK => ?_
  simp only [go_sem, Int.reduceBEq, Int.reduceLE, Int.reduceLT, Int.reduceNeg, Nat.reduceAdd, Nat.reduceEqDiff, Nat.reduceLT, Nat.reduceLeDiff, Nat.reduceMul, Nat.reduceSub, reduceCtorEq, ↓reduceIte]
  (first | refine q1m ?_ | skip)
  (first | refine .inl ⟨_, hc, hK _ _ _ ?_⟩ | refine ⟨_, hc, hK _ _ _ ?_⟩)
  clear hK K
  exact hq.out) : P := e c ⟨q⟩
theorem q6x {A P Q : Prop} (c : A) (q : Q) (e : A → HoldQ Q → P := by
  intro hc hq
  refine AO.step fun K hK => ?_
  simp only [go_sem, Int.reduceBEq, Int.reduceLE, Int.reduceLT, Int.reduceNeg, Nat.reduceAdd, Nat.reduceEqDiff, Nat.reduceLT, Nat.reduceLeDiff, Nat.reduceMul, Nat.reduceSub, reduceCtorEq, ↓reduceIte]
  (first | refine q1m ?_ | skip)
  (first | refine .inl ⟨_, fun _ => hc, hK _ _ _ ?_⟩ | refine .inl ⟨_, ⟨by simp, fun _ => hc⟩, hK _ _ _ ?_⟩)
  clear hK K
  exact hq.out) : P := e c ⟨q⟩
theorem q0d {F P Q : Prop} (f : F) (q : Q) (e : F → HoldQ Q → P := by
  intro hf hq
  repeat (first | refine pass ?_ | refine VC.region (by rfl) (by rfl) ?_ | (refine AO.step fun K hK => ?_; simp only [hf, go_sem, Int.reduceBEq, Int.reduceLE, Int.reduceLT, Int.reduceNeg, Nat.reduceAdd, Nat.reduceEqDiff, Nat.reduceLT, Nat.reduceLeDiff, Nat.reduceMul, Nat.reduceSub, reduceCtorEq, ↓reduceIte]; (first | refine q38 ?_ | refine q1m ?_ | skip); (first | refine hK _ _ _ ?_ | refine ⟨by first | omega | exact ⟨_, rfl, rfl⟩ | exact fun _ => ⟨_, rfl, rfl⟩ | (intro h; simp only [hf, h, true_and]; omega) | (clear hK hq; intro h; simp_all <;> omega), hK _ _ _ ?_⟩); clear hK K) | refine VC.draw mixP (by rfl) (by rfl) ?_ | refine ⟨q4b (by kernel_rfl), ?_⟩ | refine BQ.other (by decide) ?_ | refine VC.seq ?_ | refine AO.nil ?_ | refine VC.block ?_)
  exact hq.out) : P := e f ⟨q⟩
theorem q0f {F P Q : Prop} (f : F) (q : Q) (e : F → HoldQ Q → P := by
  intro hf hq
  repeat (first | refine pass ?_ | refine VC.region (by rfl) (by rfl) ?_ | (refine AO.step fun K hK => ?_; simp only [hf, go_sem, Int.reduceBEq, Int.reduceLE, Int.reduceLT, Int.reduceNeg, Nat.reduceAdd, Nat.reduceEqDiff, Nat.reduceLT, Nat.reduceLeDiff, Nat.reduceMul, Nat.reduceSub, reduceCtorEq, ↓reduceIte]; (first | refine q38 ?_ | refine q1m ?_ | skip); (first | refine hK _ _ _ ?_ | refine ⟨by first | omega | exact ⟨_, rfl, rfl⟩ | exact fun _ => ⟨_, rfl, rfl⟩ | (intro h; simp only [hf, h, true_and]; omega) | (clear hK hq; intro h; simp_all <;> omega), hK _ _ _ ?_⟩); clear hK K) | refine VC.draw mixP (by rfl) (by rfl) ?_ | refine ⟨q4b (by kernel_rfl), ?_⟩ | refine BQ.other (by decide) ?_ | refine VC.seq ?_ | refine AO.nil ?_ | refine VC.block ?_ | refine VC.condT (by rfl) (by trivial) ?_ | refine VC.condF (by rfl) (by trivial) ?_)
  exact hq.out) : P := e f ⟨q⟩
theorem q33 {F A P Q : Prop} (f : F) (c : A) (q : Q) (e : F → A → HoldQ Q → P := by
  intro hf hc hq
  refine AO.step fun K hK => ?_
  simp only [hf, go_sem, Int.reduceBEq, Int.reduceLE, Int.reduceLT, Int.reduceNeg, Nat.reduceAdd, Nat.reduceEqDiff, Nat.reduceLT, Nat.reduceLeDiff, Nat.reduceMul, Nat.reduceSub, reduceCtorEq, ↓reduceIte]
  (first | refine q1m ?_ | skip)
  (first | refine .inl ⟨_, hc, hK _ _ _ ?_⟩ | refine ⟨_, hc, hK _ _ _ ?_⟩)
  clear hK K
  exact hq.out) : P := e f c ⟨q⟩
theorem j20 {F A P Q : Prop} (f : F) (c : A) (q : Q) (e : F → A → HoldQ Q → P := by
  intro hf hc hq
  refine AO.step fun K hK => ?_
  simp only [hf, go_sem, Int.reduceBEq, Int.reduceLE, Int.reduceLT, Int.reduceNeg, Nat.reduceAdd, Nat.reduceEqDiff, Nat.reduceLT, Nat.reduceLeDiff, Nat.reduceMul, Nat.reduceSub, reduceCtorEq, ↓reduceIte]
  (first | refine q1m ?_ | skip)
  (first | refine .inl ⟨_, fun _ => hc, hK _ _ _ ?_⟩ | refine .inl ⟨_, ⟨by simp, fun _ => hc⟩, hK _ _ _ ?_⟩)
  clear hK K
  exact hq.out) : P := e f c ⟨q⟩

structure Ks (k : List Nat) : Prop
theorem inKs {α γ δ ε : Type} {k : List Nat} (_ : Ks k) {p : α → List Nat → γ → δ → ε → Prop} (y : α) (a : γ) (l : δ) (m : ε) (h : p y k a l m) : ∃ y k a l m, p y k a l m := ⟨y, k, a, l, m, h⟩
theorem walkL {A P Q : Prop} (k : List Nat) (c : A) (q : Q) (e : Ks k → A → HoldQ Q → P := by
  intro hk hc hq
  refine AO.step fun K hK => ?_
  simp only [go_sem, Int.reduceBEq, Int.reduceLE, Int.reduceLT, Int.reduceNeg, Nat.reduceAdd, Nat.reduceEqDiff, Nat.reduceLT, Nat.reduceLeDiff, Nat.reduceMul, Nat.reduceSub, reduceCtorEq, ↓reduceIte]
  (first | refine q1m ?_ | skip)
  refine .inr (.inr (.inl (inKs hk ?_ ?_ ?_ ?_ (And.intro ?_ ?_))))
  rotate_left 4
  · ((repeat' apply And.intro) <;> (try ((with_reducible show ToldM _ _ _ _ _ _); exact hc))); (all_goals first | trivial | (simp only [go_sem, simprocAttr]; done) | (simp; done) | rfl)
  (first | refine hK _ _ _ ?_ | (simp only [go_sem, simprocAttr]; first | refine hK _ _ _ ?_ | refine ⟨rfl, hK _ _ _ ?_⟩))
  clear hK K
  exact hq.out) : P := e ⟨⟩ c ⟨q⟩
theorem q0i {F A P Q : Prop} (f : F) (k : List Nat) (c : A) (q : Q) (e : F → Ks k → A → HoldQ Q → P := by
  intro hf hk hc hq
  refine AO.step fun K hK => ?_
  simp only [hf, go_sem, Int.reduceBEq, Int.reduceLE, Int.reduceLT, Int.reduceNeg, Nat.reduceAdd, Nat.reduceEqDiff, Nat.reduceLT, Nat.reduceLeDiff, Nat.reduceMul, Nat.reduceSub, reduceCtorEq, ↓reduceIte]
  (first | refine q1m ?_ | skip)
  refine .inr (.inr (.inl (inKs hk ?_ ?_ ?_ ?_ (And.intro ?_ ?_))))
  rotate_left 4
  · ((repeat' apply And.intro) <;> (try ((with_reducible show ToldM _ _ _ _ _ _); exact hc))); (all_goals first | trivial | (simp only [hf, go_sem, simprocAttr]; done) | (simp; done) | rfl)
  (first | refine hK _ _ _ ?_ | (simp only [hf, go_sem, simprocAttr]; first | refine hK _ _ _ ?_ | refine ⟨rfl, hK _ _ _ ?_⟩))
  clear hK K
  exact hq.out) : P := e f ⟨⟩ c ⟨q⟩
theorem VC.toldX {P : Program} {N : Nat} {f : FuncId} {fn : Func} {c : Code} {args : List AV} {L : List Blkd} {L' : List (Option Blkd)} {y : AV} (hE : q0n P f) (news : List Nat) (hf : P.funcs[f]? = some fn) (hb : fn.body = some c) (hn : fn.ntmps = N)
    (hv : (∀ x ∈ args, x.pureB = true → ABd x) → (∀ B ∈ L, (B.row = true → B.len ≤ 9223372036854775807) ∧ ∀ e ∈ B.elems, ∀ x ∈ e, x.pureB = true → ABd x) →
      VC P N c ⟨argT args, q0l (L.map some), 0⟩ fun e σ => (e = .normal ∨ e = .ret) ∧ q4t σ.h (rhoE L.length news) 1000000 L' ∧ q1x P (q4m news) σ fn.results.toList (y.ren (rhoE L.length news)))
    (hN : args.length ≤ N := by simp)
    (hsc : ∀ x ∈ args, Sc (Used 0) (q0l (L.map some)) x := by simp only [ScM, zOk, inL, eq_self, q09, q03, sc_c, q05, q06, q07, q02, q72, q04, ScL, q08, List.forall_mem_map, Nat.le_refl, go_sem, simprocAttr]) (hscL : ∀ B ∈ L, ∀ e ∈ B.elems, ScL (Used 0) (q0l (L.map some)) e := by simp only [ScM, zOk, inL, eq_self, q09, q03, sc_c, q05, q06, q07, q02, q72, q04, ScL, q08, List.forall_mem_map, Nat.le_refl, go_sem, simprocAttr])
    (hz : zOk L L' := by simp only [ScM, zOk, inL, eq_self, q09, q03, sc_c, q05, q06, q07, q02, q72, q04, ScL, q08, List.forall_mem_map, Nat.le_refl, go_sem, simprocAttr]) (hsM : ScM L' y := by simp only [ScM, zOk, inL, eq_self, q09, q03, sc_c, q05, q06, q07, q02, q72, q04, ScL, q08, List.forall_mem_map, Nat.le_refl, go_sem, simprocAttr]) (hnews : L'.length = L.length + news.length ∧ news.Nodup ∧ ∀ k ∈ news, k < 1000000 := by simp) : ToldM P f args L L' y :=
  VC.toldM hE news hf hb hn hN (hsc) (hscL) (hz) (hsM) hnews hv
theorem VC.toldXF {P : Program} {N : Nat} {f : FuncId} {fn : Func} {c : Code} {args : List AV} {L : List Blkd} {L' : List (Option Blkd)} {y : AV} {F : Prop} (fc : F) (hE : q0n P f) (news : List Nat) (hf : P.funcs[f]? = some fn) (hb : fn.body = some c) (hn : fn.ntmps = N)
    (hv : (∀ x ∈ args, x.pureB = true → ABd x) → (∀ B ∈ L, (B.row = true → B.len ≤ 9223372036854775807) ∧ ∀ e ∈ B.elems, ∀ x ∈ e, x.pureB = true → ABd x) →
      VC P N c ⟨argT args, q0l (L.map some), 0⟩ fun e σ => (e = .normal ∨ e = .ret) ∧ q4t σ.h (rhoE L.length news) 1000000 L' ∧ q1x P (q4m news) σ fn.results.toList (y.ren (rhoE L.length news)))
    (hN : args.length ≤ N := by simp)
    (hsc : F → ∀ x ∈ args, Sc (Used 0) (q0l (L.map some)) x := by intro fc; simp only [fc, ScM, zOk, inL, eq_self, q09, q03, sc_c, q05, q06, q07, q02, q72, q04, ScL, q08, List.forall_mem_map, Nat.le_refl, go_sem, simprocAttr]) (hscL : F → ∀ B ∈ L, ∀ e ∈ B.elems, ScL (Used 0) (q0l (L.map some)) e := by intro fc; simp only [fc, ScM, zOk, inL, eq_self, q09, q03, sc_c, q05, q06, q07, q02, q72, q04, ScL, q08, List.forall_mem_map, Nat.le_refl, go_sem, simprocAttr])
    (hz : F → zOk L L' := by intro fc; simp only [fc, ScM, zOk, inL, eq_self, q09, q03, sc_c, q05, q06, q07, q02, q72, q04, ScL, q08, List.forall_mem_map, Nat.le_refl, go_sem, simprocAttr]) (hsM : F → ScM L' y := by intro fc; simp only [fc, ScM, zOk, inL, eq_self, q09, q03, sc_c, q05, q06, q07, q02, q72, q04, ScL, q08, List.forall_mem_map, Nat.le_refl, go_sem, simprocAttr]) (hnews : L'.length = L.length + news.length ∧ news.Nodup ∧ ∀ k ∈ news, k < 1000000 := by simp) : ToldM P f args L L' y :=
  VC.toldM hE news hf hb hn hN (hsc fc) (hscL fc) (hz fc) (hsM fc) hnews hv
theorem VC.toldP {P : Program} {N : Nat} {f : FuncId} (hE : q0n P f) {fn : Func} {c : Code} {args : List AV} {y : AV} (hf : P.funcs[f]? = some fn) (hb : fn.body = some c) (hn : fn.ntmps = N)
    (hv : (∀ x ∈ args, ABd x) → VC P N c ⟨argT args, fun _ => none, 0⟩ fun e σ => (e = .normal ∨ e = .ret) ∧ q1x P noK σ fn.results.toList y)
    (hN : args.length ≤ N := by simp) (hp : AV.pureL args = true := by first | rfl | simp [AV.pureB, AV.pureL, q20, pures]) (hy : y.pureB = true := by first | rfl | simp [AV.pureB, AV.pureL, q20, pures]) : Told P f args y :=
  VC.told hE hf hb hn hN hp hy hv
theorem retX {α : Type _} {R r : α} {P Q : Prop} (hr : R = r) (q : Q) (e : R = r → HoldQ Q → P := by
  intro hr hq
  refine ⟨by first | exact .inr rfl | exact .inl rfl, ?_⟩
  rw [hr]
  simp only [q1x, resV, go_sem, simprocAttr]
  exact hq.out) : P := e hr ⟨q⟩
theorem q4q {P Q : Prop} (q : Q) (e : HoldQ Q → P := by
  intro hq
  simp only [Weak, eq_self, q09, q03, sc_c, q05, q06, q07, q02, q04, ScL, q08, List.forall_mem_map, go_sem, Int.reduceBEq, Int.reduceLE, Int.reduceLT, Int.reduceNeg, Nat.reduceAdd, Nat.reduceEqDiff, Nat.reduceLT, Nat.reduceLeDiff, Nat.reduceMul, Nat.reduceSub, reduceCtorEq, ↓reduceIte]
  exact hq.out) : P := e ⟨q⟩
theorem q4r {P : Prop} (e : True → P := by
  intro _
  simp only [Weak, eq_self, q09, q03, sc_c, q05, q06, q07, q02, q04, ScL, q08, List.forall_mem_map, go_sem, Int.reduceBEq, Int.reduceLE, Int.reduceLT, Int.reduceNeg, Nat.reduceAdd, Nat.reduceEqDiff, Nat.reduceLT, Nat.reduceLeDiff, Nat.reduceMul, Nat.reduceSub, reduceCtorEq, ↓reduceIte]) : P := e trivial
theorem q0j {α : Type _} {R r : α} {F P Q : Prop} (f : F) (hr : R = r) (q : Q) (e : F → R = r → HoldQ Q → P := by
  intro hf hr hq
  refine ⟨by first | exact .inr rfl | exact .inl rfl, ?_⟩
  rw [hr]
  simp only [hf, q1x, resV, go_sem, simprocAttr]
  exact hq.out) : P := e f hr ⟨q⟩
theorem retZF {α : Type _} {R r : α} {F P : Prop} (f : F) (hr : R = r) (e : F → R = r → P := by
  intro hf hr
  refine ⟨by first | exact .inr rfl | exact .inl rfl, ?_⟩
  rw [hr]
  simp only [hf, q1x, resV, go_sem, simprocAttr]) : P := e f hr
theorem q1l {F P Q : Prop} (f : F) (q : Q) (e : F → HoldQ Q → P := by
  intro hf hq
  simp only [hf, Weak, eq_self, q09, q03, sc_c, q05, q06, q07, q02, q04, ScL, q08, List.forall_mem_map, go_sem, Int.reduceBEq, Int.reduceLE, Int.reduceLT, Int.reduceNeg, Nat.reduceAdd, Nat.reduceEqDiff, Nat.reduceLT, Nat.reduceLeDiff, Nat.reduceMul, Nat.reduceSub, reduceCtorEq, ↓reduceIte]
  exact hq.out) : P := e f ⟨q⟩
theorem q6e {F P : Prop} (f : F) (e : F → True → P := by
  intro hf _
  simp only [hf, Weak, eq_self, q09, q03, sc_c, q05, q06, q07, q02, q04, ScL, q08, List.forall_mem_map, go_sem, Int.reduceBEq, Int.reduceLE, Int.reduceLT, Int.reduceNeg, Nat.reduceAdd, Nat.reduceEqDiff, Nat.reduceLT, Nat.reduceLeDiff, Nat.reduceMul, Nat.reduceSub, reduceCtorEq, ↓reduceIte]) : P := e f trivial

end Go.Proofs.YthkofkaocipomaaGreatDoor
