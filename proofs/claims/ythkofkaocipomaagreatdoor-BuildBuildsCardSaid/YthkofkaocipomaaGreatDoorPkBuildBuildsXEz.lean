/- What the evaluator reckons, the program does. -/
import Derived.Test.YthkofkaocipomaaGreatDoorPkBuildBuildsXEy
namespace Go.Proofs.YthkofkaocipomaaGreatDoor
open Go.RowKit
set_option linter.unusedVariables false
set_option linter.unusedSimpArgs false
set_option maxRecDepth 100000
namespace Ex
variable {P : Program}
theorem mem_ok {k : Nat} : ∀ {l : List Nat}, memB k l = true → k ∈ l
  | [], h => by simp [memB] at h
  | x :: l, h => by
    unfold memB at h
    split at h
    · rename_i hx
      rw [Nat.beq_eq] at hx
      exact hx ▸ List.mem_cons_self
    · exact List.mem_cons_of_mem _ (mem_ok h)
theorem j7d : ∀ {l : List Nat}, j3h l = true → l.Nodup
  | [], _ => by simp
  | x :: l, h => by
    unfold j3h at h
    rw [Bool.and_eq_true] at h
    refine List.nodup_cons.2 ⟨fun hm => ?_, j7d h.2⟩
    have : ∀ {m : List Nat}, x ∈ m → memB x m = true := by
      intro m
      induction m with
      | nil => intro h; simp at h
      | cons y m ih =>
        intro hy
        unfold memB
        split
        · rfl
        · rename_i hb
          rcases List.mem_cons.1 hy with rfl | hy
          · simp at hb
          · exact ih hy
    rw [this hm] at h
    simp at h
theorem idx_at {k : Nat} : ∀ {l : List Nat} (i : Nat), memB k l = true → ∃ p, idx k l i = i + p ∧ l[p]? = some k
  | [], i, h => by simp [memB] at h
  | x :: l, i, h => by
    unfold memB at h
    unfold idx
    split at h
    · rename_i hx
      rw [Nat.beq_eq] at hx
      exact ⟨0, rfl, by simp [hx]⟩
    · obtain ⟨p, h1, h2⟩ := idx_at (i + 1) h
      exact ⟨p + 1, by omega, by simpa using h2⟩
theorem rho_inv {ks : List Nat} {n j : Nat} (h : memB j ks = true) : rho ks n (inv ks j) = j := by
  obtain ⟨p, h1, h2⟩ := idx_at 0 h
  unfold inv
  rw [h1, Nat.zero_add]
  exact j3n h2
theorem j4z : ∀ (n i p : Nat), p < n → (q6o n i)[p]? = some (i + p)
  | n + 1, i, 0, _ => rfl
  | n + 1, i, p + 1, h => by
    have := j4z n (i + 1) p (by omega)
    simp only [q6o, List.getElem?_cons_succ, this]
    congr 1
    omega
theorem q67 : ∀ (n i : Nat), (q6o n i).length = n
  | 0, _ => rfl
  | n + 1, i => by simp [q6o, q67 n]
theorem z14 {m : Nat} {news : List Nat} {j : Nat} (h : memB j (q6o m 1000000 ++ news) = true) : rhoE m news (inv (q6o m 1000000 ++ news) j) = j := by
  obtain ⟨p, h1, h2⟩ := idx_at 0 h
  unfold inv rhoE
  rw [h1, Nat.zero_add]
  split
  · rename_i hp
    rw [List.getElem?_append_left (by rw [q67]; omega), j4z _ _ _ (by omega)] at h2
    exact Option.some.inj h2
  · rename_i hp
    rw [List.getElem?_append_right (by rw [q67]; omega), q67] at h2
    rw [show 1000000 + p - (1000000 + m) = p - m from by omega, h2]
    rfl
theorem rhoE_at {m : Nat} {news : List Nat} {p k : Nat} (h : (q6o m 1000000 ++ news)[p]? = some k) : rhoE m news (1000000 + p) = k := by
  unfold rhoE
  split
  · rename_i hp
    rw [List.getElem?_append_left (by rw [q67]; omega), j4z _ _ _ (by omega)] at h
    exact Option.some.inj h
  · rename_i hp
    rw [List.getElem?_append_right (by rw [q67]; omega), q67] at h
    rw [show 1000000 + p - (1000000 + m) = p - m from by omega, h]
    rfl
mutual
theorem ren_ren {f g : Nat → Nat} {ks : List Nat} (hk : ∀ j, memB j ks = true → g (f j) = j) : ∀ (x : AV), (labs x).all (fun j => memB j ks) = true → (x.ren f).ren g = x
  | .any, _ => rfl
  | .c _, _ => rfl
  | .pp _, _ => rfl
  | .ref j n i off, h => by
    simp only [labs, List.all_cons, List.all_nil, Bool.and_true] at h
    simp only [AV.ren, hk j h]
  | .row j n, h => by
    simp only [labs, List.all_cons, List.all_nil, Bool.and_true] at h
    simp only [AV.ren, hk j h]
  | .agg l, h => by simp only [AV.ren, q70 hk l h]
  | .tup l, h => by simp only [AV.ren, q70 hk l h]
  | .opt b x, h => by simp only [AV.ren, ren_ren hk x h]
  | .fn f fs cs, h => by
    simp only [labs, List.all_append, Bool.and_eq_true] at h
    simp only [AV.ren, q70 hk fs h.1, q70 hk cs h.2]
theorem q70 {f g : Nat → Nat} {ks : List Nat} (hk : ∀ j, memB j ks = true → g (f j) = j) : ∀ (l : List AV), (q4i l).all (fun j => memB j ks) = true → AV.renL g (AV.renL f l) = l
  | [], _ => rfl
  | x :: l, h => by
    simp only [q4i, List.all_append, Bool.and_eq_true] at h
    simp only [AV.renL, ren_ren hk x h.1, q70 hk l h.2]
end
theorem blk_ren {f g : Nat → Nat} {ks : List Nat} (hk : ∀ j, memB j ks = true → g (f j) = j) {B : Blkd} (h : B.elems.all (inBL ks) = true) : (B.ren f).ren g = B := by
  obtain ⟨r, T, z, es⟩ := B
  have : ∀ l : List (List AV), l.all (inBL ks) = true → (l.map (AV.renL f)).map (AV.renL g) = l := by
    intro l
    induction l with
    | nil => intro _; rfl
    | cons e l ih =>
      intro h
      rw [List.all_cons, Bool.and_eq_true] at h
      rw [List.map_cons, List.map_cons, ih h.2, q70 hk e h.1]
  simp only [Blkd.ren, this es h]
mutual
theorem sc_ok {u : Nat → Bool} {used : Nat → Prop} (hu : ∀ j, u j = true → used j) {h : Nat → Option Blkd} : ∀ (x : AV), scB u h x = true → Sc used h x
  | .any, _ => .any
  | .c _, _ => .c
  | .pp _, _ => .pp
  | .ref j n i off, hs => by
    simp only [scB, Bool.and_eq_true] at hs
    refine .ref (hu j hs.1) fun B hB => ?_
    have := hs.2
    rw [hB] at this
    exact Nat.le_of_ble_eq_true this
  | .row j n, hs => by
    simp only [scB, Bool.and_eq_true] at hs
    refine .row (hu j hs.1) fun B hB => ?_
    have := hs.2
    rw [hB] at this
    exact Nat.le_of_ble_eq_true this
  | .agg l, hs => .agg (q7e hu l hs)
  | .tup l, hs => .tup (q7e hu l hs)
  | .opt b x, hs => .opt fun hb => sc_ok hu x (by simpa [scB, hb] using hs)
  | .fn f fs cs, hs => by
    simp only [scB, Bool.and_eq_true] at hs
    exact .fn (q7e hu fs hs.1) (q7e hu cs hs.2)
theorem q7e {u : Nat → Bool} {used : Nat → Prop} (hu : ∀ j, u j = true → used j) {h : Nat → Option Blkd} : ∀ (l : List AV), scBL u h l = true → ∀ x ∈ l, Sc used h x
  | [], _ => by simp
  | x :: l, hs => by
    simp only [scBL, Bool.and_eq_true] at hs
    intro y hy
    rcases List.mem_cons.1 hy with hx | hy
    · exact hx ▸ sc_ok hu x hs.1
    · exact q7e hu l hs.2 y hy
end
mutual
theorem frz_id {K : Nat → Bool} {h : Nat → Option Blkd} {ks : List Nat} (hk : ∀ j, memB j ks = true → K j = true) : ∀ (x : AV), (labs x).all (fun j => memB j ks) = true → noOpt x = true → Frz K h x x
  | .any, _, _ => .any _
  | .c p, _, _ => .c p
  | .pp l, _, _ => .pp l
  | .ref j n i off, hl, _ => .keepR (hk j (by simpa [labs] using hl))
  | .row j n, hl, _ => .keepW (hk j (by simpa [labs] using hl))
  | .agg l, hl, hn => .aggL (j2g hk l hl hn)
  | .tup l, hl, hn => by
    have := (j2g (h := h) hk l hl hn).at_
    exact .tup this.1 this.2
  | .fn f fs cs, hl, hn => by
    simp only [labs, List.all_append, Bool.and_eq_true] at hl
    simp only [noOpt, Bool.and_eq_true] at hn
    exact .fnL (j2g hk fs hl.1 hn.1) (j2g hk cs hl.2 hn.2)
theorem j2g {K : Nat → Bool} {h : Nat → Option Blkd} {ks : List Nat} (hk : ∀ j, memB j ks = true → K j = true) : ∀ (l : List AV), (q4i l).all (fun j => memB j ks) = true → q7x l = true → FrzL K h l l
  | [], _, _ => .nil
  | x :: l, hl, hn => by
    simp only [q4i, List.all_append, Bool.and_eq_true] at hl
    simp only [q7x, Bool.and_eq_true] at hn
    exact .cons (frz_id hk x hl.1 hn.1) (j2g hk l hl.2 hn.2)
end
mutual
theorem j6q {j : Nat} {B : Blkd} {es : List (List PV)} {h : Nat → Option Blkd} (hB : h j = some B) (he : B.elems = es.map fun e => e.map .c) : ∀ (x : AV), FV [j] h x (frzV j B es x)
  | .any => .any _
  | .c _ => .same _
  | .pp _ => .same _
  | .tup _ => .same _
  | .opt _ _ => .same _
  | .ref k n i off => by
    unfold frzV
    split
    · rename_i hk
      rw [Nat.beq_eq] at hk
      subst hk
      split
      · rename_i e h1 h2
        rw [Nat.beq_eq] at h2
        exact .ref (by simp) hB h2 (by rw [he, List.getElem?_map, h1]; rfl) rfl
      · exact .any _
    · exact .same _
  | .row k n => by
    unfold frzV
    split
    · rename_i hk
      rw [Nat.beq_eq] at hk
      subst hk
      split
      · rename_i h2 h3
        rw [Nat.beq_eq] at h2
        exact .row (by simp) hB h3 h2 he
      · exact .any _
    · exact .same _
  | .agg l => .aggL (j3c hB he l)
  | .fn f fs cs => .fnL (j3c hB he fs) (j3c hB he cs)
theorem j3c {j : Nat} {B : Blkd} {es : List (List PV)} {h : Nat → Option Blkd} (hB : h j = some B) (he : B.elems = es.map fun e => e.map .c) : ∀ (l : List AV), FVL [j] h l (q8q j B es l)
  | [] => .nil
  | x :: l => .cons (j6q hB he x) (j3c hB he l)
end
theorem j6p {j : Nat} {B : Blkd} {es : List (List PV)} {h : Nat → Option Blkd} {t : Nat → AV} (hB : h j = some B) (he : B.elems = es.map fun e => e.map .c) : ∀ (l : List Nat), ∀ p ∈ frzT j B es t l, FV [j] h (t p.1).get p.2 ∧ (t p.1).okb
  | [] => by simp [frzT]
  | k :: l => by
    intro p hp
    unfold frzT at hp
    split at hp
    · rename_i v hv
      rcases List.mem_cons.1 hp with rfl | hp
      · cases hx : t k with
        | opt b x =>
          rw [hx] at hv
          cases b with
          | true => obtain rfl := Option.some.inj hv; exact ⟨j6q hB he _, rfl⟩
          | false => simp [getV] at hv
        | _ => rw [hx] at hv; obtain rfl := Option.some.inj hv; exact ⟨j6q hB he _, trivial⟩
      · exact j6p hB he l p hp
    · exact j6p hB he l p hp
theorem j4q {j : Nat} {B : Blkd} {es : List (List PV)} {h : Nat → Option Blkd} (hB : h j = some B) (he : B.elems = es.map fun e => e.map .c) : ∀ (l : List Nat), ∀ p ∈ frzH j B es h l, p.1 ∉ [j] ∧ ∃ C, h p.1 = some C ∧ FB [j] h C p.2
  | [] => by simp [frzH]
  | k :: l => by
    intro p hp
    unfold frzH at hp
    split at hp
    · rename_i C hk hC
      split at hp
      · rename_i hc
        rcases List.mem_cons.1 hp with rfl | hp
        · refine ⟨fun hm => ?_, C, hC, ?_⟩
          · have hm : k = j := List.mem_singleton.1 hm
            rw [hm] at hk
            simp at hk
          · obtain ⟨r, T, z, cs⟩ := C
            refine .many (by simp) (fun i e e' h1 h2 => ?_) (fun e' h1 x hx => ?_)
            · simp only [List.getElem?_map, h1, Option.map_some] at h2
              obtain rfl := Option.some.inj h2
              exact j3c hB he e
            · exact j23 (List.all_eq_true.1 hc e' h1) x hx
        · exact j4q hB he l p hp
      · exact j4q hB he l p hp
    · exact j4q hB he l p hp
theorem get_set (x : AV) : ∀ (f : Nat) (t : Tr) (k m : Nat), k + 1 < 2 ^ f → Tr.get f (Tr.set x f t k) m = if m = k then x else Tr.get f t m
  | 0, t, k, m, h => by simp at h
  | f + 1, t, k, m, h => by
    have hp : 2 ^ (f + 1) = 2 * 2 ^ f := by rw [Nat.pow_succ, Nat.mul_comm]
    have e1 : ∀ n : Nat, Tr.get f .lf n = .any := fun n => by cases f <;> rfl
    have hb : ∀ n : Nat, Nat.beq (Nat.mod n 2) 0 = true ↔ n % 2 = 0 := fun n => by rw [Nat.beq_eq]; rfl
    have hd : ∀ n : Nat, Nat.div n 2 = n / 2 := fun n => rfl
    have key : ∀ (v : AV) (l r : Tr), Tr.get (f + 1) (Tr.set x (f + 1) (.nd v l r) k) m = if m = k then x else Tr.get (f + 1) (.nd v l r) m := by
      intro v l r
      cases k with
      | zero => cases m <;> simp [Tr.set, Tr.get]
      | succ k =>
        have ih := fun t => get_set x f t (k / 2) ((m - 1) / 2) (by omega)
        cases hk : Nat.beq (Nat.mod k 2) 0 with
        | true =>
          have hk' := (hb k).1 hk
          simp only [Tr.set, hk]
          cases m with
          | zero => simp [Tr.get]
          | succ m =>
            cases hm : Nat.beq (Nat.mod m 2) 0 with
            | true =>
              have hm' := (hb m).1 hm
              simp only [Tr.get, hm, hd]
              have := ih l
              simp only [Nat.add_sub_cancel] at this
              rw [this]
              by_cases hmk : m = k
              · rw [if_pos (by rw [hmk]), if_pos (by rw [hmk])]
              · rw [if_neg (by omega), if_neg (by omega)]
            | false =>
              have hm' : ¬ m % 2 = 0 := fun e => by rw [(hb m).2 e] at hm; simp at hm
              simp only [Tr.get, hm]
              rw [if_neg (by intro e; apply hm'; omega)]
        | false =>
          have hk' : ¬ k % 2 = 0 := fun e => by rw [(hb k).2 e] at hk; simp at hk
          simp only [Tr.set, hk]
          cases m with
          | zero => simp [Tr.get]
          | succ m =>
            cases hm : Nat.beq (Nat.mod m 2) 0 with
            | true =>
              have hm' := (hb m).1 hm
              simp only [Tr.get, hm]
              rw [if_neg (by intro e; apply hk'; omega)]
            | false =>
              have hm' : ¬ m % 2 = 0 := fun e => by rw [(hb m).2 e] at hm; simp at hm
              simp only [Tr.get, hm, hd]
              have := ih r
              simp only [Nat.add_sub_cancel] at this
              rw [this]
              by_cases hmk : m = k
              · rw [if_pos (by rw [hmk]), if_pos (by rw [hmk])]
              · rw [if_neg (by omega), if_neg (by omega)]
    cases t with
    | nd v l r => exact key v l r
    | lf =>
      have := key .any .lf .lf
      have h1 : Tr.set x (f + 1) .lf k = Tr.set x (f + 1) (.nd .any .lf .lf) k := by cases k <;> rfl
      have h2 : Tr.get (f + 1) (.nd .any .lf .lf) m = Tr.get (f + 1) .lf m := by
        cases m with
        | zero => rfl
        | succ m => simp only [Tr.get, e1]; split <;> rfl
      rw [h1, this, h2]
theorem tset_is (x : AV) (t : Tr) {k : Nat} (hk : k ≤ 1000000) : tget (Tr.set x 20 t k) = upd (tget t) k x := by
  funext m
  exact get_set x 20 t k m (by omega)
theorem j77 : ∀ (l : List (Nat × AV)), (∀ p ∈ l, p.1 ≤ 1000000) → tget (toT l) = look .any l
  | [], _ => by funext m; rfl
  | p :: l, h => by
    rw [toT, tset_is _ _ (h p (by simp)), j77 l fun q hq => h q (by simp [hq])]
    funext m
    rfl
theorem j6o {j : Nat} {B : Blkd} {es : List (List PV)} {t : Nat → AV} : ∀ (l : List Nat), ∀ p ∈ frzT j B es t l, p.1 ∈ l
  | [] => by simp [frzT]
  | k :: l => by
    intro p hp
    unfold frzT at hp
    split at hp
    · rcases List.mem_cons.1 hp with rfl | hp
      · simp
      · exact List.mem_cons_of_mem _ (j6o l p hp)
    · exact List.mem_cons_of_mem _ (j6o l p hp)
def XS.st (s : XS) : ASt := ⟨tget s.l, look none s.h, s.n⟩
def Leads (P : Program) (σ σ' : ASt) : Prop := ∀ (C : Ctx P) (N : Nat) (a : Act) (W : World), RelS C N σ a W → RelS C N σ' a W
theorem j8b {n j : Nat} (h : (Nat.blt j n || Nat.ble 1000000 j) = true) : Used n j := by
  rw [Bool.or_eq_true, Nat.blt_eq, Nat.ble_eq] at h
  exact h
theorem frz_ok {M j : Nat} {s s' : XS} (hf : frz M j s = some s') : Leads P (XS.st s) (XS.st s') := by
  unfold frz at hf
  split at hf
  · rename_i B hB
    split at hf
    · rename_i es he
      have he := j45 he
      simp only [] at hf
      split at hf
      · rename_i hc
        obtain rfl := Option.some.inj hf
        rw [Bool.and_eq_true, Bool.and_eq_true, Nat.ble_eq] at hc
        obtain ⟨⟨hM, hc1⟩, hc2⟩ := hc
        have hc : _ ∧ _ := ⟨hc1, hc2⟩
        intro C N a W r
        have he' : XS.st ⟨toT (frzT j B es (tget s.l) (List.range M)), somes (frzH j B es (look none s.h) (keys s.h [])), s.n⟩ = st (frzT j B es (tget s.l) (List.range M)) (frzH j B es (look none s.h) (keys s.h [])) s.n := by
          unfold XS.st st
          rw [j77 _ fun p hp => by have := List.mem_range.1 (j6o _ p hp); omega]
          rfl
        rw [he']
        refine z1v (F := [j]) (l := frzT j B es (tget s.l) (List.range M)) (hl := frzH j B es (look none s.h) (keys s.h [])) (n := s.n) r ⟨j6p (h := look none s.h) hB he _, fun p hp => ?_, fun p hp => ?_, fun p hp e hx => ?_⟩
        · obtain ⟨h1, D, h2, h3⟩ := j4q (h := look none s.h) hB he _ p hp
          have h4 := List.all_eq_true.1 hc.2 p hp
          rw [Bool.and_eq_true] at h4
          exact ⟨h1, j8b h4.1, D, h2, h3⟩
        · exact sc_ok (fun j => j8b) _ (List.all_eq_true.1 hc.1 p hp)
        · have h4 := List.all_eq_true.1 hc.2 p hp
          rw [Bool.and_eq_true] at h4
          exact q7e (fun j => j8b) _ (List.all_eq_true.1 h4.2 e hx)
      · simp at hf
    · simp at hf
  · simp at hf
theorem j6n (M : Nat) : ∀ (js : List Nat) (s : XS), Leads P (XS.st s) (XS.st (j2f M js s))
  | [], s => fun _ _ _ _ r => r
  | j :: js, s => by
    unfold j2f
    split
    · rename_i s' h
      exact fun C N a W r => j6n M js s' C N a W (frz_ok h C N a W r)
    · exact j6n M js s
structure EnvOk (P : Program) (E : Env) : Prop where
  mix : P.follows .mixedOrders = true
  ty : ∀ k T, E.ty k = some T → tyA P k = some T
  gl : ∀ g e, E.gl g = some e → glob P g = some e
  fn : ∀ f F, E.fn f = some F → ∃ fn, P.funcs[f]? = some fn ∧ fn.body = some F.body ∧ fn.ntmps = F.N ∧ fn.results.toList = F.results ∧ q0n P f
  orc : ∀ f args y, E.orc f args = some y → ToldM P f args [] [] y
def Post (e : Exit) (s : XS) : Exit → ASt → Prop := fun e' σ' => e' = e ∧ σ' = XS.st s
def Does (P : Program) (rec : Nat → Code → XS → R (Exit × XS)) : Prop := ∀ N c s e s', rec N c s = .ok (e, s') → VC P N c (XS.st s) (Post e s')
theorem put_look {α : Type} (d : α) (k : Nat) (x : α) (l : List (Nat × α)) : look d (put k x l) = upd (look d l) k x := by
  funext m
  unfold put upd
  rw [look]
  by_cases hm : m = k
  · simp [hm]
  · simp only [if_neg hm]
    induction l with
    | nil => rfl
    | cons p l ih =>
      rw [List.filter_cons]
      by_cases hp : p.1 = k
      · rw [if_neg (by simp [hp]), look, if_neg (by omega)]
        exact ih
      · rw [if_pos (by rw [Bool.not_eq_true', ← Bool.not_eq_true, Nat.beq_eq]; exact hp), look, look, ih]
theorem putO_look {d : Option Nat} (x : AV) (l : T) (hd : ∀ k, d = some k → k ≤ 1000000) : tget (putO d x l) = putd d x (tget l) := by
  cases d with
  | none => rfl
  | some k => exact tset_is _ _ (hd k rfl)
theorem z1r : ∀ (w : List (Nat × Option Blkd)) (h : H), look none (puts w h) = wrs w (look none h)
  | [], _ => rfl
  | p :: w, h => by rw [puts, z1r w, put_look]; rfl
theorem z0t {h : H} {ks : List Nat} {ρ : Nat → Nat} (hk : ∀ j, memB j ks = true → ρ (inv ks j) = j) : ∀ (l : List Nat) (L : List Blkd), lendL h ks l = some L → q2w (look none h) ρ l L
  | [], L, he => by obtain rfl := Option.some.inj he; trivial
  | k :: l, L, he => by
    unfold lendL at he
    split at he
    · rename_i B hB
      split at he
      · rename_i m h1 h2
        obtain rfl := Option.some.inj he
        exact ⟨by rw [blk_ren hk h1]; exact hB, z0t hk l m h2⟩
      · simp at he
    · simp at he
theorem enum_lt {l : List AV} (h : l.length ≤ 1000000) : ∀ p ∈ enum id l 0, p.1 ≤ 1000000 := by
  have : ∀ (l : List AV) (i : Nat), ∀ p ∈ enum id l i, p.1 < i + l.length := by
    intro l
    induction l with
    | nil => intro i p hp; simp [enum] at hp
    | cons x l ih =>
      intro i p hp
      rcases List.mem_cons.1 hp with rfl | hp
      · simp
      · have := ih (i + 1) p hp
        simp only [List.length_cons]
        omega
  intro p hp
  have := this l 0 p hp
  omega
theorem argT_is (l : List AV) : look .any (enum id l 0) = argT l := by
  have : ∀ (l : List AV) (i k : Nat), look .any (enum id l i) (i + k) = (l[k]?).getD .any := by
    intro l
    induction l with
    | nil => intro i k; rfl
    | cons x l ih =>
      intro i k
      cases k with
      | zero => simp [enum, look]
      | succ k =>
        have := ih (i + 1) k
        simp only [enum, look]
        rw [if_neg (by omega), show i + (k + 1) = i + 1 + k from by omega, this]
        simp
  funext k
  have := this l 0 k
  rw [Nat.zero_add] at this
  exact this
theorem lentL_low {L : List Blkd} {i k : Nat} (h : k < i) : look none (enum some L i) k = none := by
  induction L generalizing i with
  | nil => rfl
  | cons B L ih => simp only [enum, look]; rw [if_neg (by omega)]; exact ih (by omega)
theorem j67 (L : List Blkd) : look none (enum some L 1000000) = q0l (L.map some) := by
  have : ∀ (l : List Blkd) (i k : Nat), look none (enum some l i) (i + k) = ((l.map some)[k]?).getD none := by
    intro l
    induction l with
    | nil => intro i k; rfl
    | cons x l ih =>
      intro i k
      cases k with
      | zero => simp [enum, look]
      | succ k =>
        have := ih (i + 1) k
        simp only [enum, look]
        rw [if_neg (by omega), show i + (k + 1) = i + 1 + k from by omega, this]
        simp
  funext k
  unfold q0l
  split
  · rename_i hk
    have := this L 1000000 (k - 1000000)
    rwa [show 1000000 + (k - 1000000) = k from by omega] at this
  · rename_i hk
    exact lentL_low (by omega)
theorem zOk_ok : ∀ {L : List Blkd} {L' : List (Option Blkd)}, zOkB L L' = true → zOk L L'
  | [], _, _ => trivial
  | B :: L, some B' :: L', h => by
    unfold zOkB at h
    rw [Bool.and_eq_true, Nat.beq_eq] at h
    exact ⟨h.1, zOk_ok h.2⟩
  | B :: L, none :: L', h => by
    unfold zOkB at h
    exact zOk_ok (L := L) h
  | B :: L, [], h => by simp [zOkB] at h
theorem j9s {h : H} {ks : List Nat} : ∀ (l : List Nat) (m : List (Option Blkd)), j15 h ks l = some m → m.length = l.length
  | [], m, he => by obtain rfl := Option.some.inj he; rfl
  | k :: l, m, he => by
    unfold j15 at he
    split at he
    · split at he
      · rename_i m' h2
        obtain rfl := Option.some.inj he
        simp [j9s l _ h2]
      · simp at he
    · simp at he
theorem j9t {h : H} {ks : List Nat} {ρ : Nat → Nat} (hk : ∀ j, memB j ks = true → ρ (inv ks j) = j) : ∀ (l : List Nat) (i : Nat) (m : List (Option Blkd)), j15 h ks l = some m → (∀ p k, l[p]? = some k → ρ (i + p) = k) → q4t (look none h) ρ i m
  | [], i, m, he, _ => by obtain rfl := Option.some.inj he; trivial
  | k :: l, i, m, he, hp => by
    unfold j15 at he
    split at he
    · rename_i b h1
      split at he
      · rename_i m' h2
        obtain rfl := Option.some.inj he
        have h3 := j9t hk l (i + 1) m' h2 (fun p k' hk' => by
          have := hp (p + 1) k' (by simpa using hk')
          rwa [show i + (p + 1) = i + 1 + p from by omega] at this)
        unfold endsB at h1
        split at h1
        · obtain rfl := Option.some.inj h1
          exact h3
        · rename_i B hB
          split at h1
          · rename_i h4
            obtain rfl := Option.some.inj h1
            refine ⟨?_, h3⟩
            rw [blk_ren hk h4]
            have := hp 0 k rfl
            rw [Nat.add_zero] at this
            rw [this]
            exact hB
          · simp at h1
      · simp at he
    · simp at he
theorem one_ren {ρ f : Nat → Nat} {ys : List AV} (h : AV.renL ρ (AV.renL f ys) = ys) : (one (AV.renL f ys)).ren ρ = one ys := by
  match ys with
  | [] => rfl
  | [x] =>
    simp only [AV.renL, List.cons.injEq, and_true] at h
    exact h
  | x :: y :: l =>
    simp only [AV.renL, one, AV.ren] at h ⊢
    rw [h]
theorem VC.lead {N : Nat} {c : Code} {σ : ASt} {Q : Exit → ASt → Prop} (h : VC P N c σ fun e σ' => ∃ σ'', Leads P σ' σ'' ∧ Q e σ'') : VC P N c σ Q :=
  ⟨fun C a W r => Code.wp_mono (fun _ _ _ ⟨_, ⟨σ'', h1, h2⟩, h3⟩ => ⟨σ'', h2, h1 _ _ _ _ h3⟩) (h.out C a W r)⟩
theorem loop_ok {N : Nat} {x : Code} {b : XS → R (Exit × XS)} (hb : ∀ s e s', b s = .ok (e, s') → VC P N x (XS.st s) (Post e s')) : ∀ (k : Nat) (s : XS) (e : Exit) (s' : XS), loopF b k s = .ok (e, s') → ∀ (C : Ctx P) (a : Act) (W : World), RelS C N (XS.st s) a W →
    Code.rounds P x (fun e' a' W' => ∃ σ', Post e s' e' σ' ∧ RelS C N σ' a' W') k a W
  | 0, s, e, s', h, _, _, _, _ => nomatch h
  | k + 1, s, e, s', h, C, a, W, r => by
    unfold loopF at h
    rw [rounds_succ]
    split at h
    · rename_i s1 h1
      refine Code.wp_mono ?_ ((hb _ _ _ h1).out C a W r)
      rintro e' a' W' ⟨σ', ⟨rfl, rfl⟩, hr⟩
      exact loop_ok hb k s1 e s' h C a' W' hr
    · rename_i hn
      refine Code.wp_mono ?_ ((hb _ _ _ h).out C a W r)
      rintro e' a' W' ⟨σ', ⟨rfl, rfl⟩, hr⟩
      cases e' with
      | normal => exact absurd h (hn _)
      | _ => exact ⟨_, ⟨rfl, rfl⟩, hr⟩
theorem sEq_ok {a b : ByteArray} (h : sEq a b = true) : a = b := by
  unfold sEq at h
  rw [beq_iff_eq] at h
  exact ByteArray.ext (Array.toList_inj.1 h)
theorem eqCell_ok {x y : AV} (h : eqCell x y = true) : x = y := by
  unfold eqCell at h
  split at h
  · rw [Bool.and_eq_true, q2c] at h
    rw [j61 h.1, h.2]
  · rw [sEq_ok h]
  · rw [beq_iff_eq] at h
    rw [h]
  · rfl
  · rw [Bool.and_eq_true, Nat.beq_eq, Nat.beq_eq] at h
    rw [h.1, h.2]
  · rw [Bool.and_eq_true, Bool.and_eq_true, Bool.and_eq_true, Nat.beq_eq, Nat.beq_eq, Nat.beq_eq, Nat.beq_eq] at h
    rw [h.1.1.1, h.1.1.2, h.1.2, h.2]
  · simp at h
theorem j9x : ∀ {l m : List AV}, j2a l m = true → l = m
  | [], [], _ => rfl
  | x :: l, y :: m, h => by
    simp only [j2a, Bool.and_eq_true] at h
    rw [eqCell_ok h.1, j9x h.2]
  | [], _ :: _, h => by simp [j2a] at h
  | _ :: _, [], h => by simp [j2a] at h
theorem flag_ok {B : Blkd} {b : Option Blkd} (h : flag B b = true) : b = some B := by
  unfold flag at h
  split at h
  · split at h
    · rw [Bool.and_eq_true, Bool.and_eq_true, Nat.beq_eq, Nat.beq_eq] at h
      rw [h.1.1, h.1.2, j9x h.2]
    · simp at h
  · simp at h
theorem j98 : ∀ {L : List Blkd} {L' : List (Option Blkd)}, L.length ≤ L'.length → q7d (j3a L L') L L'
  | [], _, _ => by simp [j3a, q7d]
  | B :: L, [], h => by simp at h
  | B :: L, b :: L', h => by
    have ih := j98 (L := L) (L' := L') (by simpa using h)
    unfold j3a
    cases hf : flag B b with
    | true => exact ⟨flag_ok hf, ih⟩
    | false => exact ih
theorem z5q {E : Env} (hE : EnvOk P E) {ops : Array Oper} {o : Oper} {n : Nat} {t : Nat → AV} {h : Nat → Option Blkd} {cl : FuncId → List AV → R Eff}
    (hcl : ∀ f xs e, cl f xs = .ok e → q8d P f xs n h e) {e : Eff} (hop : opxF E.ty E.gl ops o n t h cl = .ok e) : JG P ops o n t h e := by
  unfold opxF at hop
  split at hop
  · rename_i hg
    exact JG.plain hg (j7g hE.ty hE.gl hcl hop)
  · rename_i g w hg
    split at hop
    · rename_i d hd
      rw [Array.getElem?_toList] at hd
      split at hop
      · rename_i hb
        obtain rfl := Except.ok.inj hop
        exact JG.maybe hg hd hb (fun hf => nomatch hf)
      · rename_i hb
        split at hop
        · rename_i v rd h1
          obtain rfl := Except.ok.inj hop
          exact JG.maybe hg hd hb fun _ => j7g hE.ty hE.gl hcl h1
        · exact JG.guarded hg hd hb (j7g hE.ty hE.gl hcl hop)
      · exact nomatch hop
    · exact nomatch hop
theorem j7h {E : Env} (hE : EnvOk P E) {cl : H → Nat → FuncId → List AV → R Eff} (hcl : ∀ h n f xs e, cl h n f xs = .ok e → q8d P f xs n (look none h) e) {ops : Array Oper} {Rr : (Nat → AV) → (Nat → Option Blkd) → Foot → Prop} : ∀ (l : List Oper) (s : XS) (fs : Foot) (s' : XS) (fs' : Foot), (∀ o ∈ l, ∀ k, o.dst = some k → k ≤ 1000000) → opsF E.ty E.gl cl ops l s fs = .ok (s', fs') →
    Rr (tget s'.l) (look none s'.h) fs'.reverse → AOps P ops l s.n (tget s.l) (look none s.h) fs.reverse Rr ∧ s'.n = s.n + 8 * l.length
  | [], s, fs, s', fs', _, h, hR => by
    obtain ⟨rfl, rfl⟩ := Prod.mk.inj (Except.ok.inj h)
    exact ⟨hR, rfl⟩
  | o :: l, s, fs, s', fs', hd, h, hR => by
    unfold opsF at h
    split at h
    · rename_i e he
      have h1 := z5q hE (hcl s.h s.n) he
      obtain ⟨h2, h3⟩ := j7h hE hcl l _ _ _ _ (fun o ho => hd o (by simp [ho])) h hR
      simp only [putO_look _ _ (hd o (by simp)), z1r, List.reverse_cons] at h2
      refine ⟨⟨e, h1, h2⟩, ?_⟩
      simp only [] at h3
      rw [h3, List.length_cons, Nat.add_eq]
      omega
    · exact nomatch h
theorem j7l {E : Env} (hE : EnvOk P E) {rec : Nat → Code → XS → R (Exit × XS)} {sb : Bool} (hcl : ∀ h n f xs e, j1z E sb rec h n f xs = .ok e → q8d P f xs n (look none h) e) {N id : Nat} {ops : Array Oper} {d : Bool} {s s' : XS} {e : Exit} (h : regF E sb rec N id ops d s = .ok (e, s')) :
    VC P N (.region id ops d) (XS.st s) (Post e s') := by
  unfold regF at h
  split at h
  · exact nomatch h
  · rename_i hd
    rw [Bool.and_eq_true, Bool.and_eq_true, Nat.ble_eq] at hd
    obtain ⟨⟨hN, hd1⟩, hd2⟩ := hd
    have hd : _ ∧ _ := ⟨hd1, hd2⟩
    split at h
    · rename_i s1 fs h1
      split at h
      · rename_i hk
        obtain ⟨rfl, rfl⟩ := Prod.mk.inj (Except.ok.inj h)
        obtain ⟨l, rfl⟩ : ∃ l : List Oper, ops = l.toArray := ⟨ops.toList, by simp⟩
        simp only [List.toList_toArray] at h1 hd
        have hdo : ∀ o ∈ l, ∀ k, o.dst = some k → k ≤ 1000000 := fun o ho k hk => Nat.le_trans (Nat.le_of_lt (dst_of hd.1 o ho k hk)) hN
        cases d with
        | false =>
          refine VC.region hd.1 hd.2 ⟨?_⟩
          have h2 := fun Rr hR => j7h hE hcl (Rr := Rr) l s [] s1 fs hdo h1 hR
          refine (h2 _ ⟨rfl, ?_⟩).1
          have h3 := (h2 (fun _ _ _ => True) trivial).2
          simp only [XS.st, h3]
        | true =>
          refine VC.draw hE.mix hd.1 hd.2 ⟨?_⟩
          have h2 := fun Rr hR => j7h hE hcl (Rr := Rr) l s [] s1 fs hdo h1 hR
          refine (h2 _ ⟨by simpa using hk, rfl, ?_⟩).1
          have h3 := (h2 (fun _ _ _ => True) trivial).2
          simp only [XS.st, h3]
      · exact nomatch h
    · exact nomatch h
theorem j2v {E : Env} (hE : EnvOk P E) {s : XS} {K : Nat → Bool} {x : ResultVar} {v : AV} (h : resX E.ty s x = .ok v) (hf : Frz K (look none s.h) v v) : resV P K (XS.st s) x v := by
  unfold resX at h
  unfold resV
  split at h
  · rename_i k
    simp only [XS.st]
    split at h
    · rename_i y hy
      obtain rfl := Except.ok.inj h
      rw [hy]
      exact ⟨rfl, hf⟩
    · exact nomatch h
    · rename_i hn1 hn2
      obtain rfl := Except.ok.inj h
      cases hx : tget s.l k with
      | opt b y =>
        cases b with
        | true => exact absurd hx (hn1 _)
        | false => exact absurd hx (hn2 _)
      | _ => rw [hx] at hf; exact ⟨trivial, hf⟩
  · rename_i a tt
    split at h
    · rename_i T hT
      split at h
      · rename_i j m i off hx
        split at h
        · rename_i B hB
          split at h
          · rename_i e he
            split at h
            · rename_i hc
              obtain rfl := Except.ok.inj h
              simp only [Bool.and_eq_true, Nat.beq_eq, Nat.ble_eq, Bool.or_eq_true] at hc
              simp only [XS.st, hE.ty _ _ hT, hx, AV.get, hB, he, AV.okb]
              exact ⟨trivial, hc.1.1, hc.1.2, fun hr => hc.2.resolve_left (by rw [hr]; simp), hf⟩
            · exact nomatch h
          · exact nomatch h
        · exact nomatch h
      · exact nomatch h
    · exact nomatch h
theorem resL_ok {E : Env} (hE : EnvOk P E) {s : XS} {K : Nat → Bool} : ∀ (rs : List ResultVar) (ys : List AV), resL E.ty s rs = .ok ys → rs.length ≤ 3 → FrzL K (look none s.h) ys ys → q1x P K (XS.st s) rs (one ys) := by
  have step : ∀ (x : ResultVar) (l : List ResultVar) (ys : List AV), resL E.ty s (x :: l) = .ok ys → ∃ v m, ys = v :: m ∧ resX E.ty s x = .ok v ∧ resL E.ty s l = .ok m := by
    intro x l ys h
    unfold resL at h
    split at h
    · rename_i v hv
      split at h
      · rename_i m hm
        exact ⟨v, m, (Except.ok.inj h).symm, hv, hm⟩
      · exact nomatch h
    · exact nomatch h
  intro rs ys h hl hf
  match rs, hl with
  | [], _ =>
    obtain rfl := Except.ok.inj h
    rfl
  | [a], _ =>
    obtain ⟨v, m, rfl, h1, h2⟩ := step _ _ _ h
    obtain rfl := Except.ok.inj h2
    cases hf with
    | cons f1 _ => exact j2v hE h1 f1
  | [a, b], _ =>
    obtain ⟨v, m, rfl, h1, h2⟩ := step _ _ _ h
    obtain ⟨w, m, rfl, h3, h4⟩ := step _ _ _ h2
    obtain rfl := Except.ok.inj h4
    cases hf with
    | cons f1 hf => cases hf with
      | cons f2 _ => exact ⟨j2v hE h1 f1, j2v hE h3 f2⟩
  | [a, b, c], _ =>
    obtain ⟨v, m, rfl, h1, h2⟩ := step _ _ _ h
    obtain ⟨w, m, rfl, h3, h4⟩ := step _ _ _ h2
    obtain ⟨u, m, rfl, h5, h6⟩ := step _ _ _ h4
    obtain rfl := Except.ok.inj h6
    cases hf with
    | cons f1 hf => cases hf with
      | cons f2 hf => cases hf with
        | cons f3 _ => exact ⟨j2v hE h1 f1, j2v hE h3 f2, j2v hE h5 f3⟩
  | _ :: _ :: _ :: _ :: _, hl => simp at hl
theorem fin_ok {E : Env} (hE : EnvOk P E) {M : Nat} {f : FuncId} {rs : List ResultVar} {L : List Blkd} {s : XS} {L' : List (Option Blkd)} {y : AV} (h : fin E M f rs L s = .ok (L', y)) :
    zOk L L' ∧ ScM L' y ∧ ∃ news, (L'.length = L.length + news.length ∧ news.Nodup ∧ ∀ k ∈ news, k < 1000000) ∧ ∃ s1 : XS, Leads P (XS.st s) (XS.st s1) ∧ q4t (XS.st s1).h (rhoE L.length news) 1000000 L' ∧ q1x P (q4m news) (XS.st s1) rs (y.ren (rhoE L.length news)) := by
  unfold fin at h
  split at h
  · exact nomatch h
  · rename_i ys0 h0
    dsimp only at h
    generalize hs1 : j2f M _ s = s1 at h
    have hl : Leads P (XS.st s) (XS.st s1) := hs1 ▸ j6n _ _ _
    split at h
    · exact nomatch h
    · rename_i ys h1
      generalize hnews : List.filter (fun j => Nat.blt j 1000000) _ = news at h
      have hlt : ∀ k ∈ news, k < 1000000 := by
        intro k hk
        rw [← hnews, List.mem_filter, Nat.blt_eq] at hk
        exact hk.2
      split at h
      · exact nomatch h
      · rename_i L1 h2
        split at h
        · rename_i hc
          obtain ⟨h3, rfl⟩ := Prod.mk.inj (Except.ok.inj h)
          subst h3
          simp only [Bool.and_eq_true, Nat.ble_eq] at hc
          obtain ⟨⟨⟨⟨⟨⟨c1, c2⟩, c3⟩, c4⟩, c5⟩, c6⟩, c7⟩ := hc
          have hu : ∀ j, (Nat.ble 1000000 j && Nat.blt j (1000000 + L1.length)) = true → inL L1.length j := by
            intro j hj
            rw [Bool.and_eq_true, Nat.ble_eq, Nat.blt_eq] at hj
            exact hj
          refine ⟨zOk_ok c1, ⟨sc_ok hu _ c5, fun b hb B hB e he => ?_⟩, news, ⟨?_, j7d c2, hlt⟩, s1, hl, ?_, ?_⟩
          · have := List.all_eq_true.1 c6 b hb
            rw [hB] at this
            exact q7e hu e (List.all_eq_true.1 this e he)
          · rw [j9s _ _ h2, List.length_append, q67]
          · exact j9t (fun j => z14) _ _ _ h2 fun p k => rhoE_at
          · rw [one_ren (q70 (fun j => z14) _ c3)]
            refine resL_ok hE rs ys h1 c7 (j2g (ks := q6o L.length 1000000 ++ news) (fun j hj => ?_) _ c3 c4)
            unfold q4m
            rw [Bool.or_eq_true, decide_eq_true_eq, List.contains_iff_mem]
            rcases List.mem_append.1 (mem_ok hj) with hj | hj
            · left
              obtain ⟨p, hp, rfl⟩ := List.getElem_of_mem hj
              have := j4z L.length 1000000 p (by rw [q67] at hp; exact hp)
              rw [List.getElem?_eq_getElem hp] at this
              have := Option.some.inj this
              omega
            · exact .inr hj
        · exact nomatch h
theorem j7v {E : Env} (hE : EnvOk P E) {rec : Nat → Code → XS → R (Exit × XS)} (hrec : Does P rec) {f : FuncId} {args : List AV} {L : List Blkd} {L' : List (Option Blkd)} {y : AV} (h : runF E rec f args L = .ok (L', y)) : ToldM P f args L L' y := by
  unfold runF at h
  split at h
  · split at h
    · rename_i z hz
      obtain ⟨rfl, rfl⟩ := Prod.mk.inj (Except.ok.inj h)
      exact hE.orc _ _ _ hz
    · exact nomatch h
  split at h
  · exact nomatch h
  · rename_i F hF
    split at h
    · exact nomatch h
    · rename_i hc
      rw [Bool.and_eq_true, Bool.and_eq_true, Bool.and_eq_true, Nat.ble_eq, Nat.ble_eq] at hc
      obtain ⟨⟨⟨hN, hc1⟩, hc2⟩, hc3⟩ := hc
      have hc : (_ ∧ _) ∧ _ := ⟨⟨hc1, hc2⟩, hc3⟩
      obtain ⟨fn, f1, f2, f3, f4, f5⟩ := hE.fn _ _ hF
      have hu : ∀ j, Nat.ble 1000000 j = true → Used 0 j := fun j hj => .inr (Nat.le_of_ble_eq_true hj)
      have key : ∀ (e : Exit) (s : XS), (e = .normal ∨ e = .ret) → rec F.N F.body ⟨toT (enum id args 0), enum some L 1000000, 0⟩ = .ok (e, s) → fin E F.N f F.results L s = .ok (L', y) → ToldM P f args L L' y := by
        intro e s he hr hf
        obtain ⟨k1, k2, news, k3, s1, k4, k5, k6⟩ := fin_ok hE hf
        refine VC.toldM f5 news f1 f2 f3 hc.1.1 (fun x hx => ?_) (fun B hB e he => ?_) k1 k2 k3 fun _ _ => VC.lead ?_
        · have := q7e hu _ hc.1.2 x hx
          rwa [j67] at this
        · have := q7e hu e (List.all_eq_true.1 (List.all_eq_true.1 hc.2 B hB) e he)
          rwa [j67] at this
        · have := hrec _ _ _ _ _ hr
          simp only [XS.st, j77 _ (enum_lt (Nat.le_trans hc1 hN)), argT_is, j67] at this
          refine VC.mono this ?_
          rintro e' σ' ⟨rfl, rfl⟩
          exact ⟨_, k4, he, k5, by rw [f4]; exact k6⟩
      split at h
      · exact nomatch h
      · rename_i s hs
        exact key _ _ (.inl rfl) hs h
      · rename_i s hs
        exact key _ _ (.inr rfl) hs h
      · exact nomatch h
theorem callE_ok {E : Env} (hE : EnvOk P E) {sb : Bool} {rec : Nat → Code → XS → R (Exit × XS)} (hrec : Does P rec) {h : H} {n : Nat} {f : FuncId} {xs : List AV} {e : Eff} (hc : j1z E sb rec h n f xs = .ok e) : q8d P f xs n (look none h) e := by
  unfold j1z at hc
  generalize q84 (look none h) 10000 (q4i xs) [] = ks at hc
  dsimp only at hc
  split at hc
  · exact nomatch hc
  split at hc
  · rename_i L h1 h2
    rw [Bool.and_eq_true] at h2
    split at hc
    · exact nomatch hc
    · rename_i L' y h3
      split at hc
      · exact nomatch hc
      split at hc
      · rename_i h4
        obtain rfl := Except.ok.inj hc
        exact ⟨y, ks, _, L, L', _, z0t (fun j => rho_inv) _ _ h1, j7d h2.1, Nat.le_of_ble_eq_true h4, (q70 (fun j => rho_inv) _ h2.2).symm, j7v hE hrec h3, j98 (j3u L L' (j7v hE hrec h3).zs), rfl⟩
      · exact nomatch hc
  · exact nomatch hc
theorem regT_ok {E : Env} (hE : EnvOk P E) {rec : Nat → Code → XS → R (Exit × XS)} (hcl : ∀ sb h n f xs e, j1z E sb rec h n f xs = .ok e → q8d P f xs n (look none h) e) {N id : Nat} {ops : Array Oper} {d : Bool} {e : Exit} {s' : XS} : ∀ (k : Nat) (s : XS), regT E rec N id ops d k s = .ok (e, s') →
    VC P N (.region id ops d) (XS.st s) (Post e s')
  | 0, s, h => j7l hE (hcl _) h
  | k + 1, s, h => by
    unfold regT at h
    split at h
    · split at h
      · rename_i s1 h1
        have h2 := regT_ok hE hcl k s1 h
        exact ⟨fun C a W r => h2.out C a W (frz_ok h1 C N a W r)⟩
      · exact j7l hE (hcl _) h
    · exact j7l hE (hcl _) h
theorem exF_ok {E : Env} (hE : EnvOk P E) {rec : Nat → Code → XS → R (Exit × XS)} (hrec : Does P rec) : Does P (exF E rec) := by
  intro N c s e s' h
  have hcl : ∀ sb h n f xs e, j1z E sb rec h n f xs = .ok e → q8d P f xs n (look none h) e := fun sb h n f xs e => callE_ok hE hrec
  unfold exF at h
  split at h
  · obtain ⟨rfl, rfl⟩ := Prod.mk.inj (Except.ok.inj h); exact VC.skip ⟨rfl, rfl⟩
  · obtain ⟨rfl, rfl⟩ := Prod.mk.inj (Except.ok.inj h); exact VC.ret ⟨rfl, rfl⟩
  · obtain ⟨rfl, rfl⟩ := Prod.mk.inj (Except.ok.inj h); exact VC.exit ⟨rfl, rfl⟩
  · obtain ⟨rfl, rfl⟩ := Prod.mk.inj (Except.ok.inj h); exact VC.label ⟨rfl, rfl⟩
  · exact regT_ok hE hcl _ _ h
  · split at h
    · rename_i s1 h1
      refine VC.seq (VC.mono (hrec _ _ _ _ _ h1) ?_)
      rintro e' σ' ⟨rfl, rfl⟩
      exact .normal (hrec _ _ _ _ _ h)
    · rename_i s1 h1
      obtain ⟨rfl, rfl⟩ := Prod.mk.inj (Except.ok.inj h)
      refine VC.seq (VC.mono (hrec _ _ _ _ _ h1) ?_)
      rintro e' σ' ⟨rfl, rfl⟩
      exact .ret ⟨rfl, rfl⟩
    · rename_i i s1 h1
      obtain ⟨rfl, rfl⟩ := Prod.mk.inj (Except.ok.inj h)
      refine VC.seq (VC.mono (hrec _ _ _ _ _ h1) ?_)
      rintro e' σ' ⟨rfl, rfl⟩
      exact .exit ⟨rfl, rfl⟩
    · exact nomatch h
    · exact nomatch h
  · split at h
    · rename_i s1 h1
      obtain ⟨rfl, rfl⟩ := Prod.mk.inj (Except.ok.inj h)
      refine VC.block (VC.mono (hrec _ _ _ _ _ h1) ?_)
      rintro e' σ' ⟨rfl, rfl⟩
      exact .normal ⟨rfl, rfl⟩
    · rename_i s1 h1
      obtain ⟨rfl, rfl⟩ := Prod.mk.inj (Except.ok.inj h)
      refine VC.block (VC.mono (hrec _ _ _ _ _ h1) ?_)
      rintro e' σ' ⟨rfl, rfl⟩
      exact .ret ⟨rfl, rfl⟩
    · rename_i i s1 h1
      refine VC.block (VC.mono (hrec _ _ _ _ _ h1) ?_)
      rintro e' σ' ⟨rfl, rfl⟩
      split at h
      · rename_i hi
        obtain ⟨rfl, rfl⟩ := Prod.mk.inj (Except.ok.inj h)
        rw [Nat.beq_eq] at hi
        subst hi
        exact .exit ⟨rfl, rfl⟩
      · rename_i hi
        obtain ⟨rfl, rfl⟩ := Prod.mk.inj (Except.ok.inj h)
        exact .other (fun hx => by rw [hx] at hi; simp at hi) ⟨rfl, rfl⟩
    · exact nomatch h
    · exact nomatch h
  · split at h
    · rename_i h1 h2
      exact VC.condT h1 (q01 h2) (hrec _ _ _ _ _ h)
    · rename_i h1 h2
      exact VC.condF h1 (q01 h2) (hrec _ _ _ _ _ h)
    · exact nomatch h
  · rename_i x
    exact ⟨fun C a W r => wp_loop_rounds _ (loop_ok (fun s e s' => hrec N x s e s') _ _ _ _ h C a W r)⟩
  · split at h
    · rename_i s1 h1
      obtain ⟨rfl, rfl⟩ := Prod.mk.inj (Except.ok.inj h)
      refine VC.scope (VC.mono (hrec _ _ _ _ _ h1) ?_)
      rintro e' σ' ⟨rfl, rfl⟩
      exact .normal ⟨rfl, rfl⟩
    · rename_i s1 h1
      obtain ⟨rfl, rfl⟩ := Prod.mk.inj (Except.ok.inj h)
      refine VC.scope (VC.mono (hrec _ _ _ _ _ h1) ?_)
      rintro e' σ' ⟨rfl, rfl⟩
      exact .ret ⟨rfl, rfl⟩
    · rename_i i s1 h1
      obtain ⟨rfl, rfl⟩ := Prod.mk.inj (Except.ok.inj h)
      refine VC.scope (VC.mono (hrec _ _ _ _ _ h1) ?_)
      rintro e' σ' ⟨rfl, rfl⟩
      exact .exit ⟨rfl, rfl⟩
    · exact nomatch h
    · exact nomatch h
  · exact nomatch h
theorem ex_ok {E : Env} (hE : EnvOk P E) : ∀ n, Does P (ex E n)
  | 0 => fun N c s e s' h => nomatch h
  | n + 1 => exF_ok hE (ex_ok hE n)
theorem run_told {E : Env} (hE : EnvOk P E) {n : Nat} {f : FuncId} {args : List AV} {L : List Blkd} {L' : List (Option Blkd)} {y : AV} (h : runF E (ex E n) f args L = .ok (L', y)) : ToldM P f args L L' y := j7v hE (ex_ok hE n) h
def env (P : Program) (isO fz : FuncId → Bool) (orc : FuncId → List AV → Option AV) : Env :=
  ⟨tyA P, glob P, fun f => match P.funcs[f]? with
    | some fn => match fn.name == "runtime.NumGoroutine", fn.body with
      | false, some c => some ⟨fn.ntmps, c, fn.results.toList⟩
      | _, _ => none
    | none => none, orc, isO, fz⟩
theorem env_ok {isO fz : FuncId → Bool} {orc : FuncId → List AV → Option AV} (hm : P.follows .mixedOrders = true) (ho : ∀ f args y, orc f args = some y → ToldM P f args [] [] y) : EnvOk P (env P isO fz orc) := by
  refine ⟨hm, fun _ _ h => h, fun _ _ h => h, fun f F h => ?_, ho⟩
  simp only [env] at h
  split at h
  · rename_i fn hf
    split at h
    · rename_i c h1 h2
      obtain rfl := Option.some.inj h
      exact ⟨fn, hf, h2, rfl, rfl, q0r hf h1 (by rw [h2]; rfl)⟩
    · simp at h
  · simp at h
section
variable {W : World} {ro : Nat → Prop}
mutual
theorem eqPV_ok : ∀ {x y : PV}, eqPV x y = true → ∀ {v : Value}, PRep W ro x v → PRep W ro y v
  | .v a, y, h, v, hr => by
    unfold eqPV at h
    split at h
    · rename_i h2
      rw [Bool.and_eq_true, q2c] at h
      rw [h2, j61 h.1, h.2] at hr
      exact hr
    · rename_i h2
      rw [h2, sEq_ok h] at hr
      exact hr
    · rename_i h2
      rw [beq_iff_eq] at h
      rw [h2, h] at hr
      exact hr
    · rename_i h2
      rw [h2] at hr
      cases hr with
      | v => exact PRep.nil _ _ _
    · rename_i h2
      rw [h2] at hr
      exact hr
    · rename_i h2
      exact nomatch h2
    · simp at h
  | .sl z es, y, h, v, hr => by
    unfold eqPV at h
    split at h
    · rename_i h2; exact nomatch h2
    · rename_i h2; exact nomatch h2
    · rename_i h2; exact nomatch h2
    · rename_i h2; exact nomatch h2
    · rename_i h2; exact nomatch h2
    · rename_i z' es' h2
      cases h2
      rw [Bool.and_eq_true, Nat.beq_eq] at h
      obtain ⟨hz0, he⟩ := h
      subst hz0
      obtain ⟨k1, k2⟩ := j9y he
      cases hr with
      | @sl _ _ a c vss hn hc hnil ha hl hz hz' hx =>
        have hlen : es.length = es'.length := k1
        rw [hlen]
        refine .sl (by omega) hc hnil (fun hne => ha fun e0 => hne ?_) (by omega) (fun i e he => ?_) hz' (fun i j e vs p v h1 h2 h3 h4 => ?_)
        · rw [e0] at hlen
          exact List.eq_nil_of_length_eq_zero hlen.symm
        · have hi : i < es.length := by rw [hlen]; exact (List.getElem?_eq_some_iff.1 he).1
          rw [← (k2 i _ e (List.getElem?_eq_getElem hi) he).1]
          exact hz i _ (List.getElem?_eq_getElem hi)
        · have hi : i < es.length := by rw [hlen]; exact (List.getElem?_eq_some_iff.1 h1).1
          obtain ⟨g1, g2⟩ := k2 i _ e (List.getElem?_eq_getElem hi) h1
          have hj : j < es[i].length := by rw [g1]; exact (List.getElem?_eq_some_iff.1 h3).1
          exact g2 j _ p (List.getElem?_eq_getElem hj) h3 (hx i j _ vs _ v (List.getElem?_eq_getElem hi) h2 (List.getElem?_eq_getElem hj) h4)
    · simp at h
theorem j9z : ∀ {l m : List PV}, j2c l m = true → l.length = m.length ∧ ∀ (j : Nat) (p q : PV), l[j]? = some p → m[j]? = some q → ∀ {v : Value}, PRep W ro p v → PRep W ro q v
  | [], [], _ => ⟨rfl, by simp⟩
  | x :: l, y :: m, h => by
    simp only [j2c, Bool.and_eq_true] at h
    obtain ⟨k1, k2⟩ := j9z h.2
    refine ⟨by simp [k1], fun j p q h1 h2 v hr => ?_⟩
    cases j with
    | zero =>
      simp at h1 h2
      subst h1 h2
      exact eqPV_ok h.1 hr
    | succ j => exact k2 j p q (by simpa using h1) (by simpa using h2) hr
  | [], _ :: _, h => by simp [j2c] at h
  | _ :: _, [], h => by simp [j2c] at h
theorem j9y : ∀ {l m : List (List PV)}, j2b l m = true → l.length = m.length ∧ ∀ (i : Nat) (e e' : List PV), l[i]? = some e → m[i]? = some e' → e.length = e'.length ∧ ∀ (j : Nat) (p q : PV), e[j]? = some p → e'[j]? = some q → ∀ {v : Value}, PRep W ro p v → PRep W ro q v
  | [], [], _ => ⟨rfl, by simp⟩
  | x :: l, y :: m, h => by
    simp only [j2b, Bool.and_eq_true] at h
    obtain ⟨k1, k2⟩ := j9y h.2
    refine ⟨by simp [k1], fun i e e' h1 h2 => ?_⟩
    cases i with
    | zero =>
      simp at h1 h2
      subst h1 h2
      exact j9z h.1
    | succ i => exact k2 i e e' (by simpa using h1) (by simpa using h2)
  | [], _ :: _, h => by simp [j2b] at h
  | _ :: _, [], h => by simp [j2b] at h
end
variable {φ : Nat → Value} {hh : Nat → Option Blkd}
theorem j9v {x y : AV} (h : eqAV1 x y = true) {v : Value} (hr : Rep W ro φ hh x v) : Rep W ro φ hh y v := by
  unfold eqAV1 at h
  split at h
  · cases hr with
    | c hp => exact .c (eqPV_ok h hp)
  · simp at h
theorem j9u : ∀ {l m : List AV}, j18 l m = true → l.length = m.length ∧ ∀ (j : Nat) (p q : AV), l[j]? = some p → m[j]? = some q → ∀ {v : Value}, Rep W ro φ hh p v → Rep W ro φ hh q v
  | [], [], _ => ⟨rfl, by simp⟩
  | x :: l, y :: m, h => by
    simp only [j18, Bool.and_eq_true] at h
    obtain ⟨k1, k2⟩ := j9u h.2
    refine ⟨by simp [k1], fun j p q h1 h2 v hr => ?_⟩
    cases j with
    | zero =>
      simp at h1 h2
      subst h1 h2
      exact j9v h.1 hr
    | succ j => exact k2 j p q (by simpa using h1) (by simpa using h2) hr
  | [], _ :: _, h => by simp [j18] at h
  | _ :: _, [], h => by simp [j18] at h
theorem eqAV_ok {x y : AV} (h : eqAV x y = true) {v : Value} (hr : Rep W ro φ hh x v) : Rep W ro φ hh y v := by
  unfold eqAV at h
  split at h
  · rename_i l m
    obtain ⟨k1, k2⟩ := j9u (W := W) (ro := ro) (φ := φ) (hh := hh) h
    cases hr with
    | agg hl hx =>
      refine .agg (by omega) fun j x v h1 h2 => ?_
      have hj : j < l.length := by rw [k1]; exact (List.getElem?_eq_some_iff.1 h1).1
      exact k2 j _ x (List.getElem?_eq_getElem hj) h1 (hx j _ v (List.getElem?_eq_getElem hj) h2)
  · exact j9v h hr
theorem j9w : ∀ {l m : List AV}, j19 l m = true → l.length = m.length ∧ ∀ (j : Nat) (p q : AV), l[j]? = some p → m[j]? = some q → ∀ {v : Value}, Rep W ro φ hh p v → Rep W ro φ hh q v
  | [], [], _ => ⟨rfl, by simp⟩
  | x :: l, y :: m, h => by
    simp only [j19, Bool.and_eq_true] at h
    obtain ⟨k1, k2⟩ := j9w h.2
    refine ⟨by simp [k1], fun j p q h1 h2 v hr => ?_⟩
    cases j with
    | zero =>
      simp at h1 h2
      subst h1 h2
      exact eqAV_ok h.1 hr
    | succ j => exact k2 j p q (by simpa using h1) (by simpa using h2) hr
  | [], _ :: _, h => by simp [j19] at h
  | _ :: _, [], h => by simp [j19] at h
end
theorem orcL_ok : ∀ {l : List (FuncId × List AV × AV)}, (∀ p ∈ l, ToldM P p.1 p.2.1 [] [] p.2.2) → ∀ {f : FuncId} {a : List AV} {y : AV}, orcL l f a = some y → ToldM P f a [] [] y
  | [], _, f, a, y, h => by simp [orcL] at h
  | p :: l, hp, f, a, y, h => by
    unfold orcL at h
    split at h
    · rename_i hq
      rw [Bool.and_eq_true, Nat.beq_eq] at hq
      obtain rfl := Option.some.inj h
      have := hp p (by simp)
      rw [hq.1] at this
      refine ⟨this.enters, this.zs, this.sc, fun W ro φ vs h1 h2 h3 h4 => this.out W ro φ vs h1 h2 ?_ h4⟩
      obtain ⟨k1, k2⟩ := j9w (W := W) (ro := ro) (φ := φ) (hh := q0l (([] : List Blkd).map some)) hq.2
      refine ⟨by rw [h3.1, k1], fun j x v g1 g2 => ?_⟩
      have hj : j < a.length := by rw [k1]; exact (List.getElem?_eq_some_iff.1 g1).1
      exact k2 j _ x (List.getElem?_eq_getElem hj) g1 (h3.2 j _ v (List.getElem?_eq_getElem hj) g2)
    · exact orcL_ok (fun q hq => hp q (by simp [hq])) h
end Ex

end Go.Proofs.YthkofkaocipomaaGreatDoor
