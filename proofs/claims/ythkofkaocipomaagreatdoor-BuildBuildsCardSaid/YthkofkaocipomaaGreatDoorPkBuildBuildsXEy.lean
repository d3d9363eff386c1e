/- One operation of the evaluator is one of the frame's. -/
import Derived.Test.YthkofkaocipomaaGreatDoorPkBuildBuildsXEx
namespace Go.Proofs.YthkofkaocipomaaGreatDoor
open Go.RowKit
set_option linter.unusedVariables false
set_option linter.unusedSimpArgs false
set_option maxRecDepth 100000
namespace Ex
variable {P : Program}
theorem q1u {b : Bool} {c : Nat} {e e' : Eff} (h : gd b e c = .ok e') : b = true ∧ e = e' := by
  cases b with
  | true => exact ⟨rfl, Except.ok.inj h⟩
  | false => exact nomatch h
theorem q01 {t : Nat → AV} {x : Operand} (h : okxB t x = true) : okx t x := by
  cases x with
  | tmp k =>
    simp only [okxB] at h
    simp only [okx]
    cases h1 : t k <;> first | trivial | (rw [h1] at h; exact h)
  | _ => trivial
theorem j7f {t : Nat → AV} {l : List Operand} (h : l.all (okxB t) = true) : ∀ x ∈ l, okx t x := fun x hx => q01 (List.all_eq_true.1 h x hx)
theorem j43 {t : Nat → AV} {x : Option Operand} (h : okOB t x = true) : okO t x := by
  cases x with
  | none => trivial
  | some x => exact q01 h
theorem j23 {l : List AV} (h : j10 l = true) : ∀ x ∈ l, x.cellish = true := List.all_eq_true.1 h
theorem j9j (a : ByteArray) : a.toList = a.data.toList := ByteArray.toList_eq a
theorem q2f (a b : Nat) : (Nat.beq a b = false) = (a ≠ b) := by
  rw [← Bool.not_eq_true, Nat.beq_eq]
theorem q2g (i : Int) (n : Nat) : (ltN i n = true) = (0 ≤ i ∧ i < (n : Int)) := by
  cases i with
  | ofNat m => simp [ltN, Nat.blt_eq]
  | negSucc m => simp [ltN]
theorem q2c (a b : Int) : (eqI a b = true) = (a = b) := by
  cases a <;> cases b <;> simp [eqI] <;> omega
theorem eqI_b (a b : Int) : eqI a b = (a == b) := by
  rw [Bool.eq_iff_iff, q2c, beq_iff_eq]
theorem leI_is (a b : Int) : (leI a b = true) = (a ≤ b) := by
  cases a <;> cases b <;> simp [leI, Nat.ble_eq] <;> omega
theorem leI_b (a b : Int) : leI a b = decide (a ≤ b) := by
  rw [Bool.eq_iff_iff, leI_is, decide_eq_true_eq]
theorem z3v (k : IntKind) (n : Int) : wrapF k n = k.wrap n := by
  unfold wrapF
  split
  · split
    · rename_i h
      rw [Nat.blt_eq] at h
      exact (q0w (by simp only [Int.ofNat_eq_natCast]; omega) (by simp only [Int.ofNat_eq_natCast]; omega)).symm
    · rfl
  · split
    · rename_i m _ h
      rw [Nat.blt_eq] at h
      have : IntKind.u8.wrap (m : Int) = (m : Int) % 256 := rfl
      simp only [Int.ofNat_eq_natCast, this]
      omega
    · rfl
  · rfl
theorem binG_is (op : BinOp) (k : IntKind) (a b : Int) : binG op k a b = binI op k a b := by
  cases op <;> simp only [binG, binI, z3v, eqI_b, leI_b] <;> first
    | rfl
    | (simp only [bne]; done)
    | (congr 1; rw [Bool.eq_iff_iff]; simp; done)
    | (congr 1; rw [Bool.eq_iff_iff]; simp; omega)
theorem binF_is (op : BinOp) (x y : Value) : binF op x y = binV op x y := by
  unfold binF
  split
  · split
    · simp [binV, binS, sEq, j9j]
    · simp [binV, binS, sEq, j9j]
    · rfl
  · exact binG_is _ _ _ _
  · rfl
theorem j61 {k k' : IntKind} (h : Nat.beq k.ctorIdx k'.ctorIdx = true) : k = k' := by
  rw [Nat.beq_eq] at h
  cases k <;> cases k' <;> first | rfl | (exact absurd h (by decide))
theorem binOk_ok {ty : Nat → Option TyA} (hty : ∀ k T, ty k = some T → tyA P k = some T) {op : BinOp} {tt : TypeId} {x y : Value} (h : binOkB ty op tt x y = true) : q4s P op tt x y := by
  unfold binOkB at h
  unfold q4s
  split at h
  · rw [Bool.and_eq_true, Bool.or_eq_true] at h
    refine ⟨h.1.imp j61 id, ?_⟩
    have h := h.2
    cases op <;> simp_all [q5j, eqI_b, leI_b]
  · cases op <;> simp_all [q5k]
  · rw [Bool.and_eq_true, Bool.or_eq_true] at h
    refine ⟨h.1.imp (fun e => by simpa using e) (fun e => by simpa using e), ?_⟩
    have h := h.2
    split at h
    · rename_i T h1
      exact ⟨T, hty _ _ h1, by simpa using h⟩
    · simp at h
  · rw [Bool.and_eq_true, Bool.or_eq_true] at h
    refine ⟨h.1.imp (fun e => by simpa using e) (fun e => by simpa using e), ?_⟩
    have h := h.2
    split at h
    · rename_i T h1
      exact ⟨T, hty _ _ h1, by simpa using h⟩
    · simp at h
  · exact absurd h (by simp)
theorem J_nilS {o : Oper} {ℓ : Nat} {t : Nat → AV} {h : Nat → Option Blkd} (op : BinOp) (ty ty' : TypeId) (x y : Operand) (T : TyA) (q b : Bool) (rd : List Nat) (ho : o.op = .binOp op ty x y ty') (hq : q26 op q = some b) (hx : okx t x) (hy : okx t y) (ey : ev t y = .c (.v (.slice none 0 0))) (hT : tyA P ty = some T) (hk : T.kind = 1)
    (hv : ∀ (C : Ctx P) (used : Nat → Prop) (N : Nat) (t1 : Nat → AV) (h1 : Nat → Option Blkd) (ro : Nat → Prop) (φ : Nat → Value) (a : Act) (W : World), (∀ j ∈ rd, h1 j = h j) → Rel C used N t1 h1 ro φ a W → ∀ v, Rep W ro φ h1 (ev t x) v → ∃ aa n c, v = .slice aa n c ∧ aa.isNone = q) :
    J P o ℓ t h ⟨.c (.v (.bool b)), rd, []⟩ := by
  refine J.val fun C used N t1 h1 ro φ a W ht hh r => ⟨.bool b, ?_, .c (.v rfl), .c⟩
  obtain ⟨h2, h3⟩ := ht x (by simp [ho, Op.operands])
  obtain ⟨h4, h5⟩ := ht y (by simp [ho, Op.operands])
  have hr := q1c r x (h3 ▸ hx)
  have hry := q13 (h := h1) (by rw [← ey, ← h4]; exact q1c r y (h5 ▸ hy))
  rw [h2] at hr
  obtain ⟨aa, n, c, hax, hq'⟩ := hv C used N t1 h1 ro φ a W hh r _ hr
  obtain ⟨d, i, a1, a2, rfl⟩ := q1v hT
  obtain ⟨e, rfl⟩ := q57 hk
  have he : (Op.equal ty (.slice aa n c) (.slice none 0 0)).run P W = .ok q W := by
    rw [← hq']
    show (Op.equalIn (9999 + 1) ty _ _).run P W = _
    rw [Op.equalIn]
    cases aa <;> simp [run_underlying a1]
  have hg : (eqGuard op ty x y (.slice aa n c) (.slice none 0 0)).run P W = .ok () W := by
    cases op <;> first | (simp [q26] at hq; done) | simp [eqGuard]
  cases op <;> first
    | (simp [q26] at hq; done)
    | (simp only [q26, Option.some.injEq] at hq; subst hq; simp [execOp, ho, hax, hry, hg, binOp, he])
theorem unOk_ok {op : UnOp} {x : Value} (h : unOkB op x = true) : q5w op x := by
  unfold unOkB at h
  unfold q5w
  split at h <;> first | trivial | simp at h
theorem z1q : ∀ {l : List AV} {e : List PV}, j2s l = some e → l = e.map .c
  | [], e, h => by simp [j2s] at h; subst h; rfl
  | x :: l, e, h => by
    cases x with
    | c p =>
      simp only [j2s] at h
      split at h
      · rename_i m h1
        obtain rfl := Option.some.inj h
        simp [z1q h1]
      · simp at h
    | _ => simp [j2s] at h
theorem j45 : ∀ {l : List (List AV)} {es : List (List PV)}, j2t l = some es → l = es.map fun e => e.map .c
  | [], es, h => by simp [j2t] at h; subst h; rfl
  | x :: l, es, h => by
    simp only [j2t] at h
    split at h
    · rename_i e h1
      split at h
      · rename_i m h2
        obtain rfl := Option.some.inj h
        simp [z1q h1, j45 h2]
      · simp at h
    · simp at h
theorem j52 : ∀ {es : List (List PV)}, j22 es = true → q51 es
  | [], _ => by simp [q51]
  | e :: l, h => by
    unfold j22 at h
    split at h
    · rename_i heq; simp at heq
    · rename_i n l' heq
      simp only [List.cons.injEq] at heq
      obtain ⟨rfl, rfl⟩ := heq
      simp only [Bool.and_eq_true, decide_eq_true_eq] at h
      intro e he
      rcases List.mem_cons.1 he with rfl | he
      · exact ⟨n, rfl, h.1.1, h.1.2⟩
      · exact j52 h.2 e he
    · simp at h
theorem more_ok {h : Nat → Option Blkd} {z : Nat} {x : AV} (hm : j40 h z x = true) : q3n h z x := by
  unfold j40 at hm
  unfold q3n
  split at hm
  · split at hm
    · rename_i B h1
      simp only [Bool.and_eq_true, beq_iff_eq] at hm
      exact ⟨B, h1, hm.1.1, hm.1.2, hm.2⟩
    · simp at hm
  · simpa using hm
  · trivial
  · simp at hm
theorem str_cut (s : ByteArray) (l u : Nat) : bstr ((s.data.toList.take u).drop l) = s.extract l u := by
  apply ByteArray.ext
  apply Array.toList_inj.1
  simp only [bstr, ByteArray.data_extract, Array.toList_extract, List.extract_eq_take_drop, List.drop_take]
def q8d (P : Program) (f : FuncId) (xs : List AV) (n : Nat) (h : Nat → Option Blkd) (e : Eff) : Prop :=
  ∃ y ks args L L' m, q2w h (rho ks n) ks L ∧ ks.Nodup ∧ L'.length ≤ L.length + 8 ∧ xs = AV.renL (rho ks n) args ∧ ToldM P f args L L' y ∧ q7d m L L' ∧ e = ⟨y.ren (rho ks n), ks, wrK (rho ks n) 1000000 m L'⟩
theorem j7g {ty : Nat → Option TyA} {gl : Nat → Option (List PV)} (hty : ∀ k T, ty k = some T → tyA P k = some T) (hgl : ∀ g e, gl g = some e → glob P g = some e) {o : Oper} {n : Nat} {t : Nat → AV} {h : Nat → Option Blkd} {cl : FuncId → List AV → R Eff}
    (hcl : ∀ f xs e, cl f xs = .ok e → q8d P f xs n h e) {e : Eff} (hop : opF ty gl o n t h cl = .ok e) : J P o n t h e := by
  unfold opF at hop
  split at hop
  · rename_i x ho
    unfold opMove at hop
    obtain ⟨hc, rfl⟩ := q1u hop
    exact j3w x (.inl ho) (q01 hc)
  · rename_i x ho
    unfold opMove at hop
    obtain ⟨hc, rfl⟩ := q1u hop
    exact j3w x (.inr ho) (q01 hc)
  · rename_i c x y ho
    unfold opPick at hop
    split at hop
    · rename_i h1
      obtain ⟨hc, rfl⟩ := q1u hop
      rw [Bool.and_eq_true] at hc
      exact j3x c x y true ho (q01 hc.1) (q01 hc.2) h1
    · rename_i h1
      obtain ⟨hc, rfl⟩ := q1u hop
      rw [Bool.and_eq_true] at hc
      exact j3x c x y false ho (q01 hc.1) (q01 hc.2) h1
    · exact nomatch hop
  · rename_i op tt x y ty' ho
    unfold opBinOp at hop
    split at hop
    · rename_i h1 h2
      split at hop
      · rename_i T b h3 h5
        obtain ⟨hc, rfl⟩ := q1u hop
        simp only [Bool.and_eq_true, beq_iff_eq, Nat.ble_eq, Nat.blt_eq, decide_eq_true_eq, Bool.not_eq_true', Bool.or_eq_true, beq_eq_false_iff_ne, ne_eq, Nat.beq_eq, q2f, q2g, q2c] at hc
        obtain ⟨⟨a1, a2⟩, a3⟩ := hc
        refine J_nilS op tt ty' x y T true b [] ho h5 (q01 a1) (q01 a2) h2 (hty _ _ h3) a3 fun C used N t1 h1' ro φ a W hh r v hr => ?_
        rw [h1] at hr
        exact ⟨none, 0, 0, q13 hr, rfl⟩
      · exact nomatch hop
    · rename_i u u' _ h1 h2
      obtain ⟨hc, rfl⟩ := q1u hop
      rw [Bool.and_eq_true, Bool.and_eq_true] at hc
      rw [binF_is]
      exact J_bin op tt ty' x y u u' ho (q01 hc.1.1) (q01 hc.1.2) h1 h2 (binOk_ok hty hc.2)
    · rename_i z es h1 h2
      split at hop
      · rename_i T b h3 h5
        obtain ⟨hc, rfl⟩ := q1u hop
        simp only [Bool.and_eq_true, beq_iff_eq, Nat.ble_eq, Nat.blt_eq, decide_eq_true_eq, Bool.not_eq_true', Bool.or_eq_true, beq_eq_false_iff_ne, ne_eq, Nat.beq_eq, q2f, q2g, q2c] at hc
        obtain ⟨⟨⟨a1, a2⟩, a3⟩, a4⟩ := hc
        refine J_nilS op tt ty' x y T false b [] ho h5 (q01 a1) (q01 a2) h2 (hty _ _ h3) a3 fun C used N t1 h1' ro φ a W hh r v hr => ?_
        rw [h1] at hr
        cases hr with
        | c hp => cases hp with
          | sl hn hc hnil ha =>
            obtain ⟨b, off, rfl, _⟩ := ha (fun e => by rw [e] at a4; simp at a4)
            exact ⟨_, _, _, rfl, rfl⟩
      · exact nomatch hop
    · rename_i j m h1 h2
      split at hop
      · rename_i T B b h3 h4 h5
        obtain ⟨hc, rfl⟩ := q1u hop
        simp only [Bool.and_eq_true, beq_iff_eq, Nat.ble_eq, Nat.blt_eq, decide_eq_true_eq, Bool.not_eq_true', Bool.or_eq_true, beq_eq_false_iff_ne, ne_eq, Nat.beq_eq, q2f, q2g, q2c] at hc
        obtain ⟨⟨⟨⟨⟨a1, a2⟩, a3⟩, a4⟩, a5⟩, a6⟩ := hc
        refine J_nilS op tt ty' x y T false b [j] ho h5 (q01 a1) (q01 a2) h2 (hty _ _ h3) a3 fun C used N t1 h1' ro φ a W hh r v hr => ?_
        rw [h1] at hr
        have hB : h1' j = some B := (hh j (by simp)).trans h4
        cases hr with
        | row _ hv =>
          obtain rfl := hv B hB a4
          obtain ⟨_, _, vs, _, h6⟩ := r.hp j B hB
          rw [if_pos a5] at h6
          rcases h6.2 with ⟨_, h7⟩ | ⟨g, cap, cur, h7, _⟩
          · unfold Blkd.len at a4
            simp only [Blkd.len] at h7
            omega
          · exact ⟨_, _, _, h7, rfl⟩
      · exact nomatch hop
    · rename_i j m i off h1 h2
      split at hop
      · rename_i T B b h3 h4 h5
        obtain ⟨hc, rfl⟩ := q1u hop
        simp only [Bool.and_eq_true, beq_iff_eq, Nat.ble_eq, Nat.blt_eq, decide_eq_true_eq, Bool.not_eq_true', Bool.or_eq_true, beq_eq_false_iff_ne, ne_eq, Nat.beq_eq, q2f, q2g, q2c] at hc
        obtain ⟨⟨⟨a1, a2⟩, a3⟩, a4⟩ := hc
        have := j3z (h := h) (ℓ := n) op tt ty' x y T b ho (j4j h5) (q01 a1) (q01 a2) (.inl ⟨j, m, i, off, B, h1, h4, a4⟩) h2 (hty _ _ h3) a3
        rw [h1] at this
        exact this
      · exact nomatch hop
    · rename_i e h1 h2
      split at hop
      · rename_i T b h3 h5
        obtain ⟨hc, rfl⟩ := q1u hop
        simp only [Bool.and_eq_true, beq_iff_eq, Nat.ble_eq, Nat.blt_eq, decide_eq_true_eq, Bool.not_eq_true', Bool.or_eq_true, beq_eq_false_iff_ne, ne_eq, Nat.beq_eq, q2f, q2g, q2c] at hc
        obtain ⟨⟨a1, a2⟩, a3⟩ := hc
        have := j3z (h := h) (ℓ := n) op tt ty' x y T b ho (j4j h5) (q01 a1) (q01 a2) (.inr ⟨e, h1⟩) h2 (hty _ _ h3) a3
        rw [h1] at this
        exact this
      · exact nomatch hop
    · rename_i j m i off j' m' i' off' h1 h2
      split at hop
      · rename_i T B b h3 h4 h5
        split at hop
        · rename_i E h6
          obtain ⟨hc, rfl⟩ := q1u hop
          simp only [Bool.and_eq_true, beq_iff_eq, Nat.ble_eq, Nat.blt_eq, decide_eq_true_eq, Bool.not_eq_true', Bool.or_eq_true, beq_eq_false_iff_ne, ne_eq, Nat.beq_eq, q2f, q2g, q2c] at hc
          obtain ⟨⟨⟨⟨⟨⟨⟨⟨a1, a2⟩, a3⟩, a4⟩, rfl⟩, rfl⟩, rfl⟩, rfl⟩, a5⟩ := hc
          exact j8v op tt ty' x y T E b _ _ _ _ B ho (j90 h5) (q01 a1) (q01 a2) h1 h2 h4 a4 (hty _ _ h3) a3 (hty _ _ h6) a5
        · exact nomatch hop
      · exact nomatch hop
    · exact nomatch hop
  · rename_i op tt x ho
    unfold opUnOp at hop
    split at hop
    · rename_i u h1
      obtain ⟨hc, rfl⟩ := q1u hop
      rw [Bool.and_eq_true] at hc
      exact J_un op tt x u ho (q01 hc.1) h1 (unOk_ok hc.2)
    · exact nomatch hop
  · rename_i x i ho
    unfold z1h at hop
    split at hop
    · rename_i l h1
      split at hop
      · rename_i y h2
        obtain ⟨hc, rfl⟩ := q1u hop
        exact j8o x i l y ho (q01 hc) h1 h2
      · exact nomatch hop
    · exact nomatch hop
  · rename_i tt ho
    unfold opAlloc at hop
    split at hop
    · rename_i T h1
      obtain ⟨hc, rfl⟩ := q1u hop
      rw [Bool.and_eq_true] at hc
      exact J_alloc tt T ho (hty _ _ h1) (fun hz => by rw [hz] at hc; simp at hc) hc.2
    · exact nomatch hop
  · rename_i tt x ho
    unfold opBox at hop
    obtain ⟨hc, rfl⟩ := q1u hop
    rw [Bool.and_eq_true] at hc
    exact J_box tt x ho (q01 hc.1) (j23 hc.2)
  · rename_i tt parts ho
    unfold opBuild at hop
    split at hop
    · rename_i T h1
      obtain ⟨hc, rfl⟩ := q1u hop
      simp only [Bool.and_eq_true, beq_iff_eq, Nat.ble_eq, Nat.blt_eq, decide_eq_true_eq, Bool.not_eq_true', Bool.or_eq_true, beq_eq_false_iff_ne, ne_eq, Nat.beq_eq, q2f, q2g, q2c] at hc
      obtain ⟨⟨⟨⟨⟨a1, a2⟩, a3⟩, a4⟩, a5⟩, a6⟩ := hc
      refine J_build tt parts T ho (hty _ _ h1) a1 (fun p hp => q01 (List.all_eq_true.1 a2 p hp)) (fun hz => by rw [hz] at a3; simp at a3) a4 (fun hz => by rw [hz] at a5; simp at a5) (fun p hp => ?_)
      have h2 := List.all_eq_true.1 a6 p hp
      rw [Bool.and_eq_true] at h2
      refine ⟨j23 h2.1, ?_⟩
      have h3 := h2.2
      split at h3
      · rename_i a b h4
        rw [Bool.and_eq_true, Nat.beq_eq, Nat.ble_eq] at h3
        rw [h4]
        simp only [Option.map_some, Option.getD_some]
        exact ⟨by rw [h3.1], h3.2⟩
      · simp at h3
    · exact nomatch hop
  · rename_i tt len parts ho
    unfold z1e at hop
    split at hop
    · rename_i T h1
      split at hop
      · rename_i E h2
        obtain ⟨hc, rfl⟩ := q1u hop
        simp only [Bool.and_eq_true, beq_iff_eq, Nat.ble_eq, Nat.blt_eq, decide_eq_true_eq, Bool.not_eq_true', Bool.or_eq_true, beq_eq_false_iff_ne, ne_eq, Nat.beq_eq, q2f, q2g, q2c] at hc
        obtain ⟨⟨⟨⟨⟨⟨a1, a2⟩, a3⟩, a4⟩, a5⟩, a6⟩, a7⟩ := hc
        refine j8k tt len parts T E ho (hty _ _ h1) a1 (hty _ _ h2) (fun p hp => q01 (List.all_eq_true.1 a2 p hp)) a3 a4 a5 a6 (fun p hp => ?_)
        have h2 := List.all_eq_true.1 a7 p hp
        simp only [Bool.and_eq_true, Nat.blt_eq, Nat.beq_eq] at h2
        exact ⟨j23 h2.1.1, h2.1.2, h2.2⟩
      · exact nomatch hop
    · exact nomatch hop
  · rename_i tt x ho
    unfold opLoad at hop
    split at hop
    · rename_i T h1
      split at hop
      · rename_i j m i off h2
        split at hop
        · rename_i B h3
          split at hop
          · rename_i e h4
            obtain ⟨hc, rfl⟩ := q1u hop
            simp only [Bool.and_eq_true, beq_iff_eq, Nat.ble_eq, Nat.blt_eq, decide_eq_true_eq, Bool.not_eq_true', Bool.or_eq_true, beq_eq_false_iff_ne, ne_eq, Nat.beq_eq, q2f, q2g, q2c] at hc
            obtain ⟨⟨⟨a1, a2⟩, a3⟩, a4⟩ := hc
            exact J_load tt x T j m i off B e ho (q01 a1) h2 (hty _ _ h1) h3 a2 h4 a3 (fun hr => a4.resolve_left (by rw [hr]; simp))
          · exact nomatch hop
        · exact nomatch hop
      · rename_i e h2
        obtain ⟨hc, rfl⟩ := q1u hop
        simp only [Bool.and_eq_true, beq_iff_eq, Nat.ble_eq, Nat.blt_eq, decide_eq_true_eq, Bool.not_eq_true', Bool.or_eq_true, beq_eq_false_iff_ne, ne_eq, Nat.beq_eq, q2f, q2g, q2c] at hc
        obtain ⟨⟨a1, a3⟩, a4⟩ := hc
        exact J_loadP tt x T e ho (q01 a1) h2 (hty _ _ h1) a3 (fun hr => a4.resolve_left (by rw [hr]; simp))
      · split at hop
        · split at hop
          · rename_i e h2
            obtain ⟨hc, rfl⟩ := q1u hop
            simp only [Bool.and_eq_true, beq_iff_eq, Nat.ble_eq, Nat.blt_eq, decide_eq_true_eq, Bool.not_eq_true', Bool.or_eq_true, beq_eq_false_iff_ne, ne_eq, Nat.beq_eq, q2f, q2g, q2c] at hc
            obtain ⟨a3, a4⟩ := hc
            exact J_loadG tt _ T e ho (hgl _ _ h2) (hty _ _ h1) a3 (fun hr => a4.resolve_left (by rw [hr]; simp))
          · exact nomatch hop
        · exact nomatch hop
    · exact nomatch hop
  · rename_i tt x y ho
    unfold opStore at hop
    split at hop
    · rename_i T h1
      split at hop
      · rename_i j m i off h2
        split at hop
        · rename_i B h3
          split at hop
          · rename_i e h4
            obtain ⟨hc, rfl⟩ := q1u hop
            simp only [Bool.and_eq_true, beq_iff_eq, Nat.ble_eq, Nat.blt_eq, decide_eq_true_eq, Bool.not_eq_true', Bool.or_eq_true, beq_eq_false_iff_ne, ne_eq, Nat.beq_eq, q2f, q2g, q2c] at hc
            obtain ⟨⟨⟨⟨⟨a1, a2⟩, a3⟩, a4⟩, a5⟩, a6⟩ := hc
            exact J_store tt x y T j m i off B e ho (q01 a1) (q01 a2) h2 (hty _ _ h1) h3 a3 h4 (j23 a4) a5 a6
          · exact nomatch hop
        · exact nomatch hop
      · exact nomatch hop
    · exact nomatch hop
  · rename_i s x f ho
    unfold z1i at hop
    split at hop
    · rename_i T h1
      split at hop
      · rename_i o' ft h2
        split at hop
        · rename_i F h3
          split at hop
          · rename_i j m i off h4
            split at hop
            · rename_i B h5
              obtain ⟨hc, rfl⟩ := q1u hop
              simp only [Bool.and_eq_true, beq_iff_eq, Nat.ble_eq, Nat.blt_eq, decide_eq_true_eq, Bool.not_eq_true', Bool.or_eq_true, beq_eq_false_iff_ne, ne_eq, Nat.beq_eq, q2f, q2g, q2c] at hc
              obtain ⟨⟨⟨a1, a2⟩, a3⟩, a4⟩ := hc
              exact J_field s x f T F j m i off o' ft ho (q01 a1) h4 (hty _ _ h1) a2 h2 (hty _ _ h3) a3 h5 a4
            · exact nomatch hop
          · rename_i e h4
            obtain ⟨hc, rfl⟩ := q1u hop
            simp only [Bool.and_eq_true, beq_iff_eq, Nat.ble_eq, Nat.blt_eq, decide_eq_true_eq, Bool.not_eq_true', Bool.or_eq_true, beq_eq_false_iff_ne, ne_eq, Nat.beq_eq, q2f, q2g, q2c] at hc
            obtain ⟨⟨a1, a2⟩, a3⟩ := hc
            exact j8p s x f T F e o' ft ho (q01 a1) h4 (hty _ _ h1) a2 h2 (hty _ _ h3) a3
          · exact nomatch hop
        · exact nomatch hop
      · exact nomatch hop
    · exact nomatch hop
  · rename_i s x y ho
    unfold z1j at hop
    split at hop
    · rename_i T h1
      split at hop
      · rename_i E h2
        split at hop
        · rename_i k i h3
          split at hop
          · rename_i z es h4
            obtain ⟨hc, rfl⟩ := q1u hop
            simp only [Bool.and_eq_true, beq_iff_eq, Nat.ble_eq, Nat.blt_eq, decide_eq_true_eq, Bool.not_eq_true', Bool.or_eq_true, beq_eq_false_iff_ne, ne_eq, Nat.beq_eq, q2f, q2g, q2c] at hc
            obtain ⟨⟨⟨⟨a1, a2⟩, a3⟩, a4⟩, a5, a6⟩ := hc
            exact j8r s x y T E z es k i ho (q01 a1) (q01 a2) h4 h3 (hty _ _ h1) a3 (hty _ _ h2) a4 a5 a6
          · rename_i j m h4
            split at hop
            · rename_i B h5
              obtain ⟨hc, rfl⟩ := q1u hop
              simp only [Bool.and_eq_true, beq_iff_eq, Nat.ble_eq, Nat.blt_eq, decide_eq_true_eq, Bool.not_eq_true', Bool.or_eq_true, beq_eq_false_iff_ne, ne_eq, Nat.beq_eq, q2f, q2g, q2c] at hc
              obtain ⟨⟨⟨⟨⟨⟨a1, a2⟩, a3⟩, a4⟩, a5⟩, a6⟩, a7, a8⟩ := hc
              exact j8s s x y T E j m B k i ho (q01 a1) (q01 a2) h4 h3 (hty _ _ h1) a3 (hty _ _ h2) h5 a4 a5 a6 a7 a8
            · exact nomatch hop
          · exact nomatch hop
        · exact nomatch hop
      · exact nomatch hop
    · exact nomatch hop
  · rename_i c ho
    split at hop
    · rename_i x tt q1 q2 q3
      have ho := ho.trans (congrArg Op.call (q5m q1 q2 q3))
      unfold opLen at hop
      split at hop
      · rename_i T h1
        split at hop
        · rename_i z es h2
          obtain ⟨hc, rfl⟩ := q1u hop
          simp only [Bool.and_eq_true, beq_iff_eq, Nat.ble_eq, Nat.blt_eq, decide_eq_true_eq, Bool.not_eq_true', Bool.or_eq_true, beq_eq_false_iff_ne, ne_eq, Nat.beq_eq, q2f, q2g, q2c] at hc
          have := q7j (o := o) (ℓ := n) (h := h) tt 0 x T ho (q01 hc.1) (hty _ _ h1) es.length (.inl ⟨hc.2, .inl ⟨z, es, h2, rfl⟩⟩)
          rw [h2] at this
          exact this
        · rename_i a m c h2
          obtain ⟨hc, rfl⟩ := q1u hop
          simp only [Bool.and_eq_true, beq_iff_eq, Nat.ble_eq, Nat.blt_eq, decide_eq_true_eq, Bool.not_eq_true', Bool.or_eq_true, beq_eq_false_iff_ne, ne_eq, Nat.beq_eq, q2f, q2g, q2c] at hc
          have := q7j (o := o) (ℓ := n) (h := h) tt 0 x T ho (q01 hc.1) (hty _ _ h1) m (.inl ⟨hc.2, .inr (.inl ⟨a, m, c, h2, rfl⟩)⟩)
          rw [h2] at this
          exact this
        · rename_i s h2
          obtain ⟨hc, rfl⟩ := q1u hop
          simp only [Bool.and_eq_true, beq_iff_eq, Nat.ble_eq, Nat.blt_eq, decide_eq_true_eq, Bool.not_eq_true', Bool.or_eq_true, beq_eq_false_iff_ne, ne_eq, Nat.beq_eq, q2f, q2g, q2c] at hc
          have := q7j (o := o) (ℓ := n) (h := h) tt 0 x T ho (q01 hc.1) (hty _ _ h1) s.size (.inr ⟨hc.2, s, h2, rfl⟩)
          rw [h2] at this
          exact this
        · rename_i j m h2
          split at hop
          · rename_i B h3
            obtain ⟨hc, rfl⟩ := q1u hop
            simp only [Bool.and_eq_true, beq_iff_eq, Nat.ble_eq, Nat.blt_eq, decide_eq_true_eq, Bool.not_eq_true', Bool.or_eq_true, beq_eq_false_iff_ne, ne_eq, Nat.beq_eq, q2f, q2g, q2c] at hc
            have := q7j (o := o) (ℓ := n) (h := h) tt 0 x T ho (q01 hc.1.1.1) (hty _ _ h1) m (.inl ⟨hc.1.1.2, .inr (.inr ⟨j, m, B, h2, h3, hc.1.2, hc.2, rfl⟩)⟩)
            rw [h2] at this
            exact this
          · exact nomatch hop
        · exact nomatch hop
      · exact nomatch hop
    · rename_i x y tt tt' q1 q2 q3
      have ho := ho.trans (congrArg Op.call (q5m q1 q2 q3))
      unfold z1d at hop
      split at hop
      · rename_i T h1
        split at hop
        · rename_i E h2
          split at hop
          · rename_i j m h3
            split at hop
            · rename_i B h4
              split at hop
              · exact nomatch hop
              · obtain ⟨hc, rfl⟩ := q1u hop
                simp only [Bool.and_eq_true, beq_iff_eq, Nat.ble_eq, Nat.blt_eq, decide_eq_true_eq, Bool.not_eq_true', Bool.or_eq_true, beq_eq_false_iff_ne, ne_eq, Nat.beq_eq, q2f, q2g, q2c] at hc
                obtain ⟨⟨⟨⟨⟨⟨⟨⟨⟨⟨⟨⟨⟨a1, a2⟩, a3⟩, a4⟩, a5⟩, a6⟩, a7⟩, a8⟩, a9⟩, a10⟩, a11⟩, a12⟩, a13⟩, a14⟩ := hc
                subst a3
                exact j8i tt' 0 x y T E j m B ho a4 (q01 a1) (q01 a2) h3 (hty _ _ h1) a5 (hty _ _ h2) a6 a7 h4 a8 a9 a10 a11 (more_ok a12) a13 a14
            · exact nomatch hop
          · rename_i h3
            obtain ⟨hc, rfl⟩ := q1u hop
            simp only [Bool.and_eq_true, beq_iff_eq, Nat.ble_eq, Nat.blt_eq, decide_eq_true_eq, Bool.not_eq_true', Bool.or_eq_true, beq_eq_false_iff_ne, ne_eq, Nat.beq_eq, q2f, q2g, q2c] at hc
            obtain ⟨⟨⟨⟨⟨⟨⟨⟨⟨a1, a2⟩, a3⟩, a4⟩, a5⟩, a6⟩, a7⟩, a8⟩, a9⟩, a10⟩ := hc
            subst a3
            exact j8j tt' x y T E ho a4 (q01 a1) (q01 a2) h3 (hty _ _ h1) a5 (hty _ _ h2) a6 a7 (more_ok a8) a9 a10
          · exact nomatch hop
        · exact nomatch hop
      · exact nomatch hop
    · rename_i x y q1 q2
      have ho := ho.trans (congrArg Op.call (q5m q1 q2 rfl))
      unfold opMax at hop
      split at hop
      · rename_i k a k' b h1 h2
        obtain ⟨hc, rfl⟩ := q1u hop
        simp only [Bool.and_eq_true, beq_iff_eq, Nat.ble_eq, Nat.blt_eq, decide_eq_true_eq, Bool.not_eq_true', Bool.or_eq_true, beq_eq_false_iff_ne, ne_eq, Nat.beq_eq, q2f, q2g, q2c] at hc
        obtain ⟨⟨a1, a2⟩, a3⟩ := hc
        subst a3
        exact J_max x y k' a b _ ho (q01 a1) (q01 a2) h1 h2
      · exact nomatch hop
    · rename_i x y q1 q2
      have ho := ho.trans (congrArg Op.call (q5m q1 q2 rfl))
      unfold opMin at hop
      split at hop
      · rename_i k a k' b h1 h2
        obtain ⟨hc, rfl⟩ := q1u hop
        simp only [Bool.and_eq_true, beq_iff_eq, Nat.ble_eq, Nat.blt_eq, decide_eq_true_eq, Bool.not_eq_true', Bool.or_eq_true, beq_eq_false_iff_ne, ne_eq, Nat.beq_eq, q2f, q2g, q2c] at hc
        obtain ⟨⟨a1, a2⟩, a3⟩ := hc
        subst a3
        exact J_min x y k' a b _ ho (q01 a1) (q01 a2) h1 h2
      · exact nomatch hop
    · rename_i f q1
      have ho := ho.trans (congrArg Op.call (q5m q1 rfl rfl))
      unfold opVal at hop
      split at hop
      · rename_i f' fs cs h1
        split at hop
        · rename_i hc
          rw [Bool.and_eq_true] at hc
          obtain ⟨y, ks, args, L, L', m, q2, q3, q4, q5, q6, q7, rfl⟩ := hcl _ _ _ hop
          exact j5x f f' fs cs args _ _ y ks L L' m ho (q01 hc.1) h1 (fun x hx => j7f hc.2 x (by simpa using hx)) q2 q3 q4 q5 q7 q6
        · exact nomatch hop
      · exact nomatch hop
    · exact nomatch hop
  · rename_i tt x y ho
    unfold opIndex at hop
    split at hop
    · rename_i T h1
      split at hop
      · rename_i s k i h2 h3
        obtain ⟨hc, rfl⟩ := q1u hop
        simp only [Bool.and_eq_true, beq_iff_eq, Nat.ble_eq, Nat.blt_eq, decide_eq_true_eq, Bool.not_eq_true', Bool.or_eq_true, beq_eq_false_iff_ne, ne_eq, Nat.beq_eq, q2f, q2g, q2c] at hc
        obtain ⟨⟨⟨a1, a2⟩, a3⟩, a4, a5⟩ := hc
        exact j8t tt x y T s k i ho (hty _ _ h1) a3 (q01 a1) (q01 a2) h2 h3 a4 a5
      · rename_i l k i h2 h3
        split at hop
        · rename_i m e hf
          split at hop
          · rename_i E q h4 h5
            obtain ⟨hc, rfl⟩ := q1u hop
            simp only [Bool.and_eq_true, beq_iff_eq, Nat.ble_eq, Nat.blt_eq, decide_eq_true_eq, Bool.not_eq_true', Bool.or_eq_true, beq_eq_false_iff_ne, ne_eq, Nat.beq_eq, q2f, q2g, q2c] at hc
            obtain ⟨⟨⟨⟨⟨a1, a2⟩, a3⟩, a4⟩, a5⟩, a6, a7⟩ := hc
            exact j8q tt x y T E l k i m e q ho (q01 a1) (q01 a2) h2 h3 (hty _ _ h1) a3 hf (hty _ _ h4) a4 a5 a6 a7 h5
          · exact nomatch hop
        · exact nomatch hop
      · exact nomatch hop
    · exact nomatch hop
  · rename_i x ho
    unfold z1m at hop
    split at hop
    · rename_i j m i off h1
      split at hop
      · rename_i B h2
        obtain ⟨hc, rfl⟩ := q1u hop
        simp only [Bool.and_eq_true, beq_iff_eq, Nat.ble_eq, Nat.blt_eq, decide_eq_true_eq, Bool.not_eq_true', Bool.or_eq_true, beq_eq_false_iff_ne, ne_eq, Nat.beq_eq, q2f, q2g, q2c] at hc
        exact J_nilR x j m i off B ho (q01 hc.1) h1 h2 hc.2
      · exact nomatch hop
    · rename_i e h1
      obtain ⟨hc, rfl⟩ := q1u hop
      exact J_nilP x e ho (q01 hc) h1
    · exact nomatch hop
  · rename_i tt x y ho
    unfold z1l at hop
    split at hop
    · rename_i T h1
      split at hop
      · rename_i E h2
        split at hop
        · rename_i k m k' m' h3 h4
          obtain ⟨hc, rfl⟩ := q1u hop
          simp only [Bool.and_eq_true, beq_iff_eq, Nat.ble_eq, Nat.blt_eq, decide_eq_true_eq, Bool.not_eq_true', Bool.or_eq_true, beq_eq_false_iff_ne, ne_eq, Nat.beq_eq, q2f, q2g, q2c] at hc
          obtain ⟨⟨⟨⟨⟨⟨⟨⟨⟨a1, a2⟩, rfl⟩, a4⟩, a5⟩, a6⟩, a7⟩, a8⟩, a9⟩, a10⟩ := hc
          exact J_make tt x y T E k k' _ ho (q01 a1) (q01 a2) h3 h4 (hty _ _ h1) a4 (hty _ _ h2) a5 a6 a7 a8 a9 a10
        · exact nomatch hop
      · exact nomatch hop
    · exact nomatch hop
  · rename_i src dst x ho
    unfold z1f at hop
    split at hop
    · rename_i S D h1 h2
      split at hop
      · rename_i k m h3
        split at hop
        · rename_i k' h4
          obtain ⟨hc, rfl⟩ := q1u hop
          rw [z3v]
          exact J_convI src dst x S D k k' m ho (hty _ _ h1) (hty _ _ h2) (z0o h4) (q01 hc) h3
        · exact nomatch hop
      · rename_i s h3
        split at hop
        · rename_i h4
          obtain ⟨hc, rfl⟩ := q1u hop
          exact j8n src dst x S D s ho (hty _ _ h1) (hty _ _ h2) (Nat.eq_of_beq_eq_true h4) (q01 hc) h3
        · split at hop
          · rename_i E h5
            obtain ⟨hc, rfl⟩ := q1u hop
            simp only [Bool.and_eq_true, beq_iff_eq, Nat.ble_eq, Nat.blt_eq, decide_eq_true_eq, Bool.not_eq_true', Bool.or_eq_true, beq_eq_false_iff_ne, ne_eq, Nat.beq_eq, q2f, q2g, q2c] at hc
            obtain ⟨⟨⟨⟨a1, a2⟩, a3⟩, a4⟩, a5⟩ := hc
            exact j8y src dst x S D E s ho (hty _ _ h1) a2 (hty _ _ h2) a3 (hty _ _ h5) a4 (q01 a1) h3 a5
          · exact nomatch hop
      · rename_i z es h3
        split at hop
        · rename_i E h4
          obtain ⟨hc, rfl⟩ := q1u hop
          simp only [Bool.and_eq_true, beq_iff_eq, Nat.ble_eq, Nat.blt_eq, decide_eq_true_eq, Bool.not_eq_true', Bool.or_eq_true, beq_eq_false_iff_ne, ne_eq, Nat.beq_eq, q2f, q2g, q2c] at hc
          obtain ⟨⟨⟨⟨⟨a1, a2⟩, a3⟩, a4⟩, a5⟩, a6⟩ := hc
          subst a2
          exact j8l src dst x S E D es ho (hty _ _ h1) a3 (hty _ _ h4) a4 (hty _ _ h2) a5 (q01 a1) h3 (j52 a6)
        · exact nomatch hop
      · rename_i j m h3
        split at hop
        · rename_i B h4
          split at hop
          · rename_i E es h5 h6
            split at hop
            · rename_i h7
              obtain ⟨hc, rfl⟩ := q1u hop
              simp only [Bool.and_eq_true, beq_iff_eq, Nat.ble_eq, Nat.blt_eq, decide_eq_true_eq, Bool.not_eq_true', Bool.or_eq_true, beq_eq_false_iff_ne, ne_eq, Nat.beq_eq, q2f, q2g, q2c] at hc
              obtain ⟨⟨⟨⟨⟨⟨a2, a3⟩, a4⟩, a5⟩, a6⟩, a7⟩, a8⟩ := hc
              exact j8m src dst x S E D j m B es ho (hty _ _ h1) a3 (hty _ _ h5) a4 (hty _ _ h2) (Nat.eq_of_beq_eq_true h7) (q01 a2) h3 h4 a5 a6 a7 (j45 h6) (j52 a8)
            · obtain ⟨hc, rfl⟩ := q1u hop
              simp only [Bool.and_eq_true, beq_iff_eq, Nat.ble_eq, Nat.blt_eq, decide_eq_true_eq, Bool.not_eq_true', Bool.or_eq_true, beq_eq_false_iff_ne, ne_eq, Nat.beq_eq, q2f, q2g, q2c] at hc
              obtain ⟨⟨⟨⟨⟨⟨a1, a2⟩, a3⟩, a4⟩, a5⟩, a6⟩, a7⟩ := hc
              subst a2
              exact J_mark dst x S E j m B es ho (hty _ _ h1) a3 (hty _ _ h5) a4 (q01 a1) h3 h4 a5 a6 a7 (j45 h6)
          · exact nomatch hop
        · exact nomatch hop
      · exact nomatch hop
    · exact nomatch hop
  · rename_i tt x lo hi ho
    unfold opSlice at hop
    split at hop
    · rename_i T h1
      split at hop
      · rename_i z es h2
        split at hop
        · rename_i l u E h3 h4 h5
          obtain ⟨hc, rfl⟩ := q1u hop
          simp only [Bool.and_eq_true, beq_iff_eq, Nat.ble_eq, Nat.blt_eq, decide_eq_true_eq, Bool.not_eq_true', Bool.or_eq_true, beq_eq_false_iff_ne, ne_eq, Nat.beq_eq, q2f, q2g, q2c] at hc
          obtain ⟨⟨⟨⟨⟨⟨⟨a1, a2⟩, a3⟩, a4⟩, a5⟩, a6⟩, a7⟩, a8⟩ := hc
          exact j8w tt x lo hi T E z es l u ho (q01 a1) (j43 a2) (j43 a3) h2 (hty _ _ h1) a4 (hty _ _ h5) a5 h3 h4 a6 a7 a8
        · exact nomatch hop
      · rename_i s h2
        split at hop
        · rename_i l u h3 h4
          obtain ⟨hc, rfl⟩ := q1u hop
          simp only [Bool.and_eq_true, beq_iff_eq, Nat.ble_eq, Nat.blt_eq, decide_eq_true_eq, Bool.not_eq_true', Bool.or_eq_true, beq_eq_false_iff_ne, ne_eq, Nat.beq_eq, q2f, q2g, q2c] at hc
          obtain ⟨⟨⟨⟨⟨⟨a1, a2⟩, a3⟩, a4⟩, a5⟩, a6⟩, a7⟩ := hc
          rw [str_cut]
          exact j8x tt x lo hi T s l u ho (q01 a1) (j43 a2) (j43 a3) h2 (hty _ _ h1) a4 h3 h4 a5 a6 a7
        · exact nomatch hop
      · exact nomatch hop
      · exact nomatch hop
    · exact nomatch hop
  · rename_i fn first captured ho
    unfold z1k at hop
    obtain ⟨hc, rfl⟩ := q1u hop
    rw [Bool.and_eq_true] at hc
    exact j8u fn first captured ho (fun x hx => j7f hc.1 x (by simpa using hx)) (fun x hx => j7f hc.2 x (by simpa using hx))
  · exact nomatch hop
end Ex

end Go.Proofs.YthkofkaocipomaaGreatDoor
