/- The document's Count of characters: is a text one of characters? -/
import Derived.Test.YticfioblapjkmaaGreatRefB
import Derived.Test.YticfioblapjkmaaGreatBa
namespace Go.Proofs.YticfioblapjkmaaGreat
open Go.RowKit
set_option linter.unusedVariables false
set_option linter.unusedSimpArgs false
attribute [local go_sem] opx opE ev okx gcond bnd okO AV.get AV.okb cAV upd_at putd_some putd_none wrs_nil wrs_cons look_nil look_cons st argT_at bpick_and bpick_or bpick_true bpick_false binV binI binS binVOk binOk isShift binSOk unV unVOk loadV loadP cellsA zeroA Blkd.len setE grown moreA moreR moreOk eqRes pv fillA fillE putSeg AV.cellish AV.pureL AV.pureB lentL_is ex_some AV.ren AV.renL renL_c Blkd.ren rho wrM renN lentOk rhoE keepM endOk tyA_2 tyA_3 tyA_4 tyA_5 tyA_6 tyA_7 tyA_8 tyA_9 tyA_10 tyA_11 tyA_12 tyA_13 tyA_14 tyA_15 tyA_16 tyA_17 tyA_18 tyA_19 tyA_21 tyA_22 tyA_23 tyA_24 tyA_25 tyA_28 tyA_29 tyA_38 tyA_39 tyA_40 tyA_41 tyA_42 tyA_43 tyA_49 tyA_50 tyA_51 tyA_52 tyA_53 tyA_57 tyA_62 tyA_76 tyA_87 tyA_88 tyA_89 tyA_100 tyA_101 tyA_102 tyA_106 tyA_119 tyA_128 tyA_130 tyA_132 tyA_137 tyA_141 tyA_146 tyA_149 tyA_150 tyA_151 tyA_152 tyA_153 tyA_154 tyA_155 tyA_157 tyA_158 Option.map_some Option.map_none Option.getD_some Option.getD_none Option.bind_some Option.bind_none List.getElem?_cons_zero List.getElem?_cons_succ List.getElem?_nil List.getElem?_toArray List.length_cons List.length_nil List.length_map List.forall_mem_map List.map_cons List.map_nil List.drop_zero List.drop_succ_cons List.drop_nil List.take_zero List.take_succ_cons List.take_nil List.mem_cons List.not_mem_nil or_false forall_eq_or_imp forall_eq List.set_cons_zero List.set_cons_succ List.cons_append List.nil_append List.append_nil List.foldl_cons List.foldl_nil List.replicate_succ List.replicate_zero List.all_cons List.all_nil if_true if_false Bool.false_eq_true ne_eq not_false_eq_true not_true_eq_false true_and and_true and_self true_implies imp_self implies_true forall_const beq_self_eq_true Bool.and_true Bool.true_and Bool.and_false Bool.false_and Bool.or_true Bool.true_or Bool.or_false Bool.false_or Bool.not_true Bool.not_false Bool.not_eq_eq_eq_not intKindOf Value.oneCell' Int.toNat_natCast beq_true beq_false Bool.not_eq_true false_implies false_or true_or or_true Nat.zero_add Nat.add_zero decide_true decide_false Int.cast_ofNat_Int Int.toNat_zero Int.toNat_one eq_self

def RCnt (l : List UInt8) (w : World) (v t : Value) (wr : World) : Prop := ∃ k p : Nat, v = .int .i64 (k : Int) ∧ t = .int .i64 (p : Int) ∧ p ≤ l.length ∧ k ≤ p ∧ uCnt l 0 0 = uCnt l p k ∧ Below w.heap.size w wr
set_option maxRecDepth 100000 in
set_option maxHeartbeats 4000000 in
theorem rcount_any {w : World} {a : Option Addr} {b off c : Nat} {l : List UInt8} (hb : BytesAt w a b off l) (hap : l ≠ [] → b < w.heap.size) (hlen : l.length ≤ c) (hbig : l.length ≤ 1000000) (hnil : a = none → c = 0) :
    Calls Tryz.prog 49 #[.slice a l.length c] w fun r w' => r = .returned (.int .i64 (if isRight l = true then ((uCnt l 0 0).1 : Int) else -1)) ∧ Below w.heap.size w w' := by
  have h0 : RCnt l w (.int .i64 0) (.int .i64 0) w := ⟨0, 0, rfl, rfl, by omega, by omega, rfl, Below.refl _ _⟩
  replace h0 := Lib.hid h0
  have htk := Lib.hid fun (wr : World) (hbel : Below w.heap.size w wr) (p : Nat) (hp : p < l.length) => rtake3_any (hb.keep hbel hap) hlen hbig hnil p hp
  obtain ⟨Z, hZ⟩ : ∃ Z : Int, Z = if isRight l = true then ((uCnt l 0 0).1 : Int) else -1 := ⟨_, rfl⟩
  rw [← hZ]
  replace hZ := Lib.hid hZ
  clear hb
  go_enter Tryz.func49, Tryz.ntmps49
  go_wp2_with fail
  go_loopw [3, 4] (fun v t wr => RCnt l w v t wr) (fun _ t _ => l.length - (intOf t).toNat)
  case atStart => exact h0.out
  case round =>
    obtain ⟨k, p, rfl, rfl, hp, hk, hMk, hbel⟩ := hrel
    clear h0
    replace hMk := Lib.hid hMk
    by_cases hlt : p < l.length
    · have hlti : (p : Int) < (l.length : Int) := by omega
      have ht := Lib.hid (htk.out _ hbel p hlt)
      go_wp2_with fail
      refine ht.out.mono ?_
      rintro r w' ⟨v, nx, e, rfl, hb1, hgood, hbad⟩
      by_cases he : uerr l p = 0
      · obtain ⟨rfl, rfl⟩ := hgood he
        have hb2 := ulen_bound he
        have hnext := hMk.out.trans (uCnt_next hlt he)
        go_wp2_with fail
        go_roundw
        case rel => exact ⟨k + 1, p + ulen l p, by simp, by simp, by omega, by omega, hnext, hbel.trans (hb1.mono hbel.size)⟩
        case measure => simp [intOf]; omega
      · have hez := hbad he
        have hb3 := hMk.out.trans (uCnt_bad hlt he)
        have hz : Z = -1 := by
          rw [hZ.out, if_neg]
          unfold isRight
          rw [hb3]
          simp
        clear hb3 hZ hMk
        subst hz
        have hne : (e != 0) = true := by simp; exact hez
        go_wp2_with fail
        go_ret
        exact ⟨rfl, hbel.trans (hb1.mono hbel.size)⟩
    · obtain rfl : p = l.length := by omega
      have hb3 := hMk.out.trans (uCnt_end hlt)
      have hz : Z = (k : Int) := by
        rw [hZ.out, if_pos]
        · rw [hb3]
        · unfold isRight
          rw [hb3]
          simp
      clear hb3 hZ hMk
      subst hz
      go_wp2_with fail
      go_ret
      exact ⟨rfl, hbel⟩
theorem rcount_told (l : List UInt8) (hbig : l.length ≤ 1000000) : Told Tryz.prog 49 [.c (.sl 1 (bytePV l))] (.c (.v (.int .i64 (if isRight l = true then ((uCnt l 0 0).1 : Int) else -1)))) := by
  refine ⟨ent_49, fun W ro vs hro _ hls => ?_⟩
  obtain ⟨v, rfl⟩ : ∃ v, vs = [v] := by
    have := hls.1
    match vs with
    | [v] => exact ⟨v, rfl⟩
    | [] => simp at this
    | _ :: _ :: _ => simp at this
  have hv := hls.2 0 _ v rfl rfl
  cases hv with
  | c hp =>
    obtain ⟨a, b, off, c, rfl, h1, h2, h3⟩ := bytes_at hp
    refine (rcount_any h1 (fun hne => h1.lt hne) h2 hbig h3).mono ?_
    rintro e W' ⟨rfl, hb⟩
    exact ⟨_, ro, rfl, hb, fun _ h => h, fun k hk => ⟨.inl hk, by have := hro k hk; have := hb.size; omega⟩, .c (.v rfl), .c _⟩
set_option maxRecDepth 100000 in
set_option maxHeartbeats 400000 in
theorem rtextr_told (s : List UInt8) (hs : s.length ≤ 1000000) : Told Tryz.prog 34 [.c (.v (.string (str s)))] (.c (.v (.bool (isRight s)))) := by
  have hC := rcount_told s hs
  obtain ⟨Z, hZ⟩ : ∃ Z : Int, Z = if isRight s = true then ((uCnt s 0 0).1 : Int) else -1 := ⟨_, rfl⟩
  rw [← hZ] at hC
  have hd : decide (Z ≥ 0) = isRight s := by
    rw [hZ]
    cases isRight s <;> simp
  have hsz : (str s).size = s.length := str_size s
  have hdl : (str s).data.toList = s := by simp [str]
  refine VC.told ent_34 Tryz.func34 rfl Tryz.ntmps34 (by simp) (by first | rfl | simp [AV.pureB, AV.pureL, pureL_c, pures]) (by first | rfl | simp [AV.pureB, AV.pureL, pureL_c, pures]) fun hb => ?_
  clear hb
  refine walkGF (And.intro hsz hdl) ?_
  refine walkCF (And.intro hsz hdl) (hC) ?_
  refine walkGF (hd) ?_
  refine ⟨by first | exact .inr rfl | exact .inl rfl, ?_⟩; rw [Tryz.results34]; simp only [resOk, resV, go_sem, Int.reduceBEq, Int.reduceLE, Int.reduceLT, Int.reduceNeg, Nat.reduceAdd, Nat.reduceEqDiff, Nat.reduceLT, Nat.reduceLeDiff, Nat.reduceMul, Nat.reduceSub, reduceCtorEq, ↓reduceIte]
  exact .c _

end Go.Proofs.YticfioblapjkmaaGreat
