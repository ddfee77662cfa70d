/- What the tables say, a line each. -/
import Derived.Test.YtofijpbmbmbnhaaDoorHsah
set_option linter.unusedSimpArgs false
set_option linter.unusedVariables false
set_option maxRecDepth 100000
namespace Go.Proofs.YtofijpbmbmbnhaaDoor
open Go Go.Hs Go.Proofs

theorem ty3 : tab.ty.get 3 = some ⟨.int .i64, 1, 8, some (.int .i64 0), true⟩ := by kernel_rfl
theorem ty4 : tab.ty.get 4 = some ⟨.bool, 1, 1, some (.bool false), true⟩ := by kernel_rfl
theorem ty9 : tab.ty.get 9 = some ⟨.string, 1, 16, some (.string ⟨#[]⟩), true⟩ := by kernel_rfl
theorem ty23 : tab.ty.get 23 = some ⟨.slice 25 4 56, 1, 24, some (.slice none 0 0), true⟩ := by kernel_rfl
theorem ty25 : tab.ty.get 25 = some ⟨.struct [(0, 3, 1), (1, 3, 1), (2, 9, 1), (3, 23, 1)], 4, 56, some (.agg #[.int .i64 0, .int .i64 0, .string ⟨#[]⟩, .slice none 0 0]), true⟩ := by kernel_rfl
theorem ty26 : tab.ty.get 26 = some ⟨.int .i64, 1, 8, some (.int .i64 0), true⟩ := by kernel_rfl
theorem fn69 : tab.fn.get 69 = some Tryd.f69 := by kernel_rfl
theorem fn30 : tab.fn.get 30 = some Tryd.f30 := by kernel_rfl

variable {E : Env} {h : H}
/-- Loads, places, lengths. -/
theorem ld3 (a : Addr) : aload tab E 3 a h = h.cell E a := by unfold aload; rw [ty3]; rfl
theorem ld9 (a : Addr) : aload tab E 9 a h = h.cell E a := by unfold aload; rw [ty9]; rfl
theorem ld23 (a : Addr) : aload tab E 23 a h = h.cell E a := by unfold aload; rw [ty23]; rfl
theorem ld25 (a : Addr) : aload tab E 25 a h = match h.cells E a 4 with | some cs => some (.agg ⟨cs⟩) | none => none := by unfold aload; rw [ty25]; rfl
theorem fa25_0 (a : Addr) : afieldAddr tab 25 (.pointer (some a)) 0 = some (.pointer (some (aadd a 0))) := by unfold afieldAddr; rw [ty25]; rfl
theorem fa25_1 (a : Addr) : afieldAddr tab 25 (.pointer (some a)) 1 = some (.pointer (some (aadd a 1))) := by unfold afieldAddr; rw [ty25]; rfl
theorem fa25_2 (a : Addr) : afieldAddr tab 25 (.pointer (some a)) 2 = some (.pointer (some (aadd a 2))) := by unfold afieldAddr; rw [ty25]; rfl
theorem fa25_3 (a : Addr) : afieldAddr tab 25 (.pointer (some a)) 3 = some (.pointer (some (aadd a 3))) := by unfold afieldAddr; rw [ty25]; rfl
theorem len23 (b : Option Addr) (n c : Nat) : alen tab 23 (.slice b n c) h = some (.int .i64 n) := by unfold alen; rw [ty23]
theorem len9 (s : ByteArray) : alen tab 9 (.string s) h = some (.int .i64 (s.data.toList.length : Nat)) := by unfold alen; rw [ty9]
theorem ia23 (a : Addr) (n c : Nat) (i : Int) (hi : inRange i n = true) : aindexAddr tab 23 (.slice (some a) n c) (.int .i64 i) = some (.pointer (some (aadd a (i.toNat * 4)))) := by unfold aindexAddr; simp only [ty23, hi]
end Go.Proofs.YtofijpbmbmbnhaaDoor
/- The law's count. -/
set_option maxRecDepth 100000
set_option maxHeartbeats 4000000
namespace Go.Proofs.YtofijpbmbmbnhaaDoor
open Go Go.Hs Go.Proofs

def says69 (E : Env) : Says := fun s f args h v => f = 69 ∧ ∃ t xv many deep, args = [xv, .int .i64 many, .int .i64 deep] ∧ rep E h t xv ∧ 0 ≤ many ∧ many ≤ 6000 ∧ 0 ≤ deep ∧ deep ≤ 301 ∧ s = isz t ∧ v = .int .i64 (cntI t deep many)

theorem one69 (E : Env) : One (says69 E) := by
  rintro s s' f args h v v' ⟨_, t, xv, many, deep, rfl, h1, _, _, _, _, _, rfl⟩ ⟨_, t', xv', many', deep', he, h2, _, _, _, _, _, rfl⟩
  cases he
  rw [rep_one h1 h2]

variable {E : Env} {I : Known}

noncomputable def loop69 : Code := match Tryd.f69.body with
  | some (.seq _ (.seq _ (.seq (.seq _ (.block _ (.loop b))) _))) => b
  | _ => .skip

theorem shown69 (hI : ∀ args h, I 69 args h = none) : Shown tab E I (says69 E) := by
  rintro sz f args h v ⟨rfl, t, xv, many, deep, rfl, hr, m0, m1, d0, d1, rfl, rfl⟩ hfr
  refine ⟨rfl, ?_⟩
  obtain ⟨k, m, tx, ks⟩ := t
  have hr0 := hr
  rw [rep] at hr0
  obtain ⟨s, rfl, hs⟩ := hr0
  have hsl : ∃ b n c, s = .slice b n c ∧ n = ks.length := by
    rcases hs with ⟨rfl, rfl⟩ | ⟨a, c, cs, rfl, _⟩
    · exact ⟨none, 0, 0, rfl, rfl⟩
    · exact ⟨some a, _, c, rfl, rfl⟩
  obtain ⟨sb, sn, sc, rfl, hsn⟩ := hsl
  have hnone : upTo (says69 E) I (isz (.mk k m tx ks)) 69 [.agg ⟨[.int .i64 k, .int .i64 m, .string tx, .slice sb sn sc]⟩, .int .i64 many, .int .i64 deep] (fresh h) = none := by
    rw [upTo_none]
    · exact hI _ _
    · rintro v s hlt ⟨_, t', xv', many', deep', he, h2, _, _, _, _, rfl, _⟩
      cases he
      have h2' : rep E h t' (.agg ⟨[.int .i64 k, .int .i64 m, .string tx, .slice sb sn sc]⟩) := rep_grow (h := fresh h) (h' := h) (fun _ _ hb => hb) h2
      rw [rep_one h2' hr] at hlt
      exact absurd hlt (Nat.lt_irrefl _)
  generalize hJ : upTo (says69 E) I (isz (.mk k m tx ks)) = J at hnone ⊢
  suffices hw : ∃ n v h', (ev tab E J n).call 69 [.agg ⟨[.int .i64 k, .int .i64 m, .string tx, .slice sb sn sc]⟩, .int .i64 many, .int .i64 deep] (fresh h) = some (v, h') ∧ (v = .int .i64 (cntI (.mk k m tx ks) deep many) ∧ h'.log = []) by
    obtain ⟨n, v, h', h1, rfl, h3⟩ := hw
    exact ⟨n, h', h1, h3⟩
  refine Wc.call hnone fn69 rfl ?_
  generalize hA0 : (⟨T.ofList [.agg ⟨[.int .i64 k, .int .i64 m, .string tx, .slice sb sn sc]⟩, .int .i64 many, .int .i64 deep] 0 .nil, max ([.agg ⟨[.int .i64 k, .int .i64 m, .string tx, .slice sb sn sc]⟩, .int .i64 many, .int .i64 deep] : List Value).length Tryd.f69.ntmps, []⟩ : Ac) = A0
  have n0 : A0.n = 33 := by rw [← hA0]; rfl
  have g00 : A0.get 0 = .agg ⟨[.int .i64 k, .int .i64 m, .string tx, .slice sb sn sc]⟩ := by rw [← hA0]; rfl
  have g01 : A0.get 1 = .int .i64 many := by rw [← hA0]; rfl
  have g02 : A0.get 2 = .int .i64 deep := by rw [← hA0]; rfl
  have d0' : A0.defers = [] := by rw [← hA0]
  have w1 : IntKind.i64.wrap (many + 1) = many + 1 := wrap64 (by omega) (by omega)
  apply Wc.seq
  refine Wc.region_eq (by
    simp only [runRegion, runOps, awant, oper1, aop, opv, List.toList_toArray, g00]
    exact rfl) ?_
  generalize hh1 : (fresh h).new (.cells (Value.agg ⟨[.int .i64 k, .int .i64 m, .string tx, .slice sb sn sc]⟩).cells.toList 25 none) = h1
  have hb1 : h1.blk h.next = some (.cells [.int .i64 k, .int .i64 m, .string tx, .slice sb sn sc] 25 none) := by rw [← hh1]; exact new_blk_new (h := fresh h) rfl
  have hl1 : h1.log = [] := by rw [← hh1]; rfl
  have hgr : Grows h h1 := by rw [← hh1]; exact grows_new (h := fresh h) hfr _
  have hc3 : h1.cell E (aadd (own h.next) 3) = some (.slice sb sn sc) := by
    simp only [H.cell, aadd, own, hb1]; rfl
  apply Wc.seq
  apply Wc.seq
  refine Wc.region_eq (by
    simp (config := {decide := true}) only [runRegion, runOps, awant, oper1, aop, opv, List.toList_toArray, Ac.get_put, Ac.put_n, n0, g01, if_true, if_false, and_true, decide_true, abin, isShift, aint, roV, pair, w1]
    exact rfl) ?_
  apply Wc.seq
  refine Wc.region_eq (by
    simp (config := {decide := true}) only [runRegion, runOps, awant, oper1, aop, opv, List.toList_toArray, Ac.get_put, Ac.put_n, n0, g01, g02, if_true, if_false, and_true, decide_true, abin, isShift, aint, roV, pair]
    exact rfl) ?_
  refine Wc.cond (b := decide (deep > 300)) (by
    simp (config := {decide := true}) only [opv, Ac.get_put, Ac.put_n, n0, if_true, if_false, and_true]) ?_
  by_cases hd : deep > 300
  · rw [decide_eq_true hd]
    simp only [if_true]
    apply Wc.seq
    refine Wc.region_eq (by
      simp (config := {decide := true}) only [runRegion, runOps, awant, oper1, aop, opv, List.toList_toArray, roV, pair]
      exact rfl) ?_
    refine Wc.ret ?_
    refine done_tmp (.inr rfl) (by simp only [Ac.put_defers, d0']) rfl ?_ hl1
    simp (config := {decide := true}) only [Ac.get_put, Ac.put_n, n0, if_true, if_false, and_true]
    rw [cntI, if_pos hd]
  · rw [decide_eq_false hd]
    simp only [Bool.false_eq_true, if_false]
    refine Wc.skip ?_
    apply Wc.seq
    apply Wc.seq
    refine Wc.region_eq (by
      simp (config := {decide := true}) only [runRegion, runOps, awant, oper1, aop, opv, List.toList_toArray, roV, pair]
      exact rfl) ?_
    refine Wc.block ?_
    have key : ∀ (r i : Nat) (mm : Int) (A : Ac), r = ks.length - i → i ≤ ks.length → 0 ≤ mm → mm ≤ 7000 → A.n = 33 → A.defers = [] → A.get 1 = .int .i64 mm → A.get 2 = .int .i64 deep →
        A.get 3 = .pointer (some (own h.next)) → A.get 7 = .int .i64 (i : Nat) →
        Wc tab E J ⟨69, none⟩ (.loop loop69) A h1 (fun ex A' h' => ex = .exit 0 ∧ h' = h1 ∧ A'.n = 33 ∧ A'.defers = [] ∧ A'.get 1 = .int .i64 (cntL (ks.drop i) (deep + 1) mm)) := by
      intro r
      induction r with
      | zero =>
        intro i mm A hr hi mm0 mm1 nA dA a1 a2 a3 a7
        have hil : i = ks.length := by omega
        apply Wc.loop
        simp only [loop69, Tryd.f69]
        apply Wc.seq
        apply Wc.seq
        have hlt : decide ((i : Int) < (sn : Int)) = false := by simp; omega
        refine Wc.region_eq (by
          simp (config := {decide := true}) only [runRegion, runOps, awant, ayield_get, oper1, aop, opv, opvs, abuiltin, List.toList_toArray, Ac.get_put, Ac.put_n, nA, a1, a2, a3, a7, fa25_3, ld23, hc3, len23, if_true, if_false, and_true, decide_true, abin, isShift, aint, roV, pair, hlt]
          exact rfl) ?_
        refine Wc.cond (b := false) (by
          simp (config := {decide := true}) only [opv, Ac.get_put, Ac.put_n, nA, if_true, if_false, and_true]) ?_
        simp only [Bool.false_eq_true, if_false]
        refine Wc.exit ?_
        refine ⟨rfl, rfl, by simp only [Ac.put_n, nA], by simp only [Ac.put_defers, dA], ?_⟩
        simp (config := {decide := true}) only [Ac.get_put, Ac.put_n, nA, if_true, if_false, and_true, a1]
        rw [hil, List.drop_length, cntL]
      | succ r ih =>
        intro i mm A hr hi mm0 mm1 nA dA a1 a2 a3 a7
        have hil : i < ks.length := by omega
        apply Wc.loop
        simp only [loop69, Tryd.f69]
        apply Wc.seq
        apply Wc.seq
        have hlt : decide ((i : Int) < (sn : Int)) = true := by simp; omega
        refine Wc.region_eq (by
          simp (config := {decide := true}) only [runRegion, runOps, awant, ayield_get, oper1, aop, opv, opvs, abuiltin, List.toList_toArray, Ac.get_put, Ac.put_n, nA, a1, a2, a3, a7, fa25_3, ld23, hc3, len23, if_true, if_false, and_true, decide_true, abin, isShift, aint, roV, pair, hlt]
          exact rfl) ?_
        refine Wc.cond (b := decide (mm ≤ 6000)) (by
          simp (config := {decide := true}) only [opv, Ac.get_put, Ac.put_n, nA, if_true, if_false, and_true]) ?_
        have hks : ks.drop i = ks[i] :: ks.drop (i + 1) := List.drop_eq_getElem_cons hil
        by_cases hm : mm ≤ 6000
        · rw [decide_eq_true hm]
          simp only [if_true]
          refine Wc.skip ?_
          apply Wc.seq
          refine Wc.block ?_
          rcases hs with ⟨hk0, _⟩ | ⟨a, c, cs, he, hlc, hcs, hrl⟩
          · rw [hk0] at hil; simp at hil
          cases he
          have hcs1 := cells_grow hgr hcs
          have hget : ks[i]? = some ks[i] := List.getElem?_eq_getElem hil
          obtain ⟨hl4, hrk⟩ := repL_get i hrl hget
          have hsub := cells_sub hcs1 (m := i * 4) (l := 4) (by omega)
          have hmem : ks[i] ∈ ks := List.getElem_mem hil
          have hcall : (ev tab E J 1).call 69 [.agg ⟨(cs.drop (i * 4)).take 4⟩, .int .i64 mm, .int .i64 (deep + 1)] h1 = some (.int .i64 (cntI ks[i] (deep + 1) mm), h1) := by
            apply ev_known
            rw [← hJ]
            exact upTo_eq (one69 E) ⟨rfl, ks[i], _, mm, deep + 1, rfl, rep_grow hgr hrk, mm0, hm, by omega, by omega, rfl, rfl⟩ (isz_kid hmem)
          have hir : inRange (i : Int) ks.length = true := by
            show Nat.blt i ks.length = true
            rw [Nat.blt_eq]; exact hil
          have w2 : IntKind.i64.wrap (deep + 1) = deep + 1 := wrap64 (by omega) (by omega)
          have w3 : IntKind.i64.wrap ((i : Int) + 1) = (i : Int) + 1 := wrap64 (by omega) (by omega)
          obtain ⟨b0, b1⟩ := cntI_bound ks[i] (deep + 1) mm mm0 hm
          refine Wc.region_eq (by
            simp (config := {decide := true}) only [runRegion, runOps, awant, ayield_get, oper1, aop, opv, opvs, abuiltin, List.toList_toArray, Ac.get_put, Ac.put_n, nA, a1, a2, a3, a7, fa25_3, ld23, ld25, hc3, ia23 _ _ _ _ hir, Int.toNat_natCast, hsub, len23, if_true, if_false, and_true, decide_true, abin, isShift, aint, roV, pair, hlt, w2, bind, Option.bind, acall, List.nil_append, List.append_nil, hcall]
            exact rfl) ?_
          refine Wc.region_eq (by
            simp (config := {decide := true}) only [runRegion, runOps, awant, ayield_get, oper1, aop, opv, opvs, abuiltin, List.toList_toArray, Ac.get_put, Ac.put_n, nA, a1, a2, a3, a7, if_true, if_false, and_true, decide_true, abin, isShift, aint, roV, pair, w3]
            exact rfl) ?_
          refine (ih (i + 1) (cntI ks[i] (deep + 1) mm) _ (by omega) (by omega) b0 b1 ?_ ?_ ?_ ?_ ?_ ?_).mono ?_
          · simp only [Ac.put_n, nA]
          · simp only [Ac.put_defers, dA]
          · simp (config := {decide := true}) only [Ac.get_put, Ac.put_n, nA, if_true, if_false, and_true]
          · simp (config := {decide := true}) only [Ac.get_put, Ac.put_n, nA, if_true, if_false, and_true, a2]
          · simp (config := {decide := true}) only [Ac.get_put, Ac.put_n, nA, if_true, if_false, and_true, a3]
          · simp (config := {decide := true}) only [Ac.get_put, Ac.put_n, nA, if_true, if_false, and_true]
            rfl
          · rintro ex A' h' ⟨rfl, rfl, e1, e2, e3⟩
            refine ⟨rfl, rfl, e1, e2, ?_⟩
            rw [e3, hks, cntL, if_pos hm]
        · rw [decide_eq_false hm]
          simp only [Bool.false_eq_true, if_false]
          refine Wc.exit ?_
          refine ⟨rfl, rfl, by simp only [Ac.put_n, nA], by simp only [Ac.put_defers, dA], ?_⟩
          simp (config := {decide := true}) only [Ac.get_put, Ac.put_n, nA, if_true, if_false, and_true, a1]
          rw [hks, cntL, if_neg hm]
    refine (key ks.length 0 (many + 1) _ rfl (Nat.zero_le _) (by omega) (by omega) ?_ ?_ ?_ ?_ ?_ ?_).mono ?_
    · simp only [Ac.put_n, n0]
    · simp only [Ac.put_defers, d0']
    · simp (config := {decide := true}) only [Ac.get_put, Ac.put_n, n0, if_true, if_false, and_true]
    · simp (config := {decide := true}) only [Ac.get_put, Ac.put_n, n0, if_true, if_false, and_true, g02]
    · simp (config := {decide := true}) only [Ac.get_put, Ac.put_n, n0, if_true, if_false, and_true]
      rfl
    · simp (config := {decide := true}) only [Ac.get_put, Ac.put_n, n0, if_true, if_false, and_true]
      rfl
    · rintro ex A' h' ⟨rfl, rfl, e1, e2, e3⟩
      simp only [if_true]
      apply Wc.seq
      refine Wc.region_eq (by
        simp (config := {decide := true}) only [runRegion, runOps, awant, oper1, aop, opv, Ac.get_put, Ac.put_n, e1, e3, if_true, if_false, and_true, pair]
        exact rfl) ?_
      refine Wc.ret ?_
      refine done_tmp (.inr rfl) (by simp only [Ac.put_defers, e2]) rfl ?_ hl1
      simp (config := {decide := true}) only [Ac.get_put, Ac.put_n, e1, if_true, if_false, and_true]
      rw [cntI, if_neg hd, List.drop_zero]
end Go.Proofs.YtofijpbmbmbnhaaDoor
/- The reference's functions on items: what they give. -/
set_option maxRecDepth 100000
set_option maxHeartbeats 4000000
namespace Go.Proofs.YtofijpbmbmbnhaaDoor
open Go Go.Hs Go.Proofs
variable {E : Env} {I : Known}

/-! ### great -/
def says30 (E : Env) : Says := fun s f args h v => f = 30 ∧ s = 0 ∧ ∃ t xv, args = [xv] ∧ rep E h t xv ∧ v = .bool (decide (cntI t 0 0 > 6000))

theorem one30 (E : Env) : One (says30 E) := by
  rintro s s' f args h v v' ⟨_, _, t, xv, rfl, h1, rfl⟩ ⟨_, _, t', xv', he, h2, rfl⟩
  cases he
  rw [rep_one h1 h2]

theorem shown30 (hI : ∀ args h, I 30 args h = none) (h69 : ∀ t xv h, rep E h t xv → I 69 [xv, .int .i64 0, .int .i64 0] h = some (some (.int .i64 (cntI t 0 0), h))) : Shown tab E I (says30 E) := by
  rintro sz f args h v ⟨rfl, rfl, t, xv, rfl, hr, rfl⟩ hfr
  refine ⟨rfl, ?_⟩
  obtain ⟨k, m, tx, ks⟩ := t
  obtain ⟨sb, sc, rfl, hs⟩ := rep_slice hr
  generalize hsv : Value.slice sb ks.length sc = s at hr ⊢
  have hs1 : isOne s = true := by rw [← hsv]; rfl
  have hJ : upTo (says30 E) I 0 = I := by funext f args h; exact upTo_none (fun _ _ hs => absurd hs (Nat.not_lt_zero _))
  rw [hJ]
  suffices hw : ∃ n v h', (ev tab E I n).call 30 [.agg ⟨[.int .i64 k, .int .i64 m, .string tx, s]⟩] (fresh h) = some (v, h') ∧ (v = .bool (decide (cntI (.mk k m tx ks) 0 0 > 6000)) ∧ h'.log = []) by
    obtain ⟨n, v, h', h1, rfl, h3⟩ := hw
    exact ⟨n, h', h1, h3⟩
  refine Wc.call (hI _ _) fn30 rfl ?_
  generalize hA0 : (⟨T.ofList [.agg ⟨[.int .i64 k, .int .i64 m, .string tx, s]⟩] 0 .nil, max ([.agg ⟨[.int .i64 k, .int .i64 m, .string tx, s]⟩] : List Value).length Tryd.f30.ntmps, []⟩ : Ac) = A0
  have n0 : A0.n = 6 := by rw [← hA0]; rfl
  have g00 : A0.get 0 = .agg ⟨[.int .i64 k, .int .i64 m, .string tx, s]⟩ := by rw [← hA0]; rfl
  have d0 : A0.defers = [] := by rw [← hA0]
  have hgr : Grows h ((fresh h).new (.cells (Value.agg ⟨[.int .i64 k, .int .i64 m, .string tx, s]⟩).cells.toList 25 none)) := grows_new (h := fresh h) hfr _
  have hc : ((fresh h).new (.cells (Value.agg ⟨[.int .i64 k, .int .i64 m, .string tx, s]⟩).cells.toList 25 none)).cells E (own (fresh h).next) 4 = some [.int .i64 k, .int .i64 m, .string tx, s] := box_cells (xs := [.int .i64 k, .int .i64 m, .string tx, s]) rfl (by rw [List.all_cons, List.all_cons, List.all_cons, List.all_cons, hs1]; rfl)
  have hcall := ev_known (D := tab) (E := E) (h69 _ _ _ (rep_grow hgr hr))
  repeat' (first
    | (with_reducible apply Wc.seq)
    | (refine Wc.ops (by repeat' (first
      | with_reducible exact RO.nil
      | ((with_reducible apply RO.run (awant_none rfl)); (focus ((first | simp (config := {decide := true}) only [awant, ayield_get, oper1, aop, opv, opvs, opvo, opvp, abuiltin, Ac.get_put, Ac.put_n, Ac.put_defers, if_true, if_false, and_true, decide_true, abin, isShift, aint, roV, pair, bind, Option.bind, acall, List.nil_append, List.append_nil, List.toList_toArray, List.getElem?_cons_zero, List.getElem?_cons_succ, Bool.not_true, Bool.not_false, n0, g00, ld25, hc, hcall] | skip); with_reducible rfl))))) ?_)
    | (refine Wc.cond2 (by simp (config := {decide := true}) only [awant, ayield_get, oper1, aop, opv, opvs, opvo, opvp, abuiltin, Ac.get_put, Ac.put_n, Ac.put_defers, if_true, if_false, and_true, decide_true, abin, isShift, aint, roV, pair, bind, Option.bind, acall, List.nil_append, List.append_nil, List.toList_toArray, List.getElem?_cons_zero, List.getElem?_cons_succ, Bool.not_true, Bool.not_false, n0, g00, ld25, hc, hcall]; try with_reducible rfl) (fun hb => ?_) (fun hb => ?_) <;> try contradiction)
    | refine Wc.skip ?_
    | refine Wc.ret ?_
    | refine Wc.exit ?_
    | refine Wc.block ?_)
  refine done_tmp (.inr rfl) (by simp (config := {decide := true}) only [Ac.get_put, Ac.put_n, Ac.put_defers, if_true, if_false, and_true, d0]) rfl ?_ rfl
  simp (config := {decide := true}) only [Ac.get_put, Ac.put_n, Ac.put_defers, if_true, if_false, and_true, n0, gt_iff_lt]
end Go.Proofs.YtofijpbmbmbnhaaDoor
/- The reference's checks and levels. -/
set_option maxRecDepth 100000
set_option maxHeartbeats 4000000
namespace Go.Proofs.YtofijpbmbmbnhaaDoor
open Go Go.Hs Go.Proofs
variable {E : Env} {I : Known}
theorem fn72 : tab.fn.get 72 = some Tryd.f72 := by kernel_rfl

theorem ex0 (a b : Value) : (#[a, b] : Array Value).toList[0]? = some a := rfl
theorem ex1 (a b : Value) : (#[a, b] : Array Value).toList[1]? = some b := rfl

/-! ### levels -/
def says72 (E : Env) : Says := fun s f args h v => f = 72 ∧ ∃ t xv, args = [xv] ∧ rep E h t xv ∧ isz t ≤ 1000000 ∧ s = isz t ∧ v = .int .i64 (lvlI t)
theorem one72 (E : Env) : One (says72 E) := by
  rintro s s' f args h v v' ⟨_, t, xv, rfl, h1, _, _, rfl⟩ ⟨_, t', xv', he, h2, _, _, rfl⟩
  cases he
  rw [rep_one h1 h2]

noncomputable def loop72 : Code := loopOf Tryd.f72

theorem shown72 (hI : ∀ args h, I 72 args h = none) : Shown tab E I (says72 E) := by
  rintro sz f args h v ⟨rfl, t, xv, rfl, hr, hz, rfl, rfl⟩ hfr
  refine ⟨rfl, ?_⟩
  obtain ⟨k, m, tx, ks⟩ := t
  obtain ⟨sb, sc, rfl, hs⟩ := rep_slice hr
  have hnone : upTo (says72 E) I (isz (.mk k m tx ks)) 72 [.agg ⟨[.int .i64 k, .int .i64 m, .string tx, .slice sb ks.length sc]⟩] (fresh h) = none := by
    rw [upTo_none]
    · exact hI _ _
    · rintro v s hlt ⟨_, t', xv', he, h2, _, rfl, _⟩
      cases he
      have h2' : rep E h t' _ := rep_grow (h := fresh h) (h' := h) (fun _ _ hb => hb) h2
      rw [rep_one h2' hr] at hlt
      exact absurd hlt (Nat.lt_irrefl _)
  generalize hJ : upTo (says72 E) I (isz (.mk k m tx ks)) = J at hnone ⊢
  suffices hw : ∃ n v h', (ev tab E J n).call 72 [.agg ⟨[.int .i64 k, .int .i64 m, .string tx, .slice sb ks.length sc]⟩] (fresh h) = some (v, h') ∧ (v = .int .i64 (lvlI (.mk k m tx ks)) ∧ h'.log = []) by
    obtain ⟨n, v, h', h1, rfl, h3⟩ := hw
    exact ⟨n, h', h1, h3⟩
  refine Wc.call hnone fn72 rfl ?_
  generalize hA0 : (⟨T.ofList [.agg ⟨[.int .i64 k, .int .i64 m, .string tx, .slice sb ks.length sc]⟩] 0 .nil, max ([.agg ⟨[.int .i64 k, .int .i64 m, .string tx, .slice sb ks.length sc]⟩] : List Value).length Tryd.f72.ntmps, []⟩ : Ac) = A0
  have n0 : A0.n = 25 := by rw [← hA0]; rfl
  have g00 : A0.get 0 = .agg ⟨[.int .i64 k, .int .i64 m, .string tx, .slice sb ks.length sc]⟩ := by rw [← hA0]; rfl
  have d0 : A0.defers = [] := by rw [← hA0]
  apply Wc.seq
  refine Wc.ops (by repeat' (first
      | with_reducible exact RO.nil
      | ((with_reducible apply RO.run (awant_none rfl)); (focus ((first | simp (config := {decide := true}) only [awant, ayield_get, oper1, aop, opv, opvs, opvo, opvp, abuiltin, Ac.get_put, Ac.put_n, Ac.put_defers, if_true, if_false, and_true, decide_true, abin, isShift, aint, roV, pair, bind, Option.bind, acall, List.nil_append, List.append_nil, List.toList_toArray, List.getElem?_cons_zero, List.getElem?_cons_succ, Bool.not_true, Bool.not_false, n0, g00] | skip); with_reducible rfl))))) ?_
  generalize hh1 : (fresh h).new (.cells (Value.agg ⟨[.int .i64 k, .int .i64 m, .string tx, .slice sb ks.length sc]⟩).cells.toList 25 none) = h1
  have hl1 : h1.log = [] := by rw [← hh1]; rfl
  have hgr : Grows h h1 := by rw [← hh1]; exact grows_new (h := fresh h) hfr _
  have hc3 : h1.cell E (aadd (own h.next) 3) = some (.slice sb ks.length sc) := by rw [← hh1]; exact box_cell (h := fresh h) (i := 3) rfl rfl
  have hb := lvlI_bound (.mk k m tx ks)
  rw [lvlI] at hb
  have hLe : (iszL ks : Int) ≤ 1000000 := by rw [isz] at hz; push_cast; omega
  have key : ∀ (r i : Nat) (mm : Int) (A : Ac), r = ks.length - i → i ≤ ks.length → 0 ≤ mm → A.n = 25 → A.defers = [] → A.get 3 = .int .i64 mm → A.get 8 = .int .i64 (ks.length : Nat) →
      A.get 1 = .pointer (some (own h.next)) → A.get 9 = .int .i64 (i : Nat) →
      Wc tab E J ⟨72, none⟩ (.loop loop72) A h1 (fun ex A' h' => ex = .exit 0 ∧ h' = h1 ∧ A'.n = 25 ∧ A'.defers = [] ∧ A'.get 3 = .int .i64 (lvlL (ks.drop i) mm)) := by
    intro r
    induction r with
    | zero =>
      intro i mm A hr hi mm0 nA dA a3 a8 a1 a9
      have hil : i = ks.length := by omega
      have hlt : decide ((i : Int) < (ks.length : Int)) = false := by simp; omega
      apply Wc.loop
      simp only [loop72, loopOf, firstLoop, Option.getD, Tryd.f72]
      repeat' (first
    | (with_reducible apply Wc.seq)
    | (refine Wc.ops (by repeat' (first
      | with_reducible exact RO.nil
      | ((with_reducible apply RO.run (awant_none rfl)); (focus ((first | simp (config := {decide := true}) only [awant, ayield_get, oper1, aop, opv, opvs, opvo, opvp, abuiltin, Ac.get_put, Ac.put_n, Ac.put_defers, if_true, if_false, and_true, decide_true, abin, isShift, aint, roV, pair, bind, Option.bind, acall, List.nil_append, List.append_nil, List.toList_toArray, List.getElem?_cons_zero, List.getElem?_cons_succ, Bool.not_true, Bool.not_false, nA, a3, a8, a1, a9, hlt] | skip); with_reducible rfl))))) ?_)
    | (refine Wc.cond2 (by simp (config := {decide := true}) only [awant, ayield_get, oper1, aop, opv, opvs, opvo, opvp, abuiltin, Ac.get_put, Ac.put_n, Ac.put_defers, if_true, if_false, and_true, decide_true, abin, isShift, aint, roV, pair, bind, Option.bind, acall, List.nil_append, List.append_nil, List.toList_toArray, List.getElem?_cons_zero, List.getElem?_cons_succ, Bool.not_true, Bool.not_false, nA, a3, a8, a1, a9, hlt]; try with_reducible rfl) (fun hb => ?_) (fun hb => ?_) <;> try contradiction)
    | refine Wc.skip ?_
    | refine Wc.ret ?_
    | refine Wc.exit ?_
    | refine Wc.block ?_)
      refine ⟨rfl, rfl, by simp (config := {decide := true}) only [Ac.get_put, Ac.put_n, Ac.put_defers, if_true, if_false, and_true, nA], by simp (config := {decide := true}) only [Ac.get_put, Ac.put_n, Ac.put_defers, if_true, if_false, and_true, dA], ?_⟩
      simp (config := {decide := true}) only [Ac.get_put, Ac.put_n, Ac.put_defers, if_true, if_false, and_true, nA, a3]
      rw [hil, List.drop_length, lvlL]
    | succ r ih =>
      intro i mm A hr hi mm0 nA dA a3 a8 a1 a9
      have hil : i < ks.length := by omega
      have hlt : decide ((i : Int) < (ks.length : Int)) = true := by simp; omega
      have hks : ks.drop i = ks[i] :: ks.drop (i + 1) := List.drop_eq_getElem_cons hil
      rcases hs with hk0 | ⟨a, cs, he, hlc, hcs, hrl⟩
      · rw [hk0] at hil; simp at hil
      subst he
      have hcs1 := cells_grow hgr hcs
      obtain ⟨hl4, hrk⟩ := repL_get i hrl (List.getElem?_eq_getElem hil)
      have hsub := cells_sub hcs1 (m := i * 4) (l := 4) (by omega)
      have hmem : ks[i] ∈ ks := List.getElem_mem hil
      have hkz := isz_kid (k := k) (n := m) (t := tx) hmem
      have hcall : (ev tab E J 1).call 72 [.agg ⟨(cs.drop (i * 4)).take 4⟩] h1 = some (.int .i64 (lvlI ks[i]), h1) := by
        apply ev_known
        rw [← hJ]
        exact upTo_eq (one72 E) ⟨rfl, ks[i], _, rfl, rep_grow hgr hrk, by omega, rfl, rfl⟩ hkz
      have hir : inRange (i : Int) ks.length = true := by
        show Nat.blt i ks.length = true
        rw [Nat.blt_eq]; exact hil
      have w3 : IntKind.i64.wrap ((i : Int) + 1) = (i : Int) + 1 := wrap64 (by omega) (by omega)
      have hkb := lvlI_bound ks[i]
      apply Wc.loop
      simp only [loop72, loopOf, firstLoop, Option.getD, Tryd.f72]
      repeat' (first
    | (with_reducible apply Wc.seq)
    | (refine Wc.ops (by repeat' (first
      | with_reducible exact RO.nil
      | ((with_reducible apply RO.run (awant_none rfl)); (focus ((first | simp (config := {decide := true}) only [awant, ayield_get, oper1, aop, opv, opvs, opvo, opvp, abuiltin, Ac.get_put, Ac.put_n, Ac.put_defers, if_true, if_false, and_true, decide_true, abin, isShift, aint, roV, pair, bind, Option.bind, acall, List.nil_append, List.append_nil, List.toList_toArray, List.getElem?_cons_zero, List.getElem?_cons_succ, Bool.not_true, Bool.not_false, nA, a3, a8, a1, a9, hlt, fa25_3, ld23, ld25, hc3, ia23 _ _ _ _ hir, Int.toNat_natCast, hsub, len23, hcall, w3] | skip); with_reducible rfl))))) ?_)
    | (refine Wc.cond2 (by simp (config := {decide := true}) only [awant, ayield_get, oper1, aop, opv, opvs, opvo, opvp, abuiltin, Ac.get_put, Ac.put_n, Ac.put_defers, if_true, if_false, and_true, decide_true, abin, isShift, aint, roV, pair, bind, Option.bind, acall, List.nil_append, List.append_nil, List.toList_toArray, List.getElem?_cons_zero, List.getElem?_cons_succ, Bool.not_true, Bool.not_false, nA, a3, a8, a1, a9, hlt, fa25_3, ld23, ld25, hc3, ia23 _ _ _ _ hir, Int.toNat_natCast, hsub, len23, hcall, w3]; try with_reducible rfl) (fun hb => ?_) (fun hb => ?_) <;> try contradiction)
    | refine Wc.skip ?_
    | refine Wc.ret ?_
    | refine Wc.exit ?_
    | refine Wc.block ?_)
      · have hm : lvlI ks[i] > mm := of_decide_eq_true (by assumption)
        refine (ih (i + 1) (lvlI ks[i]) _ (by omega) (by omega) (by omega) ?_ ?_ ?_ ?_ ?_ ?_).mono ?_
        · simp (config := {decide := true}) only [Ac.get_put, Ac.put_n, Ac.put_defers, if_true, if_false, and_true, nA]
        · simp (config := {decide := true}) only [Ac.get_put, Ac.put_n, Ac.put_defers, if_true, if_false, and_true, dA]
        · simp (config := {decide := true}) only [Ac.get_put, Ac.put_n, Ac.put_defers, if_true, if_false, and_true, nA]
        · simp (config := {decide := true}) only [Ac.get_put, Ac.put_n, Ac.put_defers, if_true, if_false, and_true, nA, a8]
        · simp (config := {decide := true}) only [Ac.get_put, Ac.put_n, Ac.put_defers, if_true, if_false, and_true, nA, a1]
        · simp (config := {decide := true}) only [Ac.get_put, Ac.put_n, Ac.put_defers, if_true, if_false, and_true, nA]
          rfl
        · rintro ex A' h' ⟨rfl, rfl, e1, e2, e3⟩
          refine ⟨rfl, rfl, e1, e2, ?_⟩
          rw [e3, hks, lvlL, if_pos hm]
      · have hm : ¬ (lvlI ks[i] > mm) := of_decide_eq_false (by assumption)
        refine (ih (i + 1) mm _ (by omega) (by omega) mm0 ?_ ?_ ?_ ?_ ?_ ?_).mono ?_
        · simp (config := {decide := true}) only [Ac.get_put, Ac.put_n, Ac.put_defers, if_true, if_false, and_true, nA]
        · simp (config := {decide := true}) only [Ac.get_put, Ac.put_n, Ac.put_defers, if_true, if_false, and_true, dA]
        · simp (config := {decide := true}) only [Ac.get_put, Ac.put_n, Ac.put_defers, if_true, if_false, and_true, nA, a3]
        · simp (config := {decide := true}) only [Ac.get_put, Ac.put_n, Ac.put_defers, if_true, if_false, and_true, nA, a8]
        · simp (config := {decide := true}) only [Ac.get_put, Ac.put_n, Ac.put_defers, if_true, if_false, and_true, nA, a1]
        · simp (config := {decide := true}) only [Ac.get_put, Ac.put_n, Ac.put_defers, if_true, if_false, and_true, nA]
          rfl
        · rintro ex A' h' ⟨rfl, rfl, e1, e2, e3⟩
          refine ⟨rfl, rfl, e1, e2, ?_⟩
          rw [e3, hks, lvlL, if_neg hm]
  have hfn : (fresh h).next = h.next := rfl
  have w1 : IntKind.i64.wrap (lvlL ks 0 + 1) = lvlL ks 0 + 1 := wrap64 (by omega) (by omega)
  repeat' (first
    | (with_reducible apply Wc.seq)
    | (refine Wc.ops (by repeat' (first
      | with_reducible exact RO.nil
      | ((with_reducible apply RO.run (awant_none rfl)); (focus ((first | simp (config := {decide := true}) only [awant, ayield_get, oper1, aop, opv, opvs, opvo, opvp, abuiltin, Ac.get_put, Ac.put_n, Ac.put_defers, if_true, if_false, and_true, decide_true, abin, isShift, aint, roV, pair, bind, Option.bind, acall, List.nil_append, List.append_nil, List.toList_toArray, List.getElem?_cons_zero, List.getElem?_cons_succ, Bool.not_true, Bool.not_false, n0, g00, hfn, fa25_3, ld23, hc3, len23] | skip); with_reducible rfl))))) ?_)
    | (refine Wc.cond2 (by simp (config := {decide := true}) only [awant, ayield_get, oper1, aop, opv, opvs, opvo, opvp, abuiltin, Ac.get_put, Ac.put_n, Ac.put_defers, if_true, if_false, and_true, decide_true, abin, isShift, aint, roV, pair, bind, Option.bind, acall, List.nil_append, List.append_nil, List.toList_toArray, List.getElem?_cons_zero, List.getElem?_cons_succ, Bool.not_true, Bool.not_false, n0, g00, hfn, fa25_3, ld23, hc3, len23]; try with_reducible rfl) (fun hb => ?_) (fun hb => ?_) <;> try contradiction)
    | refine Wc.skip ?_
    | refine Wc.ret ?_
    | refine Wc.exit ?_
    | refine Wc.block ?_)
  refine (key ks.length 0 0 _ rfl (Nat.zero_le _) (Int.le_refl _) ?_ ?_ ?_ ?_ ?_ ?_).mono ?_
  · simp (config := {decide := true}) only [Ac.get_put, Ac.put_n, Ac.put_defers, if_true, if_false, and_true, n0]
  · simp (config := {decide := true}) only [Ac.get_put, Ac.put_n, Ac.put_defers, if_true, if_false, and_true, d0]
  · simp (config := {decide := true}) only [Ac.get_put, Ac.put_n, Ac.put_defers, if_true, if_false, and_true, n0]
  · simp (config := {decide := true}) only [Ac.get_put, Ac.put_n, Ac.put_defers, if_true, if_false, and_true, n0]
  · simp (config := {decide := true}) only [Ac.get_put, Ac.put_n, Ac.put_defers, if_true, if_false, and_true, n0, hfn]
  · simp (config := {decide := true}) only [Ac.get_put, Ac.put_n, Ac.put_defers, if_true, if_false, and_true, n0]
    rfl
  · rintro ex A' h' ⟨rfl, rfl, e1, e2, e3⟩
    simp only [if_true]
    rw [List.drop_zero] at e3
    repeat' (first
    | (with_reducible apply Wc.seq)
    | (refine Wc.ops (by repeat' (first
      | with_reducible exact RO.nil
      | ((with_reducible apply RO.run (awant_none rfl)); (focus ((first | simp (config := {decide := true}) only [awant, ayield_get, oper1, aop, opv, opvs, opvo, opvp, abuiltin, Ac.get_put, Ac.put_n, Ac.put_defers, if_true, if_false, and_true, decide_true, abin, isShift, aint, roV, pair, bind, Option.bind, acall, List.nil_append, List.append_nil, List.toList_toArray, List.getElem?_cons_zero, List.getElem?_cons_succ, Bool.not_true, Bool.not_false, e1, e3, w1] | skip); with_reducible rfl))))) ?_)
    | (refine Wc.cond2 (by simp (config := {decide := true}) only [awant, ayield_get, oper1, aop, opv, opvs, opvo, opvp, abuiltin, Ac.get_put, Ac.put_n, Ac.put_defers, if_true, if_false, and_true, decide_true, abin, isShift, aint, roV, pair, bind, Option.bind, acall, List.nil_append, List.append_nil, List.toList_toArray, List.getElem?_cons_zero, List.getElem?_cons_succ, Bool.not_true, Bool.not_false, e1, e3, w1]; try with_reducible rfl) (fun hb => ?_) (fun hb => ?_) <;> try contradiction)
    | refine Wc.skip ?_
    | refine Wc.ret ?_
    | refine Wc.exit ?_
    | refine Wc.block ?_)
    refine done_tmp (.inr rfl) (by simp (config := {decide := true}) only [Ac.get_put, Ac.put_n, Ac.put_defers, if_true, if_false, and_true, e2]) rfl ?_ hl1
    simp (config := {decide := true}) only [Ac.get_put, Ac.put_n, Ac.put_defers, if_true, if_false, and_true, e1, lvlI]
end Go.Proofs.YtofijpbmbmbnhaaDoor
