/- The reference's check. -/
import Derived.Test.YtofijpbmbmbnhaaDoorHsai
set_option linter.unusedSimpArgs false
set_option linter.unusedVariables false
set_option maxRecDepth 100000
set_option maxHeartbeats 4000000
namespace Go.Proofs.YtofijpbmbmbnhaaDoor
open Go Go.Hs Go.Proofs
variable {E : Env} {I : Known}

/-! ### checked -/
theorem fn71 : tab.fn.get 71 = some Tryd.f71 := by kernel_rfl
def says71 (E : Env) : Says := fun s f args h v => f = 71 ∧ ∃ t xv b l, args = [xv, .int .i64 b, .int .i64 l] ∧ rep E h t xv ∧ 0 ≤ b ∧ b ≤ 5000 ∧ 1 ≤ l ∧ l ≤ 251 ∧ s = isz t ∧ v = .tuple #[.int .i64 (chkI t b l).1, .int .i64 (chkI t b l).2]
theorem one71 (E : Env) : One (says71 E) := by
  rintro s s' f args h v v' ⟨_, t, xv, b, l, rfl, h1, _, _, _, _, _, rfl⟩ ⟨_, t', xv', b', l', he, h2, _, _, _, _, _, rfl⟩
  cases he
  rw [rep_one h1 h2]
noncomputable def loop71 : Code := loopOf Tryd.f71

theorem shown71 (hI : ∀ args h, I 71 args h = none) : Shown tab E I (says71 E) := by
  rintro sz f args h v ⟨rfl, t, xv, b, l, rfl, hr, b0, b1, l0, l1, rfl, rfl⟩ hfr
  refine ⟨rfl, ?_⟩
  obtain ⟨k, m, tx, ks⟩ := t
  obtain ⟨sb, sc, rfl, hs⟩ := rep_slice hr
  have hnone : upTo (says71 E) I (isz (.mk k m tx ks)) 71 [.agg ⟨[.int .i64 k, .int .i64 m, .string tx, .slice sb ks.length sc]⟩, .int .i64 b, .int .i64 l] (fresh h) = none := by
    rw [upTo_none]
    · exact hI _ _
    · rintro v s hlt ⟨_, t', xv', b', l', he, h2, _, _, _, _, rfl, _⟩
      cases he
      have h2' : rep E h t' _ := rep_grow (h := fresh h) (h' := h) (fun _ _ hb => hb) h2
      rw [rep_one h2' hr] at hlt
      exact absurd hlt (Nat.lt_irrefl _)
  generalize hJ : upTo (says71 E) I (isz (.mk k m tx ks)) = J at hnone ⊢
  suffices hw : ∃ n v h', (ev tab E J n).call 71 [.agg ⟨[.int .i64 k, .int .i64 m, .string tx, .slice sb ks.length sc]⟩, .int .i64 b, .int .i64 l] (fresh h) = some (v, h') ∧ (v = .tuple #[.int .i64 (chkI (.mk k m tx ks) b l).1, .int .i64 (chkI (.mk k m tx ks) b l).2] ∧ h'.log = []) by
    obtain ⟨n, v, h', h1, rfl, h3⟩ := hw
    exact ⟨n, h', h1, h3⟩
  refine Wc.call hnone fn71 rfl ?_
  generalize hA0 : (⟨T.ofList [.agg ⟨[.int .i64 k, .int .i64 m, .string tx, .slice sb ks.length sc]⟩, .int .i64 b, .int .i64 l] 0 .nil, max ([.agg ⟨[.int .i64 k, .int .i64 m, .string tx, .slice sb ks.length sc]⟩, .int .i64 b, .int .i64 l] : List Value).length Tryd.f71.ntmps, []⟩ : Ac) = A0
  have n0 : A0.n = 68 := by rw [← hA0]; rfl
  have g00 : A0.get 0 = .agg ⟨[.int .i64 k, .int .i64 m, .string tx, .slice sb ks.length sc]⟩ := by rw [← hA0]; rfl
  have g01 : A0.get 1 = .int .i64 b := by rw [← hA0]; rfl
  have g02 : A0.get 2 = .int .i64 l := by rw [← hA0]; rfl
  have d0 : A0.defers = [] := by rw [← hA0]
  apply Wc.seq
  refine Wc.ops (by repeat' (first
      | with_reducible exact RO.nil
      | ((with_reducible apply RO.run (awant_none rfl)); (focus ((first | simp (config := {decide := true}) only [awant, ayield_get, oper1, aop, opv, opvs, opvo, opvp, abuiltin, Ac.get_put, Ac.put_n, Ac.put_defers, if_true, if_false, and_true, decide_true, abin, isShift, aint, roV, pair, bind, Option.bind, acall, List.nil_append, List.append_nil, List.toList_toArray, List.getElem?_cons_zero, List.getElem?_cons_succ, Bool.not_true, Bool.not_false, n0, g00, g01, g02] | skip); with_reducible rfl)))
      | ((with_reducible apply RO.runG); (focus rfl); (focus rfl); (focus (simp (config := {decide := true}) only [awant, ayield_get, oper1, aop, opv, opvs, opvo, opvp, abuiltin, Ac.get_put, Ac.put_n, Ac.put_defers, if_true, if_false, and_true, decide_true, abin, isShift, aint, roV, pair, bind, Option.bind, acall, List.nil_append, List.append_nil, List.toList_toArray, List.getElem?_cons_zero, List.getElem?_cons_succ, Bool.not_true, Bool.not_false, n0, g00, g01, g02]; done)); (focus ((first | simp (config := {decide := true}) only [awant, ayield_get, oper1, aop, opv, opvs, opvo, opvp, abuiltin, Ac.get_put, Ac.put_n, Ac.put_defers, if_true, if_false, and_true, decide_true, abin, isShift, aint, roV, pair, bind, Option.bind, acall, List.nil_append, List.append_nil, List.toList_toArray, List.getElem?_cons_zero, List.getElem?_cons_succ, Bool.not_true, Bool.not_false, n0, g00, g01, g02] | skip); with_reducible rfl)))
      | ((with_reducible apply RO.skipG); (focus rfl); (focus rfl); (focus (simp (config := {decide := true}) only [awant, ayield_get, oper1, aop, opv, opvs, opvo, opvp, abuiltin, Ac.get_put, Ac.put_n, Ac.put_defers, if_true, if_false, and_true, decide_true, abin, isShift, aint, roV, pair, bind, Option.bind, acall, List.nil_append, List.append_nil, List.toList_toArray, List.getElem?_cons_zero, List.getElem?_cons_succ, Bool.not_true, Bool.not_false, n0, g00, g01, g02]; done))))) ?_
  generalize hh1 : (fresh h).new (.cells (Value.agg ⟨[.int .i64 k, .int .i64 m, .string tx, .slice sb ks.length sc]⟩).cells.toList 25 none) = h1
  have hl1 : h1.log = [] := by rw [← hh1]; rfl
  have hgr : Grows h h1 := by rw [← hh1]; exact grows_new (h := fresh h) hfr _
  have hc0 : h1.cell E (aadd (own h.next) 0) = some (.int .i64 k) := by rw [← hh1]; exact box_cell (h := fresh h) (i := 0) rfl rfl
  have hc1 : h1.cell E (aadd (own h.next) 1) = some (.int .i64 m) := by rw [← hh1]; exact box_cell (h := fresh h) (i := 1) rfl rfl
  have hc2 : h1.cell E (aadd (own h.next) 2) = some (.string tx) := by rw [← hh1]; exact box_cell (h := fresh h) (i := 2) rfl rfl
  have hc3 : h1.cell E (aadd (own h.next) 3) = some (.slice sb ks.length sc) := by rw [← hh1]; exact box_cell (h := fresh h) (i := 3) rfl rfl
  have hfn : (fresh h).next = h.next := rfl
  have key : ∀ (r i : Nat) (bb : Int) (A : Ac), r = ks.length - i → i ≤ ks.length → 0 ≤ bb → bb ≤ 5000 → l ≤ 250 → A.n = 68 → A.defers = [] → A.get 1 = .int .i64 bb → A.get 2 = .int .i64 l → A.get 45 = .int .i64 (ks.length : Nat) →
      A.get 3 = .pointer (some (own h.next)) → A.get 46 = .int .i64 (i : Nat) →
      Wc tab E J ⟨71, none⟩ (.loop loop71) A h1 (fun ex A' h' => h' = h1 ∧ A'.n = 68 ∧ A'.defers = [] ∧
        ((ex = .exit 0 ∧ (chkL (ks.drop i) bb (l + 1)).2 = 0 ∧ A'.get 1 = .int .i64 (chkL (ks.drop i) bb (l + 1)).1) ∨
         (ex = .ret ∧ A'.get 6 = .int .i64 (chkL (ks.drop i) bb (l + 1)).1 ∧ A'.get 7 = .int .i64 (chkL (ks.drop i) bb (l + 1)).2))) := by
    intro r
    induction r with
    | zero =>
      intro i bb A hr hi bb0 bb1 ll nA dA a1 a2 a45 a3 a46
      have hil : i = ks.length := by omega
      have hlt : decide ((i : Int) < (ks.length : Int)) = false := by simp; omega
      apply Wc.loop
      simp only [loop71, loopOf, firstLoop, Option.getD, Tryd.f71]
      repeat' (first
    | (with_reducible apply Wc.seq)
    | (refine Wc.ops (by repeat' (first
      | with_reducible exact RO.nil
      | ((with_reducible apply RO.run (awant_none rfl)); (focus ((first | simp (config := {decide := true}) only [awant, ayield_get, oper1, aop, opv, opvs, opvo, opvp, abuiltin, Ac.get_put, Ac.put_n, Ac.put_defers, if_true, if_false, and_true, decide_true, abin, isShift, aint, roV, pair, bind, Option.bind, acall, List.nil_append, List.append_nil, List.toList_toArray, List.getElem?_cons_zero, List.getElem?_cons_succ, Bool.not_true, Bool.not_false, nA, a1, a2, a45, a3, a46, hlt] | skip); with_reducible rfl)))
      | ((with_reducible apply RO.runG); (focus rfl); (focus rfl); (focus (simp (config := {decide := true}) only [awant, ayield_get, oper1, aop, opv, opvs, opvo, opvp, abuiltin, Ac.get_put, Ac.put_n, Ac.put_defers, if_true, if_false, and_true, decide_true, abin, isShift, aint, roV, pair, bind, Option.bind, acall, List.nil_append, List.append_nil, List.toList_toArray, List.getElem?_cons_zero, List.getElem?_cons_succ, Bool.not_true, Bool.not_false, nA, a1, a2, a45, a3, a46, hlt]; done)); (focus ((first | simp (config := {decide := true}) only [awant, ayield_get, oper1, aop, opv, opvs, opvo, opvp, abuiltin, Ac.get_put, Ac.put_n, Ac.put_defers, if_true, if_false, and_true, decide_true, abin, isShift, aint, roV, pair, bind, Option.bind, acall, List.nil_append, List.append_nil, List.toList_toArray, List.getElem?_cons_zero, List.getElem?_cons_succ, Bool.not_true, Bool.not_false, nA, a1, a2, a45, a3, a46, hlt] | skip); with_reducible rfl)))
      | ((with_reducible apply RO.skipG); (focus rfl); (focus rfl); (focus (simp (config := {decide := true}) only [awant, ayield_get, oper1, aop, opv, opvs, opvo, opvp, abuiltin, Ac.get_put, Ac.put_n, Ac.put_defers, if_true, if_false, and_true, decide_true, abin, isShift, aint, roV, pair, bind, Option.bind, acall, List.nil_append, List.append_nil, List.toList_toArray, List.getElem?_cons_zero, List.getElem?_cons_succ, Bool.not_true, Bool.not_false, nA, a1, a2, a45, a3, a46, hlt]; done))))) ?_)
    | (refine Wc.quiet (by kernel_rfl) (by repeat' (first
      | with_reducible exact QO.nil
      | ((with_reducible apply QO.cons rfl rfl); (focus ((first | simp (config := {decide := true}) only [awant, ayield_get, oper1, aop, opv, opvs, opvo, opvp, abuiltin, Ac.get_put, Ac.put_n, Ac.put_defers, if_true, if_false, and_true, decide_true, abin, isShift, aint, roV, pair, bind, Option.bind, acall, List.nil_append, List.append_nil, List.toList_toArray, List.getElem?_cons_zero, List.getElem?_cons_succ, Bool.not_true, Bool.not_false, nA, a1, a2, a45, a3, a46, hlt] | skip); with_reducible rfl))))) ?_)
    | (refine Wc.cond2 (by simp (config := {decide := true}) only [awant, ayield_get, oper1, aop, opv, opvs, opvo, opvp, abuiltin, Ac.get_put, Ac.put_n, Ac.put_defers, if_true, if_false, and_true, decide_true, abin, isShift, aint, roV, pair, bind, Option.bind, acall, List.nil_append, List.append_nil, List.toList_toArray, List.getElem?_cons_zero, List.getElem?_cons_succ, Bool.not_true, Bool.not_false, nA, a1, a2, a45, a3, a46, hlt]; try with_reducible rfl) (fun hb => ?_) (fun hb => ?_) <;> try contradiction)
    | refine Wc.skip ?_
    | refine Wc.ret ?_
    | refine Wc.exit ?_
    | refine Wc.block ?_)
      refine ⟨rfl, by simp (config := {decide := true}) only [Ac.get_put, Ac.put_n, Ac.put_defers, if_true, if_false, and_true, nA], by simp (config := {decide := true}) only [Ac.get_put, Ac.put_n, Ac.put_defers, if_true, if_false, and_true, dA], .inl ⟨rfl, ?_, ?_⟩⟩
      · rw [hil, List.drop_length, chkL]
      · simp (config := {decide := true}) only [Ac.get_put, Ac.put_n, Ac.put_defers, if_true, if_false, and_true, nA, a1]
        rw [hil, List.drop_length, chkL]
    | succ r ih =>
      intro i bb A hr hi bb0 bb1 ll nA dA a1 a2 a45 a3 a46
      have hil : i < ks.length := by omega
      have hlt : decide ((i : Int) < (ks.length : Int)) = true := by simp; omega
      have hks : ks.drop i = ks[i] :: ks.drop (i + 1) := List.drop_eq_getElem_cons hil
      rcases hs with hk0 | ⟨a, cs, he, hlc, hcs, hrl⟩
      · rw [hk0] at hil; simp at hil
      subst he
      have hcs1 := cells_grow hgr hcs
      obtain ⟨hl4, hrk⟩ := repL_get i hrl (List.getElem?_eq_getElem hil)
      have hsub := cells_sub hcs1 (m := i * 4) (l := 4) (by omega)
      have hmem : ks[i] ∈ ks := List.getElem_mem hil
      have hkz := isz_kid (k := k) (n := m) (t := tx) hmem
      have hcall : (ev tab E J 1).call 71 [.agg ⟨(cs.drop (i * 4)).take 4⟩, .int .i64 bb, .int .i64 (l + 1)] h1 = some (.tuple #[.int .i64 (chkI ks[i] bb (l + 1)).1, .int .i64 (chkI ks[i] bb (l + 1)).2], h1) := by
        apply ev_known
        rw [← hJ]
        exact upTo_eq (one71 E) ⟨rfl, ks[i], _, bb, l + 1, rfl, rep_grow hgr hrk, bb0, bb1, by omega, by omega, rfl, rfl⟩ hkz
      have hir : inRange (i : Int) ks.length = true := by
        show Nat.blt i ks.length = true
        rw [Nat.blt_eq]; exact hil
      have w2 : IntKind.i64.wrap (l + 1) = l + 1 := wrap64 (by omega) (by omega)
      have w3 : IntKind.i64.wrap ((i : Int) + 1) = (i : Int) + 1 := wrap64 (by omega) (by omega)
      have hkb := chkI_bound ks[i] bb (l + 1) bb0 bb1
      apply Wc.loop
      simp only [loop71, loopOf, firstLoop, Option.getD, Tryd.f71]
      repeat' (first
    | (with_reducible apply Wc.seq)
    | (refine Wc.ops (by repeat' (first
      | with_reducible exact RO.nil
      | ((with_reducible apply RO.run (awant_none rfl)); (focus ((first | simp (config := {decide := true}) only [awant, ayield_get, oper1, aop, opv, opvs, opvo, opvp, abuiltin, Ac.get_put, Ac.put_n, Ac.put_defers, if_true, if_false, and_true, decide_true, abin, isShift, aint, roV, pair, bind, Option.bind, acall, List.nil_append, List.append_nil, List.toList_toArray, List.getElem?_cons_zero, List.getElem?_cons_succ, Bool.not_true, Bool.not_false, nA, a1, a2, a45, a3, a46, hlt, fa25_3, ld23, ld25, hc3, ia23 _ _ _ _ hir, Int.toNat_natCast, hsub, len23, hcall, w2, w3, ex0, ex1] | skip); with_reducible rfl)))
      | ((with_reducible apply RO.runG); (focus rfl); (focus rfl); (focus (simp (config := {decide := true}) only [awant, ayield_get, oper1, aop, opv, opvs, opvo, opvp, abuiltin, Ac.get_put, Ac.put_n, Ac.put_defers, if_true, if_false, and_true, decide_true, abin, isShift, aint, roV, pair, bind, Option.bind, acall, List.nil_append, List.append_nil, List.toList_toArray, List.getElem?_cons_zero, List.getElem?_cons_succ, Bool.not_true, Bool.not_false, nA, a1, a2, a45, a3, a46, hlt, fa25_3, ld23, ld25, hc3, ia23 _ _ _ _ hir, Int.toNat_natCast, hsub, len23, hcall, w2, w3, ex0, ex1]; done)); (focus ((first | simp (config := {decide := true}) only [awant, ayield_get, oper1, aop, opv, opvs, opvo, opvp, abuiltin, Ac.get_put, Ac.put_n, Ac.put_defers, if_true, if_false, and_true, decide_true, abin, isShift, aint, roV, pair, bind, Option.bind, acall, List.nil_append, List.append_nil, List.toList_toArray, List.getElem?_cons_zero, List.getElem?_cons_succ, Bool.not_true, Bool.not_false, nA, a1, a2, a45, a3, a46, hlt, fa25_3, ld23, ld25, hc3, ia23 _ _ _ _ hir, Int.toNat_natCast, hsub, len23, hcall, w2, w3, ex0, ex1] | skip); with_reducible rfl)))
      | ((with_reducible apply RO.skipG); (focus rfl); (focus rfl); (focus (simp (config := {decide := true}) only [awant, ayield_get, oper1, aop, opv, opvs, opvo, opvp, abuiltin, Ac.get_put, Ac.put_n, Ac.put_defers, if_true, if_false, and_true, decide_true, abin, isShift, aint, roV, pair, bind, Option.bind, acall, List.nil_append, List.append_nil, List.toList_toArray, List.getElem?_cons_zero, List.getElem?_cons_succ, Bool.not_true, Bool.not_false, nA, a1, a2, a45, a3, a46, hlt, fa25_3, ld23, ld25, hc3, ia23 _ _ _ _ hir, Int.toNat_natCast, hsub, len23, hcall, w2, w3, ex0, ex1]; done))))) ?_)
    | (refine Wc.quiet (by kernel_rfl) (by repeat' (first
      | with_reducible exact QO.nil
      | ((with_reducible apply QO.cons rfl rfl); (focus ((first | simp (config := {decide := true}) only [awant, ayield_get, oper1, aop, opv, opvs, opvo, opvp, abuiltin, Ac.get_put, Ac.put_n, Ac.put_defers, if_true, if_false, and_true, decide_true, abin, isShift, aint, roV, pair, bind, Option.bind, acall, List.nil_append, List.append_nil, List.toList_toArray, List.getElem?_cons_zero, List.getElem?_cons_succ, Bool.not_true, Bool.not_false, nA, a1, a2, a45, a3, a46, hlt, fa25_3, ld23, ld25, hc3, ia23 _ _ _ _ hir, Int.toNat_natCast, hsub, len23, hcall, w2, w3, ex0, ex1] | skip); with_reducible rfl))))) ?_)
    | (refine Wc.cond2 (by simp (config := {decide := true}) only [awant, ayield_get, oper1, aop, opv, opvs, opvo, opvp, abuiltin, Ac.get_put, Ac.put_n, Ac.put_defers, if_true, if_false, and_true, decide_true, abin, isShift, aint, roV, pair, bind, Option.bind, acall, List.nil_append, List.append_nil, List.toList_toArray, List.getElem?_cons_zero, List.getElem?_cons_succ, Bool.not_true, Bool.not_false, nA, a1, a2, a45, a3, a46, hlt, fa25_3, ld23, ld25, hc3, ia23 _ _ _ _ hir, Int.toNat_natCast, hsub, len23, hcall, w2, w3, ex0, ex1]; try with_reducible rfl) (fun hb => ?_) (fun hb => ?_) <;> try contradiction)
    | refine Wc.skip ?_
    | refine Wc.ret ?_
    | refine Wc.exit ?_
    | refine Wc.block ?_)
      · have hm : ¬ ((chkI ks[i] bb (l + 1)).2 = 0) := by
          have hq := (by assumption : (!decide ((chkI ks[i] bb (l + 1)).2 = 0)) = true)
          simpa using hq
        refine ⟨rfl, by simp (config := {decide := true}) only [Ac.get_put, Ac.put_n, Ac.put_defers, if_true, if_false, and_true, nA], by simp (config := {decide := true}) only [Ac.get_put, Ac.put_n, Ac.put_defers, if_true, if_false, and_true, dA], .inr ⟨rfl, ?_, ?_⟩⟩
        · simp (config := {decide := true}) only [Ac.get_put, Ac.put_n, Ac.put_defers, if_true, if_false, and_true, nA]
          rw [hks, chkL, if_pos hm]
        · simp (config := {decide := true}) only [Ac.get_put, Ac.put_n, Ac.put_defers, if_true, if_false, and_true, nA]
          rw [hks, chkL, if_pos hm]
      · have hm : (chkI ks[i] bb (l + 1)).2 = 0 := by
          have hq := (by assumption : (!decide ((chkI ks[i] bb (l + 1)).2 = 0)) = false)
          simpa using hq
        refine (ih (i + 1) (chkI ks[i] bb (l + 1)).1 _ (by omega) (by omega) hkb.1 hkb.2 ll ?_ ?_ ?_ ?_ ?_ ?_ ?_).mono ?_
        · simp (config := {decide := true}) only [Ac.get_put, Ac.put_n, Ac.put_defers, if_true, if_false, and_true, nA]
        · simp (config := {decide := true}) only [Ac.get_put, Ac.put_n, Ac.put_defers, if_true, if_false, and_true, dA]
        · simp (config := {decide := true}) only [Ac.get_put, Ac.put_n, Ac.put_defers, if_true, if_false, and_true, nA]
        · simp (config := {decide := true}) only [Ac.get_put, Ac.put_n, Ac.put_defers, if_true, if_false, and_true, nA, a2]
        · simp (config := {decide := true}) only [Ac.get_put, Ac.put_n, Ac.put_defers, if_true, if_false, and_true, nA, a45]
        · simp (config := {decide := true}) only [Ac.get_put, Ac.put_n, Ac.put_defers, if_true, if_false, and_true, nA, a3]
        · simp (config := {decide := true}) only [Ac.get_put, Ac.put_n, Ac.put_defers, if_true, if_false, and_true, nA]
          rfl
        · have e0 : chkL (ks.drop i) bb (l + 1) = chkL (ks.drop (i + 1)) (chkI ks[i] bb (l + 1)).1 (l + 1) := by
            rw [hks, chkL, if_neg (fun hh => hh hm)]
          rw [e0]
          rintro ex A' h' ⟨rfl, e1, e2, ⟨rfl, e3, e4⟩ | ⟨rfl, e3, e4⟩⟩
          · exact ⟨rfl, e1, e2, .inl ⟨rfl, e3, e4⟩⟩
          · exact ⟨rfl, e1, e2, .inr ⟨rfl, e3, e4⟩⟩
  repeat' (first
    | (with_reducible apply Wc.seq)
    | (refine Wc.ops (by repeat' (first
      | with_reducible exact RO.nil
      | ((with_reducible apply RO.run (awant_none rfl)); (focus ((first | simp (config := {decide := true}) only [awant, ayield_get, oper1, aop, opv, opvs, opvo, opvp, abuiltin, Ac.get_put, Ac.put_n, Ac.put_defers, if_true, if_false, and_true, decide_true, abin, isShift, aint, roV, pair, bind, Option.bind, acall, List.nil_append, List.append_nil, List.toList_toArray, List.getElem?_cons_zero, List.getElem?_cons_succ, Bool.not_true, Bool.not_false, n0, g00, g01, g02, hfn] | skip); with_reducible rfl)))
      | ((with_reducible apply RO.runG); (focus rfl); (focus rfl); (focus (simp (config := {decide := true}) only [awant, ayield_get, oper1, aop, opv, opvs, opvo, opvp, abuiltin, Ac.get_put, Ac.put_n, Ac.put_defers, if_true, if_false, and_true, decide_true, abin, isShift, aint, roV, pair, bind, Option.bind, acall, List.nil_append, List.append_nil, List.toList_toArray, List.getElem?_cons_zero, List.getElem?_cons_succ, Bool.not_true, Bool.not_false, n0, g00, g01, g02, hfn]; done)); (focus ((first | simp (config := {decide := true}) only [awant, ayield_get, oper1, aop, opv, opvs, opvo, opvp, abuiltin, Ac.get_put, Ac.put_n, Ac.put_defers, if_true, if_false, and_true, decide_true, abin, isShift, aint, roV, pair, bind, Option.bind, acall, List.nil_append, List.append_nil, List.toList_toArray, List.getElem?_cons_zero, List.getElem?_cons_succ, Bool.not_true, Bool.not_false, n0, g00, g01, g02, hfn] | skip); with_reducible rfl)))
      | ((with_reducible apply RO.skipG); (focus rfl); (focus rfl); (focus (simp (config := {decide := true}) only [awant, ayield_get, oper1, aop, opv, opvs, opvo, opvp, abuiltin, Ac.get_put, Ac.put_n, Ac.put_defers, if_true, if_false, and_true, decide_true, abin, isShift, aint, roV, pair, bind, Option.bind, acall, List.nil_append, List.append_nil, List.toList_toArray, List.getElem?_cons_zero, List.getElem?_cons_succ, Bool.not_true, Bool.not_false, n0, g00, g01, g02, hfn]; done))))) ?_)
    | (refine Wc.quiet (by kernel_rfl) (by repeat' (first
      | with_reducible exact QO.nil
      | ((with_reducible apply QO.cons rfl rfl); (focus ((first | simp (config := {decide := true}) only [awant, ayield_get, oper1, aop, opv, opvs, opvo, opvp, abuiltin, Ac.get_put, Ac.put_n, Ac.put_defers, if_true, if_false, and_true, decide_true, abin, isShift, aint, roV, pair, bind, Option.bind, acall, List.nil_append, List.append_nil, List.toList_toArray, List.getElem?_cons_zero, List.getElem?_cons_succ, Bool.not_true, Bool.not_false, n0, g00, g01, g02, hfn] | skip); with_reducible rfl))))) ?_)
    | (refine Wc.cond2 (by simp (config := {decide := true}) only [awant, ayield_get, oper1, aop, opv, opvs, opvo, opvp, abuiltin, Ac.get_put, Ac.put_n, Ac.put_defers, if_true, if_false, and_true, decide_true, abin, isShift, aint, roV, pair, bind, Option.bind, acall, List.nil_append, List.append_nil, List.toList_toArray, List.getElem?_cons_zero, List.getElem?_cons_succ, Bool.not_true, Bool.not_false, n0, g00, g01, g02, hfn]; try with_reducible rfl) (fun hb => ?_) (fun hb => ?_) <;> try contradiction)
    | refine Wc.skip ?_
    | refine Wc.ret ?_
    | refine Wc.exit ?_
    | refine Wc.block ?_)
  · have hq := of_decide_eq_true (by assumption : decide (l > 250) = true)
    refine done_tmp2 (.inr rfl) (by simp (config := {decide := true}) only [Ac.get_put, Ac.put_n, Ac.put_defers, if_true, if_false, and_true, d0]) rfl ?_ ?_ hl1
    · simp (config := {decide := true}) only [Ac.get_put, Ac.put_n, Ac.put_defers, if_true, if_false, and_true, n0, g01]
      rw [chkI, if_pos hq]
    · simp (config := {decide := true}) only [Ac.get_put, Ac.put_n, Ac.put_defers, if_true, if_false, and_true, n0]
      rw [chkI, if_pos hq]
  · have hq := of_decide_eq_false (by assumption : decide (l > 250) = false)
    have hq2 := of_decide_eq_true (by assumption : decide (b ≥ 5000) = true)
    refine done_tmp2 (.inr rfl) (by simp (config := {decide := true}) only [Ac.get_put, Ac.put_n, Ac.put_defers, if_true, if_false, and_true, d0]) rfl ?_ ?_ hl1
    · simp (config := {decide := true}) only [Ac.get_put, Ac.put_n, Ac.put_defers, if_true, if_false, and_true, n0, g01]
      rw [chkI, if_neg hq, if_pos hq2]
    · simp (config := {decide := true}) only [Ac.get_put, Ac.put_n, Ac.put_defers, if_true, if_false, and_true, n0]
      rw [chkI, if_neg hq, if_pos hq2]
  · have hq := of_decide_eq_false (by assumption : decide (l > 250) = false)
    have hq2 := of_decide_eq_false (by assumption : decide (b ≥ 5000) = false)
    have w1 : IntKind.i64.wrap (b + 1) = b + 1 := wrap64 (by omega) (by omega)
    refine Wc.forget (fun A => A.n = 68 ∧ A.defers = [] ∧ A.get 1 = .int .i64 b ∧ A.get 2 = .int .i64 l ∧ A.get 3 = .pointer (some (own h.next))) ⟨by simp (config := {decide := true}) only [Ac.get_put, Ac.put_n, Ac.put_defers, if_true, if_false, and_true, n0], by simp (config := {decide := true}) only [Ac.get_put, Ac.put_n, Ac.put_defers, if_true, if_false, and_true, d0], by simp (config := {decide := true}) only [Ac.get_put, Ac.put_n, Ac.put_defers, if_true, if_false, and_true, n0, g01], by simp (config := {decide := true}) only [Ac.get_put, Ac.put_n, Ac.put_defers, if_true, if_false, and_true, n0, g02], by simp (config := {decide := true}) only [Ac.get_put, Ac.put_n, Ac.put_defers, if_true, if_false, and_true, n0, hfn]⟩ ?_
    clear hA0 n0 g00 g01 g02 d0
    rintro A0 ⟨n0, d0, g01, g02, g03⟩
    have badF : (k < 1 ∨ k > 63 ∨ m < 0 ∨ m > 1099511627776) → chkI (.mk k m tx ks) b l = (b, 3) := fun hh => by rw [chkI, if_neg hq, if_neg hq2, if_pos hh]
    by_cases q1 : k < 1
    · have hbad := badF (.inl q1)
      have e1 := decide_eq_true q1
      repeat' (first
    | (with_reducible apply Wc.seq)
    | (refine Wc.ops (by repeat' (first
      | with_reducible exact RO.nil
      | ((with_reducible apply RO.run (awant_none rfl)); (focus ((first | simp (config := {decide := true}) only [awant, ayield_get, oper1, aop, opv, opvs, opvo, opvp, abuiltin, Ac.get_put, Ac.put_n, Ac.put_defers, if_true, if_false, and_true, decide_true, abin, isShift, aint, roV, pair, bind, Option.bind, acall, List.nil_append, List.append_nil, List.toList_toArray, List.getElem?_cons_zero, List.getElem?_cons_succ, Bool.not_true, Bool.not_false, n0, g01, g02, g03, hc0, hc1, hc2, hc3, fa25_0, fa25_1, fa25_2, fa25_3, ld3, ld9, ld23, len9, len23, w1, e1] | skip); with_reducible rfl)))
      | ((with_reducible apply RO.runG); (focus rfl); (focus rfl); (focus (simp (config := {decide := true}) only [awant, ayield_get, oper1, aop, opv, opvs, opvo, opvp, abuiltin, Ac.get_put, Ac.put_n, Ac.put_defers, if_true, if_false, and_true, decide_true, abin, isShift, aint, roV, pair, bind, Option.bind, acall, List.nil_append, List.append_nil, List.toList_toArray, List.getElem?_cons_zero, List.getElem?_cons_succ, Bool.not_true, Bool.not_false, n0, g01, g02, g03, hc0, hc1, hc2, hc3, fa25_0, fa25_1, fa25_2, fa25_3, ld3, ld9, ld23, len9, len23, w1, e1]; done)); (focus ((first | simp (config := {decide := true}) only [awant, ayield_get, oper1, aop, opv, opvs, opvo, opvp, abuiltin, Ac.get_put, Ac.put_n, Ac.put_defers, if_true, if_false, and_true, decide_true, abin, isShift, aint, roV, pair, bind, Option.bind, acall, List.nil_append, List.append_nil, List.toList_toArray, List.getElem?_cons_zero, List.getElem?_cons_succ, Bool.not_true, Bool.not_false, n0, g01, g02, g03, hc0, hc1, hc2, hc3, fa25_0, fa25_1, fa25_2, fa25_3, ld3, ld9, ld23, len9, len23, w1, e1] | skip); with_reducible rfl)))
      | ((with_reducible apply RO.skipG); (focus rfl); (focus rfl); (focus (simp (config := {decide := true}) only [awant, ayield_get, oper1, aop, opv, opvs, opvo, opvp, abuiltin, Ac.get_put, Ac.put_n, Ac.put_defers, if_true, if_false, and_true, decide_true, abin, isShift, aint, roV, pair, bind, Option.bind, acall, List.nil_append, List.append_nil, List.toList_toArray, List.getElem?_cons_zero, List.getElem?_cons_succ, Bool.not_true, Bool.not_false, n0, g01, g02, g03, hc0, hc1, hc2, hc3, fa25_0, fa25_1, fa25_2, fa25_3, ld3, ld9, ld23, len9, len23, w1, e1]; done))))) ?_)
    | (refine Wc.quiet (by kernel_rfl) (by repeat' (first
      | with_reducible exact QO.nil
      | ((with_reducible apply QO.cons rfl rfl); (focus ((first | simp (config := {decide := true}) only [awant, ayield_get, oper1, aop, opv, opvs, opvo, opvp, abuiltin, Ac.get_put, Ac.put_n, Ac.put_defers, if_true, if_false, and_true, decide_true, abin, isShift, aint, roV, pair, bind, Option.bind, acall, List.nil_append, List.append_nil, List.toList_toArray, List.getElem?_cons_zero, List.getElem?_cons_succ, Bool.not_true, Bool.not_false, n0, g01, g02, g03, hc0, hc1, hc2, hc3, fa25_0, fa25_1, fa25_2, fa25_3, ld3, ld9, ld23, len9, len23, w1, e1] | skip); with_reducible rfl))))) ?_)
    | (refine Wc.cond2 (by simp (config := {decide := true}) only [awant, ayield_get, oper1, aop, opv, opvs, opvo, opvp, abuiltin, Ac.get_put, Ac.put_n, Ac.put_defers, if_true, if_false, and_true, decide_true, abin, isShift, aint, roV, pair, bind, Option.bind, acall, List.nil_append, List.append_nil, List.toList_toArray, List.getElem?_cons_zero, List.getElem?_cons_succ, Bool.not_true, Bool.not_false, n0, g01, g02, g03, hc0, hc1, hc2, hc3, fa25_0, fa25_1, fa25_2, fa25_3, ld3, ld9, ld23, len9, len23, w1, e1]; try with_reducible rfl) (fun hb => ?_) (fun hb => ?_) <;> try contradiction)
    | refine Wc.skip ?_
    | refine Wc.ret ?_
    | refine Wc.exit ?_
    | refine Wc.block ?_)
      · refine done_tmp2 (.inr rfl) (by simp (config := {decide := true}) only [Ac.get_put, Ac.put_n, Ac.put_defers, if_true, if_false, and_true, d0]) rfl ?_ ?_ hl1
        · simp (config := {decide := true}) only [Ac.get_put, Ac.put_n, Ac.put_defers, if_true, if_false, and_true, n0, g01]
          rw [hbad]
        · simp (config := {decide := true}) only [Ac.get_put, Ac.put_n, Ac.put_defers, if_true, if_false, and_true, n0]
          rw [hbad]
    have e1 := decide_eq_false q1
    by_cases q2 : k > 63
    · have hbad := badF (.inr (.inl q2))
      have e2 := decide_eq_true q2
      repeat' (first
    | (with_reducible apply Wc.seq)
    | (refine Wc.ops (by repeat' (first
      | with_reducible exact RO.nil
      | ((with_reducible apply RO.run (awant_none rfl)); (focus ((first | simp (config := {decide := true}) only [awant, ayield_get, oper1, aop, opv, opvs, opvo, opvp, abuiltin, Ac.get_put, Ac.put_n, Ac.put_defers, if_true, if_false, and_true, decide_true, abin, isShift, aint, roV, pair, bind, Option.bind, acall, List.nil_append, List.append_nil, List.toList_toArray, List.getElem?_cons_zero, List.getElem?_cons_succ, Bool.not_true, Bool.not_false, n0, g01, g02, g03, hc0, hc1, hc2, hc3, fa25_0, fa25_1, fa25_2, fa25_3, ld3, ld9, ld23, len9, len23, w1, e1, e2] | skip); with_reducible rfl)))
      | ((with_reducible apply RO.runG); (focus rfl); (focus rfl); (focus (simp (config := {decide := true}) only [awant, ayield_get, oper1, aop, opv, opvs, opvo, opvp, abuiltin, Ac.get_put, Ac.put_n, Ac.put_defers, if_true, if_false, and_true, decide_true, abin, isShift, aint, roV, pair, bind, Option.bind, acall, List.nil_append, List.append_nil, List.toList_toArray, List.getElem?_cons_zero, List.getElem?_cons_succ, Bool.not_true, Bool.not_false, n0, g01, g02, g03, hc0, hc1, hc2, hc3, fa25_0, fa25_1, fa25_2, fa25_3, ld3, ld9, ld23, len9, len23, w1, e1, e2]; done)); (focus ((first | simp (config := {decide := true}) only [awant, ayield_get, oper1, aop, opv, opvs, opvo, opvp, abuiltin, Ac.get_put, Ac.put_n, Ac.put_defers, if_true, if_false, and_true, decide_true, abin, isShift, aint, roV, pair, bind, Option.bind, acall, List.nil_append, List.append_nil, List.toList_toArray, List.getElem?_cons_zero, List.getElem?_cons_succ, Bool.not_true, Bool.not_false, n0, g01, g02, g03, hc0, hc1, hc2, hc3, fa25_0, fa25_1, fa25_2, fa25_3, ld3, ld9, ld23, len9, len23, w1, e1, e2] | skip); with_reducible rfl)))
      | ((with_reducible apply RO.skipG); (focus rfl); (focus rfl); (focus (simp (config := {decide := true}) only [awant, ayield_get, oper1, aop, opv, opvs, opvo, opvp, abuiltin, Ac.get_put, Ac.put_n, Ac.put_defers, if_true, if_false, and_true, decide_true, abin, isShift, aint, roV, pair, bind, Option.bind, acall, List.nil_append, List.append_nil, List.toList_toArray, List.getElem?_cons_zero, List.getElem?_cons_succ, Bool.not_true, Bool.not_false, n0, g01, g02, g03, hc0, hc1, hc2, hc3, fa25_0, fa25_1, fa25_2, fa25_3, ld3, ld9, ld23, len9, len23, w1, e1, e2]; done))))) ?_)
    | (refine Wc.quiet (by kernel_rfl) (by repeat' (first
      | with_reducible exact QO.nil
      | ((with_reducible apply QO.cons rfl rfl); (focus ((first | simp (config := {decide := true}) only [awant, ayield_get, oper1, aop, opv, opvs, opvo, opvp, abuiltin, Ac.get_put, Ac.put_n, Ac.put_defers, if_true, if_false, and_true, decide_true, abin, isShift, aint, roV, pair, bind, Option.bind, acall, List.nil_append, List.append_nil, List.toList_toArray, List.getElem?_cons_zero, List.getElem?_cons_succ, Bool.not_true, Bool.not_false, n0, g01, g02, g03, hc0, hc1, hc2, hc3, fa25_0, fa25_1, fa25_2, fa25_3, ld3, ld9, ld23, len9, len23, w1, e1, e2] | skip); with_reducible rfl))))) ?_)
    | (refine Wc.cond2 (by simp (config := {decide := true}) only [awant, ayield_get, oper1, aop, opv, opvs, opvo, opvp, abuiltin, Ac.get_put, Ac.put_n, Ac.put_defers, if_true, if_false, and_true, decide_true, abin, isShift, aint, roV, pair, bind, Option.bind, acall, List.nil_append, List.append_nil, List.toList_toArray, List.getElem?_cons_zero, List.getElem?_cons_succ, Bool.not_true, Bool.not_false, n0, g01, g02, g03, hc0, hc1, hc2, hc3, fa25_0, fa25_1, fa25_2, fa25_3, ld3, ld9, ld23, len9, len23, w1, e1, e2]; try with_reducible rfl) (fun hb => ?_) (fun hb => ?_) <;> try contradiction)
    | refine Wc.skip ?_
    | refine Wc.ret ?_
    | refine Wc.exit ?_
    | refine Wc.block ?_)
      · refine done_tmp2 (.inr rfl) (by simp (config := {decide := true}) only [Ac.get_put, Ac.put_n, Ac.put_defers, if_true, if_false, and_true, d0]) rfl ?_ ?_ hl1
        · simp (config := {decide := true}) only [Ac.get_put, Ac.put_n, Ac.put_defers, if_true, if_false, and_true, n0, g01]
          rw [hbad]
        · simp (config := {decide := true}) only [Ac.get_put, Ac.put_n, Ac.put_defers, if_true, if_false, and_true, n0]
          rw [hbad]
    have e2 := decide_eq_false q2
    by_cases q3 : m < 0
    · have hbad := badF (.inr (.inr (.inl q3)))
      have e3 := decide_eq_true q3
      repeat' (first
    | (with_reducible apply Wc.seq)
    | (refine Wc.ops (by repeat' (first
      | with_reducible exact RO.nil
      | ((with_reducible apply RO.run (awant_none rfl)); (focus ((first | simp (config := {decide := true}) only [awant, ayield_get, oper1, aop, opv, opvs, opvo, opvp, abuiltin, Ac.get_put, Ac.put_n, Ac.put_defers, if_true, if_false, and_true, decide_true, abin, isShift, aint, roV, pair, bind, Option.bind, acall, List.nil_append, List.append_nil, List.toList_toArray, List.getElem?_cons_zero, List.getElem?_cons_succ, Bool.not_true, Bool.not_false, n0, g01, g02, g03, hc0, hc1, hc2, hc3, fa25_0, fa25_1, fa25_2, fa25_3, ld3, ld9, ld23, len9, len23, w1, e1, e2, e3] | skip); with_reducible rfl)))
      | ((with_reducible apply RO.runG); (focus rfl); (focus rfl); (focus (simp (config := {decide := true}) only [awant, ayield_get, oper1, aop, opv, opvs, opvo, opvp, abuiltin, Ac.get_put, Ac.put_n, Ac.put_defers, if_true, if_false, and_true, decide_true, abin, isShift, aint, roV, pair, bind, Option.bind, acall, List.nil_append, List.append_nil, List.toList_toArray, List.getElem?_cons_zero, List.getElem?_cons_succ, Bool.not_true, Bool.not_false, n0, g01, g02, g03, hc0, hc1, hc2, hc3, fa25_0, fa25_1, fa25_2, fa25_3, ld3, ld9, ld23, len9, len23, w1, e1, e2, e3]; done)); (focus ((first | simp (config := {decide := true}) only [awant, ayield_get, oper1, aop, opv, opvs, opvo, opvp, abuiltin, Ac.get_put, Ac.put_n, Ac.put_defers, if_true, if_false, and_true, decide_true, abin, isShift, aint, roV, pair, bind, Option.bind, acall, List.nil_append, List.append_nil, List.toList_toArray, List.getElem?_cons_zero, List.getElem?_cons_succ, Bool.not_true, Bool.not_false, n0, g01, g02, g03, hc0, hc1, hc2, hc3, fa25_0, fa25_1, fa25_2, fa25_3, ld3, ld9, ld23, len9, len23, w1, e1, e2, e3] | skip); with_reducible rfl)))
      | ((with_reducible apply RO.skipG); (focus rfl); (focus rfl); (focus (simp (config := {decide := true}) only [awant, ayield_get, oper1, aop, opv, opvs, opvo, opvp, abuiltin, Ac.get_put, Ac.put_n, Ac.put_defers, if_true, if_false, and_true, decide_true, abin, isShift, aint, roV, pair, bind, Option.bind, acall, List.nil_append, List.append_nil, List.toList_toArray, List.getElem?_cons_zero, List.getElem?_cons_succ, Bool.not_true, Bool.not_false, n0, g01, g02, g03, hc0, hc1, hc2, hc3, fa25_0, fa25_1, fa25_2, fa25_3, ld3, ld9, ld23, len9, len23, w1, e1, e2, e3]; done))))) ?_)
    | (refine Wc.quiet (by kernel_rfl) (by repeat' (first
      | with_reducible exact QO.nil
      | ((with_reducible apply QO.cons rfl rfl); (focus ((first | simp (config := {decide := true}) only [awant, ayield_get, oper1, aop, opv, opvs, opvo, opvp, abuiltin, Ac.get_put, Ac.put_n, Ac.put_defers, if_true, if_false, and_true, decide_true, abin, isShift, aint, roV, pair, bind, Option.bind, acall, List.nil_append, List.append_nil, List.toList_toArray, List.getElem?_cons_zero, List.getElem?_cons_succ, Bool.not_true, Bool.not_false, n0, g01, g02, g03, hc0, hc1, hc2, hc3, fa25_0, fa25_1, fa25_2, fa25_3, ld3, ld9, ld23, len9, len23, w1, e1, e2, e3] | skip); with_reducible rfl))))) ?_)
    | (refine Wc.cond2 (by simp (config := {decide := true}) only [awant, ayield_get, oper1, aop, opv, opvs, opvo, opvp, abuiltin, Ac.get_put, Ac.put_n, Ac.put_defers, if_true, if_false, and_true, decide_true, abin, isShift, aint, roV, pair, bind, Option.bind, acall, List.nil_append, List.append_nil, List.toList_toArray, List.getElem?_cons_zero, List.getElem?_cons_succ, Bool.not_true, Bool.not_false, n0, g01, g02, g03, hc0, hc1, hc2, hc3, fa25_0, fa25_1, fa25_2, fa25_3, ld3, ld9, ld23, len9, len23, w1, e1, e2, e3]; try with_reducible rfl) (fun hb => ?_) (fun hb => ?_) <;> try contradiction)
    | refine Wc.skip ?_
    | refine Wc.ret ?_
    | refine Wc.exit ?_
    | refine Wc.block ?_)
      · refine done_tmp2 (.inr rfl) (by simp (config := {decide := true}) only [Ac.get_put, Ac.put_n, Ac.put_defers, if_true, if_false, and_true, d0]) rfl ?_ ?_ hl1
        · simp (config := {decide := true}) only [Ac.get_put, Ac.put_n, Ac.put_defers, if_true, if_false, and_true, n0, g01]
          rw [hbad]
        · simp (config := {decide := true}) only [Ac.get_put, Ac.put_n, Ac.put_defers, if_true, if_false, and_true, n0]
          rw [hbad]
    have e3 := decide_eq_false q3
    by_cases q4 : m > 1099511627776
    · have hbad := badF (.inr (.inr (.inr q4)))
      have e4 := decide_eq_true q4
      repeat' (first
    | (with_reducible apply Wc.seq)
    | (refine Wc.ops (by repeat' (first
      | with_reducible exact RO.nil
      | ((with_reducible apply RO.run (awant_none rfl)); (focus ((first | simp (config := {decide := true}) only [awant, ayield_get, oper1, aop, opv, opvs, opvo, opvp, abuiltin, Ac.get_put, Ac.put_n, Ac.put_defers, if_true, if_false, and_true, decide_true, abin, isShift, aint, roV, pair, bind, Option.bind, acall, List.nil_append, List.append_nil, List.toList_toArray, List.getElem?_cons_zero, List.getElem?_cons_succ, Bool.not_true, Bool.not_false, n0, g01, g02, g03, hc0, hc1, hc2, hc3, fa25_0, fa25_1, fa25_2, fa25_3, ld3, ld9, ld23, len9, len23, w1, e1, e2, e3, e4] | skip); with_reducible rfl)))
      | ((with_reducible apply RO.runG); (focus rfl); (focus rfl); (focus (simp (config := {decide := true}) only [awant, ayield_get, oper1, aop, opv, opvs, opvo, opvp, abuiltin, Ac.get_put, Ac.put_n, Ac.put_defers, if_true, if_false, and_true, decide_true, abin, isShift, aint, roV, pair, bind, Option.bind, acall, List.nil_append, List.append_nil, List.toList_toArray, List.getElem?_cons_zero, List.getElem?_cons_succ, Bool.not_true, Bool.not_false, n0, g01, g02, g03, hc0, hc1, hc2, hc3, fa25_0, fa25_1, fa25_2, fa25_3, ld3, ld9, ld23, len9, len23, w1, e1, e2, e3, e4]; done)); (focus ((first | simp (config := {decide := true}) only [awant, ayield_get, oper1, aop, opv, opvs, opvo, opvp, abuiltin, Ac.get_put, Ac.put_n, Ac.put_defers, if_true, if_false, and_true, decide_true, abin, isShift, aint, roV, pair, bind, Option.bind, acall, List.nil_append, List.append_nil, List.toList_toArray, List.getElem?_cons_zero, List.getElem?_cons_succ, Bool.not_true, Bool.not_false, n0, g01, g02, g03, hc0, hc1, hc2, hc3, fa25_0, fa25_1, fa25_2, fa25_3, ld3, ld9, ld23, len9, len23, w1, e1, e2, e3, e4] | skip); with_reducible rfl)))
      | ((with_reducible apply RO.skipG); (focus rfl); (focus rfl); (focus (simp (config := {decide := true}) only [awant, ayield_get, oper1, aop, opv, opvs, opvo, opvp, abuiltin, Ac.get_put, Ac.put_n, Ac.put_defers, if_true, if_false, and_true, decide_true, abin, isShift, aint, roV, pair, bind, Option.bind, acall, List.nil_append, List.append_nil, List.toList_toArray, List.getElem?_cons_zero, List.getElem?_cons_succ, Bool.not_true, Bool.not_false, n0, g01, g02, g03, hc0, hc1, hc2, hc3, fa25_0, fa25_1, fa25_2, fa25_3, ld3, ld9, ld23, len9, len23, w1, e1, e2, e3, e4]; done))))) ?_)
    | (refine Wc.quiet (by kernel_rfl) (by repeat' (first
      | with_reducible exact QO.nil
      | ((with_reducible apply QO.cons rfl rfl); (focus ((first | simp (config := {decide := true}) only [awant, ayield_get, oper1, aop, opv, opvs, opvo, opvp, abuiltin, Ac.get_put, Ac.put_n, Ac.put_defers, if_true, if_false, and_true, decide_true, abin, isShift, aint, roV, pair, bind, Option.bind, acall, List.nil_append, List.append_nil, List.toList_toArray, List.getElem?_cons_zero, List.getElem?_cons_succ, Bool.not_true, Bool.not_false, n0, g01, g02, g03, hc0, hc1, hc2, hc3, fa25_0, fa25_1, fa25_2, fa25_3, ld3, ld9, ld23, len9, len23, w1, e1, e2, e3, e4] | skip); with_reducible rfl))))) ?_)
    | (refine Wc.cond2 (by simp (config := {decide := true}) only [awant, ayield_get, oper1, aop, opv, opvs, opvo, opvp, abuiltin, Ac.get_put, Ac.put_n, Ac.put_defers, if_true, if_false, and_true, decide_true, abin, isShift, aint, roV, pair, bind, Option.bind, acall, List.nil_append, List.append_nil, List.toList_toArray, List.getElem?_cons_zero, List.getElem?_cons_succ, Bool.not_true, Bool.not_false, n0, g01, g02, g03, hc0, hc1, hc2, hc3, fa25_0, fa25_1, fa25_2, fa25_3, ld3, ld9, ld23, len9, len23, w1, e1, e2, e3, e4]; try with_reducible rfl) (fun hb => ?_) (fun hb => ?_) <;> try contradiction)
    | refine Wc.skip ?_
    | refine Wc.ret ?_
    | refine Wc.exit ?_
    | refine Wc.block ?_)
      · refine done_tmp2 (.inr rfl) (by simp (config := {decide := true}) only [Ac.get_put, Ac.put_n, Ac.put_defers, if_true, if_false, and_true, d0]) rfl ?_ ?_ hl1
        · simp (config := {decide := true}) only [Ac.get_put, Ac.put_n, Ac.put_defers, if_true, if_false, and_true, n0, g01]
          rw [hbad]
        · simp (config := {decide := true}) only [Ac.get_put, Ac.put_n, Ac.put_defers, if_true, if_false, and_true, n0]
          rw [hbad]
    have e4 := decide_eq_false q4
    have hgood : ¬ (k < 1 ∨ k > 63 ∨ m < 0 ∨ m > 1099511627776) := by
      rintro (h | h | h | h)
      · exact q1 h
      · exact q2 h
      · exact q3 h
      · exact q4 h
    repeat' (first
    | (with_reducible apply Wc.seq)
    | (refine Wc.ops (by repeat' (first
      | with_reducible exact RO.nil
      | ((with_reducible apply RO.run (awant_none rfl)); (focus ((first | simp (config := {decide := true}) only [awant, ayield_get, oper1, aop, opv, opvs, opvo, opvp, abuiltin, Ac.get_put, Ac.put_n, Ac.put_defers, if_true, if_false, and_true, decide_true, abin, isShift, aint, roV, pair, bind, Option.bind, acall, List.nil_append, List.append_nil, List.toList_toArray, List.getElem?_cons_zero, List.getElem?_cons_succ, Bool.not_true, Bool.not_false, n0, g01, g02, g03, hc0, hc1, hc2, hc3, fa25_0, fa25_1, fa25_2, fa25_3, ld3, ld9, ld23, len9, len23, w1, e1, e2, e3, e4] | skip); with_reducible rfl)))
      | ((with_reducible apply RO.runG); (focus rfl); (focus rfl); (focus (simp (config := {decide := true}) only [awant, ayield_get, oper1, aop, opv, opvs, opvo, opvp, abuiltin, Ac.get_put, Ac.put_n, Ac.put_defers, if_true, if_false, and_true, decide_true, abin, isShift, aint, roV, pair, bind, Option.bind, acall, List.nil_append, List.append_nil, List.toList_toArray, List.getElem?_cons_zero, List.getElem?_cons_succ, Bool.not_true, Bool.not_false, n0, g01, g02, g03, hc0, hc1, hc2, hc3, fa25_0, fa25_1, fa25_2, fa25_3, ld3, ld9, ld23, len9, len23, w1, e1, e2, e3, e4]; done)); (focus ((first | simp (config := {decide := true}) only [awant, ayield_get, oper1, aop, opv, opvs, opvo, opvp, abuiltin, Ac.get_put, Ac.put_n, Ac.put_defers, if_true, if_false, and_true, decide_true, abin, isShift, aint, roV, pair, bind, Option.bind, acall, List.nil_append, List.append_nil, List.toList_toArray, List.getElem?_cons_zero, List.getElem?_cons_succ, Bool.not_true, Bool.not_false, n0, g01, g02, g03, hc0, hc1, hc2, hc3, fa25_0, fa25_1, fa25_2, fa25_3, ld3, ld9, ld23, len9, len23, w1, e1, e2, e3, e4] | skip); with_reducible rfl)))
      | ((with_reducible apply RO.skipG); (focus rfl); (focus rfl); (focus (simp (config := {decide := true}) only [awant, ayield_get, oper1, aop, opv, opvs, opvo, opvp, abuiltin, Ac.get_put, Ac.put_n, Ac.put_defers, if_true, if_false, and_true, decide_true, abin, isShift, aint, roV, pair, bind, Option.bind, acall, List.nil_append, List.append_nil, List.toList_toArray, List.getElem?_cons_zero, List.getElem?_cons_succ, Bool.not_true, Bool.not_false, n0, g01, g02, g03, hc0, hc1, hc2, hc3, fa25_0, fa25_1, fa25_2, fa25_3, ld3, ld9, ld23, len9, len23, w1, e1, e2, e3, e4]; done))))) ?_)
    | (refine Wc.quiet (by kernel_rfl) (by repeat' (first
      | with_reducible exact QO.nil
      | ((with_reducible apply QO.cons rfl rfl); (focus ((first | simp (config := {decide := true}) only [awant, ayield_get, oper1, aop, opv, opvs, opvo, opvp, abuiltin, Ac.get_put, Ac.put_n, Ac.put_defers, if_true, if_false, and_true, decide_true, abin, isShift, aint, roV, pair, bind, Option.bind, acall, List.nil_append, List.append_nil, List.toList_toArray, List.getElem?_cons_zero, List.getElem?_cons_succ, Bool.not_true, Bool.not_false, n0, g01, g02, g03, hc0, hc1, hc2, hc3, fa25_0, fa25_1, fa25_2, fa25_3, ld3, ld9, ld23, len9, len23, w1, e1, e2, e3, e4] | skip); with_reducible rfl))))) ?_)
    | (refine Wc.cond2 (by simp (config := {decide := true}) only [awant, ayield_get, oper1, aop, opv, opvs, opvo, opvp, abuiltin, Ac.get_put, Ac.put_n, Ac.put_defers, if_true, if_false, and_true, decide_true, abin, isShift, aint, roV, pair, bind, Option.bind, acall, List.nil_append, List.append_nil, List.toList_toArray, List.getElem?_cons_zero, List.getElem?_cons_succ, Bool.not_true, Bool.not_false, n0, g01, g02, g03, hc0, hc1, hc2, hc3, fa25_0, fa25_1, fa25_2, fa25_3, ld3, ld9, ld23, len9, len23, w1, e1, e2, e3, e4]; try with_reducible rfl) (fun hb => ?_) (fun hb => ?_) <;> try contradiction)
    | refine Wc.skip ?_
    | refine Wc.ret ?_
    | refine Wc.exit ?_
    | refine Wc.block ?_)
    · have hq5 := of_decide_eq_true (by assumption : decide (((tx.data.toList.length : Nat) : Int) > 4096) = true)
      refine done_tmp2 (.inr rfl) (by simp (config := {decide := true}) only [Ac.get_put, Ac.put_n, Ac.put_defers, if_true, if_false, and_true, d0]) rfl ?_ ?_ hl1
      · simp (config := {decide := true}) only [Ac.get_put, Ac.put_n, Ac.put_defers, if_true, if_false, and_true, n0, g01]
        rw [chkI, if_neg hq, if_neg hq2, if_neg hgood, if_pos hq5]
      · simp (config := {decide := true}) only [Ac.get_put, Ac.put_n, Ac.put_defers, if_true, if_false, and_true, n0]
        rw [chkI, if_neg hq, if_neg hq2, if_neg hgood, if_pos hq5]
    · have hq5 := of_decide_eq_false (by assumption : decide (((tx.data.toList.length : Nat) : Int) > 4096) = false)
      have e0 : chkI (.mk k m tx ks) b l = chkL ks (b + 1) (l + 1) := by rw [chkI, if_neg hq, if_neg hq2, if_neg hgood, if_neg hq5]
      refine (key ks.length 0 (b + 1) _ rfl (Nat.zero_le _) (by omega) (by omega) (by omega) ?_ ?_ ?_ ?_ ?_ ?_ ?_).mono ?_
      · simp (config := {decide := true}) only [Ac.get_put, Ac.put_n, Ac.put_defers, if_true, if_false, and_true, n0]
      · simp (config := {decide := true}) only [Ac.get_put, Ac.put_n, Ac.put_defers, if_true, if_false, and_true, d0]
      · simp (config := {decide := true}) only [Ac.get_put, Ac.put_n, Ac.put_defers, if_true, if_false, and_true, n0]
      · simp (config := {decide := true}) only [Ac.get_put, Ac.put_n, Ac.put_defers, if_true, if_false, and_true, n0, g02]
      · simp (config := {decide := true}) only [Ac.get_put, Ac.put_n, Ac.put_defers, if_true, if_false, and_true, n0]
      · simp (config := {decide := true}) only [Ac.get_put, Ac.put_n, Ac.put_defers, if_true, if_false, and_true, n0, g03]
      · simp (config := {decide := true}) only [Ac.get_put, Ac.put_n, Ac.put_defers, if_true, if_false, and_true, n0]
        rfl
      · rw [List.drop_zero, ← e0]
        rintro ex A' h' ⟨rfl, e1, e2, ⟨rfl, e3, e4⟩ | ⟨rfl, e3, e4⟩⟩
        · simp only [if_true]
          repeat' (first
    | (with_reducible apply Wc.seq)
    | (refine Wc.ops (by repeat' (first
      | with_reducible exact RO.nil
      | ((with_reducible apply RO.run (awant_none rfl)); (focus ((first | simp (config := {decide := true}) only [awant, ayield_get, oper1, aop, opv, opvs, opvo, opvp, abuiltin, Ac.get_put, Ac.put_n, Ac.put_defers, if_true, if_false, and_true, decide_true, abin, isShift, aint, roV, pair, bind, Option.bind, acall, List.nil_append, List.append_nil, List.toList_toArray, List.getElem?_cons_zero, List.getElem?_cons_succ, Bool.not_true, Bool.not_false, e1, e4] | skip); with_reducible rfl)))
      | ((with_reducible apply RO.runG); (focus rfl); (focus rfl); (focus (simp (config := {decide := true}) only [awant, ayield_get, oper1, aop, opv, opvs, opvo, opvp, abuiltin, Ac.get_put, Ac.put_n, Ac.put_defers, if_true, if_false, and_true, decide_true, abin, isShift, aint, roV, pair, bind, Option.bind, acall, List.nil_append, List.append_nil, List.toList_toArray, List.getElem?_cons_zero, List.getElem?_cons_succ, Bool.not_true, Bool.not_false, e1, e4]; done)); (focus ((first | simp (config := {decide := true}) only [awant, ayield_get, oper1, aop, opv, opvs, opvo, opvp, abuiltin, Ac.get_put, Ac.put_n, Ac.put_defers, if_true, if_false, and_true, decide_true, abin, isShift, aint, roV, pair, bind, Option.bind, acall, List.nil_append, List.append_nil, List.toList_toArray, List.getElem?_cons_zero, List.getElem?_cons_succ, Bool.not_true, Bool.not_false, e1, e4] | skip); with_reducible rfl)))
      | ((with_reducible apply RO.skipG); (focus rfl); (focus rfl); (focus (simp (config := {decide := true}) only [awant, ayield_get, oper1, aop, opv, opvs, opvo, opvp, abuiltin, Ac.get_put, Ac.put_n, Ac.put_defers, if_true, if_false, and_true, decide_true, abin, isShift, aint, roV, pair, bind, Option.bind, acall, List.nil_append, List.append_nil, List.toList_toArray, List.getElem?_cons_zero, List.getElem?_cons_succ, Bool.not_true, Bool.not_false, e1, e4]; done))))) ?_)
    | (refine Wc.quiet (by kernel_rfl) (by repeat' (first
      | with_reducible exact QO.nil
      | ((with_reducible apply QO.cons rfl rfl); (focus ((first | simp (config := {decide := true}) only [awant, ayield_get, oper1, aop, opv, opvs, opvo, opvp, abuiltin, Ac.get_put, Ac.put_n, Ac.put_defers, if_true, if_false, and_true, decide_true, abin, isShift, aint, roV, pair, bind, Option.bind, acall, List.nil_append, List.append_nil, List.toList_toArray, List.getElem?_cons_zero, List.getElem?_cons_succ, Bool.not_true, Bool.not_false, e1, e4] | skip); with_reducible rfl))))) ?_)
    | (refine Wc.cond2 (by simp (config := {decide := true}) only [awant, ayield_get, oper1, aop, opv, opvs, opvo, opvp, abuiltin, Ac.get_put, Ac.put_n, Ac.put_defers, if_true, if_false, and_true, decide_true, abin, isShift, aint, roV, pair, bind, Option.bind, acall, List.nil_append, List.append_nil, List.toList_toArray, List.getElem?_cons_zero, List.getElem?_cons_succ, Bool.not_true, Bool.not_false, e1, e4]; try with_reducible rfl) (fun hb => ?_) (fun hb => ?_) <;> try contradiction)
    | refine Wc.skip ?_
    | refine Wc.ret ?_
    | refine Wc.exit ?_
    | refine Wc.block ?_)
          refine done_tmp2 (.inr rfl) (by simp (config := {decide := true}) only [Ac.get_put, Ac.put_n, Ac.put_defers, if_true, if_false, and_true, e2]) rfl ?_ ?_ hl1
          · simp (config := {decide := true}) only [Ac.get_put, Ac.put_n, Ac.put_defers, if_true, if_false, and_true, e1]
          · simp (config := {decide := true}) only [Ac.get_put, Ac.put_n, Ac.put_defers, if_true, if_false, and_true, e1]
            rw [e3]
        · exact done_tmp2 (.inr rfl) e2 rfl e3 e4 hl1
end Go.Proofs.YtofijpbmbmbnhaaDoor
/- The reference's functions on one item, and two. -/
set_option maxRecDepth 100000
set_option maxHeartbeats 4000000
namespace Go.Proofs.YtofijpbmbmbnhaaDoor
open Go Go.Hs Go.Proofs
variable {E : Env} {I : Known}
theorem ex30 (a b c : Value) : (#[a, b, c] : Array Value).toList[0]? = some a := rfl

/-! ### 36 -/
theorem fn36 : tab.fn.get 36 = some Tryd.f36 := by kernel_rfl
def says36 (E : Env) : Says := fun s f args h v => f = 36 ∧ s = 0 ∧ ∃ t xv, args = [xv] ∧ rep E h t xv ∧ v = .int .i64 (chkI t 0 1).2
theorem one36 (E : Env) : One (says36 E) := by
  rintro s s' f args h v v' ⟨_, _, t, xv, rfl, h1, rfl⟩ ⟨_, _, t', xv', he, h2, rfl⟩
  cases he
  rw [rep_one h1 h2]
theorem shown36 (hI : ∀ args h, I 36 args h = none) (h71 : ∀ t xv h, rep E h t xv → I 71 [xv, .int .i64 0, .int .i64 1] h = some (some (.tuple #[.int .i64 (chkI t 0 1).1, .int .i64 (chkI t 0 1).2], h))) : Shown tab E I (says36 E) := by
  rintro sz f args h v ⟨rfl, rfl, t, xv, rfl, hr, rfl⟩ hfr
  refine ⟨rfl, ?_⟩
  obtain ⟨k, m, tx, ks⟩ := t
  obtain ⟨sb, sc, rfl, hs⟩ := rep_slice hr
  have hJ : upTo (says36 E) I 0 = I := by funext f args h; exact upTo_none (fun _ _ hs => absurd hs (Nat.not_lt_zero _))
  rw [hJ]
  suffices hw : ∃ n v h', (ev tab E I n).call 36 [.agg ⟨[.int .i64 k, .int .i64 m, .string tx, .slice sb ks.length sc]⟩] (fresh h) = some (v, h') ∧ (v = .int .i64 (chkI (.mk k m tx ks) 0 1).2 ∧ h'.log = []) by
    obtain ⟨n, v, h', h1, rfl, h3⟩ := hw
    exact ⟨n, h', h1, h3⟩
  refine Wc.call (hI _ _) fn36 rfl ?_
  generalize hA0 : (⟨T.ofList [.agg ⟨[.int .i64 k, .int .i64 m, .string tx, .slice sb ks.length sc]⟩] 0 .nil, max ([.agg ⟨[.int .i64 k, .int .i64 m, .string tx, .slice sb ks.length sc]⟩] : List Value).length Tryd.f36.ntmps, []⟩ : Ac) = A0
  have n0 : A0.n = 11 := by rw [← hA0]; rfl
  have g00 : A0.get 0 = .agg ⟨[.int .i64 k, .int .i64 m, .string tx, .slice sb ks.length sc]⟩ := by rw [← hA0]; rfl
  have d0 : A0.defers = [] := by rw [← hA0]
  apply Wc.seq
  refine Wc.ops (by repeat' (first
      | with_reducible exact RO.nil
      | ((with_reducible apply RO.run (awant_none rfl)); (focus ((first | simp (config := {decide := true}) only [awant, ayield_get, oper1, aop, opv, opvs, opvo, opvp, abuiltin, Ac.get_put, Ac.put_n, Ac.put_defers, if_true, if_false, and_true, decide_true, abin, isShift, aint, roV, pair, bind, Option.bind, acall, List.nil_append, List.append_nil, List.toList_toArray, List.getElem?_cons_zero, List.getElem?_cons_succ, Bool.not_true, Bool.not_false, n0, g00] | skip); with_reducible rfl))))) ?_
  generalize hh1 : (fresh h).new (.cells (Value.agg ⟨[.int .i64 k, .int .i64 m, .string tx, .slice sb ks.length sc]⟩).cells.toList 25 none) = h1
  have hl1 : h1.log = [] := by rw [← hh1]; rfl
  have hgr : Grows h h1 := by rw [← hh1]; exact grows_new (h := fresh h) hfr _
  have hc4 : h1.cells E (own h.next) 4 = some [.int .i64 k, .int .i64 m, .string tx, .slice sb ks.length sc] := by rw [← hh1]; exact box_cells (h := fresh h) rfl rfl
  have hfn : (fresh h).next = h.next := rfl
  have hcall := ev_known (D := tab) (E := E) (h71 _ _ _ (rep_grow hgr hr))
  repeat' (first
    | (with_reducible apply Wc.seq)
    | (refine Wc.ops (by repeat' (first
      | with_reducible exact RO.nil
      | ((with_reducible apply RO.run (awant_none rfl)); (focus ((first | simp (config := {decide := true}) only [awant, ayield_get, oper1, aop, opv, opvs, opvo, opvp, abuiltin, Ac.get_put, Ac.put_n, Ac.put_defers, if_true, if_false, and_true, decide_true, abin, isShift, aint, roV, pair, bind, Option.bind, acall, List.nil_append, List.append_nil, List.toList_toArray, List.getElem?_cons_zero, List.getElem?_cons_succ, Bool.not_true, Bool.not_false, n0, g00, hfn, ld25, hc4, hcall] | skip); with_reducible rfl))))) ?_)
    | (refine Wc.cond2 (by simp (config := {decide := true}) only [awant, ayield_get, oper1, aop, opv, opvs, opvo, opvp, abuiltin, Ac.get_put, Ac.put_n, Ac.put_defers, if_true, if_false, and_true, decide_true, abin, isShift, aint, roV, pair, bind, Option.bind, acall, List.nil_append, List.append_nil, List.toList_toArray, List.getElem?_cons_zero, List.getElem?_cons_succ, Bool.not_true, Bool.not_false, n0, g00, hfn, ld25, hc4, hcall]; try with_reducible rfl) (fun hb => ?_) (fun hb => ?_) <;> try contradiction)
    | refine Wc.skip ?_
    | refine Wc.ret ?_
    | refine Wc.exit ?_
    | refine Wc.block ?_)
  refine done_tmp (.inr rfl) (by simp (config := {decide := true}) only [Ac.get_put, Ac.put_n, Ac.put_defers, if_true, if_false, and_true, d0]) rfl ?_ hl1
  simp (config := {decide := true}) only [Ac.get_put, Ac.put_n, Ac.put_defers, if_true, if_false, and_true, n0]

/-! ### 33 -/
theorem fn33 : tab.fn.get 33 = some Tryd.f33 := by kernel_rfl
def says33 (E : Env) : Says := fun s f args h v => f = 33 ∧ s = 0 ∧ ∃ t xv, args = [xv] ∧ rep E h t xv ∧ v = .tuple #[.int .i64 (szI t).1, .int .i64 (szI t).2.1, .int .i64 (szI t).2.2]
theorem one33 (E : Env) : One (says33 E) := by
  rintro s s' f args h v v' ⟨_, _, t, xv, rfl, h1, rfl⟩ ⟨_, _, t', xv', he, h2, rfl⟩
  cases he
  rw [rep_one h1 h2]
theorem shown33 (hI : ∀ args h, I 33 args h = none) (h71 : ∀ t xv h, rep E h t xv → I 71 [xv, .int .i64 0, .int .i64 1] h = some (some (.tuple #[.int .i64 (chkI t 0 1).1, .int .i64 (chkI t 0 1).2], h))) (h72 : ∀ t xv h, rep E h t xv → isz t ≤ 1000000 → I 72 [xv] h = some (some (.int .i64 (lvlI t), h))) : Shown tab E I (says33 E) := by
  rintro sz f args h v ⟨rfl, rfl, t, xv, rfl, hr, rfl⟩ hfr
  refine ⟨rfl, ?_⟩
  obtain ⟨k, m, tx, ks⟩ := t
  obtain ⟨sb, sc, rfl, hs⟩ := rep_slice hr
  have hJ : upTo (says33 E) I 0 = I := by funext f args h; exact upTo_none (fun _ _ hs => absurd hs (Nat.not_lt_zero _))
  rw [hJ]
  suffices hw : ∃ n v h', (ev tab E I n).call 33 [.agg ⟨[.int .i64 k, .int .i64 m, .string tx, .slice sb ks.length sc]⟩] (fresh h) = some (v, h') ∧ (v = .tuple #[.int .i64 (szI (.mk k m tx ks)).1, .int .i64 (szI (.mk k m tx ks)).2.1, .int .i64 (szI (.mk k m tx ks)).2.2] ∧ h'.log = []) by
    obtain ⟨n, v, h', h1, rfl, h3⟩ := hw
    exact ⟨n, h', h1, h3⟩
  refine Wc.call (hI _ _) fn33 rfl ?_
  generalize hA0 : (⟨T.ofList [.agg ⟨[.int .i64 k, .int .i64 m, .string tx, .slice sb ks.length sc]⟩] 0 .nil, max ([.agg ⟨[.int .i64 k, .int .i64 m, .string tx, .slice sb ks.length sc]⟩] : List Value).length Tryd.f33.ntmps, []⟩ : Ac) = A0
  have n0 : A0.n = 18 := by rw [← hA0]; rfl
  have g00 : A0.get 0 = .agg ⟨[.int .i64 k, .int .i64 m, .string tx, .slice sb ks.length sc]⟩ := by rw [← hA0]; rfl
  have d0 : A0.defers = [] := by rw [← hA0]
  apply Wc.seq
  refine Wc.ops (by repeat' (first
      | with_reducible exact RO.nil
      | ((with_reducible apply RO.run (awant_none rfl)); (focus ((first | simp (config := {decide := true}) only [awant, ayield_get, oper1, aop, opv, opvs, opvo, opvp, abuiltin, Ac.get_put, Ac.put_n, Ac.put_defers, if_true, if_false, and_true, decide_true, abin, isShift, aint, roV, pair, bind, Option.bind, acall, List.nil_append, List.append_nil, List.toList_toArray, List.getElem?_cons_zero, List.getElem?_cons_succ, Bool.not_true, Bool.not_false, n0, g00] | skip); with_reducible rfl))))) ?_
  generalize hh1 : (fresh h).new (.cells (Value.agg ⟨[.int .i64 k, .int .i64 m, .string tx, .slice sb ks.length sc]⟩).cells.toList 25 none) = h1
  have hl1 : h1.log = [] := by rw [← hh1]; rfl
  have hgr : Grows h h1 := by rw [← hh1]; exact grows_new (h := fresh h) hfr _
  have hc4 : h1.cells E (own h.next) 4 = some [.int .i64 k, .int .i64 m, .string tx, .slice sb ks.length sc] := by rw [← hh1]; exact box_cells (h := fresh h) rfl rfl
  have hfn : (fresh h).next = h.next := rfl
  have hcall := ev_known (D := tab) (E := E) (h71 _ _ _ (rep_grow hgr hr))
  by_cases q : (chkI (.mk k m tx ks) 0 1).2 ≠ 0
  · have e1 : szI (.mk k m tx ks) = (0, 0, (chkI (.mk k m tx ks) 0 1).2) := by rw [szI, if_pos q]
    have q1 : (!decide ((chkI (.mk k m tx ks) 0 1).2 = 0)) = true := by simp [q]
    repeat' (first
    | (with_reducible apply Wc.seq)
    | (refine Wc.ops (by repeat' (first
      | with_reducible exact RO.nil
      | ((with_reducible apply RO.run (awant_none rfl)); (focus ((first | simp (config := {decide := true}) only [awant, ayield_get, oper1, aop, opv, opvs, opvo, opvp, abuiltin, Ac.get_put, Ac.put_n, Ac.put_defers, if_true, if_false, and_true, decide_true, abin, isShift, aint, roV, pair, bind, Option.bind, acall, List.nil_append, List.append_nil, List.toList_toArray, List.getElem?_cons_zero, List.getElem?_cons_succ, Bool.not_true, Bool.not_false, n0, g00, hfn, ld25, hc4, hcall, q1] | skip); with_reducible rfl))))) ?_)
    | (refine Wc.cond2 (by simp (config := {decide := true}) only [awant, ayield_get, oper1, aop, opv, opvs, opvo, opvp, abuiltin, Ac.get_put, Ac.put_n, Ac.put_defers, if_true, if_false, and_true, decide_true, abin, isShift, aint, roV, pair, bind, Option.bind, acall, List.nil_append, List.append_nil, List.toList_toArray, List.getElem?_cons_zero, List.getElem?_cons_succ, Bool.not_true, Bool.not_false, n0, g00, hfn, ld25, hc4, hcall, q1]; try with_reducible rfl) (fun hb => ?_) (fun hb => ?_) <;> try contradiction)
    | refine Wc.skip ?_
    | refine Wc.ret ?_
    | refine Wc.exit ?_
    | refine Wc.block ?_)
    refine done_tmp3 (.inr rfl) (by simp (config := {decide := true}) only [Ac.get_put, Ac.put_n, Ac.put_defers, if_true, if_false, and_true, d0]) rfl ?_ ?_ ?_ hl1
    · simp (config := {decide := true}) only [Ac.get_put, Ac.put_n, Ac.put_defers, if_true, if_false, and_true, n0]
      rw [e1]
    · simp (config := {decide := true}) only [Ac.get_put, Ac.put_n, Ac.put_defers, if_true, if_false, and_true, n0]
      rw [e1]
    · simp (config := {decide := true}) only [Ac.get_put, Ac.put_n, Ac.put_defers, if_true, if_false, and_true, n0]
      rw [e1]
  have q := Classical.not_not.1 q
  have q1 : (!decide ((chkI (.mk k m tx ks) 0 1).2 = 0)) = false := by simp [q]
  have hsz := chkI_size _ 0 1 q
  have hbd := chkI_bound (.mk k m tx ks) 0 1 (Int.le_refl _) (by decide)
  have hcall2 := ev_known (D := tab) (E := E) (h72 _ _ _ (rep_grow hgr hr) (by omega))
  have e1 : szI (.mk k m tx ks) = ((chkI (.mk k m tx ks) 0 1).1, lvlI (.mk k m tx ks), 0) := by rw [szI, if_neg (fun hh => hh q)]
  repeat' (first
    | (with_reducible apply Wc.seq)
    | (refine Wc.ops (by repeat' (first
      | with_reducible exact RO.nil
      | ((with_reducible apply RO.run (awant_none rfl)); (focus ((first | simp (config := {decide := true}) only [awant, ayield_get, oper1, aop, opv, opvs, opvo, opvp, abuiltin, Ac.get_put, Ac.put_n, Ac.put_defers, if_true, if_false, and_true, decide_true, abin, isShift, aint, roV, pair, bind, Option.bind, acall, List.nil_append, List.append_nil, List.toList_toArray, List.getElem?_cons_zero, List.getElem?_cons_succ, Bool.not_true, Bool.not_false, n0, g00, hfn, ld25, hc4, hcall, hcall2, q1] | skip); with_reducible rfl))))) ?_)
    | (refine Wc.cond2 (by simp (config := {decide := true}) only [awant, ayield_get, oper1, aop, opv, opvs, opvo, opvp, abuiltin, Ac.get_put, Ac.put_n, Ac.put_defers, if_true, if_false, and_true, decide_true, abin, isShift, aint, roV, pair, bind, Option.bind, acall, List.nil_append, List.append_nil, List.toList_toArray, List.getElem?_cons_zero, List.getElem?_cons_succ, Bool.not_true, Bool.not_false, n0, g00, hfn, ld25, hc4, hcall, hcall2, q1]; try with_reducible rfl) (fun hb => ?_) (fun hb => ?_) <;> try contradiction)
    | refine Wc.skip ?_
    | refine Wc.ret ?_
    | refine Wc.exit ?_
    | refine Wc.block ?_)
  refine done_tmp3 (.inr rfl) (by simp (config := {decide := true}) only [Ac.get_put, Ac.put_n, Ac.put_defers, if_true, if_false, and_true, d0]) rfl ?_ ?_ ?_ hl1
  · simp (config := {decide := true}) only [Ac.get_put, Ac.put_n, Ac.put_defers, if_true, if_false, and_true, n0]
    rw [e1]
  · simp (config := {decide := true}) only [Ac.get_put, Ac.put_n, Ac.put_defers, if_true, if_false, and_true, n0]
    rw [e1]
  · simp (config := {decide := true}) only [Ac.get_put, Ac.put_n, Ac.put_defers, if_true, if_false, and_true, n0]
    rw [e1]
end Go.Proofs.YtofijpbmbmbnhaaDoor
