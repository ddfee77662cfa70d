/- The reference's order. -/
import Derived.Test.YtofijpbmbmbnhaaDoorHsaj
set_option linter.unusedSimpArgs false
set_option linter.unusedVariables false
set_option maxRecDepth 100000
set_option maxHeartbeats 4000000
namespace Go.Proofs.YtofijpbmbmbnhaaDoor
open Go Go.Hs Go.Proofs
variable {E : Env} {I : Known}
theorem fn74 : tab.fn.get 74 = some Tryd.f74 := by kernel_rfl
def says74 (E : Env) : Says := fun s f args h v => f = 74 ∧ ∃ t xv u yv, args = [xv, yv] ∧ rep E h t xv ∧ rep E h u yv ∧ s = isz t ∧ v = .int .i64 (ordI t u)
theorem one74 (E : Env) : One (says74 E) := by
  rintro s s' f args h v v' ⟨_, t, xv, u, yv, rfl, h1, h3, _, rfl⟩ ⟨_, t', xv', u', yv', he, h2, h4, _, rfl⟩
  cases he
  rw [rep_one h1 h2, rep_one h3 h4]
noncomputable def loop74 : Code := loopOf Tryd.f74

theorem shown74 (hI : ∀ args h, I 74 args h = none) : Shown tab E I (says74 E) := by
  rintro sz f args h v ⟨rfl, t, xv, u, yv, rfl, hr, hr', rfl, rfl⟩ hfr
  refine ⟨rfl, ?_⟩
  obtain ⟨k, m, tx, ks⟩ := t
  obtain ⟨sb, sc, rfl, hs⟩ := rep_slice hr
  obtain ⟨k', m', tx', ks'⟩ := u
  obtain ⟨sb', sc', rfl, hs'⟩ := rep_slice hr'
  have hnone : upTo (says74 E) I (isz (.mk k m tx ks)) 74 [.agg ⟨[.int .i64 k, .int .i64 m, .string tx, .slice sb ks.length sc]⟩, .agg ⟨[.int .i64 k', .int .i64 m', .string tx', .slice sb' ks'.length sc']⟩] (fresh h) = none := by
    rw [upTo_none]
    · exact hI _ _
    · rintro v s hlt ⟨_, t', xv', u', yv', he, h2, _, rfl, _⟩
      cases he
      have h2' : rep E h t' _ := rep_grow (h := fresh h) (h' := h) (fun _ _ hb => hb) h2
      rw [rep_one h2' hr] at hlt
      exact absurd hlt (Nat.lt_irrefl _)
  generalize hJ : upTo (says74 E) I (isz (.mk k m tx ks)) = J at hnone ⊢
  suffices hw : ∃ n v h', (ev tab E J n).call 74 [.agg ⟨[.int .i64 k, .int .i64 m, .string tx, .slice sb ks.length sc]⟩, .agg ⟨[.int .i64 k', .int .i64 m', .string tx', .slice sb' ks'.length sc']⟩] (fresh h) = some (v, h') ∧ (v = .int .i64 (ordI (.mk k m tx ks) (.mk k' m' tx' ks')) ∧ h'.log = []) by
    obtain ⟨n, v, h', h1, rfl, h3⟩ := hw
    exact ⟨n, h', h1, h3⟩
  refine Wc.call hnone fn74 rfl ?_
  generalize hA0 : (⟨T.ofList [.agg ⟨[.int .i64 k, .int .i64 m, .string tx, .slice sb ks.length sc]⟩, .agg ⟨[.int .i64 k', .int .i64 m', .string tx', .slice sb' ks'.length sc']⟩] 0 .nil, max ([.agg ⟨[.int .i64 k, .int .i64 m, .string tx, .slice sb ks.length sc]⟩, .agg ⟨[.int .i64 k', .int .i64 m', .string tx', .slice sb' ks'.length sc']⟩] : List Value).length Tryd.f74.ntmps, []⟩ : Ac) = A0
  have n0 : A0.n = 70 := by rw [← hA0]; rfl
  have g00 : A0.get 0 = .agg ⟨[.int .i64 k, .int .i64 m, .string tx, .slice sb ks.length sc]⟩ := by rw [← hA0]; rfl
  have g01 : A0.get 1 = .agg ⟨[.int .i64 k', .int .i64 m', .string tx', .slice sb' ks'.length sc']⟩ := by rw [← hA0]; rfl
  have d0 : A0.defers = [] := by rw [← hA0]
  apply Wc.seq
  refine Wc.ops (by repeat' (first
      | with_reducible exact RO.nil
      | ((with_reducible apply RO.run (awant_none rfl)); (focus ((first | simp (config := {decide := true}) only [awant, ayield_get, oper1, aop, opv, opvs, opvo, opvp, abuiltin, Ac.get_put, Ac.put_n, Ac.put_defers, if_true, if_false, and_true, decide_true, abin, isShift, aint, roV, pair, bind, Option.bind, acall, List.nil_append, List.append_nil, List.toList_toArray, List.getElem?_cons_zero, List.getElem?_cons_succ, Bool.not_true, Bool.not_false, n0, g00, g01] | skip); with_reducible rfl)))
      | ((with_reducible apply RO.runG); (focus rfl); (focus rfl); (focus (simp (config := {decide := true}) only [awant, ayield_get, oper1, aop, opv, opvs, opvo, opvp, abuiltin, Ac.get_put, Ac.put_n, Ac.put_defers, if_true, if_false, and_true, decide_true, abin, isShift, aint, roV, pair, bind, Option.bind, acall, List.nil_append, List.append_nil, List.toList_toArray, List.getElem?_cons_zero, List.getElem?_cons_succ, Bool.not_true, Bool.not_false, n0, g00, g01]; done)); (focus ((first | simp (config := {decide := true}) only [awant, ayield_get, oper1, aop, opv, opvs, opvo, opvp, abuiltin, Ac.get_put, Ac.put_n, Ac.put_defers, if_true, if_false, and_true, decide_true, abin, isShift, aint, roV, pair, bind, Option.bind, acall, List.nil_append, List.append_nil, List.toList_toArray, List.getElem?_cons_zero, List.getElem?_cons_succ, Bool.not_true, Bool.not_false, n0, g00, g01] | skip); with_reducible rfl)))
      | ((with_reducible apply RO.skipG); (focus rfl); (focus rfl); (focus (simp (config := {decide := true}) only [awant, ayield_get, oper1, aop, opv, opvs, opvo, opvp, abuiltin, Ac.get_put, Ac.put_n, Ac.put_defers, if_true, if_false, and_true, decide_true, abin, isShift, aint, roV, pair, bind, Option.bind, acall, List.nil_append, List.append_nil, List.toList_toArray, List.getElem?_cons_zero, List.getElem?_cons_succ, Bool.not_true, Bool.not_false, n0, g00, g01]; done))))) ?_
  generalize hh1 : (fresh h).new (.cells (Value.agg ⟨[.int .i64 k, .int .i64 m, .string tx, .slice sb ks.length sc]⟩).cells.toList 25 none) = h1
  have hgr1 : Grows h h1 := by rw [← hh1]; exact grows_new (h := fresh h) hfr _
  have hf1 : ∀ k, h1.next ≤ k → h1.dyn.get k = none := by rw [← hh1]; exact new_fresh (h := fresh h) hfr _
  have hn1 : h1.next = h.next + 1 := by rw [← hh1]; rfl
  have q0 : h1.cell E (aadd (own h.next) 0) = some (.int .i64 k) := by rw [← hh1]; exact box_cell (h := fresh h) (i := 0) rfl rfl
  have q1 : h1.cell E (aadd (own h.next) 1) = some (.int .i64 m) := by rw [← hh1]; exact box_cell (h := fresh h) (i := 1) rfl rfl
  have q2 : h1.cell E (aadd (own h.next) 2) = some (.string tx) := by rw [← hh1]; exact box_cell (h := fresh h) (i := 2) rfl rfl
  have q3 : h1.cell E (aadd (own h.next) 3) = some (.slice sb ks.length sc) := by rw [← hh1]; exact box_cell (h := fresh h) (i := 3) rfl rfl
  have hl1 : h1.log = [] := by rw [← hh1]; rfl
  generalize hh2 : h1.new (.cells (Value.agg ⟨[.int .i64 k', .int .i64 m', .string tx', .slice sb' ks'.length sc']⟩).cells.toList 25 none) = h2
  have hgr2 : Grows h1 h2 := by rw [← hh2]; exact grows_new hf1 _
  have hgr : Grows h h2 := hgr1.trans hgr2
  have hl2 : h2.log = [] := by rw [← hh2]; exact hl1
  have x0 := cell_grow hgr2 q0
  have x1 := cell_grow hgr2 q1
  have x2 := cell_grow hgr2 q2
  have x3 := cell_grow hgr2 q3
  have y0 : h2.cell E (aadd (own h1.next) 0) = some (.int .i64 k') := by rw [← hh2]; exact box_cell (i := 0) rfl rfl
  have y1 : h2.cell E (aadd (own h1.next) 1) = some (.int .i64 m') := by rw [← hh2]; exact box_cell (i := 1) rfl rfl
  have y2 : h2.cell E (aadd (own h1.next) 2) = some (.string tx') := by rw [← hh2]; exact box_cell (i := 2) rfl rfl
  have y3 : h2.cell E (aadd (own h1.next) 3) = some (.slice sb' ks'.length sc') := by rw [← hh2]; exact box_cell (i := 3) rfl rfl
  have x3f : (fresh h2).cell E (aadd (own h.next) 3) = some (.slice sb ks.length sc) := x3
  have y3f : (fresh h2).cell E (aadd (own h1.next) 3) = some (.slice sb' ks'.length sc') := y3
  have hfn : (fresh h).next = h.next := rfl
  clear hh1 hh2 q0 q1 q2 q3
  have key : ∀ (r i : Nat) (A : Ac), r = ks.length - i → i ≤ ks.length → A.n = 70 → A.defers = [] → A.get 39 = .int .i64 (ks.length : Nat) →
      A.get 2 = .pointer (some (own h.next)) → A.get 3 = .pointer (some (own h1.next)) → A.get 40 = .int .i64 (i : Nat) → i ≤ ks'.length →
      Wc tab E J ⟨74, none⟩ (.loop loop74) A h2 (fun ex A' h' => h' = h2 ∧ A'.n = 70 ∧ A'.defers = [] ∧
        ((ex = .exit 0 ∧ ordL (ks.drop i) (ks'.drop i) = (if ks.length < ks'.length then -1 else 0) ∧ A'.get 2 = .pointer (some (own h.next)) ∧ A'.get 3 = .pointer (some (own h1.next))) ∨
         (ex = .ret ∧ A'.get 4 = .int .i64 (ordL (ks.drop i) (ks'.drop i))))) := by
    intro r
    induction r with
    | zero =>
      intro i A hr hi nA dA a39 a2 a3 a40 hi'
      have hil : i = ks.length := by omega
      have hlt : decide ((i : Int) < (ks.length : Int)) = false := by simp; omega
      apply Wc.loop
      simp only [loop74, loopOf, firstLoop, Option.getD, Tryd.f74]
      repeat' (first
    | (with_reducible apply Wc.seq)
    | (refine Wc.ops (by repeat' (first
      | with_reducible exact RO.nil
      | ((with_reducible apply RO.run (awant_none rfl)); (focus ((first | simp (config := {decide := true}) only [awant, ayield_get, oper1, aop, opv, opvs, opvo, opvp, abuiltin, Ac.get_put, Ac.put_n, Ac.put_defers, if_true, if_false, and_true, decide_true, abin, isShift, aint, roV, pair, bind, Option.bind, acall, List.nil_append, List.append_nil, List.toList_toArray, List.getElem?_cons_zero, List.getElem?_cons_succ, Bool.not_true, Bool.not_false, nA, a39, a2, a3, a40, hlt] | skip); with_reducible rfl)))
      | ((with_reducible apply RO.runG); (focus rfl); (focus rfl); (focus (simp (config := {decide := true}) only [awant, ayield_get, oper1, aop, opv, opvs, opvo, opvp, abuiltin, Ac.get_put, Ac.put_n, Ac.put_defers, if_true, if_false, and_true, decide_true, abin, isShift, aint, roV, pair, bind, Option.bind, acall, List.nil_append, List.append_nil, List.toList_toArray, List.getElem?_cons_zero, List.getElem?_cons_succ, Bool.not_true, Bool.not_false, nA, a39, a2, a3, a40, hlt]; done)); (focus ((first | simp (config := {decide := true}) only [awant, ayield_get, oper1, aop, opv, opvs, opvo, opvp, abuiltin, Ac.get_put, Ac.put_n, Ac.put_defers, if_true, if_false, and_true, decide_true, abin, isShift, aint, roV, pair, bind, Option.bind, acall, List.nil_append, List.append_nil, List.toList_toArray, List.getElem?_cons_zero, List.getElem?_cons_succ, Bool.not_true, Bool.not_false, nA, a39, a2, a3, a40, hlt] | skip); with_reducible rfl)))
      | ((with_reducible apply RO.skipG); (focus rfl); (focus rfl); (focus (simp (config := {decide := true}) only [awant, ayield_get, oper1, aop, opv, opvs, opvo, opvp, abuiltin, Ac.get_put, Ac.put_n, Ac.put_defers, if_true, if_false, and_true, decide_true, abin, isShift, aint, roV, pair, bind, Option.bind, acall, List.nil_append, List.append_nil, List.toList_toArray, List.getElem?_cons_zero, List.getElem?_cons_succ, Bool.not_true, Bool.not_false, nA, a39, a2, a3, a40, hlt]; done))))) ?_)
    | (refine Wc.quiet (by kernel_rfl) (by repeat' (first
      | with_reducible exact QO.nil
      | ((with_reducible apply QO.cons rfl rfl); (focus ((first | simp (config := {decide := true}) only [awant, ayield_get, oper1, aop, opv, opvs, opvo, opvp, abuiltin, Ac.get_put, Ac.put_n, Ac.put_defers, if_true, if_false, and_true, decide_true, abin, isShift, aint, roV, pair, bind, Option.bind, acall, List.nil_append, List.append_nil, List.toList_toArray, List.getElem?_cons_zero, List.getElem?_cons_succ, Bool.not_true, Bool.not_false, nA, a39, a2, a3, a40, hlt] | skip); with_reducible rfl))))) ?_)
    | (refine Wc.cond2 (by simp (config := {decide := true}) only [awant, ayield_get, oper1, aop, opv, opvs, opvo, opvp, abuiltin, Ac.get_put, Ac.put_n, Ac.put_defers, if_true, if_false, and_true, decide_true, abin, isShift, aint, roV, pair, bind, Option.bind, acall, List.nil_append, List.append_nil, List.toList_toArray, List.getElem?_cons_zero, List.getElem?_cons_succ, Bool.not_true, Bool.not_false, nA, a39, a2, a3, a40, hlt]; try with_reducible rfl) (fun hb => ?_) (fun hb => ?_) <;> try contradiction)
    | refine Wc.skip ?_
    | refine Wc.ret ?_
    | refine Wc.exit ?_
    | refine Wc.block ?_)
      refine ⟨rfl, by simp (config := {decide := true}) only [Ac.get_put, Ac.put_n, Ac.put_defers, if_true, if_false, and_true, nA], by simp (config := {decide := true}) only [Ac.get_put, Ac.put_n, Ac.put_defers, if_true, if_false, and_true, dA], .inl ⟨rfl, ?_, by simp (config := {decide := true}) only [Ac.get_put, Ac.put_n, Ac.put_defers, if_true, if_false, and_true, nA, a2], by simp (config := {decide := true}) only [Ac.get_put, Ac.put_n, Ac.put_defers, if_true, if_false, and_true, nA, a3]⟩⟩
      rw [hil, List.drop_length]
      cases hd : ks'.drop ks.length with
      | nil =>
        have := congrArg List.length hd
        simp at this
        rw [ordL, if_neg (by omega)]
      | cons y ys =>
        have := congrArg List.length hd
        simp at this
        rw [ordL, if_pos (by omega)]
    | succ r ih =>
      intro i A hr hi nA dA a39 a2 a3 a40 hi'
      have hil : i < ks.length := by omega
      have hlt : decide ((i : Int) < (ks.length : Int)) = true := by simp; omega
      have hks : ks.drop i = ks[i] :: ks.drop (i + 1) := List.drop_eq_getElem_cons hil
      rcases hs with hk0 | ⟨a, cs, he, hlc, hcs, hrl⟩
      · rw [hk0] at hil; simp at hil
      subst he
      by_cases hie : i = ks'.length
      · have heq : decide ((i : Int) = (ks'.length : Int)) = true := by simp [hie]
        apply Wc.loop
        simp only [loop74, loopOf, firstLoop, Option.getD, Tryd.f74]
        repeat' (first
    | (with_reducible apply Wc.seq)
    | (refine Wc.ops (by repeat' (first
      | with_reducible exact RO.nil
      | ((with_reducible apply RO.run (awant_none rfl)); (focus ((first | simp (config := {decide := true}) only [awant, ayield_get, oper1, aop, opv, opvs, opvo, opvp, abuiltin, Ac.get_put, Ac.put_n, Ac.put_defers, if_true, if_false, and_true, decide_true, abin, isShift, aint, roV, pair, bind, Option.bind, acall, List.nil_append, List.append_nil, List.toList_toArray, List.getElem?_cons_zero, List.getElem?_cons_succ, Bool.not_true, Bool.not_false, nA, a39, a2, a3, a40, hlt, heq, fa25_3, ld23, y3, len23] | skip); with_reducible rfl)))
      | ((with_reducible apply RO.runG); (focus rfl); (focus rfl); (focus (simp (config := {decide := true}) only [awant, ayield_get, oper1, aop, opv, opvs, opvo, opvp, abuiltin, Ac.get_put, Ac.put_n, Ac.put_defers, if_true, if_false, and_true, decide_true, abin, isShift, aint, roV, pair, bind, Option.bind, acall, List.nil_append, List.append_nil, List.toList_toArray, List.getElem?_cons_zero, List.getElem?_cons_succ, Bool.not_true, Bool.not_false, nA, a39, a2, a3, a40, hlt, heq, fa25_3, ld23, y3, len23]; done)); (focus ((first | simp (config := {decide := true}) only [awant, ayield_get, oper1, aop, opv, opvs, opvo, opvp, abuiltin, Ac.get_put, Ac.put_n, Ac.put_defers, if_true, if_false, and_true, decide_true, abin, isShift, aint, roV, pair, bind, Option.bind, acall, List.nil_append, List.append_nil, List.toList_toArray, List.getElem?_cons_zero, List.getElem?_cons_succ, Bool.not_true, Bool.not_false, nA, a39, a2, a3, a40, hlt, heq, fa25_3, ld23, y3, len23] | skip); with_reducible rfl)))
      | ((with_reducible apply RO.skipG); (focus rfl); (focus rfl); (focus (simp (config := {decide := true}) only [awant, ayield_get, oper1, aop, opv, opvs, opvo, opvp, abuiltin, Ac.get_put, Ac.put_n, Ac.put_defers, if_true, if_false, and_true, decide_true, abin, isShift, aint, roV, pair, bind, Option.bind, acall, List.nil_append, List.append_nil, List.toList_toArray, List.getElem?_cons_zero, List.getElem?_cons_succ, Bool.not_true, Bool.not_false, nA, a39, a2, a3, a40, hlt, heq, fa25_3, ld23, y3, len23]; done))))) ?_)
    | (refine Wc.quiet (by kernel_rfl) (by repeat' (first
      | with_reducible exact QO.nil
      | ((with_reducible apply QO.cons rfl rfl); (focus ((first | simp (config := {decide := true}) only [awant, ayield_get, oper1, aop, opv, opvs, opvo, opvp, abuiltin, Ac.get_put, Ac.put_n, Ac.put_defers, if_true, if_false, and_true, decide_true, abin, isShift, aint, roV, pair, bind, Option.bind, acall, List.nil_append, List.append_nil, List.toList_toArray, List.getElem?_cons_zero, List.getElem?_cons_succ, Bool.not_true, Bool.not_false, nA, a39, a2, a3, a40, hlt, heq, fa25_3, ld23, y3, len23] | skip); with_reducible rfl))))) ?_)
    | (refine Wc.cond2 (by simp (config := {decide := true}) only [awant, ayield_get, oper1, aop, opv, opvs, opvo, opvp, abuiltin, Ac.get_put, Ac.put_n, Ac.put_defers, if_true, if_false, and_true, decide_true, abin, isShift, aint, roV, pair, bind, Option.bind, acall, List.nil_append, List.append_nil, List.toList_toArray, List.getElem?_cons_zero, List.getElem?_cons_succ, Bool.not_true, Bool.not_false, nA, a39, a2, a3, a40, hlt, heq, fa25_3, ld23, y3, len23]; try with_reducible rfl) (fun hb => ?_) (fun hb => ?_) <;> try contradiction)
    | refine Wc.skip ?_
    | refine Wc.ret ?_
    | refine Wc.exit ?_
    | refine Wc.block ?_)
        refine ⟨rfl, by simp (config := {decide := true}) only [Ac.get_put, Ac.put_n, Ac.put_defers, if_true, if_false, and_true, nA], by simp (config := {decide := true}) only [Ac.get_put, Ac.put_n, Ac.put_defers, if_true, if_false, and_true, dA], .inr ⟨rfl, ?_⟩⟩
        simp (config := {decide := true}) only [Ac.get_put, Ac.put_n, Ac.put_defers, if_true, if_false, and_true, nA]
        have hd : ks'.drop i = [] := by rw [hie, List.drop_length]
        rw [hks, hd, ordL]
      have heq : decide ((i : Int) = (ks'.length : Int)) = false := by simp; omega
      have hil' : i < ks'.length := by omega
      have hks' : ks'.drop i = ks'[i] :: ks'.drop (i + 1) := List.drop_eq_getElem_cons hil'
      rcases hs' with hk0 | ⟨a', cs', he, hlc', hcs', hrl'⟩
      · rw [hk0] at hil'; simp at hil'
      subst he
      have hcs1 := cells_grow hgr hcs
      have hcs2 := cells_grow hgr hcs'
      obtain ⟨_, hrk⟩ := repL_get i hrl (List.getElem?_eq_getElem hil)
      obtain ⟨_, hrk'⟩ := repL_get i hrl' (List.getElem?_eq_getElem hil')
      have hsub : (fresh h2).cells E (aadd a (i * 4)) 4 = some ((cs.drop (i * 4)).take 4) := cells_sub hcs1 (m := i * 4) (l := 4) (by omega)
      have hsub' : (fresh h2).cells E (aadd a' (i * 4)) 4 = some ((cs'.drop (i * 4)).take 4) := cells_sub hcs2 (m := i * 4) (l := 4) (by omega)
      have hmem : ks[i] ∈ ks := List.getElem_mem hil
      have hkz := isz_kid (k := k) (n := m) (t := tx) hmem
      have hgf : Grows h (fresh h2) := hgr
      have hcall : (ev tab E J 1).call 74 [.agg ⟨(cs.drop (i * 4)).take 4⟩, .agg ⟨(cs'.drop (i * 4)).take 4⟩] (fresh h2) = some (.int .i64 (ordI ks[i] ks'[i]), fresh h2) := by
        apply ev_known
        rw [← hJ]
        exact upTo_eq (one74 E) ⟨rfl, ks[i], _, ks'[i], _, rfl, rep_grow hgf hrk, rep_grow hgf hrk', rfl, rfl⟩ hkz
      have hir : inRange (i : Int) ks.length = true := by
        show Nat.blt i ks.length = true
        rw [Nat.blt_eq]; exact hil
      have hir' : inRange (i : Int) ks'.length = true := by
        show Nat.blt i ks'.length = true
        rw [Nat.blt_eq]; exact hil'
      have w3 : IntKind.i64.wrap ((i : Int) + 1) = (i : Int) + 1 := wrap64 (by omega) (by omega)
      apply Wc.loop
      simp only [loop74, loopOf, firstLoop, Option.getD, Tryd.f74]
      repeat' (first
    | (with_reducible apply Wc.seq)
    | (refine Wc.ops (by repeat' (first
      | with_reducible exact RO.nil
      | ((with_reducible apply RO.run (awant_none rfl)); (focus ((first | simp (config := {decide := true}) only [awant, ayield_get, oper1, aop, opv, opvs, opvo, opvp, abuiltin, Ac.get_put, Ac.put_n, Ac.put_defers, if_true, if_false, and_true, decide_true, abin, isShift, aint, roV, pair, bind, Option.bind, acall, List.nil_append, List.append_nil, List.toList_toArray, List.getElem?_cons_zero, List.getElem?_cons_succ, Bool.not_true, Bool.not_false, nA, a39, a2, a3, a40, hlt, heq, fa25_3, ld23, ld25, y3, x3f, y3f, ia23 _ _ _ _ hir, ia23 _ _ _ _ hir', Int.toNat_natCast, hsub, hsub', len23, hcall, w3] | skip); with_reducible rfl)))
      | ((with_reducible apply RO.runG); (focus rfl); (focus rfl); (focus (simp (config := {decide := true}) only [awant, ayield_get, oper1, aop, opv, opvs, opvo, opvp, abuiltin, Ac.get_put, Ac.put_n, Ac.put_defers, if_true, if_false, and_true, decide_true, abin, isShift, aint, roV, pair, bind, Option.bind, acall, List.nil_append, List.append_nil, List.toList_toArray, List.getElem?_cons_zero, List.getElem?_cons_succ, Bool.not_true, Bool.not_false, nA, a39, a2, a3, a40, hlt, heq, fa25_3, ld23, ld25, y3, x3f, y3f, ia23 _ _ _ _ hir, ia23 _ _ _ _ hir', Int.toNat_natCast, hsub, hsub', len23, hcall, w3]; done)); (focus ((first | simp (config := {decide := true}) only [awant, ayield_get, oper1, aop, opv, opvs, opvo, opvp, abuiltin, Ac.get_put, Ac.put_n, Ac.put_defers, if_true, if_false, and_true, decide_true, abin, isShift, aint, roV, pair, bind, Option.bind, acall, List.nil_append, List.append_nil, List.toList_toArray, List.getElem?_cons_zero, List.getElem?_cons_succ, Bool.not_true, Bool.not_false, nA, a39, a2, a3, a40, hlt, heq, fa25_3, ld23, ld25, y3, x3f, y3f, ia23 _ _ _ _ hir, ia23 _ _ _ _ hir', Int.toNat_natCast, hsub, hsub', len23, hcall, w3] | skip); with_reducible rfl)))
      | ((with_reducible apply RO.skipG); (focus rfl); (focus rfl); (focus (simp (config := {decide := true}) only [awant, ayield_get, oper1, aop, opv, opvs, opvo, opvp, abuiltin, Ac.get_put, Ac.put_n, Ac.put_defers, if_true, if_false, and_true, decide_true, abin, isShift, aint, roV, pair, bind, Option.bind, acall, List.nil_append, List.append_nil, List.toList_toArray, List.getElem?_cons_zero, List.getElem?_cons_succ, Bool.not_true, Bool.not_false, nA, a39, a2, a3, a40, hlt, heq, fa25_3, ld23, ld25, y3, x3f, y3f, ia23 _ _ _ _ hir, ia23 _ _ _ _ hir', Int.toNat_natCast, hsub, hsub', len23, hcall, w3]; done))))) ?_)
    | (refine Wc.quiet (by kernel_rfl) (by repeat' (first
      | with_reducible exact QO.nil
      | ((with_reducible apply QO.cons rfl rfl); (focus ((first | simp (config := {decide := true}) only [awant, ayield_get, oper1, aop, opv, opvs, opvo, opvp, abuiltin, Ac.get_put, Ac.put_n, Ac.put_defers, if_true, if_false, and_true, decide_true, abin, isShift, aint, roV, pair, bind, Option.bind, acall, List.nil_append, List.append_nil, List.toList_toArray, List.getElem?_cons_zero, List.getElem?_cons_succ, Bool.not_true, Bool.not_false, nA, a39, a2, a3, a40, hlt, heq, fa25_3, ld23, ld25, y3, x3f, y3f, ia23 _ _ _ _ hir, ia23 _ _ _ _ hir', Int.toNat_natCast, hsub, hsub', len23, hcall, w3] | skip); with_reducible rfl))))) ?_)
    | (refine Wc.cond2 (by simp (config := {decide := true}) only [awant, ayield_get, oper1, aop, opv, opvs, opvo, opvp, abuiltin, Ac.get_put, Ac.put_n, Ac.put_defers, if_true, if_false, and_true, decide_true, abin, isShift, aint, roV, pair, bind, Option.bind, acall, List.nil_append, List.append_nil, List.toList_toArray, List.getElem?_cons_zero, List.getElem?_cons_succ, Bool.not_true, Bool.not_false, nA, a39, a2, a3, a40, hlt, heq, fa25_3, ld23, ld25, y3, x3f, y3f, ia23 _ _ _ _ hir, ia23 _ _ _ _ hir', Int.toNat_natCast, hsub, hsub', len23, hcall, w3]; try with_reducible rfl) (fun hb => ?_) (fun hb => ?_) <;> try contradiction)
    | refine Wc.skip ?_
    | refine Wc.ret ?_
    | refine Wc.exit ?_
    | refine Wc.block ?_)
      · have hm : ¬ (ordI ks[i] ks'[i] = 0) := by
          have hq := (by assumption : (!decide (ordI ks[i] ks'[i] = 0)) = true)
          simpa using hq
        refine ⟨rfl, by simp (config := {decide := true}) only [Ac.get_put, Ac.put_n, Ac.put_defers, if_true, if_false, and_true, nA], by simp (config := {decide := true}) only [Ac.get_put, Ac.put_n, Ac.put_defers, if_true, if_false, and_true, dA], .inr ⟨rfl, ?_⟩⟩
        simp (config := {decide := true}) only [Ac.get_put, Ac.put_n, Ac.put_defers, if_true, if_false, and_true, nA]
        rw [hks, hks', ordL, if_pos hm]
      · have hm : ordI ks[i] ks'[i] = 0 := by
          have hq := (by assumption : (!decide (ordI ks[i] ks'[i] = 0)) = false)
          simpa using hq
        refine (ih (i + 1) _ (by omega) (by omega) ?_ ?_ ?_ ?_ ?_ ?_ (by omega)).mono ?_
        · simp (config := {decide := true}) only [Ac.get_put, Ac.put_n, Ac.put_defers, if_true, if_false, and_true, nA]
        · simp (config := {decide := true}) only [Ac.get_put, Ac.put_n, Ac.put_defers, if_true, if_false, and_true, dA]
        · simp (config := {decide := true}) only [Ac.get_put, Ac.put_n, Ac.put_defers, if_true, if_false, and_true, nA, a39]
        · simp (config := {decide := true}) only [Ac.get_put, Ac.put_n, Ac.put_defers, if_true, if_false, and_true, nA, a2]
        · simp (config := {decide := true}) only [Ac.get_put, Ac.put_n, Ac.put_defers, if_true, if_false, and_true, nA, a3]
        · simp (config := {decide := true}) only [Ac.get_put, Ac.put_n, Ac.put_defers, if_true, if_false, and_true, nA]
          rfl
        · have e0 : ordL (ks.drop i) (ks'.drop i) = ordL (ks.drop (i + 1)) (ks'.drop (i + 1)) := by
            rw [hks, hks', ordL, if_neg (fun hh => hh hm)]
          rw [e0]
          exact fun ex A' h' hh => hh
  apply Wc.seq
  refine Wc.forget (fun A => A.n = 70 ∧ A.defers = [] ∧ A.get 2 = .pointer (some (own h.next)) ∧ A.get 3 = .pointer (some (own h1.next))) ⟨by simp (config := {decide := true}) only [Ac.get_put, Ac.put_n, Ac.put_defers, if_true, if_false, and_true, n0], by simp (config := {decide := true}) only [Ac.get_put, Ac.put_n, Ac.put_defers, if_true, if_false, and_true, d0], by simp (config := {decide := true}) only [Ac.get_put, Ac.put_n, Ac.put_defers, if_true, if_false, and_true, n0, hfn], by simp (config := {decide := true}) only [Ac.get_put, Ac.put_n, Ac.put_defers, if_true, if_false, and_true, n0]⟩ ?_
  clear hA0 n0 g00 g01 d0
  rintro A0 ⟨n0, d0, a2, a3⟩
  repeat' (first
    | (with_reducible apply Wc.seq)
    | (refine Wc.ops (by repeat' (first
      | with_reducible exact RO.nil
      | ((with_reducible apply RO.run (awant_none rfl)); (focus ((first | simp (config := {decide := true}) only [awant, ayield_get, oper1, aop, opv, opvs, opvo, opvp, abuiltin, Ac.get_put, Ac.put_n, Ac.put_defers, if_true, if_false, and_true, decide_true, abin, isShift, aint, roV, pair, bind, Option.bind, acall, List.nil_append, List.append_nil, List.toList_toArray, List.getElem?_cons_zero, List.getElem?_cons_succ, Bool.not_true, Bool.not_false, n0, a2, a3, fa25_0, fa25_1, fa25_2, fa25_3, ld3, ld9, ld23, x0, x1, x2, x3, y0, y1, y2, y3, len23, astr] | skip); with_reducible rfl)))
      | ((with_reducible apply RO.runG); (focus rfl); (focus rfl); (focus (simp (config := {decide := true}) only [awant, ayield_get, oper1, aop, opv, opvs, opvo, opvp, abuiltin, Ac.get_put, Ac.put_n, Ac.put_defers, if_true, if_false, and_true, decide_true, abin, isShift, aint, roV, pair, bind, Option.bind, acall, List.nil_append, List.append_nil, List.toList_toArray, List.getElem?_cons_zero, List.getElem?_cons_succ, Bool.not_true, Bool.not_false, n0, a2, a3, fa25_0, fa25_1, fa25_2, fa25_3, ld3, ld9, ld23, x0, x1, x2, x3, y0, y1, y2, y3, len23, astr]; done)); (focus ((first | simp (config := {decide := true}) only [awant, ayield_get, oper1, aop, opv, opvs, opvo, opvp, abuiltin, Ac.get_put, Ac.put_n, Ac.put_defers, if_true, if_false, and_true, decide_true, abin, isShift, aint, roV, pair, bind, Option.bind, acall, List.nil_append, List.append_nil, List.toList_toArray, List.getElem?_cons_zero, List.getElem?_cons_succ, Bool.not_true, Bool.not_false, n0, a2, a3, fa25_0, fa25_1, fa25_2, fa25_3, ld3, ld9, ld23, x0, x1, x2, x3, y0, y1, y2, y3, len23, astr] | skip); with_reducible rfl)))
      | ((with_reducible apply RO.skipG); (focus rfl); (focus rfl); (focus (simp (config := {decide := true}) only [awant, ayield_get, oper1, aop, opv, opvs, opvo, opvp, abuiltin, Ac.get_put, Ac.put_n, Ac.put_defers, if_true, if_false, and_true, decide_true, abin, isShift, aint, roV, pair, bind, Option.bind, acall, List.nil_append, List.append_nil, List.toList_toArray, List.getElem?_cons_zero, List.getElem?_cons_succ, Bool.not_true, Bool.not_false, n0, a2, a3, fa25_0, fa25_1, fa25_2, fa25_3, ld3, ld9, ld23, x0, x1, x2, x3, y0, y1, y2, y3, len23, astr]; done))))) ?_)
    | (refine Wc.quiet (by kernel_rfl) (by repeat' (first
      | with_reducible exact QO.nil
      | ((with_reducible apply QO.cons rfl rfl); (focus ((first | simp (config := {decide := true}) only [awant, ayield_get, oper1, aop, opv, opvs, opvo, opvp, abuiltin, Ac.get_put, Ac.put_n, Ac.put_defers, if_true, if_false, and_true, decide_true, abin, isShift, aint, roV, pair, bind, Option.bind, acall, List.nil_append, List.append_nil, List.toList_toArray, List.getElem?_cons_zero, List.getElem?_cons_succ, Bool.not_true, Bool.not_false, n0, a2, a3, fa25_0, fa25_1, fa25_2, fa25_3, ld3, ld9, ld23, x0, x1, x2, x3, y0, y1, y2, y3, len23, astr] | skip); with_reducible rfl))))) ?_)
    | (refine Wc.cond2 (by simp (config := {decide := true}) only [awant, ayield_get, oper1, aop, opv, opvs, opvo, opvp, abuiltin, Ac.get_put, Ac.put_n, Ac.put_defers, if_true, if_false, and_true, decide_true, abin, isShift, aint, roV, pair, bind, Option.bind, acall, List.nil_append, List.append_nil, List.toList_toArray, List.getElem?_cons_zero, List.getElem?_cons_succ, Bool.not_true, Bool.not_false, n0, a2, a3, fa25_0, fa25_1, fa25_2, fa25_3, ld3, ld9, ld23, x0, x1, x2, x3, y0, y1, y2, y3, len23, astr]; try with_reducible rfl) (fun hb => ?_) (fun hb => ?_) <;> try contradiction)
    | refine Wc.skip ?_
    | refine Wc.ret ?_
    | refine Wc.exit ?_
    | refine Wc.block ?_)
  · have q1 : k ≠ k' := by simpa using (by assumption : (!decide (k = k')) = true)
    have q4 := of_decide_eq_true (by assumption : decide (k < k') = true)
    refine done_tmp (.inr rfl) (by simp (config := {decide := true}) only [Ac.get_put, Ac.put_n, Ac.put_defers, if_true, if_false, and_true, d0]) rfl ?_ hl2
    simp (config := {decide := true}) only [Ac.get_put, Ac.put_n, Ac.put_defers, if_true, if_false, and_true, n0]
    rw [ordI, if_pos q1, if_pos q4]
  · have q1 : k ≠ k' := by simpa using (by assumption : (!decide (k = k')) = true)
    have q4 := of_decide_eq_false (by assumption : decide (k < k') = false)
    refine done_tmp (.inr rfl) (by simp (config := {decide := true}) only [Ac.get_put, Ac.put_n, Ac.put_defers, if_true, if_false, and_true, d0]) rfl ?_ hl2
    simp (config := {decide := true}) only [Ac.get_put, Ac.put_n, Ac.put_defers, if_true, if_false, and_true, n0]
    rw [ordI, if_pos q1, if_neg q4]
  · have q1 : ¬ (k ≠ k') := by simpa using (by assumption : (!decide (k = k')) = false)
    have q2 : m ≠ m' := by simpa using (by assumption : (!decide (m = m')) = true)
    have q4 := of_decide_eq_true (by assumption : decide (m < m') = true)
    refine done_tmp (.inr rfl) (by simp (config := {decide := true}) only [Ac.get_put, Ac.put_n, Ac.put_defers, if_true, if_false, and_true, d0]) rfl ?_ hl2
    simp (config := {decide := true}) only [Ac.get_put, Ac.put_n, Ac.put_defers, if_true, if_false, and_true, n0]
    rw [ordI, if_neg q1, if_pos q2, if_pos q4]
  · have q1 : ¬ (k ≠ k') := by simpa using (by assumption : (!decide (k = k')) = false)
    have q2 : m ≠ m' := by simpa using (by assumption : (!decide (m = m')) = true)
    have q4 := of_decide_eq_false (by assumption : decide (m < m') = false)
    refine done_tmp (.inr rfl) (by simp (config := {decide := true}) only [Ac.get_put, Ac.put_n, Ac.put_defers, if_true, if_false, and_true, d0]) rfl ?_ hl2
    simp (config := {decide := true}) only [Ac.get_put, Ac.put_n, Ac.put_defers, if_true, if_false, and_true, n0]
    rw [ordI, if_neg q1, if_pos q2, if_neg q4]
  · have q1 : ¬ (k ≠ k') := by simpa using (by assumption : (!decide (k = k')) = false)
    have q2 : ¬ (m ≠ m') := by simpa using (by assumption : (!decide (m = m')) = false)
    have q3 : (tx.data.toList == tx'.data.toList) = false := by simpa using (by assumption : (!(tx.data.toList == tx'.data.toList)) = true)
    have q4 := (by assumption : Op.bytesLess tx.data.toList tx'.data.toList = true)
    refine done_tmp (.inr rfl) (by simp (config := {decide := true}) only [Ac.get_put, Ac.put_n, Ac.put_defers, if_true, if_false, and_true, d0]) rfl ?_ hl2
    simp (config := {decide := true}) only [Ac.get_put, Ac.put_n, Ac.put_defers, if_true, if_false, and_true, n0]
    rw [ordI, if_neg q1, if_neg q2, if_pos q3, if_pos q4]
  · have q1 : ¬ (k ≠ k') := by simpa using (by assumption : (!decide (k = k')) = false)
    have q2 : ¬ (m ≠ m') := by simpa using (by assumption : (!decide (m = m')) = false)
    have q3 : (tx.data.toList == tx'.data.toList) = false := by simpa using (by assumption : (!(tx.data.toList == tx'.data.toList)) = true)
    have q4 := (by assumption : Op.bytesLess tx.data.toList tx'.data.toList = false)
    refine done_tmp (.inr rfl) (by simp (config := {decide := true}) only [Ac.get_put, Ac.put_n, Ac.put_defers, if_true, if_false, and_true, d0]) rfl ?_ hl2
    simp (config := {decide := true}) only [Ac.get_put, Ac.put_n, Ac.put_defers, if_true, if_false, and_true, n0]
    rw [ordI, if_neg q1, if_neg q2, if_pos q3, if_neg (by rw [q4]; decide)]
  · have q1 : ¬ (k ≠ k') := by simpa using (by assumption : (!decide (k = k')) = false)
    have q2 : ¬ (m ≠ m') := by simpa using (by assumption : (!decide (m = m')) = false)
    have q3 : ¬ ((tx.data.toList == tx'.data.toList) = false) := by simpa using (by assumption : (!(tx.data.toList == tx'.data.toList)) = false)
    have e0 : ordI (.mk k m tx ks) (.mk k' m' tx' ks') = ordL ks ks' := by rw [ordI, if_neg q1, if_neg q2, if_neg q3]
    refine (key ks.length 0 _ rfl (Nat.zero_le _) ?_ ?_ ?_ ?_ ?_ ?_ (Nat.zero_le _)).mono ?_
    · simp (config := {decide := true}) only [Ac.get_put, Ac.put_n, Ac.put_defers, if_true, if_false, and_true, n0]
    · simp (config := {decide := true}) only [Ac.get_put, Ac.put_n, Ac.put_defers, if_true, if_false, and_true, d0]
    · simp (config := {decide := true}) only [Ac.get_put, Ac.put_n, Ac.put_defers, if_true, if_false, and_true, n0]
    · simp (config := {decide := true}) only [Ac.get_put, Ac.put_n, Ac.put_defers, if_true, if_false, and_true, n0, a2]
    · simp (config := {decide := true}) only [Ac.get_put, Ac.put_n, Ac.put_defers, if_true, if_false, and_true, n0, a3]
    · simp (config := {decide := true}) only [Ac.get_put, Ac.put_n, Ac.put_defers, if_true, if_false, and_true, n0]
      rfl
    · rw [List.drop_zero, List.drop_zero, ← e0]
      rintro ex A' h' ⟨rfl, nA, dA, ⟨rfl, e1, b2, b3⟩ | ⟨rfl, e1⟩⟩
      · simp only [if_true]
        repeat' (first
    | (with_reducible apply Wc.seq)
    | (refine Wc.ops (by repeat' (first
      | with_reducible exact RO.nil
      | ((with_reducible apply RO.run (awant_none rfl)); (focus ((first | simp (config := {decide := true}) only [awant, ayield_get, oper1, aop, opv, opvs, opvo, opvp, abuiltin, Ac.get_put, Ac.put_n, Ac.put_defers, if_true, if_false, and_true, decide_true, abin, isShift, aint, roV, pair, bind, Option.bind, acall, List.nil_append, List.append_nil, List.toList_toArray, List.getElem?_cons_zero, List.getElem?_cons_succ, Bool.not_true, Bool.not_false, nA, b2, b3, fa25_3, ld23, x3, y3, len23] | skip); with_reducible rfl)))
      | ((with_reducible apply RO.runG); (focus rfl); (focus rfl); (focus (simp (config := {decide := true}) only [awant, ayield_get, oper1, aop, opv, opvs, opvo, opvp, abuiltin, Ac.get_put, Ac.put_n, Ac.put_defers, if_true, if_false, and_true, decide_true, abin, isShift, aint, roV, pair, bind, Option.bind, acall, List.nil_append, List.append_nil, List.toList_toArray, List.getElem?_cons_zero, List.getElem?_cons_succ, Bool.not_true, Bool.not_false, nA, b2, b3, fa25_3, ld23, x3, y3, len23]; done)); (focus ((first | simp (config := {decide := true}) only [awant, ayield_get, oper1, aop, opv, opvs, opvo, opvp, abuiltin, Ac.get_put, Ac.put_n, Ac.put_defers, if_true, if_false, and_true, decide_true, abin, isShift, aint, roV, pair, bind, Option.bind, acall, List.nil_append, List.append_nil, List.toList_toArray, List.getElem?_cons_zero, List.getElem?_cons_succ, Bool.not_true, Bool.not_false, nA, b2, b3, fa25_3, ld23, x3, y3, len23] | skip); with_reducible rfl)))
      | ((with_reducible apply RO.skipG); (focus rfl); (focus rfl); (focus (simp (config := {decide := true}) only [awant, ayield_get, oper1, aop, opv, opvs, opvo, opvp, abuiltin, Ac.get_put, Ac.put_n, Ac.put_defers, if_true, if_false, and_true, decide_true, abin, isShift, aint, roV, pair, bind, Option.bind, acall, List.nil_append, List.append_nil, List.toList_toArray, List.getElem?_cons_zero, List.getElem?_cons_succ, Bool.not_true, Bool.not_false, nA, b2, b3, fa25_3, ld23, x3, y3, len23]; done))))) ?_)
    | (refine Wc.quiet (by kernel_rfl) (by repeat' (first
      | with_reducible exact QO.nil
      | ((with_reducible apply QO.cons rfl rfl); (focus ((first | simp (config := {decide := true}) only [awant, ayield_get, oper1, aop, opv, opvs, opvo, opvp, abuiltin, Ac.get_put, Ac.put_n, Ac.put_defers, if_true, if_false, and_true, decide_true, abin, isShift, aint, roV, pair, bind, Option.bind, acall, List.nil_append, List.append_nil, List.toList_toArray, List.getElem?_cons_zero, List.getElem?_cons_succ, Bool.not_true, Bool.not_false, nA, b2, b3, fa25_3, ld23, x3, y3, len23] | skip); with_reducible rfl))))) ?_)
    | (refine Wc.cond2 (by simp (config := {decide := true}) only [awant, ayield_get, oper1, aop, opv, opvs, opvo, opvp, abuiltin, Ac.get_put, Ac.put_n, Ac.put_defers, if_true, if_false, and_true, decide_true, abin, isShift, aint, roV, pair, bind, Option.bind, acall, List.nil_append, List.append_nil, List.toList_toArray, List.getElem?_cons_zero, List.getElem?_cons_succ, Bool.not_true, Bool.not_false, nA, b2, b3, fa25_3, ld23, x3, y3, len23]; try with_reducible rfl) (fun hb => ?_) (fun hb => ?_) <;> try contradiction)
    | refine Wc.skip ?_
    | refine Wc.ret ?_
    | refine Wc.exit ?_
    | refine Wc.block ?_)
        · have q4 := of_decide_eq_true (by assumption : decide ((ks.length : Int) < (ks'.length : Int)) = true)
          refine done_tmp (.inr rfl) (by simp (config := {decide := true}) only [Ac.get_put, Ac.put_n, Ac.put_defers, if_true, if_false, and_true, dA]) rfl ?_ hl2
          simp (config := {decide := true}) only [Ac.get_put, Ac.put_n, Ac.put_defers, if_true, if_false, and_true, nA]
          rw [e1, if_pos (by omega)]
        · have q4 := of_decide_eq_false (by assumption : decide ((ks.length : Int) < (ks'.length : Int)) = false)
          refine done_tmp (.inr rfl) (by simp (config := {decide := true}) only [Ac.get_put, Ac.put_n, Ac.put_defers, if_true, if_false, and_true, dA]) rfl ?_ hl2
          simp (config := {decide := true}) only [Ac.get_put, Ac.put_n, Ac.put_defers, if_true, if_false, and_true, nA]
          rw [e1, if_neg (by omega)]
      · exact done_tmp (.inr rfl) dA rfl e1 hl2
end Go.Proofs.YtofijpbmbmbnhaaDoor
/- The reference's comparing of two items. -/
set_option maxRecDepth 100000
set_option maxHeartbeats 4000000
namespace Go.Proofs.YtofijpbmbmbnhaaDoor
open Go Go.Hs Go.Proofs
variable {E : Env} {I : Known}

/-! ### 73 -/
theorem fn73 : tab.fn.get 73 = some Tryd.f73 := by kernel_rfl
def says73 (E : Env) : Says := fun s f args h v => f = 73 ∧ s = 0 ∧ ∃ t xv u yv, args = [xv, yv] ∧ rep E h t xv ∧ rep E h u yv ∧ v = .int .i64 (bothI t u)
theorem one73 (E : Env) : One (says73 E) := by
  rintro s s' f args h v v' ⟨_, _, t, xv, u, yv, rfl, h1, h3, rfl⟩ ⟨_, _, t', xv', u', yv', he, h2, h4, rfl⟩
  cases he
  rw [rep_one h1 h2, rep_one h3 h4]
theorem shown73 (hI : ∀ args h, I 73 args h = none) (h36 : ∀ t xv h, rep E h t xv → I 36 [xv] h = some (some (.int .i64 (chkI t 0 1).2, h))) : Shown tab E I (says73 E) := by
  rintro sz f args h v ⟨rfl, rfl, t, xv, u, yv, rfl, hr, hr', rfl⟩ hfr
  refine ⟨rfl, ?_⟩
  obtain ⟨k, m, tx, ks⟩ := t
  obtain ⟨sb, sc, rfl, hs⟩ := rep_slice hr
  obtain ⟨k', m', tx', ks'⟩ := u
  obtain ⟨sb', sc', rfl, hs'⟩ := rep_slice hr'
  have hJ : upTo (says73 E) I 0 = I := by funext f args h; exact upTo_none (fun _ _ hs => absurd hs (Nat.not_lt_zero _))
  rw [hJ]
  suffices hw : ∃ n v h', (ev tab E I n).call 73 [.agg ⟨[.int .i64 k, .int .i64 m, .string tx, .slice sb ks.length sc]⟩, .agg ⟨[.int .i64 k', .int .i64 m', .string tx', .slice sb' ks'.length sc']⟩] (fresh h) = some (v, h') ∧ (v = .int .i64 (bothI (.mk k m tx ks) (.mk k' m' tx' ks')) ∧ h'.log = []) by
    obtain ⟨n, v, h', h1, rfl, h3⟩ := hw
    exact ⟨n, h', h1, h3⟩
  refine Wc.call (hI _ _) fn73 rfl ?_
  generalize hA0 : (⟨T.ofList [.agg ⟨[.int .i64 k, .int .i64 m, .string tx, .slice sb ks.length sc]⟩, .agg ⟨[.int .i64 k', .int .i64 m', .string tx', .slice sb' ks'.length sc']⟩] 0 .nil, max ([.agg ⟨[.int .i64 k, .int .i64 m, .string tx, .slice sb ks.length sc]⟩, .agg ⟨[.int .i64 k', .int .i64 m', .string tx', .slice sb' ks'.length sc']⟩] : List Value).length Tryd.f73.ntmps, []⟩ : Ac) = A0
  have n0 : A0.n = 13 := by rw [← hA0]; rfl
  have g00 : A0.get 0 = .agg ⟨[.int .i64 k, .int .i64 m, .string tx, .slice sb ks.length sc]⟩ := by rw [← hA0]; rfl
  have g01 : A0.get 1 = .agg ⟨[.int .i64 k', .int .i64 m', .string tx', .slice sb' ks'.length sc']⟩ := by rw [← hA0]; rfl
  have d0 : A0.defers = [] := by rw [← hA0]
  apply Wc.seq
  refine Wc.ops (by repeat' (first
      | with_reducible exact RO.nil
      | ((with_reducible apply RO.run (awant_none rfl)); (focus ((first | simp (config := {decide := true}) only [awant, ayield_get, oper1, aop, opv, opvs, opvo, opvp, abuiltin, Ac.get_put, Ac.put_n, Ac.put_defers, if_true, if_false, and_true, decide_true, abin, isShift, aint, roV, pair, bind, Option.bind, acall, List.nil_append, List.append_nil, List.toList_toArray, List.getElem?_cons_zero, List.getElem?_cons_succ, Bool.not_true, Bool.not_false, n0, g00, g01] | skip); with_reducible rfl))))) ?_
  generalize hh1 : (fresh h).new (.cells (Value.agg ⟨[.int .i64 k, .int .i64 m, .string tx, .slice sb ks.length sc]⟩).cells.toList 25 none) = h1
  have hgr1 : Grows h h1 := by rw [← hh1]; exact grows_new (h := fresh h) hfr _
  have hf1 : ∀ k, h1.next ≤ k → h1.dyn.get k = none := by rw [← hh1]; exact new_fresh (h := fresh h) hfr _
  have q0 : h1.cells E (own h.next) 4 = some [.int .i64 k, .int .i64 m, .string tx, .slice sb ks.length sc] := by rw [← hh1]; exact box_cells (h := fresh h) rfl rfl
  have hl1 : h1.log = [] := by rw [← hh1]; rfl
  generalize hh2 : h1.new (.cells (Value.agg ⟨[.int .i64 k', .int .i64 m', .string tx', .slice sb' ks'.length sc']⟩).cells.toList 25 none) = h2
  have hgr2 : Grows h1 h2 := by rw [← hh2]; exact grows_new hf1 _
  have hgr : Grows h h2 := hgr1.trans hgr2
  have hl2 : h2.log = [] := by rw [← hh2]; exact hl1
  have x4 := cells_grow hgr2 q0
  have y4 : h2.cells E (own h1.next) 4 = some [.int .i64 k', .int .i64 m', .string tx', .slice sb' ks'.length sc'] := by rw [← hh2]; exact box_cells rfl rfl
  have hfn : (fresh h).next = h.next := rfl
  clear hh1 hh2 q0
  have c1 := ev_known (D := tab) (E := E) (h36 _ _ _ (rep_grow hgr hr))
  have c2 := ev_known (D := tab) (E := E) (h36 _ _ _ (rep_grow hgr hr'))
  repeat' (first
    | (with_reducible apply Wc.seq)
    | (refine Wc.ops (by repeat' (first
      | with_reducible exact RO.nil
      | ((with_reducible apply RO.run (awant_none rfl)); (focus ((first | simp (config := {decide := true}) only [awant, ayield_get, oper1, aop, opv, opvs, opvo, opvp, abuiltin, Ac.get_put, Ac.put_n, Ac.put_defers, if_true, if_false, and_true, decide_true, abin, isShift, aint, roV, pair, bind, Option.bind, acall, List.nil_append, List.append_nil, List.toList_toArray, List.getElem?_cons_zero, List.getElem?_cons_succ, Bool.not_true, Bool.not_false, n0, g00, g01, hfn, ld25, x4, y4, c1, c2] | skip); with_reducible rfl))))) ?_)
    | (refine Wc.cond2 (by simp (config := {decide := true}) only [awant, ayield_get, oper1, aop, opv, opvs, opvo, opvp, abuiltin, Ac.get_put, Ac.put_n, Ac.put_defers, if_true, if_false, and_true, decide_true, abin, isShift, aint, roV, pair, bind, Option.bind, acall, List.nil_append, List.append_nil, List.toList_toArray, List.getElem?_cons_zero, List.getElem?_cons_succ, Bool.not_true, Bool.not_false, n0, g00, g01, hfn, ld25, x4, y4, c1, c2]; try with_reducible rfl) (fun hb => ?_) (fun hb => ?_) <;> try contradiction)
    | refine Wc.skip ?_
    | refine Wc.ret ?_
    | refine Wc.exit ?_
    | refine Wc.block ?_)
  · have q : (chkI (.mk k m tx ks) 0 1).2 ≠ 0 := by simpa using (by assumption : (!decide ((chkI (.mk k m tx ks) 0 1).2 = 0)) = true)
    refine done_tmp (.inr rfl) (by simp (config := {decide := true}) only [Ac.get_put, Ac.put_n, Ac.put_defers, if_true, if_false, and_true, d0]) rfl ?_ hl2
    simp (config := {decide := true}) only [Ac.get_put, Ac.put_n, Ac.put_defers, if_true, if_false, and_true, n0]
    rw [bothI, if_pos q]
  · have q : ¬ ((chkI (.mk k m tx ks) 0 1).2 ≠ 0) := by simpa using (by assumption : (!decide ((chkI (.mk k m tx ks) 0 1).2 = 0)) = false)
    refine done_tmp (.inr rfl) (by simp (config := {decide := true}) only [Ac.get_put, Ac.put_n, Ac.put_defers, if_true, if_false, and_true, d0]) rfl ?_ hl2
    simp (config := {decide := true}) only [Ac.get_put, Ac.put_n, Ac.put_defers, if_true, if_false, and_true, n0]
    rw [bothI, if_neg q]

/-! ### 34 -/
theorem fn34 : tab.fn.get 34 = some Tryd.f34 := by kernel_rfl
def says34 (E : Env) : Says := fun s f args h v => f = 34 ∧ s = 0 ∧ ∃ t xv u yv, args = [xv, yv] ∧ rep E h t xv ∧ rep E h u yv ∧ v = .tuple #[.int .i64 (cmpI t u).1, .int .i64 (cmpI t u).2]
theorem one34 (E : Env) : One (says34 E) := by
  rintro s s' f args h v v' ⟨_, _, t, xv, u, yv, rfl, h1, h3, rfl⟩ ⟨_, _, t', xv', u', yv', he, h2, h4, rfl⟩
  cases he
  rw [rep_one h1 h2, rep_one h3 h4]
theorem shown34 (hI : ∀ args h, I 34 args h = none) (h73 : ∀ t xv u yv h, rep E h t xv → rep E h u yv → I 73 [xv, yv] h = some (some (.int .i64 (bothI t u), h))) (h74 : ∀ t xv u yv h, rep E h t xv → rep E h u yv → I 74 [xv, yv] h = some (some (.int .i64 (ordI t u), h))) : Shown tab E I (says34 E) := by
  rintro sz f args h v ⟨rfl, rfl, t, xv, u, yv, rfl, hr, hr', rfl⟩ hfr
  refine ⟨rfl, ?_⟩
  obtain ⟨k, m, tx, ks⟩ := t
  obtain ⟨sb, sc, rfl, hs⟩ := rep_slice hr
  obtain ⟨k', m', tx', ks'⟩ := u
  obtain ⟨sb', sc', rfl, hs'⟩ := rep_slice hr'
  have hJ : upTo (says34 E) I 0 = I := by funext f args h; exact upTo_none (fun _ _ hs => absurd hs (Nat.not_lt_zero _))
  rw [hJ]
  suffices hw : ∃ n v h', (ev tab E I n).call 34 [.agg ⟨[.int .i64 k, .int .i64 m, .string tx, .slice sb ks.length sc]⟩, .agg ⟨[.int .i64 k', .int .i64 m', .string tx', .slice sb' ks'.length sc']⟩] (fresh h) = some (v, h') ∧ (v = .tuple #[.int .i64 (cmpI (.mk k m tx ks) (.mk k' m' tx' ks')).1, .int .i64 (cmpI (.mk k m tx ks) (.mk k' m' tx' ks')).2] ∧ h'.log = []) by
    obtain ⟨n, v, h', h1, rfl, h3⟩ := hw
    exact ⟨n, h', h1, h3⟩
  refine Wc.call (hI _ _) fn34 rfl ?_
  generalize hA0 : (⟨T.ofList [.agg ⟨[.int .i64 k, .int .i64 m, .string tx, .slice sb ks.length sc]⟩, .agg ⟨[.int .i64 k', .int .i64 m', .string tx', .slice sb' ks'.length sc']⟩] 0 .nil, max ([.agg ⟨[.int .i64 k, .int .i64 m, .string tx, .slice sb ks.length sc]⟩, .agg ⟨[.int .i64 k', .int .i64 m', .string tx', .slice sb' ks'.length sc']⟩] : List Value).length Tryd.f34.ntmps, []⟩ : Ac) = A0
  have n0 : A0.n = 16 := by rw [← hA0]; rfl
  have g00 : A0.get 0 = .agg ⟨[.int .i64 k, .int .i64 m, .string tx, .slice sb ks.length sc]⟩ := by rw [← hA0]; rfl
  have g01 : A0.get 1 = .agg ⟨[.int .i64 k', .int .i64 m', .string tx', .slice sb' ks'.length sc']⟩ := by rw [← hA0]; rfl
  have d0 : A0.defers = [] := by rw [← hA0]
  apply Wc.seq
  refine Wc.ops (by repeat' (first
      | with_reducible exact RO.nil
      | ((with_reducible apply RO.run (awant_none rfl)); (focus ((first | simp (config := {decide := true}) only [awant, ayield_get, oper1, aop, opv, opvs, opvo, opvp, abuiltin, Ac.get_put, Ac.put_n, Ac.put_defers, if_true, if_false, and_true, decide_true, abin, isShift, aint, roV, pair, bind, Option.bind, acall, List.nil_append, List.append_nil, List.toList_toArray, List.getElem?_cons_zero, List.getElem?_cons_succ, Bool.not_true, Bool.not_false, n0, g00, g01] | skip); with_reducible rfl))))) ?_
  generalize hh1 : (fresh h).new (.cells (Value.agg ⟨[.int .i64 k, .int .i64 m, .string tx, .slice sb ks.length sc]⟩).cells.toList 25 none) = h1
  have hgr1 : Grows h h1 := by rw [← hh1]; exact grows_new (h := fresh h) hfr _
  have hf1 : ∀ k, h1.next ≤ k → h1.dyn.get k = none := by rw [← hh1]; exact new_fresh (h := fresh h) hfr _
  have q0 : h1.cells E (own h.next) 4 = some [.int .i64 k, .int .i64 m, .string tx, .slice sb ks.length sc] := by rw [← hh1]; exact box_cells (h := fresh h) rfl rfl
  have hl1 : h1.log = [] := by rw [← hh1]; rfl
  generalize hh2 : h1.new (.cells (Value.agg ⟨[.int .i64 k', .int .i64 m', .string tx', .slice sb' ks'.length sc']⟩).cells.toList 25 none) = h2
  have hgr2 : Grows h1 h2 := by rw [← hh2]; exact grows_new hf1 _
  have hgr : Grows h h2 := hgr1.trans hgr2
  have hl2 : h2.log = [] := by rw [← hh2]; exact hl1
  have x4 := cells_grow hgr2 q0
  have y4 : h2.cells E (own h1.next) 4 = some [.int .i64 k', .int .i64 m', .string tx', .slice sb' ks'.length sc'] := by rw [← hh2]; exact box_cells rfl rfl
  have hfn : (fresh h).next = h.next := rfl
  clear hh1 hh2 q0
  have c1 := ev_known (D := tab) (E := E) (h73 _ _ _ _ _ (rep_grow hgr hr) (rep_grow hgr hr'))
  have c2 := ev_known (D := tab) (E := E) (h74 _ _ _ _ _ (rep_grow hgr hr) (rep_grow hgr hr'))
  repeat' (first
    | (with_reducible apply Wc.seq)
    | (refine Wc.ops (by repeat' (first
      | with_reducible exact RO.nil
      | ((with_reducible apply RO.run (awant_none rfl)); (focus ((first | simp (config := {decide := true}) only [awant, ayield_get, oper1, aop, opv, opvs, opvo, opvp, abuiltin, Ac.get_put, Ac.put_n, Ac.put_defers, if_true, if_false, and_true, decide_true, abin, isShift, aint, roV, pair, bind, Option.bind, acall, List.nil_append, List.append_nil, List.toList_toArray, List.getElem?_cons_zero, List.getElem?_cons_succ, Bool.not_true, Bool.not_false, n0, g00, g01, hfn, ld25, x4, y4, c1, c2] | skip); with_reducible rfl))))) ?_)
    | (refine Wc.cond2 (by simp (config := {decide := true}) only [awant, ayield_get, oper1, aop, opv, opvs, opvo, opvp, abuiltin, Ac.get_put, Ac.put_n, Ac.put_defers, if_true, if_false, and_true, decide_true, abin, isShift, aint, roV, pair, bind, Option.bind, acall, List.nil_append, List.append_nil, List.toList_toArray, List.getElem?_cons_zero, List.getElem?_cons_succ, Bool.not_true, Bool.not_false, n0, g00, g01, hfn, ld25, x4, y4, c1, c2]; try with_reducible rfl) (fun hb => ?_) (fun hb => ?_) <;> try contradiction)
    | refine Wc.skip ?_
    | refine Wc.ret ?_
    | refine Wc.exit ?_
    | refine Wc.block ?_)
  · have q : bothI (.mk k m tx ks) (.mk k' m' tx' ks') ≠ 0 := by simpa using (by assumption : (!decide (bothI (.mk k m tx ks) (.mk k' m' tx' ks') = 0)) = true)
    refine done_tmp2 (.inr rfl) (by simp (config := {decide := true}) only [Ac.get_put, Ac.put_n, Ac.put_defers, if_true, if_false, and_true, d0]) rfl ?_ ?_ hl2
    · simp (config := {decide := true}) only [Ac.get_put, Ac.put_n, Ac.put_defers, if_true, if_false, and_true, n0]
      rw [cmpI, if_pos q]
    · simp (config := {decide := true}) only [Ac.get_put, Ac.put_n, Ac.put_defers, if_true, if_false, and_true, n0]
      rw [cmpI, if_pos q]
  · have q : ¬ (bothI (.mk k m tx ks) (.mk k' m' tx' ks') ≠ 0) := by simpa using (by assumption : (!decide (bothI (.mk k m tx ks) (.mk k' m' tx' ks') = 0)) = false)
    refine done_tmp2 (.inr rfl) (by simp (config := {decide := true}) only [Ac.get_put, Ac.put_n, Ac.put_defers, if_true, if_false, and_true, d0]) rfl ?_ ?_ hl2
    · simp (config := {decide := true}) only [Ac.get_put, Ac.put_n, Ac.put_defers, if_true, if_false, and_true, n0]
      rw [cmpI, if_neg q]
    · simp (config := {decide := true}) only [Ac.get_put, Ac.put_n, Ac.put_defers, if_true, if_false, and_true, n0]
      rw [cmpI, if_neg q]
end Go.Proofs.YtofijpbmbmbnhaaDoor
