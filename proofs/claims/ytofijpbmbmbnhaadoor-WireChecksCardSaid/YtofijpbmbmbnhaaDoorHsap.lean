/- How two items compare, as the program tells it. -/
import Derived.Test.YtofijpbmbmbnhaaDoorHsao
set_option linter.unusedSimpArgs false
set_option linter.unusedVariables false
set_option maxRecDepth 100000
set_option maxHeartbeats 4000000
namespace Go.Proofs.YtofijpbmbmbnhaaDoor
open Go Go.Hs Go.Proofs
variable {E : Env} {I : Known}

theorem fn65 : tab.fn.get 65 = some Tryd.f65 := by kernel_rfl
theorem fn27 : tab.fn.get 27 = some Tryd.f27 := by kernel_rfl
theorem bs23_2 {a b c d a' b' c' d' : Value} {h : H} : abuildSlice tab 23 2 [(0, .agg ⟨[a, b, c, d]⟩), (1, .agg ⟨[a', b', c', d']⟩)] h = some (.slice (some (own h.next)) 2 2, h.new (.cells [a, b, c, d, a', b', c', d'] 25 none)) := by
  unfold abuildSlice
  simp only [ty23, tz25]
  rfl

noncomputable def loop65 : Code := loopOf Tryd.f65
def says65 (E : Env) : Says := fun s f args h v => f = 65 ∧ s = 0 ∧ ∃ ks sl, args = [sl] ∧ repK E h ks sl ∧ iszL ks ≤ 1000000 ∧ v = .int .i64 (chkAll ks)
theorem one65 (E : Env) : One (says65 E) := by
  rintro s s' f args h v v' ⟨_, _, t, xv, rfl, h1, _, rfl⟩ ⟨_, _, t', xv', he, h2, _, rfl⟩
  cases he
  rw [repK_one h1 h2]
theorem shown65 (hI : ∀ args h, I 65 args h = none) (h35 : ∀ t xv h, rep E h t xv → isz t ≤ 1000000 → I 35 [xv] h = some (some (.int .i64 (chkI t 0 1).2, h))) : ShownF tab E I (says65 E) := by
  rintro sz f args h v ⟨rfl, rfl, ks, sl, rfl, hr, hz, rfl⟩ hfit
  refine ⟨rfl, ?_⟩
  have hJ : upTo (says65 E) I 0 = I := by funext f args h; exact upTo_none (fun _ _ hs => absurd hs (Nat.not_lt_zero _))
  rw [hJ]
  have hgf : Grows h (fresh h) := fun _ _ hb => hb
  have hl0 : (fresh h).log = [] := rfl
  have hrg := repK_grow hgf hr
  obtain ⟨sb, sc, rfl, hlen, hs⟩ := repK_slice hrg
  suffices hw : ∃ n v h', (ev tab E I n).call 65 [.slice sb ks.length sc] (fresh h) = some (v, h') ∧ (v = .int .i64 (chkAll ks) ∧ h'.log = []) by
    obtain ⟨n, v, h', h1, rfl, h3⟩ := hw
    exact ⟨n, h', h1, h3⟩
  refine Wc.call (hI _ _) fn65 rfl ?_
  generalize hA0 : (⟨T.ofList [.slice sb ks.length sc] 0 .nil, max ([.slice sb ks.length sc] : List Value).length Tryd.f65.ntmps, []⟩ : Ac) = A0
  have n0 : A0.n = 18 := by rw [← hA0]; rfl
  have g00 : A0.get 0 = .slice sb ks.length sc := by rw [← hA0]; rfl
  have d0 : A0.defers = [] := by rw [← hA0]
  generalize hg : fresh h = g at hfit hl0 hgf hrg hs
  have key : ∀ (r i : Nat) (A : Ac) (g' : H), r = ks.length - i → i ≤ ks.length → A.n = 18 → A.defers = [] → A.get 6 = .slice sb ks.length sc → A.get 7 = .int .i64 (ks.length : Nat) → A.get 8 = .int .i64 (i : Nat) →
      Ahd g g' → chkAll ks = chkAll (ks.drop i) →
      Wc tab E I ⟨65, none⟩ (.loop loop65) A g' (fun ex A' g'' => A'.n = 18 ∧ A'.defers = [] ∧ Ahd g g'' ∧ ((ex = .exit 0 ∧ chkAll ks = 0) ∨ (ex = .ret ∧ A'.get 2 = .int .i64 (chkAll ks)))) := by
    intro r
    induction r with
    | zero =>
      intro i A g' hr' hi nA dA p6 p7 p8 ah ho
      have hil : i = ks.length := by omega
      have hlt : decide ((i : Int) < (ks.length : Int)) = false := by simp; omega
      apply Wc.loop
      simp only [loop65, loopOf, firstLoop, Option.getD, Tryd.f65]
      repeat' (first
    | (with_reducible apply Wc.seq)
    | (refine Wc.ops (by repeat' (first
      | with_reducible exact RO.nil
      | ((with_reducible apply RO.run (awant_none rfl)); (focus ((first | simp (config := {decide := true}) only [awant, ayield_get, oper1, aop, opv, opvs, opvo, opvp, abuiltin, Ac.get_put, Ac.put_n, Ac.put_defers, if_true, if_false, and_true, decide_true, abin, isShift, aint, roV, pair, bind, Option.bind, acall, List.nil_append, List.append_nil, List.toList_toArray, List.getElem?_cons_zero, List.getElem?_cons_succ, Bool.not_true, Bool.not_false, nA, p6, p7, p8, hlt] | skip); with_reducible rfl))))) ?_)
    | (refine Wc.cond2 (by simp (config := {decide := true}) only [awant, ayield_get, oper1, aop, opv, opvs, opvo, opvp, abuiltin, Ac.get_put, Ac.put_n, Ac.put_defers, if_true, if_false, and_true, decide_true, abin, isShift, aint, roV, pair, bind, Option.bind, acall, List.nil_append, List.append_nil, List.toList_toArray, List.getElem?_cons_zero, List.getElem?_cons_succ, Bool.not_true, Bool.not_false, nA, p6, p7, p8, hlt]; try with_reducible rfl) (fun hb => ?_) (fun hb => ?_) <;> try contradiction)
    | refine Wc.skip ?_
    | refine Wc.ret ?_
    | refine Wc.exit ?_
    | refine Wc.block ?_)
      refine ⟨by simp (config := {decide := true}) only [Ac.get_put, Ac.put_n, Ac.put_defers, if_true, if_false, and_true, nA], by simp (config := {decide := true}) only [Ac.get_put, Ac.put_n, Ac.put_defers, if_true, if_false, and_true, dA], ah, .inl ⟨rfl, ?_⟩⟩
      rw [ho, hil, List.drop_length, chkAll]
    | succ r ih =>
      intro i A g' hr' hi nA dA p6 p7 p8 ah ho
      have hil : i < ks.length := by omega
      have hlt : decide ((i : Int) < (ks.length : Int)) = true := by simp; omega
      have hks : ks.drop i = ks[i] :: ks.drop (i + 1) := List.drop_eq_getElem_cons hil
      rcases hs with hk0 | ⟨a, cs, he, hcs, hrl⟩
      · rw [hk0] at hil; simp at hil
      subst he
      have hfit' := ah.fit
      have hcs1 := cells_grow ah.grows hcs
      obtain ⟨hl4, hrk⟩ := repL_get i hrl (List.getElem?_eq_getElem hil)
      have hsub := cells_sub hcs1 (m := i * 4) (l := 4) (by omega)
      have hmem : ks[i] ∈ ks := List.getElem_mem hil
      have hkz := isz_mem hmem
      have hq : ∃ q0 q1 q2 q3, (cs.drop (i * 4)).take 4 = [q0, q1, q2, q3] ∧ [q0, q1, q2, q3].all isOne = true := by
        generalize hki : ks[i] = ki at hrk
        obtain ⟨k', m', tx', ks'⟩ := ki
        obtain ⟨sb', sc', e, _⟩ := rep_slice hrk
        simp only [Value.agg.injEq, Array.mk.injEq] at e
        exact ⟨_, _, _, _, e, rfl⟩
      obtain ⟨q0, q1, q2, q3, hq, hone⟩ := hq
      rw [hq] at hsub hrk
      have hir : inRange (i : Int) ks.length = true := by
        show Nat.blt i ks.length = true
        rw [Nat.blt_eq]; exact hil
      have w3 : IntKind.i64.wrap ((i : Int) + 1) = (i : Int) + 1 := wrap64 (by omega) (by omega)
      generalize hh3 : g'.new (.cells (Value.agg #[.int .i64 0, .int .i64 0, .string ⟨#[]⟩, .slice none 0 0]).cells.toList 25 none) = h3
      have a3 : Ahd g' h3 := by rw [← hh3]; exact Ahd.new0 hfit' rfl
      have c3 : h3.blk g'.next = some (.cells [.int .i64 0, .int .i64 0, .string ⟨#[]⟩, .slice none 0 0] 25 none) := by rw [← hh3]; exact new_blk_new rfl
      have hn3 : h3.next = g'.next + 1 := by rw [← hh3]; rfl
      have hst3 := st25 (a := q0) (b := q1) (c := q2) (d := q3) c3 hone (by rw [a3.mark]; exact hfit'.ok.2)
      generalize hh4 : h3.setb g'.next (.cells [q0, q1, q2, q3] 25 none) = h4 at hst3
      have a4 : Ahd g' h4 := by rw [← hh4]; exact a3.setb rfl (Nat.le_refl _) (by omega) hfit'
      have c4 : h4.blk g'.next = some (.cells [q0, q1, q2, q3] 25 none) := by rw [← hh4]; exact setb_same rfl
      have ah4 := ah.trans a4
      have cl1 : h4.cells E (own g'.next) 4 = some [q0, q1, q2, q3] := blk_cells c4 rfl hone
      have hcall : (ev tab E I 1).call 35 [.agg ⟨[q0, q1, q2, q3]⟩] h4 = some (.int .i64 (chkI ks[i] 0 1).2, h4) := ev_known (h35 _ _ _ (rep_grow ah4.grows hrk) (by omega))
      by_cases q : (chkI ks[i] 0 1).2 = 0
      · have dq : (!decide ((chkI ks[i] 0 1).2 = 0)) = false := by simp [q]
        apply Wc.loop
        simp only [loop65, loopOf, firstLoop, Option.getD, Tryd.f65]
        repeat' (first
    | (with_reducible apply Wc.seq)
    | (refine Wc.ops (by repeat' (first
      | with_reducible exact RO.nil
      | ((with_reducible apply RO.run (awant_none rfl)); (focus ((first | simp (config := {decide := true}) only [awant, ayield_get, oper1, aop, opv, opvs, opvo, opvp, abuiltin, Ac.get_put, Ac.put_n, Ac.put_defers, if_true, if_false, and_true, decide_true, abin, isShift, aint, roV, pair, bind, Option.bind, acall, List.nil_append, List.append_nil, List.toList_toArray, List.getElem?_cons_zero, List.getElem?_cons_succ, Bool.not_true, Bool.not_false, nA, p6, p7, p8, hlt, ia23 _ _ _ _ hir, Int.toNat_natCast, ld25, hsub, tz25, hh3, hst3, cl1, hcall, dq, w3] | skip); with_reducible rfl))))) ?_)
    | (refine Wc.cond2 (by simp (config := {decide := true}) only [awant, ayield_get, oper1, aop, opv, opvs, opvo, opvp, abuiltin, Ac.get_put, Ac.put_n, Ac.put_defers, if_true, if_false, and_true, decide_true, abin, isShift, aint, roV, pair, bind, Option.bind, acall, List.nil_append, List.append_nil, List.toList_toArray, List.getElem?_cons_zero, List.getElem?_cons_succ, Bool.not_true, Bool.not_false, nA, p6, p7, p8, hlt, ia23 _ _ _ _ hir, Int.toNat_natCast, ld25, hsub, tz25, hh3, hst3, cl1, hcall, dq, w3]; try with_reducible rfl) (fun hb => ?_) (fun hb => ?_) <;> try contradiction)
    | refine Wc.skip ?_
    | refine Wc.ret ?_
    | refine Wc.exit ?_
    | refine Wc.block ?_)
        refine (ih (i + 1) _ h4 (by omega) (by omega) ?_ ?_ ?_ ?_ ?_ ah4 ?_).mono ?_
        · simp (config := {decide := true}) only [Ac.get_put, Ac.put_n, Ac.put_defers, if_true, if_false, and_true, nA]
        · simp (config := {decide := true}) only [Ac.get_put, Ac.put_n, Ac.put_defers, if_true, if_false, and_true, dA]
        · simp (config := {decide := true}) only [Ac.get_put, Ac.put_n, Ac.put_defers, if_true, if_false, and_true, nA, p6]
        · simp (config := {decide := true}) only [Ac.get_put, Ac.put_n, Ac.put_defers, if_true, if_false, and_true, nA, p7]
        · simp (config := {decide := true}) only [Ac.get_put, Ac.put_n, Ac.put_defers, if_true, if_false, and_true, nA]
          rfl
        · rw [ho, hks, chkAll, if_neg (by simpa using q)]
        · rintro ex A' h' ⟨e1, e2, e3, ⟨rfl, e6⟩ | ⟨rfl, e6⟩⟩
          · exact ⟨e1, e2, e3, .inl ⟨rfl, e6⟩⟩
          · exact ⟨e1, e2, e3, .inr ⟨rfl, e6⟩⟩
      · have dq : (!decide ((chkI ks[i] 0 1).2 = 0)) = true := by simp [q]
        have e1 : chkAll ks = (chkI ks[i] 0 1).2 := by rw [ho, hks, chkAll, if_pos (by simpa using q)]
        apply Wc.loop
        simp only [loop65, loopOf, firstLoop, Option.getD, Tryd.f65]
        repeat' (first
    | (with_reducible apply Wc.seq)
    | (refine Wc.ops (by repeat' (first
      | with_reducible exact RO.nil
      | ((with_reducible apply RO.run (awant_none rfl)); (focus ((first | simp (config := {decide := true}) only [awant, ayield_get, oper1, aop, opv, opvs, opvo, opvp, abuiltin, Ac.get_put, Ac.put_n, Ac.put_defers, if_true, if_false, and_true, decide_true, abin, isShift, aint, roV, pair, bind, Option.bind, acall, List.nil_append, List.append_nil, List.toList_toArray, List.getElem?_cons_zero, List.getElem?_cons_succ, Bool.not_true, Bool.not_false, nA, p6, p7, p8, hlt, ia23 _ _ _ _ hir, Int.toNat_natCast, ld25, hsub, tz25, hh3, hst3, cl1, hcall, dq, w3] | skip); with_reducible rfl))))) ?_)
    | (refine Wc.cond2 (by simp (config := {decide := true}) only [awant, ayield_get, oper1, aop, opv, opvs, opvo, opvp, abuiltin, Ac.get_put, Ac.put_n, Ac.put_defers, if_true, if_false, and_true, decide_true, abin, isShift, aint, roV, pair, bind, Option.bind, acall, List.nil_append, List.append_nil, List.toList_toArray, List.getElem?_cons_zero, List.getElem?_cons_succ, Bool.not_true, Bool.not_false, nA, p6, p7, p8, hlt, ia23 _ _ _ _ hir, Int.toNat_natCast, ld25, hsub, tz25, hh3, hst3, cl1, hcall, dq, w3]; try with_reducible rfl) (fun hb => ?_) (fun hb => ?_) <;> try contradiction)
    | refine Wc.skip ?_
    | refine Wc.ret ?_
    | refine Wc.exit ?_
    | refine Wc.block ?_)
        refine ⟨by simp (config := {decide := true}) only [Ac.get_put, Ac.put_n, Ac.put_defers, if_true, if_false, and_true, nA], by simp (config := {decide := true}) only [Ac.get_put, Ac.put_n, Ac.put_defers, if_true, if_false, and_true, dA], ah4, .inr ⟨rfl, ?_⟩⟩
        rw [e1]
        simp (config := {decide := true}) only [Ac.get_put, Ac.put_n, Ac.put_defers, if_true, if_false, and_true, nA]
  repeat' (first
    | (with_reducible apply Wc.seq)
    | (refine Wc.ops (by repeat' (first
      | with_reducible exact RO.nil
      | ((with_reducible apply RO.run (awant_none rfl)); (focus ((first | simp (config := {decide := true}) only [awant, ayield_get, oper1, aop, opv, opvs, opvo, opvp, abuiltin, Ac.get_put, Ac.put_n, Ac.put_defers, if_true, if_false, and_true, decide_true, abin, isShift, aint, roV, pair, bind, Option.bind, acall, List.nil_append, List.append_nil, List.toList_toArray, List.getElem?_cons_zero, List.getElem?_cons_succ, Bool.not_true, Bool.not_false, n0, d0, g00, len23] | skip); with_reducible rfl))))) ?_)
    | (refine Wc.cond2 (by simp (config := {decide := true}) only [awant, ayield_get, oper1, aop, opv, opvs, opvo, opvp, abuiltin, Ac.get_put, Ac.put_n, Ac.put_defers, if_true, if_false, and_true, decide_true, abin, isShift, aint, roV, pair, bind, Option.bind, acall, List.nil_append, List.append_nil, List.toList_toArray, List.getElem?_cons_zero, List.getElem?_cons_succ, Bool.not_true, Bool.not_false, n0, d0, g00, len23]; try with_reducible rfl) (fun hb => ?_) (fun hb => ?_) <;> try contradiction)
    | refine Wc.skip ?_
    | refine Wc.ret ?_
    | refine Wc.exit ?_
    | refine Wc.block ?_)
  refine (key ks.length 0 _ g rfl (Nat.zero_le _) ?_ ?_ ?_ ?_ ?_ (Ahd.refl hfit) (by rw [List.drop_zero])).mono ?_
  · simp (config := {decide := true}) only [Ac.get_put, Ac.put_n, Ac.put_defers, if_true, if_false, and_true, n0]
  · simp (config := {decide := true}) only [Ac.get_put, Ac.put_n, Ac.put_defers, if_true, if_false, and_true, d0]
  · simp (config := {decide := true}) only [Ac.get_put, Ac.put_n, Ac.put_defers, if_true, if_false, and_true, n0]
  · simp (config := {decide := true}) only [Ac.get_put, Ac.put_n, Ac.put_defers, if_true, if_false, and_true, n0]
  · simp (config := {decide := true}) only [Ac.get_put, Ac.put_n, Ac.put_defers, if_true, if_false, and_true, n0]
    rfl
  · rintro ex A' g' ⟨e1, e2, e5, ⟨rfl, e6⟩ | ⟨rfl, e6⟩⟩
    · simp only [if_true]
      repeat' (first
    | (with_reducible apply Wc.seq)
    | (refine Wc.ops (by repeat' (first
      | with_reducible exact RO.nil
      | ((with_reducible apply RO.run (awant_none rfl)); (focus ((first | simp (config := {decide := true}) only [awant, ayield_get, oper1, aop, opv, opvs, opvo, opvp, abuiltin, Ac.get_put, Ac.put_n, Ac.put_defers, if_true, if_false, and_true, decide_true, abin, isShift, aint, roV, pair, bind, Option.bind, acall, List.nil_append, List.append_nil, List.toList_toArray, List.getElem?_cons_zero, List.getElem?_cons_succ, Bool.not_true, Bool.not_false, e1] | skip); with_reducible rfl))))) ?_)
    | (refine Wc.cond2 (by simp (config := {decide := true}) only [awant, ayield_get, oper1, aop, opv, opvs, opvo, opvp, abuiltin, Ac.get_put, Ac.put_n, Ac.put_defers, if_true, if_false, and_true, decide_true, abin, isShift, aint, roV, pair, bind, Option.bind, acall, List.nil_append, List.append_nil, List.toList_toArray, List.getElem?_cons_zero, List.getElem?_cons_succ, Bool.not_true, Bool.not_false, e1]; try with_reducible rfl) (fun hb => ?_) (fun hb => ?_) <;> try contradiction)
    | refine Wc.skip ?_
    | refine Wc.ret ?_
    | refine Wc.exit ?_
    | refine Wc.block ?_)
      refine done_tmp (.inr rfl) (by simp (config := {decide := true}) only [Ac.get_put, Ac.put_n, Ac.put_defers, if_true, if_false, and_true, e2]) rfl ?_ (e5.log.trans hl0)
      rw [e6]
      simp (config := {decide := true}) only [Ac.get_put, Ac.put_n, Ac.put_defers, if_true, if_false, and_true, e1]
    · exact done_tmp (.inr rfl) e2 rfl e6 (e5.log.trans hl0)

/-! ### 27 -/
def says27 (E : Env) : Says := fun s f args h v => f = 27 ∧ s = 0 ∧ ∃ t xv u yv, args = [xv, yv] ∧ rep E h t xv ∧ rep E h u yv ∧ isz t ≤ 400000 ∧ isz u ≤ 400000 ∧ v = .tuple #[.int .i64 (cmpI t u).1, .int .i64 (cmpI t u).2]
theorem one27 (E : Env) : One (says27 E) := by
  rintro s s' f args h v v' ⟨_, _, t, xv, u, yv, rfl, h1, h2, _, _, rfl⟩ ⟨_, _, t', xv', u', yv', he, h3, h4, _, _, rfl⟩
  cases he
  rw [rep_one h1 h3, rep_one h2 h4]
theorem shown27 (hI : ∀ args h, I 27 args h = none) (h65 : ∀ ks sl h, repK E h ks sl → iszL ks ≤ 1000000 → I 65 [sl] h = some (some (.int .i64 (chkAll ks), h))) (h66 : ∀ t xv u yv h, rep E h t xv → rep E h u yv → isz t ≤ 1000000 → I 66 [xv, yv] h = some (some (.int .i64 (ordI t u), h))) : ShownF tab E I (says27 E) := by
  rintro sz f args h v ⟨rfl, rfl, t, xv, u, yv, rfl, hr, hr', hz, hz', rfl⟩ hfit
  refine ⟨rfl, ?_⟩
  have hJ : upTo (says27 E) I 0 = I := by funext f args h; exact upTo_none (fun _ _ hs => absurd hs (Nat.not_lt_zero _))
  rw [hJ]
  obtain ⟨k, m, tx, ks⟩ := t
  obtain ⟨k', m', tx', ks'⟩ := u
  have hgf : Grows h (fresh h) := fun _ _ hb => hb
  have hl0 : (fresh h).log = [] := rfl
  have hrg := rep_grow hgf hr
  have hrg' := rep_grow hgf hr'
  obtain ⟨sb, sc, rfl, hs⟩ := rep_slice hr
  obtain ⟨sb', sc', rfl, hs'⟩ := rep_slice hr'
  suffices hw : ∃ n v h', (ev tab E I n).call 27 [.agg ⟨[.int .i64 k, .int .i64 m, .string tx, .slice sb ks.length sc]⟩, .agg ⟨[.int .i64 k', .int .i64 m', .string tx', .slice sb' ks'.length sc']⟩] (fresh h) = some (v, h') ∧ (v = .tuple #[.int .i64 (cmpI (.mk k m tx ks) (.mk k' m' tx' ks')).1, .int .i64 (cmpI (.mk k m tx ks) (.mk k' m' tx' ks')).2] ∧ h'.log = []) by
    obtain ⟨n, v, h', h1, rfl, h3⟩ := hw
    exact ⟨n, h', h1, h3⟩
  refine Wc.call (hI _ _) fn27 rfl ?_
  generalize hA0 : (⟨T.ofList [.agg ⟨[.int .i64 k, .int .i64 m, .string tx, .slice sb ks.length sc]⟩, .agg ⟨[.int .i64 k', .int .i64 m', .string tx', .slice sb' ks'.length sc']⟩] 0 .nil, max ([.agg ⟨[.int .i64 k, .int .i64 m, .string tx, .slice sb ks.length sc]⟩, .agg ⟨[.int .i64 k', .int .i64 m', .string tx', .slice sb' ks'.length sc']⟩] : List Value).length Tryd.f27.ntmps, []⟩ : Ac) = A0
  have n0 : A0.n = 17 := by rw [← hA0]; rfl
  have g00 : A0.get 0 = .agg ⟨[.int .i64 k, .int .i64 m, .string tx, .slice sb ks.length sc]⟩ := by rw [← hA0]; rfl
  have g01 : A0.get 1 = .agg ⟨[.int .i64 k', .int .i64 m', .string tx', .slice sb' ks'.length sc']⟩ := by rw [← hA0]; rfl
  have d0 : A0.defers = [] := by rw [← hA0]
  generalize hg : fresh h = g at hfit hl0 hgf hrg hrg'
  generalize hh1 : g.new (.cells (Value.agg ⟨[.int .i64 k, .int .i64 m, .string tx, .slice sb ks.length sc]⟩).cells.toList 25 none) = h1
  have a1 : Ahd g h1 := by rw [← hh1]; exact Ahd.new0 hfit rfl
  have b1 : h1.blk g.next = some (.cells [.int .i64 k, .int .i64 m, .string tx, .slice sb ks.length sc] 25 none) := by rw [← hh1]; exact new_blk_new rfl
  generalize hh2 : h1.new (.cells (Value.agg ⟨[.int .i64 k', .int .i64 m', .string tx', .slice sb' ks'.length sc']⟩).cells.toList 25 none) = h2
  have a2 : Ahd h1 h2 := by rw [← hh2]; exact Ahd.new0 a1.fit rfl
  have b2 : h2.blk h1.next = some (.cells [.int .i64 k', .int .i64 m', .string tx', .slice sb' ks'.length sc'] 25 none) := by rw [← hh2]; exact new_blk_new rfl
  have b1' := a2.grows _ _ b1
  have ag := a1.trans a2
  have x1 : h2.cells E (own g.next) 4 = some [.int .i64 k, .int .i64 m, .string tx, .slice sb ks.length sc] := blk_cells b1' rfl rfl
  have y1 : h2.cells E (own h1.next) 4 = some [.int .i64 k', .int .i64 m', .string tx', .slice sb' ks'.length sc'] := blk_cells b2 rfl rfl
  generalize hh3 : h2.new (.cells [.int .i64 k, .int .i64 m, .string tx, .slice sb ks.length sc, .int .i64 k', .int .i64 m', .string tx', .slice sb' ks'.length sc'] 25 none) = h3
  have a3 : Ahd h2 h3 := by rw [← hh3]; exact Ahd.new0 a2.fit rfl
  have b3 : h3.blk h2.next = some (.cells [.int .i64 k, .int .i64 m, .string tx, .slice sb ks.length sc, .int .i64 k', .int .i64 m', .string tx', .slice sb' ks'.length sc'] 25 none) := by rw [← hh3]; exact new_blk_new rfl
  have ag3 := ag.trans a3
  have x3 : h3.cells E (own g.next) 4 = some [.int .i64 k, .int .i64 m, .string tx, .slice sb ks.length sc] := cells_grow a3.grows x1
  have y3 : h3.cells E (own h1.next) 4 = some [.int .i64 k', .int .i64 m', .string tx', .slice sb' ks'.length sc'] := cells_grow a3.grows y1
  have hbs := bs23_2 (a := .int .i64 k) (b := .int .i64 m) (c := .string tx) (d := .slice sb ks.length sc) (a' := .int .i64 k') (b' := .int .i64 m') (c' := .string tx') (d' := .slice sb' ks'.length sc') (h := h2)
  rw [hh3] at hbs
  have hk : repK E h3 [.mk k m tx ks, .mk k' m' tx' ks'] (.slice (some (own h2.next)) 2 2) := by
    unfold repK
    rw [rep]
    refine ⟨_, rfl, .inr ⟨own h2.next, 2, _, rfl, ⟨Nat.le_refl _, by decide⟩, blk_cells b3 rfl rfl, ?_⟩⟩
    rw [repL]
    refine ⟨_, _, _, _, _, rfl, rep_grow ag3.grows hrg, ?_⟩
    rw [repL]
    refine ⟨_, _, _, _, _, rfl, rep_grow ag3.grows hrg', ?_⟩
    rw [repL]
  have c65 : (ev tab E I 1).call 65 [.slice (some (own h2.next)) 2 2] h3 = some (.int .i64 (bothI (.mk k m tx ks) (.mk k' m' tx' ks')), h3) := by
    rw [← chkAll_two]
    exact ev_known (h65 _ _ _ hk (by simp only [iszL]; omega))
  have c66 : (ev tab E I 1).call 66 [.agg ⟨[.int .i64 k, .int .i64 m, .string tx, .slice sb ks.length sc]⟩, .agg ⟨[.int .i64 k', .int .i64 m', .string tx', .slice sb' ks'.length sc']⟩] h3 = some (.int .i64 (ordI (.mk k m tx ks) (.mk k' m' tx' ks')), h3) :=
    ev_known (h66 _ _ _ _ _ (rep_grow ag3.grows hrg) (rep_grow ag3.grows hrg') (by omega))
  by_cases q : bothI (.mk k m tx ks) (.mk k' m' tx' ks') ≠ 0
  · have e1 : cmpI (.mk k m tx ks) (.mk k' m' tx' ks') = (0, bothI (.mk k m tx ks) (.mk k' m' tx' ks')) := by rw [cmpI, if_pos q]
    have dq : (!decide (bothI (.mk k m tx ks) (.mk k' m' tx' ks') = 0)) = true := by simp [q]
    repeat' (first
    | (with_reducible apply Wc.seq)
    | (refine Wc.ops (by repeat' (first
      | with_reducible exact RO.nil
      | ((with_reducible apply RO.run (awant_none rfl)); (focus ((first | simp (config := {decide := true}) only [awant, ayield_get, oper1, aop, opv, opvs, opvo, opvp, abuiltin, Ac.get_put, Ac.put_n, Ac.put_defers, if_true, if_false, and_true, decide_true, abin, isShift, aint, roV, pair, bind, Option.bind, acall, List.nil_append, List.append_nil, List.toList_toArray, List.getElem?_cons_zero, List.getElem?_cons_succ, Bool.not_true, Bool.not_false, n0, d0, g00, g01, hh1, hh2, ld25, x1, y1, hbs, c65, dq] | skip); with_reducible rfl))))) ?_)
    | (refine Wc.cond2 (by simp (config := {decide := true}) only [awant, ayield_get, oper1, aop, opv, opvs, opvo, opvp, abuiltin, Ac.get_put, Ac.put_n, Ac.put_defers, if_true, if_false, and_true, decide_true, abin, isShift, aint, roV, pair, bind, Option.bind, acall, List.nil_append, List.append_nil, List.toList_toArray, List.getElem?_cons_zero, List.getElem?_cons_succ, Bool.not_true, Bool.not_false, n0, d0, g00, g01, hh1, hh2, ld25, x1, y1, hbs, c65, dq]; try with_reducible rfl) (fun hb => ?_) (fun hb => ?_) <;> try contradiction)
    | refine Wc.skip ?_
    | refine Wc.ret ?_
    | refine Wc.exit ?_
    | refine Wc.block ?_)
    refine done_tmp2 (.inr rfl) (by simp (config := {decide := true}) only [Ac.get_put, Ac.put_n, Ac.put_defers, if_true, if_false, and_true, d0]) rfl ?_ ?_ (ag3.log.trans hl0)
    · simp (config := {decide := true}) only [Ac.get_put, Ac.put_n, Ac.put_defers, if_true, if_false, and_true, n0]
      rw [e1]
    · simp (config := {decide := true}) only [Ac.get_put, Ac.put_n, Ac.put_defers, if_true, if_false, and_true, n0]
      rw [e1]
  · have e1 : cmpI (.mk k m tx ks) (.mk k' m' tx' ks') = (ordI (.mk k m tx ks) (.mk k' m' tx' ks'), 0) := by rw [cmpI, if_neg q]
    have q := Classical.not_not.1 q
    have dq : (!decide (bothI (.mk k m tx ks) (.mk k' m' tx' ks') = 0)) = false := by simp [q]
    repeat' (first
    | (with_reducible apply Wc.seq)
    | (refine Wc.ops (by repeat' (first
      | with_reducible exact RO.nil
      | ((with_reducible apply RO.run (awant_none rfl)); (focus ((first | simp (config := {decide := true}) only [awant, ayield_get, oper1, aop, opv, opvs, opvo, opvp, abuiltin, Ac.get_put, Ac.put_n, Ac.put_defers, if_true, if_false, and_true, decide_true, abin, isShift, aint, roV, pair, bind, Option.bind, acall, List.nil_append, List.append_nil, List.toList_toArray, List.getElem?_cons_zero, List.getElem?_cons_succ, Bool.not_true, Bool.not_false, n0, d0, g00, g01, hh1, hh2, ld25, x1, y1, hbs, c65, dq, x3, y3, c66] | skip); with_reducible rfl))))) ?_)
    | (refine Wc.cond2 (by simp (config := {decide := true}) only [awant, ayield_get, oper1, aop, opv, opvs, opvo, opvp, abuiltin, Ac.get_put, Ac.put_n, Ac.put_defers, if_true, if_false, and_true, decide_true, abin, isShift, aint, roV, pair, bind, Option.bind, acall, List.nil_append, List.append_nil, List.toList_toArray, List.getElem?_cons_zero, List.getElem?_cons_succ, Bool.not_true, Bool.not_false, n0, d0, g00, g01, hh1, hh2, ld25, x1, y1, hbs, c65, dq, x3, y3, c66]; try with_reducible rfl) (fun hb => ?_) (fun hb => ?_) <;> try contradiction)
    | refine Wc.skip ?_
    | refine Wc.ret ?_
    | refine Wc.exit ?_
    | refine Wc.block ?_)
    refine done_tmp2 (.inr rfl) (by simp (config := {decide := true}) only [Ac.get_put, Ac.put_n, Ac.put_defers, if_true, if_false, and_true, d0]) rfl ?_ ?_ (ag3.log.trans hl0)
    · simp (config := {decide := true}) only [Ac.get_put, Ac.put_n, Ac.put_defers, if_true, if_false, and_true, n0]
      rw [e1]
    · simp (config := {decide := true}) only [Ac.get_put, Ac.put_n, Ac.put_defers, if_true, if_false, and_true, n0]
      rw [e1]
end Go.Proofs.YtofijpbmbmbnhaaDoor
/- The law on checks: it gives true. -/
set_option maxRecDepth 100000
set_option maxHeartbeats 4000000
namespace Go.Proofs.YtofijpbmbmbnhaaDoor
open Go Go.Hs Go.Proofs
variable {E : Env}

theorem fn7 : tab.fn.get 7 = some Tryd.f7 := by kernel_rfl
theorem dself (x : Int) : decide (x = x) = true := by simp
theorem ex31 (a b c : Value) : (#[a, b, c] : Array Value).toList[1]? = some b := rfl
theorem ex32 (a b c : Value) : (#[a, b, c] : Array Value).toList[2]? = some c := rfl

/-- What is known of the functions that the law calls. -/
structure Kn7 (E : Env) (K : Known) : Prop where
  k7 : ∀ args h, K 7 args h = none
  k30 : ∀ t xv h, rep E h t xv → K 30 [xv] h = some (some (.bool (decide (cntI t 0 0 > 6000)), h))
  k11 : ∀ h, K 11 [] h = some (some (.bool true, h))
  k31 : ∀ t xv h, rep E h t xv → isz t ≤ 1000000 → Fit h → ∃ v h', K 31 [xv] h = some (some (v, h')) ∧ Ahd h h' ∧ rep E (only (fun r => Nat.ble h.next r) h') t v
  k32 : ∀ t xv h, rep E h t xv → isz t ≤ 1000000 → K 32 [xv] h = some (some (.tuple #[.int .i64 (szI t).1, .int .i64 (szI t).2.1, .int .i64 (szI t).2.2], h))
  k33 : ∀ t xv h, rep E h t xv → K 33 [xv] h = some (some (.tuple #[.int .i64 (szI t).1, .int .i64 (szI t).2.1, .int .i64 (szI t).2.2], h))
  k27 : ∀ t xv u yv h, rep E h t xv → rep E h u yv → isz t ≤ 400000 → isz u ≤ 400000 → K 27 [xv, yv] h = some (some (.tuple #[.int .i64 (cmpI t u).1, .int .i64 (cmpI t u).2], h))
  k34 : ∀ t xv u yv h, rep E h t xv → rep E h u yv → K 34 [xv, yv] h = some (some (.tuple #[.int .i64 (cmpI t u).1, .int .i64 (cmpI t u).2], h))
  k35 : ∀ t xv h, rep E h t xv → isz t ≤ 1000000 → K 35 [xv] h = some (some (.int .i64 (chkI t 0 1).2, h))
  k36 : ∀ t xv h, rep E h t xv → K 36 [xv] h = some (some (.int .i64 (chkI t 0 1).2, h))
  k14 : ∀ t xv yv h, rep E h t xv → rep E h t yv → lvlI t ≤ 400 → isz t ≤ 1000000 → K 14 [xv, yv, .int .i64 0] h = some (some (.bool true, h))

theorem empty_fit : Fit H.empty := by
  refine ⟨fun _ _ => T.get_nil _, ⟨fun k xs ty r p hd => ?_, Nat.le_refl _⟩⟩
  rw [show H.empty.dyn = T.nil from rfl, T.get_nil] at hd
  cases hd

theorem walk7 {K : Known} (k : Kn7 E K) {t u : Hs.Item} {xv yv : Value} (hr : rep E H.empty t xv) (hr' : rep E H.empty u yv) : ∃ n h', (ev tab E K n).call 7 [xv, yv] H.empty = some (.bool true, h') := by
  suffices hw : ∃ n v h', (ev tab E K n).call 7 [xv, yv] H.empty = some (v, h') ∧ v = .bool true by
    obtain ⟨n, v, h', h1, rfl⟩ := hw
    exact ⟨n, h', h1⟩
  obtain ⟨x0, x1, x2, x3, rfl, hx1⟩ : ∃ a b c d, xv = .agg ⟨[a, b, c, d]⟩ ∧ [a, b, c, d].all isOne = true := by
    obtain ⟨k', m', tx', ks'⟩ := t
    obtain ⟨_, _, rfl, _⟩ := rep_slice hr
    exact ⟨_, _, _, _, rfl, rfl⟩
  obtain ⟨y0, y1, y2, y3, rfl, hy1⟩ : ∃ a b c d, yv = .agg ⟨[a, b, c, d]⟩ ∧ [a, b, c, d].all isOne = true := by
    obtain ⟨k', m', tx', ks'⟩ := u
    obtain ⟨_, _, rfl, _⟩ := rep_slice hr'
    exact ⟨_, _, _, _, rfl, rfl⟩
  have hfit := empty_fit
  generalize H.empty = g at hr hr' hfit ⊢
  refine Wc.call (k.k7 _ _) fn7 rfl ?_
  generalize hA0 : (⟨T.ofList [.agg ⟨[x0, x1, x2, x3]⟩, .agg ⟨[y0, y1, y2, y3]⟩] 0 .nil, max ([.agg ⟨[x0, x1, x2, x3]⟩, .agg ⟨[y0, y1, y2, y3]⟩] : List Value).length Tryd.f7.ntmps, []⟩ : Ac) = A0
  have n0 : A0.n = 95 := by rw [← hA0]; rfl
  have g00 : A0.get 0 = .agg ⟨[x0, x1, x2, x3]⟩ := by rw [← hA0]; rfl
  have g01 : A0.get 1 = .agg ⟨[y0, y1, y2, y3]⟩ := by rw [← hA0]; rfl
  have d0 : A0.defers = [] := by rw [← hA0]
  generalize hh1 : g.new (.cells (Value.agg ⟨[x0, x1, x2, x3]⟩).cells.toList 25 none) = h1
  have a1 : Ahd g h1 := by rw [← hh1]; exact Ahd.new0 hfit rfl
  have b1 : h1.blk g.next = some (.cells [x0, x1, x2, x3] 25 none) := by rw [← hh1]; exact new_blk_new rfl
  generalize hh2 : h1.new (.cells (Value.agg ⟨[y0, y1, y2, y3]⟩).cells.toList 25 none) = h2
  have a2 : Ahd h1 h2 := by rw [← hh2]; exact Ahd.new0 a1.fit rfl
  have b2 : h2.blk h1.next = some (.cells [y0, y1, y2, y3] 25 none) := by rw [← hh2]; exact new_blk_new rfl
  have b1' := a2.grows _ _ b1
  have ag := a1.trans a2
  have lx : h2.cells E (own g.next) 4 = some [x0, x1, x2, x3] := blk_cells b1' rfl hx1
  have ly : h2.cells E (own h1.next) 4 = some [y0, y1, y2, y3] := blk_cells b2 rfl hy1
  have r2 := rep_grow ag.grows hr
  have r2' := rep_grow ag.grows hr'
  have c30x : (ev tab E K 1).call 30 [.agg ⟨[x0, x1, x2, x3]⟩] h2 = some (.bool (decide (cntI t 0 0 > 6000)), h2) := ev_known (k.k30 _ _ _ r2)
  have c30y : (ev tab E K 1).call 30 [.agg ⟨[y0, y1, y2, y3]⟩] h2 = some (.bool (decide (cntI u 0 0 > 6000)), h2) := ev_known (k.k30 _ _ _ r2')
  have c11 : (ev tab E K 1).call 11 [] h2 = some (.bool true, h2) := ev_known (k.k11 _)
  by_cases qx : cntI t 0 0 > 6000
  · have dx : decide (cntI t 0 0 > 6000) = true := by simpa using qx
    rw [dx] at c30x
    repeat' (first
    | (with_reducible apply Wc.seq)
    | (refine Wc.ops (by repeat' (first
      | with_reducible exact RO.nil
      | ((with_reducible apply RO.run (awant_none rfl)); (focus ((first | simp (config := {decide := true}) only [awant, ayield_get, oper1, aop, opv, opvs, opvo, opvp, abuiltin, Ac.get_put, Ac.put_n, Ac.put_defers, if_true, if_false, and_true, decide_true, abin, isShift, aint, roV, pair, bind, Option.bind, acall, List.nil_append, List.append_nil, List.toList_toArray, List.getElem?_cons_zero, List.getElem?_cons_succ, Bool.not_true, Bool.not_false, n0, d0, g00, g01, hh1, hh2, ld25, lx, ly, c30x, c30y, c11] | skip); with_reducible rfl)))
      | ((with_reducible apply RO.runG); (focus rfl); (focus rfl); (focus (simp (config := {decide := true}) only [awant, ayield_get, oper1, aop, opv, opvs, opvo, opvp, abuiltin, Ac.get_put, Ac.put_n, Ac.put_defers, if_true, if_false, and_true, decide_true, abin, isShift, aint, roV, pair, bind, Option.bind, acall, List.nil_append, List.append_nil, List.toList_toArray, List.getElem?_cons_zero, List.getElem?_cons_succ, Bool.not_true, Bool.not_false, n0, d0, g00, g01, hh1, hh2, ld25, lx, ly, c30x, c30y, c11]; done)); (focus ((first | simp (config := {decide := true}) only [awant, ayield_get, oper1, aop, opv, opvs, opvo, opvp, abuiltin, Ac.get_put, Ac.put_n, Ac.put_defers, if_true, if_false, and_true, decide_true, abin, isShift, aint, roV, pair, bind, Option.bind, acall, List.nil_append, List.append_nil, List.toList_toArray, List.getElem?_cons_zero, List.getElem?_cons_succ, Bool.not_true, Bool.not_false, n0, d0, g00, g01, hh1, hh2, ld25, lx, ly, c30x, c30y, c11] | skip); with_reducible rfl)))
      | ((with_reducible apply RO.skipG); (focus rfl); (focus rfl); (focus (simp (config := {decide := true}) only [awant, ayield_get, oper1, aop, opv, opvs, opvo, opvp, abuiltin, Ac.get_put, Ac.put_n, Ac.put_defers, if_true, if_false, and_true, decide_true, abin, isShift, aint, roV, pair, bind, Option.bind, acall, List.nil_append, List.append_nil, List.toList_toArray, List.getElem?_cons_zero, List.getElem?_cons_succ, Bool.not_true, Bool.not_false, n0, d0, g00, g01, hh1, hh2, ld25, lx, ly, c30x, c30y, c11]; done))))) ?_)
    | (refine Wc.quiet (by kernel_rfl) (by repeat' (first
      | with_reducible exact QO.nil
      | ((with_reducible apply QO.cons rfl rfl); (focus ((first | simp (config := {decide := true}) only [awant, ayield_get, oper1, aop, opv, opvs, opvo, opvp, abuiltin, Ac.get_put, Ac.put_n, Ac.put_defers, if_true, if_false, and_true, decide_true, abin, isShift, aint, roV, pair, bind, Option.bind, acall, List.nil_append, List.append_nil, List.toList_toArray, List.getElem?_cons_zero, List.getElem?_cons_succ, Bool.not_true, Bool.not_false, n0, d0, g00, g01, hh1, hh2, ld25, lx, ly, c30x, c30y, c11] | skip); with_reducible rfl))))) ?_)
    | (refine Wc.cond2 (by simp (config := {decide := true}) only [awant, ayield_get, oper1, aop, opv, opvs, opvo, opvp, abuiltin, Ac.get_put, Ac.put_n, Ac.put_defers, if_true, if_false, and_true, decide_true, abin, isShift, aint, roV, pair, bind, Option.bind, acall, List.nil_append, List.append_nil, List.toList_toArray, List.getElem?_cons_zero, List.getElem?_cons_succ, Bool.not_true, Bool.not_false, n0, d0, g00, g01, hh1, hh2, ld25, lx, ly, c30x, c30y, c11]; try with_reducible rfl) (fun hb => ?_) (fun hb => ?_) <;> try contradiction)
    | refine Wc.skip ?_
    | refine Wc.ret ?_
    | refine Wc.exit ?_
    | refine Wc.block ?_)
    exact done_q (v := .bool true) (.inr rfl) (by simp (config := {decide := true}) only [Ac.get_put, Ac.put_n, Ac.put_defers, if_true, if_false, and_true, d0]) rfl (by simp (config := {decide := true}) only [Ac.get_put, Ac.put_n, Ac.put_defers, if_true, if_false, and_true, n0]) rfl
  have dx : decide (cntI t 0 0 > 6000) = false := by simpa using qx
  rw [dx] at c30x
  by_cases qy : cntI u 0 0 > 6000
  · have dy : decide (cntI u 0 0 > 6000) = true := by simpa using qy
    rw [dy] at c30y
    repeat' (first
    | (with_reducible apply Wc.seq)
    | (refine Wc.ops (by repeat' (first
      | with_reducible exact RO.nil
      | ((with_reducible apply RO.run (awant_none rfl)); (focus ((first | simp (config := {decide := true}) only [awant, ayield_get, oper1, aop, opv, opvs, opvo, opvp, abuiltin, Ac.get_put, Ac.put_n, Ac.put_defers, if_true, if_false, and_true, decide_true, abin, isShift, aint, roV, pair, bind, Option.bind, acall, List.nil_append, List.append_nil, List.toList_toArray, List.getElem?_cons_zero, List.getElem?_cons_succ, Bool.not_true, Bool.not_false, n0, d0, g00, g01, hh1, hh2, ld25, lx, ly, c30x, c30y, c11] | skip); with_reducible rfl)))
      | ((with_reducible apply RO.runG); (focus rfl); (focus rfl); (focus (simp (config := {decide := true}) only [awant, ayield_get, oper1, aop, opv, opvs, opvo, opvp, abuiltin, Ac.get_put, Ac.put_n, Ac.put_defers, if_true, if_false, and_true, decide_true, abin, isShift, aint, roV, pair, bind, Option.bind, acall, List.nil_append, List.append_nil, List.toList_toArray, List.getElem?_cons_zero, List.getElem?_cons_succ, Bool.not_true, Bool.not_false, n0, d0, g00, g01, hh1, hh2, ld25, lx, ly, c30x, c30y, c11]; done)); (focus ((first | simp (config := {decide := true}) only [awant, ayield_get, oper1, aop, opv, opvs, opvo, opvp, abuiltin, Ac.get_put, Ac.put_n, Ac.put_defers, if_true, if_false, and_true, decide_true, abin, isShift, aint, roV, pair, bind, Option.bind, acall, List.nil_append, List.append_nil, List.toList_toArray, List.getElem?_cons_zero, List.getElem?_cons_succ, Bool.not_true, Bool.not_false, n0, d0, g00, g01, hh1, hh2, ld25, lx, ly, c30x, c30y, c11] | skip); with_reducible rfl)))
      | ((with_reducible apply RO.skipG); (focus rfl); (focus rfl); (focus (simp (config := {decide := true}) only [awant, ayield_get, oper1, aop, opv, opvs, opvo, opvp, abuiltin, Ac.get_put, Ac.put_n, Ac.put_defers, if_true, if_false, and_true, decide_true, abin, isShift, aint, roV, pair, bind, Option.bind, acall, List.nil_append, List.append_nil, List.toList_toArray, List.getElem?_cons_zero, List.getElem?_cons_succ, Bool.not_true, Bool.not_false, n0, d0, g00, g01, hh1, hh2, ld25, lx, ly, c30x, c30y, c11]; done))))) ?_)
    | (refine Wc.quiet (by kernel_rfl) (by repeat' (first
      | with_reducible exact QO.nil
      | ((with_reducible apply QO.cons rfl rfl); (focus ((first | simp (config := {decide := true}) only [awant, ayield_get, oper1, aop, opv, opvs, opvo, opvp, abuiltin, Ac.get_put, Ac.put_n, Ac.put_defers, if_true, if_false, and_true, decide_true, abin, isShift, aint, roV, pair, bind, Option.bind, acall, List.nil_append, List.append_nil, List.toList_toArray, List.getElem?_cons_zero, List.getElem?_cons_succ, Bool.not_true, Bool.not_false, n0, d0, g00, g01, hh1, hh2, ld25, lx, ly, c30x, c30y, c11] | skip); with_reducible rfl))))) ?_)
    | (refine Wc.cond2 (by simp (config := {decide := true}) only [awant, ayield_get, oper1, aop, opv, opvs, opvo, opvp, abuiltin, Ac.get_put, Ac.put_n, Ac.put_defers, if_true, if_false, and_true, decide_true, abin, isShift, aint, roV, pair, bind, Option.bind, acall, List.nil_append, List.append_nil, List.toList_toArray, List.getElem?_cons_zero, List.getElem?_cons_succ, Bool.not_true, Bool.not_false, n0, d0, g00, g01, hh1, hh2, ld25, lx, ly, c30x, c30y, c11]; try with_reducible rfl) (fun hb => ?_) (fun hb => ?_) <;> try contradiction)
    | refine Wc.skip ?_
    | refine Wc.ret ?_
    | refine Wc.exit ?_
    | refine Wc.block ?_)
    exact done_q (v := .bool true) (.inr rfl) (by simp (config := {decide := true}) only [Ac.get_put, Ac.put_n, Ac.put_defers, if_true, if_false, and_true, d0]) rfl (by simp (config := {decide := true}) only [Ac.get_put, Ac.put_n, Ac.put_defers, if_true, if_false, and_true, n0]) rfl
  have dy : decide (cntI u 0 0 > 6000) = false := by simpa using qy
  rw [dy] at c30y
  obtain ⟨ct, lt⟩ := cntI_size t 0 0 (by omega)
  obtain ⟨cu, lu⟩ := cntI_size u 0 0 (by omega)
  have zt : isz t ≤ 6000 := by omega
  have zu : isz u ≤ 6000 := by omega
  repeat' (first
    | (with_reducible apply Wc.seq)
    | (refine Wc.ops (by repeat' (first
      | with_reducible exact RO.nil
      | ((with_reducible apply RO.run (awant_none rfl)); (focus ((first | simp (config := {decide := true}) only [awant, ayield_get, oper1, aop, opv, opvs, opvo, opvp, abuiltin, Ac.get_put, Ac.put_n, Ac.put_defers, if_true, if_false, and_true, decide_true, abin, isShift, aint, roV, pair, bind, Option.bind, acall, List.nil_append, List.append_nil, List.toList_toArray, List.getElem?_cons_zero, List.getElem?_cons_succ, Bool.not_true, Bool.not_false, n0, d0, g00, g01, hh1, hh2, ld25, lx, ly, c30x, c30y] | skip); with_reducible rfl)))
      | ((with_reducible apply RO.runG); (focus rfl); (focus rfl); (focus (simp (config := {decide := true}) only [awant, ayield_get, oper1, aop, opv, opvs, opvo, opvp, abuiltin, Ac.get_put, Ac.put_n, Ac.put_defers, if_true, if_false, and_true, decide_true, abin, isShift, aint, roV, pair, bind, Option.bind, acall, List.nil_append, List.append_nil, List.toList_toArray, List.getElem?_cons_zero, List.getElem?_cons_succ, Bool.not_true, Bool.not_false, n0, d0, g00, g01, hh1, hh2, ld25, lx, ly, c30x, c30y]; done)); (focus ((first | simp (config := {decide := true}) only [awant, ayield_get, oper1, aop, opv, opvs, opvo, opvp, abuiltin, Ac.get_put, Ac.put_n, Ac.put_defers, if_true, if_false, and_true, decide_true, abin, isShift, aint, roV, pair, bind, Option.bind, acall, List.nil_append, List.append_nil, List.toList_toArray, List.getElem?_cons_zero, List.getElem?_cons_succ, Bool.not_true, Bool.not_false, n0, d0, g00, g01, hh1, hh2, ld25, lx, ly, c30x, c30y] | skip); with_reducible rfl)))
      | ((with_reducible apply RO.skipG); (focus rfl); (focus rfl); (focus (simp (config := {decide := true}) only [awant, ayield_get, oper1, aop, opv, opvs, opvo, opvp, abuiltin, Ac.get_put, Ac.put_n, Ac.put_defers, if_true, if_false, and_true, decide_true, abin, isShift, aint, roV, pair, bind, Option.bind, acall, List.nil_append, List.append_nil, List.toList_toArray, List.getElem?_cons_zero, List.getElem?_cons_succ, Bool.not_true, Bool.not_false, n0, d0, g00, g01, hh1, hh2, ld25, lx, ly, c30x, c30y]; done))))) ?_)
    | (refine Wc.quiet (by kernel_rfl) (by repeat' (first
      | with_reducible exact QO.nil
      | ((with_reducible apply QO.cons rfl rfl); (focus ((first | simp (config := {decide := true}) only [awant, ayield_get, oper1, aop, opv, opvs, opvo, opvp, abuiltin, Ac.get_put, Ac.put_n, Ac.put_defers, if_true, if_false, and_true, decide_true, abin, isShift, aint, roV, pair, bind, Option.bind, acall, List.nil_append, List.append_nil, List.toList_toArray, List.getElem?_cons_zero, List.getElem?_cons_succ, Bool.not_true, Bool.not_false, n0, d0, g00, g01, hh1, hh2, ld25, lx, ly, c30x, c30y] | skip); with_reducible rfl))))) ?_)
    | (refine Wc.cond2 (by simp (config := {decide := true}) only [awant, ayield_get, oper1, aop, opv, opvs, opvo, opvp, abuiltin, Ac.get_put, Ac.put_n, Ac.put_defers, if_true, if_false, and_true, decide_true, abin, isShift, aint, roV, pair, bind, Option.bind, acall, List.nil_append, List.append_nil, List.toList_toArray, List.getElem?_cons_zero, List.getElem?_cons_succ, Bool.not_true, Bool.not_false, n0, d0, g00, g01, hh1, hh2, ld25, lx, ly, c30x, c30y]; try with_reducible rfl) (fun hb => ?_) (fun hb => ?_) <;> try contradiction)
    | refine Wc.skip ?_
    | refine Wc.ret ?_
    | refine Wc.exit ?_
    | refine Wc.block ?_)
  refine Wc.forget (fun A => A.n = 95 ∧ A.defers = [] ∧ A.get 2 = .pointer (some (own g.next)) ∧ A.get 3 = .pointer (some (own h1.next))) ⟨by simp (config := {decide := true}) only [Ac.get_put, Ac.put_n, Ac.put_defers, if_true, if_false, and_true, n0], by simp (config := {decide := true}) only [Ac.get_put, Ac.put_n, Ac.put_defers, if_true, if_false, and_true, d0], by simp (config := {decide := true}) only [Ac.get_put, Ac.put_n, Ac.put_defers, if_true, if_false, and_true, n0], by simp (config := {decide := true}) only [Ac.get_put, Ac.put_n, Ac.put_defers, if_true, if_false, and_true, n0]⟩ ?_
  clear hA0 n0 g00 g01 d0
  rintro A0 ⟨n0, d0, g2, g3⟩
  -- the copies
  have hf2 : Fit (fresh h2) := ag.fit.fresh
  obtain ⟨v1, h3', k31, a3', r3'⟩ := k.k31 t _ (fresh h2) (rep_grow (h := h2) (h' := fresh h2) (fun _ _ hb => hb) r2) (by omega) hf2
  obtain ⟨a3, _, _, o3⟩ := a3'.back ag.fit
  have l3 : h3'.log = [] := a3'.log
  have r3 : rep E (back h2 h3') t v1 := rep_grow (only_grows a3.fit) (rep_grow (o3 _) r3')
  have n3 : (back h2 h3').next = h3'.next := back_next _ _
  generalize hh3 : back h2 h3' = h3 at a3 r3 n3 o3
  have hf3 : Fit (fresh h3) := a3.fit.fresh
  have r2'' : rep E (fresh h3) u (.agg ⟨[y0, y1, y2, y3]⟩) := rep_grow (h := h3) (h' := fresh h3) (fun _ _ hb => hb) (rep_grow a3.grows r2')
  obtain ⟨v2, h4', k31', a4', r4'⟩ := k.k31 u _ (fresh h3) r2'' (by omega) hf3
  obtain ⟨a4, _, _, o4⟩ := a4'.back a3.fit
  have l4 : h4'.log = [] := a4'.log
  have r4 : rep E (back h3 h4') u v2 := rep_grow (only_grows a4.fit) (rep_grow (o4 _) r4')
  have n4 : (back h3 h4').next = h4'.next := back_next _ _
  generalize hh4 : back h3 h4' = h4 at a4 r4 n4 o4
  obtain ⟨p0, p1, p2, p3, rfl, hp1⟩ : ∃ a b c d, v1 = .agg ⟨[a, b, c, d]⟩ ∧ [a, b, c, d].all isOne = true := by
    obtain ⟨k', m', tx', ks'⟩ := t
    obtain ⟨_, _, rfl, _⟩ := rep_slice r3
    exact ⟨_, _, _, _, rfl, rfl⟩
  obtain ⟨s0, s1, s2, s3, rfl, hs1⟩ : ∃ a b c d, v2 = .agg ⟨[a, b, c, d]⟩ ∧ [a, b, c, d].all isOne = true := by
    obtain ⟨k', m', tx', ks'⟩ := u
    obtain ⟨_, _, rfl, _⟩ := rep_slice r4
    exact ⟨_, _, _, _, rfl, rfl⟩
  clear r3' r4' o3 o4
  have c31 : (ev tab E K 1).call 31 [.agg ⟨[x0, x1, x2, x3]⟩] (fresh h2) = some (.agg ⟨[p0, p1, p2, p3]⟩, h3') := ev_known k31
  have c31' : (ev tab E K 1).call 31 [.agg ⟨[y0, y1, y2, y3]⟩] (fresh h3) = some (.agg ⟨[s0, s1, s2, s3]⟩, h4') := ev_known k31'
  have lx2 : (fresh h2).cells E (own g.next) 4 = some [x0, x1, x2, x3] := lx
  have ly3 : (fresh h3).cells E (own h1.next) 4 = some [y0, y1, y2, y3] := cells_grow (h' := fresh h3) (fun k B hb => a3.grows k B hb) ly
  -- their variables
  generalize hB : Blk.cells (Value.agg #[.int .i64 0, .int .i64 0, .string ⟨#[]⟩, .slice none 0 0]).cells.toList 25 none = B
  generalize hh5 : h4.new B = h5
  have a5 : Ahd h4 h5 := by rw [← hh5, ← hB]; exact Ahd.new0 a4.fit rfl
  have b5 : h5.blk h4.next = some (.cells [.int .i64 0, .int .i64 0, .string ⟨#[]⟩, .slice none 0 0] 25 none) := by rw [← hh5, ← hB]; exact new_blk_new rfl
  have n5 : h5.next = h4.next + 1 := by rw [← hh5]; rfl
  generalize hh6 : h5.new B = h6
  have a6 : Ahd h5 h6 := by rw [← hh6, ← hB]; exact Ahd.new0 a5.fit rfl
  have b6 : h6.blk h5.next = some (.cells [.int .i64 0, .int .i64 0, .string ⟨#[]⟩, .slice none 0 0] 25 none) := by rw [← hh6, ← hB]; exact new_blk_new rfl
  have n6 : h6.next = h4.next + 2 := by rw [← hh6]; show h5.next + 1 = _; rw [n5]
  have a46 := a5.trans a6
  have hm4 : h4.mark ≤ h4.next := a4.fit.ok.2
  obtain ⟨h7', e7, l7, n7', hb7⟩ := put_fresh (vs := [p0, p1, p2, p3]) (a6.grows _ _ b5) (by simp) rfl hp1 (by omega) (by rw [a46.mark]; exact hm4)
  have st7 : astore tab 25 (own h4.next) (.agg ⟨[p0, p1, p2, p3]⟩) (fresh h6) = some h7' := by
    unfold astore
    rw [ty25]
    exact e7
  generalize hh7 : h6.setb h4.next (.cells [p0, p1, p2, p3] 25 none) = h7 at hb7
  have a47 : Ahd h4 h7 := by rw [← hh7]; exact a46.setb rfl (Nat.le_refl _) (by omega) a4.fit
  have b7 : h7.blk h4.next = some (.cells [p0, p1, p2, p3] 25 none) := by rw [← hh7]; exact setb_same rfl
  have b7' : h7.blk h5.next = some (.cells [.int .i64 0, .int .i64 0, .string ⟨#[]⟩, .slice none 0 0] 25 none) := by rw [← hh7, setb_ne (by omega)]; exact b6
  have n7 : h7.next = h6.next := by rw [← hh7]; rfl
  obtain ⟨h8', e8, l8, n8', hb8⟩ := put_fresh (vs := [s0, s1, s2, s3]) b7' (by simp) rfl hs1 (by omega) (by rw [a47.mark]; omega)
  have st8 : astore tab 25 (own h5.next) (.agg ⟨[s0, s1, s2, s3]⟩) (fresh h7) = some h8' := by
    unfold astore
    rw [ty25]
    exact e8
  generalize hh8 : h7.setb h5.next (.cells [s0, s1, s2, s3] 25 none) = h8 at hb8
  have a48 : Ahd h4 h8 := by rw [← hh8]; exact a47.setb rfl (by omega) (by omega) a4.fit
  have b8 : h8.blk h5.next = some (.cells [s0, s1, s2, s3] 25 none) := by rw [← hh8]; exact setb_same rfl
  have b8' : h8.blk h4.next = some (.cells [p0, p1, p2, p3] 25 none) := by rw [← hh8, setb_ne (by omega)]; exact b7
  have hfn4 : (fresh h4).next = h4.next := rfl
  have hfn5 : (fresh h5).next = h5.next := rfl
  clear b7 b7' e7 e8
  refine Wc.drawQ 1 (by kernel_rfl) ?_
  refine FQ.pure rfl rfl (by simp (config := {decide := true}) only [awant, ayield_get, oper1, aop, opv, opvs, opvo, opvp, abuiltin, Ac.get_put, Ac.put_n, Ac.put_defers, if_true, if_false, and_true, decide_true, abin, isShift, aint, roV, pair, bind, Option.bind, acall, List.nil_append, List.append_nil, List.toList_toArray, List.getElem?_cons_zero, List.getElem?_cons_succ, Bool.not_true, Bool.not_false, n0, g2, ld25, lx2]; with_reducible rfl) ?_
  refine FQ.call (h1 := h3') (x := .agg ⟨[p0, p1, p2, p3]⟩) rfl rfl (by simp (config := {decide := true}) only [awant, ayield_get, oper1, aop, opv, opvs, opvo, opvp, abuiltin, Ac.get_put, Ac.put_n, Ac.put_defers, if_true, if_false, and_true, decide_true, abin, isShift, aint, roV, pair, bind, Option.bind, acall, List.nil_append, List.append_nil, List.toList_toArray, List.getElem?_cons_zero, List.getElem?_cons_succ, Bool.not_true, Bool.not_false, n0, c31]) l3 ?_
  rw [hh3]
  refine FQ.pure rfl rfl (by simp (config := {decide := true}) only [awant, ayield_get, oper1, aop, opv, opvs, opvo, opvp, abuiltin, Ac.get_put, Ac.put_n, Ac.put_defers, if_true, if_false, and_true, decide_true, abin, isShift, aint, roV, pair, bind, Option.bind, acall, List.nil_append, List.append_nil, List.toList_toArray, List.getElem?_cons_zero, List.getElem?_cons_succ, Bool.not_true, Bool.not_false, n0, g3, ld25, ly3]; with_reducible rfl) ?_
  refine FQ.call (h1 := h4') (x := .agg ⟨[s0, s1, s2, s3]⟩) rfl rfl (by simp (config := {decide := true}) only [awant, ayield_get, oper1, aop, opv, opvs, opvo, opvp, abuiltin, Ac.get_put, Ac.put_n, Ac.put_defers, if_true, if_false, and_true, decide_true, abin, isShift, aint, roV, pair, bind, Option.bind, acall, List.nil_append, List.append_nil, List.toList_toArray, List.getElem?_cons_zero, List.getElem?_cons_succ, Bool.not_true, Bool.not_false, n0, c31']) l4 ?_
  rw [hh4]
  refine FQ.new (x := .pointer (some (own h4.next))) (B := B) rfl rfl (by simp (config := {decide := true}) only [awant, ayield_get, oper1, aop, opv, opvs, opvo, opvp, abuiltin, Ac.get_put, Ac.put_n, Ac.put_defers, if_true, if_false, and_true, decide_true, abin, isShift, aint, roV, pair, bind, Option.bind, acall, List.nil_append, List.append_nil, List.toList_toArray, List.getElem?_cons_zero, List.getElem?_cons_succ, Bool.not_true, Bool.not_false, n0, tz25, hfn4, hB]) ?_
  rw [hh5]
  refine FQ.new (x := .pointer (some (own h5.next))) (B := B) rfl rfl (by simp (config := {decide := true}) only [awant, ayield_get, oper1, aop, opv, opvs, opvo, opvp, abuiltin, Ac.get_put, Ac.put_n, Ac.put_defers, if_true, if_false, and_true, decide_true, abin, isShift, aint, roV, pair, bind, Option.bind, acall, List.nil_append, List.append_nil, List.toList_toArray, List.getElem?_cons_zero, List.getElem?_cons_succ, Bool.not_true, Bool.not_false, n0, tz25, hfn5, hB]) ?_
  rw [hh6]
  refine FQ.store (h1 := h7') (k := h4.next) rfl rfl (by simp (config := {decide := true}) only [awant, ayield_get, oper1, aop, opv, opvs, opvo, opvp, abuiltin, Ac.get_put, Ac.put_n, Ac.put_defers, if_true, if_false, and_true, decide_true, abin, isShift, aint, roV, pair, bind, Option.bind, acall, List.nil_append, List.append_nil, List.toList_toArray, List.getElem?_cons_zero, List.getElem?_cons_succ, Bool.not_true, Bool.not_false, n0, st7]) l7 n7' (hb7.trans hh7.symm) ?_
  rw [hh7]
  refine FQ.store (h1 := h8') (k := h5.next) rfl rfl (by simp (config := {decide := true}) only [awant, ayield_get, oper1, aop, opv, opvs, opvo, opvp, abuiltin, Ac.get_put, Ac.put_n, Ac.put_defers, if_true, if_false, and_true, decide_true, abin, isShift, aint, roV, pair, bind, Option.bind, acall, List.nil_append, List.append_nil, List.toList_toArray, List.getElem?_cons_zero, List.getElem?_cons_succ, Bool.not_true, Bool.not_false, n0, st8]) l8 n8' (hb8.trans hh8.symm) ?_
  rw [hh8]
  refine FQ.nil ⟨?_, ?_⟩
  · refine allMeet_tail (l := [_, _, _, _, _, _]) ?_ ?_ ?_ (by kernel_rfl)
    · simp only [List.all_cons, calm, List.isEmpty_nil, Bool.true_and, List.all_nil, Bool.and_true]
      rfl
    · intro i e hi
      have hi6 : i < 6 := (List.getElem?_eq_some_iff.1 hi).1
      obtain rfl | rfl | rfl | rfl | rfl | rfl : i = 0 ∨ i = 1 ∨ i = 2 ∨ i = 3 ∨ i = 4 ∨ i = 5 := by omega
      · exact .inl (by kernel_rfl)
      · exact .inl (by kernel_rfl)
      · exact .inl (by kernel_rfl)
      · exact .inl (by kernel_rfl)
      · exact .inl (by kernel_rfl)
      · right
        cases hi
        have e1 : Nat.blt h4.next h5.next = true := by rw [Nat.blt_eq]; omega
        simp [meets, apart?, rootedStore, reads, pureOp, e1]
    · intro i e hi
      have hi6 : i < 6 := (List.getElem?_eq_some_iff.1 hi).1
      obtain rfl | rfl | rfl | rfl | rfl | rfl : i = 0 ∨ i = 1 ∨ i = 2 ∨ i = 3 ∨ i = 4 ∨ i = 5 := by omega
      all_goals exact .inl (by kernel_rfl)
  refine Wc.forget (fun A => A.n = 95 ∧ A.defers = [] ∧ A.get 2 = .pointer (some (own g.next)) ∧ A.get 3 = .pointer (some (own h1.next)) ∧ A.get 5 = .pointer (some (own h4.next)) ∧ A.get 6 = .pointer (some (own h5.next))) ⟨by simp (config := {decide := true}) only [Ac.get_put, Ac.put_n, Ac.put_defers, if_true, if_false, and_true, n0], by simp (config := {decide := true}) only [Ac.get_put, Ac.put_n, Ac.put_defers, if_true, if_false, and_true, d0], by simp (config := {decide := true}) only [Ac.get_put, Ac.put_n, Ac.put_defers, if_true, if_false, and_true, n0, g2], by simp (config := {decide := true}) only [Ac.get_put, Ac.put_n, Ac.put_defers, if_true, if_false, and_true, n0, g3], by simp (config := {decide := true}) only [Ac.get_put, Ac.put_n, Ac.put_defers, if_true, if_false, and_true, n0], by simp (config := {decide := true}) only [Ac.get_put, Ac.put_n, Ac.put_defers, if_true, if_false, and_true, n0]⟩ ?_
  clear n0 d0 g2 g3
  rintro A0 ⟨n0, d0, g2, g3, g5, g6⟩
  have a38 := a4.trans a48
  have a28 := a3.trans a38
  have R1 := rep_grow a38.grows r3
  have R2 := rep_grow a48.grows r4
  have R3 := rep_grow a28.grows r2
  have R4 := rep_grow a28.grows r2'
  have lx8 := cells_grow a28.grows lx
  have ly8 := cells_grow a28.grows ly
  have lp8 : h8.cells E (own h4.next) 4 = some [p0, p1, p2, p3] := blk_cells b8' rfl hp1
  have ls8 : h8.cells E (own h5.next) 4 = some [s0, s1, s2, s3] := blk_cells b8 rfl hs1
  have c32 : (ev tab E K 1).call 32 [.agg ⟨[p0, p1, p2, p3]⟩] h8 = some (.tuple #[.int .i64 (szI t).1, .int .i64 (szI t).2.1, .int .i64 (szI t).2.2], h8) := ev_known (k.k32 _ _ _ R1 (by omega))
  have c33 : (ev tab E K 1).call 33 [.agg ⟨[x0, x1, x2, x3]⟩] h8 = some (.tuple #[.int .i64 (szI t).1, .int .i64 (szI t).2.1, .int .i64 (szI t).2.2], h8) := ev_known (k.k33 _ _ _ R3)
  have c27 : (ev tab E K 1).call 27 [.agg ⟨[p0, p1, p2, p3]⟩, .agg ⟨[s0, s1, s2, s3]⟩] h8 = some (.tuple #[.int .i64 (cmpI t u).1, .int .i64 (cmpI t u).2], h8) := ev_known (k.k27 _ _ _ _ _ R1 R2 (by omega) (by omega))
  have c34 : (ev tab E K 1).call 34 [.agg ⟨[x0, x1, x2, x3]⟩, .agg ⟨[y0, y1, y2, y3]⟩] h8 = some (.tuple #[.int .i64 (cmpI t u).1, .int .i64 (cmpI t u).2], h8) := ev_known (k.k34 _ _ _ _ _ R3 R4)
  clear hh1 hh2 hh3 hh4 hh5 hh6 hh7 hh8 hB st7 st8 c31 c31' lx2 ly3
  repeat' (first
    | (with_reducible apply Wc.seq)
    | (refine Wc.ops (by repeat' (first
      | with_reducible exact RO.nil
      | ((with_reducible apply RO.run (awant_none rfl)); (focus ((first | simp (config := {decide := true}) only [awant, ayield_get, oper1, aop, opv, opvs, opvo, opvp, abuiltin, Ac.get_put, Ac.put_n, Ac.put_defers, if_true, if_false, and_true, decide_true, abin, isShift, aint, roV, pair, bind, Option.bind, acall, List.nil_append, List.append_nil, List.toList_toArray, List.getElem?_cons_zero, List.getElem?_cons_succ, Bool.not_true, Bool.not_false, n0, d0, g2, g3, g5, g6, ld25, lx8, ly8, lp8, ls8, c32, c33, c27, c34, ex30, ex31, ex32, ex0, ex1] | skip); with_reducible rfl))))) ?_)
    | (refine Wc.cond2 (by simp (config := {decide := true}) only [awant, ayield_get, oper1, aop, opv, opvs, opvo, opvp, abuiltin, Ac.get_put, Ac.put_n, Ac.put_defers, if_true, if_false, and_true, decide_true, abin, isShift, aint, roV, pair, bind, Option.bind, acall, List.nil_append, List.append_nil, List.toList_toArray, List.getElem?_cons_zero, List.getElem?_cons_succ, Bool.not_true, Bool.not_false, n0, d0, g2, g3, g5, g6, ld25, lx8, ly8, lp8, ls8, c32, c33, c27, c34, ex30, ex31, ex32, ex0, ex1]; try with_reducible rfl) (fun hb => ?_) (fun hb => ?_) <;> try contradiction)
    | refine Wc.skip ?_
    | refine Wc.ret ?_
    | refine Wc.exit ?_
    | refine Wc.block ?_)
  refine Wc.forget (fun A => A.n = 95 ∧ A.defers = [] ∧ A.get 2 = .pointer (some (own g.next)) ∧ A.get 3 = .pointer (some (own h1.next)) ∧ A.get 5 = .pointer (some (own h4.next)) ∧ A.get 6 = .pointer (some (own h5.next)) ∧ A.get 7 = .int .i64 (szI t).1 ∧ A.get 8 = .int .i64 (szI t).2.1 ∧ A.get 9 = .int .i64 (szI t).2.2 ∧ A.get 10 = .int .i64 (szI t).1 ∧ A.get 11 = .int .i64 (szI t).2.1 ∧ A.get 12 = .int .i64 (szI t).2.2 ∧ A.get 13 = .int .i64 (cmpI t u).1 ∧ A.get 14 = .int .i64 (cmpI t u).2 ∧ A.get 15 = .int .i64 (cmpI t u).1 ∧ A.get 16 = .int .i64 (cmpI t u).2) ⟨by simp (config := {decide := true}) only [Ac.get_put, Ac.put_n, Ac.put_defers, if_true, if_false, and_true, n0], by simp (config := {decide := true}) only [Ac.get_put, Ac.put_n, Ac.put_defers, if_true, if_false, and_true, d0], by simp (config := {decide := true}) only [Ac.get_put, Ac.put_n, Ac.put_defers, if_true, if_false, and_true, n0, g2], by simp (config := {decide := true}) only [Ac.get_put, Ac.put_n, Ac.put_defers, if_true, if_false, and_true, n0, g3], by simp (config := {decide := true}) only [Ac.get_put, Ac.put_n, Ac.put_defers, if_true, if_false, and_true, n0, g5], by simp (config := {decide := true}) only [Ac.get_put, Ac.put_n, Ac.put_defers, if_true, if_false, and_true, n0, g6], by simp (config := {decide := true}) only [Ac.get_put, Ac.put_n, Ac.put_defers, if_true, if_false, and_true, n0], by simp (config := {decide := true}) only [Ac.get_put, Ac.put_n, Ac.put_defers, if_true, if_false, and_true, n0], by simp (config := {decide := true}) only [Ac.get_put, Ac.put_n, Ac.put_defers, if_true, if_false, and_true, n0], by simp (config := {decide := true}) only [Ac.get_put, Ac.put_n, Ac.put_defers, if_true, if_false, and_true, n0], by simp (config := {decide := true}) only [Ac.get_put, Ac.put_n, Ac.put_defers, if_true, if_false, and_true, n0], by simp (config := {decide := true}) only [Ac.get_put, Ac.put_n, Ac.put_defers, if_true, if_false, and_true, n0], by simp (config := {decide := true}) only [Ac.get_put, Ac.put_n, Ac.put_defers, if_true, if_false, and_true, n0], by simp (config := {decide := true}) only [Ac.get_put, Ac.put_n, Ac.put_defers, if_true, if_false, and_true, n0], by simp (config := {decide := true}) only [Ac.get_put, Ac.put_n, Ac.put_defers, if_true, if_false, and_true, n0], by simp (config := {decide := true}) only [Ac.get_put, Ac.put_n, Ac.put_defers, if_true, if_false, and_true, n0]⟩ ?_
  clear n0 d0 g2 g3 g5 g6
  rintro A0 ⟨n0, d0, g2, g3, g5, g6, v7, v8, v9, v10, v11, v12, v13, v14, v15, v16⟩
  have hff : Grows h8 (fresh h8) := fun _ _ hb => hb
  have fx : (fresh h8).cells E (own g.next) 4 = some [x0, x1, x2, x3] := lx8
  have fy : (fresh h8).cells E (own h1.next) 4 = some [y0, y1, y2, y3] := ly8
  have fp : (fresh h8).cells E (own h4.next) 4 = some [p0, p1, p2, p3] := lp8
  have fs : (fresh h8).cells E (own h5.next) 4 = some [s0, s1, s2, s3] := ls8
  have c35 : (ev tab E K 1).call 35 [.agg ⟨[p0, p1, p2, p3]⟩] (fresh h8) = some (.int .i64 (chkI t 0 1).2, fresh h8) := ev_known (k.k35 _ _ _ (rep_grow hff R1) (by omega))
  have c36 : (ev tab E K 1).call 36 [.agg ⟨[x0, x1, x2, x3]⟩] (fresh h8) = some (.int .i64 (chkI t 0 1).2, fresh h8) := ev_known (k.k36 _ _ _ (rep_grow hff R3))
  have c14 : (ev tab E K 1).call 14 [.agg ⟨[p0, p1, p2, p3]⟩, .agg ⟨[x0, x1, x2, x3]⟩, .int .i64 0] (fresh h8) = some (.bool true, fresh h8) := ev_known (k.k14 _ _ _ _ (rep_grow hff R1) (rep_grow hff R3) (by omega) (by omega))
  have c14' : (ev tab E K 1).call 14 [.agg ⟨[s0, s1, s2, s3]⟩, .agg ⟨[y0, y1, y2, y3]⟩, .int .i64 0] (fresh h8) = some (.bool true, fresh h8) := ev_known (k.k14 _ _ _ _ (rep_grow hff R2) (rep_grow hff R4) (by omega) (by omega))
  have c11' : (ev tab E K 1).call 11 [] (fresh h8) = some (.bool true, fresh h8) := ev_known (k.k11 _)
  refine Wc.drawC 1 (by kernel_rfl) ?_
  (iterate 6 (first
      | ((apply FC.pure rfl rfl); (focus ((first | simp (config := {decide := true}) only [awant, ayield_get, oper1, aop, opv, opvs, opvo, opvp, abuiltin, Ac.get_put, Ac.put_n, Ac.put_defers, if_true, if_false, and_true, decide_true, abin, isShift, aint, roV, pair, bind, Option.bind, acall, List.nil_append, List.append_nil, List.toList_toArray, List.getElem?_cons_zero, List.getElem?_cons_succ, Bool.not_true, Bool.not_false, n0, g5, g2, ld25, fp, fx, c35, c36, dself] | skip); with_reducible rfl)))
      | ((apply FC.pureG rfl rfl); (focus (simp (config := {decide := true}) only [awant, ayield_get, oper1, aop, opv, opvs, opvo, opvp, abuiltin, Ac.get_put, Ac.put_n, Ac.put_defers, if_true, if_false, and_true, decide_true, abin, isShift, aint, roV, pair, bind, Option.bind, acall, List.nil_append, List.append_nil, List.toList_toArray, List.getElem?_cons_zero, List.getElem?_cons_succ, Bool.not_true, Bool.not_false, n0, g5, g2, ld25, fp, fx, c35, c36, dself]; done)); (focus rfl); (focus ((first | simp (config := {decide := true}) only [awant, ayield_get, oper1, aop, opv, opvs, opvo, opvp, abuiltin, Ac.get_put, Ac.put_n, Ac.put_defers, if_true, if_false, and_true, decide_true, abin, isShift, aint, roV, pair, bind, Option.bind, acall, List.nil_append, List.append_nil, List.toList_toArray, List.getElem?_cons_zero, List.getElem?_cons_succ, Bool.not_true, Bool.not_false, n0, g5, g2, ld25, fp, fx, c35, c36, dself] | skip); with_reducible rfl)))
      | ((apply FC.new rfl rfl); (focus ((first | simp (config := {decide := true}) only [awant, ayield_get, oper1, aop, opv, opvs, opvo, opvp, abuiltin, Ac.get_put, Ac.put_n, Ac.put_defers, if_true, if_false, and_true, decide_true, abin, isShift, aint, roV, pair, bind, Option.bind, acall, List.nil_append, List.append_nil, List.toList_toArray, List.getElem?_cons_zero, List.getElem?_cons_succ, Bool.not_true, Bool.not_false, n0, g5, g2, ld25, fp, fx, c35, c36, dself] | skip); with_reducible rfl)))))
  refine FC.forget (fun A => A.n = 95 ∧ A.defers = [] ∧ A.get 2 = .pointer (some (own g.next)) ∧ A.get 3 = .pointer (some (own h1.next)) ∧ A.get 5 = .pointer (some (own h4.next)) ∧ A.get 6 = .pointer (some (own h5.next)) ∧ A.get 7 = .int .i64 (szI t).1 ∧ A.get 8 = .int .i64 (szI t).2.1 ∧ A.get 9 = .int .i64 (szI t).2.2 ∧ A.get 10 = .int .i64 (szI t).1 ∧ A.get 11 = .int .i64 (szI t).2.1 ∧ A.get 12 = .int .i64 (szI t).2.2 ∧ A.get 13 = .int .i64 (cmpI t u).1 ∧ A.get 14 = .int .i64 (cmpI t u).2 ∧ A.get 15 = .int .i64 (cmpI t u).1 ∧ A.get 16 = .int .i64 (cmpI t u).2 ∧ A.get 57 = .bool true) ⟨by simp (config := {decide := true}) only [Ac.get_put, Ac.put_n, Ac.put_defers, if_true, if_false, and_true, n0], by simp (config := {decide := true}) only [Ac.get_put, Ac.put_n, Ac.put_defers, if_true, if_false, and_true, d0], by simp (config := {decide := true}) only [Ac.get_put, Ac.put_n, Ac.put_defers, if_true, if_false, and_true, n0, g2], by simp (config := {decide := true}) only [Ac.get_put, Ac.put_n, Ac.put_defers, if_true, if_false, and_true, n0, g3], by simp (config := {decide := true}) only [Ac.get_put, Ac.put_n, Ac.put_defers, if_true, if_false, and_true, n0, g5], by simp (config := {decide := true}) only [Ac.get_put, Ac.put_n, Ac.put_defers, if_true, if_false, and_true, n0, g6], by simp (config := {decide := true}) only [Ac.get_put, Ac.put_n, Ac.put_defers, if_true, if_false, and_true, n0, v7], by simp (config := {decide := true}) only [Ac.get_put, Ac.put_n, Ac.put_defers, if_true, if_false, and_true, n0, v8], by simp (config := {decide := true}) only [Ac.get_put, Ac.put_n, Ac.put_defers, if_true, if_false, and_true, n0, v9], by simp (config := {decide := true}) only [Ac.get_put, Ac.put_n, Ac.put_defers, if_true, if_false, and_true, n0, v10], by simp (config := {decide := true}) only [Ac.get_put, Ac.put_n, Ac.put_defers, if_true, if_false, and_true, n0, v11], by simp (config := {decide := true}) only [Ac.get_put, Ac.put_n, Ac.put_defers, if_true, if_false, and_true, n0, v12], by simp (config := {decide := true}) only [Ac.get_put, Ac.put_n, Ac.put_defers, if_true, if_false, and_true, n0, v13], by simp (config := {decide := true}) only [Ac.get_put, Ac.put_n, Ac.put_defers, if_true, if_false, and_true, n0, v14], by simp (config := {decide := true}) only [Ac.get_put, Ac.put_n, Ac.put_defers, if_true, if_false, and_true, n0, v15], by simp (config := {decide := true}) only [Ac.get_put, Ac.put_n, Ac.put_defers, if_true, if_false, and_true, n0, v16], by simp (config := {decide := true}) only [Ac.get_put, Ac.put_n, Ac.put_defers, if_true, if_false, and_true, n0]⟩ ?_
  clear n0 d0 g2 g3 g5 g6 v7 v8 v9 v10 v11 v12 v13 v14 v15 v16
  rintro A0 ⟨n0, d0, g2, g3, g5, g6, v7, v8, v9, v10, v11, v12, v13, v14, v15, v16, gb⟩
  (iterate 5 (first
      | ((apply FC.pure rfl rfl); (focus ((first | simp (config := {decide := true}) only [awant, ayield_get, oper1, aop, opv, opvs, opvo, opvp, abuiltin, Ac.get_put, Ac.put_n, Ac.put_defers, if_true, if_false, and_true, decide_true, abin, isShift, aint, roV, pair, bind, Option.bind, acall, List.nil_append, List.append_nil, List.toList_toArray, List.getElem?_cons_zero, List.getElem?_cons_succ, Bool.not_true, Bool.not_false, n0, gb, v7, v10, dself] | skip); with_reducible rfl)))
      | ((apply FC.pureG rfl rfl); (focus (simp (config := {decide := true}) only [awant, ayield_get, oper1, aop, opv, opvs, opvo, opvp, abuiltin, Ac.get_put, Ac.put_n, Ac.put_defers, if_true, if_false, and_true, decide_true, abin, isShift, aint, roV, pair, bind, Option.bind, acall, List.nil_append, List.append_nil, List.toList_toArray, List.getElem?_cons_zero, List.getElem?_cons_succ, Bool.not_true, Bool.not_false, n0, gb, v7, v10, dself]; done)); (focus rfl); (focus ((first | simp (config := {decide := true}) only [awant, ayield_get, oper1, aop, opv, opvs, opvo, opvp, abuiltin, Ac.get_put, Ac.put_n, Ac.put_defers, if_true, if_false, and_true, decide_true, abin, isShift, aint, roV, pair, bind, Option.bind, acall, List.nil_append, List.append_nil, List.toList_toArray, List.getElem?_cons_zero, List.getElem?_cons_succ, Bool.not_true, Bool.not_false, n0, gb, v7, v10, dself] | skip); with_reducible rfl)))
      | ((apply FC.new rfl rfl); (focus ((first | simp (config := {decide := true}) only [awant, ayield_get, oper1, aop, opv, opvs, opvo, opvp, abuiltin, Ac.get_put, Ac.put_n, Ac.put_defers, if_true, if_false, and_true, decide_true, abin, isShift, aint, roV, pair, bind, Option.bind, acall, List.nil_append, List.append_nil, List.toList_toArray, List.getElem?_cons_zero, List.getElem?_cons_succ, Bool.not_true, Bool.not_false, n0, gb, v7, v10, dself] | skip); with_reducible rfl)))))
  refine FC.forget (fun A => A.n = 95 ∧ A.defers = [] ∧ A.get 2 = .pointer (some (own g.next)) ∧ A.get 3 = .pointer (some (own h1.next)) ∧ A.get 5 = .pointer (some (own h4.next)) ∧ A.get 6 = .pointer (some (own h5.next)) ∧ A.get 7 = .int .i64 (szI t).1 ∧ A.get 8 = .int .i64 (szI t).2.1 ∧ A.get 9 = .int .i64 (szI t).2.2 ∧ A.get 10 = .int .i64 (szI t).1 ∧ A.get 11 = .int .i64 (szI t).2.1 ∧ A.get 12 = .int .i64 (szI t).2.2 ∧ A.get 13 = .int .i64 (cmpI t u).1 ∧ A.get 14 = .int .i64 (cmpI t u).2 ∧ A.get 15 = .int .i64 (cmpI t u).1 ∧ A.get 16 = .int .i64 (cmpI t u).2 ∧ A.get 62 = .bool true) ⟨by simp (config := {decide := true}) only [Ac.get_put, Ac.put_n, Ac.put_defers, if_true, if_false, and_true, n0], by simp (config := {decide := true}) only [Ac.get_put, Ac.put_n, Ac.put_defers, if_true, if_false, and_true, d0], by simp (config := {decide := true}) only [Ac.get_put, Ac.put_n, Ac.put_defers, if_true, if_false, and_true, n0, g2], by simp (config := {decide := true}) only [Ac.get_put, Ac.put_n, Ac.put_defers, if_true, if_false, and_true, n0, g3], by simp (config := {decide := true}) only [Ac.get_put, Ac.put_n, Ac.put_defers, if_true, if_false, and_true, n0, g5], by simp (config := {decide := true}) only [Ac.get_put, Ac.put_n, Ac.put_defers, if_true, if_false, and_true, n0, g6], by simp (config := {decide := true}) only [Ac.get_put, Ac.put_n, Ac.put_defers, if_true, if_false, and_true, n0, v7], by simp (config := {decide := true}) only [Ac.get_put, Ac.put_n, Ac.put_defers, if_true, if_false, and_true, n0, v8], by simp (config := {decide := true}) only [Ac.get_put, Ac.put_n, Ac.put_defers, if_true, if_false, and_true, n0, v9], by simp (config := {decide := true}) only [Ac.get_put, Ac.put_n, Ac.put_defers, if_true, if_false, and_true, n0, v10], by simp (config := {decide := true}) only [Ac.get_put, Ac.put_n, Ac.put_defers, if_true, if_false, and_true, n0, v11], by simp (config := {decide := true}) only [Ac.get_put, Ac.put_n, Ac.put_defers, if_true, if_false, and_true, n0, v12], by simp (config := {decide := true}) only [Ac.get_put, Ac.put_n, Ac.put_defers, if_true, if_false, and_true, n0, v13], by simp (config := {decide := true}) only [Ac.get_put, Ac.put_n, Ac.put_defers, if_true, if_false, and_true, n0, v14], by simp (config := {decide := true}) only [Ac.get_put, Ac.put_n, Ac.put_defers, if_true, if_false, and_true, n0, v15], by simp (config := {decide := true}) only [Ac.get_put, Ac.put_n, Ac.put_defers, if_true, if_false, and_true, n0, v16], by simp (config := {decide := true}) only [Ac.get_put, Ac.put_n, Ac.put_defers, if_true, if_false, and_true, n0]⟩ ?_
  clear n0 d0 g2 g3 g5 g6 v7 v8 v9 v10 v11 v12 v13 v14 v15 v16 gb
  rintro A0 ⟨n0, d0, g2, g3, g5, g6, v7, v8, v9, v10, v11, v12, v13, v14, v15, v16, gb⟩
  (iterate 5 (first
      | ((apply FC.pure rfl rfl); (focus ((first | simp (config := {decide := true}) only [awant, ayield_get, oper1, aop, opv, opvs, opvo, opvp, abuiltin, Ac.get_put, Ac.put_n, Ac.put_defers, if_true, if_false, and_true, decide_true, abin, isShift, aint, roV, pair, bind, Option.bind, acall, List.nil_append, List.append_nil, List.toList_toArray, List.getElem?_cons_zero, List.getElem?_cons_succ, Bool.not_true, Bool.not_false, n0, gb, v8, v11, dself] | skip); with_reducible rfl)))
      | ((apply FC.pureG rfl rfl); (focus (simp (config := {decide := true}) only [awant, ayield_get, oper1, aop, opv, opvs, opvo, opvp, abuiltin, Ac.get_put, Ac.put_n, Ac.put_defers, if_true, if_false, and_true, decide_true, abin, isShift, aint, roV, pair, bind, Option.bind, acall, List.nil_append, List.append_nil, List.toList_toArray, List.getElem?_cons_zero, List.getElem?_cons_succ, Bool.not_true, Bool.not_false, n0, gb, v8, v11, dself]; done)); (focus rfl); (focus ((first | simp (config := {decide := true}) only [awant, ayield_get, oper1, aop, opv, opvs, opvo, opvp, abuiltin, Ac.get_put, Ac.put_n, Ac.put_defers, if_true, if_false, and_true, decide_true, abin, isShift, aint, roV, pair, bind, Option.bind, acall, List.nil_append, List.append_nil, List.toList_toArray, List.getElem?_cons_zero, List.getElem?_cons_succ, Bool.not_true, Bool.not_false, n0, gb, v8, v11, dself] | skip); with_reducible rfl)))
      | ((apply FC.new rfl rfl); (focus ((first | simp (config := {decide := true}) only [awant, ayield_get, oper1, aop, opv, opvs, opvo, opvp, abuiltin, Ac.get_put, Ac.put_n, Ac.put_defers, if_true, if_false, and_true, decide_true, abin, isShift, aint, roV, pair, bind, Option.bind, acall, List.nil_append, List.append_nil, List.toList_toArray, List.getElem?_cons_zero, List.getElem?_cons_succ, Bool.not_true, Bool.not_false, n0, gb, v8, v11, dself] | skip); with_reducible rfl)))))
  refine FC.forget (fun A => A.n = 95 ∧ A.defers = [] ∧ A.get 2 = .pointer (some (own g.next)) ∧ A.get 3 = .pointer (some (own h1.next)) ∧ A.get 5 = .pointer (some (own h4.next)) ∧ A.get 6 = .pointer (some (own h5.next)) ∧ A.get 7 = .int .i64 (szI t).1 ∧ A.get 8 = .int .i64 (szI t).2.1 ∧ A.get 9 = .int .i64 (szI t).2.2 ∧ A.get 10 = .int .i64 (szI t).1 ∧ A.get 11 = .int .i64 (szI t).2.1 ∧ A.get 12 = .int .i64 (szI t).2.2 ∧ A.get 13 = .int .i64 (cmpI t u).1 ∧ A.get 14 = .int .i64 (cmpI t u).2 ∧ A.get 15 = .int .i64 (cmpI t u).1 ∧ A.get 16 = .int .i64 (cmpI t u).2 ∧ A.get 67 = .bool true) ⟨by simp (config := {decide := true}) only [Ac.get_put, Ac.put_n, Ac.put_defers, if_true, if_false, and_true, n0], by simp (config := {decide := true}) only [Ac.get_put, Ac.put_n, Ac.put_defers, if_true, if_false, and_true, d0], by simp (config := {decide := true}) only [Ac.get_put, Ac.put_n, Ac.put_defers, if_true, if_false, and_true, n0, g2], by simp (config := {decide := true}) only [Ac.get_put, Ac.put_n, Ac.put_defers, if_true, if_false, and_true, n0, g3], by simp (config := {decide := true}) only [Ac.get_put, Ac.put_n, Ac.put_defers, if_true, if_false, and_true, n0, g5], by simp (config := {decide := true}) only [Ac.get_put, Ac.put_n, Ac.put_defers, if_true, if_false, and_true, n0, g6], by simp (config := {decide := true}) only [Ac.get_put, Ac.put_n, Ac.put_defers, if_true, if_false, and_true, n0, v7], by simp (config := {decide := true}) only [Ac.get_put, Ac.put_n, Ac.put_defers, if_true, if_false, and_true, n0, v8], by simp (config := {decide := true}) only [Ac.get_put, Ac.put_n, Ac.put_defers, if_true, if_false, and_true, n0, v9], by simp (config := {decide := true}) only [Ac.get_put, Ac.put_n, Ac.put_defers, if_true, if_false, and_true, n0, v10], by simp (config := {decide := true}) only [Ac.get_put, Ac.put_n, Ac.put_defers, if_true, if_false, and_true, n0, v11], by simp (config := {decide := true}) only [Ac.get_put, Ac.put_n, Ac.put_defers, if_true, if_false, and_true, n0, v12], by simp (config := {decide := true}) only [Ac.get_put, Ac.put_n, Ac.put_defers, if_true, if_false, and_true, n0, v13], by simp (config := {decide := true}) only [Ac.get_put, Ac.put_n, Ac.put_defers, if_true, if_false, and_true, n0, v14], by simp (config := {decide := true}) only [Ac.get_put, Ac.put_n, Ac.put_defers, if_true, if_false, and_true, n0, v15], by simp (config := {decide := true}) only [Ac.get_put, Ac.put_n, Ac.put_defers, if_true, if_false, and_true, n0, v16], by simp (config := {decide := true}) only [Ac.get_put, Ac.put_n, Ac.put_defers, if_true, if_false, and_true, n0]⟩ ?_
  clear n0 d0 g2 g3 g5 g6 v7 v8 v9 v10 v11 v12 v13 v14 v15 v16 gb
  rintro A0 ⟨n0, d0, g2, g3, g5, g6, v7, v8, v9, v10, v11, v12, v13, v14, v15, v16, gb⟩
  (iterate 5 (first
      | ((apply FC.pure rfl rfl); (focus ((first | simp (config := {decide := true}) only [awant, ayield_get, oper1, aop, opv, opvs, opvo, opvp, abuiltin, Ac.get_put, Ac.put_n, Ac.put_defers, if_true, if_false, and_true, decide_true, abin, isShift, aint, roV, pair, bind, Option.bind, acall, List.nil_append, List.append_nil, List.toList_toArray, List.getElem?_cons_zero, List.getElem?_cons_succ, Bool.not_true, Bool.not_false, n0, gb, v9, v12, dself] | skip); with_reducible rfl)))
      | ((apply FC.pureG rfl rfl); (focus (simp (config := {decide := true}) only [awant, ayield_get, oper1, aop, opv, opvs, opvo, opvp, abuiltin, Ac.get_put, Ac.put_n, Ac.put_defers, if_true, if_false, and_true, decide_true, abin, isShift, aint, roV, pair, bind, Option.bind, acall, List.nil_append, List.append_nil, List.toList_toArray, List.getElem?_cons_zero, List.getElem?_cons_succ, Bool.not_true, Bool.not_false, n0, gb, v9, v12, dself]; done)); (focus rfl); (focus ((first | simp (config := {decide := true}) only [awant, ayield_get, oper1, aop, opv, opvs, opvo, opvp, abuiltin, Ac.get_put, Ac.put_n, Ac.put_defers, if_true, if_false, and_true, decide_true, abin, isShift, aint, roV, pair, bind, Option.bind, acall, List.nil_append, List.append_nil, List.toList_toArray, List.getElem?_cons_zero, List.getElem?_cons_succ, Bool.not_true, Bool.not_false, n0, gb, v9, v12, dself] | skip); with_reducible rfl)))
      | ((apply FC.new rfl rfl); (focus ((first | simp (config := {decide := true}) only [awant, ayield_get, oper1, aop, opv, opvs, opvo, opvp, abuiltin, Ac.get_put, Ac.put_n, Ac.put_defers, if_true, if_false, and_true, decide_true, abin, isShift, aint, roV, pair, bind, Option.bind, acall, List.nil_append, List.append_nil, List.toList_toArray, List.getElem?_cons_zero, List.getElem?_cons_succ, Bool.not_true, Bool.not_false, n0, gb, v9, v12, dself] | skip); with_reducible rfl)))))
  refine FC.forget (fun A => A.n = 95 ∧ A.defers = [] ∧ A.get 2 = .pointer (some (own g.next)) ∧ A.get 3 = .pointer (some (own h1.next)) ∧ A.get 5 = .pointer (some (own h4.next)) ∧ A.get 6 = .pointer (some (own h5.next)) ∧ A.get 7 = .int .i64 (szI t).1 ∧ A.get 8 = .int .i64 (szI t).2.1 ∧ A.get 9 = .int .i64 (szI t).2.2 ∧ A.get 10 = .int .i64 (szI t).1 ∧ A.get 11 = .int .i64 (szI t).2.1 ∧ A.get 12 = .int .i64 (szI t).2.2 ∧ A.get 13 = .int .i64 (cmpI t u).1 ∧ A.get 14 = .int .i64 (cmpI t u).2 ∧ A.get 15 = .int .i64 (cmpI t u).1 ∧ A.get 16 = .int .i64 (cmpI t u).2 ∧ A.get 72 = .bool true) ⟨by simp (config := {decide := true}) only [Ac.get_put, Ac.put_n, Ac.put_defers, if_true, if_false, and_true, n0], by simp (config := {decide := true}) only [Ac.get_put, Ac.put_n, Ac.put_defers, if_true, if_false, and_true, d0], by simp (config := {decide := true}) only [Ac.get_put, Ac.put_n, Ac.put_defers, if_true, if_false, and_true, n0, g2], by simp (config := {decide := true}) only [Ac.get_put, Ac.put_n, Ac.put_defers, if_true, if_false, and_true, n0, g3], by simp (config := {decide := true}) only [Ac.get_put, Ac.put_n, Ac.put_defers, if_true, if_false, and_true, n0, g5], by simp (config := {decide := true}) only [Ac.get_put, Ac.put_n, Ac.put_defers, if_true, if_false, and_true, n0, g6], by simp (config := {decide := true}) only [Ac.get_put, Ac.put_n, Ac.put_defers, if_true, if_false, and_true, n0, v7], by simp (config := {decide := true}) only [Ac.get_put, Ac.put_n, Ac.put_defers, if_true, if_false, and_true, n0, v8], by simp (config := {decide := true}) only [Ac.get_put, Ac.put_n, Ac.put_defers, if_true, if_false, and_true, n0, v9], by simp (config := {decide := true}) only [Ac.get_put, Ac.put_n, Ac.put_defers, if_true, if_false, and_true, n0, v10], by simp (config := {decide := true}) only [Ac.get_put, Ac.put_n, Ac.put_defers, if_true, if_false, and_true, n0, v11], by simp (config := {decide := true}) only [Ac.get_put, Ac.put_n, Ac.put_defers, if_true, if_false, and_true, n0, v12], by simp (config := {decide := true}) only [Ac.get_put, Ac.put_n, Ac.put_defers, if_true, if_false, and_true, n0, v13], by simp (config := {decide := true}) only [Ac.get_put, Ac.put_n, Ac.put_defers, if_true, if_false, and_true, n0, v14], by simp (config := {decide := true}) only [Ac.get_put, Ac.put_n, Ac.put_defers, if_true, if_false, and_true, n0, v15], by simp (config := {decide := true}) only [Ac.get_put, Ac.put_n, Ac.put_defers, if_true, if_false, and_true, n0, v16], by simp (config := {decide := true}) only [Ac.get_put, Ac.put_n, Ac.put_defers, if_true, if_false, and_true, n0]⟩ ?_
  clear n0 d0 g2 g3 g5 g6 v7 v8 v9 v10 v11 v12 v13 v14 v15 v16 gb
  rintro A0 ⟨n0, d0, g2, g3, g5, g6, v7, v8, v9, v10, v11, v12, v13, v14, v15, v16, gb⟩
  (iterate 5 (first
      | ((apply FC.pure rfl rfl); (focus ((first | simp (config := {decide := true}) only [awant, ayield_get, oper1, aop, opv, opvs, opvo, opvp, abuiltin, Ac.get_put, Ac.put_n, Ac.put_defers, if_true, if_false, and_true, decide_true, abin, isShift, aint, roV, pair, bind, Option.bind, acall, List.nil_append, List.append_nil, List.toList_toArray, List.getElem?_cons_zero, List.getElem?_cons_succ, Bool.not_true, Bool.not_false, n0, gb, v13, v15, dself] | skip); with_reducible rfl)))
      | ((apply FC.pureG rfl rfl); (focus (simp (config := {decide := true}) only [awant, ayield_get, oper1, aop, opv, opvs, opvo, opvp, abuiltin, Ac.get_put, Ac.put_n, Ac.put_defers, if_true, if_false, and_true, decide_true, abin, isShift, aint, roV, pair, bind, Option.bind, acall, List.nil_append, List.append_nil, List.toList_toArray, List.getElem?_cons_zero, List.getElem?_cons_succ, Bool.not_true, Bool.not_false, n0, gb, v13, v15, dself]; done)); (focus rfl); (focus ((first | simp (config := {decide := true}) only [awant, ayield_get, oper1, aop, opv, opvs, opvo, opvp, abuiltin, Ac.get_put, Ac.put_n, Ac.put_defers, if_true, if_false, and_true, decide_true, abin, isShift, aint, roV, pair, bind, Option.bind, acall, List.nil_append, List.append_nil, List.toList_toArray, List.getElem?_cons_zero, List.getElem?_cons_succ, Bool.not_true, Bool.not_false, n0, gb, v13, v15, dself] | skip); with_reducible rfl)))
      | ((apply FC.new rfl rfl); (focus ((first | simp (config := {decide := true}) only [awant, ayield_get, oper1, aop, opv, opvs, opvo, opvp, abuiltin, Ac.get_put, Ac.put_n, Ac.put_defers, if_true, if_false, and_true, decide_true, abin, isShift, aint, roV, pair, bind, Option.bind, acall, List.nil_append, List.append_nil, List.toList_toArray, List.getElem?_cons_zero, List.getElem?_cons_succ, Bool.not_true, Bool.not_false, n0, gb, v13, v15, dself] | skip); with_reducible rfl)))))
  refine FC.forget (fun A => A.n = 95 ∧ A.defers = [] ∧ A.get 2 = .pointer (some (own g.next)) ∧ A.get 3 = .pointer (some (own h1.next)) ∧ A.get 5 = .pointer (some (own h4.next)) ∧ A.get 6 = .pointer (some (own h5.next)) ∧ A.get 7 = .int .i64 (szI t).1 ∧ A.get 8 = .int .i64 (szI t).2.1 ∧ A.get 9 = .int .i64 (szI t).2.2 ∧ A.get 10 = .int .i64 (szI t).1 ∧ A.get 11 = .int .i64 (szI t).2.1 ∧ A.get 12 = .int .i64 (szI t).2.2 ∧ A.get 13 = .int .i64 (cmpI t u).1 ∧ A.get 14 = .int .i64 (cmpI t u).2 ∧ A.get 15 = .int .i64 (cmpI t u).1 ∧ A.get 16 = .int .i64 (cmpI t u).2 ∧ A.get 77 = .bool true) ⟨by simp (config := {decide := true}) only [Ac.get_put, Ac.put_n, Ac.put_defers, if_true, if_false, and_true, n0], by simp (config := {decide := true}) only [Ac.get_put, Ac.put_n, Ac.put_defers, if_true, if_false, and_true, d0], by simp (config := {decide := true}) only [Ac.get_put, Ac.put_n, Ac.put_defers, if_true, if_false, and_true, n0, g2], by simp (config := {decide := true}) only [Ac.get_put, Ac.put_n, Ac.put_defers, if_true, if_false, and_true, n0, g3], by simp (config := {decide := true}) only [Ac.get_put, Ac.put_n, Ac.put_defers, if_true, if_false, and_true, n0, g5], by simp (config := {decide := true}) only [Ac.get_put, Ac.put_n, Ac.put_defers, if_true, if_false, and_true, n0, g6], by simp (config := {decide := true}) only [Ac.get_put, Ac.put_n, Ac.put_defers, if_true, if_false, and_true, n0, v7], by simp (config := {decide := true}) only [Ac.get_put, Ac.put_n, Ac.put_defers, if_true, if_false, and_true, n0, v8], by simp (config := {decide := true}) only [Ac.get_put, Ac.put_n, Ac.put_defers, if_true, if_false, and_true, n0, v9], by simp (config := {decide := true}) only [Ac.get_put, Ac.put_n, Ac.put_defers, if_true, if_false, and_true, n0, v10], by simp (config := {decide := true}) only [Ac.get_put, Ac.put_n, Ac.put_defers, if_true, if_false, and_true, n0, v11], by simp (config := {decide := true}) only [Ac.get_put, Ac.put_n, Ac.put_defers, if_true, if_false, and_true, n0, v12], by simp (config := {decide := true}) only [Ac.get_put, Ac.put_n, Ac.put_defers, if_true, if_false, and_true, n0, v13], by simp (config := {decide := true}) only [Ac.get_put, Ac.put_n, Ac.put_defers, if_true, if_false, and_true, n0, v14], by simp (config := {decide := true}) only [Ac.get_put, Ac.put_n, Ac.put_defers, if_true, if_false, and_true, n0, v15], by simp (config := {decide := true}) only [Ac.get_put, Ac.put_n, Ac.put_defers, if_true, if_false, and_true, n0, v16], by simp (config := {decide := true}) only [Ac.get_put, Ac.put_n, Ac.put_defers, if_true, if_false, and_true, n0]⟩ ?_
  clear n0 d0 g2 g3 g5 g6 v7 v8 v9 v10 v11 v12 v13 v14 v15 v16 gb
  rintro A0 ⟨n0, d0, g2, g3, g5, g6, v7, v8, v9, v10, v11, v12, v13, v14, v15, v16, gb⟩
  (iterate 5 (first
      | ((apply FC.pure rfl rfl); (focus ((first | simp (config := {decide := true}) only [awant, ayield_get, oper1, aop, opv, opvs, opvo, opvp, abuiltin, Ac.get_put, Ac.put_n, Ac.put_defers, if_true, if_false, and_true, decide_true, abin, isShift, aint, roV, pair, bind, Option.bind, acall, List.nil_append, List.append_nil, List.toList_toArray, List.getElem?_cons_zero, List.getElem?_cons_succ, Bool.not_true, Bool.not_false, n0, gb, v14, v16, dself] | skip); with_reducible rfl)))
      | ((apply FC.pureG rfl rfl); (focus (simp (config := {decide := true}) only [awant, ayield_get, oper1, aop, opv, opvs, opvo, opvp, abuiltin, Ac.get_put, Ac.put_n, Ac.put_defers, if_true, if_false, and_true, decide_true, abin, isShift, aint, roV, pair, bind, Option.bind, acall, List.nil_append, List.append_nil, List.toList_toArray, List.getElem?_cons_zero, List.getElem?_cons_succ, Bool.not_true, Bool.not_false, n0, gb, v14, v16, dself]; done)); (focus rfl); (focus ((first | simp (config := {decide := true}) only [awant, ayield_get, oper1, aop, opv, opvs, opvo, opvp, abuiltin, Ac.get_put, Ac.put_n, Ac.put_defers, if_true, if_false, and_true, decide_true, abin, isShift, aint, roV, pair, bind, Option.bind, acall, List.nil_append, List.append_nil, List.toList_toArray, List.getElem?_cons_zero, List.getElem?_cons_succ, Bool.not_true, Bool.not_false, n0, gb, v14, v16, dself] | skip); with_reducible rfl)))
      | ((apply FC.new rfl rfl); (focus ((first | simp (config := {decide := true}) only [awant, ayield_get, oper1, aop, opv, opvs, opvo, opvp, abuiltin, Ac.get_put, Ac.put_n, Ac.put_defers, if_true, if_false, and_true, decide_true, abin, isShift, aint, roV, pair, bind, Option.bind, acall, List.nil_append, List.append_nil, List.toList_toArray, List.getElem?_cons_zero, List.getElem?_cons_succ, Bool.not_true, Bool.not_false, n0, gb, v14, v16, dself] | skip); with_reducible rfl)))))
  refine FC.forget (fun A => A.n = 95 ∧ A.defers = [] ∧ A.get 2 = .pointer (some (own g.next)) ∧ A.get 3 = .pointer (some (own h1.next)) ∧ A.get 5 = .pointer (some (own h4.next)) ∧ A.get 6 = .pointer (some (own h5.next)) ∧ A.get 7 = .int .i64 (szI t).1 ∧ A.get 8 = .int .i64 (szI t).2.1 ∧ A.get 9 = .int .i64 (szI t).2.2 ∧ A.get 10 = .int .i64 (szI t).1 ∧ A.get 11 = .int .i64 (szI t).2.1 ∧ A.get 12 = .int .i64 (szI t).2.2 ∧ A.get 13 = .int .i64 (cmpI t u).1 ∧ A.get 14 = .int .i64 (cmpI t u).2 ∧ A.get 15 = .int .i64 (cmpI t u).1 ∧ A.get 16 = .int .i64 (cmpI t u).2 ∧ A.get 82 = .bool true) ⟨by simp (config := {decide := true}) only [Ac.get_put, Ac.put_n, Ac.put_defers, if_true, if_false, and_true, n0], by simp (config := {decide := true}) only [Ac.get_put, Ac.put_n, Ac.put_defers, if_true, if_false, and_true, d0], by simp (config := {decide := true}) only [Ac.get_put, Ac.put_n, Ac.put_defers, if_true, if_false, and_true, n0, g2], by simp (config := {decide := true}) only [Ac.get_put, Ac.put_n, Ac.put_defers, if_true, if_false, and_true, n0, g3], by simp (config := {decide := true}) only [Ac.get_put, Ac.put_n, Ac.put_defers, if_true, if_false, and_true, n0, g5], by simp (config := {decide := true}) only [Ac.get_put, Ac.put_n, Ac.put_defers, if_true, if_false, and_true, n0, g6], by simp (config := {decide := true}) only [Ac.get_put, Ac.put_n, Ac.put_defers, if_true, if_false, and_true, n0, v7], by simp (config := {decide := true}) only [Ac.get_put, Ac.put_n, Ac.put_defers, if_true, if_false, and_true, n0, v8], by simp (config := {decide := true}) only [Ac.get_put, Ac.put_n, Ac.put_defers, if_true, if_false, and_true, n0, v9], by simp (config := {decide := true}) only [Ac.get_put, Ac.put_n, Ac.put_defers, if_true, if_false, and_true, n0, v10], by simp (config := {decide := true}) only [Ac.get_put, Ac.put_n, Ac.put_defers, if_true, if_false, and_true, n0, v11], by simp (config := {decide := true}) only [Ac.get_put, Ac.put_n, Ac.put_defers, if_true, if_false, and_true, n0, v12], by simp (config := {decide := true}) only [Ac.get_put, Ac.put_n, Ac.put_defers, if_true, if_false, and_true, n0, v13], by simp (config := {decide := true}) only [Ac.get_put, Ac.put_n, Ac.put_defers, if_true, if_false, and_true, n0, v14], by simp (config := {decide := true}) only [Ac.get_put, Ac.put_n, Ac.put_defers, if_true, if_false, and_true, n0, v15], by simp (config := {decide := true}) only [Ac.get_put, Ac.put_n, Ac.put_defers, if_true, if_false, and_true, n0, v16], by simp (config := {decide := true}) only [Ac.get_put, Ac.put_n, Ac.put_defers, if_true, if_false, and_true, n0]⟩ ?_
  clear n0 d0 g2 g3 g5 g6 v7 v8 v9 v10 v11 v12 v13 v14 v15 v16 gb
  rintro A0 ⟨n0, d0, g2, g3, g5, g6, v7, v8, v9, v10, v11, v12, v13, v14, v15, v16, gb⟩
  (iterate 5 (first
      | ((apply FC.pure rfl rfl); (focus ((first | simp (config := {decide := true}) only [awant, ayield_get, oper1, aop, opv, opvs, opvo, opvp, abuiltin, Ac.get_put, Ac.put_n, Ac.put_defers, if_true, if_false, and_true, decide_true, abin, isShift, aint, roV, pair, bind, Option.bind, acall, List.nil_append, List.append_nil, List.toList_toArray, List.getElem?_cons_zero, List.getElem?_cons_succ, Bool.not_true, Bool.not_false, n0, gb, g5, g2, ld25, fp, fx, c14] | skip); with_reducible rfl)))
      | ((apply FC.pureG rfl rfl); (focus (simp (config := {decide := true}) only [awant, ayield_get, oper1, aop, opv, opvs, opvo, opvp, abuiltin, Ac.get_put, Ac.put_n, Ac.put_defers, if_true, if_false, and_true, decide_true, abin, isShift, aint, roV, pair, bind, Option.bind, acall, List.nil_append, List.append_nil, List.toList_toArray, List.getElem?_cons_zero, List.getElem?_cons_succ, Bool.not_true, Bool.not_false, n0, gb, g5, g2, ld25, fp, fx, c14]; done)); (focus rfl); (focus ((first | simp (config := {decide := true}) only [awant, ayield_get, oper1, aop, opv, opvs, opvo, opvp, abuiltin, Ac.get_put, Ac.put_n, Ac.put_defers, if_true, if_false, and_true, decide_true, abin, isShift, aint, roV, pair, bind, Option.bind, acall, List.nil_append, List.append_nil, List.toList_toArray, List.getElem?_cons_zero, List.getElem?_cons_succ, Bool.not_true, Bool.not_false, n0, gb, g5, g2, ld25, fp, fx, c14] | skip); with_reducible rfl)))
      | ((apply FC.new rfl rfl); (focus ((first | simp (config := {decide := true}) only [awant, ayield_get, oper1, aop, opv, opvs, opvo, opvp, abuiltin, Ac.get_put, Ac.put_n, Ac.put_defers, if_true, if_false, and_true, decide_true, abin, isShift, aint, roV, pair, bind, Option.bind, acall, List.nil_append, List.append_nil, List.toList_toArray, List.getElem?_cons_zero, List.getElem?_cons_succ, Bool.not_true, Bool.not_false, n0, gb, g5, g2, ld25, fp, fx, c14] | skip); with_reducible rfl)))))
  refine FC.forget (fun A => A.n = 95 ∧ A.defers = [] ∧ A.get 2 = .pointer (some (own g.next)) ∧ A.get 3 = .pointer (some (own h1.next)) ∧ A.get 5 = .pointer (some (own h4.next)) ∧ A.get 6 = .pointer (some (own h5.next)) ∧ A.get 7 = .int .i64 (szI t).1 ∧ A.get 8 = .int .i64 (szI t).2.1 ∧ A.get 9 = .int .i64 (szI t).2.2 ∧ A.get 10 = .int .i64 (szI t).1 ∧ A.get 11 = .int .i64 (szI t).2.1 ∧ A.get 12 = .int .i64 (szI t).2.2 ∧ A.get 13 = .int .i64 (cmpI t u).1 ∧ A.get 14 = .int .i64 (cmpI t u).2 ∧ A.get 15 = .int .i64 (cmpI t u).1 ∧ A.get 16 = .int .i64 (cmpI t u).2 ∧ A.get 87 = .bool true) ⟨by simp (config := {decide := true}) only [Ac.get_put, Ac.put_n, Ac.put_defers, if_true, if_false, and_true, n0], by simp (config := {decide := true}) only [Ac.get_put, Ac.put_n, Ac.put_defers, if_true, if_false, and_true, d0], by simp (config := {decide := true}) only [Ac.get_put, Ac.put_n, Ac.put_defers, if_true, if_false, and_true, n0, g2], by simp (config := {decide := true}) only [Ac.get_put, Ac.put_n, Ac.put_defers, if_true, if_false, and_true, n0, g3], by simp (config := {decide := true}) only [Ac.get_put, Ac.put_n, Ac.put_defers, if_true, if_false, and_true, n0, g5], by simp (config := {decide := true}) only [Ac.get_put, Ac.put_n, Ac.put_defers, if_true, if_false, and_true, n0, g6], by simp (config := {decide := true}) only [Ac.get_put, Ac.put_n, Ac.put_defers, if_true, if_false, and_true, n0, v7], by simp (config := {decide := true}) only [Ac.get_put, Ac.put_n, Ac.put_defers, if_true, if_false, and_true, n0, v8], by simp (config := {decide := true}) only [Ac.get_put, Ac.put_n, Ac.put_defers, if_true, if_false, and_true, n0, v9], by simp (config := {decide := true}) only [Ac.get_put, Ac.put_n, Ac.put_defers, if_true, if_false, and_true, n0, v10], by simp (config := {decide := true}) only [Ac.get_put, Ac.put_n, Ac.put_defers, if_true, if_false, and_true, n0, v11], by simp (config := {decide := true}) only [Ac.get_put, Ac.put_n, Ac.put_defers, if_true, if_false, and_true, n0, v12], by simp (config := {decide := true}) only [Ac.get_put, Ac.put_n, Ac.put_defers, if_true, if_false, and_true, n0, v13], by simp (config := {decide := true}) only [Ac.get_put, Ac.put_n, Ac.put_defers, if_true, if_false, and_true, n0, v14], by simp (config := {decide := true}) only [Ac.get_put, Ac.put_n, Ac.put_defers, if_true, if_false, and_true, n0, v15], by simp (config := {decide := true}) only [Ac.get_put, Ac.put_n, Ac.put_defers, if_true, if_false, and_true, n0, v16], by simp (config := {decide := true}) only [Ac.get_put, Ac.put_n, Ac.put_defers, if_true, if_false, and_true, n0]⟩ ?_
  clear n0 d0 g2 g3 g5 g6 v7 v8 v9 v10 v11 v12 v13 v14 v15 v16 gb
  rintro A0 ⟨n0, d0, g2, g3, g5, g6, v7, v8, v9, v10, v11, v12, v13, v14, v15, v16, gb⟩
  (iterate 5 (first
      | ((apply FC.pure rfl rfl); (focus ((first | simp (config := {decide := true}) only [awant, ayield_get, oper1, aop, opv, opvs, opvo, opvp, abuiltin, Ac.get_put, Ac.put_n, Ac.put_defers, if_true, if_false, and_true, decide_true, abin, isShift, aint, roV, pair, bind, Option.bind, acall, List.nil_append, List.append_nil, List.toList_toArray, List.getElem?_cons_zero, List.getElem?_cons_succ, Bool.not_true, Bool.not_false, n0, gb, g6, g3, ld25, fs, fy, c14'] | skip); with_reducible rfl)))
      | ((apply FC.pureG rfl rfl); (focus (simp (config := {decide := true}) only [awant, ayield_get, oper1, aop, opv, opvs, opvo, opvp, abuiltin, Ac.get_put, Ac.put_n, Ac.put_defers, if_true, if_false, and_true, decide_true, abin, isShift, aint, roV, pair, bind, Option.bind, acall, List.nil_append, List.append_nil, List.toList_toArray, List.getElem?_cons_zero, List.getElem?_cons_succ, Bool.not_true, Bool.not_false, n0, gb, g6, g3, ld25, fs, fy, c14']; done)); (focus rfl); (focus ((first | simp (config := {decide := true}) only [awant, ayield_get, oper1, aop, opv, opvs, opvo, opvp, abuiltin, Ac.get_put, Ac.put_n, Ac.put_defers, if_true, if_false, and_true, decide_true, abin, isShift, aint, roV, pair, bind, Option.bind, acall, List.nil_append, List.append_nil, List.toList_toArray, List.getElem?_cons_zero, List.getElem?_cons_succ, Bool.not_true, Bool.not_false, n0, gb, g6, g3, ld25, fs, fy, c14'] | skip); with_reducible rfl)))
      | ((apply FC.new rfl rfl); (focus ((first | simp (config := {decide := true}) only [awant, ayield_get, oper1, aop, opv, opvs, opvo, opvp, abuiltin, Ac.get_put, Ac.put_n, Ac.put_defers, if_true, if_false, and_true, decide_true, abin, isShift, aint, roV, pair, bind, Option.bind, acall, List.nil_append, List.append_nil, List.toList_toArray, List.getElem?_cons_zero, List.getElem?_cons_succ, Bool.not_true, Bool.not_false, n0, gb, g6, g3, ld25, fs, fy, c14'] | skip); with_reducible rfl)))))
  refine FC.forget (fun A => A.n = 95 ∧ A.defers = [] ∧ A.get 2 = .pointer (some (own g.next)) ∧ A.get 3 = .pointer (some (own h1.next)) ∧ A.get 5 = .pointer (some (own h4.next)) ∧ A.get 6 = .pointer (some (own h5.next)) ∧ A.get 7 = .int .i64 (szI t).1 ∧ A.get 8 = .int .i64 (szI t).2.1 ∧ A.get 9 = .int .i64 (szI t).2.2 ∧ A.get 10 = .int .i64 (szI t).1 ∧ A.get 11 = .int .i64 (szI t).2.1 ∧ A.get 12 = .int .i64 (szI t).2.2 ∧ A.get 13 = .int .i64 (cmpI t u).1 ∧ A.get 14 = .int .i64 (cmpI t u).2 ∧ A.get 15 = .int .i64 (cmpI t u).1 ∧ A.get 16 = .int .i64 (cmpI t u).2 ∧ A.get 92 = .bool true) ⟨by simp (config := {decide := true}) only [Ac.get_put, Ac.put_n, Ac.put_defers, if_true, if_false, and_true, n0], by simp (config := {decide := true}) only [Ac.get_put, Ac.put_n, Ac.put_defers, if_true, if_false, and_true, d0], by simp (config := {decide := true}) only [Ac.get_put, Ac.put_n, Ac.put_defers, if_true, if_false, and_true, n0, g2], by simp (config := {decide := true}) only [Ac.get_put, Ac.put_n, Ac.put_defers, if_true, if_false, and_true, n0, g3], by simp (config := {decide := true}) only [Ac.get_put, Ac.put_n, Ac.put_defers, if_true, if_false, and_true, n0, g5], by simp (config := {decide := true}) only [Ac.get_put, Ac.put_n, Ac.put_defers, if_true, if_false, and_true, n0, g6], by simp (config := {decide := true}) only [Ac.get_put, Ac.put_n, Ac.put_defers, if_true, if_false, and_true, n0, v7], by simp (config := {decide := true}) only [Ac.get_put, Ac.put_n, Ac.put_defers, if_true, if_false, and_true, n0, v8], by simp (config := {decide := true}) only [Ac.get_put, Ac.put_n, Ac.put_defers, if_true, if_false, and_true, n0, v9], by simp (config := {decide := true}) only [Ac.get_put, Ac.put_n, Ac.put_defers, if_true, if_false, and_true, n0, v10], by simp (config := {decide := true}) only [Ac.get_put, Ac.put_n, Ac.put_defers, if_true, if_false, and_true, n0, v11], by simp (config := {decide := true}) only [Ac.get_put, Ac.put_n, Ac.put_defers, if_true, if_false, and_true, n0, v12], by simp (config := {decide := true}) only [Ac.get_put, Ac.put_n, Ac.put_defers, if_true, if_false, and_true, n0, v13], by simp (config := {decide := true}) only [Ac.get_put, Ac.put_n, Ac.put_defers, if_true, if_false, and_true, n0, v14], by simp (config := {decide := true}) only [Ac.get_put, Ac.put_n, Ac.put_defers, if_true, if_false, and_true, n0, v15], by simp (config := {decide := true}) only [Ac.get_put, Ac.put_n, Ac.put_defers, if_true, if_false, and_true, n0, v16], by simp (config := {decide := true}) only [Ac.get_put, Ac.put_n, Ac.put_defers, if_true, if_false, and_true, n0]⟩ ?_
  clear n0 d0 g2 g3 g5 g6 v7 v8 v9 v10 v11 v12 v13 v14 v15 v16 gb
  rintro A0 ⟨n0, d0, g2, g3, g5, g6, v7, v8, v9, v10, v11, v12, v13, v14, v15, v16, gb⟩
  (iterate 3 (first
      | ((apply FC.pure rfl rfl); (focus ((first | simp (config := {decide := true}) only [awant, ayield_get, oper1, aop, opv, opvs, opvo, opvp, abuiltin, Ac.get_put, Ac.put_n, Ac.put_defers, if_true, if_false, and_true, decide_true, abin, isShift, aint, roV, pair, bind, Option.bind, acall, List.nil_append, List.append_nil, List.toList_toArray, List.getElem?_cons_zero, List.getElem?_cons_succ, Bool.not_true, Bool.not_false, n0, gb, c11'] | skip); with_reducible rfl)))
      | ((apply FC.pureG rfl rfl); (focus (simp (config := {decide := true}) only [awant, ayield_get, oper1, aop, opv, opvs, opvo, opvp, abuiltin, Ac.get_put, Ac.put_n, Ac.put_defers, if_true, if_false, and_true, decide_true, abin, isShift, aint, roV, pair, bind, Option.bind, acall, List.nil_append, List.append_nil, List.toList_toArray, List.getElem?_cons_zero, List.getElem?_cons_succ, Bool.not_true, Bool.not_false, n0, gb, c11']; done)); (focus rfl); (focus ((first | simp (config := {decide := true}) only [awant, ayield_get, oper1, aop, opv, opvs, opvo, opvp, abuiltin, Ac.get_put, Ac.put_n, Ac.put_defers, if_true, if_false, and_true, decide_true, abin, isShift, aint, roV, pair, bind, Option.bind, acall, List.nil_append, List.append_nil, List.toList_toArray, List.getElem?_cons_zero, List.getElem?_cons_succ, Bool.not_true, Bool.not_false, n0, gb, c11'] | skip); with_reducible rfl)))
      | ((apply FC.new rfl rfl); (focus ((first | simp (config := {decide := true}) only [awant, ayield_get, oper1, aop, opv, opvs, opvo, opvp, abuiltin, Ac.get_put, Ac.put_n, Ac.put_defers, if_true, if_false, and_true, decide_true, abin, isShift, aint, roV, pair, bind, Option.bind, acall, List.nil_append, List.append_nil, List.toList_toArray, List.getElem?_cons_zero, List.getElem?_cons_succ, Bool.not_true, Bool.not_false, n0, gb, c11'] | skip); with_reducible rfl)))))
  refine FC.nil ?_
  refine Wc.ret ?_
  exact done_q (v := .bool true) (.inr rfl) (by simp (config := {decide := true}) only [Ac.get_put, Ac.put_n, Ac.put_defers, if_true, if_false, and_true, d0]) rfl (by simp (config := {decide := true}) only [Ac.get_put, Ac.put_n, Ac.put_defers, if_true, if_false, and_true, n0]) rfl
end Go.Proofs.YtofijpbmbmbnhaaDoor
/- What is known of the functions, layer on layer. -/
set_option maxRecDepth 100000
set_option maxHeartbeats 4000000
namespace Go.Proofs.YtofijpbmbmbnhaaDoor
open Go Go.Hs Go.Proofs

theorem said_out {S : Says} {I : Known} {f : FuncId} {args : List Value} {h : H} {fs : List Nat} (hS : ∀ s f args h v, S s f args h v → f ∈ fs) (hf : f ∉ fs) : saidBy S I f args h = I f args h := by
  unfold saidBy
  rw [dif_neg]
  rintro ⟨v, s, h1⟩
  exact hf (hS _ _ _ _ _ h1)
theorem base_out {f : FuncId} {args : List Value} {h : H} (h1 : Nat.beq f 123 = false) (h2 : Nat.beq f 130 = false) : I0 f args h = none := by
  unfold I0
  rw [h1, h2]
theorem base_130 (a b : ByteArray) (h : H) : I0 130 [.string a, .string b] h = some (some (.int .i64 (cmpL a.data.toList b.data.toList), h)) := rfl

noncomputable def L69 (E : Env) : Known := saidBy (says69 E) I0
theorem L69_out {E : Env} {f : FuncId} {args : List Value} {h : H} (hf : ([69] : List Nat).any (Nat.beq f) = false) : L69 E f args h = I0 f args h := by
  refine said_out (fs := [69]) (fun s f args h v hs => by rw [hs.1]; exact List.mem_singleton.2 rfl) (fun hm => ?_)
  rw [List.any_eq_false] at hf
  exact hf f hm (by simp)
noncomputable def L30 (E : Env) : Known := saidBy (says30 E) (L69 E)
theorem L30_out {E : Env} {f : FuncId} {args : List Value} {h : H} (hf : ([30] : List Nat).any (Nat.beq f) = false) : L30 E f args h = (L69 E) f args h := by
  refine said_out (fs := [30]) (fun s f args h v hs => by rw [hs.1]; exact List.mem_singleton.2 rfl) (fun hm => ?_)
  rw [List.any_eq_false] at hf
  exact hf f hm (by simp)
noncomputable def L72 (E : Env) : Known := saidBy (says72 E) (L30 E)
theorem L72_out {E : Env} {f : FuncId} {args : List Value} {h : H} (hf : ([72] : List Nat).any (Nat.beq f) = false) : L72 E f args h = (L30 E) f args h := by
  refine said_out (fs := [72]) (fun s f args h v hs => by rw [hs.1]; exact List.mem_singleton.2 rfl) (fun hm => ?_)
  rw [List.any_eq_false] at hf
  exact hf f hm (by simp)
noncomputable def L71 (E : Env) : Known := saidBy (says71 E) (L72 E)
theorem L71_out {E : Env} {f : FuncId} {args : List Value} {h : H} (hf : ([71] : List Nat).any (Nat.beq f) = false) : L71 E f args h = (L72 E) f args h := by
  refine said_out (fs := [71]) (fun s f args h v hs => by rw [hs.1]; exact List.mem_singleton.2 rfl) (fun hm => ?_)
  rw [List.any_eq_false] at hf
  exact hf f hm (by simp)
noncomputable def L36 (E : Env) : Known := saidBy (says36 E) (L71 E)
theorem L36_out {E : Env} {f : FuncId} {args : List Value} {h : H} (hf : ([36] : List Nat).any (Nat.beq f) = false) : L36 E f args h = (L71 E) f args h := by
  refine said_out (fs := [36]) (fun s f args h v hs => by rw [hs.1]; exact List.mem_singleton.2 rfl) (fun hm => ?_)
  rw [List.any_eq_false] at hf
  exact hf f hm (by simp)
noncomputable def L33 (E : Env) : Known := saidBy (says33 E) (L36 E)
theorem L33_out {E : Env} {f : FuncId} {args : List Value} {h : H} (hf : ([33] : List Nat).any (Nat.beq f) = false) : L33 E f args h = (L36 E) f args h := by
  refine said_out (fs := [33]) (fun s f args h v hs => by rw [hs.1]; exact List.mem_singleton.2 rfl) (fun hm => ?_)
  rw [List.any_eq_false] at hf
  exact hf f hm (by simp)
noncomputable def L74 (E : Env) : Known := saidBy (says74 E) (L33 E)
theorem L74_out {E : Env} {f : FuncId} {args : List Value} {h : H} (hf : ([74] : List Nat).any (Nat.beq f) = false) : L74 E f args h = (L33 E) f args h := by
  refine said_out (fs := [74]) (fun s f args h v hs => by rw [hs.1]; exact List.mem_singleton.2 rfl) (fun hm => ?_)
  rw [List.any_eq_false] at hf
  exact hf f hm (by simp)
noncomputable def L73 (E : Env) : Known := saidBy (says73 E) (L74 E)
theorem L73_out {E : Env} {f : FuncId} {args : List Value} {h : H} (hf : ([73] : List Nat).any (Nat.beq f) = false) : L73 E f args h = (L74 E) f args h := by
  refine said_out (fs := [73]) (fun s f args h v hs => by rw [hs.1]; exact List.mem_singleton.2 rfl) (fun hm => ?_)
  rw [List.any_eq_false] at hf
  exact hf f hm (by simp)
noncomputable def L34 (E : Env) : Known := saidBy (says34 E) (L73 E)
theorem L34_out {E : Env} {f : FuncId} {args : List Value} {h : H} (hf : ([34] : List Nat).any (Nat.beq f) = false) : L34 E f args h = (L73 E) f args h := by
  refine said_out (fs := [34]) (fun s f args h v hs => by rw [hs.1]; exact List.mem_singleton.2 rfl) (fun hm => ?_)
  rw [List.any_eq_false] at hf
  exact hf f hm (by simp)
noncomputable def L35 (E : Env) : Known := saidBy (says35 E) (L34 E)
theorem L35_out {E : Env} {f : FuncId} {args : List Value} {h : H} (hf : ([35] : List Nat).any (Nat.beq f) = false) : L35 E f args h = (L34 E) f args h := by
  refine said_out (fs := [35]) (fun s f args h v hs => by rw [hs.1]; exact List.mem_singleton.2 rfl) (fun hm => ?_)
  rw [List.any_eq_false] at hf
  exact hf f hm (by simp)
noncomputable def L32 (E : Env) : Known := saidBy (says32 E) (L35 E)
theorem L32_out {E : Env} {f : FuncId} {args : List Value} {h : H} (hf : ([32] : List Nat).any (Nat.beq f) = false) : L32 E f args h = (L35 E) f args h := by
  refine said_out (fs := [32]) (fun s f args h v hs => by rw [hs.1]; exact List.mem_singleton.2 rfl) (fun hm => ?_)
  rw [List.any_eq_false] at hf
  exact hf f hm (by simp)
noncomputable def Lev (E : Env) : Known := evOn tab E [104, 105, 106] (L32 E)
theorem Lev_out {E : Env} {f : FuncId} {args : List Value} {h : H} (hf : ([104, 105, 106] : List Nat).any (Nat.beq f) = false) : Lev E f args h = (L32 E) f args h := evOn_ne hf
noncomputable def L66 (E : Env) : Known := saidBy (says66 E) (Lev E)
theorem L66_out {E : Env} {f : FuncId} {args : List Value} {h : H} (hf : ([66, 107] : List Nat).any (Nat.beq f) = false) : L66 E f args h = (Lev E) f args h := by
  refine said_out (fs := [66, 107]) (fun s f args h v hs => by rcases hs with ⟨rfl, _⟩ | ⟨rfl, _⟩ <;> decide) (fun hm => ?_)
  rw [List.any_eq_false] at hf
  exact hf f hm (by simp)
noncomputable def L65 (E : Env) : Known := saidBy (says65 E) (L66 E)
theorem L65_out {E : Env} {f : FuncId} {args : List Value} {h : H} (hf : ([65] : List Nat).any (Nat.beq f) = false) : L65 E f args h = (L66 E) f args h := by
  refine said_out (fs := [65]) (fun s f args h v hs => by rw [hs.1]; exact List.mem_singleton.2 rfl) (fun hm => ?_)
  rw [List.any_eq_false] at hf
  exact hf f hm (by simp)
noncomputable def L27 (E : Env) : Known := saidBy (says27 E) (L65 E)
theorem L27_out {E : Env} {f : FuncId} {args : List Value} {h : H} (hf : ([27] : List Nat).any (Nat.beq f) = false) : L27 E f args h = (L65 E) f args h := by
  refine said_out (fs := [27]) (fun s f args h v hs => by rw [hs.1]; exact List.mem_singleton.2 rfl) (fun hm => ?_)
  rw [List.any_eq_false] at hf
  exact hf f hm (by simp)
noncomputable def L14 (E : Env) : Known := saidBy (says14 E) (L27 E)
theorem L14_out {E : Env} {f : FuncId} {args : List Value} {h : H} (hf : ([14, 53, 89, 55] : List Nat).any (Nat.beq f) = false) : L14 E f args h = (L27 E) f args h := by
  refine said_out (fs := [14, 53, 89, 55]) (fun s f args h v hs => by rcases hs with ⟨rfl, _⟩ | ⟨rfl, _⟩ | ⟨rfl, _⟩ | ⟨rfl, _⟩ <;> decide) (fun hm => ?_)
  rw [List.any_eq_false] at hf
  exact hf f hm (by simp)
noncomputable def Lown (E : Env) : Known := evOn tab E [31] (L14 E)
theorem Lown_out {E : Env} {f : FuncId} {args : List Value} {h : H} (hf : ([31] : List Nat).any (Nat.beq f) = false) : Lown E f args h = (L14 E) f args h := evOn_ne hf
noncomputable def Law (E : Env) : Known := fun f args h => match Nat.beq f 11, args with
  | true, [] => some (some (.bool true, h))
  | true, _ => none
  | false, _ => (Lown E) f args h
theorem Law_out {E : Env} {f : FuncId} {args : List Value} {h : H} (hf : ([11] : List Nat).any (Nat.beq f) = false) : Law E f args h = (Lown E) f args h := by
  have : Nat.beq f 11 = false := by simpa using hf
  unfold Law
  rw [this]
variable {n0 : Nat}
theorem L69_good (E : Env) : KnownGood Tryd.prog tab E n0 (L69 E) := saidBy_good tab_of noNum (known0 E n0) (shown69 (fun a h => (base_out (by decide) (by decide))))
theorem L30_good (E : Env) : KnownGood Tryd.prog tab E n0 (L30 E) := saidBy_good tab_of noNum (L69_good E) (shown30 (fun a h => ((L69_out (by decide)).trans (base_out (by decide) (by decide)))) (fun t xv h hr => (saidBy_eq (one69 E) ⟨rfl, t, xv, 0, 0, rfl, hr, by decide, by decide, by decide, by decide, rfl, rfl⟩)))
theorem L72_good (E : Env) : KnownGood Tryd.prog tab E n0 (L72 E) := saidBy_good tab_of noNum (L30_good E) (shown72 (fun a h => ((L30_out (by decide)).trans ((L69_out (by decide)).trans (base_out (by decide) (by decide))))))
theorem L71_good (E : Env) : KnownGood Tryd.prog tab E n0 (L71 E) := saidBy_good tab_of noNum (L72_good E) (shown71 (fun a h => ((L72_out (by decide)).trans ((L30_out (by decide)).trans ((L69_out (by decide)).trans (base_out (by decide) (by decide)))))))
theorem L36_good (E : Env) : KnownGood Tryd.prog tab E n0 (L36 E) := saidBy_good tab_of noNum (L71_good E) (shown36 (fun a h => ((L71_out (by decide)).trans ((L72_out (by decide)).trans ((L30_out (by decide)).trans ((L69_out (by decide)).trans (base_out (by decide) (by decide))))))) (fun t xv h hr => (saidBy_eq (one71 E) ⟨rfl, t, xv, 0, 1, rfl, hr, by decide, by decide, by decide, by decide, rfl, rfl⟩)))
theorem L33_good (E : Env) : KnownGood Tryd.prog tab E n0 (L33 E) := saidBy_good tab_of noNum (L36_good E) (shown33 (fun a h => ((L36_out (by decide)).trans ((L71_out (by decide)).trans ((L72_out (by decide)).trans ((L30_out (by decide)).trans ((L69_out (by decide)).trans (base_out (by decide) (by decide)))))))) (fun t xv h hr => ((L36_out (by decide)).trans (saidBy_eq (one71 E) ⟨rfl, t, xv, 0, 1, rfl, hr, by decide, by decide, by decide, by decide, rfl, rfl⟩))) (fun t xv h hr hz => ((L36_out (by decide)).trans ((L71_out (by decide)).trans (saidBy_eq (one72 E) ⟨rfl, t, xv, rfl, hr, hz, rfl, rfl⟩)))))
theorem L74_good (E : Env) : KnownGood Tryd.prog tab E n0 (L74 E) := saidBy_good tab_of noNum (L33_good E) (shown74 (fun a h => ((L33_out (by decide)).trans ((L36_out (by decide)).trans ((L71_out (by decide)).trans ((L72_out (by decide)).trans ((L30_out (by decide)).trans ((L69_out (by decide)).trans (base_out (by decide) (by decide))))))))))
theorem L73_good (E : Env) : KnownGood Tryd.prog tab E n0 (L73 E) := saidBy_good tab_of noNum (L74_good E) (shown73 (fun a h => ((L74_out (by decide)).trans ((L33_out (by decide)).trans ((L36_out (by decide)).trans ((L71_out (by decide)).trans ((L72_out (by decide)).trans ((L30_out (by decide)).trans ((L69_out (by decide)).trans (base_out (by decide) (by decide)))))))))) (fun t xv h hr => ((L74_out (by decide)).trans ((L33_out (by decide)).trans (saidBy_eq (one36 E) ⟨rfl, rfl, t, xv, rfl, hr, rfl⟩)))))
theorem L34_good (E : Env) : KnownGood Tryd.prog tab E n0 (L34 E) := saidBy_good tab_of noNum (L73_good E) (shown34 (fun a h => ((L73_out (by decide)).trans ((L74_out (by decide)).trans ((L33_out (by decide)).trans ((L36_out (by decide)).trans ((L71_out (by decide)).trans ((L72_out (by decide)).trans ((L30_out (by decide)).trans ((L69_out (by decide)).trans (base_out (by decide) (by decide))))))))))) (fun t xv u yv h hr hr' => (saidBy_eq (one73 E) ⟨rfl, rfl, t, xv, u, yv, rfl, hr, hr', rfl⟩)) (fun t xv u yv h hr hr' => ((L73_out (by decide)).trans (saidBy_eq (one74 E) ⟨rfl, t, xv, u, yv, rfl, hr, hr', rfl, rfl⟩))))
theorem L35_good (E : Env) : KnownGood Tryd.prog tab E n0 (L35 E) := saidByF_good tab_of noNum (L34_good E) (shown35 (fun f args h hf => by
    rcases hf with rfl | rfl | rfl | rfl
    · exact ((L34_out (by decide)).trans ((L73_out (by decide)).trans ((L74_out (by decide)).trans ((L33_out (by decide)).trans ((L36_out (by decide)).trans ((L71_out (by decide)).trans ((L72_out (by decide)).trans ((L30_out (by decide)).trans ((L69_out (by decide)).trans (base_out (by decide) (by decide)))))))))))
    · exact ((L34_out (by decide)).trans ((L73_out (by decide)).trans ((L74_out (by decide)).trans ((L33_out (by decide)).trans ((L36_out (by decide)).trans ((L71_out (by decide)).trans ((L72_out (by decide)).trans ((L30_out (by decide)).trans ((L69_out (by decide)).trans (base_out (by decide) (by decide)))))))))))
    · exact ((L34_out (by decide)).trans ((L73_out (by decide)).trans ((L74_out (by decide)).trans ((L33_out (by decide)).trans ((L36_out (by decide)).trans ((L71_out (by decide)).trans ((L72_out (by decide)).trans ((L30_out (by decide)).trans ((L69_out (by decide)).trans (base_out (by decide) (by decide)))))))))))
    · exact ((L34_out (by decide)).trans ((L73_out (by decide)).trans ((L74_out (by decide)).trans ((L33_out (by decide)).trans ((L36_out (by decide)).trans ((L71_out (by decide)).trans ((L72_out (by decide)).trans ((L30_out (by decide)).trans ((L69_out (by decide)).trans (base_out (by decide) (by decide)))))))))))
    ))
theorem L32_good (E : Env) : KnownGood Tryd.prog tab E n0 (L32 E) := saidByF_good tab_of noNum (L35_good E) (shown32 (fun f args h hf => by
    rcases hf with rfl | rfl | rfl | rfl
    · exact ((L35_out (by decide)).trans ((L34_out (by decide)).trans ((L73_out (by decide)).trans ((L74_out (by decide)).trans ((L33_out (by decide)).trans ((L36_out (by decide)).trans ((L71_out (by decide)).trans ((L72_out (by decide)).trans ((L30_out (by decide)).trans ((L69_out (by decide)).trans (base_out (by decide) (by decide))))))))))))
    · exact ((L35_out (by decide)).trans ((L34_out (by decide)).trans ((L73_out (by decide)).trans ((L74_out (by decide)).trans ((L33_out (by decide)).trans ((L36_out (by decide)).trans ((L71_out (by decide)).trans ((L72_out (by decide)).trans ((L30_out (by decide)).trans ((L69_out (by decide)).trans (base_out (by decide) (by decide))))))))))))
    · exact ((L35_out (by decide)).trans ((L34_out (by decide)).trans ((L73_out (by decide)).trans ((L74_out (by decide)).trans ((L33_out (by decide)).trans ((L36_out (by decide)).trans ((L71_out (by decide)).trans ((L72_out (by decide)).trans ((L30_out (by decide)).trans ((L69_out (by decide)).trans (base_out (by decide) (by decide))))))))))))
    · exact ((L35_out (by decide)).trans ((L34_out (by decide)).trans ((L73_out (by decide)).trans ((L74_out (by decide)).trans ((L33_out (by decide)).trans ((L36_out (by decide)).trans ((L71_out (by decide)).trans ((L72_out (by decide)).trans ((L30_out (by decide)).trans ((L69_out (by decide)).trans (base_out (by decide) (by decide))))))))))))
    ) (fun t xv h hr hz => (saidBy_eq (one35 E) ⟨rfl, rfl, t, xv, rfl, hr, hz, rfl⟩)))
theorem Lev_good (E : Env) : KnownGood Tryd.prog tab E n0 (Lev E) := evOn_good tab_of noNum (L32_good E)
theorem h105 (E : Env) (a b : Int) (h : H) : Lev E 105 [.int .i64 a, .int .i64 b] h = some (some (.int .i64 (cmpN a b), h)) := by
  obtain ⟨n, hn⟩ := call105 (E := E) (I := L32 E) (fun f args h hf => by
    rcases hf with rfl | rfl
    · exact ((L32_out (by decide)).trans ((L35_out (by decide)).trans ((L34_out (by decide)).trans ((L73_out (by decide)).trans ((L74_out (by decide)).trans ((L33_out (by decide)).trans ((L36_out (by decide)).trans ((L71_out (by decide)).trans ((L72_out (by decide)).trans ((L30_out (by decide)).trans ((L69_out (by decide)).trans (base_out (by decide) (by decide)))))))))))))
    · exact ((L32_out (by decide)).trans ((L35_out (by decide)).trans ((L34_out (by decide)).trans ((L73_out (by decide)).trans ((L74_out (by decide)).trans ((L33_out (by decide)).trans ((L36_out (by decide)).trans ((L71_out (by decide)).trans ((L72_out (by decide)).trans ((L30_out (by decide)).trans ((L69_out (by decide)).trans (base_out (by decide) (by decide)))))))))))))
    ) a b h
  exact evOn_eq (by decide) hn
theorem h106 (E : Env) (a b : ByteArray) (h : H) : Lev E 106 [.string a, .string b] h = some (some (.int .i64 (cmpL a.data.toList b.data.toList), h)) := by
  obtain ⟨n, hn⟩ := call106 (E := E) (I := L32 E) (fun f args h hf => by
    rcases hf with rfl | rfl
    · exact ((L32_out (by decide)).trans ((L35_out (by decide)).trans ((L34_out (by decide)).trans ((L73_out (by decide)).trans ((L74_out (by decide)).trans ((L33_out (by decide)).trans ((L36_out (by decide)).trans ((L71_out (by decide)).trans ((L72_out (by decide)).trans ((L30_out (by decide)).trans ((L69_out (by decide)).trans (base_out (by decide) (by decide)))))))))))))
    · exact ((L32_out (by decide)).trans ((L35_out (by decide)).trans ((L34_out (by decide)).trans ((L73_out (by decide)).trans ((L74_out (by decide)).trans ((L33_out (by decide)).trans ((L36_out (by decide)).trans ((L71_out (by decide)).trans ((L72_out (by decide)).trans ((L30_out (by decide)).trans ((L69_out (by decide)).trans (base_out (by decide) (by decide)))))))))))))
    ) (fun a b h => ((L32_out (by decide)).trans ((L35_out (by decide)).trans ((L34_out (by decide)).trans ((L73_out (by decide)).trans ((L74_out (by decide)).trans ((L33_out (by decide)).trans ((L36_out (by decide)).trans ((L71_out (by decide)).trans ((L72_out (by decide)).trans ((L30_out (by decide)).trans ((L69_out (by decide)).trans (base_130 a b h))))))))))))) a b h
  exact evOn_eq (by decide) hn
theorem h104 (E : Env) (l : List Int) {k : Nat} {rt : Option (Nat × Nat)} {h : H} (hl : l.length ≤ 1000) (hb : h.blk k = some (.cells (l.map (Value.int .i64)) 3 rt)) : Lev E 104 [.slice (some (own k)) l.length l.length] h = some (some (.int .i64 (orL l), h)) := by
  obtain ⟨n, hn⟩ := call104 (E := E) (I := L32 E) (fun a h => ((L32_out (by decide)).trans ((L35_out (by decide)).trans ((L34_out (by decide)).trans ((L73_out (by decide)).trans ((L74_out (by decide)).trans ((L33_out (by decide)).trans ((L36_out (by decide)).trans ((L71_out (by decide)).trans ((L72_out (by decide)).trans ((L30_out (by decide)).trans ((L69_out (by decide)).trans (base_out (by decide) (by decide)))))))))))))) l hl hb
  exact evOn_eq (by decide) hn
theorem L66_good (E : Env) : KnownGood Tryd.prog tab E n0 (L66 E) := saidByF_good tab_of noNum (Lev_good E) (shown66 (fun f args h hf => by
    rcases hf with rfl | rfl
    · exact ((Lev_out (by decide)).trans ((L32_out (by decide)).trans ((L35_out (by decide)).trans ((L34_out (by decide)).trans ((L73_out (by decide)).trans ((L74_out (by decide)).trans ((L33_out (by decide)).trans ((L36_out (by decide)).trans ((L71_out (by decide)).trans ((L72_out (by decide)).trans ((L30_out (by decide)).trans ((L69_out (by decide)).trans (base_out (by decide) (by decide))))))))))))))
    · exact ((Lev_out (by decide)).trans ((L32_out (by decide)).trans ((L35_out (by decide)).trans ((L34_out (by decide)).trans ((L73_out (by decide)).trans ((L74_out (by decide)).trans ((L33_out (by decide)).trans ((L36_out (by decide)).trans ((L71_out (by decide)).trans ((L72_out (by decide)).trans ((L30_out (by decide)).trans ((L69_out (by decide)).trans (base_out (by decide) (by decide))))))))))))))
    ) (fun a b h => h105 E a b h) (fun a b h => h106 E a b h) (fun l k rt h hl hb => h104 E l hl hb))
theorem L65_good (E : Env) : KnownGood Tryd.prog tab E n0 (L65 E) := saidByF_good tab_of noNum (L66_good E) (shown65 (fun a h => ((L66_out (by decide)).trans ((Lev_out (by decide)).trans ((L32_out (by decide)).trans ((L35_out (by decide)).trans ((L34_out (by decide)).trans ((L73_out (by decide)).trans ((L74_out (by decide)).trans ((L33_out (by decide)).trans ((L36_out (by decide)).trans ((L71_out (by decide)).trans ((L72_out (by decide)).trans ((L30_out (by decide)).trans ((L69_out (by decide)).trans (base_out (by decide) (by decide)))))))))))))))) (fun t xv h hr hz => ((L66_out (by decide)).trans ((Lev_out (by decide)).trans ((L32_out (by decide)).trans (saidBy_eq (one35 E) ⟨rfl, rfl, t, xv, rfl, hr, hz, rfl⟩))))))
theorem L27_good (E : Env) : KnownGood Tryd.prog tab E n0 (L27 E) := saidByF_good tab_of noNum (L65_good E) (shown27 (fun a h => ((L65_out (by decide)).trans ((L66_out (by decide)).trans ((Lev_out (by decide)).trans ((L32_out (by decide)).trans ((L35_out (by decide)).trans ((L34_out (by decide)).trans ((L73_out (by decide)).trans ((L74_out (by decide)).trans ((L33_out (by decide)).trans ((L36_out (by decide)).trans ((L71_out (by decide)).trans ((L72_out (by decide)).trans ((L30_out (by decide)).trans ((L69_out (by decide)).trans (base_out (by decide) (by decide))))))))))))))))) (fun ks sl h hr hz => (saidBy_eq (one65 E) ⟨rfl, rfl, ks, sl, rfl, hr, hz, rfl⟩)) (fun t xv u yv h hr hr' hz => ((L65_out (by decide)).trans (saidBy_eq (one66 E) (.inl ⟨rfl, t, xv, u, yv, rfl, hr, hr', hz, rfl, rfl⟩)))))
theorem L14_good (E : Env) : KnownGood Tryd.prog tab E n0 (L14 E) := saidByF_good tab_of noNum (L27_good E) (shown14 (fun f args h hf => by
    rcases hf with rfl | rfl | rfl | rfl | rfl
    · exact ((L27_out (by decide)).trans ((L65_out (by decide)).trans ((L66_out (by decide)).trans ((Lev_out (by decide)).trans ((L32_out (by decide)).trans ((L35_out (by decide)).trans ((L34_out (by decide)).trans ((L73_out (by decide)).trans ((L74_out (by decide)).trans ((L33_out (by decide)).trans ((L36_out (by decide)).trans ((L71_out (by decide)).trans ((L72_out (by decide)).trans ((L30_out (by decide)).trans ((L69_out (by decide)).trans (base_out (by decide) (by decide)))))))))))))))))
    · exact ((L27_out (by decide)).trans ((L65_out (by decide)).trans ((L66_out (by decide)).trans ((Lev_out (by decide)).trans ((L32_out (by decide)).trans ((L35_out (by decide)).trans ((L34_out (by decide)).trans ((L73_out (by decide)).trans ((L74_out (by decide)).trans ((L33_out (by decide)).trans ((L36_out (by decide)).trans ((L71_out (by decide)).trans ((L72_out (by decide)).trans ((L30_out (by decide)).trans ((L69_out (by decide)).trans (base_out (by decide) (by decide)))))))))))))))))
    · exact ((L27_out (by decide)).trans ((L65_out (by decide)).trans ((L66_out (by decide)).trans ((Lev_out (by decide)).trans ((L32_out (by decide)).trans ((L35_out (by decide)).trans ((L34_out (by decide)).trans ((L73_out (by decide)).trans ((L74_out (by decide)).trans ((L33_out (by decide)).trans ((L36_out (by decide)).trans ((L71_out (by decide)).trans ((L72_out (by decide)).trans ((L30_out (by decide)).trans ((L69_out (by decide)).trans (base_out (by decide) (by decide)))))))))))))))))
    · exact ((L27_out (by decide)).trans ((L65_out (by decide)).trans ((L66_out (by decide)).trans ((Lev_out (by decide)).trans ((L32_out (by decide)).trans ((L35_out (by decide)).trans ((L34_out (by decide)).trans ((L73_out (by decide)).trans ((L74_out (by decide)).trans ((L33_out (by decide)).trans ((L36_out (by decide)).trans ((L71_out (by decide)).trans ((L72_out (by decide)).trans ((L30_out (by decide)).trans ((L69_out (by decide)).trans (base_out (by decide) (by decide)))))))))))))))))
    · exact ((L27_out (by decide)).trans ((L65_out (by decide)).trans ((L66_out (by decide)).trans ((Lev_out (by decide)).trans ((L32_out (by decide)).trans ((L35_out (by decide)).trans ((L34_out (by decide)).trans ((L73_out (by decide)).trans ((L74_out (by decide)).trans ((L33_out (by decide)).trans ((L36_out (by decide)).trans ((L71_out (by decide)).trans ((L72_out (by decide)).trans ((L30_out (by decide)).trans ((L69_out (by decide)).trans (base_out (by decide) (by decide)))))))))))))))))
    ))
theorem Lown_good (E : Env) : KnownGood Tryd.prog tab E n0 (Lown E) := evOn_good tab_of noNum (L14_good E)
theorem h31 (E : Env) (t : Hs.Item) (xv : Value) (h : H) (hr : rep E h t xv) (hz : isz t ≤ 1000000) (hf : Fit h) : ∃ v h', Lown E 31 [xv] h = some (some (v, h')) ∧ Ahd h h' ∧ rep E (only (fun r => Nat.ble h.next r) h') t v := by
  obtain ⟨n, v, h', h1, h2, h3⟩ := own31 (E := E) (I := L14 E) (fun a h => ((L14_out (by decide)).trans ((L27_out (by decide)).trans ((L65_out (by decide)).trans ((L66_out (by decide)).trans ((Lev_out (by decide)).trans ((L32_out (by decide)).trans ((L35_out (by decide)).trans ((L34_out (by decide)).trans ((L73_out (by decide)).trans ((L74_out (by decide)).trans ((L33_out (by decide)).trans ((L36_out (by decide)).trans ((L71_out (by decide)).trans ((L72_out (by decide)).trans ((L30_out (by decide)).trans ((L69_out (by decide)).trans (base_out (by decide) (by decide))))))))))))))))))) (isz t) t xv h (Nat.le_refl _) hz hr hf
  exact ⟨v, h', evOn_eq (by decide) h1, h2, h3⟩
theorem Law_good {E : Env} (hE : ∀ b o v, E0 b o = some v → E b o = some v) : KnownGood Tryd.prog tab E n0 (Law E) := by
  have key : ∀ {f args h r}, Law E f args h = some (some r) → (f = 11 ∧ args = [] ∧ r = (.bool true, h)) ∨ Lown E f args h = some (some r) := by
    intro f args h r hh
    unfold Law at hh
    split at hh
    · next e => cases hh; exact .inl ⟨Nat.eq_of_beq_eq_true e, rfl, rfl⟩
    · cases hh
    · exact .inr hh
  have hB := Lown_good (n0 := n0) E
  refine ⟨fun f args h r h' hi φ w R hok => ?_, fun f args h r h' hi o => ?_, fun f args h r h' hi => ?_⟩
  · rcases key hi with ⟨rfl, rfl, he⟩ | h1
    · cases he; exact awake_sim hE R
    · exact hB.sim _ _ _ _ _ h1 φ w R hok
  · rcases key hi with ⟨rfl, rfl, he⟩ | h1
    · cases he; exact Lg.refl o
    · exact hB.lg _ _ _ _ _ h1 o
  · rcases key hi with ⟨rfl, rfl, he⟩ | h1
    · cases he; exact Nat.le_refl _
    · exact hB.next _ _ _ _ _ h1

theorem kn7 (E : Env) : Kn7 E (Law E) where
  k7 := fun args h => ((Law_out (by decide)).trans ((Lown_out (by decide)).trans ((L14_out (by decide)).trans ((L27_out (by decide)).trans ((L65_out (by decide)).trans ((L66_out (by decide)).trans ((Lev_out (by decide)).trans ((L32_out (by decide)).trans ((L35_out (by decide)).trans ((L34_out (by decide)).trans ((L73_out (by decide)).trans ((L74_out (by decide)).trans ((L33_out (by decide)).trans ((L36_out (by decide)).trans ((L71_out (by decide)).trans ((L72_out (by decide)).trans ((L30_out (by decide)).trans ((L69_out (by decide)).trans (base_out (by decide) (by decide))))))))))))))))))))
  k30 := fun t xv h hr => ((Law_out (by decide)).trans ((Lown_out (by decide)).trans ((L14_out (by decide)).trans ((L27_out (by decide)).trans ((L65_out (by decide)).trans ((L66_out (by decide)).trans ((Lev_out (by decide)).trans ((L32_out (by decide)).trans ((L35_out (by decide)).trans ((L34_out (by decide)).trans ((L73_out (by decide)).trans ((L74_out (by decide)).trans ((L33_out (by decide)).trans ((L36_out (by decide)).trans ((L71_out (by decide)).trans ((L72_out (by decide)).trans (saidBy_eq (one30 E) ⟨rfl, rfl, t, xv, rfl, hr, rfl⟩)))))))))))))))))
  k11 := fun h => rfl
  k31 := fun t xv h hr hz hf => by
    obtain ⟨v, h', h1, h2, h3⟩ := h31 E t xv h hr hz hf
    exact ⟨v, h', (Law_out (by decide)).trans h1, h2, h3⟩
  k32 := fun t xv h hr hz => ((Law_out (by decide)).trans ((Lown_out (by decide)).trans ((L14_out (by decide)).trans ((L27_out (by decide)).trans ((L65_out (by decide)).trans ((L66_out (by decide)).trans ((Lev_out (by decide)).trans (saidBy_eq (one32 E) ⟨rfl, rfl, t, xv, rfl, hr, hz, rfl⟩))))))))
  k33 := fun t xv h hr => ((Law_out (by decide)).trans ((Lown_out (by decide)).trans ((L14_out (by decide)).trans ((L27_out (by decide)).trans ((L65_out (by decide)).trans ((L66_out (by decide)).trans ((Lev_out (by decide)).trans ((L32_out (by decide)).trans ((L35_out (by decide)).trans ((L34_out (by decide)).trans ((L73_out (by decide)).trans ((L74_out (by decide)).trans (saidBy_eq (one33 E) ⟨rfl, rfl, t, xv, rfl, hr, rfl⟩)))))))))))))
  k27 := fun t xv u yv h hr hr' hz hz' => ((Law_out (by decide)).trans ((Lown_out (by decide)).trans ((L14_out (by decide)).trans (saidBy_eq (one27 E) ⟨rfl, rfl, t, xv, u, yv, rfl, hr, hr', hz, hz', rfl⟩))))
  k34 := fun t xv u yv h hr hr' => ((Law_out (by decide)).trans ((Lown_out (by decide)).trans ((L14_out (by decide)).trans ((L27_out (by decide)).trans ((L65_out (by decide)).trans ((L66_out (by decide)).trans ((Lev_out (by decide)).trans ((L32_out (by decide)).trans ((L35_out (by decide)).trans (saidBy_eq (one34 E) ⟨rfl, rfl, t, xv, u, yv, rfl, hr, hr', rfl⟩))))))))))
  k35 := fun t xv h hr hz => ((Law_out (by decide)).trans ((Lown_out (by decide)).trans ((L14_out (by decide)).trans ((L27_out (by decide)).trans ((L65_out (by decide)).trans ((L66_out (by decide)).trans ((Lev_out (by decide)).trans ((L32_out (by decide)).trans (saidBy_eq (one35 E) ⟨rfl, rfl, t, xv, rfl, hr, hz, rfl⟩)))))))))
  k36 := fun t xv h hr => ((Law_out (by decide)).trans ((Lown_out (by decide)).trans ((L14_out (by decide)).trans ((L27_out (by decide)).trans ((L65_out (by decide)).trans ((L66_out (by decide)).trans ((Lev_out (by decide)).trans ((L32_out (by decide)).trans ((L35_out (by decide)).trans ((L34_out (by decide)).trans ((L73_out (by decide)).trans ((L74_out (by decide)).trans ((L33_out (by decide)).trans (saidBy_eq (one36 E) ⟨rfl, rfl, t, xv, rfl, hr, rfl⟩))))))))))))))
  k14 := fun t xv yv h hr hr' hl hz => ((Law_out (by decide)).trans ((Lown_out (by decide)).trans (saidBy_eq (one14 E) (.inl ⟨rfl, t, xv, yv, 0, rfl, hr, hr', by decide, by omega, hz, rfl, rfl⟩))))
end Go.Proofs.YtofijpbmbmbnhaaDoor
