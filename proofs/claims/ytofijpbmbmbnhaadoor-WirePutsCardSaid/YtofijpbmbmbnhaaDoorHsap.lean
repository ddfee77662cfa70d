/- Whether lists of paths are the same: of the same ones. -/
import Derived.Test.YtofijpbmbmbnhaaDoorHsao
set_option linter.unusedSimpArgs false
set_option linter.unusedVariables false
set_option maxRecDepth 100000
set_option maxHeartbeats 16000000
namespace Go.Proofs.YtofijpbmbmbnhaaDoor
open Go Go.Hs Go.Proofs
variable {E : Env} {I : Known}
theorem fn44 : tab.fn.get 44 = some Tryd.f44 := by kernel_rfl
theorem fn48 : tab.fn.get 48 = some Tryd.f48 := by kernel_rfl
theorem fn78 : tab.fn.get 78 = some Tryd.f78 := by kernel_rfl
noncomputable def loop48 : Code := loopOf Tryd.f48
noncomputable def loop78 : Code := loopOf Tryd.f78
theorem equal48 (hI : ∀ args h, I 48 args h = none) {h : H} {v w : Value} {p : List Nat} (hv : Nums E h v p) (hw : Nums E h w p) (hl : p.length ≤ 1000000) :
    ∃ n v' h', (ev tab E I n).call 48 [v, w] h = some (v', h') ∧ (v' = .bool true ∧ h' = h) := by
  obtain ⟨b, c, rfl, hb⟩ := hv
  obtain ⟨b', c', rfl, hb'⟩ := hw
  refine Wc.call (hI _ _) fn48 rfl ?_
  generalize hA0 : (⟨T.ofList [.slice b p.length c, .slice b' p.length c'] 0 .nil, max ([.slice b p.length c, .slice b' p.length c'] : List Value).length Tryd.f48.ntmps, []⟩ : Ac) = A0
  have n0 : A0.n = 26 := by rw [← hA0]; rfl
  have q0 : A0.get 0 = .slice b p.length c := by rw [← hA0]; rfl
  have q1 : A0.get 1 = .slice b' p.length c' := by rw [← hA0]; rfl
  have d0 : A0.defers = [] := by rw [← hA0]
  clear hA0
  have e0 : decide ((p.length : Int) = (p.length : Int)) = true := decide_eq_true rfl
  have key : ∀ (r i : Nat) (A0 : Ac), r = p.length - i → i ≤ p.length → A0.n = 26 → A0.defers = [] → A0.get 0 = .slice b p.length c → A0.get 1 = .slice b' p.length c' → A0.get 12 = .int .i64 (p.length : Nat) → A0.get 13 = .int .i64 (i : Nat) →
      Wc tab E I ⟨48, none⟩ (.loop loop48) A0 h (fun ex A g => ex = .exit 0 ∧ A.n = 26 ∧ A.defers = [] ∧ g = h) := by
    intro r
    induction r with
    | zero =>
      intro i A0 hr hi n0 d0 q0 q1 q12 q13
      obtain rfl : i = p.length := by omega
      have e1 : decide ((p.length : Int) < (p.length : Int)) = false := by simp
      apply Wc.loop
      simp only [loop48, loopOf, firstLoop, Option.getD, Tryd.f48]
      repeat' (first | (with_reducible apply Wc.seq) | (apply Wc.ops; (focus ((repeat' (first | with_reducible exact RO.nil | ((with_reducible apply RO.run (awant_none rfl)); (focus ((first | simp +decide only [awant, ayield_get, oper1, aop, opv, opvs, opvo, opvp, abuiltin, aun, Gx, abin, isShift, aint, roV, pair, bind, Option.bind, acall, Sx, n0, q12, q13, e1] | skip); with_reducible rfl))))); done))) | (refine Wc.cond2 (by simp +decide only [opv, Gx, Sx, n0, q12, q13, e1]; try with_reducible rfl) (fun hb => ?_) (fun hb => ?_) <;> try contradiction) | refine Wc.skip ?_ | refine Wc.ret ?_ | refine Wc.exit ?_ | refine Wc.block ?_)
      exact ⟨rfl, by simp +decide only [Gx, Sx, n0], by simp +decide only [Gx, Sx, d0], rfl⟩
    | succ r ih =>
      intro i A0 hr hi n0 d0 q0 q1 q12 q13
      have hil : i < p.length := by omega
      have e1 : decide ((i : Int) < (p.length : Int)) = true := decide_eq_true (by omega)
      have hir : inRange (i : Int) p.length = true := by
        show Nat.blt i p.length = true
        rw [Nat.blt_eq]; exact hil
      have w4 : IntKind.i64.wrap ((i : Int) + 1) = ((i + 1 : Nat) : Int) := wrap64 (by omega) (by omega)
      rcases hb with rfl | ⟨a, rfl, hc⟩
      · simp at hil
      rcases hb' with rfl | ⟨a', rfl, hc'⟩
      · simp at hil
      have hg : (natsV p)[i]? = some (.int .i64 (p[i] : Nat)) := by unfold natsV; rw [List.getElem?_map, List.getElem?_eq_getElem hil]; rfl
      have l1 : h.cell E (aadd a (i * 1)) = some (.int .i64 (p[i] : Nat)) := by rw [Nat.mul_one]; exact cells_cell hc hil hg
      have l2 : h.cell E (aadd a' (i * 1)) = some (.int .i64 (p[i] : Nat)) := by rw [Nat.mul_one]; exact cells_cell hc' hil hg
      have e2 : decide ((p[i] : Int) = (p[i] : Int)) = true := decide_eq_true rfl
      apply Wc.loop
      simp only [loop48, loopOf, firstLoop, Option.getD, Tryd.f48]
      repeat' (first | (with_reducible apply Wc.seq) | (apply Wc.ops; (focus ((repeat' (first | with_reducible exact RO.nil | ((with_reducible apply RO.run (awant_none rfl)); (focus ((first | simp +decide only [awant, ayield_get, oper1, aop, opv, opvs, opvo, opvp, abuiltin, aun, Gx, abin, isShift, aint, roV, pair, bind, Option.bind, acall, Sx, n0, q0, q1, q12, q13, e1, qia53 _ _ _ _ hir, Int.toNat_natCast, Qx, Hx, l1, l2, e2, w4] | skip); with_reducible rfl))) | ((with_reducible apply RO.runG); (focus rfl); (focus rfl); (focus (simp +decide only [awant, ayield_get, oper1, aop, opv, opvs, opvo, opvp, abuiltin, aun, Gx, abin, isShift, aint, roV, pair, bind, Option.bind, acall, Sx, n0, q0, q1, q12, q13, e1, qia53 _ _ _ _ hir, Int.toNat_natCast, Qx, Hx, l1, l2, e2, w4]; done)); (focus ((first | simp +decide only [awant, ayield_get, oper1, aop, opv, opvs, opvo, opvp, abuiltin, aun, Gx, abin, isShift, aint, roV, pair, bind, Option.bind, acall, Sx, n0, q0, q1, q12, q13, e1, qia53 _ _ _ _ hir, Int.toNat_natCast, Qx, Hx, l1, l2, e2, w4] | skip); with_reducible rfl))) | ((with_reducible apply RO.skipG); (focus rfl); (focus rfl); (focus (simp +decide only [awant, ayield_get, oper1, aop, opv, opvs, opvo, opvp, abuiltin, aun, Gx, abin, isShift, aint, roV, pair, bind, Option.bind, acall, Sx, n0, q0, q1, q12, q13, e1, qia53 _ _ _ _ hir, Int.toNat_natCast, Qx, Hx, l1, l2, e2, w4]; done))))); done))) | (refine Wc.quiet (by kernel_rfl) (by repeat' (first | with_reducible exact QO.nil | ((with_reducible apply QO.cons rfl rfl); (focus ((first | simp +decide only [awant, ayield_get, oper1, aop, opv, opvs, opvo, opvp, abuiltin, aun, Gx, abin, isShift, aint, roV, pair, bind, Option.bind, acall, Sx, n0, q0, q1, q12, q13, e1, qia53 _ _ _ _ hir, Int.toNat_natCast, Qx, Hx, l1, l2, e2, w4] | skip); with_reducible rfl))))) ?_) | (refine Wc.cond2 (by simp +decide only [opv, Gx, Sx, n0, q0, q1, q12, q13, e1, qia53 _ _ _ _ hir, Int.toNat_natCast, Qx, Hx, l1, l2, e2, w4]; try with_reducible rfl) (fun hb => ?_) (fun hb => ?_) <;> try contradiction) | refine Wc.skip ?_ | refine Wc.ret ?_ | refine Wc.exit ?_ | refine Wc.block ?_)
      refine ih (i + 1) _ (by omega) (by omega) ?_ ?_ ?_ ?_ ?_ ?_
      · simp +decide only [Gx, Sx, n0]
      · simp +decide only [Gx, Sx, d0]
      · simp +decide only [Gx, Sx, n0, q0]
      · simp +decide only [Gx, Sx, n0, q1]
      · simp +decide only [Gx, Sx, n0, q12]
      · simp +decide only [Gx, Sx, n0]
  repeat' (first | (with_reducible apply Wc.seq) | (apply Wc.ops; (focus ((repeat' (first | with_reducible exact RO.nil | ((with_reducible apply RO.run (awant_none rfl)); (focus ((first | simp +decide only [awant, ayield_get, oper1, aop, opv, opvs, opvo, opvp, abuiltin, aun, Gx, abin, isShift, aint, roV, pair, bind, Option.bind, acall, Sx, n0, q0, q1, Qx, e0] | skip); with_reducible rfl))))); done))) | (refine Wc.cond2 (by simp +decide only [opv, Gx, Sx, n0, q0, q1, Qx, e0]; try with_reducible rfl) (fun hb => ?_) (fun hb => ?_) <;> try contradiction) | refine Wc.skip ?_ | refine Wc.ret ?_ | refine Wc.exit ?_ | refine Wc.block ?_)
  refine (key p.length 0 _ rfl (Nat.zero_le _) ?_ ?_ ?_ ?_ ?_ ?_).mono ?_
  · simp +decide only [Gx, Sx, n0]
  · simp +decide only [Gx, Sx, d0]
  · simp +decide only [Gx, Sx, n0, q0]
  · simp +decide only [Gx, Sx, n0, q1]
  · simp +decide only [Gx, Sx, n0]
  · simp +decide only [Gx, Sx, n0]
    rfl
  rintro ex A0 g ⟨rfl, n0, d0, rfl⟩
  simp only [if_true]
  repeat' (first | (with_reducible apply Wc.seq) | (apply Wc.ops; (focus ((repeat' (first | with_reducible exact RO.nil | ((with_reducible apply RO.run (awant_none rfl)); (focus ((first | simp +decide only [awant, ayield_get, oper1, aop, opv, opvs, opvo, opvp, abuiltin, aun, Gx, abin, isShift, aint, roV, pair, bind, Option.bind, acall, Sx, n0] | skip); with_reducible rfl))))); done))) | (refine Wc.cond2 (by simp +decide only [opv, Gx, Sx, n0]; try with_reducible rfl) (fun hb => ?_) (fun hb => ?_) <;> try contradiction) | refine Wc.skip ?_ | refine Wc.ret ?_ | refine Wc.exit ?_ | refine Wc.block ?_)
  exact done_q (v := .bool true) (.inr rfl) (by simp +decide only [Gx, Sx, d0]) rfl (by simp +decide only [Gx, Sx, n0]) ⟨rfl, rfl⟩
theorem equal78 (hI : ∀ f args h, (f = 78 ∨ f = 48) → I f args h = none) {h : H} {v w : Value} {ps : List (List Nat)} (hv : Pls E h v ps) (hw : Pls E h w ps) (hl : ps.length ≤ 1000000) (hpl : ∀ p ∈ ps, p.length ≤ 1000000) :
    ∃ n v' h', (ev tab E I n).call 78 [v, w, .func (.func 48) #[] #[]] h = some (v', h') ∧ (v' = .bool true ∧ h' = h) := by
  obtain ⟨b, c, rfl, hb⟩ := hv
  obtain ⟨b', c', rfl, hb'⟩ := hw
  refine Wc.call (hI _ _ _ (.inl rfl)) fn78 rfl ?_
  generalize hA0 : (⟨T.ofList [.slice b ps.length c, .slice b' ps.length c', .func (.func 48) #[] #[]] 0 .nil, max ([.slice b ps.length c, .slice b' ps.length c', .func (.func 48) #[] #[]] : List Value).length Tryd.f78.ntmps, []⟩ : Ac) = A0
  have n0 : A0.n = 32 := by rw [← hA0]; rfl
  have q0 : A0.get 0 = .slice b ps.length c := by rw [← hA0]; rfl
  have q1 : A0.get 1 = .slice b' ps.length c' := by rw [← hA0]; rfl
  have q2 : A0.get 2 = .func (.func 48) #[] #[] := by rw [← hA0]; rfl
  have d0 : A0.defers = [] := by rw [← hA0]
  clear hA0
  have e0 : decide ((ps.length : Int) = (ps.length : Int)) = true := decide_eq_true rfl
  have key : ∀ (r i : Nat) (A0 : Ac), r = ps.length - i → i ≤ ps.length → A0.n = 32 → A0.defers = [] → A0.get 1 = .slice b' ps.length c' → A0.get 2 = .func (.func 48) #[] #[] → A0.get 15 = .slice b ps.length c → A0.get 16 = .int .i64 (ps.length : Nat) → A0.get 17 = .int .i64 (i : Nat) →
      Wc tab E I ⟨78, none⟩ (.loop loop78) A0 h (fun ex A g => ex = .exit 0 ∧ A.n = 32 ∧ A.defers = [] ∧ g = h) := by
    intro r
    induction r with
    | zero =>
      intro i A0 hr hi n0 d0 q1 q2 q15 q16 q17
      obtain rfl : i = ps.length := by omega
      have e1 : decide ((ps.length : Int) < (ps.length : Int)) = false := by simp
      apply Wc.loop
      simp only [loop78, loopOf, firstLoop, Option.getD, Tryd.f78]
      repeat' (first | (with_reducible apply Wc.seq) | (apply Wc.ops; (focus ((repeat' (first | with_reducible exact RO.nil | ((with_reducible apply RO.run (awant_none rfl)); (focus ((first | simp +decide only [awant, ayield_get, oper1, aop, opv, opvs, opvo, opvp, abuiltin, aun, Gx, abin, isShift, aint, roV, pair, bind, Option.bind, acall, Sx, n0, q16, q17, e1] | skip); with_reducible rfl))))); done))) | (refine Wc.cond2 (by simp +decide only [opv, Gx, Sx, n0, q16, q17, e1]; try with_reducible rfl) (fun hb => ?_) (fun hb => ?_) <;> try contradiction) | refine Wc.skip ?_ | refine Wc.ret ?_ | refine Wc.exit ?_ | refine Wc.block ?_)
      exact ⟨rfl, by simp +decide only [Gx, Sx, n0], by simp +decide only [Gx, Sx, d0], rfl⟩
    | succ r ih =>
      intro i A0 hr hi n0 d0 q1 q2 q15 q16 q17
      have hil : i < ps.length := by omega
      have e1 : decide ((i : Int) < (ps.length : Int)) = true := decide_eq_true (by omega)
      have hir : inRange (i : Int) ps.length = true := by
        show Nat.blt i ps.length = true
        rw [Nat.blt_eq]; exact hil
      have w4 : IntKind.i64.wrap ((i : Int) + 1) = ((i + 1 : Nat) : Int) := wrap64 (by omega) (by omega)
      rcases hb with rfl | ⟨a, vs, rfl, hc, nl⟩
      · simp at hil
      rcases hb' with rfl | ⟨a', vs', rfl, hc', nl'⟩
      · simp at hil
      obtain ⟨x, hx, nx⟩ := nl.get i hil
      obtain ⟨x', hx', nx'⟩ := nl'.get i hil
      have l1 : h.cell E (aadd a (i * 1)) = some x := by rw [Nat.mul_one]; exact cells_cell hc hil hx
      have l2 : h.cell E (aadd a' (i * 1)) = some x' := by rw [Nat.mul_one]; exact cells_cell hc' hil hx'
      obtain ⟨n48, _, _, c48, rfl, rfl⟩ := equal48 (E := E) (I := I) (fun args h => hI _ args h (.inr rfl)) nx nx' (hpl _ (List.getElem_mem hil))
      apply Wc.loop
      simp only [loop78, loopOf, firstLoop, Option.getD, Tryd.f78]
      repeat' (first | (with_reducible apply Wc.seq) | (apply Wc.opsN n48; (focus ((repeat' (first | with_reducible exact RO.nil | ((with_reducible apply RO.run (awant_none rfl)); (focus ((first | simp +decide only [awant, ayield_get, oper1, aop, opv, opvs, opvo, opvp, abuiltin, aun, Gx, abin, isShift, aint, roV, pair, bind, Option.bind, acall, Sx, n0, q1, q2, q15, q16, q17, e1, qia68 _ _ _ _ hir, Int.toNat_natCast, Qx, Hx, l1, l2, List.nil_append, c48, aun, w4] | skip); with_reducible rfl))))); done))) | (refine Wc.cond2 (by simp +decide only [opv, Gx, Sx, n0, q1, q2, q15, q16, q17, e1, qia68 _ _ _ _ hir, Int.toNat_natCast, Qx, Hx, l1, l2, List.nil_append, c48, aun, w4]; try with_reducible rfl) (fun hb => ?_) (fun hb => ?_) <;> try contradiction) | refine Wc.skip ?_ | refine Wc.ret ?_ | refine Wc.exit ?_ | refine Wc.block ?_)
      refine ih (i + 1) _ (by omega) (by omega) ?_ ?_ ?_ ?_ ?_ ?_ ?_
      · simp +decide only [Gx, Sx, n0]
      · simp +decide only [Gx, Sx, d0]
      · simp +decide only [Gx, Sx, n0, q1]
      · simp +decide only [Gx, Sx, n0, q2]
      · simp +decide only [Gx, Sx, n0, q15]
      · simp +decide only [Gx, Sx, n0, q16]
      · simp +decide only [Gx, Sx, n0]
  repeat' (first | (with_reducible apply Wc.seq) | (apply Wc.ops; (focus ((repeat' (first | with_reducible exact RO.nil | ((with_reducible apply RO.run (awant_none rfl)); (focus ((first | simp +decide only [awant, ayield_get, oper1, aop, opv, opvs, opvo, opvp, abuiltin, aun, Gx, abin, isShift, aint, roV, pair, bind, Option.bind, acall, Sx, n0, q0, q1, Qx, Qy, e0] | skip); with_reducible rfl))))); done))) | (refine Wc.cond2 (by simp +decide only [opv, Gx, Sx, n0, q0, q1, Qx, Qy, e0]; try with_reducible rfl) (fun hb => ?_) (fun hb => ?_) <;> try contradiction) | refine Wc.skip ?_ | refine Wc.ret ?_ | refine Wc.exit ?_ | refine Wc.block ?_)
  refine (key ps.length 0 _ rfl (Nat.zero_le _) ?_ ?_ ?_ ?_ ?_ ?_ ?_).mono ?_
  · simp +decide only [Gx, Sx, n0]
  · simp +decide only [Gx, Sx, d0]
  · simp +decide only [Gx, Sx, n0, q1]
  · simp +decide only [Gx, Sx, n0, q2]
  · simp +decide only [Gx, Sx, n0, q0]
  · simp +decide only [Gx, Sx, n0]
  · simp +decide only [Gx, Sx, n0]
    rfl
  rintro ex A0 g ⟨rfl, n0, d0, rfl⟩
  simp only [if_true]
  repeat' (first | (with_reducible apply Wc.seq) | (apply Wc.ops; (focus ((repeat' (first | with_reducible exact RO.nil | ((with_reducible apply RO.run (awant_none rfl)); (focus ((first | simp +decide only [awant, ayield_get, oper1, aop, opv, opvs, opvo, opvp, abuiltin, aun, Gx, abin, isShift, aint, roV, pair, bind, Option.bind, acall, Sx, n0] | skip); with_reducible rfl))))); done))) | (refine Wc.cond2 (by simp +decide only [opv, Gx, Sx, n0]; try with_reducible rfl) (fun hb => ?_) (fun hb => ?_) <;> try contradiction) | refine Wc.skip ?_ | refine Wc.ret ?_ | refine Wc.exit ?_ | refine Wc.block ?_)
  exact done_q (v := .bool true) (.inr rfl) (by simp +decide only [Gx, Sx, d0]) rfl (by simp +decide only [Gx, Sx, n0]) ⟨rfl, rfl⟩
theorem paths44 (hI : ∀ f args h, (f = 44 ∨ f = 78 ∨ f = 48) → I f args h = none) {h : H} {v w : Value} {ps : List (List Nat)} (hv : Pls E h v ps) (hw : Pls E h w ps) (hl : ps.length ≤ 1000000) (hpl : ∀ p ∈ ps, p.length ≤ 1000000) :
    ∃ n v' h', (ev tab E I n).call 44 [v, w] h = some (v', h') ∧ (v' = .bool true ∧ h' = h) := by
  obtain ⟨n78, _, _, c78, rfl, rfl⟩ := equal78 (E := E) (I := I) (fun f args h hf => hI f args h (by rcases hf with h | h <;> simp [h])) hv hw hl hpl
  refine Wc.call (hI _ _ _ (.inl rfl)) fn44 rfl ?_
  generalize hA0 : (⟨T.ofList [v, w] 0 .nil, max ([v, w] : List Value).length Tryd.f44.ntmps, []⟩ : Ac) = A0
  have n0 : A0.n = 8 := by rw [← hA0]; rfl
  have q0 : A0.get 0 = v := by rw [← hA0]; rfl
  have q1 : A0.get 1 = w := by rw [← hA0]; rfl
  have d0 : A0.defers = [] := by rw [← hA0]
  clear hA0
  repeat' (first | (with_reducible apply Wc.seq) | (apply Wc.opsN n78; (focus ((repeat' (first | with_reducible exact RO.nil | ((with_reducible apply RO.run (awant_none rfl)); (focus ((first | simp +decide only [awant, ayield_get, oper1, aop, opv, opvs, opvo, opvp, abuiltin, aun, Gx, abin, isShift, aint, roV, pair, bind, Option.bind, acall, Sx, n0, q0, q1, c78] | skip); with_reducible rfl))))); done))) | (refine Wc.cond2 (by simp +decide only [opv, Gx, Sx, n0, q0, q1, c78]; try with_reducible rfl) (fun hb => ?_) (fun hb => ?_) <;> try contradiction) | refine Wc.skip ?_ | refine Wc.ret ?_ | refine Wc.exit ?_ | refine Wc.block ?_)
  exact done_q (v := .bool true) (.inr rfl) (by simp +decide only [Gx, Sx, d0]) rfl (by simp +decide only [Gx, Sx, n0]) ⟨rfl, rfl⟩
end Go.Proofs.YtofijpbmbmbnhaaDoor
/- The item at a place: of paths wherever they lie. -/
set_option maxRecDepth 100000
set_option maxHeartbeats 8000000
namespace Go.Proofs.YtofijpbmbmbnhaaDoor
open Go Go.Hs Go.Proofs
variable {E : Env} {I : Known}
theorem atN_cons {k m : Int} {tx : ByteArray} {ks : List Hs.Item} {i : Nat} {p : List Nat} {t : Hs.Item} (h : atN (.mk k m tx ks) (i :: p) = some t) : ∃ hn : i < ks.length, atN ks[i] p = some t := by
  rw [atN] at h
  split at h
  · next y hy =>
    obtain ⟨hn, rfl⟩ := List.getElem?_eq_some_iff.1 hy
    exact ⟨hn, h⟩
  · cases h
theorem at29n (hI : ∀ f args h, (f = 29 ∨ f = 68 ∨ f = 47) → I f args h = none) (h35 : ∀ t xv h, rep E h t xv → isz t ≤ 1000000 → I 35 [xv] h = some (some (.int .i64 (chkI t 0 1).2, h))) {t t' : Hs.Item} {p : List Nat} {xv pv : Value} {h : H} (hr : rep E h t xv) (hp : Nums E h pv p) (hat : atN t p = some t') (hfit : Fit h) (hz : isz t ≤ 1000000) (hlp : p.length ≤ 1000000) (hck : (chkI t 0 1).2 = 0) :
    ∃ n v h', (ev tab E I n).call 29 [xv, pv] h = some (v, h') ∧ (Ahd h h' ∧ ∃ tv, v = .tuple #[tv, .int .i64 0] ∧ rep E h' t' tv) := by
  obtain ⟨x0, x1, x2, x3, rfl, xone⟩ := rep_four hr
  obtain ⟨bp, cp, rfl, hkp⟩ := hp
  refine Wc.call (hI _ _ _ (.inl rfl)) fn29 rfl ?_
  generalize hA0 : (⟨T.ofList [.agg ⟨[x0, x1, x2, x3]⟩, .slice bp p.length cp] 0 .nil, max ([.agg ⟨[x0, x1, x2, x3]⟩, .slice bp p.length cp] : List Value).length Tryd.f29.ntmps, []⟩ : Ac) = A0
  have n0 : A0.n = 39 := by rw [← hA0]; rfl
  have g00 : A0.get 0 = .agg ⟨[x0, x1, x2, x3]⟩ := by rw [← hA0]; rfl
  have g01 : A0.get 1 = .slice bp p.length cp := by rw [← hA0]; rfl
  have d0 : A0.defers = [] := by rw [← hA0]
  generalize hh1 : h.new (.cells (Value.agg ⟨[x0, x1, x2, x3]⟩).cells.toList 25 none) = h1
  have a1 : Ahd h h1 := by rw [← hh1]; exact Ahd.new0 hfit rfl
  have b1 : h1.blk h.next = some (.cells [x0, x1, x2, x3] 25 none) := by rw [← hh1]; exact new_blk_new rfl
  have x1' : h1.next = h.next + 1 := by rw [← hh1]; rfl
  generalize hh2 : h1.new (.cells (Value.agg #[.int .i64 0, .int .i64 0, .string ⟨#[]⟩, .slice none 0 0]).cells.toList 25 none) = h2
  have a2 : Ahd h1 h2 := by rw [← hh2]; exact Ahd.new0 a1.fit rfl
  have b2 : h2.blk h1.next = some (.cells [.int .i64 0, .int .i64 0, .string ⟨#[]⟩, .slice none 0 0] 25 none) := by rw [← hh2]; exact new_blk_new rfl
  have b1' := a2.grows _ _ b1
  have ag := a1.trans a2
  have lx : h2.cells E (own h.next) 4 = some [x0, x1, x2, x3] := blk_cells b1' rfl xone
  have c35 : (ev tab E I 1).call 35 [.agg ⟨[x0, x1, x2, x3]⟩] h2 = some (.int .i64 0, h2) := by
    have := ev_known (D := tab) (E := E) (h35 _ _ _ (rep_grow ag.grows hr) hz)
    rw [hck] at this
    exact this
  have d35 : (!decide ((0 : Int) = 0)) = false := rfl
  have key : ∀ (r i : Nat) (A : Ac) (g : H) (c : Hs.Item) (y0 y1 y2 y3 : Value), r = p.length - i → i ≤ p.length → A.n = 39 → A.defers = [] → A.get 2 = .pointer (some (own h.next)) → A.get 4 = .pointer (some (own h1.next)) → A.get 15 = .slice bp p.length cp → A.get 16 = .int .i64 (p.length : Nat) → A.get 17 = .int .i64 (i : Nat) →
      Ahd h g → g.blk h.next = some (.cells [y0, y1, y2, y3] 25 none) → g.blk h1.next = some (.cells [.int .i64 0, .int .i64 0, .string ⟨#[]⟩, .slice none 0 0] 25 none) → rep E h c (.agg ⟨[y0, y1, y2, y3]⟩) → isz c ≤ 1000000 → atN c (p.drop i) = some t' →
      Wc tab E I ⟨29, none⟩ (.loop loop29) A g (fun ex A g => ex = .exit 0 ∧ A.n = 39 ∧ A.defers = [] ∧ A.get 2 = .pointer (some (own h.next)) ∧ A.get 4 = .pointer (some (own h1.next)) ∧ Ahd h g ∧ ∃ y0 y1 y2 y3, g.blk h.next = some (.cells [y0, y1, y2, y3] 25 none) ∧ g.blk h1.next = some (.cells [.int .i64 0, .int .i64 0, .string ⟨#[]⟩, .slice none 0 0] 25 none) ∧ rep E h t' (.agg ⟨[y0, y1, y2, y3]⟩) ∧ isz t' ≤ 1000000) := by
    intro r
    induction r with
    | zero =>
      intro i A g c y0 y1 y2 y3 hr' hi nA dA p2 p4 p15 p16 p17 ah c1 c2 rc zc hc
      obtain rfl : i = p.length := by omega
      have hlt : decide ((p.length : Int) < (p.length : Int)) = false := by simp
      rw [List.drop_length] at hc
      obtain ⟨k, m, tx, ks⟩ := c
      rw [atN] at hc
      cases hc
      apply Wc.loop
      simp only [loop29, loopOf, firstLoop, Option.getD, Tryd.f29]
      repeat' (first | (with_reducible apply Wc.seq) | (apply Wc.ops; (focus ((repeat' (first | with_reducible exact RO.nil | ((with_reducible apply RO.run (awant_none rfl)); (focus ((first | simp +decide only [awant, ayield_get, oper1, aop, opv, opvs, opvo, opvp, abuiltin, aun, Ac.get_put, abin, isShift, aint, roV, pair, bind, Option.bind, acall, Sx, nA, p16, p17, hlt] | skip); with_reducible rfl))))); done))) | (refine Wc.cond2 (by simp +decide only [opv, Ac.get_put, Sx, nA, p16, p17, hlt]; try with_reducible rfl) (fun hb => ?_) (fun hb => ?_) <;> try contradiction) | refine Wc.skip ?_ | refine Wc.ret ?_ | refine Wc.exit ?_ | refine Wc.block ?_)
      exact ⟨rfl, by simp +decide only [Ac.get_put, Sx, nA], by simp +decide only [Ac.get_put, Sx, dA], by simp +decide only [Ac.get_put, Sx, nA, p2], by simp +decide only [Ac.get_put, Sx, nA, p4], ah, y0, y1, y2, y3, c1, c2, rc, zc⟩
    | succ r ih =>
      intro i A g c y0 y1 y2 y3 hr' hi nA dA p2 p4 p15 p16 p17 ah c1 c2 rc zc hc
      have hil : i < p.length := by omega
      have hr1 : r = p.length - (i + 1) := by omega
      have hlt : decide ((i : Int) < (p.length : Int)) = true := by simp; omega
      rw [List.drop_eq_getElem_cons hil] at hc
      obtain ⟨k, m, tx, ks⟩ := c
      obtain ⟨hn, hc⟩ := atN_cons hc
      generalize hpi : p[i] = n at hn hc
      have rc0 := rc
      rw [rep] at rc0
      obtain ⟨s1, e1, hs1⟩ := rc0
      simp only [Value.agg.injEq, Array.mk.injEq, List.cons.injEq, and_true] at e1
      obtain ⟨rfl, rfl, rfl, rfl⟩ := e1
      rcases hs1 with ⟨hk0, _⟩ | ⟨a, cc, cs, rfl, _, hcs, hrl⟩
      · rw [hk0] at hn; simp at hn
      obtain ⟨hl4, hrk⟩ := repL_get n hrl (List.getElem?_eq_getElem hn)
      obtain ⟨q0, q1, q2, q3, hq, hone⟩ := rep_four hrk
      simp only [Value.agg.injEq, Array.mk.injEq] at hq
      rw [hq] at hrk
      have hsub := cells_sub (cells_grow ah.grows hcs) (m := n * 4) (l := 4) (by omega)
      rw [hq] at hsub
      have hmem : ks[n] ∈ ks := List.getElem_mem hn
      have hkz := isz_mem hmem
      rw [isz] at zc
      have hirp : inRange (i : Int) p.length = true := by
        show Nat.blt i p.length = true
        rw [Nat.blt_eq]; exact hil
      have hir : inRange (n : Int) ks.length = true := by
        show Nat.blt n ks.length = true
        rw [Nat.blt_eq]; exact hn
      have w3 : IntKind.i64.wrap ((i : Int) + 1) = (i : Int) + 1 := wrap64 (by omega) (by omega)
      rcases hkp with rfl | ⟨ap, rfl, hkp⟩
      · simp at hil
      have lp : g.cell E (aadd ap (i * 1)) = some (.int .i64 (n : Nat)) := by
        rw [Nat.mul_one]
        exact cells_cell (cells_grow ah.grows hkp) hil (by unfold natsV; rw [List.getElem?_map, List.getElem?_eq_getElem hil, hpi]; rfl)
      have l3 : g.cell E (aadd (own h.next) 3) = some (.slice (some a) ks.length cc) := blk_cell (i := 3) c1 rfl rfl
      have dn : decide ((n : Int) < 0) = false := by simp
      have dg : decide ((n : Int) ≥ (ks.length : Int)) = false := by simp; omega
      have hst := st25 (a := q0) (b := q1) (c := q2) (d := q3) c1 hone (by rw [ah.mark]; exact hfit.ok.2)
      have lg := ah.fit.lt c1
      generalize hh6 : g.setb h.next (.cells [q0, q1, q2, q3] 25 none) = g2 at hst
      have u2 : Ahd h g2 := by rw [← hh6]; exact ah.setb rfl (Nat.le_refl _) lg hfit
      have cc1 : g2.blk h.next = some (.cells [q0, q1, q2, q3] 25 none) := by rw [← hh6]; exact setb_same rfl
      have cc2 : g2.blk h1.next = some (.cells [.int .i64 0, .int .i64 0, .string ⟨#[]⟩, .slice none 0 0] 25 none) := by rw [← hh6, setb_ne (by omega)]; exact c2
      apply Wc.loop
      simp only [loop29, loopOf, firstLoop, Option.getD, Tryd.f29]
      repeat' (first | (with_reducible apply Wc.seq) | (apply Wc.ops; (focus ((repeat' (first | with_reducible exact RO.nil | ((with_reducible apply RO.run (awant_none rfl)); (focus ((first | simp +decide only [awant, ayield_get, oper1, aop, opv, opvs, opvo, opvp, abuiltin, aun, Ac.get_put, abin, isShift, aint, roV, pair, bind, Option.bind, acall, Sx, nA, p2, p15, p16, p17, hlt, ia53 _ _ _ _ hirp, Int.toNat_natCast, ld3, lp, dn, dg, fa25_3, ld23, l3, len23, ia23 _ _ _ _ hir, ld25, hsub, hst, w3] | skip); with_reducible rfl))) | ((with_reducible apply RO.runG); (focus rfl); (focus rfl); (focus (simp +decide only [awant, ayield_get, oper1, aop, opv, opvs, opvo, opvp, abuiltin, aun, Ac.get_put, abin, isShift, aint, roV, pair, bind, Option.bind, acall, Sx, nA, p2, p15, p16, p17, hlt, ia53 _ _ _ _ hirp, Int.toNat_natCast, ld3, lp, dn, dg, fa25_3, ld23, l3, len23, ia23 _ _ _ _ hir, ld25, hsub, hst, w3]; done)); (focus ((first | simp +decide only [awant, ayield_get, oper1, aop, opv, opvs, opvo, opvp, abuiltin, aun, Ac.get_put, abin, isShift, aint, roV, pair, bind, Option.bind, acall, Sx, nA, p2, p15, p16, p17, hlt, ia53 _ _ _ _ hirp, Int.toNat_natCast, ld3, lp, dn, dg, fa25_3, ld23, l3, len23, ia23 _ _ _ _ hir, ld25, hsub, hst, w3] | skip); with_reducible rfl))) | ((with_reducible apply RO.skipG); (focus rfl); (focus rfl); (focus (simp +decide only [awant, ayield_get, oper1, aop, opv, opvs, opvo, opvp, abuiltin, aun, Ac.get_put, abin, isShift, aint, roV, pair, bind, Option.bind, acall, Sx, nA, p2, p15, p16, p17, hlt, ia53 _ _ _ _ hirp, Int.toNat_natCast, ld3, lp, dn, dg, fa25_3, ld23, l3, len23, ia23 _ _ _ _ hir, ld25, hsub, hst, w3]; done))))); done))) | (refine Wc.quiet (by kernel_rfl) (by repeat' (first | with_reducible exact QO.nil | ((with_reducible apply QO.cons rfl rfl); (focus ((first | simp +decide only [awant, ayield_get, oper1, aop, opv, opvs, opvo, opvp, abuiltin, aun, Ac.get_put, abin, isShift, aint, roV, pair, bind, Option.bind, acall, Sx, nA, p2, p15, p16, p17, hlt, ia53 _ _ _ _ hirp, Int.toNat_natCast, ld3, lp, dn, dg, fa25_3, ld23, l3, len23, ia23 _ _ _ _ hir, ld25, hsub, hst, w3] | skip); with_reducible rfl))))) ?_) | (refine Wc.cond2 (by simp +decide only [opv, Ac.get_put, Sx, nA, p2, p15, p16, p17, hlt, ia53 _ _ _ _ hirp, Int.toNat_natCast, ld3, lp, dn, dg, fa25_3, ld23, l3, len23, ia23 _ _ _ _ hir, ld25, hsub, hst, w3]; try with_reducible rfl) (fun hb => ?_) (fun hb => ?_) <;> try contradiction) | refine Wc.skip ?_ | refine Wc.ret ?_ | refine Wc.exit ?_ | refine Wc.block ?_)
      refine (ih (i + 1) _ g2 ks[n] q0 q1 q2 q3 hr1 hil ?_ ?_ ?_ ?_ ?_ ?_ ?_ u2 cc1 cc2 hrk (by omega) hc).mono (fun _ _ _ h => h)
      · simp +decide only [Ac.get_put, Sx, nA]
      · simp +decide only [Ac.get_put, Sx, dA]
      · simp +decide only [Ac.get_put, Sx, nA, p2]
      · simp +decide only [Ac.get_put, Sx, nA, p4]
      · simp +decide only [Ac.get_put, Sx, nA, p15]
      · simp +decide only [Ac.get_put, Sx, nA, p16]
      · simp +decide only [Ac.get_put, Sx, nA]
        rfl
  repeat' (first | (with_reducible apply Wc.seq) | (apply Wc.ops; (focus ((repeat' (first | with_reducible exact RO.nil | ((with_reducible apply RO.run (awant_none rfl)); (focus ((first | simp +decide only [awant, ayield_get, oper1, aop, opv, opvs, opvo, opvp, abuiltin, aun, Ac.get_put, abin, isShift, aint, roV, pair, bind, Option.bind, acall, Sx, n0, g00, g01, hh1, tz25, hh2, ld25, lx, c35, d35, len53] | skip); with_reducible rfl))))); done))) | (refine Wc.cond2 (by simp +decide only [opv, Ac.get_put, Sx, n0, g00, g01, hh1, tz25, hh2, ld25, lx, c35, d35, len53]; try with_reducible rfl) (fun hb => ?_) (fun hb => ?_) <;> try contradiction) | refine Wc.skip ?_ | refine Wc.ret ?_ | refine Wc.exit ?_ | refine Wc.block ?_)
  refine (key p.length 0 _ h2 t x0 x1 x2 x3 rfl (Nat.zero_le _) ?_ ?_ ?_ ?_ ?_ ?_ ?_ ag b1' b2 hr hz (by rw [List.drop_zero]; exact hat)).mono ?_
  · simp +decide only [Ac.get_put, Sx, n0]
  · simp +decide only [Ac.get_put, Sx, d0]
  · simp +decide only [Ac.get_put, Sx, n0]
  · simp +decide only [Ac.get_put, Sx, n0]
  · simp +decide only [Ac.get_put, Sx, n0, g01]
  · simp +decide only [Ac.get_put, Sx, n0]
  · simp +decide only [Ac.get_put, Sx, n0]
    rfl
  · rintro ex A g ⟨rfl, nA, dA, p2, p4, ah, y0, y1, y2, y3, c1, c2, rc, zc⟩
    simp only [if_true]
    have yone := rep_four' rc
    have lx : g.cells E (own h.next) 4 = some [y0, y1, y2, y3] := blk_cells c1 rfl yone
    obtain ⟨nf, v, g3, c68, a3, r3⟩ := own68 (E := E) (I := I) (fun f args h hf => hI f args h (by rcases hf with h | h <;> simp [h])) (isz t') t' _ g (Nat.le_refl _) (rep_grow ah.grows rc) ah.fit zc
    obtain ⟨v0, v1, v2, v3, rfl, vone⟩ := rep_four r3
    have c23 := a3.grows _ _ c2
    have st5 := st25 (a := v0) (b := v1) (c := v2) (d := v3) c23 vone (by rw [a3.mark, ah.mark]; have := hfit.ok.2; omega)
    have lg2 := a3.fit.lt c23
    generalize hh5 : g3.setb h1.next (.cells [v0, v1, v2, v3] 25 none) = g5 at st5
    have a5 : Ahd h g5 := by rw [← hh5]; exact (ah.trans a3).setb rfl (by omega) lg2 hfit
    have b5 : g5.blk h1.next = some (.cells [v0, v1, v2, v3] 25 none) := by rw [← hh5]; exact setb_same rfl
    have r5 : rep E g5 t' (.agg ⟨[v0, v1, v2, v3]⟩) := rep_grow (only_grows a5.fit) (rep_grow (only_mono (q := fun r => Nat.ble g.next r) a3.fit a5.fit (fun j B hb ⟨ys, ty, r, o, hB, _⟩ => by
      rw [← hh5, setb_ne (fun e => by
        rw [e, c23] at hb
        rw [← Option.some.inj hb] at hB
        cases hB)]
      exact hb) (fun r h => h)) r3)
    repeat' (first | (with_reducible apply Wc.seq) | (apply Wc.opsN nf; (focus ((repeat' (first | with_reducible exact RO.nil | ((with_reducible apply RO.run (awant_none rfl)); (focus ((first | simp +decide only [awant, ayield_get, oper1, aop, opv, opvs, opvo, opvp, abuiltin, aun, Ac.get_put, abin, isShift, aint, roV, pair, bind, Option.bind, acall, Sx, nA, p2, p4, ld25, lx, c68, st5] | skip); with_reducible rfl))))); done))) | (refine Wc.cond2 (by simp +decide only [opv, Ac.get_put, Sx, nA, p2, p4, ld25, lx, c68, st5]; try with_reducible rfl) (fun hb => ?_) (fun hb => ?_) <;> try contradiction) | refine Wc.skip ?_ | refine Wc.ret ?_ | refine Wc.exit ?_ | refine Wc.block ?_)
    exact done_cq (.inr rfl) (by simp +decide only [Ac.get_put, Sx, dA]) rfl (show _ = Value.pointer (some (own h1.next)) by simp +decide only [Ac.get_put, Sx, nA, p4]) (by rw [ld25, blk_cells b5 (n := 4) rfl vone]) (show _ = Value.int .i64 0 by simp +decide only [Ac.get_put, Sx, nA]) ⟨a5, _, rfl, r5⟩
end Go.Proofs.YtofijpbmbmbnhaaDoor
/- The law on what is put (WirePuts): its loops. -/
set_option maxRecDepth 100000
set_option maxHeartbeats 16000000
namespace Go.Proofs.YtofijpbmbmbnhaaDoor
open Go Go.Hs Go.Proofs
variable {E : Env}
structure Kn9 (E : Env) (K : Known) : Prop where
  out : ∀ f args h, f ∈ [9, 24, 59, 23, 58, 121, 94, 93, 95, 41, 75, 29, 68, 47, 42, 76, 43, 77, 44, 78, 48] → K f args h = none
  k11 : ∀ h, K 11 [] h = some (some (.bool true, h))
  kc : Chk E K
  k66 : ∀ t xv u yv h, rep E h t xv → rep E h u yv → isz t ≤ 1000000 → K 66 [xv, yv] h = some (some (.int .i64 (ordI t u), h))
  k32 : ∀ t xv h, rep E h t xv → isz t ≤ 1000000 → K 32 [xv] h = some (some (.tuple #[.int .i64 (szI t).1, .int .i64 (szI t).2.1, .int .i64 (szI t).2.2], h))
  k14 : AlkN E K
theorem fn9 : tab.fn.get 9 = some Tryd.f9 := by kernel_rfl
noncomputable def loop9a : Code := loopAt Tryd.f9 0
noncomputable def loop9b : Code := loopAt Tryd.f9 1
theorem amax2 (a b : Int) : amin (fun x y => if y > x then y else x) [.int .i64 a, .int .i64 b] = some (.int .i64 (if b > a then b else a)) := rfl
theorem var25 {g : H} (f : Fit g) {a b c d : Value} (ho : [a, b, c, d].all isOne = true) : ∃ g1 g2, g.new (.cells (Value.agg #[.int .i64 0, .int .i64 0, .string ⟨#[]⟩, .slice none 0 0]).cells.toList 25 none) = g1 ∧ astore tab 25 (own g.next) (.agg ⟨[a, b, c, d]⟩) g1 = some g2 ∧ Ahd g g2 ∧ g2.blk g.next = some (.cells [a, b, c, d] 25 none) := by
  have e1 : Ahd g (g.new (.cells (Value.agg #[.int .i64 0, .int .i64 0, .string ⟨#[]⟩, .slice none 0 0]).cells.toList 25 none)) := Ahd.new0 f rfl
  have c8 : (g.new (.cells (Value.agg #[.int .i64 0, .int .i64 0, .string ⟨#[]⟩, .slice none 0 0]).cells.toList 25 none)).blk g.next = some (.cells [.int .i64 0, .int .i64 0, .string ⟨#[]⟩, .slice none 0 0] 25 none) := new_blk_new rfl
  generalize g.new (.cells (Value.agg #[.int .i64 0, .int .i64 0, .string ⟨#[]⟩, .slice none 0 0]).cells.toList 25 none) = g1 at e1 c8
  exact ⟨g1, _, rfl, astore_all (ys := [a, b, c, d]) qty25 c8 rfl rfl ho (by simp), e1.setl rfl (Nat.le_refl _) (e1.fit.lt c8) f, setl_same rfl⟩
theorem loop9a_ok {K : Known} (k : Kn9 E K) {gA : H} (fA : Fit gA) {k7 k11 : Nat} {x0 x1 x2 x3 o0 o1 o2 o3 : Value} {t old : Hs.Item} (b7 : gA.blk k7 = some (.cells [x0, x1, x2, x3] 25 none)) (ox : [x0, x1, x2, x3].all isOne = true) (rx : rep E gA t (.agg ⟨[x0, x1, x2, x3]⟩)) (b11 : gA.blk k11 = some (.cells [o0, o1, o2, o3] 25 none)) (oo : [o0, o1, o2, o3].all isOne = true) (rO : rep E gA old (.agg ⟨[o0, o1, o2, o3]⟩)) (ft : goodI t ∧ lvlI t ≤ 250 ∧ isz t ≤ 300) {s9 s19 : Value} (P9 : Pls E gA s9 (allP t)) :
    ∀ (r i : Nat) (ws : List (List Nat)) (s20 : Value) (ro : Option Nat) (A0 : Ac) (g : H), r = (allP t).length - i → i ≤ (allP t).length → A0.n = 184 → A0.defers = [] → A0.get 7 = .pointer (some (own k7)) → A0.get 9 = s9 → A0.get 11 = .pointer (some (own k11)) → A0.get 19 = s19 → A0.get 20 = s20 → A0.get 121 = s9 → A0.get 122 = .int .i64 ((allP t).length : Nat) → A0.get 123 = .int .i64 (i : Nat) →
      Ahd gA g → Pl E 53 gA.next g s20 ws ro → ws ++ ((allP t).drop i).filter (isAt t old) = (allP t).filter (isAt t old) →
      Wc tab E K ⟨9, none⟩ (.loop loop9a) A0 g (fun ex A g => ex = .exit 0 ∧ A.n = 184 ∧ A.defers = [] ∧ A.get 7 = .pointer (some (own k7)) ∧ A.get 9 = s9 ∧ A.get 19 = s19 ∧ ∃ s20 ro, A.get 20 = s20 ∧ Ahd gA g ∧ Pl E 53 gA.next g s20 ((allP t).filter (isAt t old)) ro) := by
  intro r
  induction r with
  | zero =>
    intro i ws s20 ro A0 g hr hi n0 d0 q7 q9 q11 q19 q20 q121 q122 q123 ag P hws
    obtain rfl : i = (allP t).length := by omega
    have e1 : decide (((allP t).length : Int) < ((allP t).length : Int)) = false := by simp
    rw [List.drop_length, List.filter_nil, List.append_nil] at hws
    apply Wc.loop
    simp only [loop9a, loopAt, loops, List.getD, Option.getD, Tryd.f9, List.append_assoc, List.cons_append, List.nil_append, List.append_nil, List.getElem?_cons_zero]
    repeat' (first | (with_reducible apply Wc.seq) | (apply Wc.ops; (focus ((repeat' (first | with_reducible exact RO.nil | ((with_reducible apply RO.run (awant_none rfl)); (focus ((first | simp +decide only [awant, ayield_get, oper1, aop, opv, opvs, opvo, opvp, abuiltin, aun, Ac.get_put, abin, isShift, aint, roV, pair, bind, Option.bind, acall, Sx, n0, q122, q123, e1] | skip); with_reducible rfl))))); done))) | (refine Wc.cond2 (by simp +decide only [opv, Ac.get_put, Sx, n0, q122, q123, e1]; try with_reducible rfl) (fun hb => ?_) (fun hb => ?_) <;> try contradiction) | refine Wc.skip ?_ | refine Wc.ret ?_ | refine Wc.exit ?_ | refine Wc.block ?_)
    exact ⟨rfl, by simp +decide only [Ac.get_put, Sx, n0], by simp +decide only [Ac.get_put, Sx, d0], by simp +decide only [Ac.get_put, Sx, n0, q7], by simp +decide only [Ac.get_put, Sx, n0, q9], by simp +decide only [Ac.get_put, Sx, n0, q19], s20, ro, by simp +decide only [Ac.get_put, Sx, n0, q20], ag, by rw [← hws]; exact P⟩
  | succ r ih =>
    intro i ws s20 ro A0 g hr hi n0 d0 q7 q9 q11 q19 q20 q121 q122 q123 ag P hws
    have hil : i < (allP t).length := by omega
    have e1 : decide ((i : Int) < ((allP t).length : Int)) = true := decide_eq_true (by omega)
    have hir : inRange (i : Int) (allP t).length = true := by
      show Nat.blt i (allP t).length = true
      rw [Nat.blt_eq]; exact hil
    have hal := allP_length t
    have w4 : IntKind.i64.wrap ((i : Int) + 1) = ((i + 1 : Nat) : Int) := wrap64 (by omega) (by omega)
    have hwl : ws.length ≤ 300 := by
      have := congrArg List.length hws
      rw [List.length_append] at this
      have h2 := List.length_filter_le (isAt t old) (allP t)
      omega
    obtain ⟨b9, c9, rfl, hv9⟩ := id P9
    rcases hv9 with h0 | ⟨a9, vs, rfl, hc9, nl⟩
    · rw [h0] at hil; simp at hil
    obtain ⟨v, hv, nv⟩ := nl.get i hil
    obtain ⟨sub, hsub⟩ := allP_at t (allP t)[i] (List.getElem_mem hil)
    have hpl := allP_len t (allP t)[i] (List.getElem_mem hil)
    have lv : g.cell E (aadd a9 (i * 1)) = some v := by rw [Nat.mul_one]; exact cells_cell (cells_grow ag.grows hc9) hil hv
    have l7 : g.cells E (own k7) 4 = some [x0, x1, x2, x3] := blk_cells (ag.grows _ _ b7) rfl ox
    have hck : (chkI t 0 1).2 = 0 := chkI_fine ⟨ft.1, by omega, by omega⟩
    obtain ⟨n29, _, g1, c29, u1, tv, rfl, rsub⟩ := at29n (E := E) (I := K) (fun f args h hf => k.out _ _ _ (by rcases hf with h | h | h <;> simp [h])) k.kc.1 (rep_grow ag.grows rx) (nv.grow ag.grows) hsub ag.fit (by omega) (by omega) hck
    obtain ⟨z0, z1, z2, z3, rfl, oz⟩ := rep_four rsub
    obtain ⟨g2, g3, hh2, s23, u3, b23⟩ := var25 u1.fit oz
    have U3 := u1.trans u3
    have l23 : g3.cells E (own g1.next) 4 = some [z0, z1, z2, z3] := blk_cells b23 rfl oz
    have l11 : g3.cells E (own k11) 4 = some [o0, o1, o2, o3] := blk_cells (U3.grows _ _ (ag.grows _ _ b11)) rfl oo
    have hsz := atN_isz _ _ _ hsub
    have hsl := lvlI_bound sub
    have c14 := ev_known (D := tab) (E := E) (k.k14 sub old _ _ g3 (rep_grow u3.grows rsub) (rep_grow (ag.grows.trans U3.grows) rO) (by omega) (by omega))
    have hat : isAt t old (allP t)[i] = alkI sub old := by unfold isAt; rw [hsub]
    have AG3 := ag.trans U3
    obtain ⟨vs20, ap, nls⟩ := P
    have e0 : decide ((0 : Int) = 0) = true := rfl
    apply Wc.loop
    simp only [loop9a, loopAt, loops, List.getD, Option.getD, Tryd.f9, List.append_assoc, List.cons_append, List.nil_append, List.append_nil, List.getElem?_cons_zero]
    repeat' (first | (with_reducible apply Wc.seq) | (apply Wc.ops; (focus ((repeat' (first | with_reducible exact RO.nil | ((with_reducible apply RO.run (awant_none rfl)); (focus ((first | simp +decide only [awant, ayield_get, oper1, aop, opv, opvs, opvo, opvp, abuiltin, aun, Ac.get_put, abin, isShift, aint, roV, pair, bind, Option.bind, acall, Sx, n0, q122, q123, e1] | skip); with_reducible rfl))))); done))) | (refine Wc.cond2 (by simp +decide only [opv, Ac.get_put, Sx, n0, q122, q123, e1]; try with_reducible rfl) (fun hb => ?_) (fun hb => ?_) <;> try contradiction) | refine Wc.skip ?_ | refine Wc.ret ?_ | refine Wc.exit ?_ | refine Wc.block ?_)
    (repeat' (with_reducible apply Wc.seq)); (apply Wc.opsN 1; (focus ((repeat' (first | with_reducible exact RO.nil | ((with_reducible apply RO.run (awant_none rfl)); (focus ((first | simp +decide only [awant, ayield_get, oper1, aop, opv, opvs, opvo, opvp, abuiltin, aun, Ac.get_put, abin, isShift, aint, roV, pair, bind, Option.bind, acall, Sx, n0, q121, q123, qia68 _ _ _ _ hir, Int.toNat_natCast, Qx, Hx, lv] | skip); with_reducible rfl))))); done)))
    (repeat' (with_reducible apply Wc.seq)); (apply Wc.opsN n29; (focus ((repeat' (first | with_reducible exact RO.nil | ((with_reducible apply RO.run (awant_none rfl)); (focus ((first | simp +decide only [awant, ayield_get, oper1, aop, opv, opvs, opvo, opvp, abuiltin, aun, Ac.get_put, abin, isShift, aint, roV, pair, bind, Option.bind, acall, Sx, n0, q7, Qx, Hx, l7, c29, qtz25, hh2, s23] | skip); with_reducible rfl))))); done)))
    refine Wc.forget (fun A => A.n = 184 ∧ A.defers = [] ∧ A.get 7 = .pointer (some (own k7)) ∧ A.get 9 = .slice (some a9) (allP t).length c9 ∧ A.get 11 = .pointer (some (own k11)) ∧ A.get 19 = s19 ∧ A.get 20 = s20 ∧ A.get 22 = v ∧ A.get 23 = .pointer (some (own g1.next)) ∧ A.get 24 = .int .i64 0 ∧ A.get 121 = .slice (some a9) (allP t).length c9 ∧ A.get 122 = .int .i64 ((allP t).length : Nat) ∧ A.get 123 = .int .i64 (i : Nat)) ⟨by simp +decide only [Ac.get_put, Sx, n0], by simp +decide only [Ac.get_put, Sx, d0], by first | (simp +decide only [Ac.get_put, Sx, n0, q7, q9, q11, q19, q20, q121, q122, q123]; done) | (simp +decide only [Ac.get_put, Sx, n0, q7, q9, q11, q19, q20, q121, q122, q123]; rfl), by first | (simp +decide only [Ac.get_put, Sx, n0, q7, q9, q11, q19, q20, q121, q122, q123]; done) | (simp +decide only [Ac.get_put, Sx, n0, q7, q9, q11, q19, q20, q121, q122, q123]; rfl), by first | (simp +decide only [Ac.get_put, Sx, n0, q7, q9, q11, q19, q20, q121, q122, q123]; done) | (simp +decide only [Ac.get_put, Sx, n0, q7, q9, q11, q19, q20, q121, q122, q123]; rfl), by first | (simp +decide only [Ac.get_put, Sx, n0, q7, q9, q11, q19, q20, q121, q122, q123]; done) | (simp +decide only [Ac.get_put, Sx, n0, q7, q9, q11, q19, q20, q121, q122, q123]; rfl), by first | (simp +decide only [Ac.get_put, Sx, n0, q7, q9, q11, q19, q20, q121, q122, q123]; done) | (simp +decide only [Ac.get_put, Sx, n0, q7, q9, q11, q19, q20, q121, q122, q123]; rfl), by first | (simp +decide only [Ac.get_put, Sx, n0, q7, q9, q11, q19, q20, q121, q122, q123]; done) | (simp +decide only [Ac.get_put, Sx, n0, q7, q9, q11, q19, q20, q121, q122, q123]; rfl), by first | (simp +decide only [Ac.get_put, Sx, n0, q7, q9, q11, q19, q20, q121, q122, q123]; done) | (simp +decide only [Ac.get_put, Sx, n0, q7, q9, q11, q19, q20, q121, q122, q123]; rfl), by first | (simp +decide only [Ac.get_put, Sx, n0, q7, q9, q11, q19, q20, q121, q122, q123]; done) | (simp +decide only [Ac.get_put, Sx, n0, q7, q9, q11, q19, q20, q121, q122, q123]; rfl), by first | (simp +decide only [Ac.get_put, Sx, n0, q7, q9, q11, q19, q20, q121, q122, q123]; done) | (simp +decide only [Ac.get_put, Sx, n0, q7, q9, q11, q19, q20, q121, q122, q123]; rfl), by first | (simp +decide only [Ac.get_put, Sx, n0, q7, q9, q11, q19, q20, q121, q122, q123]; done) | (simp +decide only [Ac.get_put, Sx, n0, q7, q9, q11, q19, q20, q121, q122, q123]; rfl), by first | (simp +decide only [Ac.get_put, Sx, n0, q7, q9, q11, q19, q20, q121, q122, q123]; done) | (simp +decide only [Ac.get_put, Sx, n0, q7, q9, q11, q19, q20, q121, q122, q123]; rfl)⟩ ?_
    rintro A0 ⟨n0, d0, q7, q9, q11, q19, q20, q22, q23, q24, q121, q122, q123⟩
    (repeat' (with_reducible apply Wc.seq)); (apply Wc.opsN 1; (focus ((repeat' (first | with_reducible exact RO.nil | ((with_reducible apply RO.run (awant_none rfl)); (focus ((first | simp +decide only [awant, ayield_get, oper1, aop, opv, opvs, opvo, opvp, abuiltin, aun, Ac.get_put, abin, isShift, aint, roV, pair, bind, Option.bind, acall, Sx, n0, q24, e0, q11, q23, Qx, Hx, l11, l23, c14] | skip); with_reducible rfl))) | ((with_reducible apply RO.runG); (focus rfl); (focus rfl); (focus (simp +decide only [awant, ayield_get, oper1, aop, opv, opvs, opvo, opvp, abuiltin, aun, Ac.get_put, abin, isShift, aint, roV, pair, bind, Option.bind, acall, Sx, n0, q24, e0, q11, q23, Qx, Hx, l11, l23, c14]; done)); (focus ((first | simp +decide only [awant, ayield_get, oper1, aop, opv, opvs, opvo, opvp, abuiltin, aun, Ac.get_put, abin, isShift, aint, roV, pair, bind, Option.bind, acall, Sx, n0, q24, e0, q11, q23, Qx, Hx, l11, l23, c14] | skip); with_reducible rfl))) | ((with_reducible apply RO.skipG); (focus rfl); (focus rfl); (focus (simp +decide only [awant, ayield_get, oper1, aop, opv, opvs, opvo, opvp, abuiltin, aun, Ac.get_put, abin, isShift, aint, roV, pair, bind, Option.bind, acall, Sx, n0, q24, e0, q11, q23, Qx, Hx, l11, l23, c14]; done))))); done)))
    refine Wc.forget (fun A => A.n = 184 ∧ A.defers = [] ∧ A.get 7 = .pointer (some (own k7)) ∧ A.get 9 = .slice (some a9) (allP t).length c9 ∧ A.get 11 = .pointer (some (own k11)) ∧ A.get 19 = s19 ∧ A.get 20 = s20 ∧ A.get 22 = v ∧ A.get 121 = .slice (some a9) (allP t).length c9 ∧ A.get 122 = .int .i64 ((allP t).length : Nat) ∧ A.get 123 = .int .i64 (i : Nat) ∧ A.get 139 = .bool (alkI sub old)) ⟨by simp +decide only [Ac.get_put, Sx, n0], by simp +decide only [Ac.get_put, Sx, d0], by first | (simp +decide only [Ac.get_put, Sx, n0, q7, q9, q11, q19, q20, q22, q121, q122, q123]; done) | (simp +decide only [Ac.get_put, Sx, n0, q7, q9, q11, q19, q20, q22, q121, q122, q123]; rfl), by first | (simp +decide only [Ac.get_put, Sx, n0, q7, q9, q11, q19, q20, q22, q121, q122, q123]; done) | (simp +decide only [Ac.get_put, Sx, n0, q7, q9, q11, q19, q20, q22, q121, q122, q123]; rfl), by first | (simp +decide only [Ac.get_put, Sx, n0, q7, q9, q11, q19, q20, q22, q121, q122, q123]; done) | (simp +decide only [Ac.get_put, Sx, n0, q7, q9, q11, q19, q20, q22, q121, q122, q123]; rfl), by first | (simp +decide only [Ac.get_put, Sx, n0, q7, q9, q11, q19, q20, q22, q121, q122, q123]; done) | (simp +decide only [Ac.get_put, Sx, n0, q7, q9, q11, q19, q20, q22, q121, q122, q123]; rfl), by first | (simp +decide only [Ac.get_put, Sx, n0, q7, q9, q11, q19, q20, q22, q121, q122, q123]; done) | (simp +decide only [Ac.get_put, Sx, n0, q7, q9, q11, q19, q20, q22, q121, q122, q123]; rfl), by first | (simp +decide only [Ac.get_put, Sx, n0, q7, q9, q11, q19, q20, q22, q121, q122, q123]; done) | (simp +decide only [Ac.get_put, Sx, n0, q7, q9, q11, q19, q20, q22, q121, q122, q123]; rfl), by first | (simp +decide only [Ac.get_put, Sx, n0, q7, q9, q11, q19, q20, q22, q121, q122, q123]; done) | (simp +decide only [Ac.get_put, Sx, n0, q7, q9, q11, q19, q20, q22, q121, q122, q123]; rfl), by first | (simp +decide only [Ac.get_put, Sx, n0, q7, q9, q11, q19, q20, q22, q121, q122, q123]; done) | (simp +decide only [Ac.get_put, Sx, n0, q7, q9, q11, q19, q20, q22, q121, q122, q123]; rfl), by first | (simp +decide only [Ac.get_put, Sx, n0, q7, q9, q11, q19, q20, q22, q121, q122, q123]; done) | (simp +decide only [Ac.get_put, Sx, n0, q7, q9, q11, q19, q20, q22, q121, q122, q123]; rfl), by first | (simp +decide only [Ac.get_put, Sx, n0, q7, q9, q11, q19, q20, q22, q121, q122, q123]; done) | (simp +decide only [Ac.get_put, Sx, n0, q7, q9, q11, q19, q20, q22, q121, q122, q123]; rfl)⟩ ?_
    rintro A0 ⟨n0, d0, q7, q9, q11, q19, q20, q22, q121, q122, q123, q139⟩
    repeat' (with_reducible apply Wc.seq)
    refine Wc.mono (Q := fun ex A g' => ex = .normal ∧ A.n = 184 ∧ A.defers = [] ∧ A.get 7 = .pointer (some (own k7)) ∧ A.get 9 = .slice (some a9) (allP t).length c9 ∧ A.get 11 = .pointer (some (own k11)) ∧ A.get 19 = s19 ∧ A.get 121 = .slice (some a9) (allP t).length c9 ∧ A.get 122 = .int .i64 ((allP t).length : Nat) ∧ A.get 123 = .int .i64 (i : Nat) ∧ ∃ s20 ro, A.get 20 = s20 ∧ Ahd gA g' ∧ Pl E 53 gA.next g' s20 (ws ++ (if alkI sub old = true then [(allP t)[i]] else [])) ro) ?_ ?_
    · cases hb : alkI sub old with
      | false =>
        rw [hb] at q139
        repeat' (first | (with_reducible apply Wc.seq) | (apply Wc.ops; (focus ((repeat' (first | with_reducible exact RO.nil | ((with_reducible apply RO.run (awant_none rfl)); (focus ((first | simp +decide only [awant, ayield_get, oper1, aop, opv, opvs, opvo, opvp, abuiltin, aun, Ac.get_put, abin, isShift, aint, roV, pair, bind, Option.bind, acall, Sx, n0, q139] | skip); with_reducible rfl))))); done))) | (refine Wc.cond2 (by simp +decide only [opv, Ac.get_put, Sx, n0, q139]; try with_reducible rfl) (fun hb => ?_) (fun hb => ?_) <;> try contradiction) | refine Wc.skip ?_ | refine Wc.ret ?_ | refine Wc.exit ?_ | refine Wc.block ?_)
        refine ⟨rfl, n0, d0, q7, q9, q11, q19, q121, q122, q123, s20, ro, q20, AG3, ?_⟩
        rw [if_neg (by simp), List.append_nil]
        exact ⟨vs20, ap.grow ag.fit U3, nls.grow U3.grows⟩
      | true =>
        rw [hb] at q139
        obtain ⟨bv, cv, rfl, _⟩ := id nv
        have u4 : Ahd g3 (g3.new (.cells [.slice bv (allP t)[i].length cv] 53 none)) := Ahd.new0 U3.fit rfl
        have b4 : (g3.new (.cells [.slice bv (allP t)[i].length cv] 53 none)).blk g3.next = some (.cells [.slice bv (allP t)[i].length cv] 53 none) := new_blk_new rfl
        generalize hh4 : g3.new (.cells [.slice bv (allP t)[i].length cv] 53 none) = g4 at u4 b4
        have U4 := U3.trans u4
        have AG4 := ag.trans U4
        obtain ⟨s', g5, ro', happ, ap5, gk5, _⟩ := apk_step (D := tab) (E := E) (t := 68) (t2 := 68) (m := 0) (c := 1) (ax := own g3.next) AG4.fit (Nat.le_trans ag.next U4.next) (ap.grow ag.fit U4) qty68 qtz53 rfl (pza68 _ _ _) (blk_cells b4 rfl rfl) rfl rfl (roomy_le (by omega) (by omega))
        repeat' (first | (with_reducible apply Wc.seq) | (apply Wc.ops; (focus ((repeat' (first | with_reducible exact RO.nil | ((with_reducible apply RO.run (awant_none rfl)); (focus ((first | simp +decide only [awant, ayield_get, oper1, aop, opv, opvs, opvo, opvp, abuiltin, aun, Ac.get_put, abin, isShift, aint, roV, pair, bind, Option.bind, acall, Sx, n0, q139, q20, q22, pbs68, hh4, happ] | skip); with_reducible rfl))))); done))) | (refine Wc.cond2 (by simp +decide only [opv, Ac.get_put, Sx, n0, q139, q20, q22, pbs68, hh4, happ]; try with_reducible rfl) (fun hb => ?_) (fun hb => ?_) <;> try contradiction) | refine Wc.skip ?_ | refine Wc.ret ?_ | refine Wc.exit ?_ | refine Wc.block ?_)
        refine ⟨rfl, by simp +decide only [Ac.get_put, Sx, n0], by simp +decide only [Ac.get_put, Sx, d0], by simp +decide only [Ac.get_put, Sx, n0, q7], by simp +decide only [Ac.get_put, Sx, n0, q9], by simp +decide only [Ac.get_put, Sx, n0, q11], by simp +decide only [Ac.get_put, Sx, n0, q19], by simp +decide only [Ac.get_put, Sx, n0, q121], by simp +decide only [Ac.get_put, Sx, n0, q122], by simp +decide only [Ac.get_put, Sx, n0, q123], s', ro', by simp +decide only [Ac.get_put, Sx, n0], AG4.gkA gk5 (fun r hr => (ap.root r hr).1), ?_⟩
        rw [if_pos rfl]
        exact ⟨_, .inl (by rw [List.length_append]; exact ap5), (nls.grow (U4.grows.trans gk5.grows)).append ⟨_, [], rfl, nv.grow (AG4.grows.trans gk5.grows), rfl⟩⟩
    rintro ex A0 g' ⟨rfl, n0, d0, q7, q9, q11, q19, q121, q122, q123, s20, ro', q20, ag', P'⟩
    simp only []
    repeat' (first | (with_reducible apply Wc.seq) | (apply Wc.ops; (focus ((repeat' (first | with_reducible exact RO.nil | ((with_reducible apply RO.run (awant_none rfl)); (focus ((first | simp +decide only [awant, ayield_get, oper1, aop, opv, opvs, opvo, opvp, abuiltin, aun, Ac.get_put, abin, isShift, aint, roV, pair, bind, Option.bind, acall, Sx, n0, q123, w4] | skip); with_reducible rfl))))); done))) | (refine Wc.cond2 (by simp +decide only [opv, Ac.get_put, Sx, n0, q123, w4]; try with_reducible rfl) (fun hb => ?_) (fun hb => ?_) <;> try contradiction) | refine Wc.skip ?_ | refine Wc.ret ?_ | refine Wc.exit ?_ | refine Wc.block ?_)
    refine ih (i + 1) _ s20 ro' _ g' (by omega) (by omega) ?_ ?_ ?_ ?_ ?_ ?_ ?_ ?_ ?_ ?_ ag' P' ?_
    · simp +decide only [Ac.get_put, Sx, n0]
    · simp +decide only [Ac.get_put, Sx, d0]
    · simp +decide only [Ac.get_put, Sx, n0, q7]
    · simp +decide only [Ac.get_put, Sx, n0, q9]
    · simp +decide only [Ac.get_put, Sx, n0, q11]
    · simp +decide only [Ac.get_put, Sx, n0, q19]
    · simp +decide only [Ac.get_put, Sx, n0, q20]
    · simp +decide only [Ac.get_put, Sx, n0, q121]
    · simp +decide only [Ac.get_put, Sx, n0, q122]
    · simp +decide only [Ac.get_put, Sx, n0]
    · rw [← hws, List.drop_eq_getElem_cons hil, List.filter_cons, hat, List.append_assoc]
      cases alkI sub old <;> rfl
theorem loop9b_ok {K : Known} (k : Kn9 E K) {g : H} {t : Hs.Item} (hz : isz t ≤ 300) {s9 s19 s20 v25 v26 : Value} (P9 : Pls E g s9 (allP t)) :
    ∀ (r i : Nat) (d : Int) (A0 : Ac), r = (allP t).length - i → i ≤ (allP t).length → 0 ≤ d → d ≤ 300 → A0.n = 184 → A0.defers = [] → A0.get 9 = s9 → A0.get 16 = .int .i64 0 → A0.get 19 = s19 → A0.get 20 = s20 → A0.get 25 = v25 → A0.get 26 = v26 → A0.get 27 = .int .i64 d → A0.get 151 = s9 → A0.get 152 = .int .i64 ((allP t).length : Nat) → A0.get 153 = .int .i64 (i : Nat) →
      mxl ((allP t).drop i) d = mxl (allP t) 0 →
      Wc tab E K ⟨9, none⟩ (.loop loop9b) A0 g (fun ex A g' => ex = .exit 2 ∧ g' = g ∧ A.n = 184 ∧ A.defers = [] ∧ A.get 9 = s9 ∧ A.get 16 = .int .i64 0 ∧ A.get 19 = s19 ∧ A.get 20 = s20 ∧ A.get 25 = v25 ∧ A.get 26 = v26 ∧ A.get 27 = .int .i64 (mxl (allP t) 0)) := by
  intro r
  induction r with
  | zero =>
    intro i d A0 hr hi hd0 hd1 n0 d0 q9 q16 q19 q20 q25 q26 q27 q151 q152 q153 hm
    obtain rfl : i = (allP t).length := by omega
    have e1 : decide (((allP t).length : Int) < ((allP t).length : Int)) = false := by simp
    rw [List.drop_length, mxl] at hm
    apply Wc.loop
    simp only [loop9b, loopAt, loops, List.getD, Option.getD, Tryd.f9, List.append_assoc, List.cons_append, List.nil_append, List.append_nil, List.getElem?_cons_zero, List.getElem?_cons_succ]
    repeat' (first | (with_reducible apply Wc.seq) | (apply Wc.ops; (focus ((repeat' (first | with_reducible exact RO.nil | ((with_reducible apply RO.run (awant_none rfl)); (focus ((first | simp +decide only [awant, ayield_get, oper1, aop, opv, opvs, opvo, opvp, abuiltin, aun, Ac.get_put, abin, isShift, aint, roV, pair, bind, Option.bind, acall, Sx, n0, q152, q153, e1] | skip); with_reducible rfl))))); done))) | (refine Wc.cond2 (by simp +decide only [opv, Ac.get_put, Sx, n0, q152, q153, e1]; try with_reducible rfl) (fun hb => ?_) (fun hb => ?_) <;> try contradiction) | refine Wc.skip ?_ | refine Wc.ret ?_ | refine Wc.exit ?_ | refine Wc.block ?_)
    exact ⟨rfl, rfl, by simp +decide only [Ac.get_put, Sx, n0], by simp +decide only [Ac.get_put, Sx, d0], by simp +decide only [Ac.get_put, Sx, n0, q9], by simp +decide only [Ac.get_put, Sx, n0, q16], by simp +decide only [Ac.get_put, Sx, n0, q19], by simp +decide only [Ac.get_put, Sx, n0, q20], by simp +decide only [Ac.get_put, Sx, n0, q25], by simp +decide only [Ac.get_put, Sx, n0, q26], by simp +decide only [Ac.get_put, Sx, n0, q27, hm]⟩
  | succ r ih =>
    intro i d A0 hr hi hd0 hd1 n0 d0 q9 q16 q19 q20 q25 q26 q27 q151 q152 q153 hm
    have hil : i < (allP t).length := by omega
    have e1 : decide ((i : Int) < ((allP t).length : Int)) = true := decide_eq_true (by omega)
    have hir : inRange (i : Int) (allP t).length = true := by
      show Nat.blt i (allP t).length = true
      rw [Nat.blt_eq]; exact hil
    have hal := allP_length t
    have w4 : IntKind.i64.wrap ((i : Int) + 1) = ((i + 1 : Nat) : Int) := wrap64 (by omega) (by omega)
    obtain ⟨b9, c9, rfl, hv9⟩ := id P9
    rcases hv9 with h0 | ⟨a9, vs, rfl, hc9, nl⟩
    · rw [h0] at hil; simp at hil
    obtain ⟨v, hv, nv⟩ := nl.get i hil
    have hpl := (allP_len t (allP t)[i] (List.getElem_mem hil)).1
    have lv : g.cell E (aadd a9 (i * 1)) = some v := by rw [Nat.mul_one]; exact cells_cell hc9 hil hv
    obtain ⟨bv, cv, rfl, _⟩ := id nv
    have w5 : IntKind.i64.wrap (((allP t)[i].length : Int) + 1) = ((allP t)[i].length : Int) + 1 := wrap64 (by omega) (by omega)
    rw [List.drop_eq_getElem_cons hil, mxl] at hm
    apply Wc.loop
    simp only [loop9b, loopAt, loops, List.getD, Option.getD, Tryd.f9, List.append_assoc, List.cons_append, List.nil_append, List.append_nil, List.getElem?_cons_zero, List.getElem?_cons_succ]
    repeat' (first | (with_reducible apply Wc.seq) | (apply Wc.ops; (focus ((repeat' (first | with_reducible exact RO.nil | ((with_reducible apply RO.run (awant_none rfl)); (focus ((first | simp +decide only [awant, ayield_get, oper1, aop, opv, opvs, opvo, opvp, abuiltin, aun, Ac.get_put, abin, isShift, aint, roV, pair, bind, Option.bind, acall, Sx, n0, q151, q152, q153, e1, qia68 _ _ _ _ hir, Int.toNat_natCast, Qx, Hx, lv, q27, w5, amax2, w4] | skip); with_reducible rfl))))); done))) | (refine Wc.cond2 (by simp +decide only [opv, Ac.get_put, Sx, n0, q151, q152, q153, e1, qia68 _ _ _ _ hir, Int.toNat_natCast, Qx, Hx, lv, q27, w5, amax2, w4]; try with_reducible rfl) (fun hb => ?_) (fun hb => ?_) <;> try contradiction) | refine Wc.skip ?_ | refine Wc.ret ?_ | refine Wc.exit ?_ | refine Wc.block ?_)
    refine ih (i + 1) _ _ (by omega) (by omega) (by split <;> omega) (by split <;> omega) ?_ ?_ ?_ ?_ ?_ ?_ ?_ ?_ ?_ ?_ ?_ ?_ hm
    · simp +decide only [Ac.get_put, Sx, n0]
    · simp +decide only [Ac.get_put, Sx, d0]
    · simp +decide only [Ac.get_put, Sx, n0, q9]
    · simp +decide only [Ac.get_put, Sx, n0, q16]
    · simp +decide only [Ac.get_put, Sx, n0, q19]
    · simp +decide only [Ac.get_put, Sx, n0, q20]
    · simp +decide only [Ac.get_put, Sx, n0, q25]
    · simp +decide only [Ac.get_put, Sx, n0, q26]
    · simp +decide only [Ac.get_put, Sx, n0]
    · simp +decide only [Ac.get_put, Sx, n0, q151]
    · simp +decide only [Ac.get_put, Sx, n0, q152]
    · simp +decide only [Ac.get_put, Sx, n0]
end Go.Proofs.YtofijpbmbmbnhaaDoor
