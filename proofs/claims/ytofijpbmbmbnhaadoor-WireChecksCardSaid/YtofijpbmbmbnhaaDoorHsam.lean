/- The items in an item are visited. -/
import Derived.Test.YtofijpbmbmbnhaaDoorHsal
set_option linter.unusedSimpArgs false
set_option linter.unusedVariables false
set_option maxRecDepth 100000
set_option maxHeartbeats 4000000
namespace Go.Proofs.YtofijpbmbmbnhaaDoor
open Go Go.Hs Go.Proofs
variable {E : Env}

theorem ty163 : tab.ty.get 163 = some ⟨.func, 1, 8, some .nilFunc, true⟩ := by kernel_rfl
theorem fn70 : tab.fn.get 70 = some Tryd.f70 := by kernel_rfl
theorem fn109 : tab.fn.get 109 = some Tryd.f109 := by kernel_rfl
theorem fn110 : tab.fn.get 110 = some Tryd.f110 := by kernel_rfl
theorem ld163 (a : Addr) {h : H} : aload tab E 163 a h = h.cell E a := by unfold aload; rw [ty163]; rfl
theorem tz163 : tzero tab 163 = some .nilFunc := by unfold tzero; rw [ty163]
theorem st25 {k : Nat} {ty : TypeId} {x0 x1 x2 x3 a b c d : Value} {g : H} (hb : g.blk k = some (.cells [x0, x1, x2, x3] ty none)) (h1 : [a, b, c, d].all isOne = true) (hm : g.mark ≤ k) : astore tab 25 (own k) (.agg ⟨[a, b, c, d]⟩) g = some (g.setb k (.cells [a, b, c, d] ty none)) := by
  unfold astore
  rw [ty25]
  exact put_own hb (by simp [Value.cells]) rfl h1 hm

/-- What a visit is told. -/
structure Vis {σ : Type} (E : Env) (J : Known) (step : Int → Hs.Item → σ → σ × Bool) (hE : H) (l k2 k3 : Nat) (M : Nat → Prop) (Iv : Bool → σ → H → Prop) : Prop where
  fit : ∀ {s g}, Iv true s g → Fit g
  grow : ∀ {s g}, Iv true s g → Grows hE g
  b2 : ∀ {s g}, Iv true s g → g.blk k2 = some (.cells [.func (.yield l) ⟨[]⟩ ⟨[]⟩] 163 none)
  b3 : ∀ {s g}, Iv true s g → g.blk k3 = some (.cells [.func (.func 110) ⟨[]⟩ ⟨[.pointer (some (own k2)), .pointer (some (own k3))]⟩] 163 none)
  ahd : ∀ {s g g'}, Iv true s g → Ahd g g' → Iv true s g'
  low : ∀ {s g}, Iv true s g → ∀ k, g.next ≤ k → ¬ M k
  round : ∀ {s g lv t xv}, Iv true s g → 1 ≤ lv → lv ≤ 2000000000 → rep E hE t xv → ∃ n v g', (ev tab E J n).round l [.int .i64 lv, xv] g = some (v, g') ∧ (v = .bool (step lv t s).2 ∧ Iv (step lv t s).2 (step lv t s).1 g' ∧ Keep M g g')

noncomputable def loop110 : Code := loopOf Tryd.f110

theorem visit110 {σ : Type} {J : Known} {step : Int → Hs.Item → σ → σ × Bool} {hE : H} {l k2 k3 : Nat} {M : Nat → Prop} {Iv : Bool → σ → H → Prop} (hJ : ∀ args h, J 110 args h = none) (V : Vis E J step hE l k2 k3 M Iv) :
    ∀ (z : Nat) (t : Hs.Item) (xv : Value) (lv : Int) (s : σ) (g : H), isz t ≤ z → isz t ≤ 1000000 → rep E hE t xv → 1 ≤ lv → lv + isz t ≤ 2000000000 → Iv true s g →
      ∃ n v g', (ev tab E J n).call 110 [.int .i64 lv, xv, .pointer (some (own k2)), .pointer (some (own k3))] g = some (v, g') ∧ (v = .bool (visit step lv t s).2 ∧ Iv (visit step lv t s).2 (visit step lv t s).1 g' ∧ Keep M g g') := by
  intro z
  induction z with
  | zero => intro t xv lv s g hz; obtain ⟨k, m, tx, ks⟩ := t; rw [isz] at hz; omega
  | succ z IH =>
  intro t xv lv s g hz hz6 hr hlv1 hlv2 iv
  obtain ⟨k, m, tx, ks⟩ := t
  have hr0 := hr
  obtain ⟨sb, sc, rfl, hs⟩ := rep_slice hr
  have hlen : ks.length ≤ 1000000 := by
    rw [isz] at hz6
    have : ∀ l : List Hs.Item, l.length ≤ iszL l := by
      intro l
      induction l with
      | nil => simp [iszL]
      | cons x l ih => rw [iszL, List.length_cons]; obtain ⟨a, b, c, d⟩ := x; rw [isz]; omega
    have := this ks
    omega
  refine Wc.call (hJ _ _) fn110 rfl ?_
  generalize hA0 : (⟨T.ofList [.int .i64 lv, .agg ⟨[.int .i64 k, .int .i64 m, .string tx, .slice sb ks.length sc]⟩, .pointer (some (own k2)), .pointer (some (own k3))] 0 .nil, max ([.int .i64 lv, .agg ⟨[.int .i64 k, .int .i64 m, .string tx, .slice sb ks.length sc]⟩, .pointer (some (own k2)), .pointer (some (own k3))] : List Value).length Tryd.f110.ntmps, []⟩ : Ac) = A0
  have n0 : A0.n = 28 := by rw [← hA0]; rfl
  have g00 : A0.get 0 = .int .i64 lv := by rw [← hA0]; rfl
  have g01 : A0.get 1 = .agg ⟨[.int .i64 k, .int .i64 m, .string tx, .slice sb ks.length sc]⟩ := by rw [← hA0]; rfl
  have g02 : A0.get 2 = .pointer (some (own k2)) := by rw [← hA0]; rfl
  have g03 : A0.get 3 = .pointer (some (own k3)) := by rw [← hA0]; rfl
  have d0 : A0.defers = [] := by rw [← hA0]
  have hfit := V.fit iv
  apply Wc.seq
  refine Wc.ops (by repeat' (first
      | with_reducible exact RO.nil
      | ((with_reducible apply RO.run (awant_none rfl)); (focus ((first | simp (config := {decide := true}) only [awant, ayield_get, oper1, aop, opv, opvs, opvo, opvp, abuiltin, Ac.get_put, Ac.put_n, Ac.put_defers, if_true, if_false, and_true, decide_true, abin, isShift, aint, roV, pair, bind, Option.bind, acall, List.nil_append, List.append_nil, List.toList_toArray, List.getElem?_cons_zero, List.getElem?_cons_succ, Bool.not_true, Bool.not_false, n0, g00, g01, g02, g03] | skip); with_reducible rfl))))) ?_
  generalize hh1 : g.new (.cells (Value.agg ⟨[.int .i64 k, .int .i64 m, .string tx, .slice sb ks.length sc]⟩).cells.toList 25 none) = h1
  have a1 : Ahd g h1 := by rw [← hh1]; exact Ahd.new0 hfit rfl
  have b1 : h1.blk g.next = some (.cells [.int .i64 k, .int .i64 m, .string tx, .slice sb ks.length sc] 25 none) := by rw [← hh1]; exact new_blk_new rfl
  clear hh1
  have iv1 := V.ahd iv a1
  have cl2 : h1.cell E (own k2) = some (.func (.yield l) ⟨[]⟩ ⟨[]⟩) := blk_cell0 (V.b2 iv1) rfl
  have cl5 : h1.cells E (own g.next) 4 = some [.int .i64 k, .int .i64 m, .string tx, .slice sb ks.length sc] := blk_cells b1 rfl rfl
  obtain ⟨nr, v1, g2, hround, rfl, iv2, kp2⟩ := V.round iv1 hlv1 (by omega) hr0
  have kp : Keep M g g2 := a1.keep.trans kp2
  have b2 : g2.blk g.next = some (.cells [.int .i64 k, .int .i64 m, .string tx, .slice sb ks.length sc] 25 none) := kp2.blk _ _ (V.low iv _ (Nat.le_refl _)) b1
  cases hst : step lv (.mk k m tx ks) s with
  | mk s1 b =>
  rw [hst] at iv2 hround
  cases b with
  | false =>
    rw [visit_false hst]
    repeat' (first
    | (with_reducible apply Wc.seq)
    | (refine Wc.opsN nr (by repeat' (first
      | with_reducible exact RO.nil
      | ((with_reducible apply RO.run (awant_none rfl)); (focus ((first | simp (config := {decide := true}) only [awant, ayield_get, oper1, aop, opv, opvs, opvo, opvp, abuiltin, Ac.get_put, Ac.put_n, Ac.put_defers, if_true, if_false, and_true, decide_true, abin, isShift, aint, roV, pair, bind, Option.bind, acall, List.nil_append, List.append_nil, List.toList_toArray, List.getElem?_cons_zero, List.getElem?_cons_succ, Bool.not_true, Bool.not_false, n0, d0, g00, g01, g02, g03, ld163, cl2, ld25, cl5, hround, aun] | skip); with_reducible rfl))))) ?_)
    | (refine Wc.cond2 (by simp (config := {decide := true}) only [awant, ayield_get, oper1, aop, opv, opvs, opvo, opvp, abuiltin, Ac.get_put, Ac.put_n, Ac.put_defers, if_true, if_false, and_true, decide_true, abin, isShift, aint, roV, pair, bind, Option.bind, acall, List.nil_append, List.append_nil, List.toList_toArray, List.getElem?_cons_zero, List.getElem?_cons_succ, Bool.not_true, Bool.not_false, n0, d0, g00, g01, g02, g03, ld163, cl2, ld25, cl5, hround, aun]; try with_reducible rfl) (fun hb => ?_) (fun hb => ?_) <;> try contradiction)
    | refine Wc.skip ?_
    | refine Wc.ret ?_
    | refine Wc.exit ?_
    | refine Wc.block ?_)
    refine done_q (v := .bool false) (.inr rfl) (by simp (config := {decide := true}) only [Ac.get_put, Ac.put_n, Ac.put_defers, if_true, if_false, and_true, d0]) rfl (by simp (config := {decide := true}) only [Ac.get_put, Ac.put_n, Ac.put_defers, if_true, if_false, and_true, n0]) ⟨rfl, iv2, kp⟩
  | true =>
    rw [visit_true hst]
    have key : ∀ (r i : Nat) (s' : σ) (A : Ac) (g' : H), r = ks.length - i → i ≤ ks.length → A.n = 28 → A.defers = [] → A.get 0 = .int .i64 lv → A.get 3 = .pointer (some (own k3)) → A.get 15 = .slice sb ks.length sc → A.get 16 = .int .i64 (ks.length : Nat) → A.get 17 = .int .i64 (i : Nat) →
        Iv true s' g' → visitL step (lv + 1) ks s1 = visitL step (lv + 1) (ks.drop i) s' → Keep M g g' →
        Wc tab E J ⟨110, none⟩ (.loop loop110) A g' (fun ex A' g'' => A'.n = 28 ∧ A'.defers = [] ∧ Keep M g g'' ∧ Iv (visitL step (lv + 1) ks s1).2 (visitL step (lv + 1) ks s1).1 g'' ∧ ((ex = .exit 0 ∧ (visitL step (lv + 1) ks s1).2 = true) ∨ (ex = .ret ∧ A'.get 6 = .bool false ∧ (visitL step (lv + 1) ks s1).2 = false))) := by
      intro r
      induction r with
      | zero =>
        intro i s' A g' hr' hi nA dA p0 p3 p15 p16 p17 iv' hvis kp'
        have hil : i = ks.length := by omega
        have hlt : decide ((i : Int) < (ks.length : Int)) = false := by simp; omega
        rw [hil, List.drop_length, visitL] at hvis
        rw [hvis]
        apply Wc.loop
        simp only [loop110, loopOf, firstLoop, Option.getD, Tryd.f110]
        repeat' (first
    | (with_reducible apply Wc.seq)
    | (refine Wc.ops (by repeat' (first
      | with_reducible exact RO.nil
      | ((with_reducible apply RO.run (awant_none rfl)); (focus ((first | simp (config := {decide := true}) only [awant, ayield_get, oper1, aop, opv, opvs, opvo, opvp, abuiltin, Ac.get_put, Ac.put_n, Ac.put_defers, if_true, if_false, and_true, decide_true, abin, isShift, aint, roV, pair, bind, Option.bind, acall, List.nil_append, List.append_nil, List.toList_toArray, List.getElem?_cons_zero, List.getElem?_cons_succ, Bool.not_true, Bool.not_false, nA, p0, p3, p15, p16, p17, hlt] | skip); with_reducible rfl))))) ?_)
    | (refine Wc.cond2 (by simp (config := {decide := true}) only [awant, ayield_get, oper1, aop, opv, opvs, opvo, opvp, abuiltin, Ac.get_put, Ac.put_n, Ac.put_defers, if_true, if_false, and_true, decide_true, abin, isShift, aint, roV, pair, bind, Option.bind, acall, List.nil_append, List.append_nil, List.toList_toArray, List.getElem?_cons_zero, List.getElem?_cons_succ, Bool.not_true, Bool.not_false, nA, p0, p3, p15, p16, p17, hlt]; try with_reducible rfl) (fun hb => ?_) (fun hb => ?_) <;> try contradiction)
    | refine Wc.skip ?_
    | refine Wc.ret ?_
    | refine Wc.exit ?_
    | refine Wc.block ?_)
        exact ⟨by simp (config := {decide := true}) only [Ac.get_put, Ac.put_n, Ac.put_defers, if_true, if_false, and_true, nA], by simp (config := {decide := true}) only [Ac.get_put, Ac.put_n, Ac.put_defers, if_true, if_false, and_true, dA], kp', iv', .inl ⟨rfl, by simp⟩⟩
      | succ r ih =>
        intro i s' A g' hr' hi nA dA p0 p3 p15 p16 p17 iv' hvis kp'
        have hil : i < ks.length := by omega
        have hlt : decide ((i : Int) < (ks.length : Int)) = true := by simp; omega
        have hks : ks.drop i = ks[i] :: ks.drop (i + 1) := List.drop_eq_getElem_cons hil
        rw [hks] at hvis
        rcases hs with hk0 | ⟨a, cs, he, hlc, hcs, hrl⟩
        · rw [hk0] at hil; simp at hil
        subst he
        have hfit' := V.fit iv'
        have hcs1 := cells_grow (V.grow iv') hcs
        obtain ⟨hl4, hrk⟩ := repL_get i hrl (List.getElem?_eq_getElem hil)
        have hsub := cells_sub hcs1 (m := i * 4) (l := 4) (by omega)
        have hmem : ks[i] ∈ ks := List.getElem_mem hil
        have hkz := isz_kid (k := k) (n := m) (t := tx) hmem
        have hq : ∃ q0 q1 q2 q3, (cs.drop (i * 4)).take 4 = [q0, q1, q2, q3] ∧ [q0, q1, q2, q3].all isOne = true := by
          generalize hki : ks[i] = ki at hrk
          obtain ⟨k', m', tx', ks'⟩ := ki
          obtain ⟨sb', sc', e, _⟩ := rep_slice hrk
          simp only [Value.agg.injEq, Array.mk.injEq] at e
          exact ⟨_, _, _, _, e, rfl⟩
        obtain ⟨q0, q1, q2, q3, hq, hone⟩ := hq
        rw [hq] at hsub hrk
        have hir : inRange (i : Int) ks.length = true := by
          show Nat.blt i ks.length = true
          rw [Nat.blt_eq]; exact hil
        have w3 : IntKind.i64.wrap ((i : Int) + 1) = (i : Int) + 1 := wrap64 (by omega) (by omega)
        have wl : IntKind.i64.wrap (lv + 1) = lv + 1 := wrap64 (by omega) (by omega)
        -- the variable of the loop
        generalize hh3 : g'.new (.cells (Value.agg #[.int .i64 0, .int .i64 0, .string ⟨#[]⟩, .slice none 0 0]).cells.toList 25 none) = h3
        have a3 : Ahd g' h3 := by rw [← hh3]; exact Ahd.new0 hfit' rfl
        have c3 : h3.blk g'.next = some (.cells [.int .i64 0, .int .i64 0, .string ⟨#[]⟩, .slice none 0 0] 25 none) := by rw [← hh3]; exact new_blk_new rfl
        have hn3 : h3.next = g'.next + 1 := by rw [← hh3]; rfl
        have hst3 := st25 (a := q0) (b := q1) (c := q2) (d := q3) c3 hone (by rw [a3.mark]; exact hfit'.ok.2)
        generalize hh4 : h3.setb g'.next (.cells [q0, q1, q2, q3] 25 none) = h4 at hst3
        have a4 : Ahd g' h4 := by rw [← hh4]; exact a3.setb rfl (Nat.le_refl _) (by omega) hfit'
        have c4 : h4.blk g'.next = some (.cells [q0, q1, q2, q3] 25 none) := by rw [← hh4]; exact setb_same rfl
        have iv4 := V.ahd iv' a4
        have cl3 : h4.cell E (own k3) = some (.func (.func 110) ⟨[]⟩ ⟨[.pointer (some (own k2)), .pointer (some (own k3))]⟩) := blk_cell0 (V.b3 iv4) rfl
        have cl4 : h4.cells E (own g'.next) 4 = some [q0, q1, q2, q3] := blk_cells c4 rfl hone
        obtain ⟨nf, v', g5, hcall, rfl, iv5, kp5⟩ := IH ks[i] _ (lv + 1) s' h4 (by omega) (by omega) hrk (by omega) (by omega) iv4
        have kpT : Keep M g g5 := (kp'.ahd a4).trans kp5
        cases hvi : visit step (lv + 1) ks[i] s' with
        | mk s2 b =>
        rw [hvi] at iv5 hcall
        apply Wc.loop
        simp only [loop110, loopOf, firstLoop, Option.getD, Tryd.f110]
        cases b with
        | false =>
          rw [visitL_false hvi] at hvis
          rw [hvis]
          repeat' (first
    | (with_reducible apply Wc.seq)
    | (refine Wc.opsN nf (by repeat' (first
      | with_reducible exact RO.nil
      | ((with_reducible apply RO.run (awant_none rfl)); (focus ((first | simp (config := {decide := true}) only [awant, ayield_get, oper1, aop, opv, opvs, opvo, opvp, abuiltin, Ac.get_put, Ac.put_n, Ac.put_defers, if_true, if_false, and_true, decide_true, abin, isShift, aint, roV, pair, bind, Option.bind, acall, List.nil_append, List.append_nil, List.toList_toArray, List.getElem?_cons_zero, List.getElem?_cons_succ, Bool.not_true, Bool.not_false, nA, p0, p3, p15, p16, p17, hlt, ia23 _ _ _ _ hir, Int.toNat_natCast, ld25, hsub, tz25, hh3, hst3, ld163, cl3, cl4, List.cons_append, hcall, wl, w3, aun] | skip); with_reducible rfl))))) ?_)
    | (refine Wc.cond2 (by simp (config := {decide := true}) only [awant, ayield_get, oper1, aop, opv, opvs, opvo, opvp, abuiltin, Ac.get_put, Ac.put_n, Ac.put_defers, if_true, if_false, and_true, decide_true, abin, isShift, aint, roV, pair, bind, Option.bind, acall, List.nil_append, List.append_nil, List.toList_toArray, List.getElem?_cons_zero, List.getElem?_cons_succ, Bool.not_true, Bool.not_false, nA, p0, p3, p15, p16, p17, hlt, ia23 _ _ _ _ hir, Int.toNat_natCast, ld25, hsub, tz25, hh3, hst3, ld163, cl3, cl4, List.cons_append, hcall, wl, w3, aun]; try with_reducible rfl) (fun hb => ?_) (fun hb => ?_) <;> try contradiction)
    | refine Wc.skip ?_
    | refine Wc.ret ?_
    | refine Wc.exit ?_
    | refine Wc.block ?_)
          exact ⟨by simp (config := {decide := true}) only [Ac.get_put, Ac.put_n, Ac.put_defers, if_true, if_false, and_true, nA], by simp (config := {decide := true}) only [Ac.get_put, Ac.put_n, Ac.put_defers, if_true, if_false, and_true, dA], kpT, iv5, .inr ⟨rfl, by simp (config := {decide := true}) only [Ac.get_put, Ac.put_n, Ac.put_defers, if_true, if_false, and_true, nA], rfl⟩⟩
        | true =>
          rw [visitL_true hvi] at hvis
          repeat' (first
    | (with_reducible apply Wc.seq)
    | (refine Wc.opsN nf (by repeat' (first
      | with_reducible exact RO.nil
      | ((with_reducible apply RO.run (awant_none rfl)); (focus ((first | simp (config := {decide := true}) only [awant, ayield_get, oper1, aop, opv, opvs, opvo, opvp, abuiltin, Ac.get_put, Ac.put_n, Ac.put_defers, if_true, if_false, and_true, decide_true, abin, isShift, aint, roV, pair, bind, Option.bind, acall, List.nil_append, List.append_nil, List.toList_toArray, List.getElem?_cons_zero, List.getElem?_cons_succ, Bool.not_true, Bool.not_false, nA, p0, p3, p15, p16, p17, hlt, ia23 _ _ _ _ hir, Int.toNat_natCast, ld25, hsub, tz25, hh3, hst3, ld163, cl3, cl4, List.cons_append, hcall, wl, w3, aun] | skip); with_reducible rfl))))) ?_)
    | (refine Wc.cond2 (by simp (config := {decide := true}) only [awant, ayield_get, oper1, aop, opv, opvs, opvo, opvp, abuiltin, Ac.get_put, Ac.put_n, Ac.put_defers, if_true, if_false, and_true, decide_true, abin, isShift, aint, roV, pair, bind, Option.bind, acall, List.nil_append, List.append_nil, List.toList_toArray, List.getElem?_cons_zero, List.getElem?_cons_succ, Bool.not_true, Bool.not_false, nA, p0, p3, p15, p16, p17, hlt, ia23 _ _ _ _ hir, Int.toNat_natCast, ld25, hsub, tz25, hh3, hst3, ld163, cl3, cl4, List.cons_append, hcall, wl, w3, aun]; try with_reducible rfl) (fun hb => ?_) (fun hb => ?_) <;> try contradiction)
    | refine Wc.skip ?_
    | refine Wc.ret ?_
    | refine Wc.exit ?_
    | refine Wc.block ?_)
          refine (ih (i + 1) s2 _ g5 (by omega) (by omega) ?_ ?_ ?_ ?_ ?_ ?_ ?_ iv5 hvis kpT).mono ?_
          · simp (config := {decide := true}) only [Ac.get_put, Ac.put_n, Ac.put_defers, if_true, if_false, and_true, nA]
          · simp (config := {decide := true}) only [Ac.get_put, Ac.put_n, Ac.put_defers, if_true, if_false, and_true, dA]
          · simp (config := {decide := true}) only [Ac.get_put, Ac.put_n, Ac.put_defers, if_true, if_false, and_true, nA, p0]
          · simp (config := {decide := true}) only [Ac.get_put, Ac.put_n, Ac.put_defers, if_true, if_false, and_true, nA, p3]
          · simp (config := {decide := true}) only [Ac.get_put, Ac.put_n, Ac.put_defers, if_true, if_false, and_true, nA, p15]
          · simp (config := {decide := true}) only [Ac.get_put, Ac.put_n, Ac.put_defers, if_true, if_false, and_true, nA, p16]
          · simp (config := {decide := true}) only [Ac.get_put, Ac.put_n, Ac.put_defers, if_true, if_false, and_true, nA]
            rfl
          · rintro ex A' h' ⟨e1, e2, e3, e4, ⟨rfl, e5⟩ | ⟨rfl, e5⟩⟩
            · exact ⟨e1, e2, e3, e4, .inl ⟨rfl, e5⟩⟩
            · exact ⟨e1, e2, e3, e4, .inr ⟨rfl, e5⟩⟩
    have hc3 : g2.cell E (aadd (own g.next) 3) = some (.slice sb ks.length sc) := blk_cell (i := 3) b2 rfl rfl
    repeat' (first
    | (with_reducible apply Wc.seq)
    | (refine Wc.opsN nr (by repeat' (first
      | with_reducible exact RO.nil
      | ((with_reducible apply RO.run (awant_none rfl)); (focus ((first | simp (config := {decide := true}) only [awant, ayield_get, oper1, aop, opv, opvs, opvo, opvp, abuiltin, Ac.get_put, Ac.put_n, Ac.put_defers, if_true, if_false, and_true, decide_true, abin, isShift, aint, roV, pair, bind, Option.bind, acall, List.nil_append, List.append_nil, List.toList_toArray, List.getElem?_cons_zero, List.getElem?_cons_succ, Bool.not_true, Bool.not_false, n0, d0, g00, g01, g02, g03, ld163, cl2, ld25, cl5, hround, aun, fa25_3, ld23, hc3, len23] | skip); with_reducible rfl))))) ?_)
    | (refine Wc.cond2 (by simp (config := {decide := true}) only [awant, ayield_get, oper1, aop, opv, opvs, opvo, opvp, abuiltin, Ac.get_put, Ac.put_n, Ac.put_defers, if_true, if_false, and_true, decide_true, abin, isShift, aint, roV, pair, bind, Option.bind, acall, List.nil_append, List.append_nil, List.toList_toArray, List.getElem?_cons_zero, List.getElem?_cons_succ, Bool.not_true, Bool.not_false, n0, d0, g00, g01, g02, g03, ld163, cl2, ld25, cl5, hround, aun, fa25_3, ld23, hc3, len23]; try with_reducible rfl) (fun hb => ?_) (fun hb => ?_) <;> try contradiction)
    | refine Wc.skip ?_
    | refine Wc.ret ?_
    | refine Wc.exit ?_
    | refine Wc.block ?_)
    refine (key ks.length 0 s1 _ g2 rfl (Nat.zero_le _) ?_ ?_ ?_ ?_ ?_ ?_ ?_ iv2 rfl kp).mono ?_
    · simp (config := {decide := true}) only [Ac.get_put, Ac.put_n, Ac.put_defers, if_true, if_false, and_true, n0]
    · simp (config := {decide := true}) only [Ac.get_put, Ac.put_n, Ac.put_defers, if_true, if_false, and_true, d0]
    · simp (config := {decide := true}) only [Ac.get_put, Ac.put_n, Ac.put_defers, if_true, if_false, and_true, n0, g00]
    · simp (config := {decide := true}) only [Ac.get_put, Ac.put_n, Ac.put_defers, if_true, if_false, and_true, n0, g03]
    · simp (config := {decide := true}) only [Ac.get_put, Ac.put_n, Ac.put_defers, if_true, if_false, and_true, n0]
    · simp (config := {decide := true}) only [Ac.get_put, Ac.put_n, Ac.put_defers, if_true, if_false, and_true, n0]
    · simp (config := {decide := true}) only [Ac.get_put, Ac.put_n, Ac.put_defers, if_true, if_false, and_true, n0]
      rfl
    · rintro ex A' g' ⟨e1, e2, e3, e4, ⟨rfl, e5⟩ | ⟨rfl, e5, e6⟩⟩
      · simp only [if_true]
        repeat' (first
    | (with_reducible apply Wc.seq)
    | (refine Wc.ops (by repeat' (first
      | with_reducible exact RO.nil
      | ((with_reducible apply RO.run (awant_none rfl)); (focus ((first | simp (config := {decide := true}) only [awant, ayield_get, oper1, aop, opv, opvs, opvo, opvp, abuiltin, Ac.get_put, Ac.put_n, Ac.put_defers, if_true, if_false, and_true, decide_true, abin, isShift, aint, roV, pair, bind, Option.bind, acall, List.nil_append, List.append_nil, List.toList_toArray, List.getElem?_cons_zero, List.getElem?_cons_succ, Bool.not_true, Bool.not_false, e1] | skip); with_reducible rfl))))) ?_)
    | (refine Wc.cond2 (by simp (config := {decide := true}) only [awant, ayield_get, oper1, aop, opv, opvs, opvo, opvp, abuiltin, Ac.get_put, Ac.put_n, Ac.put_defers, if_true, if_false, and_true, decide_true, abin, isShift, aint, roV, pair, bind, Option.bind, acall, List.nil_append, List.append_nil, List.toList_toArray, List.getElem?_cons_zero, List.getElem?_cons_succ, Bool.not_true, Bool.not_false, e1]; try with_reducible rfl) (fun hb => ?_) (fun hb => ?_) <;> try contradiction)
    | refine Wc.skip ?_
    | refine Wc.ret ?_
    | refine Wc.exit ?_
    | refine Wc.block ?_)
        refine done_q (v := .bool true) (.inr rfl) (by simp (config := {decide := true}) only [Ac.get_put, Ac.put_n, Ac.put_defers, if_true, if_false, and_true, e2]) rfl (by simp (config := {decide := true}) only [Ac.get_put, Ac.put_n, Ac.put_defers, if_true, if_false, and_true, e1]) ⟨by rw [e5], e4, e3⟩
      · exact done_q (v := .bool false) (.inr rfl) e2 rfl e5 ⟨by rw [e6], e4, e3⟩
end Go.Proofs.YtofijpbmbmbnhaaDoor
/- Is an item right? As the program tells it. -/
set_option maxRecDepth 100000
set_option maxHeartbeats 4000000
namespace Go.Proofs.YtofijpbmbmbnhaaDoor
open Go Go.Hs Go.Proofs
variable {E : Env}

theorem st163 {k : Nat} {ty : TypeId} {x y : Value} {g : H} (hb : g.blk k = some (.cells [x] ty none)) (h1 : isOne y = true) (hm : g.mark ≤ k) : astore tab 163 (own k) y g = some (g.setb k (.cells [y] ty none)) := by
  unfold astore
  rw [ty163, isOne_cells h1]
  exact put_own hb (by simp) rfl (by simp [h1]) hm
theorem st3 {k : Nat} {ty : TypeId} {x : Value} {i : Int} {g : H} (hb : g.blk k = some (.cells [x] ty none)) (hm : g.mark ≤ k) : astore tab 3 (own k) (.int .i64 i) g = some (g.setb k (.cells [.int .i64 i] ty none)) := by
  unfold astore
  rw [ty3]
  exact put_own hb (by simp [Value.cells]) rfl rfl hm
theorem st26 {k : Nat} {ty : TypeId} {x : Value} {i : Int} {g : H} (hb : g.blk k = some (.cells [x] ty none)) (hm : g.mark ≤ k) : astore tab 26 (own k) (.int .i64 i) g = some (g.setb k (.cells [.int .i64 i] ty none)) := by
  unfold astore
  rw [ty26]
  exact put_own hb (by simp [Value.cells]) rfl rfl hm
theorem tz26 : tzero tab 26 = some (.int .i64 0) := by unfold tzero; rw [ty26]
theorem ld26 (a : Addr) {h : H} : aload tab E 26 a h = h.cell E a := by unfold aload; rw [ty26]; rfl

theorem call70 {J : Known} (hJ : ∀ args h, J 70 args h = none) {a b c d : Value} (g : H) :
    ∃ n v g', (ev tab E J n).call 70 [.agg ⟨[a, b, c, d]⟩] g = some (v, g') ∧ (v = .func (.func 109) ⟨[]⟩ ⟨[.pointer (some (own g.next))]⟩ ∧ g' = g.new (.cells [a, b, c, d] 25 none)) := by
  refine Wc.call (hJ _ _) fn70 rfl ?_
  generalize hA0 : (⟨T.ofList [.agg ⟨[a, b, c, d]⟩] 0 .nil, max ([.agg ⟨[a, b, c, d]⟩] : List Value).length Tryd.f70.ntmps, []⟩ : Ac) = A0
  have n0 : A0.n = 4 := by rw [← hA0]; rfl
  have g00 : A0.get 0 = .agg ⟨[a, b, c, d]⟩ := by rw [← hA0]; rfl
  have d0 : A0.defers = [] := by rw [← hA0]
  repeat' (first
    | (with_reducible apply Wc.seq)
    | (refine Wc.ops (by repeat' (first
      | with_reducible exact RO.nil
      | ((with_reducible apply RO.run (awant_none rfl)); (focus ((first | simp (config := {decide := true}) only [awant, ayield_get, oper1, aop, opv, opvs, opvo, opvp, abuiltin, Ac.get_put, Ac.put_n, Ac.put_defers, if_true, if_false, and_true, decide_true, abin, isShift, aint, roV, pair, bind, Option.bind, acall, List.nil_append, List.append_nil, List.toList_toArray, List.getElem?_cons_zero, List.getElem?_cons_succ, Bool.not_true, Bool.not_false, n0, d0, g00, roF] | skip); with_reducible rfl))))) ?_)
    | (refine Wc.cond2 (by simp (config := {decide := true}) only [awant, ayield_get, oper1, aop, opv, opvs, opvo, opvp, abuiltin, Ac.get_put, Ac.put_n, Ac.put_defers, if_true, if_false, and_true, decide_true, abin, isShift, aint, roV, pair, bind, Option.bind, acall, List.nil_append, List.append_nil, List.toList_toArray, List.getElem?_cons_zero, List.getElem?_cons_succ, Bool.not_true, Bool.not_false, n0, d0, g00, roF]; try with_reducible rfl) (fun hb => ?_) (fun hb => ?_) <;> try contradiction)
    | refine Wc.skip ?_
    | refine Wc.ret ?_
    | refine Wc.exit ?_
    | refine Wc.block ?_)
  exact done_q (.inr rfl) (by simp (config := {decide := true}) only [Ac.get_put, Ac.put_n, Ac.put_defers, if_true, if_false, and_true, d0]) rfl (by simp (config := {decide := true}) only [Ac.get_put, Ac.put_n, Ac.put_defers, if_true, if_false, and_true, n0]) ⟨rfl, rfl⟩

theorem call109 {σ : Type} {J : Known} {step : Int → Hs.Item → σ → σ × Bool} {hE g : H} {l kb : Nat} {M : Nat → Prop} {Iv : Bool → σ → H → Prop} (hJ : ∀ f args h, (f = 109 ∨ f = 110) → J f args h = none) (V : Vis E J step hE l g.next (g.next + 1) M Iv)
    (hfit : Fit g) (t : Hs.Item) {a b c d : Value} (h1 : [a, b, c, d].all isOne = true) (hb : g.blk kb = some (.cells [a, b, c, d] 25 none)) (hr : rep E hE t (.agg ⟨[a, b, c, d]⟩)) (hz : isz t ≤ 1000000) (s : σ)
    (start : ∀ g', Ahd g g' → g'.blk g.next = some (.cells [.func (.yield l) ⟨[]⟩ ⟨[]⟩] 163 none) → g'.blk (g.next + 1) = some (.cells [.func (.func 110) ⟨[]⟩ ⟨[.pointer (some (own g.next)), .pointer (some (own (g.next + 1)))]⟩] 163 none) → Iv true s g') :
    ∃ n v g', (ev tab E J n).call 109 [.func (.yield l) ⟨[]⟩ ⟨[]⟩, .pointer (some (own kb))] g = some (v, g') ∧ (v = .tuple #[] ∧ Iv (visit step 1 t s).2 (visit step 1 t s).1 g' ∧ Keep M g g') := by
  refine Wc.call (hJ _ _ _ (.inl rfl)) fn109 rfl ?_
  generalize hA0 : (⟨T.ofList [.func (.yield l) ⟨[]⟩ ⟨[]⟩, .pointer (some (own kb))] 0 .nil, max ([.func (.yield l) ⟨[]⟩ ⟨[]⟩, .pointer (some (own kb))] : List Value).length Tryd.f109.ntmps, []⟩ : Ac) = A0
  have n0 : A0.n = 8 := by rw [← hA0]; rfl
  have g00 : A0.get 0 = .func (.yield l) ⟨[]⟩ ⟨[]⟩ := by rw [← hA0]; rfl
  have g01 : A0.get 1 = .pointer (some (own kb)) := by rw [← hA0]; rfl
  have d0 : A0.defers = [] := by rw [← hA0]
  generalize hh1 : g.new (.cells (Value.func (.yield l) ⟨[]⟩ ⟨[]⟩).cells.toList 163 none) = h1'
  have a1 : Ahd g h1' := by rw [← hh1]; exact Ahd.new0 hfit rfl
  have b1 : h1'.blk g.next = some (.cells [.func (.yield l) ⟨[]⟩ ⟨[]⟩] 163 none) := by rw [← hh1]; exact new_blk_new rfl
  have hn1 : h1'.next = g.next + 1 := by rw [← hh1]; rfl
  generalize hh2 : h1'.new (.cells Value.nilFunc.cells.toList 163 none) = h2
  have a2 : Ahd h1' h2 := by rw [← hh2]; exact Ahd.new0 a1.fit rfl
  have b2 : h2.blk h1'.next = some (.cells [.nilFunc] 163 none) := by rw [← hh2]; exact new_blk_new rfl
  have hn2 : h2.next = g.next + 2 := by rw [← hh2]; show h1'.next + 1 = _; rw [hn1]
  rw [hn1] at b2
  have a12 := a1.trans a2
  have hst := st163 (y := .func (.func 110) ⟨[]⟩ ⟨[.pointer (some (own g.next)), .pointer (some (own (g.next + 1)))]⟩) b2 rfl (by rw [a12.mark]; exact Nat.le_succ_of_le hfit.ok.2)
  generalize hh3 : h2.setb (g.next + 1) (.cells [.func (.func 110) ⟨[]⟩ ⟨[.pointer (some (own g.next)), .pointer (some (own (g.next + 1)))]⟩] 163 none) = h3 at hst
  have a3 : Ahd g h3 := by rw [← hh3]; exact a12.setb rfl (Nat.le_succ _) (by omega) hfit
  have c1 : h3.blk g.next = some (.cells [.func (.yield l) ⟨[]⟩ ⟨[]⟩] 163 none) := by rw [← hh3, setb_ne (by omega)]; exact a2.grows _ _ b1
  have c2 : h3.blk (g.next + 1) = some (.cells [.func (.func 110) ⟨[]⟩ ⟨[.pointer (some (own g.next)), .pointer (some (own (g.next + 1)))]⟩] 163 none) := by rw [← hh3]; exact setb_same rfl
  have iv := start h3 a3 c1 c2
  obtain ⟨n, v, g', hcall, rfl, iv', kp⟩ := visit110 (fun args h => hJ _ args h (.inr rfl)) V (isz t) t _ 1 s h3 (Nat.le_refl _) hz hr (by omega) (by omega) iv
  have cl2 : h3.cell E (own (g.next + 1)) = some (.func (.func 110) ⟨[]⟩ ⟨[.pointer (some (own g.next)), .pointer (some (own (g.next + 1)))]⟩) := blk_cell0 c2 rfl
  have cl1 : h3.cells E (own kb) 4 = some [a, b, c, d] := blk_cells (a3.grows _ _ hb) rfl h1
  repeat' (first
    | (with_reducible apply Wc.seq)
    | (refine Wc.opsN n (by repeat' (first
      | with_reducible exact RO.nil
      | ((with_reducible apply RO.run (awant_none rfl)); (focus ((first | simp (config := {decide := true}) only [awant, ayield_get, oper1, aop, opv, opvs, opvo, opvp, abuiltin, Ac.get_put, Ac.put_n, Ac.put_defers, if_true, if_false, and_true, decide_true, abin, isShift, aint, roV, pair, bind, Option.bind, acall, List.nil_append, List.append_nil, List.toList_toArray, List.getElem?_cons_zero, List.getElem?_cons_succ, Bool.not_true, Bool.not_false, n0, d0, g00, g01, hh1, tz163, hn1, hh2, roF, hst, ld163, ld25, cl1, cl2, List.cons_append, hcall] | skip); with_reducible rfl))))) ?_)
    | (refine Wc.cond2 (by simp (config := {decide := true}) only [awant, ayield_get, oper1, aop, opv, opvs, opvo, opvp, abuiltin, Ac.get_put, Ac.put_n, Ac.put_defers, if_true, if_false, and_true, decide_true, abin, isShift, aint, roV, pair, bind, Option.bind, acall, List.nil_append, List.append_nil, List.toList_toArray, List.getElem?_cons_zero, List.getElem?_cons_succ, Bool.not_true, Bool.not_false, n0, d0, g00, g01, hh1, tz163, hn1, hh2, roF, hst, ld163, ld25, cl1, cl2, List.cons_append, hcall]; try with_reducible rfl) (fun hb => ?_) (fun hb => ?_) <;> try contradiction)
    | refine Wc.skip ?_
    | refine Wc.ret ?_
    | refine Wc.exit ?_
    | refine Wc.block ?_)
  exact done_unit (.inl rfl) (by simp (config := {decide := true}) only [Ac.get_put, Ac.put_n, Ac.put_defers, if_true, if_false, and_true, d0]) rfl ⟨rfl, iv', a3.keep.trans kp⟩

/-! ### 35 -/
theorem fn35 : tab.fn.get 35 = some Tryd.f35 := by kernel_rfl
noncomputable def asg35 : Code := (rangeOf Tryd.f35).1
noncomputable def bod35 : Code := (rangeOf Tryd.f35).2

/-- How it stands in the midst of the loop. -/
structure St35 (g0 : H) (kR kN l : Nat) (r0 : LoopR) (b : Bool) (s : Int × Int) (g : H) : Prop where
  fit : Fit g
  log : g.log = []
  mark : g.mark = g0.mark
  keep : Keep (fun k => k = kR ∨ k = kN ∨ k = l) g0 g
  bR : g.blk kR = some (.cells [.int .i64 s.2] 26 none)
  bN : g.blk kN = some (.cells [.int .i64 s.1] 3 none)
  bl : g.blk l = some (.loop (if b then r0 else { r0 with state := .done, pending := some .ret }))
  cnt : b = true → s.2 = 0 ∧ 0 ≤ s.1 ∧ s.1 ≤ 5000

theorem St35.ahd {g0 : H} {kR kN l : Nat} {r0 : LoopR} {b : Bool} {s : Int × Int} {g g' : H} (S : St35 g0 kR kN l r0 b s g) (a : Ahd g g') : St35 g0 kR kN l r0 b s g' :=
  ⟨a.fit, a.log.trans S.log, a.mark.trans S.mark, S.keep.ahd a, a.grows _ _ S.bR, a.grows _ _ S.bN, a.grows _ _ S.bl, S.cnt⟩

theorem round35 {J : Known} {g0 : H} {kR kN l d : Nat} (o1 : kR < kN) (o2 : kN < l) (om : g0.mark ≤ kR) {A : Ac} (nA : A.n = 42) (p2 : A.get 2 = .pointer (some (own kR))) (p3 : A.get 3 = .pointer (some (own kN))) {s : Int × Int} {g : H}
    (S : St35 g0 kR kN l ⟨.ready, none, 35, A.tmps, A.n, #[8, 9], asg35, bod35, d⟩ true s g) {lv : Int} (hlv : 1 ≤ lv) (hlv2 : lv ≤ 2000000000) {t : Hs.Item} {xv : Value} {hE : H} (hr : rep E hE t xv) :
    ∃ n v g', (ev tab E J n).round l [.int .i64 lv, xv] g = some (v, g') ∧ (v = .bool (stepC lv t s).2 ∧ St35 g0 kR kN l ⟨.ready, none, 35, A.tmps, A.n, #[8, 9], asg35, bod35, d⟩ (stepC lv t s).2 (stepC lv t s).1 g' ∧ Keep (fun k => k = kR ∨ k = kN ∨ k = l) g g') := by
  obtain ⟨c, e⟩ := s
  obtain ⟨rfl, hc0, hc1⟩ := S.cnt rfl
  replace hc0 : 0 ≤ c := hc0
  replace hc1 : c ≤ 5000 := hc1
  obtain ⟨k, m, tx, ks⟩ := t
  obtain ⟨sb, sc, rfl, _⟩ := rep_slice hr
  generalize hr0 : (⟨.ready, none, 35, A.tmps, A.n, #[8, 9], asg35, bod35, d⟩ : LoopR) = r0 at S ⊢
  have bl := S.bl
  rw [if_pos rfl] at bl
  have hln := S.fit.lt bl
  refine Wr.round bl (A := ((⟨A.tmps, A.n, []⟩ : Ac).put (some 8) (.int .i64 lv)).put (some 9) (.agg ⟨[.int .i64 k, .int .i64 m, .string tx, .slice sb ks.length sc]⟩)) (by rw [← hr0]; rfl) ?_
  have hp : ∀ i, (⟨A.tmps, A.n, []⟩ : Ac).get i = A.get i := fun _ => rfl
  have hpn : (⟨A.tmps, A.n, []⟩ : Ac).n = 42 := nA
  have q2 := (hp 2).trans p2
  have q3 := (hp 3).trans p3
  generalize (⟨A.tmps, A.n, []⟩ : Ac) = B0 at hpn q2 q3 ⊢
  -- the variable of the loop
  generalize hh3 : g.new (.cells (Value.agg #[.int .i64 0, .int .i64 0, .string ⟨#[]⟩, .slice none 0 0]).cells.toList 25 none) = h3
  have a3 : Ahd g h3 := by rw [← hh3]; exact Ahd.new0 S.fit rfl
  have c3 : h3.blk g.next = some (.cells [.int .i64 0, .int .i64 0, .string ⟨#[]⟩, .slice none 0 0] 25 none) := by rw [← hh3]; exact new_blk_new rfl
  have hn3 : h3.next = g.next + 1 := by rw [← hh3]; rfl
  have hst3 := st25 (a := .int .i64 k) (b := .int .i64 m) (c := .string tx) (d := .slice sb ks.length sc) c3 rfl (by rw [a3.mark]; exact S.fit.ok.2)
  generalize hh4 : h3.setb g.next (.cells [.int .i64 k, .int .i64 m, .string tx, .slice sb ks.length sc] 25 none) = h4 at hst3
  have a4 : Ahd g h4 := by rw [← hh4]; exact a3.setb rfl (Nat.le_refl _) (by omega) S.fit
  have c4 : h4.blk g.next = some (.cells [.int .i64 k, .int .i64 m, .string tx, .slice sb ks.length sc] 25 none) := by rw [← hh4]; exact setb_same rfl
  have asgW : Wc tab E J ⟨r0.fn, some l⟩ r0.assign ((B0.put (some 8) (.int .i64 lv)).put (some 9) (.agg ⟨[.int .i64 k, .int .i64 m, .string tx, .slice sb ks.length sc]⟩)) g (fun ex A1 h1 => ex = .normal ∧ h1 = h4 ∧ A1.n = 42 ∧ A1.get 2 = .pointer (some (own kR)) ∧ A1.get 3 = .pointer (some (own kN)) ∧ A1.get 4 = .int .i64 lv ∧ A1.get 5 = .pointer (some (own g.next))) := by
    have hasg : r0.assign = asg35 := by rw [← hr0]
    have hfn0 : r0.fn = 35 := by rw [← hr0]
    rw [hasg, hfn0]
    simp only [asg35, rangeOf, firstRange, Option.getD, Tryd.f35]
    repeat' (first
    | (with_reducible apply Wc.seq)
    | (refine Wc.ops (by repeat' (first
      | with_reducible exact RO.nil
      | ((with_reducible apply RO.run (awant_none rfl)); (focus ((first | simp (config := {decide := true}) only [awant, ayield_get, oper1, aop, opv, opvs, opvo, opvp, abuiltin, Ac.get_put, Ac.put_n, Ac.put_defers, if_true, if_false, and_true, decide_true, abin, isShift, aint, roV, pair, bind, Option.bind, acall, List.nil_append, List.append_nil, List.toList_toArray, List.getElem?_cons_zero, List.getElem?_cons_succ, Bool.not_true, Bool.not_false, hpn, q2, q3, tz25, hh3, hst3] | skip); with_reducible rfl))))) ?_)
    | (refine Wc.cond2 (by simp (config := {decide := true}) only [awant, ayield_get, oper1, aop, opv, opvs, opvo, opvp, abuiltin, Ac.get_put, Ac.put_n, Ac.put_defers, if_true, if_false, and_true, decide_true, abin, isShift, aint, roV, pair, bind, Option.bind, acall, List.nil_append, List.append_nil, List.toList_toArray, List.getElem?_cons_zero, List.getElem?_cons_succ, Bool.not_true, Bool.not_false, hpn, q2, q3, tz25, hh3, hst3]; try with_reducible rfl) (fun hb => ?_) (fun hb => ?_) <;> try contradiction)
    | refine Wc.skip ?_
    | refine Wc.ret ?_
    | refine Wc.exit ?_
    | refine Wc.block ?_)
    exact ⟨rfl, rfl, by simp (config := {decide := true}) only [Ac.get_put, Ac.put_n, Ac.put_defers, if_true, if_false, and_true, hpn], by simp (config := {decide := true}) only [Ac.get_put, Ac.put_n, Ac.put_defers, if_true, if_false, and_true, hpn, q2], by simp (config := {decide := true}) only [Ac.get_put, Ac.put_n, Ac.put_defers, if_true, if_false, and_true, hpn, q3], by simp (config := {decide := true}) only [Ac.get_put, Ac.put_n, Ac.put_defers, if_true, if_false, and_true, hpn], by simp (config := {decide := true}) only [Ac.get_put, Ac.put_n, Ac.put_defers, if_true, if_false, and_true, hpn]⟩
  have S4 := S.ahd a4
  clear hh3 c3 hst3
  have bl4 := a4.grows _ _ bl
  refine asgW.mono ?_
  clear asgW
  rintro ex A1 h1 ⟨rfl, rfl, nA1, u2, u3, u4, u5⟩
  refine ⟨rfl, r0, bl4, by rw [← hr0], ?_⟩
  have hml : h1.mark ≤ l := by rw [S4.mark]; omega
  rw [turn_above hml]
  generalize hh7 : h1.setb l (.loop { r0 with state := .busy }) = h7
  have hl1 : l < h1.next := Nat.lt_of_lt_of_le hln a4.next
  have f7 : Fit h7 := by rw [← hh7]; exact a4.fit.setb rfl hl1
  have R7 : h7.blk kR = some (.cells [.int .i64 0] 26 none) := by rw [← hh7, setb_ne (by omega)]; exact S4.bR
  have N7 : h7.blk kN = some (.cells [.int .i64 c] 3 none) := by rw [← hh7, setb_ne (by omega)]; exact S4.bN
  have L7 : h7.blk l = some (.loop { r0 with state := .busy }) := by rw [← hh7]; exact setb_same rfl
  have X7 : h7.blk g.next = some (.cells [.int .i64 k, .int .i64 m, .string tx, .slice sb ks.length sc] 25 none) := by rw [← hh7, setb_ne (by omega)]; exact c4
  have k7 : Keep (fun k => k = kR ∨ k = kN ∨ k = l) g h7 := by rw [← hh7]; exact a4.keep.setb (.inr (.inr rfl))
  have log7 : h7.log = [] := by rw [← hh7]; exact S4.log
  have mark7 : h7.mark = g0.mark := by rw [← hh7]; exact S4.mark
  have n7 : h7.next = h1.next := by rw [← hh7]; rfl
  have finF : ∀ x : Int, ∃ r2, (h7.setb kR (.cells [.int .i64 x] 26 none)).blk l = some (.loop r2) ∧ St35 g0 kR kN l r0 false (c, x) ((h7.setb kR (.cells [.int .i64 x] 26 none)).turn l (.loop { r2 with state := .done, pending := some .ret })) ∧ Keep (fun k => k = kR ∨ k = kN ∨ k = l) g ((h7.setb kR (.cells [.int .i64 x] 26 none)).turn l (.loop { r2 with state := .done, pending := some .ret })) := by
    intro x
    refine ⟨{ r0 with state := .busy }, by rw [setb_ne (by omega)]; exact L7, ?_⟩
    rw [turn_above (by show h7.mark ≤ l; rw [mark7]; omega)]
    have kk := (k7.setb (k := kR) (B := .cells [.int .i64 x] 26 none) (.inl rfl)).setb (k := l) (B := .loop { r0 with state := .done, pending := some .ret }) (.inr (.inr rfl))
    refine ⟨⟨(f7.setb rfl (by omega)).setb rfl (by show l < h7.next; omega), log7, mark7, S.keep.trans kk, ?_, ?_, ?_, fun hh => by cases hh⟩, kk⟩
    · rw [setb_ne (by omega)]; exact setb_same rfl
    · rw [setb_ne (by omega), setb_ne (by omega)]; exact N7
    · rw [if_neg (by decide)]; exact setb_same rfl
  have finT : c < 5000 → ∃ r2, (h7.setb kN (.cells [.int .i64 (c + 1)] 3 none)).blk l = some (.loop r2) ∧ St35 g0 kR kN l r0 true (c + 1, 0) ((h7.setb kN (.cells [.int .i64 (c + 1)] 3 none)).turn l (.loop { r2 with state := .ready, pending := none })) ∧ Keep (fun k => k = kR ∨ k = kN ∨ k = l) g ((h7.setb kN (.cells [.int .i64 (c + 1)] 3 none)).turn l (.loop { r2 with state := .ready, pending := none })) := by
    intro hlt
    refine ⟨{ r0 with state := .busy }, by rw [setb_ne (by omega)]; exact L7, ?_⟩
    rw [turn_above (by show h7.mark ≤ l; rw [mark7]; omega)]
    have er : ({ r0 with state := .ready, pending := none } : LoopR) = r0 := by rw [← hr0]
    have kk := (k7.setb (k := kN) (B := .cells [.int .i64 (c + 1)] 3 none) (.inr (.inl rfl))).setb (k := l) (B := .loop { r0 with state := .ready, pending := none }) (.inr (.inr rfl))
    refine ⟨⟨(f7.setb rfl (by omega)).setb rfl (by show l < h7.next; omega), log7, mark7, S.keep.trans kk, ?_, ?_, ?_, fun _ => ⟨rfl, by show 0 ≤ c + 1; omega, by show c + 1 ≤ 5000; omega⟩⟩, kk⟩
    · rw [setb_ne (by omega), setb_ne (by omega)]; exact R7
    · rw [setb_ne (by omega)]; exact setb_same rfl
    · rw [if_pos rfl]
      refine (setb_same rfl).trans ?_
      show some (Blk.loop { r0 with state := .ready, pending := none }) = _
      rw [er]
  have mR : h7.mark ≤ kR := by rw [mark7]; exact om
  have x0 : h7.cell E (aadd (own g.next) 0) = some (.int .i64 k) := blk_cell (i := 0) X7 rfl rfl
  have x1 : h7.cell E (aadd (own g.next) 1) = some (.int .i64 m) := blk_cell (i := 1) X7 rfl rfl
  have x2 : h7.cell E (aadd (own g.next) 2) = some (.string tx) := blk_cell (i := 2) X7 rfl rfl
  have xN : h7.cell E (own kN) = some (.int .i64 c) := blk_cell0 N7 rfl
  have s11 := st26 (i := 11) R7 mR
  have s2 := st26 (i := 2) R7 mR
  have s3 := st26 (i := 3) R7 mR
  have sN := st3 (i := c + 1) N7 (by omega)
  have w1 : IntKind.i64.wrap (c + 1) = c + 1 := wrap64 (by omega) (by omega)
  have hbod : r0.body = bod35 := by rw [← hr0]
  have hfn0 : r0.fn = 35 := by rw [← hr0]
  rw [hbod, hfn0]
  simp only [bod35, rangeOf, firstRange, Option.getD, Tryd.f35]
  by_cases a : lv > 250
  · have e : stepC lv (.mk k m tx ks) (c, 0) = ((c, 11), false) := by simp only [stepC, if_pos a]
    rw [e]
    have da : decide (lv > 250) = true := by simpa using a
    repeat' (first
    | (with_reducible apply Wc.seq)
    | (refine Wc.ops (by repeat' (first
      | with_reducible exact RO.nil
      | ((with_reducible apply RO.run (awant_none rfl)); (focus ((first | simp (config := {decide := true}) only [awant, ayield_get, oper1, aop, opv, opvs, opvo, opvp, abuiltin, Ac.get_put, Ac.put_n, Ac.put_defers, if_true, if_false, and_true, decide_true, abin, isShift, aint, roV, pair, bind, Option.bind, acall, List.nil_append, List.append_nil, List.toList_toArray, List.getElem?_cons_zero, List.getElem?_cons_succ, Bool.not_true, Bool.not_false, nA1, u2, u3, u4, u5, da, s11] | skip); with_reducible rfl))))) ?_)
    | (refine Wc.cond2 (by simp (config := {decide := true}) only [awant, ayield_get, oper1, aop, opv, opvs, opvo, opvp, abuiltin, Ac.get_put, Ac.put_n, Ac.put_defers, if_true, if_false, and_true, decide_true, abin, isShift, aint, roV, pair, bind, Option.bind, acall, List.nil_append, List.append_nil, List.toList_toArray, List.getElem?_cons_zero, List.getElem?_cons_succ, Bool.not_true, Bool.not_false, nA1, u2, u3, u4, u5, da, s11]; try with_reducible rfl) (fun hb => ?_) (fun hb => ?_) <;> try contradiction)
    | refine Wc.skip ?_
    | refine Wc.ret ?_
    | refine Wc.exit ?_
    | refine Wc.block ?_)
    obtain ⟨r2, z1, z2, z3⟩ := finF 11
    exact ⟨r2, z1, .inr ⟨rfl, rfl, z2, z3⟩⟩
  have da : decide (lv > 250) = false := by simpa using a
  by_cases b : c = 5000
  · have e : stepC lv (.mk k m tx ks) (c, 0) = ((c, 2), false) := by simp only [stepC, if_neg a, if_pos b]
    rw [e]
    have db : decide (c = 5000) = true := by simpa using b
    repeat' (first
    | (with_reducible apply Wc.seq)
    | (refine Wc.ops (by repeat' (first
      | with_reducible exact RO.nil
      | ((with_reducible apply RO.run (awant_none rfl)); (focus ((first | simp (config := {decide := true}) only [awant, ayield_get, oper1, aop, opv, opvs, opvo, opvp, abuiltin, Ac.get_put, Ac.put_n, Ac.put_defers, if_true, if_false, and_true, decide_true, abin, isShift, aint, roV, pair, bind, Option.bind, acall, List.nil_append, List.append_nil, List.toList_toArray, List.getElem?_cons_zero, List.getElem?_cons_succ, Bool.not_true, Bool.not_false, nA1, u2, u3, u4, u5, da, ld3, xN, db, s2] | skip); with_reducible rfl))))) ?_)
    | (refine Wc.cond2 (by simp (config := {decide := true}) only [awant, ayield_get, oper1, aop, opv, opvs, opvo, opvp, abuiltin, Ac.get_put, Ac.put_n, Ac.put_defers, if_true, if_false, and_true, decide_true, abin, isShift, aint, roV, pair, bind, Option.bind, acall, List.nil_append, List.append_nil, List.toList_toArray, List.getElem?_cons_zero, List.getElem?_cons_succ, Bool.not_true, Bool.not_false, nA1, u2, u3, u4, u5, da, ld3, xN, db, s2]; try with_reducible rfl) (fun hb => ?_) (fun hb => ?_) <;> try contradiction)
    | refine Wc.skip ?_
    | refine Wc.ret ?_
    | refine Wc.exit ?_
    | refine Wc.block ?_)
    obtain ⟨r2, z1, z2, z3⟩ := finF 2
    exact ⟨r2, z1, .inr ⟨rfl, rfl, z2, z3⟩⟩
  have db : decide (c = 5000) = false := by simpa using b
  obtain ⟨r3, z1, z2, z3⟩ := finF 3
  by_cases q1 : k < 1
  · have e : stepC lv (.mk k m tx ks) (c, 0) = ((c, 3), false) := by simp only [stepC, if_neg a, if_neg b, if_pos (show k < 1 ∨ k > 63 ∨ m < 0 ∨ m > 1099511627776 from .inl q1)]
    rw [e]
    have d1 : decide (k < 1) = true := by simpa using q1
    repeat' (first
    | (with_reducible apply Wc.seq)
    | (refine Wc.ops (by repeat' (first
      | with_reducible exact RO.nil
      | ((with_reducible apply RO.run (awant_none rfl)); (focus ((first | simp (config := {decide := true}) only [awant, ayield_get, oper1, aop, opv, opvs, opvo, opvp, abuiltin, Ac.get_put, Ac.put_n, Ac.put_defers, if_true, if_false, and_true, decide_true, abin, isShift, aint, roV, pair, bind, Option.bind, acall, List.nil_append, List.append_nil, List.toList_toArray, List.getElem?_cons_zero, List.getElem?_cons_succ, Bool.not_true, Bool.not_false, nA1, u2, u3, u4, u5, da, ld3, xN, db, fa25_0, fa25_1, x0, x1, d1, s3] | skip); with_reducible rfl)))
      | ((with_reducible apply RO.runG); (focus rfl); (focus rfl); (focus (simp (config := {decide := true}) only [awant, ayield_get, oper1, aop, opv, opvs, opvo, opvp, abuiltin, Ac.get_put, Ac.put_n, Ac.put_defers, if_true, if_false, and_true, decide_true, abin, isShift, aint, roV, pair, bind, Option.bind, acall, List.nil_append, List.append_nil, List.toList_toArray, List.getElem?_cons_zero, List.getElem?_cons_succ, Bool.not_true, Bool.not_false, nA1, u2, u3, u4, u5, da, ld3, xN, db, fa25_0, fa25_1, x0, x1, d1, s3]; done)); (focus ((first | simp (config := {decide := true}) only [awant, ayield_get, oper1, aop, opv, opvs, opvo, opvp, abuiltin, Ac.get_put, Ac.put_n, Ac.put_defers, if_true, if_false, and_true, decide_true, abin, isShift, aint, roV, pair, bind, Option.bind, acall, List.nil_append, List.append_nil, List.toList_toArray, List.getElem?_cons_zero, List.getElem?_cons_succ, Bool.not_true, Bool.not_false, nA1, u2, u3, u4, u5, da, ld3, xN, db, fa25_0, fa25_1, x0, x1, d1, s3] | skip); with_reducible rfl)))
      | ((with_reducible apply RO.skipG); (focus rfl); (focus rfl); (focus (simp (config := {decide := true}) only [awant, ayield_get, oper1, aop, opv, opvs, opvo, opvp, abuiltin, Ac.get_put, Ac.put_n, Ac.put_defers, if_true, if_false, and_true, decide_true, abin, isShift, aint, roV, pair, bind, Option.bind, acall, List.nil_append, List.append_nil, List.toList_toArray, List.getElem?_cons_zero, List.getElem?_cons_succ, Bool.not_true, Bool.not_false, nA1, u2, u3, u4, u5, da, ld3, xN, db, fa25_0, fa25_1, x0, x1, d1, s3]; done))))) ?_)
    | (refine Wc.quiet (by kernel_rfl) (by repeat' (first
      | with_reducible exact QO.nil
      | ((with_reducible apply QO.cons rfl rfl); (focus ((first | simp (config := {decide := true}) only [awant, ayield_get, oper1, aop, opv, opvs, opvo, opvp, abuiltin, Ac.get_put, Ac.put_n, Ac.put_defers, if_true, if_false, and_true, decide_true, abin, isShift, aint, roV, pair, bind, Option.bind, acall, List.nil_append, List.append_nil, List.toList_toArray, List.getElem?_cons_zero, List.getElem?_cons_succ, Bool.not_true, Bool.not_false, nA1, u2, u3, u4, u5, da, ld3, xN, db, fa25_0, fa25_1, x0, x1, d1, s3] | skip); with_reducible rfl))))) ?_)
    | (refine Wc.cond2 (by simp (config := {decide := true}) only [awant, ayield_get, oper1, aop, opv, opvs, opvo, opvp, abuiltin, Ac.get_put, Ac.put_n, Ac.put_defers, if_true, if_false, and_true, decide_true, abin, isShift, aint, roV, pair, bind, Option.bind, acall, List.nil_append, List.append_nil, List.toList_toArray, List.getElem?_cons_zero, List.getElem?_cons_succ, Bool.not_true, Bool.not_false, nA1, u2, u3, u4, u5, da, ld3, xN, db, fa25_0, fa25_1, x0, x1, d1, s3]; try with_reducible rfl) (fun hb => ?_) (fun hb => ?_) <;> try contradiction)
    | refine Wc.skip ?_
    | refine Wc.ret ?_
    | refine Wc.exit ?_
    | refine Wc.block ?_)
    exact ⟨r3, z1, .inr ⟨rfl, rfl, z2, z3⟩⟩
  have d1 : decide (k < 1) = false := by simpa using q1
  by_cases q2' : k > 63
  · have e : stepC lv (.mk k m tx ks) (c, 0) = ((c, 3), false) := by simp only [stepC, if_neg a, if_neg b, if_pos (show k < 1 ∨ k > 63 ∨ m < 0 ∨ m > 1099511627776 from .inr (.inl q2'))]
    rw [e]
    have d2 : decide (k > 63) = true := by simpa using q2'
    repeat' (first
    | (with_reducible apply Wc.seq)
    | (refine Wc.ops (by repeat' (first
      | with_reducible exact RO.nil
      | ((with_reducible apply RO.run (awant_none rfl)); (focus ((first | simp (config := {decide := true}) only [awant, ayield_get, oper1, aop, opv, opvs, opvo, opvp, abuiltin, Ac.get_put, Ac.put_n, Ac.put_defers, if_true, if_false, and_true, decide_true, abin, isShift, aint, roV, pair, bind, Option.bind, acall, List.nil_append, List.append_nil, List.toList_toArray, List.getElem?_cons_zero, List.getElem?_cons_succ, Bool.not_true, Bool.not_false, nA1, u2, u3, u4, u5, da, ld3, xN, db, fa25_0, fa25_1, x0, x1, d1, d2, s3] | skip); with_reducible rfl)))
      | ((with_reducible apply RO.runG); (focus rfl); (focus rfl); (focus (simp (config := {decide := true}) only [awant, ayield_get, oper1, aop, opv, opvs, opvo, opvp, abuiltin, Ac.get_put, Ac.put_n, Ac.put_defers, if_true, if_false, and_true, decide_true, abin, isShift, aint, roV, pair, bind, Option.bind, acall, List.nil_append, List.append_nil, List.toList_toArray, List.getElem?_cons_zero, List.getElem?_cons_succ, Bool.not_true, Bool.not_false, nA1, u2, u3, u4, u5, da, ld3, xN, db, fa25_0, fa25_1, x0, x1, d1, d2, s3]; done)); (focus ((first | simp (config := {decide := true}) only [awant, ayield_get, oper1, aop, opv, opvs, opvo, opvp, abuiltin, Ac.get_put, Ac.put_n, Ac.put_defers, if_true, if_false, and_true, decide_true, abin, isShift, aint, roV, pair, bind, Option.bind, acall, List.nil_append, List.append_nil, List.toList_toArray, List.getElem?_cons_zero, List.getElem?_cons_succ, Bool.not_true, Bool.not_false, nA1, u2, u3, u4, u5, da, ld3, xN, db, fa25_0, fa25_1, x0, x1, d1, d2, s3] | skip); with_reducible rfl)))
      | ((with_reducible apply RO.skipG); (focus rfl); (focus rfl); (focus (simp (config := {decide := true}) only [awant, ayield_get, oper1, aop, opv, opvs, opvo, opvp, abuiltin, Ac.get_put, Ac.put_n, Ac.put_defers, if_true, if_false, and_true, decide_true, abin, isShift, aint, roV, pair, bind, Option.bind, acall, List.nil_append, List.append_nil, List.toList_toArray, List.getElem?_cons_zero, List.getElem?_cons_succ, Bool.not_true, Bool.not_false, nA1, u2, u3, u4, u5, da, ld3, xN, db, fa25_0, fa25_1, x0, x1, d1, d2, s3]; done))))) ?_)
    | (refine Wc.quiet (by kernel_rfl) (by repeat' (first
      | with_reducible exact QO.nil
      | ((with_reducible apply QO.cons rfl rfl); (focus ((first | simp (config := {decide := true}) only [awant, ayield_get, oper1, aop, opv, opvs, opvo, opvp, abuiltin, Ac.get_put, Ac.put_n, Ac.put_defers, if_true, if_false, and_true, decide_true, abin, isShift, aint, roV, pair, bind, Option.bind, acall, List.nil_append, List.append_nil, List.toList_toArray, List.getElem?_cons_zero, List.getElem?_cons_succ, Bool.not_true, Bool.not_false, nA1, u2, u3, u4, u5, da, ld3, xN, db, fa25_0, fa25_1, x0, x1, d1, d2, s3] | skip); with_reducible rfl))))) ?_)
    | (refine Wc.cond2 (by simp (config := {decide := true}) only [awant, ayield_get, oper1, aop, opv, opvs, opvo, opvp, abuiltin, Ac.get_put, Ac.put_n, Ac.put_defers, if_true, if_false, and_true, decide_true, abin, isShift, aint, roV, pair, bind, Option.bind, acall, List.nil_append, List.append_nil, List.toList_toArray, List.getElem?_cons_zero, List.getElem?_cons_succ, Bool.not_true, Bool.not_false, nA1, u2, u3, u4, u5, da, ld3, xN, db, fa25_0, fa25_1, x0, x1, d1, d2, s3]; try with_reducible rfl) (fun hb => ?_) (fun hb => ?_) <;> try contradiction)
    | refine Wc.skip ?_
    | refine Wc.ret ?_
    | refine Wc.exit ?_
    | refine Wc.block ?_)
    exact ⟨r3, z1, .inr ⟨rfl, rfl, z2, z3⟩⟩
  have d2 : decide (k > 63) = false := by simpa using q2'
  by_cases q3' : m < 0
  · have e : stepC lv (.mk k m tx ks) (c, 0) = ((c, 3), false) := by simp only [stepC, if_neg a, if_neg b, if_pos (show k < 1 ∨ k > 63 ∨ m < 0 ∨ m > 1099511627776 from .inr (.inr (.inl q3')))]
    rw [e]
    have d3 : decide (m < 0) = true := by simpa using q3'
    repeat' (first
    | (with_reducible apply Wc.seq)
    | (refine Wc.ops (by repeat' (first
      | with_reducible exact RO.nil
      | ((with_reducible apply RO.run (awant_none rfl)); (focus ((first | simp (config := {decide := true}) only [awant, ayield_get, oper1, aop, opv, opvs, opvo, opvp, abuiltin, Ac.get_put, Ac.put_n, Ac.put_defers, if_true, if_false, and_true, decide_true, abin, isShift, aint, roV, pair, bind, Option.bind, acall, List.nil_append, List.append_nil, List.toList_toArray, List.getElem?_cons_zero, List.getElem?_cons_succ, Bool.not_true, Bool.not_false, nA1, u2, u3, u4, u5, da, ld3, xN, db, fa25_0, fa25_1, x0, x1, d1, d2, d3, s3] | skip); with_reducible rfl)))
      | ((with_reducible apply RO.runG); (focus rfl); (focus rfl); (focus (simp (config := {decide := true}) only [awant, ayield_get, oper1, aop, opv, opvs, opvo, opvp, abuiltin, Ac.get_put, Ac.put_n, Ac.put_defers, if_true, if_false, and_true, decide_true, abin, isShift, aint, roV, pair, bind, Option.bind, acall, List.nil_append, List.append_nil, List.toList_toArray, List.getElem?_cons_zero, List.getElem?_cons_succ, Bool.not_true, Bool.not_false, nA1, u2, u3, u4, u5, da, ld3, xN, db, fa25_0, fa25_1, x0, x1, d1, d2, d3, s3]; done)); (focus ((first | simp (config := {decide := true}) only [awant, ayield_get, oper1, aop, opv, opvs, opvo, opvp, abuiltin, Ac.get_put, Ac.put_n, Ac.put_defers, if_true, if_false, and_true, decide_true, abin, isShift, aint, roV, pair, bind, Option.bind, acall, List.nil_append, List.append_nil, List.toList_toArray, List.getElem?_cons_zero, List.getElem?_cons_succ, Bool.not_true, Bool.not_false, nA1, u2, u3, u4, u5, da, ld3, xN, db, fa25_0, fa25_1, x0, x1, d1, d2, d3, s3] | skip); with_reducible rfl)))
      | ((with_reducible apply RO.skipG); (focus rfl); (focus rfl); (focus (simp (config := {decide := true}) only [awant, ayield_get, oper1, aop, opv, opvs, opvo, opvp, abuiltin, Ac.get_put, Ac.put_n, Ac.put_defers, if_true, if_false, and_true, decide_true, abin, isShift, aint, roV, pair, bind, Option.bind, acall, List.nil_append, List.append_nil, List.toList_toArray, List.getElem?_cons_zero, List.getElem?_cons_succ, Bool.not_true, Bool.not_false, nA1, u2, u3, u4, u5, da, ld3, xN, db, fa25_0, fa25_1, x0, x1, d1, d2, d3, s3]; done))))) ?_)
    | (refine Wc.quiet (by kernel_rfl) (by repeat' (first
      | with_reducible exact QO.nil
      | ((with_reducible apply QO.cons rfl rfl); (focus ((first | simp (config := {decide := true}) only [awant, ayield_get, oper1, aop, opv, opvs, opvo, opvp, abuiltin, Ac.get_put, Ac.put_n, Ac.put_defers, if_true, if_false, and_true, decide_true, abin, isShift, aint, roV, pair, bind, Option.bind, acall, List.nil_append, List.append_nil, List.toList_toArray, List.getElem?_cons_zero, List.getElem?_cons_succ, Bool.not_true, Bool.not_false, nA1, u2, u3, u4, u5, da, ld3, xN, db, fa25_0, fa25_1, x0, x1, d1, d2, d3, s3] | skip); with_reducible rfl))))) ?_)
    | (refine Wc.cond2 (by simp (config := {decide := true}) only [awant, ayield_get, oper1, aop, opv, opvs, opvo, opvp, abuiltin, Ac.get_put, Ac.put_n, Ac.put_defers, if_true, if_false, and_true, decide_true, abin, isShift, aint, roV, pair, bind, Option.bind, acall, List.nil_append, List.append_nil, List.toList_toArray, List.getElem?_cons_zero, List.getElem?_cons_succ, Bool.not_true, Bool.not_false, nA1, u2, u3, u4, u5, da, ld3, xN, db, fa25_0, fa25_1, x0, x1, d1, d2, d3, s3]; try with_reducible rfl) (fun hb => ?_) (fun hb => ?_) <;> try contradiction)
    | refine Wc.skip ?_
    | refine Wc.ret ?_
    | refine Wc.exit ?_
    | refine Wc.block ?_)
    exact ⟨r3, z1, .inr ⟨rfl, rfl, z2, z3⟩⟩
  have d3 : decide (m < 0) = false := by simpa using q3'
  by_cases q4 : m > 1099511627776
  · have e : stepC lv (.mk k m tx ks) (c, 0) = ((c, 3), false) := by simp only [stepC, if_neg a, if_neg b, if_pos (show k < 1 ∨ k > 63 ∨ m < 0 ∨ m > 1099511627776 from .inr (.inr (.inr q4)))]
    rw [e]
    have d4 : decide (m > 1099511627776) = true := by simpa using q4
    repeat' (first
    | (with_reducible apply Wc.seq)
    | (refine Wc.ops (by repeat' (first
      | with_reducible exact RO.nil
      | ((with_reducible apply RO.run (awant_none rfl)); (focus ((first | simp (config := {decide := true}) only [awant, ayield_get, oper1, aop, opv, opvs, opvo, opvp, abuiltin, Ac.get_put, Ac.put_n, Ac.put_defers, if_true, if_false, and_true, decide_true, abin, isShift, aint, roV, pair, bind, Option.bind, acall, List.nil_append, List.append_nil, List.toList_toArray, List.getElem?_cons_zero, List.getElem?_cons_succ, Bool.not_true, Bool.not_false, nA1, u2, u3, u4, u5, da, ld3, xN, db, fa25_0, fa25_1, x0, x1, d1, d2, d3, d4, s3] | skip); with_reducible rfl)))
      | ((with_reducible apply RO.runG); (focus rfl); (focus rfl); (focus (simp (config := {decide := true}) only [awant, ayield_get, oper1, aop, opv, opvs, opvo, opvp, abuiltin, Ac.get_put, Ac.put_n, Ac.put_defers, if_true, if_false, and_true, decide_true, abin, isShift, aint, roV, pair, bind, Option.bind, acall, List.nil_append, List.append_nil, List.toList_toArray, List.getElem?_cons_zero, List.getElem?_cons_succ, Bool.not_true, Bool.not_false, nA1, u2, u3, u4, u5, da, ld3, xN, db, fa25_0, fa25_1, x0, x1, d1, d2, d3, d4, s3]; done)); (focus ((first | simp (config := {decide := true}) only [awant, ayield_get, oper1, aop, opv, opvs, opvo, opvp, abuiltin, Ac.get_put, Ac.put_n, Ac.put_defers, if_true, if_false, and_true, decide_true, abin, isShift, aint, roV, pair, bind, Option.bind, acall, List.nil_append, List.append_nil, List.toList_toArray, List.getElem?_cons_zero, List.getElem?_cons_succ, Bool.not_true, Bool.not_false, nA1, u2, u3, u4, u5, da, ld3, xN, db, fa25_0, fa25_1, x0, x1, d1, d2, d3, d4, s3] | skip); with_reducible rfl)))
      | ((with_reducible apply RO.skipG); (focus rfl); (focus rfl); (focus (simp (config := {decide := true}) only [awant, ayield_get, oper1, aop, opv, opvs, opvo, opvp, abuiltin, Ac.get_put, Ac.put_n, Ac.put_defers, if_true, if_false, and_true, decide_true, abin, isShift, aint, roV, pair, bind, Option.bind, acall, List.nil_append, List.append_nil, List.toList_toArray, List.getElem?_cons_zero, List.getElem?_cons_succ, Bool.not_true, Bool.not_false, nA1, u2, u3, u4, u5, da, ld3, xN, db, fa25_0, fa25_1, x0, x1, d1, d2, d3, d4, s3]; done))))) ?_)
    | (refine Wc.quiet (by kernel_rfl) (by repeat' (first
      | with_reducible exact QO.nil
      | ((with_reducible apply QO.cons rfl rfl); (focus ((first | simp (config := {decide := true}) only [awant, ayield_get, oper1, aop, opv, opvs, opvo, opvp, abuiltin, Ac.get_put, Ac.put_n, Ac.put_defers, if_true, if_false, and_true, decide_true, abin, isShift, aint, roV, pair, bind, Option.bind, acall, List.nil_append, List.append_nil, List.toList_toArray, List.getElem?_cons_zero, List.getElem?_cons_succ, Bool.not_true, Bool.not_false, nA1, u2, u3, u4, u5, da, ld3, xN, db, fa25_0, fa25_1, x0, x1, d1, d2, d3, d4, s3] | skip); with_reducible rfl))))) ?_)
    | (refine Wc.cond2 (by simp (config := {decide := true}) only [awant, ayield_get, oper1, aop, opv, opvs, opvo, opvp, abuiltin, Ac.get_put, Ac.put_n, Ac.put_defers, if_true, if_false, and_true, decide_true, abin, isShift, aint, roV, pair, bind, Option.bind, acall, List.nil_append, List.append_nil, List.toList_toArray, List.getElem?_cons_zero, List.getElem?_cons_succ, Bool.not_true, Bool.not_false, nA1, u2, u3, u4, u5, da, ld3, xN, db, fa25_0, fa25_1, x0, x1, d1, d2, d3, d4, s3]; try with_reducible rfl) (fun hb => ?_) (fun hb => ?_) <;> try contradiction)
    | refine Wc.skip ?_
    | refine Wc.ret ?_
    | refine Wc.exit ?_
    | refine Wc.block ?_)
    exact ⟨r3, z1, .inr ⟨rfl, rfl, z2, z3⟩⟩
  have d4 : decide (m > 1099511627776) = false := by simpa using q4
  have no : ¬ (k < 1 ∨ k > 63 ∨ m < 0 ∨ m > 1099511627776) := by omega
  by_cases q5 : (tx.data.toList.length : Int) > 4096
  · have e : stepC lv (.mk k m tx ks) (c, 0) = ((c, 11), false) := by simp only [stepC, if_neg a, if_neg b, if_neg no, if_pos q5]
    rw [e]
    have d5 : decide ((tx.data.toList.length : Int) > 4096) = true := by simpa using q5
    repeat' (first
    | (with_reducible apply Wc.seq)
    | (refine Wc.ops (by repeat' (first
      | with_reducible exact RO.nil
      | ((with_reducible apply RO.run (awant_none rfl)); (focus ((first | simp (config := {decide := true}) only [awant, ayield_get, oper1, aop, opv, opvs, opvo, opvp, abuiltin, Ac.get_put, Ac.put_n, Ac.put_defers, if_true, if_false, and_true, decide_true, abin, isShift, aint, roV, pair, bind, Option.bind, acall, List.nil_append, List.append_nil, List.toList_toArray, List.getElem?_cons_zero, List.getElem?_cons_succ, Bool.not_true, Bool.not_false, nA1, u2, u3, u4, u5, da, ld3, ld9, xN, db, fa25_0, fa25_1, fa25_2, x0, x1, x2, d1, d2, d3, d4, len9, d5, s11] | skip); with_reducible rfl)))
      | ((with_reducible apply RO.runG); (focus rfl); (focus rfl); (focus (simp (config := {decide := true}) only [awant, ayield_get, oper1, aop, opv, opvs, opvo, opvp, abuiltin, Ac.get_put, Ac.put_n, Ac.put_defers, if_true, if_false, and_true, decide_true, abin, isShift, aint, roV, pair, bind, Option.bind, acall, List.nil_append, List.append_nil, List.toList_toArray, List.getElem?_cons_zero, List.getElem?_cons_succ, Bool.not_true, Bool.not_false, nA1, u2, u3, u4, u5, da, ld3, ld9, xN, db, fa25_0, fa25_1, fa25_2, x0, x1, x2, d1, d2, d3, d4, len9, d5, s11]; done)); (focus ((first | simp (config := {decide := true}) only [awant, ayield_get, oper1, aop, opv, opvs, opvo, opvp, abuiltin, Ac.get_put, Ac.put_n, Ac.put_defers, if_true, if_false, and_true, decide_true, abin, isShift, aint, roV, pair, bind, Option.bind, acall, List.nil_append, List.append_nil, List.toList_toArray, List.getElem?_cons_zero, List.getElem?_cons_succ, Bool.not_true, Bool.not_false, nA1, u2, u3, u4, u5, da, ld3, ld9, xN, db, fa25_0, fa25_1, fa25_2, x0, x1, x2, d1, d2, d3, d4, len9, d5, s11] | skip); with_reducible rfl)))
      | ((with_reducible apply RO.skipG); (focus rfl); (focus rfl); (focus (simp (config := {decide := true}) only [awant, ayield_get, oper1, aop, opv, opvs, opvo, opvp, abuiltin, Ac.get_put, Ac.put_n, Ac.put_defers, if_true, if_false, and_true, decide_true, abin, isShift, aint, roV, pair, bind, Option.bind, acall, List.nil_append, List.append_nil, List.toList_toArray, List.getElem?_cons_zero, List.getElem?_cons_succ, Bool.not_true, Bool.not_false, nA1, u2, u3, u4, u5, da, ld3, ld9, xN, db, fa25_0, fa25_1, fa25_2, x0, x1, x2, d1, d2, d3, d4, len9, d5, s11]; done))))) ?_)
    | (refine Wc.quiet (by kernel_rfl) (by repeat' (first
      | with_reducible exact QO.nil
      | ((with_reducible apply QO.cons rfl rfl); (focus ((first | simp (config := {decide := true}) only [awant, ayield_get, oper1, aop, opv, opvs, opvo, opvp, abuiltin, Ac.get_put, Ac.put_n, Ac.put_defers, if_true, if_false, and_true, decide_true, abin, isShift, aint, roV, pair, bind, Option.bind, acall, List.nil_append, List.append_nil, List.toList_toArray, List.getElem?_cons_zero, List.getElem?_cons_succ, Bool.not_true, Bool.not_false, nA1, u2, u3, u4, u5, da, ld3, ld9, xN, db, fa25_0, fa25_1, fa25_2, x0, x1, x2, d1, d2, d3, d4, len9, d5, s11] | skip); with_reducible rfl))))) ?_)
    | (refine Wc.cond2 (by simp (config := {decide := true}) only [awant, ayield_get, oper1, aop, opv, opvs, opvo, opvp, abuiltin, Ac.get_put, Ac.put_n, Ac.put_defers, if_true, if_false, and_true, decide_true, abin, isShift, aint, roV, pair, bind, Option.bind, acall, List.nil_append, List.append_nil, List.toList_toArray, List.getElem?_cons_zero, List.getElem?_cons_succ, Bool.not_true, Bool.not_false, nA1, u2, u3, u4, u5, da, ld3, ld9, xN, db, fa25_0, fa25_1, fa25_2, x0, x1, x2, d1, d2, d3, d4, len9, d5, s11]; try with_reducible rfl) (fun hb => ?_) (fun hb => ?_) <;> try contradiction)
    | refine Wc.skip ?_
    | refine Wc.ret ?_
    | refine Wc.exit ?_
    | refine Wc.block ?_)
    obtain ⟨r2, z1, z2, z3⟩ := finF 11
    exact ⟨r2, z1, .inr ⟨rfl, rfl, z2, z3⟩⟩
  have d5 : decide ((tx.data.toList.length : Int) > 4096) = false := by simpa using q5
  have e : stepC lv (.mk k m tx ks) (c, 0) = ((c + 1, 0), true) := by simp only [stepC, if_neg a, if_neg b, if_neg no, if_neg q5]
  rw [e]
  repeat' (first
    | (with_reducible apply Wc.seq)
    | (refine Wc.ops (by repeat' (first
      | with_reducible exact RO.nil
      | ((with_reducible apply RO.run (awant_none rfl)); (focus ((first | simp (config := {decide := true}) only [awant, ayield_get, oper1, aop, opv, opvs, opvo, opvp, abuiltin, Ac.get_put, Ac.put_n, Ac.put_defers, if_true, if_false, and_true, decide_true, abin, isShift, aint, roV, pair, bind, Option.bind, acall, List.nil_append, List.append_nil, List.toList_toArray, List.getElem?_cons_zero, List.getElem?_cons_succ, Bool.not_true, Bool.not_false, nA1, u2, u3, u4, u5, da, ld3, ld9, xN, db, fa25_0, fa25_1, fa25_2, x0, x1, x2, d1, d2, d3, d4, len9, d5, w1, sN] | skip); with_reducible rfl)))
      | ((with_reducible apply RO.runG); (focus rfl); (focus rfl); (focus (simp (config := {decide := true}) only [awant, ayield_get, oper1, aop, opv, opvs, opvo, opvp, abuiltin, Ac.get_put, Ac.put_n, Ac.put_defers, if_true, if_false, and_true, decide_true, abin, isShift, aint, roV, pair, bind, Option.bind, acall, List.nil_append, List.append_nil, List.toList_toArray, List.getElem?_cons_zero, List.getElem?_cons_succ, Bool.not_true, Bool.not_false, nA1, u2, u3, u4, u5, da, ld3, ld9, xN, db, fa25_0, fa25_1, fa25_2, x0, x1, x2, d1, d2, d3, d4, len9, d5, w1, sN]; done)); (focus ((first | simp (config := {decide := true}) only [awant, ayield_get, oper1, aop, opv, opvs, opvo, opvp, abuiltin, Ac.get_put, Ac.put_n, Ac.put_defers, if_true, if_false, and_true, decide_true, abin, isShift, aint, roV, pair, bind, Option.bind, acall, List.nil_append, List.append_nil, List.toList_toArray, List.getElem?_cons_zero, List.getElem?_cons_succ, Bool.not_true, Bool.not_false, nA1, u2, u3, u4, u5, da, ld3, ld9, xN, db, fa25_0, fa25_1, fa25_2, x0, x1, x2, d1, d2, d3, d4, len9, d5, w1, sN] | skip); with_reducible rfl)))
      | ((with_reducible apply RO.skipG); (focus rfl); (focus rfl); (focus (simp (config := {decide := true}) only [awant, ayield_get, oper1, aop, opv, opvs, opvo, opvp, abuiltin, Ac.get_put, Ac.put_n, Ac.put_defers, if_true, if_false, and_true, decide_true, abin, isShift, aint, roV, pair, bind, Option.bind, acall, List.nil_append, List.append_nil, List.toList_toArray, List.getElem?_cons_zero, List.getElem?_cons_succ, Bool.not_true, Bool.not_false, nA1, u2, u3, u4, u5, da, ld3, ld9, xN, db, fa25_0, fa25_1, fa25_2, x0, x1, x2, d1, d2, d3, d4, len9, d5, w1, sN]; done))))) ?_)
    | (refine Wc.quiet (by kernel_rfl) (by repeat' (first
      | with_reducible exact QO.nil
      | ((with_reducible apply QO.cons rfl rfl); (focus ((first | simp (config := {decide := true}) only [awant, ayield_get, oper1, aop, opv, opvs, opvo, opvp, abuiltin, Ac.get_put, Ac.put_n, Ac.put_defers, if_true, if_false, and_true, decide_true, abin, isShift, aint, roV, pair, bind, Option.bind, acall, List.nil_append, List.append_nil, List.toList_toArray, List.getElem?_cons_zero, List.getElem?_cons_succ, Bool.not_true, Bool.not_false, nA1, u2, u3, u4, u5, da, ld3, ld9, xN, db, fa25_0, fa25_1, fa25_2, x0, x1, x2, d1, d2, d3, d4, len9, d5, w1, sN] | skip); with_reducible rfl))))) ?_)
    | (refine Wc.cond2 (by simp (config := {decide := true}) only [awant, ayield_get, oper1, aop, opv, opvs, opvo, opvp, abuiltin, Ac.get_put, Ac.put_n, Ac.put_defers, if_true, if_false, and_true, decide_true, abin, isShift, aint, roV, pair, bind, Option.bind, acall, List.nil_append, List.append_nil, List.toList_toArray, List.getElem?_cons_zero, List.getElem?_cons_succ, Bool.not_true, Bool.not_false, nA1, u2, u3, u4, u5, da, ld3, ld9, xN, db, fa25_0, fa25_1, fa25_2, x0, x1, x2, d1, d2, d3, d4, len9, d5, w1, sN]; try with_reducible rfl) (fun hb => ?_) (fun hb => ?_) <;> try contradiction)
    | refine Wc.skip ?_
    | refine Wc.ret ?_
    | refine Wc.exit ?_
    | refine Wc.block ?_)
  obtain ⟨r2, z1, z2, z3⟩ := finT (by omega)
  exact ⟨r2, z1, .inl ⟨rfl, rfl, z2, z3⟩⟩
end Go.Proofs.YtofijpbmbmbnhaaDoor
