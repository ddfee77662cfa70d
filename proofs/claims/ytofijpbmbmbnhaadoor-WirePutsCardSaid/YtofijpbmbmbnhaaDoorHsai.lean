/- The items in an item are visited. -/
import Derived.Test.YtofijpbmbmbnhaaDoorHsah
set_option linter.unusedSimpArgs false
set_option linter.unusedVariables false
set_option maxRecDepth 100000
set_option maxHeartbeats 4000000
namespace Go.Proofs.YtofijpbmbmbnhaaDoor
open Go Go.Hs Go.Proofs
variable {E : Env}
theorem ty163 : tab.ty.get 163 = some ⟨.func, 1, 8, some .nilFunc, true⟩ := by kernel_rfl
theorem fn70 : tab.fn.get 70 = some Tryd.f70 := by kernel_rfl
theorem fn109 : tab.fn.get 109 = some Tryd.f109 := by kernel_rfl
theorem fn110 : tab.fn.get 110 = some Tryd.f110 := by kernel_rfl
theorem ld163 (a : Addr) {h : H} : aload tab E 163 a h = h.cell E a := by unfold aload; rw [ty163]; rfl
theorem tz163 : tzero tab 163 = some .nilFunc := by unfold tzero; rw [ty163]
theorem st25 {k : Nat} {ty : TypeId} {x0 x1 x2 x3 a b c d : Value} {g : H} (hb : g.blk k = some (.cells [x0, x1, x2, x3] ty none)) (h1 : [a, b, c, d].all isOne = true) (hm : g.mark ≤ k) : astore tab 25 (own k) (.agg ⟨[a, b, c, d]⟩) g = some (g.setb k (.cells [a, b, c, d] ty none)) := by
  unfold astore
  rw [ty25]
  exact put_own hb (by simp [Value.cells]) rfl h1 hm
structure Vis {σ : Type} (E : Env) (J : Known) (step : Int → Hs.Item → σ → σ × Bool) (hE : H) (l k2 k3 : Nat) (M : Nat → Prop) (Iv : Bool → σ → H → Prop) : Prop where
  fit : ∀ {s g}, Iv true s g → Fit g
  grow : ∀ {s g}, Iv true s g → Grows hE g
  b2 : ∀ {s g}, Iv true s g → g.blk k2 = some (.cells [.func (.yield l) ⟨[]⟩ ⟨[]⟩] 163 none)
  b3 : ∀ {s g}, Iv true s g → g.blk k3 = some (.cells [.func (.func 110) ⟨[]⟩ ⟨[.pointer (some (own k2)), .pointer (some (own k3))]⟩] 163 none)
  ahd : ∀ {s g g'}, Iv true s g → Ahd g g' → Iv true s g'
  low : ∀ {s g}, Iv true s g → ∀ k, g.next ≤ k → ¬ M k
  round : ∀ {s g lv t xv}, Iv true s g → 1 ≤ lv → lv ≤ 2000000000 → rep E hE t xv → ∃ n v g', (ev tab E J n).round l [.int .i64 lv, xv] g = some (v, g') ∧ (v = .bool (step lv t s).2 ∧ Iv (step lv t s).2 (step lv t s).1 g' ∧ Keep M g g')
noncomputable def loop110 : Code := loopOf Tryd.f110
theorem visit110 {σ : Type} {J : Known} {step : Int → Hs.Item → σ → σ × Bool} {hE : H} {l k2 k3 : Nat} {M : Nat → Prop} {Iv : Bool → σ → H → Prop} (hJ : ∀ args h, J 110 args h = none) (V : Vis E J step hE l k2 k3 M Iv) :
    ∀ (z : Nat) (t : Hs.Item) (xv : Value) (lv : Int) (s : σ) (g : H), isz t ≤ z → isz t ≤ 1000000 → rep E hE t xv → 1 ≤ lv → lv + isz t ≤ 2000000000 → Iv true s g →
      ∃ n v g', (ev tab E J n).call 110 [.int .i64 lv, xv, .pointer (some (own k2)), .pointer (some (own k3))] g = some (v, g') ∧ (v = .bool (visit step lv t s).2 ∧ Iv (visit step lv t s).2 (visit step lv t s).1 g' ∧ Keep M g g') := by
  intro z
  induction z with
  | zero => intro t xv lv s g hz; obtain ⟨k, m, tx, ks⟩ := t; rw [isz] at hz; omega
  | succ z IH =>
  intro t xv lv s g hz hz6 hr hlv1 hlv2 iv
  obtain ⟨k, m, tx, ks⟩ := t
  have hr0 := hr
  obtain ⟨sb, sc, rfl, hs⟩ := rep_slice hr
  have hlen : ks.length ≤ 1000000 := by
    rw [isz] at hz6
    have : ∀ l : List Hs.Item, l.length ≤ iszL l := by
      intro l
      induction l with
      | nil => simp [iszL]
      | cons x l ih => rw [iszL, List.length_cons]; obtain ⟨a, b, c, d⟩ := x; rw [isz]; omega
    have := this ks
    omega
  refine Wc.call (hJ _ _) fn110 rfl ?_
  generalize hA0 : (⟨T.ofList [.int .i64 lv, .agg ⟨[.int .i64 k, .int .i64 m, .string tx, .slice sb ks.length sc]⟩, .pointer (some (own k2)), .pointer (some (own k3))] 0 .nil, max ([.int .i64 lv, .agg ⟨[.int .i64 k, .int .i64 m, .string tx, .slice sb ks.length sc]⟩, .pointer (some (own k2)), .pointer (some (own k3))] : List Value).length Tryd.f110.ntmps, []⟩ : Ac) = A0
  have n0 : A0.n = 28 := by rw [← hA0]; rfl
  have g00 : A0.get 0 = .int .i64 lv := by rw [← hA0]; rfl
  have g01 : A0.get 1 = .agg ⟨[.int .i64 k, .int .i64 m, .string tx, .slice sb ks.length sc]⟩ := by rw [← hA0]; rfl
  have g02 : A0.get 2 = .pointer (some (own k2)) := by rw [← hA0]; rfl
  have g03 : A0.get 3 = .pointer (some (own k3)) := by rw [← hA0]; rfl
  have d0 : A0.defers = [] := by rw [← hA0]
  have hfit := V.fit iv
  apply Wc.seq
  refine Wc.ops (by repeat' (first | with_reducible exact RO.nil | ((with_reducible apply RO.run (awant_none rfl)); (focus ((first | simp +decide only [awant, ayield_get, oper1, aop, opv, opvs, opvo, opvp, abuiltin, aun, Ac.get_put, abin, isShift, aint, roV, pair, bind, Option.bind, acall, Sx, n0, g00, g01, g02, g03] | skip); with_reducible rfl))))) ?_
  generalize hh1 : g.new (.cells (Value.agg ⟨[.int .i64 k, .int .i64 m, .string tx, .slice sb ks.length sc]⟩).cells.toList 25 none) = h1
  have a1 : Ahd g h1 := by rw [← hh1]; exact Ahd.new0 hfit rfl
  have b1 : h1.blk g.next = some (.cells [.int .i64 k, .int .i64 m, .string tx, .slice sb ks.length sc] 25 none) := by rw [← hh1]; exact new_blk_new rfl
  clear hh1
  have iv1 := V.ahd iv a1
  have cl2 : h1.cell E (own k2) = some (.func (.yield l) ⟨[]⟩ ⟨[]⟩) := blk_cell0 (V.b2 iv1) rfl
  have cl5 : h1.cells E (own g.next) 4 = some [.int .i64 k, .int .i64 m, .string tx, .slice sb ks.length sc] := blk_cells b1 rfl rfl
  obtain ⟨nr, v1, g2, hround, rfl, iv2, kp2⟩ := V.round iv1 hlv1 (by omega) hr0
  have kp : Keep M g g2 := a1.keep.trans kp2
  have b2 : g2.blk g.next = some (.cells [.int .i64 k, .int .i64 m, .string tx, .slice sb ks.length sc] 25 none) := kp2.blk _ _ (V.low iv _ (Nat.le_refl _)) b1
  cases hst : step lv (.mk k m tx ks) s with
  | mk s1 b =>
  rw [hst] at iv2 hround
  cases b with
  | false =>
    rw [visit_false hst]
    repeat' (first | (with_reducible apply Wc.seq) | (apply Wc.opsN nr; (focus ((repeat' (first | with_reducible exact RO.nil | ((with_reducible apply RO.run (awant_none rfl)); (focus ((first | simp +decide only [awant, ayield_get, oper1, aop, opv, opvs, opvo, opvp, abuiltin, aun, Ac.get_put, abin, isShift, aint, roV, pair, bind, Option.bind, acall, Sx, n0, d0, g00, g01, g02, g03, ld163, cl2, ld25, cl5, hround, aun] | skip); with_reducible rfl))))); done))) | (refine Wc.cond2 (by simp +decide only [opv, Ac.get_put, Sx, n0, d0, g00, g01, g02, g03, ld163, cl2, ld25, cl5, hround, aun]; try with_reducible rfl) (fun hb => ?_) (fun hb => ?_) <;> try contradiction) | refine Wc.skip ?_ | refine Wc.ret ?_ | refine Wc.exit ?_ | refine Wc.block ?_)
    refine done_q (v := .bool false) (.inr rfl) (by simp +decide only [Ac.get_put, Sx, d0]) rfl (by simp +decide only [Ac.get_put, Sx, n0]) ⟨rfl, iv2, kp⟩
  | true =>
    rw [visit_true hst]
    have key : ∀ (r i : Nat) (s' : σ) (A : Ac) (g' : H), r = ks.length - i → i ≤ ks.length → A.n = 28 → A.defers = [] → A.get 0 = .int .i64 lv → A.get 3 = .pointer (some (own k3)) → A.get 15 = .slice sb ks.length sc → A.get 16 = .int .i64 (ks.length : Nat) → A.get 17 = .int .i64 (i : Nat) →
        Iv true s' g' → visitL step (lv + 1) ks s1 = visitL step (lv + 1) (ks.drop i) s' → Keep M g g' →
        Wc tab E J ⟨110, none⟩ (.loop loop110) A g' (fun ex A' g'' => A'.n = 28 ∧ A'.defers = [] ∧ Keep M g g'' ∧ Iv (visitL step (lv + 1) ks s1).2 (visitL step (lv + 1) ks s1).1 g'' ∧ ((ex = .exit 0 ∧ (visitL step (lv + 1) ks s1).2 = true) ∨ (ex = .ret ∧ A'.get 6 = .bool false ∧ (visitL step (lv + 1) ks s1).2 = false))) := by
      intro r
      induction r with
      | zero =>
        intro i s' A g' hr' hi nA dA p0 p3 p15 p16 p17 iv' hvis kp'
        have hil : i = ks.length := by omega
        have hlt : decide ((i : Int) < (ks.length : Int)) = false := by simp; omega
        rw [hil, List.drop_length, visitL] at hvis
        rw [hvis]
        apply Wc.loop
        simp only [loop110, loopOf, firstLoop, Option.getD, Tryd.f110]
        repeat' (first | (with_reducible apply Wc.seq) | (apply Wc.ops; (focus ((repeat' (first | with_reducible exact RO.nil | ((with_reducible apply RO.run (awant_none rfl)); (focus ((first | simp +decide only [awant, ayield_get, oper1, aop, opv, opvs, opvo, opvp, abuiltin, aun, Ac.get_put, abin, isShift, aint, roV, pair, bind, Option.bind, acall, Sx, nA, p0, p3, p15, p16, p17, hlt] | skip); with_reducible rfl))))); done))) | (refine Wc.cond2 (by simp +decide only [opv, Ac.get_put, Sx, nA, p0, p3, p15, p16, p17, hlt]; try with_reducible rfl) (fun hb => ?_) (fun hb => ?_) <;> try contradiction) | refine Wc.skip ?_ | refine Wc.ret ?_ | refine Wc.exit ?_ | refine Wc.block ?_)
        exact ⟨by simp +decide only [Ac.get_put, Sx, nA], by simp +decide only [Ac.get_put, Sx, dA], kp', iv', .inl ⟨rfl, by simp⟩⟩
      | succ r ih =>
        intro i s' A g' hr' hi nA dA p0 p3 p15 p16 p17 iv' hvis kp'
        have hil : i < ks.length := by omega
        have hlt : decide ((i : Int) < (ks.length : Int)) = true := by simp; omega
        have hks : ks.drop i = ks[i] :: ks.drop (i + 1) := List.drop_eq_getElem_cons hil
        rw [hks] at hvis
        rcases hs with hk0 | ⟨a, cs, he, hlc, hcs, hrl⟩
        · rw [hk0] at hil; simp at hil
        subst he
        have hfit' := V.fit iv'
        have hcs1 := cells_grow (V.grow iv') hcs
        obtain ⟨hl4, hrk⟩ := repL_get i hrl (List.getElem?_eq_getElem hil)
        have hsub := cells_sub hcs1 (m := i * 4) (l := 4) (by omega)
        have hmem : ks[i] ∈ ks := List.getElem_mem hil
        have hkz := isz_kid (k := k) (n := m) (t := tx) hmem
        have hq : ∃ q0 q1 q2 q3, (cs.drop (i * 4)).take 4 = [q0, q1, q2, q3] ∧ [q0, q1, q2, q3].all isOne = true := by
          generalize hki : ks[i] = ki at hrk
          obtain ⟨k', m', tx', ks'⟩ := ki
          obtain ⟨sb', sc', e, _⟩ := rep_slice hrk
          simp only [Value.agg.injEq, Array.mk.injEq] at e
          exact ⟨_, _, _, _, e, rfl⟩
        obtain ⟨q0, q1, q2, q3, hq, hone⟩ := hq
        rw [hq] at hsub hrk
        have hir : inRange (i : Int) ks.length = true := by
          show Nat.blt i ks.length = true
          rw [Nat.blt_eq]; exact hil
        have w3 : IntKind.i64.wrap ((i : Int) + 1) = (i : Int) + 1 := wrap64 (by omega) (by omega)
        have wl : IntKind.i64.wrap (lv + 1) = lv + 1 := wrap64 (by omega) (by omega)
        generalize hh3 : g'.new (.cells (Value.agg #[.int .i64 0, .int .i64 0, .string ⟨#[]⟩, .slice none 0 0]).cells.toList 25 none) = h3
        have a3 : Ahd g' h3 := by rw [← hh3]; exact Ahd.new0 hfit' rfl
        have c3 : h3.blk g'.next = some (.cells [.int .i64 0, .int .i64 0, .string ⟨#[]⟩, .slice none 0 0] 25 none) := by rw [← hh3]; exact new_blk_new rfl
        have hn3 : h3.next = g'.next + 1 := by rw [← hh3]; rfl
        have hst3 := st25 (a := q0) (b := q1) (c := q2) (d := q3) c3 hone (by rw [a3.mark]; exact hfit'.ok.2)
        generalize hh4 : h3.setb g'.next (.cells [q0, q1, q2, q3] 25 none) = h4 at hst3
        have a4 : Ahd g' h4 := by rw [← hh4]; exact a3.setb rfl (Nat.le_refl _) (by omega) hfit'
        have c4 : h4.blk g'.next = some (.cells [q0, q1, q2, q3] 25 none) := by rw [← hh4]; exact setb_same rfl
        have iv4 := V.ahd iv' a4
        have cl3 : h4.cell E (own k3) = some (.func (.func 110) ⟨[]⟩ ⟨[.pointer (some (own k2)), .pointer (some (own k3))]⟩) := blk_cell0 (V.b3 iv4) rfl
        have cl4 : h4.cells E (own g'.next) 4 = some [q0, q1, q2, q3] := blk_cells c4 rfl hone
        obtain ⟨nf, v', g5, hcall, rfl, iv5, kp5⟩ := IH ks[i] _ (lv + 1) s' h4 (by omega) (by omega) hrk (by omega) (by omega) iv4
        have kpT : Keep M g g5 := (kp'.ahd a4).trans kp5
        cases hvi : visit step (lv + 1) ks[i] s' with
        | mk s2 b =>
        rw [hvi] at iv5 hcall
        apply Wc.loop
        simp only [loop110, loopOf, firstLoop, Option.getD, Tryd.f110]
        cases b with
        | false =>
          rw [visitL_false hvi] at hvis
          rw [hvis]
          repeat' (first | (with_reducible apply Wc.seq) | (apply Wc.opsN nf; (focus ((repeat' (first | with_reducible exact RO.nil | ((with_reducible apply RO.run (awant_none rfl)); (focus ((first | simp +decide only [awant, ayield_get, oper1, aop, opv, opvs, opvo, opvp, abuiltin, aun, Ac.get_put, abin, isShift, aint, roV, pair, bind, Option.bind, acall, Sx, nA, p0, p3, p15, p16, p17, hlt, ia23 _ _ _ _ hir, Int.toNat_natCast, ld25, hsub, tz25, hh3, hst3, ld163, cl3, cl4, List.cons_append, hcall, wl, w3, aun] | skip); with_reducible rfl))))); done))) | (refine Wc.cond2 (by simp +decide only [opv, Ac.get_put, Sx, nA, p0, p3, p15, p16, p17, hlt, ia23 _ _ _ _ hir, Int.toNat_natCast, ld25, hsub, tz25, hh3, hst3, ld163, cl3, cl4, List.cons_append, hcall, wl, w3, aun]; try with_reducible rfl) (fun hb => ?_) (fun hb => ?_) <;> try contradiction) | refine Wc.skip ?_ | refine Wc.ret ?_ | refine Wc.exit ?_ | refine Wc.block ?_)
          exact ⟨by simp +decide only [Ac.get_put, Sx, nA], by simp +decide only [Ac.get_put, Sx, dA], kpT, iv5, .inr ⟨rfl, by simp +decide only [Ac.get_put, Sx, nA], rfl⟩⟩
        | true =>
          rw [visitL_true hvi] at hvis
          repeat' (first | (with_reducible apply Wc.seq) | (apply Wc.opsN nf; (focus ((repeat' (first | with_reducible exact RO.nil | ((with_reducible apply RO.run (awant_none rfl)); (focus ((first | simp +decide only [awant, ayield_get, oper1, aop, opv, opvs, opvo, opvp, abuiltin, aun, Ac.get_put, abin, isShift, aint, roV, pair, bind, Option.bind, acall, Sx, nA, p0, p3, p15, p16, p17, hlt, ia23 _ _ _ _ hir, Int.toNat_natCast, ld25, hsub, tz25, hh3, hst3, ld163, cl3, cl4, List.cons_append, hcall, wl, w3, aun] | skip); with_reducible rfl))))); done))) | (refine Wc.cond2 (by simp +decide only [opv, Ac.get_put, Sx, nA, p0, p3, p15, p16, p17, hlt, ia23 _ _ _ _ hir, Int.toNat_natCast, ld25, hsub, tz25, hh3, hst3, ld163, cl3, cl4, List.cons_append, hcall, wl, w3, aun]; try with_reducible rfl) (fun hb => ?_) (fun hb => ?_) <;> try contradiction) | refine Wc.skip ?_ | refine Wc.ret ?_ | refine Wc.exit ?_ | refine Wc.block ?_)
          refine (ih (i + 1) s2 _ g5 (by omega) (by omega) ?_ ?_ ?_ ?_ ?_ ?_ ?_ iv5 hvis kpT).mono ?_
          · simp +decide only [Ac.get_put, Sx, nA]
          · simp +decide only [Ac.get_put, Sx, dA]
          · simp +decide only [Ac.get_put, Sx, nA, p0]
          · simp +decide only [Ac.get_put, Sx, nA, p3]
          · simp +decide only [Ac.get_put, Sx, nA, p15]
          · simp +decide only [Ac.get_put, Sx, nA, p16]
          · simp +decide only [Ac.get_put, Sx, nA]
            rfl
          · rintro ex A' h' ⟨e1, e2, e3, e4, ⟨rfl, e5⟩ | ⟨rfl, e5⟩⟩
            · exact ⟨e1, e2, e3, e4, .inl ⟨rfl, e5⟩⟩
            · exact ⟨e1, e2, e3, e4, .inr ⟨rfl, e5⟩⟩
    have hc3 : g2.cell E (aadd (own g.next) 3) = some (.slice sb ks.length sc) := blk_cell (i := 3) b2 rfl rfl
    repeat' (first | (with_reducible apply Wc.seq) | (apply Wc.opsN nr; (focus ((repeat' (first | with_reducible exact RO.nil | ((with_reducible apply RO.run (awant_none rfl)); (focus ((first | simp +decide only [awant, ayield_get, oper1, aop, opv, opvs, opvo, opvp, abuiltin, aun, Ac.get_put, abin, isShift, aint, roV, pair, bind, Option.bind, acall, Sx, n0, d0, g00, g01, g02, g03, ld163, cl2, ld25, cl5, hround, aun, fa25_3, ld23, hc3, len23] | skip); with_reducible rfl))))); done))) | (refine Wc.cond2 (by simp +decide only [opv, Ac.get_put, Sx, n0, d0, g00, g01, g02, g03, ld163, cl2, ld25, cl5, hround, aun, fa25_3, ld23, hc3, len23]; try with_reducible rfl) (fun hb => ?_) (fun hb => ?_) <;> try contradiction) | refine Wc.skip ?_ | refine Wc.ret ?_ | refine Wc.exit ?_ | refine Wc.block ?_)
    refine (key ks.length 0 s1 _ g2 rfl (Nat.zero_le _) ?_ ?_ ?_ ?_ ?_ ?_ ?_ iv2 rfl kp).mono ?_
    · simp +decide only [Ac.get_put, Sx, n0]
    · simp +decide only [Ac.get_put, Sx, d0]
    · simp +decide only [Ac.get_put, Sx, n0, g00]
    · simp +decide only [Ac.get_put, Sx, n0, g03]
    · simp +decide only [Ac.get_put, Sx, n0]
    · simp +decide only [Ac.get_put, Sx, n0]
    · simp +decide only [Ac.get_put, Sx, n0]
      rfl
    · rintro ex A' g' ⟨e1, e2, e3, e4, ⟨rfl, e5⟩ | ⟨rfl, e5, e6⟩⟩
      · simp only [if_true]
        repeat' (first | (with_reducible apply Wc.seq) | (apply Wc.ops; (focus ((repeat' (first | with_reducible exact RO.nil | ((with_reducible apply RO.run (awant_none rfl)); (focus ((first | simp +decide only [awant, ayield_get, oper1, aop, opv, opvs, opvo, opvp, abuiltin, aun, Ac.get_put, abin, isShift, aint, roV, pair, bind, Option.bind, acall, Sx, e1] | skip); with_reducible rfl))))); done))) | (refine Wc.cond2 (by simp +decide only [opv, Ac.get_put, Sx, e1]; try with_reducible rfl) (fun hb => ?_) (fun hb => ?_) <;> try contradiction) | refine Wc.skip ?_ | refine Wc.ret ?_ | refine Wc.exit ?_ | refine Wc.block ?_)
        refine done_q (v := .bool true) (.inr rfl) (by simp +decide only [Ac.get_put, Sx, e2]) rfl (by simp +decide only [Ac.get_put, Sx, e1]) ⟨by rw [e5], e4, e3⟩
      · exact done_q (v := .bool false) (.inr rfl) e2 rfl e5 ⟨by rw [e6], e4, e3⟩
end Go.Proofs.YtofijpbmbmbnhaaDoor
/- Is an item right? As the program tells it. -/
set_option maxRecDepth 100000
set_option maxHeartbeats 4000000
namespace Go.Proofs.YtofijpbmbmbnhaaDoor
open Go Go.Hs Go.Proofs
variable {E : Env}
theorem st163 {k : Nat} {ty : TypeId} {x y : Value} {g : H} (hb : g.blk k = some (.cells [x] ty none)) (h1 : isOne y = true) (hm : g.mark ≤ k) : astore tab 163 (own k) y g = some (g.setb k (.cells [y] ty none)) := by
  unfold astore
  rw [ty163, isOne_cells h1]
  exact put_own hb (by simp) rfl (by simp [h1]) hm
theorem st3 {k : Nat} {ty : TypeId} {x : Value} {i : Int} {g : H} (hb : g.blk k = some (.cells [x] ty none)) (hm : g.mark ≤ k) : astore tab 3 (own k) (.int .i64 i) g = some (g.setb k (.cells [.int .i64 i] ty none)) := by
  unfold astore
  rw [ty3]
  exact put_own hb (by simp [Value.cells]) rfl rfl hm
theorem st26 {k : Nat} {ty : TypeId} {x : Value} {i : Int} {g : H} (hb : g.blk k = some (.cells [x] ty none)) (hm : g.mark ≤ k) : astore tab 26 (own k) (.int .i64 i) g = some (g.setb k (.cells [.int .i64 i] ty none)) := by
  unfold astore
  rw [ty26]
  exact put_own hb (by simp [Value.cells]) rfl rfl hm
theorem tz26 : tzero tab 26 = some (.int .i64 0) := by unfold tzero; rw [ty26]
theorem ld26 (a : Addr) {h : H} : aload tab E 26 a h = h.cell E a := by unfold aload; rw [ty26]; rfl
theorem call70 {J : Known} (hJ : ∀ args h, J 70 args h = none) {a b c d : Value} (g : H) :
    ∃ n v g', (ev tab E J n).call 70 [.agg ⟨[a, b, c, d]⟩] g = some (v, g') ∧ (v = .func (.func 109) ⟨[]⟩ ⟨[.pointer (some (own g.next))]⟩ ∧ g' = g.new (.cells [a, b, c, d] 25 none)) := by
  refine Wc.call (hJ _ _) fn70 rfl ?_
  generalize hA0 : (⟨T.ofList [.agg ⟨[a, b, c, d]⟩] 0 .nil, max ([.agg ⟨[a, b, c, d]⟩] : List Value).length Tryd.f70.ntmps, []⟩ : Ac) = A0
  have n0 : A0.n = 4 := by rw [← hA0]; rfl
  have g00 : A0.get 0 = .agg ⟨[a, b, c, d]⟩ := by rw [← hA0]; rfl
  have d0 : A0.defers = [] := by rw [← hA0]
  repeat' (first | (with_reducible apply Wc.seq) | (apply Wc.ops; (focus ((repeat' (first | with_reducible exact RO.nil | ((with_reducible apply RO.run (awant_none rfl)); (focus ((first | simp +decide only [awant, ayield_get, oper1, aop, opv, opvs, opvo, opvp, abuiltin, aun, Ac.get_put, abin, isShift, aint, roV, pair, bind, Option.bind, acall, Sx, n0, d0, g00, roF] | skip); with_reducible rfl))))); done))) | (refine Wc.cond2 (by simp +decide only [opv, Ac.get_put, Sx, n0, d0, g00, roF]; try with_reducible rfl) (fun hb => ?_) (fun hb => ?_) <;> try contradiction) | refine Wc.skip ?_ | refine Wc.ret ?_ | refine Wc.exit ?_ | refine Wc.block ?_)
  exact done_q (.inr rfl) (by simp +decide only [Ac.get_put, Sx, d0]) rfl (by simp +decide only [Ac.get_put, Sx, n0]) ⟨rfl, rfl⟩
theorem call109 {σ : Type} {J : Known} {step : Int → Hs.Item → σ → σ × Bool} {hE g : H} {l kb : Nat} {M : Nat → Prop} {Iv : Bool → σ → H → Prop} (hJ : ∀ f args h, (f = 109 ∨ f = 110) → J f args h = none) (V : Vis E J step hE l g.next (g.next + 1) M Iv)
    (hfit : Fit g) (t : Hs.Item) {a b c d : Value} (h1 : [a, b, c, d].all isOne = true) (hb : g.blk kb = some (.cells [a, b, c, d] 25 none)) (hr : rep E hE t (.agg ⟨[a, b, c, d]⟩)) (hz : isz t ≤ 1000000) (s : σ)
    (start : ∀ g', Ahd g g' → g'.blk g.next = some (.cells [.func (.yield l) ⟨[]⟩ ⟨[]⟩] 163 none) → g'.blk (g.next + 1) = some (.cells [.func (.func 110) ⟨[]⟩ ⟨[.pointer (some (own g.next)), .pointer (some (own (g.next + 1)))]⟩] 163 none) → Iv true s g') :
    ∃ n v g', (ev tab E J n).call 109 [.func (.yield l) ⟨[]⟩ ⟨[]⟩, .pointer (some (own kb))] g = some (v, g') ∧ (v = .tuple #[] ∧ Iv (visit step 1 t s).2 (visit step 1 t s).1 g' ∧ Keep M g g') := by
  refine Wc.call (hJ _ _ _ (.inl rfl)) fn109 rfl ?_
  generalize hA0 : (⟨T.ofList [.func (.yield l) ⟨[]⟩ ⟨[]⟩, .pointer (some (own kb))] 0 .nil, max ([.func (.yield l) ⟨[]⟩ ⟨[]⟩, .pointer (some (own kb))] : List Value).length Tryd.f109.ntmps, []⟩ : Ac) = A0
  have n0 : A0.n = 8 := by rw [← hA0]; rfl
  have g00 : A0.get 0 = .func (.yield l) ⟨[]⟩ ⟨[]⟩ := by rw [← hA0]; rfl
  have g01 : A0.get 1 = .pointer (some (own kb)) := by rw [← hA0]; rfl
  have d0 : A0.defers = [] := by rw [← hA0]
  generalize hh1 : g.new (.cells (Value.func (.yield l) ⟨[]⟩ ⟨[]⟩).cells.toList 163 none) = h1'
  have a1 : Ahd g h1' := by rw [← hh1]; exact Ahd.new0 hfit rfl
  have b1 : h1'.blk g.next = some (.cells [.func (.yield l) ⟨[]⟩ ⟨[]⟩] 163 none) := by rw [← hh1]; exact new_blk_new rfl
  have hn1 : h1'.next = g.next + 1 := by rw [← hh1]; rfl
  generalize hh2 : h1'.new (.cells Value.nilFunc.cells.toList 163 none) = h2
  have a2 : Ahd h1' h2 := by rw [← hh2]; exact Ahd.new0 a1.fit rfl
  have b2 : h2.blk h1'.next = some (.cells [.nilFunc] 163 none) := by rw [← hh2]; exact new_blk_new rfl
  have hn2 : h2.next = g.next + 2 := by rw [← hh2]; show h1'.next + 1 = _; rw [hn1]
  rw [hn1] at b2
  have a12 := a1.trans a2
  have hst := st163 (y := .func (.func 110) ⟨[]⟩ ⟨[.pointer (some (own g.next)), .pointer (some (own (g.next + 1)))]⟩) b2 rfl (by rw [a12.mark]; exact Nat.le_succ_of_le hfit.ok.2)
  generalize hh3 : h2.setb (g.next + 1) (.cells [.func (.func 110) ⟨[]⟩ ⟨[.pointer (some (own g.next)), .pointer (some (own (g.next + 1)))]⟩] 163 none) = h3 at hst
  have a3 : Ahd g h3 := by rw [← hh3]; exact a12.setb rfl (Nat.le_succ _) (by omega) hfit
  have c1 : h3.blk g.next = some (.cells [.func (.yield l) ⟨[]⟩ ⟨[]⟩] 163 none) := by rw [← hh3, setb_ne (by omega)]; exact a2.grows _ _ b1
  have c2 : h3.blk (g.next + 1) = some (.cells [.func (.func 110) ⟨[]⟩ ⟨[.pointer (some (own g.next)), .pointer (some (own (g.next + 1)))]⟩] 163 none) := by rw [← hh3]; exact setb_same rfl
  have iv := start h3 a3 c1 c2
  obtain ⟨n, v, g', hcall, rfl, iv', kp⟩ := visit110 (fun args h => hJ _ args h (.inr rfl)) V (isz t) t _ 1 s h3 (Nat.le_refl _) hz hr (by omega) (by omega) iv
  have cl2 : h3.cell E (own (g.next + 1)) = some (.func (.func 110) ⟨[]⟩ ⟨[.pointer (some (own g.next)), .pointer (some (own (g.next + 1)))]⟩) := blk_cell0 c2 rfl
  have cl1 : h3.cells E (own kb) 4 = some [a, b, c, d] := blk_cells (a3.grows _ _ hb) rfl h1
  repeat' (first | (with_reducible apply Wc.seq) | (apply Wc.opsN n; (focus ((repeat' (first | with_reducible exact RO.nil | ((with_reducible apply RO.run (awant_none rfl)); (focus ((first | simp +decide only [awant, ayield_get, oper1, aop, opv, opvs, opvo, opvp, abuiltin, aun, Ac.get_put, abin, isShift, aint, roV, pair, bind, Option.bind, acall, Sx, n0, d0, g00, g01, hh1, tz163, hn1, hh2, roF, hst, ld163, ld25, cl1, cl2, List.cons_append, hcall] | skip); with_reducible rfl))))); done))) | (refine Wc.cond2 (by simp +decide only [opv, Ac.get_put, Sx, n0, d0, g00, g01, hh1, tz163, hn1, hh2, roF, hst, ld163, ld25, cl1, cl2, List.cons_append, hcall]; try with_reducible rfl) (fun hb => ?_) (fun hb => ?_) <;> try contradiction) | refine Wc.skip ?_ | refine Wc.ret ?_ | refine Wc.exit ?_ | refine Wc.block ?_)
  exact done_unit (.inl rfl) (by simp +decide only [Ac.get_put, Sx, d0]) rfl ⟨rfl, iv', a3.keep.trans kp⟩
/-! ### 35 -/
theorem fn35 : tab.fn.get 35 = some Tryd.f35 := by kernel_rfl
noncomputable def asg35 : Code := (rangeOf Tryd.f35).1
noncomputable def bod35 : Code := (rangeOf Tryd.f35).2
structure St35 (g0 : H) (kR kN l : Nat) (r0 : LoopR) (b : Bool) (s : Int × Int) (g : H) : Prop where
  fit : Fit g
  log : g.log = []
  mark : g.mark = g0.mark
  keep : Keep (fun k => k = kR ∨ k = kN ∨ k = l) g0 g
  bR : g.blk kR = some (.cells [.int .i64 s.2] 26 none)
  bN : g.blk kN = some (.cells [.int .i64 s.1] 3 none)
  bl : g.blk l = some (.loop (if b then r0 else { r0 with state := .done, pending := some .ret }))
  cnt : b = true → s.2 = 0 ∧ 0 ≤ s.1 ∧ s.1 ≤ 5000
theorem St35.ahd {g0 : H} {kR kN l : Nat} {r0 : LoopR} {b : Bool} {s : Int × Int} {g g' : H} (S : St35 g0 kR kN l r0 b s g) (a : Ahd g g') : St35 g0 kR kN l r0 b s g' :=
  ⟨a.fit, a.log.trans S.log, a.mark.trans S.mark, S.keep.ahd a, a.grows _ _ S.bR, a.grows _ _ S.bN, a.grows _ _ S.bl, S.cnt⟩
theorem round35 {J : Known} {g0 : H} {kR kN l d : Nat} (o1 : kR < kN) (o2 : kN < l) (om : g0.mark ≤ kR) {A : Ac} (nA : A.n = 42) (p2 : A.get 2 = .pointer (some (own kR))) (p3 : A.get 3 = .pointer (some (own kN))) {s : Int × Int} {g : H}
    (S : St35 g0 kR kN l ⟨.ready, none, 35, A.tmps, A.n, #[8, 9], asg35, bod35, d⟩ true s g) {lv : Int} (hlv : 1 ≤ lv) (hlv2 : lv ≤ 2000000000) {t : Hs.Item} {xv : Value} {hE : H} (hr : rep E hE t xv) :
    ∃ n v g', (ev tab E J n).round l [.int .i64 lv, xv] g = some (v, g') ∧ (v = .bool (stepC lv t s).2 ∧ St35 g0 kR kN l ⟨.ready, none, 35, A.tmps, A.n, #[8, 9], asg35, bod35, d⟩ (stepC lv t s).2 (stepC lv t s).1 g' ∧ Keep (fun k => k = kR ∨ k = kN ∨ k = l) g g') := by
  obtain ⟨c, e⟩ := s
  obtain ⟨rfl, hc0, hc1⟩ := S.cnt rfl
  replace hc0 : 0 ≤ c := hc0
  replace hc1 : c ≤ 5000 := hc1
  obtain ⟨k, m, tx, ks⟩ := t
  obtain ⟨sb, sc, rfl, _⟩ := rep_slice hr
  generalize hr0 : (⟨.ready, none, 35, A.tmps, A.n, #[8, 9], asg35, bod35, d⟩ : LoopR) = r0 at S ⊢
  have bl := S.bl
  rw [if_pos rfl] at bl
  have hln := S.fit.lt bl
  refine Wr.round bl (A := ((⟨A.tmps, A.n, []⟩ : Ac).put (some 8) (.int .i64 lv)).put (some 9) (.agg ⟨[.int .i64 k, .int .i64 m, .string tx, .slice sb ks.length sc]⟩)) (by rw [← hr0]; rfl) ?_
  have hp : ∀ i, (⟨A.tmps, A.n, []⟩ : Ac).get i = A.get i := fun _ => rfl
  have hpn : (⟨A.tmps, A.n, []⟩ : Ac).n = 42 := nA
  have q2 := (hp 2).trans p2
  have q3 := (hp 3).trans p3
  generalize (⟨A.tmps, A.n, []⟩ : Ac) = B0 at hpn q2 q3 ⊢
  generalize hh3 : g.new (.cells (Value.agg #[.int .i64 0, .int .i64 0, .string ⟨#[]⟩, .slice none 0 0]).cells.toList 25 none) = h3
  have a3 : Ahd g h3 := by rw [← hh3]; exact Ahd.new0 S.fit rfl
  have c3 : h3.blk g.next = some (.cells [.int .i64 0, .int .i64 0, .string ⟨#[]⟩, .slice none 0 0] 25 none) := by rw [← hh3]; exact new_blk_new rfl
  have hn3 : h3.next = g.next + 1 := by rw [← hh3]; rfl
  have hst3 := st25 (a := .int .i64 k) (b := .int .i64 m) (c := .string tx) (d := .slice sb ks.length sc) c3 rfl (by rw [a3.mark]; exact S.fit.ok.2)
  generalize hh4 : h3.setb g.next (.cells [.int .i64 k, .int .i64 m, .string tx, .slice sb ks.length sc] 25 none) = h4 at hst3
  have a4 : Ahd g h4 := by rw [← hh4]; exact a3.setb rfl (Nat.le_refl _) (by omega) S.fit
  have c4 : h4.blk g.next = some (.cells [.int .i64 k, .int .i64 m, .string tx, .slice sb ks.length sc] 25 none) := by rw [← hh4]; exact setb_same rfl
  have asgW : Wc tab E J ⟨r0.fn, some l⟩ r0.assign ((B0.put (some 8) (.int .i64 lv)).put (some 9) (.agg ⟨[.int .i64 k, .int .i64 m, .string tx, .slice sb ks.length sc]⟩)) g (fun ex A1 h1 => ex = .normal ∧ h1 = h4 ∧ A1.n = 42 ∧ A1.get 2 = .pointer (some (own kR)) ∧ A1.get 3 = .pointer (some (own kN)) ∧ A1.get 4 = .int .i64 lv ∧ A1.get 5 = .pointer (some (own g.next))) := by
    have hasg : r0.assign = asg35 := by rw [← hr0]
    have hfn0 : r0.fn = 35 := by rw [← hr0]
    rw [hasg, hfn0]
    simp only [asg35, rangeOf, firstRange, Option.getD, Tryd.f35]
    repeat' (first | (with_reducible apply Wc.seq) | (apply Wc.ops; (focus ((repeat' (first | with_reducible exact RO.nil | ((with_reducible apply RO.run (awant_none rfl)); (focus ((first | simp +decide only [awant, ayield_get, oper1, aop, opv, opvs, opvo, opvp, abuiltin, aun, Ac.get_put, abin, isShift, aint, roV, pair, bind, Option.bind, acall, Sx, hpn, q2, q3, tz25, hh3, hst3] | skip); with_reducible rfl))))); done))) | (refine Wc.cond2 (by simp +decide only [opv, Ac.get_put, Sx, hpn, q2, q3, tz25, hh3, hst3]; try with_reducible rfl) (fun hb => ?_) (fun hb => ?_) <;> try contradiction) | refine Wc.skip ?_ | refine Wc.ret ?_ | refine Wc.exit ?_ | refine Wc.block ?_)
    exact ⟨rfl, rfl, by simp +decide only [Ac.get_put, Sx, hpn], by simp +decide only [Ac.get_put, Sx, hpn, q2], by simp +decide only [Ac.get_put, Sx, hpn, q3], by simp +decide only [Ac.get_put, Sx, hpn], by simp +decide only [Ac.get_put, Sx, hpn]⟩
  have S4 := S.ahd a4
  clear hh3 c3 hst3
  have bl4 := a4.grows _ _ bl
  refine asgW.mono ?_
  clear asgW
  rintro ex A1 h1 ⟨rfl, rfl, nA1, u2, u3, u4, u5⟩
  refine ⟨rfl, r0, bl4, by rw [← hr0], ?_⟩
  have hml : h1.mark ≤ l := by rw [S4.mark]; omega
  rw [turn_above hml]
  generalize hh7 : h1.setb l (.loop { r0 with state := .busy }) = h7
  have hl1 : l < h1.next := Nat.lt_of_lt_of_le hln a4.next
  have f7 : Fit h7 := by rw [← hh7]; exact a4.fit.setb rfl hl1
  have R7 : h7.blk kR = some (.cells [.int .i64 0] 26 none) := by rw [← hh7, setb_ne (by omega)]; exact S4.bR
  have N7 : h7.blk kN = some (.cells [.int .i64 c] 3 none) := by rw [← hh7, setb_ne (by omega)]; exact S4.bN
  have L7 : h7.blk l = some (.loop { r0 with state := .busy }) := by rw [← hh7]; exact setb_same rfl
  have X7 : h7.blk g.next = some (.cells [.int .i64 k, .int .i64 m, .string tx, .slice sb ks.length sc] 25 none) := by rw [← hh7, setb_ne (by omega)]; exact c4
  have k7 : Keep (fun k => k = kR ∨ k = kN ∨ k = l) g h7 := by rw [← hh7]; exact a4.keep.setb (.inr (.inr rfl))
  have log7 : h7.log = [] := by rw [← hh7]; exact S4.log
  have mark7 : h7.mark = g0.mark := by rw [← hh7]; exact S4.mark
  have n7 : h7.next = h1.next := by rw [← hh7]; rfl
  have finF : ∀ x : Int, ∃ r2, (h7.setb kR (.cells [.int .i64 x] 26 none)).blk l = some (.loop r2) ∧ St35 g0 kR kN l r0 false (c, x) ((h7.setb kR (.cells [.int .i64 x] 26 none)).turn l (.loop { r2 with state := .done, pending := some .ret })) ∧ Keep (fun k => k = kR ∨ k = kN ∨ k = l) g ((h7.setb kR (.cells [.int .i64 x] 26 none)).turn l (.loop { r2 with state := .done, pending := some .ret })) := by
    intro x
    refine ⟨{ r0 with state := .busy }, by rw [setb_ne (by omega)]; exact L7, ?_⟩
    rw [turn_above (by show h7.mark ≤ l; rw [mark7]; omega)]
    have kk := (k7.setb (k := kR) (B := .cells [.int .i64 x] 26 none) (.inl rfl)).setb (k := l) (B := .loop { r0 with state := .done, pending := some .ret }) (.inr (.inr rfl))
    refine ⟨⟨(f7.setb rfl (by omega)).setb rfl (by show l < h7.next; omega), log7, mark7, S.keep.trans kk, ?_, ?_, ?_, fun hh => by cases hh⟩, kk⟩
    · rw [setb_ne (by omega)]; exact setb_same rfl
    · rw [setb_ne (by omega), setb_ne (by omega)]; exact N7
    · rw [if_neg (by decide)]; exact setb_same rfl
  have finT : c < 5000 → ∃ r2, (h7.setb kN (.cells [.int .i64 (c + 1)] 3 none)).blk l = some (.loop r2) ∧ St35 g0 kR kN l r0 true (c + 1, 0) ((h7.setb kN (.cells [.int .i64 (c + 1)] 3 none)).turn l (.loop { r2 with state := .ready, pending := none })) ∧ Keep (fun k => k = kR ∨ k = kN ∨ k = l) g ((h7.setb kN (.cells [.int .i64 (c + 1)] 3 none)).turn l (.loop { r2 with state := .ready, pending := none })) := by
    intro hlt
    refine ⟨{ r0 with state := .busy }, by rw [setb_ne (by omega)]; exact L7, ?_⟩
    rw [turn_above (by show h7.mark ≤ l; rw [mark7]; omega)]
    have er : ({ r0 with state := .ready, pending := none } : LoopR) = r0 := by rw [← hr0]
    have kk := (k7.setb (k := kN) (B := .cells [.int .i64 (c + 1)] 3 none) (.inr (.inl rfl))).setb (k := l) (B := .loop { r0 with state := .ready, pending := none }) (.inr (.inr rfl))
    refine ⟨⟨(f7.setb rfl (by omega)).setb rfl (by show l < h7.next; omega), log7, mark7, S.keep.trans kk, ?_, ?_, ?_, fun _ => ⟨rfl, by show 0 ≤ c + 1; omega, by show c + 1 ≤ 5000; omega⟩⟩, kk⟩
    · rw [setb_ne (by omega), setb_ne (by omega)]; exact R7
    · rw [setb_ne (by omega)]; exact setb_same rfl
    · rw [if_pos rfl]
      refine (setb_same rfl).trans ?_
      show some (Blk.loop { r0 with state := .ready, pending := none }) = _
      rw [er]
  have mR : h7.mark ≤ kR := by rw [mark7]; exact om
  have x0 : h7.cell E (aadd (own g.next) 0) = some (.int .i64 k) := blk_cell (i := 0) X7 rfl rfl
  have x1 : h7.cell E (aadd (own g.next) 1) = some (.int .i64 m) := blk_cell (i := 1) X7 rfl rfl
  have x2 : h7.cell E (aadd (own g.next) 2) = some (.string tx) := blk_cell (i := 2) X7 rfl rfl
  have xN : h7.cell E (own kN) = some (.int .i64 c) := blk_cell0 N7 rfl
  have s11 := st26 (i := 11) R7 mR
  have s2 := st26 (i := 2) R7 mR
  have s3 := st26 (i := 3) R7 mR
  have sN := st3 (i := c + 1) N7 (by omega)
  have w1 : IntKind.i64.wrap (c + 1) = c + 1 := wrap64 (by omega) (by omega)
  have hbod : r0.body = bod35 := by rw [← hr0]
  have hfn0 : r0.fn = 35 := by rw [← hr0]
  rw [hbod, hfn0]
  simp only [bod35, rangeOf, firstRange, Option.getD, Tryd.f35]
  by_cases a : lv > 250
  · have e : stepC lv (.mk k m tx ks) (c, 0) = ((c, 11), false) := by simp only [stepC, if_pos a]
    rw [e]
    have da : decide (lv > 250) = true := by simpa using a
    repeat' (first | (with_reducible apply Wc.seq) | (apply Wc.ops; (focus ((repeat' (first | with_reducible exact RO.nil | ((with_reducible apply RO.run (awant_none rfl)); (focus ((first | simp +decide only [awant, ayield_get, oper1, aop, opv, opvs, opvo, opvp, abuiltin, aun, Ac.get_put, abin, isShift, aint, roV, pair, bind, Option.bind, acall, Sx, nA1, u2, u3, u4, u5, da, s11] | skip); with_reducible rfl))))); done))) | (refine Wc.cond2 (by simp +decide only [opv, Ac.get_put, Sx, nA1, u2, u3, u4, u5, da, s11]; try with_reducible rfl) (fun hb => ?_) (fun hb => ?_) <;> try contradiction) | refine Wc.skip ?_ | refine Wc.ret ?_ | refine Wc.exit ?_ | refine Wc.block ?_)
    obtain ⟨r2, z1, z2, z3⟩ := finF 11
    exact ⟨r2, z1, .inr ⟨rfl, rfl, z2, z3⟩⟩
  have da : decide (lv > 250) = false := by simpa using a
  by_cases b : c = 5000
  · have e : stepC lv (.mk k m tx ks) (c, 0) = ((c, 2), false) := by simp only [stepC, if_neg a, if_pos b]
    rw [e]
    have db : decide (c = 5000) = true := by simpa using b
    repeat' (first | (with_reducible apply Wc.seq) | (apply Wc.ops; (focus ((repeat' (first | with_reducible exact RO.nil | ((with_reducible apply RO.run (awant_none rfl)); (focus ((first | simp +decide only [awant, ayield_get, oper1, aop, opv, opvs, opvo, opvp, abuiltin, aun, Ac.get_put, abin, isShift, aint, roV, pair, bind, Option.bind, acall, Sx, nA1, u2, u3, u4, u5, da, ld3, xN, db, s2] | skip); with_reducible rfl))))); done))) | (refine Wc.cond2 (by simp +decide only [opv, Ac.get_put, Sx, nA1, u2, u3, u4, u5, da, ld3, xN, db, s2]; try with_reducible rfl) (fun hb => ?_) (fun hb => ?_) <;> try contradiction) | refine Wc.skip ?_ | refine Wc.ret ?_ | refine Wc.exit ?_ | refine Wc.block ?_)
    obtain ⟨r2, z1, z2, z3⟩ := finF 2
    exact ⟨r2, z1, .inr ⟨rfl, rfl, z2, z3⟩⟩
  have db : decide (c = 5000) = false := by simpa using b
  obtain ⟨r3, z1, z2, z3⟩ := finF 3
  by_cases q1 : k < 1
  · have e : stepC lv (.mk k m tx ks) (c, 0) = ((c, 3), false) := by simp only [stepC, if_neg a, if_neg b, if_pos (show k < 1 ∨ k > 63 ∨ m < 0 ∨ m > 1099511627776 from .inl q1)]
    rw [e]
    have d1 : decide (k < 1) = true := by simpa using q1
    repeat' (first | (with_reducible apply Wc.seq) | (apply Wc.ops; (focus ((repeat' (first | with_reducible exact RO.nil | ((with_reducible apply RO.run (awant_none rfl)); (focus ((first | simp +decide only [awant, ayield_get, oper1, aop, opv, opvs, opvo, opvp, abuiltin, aun, Ac.get_put, abin, isShift, aint, roV, pair, bind, Option.bind, acall, Sx, nA1, u2, u3, u4, u5, da, ld3, xN, db, fa25_0, fa25_1, x0, x1, d1, s3] | skip); with_reducible rfl))) | ((with_reducible apply RO.runG); (focus rfl); (focus rfl); (focus (simp +decide only [awant, ayield_get, oper1, aop, opv, opvs, opvo, opvp, abuiltin, aun, Ac.get_put, abin, isShift, aint, roV, pair, bind, Option.bind, acall, Sx, nA1, u2, u3, u4, u5, da, ld3, xN, db, fa25_0, fa25_1, x0, x1, d1, s3]; done)); (focus ((first | simp +decide only [awant, ayield_get, oper1, aop, opv, opvs, opvo, opvp, abuiltin, aun, Ac.get_put, abin, isShift, aint, roV, pair, bind, Option.bind, acall, Sx, nA1, u2, u3, u4, u5, da, ld3, xN, db, fa25_0, fa25_1, x0, x1, d1, s3] | skip); with_reducible rfl))) | ((with_reducible apply RO.skipG); (focus rfl); (focus rfl); (focus (simp +decide only [awant, ayield_get, oper1, aop, opv, opvs, opvo, opvp, abuiltin, aun, Ac.get_put, abin, isShift, aint, roV, pair, bind, Option.bind, acall, Sx, nA1, u2, u3, u4, u5, da, ld3, xN, db, fa25_0, fa25_1, x0, x1, d1, s3]; done))))); done))) | (refine Wc.quiet (by kernel_rfl) (by repeat' (first | with_reducible exact QO.nil | ((with_reducible apply QO.cons rfl rfl); (focus ((first | simp +decide only [awant, ayield_get, oper1, aop, opv, opvs, opvo, opvp, abuiltin, aun, Ac.get_put, abin, isShift, aint, roV, pair, bind, Option.bind, acall, Sx, nA1, u2, u3, u4, u5, da, ld3, xN, db, fa25_0, fa25_1, x0, x1, d1, s3] | skip); with_reducible rfl))))) ?_) | (refine Wc.cond2 (by simp +decide only [opv, Ac.get_put, Sx, nA1, u2, u3, u4, u5, da, ld3, xN, db, fa25_0, fa25_1, x0, x1, d1, s3]; try with_reducible rfl) (fun hb => ?_) (fun hb => ?_) <;> try contradiction) | refine Wc.skip ?_ | refine Wc.ret ?_ | refine Wc.exit ?_ | refine Wc.block ?_)
    exact ⟨r3, z1, .inr ⟨rfl, rfl, z2, z3⟩⟩
  have d1 : decide (k < 1) = false := by simpa using q1
  by_cases q2' : k > 63
  · have e : stepC lv (.mk k m tx ks) (c, 0) = ((c, 3), false) := by simp only [stepC, if_neg a, if_neg b, if_pos (show k < 1 ∨ k > 63 ∨ m < 0 ∨ m > 1099511627776 from .inr (.inl q2'))]
    rw [e]
    have d2 : decide (k > 63) = true := by simpa using q2'
    repeat' (first | (with_reducible apply Wc.seq) | (apply Wc.ops; (focus ((repeat' (first | with_reducible exact RO.nil | ((with_reducible apply RO.run (awant_none rfl)); (focus ((first | simp +decide only [awant, ayield_get, oper1, aop, opv, opvs, opvo, opvp, abuiltin, aun, Ac.get_put, abin, isShift, aint, roV, pair, bind, Option.bind, acall, Sx, nA1, u2, u3, u4, u5, da, ld3, xN, db, fa25_0, fa25_1, x0, x1, d1, d2, s3] | skip); with_reducible rfl))) | ((with_reducible apply RO.runG); (focus rfl); (focus rfl); (focus (simp +decide only [awant, ayield_get, oper1, aop, opv, opvs, opvo, opvp, abuiltin, aun, Ac.get_put, abin, isShift, aint, roV, pair, bind, Option.bind, acall, Sx, nA1, u2, u3, u4, u5, da, ld3, xN, db, fa25_0, fa25_1, x0, x1, d1, d2, s3]; done)); (focus ((first | simp +decide only [awant, ayield_get, oper1, aop, opv, opvs, opvo, opvp, abuiltin, aun, Ac.get_put, abin, isShift, aint, roV, pair, bind, Option.bind, acall, Sx, nA1, u2, u3, u4, u5, da, ld3, xN, db, fa25_0, fa25_1, x0, x1, d1, d2, s3] | skip); with_reducible rfl))) | ((with_reducible apply RO.skipG); (focus rfl); (focus rfl); (focus (simp +decide only [awant, ayield_get, oper1, aop, opv, opvs, opvo, opvp, abuiltin, aun, Ac.get_put, abin, isShift, aint, roV, pair, bind, Option.bind, acall, Sx, nA1, u2, u3, u4, u5, da, ld3, xN, db, fa25_0, fa25_1, x0, x1, d1, d2, s3]; done))))); done))) | (refine Wc.quiet (by kernel_rfl) (by repeat' (first | with_reducible exact QO.nil | ((with_reducible apply QO.cons rfl rfl); (focus ((first | simp +decide only [awant, ayield_get, oper1, aop, opv, opvs, opvo, opvp, abuiltin, aun, Ac.get_put, abin, isShift, aint, roV, pair, bind, Option.bind, acall, Sx, nA1, u2, u3, u4, u5, da, ld3, xN, db, fa25_0, fa25_1, x0, x1, d1, d2, s3] | skip); with_reducible rfl))))) ?_) | (refine Wc.cond2 (by simp +decide only [opv, Ac.get_put, Sx, nA1, u2, u3, u4, u5, da, ld3, xN, db, fa25_0, fa25_1, x0, x1, d1, d2, s3]; try with_reducible rfl) (fun hb => ?_) (fun hb => ?_) <;> try contradiction) | refine Wc.skip ?_ | refine Wc.ret ?_ | refine Wc.exit ?_ | refine Wc.block ?_)
    exact ⟨r3, z1, .inr ⟨rfl, rfl, z2, z3⟩⟩
  have d2 : decide (k > 63) = false := by simpa using q2'
  by_cases q3' : m < 0
  · have e : stepC lv (.mk k m tx ks) (c, 0) = ((c, 3), false) := by simp only [stepC, if_neg a, if_neg b, if_pos (show k < 1 ∨ k > 63 ∨ m < 0 ∨ m > 1099511627776 from .inr (.inr (.inl q3')))]
    rw [e]
    have d3 : decide (m < 0) = true := by simpa using q3'
    repeat' (first | (with_reducible apply Wc.seq) | (apply Wc.ops; (focus ((repeat' (first | with_reducible exact RO.nil | ((with_reducible apply RO.run (awant_none rfl)); (focus ((first | simp +decide only [awant, ayield_get, oper1, aop, opv, opvs, opvo, opvp, abuiltin, aun, Ac.get_put, abin, isShift, aint, roV, pair, bind, Option.bind, acall, Sx, nA1, u2, u3, u4, u5, da, ld3, xN, db, fa25_0, fa25_1, x0, x1, d1, d2, d3, s3] | skip); with_reducible rfl))) | ((with_reducible apply RO.runG); (focus rfl); (focus rfl); (focus (simp +decide only [awant, ayield_get, oper1, aop, opv, opvs, opvo, opvp, abuiltin, aun, Ac.get_put, abin, isShift, aint, roV, pair, bind, Option.bind, acall, Sx, nA1, u2, u3, u4, u5, da, ld3, xN, db, fa25_0, fa25_1, x0, x1, d1, d2, d3, s3]; done)); (focus ((first | simp +decide only [awant, ayield_get, oper1, aop, opv, opvs, opvo, opvp, abuiltin, aun, Ac.get_put, abin, isShift, aint, roV, pair, bind, Option.bind, acall, Sx, nA1, u2, u3, u4, u5, da, ld3, xN, db, fa25_0, fa25_1, x0, x1, d1, d2, d3, s3] | skip); with_reducible rfl))) | ((with_reducible apply RO.skipG); (focus rfl); (focus rfl); (focus (simp +decide only [awant, ayield_get, oper1, aop, opv, opvs, opvo, opvp, abuiltin, aun, Ac.get_put, abin, isShift, aint, roV, pair, bind, Option.bind, acall, Sx, nA1, u2, u3, u4, u5, da, ld3, xN, db, fa25_0, fa25_1, x0, x1, d1, d2, d3, s3]; done))))); done))) | (refine Wc.quiet (by kernel_rfl) (by repeat' (first | with_reducible exact QO.nil | ((with_reducible apply QO.cons rfl rfl); (focus ((first | simp +decide only [awant, ayield_get, oper1, aop, opv, opvs, opvo, opvp, abuiltin, aun, Ac.get_put, abin, isShift, aint, roV, pair, bind, Option.bind, acall, Sx, nA1, u2, u3, u4, u5, da, ld3, xN, db, fa25_0, fa25_1, x0, x1, d1, d2, d3, s3] | skip); with_reducible rfl))))) ?_) | (refine Wc.cond2 (by simp +decide only [opv, Ac.get_put, Sx, nA1, u2, u3, u4, u5, da, ld3, xN, db, fa25_0, fa25_1, x0, x1, d1, d2, d3, s3]; try with_reducible rfl) (fun hb => ?_) (fun hb => ?_) <;> try contradiction) | refine Wc.skip ?_ | refine Wc.ret ?_ | refine Wc.exit ?_ | refine Wc.block ?_)
    exact ⟨r3, z1, .inr ⟨rfl, rfl, z2, z3⟩⟩
  have d3 : decide (m < 0) = false := by simpa using q3'
  by_cases q4 : m > 1099511627776
  · have e : stepC lv (.mk k m tx ks) (c, 0) = ((c, 3), false) := by simp only [stepC, if_neg a, if_neg b, if_pos (show k < 1 ∨ k > 63 ∨ m < 0 ∨ m > 1099511627776 from .inr (.inr (.inr q4)))]
    rw [e]
    have d4 : decide (m > 1099511627776) = true := by simpa using q4
    repeat' (first | (with_reducible apply Wc.seq) | (apply Wc.ops; (focus ((repeat' (first | with_reducible exact RO.nil | ((with_reducible apply RO.run (awant_none rfl)); (focus ((first | simp +decide only [awant, ayield_get, oper1, aop, opv, opvs, opvo, opvp, abuiltin, aun, Ac.get_put, abin, isShift, aint, roV, pair, bind, Option.bind, acall, Sx, nA1, u2, u3, u4, u5, da, ld3, xN, db, fa25_0, fa25_1, x0, x1, d1, d2, d3, d4, s3] | skip); with_reducible rfl))) | ((with_reducible apply RO.runG); (focus rfl); (focus rfl); (focus (simp +decide only [awant, ayield_get, oper1, aop, opv, opvs, opvo, opvp, abuiltin, aun, Ac.get_put, abin, isShift, aint, roV, pair, bind, Option.bind, acall, Sx, nA1, u2, u3, u4, u5, da, ld3, xN, db, fa25_0, fa25_1, x0, x1, d1, d2, d3, d4, s3]; done)); (focus ((first | simp +decide only [awant, ayield_get, oper1, aop, opv, opvs, opvo, opvp, abuiltin, aun, Ac.get_put, abin, isShift, aint, roV, pair, bind, Option.bind, acall, Sx, nA1, u2, u3, u4, u5, da, ld3, xN, db, fa25_0, fa25_1, x0, x1, d1, d2, d3, d4, s3] | skip); with_reducible rfl))) | ((with_reducible apply RO.skipG); (focus rfl); (focus rfl); (focus (simp +decide only [awant, ayield_get, oper1, aop, opv, opvs, opvo, opvp, abuiltin, aun, Ac.get_put, abin, isShift, aint, roV, pair, bind, Option.bind, acall, Sx, nA1, u2, u3, u4, u5, da, ld3, xN, db, fa25_0, fa25_1, x0, x1, d1, d2, d3, d4, s3]; done))))); done))) | (refine Wc.quiet (by kernel_rfl) (by repeat' (first | with_reducible exact QO.nil | ((with_reducible apply QO.cons rfl rfl); (focus ((first | simp +decide only [awant, ayield_get, oper1, aop, opv, opvs, opvo, opvp, abuiltin, aun, Ac.get_put, abin, isShift, aint, roV, pair, bind, Option.bind, acall, Sx, nA1, u2, u3, u4, u5, da, ld3, xN, db, fa25_0, fa25_1, x0, x1, d1, d2, d3, d4, s3] | skip); with_reducible rfl))))) ?_) | (refine Wc.cond2 (by simp +decide only [opv, Ac.get_put, Sx, nA1, u2, u3, u4, u5, da, ld3, xN, db, fa25_0, fa25_1, x0, x1, d1, d2, d3, d4, s3]; try with_reducible rfl) (fun hb => ?_) (fun hb => ?_) <;> try contradiction) | refine Wc.skip ?_ | refine Wc.ret ?_ | refine Wc.exit ?_ | refine Wc.block ?_)
    exact ⟨r3, z1, .inr ⟨rfl, rfl, z2, z3⟩⟩
  have d4 : decide (m > 1099511627776) = false := by simpa using q4
  have no : ¬ (k < 1 ∨ k > 63 ∨ m < 0 ∨ m > 1099511627776) := by omega
  by_cases q5 : (tx.data.toList.length : Int) > 4096
  · have e : stepC lv (.mk k m tx ks) (c, 0) = ((c, 11), false) := by simp only [stepC, if_neg a, if_neg b, if_neg no, if_pos q5]
    rw [e]
    have d5 : decide ((tx.data.toList.length : Int) > 4096) = true := by simpa using q5
    repeat' (first | (with_reducible apply Wc.seq) | (apply Wc.ops; (focus ((repeat' (first | with_reducible exact RO.nil | ((with_reducible apply RO.run (awant_none rfl)); (focus ((first | simp +decide only [awant, ayield_get, oper1, aop, opv, opvs, opvo, opvp, abuiltin, aun, Ac.get_put, abin, isShift, aint, roV, pair, bind, Option.bind, acall, Sx, nA1, u2, u3, u4, u5, da, ld3, ld9, xN, db, fa25_0, fa25_1, fa25_2, x0, x1, x2, d1, d2, d3, d4, len9, d5, s11] | skip); with_reducible rfl))) | ((with_reducible apply RO.runG); (focus rfl); (focus rfl); (focus (simp +decide only [awant, ayield_get, oper1, aop, opv, opvs, opvo, opvp, abuiltin, aun, Ac.get_put, abin, isShift, aint, roV, pair, bind, Option.bind, acall, Sx, nA1, u2, u3, u4, u5, da, ld3, ld9, xN, db, fa25_0, fa25_1, fa25_2, x0, x1, x2, d1, d2, d3, d4, len9, d5, s11]; done)); (focus ((first | simp +decide only [awant, ayield_get, oper1, aop, opv, opvs, opvo, opvp, abuiltin, aun, Ac.get_put, abin, isShift, aint, roV, pair, bind, Option.bind, acall, Sx, nA1, u2, u3, u4, u5, da, ld3, ld9, xN, db, fa25_0, fa25_1, fa25_2, x0, x1, x2, d1, d2, d3, d4, len9, d5, s11] | skip); with_reducible rfl))) | ((with_reducible apply RO.skipG); (focus rfl); (focus rfl); (focus (simp +decide only [awant, ayield_get, oper1, aop, opv, opvs, opvo, opvp, abuiltin, aun, Ac.get_put, abin, isShift, aint, roV, pair, bind, Option.bind, acall, Sx, nA1, u2, u3, u4, u5, da, ld3, ld9, xN, db, fa25_0, fa25_1, fa25_2, x0, x1, x2, d1, d2, d3, d4, len9, d5, s11]; done))))); done))) | (refine Wc.quiet (by kernel_rfl) (by repeat' (first | with_reducible exact QO.nil | ((with_reducible apply QO.cons rfl rfl); (focus ((first | simp +decide only [awant, ayield_get, oper1, aop, opv, opvs, opvo, opvp, abuiltin, aun, Ac.get_put, abin, isShift, aint, roV, pair, bind, Option.bind, acall, Sx, nA1, u2, u3, u4, u5, da, ld3, ld9, xN, db, fa25_0, fa25_1, fa25_2, x0, x1, x2, d1, d2, d3, d4, len9, d5, s11] | skip); with_reducible rfl))))) ?_) | (refine Wc.cond2 (by simp +decide only [opv, Ac.get_put, Sx, nA1, u2, u3, u4, u5, da, ld3, ld9, xN, db, fa25_0, fa25_1, fa25_2, x0, x1, x2, d1, d2, d3, d4, len9, d5, s11]; try with_reducible rfl) (fun hb => ?_) (fun hb => ?_) <;> try contradiction) | refine Wc.skip ?_ | refine Wc.ret ?_ | refine Wc.exit ?_ | refine Wc.block ?_)
    obtain ⟨r2, z1, z2, z3⟩ := finF 11
    exact ⟨r2, z1, .inr ⟨rfl, rfl, z2, z3⟩⟩
  have d5 : decide ((tx.data.toList.length : Int) > 4096) = false := by simpa using q5
  have e : stepC lv (.mk k m tx ks) (c, 0) = ((c + 1, 0), true) := by simp only [stepC, if_neg a, if_neg b, if_neg no, if_neg q5]
  rw [e]
  repeat' (first | (with_reducible apply Wc.seq) | (apply Wc.ops; (focus ((repeat' (first | with_reducible exact RO.nil | ((with_reducible apply RO.run (awant_none rfl)); (focus ((first | simp +decide only [awant, ayield_get, oper1, aop, opv, opvs, opvo, opvp, abuiltin, aun, Ac.get_put, abin, isShift, aint, roV, pair, bind, Option.bind, acall, Sx, nA1, u2, u3, u4, u5, da, ld3, ld9, xN, db, fa25_0, fa25_1, fa25_2, x0, x1, x2, d1, d2, d3, d4, len9, d5, w1, sN] | skip); with_reducible rfl))) | ((with_reducible apply RO.runG); (focus rfl); (focus rfl); (focus (simp +decide only [awant, ayield_get, oper1, aop, opv, opvs, opvo, opvp, abuiltin, aun, Ac.get_put, abin, isShift, aint, roV, pair, bind, Option.bind, acall, Sx, nA1, u2, u3, u4, u5, da, ld3, ld9, xN, db, fa25_0, fa25_1, fa25_2, x0, x1, x2, d1, d2, d3, d4, len9, d5, w1, sN]; done)); (focus ((first | simp +decide only [awant, ayield_get, oper1, aop, opv, opvs, opvo, opvp, abuiltin, aun, Ac.get_put, abin, isShift, aint, roV, pair, bind, Option.bind, acall, Sx, nA1, u2, u3, u4, u5, da, ld3, ld9, xN, db, fa25_0, fa25_1, fa25_2, x0, x1, x2, d1, d2, d3, d4, len9, d5, w1, sN] | skip); with_reducible rfl))) | ((with_reducible apply RO.skipG); (focus rfl); (focus rfl); (focus (simp +decide only [awant, ayield_get, oper1, aop, opv, opvs, opvo, opvp, abuiltin, aun, Ac.get_put, abin, isShift, aint, roV, pair, bind, Option.bind, acall, Sx, nA1, u2, u3, u4, u5, da, ld3, ld9, xN, db, fa25_0, fa25_1, fa25_2, x0, x1, x2, d1, d2, d3, d4, len9, d5, w1, sN]; done))))); done))) | (refine Wc.quiet (by kernel_rfl) (by repeat' (first | with_reducible exact QO.nil | ((with_reducible apply QO.cons rfl rfl); (focus ((first | simp +decide only [awant, ayield_get, oper1, aop, opv, opvs, opvo, opvp, abuiltin, aun, Ac.get_put, abin, isShift, aint, roV, pair, bind, Option.bind, acall, Sx, nA1, u2, u3, u4, u5, da, ld3, ld9, xN, db, fa25_0, fa25_1, fa25_2, x0, x1, x2, d1, d2, d3, d4, len9, d5, w1, sN] | skip); with_reducible rfl))))) ?_) | (refine Wc.cond2 (by simp +decide only [opv, Ac.get_put, Sx, nA1, u2, u3, u4, u5, da, ld3, ld9, xN, db, fa25_0, fa25_1, fa25_2, x0, x1, x2, d1, d2, d3, d4, len9, d5, w1, sN]; try with_reducible rfl) (fun hb => ?_) (fun hb => ?_) <;> try contradiction) | refine Wc.skip ?_ | refine Wc.ret ?_ | refine Wc.exit ?_ | refine Wc.block ?_)
  obtain ⟨r2, z1, z2, z3⟩ := finT (by omega)
  exact ⟨r2, z1, .inl ⟨rfl, rfl, z2, z3⟩⟩
end Go.Proofs.YtofijpbmbmbnhaaDoor
/- Check, as the program does it. -/
set_option maxRecDepth 100000
set_option maxHeartbeats 4000000
namespace Go.Proofs.YtofijpbmbmbnhaaDoor
open Go Go.Hs Go.Proofs
variable {E : Env} {I : Known}
def says35 (E : Env) : Says := fun s f args h v => f = 35 ∧ s = 0 ∧ ∃ t xv, args = [xv] ∧ rep E h t xv ∧ isz t ≤ 1000000 ∧ v = .int .i64 (chkI t 0 1).2
theorem one35 (E : Env) : One (says35 E) := by
  rintro s s' f args h v v' ⟨_, _, t, xv, rfl, h1, _, rfl⟩ ⟨_, _, t', xv', he, h2, _, rfl⟩
  cases he
  rw [rep_one h1 h2]
theorem shown35 (hI : ∀ f args h, (f = 35 ∨ f = 70 ∨ f = 109 ∨ f = 110) → I f args h = none) : ShownF tab E I (says35 E) := by
  rintro sz f args h v ⟨rfl, rfl, t, xv, rfl, hr, hz, rfl⟩ hfit
  refine ⟨rfl, ?_⟩
  obtain ⟨k, m, tx, ks⟩ := t
  obtain ⟨sb, sc, rfl, hs⟩ := rep_slice hr
  have hJ : upTo (says35 E) I 0 = I := by funext f args h; exact upTo_none (fun _ _ hs => absurd hs (Nat.not_lt_zero _))
  rw [hJ]
  suffices hw : ∃ n v h', (ev tab E I n).call 35 [.agg ⟨[.int .i64 k, .int .i64 m, .string tx, .slice sb ks.length sc]⟩] (fresh h) = some (v, h') ∧ (v = .int .i64 (chkI (.mk k m tx ks) 0 1).2 ∧ h'.log = []) by
    obtain ⟨n, v, h', h1, rfl, h3⟩ := hw
    exact ⟨n, h', h1, h3⟩
  refine Wc.call (hI _ _ _ (.inl rfl)) fn35 rfl ?_
  generalize hA0 : (⟨T.ofList [.agg ⟨[.int .i64 k, .int .i64 m, .string tx, .slice sb ks.length sc]⟩] 0 .nil, max ([.agg ⟨[.int .i64 k, .int .i64 m, .string tx, .slice sb ks.length sc]⟩] : List Value).length Tryd.f35.ntmps, []⟩ : Ac) = A0
  have n0 : A0.n = 42 := by rw [← hA0]; rfl
  have g00 : A0.get 0 = .agg ⟨[.int .i64 k, .int .i64 m, .string tx, .slice sb ks.length sc]⟩ := by rw [← hA0]; rfl
  have d0 : A0.defers = [] := by rw [← hA0]
  have hl0 : (fresh h).log = [] := rfl
  have hgf : Grows h (fresh h) := fun _ _ hb => hb
  generalize hg : fresh h = g at hfit hl0 hgf
  have hmk : g.mark ≤ g.next := hfit.ok.2
  generalize hh1 : g.new (.cells (Value.agg ⟨[.int .i64 k, .int .i64 m, .string tx, .slice sb ks.length sc]⟩).cells.toList 25 none) = h1
  have a1 : Ahd g h1 := by rw [← hh1]; exact Ahd.new0 hfit rfl
  have b1 : h1.blk g.next = some (.cells [.int .i64 k, .int .i64 m, .string tx, .slice sb ks.length sc] 25 none) := by rw [← hh1]; exact new_blk_new rfl
  have n1 : h1.next = g.next + 1 := by rw [← hh1]; rfl
  generalize hh2 : h1.new (.cells (Value.int .i64 0).cells.toList 26 none) = h2
  have a2 : Ahd h1 h2 := by rw [← hh2]; exact Ahd.new0 a1.fit rfl
  have b2 : h2.blk (g.next + 1) = some (.cells [.int .i64 0] 26 none) := by rw [← hh2, ← n1]; exact new_blk_new rfl
  have n2 : h2.next = g.next + 2 := by rw [← hh2]; show h1.next + 1 = _; rw [n1]
  generalize hh3 : h2.new (.cells (Value.int .i64 0).cells.toList 3 none) = h3
  have a3 : Ahd h2 h3 := by rw [← hh3]; exact Ahd.new0 a2.fit rfl
  have b3 : h3.blk (g.next + 2) = some (.cells [.int .i64 0] 3 none) := by rw [← hh3, ← n2]; exact new_blk_new rfl
  have n3 : h3.next = g.next + 3 := by rw [← hh3]; show h2.next + 1 = _; rw [n2]
  have a13 := (a1.trans a2).trans a3
  have hst := st3 (i := 0) b3 (by rw [a13.mark]; omega)
  generalize hh4 : h3.setb (g.next + 2) (.cells [.int .i64 0] 3 none) = h4 at hst
  have a4 : Ahd g h4 := by rw [← hh4]; exact a13.setb rfl (by omega) (by omega) hfit
  have c1 : h4.blk g.next = some (.cells [.int .i64 k, .int .i64 m, .string tx, .slice sb ks.length sc] 25 none) := by rw [← hh4, setb_ne (by omega)]; exact a3.grows _ _ (a2.grows _ _ b1)
  have c2 : h4.blk (g.next + 1) = some (.cells [.int .i64 0] 26 none) := by rw [← hh4, setb_ne (by omega)]; exact a3.grows _ _ b2
  have c3 : h4.blk (g.next + 2) = some (.cells [.int .i64 0] 3 none) := by rw [← hh4]; exact setb_same rfl
  have n4 : h4.next = g.next + 3 := by rw [← hh4]; exact n3
  have cl1 : h4.cells E (own g.next) 4 = some [.int .i64 k, .int .i64 m, .string tx, .slice sb ks.length sc] := blk_cells c1 rfl rfl
  obtain ⟨nf, v7, h5, hc70, rfl, hh5⟩ := call70 (E := E) (J := I) (fun args h => hI _ args h (.inr (.inl rfl))) (a := .int .i64 k) (b := .int .i64 m) (c := .string tx) (d := .slice sb ks.length sc) h4
  have a5 : Ahd h4 h5 := by rw [hh5]; exact Ahd.new0 a4.fit rfl
  have b5 : h5.blk (g.next + 3) = some (.cells [.int .i64 k, .int .i64 m, .string tx, .slice sb ks.length sc] 25 none) := by rw [hh5, ← n4]; exact new_blk_new rfl
  have n5 : h5.next = g.next + 4 := by rw [hh5]; show h4.next + 1 = _; rw [n4]
  have a05 := a4.trans a5
  rw [n4] at hc70
  repeat' (first | (with_reducible apply Wc.seq) | (apply Wc.opsN nf; (focus ((repeat' (first | with_reducible exact RO.nil | ((with_reducible apply RO.run (awant_none rfl)); (focus ((first | simp +decide only [awant, ayield_get, oper1, aop, opv, opvs, opvo, opvp, abuiltin, aun, Ac.get_put, abin, isShift, aint, roV, pair, bind, Option.bind, acall, Sx, n0, d0, g00, tz26, tz3, hh1, hh2, hh3, n1, n2, n3, hst, ld25, cl1, hc70] | skip); with_reducible rfl))))); done))) | (refine Wc.cond2 (by simp +decide only [opv, Ac.get_put, Sx, n0, d0, g00, tz26, tz3, hh1, hh2, hh3, n1, n2, n3, hst, ld25, cl1, hc70]; try with_reducible rfl) (fun hb => ?_) (fun hb => ?_) <;> try contradiction) | refine Wc.skip ?_ | refine Wc.ret ?_ | refine Wc.exit ?_ | refine Wc.block ?_)
  refine Wc.forget (fun A => A.n = 42 ∧ A.defers = [] ∧ A.get 2 = .pointer (some (own (g.next + 1))) ∧ A.get 3 = .pointer (some (own (g.next + 2))) ∧ A.get 7 = .func (.func 109) ⟨[]⟩ ⟨[.pointer (some (own (g.next + 3)))]⟩) ⟨by simp +decide only [Ac.get_put, Sx, n0], by simp +decide only [Ac.get_put, Sx, d0], by simp +decide only [Ac.get_put, Sx, n0], by simp +decide only [Ac.get_put, Sx, n0], by simp +decide only [Ac.get_put, Sx, n0]⟩ ?_
  clear hA0 n0 g00 d0
  rintro A ⟨nA, dA, p2, p3, p7⟩
  generalize hr0 : (⟨.ready, none, 35, A.tmps, A.n, #[8, 9], asg35, bod35, g.next + 4⟩ : LoopR) = r0
  have fr0 : r0.state = .ready ∧ r0.pending = none := by rw [← hr0]; exact ⟨rfl, rfl⟩
  generalize hh6 : h5.new (.defd false) = h6
  have a6 : Ahd h5 h6 := by rw [← hh6]; exact Ahd.new0 a5.fit rfl
  have b6 : h6.blk (g.next + 4) = some (.defd false) := by rw [← hh6, ← n5]; exact new_blk_new rfl
  have n6 : h6.next = g.next + 5 := by rw [← hh6]; show h5.next + 1 = _; rw [n5]
  generalize hh7 : h6.new (.loop r0) = h7
  have a7 : Ahd h6 h7 := by rw [← hh7]; exact Ahd.new0 a6.fit rfl
  have b7 : h7.blk (g.next + 5) = some (.loop r0) := by rw [← hh7, ← n6]; exact new_blk_new rfl
  have n7 : h7.next = g.next + 6 := by rw [← hh7]; show h6.next + 1 = _; rw [n6]
  have a57 := a6.trans a7
  have a07 := a05.trans a57
  have m7 : h7.mark = g.mark := a07.mark
  have S7 : St35 h7 (g.next + 1) (g.next + 2) (g.next + 5) r0 true (0, 0) h7 :=
    ⟨a7.fit, a07.log.trans hl0, rfl, Keep.refl _ _, a57.grows _ _ (a5.grows _ _ c2), a57.grows _ _ (a5.grows _ _ c3), by rw [if_pos rfl]; exact b7, fun _ => ⟨rfl, by show (0 : Int) ≤ 0; omega, by show (0 : Int) ≤ 5000; omega⟩⟩
  have hrg : rep E g (.mk k m tx ks) (.agg ⟨[.int .i64 k, .int .i64 m, .string tx, .slice sb ks.length sc]⟩) := rep_grow hgf hr
  have hround := @round35 E I h7 (g.next + 1) (g.next + 2) (g.next + 5) (g.next + 4) (by omega) (by omega) (by rw [m7]; omega) A nA p2 p3
  rw [hr0] at hround
  have V : Vis E I stepC g (g.next + 5) h7.next (h7.next + 1) (fun k => k = g.next + 1 ∨ k = g.next + 2 ∨ k = g.next + 5)
      (fun b s g' => St35 h7 (g.next + 1) (g.next + 2) (g.next + 5) r0 b s g' ∧ (b = true → g'.blk h7.next = some (.cells [.func (.yield (g.next + 5)) ⟨[]⟩ ⟨[]⟩] 163 none) ∧ g'.blk (h7.next + 1) = some (.cells [.func (.func 110) ⟨[]⟩ ⟨[.pointer (some (own h7.next)), .pointer (some (own (h7.next + 1)))]⟩] 163 none))) := by
    have hM : ∀ k, h7.next ≤ k → ¬ (k = g.next + 1 ∨ k = g.next + 2 ∨ k = g.next + 5) := fun k hk => by rw [n7] at hk; omega
    refine ⟨fun S => S.1.fit, fun S k B hb => ?_, fun S => (S.2 rfl).1, fun S => (S.2 rfl).2, fun S a => ⟨S.1.ahd a, fun h => ⟨a.grows _ _ (S.2 h).1, a.grows _ _ (S.2 h).2⟩⟩, fun S k hk => hM k (Nat.le_trans S.1.keep.next hk), ?_⟩
    · have hlt := hfit.lt hb
      exact S.1.keep.blk k B (by omega) (a07.grows _ _ hb)
    · intro s g' lv t xv S hlv hlv2 hr
      obtain ⟨n, v, g'', e1, e2, e3, e4⟩ := hround S.1 hlv hlv2 hr
      exact ⟨n, v, g'', e1, e2, ⟨e3, fun _ => ⟨e4.blk _ _ (hM _ (Nat.le_refl _)) (S.2 rfl).1, e4.blk _ _ (hM _ (Nat.le_succ _)) (S.2 rfl).2⟩⟩, e4⟩
  obtain ⟨nc, vc, g8, hc109, rfl, ⟨S8, _⟩, kp⟩ := call109 (fun f args h hf => hI f args h (by rcases hf with h | h <;> simp [h])) V a7.fit (.mk k m tx ks) rfl (a57.grows _ _ b5) hrg hz (0, 0) (fun g' a q1 q2 => ⟨S7.ahd a, fun _ => ⟨q1, q2⟩⟩)
  rw [visitC _ _ _ (Int.le_refl _) (by decide)] at S8
  have hacall : acall (ev tab E I nc) (.func (.func 109) ⟨[]⟩ ⟨[.pointer (some (own (g.next + 3)))]⟩) [.func (.yield (h5.next + 1)) #[] #[]] ((h5.new (.defd false)).new (.loop ⟨.ready, none, 35, A.tmps, A.n, #[8, 9], asg35, bod35, h5.next⟩)) = some (.tuple #[], g8) := by
    rw [n5, hr0, hh6, hh7]
    exact hc109
  have hopv : opv A (.tmp 7) = some (.func (.func 109) ⟨[]⟩ ⟨[.pointer (some (own (g.next + 3)))]⟩) := by simp only [opv, p7]
  have m8 : g8.mark ≤ g.next := by rw [S8.mark, m7]; exact hmk
  have d8 : g8.blk (g.next + 4) = some (.defd false) := kp.blk _ _ (by omega) (a7.grows _ _ b6)
  have x8 : g.next + 6 ≤ g8.next := by rw [← n7]; exact kp.next
  by_cases hq : (chkI (.mk k m tx ks) 0 1).2 = 0
  · rw [afterC, if_pos hq] at S8
    have bl8 := S8.bl
    rw [if_pos rfl] at bl8
    refine Wc.range nc hopv hacall (r := r0) (by rw [n5]; exact bl8) (by rw [fr0.1]; decide) ?_
    simp only [fr0.2]
    rw [turn_above (by rw [n5]; omega), n5]
    generalize hh9 : g8.setb (g.next + 4 + 1) (.loop { r0 with state := .exhausted, pending := none }) = g9
    have R9 : g9.blk (g.next + 1) = some (.cells [.int .i64 0] 26 none) := by rw [← hh9, setb_ne (by omega)]; exact S8.bR
    have D9 : g9.blk (g.next + 4) = some (.defd false) := by rw [← hh9, setb_ne (by omega)]; exact d8
    have m9 : g9.mark ≤ g.next := by rw [← hh9]; exact m8
    have l9 : g9.log = [] := by rw [← hh9]; exact S8.log
    have hst9 := st26 (i := 0) R9 (by omega)
    generalize hh10 : g9.setb (g.next + 1) (.cells [.int .i64 0] 26 none) = g10 at hst9
    have R10 : g10.blk (g.next + 1) = some (.cells [.int .i64 0] 26 none) := by rw [← hh10]; exact setb_same rfl
    have D10 : g10.blk (g.next + 4) = some (.defd false) := by rw [← hh10, setb_ne (by omega)]; exact D9
    have m10 : g10.mark ≤ g.next := by rw [← hh10]; exact m9
    have l10 : g10.log = [] := by rw [← hh10]; exact l9
    have q2 : ∀ ds, (⟨A.tmps, A.n, ds⟩ : Ac).get 2 = .pointer (some (own (g.next + 1))) := fun _ => p2
    have qn : ∀ ds, (⟨A.tmps, A.n, ds⟩ : Ac).n = 42 := fun _ => nA
    repeat' (first | (with_reducible apply Wc.seq) | (apply Wc.ops; (focus ((repeat' (first | with_reducible exact RO.nil | ((with_reducible apply RO.run (awant_none rfl)); (focus ((first | simp +decide only [awant, ayield_get, oper1, aop, opv, opvs, opvo, opvp, abuiltin, aun, Ac.get_put, abin, isShift, aint, roV, pair, bind, Option.bind, acall, Sx, qn, q2, hst9] | skip); with_reducible rfl))))); done))) | (refine Wc.cond2 (by simp +decide only [opv, Ac.get_put, Sx, qn, q2, hst9]; try with_reducible rfl) (fun hb => ?_) (fun hb => ?_) <;> try contradiction) | refine Wc.skip ?_ | refine Wc.ret ?_ | refine Wc.exit ?_ | refine Wc.block ?_)
    refine done_cellD (d := g.next + 4) (a := own (g.next + 1)) (v := .int .i64 0) (.inr rfl) (by rw [dA]; rfl) D10 (by omega) rfl (by simp +decide only [Ac.get_put, Sx, q2]) ?_ ⟨by rw [hq], l10⟩
    rw [ld26]
    exact blk_cell0 (by rw [setb_ne (by omega)]; exact R10) rfl
  · rw [afterC, if_neg hq] at S8
    have bl8 := S8.bl
    rw [if_neg (by simp)] at bl8
    refine Wc.range nc hopv hacall (r := { r0 with state := .done, pending := some .ret }) (by rw [n5]; exact bl8) (by show LoopState.done ≠ LoopState.busy; decide) ?_
    simp only
    rw [turn_above (by rw [n5]; omega), n5]
    generalize hh9 : g8.setb (g.next + 4 + 1) (.loop { r0 with state := .exhausted, pending := some .ret }) = g9
    have R9 : g9.blk (g.next + 1) = some (.cells [.int .i64 (chkI (.mk k m tx ks) 0 1).2] 26 none) := by rw [← hh9, setb_ne (by omega)]; exact S8.bR
    have D9 : g9.blk (g.next + 4) = some (.defd false) := by rw [← hh9, setb_ne (by omega)]; exact d8
    have m9 : g9.mark ≤ g.next := by rw [← hh9]; exact m8
    have l9 : g9.log = [] := by rw [← hh9]; exact S8.log
    have q2 : ∀ ds, (⟨A.tmps, A.n, ds⟩ : Ac).get 2 = .pointer (some (own (g.next + 1))) := fun _ => p2
    refine Wc.ret ?_
    refine done_cellD (d := g.next + 4) (a := own (g.next + 1)) (v := .int .i64 (chkI (.mk k m tx ks) 0 1).2) (.inr rfl) (by rw [dA]) D9 (by omega) rfl (q2 _) ?_ ⟨rfl, l9⟩
    rw [ld26]
    exact blk_cell0 (by rw [setb_ne (by omega)]; exact R9) rfl
end Go.Proofs.YtofijpbmbmbnhaaDoor
