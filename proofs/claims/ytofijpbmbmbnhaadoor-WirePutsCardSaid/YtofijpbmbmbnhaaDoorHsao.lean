/- All paths in an item. -/
import Derived.Test.YtofijpbmbmbnhaaDoorHsan
set_option linter.unusedSimpArgs false
set_option linter.unusedVariables false
set_option maxRecDepth 100000
set_option maxHeartbeats 16000000
namespace Go.Proofs.YtofijpbmbmbnhaaDoor
open Go Go.Hs Go.Proofs
variable {E : Env} {I : Known}
theorem fn41 : tab.fn.get 41 = some Tryd.f41 := by kernel_rfl
noncomputable def loop41 : Code := loopOf Tryd.f41
theorem pbs53 (n : Int) {h : H} : abuildSlice tab 53 1 [(0, .int .i64 n)] h = some (.slice (some (own h.next)) 1 1, h.new (.cells [.int .i64 n] 3 none)) := by
  unfold abuildSlice
  simp only [qty53, qtz3]
  rfl
theorem pbs68 (b : Option Addr) (n c : Nat) {h : H} : abuildSlice tab 68 1 [(0, .slice b n c)] h = some (.slice (some (own h.next)) 1 1, h.new (.cells [.slice b n c] 53 none)) := by
  unfold abuildSlice
  simp only [qty68, qtz53]
  rfl
theorem pza53 (b : Option Addr) (n c : Nat) : zeroArg tab 53 (.slice b n c) = some false := by unfold zeroArg; rw [qty53]
theorem pza68 (b : Option Addr) (n c : Nat) : zeroArg tab 68 (.slice b n c) = some false := by unfold zeroArg; rw [qty68]
theorem anil53_0 (b : Option Addr) (n c : Nat) (m d : Nat) : anil tab 53 (.slice none m d) (.slice b n c) = some b.isNone := by
  unfold anil
  rw [qty53]
theorem roomy_le {n b : Nat} (hb : b ≤ 24) (hn : n ≤ 2000000) : roomy n b = true := by
  unfold roomy
  simp only [Bool.and_eq_true, Nat.ble_eq]
  have : n * b ≤ 2000000 * 24 := Nat.mul_le_mul hn hb
  omega
theorem clone75n (hI : ∀ args h, I 75 args h = none) {h : H} {sp : Value} {p : List Nat} (f : Fit h) (hb : Nums E h sp p) (hl : p.length ≤ 1000000) :
    ∃ n v h', (ev tab E I n).call 75 [sp] h = some (v, h') ∧ (Ahd h h' ∧ ∃ ro, Ap3 h' h.next 3 1 v p.length (natsV p) ro ∧ (ro = none → p = [])) := by
  obtain ⟨b, c, rfl, hv⟩ := hb
  refine Wc.call (hI _ _) fn75 rfl ?_
  generalize hA0 : (⟨T.ofList [.slice b p.length c] 0 .nil, max ([.slice b p.length c] : List Value).length Tryd.f75.ntmps, []⟩ : Ac) = A0
  have n0 : A0.n = 8 := by rw [← hA0]; rfl
  have q0 : A0.get 0 = .slice b p.length c := by rw [← hA0]; rfl
  have d0 : A0.defers = [] := by rw [← hA0]
  clear hA0
  rcases b with _ | a
  · have hp0 : p = [] := by
      rcases hv with h | ⟨a, h, _⟩
      · exact h
      · cases h
    subst hp0
    repeat' (first | (with_reducible apply Wc.seq) | (apply Wc.ops; (focus ((repeat' (first | with_reducible exact RO.nil | ((with_reducible apply RO.run (awant_none rfl)); (focus ((first | simp +decide only [awant, ayield_get, oper1, aop, opv, opvs, opvo, opvp, abuiltin, aun, Ac.get_put, abin, isShift, aint, roV, pair, bind, Option.bind, acall, Sx, n0, q0, anil53_0, Option.isNone_none] | skip); with_reducible rfl))))); done))) | (refine Wc.cond2 (by simp +decide only [opv, Ac.get_put, Sx, n0, q0, anil53_0, Option.isNone_none]; try with_reducible rfl) (fun hb => ?_) (fun hb => ?_) <;> try contradiction) | refine Wc.skip ?_ | refine Wc.ret ?_ | refine Wc.exit ?_ | refine Wc.block ?_)
    exact done_q (v := .slice none 0 0) (.inr rfl) (by simp +decide only [Ac.get_put, Sx, d0]) rfl (by simp +decide only [Ac.get_put, Sx, n0]) ⟨Ahd.refl f, none, .inl (.inl ⟨rfl, rfl, rfl, rfl⟩), fun _ => rfl⟩
  · have hcs : h.cells E a (p.length * 1) = some (natsV p) := by
      rw [Nat.mul_one]
      rcases hv with rfl | ⟨a', h1, h2⟩
      · rfl
      · cases h1; exact h2
    obtain ⟨s, h', happ, hcl⟩ := clone_step (D := tab) (E := E) (t := 53) (e := 3) (sz := 1) (by_ := 8) (n := p.length) (c := c) (a := a) f qty53 qtz3 rfl hcs (by rw [natsV_length, Nat.mul_one]) (roomy_le (by omega) (by omega))
    obtain ⟨k', rt', rfl, hk', hk1, hrt⟩ := hcl.get
    repeat' (first | (with_reducible apply Wc.seq) | (apply Wc.ops; (focus ((repeat' (first | with_reducible exact RO.nil | ((with_reducible apply RO.run (awant_none rfl)); (focus ((first | simp +decide only [awant, ayield_get, oper1, aop, opv, opvs, opvo, opvp, abuiltin, aun, Ac.get_put, abin, isShift, aint, roV, pair, bind, Option.bind, acall, Sx, n0, q0, anil53_1, bs53_0, happ] | skip); with_reducible rfl))))); done))) | (refine Wc.cond2 (by simp +decide only [opv, Ac.get_put, Sx, n0, q0, anil53_1, bs53_0, happ]; try with_reducible rfl) (fun hb => ?_) (fun hb => ?_) <;> try contradiction) | refine Wc.skip ?_ | refine Wc.ret ?_ | refine Wc.exit ?_ | refine Wc.block ?_)
    refine done_q (v := .slice (some (own k')) p.length p.length) (.inr rfl) (by simp +decide only [Ac.get_put, Sx, d0]) rfl (by simp +decide only [Ac.get_put, Sx, n0]) ⟨hcl.ahd, ?_⟩
    rcases hrt with ⟨rfl, h0⟩ | ⟨rfl, hch⟩
    · exact ⟨none, .inr ⟨k', rfl, hk', by rw [natsV_length, Nat.mul_one], natsV_one p, rfl⟩, fun _ => List.length_eq_zero_iff.1 h0⟩
    · refine ⟨some k', .inl (.inr ⟨k', k', rfl, hk', by rw [natsV_length, Nat.mul_one], natsV_one p, hk1, hcl.ahd.fit.lt hk', fun j hj => ?_, rfl⟩), fun h => by cases h⟩
      rw [hch] at hj
      obtain rfl := List.mem_singleton.1 hj
      exact ⟨_, _, _, H.blk_dyn hk', by rw [natsV_length]; omega⟩
theorem all41 (hI : ∀ f args h, (f = 41 ∨ f = 75) → I f args h = none) : ∀ (s : Nat) (t : Hs.Item) (xv sp : Value) (p : List Nat) (h : H), isz t ≤ s → rep E h t xv → Nums E h sp p → Fit h → p.length + isz t ≤ 1000000 →
    ∃ n v h', (ev tab E I n).call 41 [xv, sp] h = some (v, h') ∧ (Ahd h h' ∧ ∃ ro, Pl E 53 h.next h' v ((allP t).map (p ++ ·)) ro) := by
  intro s
  induction s with
  | zero => intro t xv sp p h hs; have := isz_pos t; omega
  | succ s IH =>
  intro t xv sp p h hs hr hp f hz
  obtain ⟨k, m, tx, ks⟩ := t
  have hp0 := hp
  obtain ⟨bp, cp, rfl, hv⟩ := hp
  obtain ⟨sb, sc, rfl, hsk⟩ := rep_slice hr
  have hall : allP (.mk k m tx ks) = [] :: allPL ks 0 := by rw [allP]
  rw [isz] at hs hz
  have hlenL := allPL_length ks 0
  have hkl := len_iszE ks
  generalize hh1 : h.new (.cells (Value.agg ⟨[.int .i64 k, .int .i64 m, .string tx, .slice sb ks.length sc]⟩).cells.toList 25 none) = h1
  have t1 : Ahd h h1 := by rw [← hh1]; exact Ahd.new0 f rfl
  have k1 : h1.blk h.next = some (.cells [.int .i64 k, .int .i64 m, .string tx, .slice sb ks.length sc] 25 none) := by rw [← hh1]; exact new_blk_new rfl
  generalize hh2 : h1.new (.cells [.slice bp p.length cp] 53 none) = h2
  have t2 : Ahd h1 h2 := by rw [← hh2]; exact Ahd.new0 t1.fit rfl
  have k2 : h2.blk h1.next = some (.cells [.slice bp p.length cp] 53 none) := by rw [← hh2]; exact new_blk_new rfl
  have l3 : h2.cell E (aadd (own h.next) 3) = some (.slice sb ks.length sc) := blk_cell (i := 3) (t2.grows _ _ k1) rfl rfl
  have T2 := t1.trans t2
  have hP0 : Pl E 53 h.next h2 (.slice (some (own h1.next)) 1 1) [p] none := ⟨[.slice bp p.length cp], .inr ⟨h1.next, rfl, k2, rfl, rfl, rfl⟩, ⟨_, [], rfl, hp0.grow T2.grows, rfl⟩⟩
  refine Wc.call (hI _ _ _ (.inl rfl)) fn41 rfl ?_
  generalize hA0 : (⟨T.ofList [.agg ⟨[.int .i64 k, .int .i64 m, .string tx, .slice sb ks.length sc]⟩, .slice bp p.length cp] 0 .nil, max ([.agg ⟨[.int .i64 k, .int .i64 m, .string tx, .slice sb ks.length sc]⟩, .slice bp p.length cp] : List Value).length Tryd.f41.ntmps, []⟩ : Ac) = A0
  have n0 : A0.n = 30 := by rw [← hA0]; rfl
  have q0 : A0.get 0 = .agg ⟨[.int .i64 k, .int .i64 m, .string tx, .slice sb ks.length sc]⟩ := by rw [← hA0]; rfl
  have q1 : A0.get 1 = .slice bp p.length cp := by rw [← hA0]; rfl
  have d0 : A0.defers = [] := by rw [← hA0]
  clear hA0
  (repeat' (with_reducible apply Wc.seq)); (apply Wc.opsN 1; (focus ((repeat' (first | with_reducible exact RO.nil | ((with_reducible apply RO.run (awant_none rfl)); (focus ((first | simp +decide only [awant, ayield_get, oper1, aop, opv, opvs, opvo, opvp, abuiltin, aun, Ac.get_put, abin, isShift, aint, roV, pair, bind, Option.bind, acall, Sx, n0, q0, hh1] | skip); with_reducible rfl))))); done)))
  (repeat' (with_reducible apply Wc.seq)); (apply Wc.opsN 1; (focus ((repeat' (first | with_reducible exact RO.nil | ((with_reducible apply RO.run (awant_none rfl)); (focus ((first | simp +decide only [awant, ayield_get, oper1, aop, opv, opvs, opvo, opvp, abuiltin, aun, Ac.get_put, abin, isShift, aint, roV, pair, bind, Option.bind, acall, Sx, n0, q1, pbs68, hh2] | skip); with_reducible rfl))))); done)))
  repeat' (first | (with_reducible apply Wc.seq) | (apply Wc.ops; (focus ((repeat' (first | with_reducible exact RO.nil | ((with_reducible apply RO.run (awant_none rfl)); (focus ((first | simp +decide only [awant, ayield_get, oper1, aop, opv, opvs, opvo, opvp, abuiltin, aun, Ac.get_put, abin, isShift, aint, roV, pair, bind, Option.bind, acall, Sx, n0, qfa25_3, Qx, Hx, l3] | skip); with_reducible rfl))))); done))) | (refine Wc.cond2 (by simp +decide only [opv, Ac.get_put, Sx, n0, qfa25_3, Qx, Hx, l3]; try with_reducible rfl) (fun hb => ?_) (fun hb => ?_) <;> try contradiction) | refine Wc.skip ?_ | refine Wc.ret ?_ | refine Wc.exit ?_ | refine Wc.block ?_)
  have key : ∀ (r i : Nat) (s5 : Value) (ps : List (List Nat)) (ro : Option Nat) (A0 : Ac) (g : H), r = ks.length - i → i ≤ ks.length → A0.n = 30 → A0.defers = [] → A0.get 1 = .slice bp p.length cp → A0.get 2 = .pointer (some (own h.next)) → A0.get 5 = s5 → A0.get 11 = .int .i64 (ks.length : Nat) → A0.get 12 = .int .i64 (i : Nat) →
      Ahd h g → g.blk h.next = some (.cells [.int .i64 k, .int .i64 m, .string tx, .slice sb ks.length sc] 25 none) → Pl E 53 h.next g s5 ps ro → ps ++ (allPL (ks.drop i) i).map (p ++ ·) = ([] :: allPL ks 0).map (p ++ ·) →
      Wc tab E I ⟨41, none⟩ (.loop loop41) A0 g (fun ex A g => ex = .exit 0 ∧ A.n = 30 ∧ A.defers = [] ∧ ∃ s5 ro, A.get 5 = s5 ∧ Ahd h g ∧ Pl E 53 h.next g s5 (([] :: allPL ks 0).map (p ++ ·)) ro) := by
    intro r
    induction r with
    | zero =>
      intro i s5 ps ro A0 g hr' hi n0 d0 q1 q2 q5 q11 q12 ag b1 P hps
      obtain rfl : i = ks.length := by omega
      have e1 : decide ((ks.length : Int) < (ks.length : Int)) = false := by simp
      rw [List.drop_length, allPL, List.map_nil, List.append_nil] at hps
      apply Wc.loop
      simp only [loop41, loopOf, firstLoop, Option.getD, Tryd.f41]
      repeat' (first | (with_reducible apply Wc.seq) | (apply Wc.ops; (focus ((repeat' (first | with_reducible exact RO.nil | ((with_reducible apply RO.run (awant_none rfl)); (focus ((first | simp +decide only [awant, ayield_get, oper1, aop, opv, opvs, opvo, opvp, abuiltin, aun, Ac.get_put, abin, isShift, aint, roV, pair, bind, Option.bind, acall, Sx, n0, q11, q12, e1] | skip); with_reducible rfl))))); done))) | (refine Wc.cond2 (by simp +decide only [opv, Ac.get_put, Sx, n0, q11, q12, e1]; try with_reducible rfl) (fun hb => ?_) (fun hb => ?_) <;> try contradiction) | refine Wc.skip ?_ | refine Wc.ret ?_ | refine Wc.exit ?_ | refine Wc.block ?_)
      exact ⟨rfl, by simp +decide only [Ac.get_put, Sx, n0], by simp +decide only [Ac.get_put, Sx, d0], s5, ro, by simp +decide only [Ac.get_put, Sx, n0, q5], ag, by rw [← hps]; exact P⟩
    | succ r ih =>
      intro i s5 ps ro A0 g hr' hi n0 d0 q1 q2 q5 q11 q12 ag b1 P hps
      have hil : i < ks.length := by omega
      have e1 : decide ((i : Int) < (ks.length : Int)) = true := decide_eq_true (by omega)
      have hir : inRange (i : Int) ks.length = true := by
        show Nat.blt i ks.length = true
        rw [Nat.blt_eq]; exact hil
      have w4 : IntKind.i64.wrap ((i : Int) + 1) = ((i + 1 : Nat) : Int) := wrap64 (by omega) (by omega)
      rcases hsk with hk0 | ⟨a, cs, rfl, hcap, hcs, hrl⟩
      · rw [hk0] at hil; simp at hil
      obtain ⟨hl4, hrk⟩ := repL_get i hrl (List.getElem?_eq_getElem hil)
      obtain ⟨x0, x1, x2, x3, hq, hone⟩ := rep_four hrk
      simp only [Value.agg.injEq, Array.mk.injEq] at hq
      have hsub := cells_sub (cells_grow ag.grows hcs) (m := i * 4) (l := 4) (by omega)
      rw [hq] at hsub hrk
      have hkz := isz_mem (show ks[i] ∈ ks from List.getElem_mem hil)
      have hkp := isz_pos ks[i]
      have hcnt : ps.length + (allP ks[i]).length ≤ 1000000 := by
        have := congrArg List.length hps
        rw [allPL_drop hil] at this
        simp only [List.length_append, List.length_map, List.length_cons] at this
        rw [allP_length] at this ⊢
        omega
      have l3 : g.cell E (aadd (own h.next) 3) = some (.slice (some a) ks.length sc) := blk_cell (i := 3) b1 rfl rfl
      obtain ⟨n75, v22, z1, c75, a75, r22, ap22, _⟩ := clone75n (E := E) (I := I) (fun args h => hI _ args h (.inr rfl)) (h := fresh g) ag.fit.fresh (hp0.grow (g := fresh g) ag.grows) (by omega)
      have ap22 : Ap3 (back g z1) g.next 3 1 v22 p.length (natsV p) r22 := ap22.back
      obtain ⟨u1, _, _, _⟩ := Ahd.back ag.fit a75
      have hl1 : z1.log = [] := a75.log
      generalize hg1 : back g z1 = g1 at u1 ap22
      have u2 : Ahd g1 (g1.new (.cells [.int .i64 (i : Nat)] 3 none)) := Ahd.new0 u1.fit rfl
      have b2 : (g1.new (.cells [.int .i64 (i : Nat)] 3 none)).blk g1.next = some (.cells [.int .i64 (i : Nat)] 3 none) := new_blk_new rfl
      have ap22' := (ap22.grow u1.fit u2).fresh
      generalize hg2 : g1.new (.cells [.int .i64 (i : Nat)] 3 none) = g2 at u2 b2 ap22'
      have U2 := u1.trans u2
      obtain ⟨s25, z3, r25, happ, ap25, gk3, _⟩ := apk_step (D := tab) (E := E) (t := 53) (t2 := 53) (m := 0) (c := 1) (ax := own g1.next) u2.fit.fresh U2.next ap22' qty53 qtz3 rfl (pza53 _ _ _) (blk_cells (h := fresh g2) b2 rfl rfl) rfl rfl (roomy_le (by omega) (by omega))
      obtain ⟨gk3, hl3⟩ := gk3.back u2.fit
      have u3 := U2.gkA gk3 (fun r hr => (ap22.root r hr).1)
      have n25 : Nums E (back g2 z3) s25 (p ++ [i]) := by
        refine Ap3.nums (base := g.next) (e := 3) (ro := r25) ?_
        rw [natsV_append, List.length_append]
        exact Ap3.back (.inl ap25)
      generalize hg3 : back g2 z3 = g3 at u3 n25
      obtain ⟨n41, v26, z4, c41, a41, r26, pl4⟩ := IH ks[i] _ s25 (p ++ [i]) (fresh g3) (by omega) (rep_grow (h' := fresh g3) (ag.grows.trans u3.grows) hrk) (n25.grow (g := fresh g3) (fun _ _ h => h)) u3.fit.fresh (by rw [List.length_append]; simp only [List.length_singleton]; omega)
      have pl4 : Pl E 53 g3.next (back g3 z4) v26 ((allP ks[i]).map ((p ++ [i]) ++ ·)) r26 := pl4.back
      obtain ⟨u4, _, _, _⟩ := Ahd.back u3.fit a41
      have hl4' : z4.log = [] := a41.log
      generalize hg4 : back g3 z4 = g4 at u4 pl4
      have U4 := u3.trans u4
      obtain ⟨vs4, ap4, nl4⟩ := pl4
      rw [List.length_map] at ap4
      obtain ⟨k4, rt4, rfl, hb4, hbl4, hbo4⟩ : ∃ k4 rt4, v26 = .slice (some (own k4)) (allP ks[i]).length (allP ks[i]).length ∧ g4.blk k4 = some (.cells vs4 53 rt4) ∧ vs4.length = (allP ks[i]).length * 1 ∧ vs4.all isOne = true := by
        rcases ap4.get with ⟨h1, _⟩ | h1
        · rw [allP_length] at h1; omega
        · exact h1
      obtain ⟨vs, aps, nls⟩ := P
      obtain ⟨l, hl⟩ : ∃ l, (allP ks[i]).length = l + 1 := ⟨(allP ks[i]).length - 1, by rw [allP_length]; omega⟩
      rw [hl] at hbl4 hcnt c41
      obtain ⟨s27, z5, r27, happ5, ap27, gk5, hroo⟩ := apk_step (D := tab) (E := E) (t := 68) (t2 := 68) (m := l) (c := l + 1) (ax := own k4) U4.fit.fresh (Nat.le_trans ag.next U4.next) (aps.grow ag.fit U4).fresh qty68 qtz53 rfl (pza68 _ _ _) (blk_cells (h := fresh g4) hb4 hbl4 hbo4) hbl4 hbo4 (roomy_le (by omega) (by omega))
      obtain ⟨gk5, hl5⟩ := gk5.back U4.fit
      have ag4 := ag.trans U4
      have ag5 := ag4.gkA gk5 (fun r hr => (aps.root r hr).1)
      have P5 : Pl E 53 h.next (back g4 z5) s27 (ps ++ (allP ks[i]).map ((p ++ [i]) ++ ·)) r27 := by
        refine ⟨vs ++ vs4, ?_, (nls.grow (U4.grows.trans gk5.grows)).append (nl4.grow gk5.grows)⟩
        rw [List.length_append, List.length_map, hl]
        exact Ap3.back (.inl ap27)
      have b15 : (back g4 z5).blk h.next = some (.cells [.int .i64 k, .int .i64 m, .string tx, .slice (some a) ks.length sc] 25 none) := gk5.grows _ _ (U4.grows _ _ b1)
      generalize hg5 : back g4 z5 = g5 at ag5 P5 b15
      have hps' : (ps ++ (allP ks[i]).map ((p ++ [i]) ++ ·)) ++ (allPL (ks.drop (i + 1)) (i + 1)).map (p ++ ·) = ([] :: allPL ks 0).map (p ++ ·) := by
        rw [← hps, allPL_drop hil, List.map_append, List.map_map, List.append_assoc]
        congr 2
        exact List.map_congr_left fun q _ => by simp
      have c75f := (ev_mono (D := tab) (E := E) I (show n75 ≤ n75 + n41 by omega)).call c75
      have c41f := (ev_mono (D := tab) (E := E) I (show n41 ≤ n75 + n41 by omega)).call c41
      apply Wc.loop
      simp only [loop41, loopOf, firstLoop, Option.getD, Tryd.f41]
      repeat' (first | (with_reducible apply Wc.seq) | (apply Wc.ops; (focus ((repeat' (first | with_reducible exact RO.nil | ((with_reducible apply RO.run (awant_none rfl)); (focus ((first | simp +decide only [awant, ayield_get, oper1, aop, opv, opvs, opvo, opvp, abuiltin, aun, Ac.get_put, abin, isShift, aint, roV, pair, bind, Option.bind, acall, Sx, n0, q11, q12, e1] | skip); with_reducible rfl))))); done))) | (refine Wc.cond2 (by simp +decide only [opv, Ac.get_put, Sx, n0, q11, q12, e1]; try with_reducible rfl) (fun hb => ?_) (fun hb => ?_) <;> try contradiction) | refine Wc.skip ?_ | refine Wc.ret ?_ | refine Wc.exit ?_ | refine Wc.block ?_)
      refine Wc.drawC (n75 + n41) (by kernel_rfl) ?_
      (iterate 7 (first | ((apply FC.pure rfl rfl); (focus ((first | simp +decide only [awant, ayield_get, oper1, aop, opv, opvs, opvo, opvp, abuiltin, aun, Ac.get_put, abin, isShift, aint, roV, pair, bind, Option.bind, acall, Sx, n0, q1, q2, q5, q12, qfa25_3, Qx, Hx, l3, qia23 _ _ _ _ hir, Int.toNat_natCast, hsub] | skip); with_reducible rfl))) | ((apply FC.new rfl rfl); (focus ((first | simp +decide only [awant, ayield_get, oper1, aop, opv, opvs, opvo, opvp, abuiltin, aun, Ac.get_put, abin, isShift, aint, roV, pair, bind, Option.bind, acall, Sx, n0, q1, q2, q5, q12, qfa25_3, Qx, Hx, l3, qia23 _ _ _ _ hir, Int.toNat_natCast, hsub] | skip); with_reducible rfl)))))
      refine FC.call (h1 := z1) (x := v22) rfl rfl (by simp +decide only [awant, ayield_get, oper1, aop, opv, opvs, opvo, opvp, abuiltin, aun, Ac.get_put, abin, isShift, aint, roV, pair, bind, Option.bind, acall, Sx, n0, c75f]) hl1 ?_
      rw [hg1]
      (iterate 2 (first | ((apply FC.pure rfl rfl); (focus ((first | simp +decide only [awant, ayield_get, oper1, aop, opv, opvs, opvo, opvp, abuiltin, aun, Ac.get_put, abin, isShift, aint, roV, pair, bind, Option.bind, acall, Sx, n0, q12, pbs53, Hx] | skip); with_reducible rfl))) | ((apply FC.new rfl rfl); (focus ((first | simp +decide only [awant, ayield_get, oper1, aop, opv, opvs, opvo, opvp, abuiltin, aun, Ac.get_put, abin, isShift, aint, roV, pair, bind, Option.bind, acall, Sx, n0, q12, pbs53, Hx] | skip); with_reducible rfl)))))
      rw [hg2]
      refine FC.call (h1 := z3) (x := s25) rfl rfl (by simp +decide only [awant, ayield_get, oper1, aop, opv, opvs, opvo, opvp, abuiltin, aun, Ac.get_put, abin, isShift, aint, roV, pair, bind, Option.bind, acall, Sx, n0, happ, Hx]) hl3 ?_
      rw [hg3]
      refine FC.call (h1 := z4) (x := .slice (some (own k4)) (l + 1) (l + 1)) rfl rfl (by simp +decide only [awant, ayield_get, oper1, aop, opv, opvs, opvo, opvp, abuiltin, aun, Ac.get_put, abin, isShift, aint, roV, pair, bind, Option.bind, acall, Sx, n0, c41f]) hl4' ?_
      rw [hg4]
      refine FC.call (h1 := z5) (x := s27) rfl rfl (by simp +decide only [awant, ayield_get, oper1, aop, opv, opvs, opvo, opvp, abuiltin, aun, Ac.get_put, abin, isShift, aint, roV, pair, bind, Option.bind, acall, Sx, n0, q5, happ5]) hl5 ?_
      rw [hg5]
      (iterate 1 (first | ((apply FC.pure rfl rfl); (focus ((first | simp +decide only [awant, ayield_get, oper1, aop, opv, opvs, opvo, opvp, abuiltin, aun, Ac.get_put, abin, isShift, aint, roV, pair, bind, Option.bind, acall, Sx, n0] | skip); with_reducible rfl))) | ((apply FC.new rfl rfl); (focus ((first | simp +decide only [awant, ayield_get, oper1, aop, opv, opvs, opvo, opvp, abuiltin, aun, Ac.get_put, abin, isShift, aint, roV, pair, bind, Option.bind, acall, Sx, n0] | skip); with_reducible rfl)))))
      refine FC.nil ?_
      repeat' (first | (with_reducible apply Wc.seq) | (apply Wc.ops; (focus ((repeat' (first | with_reducible exact RO.nil | ((with_reducible apply RO.run (awant_none rfl)); (focus ((first | simp +decide only [awant, ayield_get, oper1, aop, opv, opvs, opvo, opvp, abuiltin, aun, Ac.get_put, abin, isShift, aint, roV, pair, bind, Option.bind, acall, Sx, n0, q12, w4] | skip); with_reducible rfl))))); done))) | (refine Wc.cond2 (by simp +decide only [opv, Ac.get_put, Sx, n0, q12, w4]; try with_reducible rfl) (fun hb => ?_) (fun hb => ?_) <;> try contradiction) | refine Wc.skip ?_ | refine Wc.ret ?_ | refine Wc.exit ?_ | refine Wc.block ?_)
      refine ih (i + 1) s27 _ r27 _ g5 (by omega) (by omega) ?_ ?_ ?_ ?_ ?_ ?_ ?_ ag5 b15 P5 hps'
      · simp +decide only [Ac.get_put, Sx, n0]
      · simp +decide only [Ac.get_put, Sx, d0]
      · simp +decide only [Ac.get_put, Sx, n0, q1]
      · simp +decide only [Ac.get_put, Sx, n0, q2]
      · simp +decide only [Ac.get_put, Sx, n0]
      · simp +decide only [Ac.get_put, Sx, n0, q11]
      · simp +decide only [Ac.get_put, Sx, n0]
  refine (key ks.length 0 _ [p] none _ h2 rfl (Nat.zero_le _) ?_ ?_ ?_ ?_ ?_ ?_ ?_ T2 (t2.grows _ _ k1) hP0 (by simp)).mono ?_
  · simp +decide only [Ac.get_put, Sx, n0]
  · simp +decide only [Ac.get_put, Sx, d0]
  · simp +decide only [Ac.get_put, Sx, n0, q1]
  · simp +decide only [Ac.get_put, Sx, n0]
  · simp +decide only [Ac.get_put, Sx, n0]
  · simp +decide only [Ac.get_put, Sx, n0]
  · simp +decide only [Ac.get_put, Sx, n0]
    rfl
  rintro ex A0 g ⟨rfl, n0, d0, s5, ro, q5, ag, P⟩
  simp only [if_true]
  repeat' (first | (with_reducible apply Wc.seq) | (apply Wc.ops; (focus ((repeat' (first | with_reducible exact RO.nil | ((with_reducible apply RO.run (awant_none rfl)); (focus ((first | simp +decide only [awant, ayield_get, oper1, aop, opv, opvs, opvo, opvp, abuiltin, aun, Ac.get_put, abin, isShift, aint, roV, pair, bind, Option.bind, acall, Sx, n0, q5] | skip); with_reducible rfl))))); done))) | (refine Wc.cond2 (by simp +decide only [opv, Ac.get_put, Sx, n0, q5]; try with_reducible rfl) (fun hb => ?_) (fun hb => ?_) <;> try contradiction) | refine Wc.skip ?_ | refine Wc.ret ?_ | refine Wc.exit ?_ | refine Wc.block ?_)
  exact done_q (v := s5) (.inr rfl) (by simp +decide only [Ac.get_put, Sx, d0]) rfl (by simp +decide only [Ac.get_put, Sx, n0]) ⟨ag, ro, by rw [hall]; exact P⟩
end Go.Proofs.YtofijpbmbmbnhaaDoor
/- Find: where an item is found. -/
set_option maxRecDepth 100000
set_option maxHeartbeats 16000000
namespace Go.Proofs.YtofijpbmbmbnhaaDoor
open Go Go.Hs Go.Proofs
variable {E : Env} {I : Known}
theorem fn43 : tab.fn.get 43 = some Tryd.f43 := by kernel_rfl
theorem fn77 : tab.fn.get 77 = some Tryd.f77 := by kernel_rfl
noncomputable def loop77 : Code := loopOf Tryd.f77
theorem qty123 : tab.ty.get 123 = some ⟨.func, 1, 8, some .nilFunc, true⟩ := by kernel_rfl
theorem qtz123 : tzero tab 123 = some .nilFunc := by unfold tzero; rw [qty123]
theorem qld123 (a : Addr) {h : H} : aload tab E 123 a h = h.cell E a := by unfold aload; rw [qty123]; rfl
def clo77 (kY kO kW : Nat) : Value := .func (.func 77) ⟨[]⟩ ⟨[.pointer (some (own kY)), .pointer (some (own kO)), .pointer (some (own kW))]⟩
theorem find77 (hI : ∀ f args h, (f = 77 ∨ f = 75) → I f args h = none) (h66 : ∀ t xv u yv h, rep E h t xv → rep E h u yv → isz t ≤ 1000000 → I 66 [xv, yv] h = some (some (.int .i64 (ordI t u), h))) {h0 : H} (f0 : Fit h0) {y : Hs.Item} {kY kO kW : Nat} {y0 y1 y2 y3 : Value} (hy : rep E h0 y (.agg ⟨[y0, y1, y2, y3]⟩)) (hOY : kO ≠ kY) (hOW : kO ≠ kW) (hO : h0.next ≤ kO) :
    ∀ (s : Nat) (t : Hs.Item) (xv sp : Value) (p : List Nat) (rt : Option Nat) (ps : List (List Nat)) (h : H), isz t ≤ s → rep E h0 t xv → Grows h0 h → Fit h → h0.next ≤ h.next → h.blk kY = some (.cells [y0, y1, y2, y3] 25 none) → h.blk kW = some (.cells [clo77 kY kO kW] 123 none) →
      Pth 3 h sp (natsV p) rt → (∀ r, rt = some r → h0.next ≤ r ∧ ChainOk h0.next 3 h r (fun _ l => l ≤ p.length)) → Fo h0.next kO rt h ps → p.length + isz t ≤ 1000000 → ps.length + isz t ≤ 1000000 →
      ∃ n v h', (ev tab E I n).call 77 [xv, sp, .pointer (some (own kY)), .pointer (some (own kO)), .pointer (some (own kW))] h = some (v, h') ∧ (v = .tuple #[] ∧ Xo h0.next 3 kO rt h h' ∧ Fo h0.next kO rt h' (ps ++ (fndI y t).map (p ++ ·))) := by
  intro s
  induction s with
  | zero => intro t xv sp p rt ps h hs; have := isz_pos t; omega
  | succ s IH =>
  intro t xv sp p rt ps h hs hr hg f hn bY bW P hok O hlp hlps
  obtain ⟨k, m, tx, ks⟩ := t
  obtain ⟨sb, sc, rfl, hsk⟩ := rep_slice hr
  have hfnd : fndI y (.mk k m tx ks) = (if ordI (.mk k m tx ks) y = 0 then [[]] else []) ++ fndL y ks 0 := by rw [fndI]
  have lt := P.lt f
  have hz0 := hlp
  rw [isz] at hs hlp hlps
  have hkl := len_iszE ks
  obtain ⟨s0, ro0, vs0, bO, _⟩ := id O
  generalize hh1 : h.new (.cells (Value.agg ⟨[.int .i64 k, .int .i64 m, .string tx, .slice sb ks.length sc]⟩).cells.toList 25 none) = h1
  have t1 : Ahd h h1 := by rw [← hh1]; exact Ahd.new0 f rfl
  have k1 : h1.blk h.next = some (.cells [.int .i64 k, .int .i64 m, .string tx, .slice sb ks.length sc] 25 none) := by rw [← hh1]; exact new_blk_new rfl
  have hOh : kO < h.next := f.lt bO
  have l1 : h1.cells E (own h.next) 4 = some [.int .i64 k, .int .i64 m, .string tx, .slice sb ks.length sc] := blk_cells k1 rfl rfl
  obtain ⟨y0', y1', y2', y3', e4, oy⟩ := rep_four hy
  simp only [Value.agg.injEq, Array.mk.injEq] at e4
  rw [← e4] at oy
  clear e4 y0' y1' y2' y3'
  have l2 : h1.cells E (own kY) 4 = some [y0, y1, y2, y3] := blk_cells (t1.grows _ _ bY) rfl oy
  have c66 := ev_known (D := tab) (E := E) (h66 _ _ _ _ h1 (rep_grow (hg.trans t1.grows) hr) (rep_grow (hg.trans t1.grows) hy) (by omega))
  have lY : h1.blk kY = some (.cells [y0, y1, y2, y3] 25 none) := t1.grows _ _ bY
  have X1 : Xo h0.next 3 kO rt h h1 := t1.xo hn lt
  have O1 := O.ahd f t1
  have hNums := P.nums (E := E)
  refine Wc.call (hI _ _ _ (.inl rfl)) fn77 rfl ?_
  generalize hA0 : (⟨T.ofList [.agg ⟨[.int .i64 k, .int .i64 m, .string tx, .slice sb ks.length sc]⟩, sp, .pointer (some (own kY)), .pointer (some (own kO)), .pointer (some (own kW))] 0 .nil, max ([.agg ⟨[.int .i64 k, .int .i64 m, .string tx, .slice sb ks.length sc]⟩, sp, .pointer (some (own kY)), .pointer (some (own kO)), .pointer (some (own kW))] : List Value).length Tryd.f77.ntmps, []⟩ : Ac) = A0
  have n0 : A0.n = 34 := by rw [← hA0]; rfl
  have q0 : A0.get 0 = .agg ⟨[.int .i64 k, .int .i64 m, .string tx, .slice sb ks.length sc]⟩ := by rw [← hA0]; rfl
  have q1 : A0.get 1 = sp := by rw [← hA0]; rfl
  have q2 : A0.get 2 = .pointer (some (own kY)) := by rw [← hA0]; rfl
  have q3 : A0.get 3 = .pointer (some (own kO)) := by rw [← hA0]; rfl
  have q4 : A0.get 4 = .pointer (some (own kW)) := by rw [← hA0]; rfl
  have d0 : A0.defers = [] := by rw [← hA0]
  clear hA0
  (repeat' (with_reducible apply Wc.seq)); (apply Wc.opsN 1; (focus ((repeat' (first | with_reducible exact RO.nil | ((with_reducible apply RO.run (awant_none rfl)); (focus ((first | simp +decide only [awant, ayield_get, oper1, aop, opv, opvs, opvo, opvp, abuiltin, aun, Ac.get_put, abin, isShift, aint, roV, pair, bind, Option.bind, acall, Sx, n0, q0, hh1] | skip); with_reducible rfl))))); done)))
  (repeat' (with_reducible apply Wc.seq)); (apply Wc.opsN 1; (focus ((repeat' (first | with_reducible exact RO.nil | ((with_reducible apply RO.run (awant_none rfl)); (focus ((first | simp +decide only [awant, ayield_get, oper1, aop, opv, opvs, opvo, opvp, abuiltin, aun, Ac.get_put, abin, isShift, aint, roV, pair, bind, Option.bind, acall, Sx, n0, q2, Qx, Hx, l1, l2, c66] | skip); with_reducible rfl))))); done)))
  refine Wc.forget (fun A => A.n = 34 ∧ A.defers = [] ∧ A.get 1 = sp ∧ A.get 3 = .pointer (some (own kO)) ∧ A.get 4 = .pointer (some (own kW)) ∧ A.get 5 = .pointer (some (own h.next)) ∧ A.get 12 = .bool (decide (ordI (.mk k m tx ks) y = 0))) ⟨by simp +decide only [Ac.get_put, Sx, n0], by simp +decide only [Ac.get_put, Sx, d0], by first | (simp +decide only [Ac.get_put, Sx, n0, q1, q3, q4]; done) | (simp +decide only [Ac.get_put, Sx, n0, q1, q3, q4]; rfl), by first | (simp +decide only [Ac.get_put, Sx, n0, q1, q3, q4]; done) | (simp +decide only [Ac.get_put, Sx, n0, q1, q3, q4]; rfl), by first | (simp +decide only [Ac.get_put, Sx, n0, q1, q3, q4]; done) | (simp +decide only [Ac.get_put, Sx, n0, q1, q3, q4]; rfl), by first | (simp +decide only [Ac.get_put, Sx, n0, q1, q3, q4]; done) | (simp +decide only [Ac.get_put, Sx, n0, q1, q3, q4]; rfl), by first | (simp +decide only [Ac.get_put, Sx, n0, q1, q3, q4]; done) | (simp +decide only [Ac.get_put, Sx, n0, q1, q3, q4]; rfl)⟩ ?_
  rintro A0 ⟨n0, d0, q1, q3, q4, q5, q12⟩
  repeat' (with_reducible apply Wc.seq)
  refine Wc.mono (Q := fun ex A g => ex = .normal ∧ A.n = 34 ∧ A.defers = [] ∧ A.get 1 = sp ∧ A.get 4 = .pointer (some (own kW)) ∧ A.get 5 = .pointer (some (own h.next)) ∧ Xo h0.next 3 kO rt h g ∧ g.blk h.next = some (.cells [.int .i64 k, .int .i64 m, .string tx, .slice sb ks.length sc] 25 none) ∧ Fo h0.next kO rt g (ps ++ (if ordI (.mk k m tx ks) y = 0 then [[]] else []).map (p ++ ·))) ?_ ?_
  · by_cases hc : ordI (.mk k m tx ks) y = 0
    rotate_left
    · have e12 := decide_eq_false hc
      repeat' (first | (with_reducible apply Wc.seq) | (apply Wc.ops; (focus ((repeat' (first | with_reducible exact RO.nil | ((with_reducible apply RO.run (awant_none rfl)); (focus ((first | simp +decide only [awant, ayield_get, oper1, aop, opv, opvs, opvo, opvp, abuiltin, aun, Ac.get_put, abin, isShift, aint, roV, pair, bind, Option.bind, acall, Sx, n0, q12, e12] | skip); with_reducible rfl))))); done))) | (refine Wc.cond2 (by simp +decide only [opv, Ac.get_put, Sx, n0, q12, e12]; try with_reducible rfl) (fun hb => ?_) (fun hb => ?_) <;> try contradiction) | refine Wc.skip ?_ | refine Wc.ret ?_ | refine Wc.exit ?_ | refine Wc.block ?_)
      rw [if_neg hc, List.map_nil, List.append_nil]
      exact ⟨rfl, n0, d0, q1, q4, q5, X1, k1, O1⟩
    · have e12 := decide_eq_true hc
      obtain ⟨s1, ro1, vs1, bO1, ap1, hro1, nl1⟩ := O1
      have lO : h1.cell E (own kO) = some s1 := blk_cell0 bO1 (by rcases ap1.get with ⟨_, _, rfl⟩ | ⟨_, _, rfl, _⟩ <;> rfl)
      obtain ⟨n75, v15, z1, c75, a75, r75, ap75, he75⟩ := clone75n (E := E) (I := I) (fun args h => hI _ args h (.inr rfl)) (h := fresh h1) t1.fit.fresh (hNums.grow (g := fresh h1) t1.grows) (by omega)
      have n15 : NumsK rt (back h1 z1) v15 p := by
        rcases ap75 with (⟨h1, _, rfl, _⟩ | ⟨k5, r5, rfl, e2, e3, e4, e5, e6, e7, e8⟩) | ⟨k5, rfl, e2, _, _, e8⟩
        · exact .inl ⟨List.length_eq_zero_iff.1 h1, none, 0, rfl⟩
        · refine .inr ⟨k5, _, r5, rfl, by rw [back_blk]; exact e2, fun e => ?_⟩
          have h5 := lt _ e
          have h6 : h1.next ≤ r5 := e5
          have h7 := t1.next
          omega
        · have := he75 e8
          subst this
          exact .inl ⟨rfl, _, _, rfl⟩
      obtain ⟨u1, _, _, _⟩ := Ahd.back t1.fit a75
      have hl1 : z1.log = [] := a75.log
      obtain ⟨b15, c15, rfl⟩ : ∃ b c, v15 = .slice b p.length c := by
        obtain ⟨b, c, e, _⟩ := n15.nums (E := E)
        exact ⟨b, c, e⟩
      generalize hg1 : back h1 z1 = g1 at u1 n15
      have u2 : Ahd g1 (g1.new (.cells [.slice b15 p.length c15] 53 none)) := Ahd.new0 u1.fit rfl
      have b2 : (g1.new (.cells [.slice b15 p.length c15] 53 none)).blk g1.next = some (.cells [.slice b15 p.length c15] 53 none) := new_blk_new rfl
      generalize hg2 : g1.new (.cells [.slice b15 p.length c15] 53 none) = g2 at u2 b2
      have U2 := u1.trans u2
      have nn := t1.next
      obtain ⟨s17, z3, r17, happ, ap17, gk3, hro3⟩ := apk_step (D := tab) (E := E) (t := 68) (t2 := 68) (m := 0) (c := 1) (ax := own g1.next) u2.fit.fresh (Nat.le_trans hn (Nat.le_trans nn U2.next)) (ap1.grow t1.fit U2).fresh qty68 qtz53 rfl (pza68 _ _ _) (blk_cells (h := fresh g2) b2 rfl rfl) rfl rfl (roomy_le (by omega) (by omega))
      obtain ⟨gk3, hl3⟩ := gk3.back u2.fit
      have ap17' : Ap3 (back g2 z3) h0.next 53 1 s17 (ps.length + 1) (vs1 ++ [.slice b15 p.length c15]) r17 := Ap3.back (.inl ap17)
      have hs17 : isOne s17 = true ∧ s17.cells.toList = [s17] := by
        rcases ap17'.get with ⟨h1, _⟩ | ⟨k5, rt5, rfl, _⟩
        · omega
        · exact ⟨rfl, rfl⟩
      have X3 : Xo h0.next 3 kO rt h (back g2 z3) := (X1.ahead U2 hn (fun r hr => Nat.lt_of_lt_of_le (lt r hr) nn)).trans (g := g2) (rt' := rt) ⟨gk3.fit, fun k B _ hB => gk3.grows k B hB, fun j hj => .inl (by rw [← gk3.log]; exact hj), gk3.mark, gk3.next, fun r hr => gk3.chain r (by have := U2.next; omega) (fun e => by have := (ap1.root r e).1; omega), fun r hr P hP j hj => by
        have hrn : r < g2.next := by have := lt r hr; have := U2.next; omega
        rw [gk3.chain r hrn (fun e => hro1 r e hr)] at hj
        obtain ⟨w1, ys, w2, w3⟩ := hP j hj
        exact ⟨w1, ys, H.blk_dyn (gk3.grows _ _ (chain_blk hj w2)), .inl w3⟩⟩ (.inr rfl)
      have bO3 : (back g2 z3).blk kO = some (.cells [s1] 68 none) := gk3.grows _ _ (U2.grows _ _ bO1)
      have k13 : (back g2 z3).blk h.next = some (.cells [.int .i64 k, .int .i64 m, .string tx, .slice sb ks.length sc] 25 none) := gk3.grows _ _ (U2.grows _ _ k1)
      have nl3 : NumsLK rt (back g2 z3) (ps ++ [p]) (vs1 ++ [.slice b15 p.length c15]) := by
        refine NumsLK.snoc (nl1.keep (fun k xs r hB _ => gk3.grows _ _ (U2.grows _ _ hB)) (fun _ _ h => h) t1.fit) ?_
        exact n15.keep (fun k xs r hB _ => gk3.grows _ _ (u2.grows _ _ hB)) (fun _ _ h => h) u1.fit
      have hro4 : ∀ r, r17 = some r → rt ≠ some r := fun r hr => by
        rcases hro3 with ⟨_, rfl⟩ | ⟨_, rfl⟩
        · intro e
          have h5 := lt r e
          have h6 : (fresh g2).next = g2.next := rfl
          cases hr
          have := U2.next
          omega
        · exact hro1 r hr
      generalize hg3 : back g2 z3 = g3 at X3 bO3 k13 nl3 ap17' gk3
      have sO : astore tab 68 (own kO) s17 (fresh g3) = some ((fresh g3).setl kO (.cells [s17] 68 none)) := astore_one (o := 0) (g := fresh g3) qty68 rfl bO3 hs17.2 hs17.1 (by simp) rfl
      have O4 : Fo h0.next kO rt (g3.setl kO (.cells [s17] 68 none)) (ps ++ [p]) := Fo.put X3.fit bO3 (by rw [List.length_append]; exact ap17') hro4 nl3 hs17.1
      have X4 := X3.setl (ys := [s17]) bO3 (by omega)
      have k14 : (g3.setl kO (.cells [s17] 68 none)).blk h.next = some (.cells [.int .i64 k, .int .i64 m, .string tx, .slice sb ks.length sc] 25 none) := by rw [setl_ne (by omega)]; exact k13
      have hOg : kO < g3.next := X3.fit.lt bO3
      repeat' (first | (with_reducible apply Wc.seq) | (apply Wc.ops; (focus ((repeat' (first | with_reducible exact RO.nil | ((with_reducible apply RO.run (awant_none rfl)); (focus ((first | simp +decide only [awant, ayield_get, oper1, aop, opv, opvs, opvo, opvp, abuiltin, aun, Ac.get_put, abin, isShift, aint, roV, pair, bind, Option.bind, acall, Sx, n0, q12, e12] | skip); with_reducible rfl))))); done))) | (refine Wc.cond2 (by simp +decide only [opv, Ac.get_put, Sx, n0, q12, e12]; try with_reducible rfl) (fun hb => ?_) (fun hb => ?_) <;> try contradiction) | refine Wc.skip ?_ | refine Wc.ret ?_ | refine Wc.exit ?_ | refine Wc.block ?_)
      refine Wc.drawQ n75 (by kernel_rfl) ?_
      (iterate 2 (first | ((apply FQ.pure rfl rfl); (focus ((first | simp +decide only [awant, ayield_get, oper1, aop, opv, opvs, opvo, opvp, abuiltin, aun, Ac.get_put, abin, isShift, aint, roV, pair, bind, Option.bind, acall, Sx, n0, q1, q3, Qy, Hx, lO] | skip); with_reducible rfl))) | ((apply FQ.new rfl rfl); (focus ((first | simp +decide only [awant, ayield_get, oper1, aop, opv, opvs, opvo, opvp, abuiltin, aun, Ac.get_put, abin, isShift, aint, roV, pair, bind, Option.bind, acall, Sx, n0, q1, q3, Qy, Hx, lO] | skip); with_reducible rfl)))))
      refine FQ.call (h1 := z1) (x := .slice b15 p.length c15) rfl rfl (by simp +decide only [awant, ayield_get, oper1, aop, opv, opvs, opvo, opvp, abuiltin, aun, Ac.get_put, abin, isShift, aint, roV, pair, bind, Option.bind, acall, Sx, n0, c75]) hl1 ?_
      rw [hg1]
      (iterate 1 (first | ((apply FQ.pure rfl rfl); (focus ((first | simp +decide only [awant, ayield_get, oper1, aop, opv, opvs, opvo, opvp, abuiltin, aun, Ac.get_put, abin, isShift, aint, roV, pair, bind, Option.bind, acall, Sx, n0, pbs68, Hx] | skip); with_reducible rfl))) | ((apply FQ.new rfl rfl); (focus ((first | simp +decide only [awant, ayield_get, oper1, aop, opv, opvs, opvo, opvp, abuiltin, aun, Ac.get_put, abin, isShift, aint, roV, pair, bind, Option.bind, acall, Sx, n0, pbs68, Hx] | skip); with_reducible rfl)))))
      rw [hg2]
      refine FQ.call (h1 := z3) (x := s17) rfl rfl (by simp +decide only [awant, ayield_get, oper1, aop, opv, opvs, opvo, opvp, abuiltin, aun, Ac.get_put, abin, isShift, aint, roV, pair, bind, Option.bind, acall, Sx, n0, happ, Hx]) hl3 ?_
      rw [hg3]
      refine FQ.setl (k := kO) (B := .cells [s17] 68 none) (x := undef) rfl rfl hOg (by simp +decide only [awant, ayield_get, oper1, aop, opv, opvs, opvo, opvp, abuiltin, aun, Ac.get_put, abin, isShift, aint, roV, pair, bind, Option.bind, acall, Sx, n0, q3, sO]) ?_
      refine FQ.nil ⟨?_, ?_⟩
      · refine allMeet_last (l := [_, _, _, _, _]) ?_ (by kernel_rfl)
        simp only [List.all_cons, calm, List.isEmpty_nil, Bool.true_and, List.all_nil, Bool.and_true]
        rfl
      rw [if_pos hc]
      refine ⟨rfl, by simp +decide only [Ac.get_put, Sx, n0], by simp +decide only [Ac.get_put, Sx, d0], by simp +decide only [Ac.get_put, Sx, n0, q1], by simp +decide only [Ac.get_put, Sx, n0, q4], by simp +decide only [Ac.get_put, Sx, n0, q5], X4, k14, ?_⟩
      have : ([[]] : List (List Nat)).map (p ++ ·) = [p] := by simp
      rw [this]
      exact O4
  rintro ex A0 g1 ⟨rfl, n0, d0, q1, q4, q5, X1, k1, O1⟩
  simp only []
  have l3 : g1.cell E (aadd (own h.next) 3) = some (.slice sb ks.length sc) := blk_cell (i := 3) k1 rfl rfl
  repeat' (first | (with_reducible apply Wc.seq) | (apply Wc.ops; (focus ((repeat' (first | with_reducible exact RO.nil | ((with_reducible apply RO.run (awant_none rfl)); (focus ((first | simp +decide only [awant, ayield_get, oper1, aop, opv, opvs, opvo, opvp, abuiltin, aun, Ac.get_put, abin, isShift, aint, roV, pair, bind, Option.bind, acall, Sx, n0, q5, qfa25_3, Qx, Hx, l3] | skip); with_reducible rfl))))); done))) | (refine Wc.cond2 (by simp +decide only [opv, Ac.get_put, Sx, n0, q5, qfa25_3, Qx, Hx, l3]; try with_reducible rfl) (fun hb => ?_) (fun hb => ?_) <;> try contradiction) | refine Wc.skip ?_ | refine Wc.ret ?_ | refine Wc.exit ?_ | refine Wc.block ?_)
  have key : ∀ (r i : Nat) (ps1 : List (List Nat)) (A0 : Ac) (g : H), r = ks.length - i → i ≤ ks.length → A0.n = 34 → A0.defers = [] → A0.get 1 = sp → A0.get 4 = .pointer (some (own kW)) → A0.get 19 = .slice sb ks.length sc → A0.get 20 = .int .i64 (ks.length : Nat) → A0.get 21 = .int .i64 (i : Nat) →
      Xo h0.next 3 kO rt h g → Fo h0.next kO rt g ps1 → ps1 ++ (fndL y (ks.drop i) i).map (p ++ ·) = ps ++ (fndI y (.mk k m tx ks)).map (p ++ ·) → ps1.length + iszL (ks.drop i) ≤ 1000000 →
      Wc tab E I ⟨77, none⟩ (.loop loop77) A0 g (fun ex A g => ex = .exit 0 ∧ A.defers = [] ∧ Xo h0.next 3 kO rt h g ∧ Fo h0.next kO rt g (ps ++ (fndI y (.mk k m tx ks)).map (p ++ ·))) := by
    intro r
    induction r with
    | zero =>
      intro i ps1 A0 g hr' hi n0 d0 q1 q4 q19 q20 q21 X O hps hcnt
      obtain rfl : i = ks.length := by omega
      have e1 : decide ((ks.length : Int) < (ks.length : Int)) = false := by simp
      rw [List.drop_length, fndL, List.map_nil, List.append_nil] at hps
      apply Wc.loop
      simp only [loop77, loopOf, firstLoop, Option.getD, Tryd.f77]
      repeat' (first | (with_reducible apply Wc.seq) | (apply Wc.ops; (focus ((repeat' (first | with_reducible exact RO.nil | ((with_reducible apply RO.run (awant_none rfl)); (focus ((first | simp +decide only [awant, ayield_get, oper1, aop, opv, opvs, opvo, opvp, abuiltin, aun, Ac.get_put, abin, isShift, aint, roV, pair, bind, Option.bind, acall, Sx, n0, q20, q21, e1] | skip); with_reducible rfl))))); done))) | (refine Wc.cond2 (by simp +decide only [opv, Ac.get_put, Sx, n0, q20, q21, e1]; try with_reducible rfl) (fun hb => ?_) (fun hb => ?_) <;> try contradiction) | refine Wc.skip ?_ | refine Wc.ret ?_ | refine Wc.exit ?_ | refine Wc.block ?_)
      exact ⟨rfl, by simp +decide only [Ac.get_put, Sx, d0], X, by rw [← hps]; exact O⟩
    | succ r ih =>
      intro i ps1 A0 g hr' hi n0 d0 q1 q4 q19 q20 q21 X O hps hcnt
      have hil : i < ks.length := by omega
      have e1 : decide ((i : Int) < (ks.length : Int)) = true := decide_eq_true (by omega)
      have hir : inRange (i : Int) ks.length = true := by
        show Nat.blt i ks.length = true
        rw [Nat.blt_eq]; exact hil
      have w4 : IntKind.i64.wrap ((i : Int) + 1) = ((i + 1 : Nat) : Int) := wrap64 (by omega) (by omega)
      rcases hsk with hk0 | ⟨a, cs, rfl, hcap, hcs, hrl⟩
      · rw [hk0] at hil; simp at hil
      obtain ⟨hl4, hrk⟩ := repL_get i hrl (List.getElem?_eq_getElem hil)
      obtain ⟨x0, x1, x2, x3, hq, hone⟩ := rep_four hrk
      simp only [Value.agg.injEq, Array.mk.injEq] at hq
      have G0 : Grows h0 g := fun j B hB => X.keep j B (by have := f0.lt hB; omega) (hg j B hB)
      have hsub := cells_sub (cells_grow G0 hcs) (m := i * 4) (l := 4) (by omega)
      rw [hq] at hsub hrk
      have hkz := isz_mem (show ks[i] ∈ ks from List.getElem_mem hil)
      have hkp := isz_pos ks[i]
      rw [List.drop_eq_getElem_cons hil, iszL] at hcnt
      have hnx := X.next
      generalize hh3 : g.new (.cells (Value.agg #[.int .i64 0, .int .i64 0, .string ⟨#[]⟩, .slice none 0 0]).cells.toList 25 none) = g1
      have e1' : Ahd g g1 := by rw [← hh3]; exact Ahd.new0 X.fit rfl
      have c8 : g1.blk g.next = some (.cells [.int .i64 0, .int .i64 0, .string ⟨#[]⟩, .slice none 0 0] 25 none) := by rw [← hh3]; exact new_blk_new rfl
      have s8 := astore_all (ys := [x0, x1, x2, x3]) qty25 c8 rfl rfl hone (by simp)
      have e2 : Ahd g (g1.setl g.next (.cells [x0, x1, x2, x3] 25 none)) := e1'.setl rfl (Nat.le_refl _) (e1'.fit.lt c8) X.fit
      have c8 := setl_same (h := g1) (k := g.next) (B := .cells [x0, x1, x2, x3] 25 none) rfl
      generalize g1.setl g.next (.cells [x0, x1, x2, x3] 25 none) = g2 at s8 e2 c8
      generalize hB3 : (Blk.cells [.int .i64 (i : Nat)] 3 none) = B3
      have e3 : Ahd g2 (g2.new B3) := by rw [← hB3]; exact Ahd.new0 e2.fit rfl
      have c3 : (g2.new B3).blk g2.next = some (.cells [.int .i64 (i : Nat)] 3 none) := by rw [← hB3]; exact new_blk_new rfl
      generalize hh5 : g2.new B3 = g3 at e3 c3
      have ltg : ∀ r, rt = some r → r < g.next := fun r hr => Nat.lt_of_lt_of_le (lt r hr) X.next
      have X3 : Xo h0.next 3 kO rt h g3 := X.ahead (e2.trans e3) hn ltg
      have P3 : Pth 3 g3 sp (natsV p) rt := P.xo X3 bO
      have ok3 : ∀ r, rt = some r → h0.next ≤ r ∧ ChainOk h0.next 3 g3 r (fun j l => l ≤ (natsV p).length ∨ h.next ≤ j) := by
        intro r hr
        rw [natsV_length]
        exact ⟨(hok r hr).1, X3.ok r hr _ (hok r hr).2⟩
      have O3 := O.ahd X.fit (e2.trans e3)
      obtain ⟨s', q, rt', happ, X4, P4, ok4, hrt, keepR, chainR, hlog, hnq⟩ := pthO_step (D := tab) (E := E) (t := 53) (t2 := 53) (by_ := 8) (kx := g2.next) (c := 1) (x := .int .i64 (i : Nat)) X3 P3 f hn ok3 qty53 qtz3 rfl (pza53 _ _ _) (blk_cells c3 rfl rfl) rfl (roomy_le (by omega) (by rw [natsV_length]; omega))
      rw [natsV_length] at ok4
      have hn4 : (back g3 q).next = q.next := back_next _ _
      have O4 : Fo h0.next kO rt' (back g3 q) ps1 := O3.step X3.fit (by rw [hn4]; exact hnq) keepR chainR hrt
      rw [show natsV p ++ [.int .i64 (i : Nat)] = natsV (p ++ [i]) by rw [natsV_append]; rfl] at P4
      have hOX := O3
      obtain ⟨s3, ro3, vs3, bO3, _⟩ := O3
      generalize hg4 : back g3 q = g4 at X4 P4 ok4 keepR chainR hn4 O4
      have f4 := X4.fit
      have bY4 : g4.blk kY = some (.cells [y0, y1, y2, y3] 25 none) := X4.keep _ _ hOY.symm bY
      have bW4 : g4.blk kW = some (.cells [clo77 kY kO kW] 123 none) := X4.keep _ _ hOW.symm bW
      have G4 : Grows h0 g4 := fun j B hB => X4.keep j B (by have := f0.lt hB; omega) (hg j B hB)
      obtain ⟨nf, _, qh, ck, rfl, Y, OY⟩ := IH ks[i] (.agg ⟨[x0, x1, x2, x3]⟩) s' (p ++ [i]) rt' ps1 (fresh g4) (by omega) hrk G4 f4.fresh (Nat.le_trans hn X4.next) bY4 bW4 (P4.grow (g := fresh g4) (fun _ _ hb => hb)) (fun r hr => by rw [List.length_append]; exact ok4 r hr) (O4.fresh f4) (by rw [List.length_append]; simp only [List.length_singleton]; omega) (by omega)
      have fY := Y.fit
      obtain ⟨Y, hql⟩ := Y.back f4
      have OY := OY.back (g := g4) fY
      have X5 : Xo h0.next 3 kO rt h (back g4 qh) := X4.trans Y (hrt.elim (fun h => .inl h.1) .inr)
      have O5 : Fo h0.next kO rt (back g4 qh) (ps1 ++ (fndI y ks[i]).map ((p ++ [i]) ++ ·)) := by
        rcases hrt with ⟨rfl, _⟩ | rfl
        · exact OY.none Y.fit
        · exact OY
      have lW : g2.cell E (own kW) = some (clo77 kY kO kW) := blk_cell0 (e2.grows _ _ (X.keep _ _ hOW.symm bW)) rfl
      have l8 : g2.cells E (own g.next) 4 = some [x0, x1, x2, x3] := blk_cells c8 rfl hone
      have hbs := pbs53 (i : Nat) (h := fresh g2)
      rw [hB3] at hbs
      have hfn : (fresh g2).next = g2.next := rfl
      have lWf : (fresh g2).cell E (own kW) = some (clo77 kY kO kW) := lW
      have ck : (ev tab E I nf).call 77 [.agg ⟨[x0, x1, x2, x3]⟩, s', .pointer (some (own kY)), .pointer (some (own kO)), .pointer (some (own kW))] (fresh g4) = some (.tuple #[], qh) := ck
      apply Wc.loop
      simp only [loop77, loopOf, firstLoop, Option.getD, Tryd.f77]
      repeat' (first | (with_reducible apply Wc.seq) | (apply Wc.ops; (focus ((repeat' (first | with_reducible exact RO.nil | ((with_reducible apply RO.run (awant_none rfl)); (focus ((first | simp +decide only [awant, ayield_get, oper1, aop, opv, opvs, opvo, opvp, abuiltin, aun, Ac.get_put, abin, isShift, aint, roV, pair, bind, Option.bind, acall, Sx, n0, q19, q20, q21, e1, qia23 _ _ _ _ hir, Int.toNat_natCast, Qx, Hx, hsub, qtz25, hh3, s8] | skip); with_reducible rfl))))); done))) | (refine Wc.cond2 (by simp +decide only [opv, Ac.get_put, Sx, n0, q19, q20, q21, e1, qia23 _ _ _ _ hir, Int.toNat_natCast, Qx, Hx, hsub, qtz25, hh3, s8]; try with_reducible rfl) (fun hb => ?_) (fun hb => ?_) <;> try contradiction) | refine Wc.skip ?_ | refine Wc.ret ?_ | refine Wc.exit ?_ | refine Wc.block ?_)
      refine Wc.forget (fun A => A.n = 34 ∧ A.defers = [] ∧ A.get 1 = sp ∧ A.get 4 = .pointer (some (own kW)) ∧ A.get 7 = .int .i64 (i : Nat) ∧ A.get 8 = .pointer (some (own g.next)) ∧ A.get 19 = .slice (some a) ks.length sc ∧ A.get 20 = .int .i64 (ks.length : Nat) ∧ A.get 21 = .int .i64 (i : Nat)) ⟨by simp +decide only [Ac.get_put, Sx, n0], by simp +decide only [Ac.get_put, Sx, d0], by first | (simp +decide only [Ac.get_put, Sx, n0, q1, q4, q19, q20, q21]; done) | (simp +decide only [Ac.get_put, Sx, n0, q1, q4, q19, q20, q21]; rfl), by first | (simp +decide only [Ac.get_put, Sx, n0, q1, q4, q19, q20, q21]; done) | (simp +decide only [Ac.get_put, Sx, n0, q1, q4, q19, q20, q21]; rfl), by first | (simp +decide only [Ac.get_put, Sx, n0, q1, q4, q19, q20, q21]; done) | (simp +decide only [Ac.get_put, Sx, n0, q1, q4, q19, q20, q21]; rfl), by first | (simp +decide only [Ac.get_put, Sx, n0, q1, q4, q19, q20, q21]; done) | (simp +decide only [Ac.get_put, Sx, n0, q1, q4, q19, q20, q21]; rfl), by first | (simp +decide only [Ac.get_put, Sx, n0, q1, q4, q19, q20, q21]; done) | (simp +decide only [Ac.get_put, Sx, n0, q1, q4, q19, q20, q21]; rfl), by first | (simp +decide only [Ac.get_put, Sx, n0, q1, q4, q19, q20, q21]; done) | (simp +decide only [Ac.get_put, Sx, n0, q1, q4, q19, q20, q21]; rfl), by first | (simp +decide only [Ac.get_put, Sx, n0, q1, q4, q19, q20, q21]; done) | (simp +decide only [Ac.get_put, Sx, n0, q1, q4, q19, q20, q21]; rfl)⟩ ?_
      rintro A0 ⟨n0, d0, q1, q4, q7, q8, q19, q20, q21⟩
      refine Wc.drawQ nf (by kernel_rfl) ?_
      refine FQ.pure (x := clo77 kY kO kW) rfl rfl (by simp +decide only [awant, ayield_get, oper1, aop, opv, opvs, opvo, opvp, abuiltin, aun, Ac.get_put, abin, isShift, aint, roV, pair, bind, Option.bind, acall, Sx, n0, q4, qld123, lWf]) ?_
      (iterate 3 (first | ((apply FQ.pure rfl rfl); (focus ((first | simp +decide only [awant, ayield_get, oper1, aop, opv, opvs, opvo, opvp, abuiltin, aun, Ac.get_put, abin, isShift, aint, roV, pair, bind, Option.bind, acall, Sx, n0, q1, q7, q8, Qx, Hx, l8] | skip); with_reducible rfl))) | ((apply FQ.new rfl rfl); (focus ((first | simp +decide only [awant, ayield_get, oper1, aop, opv, opvs, opvo, opvp, abuiltin, aun, Ac.get_put, abin, isShift, aint, roV, pair, bind, Option.bind, acall, Sx, n0, q1, q7, q8, Qx, Hx, l8] | skip); with_reducible rfl)))))
      refine FQ.new (x := .slice (some (own g2.next)) 1 1) (B := B3) rfl rfl (by simp +decide only [awant, ayield_get, oper1, aop, opv, opvs, opvo, opvp, abuiltin, aun, Ac.get_put, abin, isShift, aint, roV, pair, bind, Option.bind, acall, Sx, n0, q7, hbs, hfn]) ?_
      rw [hh5]
      refine FQ.mod (h1 := q) (x := s') rfl rfl (by simp +decide only [awant, ayield_get, oper1, aop, opv, opvs, opvo, opvp, abuiltin, aun, Ac.get_put, abin, isShift, aint, roV, pair, bind, Option.bind, acall, Sx, n0, q1, happ]) ?_
      rw [hg4]
      refine FQ.mod (h1 := qh) (x := .tuple #[]) rfl rfl (by simp +decide only [awant, ayield_get, oper1, aop, opv, opvs, opvo, opvp, abuiltin, aun, Ac.get_put, abin, isShift, aint, roV, pair, bind, Option.bind, acall, Sx, n0, clo77, List.cons_append, List.nil_append, ck]) ?_
      generalize hg5 : back g4 qh = g5 at X5 O5
      refine FQ.nil ⟨?_, ?_⟩
      · refine allMeet_by [5, 6] (fun ii e hi hs => ?_) (fun ii jj ss tt hij hs w1 w2 ho => ?_)
        · have hi7 : ii < 7 := (List.getElem?_eq_some_iff.1 hi).1
          obtain rfl | rfl | rfl | rfl | rfl | rfl | rfl : ii = 0 ∨ ii = 1 ∨ ii = 2 ∨ ii = 3 ∨ ii = 4 ∨ ii = 5 ∨ ii = 6 := by omega
          all_goals first
            | (cases hi; rfl)
            | (cases hs; done)
        · have hj7 : jj < 7 := (List.getElem?_eq_some_iff.1 w2).1
          have hU := pairs_of (n := 7) (S := [5, 6]) (U := [(0, 5), (1, 5)]) (by kernel_rfl) hij hj7 hs ho
          simp only [List.mem_cons, Prod.mk.injEq, List.not_mem_nil, or_false] at hU
          have hpl : ∀ k xs ty, g3.dyn.get k = some (.cells xs ty none) → ∀ j ∈ q.log, j ≠ k := by
            rintro k xs ty hk j hj rfl
            obtain ⟨_, ys, r, h1⟩ := hlog j hj
            rw [hk] at h1; cases h1
          have hw8 := hpl g.next _ _ (H.blk_dyn (e3.grows _ _ c8))
          have hwW := hpl kW _ _ (H.blk_dyn (X3.keep _ _ hOW.symm bW))
          have any : ∀ (n : Nat), ∀ k ∈ q.log, k < n ∨ n ≤ k := fun n k _ => by omega
          rcases hU with ⟨rfl, rfl⟩ | ⟨rfl, rfl⟩
          · cases w1; cases w2
            exact meets_right (l := [kW]) rfl (by simp +decide only [awant, ayield_get, oper1, aop, opv, opvs, opvo, opvp, abuiltin, aun, Ac.get_put, abin, isShift, aint, roV, pair, bind, Option.bind, acall, Sx, reads, pureOp, atV, n0, q4, aadd, own]) (fun k hk => by simpa using hwW k hk) rfl (any _)
          · cases w1; cases w2
            exact meets_right (l := [g.next]) rfl (by simp +decide only [awant, ayield_get, oper1, aop, opv, opvs, opvo, opvp, abuiltin, aun, Ac.get_put, abin, isShift, aint, roV, pair, bind, Option.bind, acall, Sx, reads, pureOp, atV, n0, q8, aadd, own]) (fun k hk => by simpa using hw8 k hk) rfl (any _)
      repeat' (first | (with_reducible apply Wc.seq) | (apply Wc.ops; (focus ((repeat' (first | with_reducible exact RO.nil | ((with_reducible apply RO.run (awant_none rfl)); (focus ((first | simp +decide only [awant, ayield_get, oper1, aop, opv, opvs, opvo, opvp, abuiltin, aun, Ac.get_put, abin, isShift, aint, roV, pair, bind, Option.bind, acall, Sx, n0, q21, w4] | skip); with_reducible rfl))))); done))) | (refine Wc.cond2 (by simp +decide only [opv, Ac.get_put, Sx, n0, q21, w4]; try with_reducible rfl) (fun hb => ?_) (fun hb => ?_) <;> try contradiction) | refine Wc.skip ?_ | refine Wc.ret ?_ | refine Wc.exit ?_ | refine Wc.block ?_)
      refine ih (i + 1) _ _ g5 (by omega) (by omega) ?_ ?_ ?_ ?_ ?_ ?_ ?_ X5 O5 ?_ ?_
      · simp +decide only [Ac.get_put, Sx, n0]
      · simp +decide only [Ac.get_put, Sx, d0]
      · simp +decide only [Ac.get_put, Sx, n0, q1]
      · simp +decide only [Ac.get_put, Sx, n0, q4]
      · simp +decide only [Ac.get_put, Sx, n0, q19]
      · simp +decide only [Ac.get_put, Sx, n0, q20]
      · simp +decide only [Ac.get_put, Sx, n0]
      · rw [← hps, fndL_drop y hil, List.map_append, List.map_map, List.append_assoc]
        congr 2
        exact List.map_congr_left fun q _ => by simp
      · have := fndI_len y ks[i]
        rw [List.length_append, List.length_map]
        omega
  refine (key ks.length 0 _ _ g1 rfl (Nat.zero_le _) ?_ ?_ ?_ ?_ ?_ ?_ ?_ X1 O1 ?_ ?_).mono ?_
  · simp +decide only [Ac.get_put, Sx, n0]
  · simp +decide only [Ac.get_put, Sx, d0]
  · simp +decide only [Ac.get_put, Sx, n0, q1]
  · simp +decide only [Ac.get_put, Sx, n0, q4]
  · simp +decide only [Ac.get_put, Sx, n0]
  · simp +decide only [Ac.get_put, Sx, n0]
  · simp +decide only [Ac.get_put, Sx, n0]
    rfl
  · rw [hfnd, List.drop_zero, List.map_append, List.append_assoc]
  · rw [List.drop_zero, List.length_append, List.length_map]
    split
    · simp only [List.length_singleton]; omega
    · simp only [List.length_nil]; omega
  rintro ex A0 g ⟨rfl, d0, X, O⟩
  simp only [if_true]
  exact ⟨.inl trivial, g, .tuple #[], by rw [d0]; rfl, by unfold ares; rfl, rfl, X, O⟩
theorem find43 (hI : ∀ f args h, (f = 43 ∨ f = 77 ∨ f = 75) → I f args h = none) (kc : Chk E I) (h66 : ∀ t xv u yv h, rep E h t xv → rep E h u yv → isz t ≤ 1000000 → I 66 [xv, yv] h = some (some (.int .i64 (ordI t u), h))) {g : H} {t y : Hs.Item} {tv yv : Value} (f : Fit g) (ht : rep E g t tv) (hy : rep E g y yv) (ft : goodI t ∧ lvlI t ≤ 250 ∧ isz t ≤ 5000) (fy : goodI y ∧ lvlI y ≤ 250 ∧ isz y ≤ 5000) :
    ∃ n v g', (ev tab E I n).call 43 [tv, yv] g = some (v, g') ∧ (∃ l, v = .tuple #[l, .int .i64 0] ∧ Mod (fun _ => False) g g' ∧ Pls E g' l (fndI y t)) := by
  obtain ⟨a0, a1, a2, a3, rfl, oa⟩ := rep_four ht
  obtain ⟨b0, b1, b2, b3, rfl, ob⟩ := rep_four hy
  generalize hh1 : g.new (.cells (Value.agg ⟨[a0, a1, a2, a3]⟩).cells.toList 25 none) = g1
  have t1 : Ahd g g1 := by rw [← hh1]; exact Ahd.new0 f rfl
  have k1 : g1.blk g.next = some (.cells [a0, a1, a2, a3] 25 none) := by rw [← hh1]; exact new_blk_new rfl
  generalize hh2 : g1.new (.cells (Value.agg ⟨[b0, b1, b2, b3]⟩).cells.toList 25 none) = g2
  have t2 : Ahd g1 g2 := by rw [← hh2]; exact Ahd.new0 t1.fit rfl
  have k2 : g2.blk g1.next = some (.cells [b0, b1, b2, b3] 25 none) := by rw [← hh2]; exact new_blk_new rfl
  have l1 : g2.cells E (own g.next) 4 = some [a0, a1, a2, a3] := blk_cells (t2.grows _ _ k1) rfl oa
  have l2 : g2.cells E (own g1.next) 4 = some [b0, b1, b2, b3] := blk_cells k2 rfl ob
  have hbs := qbs23_2 oa ob (h := g2)
  have t3 : Ahd g2 (g2.new (.cells [a0, a1, a2, a3, b0, b1, b2, b3] 25 none)) := Ahd.new0 t2.fit rfl
  have k3 : (g2.new (.cells [a0, a1, a2, a3, b0, b1, b2, b3] 25 none)).blk g2.next = some (.cells [a0, a1, a2, a3, b0, b1, b2, b3] 25 none) := new_blk_new rfl
  generalize g2.new (.cells [a0, a1, a2, a3, b0, b1, b2, b3] 25 none) = g3 at hbs t3 k3
  have G3 : Grows g g3 := t1.grows.trans (t2.grows.trans t3.grows)
  have hK : repK E g3 [t, y] (.slice (some (own g2.next)) 2 2) := by
    unfold repK
    rw [rep]
    refine ⟨_, rfl, .inr ⟨own g2.next, 2, _, rfl, ⟨Nat.le_refl _, by decide⟩, blk_cells k3 rfl (by simp only [List.all_cons, List.all_nil, Bool.and_true, Bool.and_eq_true] at oa ob ⊢; exact ⟨oa.1, oa.2.1, oa.2.2.1, oa.2.2.2, ob.1, ob.2.1, ob.2.2.1, ob.2.2.2⟩), ?_⟩⟩
    rw [repL]
    refine ⟨_, _, _, _, _, rfl, rep_grow G3 ht, ?_⟩
    rw [repL]
    exact ⟨_, _, _, _, _, rfl, rep_grow G3 hy, by rw [repL]⟩
  have c65 := ev_known (D := tab) (E := E) (kc.2 [t, y] _ g3 hK (by simp only [iszL]; omega))
  rw [chkAll_fine (ks := [t, y]) (fun z hz => by
    simp only [List.mem_cons, List.not_mem_nil, or_false] at hz
    rcases hz with rfl | rfl
    · exact ft
    · exact fy)] at c65
  have t4 : Ahd g3 (g3.new (.cells (Value.slice none 0 0).cells.toList 68 none)) := Ahd.new0 t3.fit rfl
  have k7 : (g3.new (.cells (Value.slice none 0 0).cells.toList 68 none)).blk g3.next = some (.cells [.slice none 0 0] 68 none) := new_blk_new rfl
  generalize hh4 : g3.new (.cells (Value.slice none 0 0).cells.toList 68 none) = g4 at t4 k7
  have t5 : Ahd g4 (g4.new (.cells (Value.nilFunc).cells.toList 123 none)) := Ahd.new0 t4.fit rfl
  have k8 : (g4.new (.cells (Value.nilFunc).cells.toList 123 none)).blk g4.next = some (.cells [.nilFunc] 123 none) := new_blk_new rfl
  have s8 : astore tab 123 (own g4.next) (clo77 g1.next g3.next g4.next) (g4.new (.cells (Value.nilFunc).cells.toList 123 none)) = some ((g4.new (.cells (Value.nilFunc).cells.toList 123 none)).setl g4.next (.cells [clo77 g1.next g3.next g4.next] 123 none)) := astore_one (o := 0) qty123 rfl k8 rfl rfl (by simp) rfl
  have t6 := t5.setl (k := g4.next) (B := .cells [clo77 g1.next g3.next g4.next] 123 none) rfl (Nat.le_refl _) (t5.fit.lt k8) t4.fit
  have k8 := setl_same (h := g4.new (.cells (Value.nilFunc).cells.toList 123 none)) (k := g4.next) (B := .cells [clo77 g1.next g3.next g4.next] 123 none) rfl
  generalize hh5 : g4.new (.cells (Value.nilFunc).cells.toList 123 none) = g5 at s8 t6 k8
  generalize g5.setl g4.next (.cells [clo77 g1.next g3.next g4.next] 123 none) = g6 at s8 t6 k8
  have T2 := t1.trans t2
  have T6 := (T2.trans t3).trans (t4.trans t6)
  have G26 : Grows g2 g6 := t3.grows.trans (t4.grows.trans t6.grows)
  have t7 : Ahd g6 (g6.new (.cells [] 3 none)) := Ahd.new0 t6.fit rfl
  have k19 : (g6.new (.cells [] 3 none)).blk g6.next = some (.cells [] 3 none) := new_blk_new rfl
  generalize hh7 : g6.new (.cells [] 3 none) = g7 at t7 k19
  have hn2 := T2.next
  have hn3 := t3.next
  have n3lt : g3.next < g4.next := t4.fit.lt k7
  have n1lt : g1.next < g2.next := t2.fit.lt k2
  have P7 : Pth 3 g7 (.slice (some (own g6.next)) 0 0) (natsV []) none := ⟨⟨g6.next, rfl, k19⟩, rfl, fun _ => rfl⟩
  have O7 : Fo g2.next g3.next none g7 [] := ⟨.slice none 0 0, none, [], t7.grows _ _ (t6.grows _ _ k7), .inl (.inl ⟨rfl, rfl, rfl, rfl⟩), fun _ _ => by simp, rfl⟩
  obtain ⟨n77, _, g8, c77, rfl, X, O⟩ := find77 (E := E) (I := I) (fun f args h hf => hI f args h (by rcases hf with h | h <;> simp [h])) h66 t2.fit (y := y) (kY := g1.next) (kO := g3.next) (kW := g4.next) (rep_grow T2.grows hy) (by omega) (by omega) hn3 (isz t) t _ (.slice (some (own g6.next)) 0 0) [] none [] g7 (Nat.le_refl _) (rep_grow T2.grows ht) (G26.trans t7.grows) t7.fit (by have := t4.next; have := t6.next; have := t7.next; omega) (t7.grows _ _ (G26 _ _ k2)) (t7.grows _ _ k8) P7 (fun r hr => by cases hr) O7 (by simp only [List.length_nil]; omega) (by simp only [List.length_nil]; omega)
  have hO := O
  obtain ⟨s21, ro, vs, bO, ap, _, nl⟩ := O
  have e21 : ([] : List (List Nat)) ++ (fndI y t).map (([] : List Nat) ++ ·) = fndI y t := by simp
  rw [e21] at ap nl
  have hs21 : isOne s21 = true := by rcases ap.get with ⟨_, _, rfl⟩ | ⟨_, _, rfl, _⟩ <;> rfl
  have l21 : g8.cell E (own g3.next) = some s21 := blk_cell0 bO hs21
  have Pl8 : Pls E g8 s21 (fndI y t) := Pl.pls (te := 53) (base := g2.next) (ro := ro) ⟨vs, ap, nl.numsL⟩
  have T7 := T6.trans t7
  have M8 : Mod (fun _ => False) g g8 := ⟨X.fit, fun k B _ hB => X.keep k B (by have := f.lt hB; omega) (T7.grows k B hB), X.mark.trans T7.mark, Nat.le_trans T7.next X.next, fun r hr => (X.chain r (by omega)).trans (T7.chain r hr), fun j hj => by
    rcases X.log j hj with h1 | ⟨rfl, h2⟩
    · exact .inl (by rw [← T7.log]; exact h1)
    · rw [T7.mark] at h2
      have := f.ok.2
      omega⟩
  have l16 : g6.cells E (own g.next) 4 = some [a0, a1, a2, a3] := blk_cells (G26 _ _ (t2.grows _ _ k1)) rfl oa
  have lW : g6.cell E (own g4.next) = some (clo77 g1.next g3.next g4.next) := blk_cell0 k8 rfl
  have mk : ∀ A : Ac, A.get 3 = .pointer (some (own g1.next)) → A.get 7 = .pointer (some (own g3.next)) → A.get 8 = .pointer (some (own g4.next)) → opvs A [Operand.tmp 3, Operand.tmp 7, Operand.tmp 8] = some [.pointer (some (own g1.next)), .pointer (some (own g3.next)), .pointer (some (own g4.next))] := fun A h3 h7 h8 => by
    simp only [opvs, opv, h3, h7, h8]
  refine Wc.call (hI _ _ _ (.inl rfl)) fn43 rfl ?_
  generalize hA0 : (⟨T.ofList [.agg ⟨[a0, a1, a2, a3]⟩, .agg ⟨[b0, b1, b2, b3]⟩] 0 .nil, max ([.agg ⟨[a0, a1, a2, a3]⟩, .agg ⟨[b0, b1, b2, b3]⟩] : List Value).length Tryd.f43.ntmps, []⟩ : Ac) = A0
  have n0 : A0.n = 22 := by rw [← hA0]; rfl
  have q0 : A0.get 0 = .agg ⟨[a0, a1, a2, a3]⟩ := by rw [← hA0]; rfl
  have q1 : A0.get 1 = .agg ⟨[b0, b1, b2, b3]⟩ := by rw [← hA0]; rfl
  have d0 : A0.defers = [] := by rw [← hA0]
  clear hA0
  (repeat' (with_reducible apply Wc.seq)); (apply Wc.opsN 1; (focus ((repeat' (first | with_reducible exact RO.nil | ((with_reducible apply RO.run (awant_none rfl)); (focus ((first | simp +decide only [awant, ayield_get, oper1, aop, opv, opvs, opvo, opvp, abuiltin, aun, Ac.get_put, abin, isShift, aint, roV, pair, bind, Option.bind, acall, Sx, n0, q0, q1, hh1, hh2] | skip); with_reducible rfl))))); done)))
  (repeat' (with_reducible apply Wc.seq)); (apply Wc.opsN 1; (focus ((repeat' (first | with_reducible exact RO.nil | ((with_reducible apply RO.run (awant_none rfl)); (focus ((first | simp +decide only [awant, ayield_get, oper1, aop, opv, opvs, opvo, opvp, abuiltin, aun, Ac.get_put, abin, isShift, aint, roV, pair, bind, Option.bind, acall, Sx, n0, Qx, Hx, l1, l2, hbs, c65] | skip); with_reducible rfl))))); done)))
  repeat' (first | (with_reducible apply Wc.seq) | (apply Wc.ops; (focus ((repeat' (first | with_reducible exact RO.nil | ((with_reducible apply RO.run (awant_none rfl)); (focus ((first | simp +decide only [awant, ayield_get, oper1, aop, opv, opvs, opvo, opvp, abuiltin, aun, Ac.get_put, abin, isShift, aint, roV, pair, bind, Option.bind, acall, Sx, n0] | skip); with_reducible rfl))))); done))) | (refine Wc.cond2 (by simp +decide only [opv, Ac.get_put, Sx, n0]; try with_reducible rfl) (fun hb => ?_) (fun hb => ?_) <;> try contradiction) | refine Wc.skip ?_ | refine Wc.ret ?_ | refine Wc.exit ?_ | refine Wc.block ?_)
  (repeat' (with_reducible apply Wc.seq)); (apply Wc.opsN 1; (focus ((repeat' (first | with_reducible exact RO.nil | ((with_reducible apply RO.run (awant_none rfl)); (focus ((first | simp +decide only [awant, ayield_get, oper1, aop, opv, opvs, opvo, opvp, abuiltin, aun, Ac.get_put, abin, isShift, aint, roV, pair, bind, Option.bind, acall, Sx, n0, qtz68, hh4] | skip); with_reducible rfl))))); done)))
  (repeat' (with_reducible apply Wc.seq)); (apply Wc.opsN 1; (focus ((repeat' (first | with_reducible exact RO.nil | ((with_reducible apply RO.run (awant_none rfl)); (focus ((first | simp +decide only [awant, ayield_get, oper1, aop, opv, opvs, opvo, opvp, abuiltin, aun, Ac.get_put, abin, isShift, aint, roV, pair, bind, Option.bind, acall, Sx, n0, qtz123, hh5] | skip); with_reducible rfl))))); done)))
  have c77 : (ev tab E I n77).call 77 [.agg ⟨[a0, a1, a2, a3]⟩, .slice (some (own g6.next)) 0 0, .pointer (some (own g1.next)), .pointer (some (own g3.next)), .pointer (some (own g4.next))] g7 = some (.tuple #[], g8) := c77
  have s8 : astore tab 123 (own g4.next) (.func (.func 77) ⟨[]⟩ ⟨[.pointer (some (own g1.next)), .pointer (some (own g3.next)), .pointer (some (own g4.next))]⟩) g5 = some g6 := s8
  have lW : g6.cell E (own g4.next) = some (.func (.func 77) ⟨[]⟩ ⟨[.pointer (some (own g1.next)), .pointer (some (own g3.next)), .pointer (some (own g4.next))]⟩) := lW
  (repeat' (with_reducible apply Wc.seq)); (apply Wc.opsN 1; (focus ((repeat' (first | with_reducible exact RO.nil | ((with_reducible apply RO.run (awant_none rfl)); (focus ((first | simp +decide only [awant, ayield_get, oper1, aop, opv, opvs, opvo, opvp, abuiltin, aun, Ac.get_put, abin, isShift, aint, roV, pair, bind, Option.bind, acall, Sx, n0, roF, s8] | skip); with_reducible rfl))))); done)))
  (repeat' (with_reducible apply Wc.seq)); (apply Wc.opsN n77; (focus ((repeat' (first | with_reducible exact RO.nil | ((with_reducible apply RO.run (awant_none rfl)); (focus ((first | simp +decide only [awant, ayield_get, oper1, aop, opv, opvs, opvo, opvp, abuiltin, aun, Ac.get_put, abin, isShift, aint, roV, pair, bind, Option.bind, acall, Sx, n0, qld123, lW, Qx, Hx, l16, bs53_0, hh7, List.cons_append, List.nil_append, c77] | skip); with_reducible rfl))))); done)))
  repeat' (first | (with_reducible apply Wc.seq) | (apply Wc.ops; (focus ((repeat' (first | with_reducible exact RO.nil | ((with_reducible apply RO.run (awant_none rfl)); (focus ((first | simp +decide only [awant, ayield_get, oper1, aop, opv, opvs, opvo, opvp, abuiltin, aun, Ac.get_put, abin, isShift, aint, roV, pair, bind, Option.bind, acall, Sx, n0, Qy, l21] | skip); with_reducible rfl))))); done))) | (refine Wc.cond2 (by simp +decide only [opv, Ac.get_put, Sx, n0, Qy, l21]; try with_reducible rfl) (fun hb => ?_) (fun hb => ?_) <;> try contradiction) | refine Wc.skip ?_ | refine Wc.ret ?_ | refine Wc.exit ?_ | refine Wc.block ?_)
  exact done_q2 (v := s21) (x := .int .i64 0) (.inr rfl) (by simp +decide only [Ac.get_put, Sx, d0]) rfl (by simp +decide only [Ac.get_put, Sx, n0]) (by simp +decide only [Ac.get_put, Sx, n0]) ⟨s21, rfl, M8, Pl8⟩
end Go.Proofs.YtofijpbmbmbnhaaDoor
