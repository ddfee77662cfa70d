/- Put: an item is put into an item's copy: the walk. -/
import Derived.Test.YtofijpbmbmbnhaaDoorHsam
set_option linter.unusedSimpArgs false
set_option linter.unusedVariables false
set_option maxRecDepth 100000
set_option maxHeartbeats 16000000
namespace Go.Proofs.YtofijpbmbmbnhaaDoor
open Go Go.Hs Go.Proofs
variable {E : Env} {I : Known}
theorem item_agg {g : H} {t : Hs.Item} {v : Value} (h : rep E g t v) : ∃ a b c d, v = .agg ⟨[a, b, c, d]⟩ ∧ [a, b, c, d].all isOne = true := by
  obtain ⟨k', m', tx', ks'⟩ := t
  obtain ⟨sb', sc', rfl, _⟩ := rep_slice h
  exact ⟨_, _, _, _, rfl, rfl⟩
theorem put42 (hI : ∀ f args h, (f = 42 ∨ f = 76 ∨ f = 68 ∨ f = 47) → I f args h = none) (kc : Chk E I) {g : H} {t x y : Hs.Item} {tv xv pv : Value} {p : List Nat} (f : Fit g) (ht : rep E g t tv) (hx : rep E g x xv) (hpv : Nums E g pv p) (hat : atN t p = some y) (ft : goodI t ∧ lvlI t ≤ 100 ∧ isz t ≤ 1000) (fx : goodI x ∧ lvlI x ≤ 100 ∧ isz x ≤ 1000) (hpl : p.length ≤ 1000000) :
    ∃ n v g', (ev tab E I n).call 42 [tv, pv, xv] g = some (v, g') ∧ (∃ l, v = .tuple #[.agg ⟨l⟩, .int .i64 0] ∧ Mod (fun _ => False) g g' ∧ rep E g' (putN t p x) (.agg ⟨l⟩)) := by
  obtain ⟨a0, a1, a2, a3, rfl, oa⟩ := item_agg ht
  obtain ⟨b0, b1, b2, b3, rfl, ob⟩ := item_agg hx
  obtain ⟨bp, cp, rfl, _⟩ := id hpv
  generalize hh1 : g.new (.cells (Value.agg ⟨[a0, a1, a2, a3]⟩).cells.toList 25 none) = g1
  have t1 : Ahd g g1 := by rw [← hh1]; exact Ahd.new0 f rfl
  have k1 : g1.blk g.next = some (.cells [a0, a1, a2, a3] 25 none) := by rw [← hh1]; exact new_blk_new rfl
  generalize hh2 : g1.new (.cells (Value.agg ⟨[b0, b1, b2, b3]⟩).cells.toList 25 none) = g2
  have t2 : Ahd g1 g2 := by rw [← hh2]; exact Ahd.new0 t1.fit rfl
  have k2 : g2.blk g1.next = some (.cells [b0, b1, b2, b3] 25 none) := by rw [← hh2]; exact new_blk_new rfl
  generalize hh3 : g2.new (.cells (Value.agg #[.int .i64 0, .int .i64 0, .string ⟨#[]⟩, .slice none 0 0]).cells.toList 25 none) = g3
  have t3 : Ahd g2 g3 := by rw [← hh3]; exact Ahd.new0 t2.fit rfl
  have k3 : g3.blk g2.next = some (.cells zeroL 25 none) := by rw [← hh3]; exact new_blk_new rfl
  have l1 : g3.cells E (own g.next) 4 = some [a0, a1, a2, a3] := blk_cells (t3.grows _ _ (t2.grows _ _ k1)) rfl oa
  have l2 : g3.cells E (own g1.next) 4 = some [b0, b1, b2, b3] := blk_cells (t3.grows _ _ k2) rfl ob
  have hbs := qbs23_2 oa ob (h := g3)
  have t4 : Ahd g3 (g3.new (.cells [a0, a1, a2, a3, b0, b1, b2, b3] 25 none)) := Ahd.new0 t3.fit rfl
  have k4 : (g3.new (.cells [a0, a1, a2, a3, b0, b1, b2, b3] 25 none)).blk g3.next = some (.cells [a0, a1, a2, a3, b0, b1, b2, b3] 25 none) := new_blk_new rfl
  generalize g3.new (.cells [a0, a1, a2, a3, b0, b1, b2, b3] 25 none) = g4 at hbs t4 k4
  have G4 : Grows g g4 := t1.grows.trans (t2.grows.trans (t3.grows.trans t4.grows))
  have hK : repK E g4 [t, x] (.slice (some (own g3.next)) 2 2) := by
    unfold repK
    rw [rep]
    refine ⟨_, rfl, .inr ⟨own g3.next, 2, _, rfl, ⟨Nat.le_refl _, by decide⟩, blk_cells k4 rfl (by simp only [List.all_cons, List.all_nil, Bool.and_true, Bool.and_eq_true] at oa ob ⊢; exact ⟨oa.1, oa.2.1, oa.2.2.1, oa.2.2.2, ob.1, ob.2.1, ob.2.2.1, ob.2.2.2⟩), ?_⟩⟩
    rw [repL]
    refine ⟨_, _, _, _, _, rfl, rep_grow G4 ht, ?_⟩
    rw [repL]
    exact ⟨_, _, _, _, _, rfl, rep_grow G4 hx, by rw [repL]⟩
  have c65 := ev_known (D := tab) (E := E) (kc.2 [t, x] _ g4 hK (by simp only [iszL]; omega))
  rw [chkAll_fine (ks := [t, x]) (fun z hz => by
    simp only [List.mem_cons, List.not_mem_nil, or_false] at hz
    rcases hz with rfl | rfl
    · exact ⟨ft.1, by omega, by omega⟩
    · exact ⟨fx.1, by omega, by omega⟩)] at c65
  have l14 := cells_grow t4.grows l1
  have l24 := cells_grow t4.grows l2
  obtain ⟨n68, v9, g5, c68, t5, c0, c1, c2, c3, rfl, oc, S5⟩ := own68S (E := E) (I := I) (fun f args h hf => hI f args h (by rcases hf with h | h <;> simp [h])) (isz t) t _ g4 (Nat.le_refl _) (rep_grow G4 ht) t4.fit (by omega)
  have t6 : Ahd g5 (g5.new (.cells (Value.agg #[.int .i64 0, .int .i64 0, .string ⟨#[]⟩, .slice none 0 0]).cells.toList 25 none)) := Ahd.new0 t5.fit rfl
  have k9 : (g5.new (.cells (Value.agg #[.int .i64 0, .int .i64 0, .string ⟨#[]⟩, .slice none 0 0]).cells.toList 25 none)).blk g5.next = some (.cells zeroL 25 none) := new_blk_new rfl
  have s9 := astore_all (ys := [c0, c1, c2, c3]) qty25 k9 rfl rfl oc (by simp)
  have t7 := t6.setl (k := g5.next) (B := .cells [c0, c1, c2, c3] 25 none) rfl (Nat.le_refl _) (t6.fit.lt k9) t5.fit
  have k9 := setl_same (h := g5.new (.cells (Value.agg #[.int .i64 0, .int .i64 0, .string ⟨#[]⟩, .slice none 0 0]).cells.toList 25 none)) (k := g5.next) (B := .cells [c0, c1, c2, c3] 25 none) rfl
  generalize hh6 : g5.new (.cells (Value.agg #[.int .i64 0, .int .i64 0, .string ⟨#[]⟩, .slice none 0 0]).cells.toList 25 none) = g6 at s9 t7 k9
  generalize g6.setl g5.next (.cells [c0, c1, c2, c3] 25 none) = g7 at s9 t7 k9
  have t8 : Ahd g7 (g7.new (.cells (Value.pointer none).cells.toList 122 none)) := Ahd.new0 t7.fit rfl
  have k10 : (g7.new (.cells (Value.pointer none).cells.toList 122 none)).blk g7.next = some (.cells [.pointer none] 122 none) := new_blk_new rfl
  have s10 : astore tab 122 (own g7.next) (.pointer (some (own g5.next))) (g7.new (.cells (Value.pointer none).cells.toList 122 none)) = some ((g7.new (.cells (Value.pointer none).cells.toList 122 none)).setl g7.next (.cells [.pointer (some (own g5.next))] 122 none)) := astore_one (o := 0) qty122 rfl k10 rfl rfl (by simp) rfl
  have t9 := t8.setl (k := g7.next) (B := .cells [.pointer (some (own g5.next))] 122 none) rfl (Nat.le_refl _) (t8.fit.lt k10) t7.fit
  have k10 := setl_same (h := g7.new (.cells (Value.pointer none).cells.toList 122 none)) (k := g7.next) (B := .cells [.pointer (some (own g5.next))] 122 none) rfl
  generalize hh8 : g7.new (.cells (Value.pointer none).cells.toList 122 none) = g8 at s10 t9 k10
  generalize g8.setl g7.next (.cells [.pointer (some (own g5.next))] 122 none) = g9 at s10 t9 k10
  have ln := qlen53 (h := g9) bp p.length cp
  have c65f := (ev_mono (D := tab) (E := E) I (show 1 ≤ n68 + 1 by omega)).call c65
  have c68f := (ev_mono (D := tab) (E := E) I (show n68 ≤ n68 + 1 by omega)).call c68
  refine Wc.call (hI _ _ _ (.inl rfl)) fn42 rfl ?_
  generalize hA0 : (⟨T.ofList [.agg ⟨[a0, a1, a2, a3]⟩, .slice bp p.length cp, .agg ⟨[b0, b1, b2, b3]⟩] 0 .nil, max ([.agg ⟨[a0, a1, a2, a3]⟩, .slice bp p.length cp, .agg ⟨[b0, b1, b2, b3]⟩] : List Value).length Tryd.f42.ntmps, []⟩ : Ac) = A0
  have n0 : A0.n = 49 := by rw [← hA0]; rfl
  have q0 : A0.get 0 = .agg ⟨[a0, a1, a2, a3]⟩ := by rw [← hA0]; rfl
  have q1 : A0.get 1 = .slice bp p.length cp := by rw [← hA0]; rfl
  have q2 : A0.get 2 = .agg ⟨[b0, b1, b2, b3]⟩ := by rw [← hA0]; rfl
  have d0 : A0.defers = [] := by rw [← hA0]
  clear hA0
  (repeat' (with_reducible apply Wc.seq)); (apply Wc.opsN 1; (focus ((repeat' (first | with_reducible exact RO.nil | ((with_reducible apply RO.run (awant_none rfl)); (focus ((first | simp +decide only [awant, ayield_get, oper1, aop, opv, opvs, opvo, opvp, abuiltin, aun, Gx, abin, isShift, aint, roV, pair, bind, Option.bind, acall, Sx, n0, q0, q2, hh1, hh2, hh3, qtz25] | skip); with_reducible rfl))))); done)))
  (repeat' (with_reducible apply Wc.seq)); (apply Wc.opsN (n68 + 1); (focus ((repeat' (first | with_reducible exact RO.nil | ((with_reducible apply RO.run (awant_none rfl)); (focus ((first | simp +decide only [awant, ayield_get, oper1, aop, opv, opvs, opvo, opvp, abuiltin, aun, Gx, abin, isShift, aint, roV, pair, bind, Option.bind, acall, Sx, n0, Qx, Hx, l1, l2, hbs, c65f] | skip); with_reducible rfl))))); done)))
  repeat' (first | (with_reducible apply Wc.seq) | (apply Wc.ops; (focus ((repeat' (first | with_reducible exact RO.nil | ((with_reducible apply RO.run (awant_none rfl)); (focus ((first | simp +decide only [awant, ayield_get, oper1, aop, opv, opvs, opvo, opvp, abuiltin, aun, Gx, abin, isShift, aint, roV, pair, bind, Option.bind, acall, Sx, n0] | skip); with_reducible rfl))))); done))) | (refine Wc.cond2 (by simp +decide only [opv, Gx, Sx, n0]; try with_reducible rfl) (fun hb => ?_) (fun hb => ?_) <;> try contradiction) | refine Wc.skip ?_ | refine Wc.ret ?_ | refine Wc.exit ?_ | refine Wc.block ?_)
  repeat' (first | (with_reducible apply Wc.seq) | (apply Wc.opsN (n68 + 1); (focus ((repeat' (first | with_reducible exact RO.nil | ((with_reducible apply RO.run (awant_none rfl)); (focus ((first | simp +decide only [awant, ayield_get, oper1, aop, opv, opvs, opvo, opvp, abuiltin, aun, Gx, abin, isShift, aint, roV, pair, bind, Option.bind, acall, Sx, n0, Qx, Hx, l14, c68f, qtz25, hh6, s9, qtz122, hh8, s10, roF, q1] | skip); with_reducible rfl))))); done))) | (refine Wc.cond2 (by simp +decide only [opv, Gx, Sx, n0, Qx, Hx, l14, c68f, qtz25, hh6, s9, qtz122, hh8, s10, roF, q1]; try with_reducible rfl) (fun hb => ?_) (fun hb => ?_) <;> try contradiction) | refine Wc.skip ?_ | refine Wc.ret ?_ | refine Wc.exit ?_ | refine Wc.block ?_)
  have n7 := t7.next
  have S9 := S5.keep (g' := g9) (fun j j1 j2 => ⟨fun B hB => t9.grows _ _ (t7.grows _ _ hB), by rw [t9.chain j (by omega), t7.chain j j2]⟩)
  have lt9 := t7.fit.lt k9
  have C0 : Ctx E g9 g4.next g5.next g5.next t [] t g5.next 0 [c0, c1, c2, c3] none g4.next g5.next := Ctx.start (t9.grows _ _ k9) oc S9 (by omega)
  have hp7 := hpv.grow (G4.trans (t5.grows.trans t7.grows))
  refine (loop42_ok (E := E) (I := I) (fun f args h hf => hI f args h (by simp [hf])) t7.fit (Lo := g4.next) (Hi := g5.next) (k9 := g5.next) (k10 := g7.next) (kp5 := g1.next) (kp6 := g2.next) hp7 hat (by omega) hpl (Nat.le_refl _) p.length 0 t g5.next 0 [c0, c1, c2, c3] none g4.next g5.next _ g9 rfl (Nat.zero_le _) ?_ ?_ ?_ ?_ ?_ ?_ ?_ ?_ ?_ ?_ t9.mod k10 (by rw [List.take_zero]; exact C0) (by omega) (by omega)).mono ?_
  · simp +decide only [Gx, Sx, n0]
  · simp +decide only [Gx, Sx, d0]
  · simp +decide only [Gx, Sx, n0]
  · simp +decide only [Gx, Sx, n0]
  · simp +decide only [Gx, Sx, n0]
  · simp +decide only [Gx, Sx, n0]
  · simp +decide only [Gx, Sx, n0]
  · simp +decide only [Gx, Sx, n0]
  · simp +decide only [Gx, Sx, n0]
  · simp +decide only [Gx, Sx, n0]
    rfl
  rintro ex A0 h ⟨rfl, n0, d0, q5, q6, q9, q10, M, kc', o, xs, ro, lo, hi, hB, C⟩
  simp only [if_true]
  have M0 : Mod (fun _ => False) g7 h := M.low t7.fit (fun k hk => .inr (by omega))
  have AG7 : Ahd g g7 := ((t1.trans t2).trans t3).trans (t4.trans (t5.trans t7))
  have MG : Mod (fun _ => False) g h := AG7.mod.trans M0
  have G4' : Grows g3 h := t4.grows.trans (t5.grows.trans (t7.grows.trans M0.gof2))
  have l25 : (fresh h).cells E (own g1.next) 4 = some [b0, b1, b2, b3] := blk_cells (h := fresh h) (G4' _ _ (t3.grows _ _ k2)) rfl ob
  have k6 : h.blk g2.next = some (.cells zeroL 25 none) := G4' _ _ k3
  obtain ⟨nx, v, qh, cx, ax, v0, v1, v2, v3, rfl, vone, rx⟩ := own68S (E := E) (I := I) (fun f args h hf => hI f args h (by rcases hf with h | h <;> simp [h])) (isz x) x _ (fresh h) (Nat.le_refl _) (rep_grow (h' := fresh h) MG.gof2 hx) M.fit.fresh (by omega)
  obtain ⟨u3, hb3, hn3, _⟩ := Ahd.back M.fit ax
  have hl3 : qh.log = [] := ax.log
  have n3 : h.next ≤ qh.next := ax.next
  have n4 := M.next
  have n9 := lt9
  have rx : repS (back h qh) h.next qh.next x [v0, v1, v2, v3] := rx.keep (fun j _ _ => ⟨fun B hB => by rw [back_blk]; exact hB, by rw [back_chain]⟩)
  generalize hg2 : back h qh = h2 at u3 hb3 hn3 rx
  have C2 := C.keep (g' := h2) (fun j hj => ⟨fun B hB => u3.grows _ _ hB, u3.chain j (by omega)⟩)
  have m7 := AG7.next
  have n45 := t5.next
  have hkc : g4.next ≤ kc' := by rcases C2.kin with e | e <;> omega
  have hkc2 : kc' < h.next := by rcases C2.kin with e | e <;> omega
  have g4n : g.next ≤ g4.next := ((t1.trans t2).trans (t3.trans t4)).next
  have hm2 : h2.mark ≤ kc' := by
    rw [u3.mark, MG.mark]
    have := f.ok.2
    omega
  obtain ⟨q, hput, hqf, hqb, hqo, hqn, hqm, hqc, hql⟩ := store_place u3.fit C2.blk C2.root (vs := [v0, v1, v2, v3]) (o := o) (by simp) C2.fits vone hm2
  have hsto : astore tab 25 (aadd (own kc') o) (.agg ⟨[v0, v1, v2, v3]⟩) (fresh h2) = some q := by
    unfold astore
    rw [qty25]
    exact hput
  generalize hg3 : back h2 q = h3 at hqf hqb hqo hqn hqm hqc hql
  have M3 : Mod (fun _ => False) g h3 := by
    refine ⟨hqf, fun k B _ hk => ?_, by rw [hqm, u3.mark, MG.mark], by rw [hqn]; exact Nat.le_trans MG.next u3.next, fun r hr => ?_, fun j hj => ?_⟩
    · have := f.lt hk
      rw [hqo k (by omega)]
      exact u3.grows _ _ (MG.gof2 _ _ hk)
    · rw [hqc, u3.chain r (Nat.lt_of_lt_of_le hr MG.next)]
      exact MG.chain r hr
    · rw [hql, u3.log] at hj
      exact MG.log j hj
  have rx3 : rep E h3 x (.agg ⟨[v0, v1, v2, v3]⟩) := rx.rep (fun j j1 j2 B hB => by rw [hqo j (by omega)]; exact hB)
  obtain ⟨lr, hb9, hrr⟩ := C2.done h3 v0 v1 v2 v3 x (fun j _ j2 _ B hB => by rw [hqo j j2]; exact hB) hqb rx3
  have k6' : h3.blk g2.next = some (.cells zeroL 25 none) := by
    have := ((t1.trans t2).trans t3).next
    have : g2.next < g4.next := by have := t4.fit.lt (t4.grows _ _ k3); omega
    rw [hqo _ (by omega)]; exact u3.grows _ _ k6
  have hfb : (fresh h).cell E (own g7.next) = some (.pointer (some (aadd (own kc') o))) := blk_cell0 (h := fresh h) hB rfl
  refine Wc.seq (Wc.drawQ nx (by kernel_rfl) ?_)
  (iterate 2 (first | ((apply FQ.pure rfl rfl); (focus ((first | simp +decide only [awant, ayield_get, oper1, aop, opv, opvs, opvo, opvp, abuiltin, aun, Gx, abin, isShift, aint, roV, pair, bind, Option.bind, acall, Sx, n0, q5, q10, Qy, Qx, hfb, l25] | skip); with_reducible rfl))) | ((apply FQ.new rfl rfl); (focus ((first | simp +decide only [awant, ayield_get, oper1, aop, opv, opvs, opvo, opvp, abuiltin, aun, Gx, abin, isShift, aint, roV, pair, bind, Option.bind, acall, Sx, n0, q5, q10, Qy, Qx, hfb, l25] | skip); with_reducible rfl)))))
  refine FQ.call (h1 := qh) (x := .agg ⟨[v0, v1, v2, v3]⟩) rfl rfl (by simp +decide only [awant, ayield_get, oper1, aop, opv, opvs, opvo, opvp, abuiltin, aun, Gx, abin, isShift, aint, roV, pair, bind, Option.bind, acall, Sx, n0, cx]) hl3 ?_
  rw [hg2]
  (iterate 1 (first | ((apply FQ.pure rfl rfl); (focus ((first | simp +decide only [awant, ayield_get, oper1, aop, opv, opvs, opvo, opvp, abuiltin, aun, Gx, abin, isShift, aint, roV, pair, bind, Option.bind, acall, Sx, n0] | skip); with_reducible rfl))) | ((apply FQ.new rfl rfl); (focus ((first | simp +decide only [awant, ayield_get, oper1, aop, opv, opvs, opvo, opvp, abuiltin, aun, Gx, abin, isShift, aint, roV, pair, bind, Option.bind, acall, Sx, n0] | skip); with_reducible rfl)))))
  refine FQ.mod (h1 := q) (x := undef) rfl rfl (by simp +decide only [awant, ayield_get, oper1, aop, opv, opvs, opvo, opvp, abuiltin, aun, Gx, abin, isShift, aint, roV, pair, bind, Option.bind, acall, Sx, n0, hsto]) ?_
  rw [hg3]
  refine FQ.nil ⟨?_, ?_⟩
  · refine allMeet_last (l := [_, _, _, _]) ?_ (by kernel_rfl)
    simp only [List.all_cons, calm, List.isEmpty_nil, Bool.true_and, List.all_nil, Bool.and_true]
    rfl
  obtain ⟨z0, z1, z2, z3, hze, oz⟩ := item_agg hrr
  simp only [Value.agg.injEq, Array.mk.injEq] at hze
  subst hze
  have l9 : h3.cells E (own g5.next) 4 = some [z0, z1, z2, z3] := blk_cells hb9 rfl oz
  have hzp := isz_put p t x
  have hlp := lvlI_put p t x
  have c35 := ev_known (D := tab) (E := E) (kc.1 (putN t p x) _ h3 hrr (by omega))
  rw [chkI_fine ⟨goodI_put p t x ft.1 fx.1, by omega, by omega⟩] at c35
  have s6 := astore_all (ys := [z0, z1, z2, z3]) qty25 k6' rfl rfl oz (by simp)
  have k6n := setl_same (h := h3) (k := g2.next) (B := .cells [z0, z1, z2, z3] 25 none) rfl
  have k6l := M3.fit.lt k6'
  have M4 := (M3.sub (N := fun k => k = g2.next) (fun _ h => h.elim)).setl (k := g2.next) (B := .cells [z0, z1, z2, z3] 25 none) rfl rfl k6l
  have hr4 : rep E (h3.setl g2.next (.cells [z0, z1, z2, z3] 25 none)) (putN t p x) (.agg ⟨[z0, z1, z2, z3]⟩) := by
    have g2n : g2.next < g4.next := by have := t4.fit.lt (t4.grows _ _ k3); omega
    obtain ⟨lr', hb', hr'⟩ := C2.done (h3.setl g2.next (.cells [z0, z1, z2, z3] 25 none)) v0 v1 v2 v3 x (fun j j1 j2 _ B hB => by rw [setl_ne (by omega), hqo j j2]; exact hB) (by rw [setl_ne (by omega)]; exact hqb) (rx.rep (fun j j1 j2 B hB => by rw [setl_ne (by omega), hqo j (by omega)]; exact hB))
    rw [setl_ne (by omega), hb9] at hb'
    cases hb'
    exact hr'
  repeat' (first | (with_reducible apply Wc.seq) | (apply Wc.ops; (focus ((repeat' (first | with_reducible exact RO.nil | ((with_reducible apply RO.run (awant_none rfl)); (focus ((first | simp +decide only [awant, ayield_get, oper1, aop, opv, opvs, opvo, opvp, abuiltin, aun, Gx, abin, isShift, aint, roV, pair, bind, Option.bind, acall, Sx, n0, q6, q9, Qx, Hx, l9, c35, s6] | skip); with_reducible rfl))))); done))) | (refine Wc.cond2 (by simp +decide only [opv, Gx, Sx, n0, q6, q9, Qx, Hx, l9, c35, s6]; try with_reducible rfl) (fun hb => ?_) (fun hb => ?_) <;> try contradiction) | refine Wc.skip ?_ | refine Wc.ret ?_ | refine Wc.exit ?_ | refine Wc.block ?_)
  refine done_cq (.inr rfl) (by simp +decide only [Gx, Sx, d0]) rfl (show _ = Value.pointer (some (own g2.next)) by simp +decide only [Gx, Sx, n0, q6]) (by rw [qld25, blk_cells k6n (n := 4) rfl oz]) (by simp +decide only [Gx, Sx, n0]) ⟨_, rfl, M4.low f (fun k hk => .inr (by subst hk; exact Nat.le_trans (t1.trans t2).next (Nat.le_refl _))), hr4⟩
end Go.Proofs.YtofijpbmbmbnhaaDoor
/- Whether two items are alike: of any two items. -/
set_option maxRecDepth 100000
set_option maxHeartbeats 8000000
namespace Go.Proofs.YtofijpbmbmbnhaaDoor
open Go Go.Hs Go.Proofs
def nidx : List Hs.Item → List Hs.Item → Nat → Int
  | x :: xs, y :: ys, i => if alkI x y = true then nidx xs ys (i + 1) else (i : Int)
  | _, _, _ => -1
theorem nidx_alk : ∀ (xs ys : List Hs.Item) (i : Nat), xs.length = ys.length → decide (nidx xs ys i ≥ 0) = !alkL xs ys
  | [], [], i, _ => by rw [nidx, alkL]; rfl; intro _ _ _ _ h; cases h
  | [], _ :: _, _, h => by simp at h
  | _ :: _, [], _, h => by simp at h
  | x :: xs, y :: ys, i, h => by
    rw [nidx, alkL]
    cases hx : alkI x y with
    | true => rw [if_pos rfl, Bool.true_and]; exact nidx_alk xs ys (i + 1) (by simpa using h)
    | false =>
      rw [if_neg (by simp), Bool.false_and, Bool.not_false]
      exact decide_eq_true (by omega)
theorem nidx_drop {xs ys : List Hs.Item} {i : Nat} (h : i < xs.length) (h' : i < ys.length) : nidx (xs.drop i) (ys.drop i) i = if alkI xs[i] ys[i] = true then nidx (xs.drop (i + 1)) (ys.drop (i + 1)) (i + 1) else (i : Int) := by
  rw [List.drop_eq_getElem_cons h, List.drop_eq_getElem_cons h', nidx]
theorem nidx_end (xs ys : List Hs.Item) (i : Nat) : nidx (xs.drop xs.length) (ys.drop xs.length) i = -1 := by
  rw [List.drop_length]
  unfold nidx
  rfl
def CapN (E : Env) (h : H) (t u : Hs.Item) (p3 p4 p5 : Value) (d : Int) : Prop := ∃ k3 k4 k5 cs3 cs4, p3 = .pointer (some (own k3)) ∧ p4 = .pointer (some (own k4)) ∧ p5 = .pointer (some (own k5)) ∧ h.blk k3 = some (.cells cs3 25 none) ∧ rep E h t (.agg ⟨cs3⟩) ∧ h.blk k4 = some (.cells cs4 25 none) ∧ rep E h u (.agg ⟨cs4⟩) ∧ h.blk k5 = some (.cells [.int .i64 d] 3 none) ∧ 0 ≤ d ∧ d + lvlI t ≤ 400 ∧ isz t ≤ 1000000 ∧ t.kids.length = u.kids.length
theorem CapN.grow {E : Env} {h h' : H} (g : Grows h h') {t u : Hs.Item} {p3 p4 p5 : Value} {d : Int} (c : CapN E h t u p3 p4 p5 d) : CapN E h' t u p3 p4 p5 d := by
  obtain ⟨k3, k4, k5, cs3, cs4, e1, e2, e3, e4, e5, e6, e7, e8, e9⟩ := c
  exact ⟨k3, k4, k5, cs3, cs4, e1, e2, e3, g _ _ e4, rep_grow g e5, g _ _ e6, rep_grow g e7, g _ _ e8, e9⟩
theorem CapN.one {E : Env} {h : H} {t t' u u' : Hs.Item} {p3 p4 p5 : Value} {d d' : Int} (c : CapN E h t u p3 p4 p5 d) (c' : CapN E h t' u' p3 p4 p5 d') : t = t' ∧ u = u' := by
  obtain ⟨k3, k4, k5, cs3, cs4, rfl, rfl, e3, e4, e5, e6, e7, e8, e9⟩ := c
  obtain ⟨k3', k4', k5', cs3', cs4', f1, f2, f3, f4, f5, f6, f7, f8, f9⟩ := c'
  have : k3 = k3' := by simpa [own] using f1
  subst this
  have : k4 = k4' := by simpa [own] using f2
  subst this
  rw [e4] at f4; cases f4
  rw [e6] at f6; cases f6
  exact ⟨rep_one e5 f5, rep_one e7 f7⟩
def says14n (E : Env) : Says := fun s f args h v =>
  (f = 14 ∧ ∃ t u xv yv d, args = [xv, yv, .int .i64 d] ∧ rep E h t xv ∧ rep E h u yv ∧ 0 ≤ d ∧ d + lvlI t ≤ 400 ∧ isz t ≤ 1000000 ∧ s = 4 * isz t + 3 ∧ v = .bool (alkI t u)) ∨
  (f = 53 ∧ ∃ t u p3 p4 p5 d sl, args = [sl, .func (.func 55) ⟨[]⟩ ⟨[p3, p4, p5]⟩] ∧ IntsAt h sl t.kids.length ∧ CapN E h t u p3 p4 p5 d ∧ s = 4 * isz t + 2 ∧ v = .bool (!alkL t.kids u.kids)) ∨
  (f = 89 ∧ ∃ t u p3 p4 p5 d sl, args = [sl, .func (.func 55) ⟨[]⟩ ⟨[p3, p4, p5]⟩] ∧ IntsAt h sl t.kids.length ∧ CapN E h t u p3 p4 p5 d ∧ s = 4 * isz t + 1 ∧ v = .int .i64 (nidx t.kids u.kids 0)) ∨
  (f = 55 ∧ ∃ t u p3 p4 p5 d, ∃ i : Nat, args = [.int .i64 i, p3, p4, p5] ∧ ∃ (hi : i < t.kids.length) (hi' : i < u.kids.length), CapN E h t u p3 p4 p5 d ∧ s = 4 * isz t ∧ v = .bool (!alkI t.kids[i] u.kids[i]))
theorem one14n (E : Env) : One (says14n E) := by
  rintro s s' f args h v v' (⟨rfl, t, u, xv, yv, d, rfl, r1, r2, _, _, _, _, rfl⟩ | ⟨rfl, t, u, p3, p4, p5, d, sl, rfl, _, c, _, rfl⟩ | ⟨rfl, t, u, p3, p4, p5, d, sl, rfl, _, c, _, rfl⟩ | ⟨rfl, t, u, p3, p4, p5, d, i, rfl, hi, hi', c, _, rfl⟩) (⟨e, t', u', xv', yv', d', ea, r1', r2', _, _, _, _, rfl⟩ | ⟨e, t', u', p3', p4', p5', d', sl', ea, _, c', _, rfl⟩ | ⟨e, t', u', p3', p4', p5', d', sl', ea, _, c', _, rfl⟩ | ⟨e, t', u', p3', p4', p5', d', i', ea, hj, hj', c', _, rfl⟩)
  all_goals first
    | (exact absurd e (by decide))
    | (cases ea; rw [rep_one r1 r1', rep_one r2 r2'])
    | (cases ea; obtain ⟨e1, e2⟩ := c.one c'; subst e1 e2; rfl)
    | (simp only [List.cons.injEq, Value.int.injEq, true_and, and_true] at ea; obtain ⟨e0, e1, e2, e3⟩ := ea; subst e1 e2 e3; obtain ⟨e1, e2⟩ := c.one c'; subst e1 e2; obtain rfl : i = i' := by omega
       rfl)
theorem rank14n {E : Env} {s s' : Nat} {f : FuncId} {args : List Value} {h : H} {v v' : Value} (h1 : says14n E s f args h v) (h2 : says14n E s' f args h v') : s = s' := by
  rcases h1 with ⟨rfl, t, u, xv, yv, d, rfl, r1, _, _, _, _, rfl, _⟩ | ⟨rfl, t, u, p3, p4, p5, d, sl, rfl, _, c, rfl, _⟩ | ⟨rfl, t, u, p3, p4, p5, d, sl, rfl, _, c, rfl, _⟩ | ⟨rfl, t, u, p3, p4, p5, d, i, rfl, _, _, c, rfl, _⟩ <;>
    rcases h2 with ⟨e, t', u', xv', yv', d', ea, r2, _, _, _, _, rfl, _⟩ | ⟨e, t', u', p3', p4', p5', d', sl', ea, _, c', rfl, _⟩ | ⟨e, t', u', p3', p4', p5', d', sl', ea, _, c', rfl, _⟩ | ⟨e, t', u', p3', p4', p5', d', i', ea, _, _, c', rfl, _⟩
  all_goals first
    | (exact absurd e (by decide))
    | (cases ea; rw [rep_one r1 r2])
    | (cases ea; rw [(c.one c').1])
    | (simp only [List.cons.injEq] at ea; obtain ⟨e0, e1, e2, e3, _⟩ := ea; subst e1 e2 e3; rw [(c.one c').1])
theorem says14n_back {E : Env} {s : Nat} {f : FuncId} {args : List Value} {h : H} {v : Value} (h1 : says14n E s f args (fresh h) v) : says14n E s f args h v := by
  have g : Grows (fresh h) h := fun _ _ hb => hb
  rcases h1 with ⟨e, t, u, xv, yv, d, ea, r1, r2, q⟩ | ⟨e, t, u, p3, p4, p5, d, sl, ea, ia, c, q⟩ | ⟨e, t, u, p3, p4, p5, d, sl, ea, ia, c, q⟩ | ⟨e, t, u, p3, p4, p5, d, i, ea, hi, hi', c, q⟩
  · exact .inl ⟨e, t, u, xv, yv, d, ea, rep_grow g r1, rep_grow g r2, q⟩
  · exact .inr (.inl ⟨e, t, u, p3, p4, p5, d, sl, ea, ia, c.grow g, q⟩)
  · exact .inr (.inr (.inl ⟨e, t, u, p3, p4, p5, d, sl, ea, ia, c.grow g, q⟩))
  · exact .inr (.inr (.inr ⟨e, t, u, p3, p4, p5, d, i, ea, hi, hi', c.grow g, q⟩))
theorem none14n {E : Env} {I : Known} (hI : ∀ f args h, (f = 14 ∨ f = 53 ∨ f = 89 ∨ f = 55) → I f args h = none) {s : Nat} {f : FuncId} {args : List Value} {h : H} {v : Value} (h1 : says14n E s f args h v) (hf : f = 14 ∨ f = 53 ∨ f = 89 ∨ f = 55) : upTo (says14n E) I s f args (fresh h) = none := by
  rw [upTo_none]
  · exact hI _ _ _ hf
  · intro v' s' hlt h2
    have := rank14n h1 (says14n_back h2)
    omega
theorem shown14n {E : Env} {I : Known} (hI : ∀ f args h, (f = 14 ∨ f = 53 ∨ f = 89 ∨ f = 55 ∨ f = 54) → I f args h = none) : ShownF tab E I (says14n E) := by
  intro m f args h v hs hfit
  have hnone := none14n (fun f args h hf => hI f args h (by rcases hf with h | h | h | h <;> simp [h])) hs
  have hJk : ∀ {s f args g v}, says14n E s f args g v → s < m → upTo (says14n E) I m f args g = some (some (v, g)) := fun h1 h2 => upTo_eq (one14n E) h1 h2
  have hJ54 : ∀ args h, upTo (says14n E) I m 54 args h = none := by
    intro args h
    rw [upTo_none]
    · exact hI _ _ _ (by simp)
    · rintro v s _ (⟨e, _⟩ | ⟨e, _⟩ | ⟨e, _⟩ | ⟨e, _⟩)
      all_goals exact absurd e (by decide)
  have hgf : Grows h (fresh h) := fun _ _ hb => hb
  rcases hs with ⟨rfl, t, u, xv, yv, d, rfl, hr, hr', d1, d2, hz, rfl, rfl⟩ | ⟨rfl, t, u, p3, p4, p5, d, sl, rfl, hia, cap, rfl, rfl⟩ | ⟨rfl, t, u, p3, p4, p5, d, sl, rfl, hia, cap, rfl, rfl⟩ | ⟨rfl, t, u, p3, p4, p5, d, i, rfl, hi, hi', cap, rfl, rfl⟩
  · -- alike
    refine ⟨rfl, ?_⟩
    replace hnone := hnone (by simp)
    obtain ⟨k, m, tx, ks⟩ := t
    obtain ⟨k', m', tx', ks'⟩ := u
    obtain ⟨sb, sc, rfl, hs⟩ := rep_slice hr
    obtain ⟨sb', sc', rfl, hs'⟩ := rep_slice hr'
    generalize hJ : upTo (says14n E) I (4 * isz (.mk k m tx ks) + 3) = J at hnone hJk hJ54 ⊢
    suffices hw : ∃ n v h', (ev tab E J n).call 14 [.agg ⟨[.int .i64 k, .int .i64 m, .string tx, .slice sb ks.length sc]⟩, .agg ⟨[.int .i64 k', .int .i64 m', .string tx', .slice sb' ks'.length sc']⟩, .int .i64 d] (fresh h) = some (v, h') ∧ (v = .bool (alkI (.mk k m tx ks) (.mk k' m' tx' ks')) ∧ h'.log = []) by
      obtain ⟨n, v, h', h1, rfl, h3⟩ := hw
      exact ⟨n, h', h1, h3⟩
    refine Wc.call hnone fn14 rfl ?_
    generalize hA0 : (⟨T.ofList [.agg ⟨[.int .i64 k, .int .i64 m, .string tx, .slice sb ks.length sc]⟩, .agg ⟨[.int .i64 k', .int .i64 m', .string tx', .slice sb' ks'.length sc']⟩, .int .i64 d] 0 .nil, max ([.agg ⟨[.int .i64 k, .int .i64 m, .string tx, .slice sb ks.length sc]⟩, .agg ⟨[.int .i64 k', .int .i64 m', .string tx', .slice sb' ks'.length sc']⟩, .int .i64 d] : List Value).length Tryd.f14.ntmps, []⟩ : Ac) = A0
    have n0 : A0.n = 48 := by rw [← hA0]; rfl
    have g00 : A0.get 0 = .agg ⟨[.int .i64 k, .int .i64 m, .string tx, .slice sb ks.length sc]⟩ := by rw [← hA0]; rfl
    have g01 : A0.get 1 = .agg ⟨[.int .i64 k', .int .i64 m', .string tx', .slice sb' ks'.length sc']⟩ := by rw [← hA0]; rfl
    have g02 : A0.get 2 = .int .i64 d := by rw [← hA0]; rfl
    have d0 : A0.defers = [] := by rw [← hA0]
    have hl0 : (fresh h).log = [] := rfl
    have hgr : Grows h (fresh h) := fun _ _ hb => hb
    generalize hg : fresh h = g at hl0 hgr hfit
    apply Wc.seq
    refine Wc.ops (by repeat' (first | with_reducible exact RO.nil | ((with_reducible apply RO.run (awant_none rfl)); (focus ((first | simp +decide only [awant, ayield_get, oper1, aop, opv, opvs, opvo, opvp, abuiltin, aun, Gx, abin, isShift, aint, roV, pair, bind, Option.bind, acall, Sx, n0, g00, g01, g02] | skip); with_reducible rfl))))) ?_
    generalize hh1 : g.new (.cells (Value.agg ⟨[.int .i64 k, .int .i64 m, .string tx, .slice sb ks.length sc]⟩).cells.toList 25 none) = h1
    have a1 : Ahd g h1 := by rw [← hh1]; exact Ahd.new0 hfit rfl
    have b1 : h1.blk g.next = some (.cells [.int .i64 k, .int .i64 m, .string tx, .slice sb ks.length sc] 25 none) := by rw [← hh1]; exact new_blk_new rfl
    generalize hh2 : h1.new (.cells (Value.agg ⟨[.int .i64 k', .int .i64 m', .string tx', .slice sb' ks'.length sc']⟩).cells.toList 25 none) = h2
    have a2 : Ahd h1 h2 := by rw [← hh2]; exact Ahd.new0 a1.fit rfl
    have b2 : h2.blk h1.next = some (.cells [.int .i64 k', .int .i64 m', .string tx', .slice sb' ks'.length sc'] 25 none) := by rw [← hh2]; exact new_blk_new rfl
    generalize hh3 : h2.new (.cells (Value.int .i64 d).cells.toList 3 none) = h3
    have a3 : Ahd h2 h3 := by rw [← hh3]; exact Ahd.new0 a2.fit rfl
    have b3 : h3.blk h2.next = some (.cells [.int .i64 d] 3 none) := by rw [← hh3]; exact new_blk_new rfl
    have b1' := a3.grows _ _ (a2.grows _ _ b1)
    have b2' := a3.grows _ _ b2
    have ag : Ahd g h3 := (a1.trans a2).trans a3
    clear hh1 hh2 hh3
    have hlen : ks.length ≤ 1000000 := by
      rw [isz] at hz
      have := len_iszE ks
      omega
    obtain ⟨nf, sl, h4, hup, a4, ia4⟩ := upto54 (E := E) hJ54 ks.length hlen h3 a3.fit
    replace hup := ev_later hup
    have x0 : h3.cell E (aadd (own g.next) 0) = some (.int .i64 k) := blk_cell (i := 0) b1' rfl rfl
    have x1 : h3.cell E (aadd (own g.next) 1) = some (.int .i64 m) := blk_cell (i := 1) b1' rfl rfl
    have x2 : h3.cell E (aadd (own g.next) 2) = some (.string tx) := blk_cell (i := 2) b1' rfl rfl
    have x3 : h3.cell E (aadd (own g.next) 3) = some (.slice sb ks.length sc) := blk_cell (i := 3) b1' rfl rfl
    have y0 : h3.cell E (aadd (own h1.next) 0) = some (.int .i64 k') := blk_cell (i := 0) b2' rfl rfl
    have y1 : h3.cell E (aadd (own h1.next) 1) = some (.int .i64 m') := blk_cell (i := 1) b2' rfl rfl
    have y2 : h3.cell E (aadd (own h1.next) 2) = some (.string tx') := blk_cell (i := 2) b2' rfl rfl
    have y3 : h3.cell E (aadd (own h1.next) 3) = some (.slice sb' ks'.length sc') := blk_cell (i := 3) b2' rfl rfl
    have z0 : h3.cell E (own h2.next) = some (.int .i64 d) := blk_cell0 b3 rfl
    have hbb : (tx.data.toList == tx'.data.toList) = decide (tx = tx') := by
      obtain ⟨⟨l⟩⟩ := tx
      obtain ⟨⟨l'⟩⟩ := tx'
      by_cases e : l = l'
      · subst e; simp
      · have : ¬ (⟨⟨l⟩⟩ : ByteArray) = ⟨⟨l'⟩⟩ := fun h => e (by injection h with h; injection h)
        simp [e, this]
    have h400 : decide (d < 400) = true := by
      have := lvlI_bound (.mk k m tx ks)
      simp; omega
    have hl3 : h3.log = [] := by rw [ag.log, hl0]
    have hlog4 : h4.log = [] := by rw [a4.log, hl3]
    have ha : alkI (.mk k m tx ks) (.mk k' m' tx' ks') = (decide (k = k') && decide (m = m') && decide (tx = tx') && decide (ks.length = ks'.length) && alkL ks ks') := by rw [alkI]
    refine Wc.forget (fun A => A.n = 48 ∧ A.defers = [] ∧ A.get 3 = .pointer (some (own g.next)) ∧ A.get 4 = .pointer (some (own h1.next)) ∧ A.get 5 = .pointer (some (own h2.next))) ⟨by simp +decide only [Gx, Sx, n0], by simp +decide only [Gx, Sx, d0], by simp +decide only [Gx, Sx, n0], by simp +decide only [Gx, Sx, n0], by simp +decide only [Gx, Sx, n0]⟩ ?_
    clear hA0 n0 g00 g01 g02 d0
    rintro A0 ⟨n0, d0, g3, g4, g5⟩
    apply Wc.seq
    refine Wc.opsQ (nf + 1) ?_
    (iterate 6 (first | ((with_reducible apply RQ.run (awant_none rfl)); (focus ((first | simp +decide only [awant, ayield_get, oper1, aop, opv, opvs, opvo, opvp, abuiltin, aun, Gx, abin, isShift, aint, roV, pair, bind, Option.bind, acall, Sx, n0, g3, g4, g5, fa25_0, ld3, x0, y0] | skip); with_reducible rfl))) | ((with_reducible apply RQ.runG); (focus rfl); (focus rfl); (focus (simp +decide only [awant, ayield_get, oper1, aop, opv, opvs, opvo, opvp, abuiltin, aun, Gx, abin, isShift, aint, roV, pair, bind, Option.bind, acall, Sx, n0, g3, g4, g5, fa25_0, ld3, x0, y0]; done)); (focus ((first | simp +decide only [awant, ayield_get, oper1, aop, opv, opvs, opvo, opvp, abuiltin, aun, Gx, abin, isShift, aint, roV, pair, bind, Option.bind, acall, Sx, n0, g3, g4, g5, fa25_0, ld3, x0, y0] | skip); with_reducible rfl))) | ((with_reducible apply RQ.skipG); (focus rfl); (focus rfl); (focus (simp +decide only [awant, ayield_get, oper1, aop, opv, opvs, opvo, opvp, abuiltin, aun, Gx, abin, isShift, aint, roV, pair, bind, Option.bind, acall, Sx, n0, g3, g4, g5, fa25_0, ld3, x0, y0]; done)))))
    refine RQ.forget (fun A => A.n = 48 ∧ A.defers = [] ∧ A.get 3 = .pointer (some (own g.next)) ∧ A.get 4 = .pointer (some (own h1.next)) ∧ A.get 5 = .pointer (some (own h2.next)) ∧ A.get 12 = .bool (decide (k = k'))) ⟨by simp +decide only [Gx, Sx, n0], by simp +decide only [Gx, Sx, d0], by simp +decide only [Gx, Sx, n0, g3], by simp +decide only [Gx, Sx, n0, g4], by simp +decide only [Gx, Sx, n0, g5], by simp +decide only [Gx, Sx, n0]⟩ ?_
    clear n0 d0 g3 g4 g5
    rintro A0 ⟨n0, d0, g3, g4, g5, gb⟩
    by_cases c1 : k = k'
    rotate_left
    · rw [decide_eq_false c1] at gb ha
      (iterate 36 (first | ((with_reducible apply RQ.run (awant_none rfl)); (focus ((first | simp +decide only [awant, ayield_get, oper1, aop, opv, opvs, opvo, opvp, abuiltin, aun, Gx, abin, isShift, aint, roV, pair, bind, Option.bind, acall, Sx, n0, gb] | skip); with_reducible rfl))) | ((with_reducible apply RQ.runG); (focus rfl); (focus rfl); (focus (simp +decide only [awant, ayield_get, oper1, aop, opv, opvs, opvo, opvp, abuiltin, aun, Gx, abin, isShift, aint, roV, pair, bind, Option.bind, acall, Sx, n0, gb]; done)); (focus ((first | simp +decide only [awant, ayield_get, oper1, aop, opv, opvs, opvo, opvp, abuiltin, aun, Gx, abin, isShift, aint, roV, pair, bind, Option.bind, acall, Sx, n0, gb] | skip); with_reducible rfl))) | ((with_reducible apply RQ.skipG); (focus rfl); (focus rfl); (focus (simp +decide only [awant, ayield_get, oper1, aop, opv, opvs, opvo, opvp, abuiltin, aun, Gx, abin, isShift, aint, roV, pair, bind, Option.bind, acall, Sx, n0, gb]; done)))))
      refine RQ.nil ?_
      refine Wc.ret ?_
      refine done_tmp (.inr rfl) (by simp +decide only [Gx, Sx, d0]) rfl ?_ hl3
      rw [ha]
      simp +decide only [Gx, Sx, n0]
      simp
    rw [decide_eq_true c1] at gb ha
    (iterate 7 (first | ((with_reducible apply RQ.run (awant_none rfl)); (focus ((first | simp +decide only [awant, ayield_get, oper1, aop, opv, opvs, opvo, opvp, abuiltin, aun, Gx, abin, isShift, aint, roV, pair, bind, Option.bind, acall, Sx, n0, g3, g4, g5, gb, fa25_1, ld3, x1, y1] | skip); with_reducible rfl))) | ((with_reducible apply RQ.runG); (focus rfl); (focus rfl); (focus (simp +decide only [awant, ayield_get, oper1, aop, opv, opvs, opvo, opvp, abuiltin, aun, Gx, abin, isShift, aint, roV, pair, bind, Option.bind, acall, Sx, n0, g3, g4, g5, gb, fa25_1, ld3, x1, y1]; done)); (focus ((first | simp +decide only [awant, ayield_get, oper1, aop, opv, opvs, opvo, opvp, abuiltin, aun, Gx, abin, isShift, aint, roV, pair, bind, Option.bind, acall, Sx, n0, g3, g4, g5, gb, fa25_1, ld3, x1, y1] | skip); with_reducible rfl))) | ((with_reducible apply RQ.skipG); (focus rfl); (focus rfl); (focus (simp +decide only [awant, ayield_get, oper1, aop, opv, opvs, opvo, opvp, abuiltin, aun, Gx, abin, isShift, aint, roV, pair, bind, Option.bind, acall, Sx, n0, g3, g4, g5, gb, fa25_1, ld3, x1, y1]; done)))))
    refine RQ.forget (fun A => A.n = 48 ∧ A.defers = [] ∧ A.get 3 = .pointer (some (own g.next)) ∧ A.get 4 = .pointer (some (own h1.next)) ∧ A.get 5 = .pointer (some (own h2.next)) ∧ A.get 19 = .bool (decide (m = m'))) ⟨by simp +decide only [Gx, Sx, n0], by simp +decide only [Gx, Sx, d0], by simp +decide only [Gx, Sx, n0, g3], by simp +decide only [Gx, Sx, n0, g4], by simp +decide only [Gx, Sx, n0, g5], by simp +decide only [Gx, Sx, n0]⟩ ?_
    clear n0 d0 g3 g4 g5 gb
    rintro A0 ⟨n0, d0, g3, g4, g5, gb⟩
    by_cases c2 : m = m'
    rotate_left
    · rw [decide_eq_false c2] at gb ha
      (iterate 29 (first | ((with_reducible apply RQ.run (awant_none rfl)); (focus ((first | simp +decide only [awant, ayield_get, oper1, aop, opv, opvs, opvo, opvp, abuiltin, aun, Gx, abin, isShift, aint, roV, pair, bind, Option.bind, acall, Sx, n0, gb] | skip); with_reducible rfl))) | ((with_reducible apply RQ.runG); (focus rfl); (focus rfl); (focus (simp +decide only [awant, ayield_get, oper1, aop, opv, opvs, opvo, opvp, abuiltin, aun, Gx, abin, isShift, aint, roV, pair, bind, Option.bind, acall, Sx, n0, gb]; done)); (focus ((first | simp +decide only [awant, ayield_get, oper1, aop, opv, opvs, opvo, opvp, abuiltin, aun, Gx, abin, isShift, aint, roV, pair, bind, Option.bind, acall, Sx, n0, gb] | skip); with_reducible rfl))) | ((with_reducible apply RQ.skipG); (focus rfl); (focus rfl); (focus (simp +decide only [awant, ayield_get, oper1, aop, opv, opvs, opvo, opvp, abuiltin, aun, Gx, abin, isShift, aint, roV, pair, bind, Option.bind, acall, Sx, n0, gb]; done)))))
      refine RQ.nil ?_
      refine Wc.ret ?_
      refine done_tmp (.inr rfl) (by simp +decide only [Gx, Sx, d0]) rfl ?_ hl3
      rw [ha]
      simp +decide only [Gx, Sx, n0]
      simp
    rw [decide_eq_true c2] at gb ha
    (iterate 7 (first | ((with_reducible apply RQ.run (awant_none rfl)); (focus ((first | simp +decide only [awant, ayield_get, oper1, aop, opv, opvs, opvo, opvp, abuiltin, aun, Gx, abin, isShift, aint, roV, pair, bind, Option.bind, acall, Sx, n0, g3, g4, g5, gb, fa25_2, ld9, x2, y2, astr, hbb] | skip); with_reducible rfl))) | ((with_reducible apply RQ.runG); (focus rfl); (focus rfl); (focus (simp +decide only [awant, ayield_get, oper1, aop, opv, opvs, opvo, opvp, abuiltin, aun, Gx, abin, isShift, aint, roV, pair, bind, Option.bind, acall, Sx, n0, g3, g4, g5, gb, fa25_2, ld9, x2, y2, astr, hbb]; done)); (focus ((first | simp +decide only [awant, ayield_get, oper1, aop, opv, opvs, opvo, opvp, abuiltin, aun, Gx, abin, isShift, aint, roV, pair, bind, Option.bind, acall, Sx, n0, g3, g4, g5, gb, fa25_2, ld9, x2, y2, astr, hbb] | skip); with_reducible rfl))) | ((with_reducible apply RQ.skipG); (focus rfl); (focus rfl); (focus (simp +decide only [awant, ayield_get, oper1, aop, opv, opvs, opvo, opvp, abuiltin, aun, Gx, abin, isShift, aint, roV, pair, bind, Option.bind, acall, Sx, n0, g3, g4, g5, gb, fa25_2, ld9, x2, y2, astr, hbb]; done)))))
    refine RQ.forget (fun A => A.n = 48 ∧ A.defers = [] ∧ A.get 3 = .pointer (some (own g.next)) ∧ A.get 4 = .pointer (some (own h1.next)) ∧ A.get 5 = .pointer (some (own h2.next)) ∧ A.get 26 = .bool (decide (tx = tx'))) ⟨by simp +decide only [Gx, Sx, n0], by simp +decide only [Gx, Sx, d0], by simp +decide only [Gx, Sx, n0, g3], by simp +decide only [Gx, Sx, n0, g4], by simp +decide only [Gx, Sx, n0, g5], by simp +decide only [Gx, Sx, n0]⟩ ?_
    clear n0 d0 g3 g4 g5 gb
    rintro A0 ⟨n0, d0, g3, g4, g5, gb⟩
    by_cases c3 : tx = tx'
    rotate_left
    · rw [decide_eq_false c3] at gb ha
      (iterate 22 (first | ((with_reducible apply RQ.run (awant_none rfl)); (focus ((first | simp +decide only [awant, ayield_get, oper1, aop, opv, opvs, opvo, opvp, abuiltin, aun, Gx, abin, isShift, aint, roV, pair, bind, Option.bind, acall, Sx, n0, gb] | skip); with_reducible rfl))) | ((with_reducible apply RQ.runG); (focus rfl); (focus rfl); (focus (simp +decide only [awant, ayield_get, oper1, aop, opv, opvs, opvo, opvp, abuiltin, aun, Gx, abin, isShift, aint, roV, pair, bind, Option.bind, acall, Sx, n0, gb]; done)); (focus ((first | simp +decide only [awant, ayield_get, oper1, aop, opv, opvs, opvo, opvp, abuiltin, aun, Gx, abin, isShift, aint, roV, pair, bind, Option.bind, acall, Sx, n0, gb] | skip); with_reducible rfl))) | ((with_reducible apply RQ.skipG); (focus rfl); (focus rfl); (focus (simp +decide only [awant, ayield_get, oper1, aop, opv, opvs, opvo, opvp, abuiltin, aun, Gx, abin, isShift, aint, roV, pair, bind, Option.bind, acall, Sx, n0, gb]; done)))))
      refine RQ.nil ?_
      refine Wc.ret ?_
      refine done_tmp (.inr rfl) (by simp +decide only [Gx, Sx, d0]) rfl ?_ hl3
      rw [ha]
      simp +decide only [Gx, Sx, n0]
      simp
    rw [decide_eq_true c3] at gb ha
    have el : decide ((ks.length : Int) = (ks'.length : Int)) = decide (ks.length = ks'.length) := by
      by_cases e : ks.length = ks'.length
      · rw [decide_eq_true e, decide_eq_true (by omega)]
      · rw [decide_eq_false e, decide_eq_false (by omega)]
    (iterate 9 (first | ((with_reducible apply RQ.run (awant_none rfl)); (focus ((first | simp +decide only [awant, ayield_get, oper1, aop, opv, opvs, opvo, opvp, abuiltin, aun, Gx, abin, isShift, aint, roV, pair, bind, Option.bind, acall, Sx, n0, g3, g4, g5, gb, fa25_3, ld23, x3, y3, len23, el] | skip); with_reducible rfl))) | ((with_reducible apply RQ.runG); (focus rfl); (focus rfl); (focus (simp +decide only [awant, ayield_get, oper1, aop, opv, opvs, opvo, opvp, abuiltin, aun, Gx, abin, isShift, aint, roV, pair, bind, Option.bind, acall, Sx, n0, g3, g4, g5, gb, fa25_3, ld23, x3, y3, len23, el]; done)); (focus ((first | simp +decide only [awant, ayield_get, oper1, aop, opv, opvs, opvo, opvp, abuiltin, aun, Gx, abin, isShift, aint, roV, pair, bind, Option.bind, acall, Sx, n0, g3, g4, g5, gb, fa25_3, ld23, x3, y3, len23, el] | skip); with_reducible rfl))) | ((with_reducible apply RQ.skipG); (focus rfl); (focus rfl); (focus (simp +decide only [awant, ayield_get, oper1, aop, opv, opvs, opvo, opvp, abuiltin, aun, Gx, abin, isShift, aint, roV, pair, bind, Option.bind, acall, Sx, n0, g3, g4, g5, gb, fa25_3, ld23, x3, y3, len23, el]; done)))))
    refine RQ.forget (fun A => A.n = 48 ∧ A.defers = [] ∧ A.get 3 = .pointer (some (own g.next)) ∧ A.get 4 = .pointer (some (own h1.next)) ∧ A.get 5 = .pointer (some (own h2.next)) ∧ A.get 35 = .bool (decide (ks.length = ks'.length))) ⟨by simp +decide only [Gx, Sx, n0], by simp +decide only [Gx, Sx, d0], by simp +decide only [Gx, Sx, n0, g3], by simp +decide only [Gx, Sx, n0, g4], by simp +decide only [Gx, Sx, n0, g5], by simp +decide only [Gx, Sx, n0]⟩ ?_
    clear n0 d0 g3 g4 g5 gb
    rintro A0 ⟨n0, d0, g3, g4, g5, gb⟩
    by_cases c4 : ks.length = ks'.length
    rotate_left
    · rw [decide_eq_false c4] at gb ha
      (iterate 13 (first | ((with_reducible apply RQ.run (awant_none rfl)); (focus ((first | simp +decide only [awant, ayield_get, oper1, aop, opv, opvs, opvo, opvp, abuiltin, aun, Gx, abin, isShift, aint, roV, pair, bind, Option.bind, acall, Sx, n0, gb] | skip); with_reducible rfl))) | ((with_reducible apply RQ.runG); (focus rfl); (focus rfl); (focus (simp +decide only [awant, ayield_get, oper1, aop, opv, opvs, opvo, opvp, abuiltin, aun, Gx, abin, isShift, aint, roV, pair, bind, Option.bind, acall, Sx, n0, gb]; done)); (focus ((first | simp +decide only [awant, ayield_get, oper1, aop, opv, opvs, opvo, opvp, abuiltin, aun, Gx, abin, isShift, aint, roV, pair, bind, Option.bind, acall, Sx, n0, gb] | skip); with_reducible rfl))) | ((with_reducible apply RQ.skipG); (focus rfl); (focus rfl); (focus (simp +decide only [awant, ayield_get, oper1, aop, opv, opvs, opvo, opvp, abuiltin, aun, Gx, abin, isShift, aint, roV, pair, bind, Option.bind, acall, Sx, n0, gb]; done)))))
      refine RQ.nil ?_
      refine Wc.ret ?_
      refine done_tmp (.inr rfl) (by simp +decide only [Gx, Sx, d0]) rfl ?_ hl3
      rw [ha]
      simp +decide only [Gx, Sx, n0]
      simp
    rw [decide_eq_true c4] at gb ha
    have c53 : (ev tab E J (nf + 1)).call 53 [sl, .func (.func 55) ⟨[]⟩ ⟨[.pointer (some (own g.next)), .pointer (some (own h1.next)), .pointer (some (own h2.next))]⟩] h4 = some (.bool (!alkL ks ks'), h4) := by
      apply ev_knownS
      have gr4 : Grows h h4 := hgr.trans (ag.grows.trans a4.grows)
      exact hJk (.inr (.inl ⟨rfl, .mk k m tx ks, .mk k' m' tx' ks', _, _, _, d, sl, rfl, ia4, ⟨_, _, _, _, _, rfl, rfl, rfl, a4.grows _ _ b1', rep_grow gr4 hr, a4.grows _ _ b2', rep_grow gr4 hr', a4.grows _ _ b3, d1, d2, hz, c4⟩, rfl, rfl⟩)) (by omega)
    (iterate 4 (first | ((with_reducible apply RQ.run (awant_none rfl)); (focus ((first | simp +decide only [awant, ayield_get, oper1, aop, opv, opvs, opvo, opvp, abuiltin, aun, Gx, abin, isShift, aint, roV, pair, bind, Option.bind, acall, Sx, n0, g3, g4, g5, gb, ld3, z0, h400] | skip); with_reducible rfl))) | ((with_reducible apply RQ.runG); (focus rfl); (focus rfl); (focus (simp +decide only [awant, ayield_get, oper1, aop, opv, opvs, opvo, opvp, abuiltin, aun, Gx, abin, isShift, aint, roV, pair, bind, Option.bind, acall, Sx, n0, g3, g4, g5, gb, ld3, z0, h400]; done)); (focus ((first | simp +decide only [awant, ayield_get, oper1, aop, opv, opvs, opvo, opvp, abuiltin, aun, Gx, abin, isShift, aint, roV, pair, bind, Option.bind, acall, Sx, n0, g3, g4, g5, gb, ld3, z0, h400] | skip); with_reducible rfl))) | ((with_reducible apply RQ.skipG); (focus rfl); (focus rfl); (focus (simp +decide only [awant, ayield_get, oper1, aop, opv, opvs, opvo, opvp, abuiltin, aun, Gx, abin, isShift, aint, roV, pair, bind, Option.bind, acall, Sx, n0, g3, g4, g5, gb, ld3, z0, h400]; done)))))
    refine RQ.forget (fun A => A.n = 48 ∧ A.defers = [] ∧ A.get 3 = .pointer (some (own g.next)) ∧ A.get 4 = .pointer (some (own h1.next)) ∧ A.get 5 = .pointer (some (own h2.next)) ∧ A.get 39 = .bool true) ⟨by simp +decide only [Gx, Sx, n0], by simp +decide only [Gx, Sx, d0], by simp +decide only [Gx, Sx, n0, g3], by simp +decide only [Gx, Sx, n0, g4], by simp +decide only [Gx, Sx, n0, g5], by simp +decide only [Gx, Sx, n0]⟩ ?_
    clear n0 d0 g3 g4 g5 gb
    rintro A0 ⟨n0, d0, g3, g4, g5, gb⟩
    (iterate 9 (first | ((with_reducible apply RQ.run (awant_none rfl)); (focus ((first | simp +decide only [awant, ayield_get, oper1, aop, opv, opvs, opvo, opvp, abuiltin, aun, Gx, abin, isShift, aint, roV, pair, bind, Option.bind, acall, Sx, n0, g3, g4, g5, gb, fa25_3, ld23, x3, len23, hup, c53, roF, aun, Bool.not_not] | skip); with_reducible rfl))) | ((with_reducible apply RQ.runG); (focus rfl); (focus rfl); (focus (simp +decide only [awant, ayield_get, oper1, aop, opv, opvs, opvo, opvp, abuiltin, aun, Gx, abin, isShift, aint, roV, pair, bind, Option.bind, acall, Sx, n0, g3, g4, g5, gb, fa25_3, ld23, x3, len23, hup, c53, roF, aun, Bool.not_not]; done)); (focus ((first | simp +decide only [awant, ayield_get, oper1, aop, opv, opvs, opvo, opvp, abuiltin, aun, Gx, abin, isShift, aint, roV, pair, bind, Option.bind, acall, Sx, n0, g3, g4, g5, gb, fa25_3, ld23, x3, len23, hup, c53, roF, aun, Bool.not_not] | skip); with_reducible rfl))) | ((with_reducible apply RQ.skipG); (focus rfl); (focus rfl); (focus (simp +decide only [awant, ayield_get, oper1, aop, opv, opvs, opvo, opvp, abuiltin, aun, Gx, abin, isShift, aint, roV, pair, bind, Option.bind, acall, Sx, n0, g3, g4, g5, gb, fa25_3, ld23, x3, len23, hup, c53, roF, aun, Bool.not_not]; done)))))
    refine RQ.nil ?_
    refine Wc.ret ?_
    refine done_tmp (.inr rfl) (by simp +decide only [Gx, Sx, d0]) rfl ?_ hlog4
    rw [ha]
    simp +decide only [Gx, Sx, n0]
    simp
  · -- ContainsFunc
    refine ⟨rfl, ?_⟩
    replace hnone := hnone (by simp)
    generalize hJ : upTo (says14n E) I (4 * isz t + 2) = J at hnone hJk hJ54 ⊢
    suffices hw : ∃ n v h', (ev tab E J n).call 53 [sl, .func (.func 55) ⟨[]⟩ ⟨[p3, p4, p5]⟩] (fresh h) = some (v, h') ∧ (v = .bool (!alkL t.kids u.kids) ∧ h'.log = []) by
      obtain ⟨n, v, h', h1, rfl, h3⟩ := hw
      exact ⟨n, h', h1, h3⟩
    refine Wc.call hnone fn53 rfl ?_
    generalize hA0 : (⟨T.ofList [sl, .func (.func 55) ⟨[]⟩ ⟨[p3, p4, p5]⟩] 0 .nil, max ([sl, .func (.func 55) ⟨[]⟩ ⟨[p3, p4, p5]⟩] : List Value).length Tryd.f53.ntmps, []⟩ : Ac) = A0
    have n0 : A0.n = 9 := by rw [← hA0]; rfl
    have g00 : A0.get 0 = sl := by rw [← hA0]; rfl
    have g01 : A0.get 1 = .func (.func 55) ⟨[]⟩ ⟨[p3, p4, p5]⟩ := by rw [← hA0]; rfl
    have d0 : A0.defers = [] := by rw [← hA0]
    have c89 : (ev tab E J 1).call 89 [sl, .func (.func 55) ⟨[]⟩ ⟨[p3, p4, p5]⟩] (fresh h) = some (.int .i64 (nidx t.kids u.kids 0), fresh h) := by
      apply ev_known
      exact hJk (.inr (.inr (.inl ⟨rfl, t, u, p3, p4, p5, d, sl, rfl, hia, cap.grow hgf, rfl, rfl⟩))) (by omega)
    have ed := nidx_alk t.kids u.kids 0 (by obtain ⟨_, _, _, _, _, _, _, _, _, _, _, _, _, _, _, _, hl⟩ := cap; exact hl)
    repeat' (first | (with_reducible apply Wc.seq) | (apply Wc.ops; (focus ((repeat' (first | with_reducible exact RO.nil | ((with_reducible apply RO.run (awant_none rfl)); (focus ((first | simp +decide only [awant, ayield_get, oper1, aop, opv, opvs, opvo, opvp, abuiltin, aun, Gx, abin, isShift, aint, roV, pair, bind, Option.bind, acall, Sx, n0, g00, g01, c89, ed] | skip); with_reducible rfl))))); done))) | (refine Wc.cond2 (by simp +decide only [opv, Gx, Sx, n0, g00, g01, c89, ed]; try with_reducible rfl) (fun hb => ?_) (fun hb => ?_) <;> try contradiction) | refine Wc.skip ?_ | refine Wc.ret ?_ | refine Wc.exit ?_ | refine Wc.block ?_)
    refine done_tmp (.inr rfl) (by simp +decide only [Gx, Sx, d0]) rfl ?_ rfl
    simp +decide only [Gx, Sx, n0]
  · -- IndexFunc
    refine ⟨rfl, ?_⟩
    replace hnone := hnone (by simp)
    generalize hJ : upTo (says14n E) I (4 * isz t + 1) = J at hnone hJk hJ54 ⊢
    suffices hw : ∃ n v h', (ev tab E J n).call 89 [sl, .func (.func 55) ⟨[]⟩ ⟨[p3, p4, p5]⟩] (fresh h) = some (v, h') ∧ (v = .int .i64 (nidx t.kids u.kids 0) ∧ h'.log = []) by
      obtain ⟨n, v, h', h1, rfl, h3⟩ := hw
      exact ⟨n, h', h1, h3⟩
    refine Wc.call hnone fn89 rfl ?_
    generalize hA0 : (⟨T.ofList [sl, .func (.func 55) ⟨[]⟩ ⟨[p3, p4, p5]⟩] 0 .nil, max ([sl, .func (.func 55) ⟨[]⟩ ⟨[p3, p4, p5]⟩] : List Value).length Tryd.f89.ntmps, []⟩ : Ac) = A0
    have n0 : A0.n = 19 := by rw [← hA0]; rfl
    have g00 : A0.get 0 = sl := by rw [← hA0]; rfl
    have g01 : A0.get 1 = .func (.func 55) ⟨[]⟩ ⟨[p3, p4, p5]⟩ := by rw [← hA0]; rfl
    have d0 : A0.defers = [] := by rw [← hA0]
    have hsl : ∃ b c, sl = .slice b t.kids.length c := by
      rcases hia with ⟨e1, e2⟩ | ⟨kk, rt, e1, _⟩
      · exact ⟨none, 0, by rw [e2, e1]⟩
      · exact ⟨_, _, e1⟩
    obtain ⟨b, c, rfl⟩ := hsl
    obtain ⟨hlen, hkk⟩ : t.kids.length ≤ 1000000 ∧ t.kids.length = u.kids.length := by
      obtain ⟨_, _, _, _, _, _, _, _, _, _, _, _, _, _, _, hz, hl⟩ := cap
      obtain ⟨k, m, tx, ks⟩ := t
      rw [isz] at hz
      have := len_iszE ks
      exact ⟨by show ks.length ≤ _; omega, hl⟩
    have key : ∀ (r i : Nat) (A : Ac), r = t.kids.length - i → i ≤ t.kids.length → A.n = 19 → A.defers = [] → A.get 0 = .slice b t.kids.length c → A.get 1 = .func (.func 55) ⟨[]⟩ ⟨[p3, p4, p5]⟩ → A.get 7 = .int .i64 (t.kids.length : Nat) → A.get 8 = .int .i64 (i : Nat) → nidx (t.kids.drop i) (u.kids.drop i) i = nidx t.kids u.kids 0 →
        Wc tab E J ⟨89, none⟩ (.loop loop89) A (fresh h) (fun ex A' h' => h' = fresh h ∧ A'.n = 19 ∧ A'.defers = [] ∧ (ex = .exit 0 ∧ nidx t.kids u.kids 0 = -1 ∨ ex = .ret ∧ A'.get 4 = .int .i64 (nidx t.kids u.kids 0))) := by
      intro r
      induction r with
      | zero =>
        intro i A hr hi nA dA p0 p1 p7 p8 hn
        obtain rfl : i = t.kids.length := by omega
        have hlt : decide ((t.kids.length : Int) < (t.kids.length : Int)) = false := by simp
        rw [nidx_end] at hn
        apply Wc.loop
        simp only [loop89, loopOf, firstLoop, Option.getD, Tryd.f89]
        repeat' (first | (with_reducible apply Wc.seq) | (apply Wc.ops; (focus ((repeat' (first | with_reducible exact RO.nil | ((with_reducible apply RO.run (awant_none rfl)); (focus ((first | simp +decide only [awant, ayield_get, oper1, aop, opv, opvs, opvo, opvp, abuiltin, aun, Gx, abin, isShift, aint, roV, pair, bind, Option.bind, acall, Sx, nA, p0, p1, p7, p8, hlt] | skip); with_reducible rfl))))); done))) | (refine Wc.cond2 (by simp +decide only [opv, Gx, Sx, nA, p0, p1, p7, p8, hlt]; try with_reducible rfl) (fun hb => ?_) (fun hb => ?_) <;> try contradiction) | refine Wc.skip ?_ | refine Wc.ret ?_ | refine Wc.exit ?_ | refine Wc.block ?_)
        exact ⟨rfl, by simp +decide only [Gx, Sx, nA], by simp +decide only [Gx, Sx, dA], .inl ⟨rfl, hn.symm⟩⟩
      | succ r ih =>
        intro i A hr hi nA dA p0 p1 p7 p8 hn
        have hil : i < t.kids.length := by omega
        have hlt : decide ((i : Int) < (t.kids.length : Int)) = true := by simp; omega
        have hir : inRange (i : Int) t.kids.length = true := by
          show Nat.blt i t.kids.length = true
          rw [Nat.blt_eq]; exact hil
        have w3 : IntKind.i64.wrap ((i : Int) + 1) = (i : Int) + 1 := wrap64 (by omega) (by omega)
        have c55 : (ev tab E J 1).call 55 [.int .i64 (i : Nat), p3, p4, p5] (fresh h) = some (.bool (!alkI t.kids[i] (u.kids[i]'(by omega))), fresh h) := by
          apply ev_known
          exact hJk (.inr (.inr (.inr ⟨rfl, t, u, p3, p4, p5, d, i, rfl, hil, by omega, cap.grow hgf, rfl, rfl⟩))) (by omega)
        rw [nidx_drop hil (by omega)] at hn
        rcases hia with ⟨e1, _⟩ | ⟨kk, rt, e1, e2⟩
        · omega
        simp only [Value.slice.injEq] at e1
        obtain ⟨rfl, _, rfl⟩ := e1
        have hld : (fresh h).cell E (aadd (own kk) (i * 1)) = some (.int .i64 (i : Nat)) := blk_cell (h := fresh h) e2 (by rw [Nat.mul_one]; exact ints_get _ _ hil) rfl
        cases hb : alkI t.kids[i] (u.kids[i]'(by omega)) with
        | true =>
          rw [hb] at hn c55
          rw [if_pos rfl] at hn
          rw [Bool.not_true] at c55
          apply Wc.loop
          simp only [loop89, loopOf, firstLoop, Option.getD, Tryd.f89]
          repeat' (first | (with_reducible apply Wc.seq) | (apply Wc.ops; (focus ((repeat' (first | with_reducible exact RO.nil | ((with_reducible apply RO.run (awant_none rfl)); (focus ((first | simp +decide only [awant, ayield_get, oper1, aop, opv, opvs, opvo, opvp, abuiltin, aun, Gx, abin, isShift, aint, roV, pair, bind, Option.bind, acall, Sx, nA, p0, p1, p7, p8, hlt, ia53 _ _ _ _ hir, Int.toNat_natCast, ld3, hld, List.cons_append, c55, w3] | skip); with_reducible rfl))))); done))) | (refine Wc.cond2 (by simp +decide only [opv, Gx, Sx, nA, p0, p1, p7, p8, hlt, ia53 _ _ _ _ hir, Int.toNat_natCast, ld3, hld, List.cons_append, c55, w3]; try with_reducible rfl) (fun hb => ?_) (fun hb => ?_) <;> try contradiction) | refine Wc.skip ?_ | refine Wc.ret ?_ | refine Wc.exit ?_ | refine Wc.block ?_)
          refine ih (i + 1) _ (by omega) (by omega) ?_ ?_ ?_ ?_ ?_ ?_ hn
          · simp +decide only [Gx, Sx, nA]
          · simp +decide only [Gx, Sx, dA]
          · simp +decide only [Gx, Sx, nA, p0]
          · simp +decide only [Gx, Sx, nA, p1]
          · simp +decide only [Gx, Sx, nA, p7]
          · simp +decide only [Gx, Sx, nA]
            rfl
        | false =>
          rw [hb] at hn c55
          rw [if_neg (by simp)] at hn
          rw [Bool.not_false] at c55
          apply Wc.loop
          simp only [loop89, loopOf, firstLoop, Option.getD, Tryd.f89]
          repeat' (first | (with_reducible apply Wc.seq) | (apply Wc.ops; (focus ((repeat' (first | with_reducible exact RO.nil | ((with_reducible apply RO.run (awant_none rfl)); (focus ((first | simp +decide only [awant, ayield_get, oper1, aop, opv, opvs, opvo, opvp, abuiltin, aun, Gx, abin, isShift, aint, roV, pair, bind, Option.bind, acall, Sx, nA, p0, p1, p7, p8, hlt, ia53 _ _ _ _ hir, Int.toNat_natCast, ld3, hld, List.cons_append, c55, w3] | skip); with_reducible rfl))))); done))) | (refine Wc.cond2 (by simp +decide only [opv, Gx, Sx, nA, p0, p1, p7, p8, hlt, ia53 _ _ _ _ hir, Int.toNat_natCast, ld3, hld, List.cons_append, c55, w3]; try with_reducible rfl) (fun hb => ?_) (fun hb => ?_) <;> try contradiction) | refine Wc.skip ?_ | refine Wc.ret ?_ | refine Wc.exit ?_ | refine Wc.block ?_)
          refine ⟨rfl, by simp +decide only [Gx, Sx, nA], by simp +decide only [Gx, Sx, dA], .inr ⟨rfl, ?_⟩⟩
          rw [← hn]
          simp +decide only [Gx, Sx, nA]
    repeat' (first | (with_reducible apply Wc.seq) | (apply Wc.ops; (focus ((repeat' (first | with_reducible exact RO.nil | ((with_reducible apply RO.run (awant_none rfl)); (focus ((first | simp +decide only [awant, ayield_get, oper1, aop, opv, opvs, opvo, opvp, abuiltin, aun, Gx, abin, isShift, aint, roV, pair, bind, Option.bind, acall, Sx, n0, g00, g01, len53] | skip); with_reducible rfl))))); done))) | (refine Wc.cond2 (by simp +decide only [opv, Gx, Sx, n0, g00, g01, len53]; try with_reducible rfl) (fun hb => ?_) (fun hb => ?_) <;> try contradiction) | refine Wc.skip ?_ | refine Wc.ret ?_ | refine Wc.exit ?_ | refine Wc.block ?_)
    refine (key t.kids.length 0 _ rfl (Nat.zero_le _) ?_ ?_ ?_ ?_ ?_ ?_ rfl).mono ?_
    · simp +decide only [Gx, Sx, n0]
    · simp +decide only [Gx, Sx, d0]
    · simp +decide only [Gx, Sx, n0, g00]
    · simp +decide only [Gx, Sx, n0, g01]
    · simp +decide only [Gx, Sx, n0]
    · simp +decide only [Gx, Sx, n0]
      rfl
    · rintro ex A' h' ⟨rfl, e1, e2, ⟨rfl, e3⟩ | ⟨rfl, e3⟩⟩
      · simp only [if_true]
        repeat' (first | (with_reducible apply Wc.seq) | (apply Wc.ops; (focus ((repeat' (first | with_reducible exact RO.nil | ((with_reducible apply RO.run (awant_none rfl)); (focus ((first | simp +decide only [awant, ayield_get, oper1, aop, opv, opvs, opvo, opvp, abuiltin, aun, Gx, abin, isShift, aint, roV, pair, bind, Option.bind, acall, Sx, e1] | skip); with_reducible rfl))))); done))) | (refine Wc.cond2 (by simp +decide only [opv, Gx, Sx, e1]; try with_reducible rfl) (fun hb => ?_) (fun hb => ?_) <;> try contradiction) | refine Wc.skip ?_ | refine Wc.ret ?_ | refine Wc.exit ?_ | refine Wc.block ?_)
        refine done_tmp (.inr rfl) (by simp +decide only [Gx, Sx, e2]) rfl ?_ rfl
        rw [e3]
        simp +decide only [Gx, Sx, e1]
      · refine done_tmp (.inr rfl) e2 rfl e3 rfl
  · -- the closure
    refine ⟨rfl, ?_⟩
    replace hnone := hnone (by simp)
    generalize hJ : upTo (says14n E) I (4 * isz t) = J at hnone hJk hJ54 ⊢
    suffices hw : ∃ n v h', (ev tab E J n).call 55 [.int .i64 (i : Nat), p3, p4, p5] (fresh h) = some (v, h') ∧ (v = .bool (!alkI t.kids[i] u.kids[i]) ∧ h'.log = []) by
      obtain ⟨n, v, h', h1, rfl, h3⟩ := hw
      exact ⟨n, h', h1, h3⟩
    refine Wc.call hnone fn55 rfl ?_
    generalize hA0 : (⟨T.ofList [.int .i64 (i : Nat), p3, p4, p5] 0 .nil, max ([.int .i64 (i : Nat), p3, p4, p5] : List Value).length Tryd.f55.ntmps, []⟩ : Ac) = A0
    have n0 : A0.n = 20 := by rw [← hA0]; rfl
    have g00 : A0.get 0 = .int .i64 (i : Nat) := by rw [← hA0]; rfl
    have g01 : A0.get 1 = p3 := by rw [← hA0]; rfl
    have g02 : A0.get 2 = p4 := by rw [← hA0]; rfl
    have g03 : A0.get 3 = p5 := by rw [← hA0]; rfl
    have d0 : A0.defers = [] := by rw [← hA0]
    obtain ⟨k3, k4, k5, cs3, cs4, rfl, rfl, rfl, b3, r3, b4, r4, b5, d1, d2, hz, hkk⟩ := cap
    obtain ⟨k, m, tx, ks⟩ := t
    obtain ⟨k', m', tx', ks'⟩ := u
    have hil : i < ks.length := hi
    have hil' : i < ks'.length := hi'
    obtain ⟨sb, sc, e3, hs⟩ := rep_slice r3
    obtain ⟨sb', sc', e4, hs'⟩ := rep_slice r4
    simp only [Value.agg.injEq, Array.mk.injEq] at e3 e4
    subst e3 e4
    rcases hs with hk0 | ⟨a, cs, he, hlc, hcs, hrl⟩
    · rw [hk0] at hil; simp at hil
    rcases hs' with hk0 | ⟨a', cs', he', hlc', hcs', hrl'⟩
    · rw [hk0] at hil'; simp at hil'
    subst he he'
    obtain ⟨_, hrk⟩ := repL_get i hrl (List.getElem?_eq_getElem hil)
    obtain ⟨_, hrk'⟩ := repL_get i hrl' (List.getElem?_eq_getElem hil')
    have hsub : (fresh h).cells E (aadd a (i * 4)) 4 = some ((cs.drop (i * 4)).take 4) := cells_sub (h := fresh h) hcs (m := i * 4) (l := 4) (by omega)
    have hsub' : (fresh h).cells E (aadd a' (i * 4)) 4 = some ((cs'.drop (i * 4)).take 4) := cells_sub (h := fresh h) hcs' (m := i * 4) (l := 4) (by omega)
    have hmem : ks[i] ∈ ks := List.getElem_mem hil
    have hkz := isz_kid (k := k) (n := m) (t := tx) hmem
    have hkl := lvl_kid (k := k) (n := m) (t := tx) hmem
    have hlb := lvlI_bound ks[i]
    have w3 : IntKind.i64.wrap (d + 1) = d + 1 := wrap64 (by omega) (by omega)
    have x3 : (fresh h).cell E (aadd (own k3) 3) = some (.slice (some a) ks.length sc) := blk_cell (h := fresh h) (i := 3) b3 rfl rfl
    have y3 : (fresh h).cell E (aadd (own k4) 3) = some (.slice (some a') ks'.length sc') := blk_cell (h := fresh h) (i := 3) b4 rfl rfl
    have z0 : (fresh h).cell E (own k5) = some (.int .i64 d) := blk_cell0 (h := fresh h) b5 rfl
    have hir : inRange (i : Int) ks.length = true := by
      show Nat.blt i ks.length = true
      rw [Nat.blt_eq]; exact hil
    have hir' : inRange (i : Int) ks'.length = true := by
      show Nat.blt i ks'.length = true
      rw [Nat.blt_eq]; exact hil'
    have c14 : (ev tab E J 1).call 14 [.agg ⟨(cs.drop (i * 4)).take 4⟩, .agg ⟨(cs'.drop (i * 4)).take 4⟩, .int .i64 (d + 1)] (fresh h) = some (.bool (alkI ks[i] ks'[i]), fresh h) := by
      apply ev_known
      exact hJk (.inl ⟨rfl, ks[i], ks'[i], _, _, d + 1, rfl, rep_grow hgf hrk, rep_grow hgf hrk', by omega, by omega, by omega, rfl, rfl⟩) (by omega)
    have hff : fresh (fresh h) = fresh h := rfl
    repeat' (first | (with_reducible apply Wc.seq) | (apply Wc.ops; (focus ((repeat' (first | with_reducible exact RO.nil | ((with_reducible apply RO.run (awant_none rfl)); (focus ((first | simp +decide only [awant, ayield_get, oper1, aop, opv, opvs, opvo, opvp, abuiltin, aun, Gx, abin, isShift, aint, roV, pair, bind, Option.bind, acall, Sx, n0, g00, g01, g02, g03, hff, fa25_3, ld3, ld23, ld25, x3, y3, z0, ia23 _ _ _ _ hir, ia23 _ _ _ _ hir', Int.toNat_natCast, hsub, hsub', w3, c14, aun] | skip); with_reducible rfl))) | ((with_reducible apply RO.runG); (focus rfl); (focus rfl); (focus (simp +decide only [awant, ayield_get, oper1, aop, opv, opvs, opvo, opvp, abuiltin, aun, Gx, abin, isShift, aint, roV, pair, bind, Option.bind, acall, Sx, n0, g00, g01, g02, g03, hff, fa25_3, ld3, ld23, ld25, x3, y3, z0, ia23 _ _ _ _ hir, ia23 _ _ _ _ hir', Int.toNat_natCast, hsub, hsub', w3, c14, aun]; done)); (focus ((first | simp +decide only [awant, ayield_get, oper1, aop, opv, opvs, opvo, opvp, abuiltin, aun, Gx, abin, isShift, aint, roV, pair, bind, Option.bind, acall, Sx, n0, g00, g01, g02, g03, hff, fa25_3, ld3, ld23, ld25, x3, y3, z0, ia23 _ _ _ _ hir, ia23 _ _ _ _ hir', Int.toNat_natCast, hsub, hsub', w3, c14, aun] | skip); with_reducible rfl))) | ((with_reducible apply RO.skipG); (focus rfl); (focus rfl); (focus (simp +decide only [awant, ayield_get, oper1, aop, opv, opvs, opvo, opvp, abuiltin, aun, Gx, abin, isShift, aint, roV, pair, bind, Option.bind, acall, Sx, n0, g00, g01, g02, g03, hff, fa25_3, ld3, ld23, ld25, x3, y3, z0, ia23 _ _ _ _ hir, ia23 _ _ _ _ hir', Int.toNat_natCast, hsub, hsub', w3, c14, aun]; done))))); done))) | (refine Wc.quiet (by kernel_rfl) (by repeat' (first | with_reducible exact QO.nil | ((with_reducible apply QO.cons rfl rfl); (focus ((first | simp +decide only [awant, ayield_get, oper1, aop, opv, opvs, opvo, opvp, abuiltin, aun, Gx, abin, isShift, aint, roV, pair, bind, Option.bind, acall, Sx, n0, g00, g01, g02, g03, hff, fa25_3, ld3, ld23, ld25, x3, y3, z0, ia23 _ _ _ _ hir, ia23 _ _ _ _ hir', Int.toNat_natCast, hsub, hsub', w3, c14, aun] | skip); with_reducible rfl))))) ?_) | (refine Wc.cond2 (by simp +decide only [opv, Gx, Sx, n0, g00, g01, g02, g03, hff, fa25_3, ld3, ld23, ld25, x3, y3, z0, ia23 _ _ _ _ hir, ia23 _ _ _ _ hir', Int.toNat_natCast, hsub, hsub', w3, c14, aun]; try with_reducible rfl) (fun hb => ?_) (fun hb => ?_) <;> try contradiction) | refine Wc.skip ?_ | refine Wc.ret ?_ | refine Wc.exit ?_ | refine Wc.block ?_)
    refine done_tmp (.inr rfl) (by simp +decide only [Gx, Sx, d0]) rfl ?_ rfl
    simp +decide only [Gx, Sx, n0]
    rfl
def AlkN (E : Env) (I : Known) : Prop := ∀ t u xv yv h, rep E h t xv → rep E h u yv → lvlI t ≤ 400 → isz t ≤ 1000000 → I 14 [xv, yv, .int .i64 0] h = some (some (.bool (alkI t u), h))
end Go.Proofs.YtofijpbmbmbnhaaDoor
