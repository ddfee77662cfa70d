/- The law on the order: it gives true. -/
import Derived.Test.YtofijpbmbmbnhaaDoorHsao
set_option linter.unusedSimpArgs false
set_option linter.unusedVariables false
set_option maxRecDepth 100000
set_option maxHeartbeats 16000000
namespace Go.Proofs.YtofijpbmbmbnhaaDoor
open Go Go.Hs Go.Proofs
variable {E : Env}

/-- What is known of the functions that the law calls. -/
structure Kn6 (E : Env) (K : Known) : Prop where
  out : ∀ f args h, f ∈ [6, 24, 59, 23, 58, 121, 94, 93, 95, 28, 67, 75, 29, 68, 47] → K f args h = none
  k11 : ∀ h, K 11 [] h = some (some (.bool true, h))
  k27 : ∀ t xv u yv h, rep E h t xv → rep E h u yv → isz t ≤ 400000 → isz u ≤ 400000 → K 27 [xv, yv] h = some (some (.tuple #[.int .i64 (cmpI t u).1, .int .i64 (cmpI t u).2], h))
  k35 : ∀ t xv h, rep E h t xv → isz t ≤ 1000000 → K 35 [xv] h = some (some (.int .i64 (chkI t 0 1).2, h))
  k65 : ∀ ks sl h, repK E h ks sl → iszL ks ≤ 1000000 → K 65 [sl] h = some (some (.int .i64 (chkAll ks), h))
  k108 : ∀ k m tx b n c h, K 108 [.agg ⟨[.int .i64 k, .int .i64 m, .string tx, .slice b n c]⟩] h = some (some (.agg ⟨[.int .i64 k, .int .i64 m, .int .i64 (n : Nat), .string tx]⟩, h))
  k14 : ∀ t xv yv h, rep E h t xv → rep E h t yv → lvlI t ≤ 400 → isz t ≤ 1000000 → K 14 [xv, yv, .int .i64 0] h = some (some (.bool true, h))

/-- One of three. -/
def tri (a b c : Hs.Item) : Nat → Hs.Item
  | 0 => a
  | 1 => b
  | _ => c
theorem tri_all {P : Hs.Item → Prop} {a b c : Hs.Item} (ha : P a) (hb : P b) (hc : P c) : ∀ i, P (tri a b c i)
  | 0 => ha
  | 1 => hb
  | _ + 2 => hc

theorem bs23_3 {a0 a1 a2 a3 b0 b1 b2 b3 c0 c1 c2 c3 : Value} {h : H} : abuildSlice tab 23 3 [(0, .agg ⟨[a0, a1, a2, a3]⟩), (1, .agg ⟨[b0, b1, b2, b3]⟩), (2, .agg ⟨[c0, c1, c2, c3]⟩)] h = some (.slice (some (own h.next)) 3 3, h.new (.cells [a0, a1, a2, a3, b0, b1, b2, b3, c0, c1, c2, c3] 25 none)) := by
  unfold abuildSlice
  simp only [ty23, tz25]
  rfl
theorem ia23_0 (a : Addr) : aindexAddr tab 23 (.slice (some a) 3 3) (.int .i64 0) = some (.pointer (some (aadd a (0 * 4)))) := ia23 a 3 3 0 rfl
theorem ia23_1 (a : Addr) : aindexAddr tab 23 (.slice (some a) 3 3) (.int .i64 1) = some (.pointer (some (aadd a (1 * 4)))) := ia23 a 3 3 1 rfl
theorem ia50_0 (a : Addr) : aindexAddr tab 50 (.pointer (some a)) (.int .i64 0) = some (.pointer (some (aadd a (0 * 3)))) := ia50 a 0 rfl
theorem ia49_1 (a : Addr) : aindexAddr tab 49 (.pointer (some a)) (.int .i64 1) = some (.pointer (some (aadd a (1 * 1)))) := ia49 a 1 rfl

noncomputable def tailOf : Nat → Code → Code
  | 0, c => c
  | n + 1, .seq _ b => tailOf n b
  | _, c => c

theorem good_chk {t : Hs.Item} (hg : goodI t) (hl : lvlI t ≤ 6) (hz : isz t ≤ 12) : (chkI t 0 1).2 = 0 := chkI_good t 0 1 hg (by decide) (by omega) (by omega)
theorem good_both {t u : Hs.Item} (ht : (chkI t 0 1).2 = 0) (hu : (chkI u 0 1).2 = 0) : bothI t u = 0 := by
  rw [bothI, if_neg (by rw [ht]; simp), hu]
theorem good_cmp {t u : Hs.Item} (ht : (chkI t 0 1).2 = 0) (hu : (chkI u 0 1).2 = 0) : cmpI t u = (ordI t u, 0) := by
  rw [cmpI, if_neg (by rw [good_both ht hu]; simp)]

theorem astrE (a b : List UInt8) : astr .eql a b = some (.bool (a == b)) := rfl
theorem amin2 (a b : Int) : amin (fun x y => if y < x then y else x) [.int .i64 a, .int .i64 b] = some (.int .i64 (if b < a then b else a)) := rfl
theorem ordI_num {k m m' : Int} {tx : ByteArray} {ks : List Hs.Item} (h0 : m ≤ m') (h1 : m' ≤ m + 1) : ordI (.mk k m tx ks) (.mk k m' tx ks) = m - m' := by
  rw [ordI_if]
  have e1 : cmpN k k = 0 := by unfold cmpN; simp
  have e2 : cmpN m m' = m - m' := by
    unfold cmpN
    split
    · omega
    · split <;> omega
  by_cases q : m = m'
  · subst q
    have := ordI_self (.mk k m tx ks)
    rw [ordI_if] at this
    rw [this]; omega
  · rw [if_neg (by rw [e1]; simp), if_pos (by rw [e2]; omega), e2]
theorem st3_1m {k : Nat} {x0 x1 x2 x3 : Value} {i : Int} {g : H} (hb : g.blk k = some (.cells [x0, x1, x2, x3] 25 none)) (hm : g.mark ≤ k) : astore tab 3 (aadd (own k) 1) (.int .i64 i) g = some (g.setb k (.cells [x0, .int .i64 i, x2, x3] 25 none)) := by
  unfold astore
  rw [ty3]
  exact put_plain (o := 1) (vs := [.int .i64 i]) hb (by simp) (by simp) rfl hm
theorem fit_empty : Fit H.empty := by
  refine ⟨fun _ _ => T.get_nil _, ⟨fun k xs ty r p hd => ?_, Nat.le_refl _⟩⟩
  rw [show H.empty.dyn = T.nil from rfl, T.get_nil] at hd
  cases hd
theorem walk6 {K : Known} (k : Kn6 E K) {s0 s1 s2 : Value} {l0 l1 l2 : List Int} (hb0 : Bin E H.empty s0 l0) (hb1 : Bin E H.empty s1 l1) (hb2 : Bin E H.empty s2 l2) : ∃ n h', (ev tab E K n).call 6 [s0, s1, s2] H.empty = some (.bool true, h') := by
  suffices hw : ∃ n v h', (ev tab E K n).call 6 [s0, s1, s2] H.empty = some (v, h') ∧ v = .bool true by
    obtain ⟨n, v, h', h1, rfl⟩ := hw
    exact ⟨n, h', h1⟩
  have hfit := fit_empty
  have hlog : H.empty.log = [] := rfl
  generalize H.empty = g at hb0 hb1 hb2 hfit hlog ⊢
  have hIm : ∀ f args h, (f = 121 ∨ f = 94 ∨ f = 93 ∨ f = 95 ∨ f = 58 ∨ f = 23 ∨ f = 24 ∨ f = 59) → K f args h = none := fun f args h hf => k.out f args h (by rcases hf with h | h | h | h | h | h | h | h <;> simp [h])
  obtain ⟨n1, p1, e1, x0, x1, x2, x3, h1, t0, m1, xone, a1, r1, g1, v1, z1⟩ := made (E := E) (I := K) hIm hfit hlog hb0 5 12 (by decide) (by decide) (by decide)
  obtain ⟨n2, p2, e2, y0, y1, y2, y3, h2, t1, m2, yone, a2, r2, g2, v2, z2⟩ := made (E := E) (I := K) hIm a1.fit (a1.log.trans hlog) (hb1.grow a1.grows) 5 12 (by decide) (by decide) (by decide)
  obtain ⟨n3, p3, e3, w0, w1, w2, w3, h3, t2, m3, wone, a3, r3, g3, v3, z3⟩ := made (E := E) (I := K) hIm a2.fit ((a1.trans a2).log.trans hlog) (hb2.grow (a1.trans a2).grows) 5 12 (by decide) (by decide) (by decide)
  have c1 : ∀ m, n1 ≤ m → (ev tab E K m).call 24 [s0] g = some (p1, e1) ∧ (ev tab E K m).call 23 [p1, .int .i64 12, .int .i64 5] e1 = some (.agg ⟨[x0, x1, x2, x3]⟩, h1) := m1
  have c2 : ∀ m, n2 ≤ m → (ev tab E K m).call 24 [s1] h1 = some (p2, e2) ∧ (ev tab E K m).call 23 [p2, .int .i64 12, .int .i64 5] e2 = some (.agg ⟨[y0, y1, y2, y3]⟩, h2) := m2
  have c3 : ∀ m, n3 ≤ m → (ev tab E K m).call 24 [s2] h2 = some (p3, e3) ∧ (ev tab E K m).call 23 [p3, .int .i64 12, .int .i64 5] e3 = some (.agg ⟨[w0, w1, w2, w3]⟩, h3) := m3
  obtain ⟨c24a, c23a⟩ := c1 (n1 + n2 + n3) (by omega)
  obtain ⟨c24b, c23b⟩ := c2 (n1 + n2 + n3) (by omega)
  obtain ⟨c24c, c23c⟩ := c3 (n1 + n2 + n3) (by omega)
  generalize n1 + n2 + n3 = nf at c24a c23a c24b c23b c24c c23c
  clear c1 c2 c3 m1 m2 m3
  have k0 := good_chk g1 v1 z1
  have k1 := good_chk g2 v2 z2
  have k2 := good_chk g3 v3 z3
  -- the three items
  generalize hh4 : h3.new (.cells [x0, x1, x2, x3, y0, y1, y2, y3, w0, w1, w2, w3] 25 none) = h8
  have a4 : Ahd h3 h8 := by rw [← hh4]; exact Ahd.new0 a3.fit rfl
  have b4 : h8.blk h3.next = some (.cells [x0, x1, x2, x3, y0, y1, y2, y3, w0, w1, w2, w3] 25 none) := by rw [← hh4]; exact new_blk_new rfl
  have hbs := bs23_3 (a0 := x0) (a1 := x1) (a2 := x2) (a3 := x3) (b0 := y0) (b1 := y1) (b2 := y2) (b3 := y3) (c0 := w0) (c1 := w1) (c2 := w2) (c3 := w3) (h := h3)
  rw [hh4] at hbs
  have hone12 : [x0, x1, x2, x3, y0, y1, y2, y3, w0, w1, w2, w3].all isOne = true := by
    simp only [List.all_cons, List.all_nil, Bool.and_true, Bool.and_eq_true] at xone yone wone ⊢
    exact ⟨xone.1, xone.2.1, xone.2.2.1, xone.2.2.2, yone.1, yone.2.1, yone.2.2.1, yone.2.2.2, wone.1, wone.2.1, wone.2.2.1, wone.2.2.2⟩
  have hw12 : h8.cells E (own h3.next) 12 = some [x0, x1, x2, x3, y0, y1, y2, y3, w0, w1, w2, w3] := blk_cells b4 rfl hone12
  have R : Row3 E h8 h3.next (tri t0 t1 t2) := by
    intro i hi
    obtain rfl | rfl | rfl : i = 0 ∨ i = 1 ∨ i = 2 := by omega
    · exact ⟨x0, x1, x2, x3, cells_sub hw12 (m := 0) (l := 4) (by omega), xone, rep_grow ((a2.trans a3).trans a4).grows r1⟩
    · exact ⟨y0, y1, y2, y3, cells_sub hw12 (m := 4) (l := 4) (by omega), yone, rep_grow (a3.trans a4).grows r2⟩
    · exact ⟨w0, w1, w2, w3, cells_sub hw12 (m := 8) (l := 4) (by omega), wone, rep_grow a4.grows r3⟩
  generalize hh5 : h8.new (.cells (Value.agg #[.int .i64 0, .int .i64 0, .int .i64 0, .int .i64 0, .int .i64 0, .int .i64 0, .int .i64 0, .int .i64 0, .int .i64 0]).cells.toList 50 none) = h9
  have a5 : Ahd h8 h9 := by rw [← hh5]; exact Ahd.new0 a4.fit rfl
  have b5 : h9.blk h8.next = some (.cells (mat (fun i j => ordI (tri t0 t1 t2 i) (tri t0 t1 t2 j)) (0 * 3)) 50 none) := by rw [← hh5]; exact new_blk_new rfl
  have hchk : ∀ i, (chkI (tri t0 t1 t2 i) 0 1).2 = 0 := tri_all (P := fun t => (chkI t 0 1).2 = 0) k0 k1 k2
  have hsz : ∀ i, isz (tri t0 t1 t2 i) ≤ 12 := tri_all (P := fun t => isz t ≤ 12) z1 z2 z3
  refine Wc.call (k.out _ _ _ (by simp)) fn6 rfl ?_
  generalize hA0 : (⟨T.ofList [s0, s1, s2] 0 .nil, max ([s0, s1, s2] : List Value).length Tryd.f6.ntmps, []⟩ : Ac) = A0
  have n0 : A0.n = 242 := by rw [← hA0]; rfl
  have g00 : A0.get 0 = s0 := by rw [← hA0]; rfl
  have g01 : A0.get 1 = s1 := by rw [← hA0]; rfl
  have g02 : A0.get 2 = s2 := by rw [← hA0]; rfl
  have d0 : A0.defers = [] := by rw [← hA0]
  repeat' (first
    | (with_reducible apply Wc.seq)
    | (refine Wc.opsN nf (by repeat' (first
      | with_reducible exact RO.nil
      | ((with_reducible apply RO.run (awant_none rfl)); (focus ((first | simp (config := {decide := true}) only [awant, ayield_get, oper1, aop, opv, opvs, opvo, opvp, abuiltin, Ac.get_put, if_true, if_false, and_true, decide_true, abin, isShift, aint, roV, pair, bind, Option.bind, acall, Sx, n0, g00, g01, g02, c24a, c23a, c24b, c23b, c24c, c23c, hbs, tz50, hh5, len23] | skip); with_reducible rfl))))) ?_)
    | (refine Wc.cond2 (by simp (config := {decide := true}) only [opv, Ac.get_put, if_true, if_false, and_true, decide_true, Sx, n0, g00, g01, g02, c24a, c23a, c24b, c23b, c24c, c23c, hbs, tz50, hh5, len23]; try with_reducible rfl) (fun hb => ?_) (fun hb => ?_) <;> try contradiction)
    | refine Wc.skip ?_
    | refine Wc.ret ?_
    | refine Wc.exit ?_
    | refine Wc.block ?_)
  refine (outer6 k.k27 (fun i j => good_cmp (hchk i) (hchk j)) (fun i => Nat.le_trans (hsz i) (by decide)) a4.fit (Nat.le_refl _) R 3 0 _ h9 rfl (by omega) ⟨?_, ?_, ?_, ?_⟩ ?_ ?_ ?_ a5 b5).mono ?_
  · simp (config := {decide := true}) only [Ac.get_put, if_true, if_false, and_true, Sx, n0]
  · simp (config := {decide := true}) only [Ac.get_put, if_true, if_false, and_true, Sx, d0]
  · simp (config := {decide := true}) only [Ac.get_put, if_true, if_false, and_true, Sx, n0]
  · simp (config := {decide := true}) only [Ac.get_put, if_true, if_false, and_true, Sx, n0]
  · simp (config := {decide := true}) only [Ac.get_put, if_true, if_false, and_true, Sx, n0]
  · simp (config := {decide := true}) only [Ac.get_put, if_true, if_false, and_true, Sx, n0]
    rfl
  · simp (config := {decide := true}) only [Ac.get_put, if_true, if_false, and_true, Sx, n0]
    rfl
  rintro ex A g ⟨rfl, ⟨nA, dA, p7, p8⟩, ah, bM⟩
  simp only [if_true]
  repeat' (first
    | (with_reducible apply Wc.seq)
    | (refine Wc.ops (by repeat' (first
      | with_reducible exact RO.nil
      | ((with_reducible apply RO.run (awant_none rfl)); (focus ((first | simp (config := {decide := true}) only [awant, ayield_get, oper1, aop, opv, opvs, opvo, opvp, abuiltin, Ac.get_put, if_true, if_false, and_true, decide_true, abin, isShift, aint, roV, pair, bind, Option.bind, acall, Sx, nA] | skip); with_reducible rfl))))) ?_)
    | (refine Wc.cond2 (by simp (config := {decide := true}) only [opv, Ac.get_put, if_true, if_false, and_true, decide_true, Sx, nA]; try with_reducible rfl) (fun hb => ?_) (fun hb => ?_) <;> try contradiction)
    | refine Wc.skip ?_
    | refine Wc.ret ?_
    | refine Wc.exit ?_
    | refine Wc.block ?_)
  refine (all6 (kA := h3.next) (fun i j l q1 q2 q3 => ?_) (fun i j => ordI_anti _ _) (fun i j => ordI_range _ _) bM 3 0 _ rfl (by omega) ⟨?_, ?_, ?_, ?_⟩ ?_).mono ?_
  · have := (ordI_T (tri t0 t1 t2 i) (tri t0 t1 t2 j) (tri t0 t1 t2 l)).1 q1 q2
    omega
  · simp (config := {decide := true}) only [Ac.get_put, if_true, if_false, and_true, Sx, nA]
  · simp (config := {decide := true}) only [Ac.get_put, if_true, if_false, and_true, Sx, dA]
  · simp (config := {decide := true}) only [Ac.get_put, if_true, if_false, and_true, Sx, nA, p7]
  · simp (config := {decide := true}) only [Ac.get_put, if_true, if_false, and_true, Sx, nA, p8]
  · simp (config := {decide := true}) only [Ac.get_put, if_true, if_false, and_true, Sx, nA]
    rfl
  clear nA dA p7 p8
  rintro ex A g' ⟨rfl, ⟨nA, dA, p7, p8⟩, rfl⟩
  simp only [if_true]
  have hag := ah.grows
  have hagf : Grows h8 (fresh g') := hag
  have f0 : (fresh g').cells E (aadd (own h3.next) (0 * 4)) 4 = some [x0, x1, x2, x3] := cells_sub (cells_grow hagf hw12) (m := 0) (l := 4) (by omega)
  have f1 : (fresh g').cells E (aadd (own h3.next) (1 * 4)) 4 = some [y0, y1, y2, y3] := cells_sub (cells_grow hagf hw12) (m := 4) (l := 4) (by omega)
  have rt0 : rep E (fresh g') t0 (.agg ⟨[x0, x1, x2, x3]⟩) := rep_grow (((a2.trans a3).trans a4).grows.trans hagf) r1
  have rt1 : rep E (fresh g') t1 (.agg ⟨[y0, y1, y2, y3]⟩) := rep_grow ((a3.trans a4).grows.trans hagf) r2
  obtain ⟨nk, v28, h28, c28, a28, ap⟩ := apart28 (E := E) (I := K) (fun f args h hf => k.out f args h (by rcases hf with h | h | h <;> simp [h])) k.k108 k.k65 rt0 rt1 ah.fit.fresh (by omega) (by omega) (good_both k0 k1)
  obtain ⟨pv, e, rfl, hap⟩ : ∃ pv e, v28 = .tuple #[pv, .int .i64 e] ∧ ((e = 0 ∧ ∃ q, apaI t0 t1 = some q ∧ Ints h28 pv q) ∨ (e = 6 ∧ apaI t0 t1 = none)) := by
    unfold apV at ap
    split at ap
    · next q hq =>
      obtain ⟨pv, rfl, hi⟩ := ap
      exact ⟨pv, 0, rfl, .inl ⟨rfl, q, hq, hi⟩⟩
    · next hq => exact ⟨_, 6, ap, .inr ⟨rfl, hq⟩⟩
  clear ap
  obtain ⟨a6, hb6, hn6, _⟩ := Ahd.back ah.fit a28
  have hl28 : h28.log = [] := a28.log
  have hint : ∀ q, Ints h28 pv q → Ints (back g' h28) pv q := fun q hq => hq.same hb6
  repeat' (with_reducible apply Wc.seq)
  refine Wc.drawQ nk (by kernel_rfl) ?_
  (iterate 6 (first
      | ((apply FQ.pure rfl rfl); (focus ((first | simp (config := {decide := true}) only [awant, ayield_get, oper1, aop, opv, opvs, opvo, opvp, abuiltin, Ac.get_put, if_true, if_false, and_true, decide_true, abin, isShift, aint, roV, pair, bind, Option.bind, acall, Sx, nA, p7, ia23_0, ia23_1, ld25, f0, f1] | skip); with_reducible rfl)))
      | ((apply FQ.new rfl rfl); (focus ((first | simp (config := {decide := true}) only [awant, ayield_get, oper1, aop, opv, opvs, opvo, opvp, abuiltin, Ac.get_put, if_true, if_false, and_true, decide_true, abin, isShift, aint, roV, pair, bind, Option.bind, acall, Sx, nA, p7, ia23_0, ia23_1, ld25, f0, f1] | skip); with_reducible rfl)))))
  refine FQ.call (h1 := h28) (x := .tuple #[pv, .int .i64 e]) rfl rfl (by simp (config := {decide := true}) only [awant, ayield_get, oper1, aop, opv, opvs, opvo, opvp, abuiltin, Ac.get_put, if_true, if_false, and_true, decide_true, abin, isShift, aint, roV, pair, bind, Option.bind, acall, Sx, nA, c28]) hl28 ?_
  generalize hg6 : back g' h28 = g6 at a6 hb6 hn6 hint
  (iterate 5 (first
      | ((apply FQ.pure rfl rfl); (focus ((first | simp (config := {decide := true}) only [awant, ayield_get, oper1, aop, opv, opvs, opvo, opvp, abuiltin, Ac.get_put, if_true, if_false, and_true, decide_true, abin, isShift, aint, roV, pair, bind, Option.bind, acall, Sx, nA, ex0, ex1] | skip); with_reducible rfl)))
      | ((apply FQ.new rfl rfl); (focus ((first | simp (config := {decide := true}) only [awant, ayield_get, oper1, aop, opv, opvs, opvo, opvp, abuiltin, Ac.get_put, if_true, if_false, and_true, decide_true, abin, isShift, aint, roV, pair, bind, Option.bind, acall, Sx, nA, ex0, ex1] | skip); with_reducible rfl)))))
  refine FQ.nil ⟨?_, ?_⟩
  · refine allMeet_by [] (fun ii e hi hs => ?_) (fun ii jj ss tt hij hs h1 h2 ho => by simp at hs)
    have hi12 : ii < 12 := (List.getElem?_eq_some_iff.1 hi).1
    obtain rfl | rfl | rfl | rfl | rfl | rfl | rfl | rfl | rfl | rfl | rfl | rfl : ii = 0 ∨ ii = 1 ∨ ii = 2 ∨ ii = 3 ∨ ii = 4 ∨ ii = 5 ∨ ii = 6 ∨ ii = 7 ∨ ii = 8 ∨ ii = 9 ∨ ii = 10 ∨ ii = 11 := by omega
    all_goals (cases hi; rfl)
  refine Wc.forget (fun A => A.n = 242 ∧ A.defers = [] ∧ A.get 7 = .slice (some (own h3.next)) 3 3 ∧ A.get 8 = .pointer (some (own h8.next)) ∧ A.get 18 = pv ∧ A.get 19 = .int .i64 e) ⟨by simp (config := {decide := true}) only [Ac.get_put, if_true, if_false, and_true, Sx, nA], by simp (config := {decide := true}) only [Ac.get_put, if_true, if_false, and_true, Sx, dA], by simp (config := {decide := true}) only [Ac.get_put, if_true, if_false, and_true, Sx, nA, p7], by simp (config := {decide := true}) only [Ac.get_put, if_true, if_false, and_true, Sx, nA, p8], by simp (config := {decide := true}) only [Ac.get_put, if_true, if_false, and_true, Sx, nA], by simp (config := {decide := true}) only [Ac.get_put, if_true, if_false, and_true, Sx, nA]⟩ ?_
  clear nA dA p7 p8
  rintro A ⟨nA, dA, p7, p8, p18, p19⟩
  have bM6 := a6.grows _ _ bM
  have ah6 := ah.trans a6
  have hg6' : Grows h8 (fresh g6) := ah6.grows
  have f0 : (fresh g6).cells E (aadd (own h3.next) (0 * 4)) 4 = some [x0, x1, x2, x3] := cells_sub (cells_grow hg6' hw12) (m := 0) (l := 4) (by omega)
  have f1 : (fresh g6).cells E (aadd (own h3.next) (1 * 4)) 4 = some [y0, y1, y2, y3] := cells_sub (cells_grow hg6' hw12) (m := 4) (l := 4) (by omega)
  have rt0 : rep E (fresh g6) t0 (.agg ⟨[x0, x1, x2, x3]⟩) := rep_grow (((a2.trans a3).trans a4).grows.trans hg6') r1
  have rt1 : rep E (fresh g6) t1 (.agg ⟨[y0, y1, y2, y3]⟩) := rep_grow ((a3.trans a4).grows.trans hg6') r2
  have l01 : (fresh g6).cell E (aadd (aadd (own h8.next) (0 * 3)) (1 * 1)) = some (.int .i64 (ordI t0 t1)) := ld_mat (o := fun i j => ordI (tri t0 t1 t2 i) (tri t0 t1 t2 j)) (g := fresh g6) (i := 0) (j := 1) (by omega) (by omega) bM6
  rcases hap with ⟨rfl, q, hq, hi⟩ | ⟨rfl, hq⟩
  rotate_left
  · -- they don't differ
    have et := apaI_none t0 t1 hq
    subst et
    have d6 : decide ((6 : Int) = 6) = true := rfl
    have do0 : decide (ordI t0 t0 = 0) = true := by rw [ordI_self]; rfl
    have c14 : (ev tab E K 1).call 14 [.agg ⟨[x0, x1, x2, x3]⟩, .agg ⟨[y0, y1, y2, y3]⟩, .int .i64 0] (fresh g6) = some (.bool true, fresh g6) := ev_known (k.k14 _ _ _ _ rt0 rt1 (by omega) (by omega))
    have c11 : (ev tab E K 1).call 11 [] (fresh g6) = some (.bool true, fresh g6) := ev_known (k.k11 _)
    repeat' (first
    | (with_reducible apply Wc.seq)
    | (refine Wc.ops (by repeat' (first
      | with_reducible exact RO.nil
      | ((with_reducible apply RO.run (awant_none rfl)); (focus ((first | simp (config := {decide := true}) only [awant, ayield_get, oper1, aop, opv, opvs, opvo, opvp, abuiltin, Ac.get_put, if_true, if_false, and_true, decide_true, abin, isShift, aint, roV, pair, bind, Option.bind, acall, Sx, nA, p19, d6] | skip); with_reducible rfl))))) ?_)
    | (refine Wc.cond2 (by simp (config := {decide := true}) only [opv, Ac.get_put, if_true, if_false, and_true, decide_true, Sx, nA, p19, d6]; try with_reducible rfl) (fun hb => ?_) (fun hb => ?_) <;> try contradiction)
    | refine Wc.skip ?_
    | refine Wc.ret ?_
    | refine Wc.exit ?_
    | refine Wc.block ?_)
    refine Wc.forget (fun A => A.n = 242 ∧ A.defers = [] ∧ A.get 7 = .slice (some (own h3.next)) 3 3 ∧ A.get 8 = .pointer (some (own h8.next))) ⟨by simp (config := {decide := true}) only [Ac.get_put, if_true, if_false, and_true, Sx, nA], by simp (config := {decide := true}) only [Ac.get_put, if_true, if_false, and_true, Sx, dA], by simp (config := {decide := true}) only [Ac.get_put, if_true, if_false, and_true, Sx, nA, p7], by simp (config := {decide := true}) only [Ac.get_put, if_true, if_false, and_true, Sx, nA, p8]⟩ ?_
    clear nA dA p7 p8 p18 p19
    rintro A ⟨nA, dA, p7, p8⟩
    repeat' (with_reducible apply Wc.seq)
    refine Wc.drawC 1 (by kernel_rfl) ?_
    (iterate 5 (first
      | ((apply FC.pure rfl rfl); (focus ((first | simp (config := {decide := true}) only [awant, ayield_get, oper1, aop, opv, opvs, opvo, opvp, abuiltin, Ac.get_put, if_true, if_false, and_true, decide_true, abin, isShift, aint, roV, pair, bind, Option.bind, acall, Sx, nA, p8, ia50_0, ia49_1, ld3, l01, do0] | skip); with_reducible rfl)))
      | ((apply FC.pureG rfl rfl); (focus (simp (config := {decide := true}) only [awant, ayield_get, oper1, aop, opv, opvs, opvo, opvp, abuiltin, Ac.get_put, if_true, if_false, and_true, decide_true, abin, isShift, aint, roV, pair, bind, Option.bind, acall, Sx, nA, p8, ia50_0, ia49_1, ld3, l01, do0]; done)); (focus rfl); (focus ((first | simp (config := {decide := true}) only [awant, ayield_get, oper1, aop, opv, opvs, opvo, opvp, abuiltin, Ac.get_put, if_true, if_false, and_true, decide_true, abin, isShift, aint, roV, pair, bind, Option.bind, acall, Sx, nA, p8, ia50_0, ia49_1, ld3, l01, do0] | skip); with_reducible rfl)))
      | ((apply FC.new rfl rfl); (focus ((first | simp (config := {decide := true}) only [awant, ayield_get, oper1, aop, opv, opvs, opvo, opvp, abuiltin, Ac.get_put, if_true, if_false, and_true, decide_true, abin, isShift, aint, roV, pair, bind, Option.bind, acall, Sx, nA, p8, ia50_0, ia49_1, ld3, l01, do0] | skip); with_reducible rfl)))))
    refine FC.forget (fun A => A.n = 242 ∧ A.defers = [] ∧ A.get 7 = .slice (some (own h3.next)) 3 3 ∧ A.get 136 = .bool true) ⟨by simp (config := {decide := true}) only [Ac.get_put, if_true, if_false, and_true, Sx, nA], by simp (config := {decide := true}) only [Ac.get_put, if_true, if_false, and_true, Sx, dA], by simp (config := {decide := true}) only [Ac.get_put, if_true, if_false, and_true, Sx, nA, p7], by simp (config := {decide := true}) only [Ac.get_put, if_true, if_false, and_true, Sx, nA]⟩ ?_
    clear nA dA p7 p8
    rintro A ⟨nA, dA, p7, p136⟩
    (iterate 9 (first
      | ((apply FC.pure rfl rfl); (focus ((first | simp (config := {decide := true}) only [awant, ayield_get, oper1, aop, opv, opvs, opvo, opvp, abuiltin, Ac.get_put, if_true, if_false, and_true, decide_true, abin, isShift, aint, roV, pair, bind, Option.bind, acall, Sx, nA, p7, p136, ia23_0, ia23_1, ld25, f0, f1, c14] | skip); with_reducible rfl)))
      | ((apply FC.pureG rfl rfl); (focus (simp (config := {decide := true}) only [awant, ayield_get, oper1, aop, opv, opvs, opvo, opvp, abuiltin, Ac.get_put, if_true, if_false, and_true, decide_true, abin, isShift, aint, roV, pair, bind, Option.bind, acall, Sx, nA, p7, p136, ia23_0, ia23_1, ld25, f0, f1, c14]; done)); (focus rfl); (focus ((first | simp (config := {decide := true}) only [awant, ayield_get, oper1, aop, opv, opvs, opvo, opvp, abuiltin, Ac.get_put, if_true, if_false, and_true, decide_true, abin, isShift, aint, roV, pair, bind, Option.bind, acall, Sx, nA, p7, p136, ia23_0, ia23_1, ld25, f0, f1, c14] | skip); with_reducible rfl)))
      | ((apply FC.new rfl rfl); (focus ((first | simp (config := {decide := true}) only [awant, ayield_get, oper1, aop, opv, opvs, opvo, opvp, abuiltin, Ac.get_put, if_true, if_false, and_true, decide_true, abin, isShift, aint, roV, pair, bind, Option.bind, acall, Sx, nA, p7, p136, ia23_0, ia23_1, ld25, f0, f1, c14] | skip); with_reducible rfl)))))
    refine FC.forget (fun A => A.n = 242 ∧ A.defers = [] ∧ A.get 145 = .bool true) ⟨by simp (config := {decide := true}) only [Ac.get_put, if_true, if_false, and_true, Sx, nA], by simp (config := {decide := true}) only [Ac.get_put, if_true, if_false, and_true, Sx, dA], by simp (config := {decide := true}) only [Ac.get_put, if_true, if_false, and_true, Sx, nA]⟩ ?_
    clear nA dA p7 p136
    rintro A ⟨nA, dA, p145⟩
    (iterate 3 (first
      | ((apply FC.pure rfl rfl); (focus ((first | simp (config := {decide := true}) only [awant, ayield_get, oper1, aop, opv, opvs, opvo, opvp, abuiltin, Ac.get_put, if_true, if_false, and_true, decide_true, abin, isShift, aint, roV, pair, bind, Option.bind, acall, Sx, nA, p145, c11] | skip); with_reducible rfl)))
      | ((apply FC.pureG rfl rfl); (focus (simp (config := {decide := true}) only [awant, ayield_get, oper1, aop, opv, opvs, opvo, opvp, abuiltin, Ac.get_put, if_true, if_false, and_true, decide_true, abin, isShift, aint, roV, pair, bind, Option.bind, acall, Sx, nA, p145, c11]; done)); (focus rfl); (focus ((first | simp (config := {decide := true}) only [awant, ayield_get, oper1, aop, opv, opvs, opvo, opvp, abuiltin, Ac.get_put, if_true, if_false, and_true, decide_true, abin, isShift, aint, roV, pair, bind, Option.bind, acall, Sx, nA, p145, c11] | skip); with_reducible rfl)))
      | ((apply FC.new rfl rfl); (focus ((first | simp (config := {decide := true}) only [awant, ayield_get, oper1, aop, opv, opvs, opvo, opvp, abuiltin, Ac.get_put, if_true, if_false, and_true, decide_true, abin, isShift, aint, roV, pair, bind, Option.bind, acall, Sx, nA, p145, c11] | skip); with_reducible rfl)))))
    refine FC.nil ?_
    refine Wc.ret ?_
    exact done_q (v := .bool true) (.inr rfl) (by simp (config := {decide := true}) only [Ac.get_put, if_true, if_false, and_true, Sx, dA]) rfl (by simp (config := {decide := true}) only [Ac.get_put, if_true, if_false, and_true, Sx, nA]) rfl
  · -- they differ
    have d06 : decide ((0 : Int) = 6) = false := rfl
    have hi := hint _ hi
    have hql := (apaI_len t0 t1 q hq).2
    obtain ⟨t', u', at0, at1, hne⟩ := apaI_at t0 t1 q hq
    have ho1 : decide (ordI t0 t1 = 0) = false := by simpa using apaI_ord hq
    have f0 : g6.cells E (aadd (own h3.next) (0 * 4)) 4 = some [x0, x1, x2, x3] := f0
    have f1 : g6.cells E (aadd (own h3.next) (1 * 4)) 4 = some [y0, y1, y2, y3] := f1
    have hgg : Grows (fresh g6) g6 := fun _ _ h => h
    have rt0 := rep_grow hgg rt0
    have rt1 := rep_grow hgg rt1
    -- the first place
    obtain ⟨na, va, ga, c29a, aa, tv, rfl, rva⟩ := at29 (E := E) (I := K) (fun f args h hf => k.out f args h (by rcases hf with h | h | h <;> simp [h])) k.k35 rt0 hi at0 ah6.fit (by omega) (by omega) k0
    obtain ⟨a0, a1', a2', a3', rfl, aone⟩ := rep_four rva
    generalize hh6 : ga.new (.cells (Value.agg #[.int .i64 0, .int .i64 0, .string ⟨#[]⟩, .slice none 0 0]).cells.toList 25 none) = ga1
    have u1 : Ahd ga ga1 := by rw [← hh6]; exact Ahd.new0 aa.fit rfl
    have cc1 : ga1.blk ga.next = some (.cells [.int .i64 0, .int .i64 0, .string ⟨#[]⟩, .slice none 0 0] 25 none) := by rw [← hh6]; exact new_blk_new rfl
    have hn1 : ga1.next = ga.next + 1 := by rw [← hh6]; rfl
    have hst := st25 (a := a0) (b := a1') (c := a2') (d := a3') cc1 aone (by rw [u1.mark]; exact aa.fit.ok.2)
    generalize hh7 : ga1.setb ga.next (.cells [a0, a1', a2', a3'] 25 none) = ga2 at hst
    have u2 : Ahd ga ga2 := by rw [← hh7]; exact u1.setb rfl (Nat.le_refl _) (by omega) aa.fit
    have cc2 : ga2.blk ga.next = some (.cells [a0, a1', a2', a3'] 25 none) := by rw [← hh7]; exact setb_same rfl
    have b6a := aa.trans u2
    -- the second place
    have f1a := cells_grow b6a.grows f1
    obtain ⟨nb, vb, gb, c29b, ab, tu, rfl, rvb⟩ := at29 (E := E) (I := K) (fun f args h hf => k.out f args h (by rcases hf with h | h | h <;> simp [h])) k.k35 (rep_grow b6a.grows rt1) (hi.same' b6a.grows) at1 u2.fit (by omega) (by omega) k1
    obtain ⟨b0, b1', b2', b3', rfl, bone⟩ := rep_four rvb
    generalize hh8 : gb.new (.cells (Value.agg #[.int .i64 0, .int .i64 0, .string ⟨#[]⟩, .slice none 0 0]).cells.toList 25 none) = gb1
    have u3 : Ahd gb gb1 := by rw [← hh8]; exact Ahd.new0 ab.fit rfl
    have cc3 : gb1.blk gb.next = some (.cells [.int .i64 0, .int .i64 0, .string ⟨#[]⟩, .slice none 0 0] 25 none) := by rw [← hh8]; exact new_blk_new rfl
    have hn3 : gb1.next = gb.next + 1 := by rw [← hh8]; rfl
    have hst' := st25 (a := b0) (b := b1') (c := b2') (d := b3') cc3 bone (by rw [u3.mark]; exact ab.fit.ok.2)
    generalize hh9 : gb1.setb gb.next (.cells [b0, b1', b2', b3'] 25 none) = gb2 at hst'
    have u4 : Ahd gb gb2 := by rw [← hh9]; exact u3.setb rfl (Nat.le_refl _) (by omega) ab.fit
    have cc4 : gb2.blk gb.next = some (.cells [b0, b1', b2', b3'] 25 none) := by rw [← hh9]; exact setb_same rfl
    have ccb := (ab.trans u4).grows _ _ cc2
    have b6b := b6a.trans (ab.trans u4)
    have c29a := (ev_mono K (Nat.le_max_left na nb)).call c29a
    have c29b := (ev_mono K (Nat.le_max_right na nb)).call c29b
    generalize max na nb = nz at c29a c29b
    repeat' (with_reducible apply Wc.seq)
    refine Wc.ops (by repeat' (first
      | with_reducible exact RO.nil
      | ((with_reducible apply RO.run (awant_none rfl)); (focus ((first | simp (config := {decide := true}) only [awant, ayield_get, oper1, aop, opv, opvs, opvo, opvp, abuiltin, Ac.get_put, if_true, if_false, and_true, decide_true, abin, isShift, aint, roV, pair, bind, Option.bind, acall, Sx, nA, p19, d06] | skip); with_reducible rfl))))) ?_
    repeat' (with_reducible apply Wc.seq)
    refine Wc.cond2 (by simp (config := {decide := true}) only [awant, ayield_get, oper1, aop, opv, opvs, opvo, opvp, abuiltin, Ac.get_put, if_true, if_false, and_true, decide_true, abin, isShift, aint, roV, pair, bind, Option.bind, acall, Sx, nA]; try with_reducible rfl) (fun hb => ?_) (fun hb => ?_) <;> try contradiction
    refine Wc.skip ?_
    repeat' (with_reducible apply Wc.seq)
    refine Wc.opsN nz (by repeat' (first
      | with_reducible exact RO.nil
      | ((with_reducible apply RO.run (awant_none rfl)); (focus ((first | simp (config := {decide := true}) only [awant, ayield_get, oper1, aop, opv, opvs, opvo, opvp, abuiltin, Ac.get_put, if_true, if_false, and_true, decide_true, abin, isShift, aint, roV, pair, bind, Option.bind, acall, Sx, nA, p7, p18, ia23_0, ld25, f0, c29a, ex0, ex1, tz25, hh6, hst] | skip); with_reducible rfl))))) ?_
    repeat' (with_reducible apply Wc.seq)
    refine Wc.opsN nz (by repeat' (first
      | with_reducible exact RO.nil
      | ((with_reducible apply RO.run (awant_none rfl)); (focus ((first | simp (config := {decide := true}) only [awant, ayield_get, oper1, aop, opv, opvs, opvo, opvp, abuiltin, Ac.get_put, if_true, if_false, and_true, decide_true, abin, isShift, aint, roV, pair, bind, Option.bind, acall, Sx, nA, p7, p18, ia23_1, ld25, f1a, c29b, ex0, ex1, tz25, hh8, hst'] | skip); with_reducible rfl))))) ?_
    refine Wc.forget (fun A => A.n = 242 ∧ A.defers = [] ∧ A.get 7 = .slice (some (own h3.next)) 3 3 ∧ A.get 8 = .pointer (some (own h8.next)) ∧ A.get 19 = .int .i64 0 ∧ A.get 20 = .pointer (some (own ga.next)) ∧ A.get 21 = .int .i64 0 ∧ A.get 22 = .pointer (some (own gb.next)) ∧ A.get 23 = .int .i64 0) ⟨by simp (config := {decide := true}) only [Ac.get_put, if_true, if_false, and_true, Sx, nA], by simp (config := {decide := true}) only [Ac.get_put, if_true, if_false, and_true, Sx, dA], by simp (config := {decide := true}) only [Ac.get_put, if_true, if_false, and_true, Sx, nA, p7], by simp (config := {decide := true}) only [Ac.get_put, if_true, if_false, and_true, Sx, nA, p8], by simp (config := {decide := true}) only [Ac.get_put, if_true, if_false, and_true, Sx, nA, p19], by simp (config := {decide := true}) only [Ac.get_put, if_true, if_false, and_true, Sx, nA], by simp (config := {decide := true}) only [Ac.get_put, if_true, if_false, and_true, Sx, nA], by simp (config := {decide := true}) only [Ac.get_put, if_true, if_false, and_true, Sx, nA], by simp (config := {decide := true}) only [Ac.get_put, if_true, if_false, and_true, Sx, nA]⟩ ?_
    clear nA dA p7 p8 p18 p19
    rintro A ⟨nA, dA, p7, p8, p19, p20, p21, p22, p23⟩
    -- the heads there
    have bMb := b6b.grows _ _ bM6
    have l01 : gb2.cell E (aadd (aadd (own h8.next) (0 * 3)) (1 * 1)) = some (.int .i64 (ordI t0 t1)) := ld_mat (o := fun i j => ordI (tri t0 t1 t2 i) (tri t0 t1 t2 j)) (i := 0) (j := 1) (by omega) (by omega) bMb
    obtain ⟨kt, mt, txt, kst⟩ := t'
    obtain ⟨ku, mu, txu, ksu⟩ := u'
    obtain ⟨bt, ct, et, _⟩ := rep_slice rva
    obtain ⟨bu, cu, eu, _⟩ := rep_slice rvb
    simp only [Value.agg.injEq, Array.mk.injEq, List.cons.injEq, and_true] at et eu
    obtain ⟨rfl, rfl, rfl, rfl⟩ := et
    obtain ⟨rfl, rfl, rfl, rfl⟩ := eu
    have ka : gb2.cell E (aadd (own ga.next) 0) = some (.int .i64 kt) := blk_cell (i := 0) ccb rfl rfl
    have ma : gb2.cell E (aadd (own ga.next) 1) = some (.int .i64 mt) := blk_cell (i := 1) ccb rfl rfl
    have xa : gb2.cell E (aadd (own ga.next) 2) = some (.string txt) := blk_cell (i := 2) ccb rfl rfl
    have sa : gb2.cell E (aadd (own ga.next) 3) = some (.slice bt kst.length ct) := blk_cell (i := 3) ccb rfl rfl
    have kb : gb2.cell E (aadd (own gb.next) 0) = some (.int .i64 ku) := blk_cell (i := 0) cc4 rfl rfl
    have mb : gb2.cell E (aadd (own gb.next) 1) = some (.int .i64 mu) := blk_cell (i := 1) cc4 rfl rfl
    have xb : gb2.cell E (aadd (own gb.next) 2) = some (.string txu) := blk_cell (i := 2) cc4 rfl rfl
    have sb : gb2.cell E (aadd (own gb.next) 3) = some (.slice bu ksu.length cu) := blk_cell (i := 3) cc4 rfl rfl
    have d00 : (!decide ((0 : Int) = 0)) = false := rfl
    have hne : ¬ (kt = ku ∧ mt = mu ∧ kst.length = ksu.length ∧ txt = txu) := hne
    repeat' (with_reducible apply Wc.seq)
    refine Wc.mono (Q := fun ex A' h' => ex = .normal ∧ h' = gb2 ∧ A'.n = 242 ∧ A'.defers = [] ∧ A'.get 7 = .slice (some (own h3.next)) 3 3 ∧ A'.get 209 = .bool false) ?_ ?_
    · by_cases q1 : kt = ku
      · have e1 : decide (kt = ku) = true := by simpa using q1
        by_cases q2 : mt = mu
        · have e2 : decide (mt = mu) = true := by simpa using q2
          by_cases q3 : txt = txu
          · have e3 : (txt.data.toList == txu.data.toList) = true := by rw [q3]; simp
            have e4 : decide ((kst.length : Int) = (ksu.length : Int)) = false := by
              rw [decide_eq_false_iff_not]
              intro e
              exact hne ⟨q1, q2, by omega, q3⟩
            refine Wc.ops (by repeat' (first
      | with_reducible exact RO.nil
      | ((with_reducible apply RO.run (awant_none rfl)); (focus ((first | simp (config := {decide := true}) only [awant, ayield_get, oper1, aop, opv, opvs, opvo, opvp, abuiltin, Ac.get_put, if_true, if_false, and_true, decide_true, abin, isShift, aint, roV, pair, bind, Option.bind, acall, Sx, nA, p8, p19, p20, p21, p22, p23, d00, ia50_0, ia49_1, ld3, ld9, ld23, len23, l01, ho1, fa25_0, fa25_1, fa25_2, fa25_3, ka, kb, ma, mb, xa, xb, sa, sb, astrE, e1, e2, e3, e4] | skip); with_reducible rfl)))
      | ((with_reducible apply RO.runG); (focus rfl); (focus rfl); (focus (simp (config := {decide := true}) only [awant, ayield_get, oper1, aop, opv, opvs, opvo, opvp, abuiltin, Ac.get_put, if_true, if_false, and_true, decide_true, abin, isShift, aint, roV, pair, bind, Option.bind, acall, Sx, nA, p8, p19, p20, p21, p22, p23, d00, ia50_0, ia49_1, ld3, ld9, ld23, len23, l01, ho1, fa25_0, fa25_1, fa25_2, fa25_3, ka, kb, ma, mb, xa, xb, sa, sb, astrE, e1, e2, e3, e4]; done)); (focus ((first | simp (config := {decide := true}) only [awant, ayield_get, oper1, aop, opv, opvs, opvo, opvp, abuiltin, Ac.get_put, if_true, if_false, and_true, decide_true, abin, isShift, aint, roV, pair, bind, Option.bind, acall, Sx, nA, p8, p19, p20, p21, p22, p23, d00, ia50_0, ia49_1, ld3, ld9, ld23, len23, l01, ho1, fa25_0, fa25_1, fa25_2, fa25_3, ka, kb, ma, mb, xa, xb, sa, sb, astrE, e1, e2, e3, e4] | skip); with_reducible rfl)))
      | ((with_reducible apply RO.skipG); (focus rfl); (focus rfl); (focus (simp (config := {decide := true}) only [awant, ayield_get, oper1, aop, opv, opvs, opvo, opvp, abuiltin, Ac.get_put, if_true, if_false, and_true, decide_true, abin, isShift, aint, roV, pair, bind, Option.bind, acall, Sx, nA, p8, p19, p20, p21, p22, p23, d00, ia50_0, ia49_1, ld3, ld9, ld23, len23, l01, ho1, fa25_0, fa25_1, fa25_2, fa25_3, ka, kb, ma, mb, xa, xb, sa, sb, astrE, e1, e2, e3, e4]; done))))) ?_
            exact ⟨rfl, rfl, by simp (config := {decide := true}) only [Ac.get_put, if_true, if_false, and_true, Sx, nA], by simp (config := {decide := true}) only [Ac.get_put, if_true, if_false, and_true, Sx, dA], by simp (config := {decide := true}) only [Ac.get_put, if_true, if_false, and_true, Sx, nA, p7], by simp (config := {decide := true}) only [Ac.get_put, if_true, if_false, and_true, Sx, nA]⟩
          · have e3 : (txt.data.toList == txu.data.toList) = false := by rw [← beq_str, beq_dec]; simpa using q3
            refine Wc.ops (by repeat' (first
      | with_reducible exact RO.nil
      | ((with_reducible apply RO.run (awant_none rfl)); (focus ((first | simp (config := {decide := true}) only [awant, ayield_get, oper1, aop, opv, opvs, opvo, opvp, abuiltin, Ac.get_put, if_true, if_false, and_true, decide_true, abin, isShift, aint, roV, pair, bind, Option.bind, acall, Sx, nA, p8, p19, p20, p21, p22, p23, d00, ia50_0, ia49_1, ld3, ld9, ld23, len23, l01, ho1, fa25_0, fa25_1, fa25_2, fa25_3, ka, kb, ma, mb, xa, xb, sa, sb, astrE, e1, e2, e3] | skip); with_reducible rfl)))
      | ((with_reducible apply RO.runG); (focus rfl); (focus rfl); (focus (simp (config := {decide := true}) only [awant, ayield_get, oper1, aop, opv, opvs, opvo, opvp, abuiltin, Ac.get_put, if_true, if_false, and_true, decide_true, abin, isShift, aint, roV, pair, bind, Option.bind, acall, Sx, nA, p8, p19, p20, p21, p22, p23, d00, ia50_0, ia49_1, ld3, ld9, ld23, len23, l01, ho1, fa25_0, fa25_1, fa25_2, fa25_3, ka, kb, ma, mb, xa, xb, sa, sb, astrE, e1, e2, e3]; done)); (focus ((first | simp (config := {decide := true}) only [awant, ayield_get, oper1, aop, opv, opvs, opvo, opvp, abuiltin, Ac.get_put, if_true, if_false, and_true, decide_true, abin, isShift, aint, roV, pair, bind, Option.bind, acall, Sx, nA, p8, p19, p20, p21, p22, p23, d00, ia50_0, ia49_1, ld3, ld9, ld23, len23, l01, ho1, fa25_0, fa25_1, fa25_2, fa25_3, ka, kb, ma, mb, xa, xb, sa, sb, astrE, e1, e2, e3] | skip); with_reducible rfl)))
      | ((with_reducible apply RO.skipG); (focus rfl); (focus rfl); (focus (simp (config := {decide := true}) only [awant, ayield_get, oper1, aop, opv, opvs, opvo, opvp, abuiltin, Ac.get_put, if_true, if_false, and_true, decide_true, abin, isShift, aint, roV, pair, bind, Option.bind, acall, Sx, nA, p8, p19, p20, p21, p22, p23, d00, ia50_0, ia49_1, ld3, ld9, ld23, len23, l01, ho1, fa25_0, fa25_1, fa25_2, fa25_3, ka, kb, ma, mb, xa, xb, sa, sb, astrE, e1, e2, e3]; done))))) ?_
            exact ⟨rfl, rfl, by simp (config := {decide := true}) only [Ac.get_put, if_true, if_false, and_true, Sx, nA], by simp (config := {decide := true}) only [Ac.get_put, if_true, if_false, and_true, Sx, dA], by simp (config := {decide := true}) only [Ac.get_put, if_true, if_false, and_true, Sx, nA, p7], by simp (config := {decide := true}) only [Ac.get_put, if_true, if_false, and_true, Sx, nA]⟩
        · have e2 : decide (mt = mu) = false := by simpa using q2
          refine Wc.ops (by repeat' (first
      | with_reducible exact RO.nil
      | ((with_reducible apply RO.run (awant_none rfl)); (focus ((first | simp (config := {decide := true}) only [awant, ayield_get, oper1, aop, opv, opvs, opvo, opvp, abuiltin, Ac.get_put, if_true, if_false, and_true, decide_true, abin, isShift, aint, roV, pair, bind, Option.bind, acall, Sx, nA, p8, p19, p20, p21, p22, p23, d00, ia50_0, ia49_1, ld3, ld9, ld23, len23, l01, ho1, fa25_0, fa25_1, fa25_2, fa25_3, ka, kb, ma, mb, xa, xb, sa, sb, astrE, e1, e2] | skip); with_reducible rfl)))
      | ((with_reducible apply RO.runG); (focus rfl); (focus rfl); (focus (simp (config := {decide := true}) only [awant, ayield_get, oper1, aop, opv, opvs, opvo, opvp, abuiltin, Ac.get_put, if_true, if_false, and_true, decide_true, abin, isShift, aint, roV, pair, bind, Option.bind, acall, Sx, nA, p8, p19, p20, p21, p22, p23, d00, ia50_0, ia49_1, ld3, ld9, ld23, len23, l01, ho1, fa25_0, fa25_1, fa25_2, fa25_3, ka, kb, ma, mb, xa, xb, sa, sb, astrE, e1, e2]; done)); (focus ((first | simp (config := {decide := true}) only [awant, ayield_get, oper1, aop, opv, opvs, opvo, opvp, abuiltin, Ac.get_put, if_true, if_false, and_true, decide_true, abin, isShift, aint, roV, pair, bind, Option.bind, acall, Sx, nA, p8, p19, p20, p21, p22, p23, d00, ia50_0, ia49_1, ld3, ld9, ld23, len23, l01, ho1, fa25_0, fa25_1, fa25_2, fa25_3, ka, kb, ma, mb, xa, xb, sa, sb, astrE, e1, e2] | skip); with_reducible rfl)))
      | ((with_reducible apply RO.skipG); (focus rfl); (focus rfl); (focus (simp (config := {decide := true}) only [awant, ayield_get, oper1, aop, opv, opvs, opvo, opvp, abuiltin, Ac.get_put, if_true, if_false, and_true, decide_true, abin, isShift, aint, roV, pair, bind, Option.bind, acall, Sx, nA, p8, p19, p20, p21, p22, p23, d00, ia50_0, ia49_1, ld3, ld9, ld23, len23, l01, ho1, fa25_0, fa25_1, fa25_2, fa25_3, ka, kb, ma, mb, xa, xb, sa, sb, astrE, e1, e2]; done))))) ?_
          exact ⟨rfl, rfl, by simp (config := {decide := true}) only [Ac.get_put, if_true, if_false, and_true, Sx, nA], by simp (config := {decide := true}) only [Ac.get_put, if_true, if_false, and_true, Sx, dA], by simp (config := {decide := true}) only [Ac.get_put, if_true, if_false, and_true, Sx, nA, p7], by simp (config := {decide := true}) only [Ac.get_put, if_true, if_false, and_true, Sx, nA]⟩
      · have e1 : decide (kt = ku) = false := by simpa using q1
        refine Wc.ops (by repeat' (first
      | with_reducible exact RO.nil
      | ((with_reducible apply RO.run (awant_none rfl)); (focus ((first | simp (config := {decide := true}) only [awant, ayield_get, oper1, aop, opv, opvs, opvo, opvp, abuiltin, Ac.get_put, if_true, if_false, and_true, decide_true, abin, isShift, aint, roV, pair, bind, Option.bind, acall, Sx, nA, p8, p19, p20, p21, p22, p23, d00, ia50_0, ia49_1, ld3, ld9, ld23, len23, l01, ho1, fa25_0, fa25_1, fa25_2, fa25_3, ka, kb, ma, mb, xa, xb, sa, sb, astrE, e1] | skip); with_reducible rfl)))
      | ((with_reducible apply RO.runG); (focus rfl); (focus rfl); (focus (simp (config := {decide := true}) only [awant, ayield_get, oper1, aop, opv, opvs, opvo, opvp, abuiltin, Ac.get_put, if_true, if_false, and_true, decide_true, abin, isShift, aint, roV, pair, bind, Option.bind, acall, Sx, nA, p8, p19, p20, p21, p22, p23, d00, ia50_0, ia49_1, ld3, ld9, ld23, len23, l01, ho1, fa25_0, fa25_1, fa25_2, fa25_3, ka, kb, ma, mb, xa, xb, sa, sb, astrE, e1]; done)); (focus ((first | simp (config := {decide := true}) only [awant, ayield_get, oper1, aop, opv, opvs, opvo, opvp, abuiltin, Ac.get_put, if_true, if_false, and_true, decide_true, abin, isShift, aint, roV, pair, bind, Option.bind, acall, Sx, nA, p8, p19, p20, p21, p22, p23, d00, ia50_0, ia49_1, ld3, ld9, ld23, len23, l01, ho1, fa25_0, fa25_1, fa25_2, fa25_3, ka, kb, ma, mb, xa, xb, sa, sb, astrE, e1] | skip); with_reducible rfl)))
      | ((with_reducible apply RO.skipG); (focus rfl); (focus rfl); (focus (simp (config := {decide := true}) only [awant, ayield_get, oper1, aop, opv, opvs, opvo, opvp, abuiltin, Ac.get_put, if_true, if_false, and_true, decide_true, abin, isShift, aint, roV, pair, bind, Option.bind, acall, Sx, nA, p8, p19, p20, p21, p22, p23, d00, ia50_0, ia49_1, ld3, ld9, ld23, len23, l01, ho1, fa25_0, fa25_1, fa25_2, fa25_3, ka, kb, ma, mb, xa, xb, sa, sb, astrE, e1]; done))))) ?_
        exact ⟨rfl, rfl, by simp (config := {decide := true}) only [Ac.get_put, if_true, if_false, and_true, Sx, nA], by simp (config := {decide := true}) only [Ac.get_put, if_true, if_false, and_true, Sx, dA], by simp (config := {decide := true}) only [Ac.get_put, if_true, if_false, and_true, Sx, nA, p7], by simp (config := {decide := true}) only [Ac.get_put, if_true, if_false, and_true, Sx, nA]⟩
    clear nA dA p7 p8 p19 p20 p21 p22 p23
    rintro ex A h' ⟨rfl, rfl, nA, dA, p7, p209⟩
    repeat' (with_reducible apply Wc.seq)
    refine Wc.cond2 (by simp (config := {decide := true}) only [awant, ayield_get, oper1, aop, opv, opvs, opvo, opvp, abuiltin, Ac.get_put, if_true, if_false, and_true, decide_true, abin, isShift, aint, roV, pair, bind, Option.bind, acall, Sx, nA, p209]; try with_reducible rfl) (fun hb => ?_) (fun hb => ?_) <;> try contradiction
    refine Wc.skip ?_
    -- a Num more
    clear l01 ka ma xa sa kb mb xb sb
    have f0b := cells_grow b6b.grows f0
    have rt0 := rep_grow b6b.grows rt0
    have hb3 : h'.blk h3.next = some (.cells [x0, x1, x2, x3, y0, y1, y2, y3, w0, w1, w2, w3] 25 none) := (ah6.trans b6b).grows _ _ b4
    obtain ⟨kk, mm, txx, kss⟩ := t0
    have rt0' := rt0
    rw [rep] at rt0'
    obtain ⟨sx, ex, hsx⟩ := rt0'
    simp only [Value.agg.injEq, Array.mk.injEq, List.cons.injEq, and_true] at ex
    obtain ⟨rfl, rfl, rfl, rfl⟩ := ex
    have g1' := g1
    rw [goodI] at g1'
    obtain ⟨gk0, gk1, gm0, gm1, gtx, gks⟩ := g1'
    generalize hh10 : h'.new (.cells (Value.agg #[.int .i64 0, .int .i64 0, .string ⟨#[]⟩, .slice none 0 0]).cells.toList 25 none) = gc
    have ahb := b6b.fit
    have u5 : Ahd h' gc := by rw [← hh10]; exact Ahd.new0 ahb rfl
    have cc5 : gc.blk h'.next = some (.cells [.int .i64 0, .int .i64 0, .string ⟨#[]⟩, .slice none 0 0] 25 none) := by rw [← hh10]; exact new_blk_new rfl
    have hn5 : gc.next = h'.next + 1 := by rw [← hh10]; rfl
    have hst5 := st25 (a := .int .i64 kk) (b := .int .i64 mm) (c := .string txx) (d := x3) cc5 xone (by rw [u5.mark]; exact ahb.ok.2)
    generalize hh11 : gc.setb h'.next (.cells [.int .i64 kk, .int .i64 mm, .string txx, x3] 25 none) = gc1 at hst5
    have u6 : Ahd h' gc1 := by rw [← hh11]; exact u5.setb rfl (Nat.le_refl _) (by omega) ahb
    have cc6 : gc1.blk h'.next = some (.cells [.int .i64 kk, .int .i64 mm, .string txx, x3] 25 none) := by rw [← hh11]; exact setb_same rfl
    have hn6 : gc1.next = gc.next := by rw [← hh11]; rfl
    obtain ⟨m', hm', hm0, hm1, hm2⟩ : ∃ m' : Int, (if (1099511627776 : Int) < mm + 1 then (1099511627776 : Int) else mm + 1) = m' ∧ mm ≤ m' ∧ m' ≤ mm + 1 ∧ m' ≤ 1099511627776 := by
      split
      · exact ⟨_, rfl, by omega, by omega, by omega⟩
      · exact ⟨_, rfl, by omega, by omega, by omega⟩
    have l1 : gc1.cell E (aadd (own h'.next) 1) = some (.int .i64 mm) := blk_cell (i := 1) cc6 rfl rfl
    have wm : IntKind.i64.wrap (mm + 1) = mm + 1 := wrap64 (by omega) (by omega)
    have hst6 := st3_1m (i := m') cc6 (by rw [u6.mark]; exact ahb.ok.2)
    generalize hh12 : gc1.setb h'.next (.cells [.int .i64 kk, .int .i64 m', .string txx, x3] 25 none) = gc2 at hst6
    have u7 : Ahd h' gc2 := by rw [← hh12]; exact u6.setb rfl (Nat.le_refl _) (by omega) ahb
    have cc7 : gc2.blk h'.next = some (.cells [.int .i64 kk, .int .i64 m', .string txx, x3] 25 none) := by rw [← hh12]; exact setb_same rfl
    have one7 : [Value.int .i64 kk, .int .i64 m', .string txx, x3].all isOne = true := xone
    repeat' (with_reducible apply Wc.seq)
    refine Wc.ops (by repeat' (first
      | with_reducible exact RO.nil
      | ((with_reducible apply RO.run (awant_none rfl)); (focus ((first | simp (config := {decide := true}) only [awant, ayield_get, oper1, aop, opv, opvs, opvo, opvp, abuiltin, Ac.get_put, if_true, if_false, and_true, decide_true, abin, isShift, aint, roV, pair, bind, Option.bind, acall, Sx, nA, p7, ia23_0, ld25, f0b, tz25, hh10, hst5] | skip); with_reducible rfl))))) ?_
    repeat' (with_reducible apply Wc.seq)
    refine Wc.ops (by repeat' (first
      | with_reducible exact RO.nil
      | ((with_reducible apply RO.run (awant_none rfl)); (focus ((first | simp (config := {decide := true}) only [awant, ayield_get, oper1, aop, opv, opvs, opvo, opvp, abuiltin, Ac.get_put, if_true, if_false, and_true, decide_true, abin, isShift, aint, roV, pair, bind, Option.bind, acall, Sx, nA, fa25_1, ld3, l1, wm, amin2, hm', hst6] | skip); with_reducible rfl))))) ?_
    refine Wc.forget (fun A => A.n = 242 ∧ A.defers = [] ∧ A.get 7 = .slice (some (own h3.next)) 3 3 ∧ A.get 24 = .pointer (some (own h'.next))) ⟨by simp (config := {decide := true}) only [Ac.get_put, if_true, if_false, and_true, Sx, nA], by simp (config := {decide := true}) only [Ac.get_put, if_true, if_false, and_true, Sx, dA], by simp (config := {decide := true}) only [Ac.get_put, if_true, if_false, and_true, Sx, nA, p7], by simp (config := {decide := true}) only [Ac.get_put, if_true, if_false, and_true, Sx, nA]⟩ ?_
    clear nA dA p7 p209
    rintro A ⟨nA, dA, p7, p24⟩
    have hgf : Grows h' (fresh gc2) := u7.grows
    have f0c : (fresh gc2).cells E (aadd (own h3.next) (0 * 4)) 4 = some [.int .i64 kk, .int .i64 mm, .string txx, x3] := cells_grow hgf f0b
    have f24 : (fresh gc2).cells E (own h'.next) 4 = some [.int .i64 kk, .int .i64 m', .string txx, x3] := blk_cells (h := fresh gc2) cc7 rfl one7
    have rc0 : rep E (fresh gc2) (.mk kk mm txx kss) (.agg ⟨[.int .i64 kk, .int .i64 mm, .string txx, x3]⟩) := rep_grow hgf rt0
    have rc1 : rep E (fresh gc2) (.mk kk m' txx kss) (.agg ⟨[.int .i64 kk, .int .i64 m', .string txx, x3]⟩) := by
      rw [rep] at rc0 ⊢
      obtain ⟨sx, ex, hsx⟩ := rc0
      simp only [Value.agg.injEq, Array.mk.injEq, List.cons.injEq, and_true, true_and] at ex
      subst ex
      exact ⟨_, rfl, hsx⟩
    have kc1 : (chkI (.mk kk m' txx kss) 0 1).2 = 0 := by
      refine good_chk ?_ ?_ ?_
      · rw [goodI]; exact ⟨gk0, gk1, by omega, hm2, gtx, gks⟩
      · rw [lvlI] at v1 ⊢; exact v1
      · rw [isz] at z1 ⊢; exact z1
    have c27 : (ev tab E K 1).call 27 [.agg ⟨[.int .i64 kk, .int .i64 mm, .string txx, x3]⟩, .agg ⟨[.int .i64 kk, .int .i64 m', .string txx, x3]⟩] (fresh gc2) = some (.tuple #[.int .i64 (mm - m'), .int .i64 0], fresh gc2) := by
      have := ev_known (D := tab) (E := E) (k.k27 _ _ _ _ (fresh gc2) rc0 rc1 (by omega) (by rw [isz] at z1 ⊢; omega))
      rw [good_cmp k0 kc1, ordI_num hm0 hm1] at this
      exact this
    have c11 : (ev tab E K 1).call 11 [] (fresh gc2) = some (.bool true, fresh gc2) := ev_known (k.k11 _)
    have lm0 : (fresh gc2).cell E (aadd (aadd (own h3.next) (0 * 4)) 1) = some (.int .i64 mm) := by
      rw [aadd_own]
      exact blk_cell (h := fresh gc2) (i := 0 * 4 + 1) (hgf _ _ hb3) rfl rfl
    have lm1 : (fresh gc2).cell E (aadd (own h'.next) 1) = some (.int .i64 m') := blk_cell (h := fresh gc2) (i := 1) cc7 rfl rfl
    have ws : IntKind.i64.wrap (mm - m') = mm - m' := wrap64 (by omega) (by omega)
    have ds : decide (mm - m' = mm - m') = true := by simp
    repeat' (with_reducible apply Wc.seq)
    refine Wc.drawC 1 (by kernel_rfl) ?_
    (iterate 10 (first
      | ((apply FC.pure rfl rfl); (focus ((first | simp (config := {decide := true}) only [awant, ayield_get, oper1, aop, opv, opvs, opvo, opvp, abuiltin, Ac.get_put, if_true, if_false, and_true, decide_true, abin, isShift, aint, roV, pair, bind, Option.bind, acall, Sx, nA, p7, p24, ia23_0, ld25, f0c, f24, c27, ex0, ex1] | skip); with_reducible rfl)))
      | ((apply FC.new rfl rfl); (focus ((first | simp (config := {decide := true}) only [awant, ayield_get, oper1, aop, opv, opvs, opvo, opvp, abuiltin, Ac.get_put, if_true, if_false, and_true, decide_true, abin, isShift, aint, roV, pair, bind, Option.bind, acall, Sx, nA, p7, p24, ia23_0, ld25, f0c, f24, c27, ex0, ex1] | skip); with_reducible rfl)))))
    refine FC.nil ?_
    refine Wc.forget (fun A => A.n = 242 ∧ A.defers = [] ∧ A.get 7 = .slice (some (own h3.next)) 3 3 ∧ A.get 24 = .pointer (some (own h'.next)) ∧ A.get 25 = .int .i64 (mm - m') ∧ A.get 26 = .int .i64 0) ⟨by simp (config := {decide := true}) only [Ac.get_put, if_true, if_false, and_true, Sx, nA], by simp (config := {decide := true}) only [Ac.get_put, if_true, if_false, and_true, Sx, dA], by simp (config := {decide := true}) only [Ac.get_put, if_true, if_false, and_true, Sx, nA, p7], by simp (config := {decide := true}) only [Ac.get_put, if_true, if_false, and_true, Sx, nA, p24], by simp (config := {decide := true}) only [Ac.get_put, if_true, if_false, and_true, Sx, nA], by simp (config := {decide := true}) only [Ac.get_put, if_true, if_false, and_true, Sx, nA]⟩ ?_
    clear nA dA p7 p24
    rintro A ⟨nA, dA, p7, p24, p25, p26⟩
    repeat' (with_reducible apply Wc.seq)
    refine Wc.drawC 1 (by kernel_rfl) ?_
    have d00' : decide ((0 : Int) = 0) = true := rfl
    (iterate 3 (first
      | ((apply FC.pure rfl rfl); (focus ((first | simp (config := {decide := true}) only [awant, ayield_get, oper1, aop, opv, opvs, opvo, opvp, abuiltin, Ac.get_put, if_true, if_false, and_true, decide_true, abin, isShift, aint, roV, pair, bind, Option.bind, acall, Sx, nA, p26, d00'] | skip); with_reducible rfl)))
      | ((apply FC.pureG rfl rfl); (focus (simp (config := {decide := true}) only [awant, ayield_get, oper1, aop, opv, opvs, opvo, opvp, abuiltin, Ac.get_put, if_true, if_false, and_true, decide_true, abin, isShift, aint, roV, pair, bind, Option.bind, acall, Sx, nA, p26, d00']; done)); (focus rfl); (focus ((first | simp (config := {decide := true}) only [awant, ayield_get, oper1, aop, opv, opvs, opvo, opvp, abuiltin, Ac.get_put, if_true, if_false, and_true, decide_true, abin, isShift, aint, roV, pair, bind, Option.bind, acall, Sx, nA, p26, d00'] | skip); with_reducible rfl)))
      | ((apply FC.new rfl rfl); (focus ((first | simp (config := {decide := true}) only [awant, ayield_get, oper1, aop, opv, opvs, opvo, opvp, abuiltin, Ac.get_put, if_true, if_false, and_true, decide_true, abin, isShift, aint, roV, pair, bind, Option.bind, acall, Sx, nA, p26, d00'] | skip); with_reducible rfl)))))
    refine FC.forget (fun A => A.n = 242 ∧ A.defers = [] ∧ A.get 7 = .slice (some (own h3.next)) 3 3 ∧ A.get 24 = .pointer (some (own h'.next)) ∧ A.get 25 = .int .i64 (mm - m') ∧ A.get 228 = .bool true) ⟨by simp (config := {decide := true}) only [Ac.get_put, if_true, if_false, and_true, Sx, nA], by simp (config := {decide := true}) only [Ac.get_put, if_true, if_false, and_true, Sx, dA], by simp (config := {decide := true}) only [Ac.get_put, if_true, if_false, and_true, Sx, nA, p7], by simp (config := {decide := true}) only [Ac.get_put, if_true, if_false, and_true, Sx, nA, p24], by simp (config := {decide := true}) only [Ac.get_put, if_true, if_false, and_true, Sx, nA, p25], by simp (config := {decide := true}) only [Ac.get_put, if_true, if_false, and_true, Sx, nA]⟩ ?_
    clear nA dA p7 p24 p25 p26
    rintro A ⟨nA, dA, p7, p24, p25, p228⟩
    (iterate 11 (first
      | ((apply FC.pure rfl rfl); (focus ((first | simp (config := {decide := true}) only [awant, ayield_get, oper1, aop, opv, opvs, opvo, opvp, abuiltin, Ac.get_put, if_true, if_false, and_true, decide_true, abin, isShift, aint, roV, pair, bind, Option.bind, acall, Sx, nA, p7, p24, p25, p228, ia23_0, fa25_1, ld3, lm0, lm1, ws, ds] | skip); with_reducible rfl)))
      | ((apply FC.pureG rfl rfl); (focus (simp (config := {decide := true}) only [awant, ayield_get, oper1, aop, opv, opvs, opvo, opvp, abuiltin, Ac.get_put, if_true, if_false, and_true, decide_true, abin, isShift, aint, roV, pair, bind, Option.bind, acall, Sx, nA, p7, p24, p25, p228, ia23_0, fa25_1, ld3, lm0, lm1, ws, ds]; done)); (focus rfl); (focus ((first | simp (config := {decide := true}) only [awant, ayield_get, oper1, aop, opv, opvs, opvo, opvp, abuiltin, Ac.get_put, if_true, if_false, and_true, decide_true, abin, isShift, aint, roV, pair, bind, Option.bind, acall, Sx, nA, p7, p24, p25, p228, ia23_0, fa25_1, ld3, lm0, lm1, ws, ds] | skip); with_reducible rfl)))
      | ((apply FC.new rfl rfl); (focus ((first | simp (config := {decide := true}) only [awant, ayield_get, oper1, aop, opv, opvs, opvo, opvp, abuiltin, Ac.get_put, if_true, if_false, and_true, decide_true, abin, isShift, aint, roV, pair, bind, Option.bind, acall, Sx, nA, p7, p24, p25, p228, ia23_0, fa25_1, ld3, lm0, lm1, ws, ds] | skip); with_reducible rfl)))))
    refine FC.forget (fun A => A.n = 242 ∧ A.defers = [] ∧ A.get 239 = .bool true) ⟨by simp (config := {decide := true}) only [Ac.get_put, if_true, if_false, and_true, Sx, nA], by simp (config := {decide := true}) only [Ac.get_put, if_true, if_false, and_true, Sx, dA], by simp (config := {decide := true}) only [Ac.get_put, if_true, if_false, and_true, Sx, nA]⟩ ?_
    clear nA dA p7 p24 p25 p228
    rintro A ⟨nA, dA, p239⟩
    (iterate 3 (first
      | ((apply FC.pure rfl rfl); (focus ((first | simp (config := {decide := true}) only [awant, ayield_get, oper1, aop, opv, opvs, opvo, opvp, abuiltin, Ac.get_put, if_true, if_false, and_true, decide_true, abin, isShift, aint, roV, pair, bind, Option.bind, acall, Sx, nA, p239, c11] | skip); with_reducible rfl)))
      | ((apply FC.pureG rfl rfl); (focus (simp (config := {decide := true}) only [awant, ayield_get, oper1, aop, opv, opvs, opvo, opvp, abuiltin, Ac.get_put, if_true, if_false, and_true, decide_true, abin, isShift, aint, roV, pair, bind, Option.bind, acall, Sx, nA, p239, c11]; done)); (focus rfl); (focus ((first | simp (config := {decide := true}) only [awant, ayield_get, oper1, aop, opv, opvs, opvo, opvp, abuiltin, Ac.get_put, if_true, if_false, and_true, decide_true, abin, isShift, aint, roV, pair, bind, Option.bind, acall, Sx, nA, p239, c11] | skip); with_reducible rfl)))
      | ((apply FC.new rfl rfl); (focus ((first | simp (config := {decide := true}) only [awant, ayield_get, oper1, aop, opv, opvs, opvo, opvp, abuiltin, Ac.get_put, if_true, if_false, and_true, decide_true, abin, isShift, aint, roV, pair, bind, Option.bind, acall, Sx, nA, p239, c11] | skip); with_reducible rfl)))))
    refine FC.nil ?_
    refine Wc.ret ?_
    exact done_q (v := .bool true) (.inr rfl) (by simp (config := {decide := true}) only [Ac.get_put, if_true, if_false, and_true, Sx, dA]) rfl (by simp (config := {decide := true}) only [Ac.get_put, if_true, if_false, and_true, Sx, nA]) rfl
end Go.Proofs.YtofijpbmbmbnhaaDoor
/- What is known of the functions, layer on layer, for the law on the order. -/
set_option maxRecDepth 100000
set_option maxHeartbeats 4000000
namespace Go.Proofs.YtofijpbmbmbnhaaDoor
open Go Go.Hs Go.Proofs

theorem said_out {S : Says} {I : Known} {f : FuncId} {args : List Value} {h : H} {fs : List Nat} (hS : ∀ s f args h v, S s f args h v → f ∈ fs) (hf : f ∉ fs) : saidBy S I f args h = I f args h := by
  unfold saidBy
  rw [dif_neg]
  rintro ⟨v, s, h1⟩
  exact hf (hS _ _ _ _ _ h1)
theorem base_out {f : FuncId} {args : List Value} {h : H} (h1 : Nat.beq f 123 = false) (h2 : Nat.beq f 130 = false) : I0 f args h = none := by
  unfold I0
  rw [h1, h2]
theorem base_130 (a b : ByteArray) (h : H) : I0 130 [.string a, .string b] h = some (some (.int .i64 (cmpL a.data.toList b.data.toList), h)) := rfl

noncomputable def M35 (E : Env) : Known := saidBy (says35 E) I0
theorem M35_out {E : Env} {f : FuncId} {args : List Value} {h : H} (hf : ([35] : List Nat).any (Nat.beq f) = false) : M35 E f args h = I0 f args h := by
  refine said_out (fs := [35]) (fun s f args h v hs => by rw [hs.1]; exact List.mem_singleton.2 rfl) (fun hm => ?_)
  rw [List.any_eq_false] at hf
  exact hf f hm (by simp)
noncomputable def Mev (E : Env) : Known := evOn tab E [104, 105, 106] (M35 E)
theorem Mev_out {E : Env} {f : FuncId} {args : List Value} {h : H} (hf : ([104, 105, 106] : List Nat).any (Nat.beq f) = false) : Mev E f args h = (M35 E) f args h := evOn_ne hf
noncomputable def M66 (E : Env) : Known := saidBy (says66 E) (Mev E)
theorem M66_out {E : Env} {f : FuncId} {args : List Value} {h : H} (hf : ([66, 107] : List Nat).any (Nat.beq f) = false) : M66 E f args h = (Mev E) f args h := by
  refine said_out (fs := [66, 107]) (fun s f args h v hs => by rcases hs with ⟨rfl, _⟩ | ⟨rfl, _⟩ <;> decide) (fun hm => ?_)
  rw [List.any_eq_false] at hf
  exact hf f hm (by simp)
noncomputable def M65 (E : Env) : Known := saidBy (says65 E) (M66 E)
theorem M65_out {E : Env} {f : FuncId} {args : List Value} {h : H} (hf : ([65] : List Nat).any (Nat.beq f) = false) : M65 E f args h = (M66 E) f args h := by
  refine said_out (fs := [65]) (fun s f args h v hs => by rw [hs.1]; exact List.mem_singleton.2 rfl) (fun hm => ?_)
  rw [List.any_eq_false] at hf
  exact hf f hm (by simp)
noncomputable def M27 (E : Env) : Known := saidBy (says27 E) (M65 E)
theorem M27_out {E : Env} {f : FuncId} {args : List Value} {h : H} (hf : ([27] : List Nat).any (Nat.beq f) = false) : M27 E f args h = (M65 E) f args h := by
  refine said_out (fs := [27]) (fun s f args h v hs => by rw [hs.1]; exact List.mem_singleton.2 rfl) (fun hm => ?_)
  rw [List.any_eq_false] at hf
  exact hf f hm (by simp)
noncomputable def M14 (E : Env) : Known := saidBy (says14 E) (M27 E)
theorem M14_out {E : Env} {f : FuncId} {args : List Value} {h : H} (hf : ([14, 53, 89, 55] : List Nat).any (Nat.beq f) = false) : M14 E f args h = (M27 E) f args h := by
  refine said_out (fs := [14, 53, 89, 55]) (fun s f args h v hs => by rcases hs with ⟨rfl, _⟩ | ⟨rfl, _⟩ | ⟨rfl, _⟩ | ⟨rfl, _⟩ <;> decide) (fun hm => ?_)
  rw [List.any_eq_false] at hf
  exact hf f hm (by simp)
noncomputable def M108 (E : Env) : Known := saidBy (says108) (M14 E)
theorem M108_out {E : Env} {f : FuncId} {args : List Value} {h : H} (hf : ([108] : List Nat).any (Nat.beq f) = false) : M108 E f args h = (M14 E) f args h := by
  refine said_out (fs := [108]) (fun s f args h v hs => by rw [hs.1]; exact List.mem_singleton.2 rfl) (fun hm => ?_)
  rw [List.any_eq_false] at hf
  exact hf f hm (by simp)
noncomputable def Mlaw (E : Env) : Known := fun f args h => match Nat.beq f 11, args with
  | true, [] => some (some (.bool true, h))
  | true, _ => none
  | false, _ => (M108 E) f args h
theorem Mlaw_out {E : Env} {f : FuncId} {args : List Value} {h : H} (hf : ([11] : List Nat).any (Nat.beq f) = false) : Mlaw E f args h = (M108 E) f args h := by
  have : Nat.beq f 11 = false := by simpa using hf
  unfold Mlaw
  rw [this]
variable {n0 : Nat}
theorem M35_good (E : Env) : KnownGood Tryd.prog tab E n0 (M35 E) := saidByF_good tab_of noNum (known0 E n0) (shown35 (fun f args h hf => by
    rcases hf with rfl | rfl | rfl | rfl <;> exact base_out (by decide) (by decide)))
theorem Mev_good (E : Env) : KnownGood Tryd.prog tab E n0 (Mev E) := evOn_good tab_of noNum (M35_good E)
theorem m105 (E : Env) (a b : Int) (h : H) : Mev E 105 [.int .i64 a, .int .i64 b] h = some (some (.int .i64 (cmpN a b), h)) := by
  obtain ⟨n, hn⟩ := call105 (E := E) (I := M35 E) (fun f args h hf => by
    rcases hf with rfl | rfl
    · exact ((M35_out (by decide)).trans (base_out (by decide) (by decide)))
    · exact ((M35_out (by decide)).trans (base_out (by decide) (by decide)))) a b h
  exact evOn_eq (by decide) hn
theorem m106 (E : Env) (a b : ByteArray) (h : H) : Mev E 106 [.string a, .string b] h = some (some (.int .i64 (cmpL a.data.toList b.data.toList), h)) := by
  obtain ⟨n, hn⟩ := call106 (E := E) (I := M35 E) (fun f args h hf => by
    rcases hf with rfl | rfl
    · exact ((M35_out (by decide)).trans (base_out (by decide) (by decide)))
    · exact ((M35_out (by decide)).trans (base_out (by decide) (by decide)))) (fun a b h => ((M35_out (by decide)).trans (base_130 a b h))) a b h
  exact evOn_eq (by decide) hn
theorem m104 (E : Env) (l : List Int) {k : Nat} {rt : Option (Nat × Nat)} {h : H} (hl : l.length ≤ 1000) (hb : h.blk k = some (.cells (l.map (Value.int .i64)) 3 rt)) : Mev E 104 [.slice (some (own k)) l.length l.length] h = some (some (.int .i64 (orL l), h)) := by
  obtain ⟨n, hn⟩ := call104 (E := E) (I := M35 E) (fun a h => ((M35_out (by decide)).trans (base_out (by decide) (by decide)))) l hl hb
  exact evOn_eq (by decide) hn
theorem M66_good (E : Env) : KnownGood Tryd.prog tab E n0 (M66 E) := saidByF_good tab_of noNum (Mev_good E) (shown66 (fun f args h hf => by
    rcases hf with rfl | rfl
    · exact ((Mev_out (by decide)).trans ((M35_out (by decide)).trans (base_out (by decide) (by decide))))
    · exact ((Mev_out (by decide)).trans ((M35_out (by decide)).trans (base_out (by decide) (by decide))))
    ) (fun a b h => m105 E a b h) (fun a b h => m106 E a b h) (fun l k rt h hl hb => m104 E l hl hb))
theorem M65_good (E : Env) : KnownGood Tryd.prog tab E n0 (M65 E) := saidByF_good tab_of noNum (M66_good E) (shown65 (fun a h => ((M66_out (by decide)).trans ((Mev_out (by decide)).trans ((M35_out (by decide)).trans (base_out (by decide) (by decide)))))) (fun t xv h hr hz => ((M66_out (by decide)).trans ((Mev_out (by decide)).trans (saidBy_eq (one35 E) ⟨rfl, rfl, t, xv, rfl, hr, hz, rfl⟩)))))
theorem M27_good (E : Env) : KnownGood Tryd.prog tab E n0 (M27 E) := saidByF_good tab_of noNum (M65_good E) (shown27 (fun a h => ((M65_out (by decide)).trans ((M66_out (by decide)).trans ((Mev_out (by decide)).trans ((M35_out (by decide)).trans (base_out (by decide) (by decide))))))) (fun ks sl h hr hz => (saidBy_eq (one65 E) ⟨rfl, rfl, ks, sl, rfl, hr, hz, rfl⟩)) (fun t xv u yv h hr hr' hz => ((M65_out (by decide)).trans (saidBy_eq (one66 E) (.inl ⟨rfl, t, xv, u, yv, rfl, hr, hr', hz, rfl, rfl⟩)))))
theorem M14_good (E : Env) : KnownGood Tryd.prog tab E n0 (M14 E) := saidByF_good tab_of noNum (M27_good E) (shown14 (fun f args h hf => by
    rcases hf with rfl | rfl | rfl | rfl | rfl
    · exact ((M27_out (by decide)).trans ((M65_out (by decide)).trans ((M66_out (by decide)).trans ((Mev_out (by decide)).trans ((M35_out (by decide)).trans (base_out (by decide) (by decide)))))))
    · exact ((M27_out (by decide)).trans ((M65_out (by decide)).trans ((M66_out (by decide)).trans ((Mev_out (by decide)).trans ((M35_out (by decide)).trans (base_out (by decide) (by decide)))))))
    · exact ((M27_out (by decide)).trans ((M65_out (by decide)).trans ((M66_out (by decide)).trans ((Mev_out (by decide)).trans ((M35_out (by decide)).trans (base_out (by decide) (by decide)))))))
    · exact ((M27_out (by decide)).trans ((M65_out (by decide)).trans ((M66_out (by decide)).trans ((Mev_out (by decide)).trans ((M35_out (by decide)).trans (base_out (by decide) (by decide)))))))
    · exact ((M27_out (by decide)).trans ((M65_out (by decide)).trans ((M66_out (by decide)).trans ((Mev_out (by decide)).trans ((M35_out (by decide)).trans (base_out (by decide) (by decide)))))))
    ))
theorem M108_good (E : Env) : KnownGood Tryd.prog tab E n0 (M108 E) := saidByF_good tab_of noNum (M14_good E) (shown108 (fun a h => ((M14_out (by decide)).trans ((M27_out (by decide)).trans ((M65_out (by decide)).trans ((M66_out (by decide)).trans ((Mev_out (by decide)).trans ((M35_out (by decide)).trans (base_out (by decide) (by decide))))))))))
theorem Mlaw_good {E : Env} (hE : ∀ b o v, E0 b o = some v → E b o = some v) : KnownGood Tryd.prog tab E n0 (Mlaw E) := by
  have key : ∀ {f args h r}, Mlaw E f args h = some (some r) → (f = 11 ∧ args = [] ∧ r = (.bool true, h)) ∨ M108 E f args h = some (some r) := by
    intro f args h r hh
    unfold Mlaw at hh
    split at hh
    · next e => cases hh; exact .inl ⟨Nat.eq_of_beq_eq_true e, rfl, rfl⟩
    · cases hh
    · exact .inr hh
  have hB := M108_good (n0 := n0) E
  refine ⟨fun f args h r h' hi φ w R hok => ?_, fun f args h r h' hi o => ?_, fun f args h r h' hi => ?_⟩
  · rcases key hi with ⟨rfl, rfl, he⟩ | h1
    · cases he; exact awake_sim hE R
    · exact hB.sim _ _ _ _ _ h1 φ w R hok
  · rcases key hi with ⟨rfl, rfl, he⟩ | h1
    · cases he; exact Lg.refl o
    · exact hB.lg _ _ _ _ _ h1 o
  · rcases key hi with ⟨rfl, rfl, he⟩ | h1
    · cases he; exact Nat.le_refl _
    · exact hB.next _ _ _ _ _ h1

theorem kn6 (E : Env) : Kn6 E (Mlaw E) where
  out := fun f args h hf => by
    simp only [List.mem_cons, List.not_mem_nil, or_false] at hf
    rcases hf with rfl | rfl | rfl | rfl | rfl | rfl | rfl | rfl | rfl | rfl | rfl | rfl | rfl | rfl | rfl <;> exact ((Mlaw_out (by decide)).trans ((M108_out (by decide)).trans ((M14_out (by decide)).trans ((M27_out (by decide)).trans ((M65_out (by decide)).trans ((M66_out (by decide)).trans ((Mev_out (by decide)).trans ((M35_out (by decide)).trans (base_out (by decide) (by decide))))))))))
  k11 := fun h => rfl
  k27 := fun t xv u yv h hr hr' hz hz' => ((Mlaw_out (by decide)).trans ((M108_out (by decide)).trans ((M14_out (by decide)).trans (saidBy_eq (one27 E) ⟨rfl, rfl, t, xv, u, yv, rfl, hr, hr', hz, hz', rfl⟩))))
  k35 := fun t xv h hr hz => ((Mlaw_out (by decide)).trans ((M108_out (by decide)).trans ((M14_out (by decide)).trans ((M27_out (by decide)).trans ((M65_out (by decide)).trans ((M66_out (by decide)).trans ((Mev_out (by decide)).trans (saidBy_eq (one35 E) ⟨rfl, rfl, t, xv, rfl, hr, hz, rfl⟩))))))))
  k65 := fun ks sl h hr hz => ((Mlaw_out (by decide)).trans ((M108_out (by decide)).trans ((M14_out (by decide)).trans ((M27_out (by decide)).trans (saidBy_eq (one65 E) ⟨rfl, rfl, ks, sl, rfl, hr, hz, rfl⟩)))))
  k108 := fun k m tx b n c h => ((Mlaw_out (by decide)).trans (saidBy_eq one108 ⟨rfl, rfl, k, m, tx, b, n, c, rfl, rfl⟩))
  k14 := fun t xv yv h hr hr' hl hz => ((Mlaw_out (by decide)).trans ((M108_out (by decide)).trans (saidBy_eq (one14 E) (.inl ⟨rfl, t, xv, yv, 0, rfl, hr, hr', by decide, by omega, hz, rfl, rfl⟩))))
end Go.Proofs.YtofijpbmbmbnhaaDoor
