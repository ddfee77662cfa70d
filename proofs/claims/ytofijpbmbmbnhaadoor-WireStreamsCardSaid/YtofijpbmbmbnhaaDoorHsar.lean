/- Bytes cloned and compared; lists of items compared. -/
import Derived.Test.YtofijpbmbmbnhaaDoorHsaq
set_option linter.unusedSimpArgs false
set_option linter.unusedVariables false
set_option maxRecDepth 100000
set_option maxHeartbeats 16000000
namespace Go.Proofs.YtofijpbmbmbnhaaDoor
open Go Go.Hs Go.Proofs
variable {E : Env} {I : Known}
theorem fn15 : tab.fn.get 15 = some Tryd.f15 := by kernel_rfl
theorem fn20 : tab.fn.get 20 = some Tryd.f20 := by kernel_rfl
theorem fn21 : tab.fn.get 21 = some Tryd.f21 := by kernel_rfl
theorem fn22 : tab.fn.get 22 = some Tryd.f22 := by kernel_rfl
noncomputable def loop20 : Code := loopOf Tryd.f20
theorem qan31 (b : Option Addr) (n c : Nat) : anil tab 31 (.slice b n c) (.slice none 0 0) = some b.isNone := by
  unfold anil
  rw [qty31]
  cases b <;> rfl
theorem qbs31_0 {h : H} : abuildSlice tab 31 0 [] h = some (.slice (some (own h.next)) 0 0, h.new (.cells [] 5 none)) := by
  unfold abuildSlice
  simp only [qty31, qtz5]
  rfl
theorem clone15 (hI : ∀ args h, I 15 args h = none) {g : H} {v : Value} {bs : List UInt8} (f : Fit g) (hb : Byt E g v bs) (hl : bs.length ≤ 1000000) :
    ∃ n x g', (ev tab E I n).call 15 [v] g = some (x, g') ∧ (Ahd g g' ∧ Byt E g' x bs) := by
  rcases hb with ⟨rfl, rfl⟩ | ⟨a, c, rfl, hc, hcs⟩
  · refine Wc.call (hI _ _) fn15 rfl ?_
    generalize hA0 : (⟨T.ofList [.slice none 0 0] 0 .nil, max ([.slice none 0 0] : List Value).length Tryd.f15.ntmps, []⟩ : Ac) = A0
    have n0 : A0.n = 8 := by rw [← hA0]; rfl
    have q0 : A0.get 0 = .slice none 0 0 := by rw [← hA0]; rfl
    have d0 : A0.defers = [] := by rw [← hA0]
    clear hA0
    repeat' (first | (with_reducible apply Wc.seq) | (apply Wc.ops; (focus ((repeat' (first | with_reducible exact RO.nil | ((with_reducible apply RO.run (awant_none rfl)); (focus ((first | simp +decide only [awant, ayield_get, oper1, aop, opv, opvs, opvo, opvp, abuiltin, aun, Gx, abin, isShift, aint, roV, pair, bind, Option.bind, acall, Sx, n0, q0, qan31, Option.isNone] | skip); with_reducible rfl))))); done))) | (refine Wc.cond2 (by simp +decide only [opv, Gx, Sx, n0, q0, qan31, Option.isNone]; try with_reducible rfl) (fun hb => ?_) (fun hb => ?_) <;> try contradiction) | refine Wc.skip ?_ | refine Wc.ret ?_ | refine Wc.exit ?_ | refine Wc.block ?_)
    exact done_q (v := .slice none 0 0) (.inr rfl) (by simp +decide only [Gx, Sx, d0]) rfl (by simp +decide only [Gx, Sx, n0]) ⟨Ahd.refl f, .inl ⟨rfl, rfl⟩⟩
  · refine Wc.call (hI _ _) fn15 rfl ?_
    generalize hA0 : (⟨T.ofList [.slice (some a) bs.length c] 0 .nil, max ([.slice (some a) bs.length c] : List Value).length Tryd.f15.ntmps, []⟩ : Ac) = A0
    have n0 : A0.n = 8 := by rw [← hA0]; rfl
    have q0 : A0.get 0 = .slice (some a) bs.length c := by rw [← hA0]; rfl
    have d0 : A0.defers = [] := by rw [← hA0]
    clear hA0
    obtain ⟨s, h', happ, hcl⟩ := clone_step (D := tab) (E := E) (t := 31) (e := 5) (sz := 1) (by_ := 1) (n := bs.length) (c := c) (a := a) (cs := bytesV bs) f qty31 qtz5 rfl (by rw [Nat.mul_one]; exact hcs) (by rw [Nat.mul_one]; exact bytesV_length bs) (by
      unfold roomy
      simp only [Bool.and_eq_true, Nat.ble_eq]; omega)
    obtain ⟨k, rt, rfl, hk, _, _⟩ := hcl.get
    repeat' (first | (with_reducible apply Wc.seq) | (apply Wc.ops; (focus ((repeat' (first | with_reducible exact RO.nil | ((with_reducible apply RO.run (awant_none rfl)); (focus ((first | simp +decide only [awant, ayield_get, oper1, aop, opv, opvs, opvo, opvp, abuiltin, aun, Gx, abin, isShift, aint, roV, pair, bind, Option.bind, acall, Sx, n0, q0, qan31, Option.isNone, qbs31_0, happ] | skip); with_reducible rfl))))); done))) | (refine Wc.cond2 (by simp +decide only [opv, Gx, Sx, n0, q0, qan31, Option.isNone, qbs31_0, happ]; try with_reducible rfl) (fun hb => ?_) (fun hb => ?_) <;> try contradiction) | refine Wc.skip ?_ | refine Wc.ret ?_ | refine Wc.exit ?_ | refine Wc.block ?_)
    exact done_q (v := .slice (some (own k)) bs.length bs.length) (.inr rfl) (by simp +decide only [Gx, Sx, d0]) rfl (by simp +decide only [Gx, Sx, n0]) ⟨hcl.ahd, .inr ⟨own k, bs.length, rfl, Nat.le_refl _, blk_cells hk (bytesV_length bs) (bytesV_one bs)⟩⟩
theorem equal22 (hI : ∀ args h, I 22 args h = none) {g : H} {v u : Value} {bs : List UInt8} (hb : Byt E g v bs) (hb' : Byt E g u bs) :
    ∃ n, (ev tab E I n).call 22 [v, u] g = some (.bool true, g) := by
  suffices hw : ∃ n x g', (ev tab E I n).call 22 [v, u] g = some (x, g') ∧ (x = .bool true ∧ g' = g) by
    obtain ⟨n, x, g', h1, rfl, rfl⟩ := hw
    exact ⟨n, h1⟩
  refine Wc.call (hI _ _) fn22 rfl ?_
  generalize hA0 : (⟨T.ofList [v, u] 0 .nil, max ([v, u] : List Value).length Tryd.f22.ntmps, []⟩ : Ac) = A0
  have n0 : A0.n = 10 := by rw [← hA0]; rfl
  have q0 : A0.get 0 = v := by rw [← hA0]; rfl
  have q1 : A0.get 1 = u := by rw [← hA0]; rfl
  have d0 : A0.defers = [] := by rw [← hA0]
  clear hA0
  have c1 := qcv31_9 hb
  have c2 := qcv31_9 hb'
  repeat' (first | (with_reducible apply Wc.seq) | (apply Wc.ops; (focus ((repeat' (first | with_reducible exact RO.nil | ((with_reducible apply RO.run (awant_none rfl)); (focus ((first | simp +decide only [awant, ayield_get, oper1, aop, opv, opvs, opvo, opvp, abuiltin, aun, Gx, abin, isShift, aint, roV, pair, bind, Option.bind, acall, Sx, n0, q0, q1, c1, c2, astr, beq_self_eq_true] | skip); with_reducible rfl))))); done))) | (refine Wc.cond2 (by simp +decide only [opv, Gx, Sx, n0, q0, q1, c1, c2, astr, beq_self_eq_true]; try with_reducible rfl) (fun hb => ?_) (fun hb => ?_) <;> try contradiction) | refine Wc.skip ?_ | refine Wc.ret ?_ | refine Wc.exit ?_ | refine Wc.block ?_)
  exact done_q (v := .bool true) (.inr rfl) (by simp +decide only [Gx, Sx, d0]) rfl (by simp +decide only [Gx, Sx, n0]) ⟨rfl, rfl⟩
def Alk (E : Env) (I : Known) : Prop := ∀ t xv yv h, rep E h t xv → rep E h t yv → lvlI t ≤ 400 → isz t ≤ 1000000 → I 14 [xv, yv, .int .i64 0] h = some (some (.bool true, h))
theorem same21 (hI : ∀ args h, I 21 args h = none) (k14 : Alk E I) {g : H} {t : Hs.Item} {l m : List Value} (f : Fit g) (h1 : rep E g t (.agg ⟨l⟩)) (h2 : rep E g t (.agg ⟨m⟩)) (hl : lvlI t ≤ 400) (hz : isz t ≤ 1000000) :
    ∃ n x g', (ev tab E I n).call 21 [.agg ⟨l⟩, .agg ⟨m⟩] g = some (x, g') ∧ (x = .bool true ∧ Ahd g g') := by
  obtain ⟨l0, l1, l2, l3, rfl, ol⟩ := item_four h1
  obtain ⟨m0, m1, m2, m3, rfl, om⟩ := item_four h2
  refine Wc.call (hI _ _) fn21 rfl ?_
  generalize hA0 : (⟨T.ofList [.agg ⟨[l0, l1, l2, l3]⟩, .agg ⟨[m0, m1, m2, m3]⟩] 0 .nil, max ([.agg ⟨[l0, l1, l2, l3]⟩, .agg ⟨[m0, m1, m2, m3]⟩] : List Value).length Tryd.f21.ntmps, []⟩ : Ac) = A0
  have n0 : A0.n = 8 := by rw [← hA0]; rfl
  have q0 : A0.get 0 = .agg ⟨[l0, l1, l2, l3]⟩ := by rw [← hA0]; rfl
  have q1 : A0.get 1 = .agg ⟨[m0, m1, m2, m3]⟩ := by rw [← hA0]; rfl
  have d0 : A0.defers = [] := by rw [← hA0]
  clear hA0
  generalize hh1 : g.new (.cells (Value.agg ⟨[l0, l1, l2, l3]⟩).cells.toList 25 none) = g1
  have t1 : Ahd g g1 := by rw [← hh1]; exact Ahd.new0 f rfl
  have b1 : g1.blk g.next = some (.cells [l0, l1, l2, l3] 25 none) := by rw [← hh1]; exact new_blk_new rfl
  generalize hh2 : g1.new (.cells (Value.agg ⟨[m0, m1, m2, m3]⟩).cells.toList 25 none) = g2
  have t2 : Ahd g1 g2 := by rw [← hh2]; exact Ahd.new0 t1.fit rfl
  have b2 : g2.blk g1.next = some (.cells [m0, m1, m2, m3] 25 none) := by rw [← hh2]; exact new_blk_new rfl
  have x1 : g2.cells E (own g.next) 4 = some [l0, l1, l2, l3] := blk_cells (t2.grows _ _ b1) rfl ol
  have x2 : g2.cells E (own g1.next) 4 = some [m0, m1, m2, m3] := blk_cells b2 rfl om
  have t12 := t1.trans t2
  have c := ev_known (D := tab) (E := E) (k14 t _ _ g2 (rep_grow t12.grows h1) (rep_grow t12.grows h2) hl hz)
  repeat' (first | (with_reducible apply Wc.seq) | (apply Wc.opsN 1; (focus ((repeat' (first | with_reducible exact RO.nil | ((with_reducible apply RO.run (awant_none rfl)); (focus ((first | simp +decide only [awant, ayield_get, oper1, aop, opv, opvs, opvo, opvp, abuiltin, aun, Gx, abin, isShift, aint, roV, pair, bind, Option.bind, acall, Sx, n0, q0, q1, hh1, hh2, Qx, Hx, x1, x2, c] | skip); with_reducible rfl))))); done))) | (refine Wc.cond2 (by simp +decide only [opv, Gx, Sx, n0, q0, q1, hh1, hh2, Qx, Hx, x1, x2, c]; try with_reducible rfl) (fun hb => ?_) (fun hb => ?_) <;> try contradiction) | refine Wc.skip ?_ | refine Wc.ret ?_ | refine Wc.exit ?_ | refine Wc.block ?_)
  exact done_q (v := .bool true) (.inr rfl) (by simp +decide only [Gx, Sx, d0]) rfl (by simp +decide only [Gx, Sx, n0]) ⟨rfl, t12⟩
theorem equal20g {c0 : Nat} (hI : ∀ args h, I 20 args h = none) (hsame : ∀ (g : H) (t : Hs.Item) (l m : List Value), Fit g → rep E g t (.agg ⟨l⟩) → rep E g t (.agg ⟨m⟩) → lvlI t ≤ 400 → isz t ≤ 1000000 → ∃ n x g', (ev tab E I n).call c0 [.agg ⟨l⟩, .agg ⟨m⟩] g = some (x, g') ∧ (x = .bool true ∧ Ahd g g')) {g : H} {ks : List Hs.Item} {sl su : Value} (f : Fit g) (h1 : repK E g ks sl) (h2 : repK E g ks su) (hk : ∀ t ∈ ks, lvlI t ≤ 400 ∧ isz t ≤ 1000000) (hn : ks.length ≤ 1000000) :
    ∃ n x g', (ev tab E I n).call 20 [sl, su, fnV c0] g = some (x, g') ∧ (x = .bool true ∧ Ahd g g') := by
  obtain ⟨b, c, rfl, _, hs⟩ := repK_slice h1
  obtain ⟨b', c', rfl, _, hs'⟩ := repK_slice h2
  have key : ∀ (r i : Nat) (A0 : Ac) (h : H), r = ks.length - i → i ≤ ks.length → A0.n = 32 → A0.defers = [] → A0.get 1 = .slice b' ks.length c' → A0.get 2 = fnV c0 → A0.get 15 = .slice b ks.length c → A0.get 16 = .int .i64 (ks.length : Nat) → A0.get 17 = .int .i64 (i : Nat) → Ahd g h →
      Wc tab E I ⟨20, none⟩ (.loop loop20) A0 h (fun ex A' h' => ex = .exit 0 ∧ A'.n = 32 ∧ A'.defers = [] ∧ Ahd g h') := by
    intro r
    induction r with
    | zero =>
      intro i A0 h hr hi n0 d0 q1 q2 q15 q16 q17 M
      have e1 : decide ((i : Int) < (ks.length : Int)) = false := by simp; omega
      apply Wc.loop
      simp only [loop20, loopOf, firstLoop, Option.getD, Tryd.f20]
      repeat' (first | (with_reducible apply Wc.seq) | (apply Wc.ops; (focus ((repeat' (first | with_reducible exact RO.nil | ((with_reducible apply RO.run (awant_none rfl)); (focus ((first | simp +decide only [awant, ayield_get, oper1, aop, opv, opvs, opvo, opvp, abuiltin, aun, Gx, abin, isShift, aint, roV, pair, bind, Option.bind, acall, Sx, n0, q16, q17, e1] | skip); with_reducible rfl))))); done))) | (refine Wc.cond2 (by simp +decide only [opv, Gx, Sx, n0, q16, q17, e1]; try with_reducible rfl) (fun hb => ?_) (fun hb => ?_) <;> try contradiction) | refine Wc.skip ?_ | refine Wc.ret ?_ | refine Wc.exit ?_ | refine Wc.block ?_)
      exact ⟨rfl, by simp +decide only [Gx, Sx, n0], by simp +decide only [Gx, Sx, d0], M⟩
    | succ r ih =>
      intro i A0 h hr hi n0 d0 q1 q2 q15 q16 q17 M
      have hil : i < ks.length := by omega
      have e1 : decide ((i : Int) < (ks.length : Int)) = true := by simp; omega
      rcases hs with hk0 | ⟨a, cs, rfl, hcs, hrl⟩
      · rw [hk0] at hil; simp at hil
      rcases hs' with hk0 | ⟨a', cs', rfl, hcs', hrl'⟩
      · rw [hk0] at hil; simp at hil
      obtain ⟨hl4, hrk⟩ := repL_get i hrl (List.getElem?_eq_getElem hil)
      obtain ⟨hl4', hrk'⟩ := repL_get i hrl' (List.getElem?_eq_getElem hil)
      have hsub := cells_sub (cells_grow M.grows hcs) (m := i * 4) (l := 4) (by omega)
      have hsub' := cells_sub (cells_grow M.grows hcs') (m := i * 4) (l := 4) (by omega)
      obtain ⟨l0, l1, l2, l3, hq, ol⟩ := item_four hrk
      obtain ⟨m0, m1, m2, m3, hqs, om⟩ := item_four hrk'
      rw [hq] at hsub hrk
      rw [hqs] at hsub' hrk'
      have hir : inRange (i : Int) ks.length = true := by
        show Nat.blt i ks.length = true
        rw [Nat.blt_eq]; exact hil
      have w3 : IntKind.i64.wrap ((i : Int) + 1) = ((i + 1 : Nat) : Int) := wrap64 (by omega) (by omega)
      have fh := M.fit
      have var : ∀ (h : H) (l : List Value), l.length = 4 → l.all isOne = true → Fit h → ∃ hn h', h.new (.cells (Value.agg #[.int .i64 0, .int .i64 0, .string ⟨#[]⟩, .slice none 0 0]).cells.toList 25 none) = hn ∧ astore tab 25 (own h.next) (.agg ⟨l⟩) hn = some h' ∧ Ahd h h' ∧ h'.blk h.next = some (.cells l 25 none) := by
        intro h l h4 ho fh
        have t : Ahd h (h.new (.cells (Value.agg #[.int .i64 0, .int .i64 0, .string ⟨#[]⟩, .slice none 0 0]).cells.toList 25 none)) := Ahd.new0 fh rfl
        have bb : (h.new (.cells (Value.agg #[.int .i64 0, .int .i64 0, .string ⟨#[]⟩, .slice none 0 0]).cells.toList 25 none)).blk h.next = some (.cells zeroL 25 none) := new_blk_new rfl
        exact ⟨_, _, rfl, astore_all qty25 bb (by rw [h4]) (by rw [h4]; rfl) ho (by intro e; rw [e] at h4; simp at h4), t.setl rfl (Nat.le_refl _) (t.fit.lt bb) fh, setl_same rfl⟩
      obtain ⟨hn1, h3, hh1, s1, t1, b8⟩ := var h [l0, l1, l2, l3] rfl ol fh
      obtain ⟨hn2, h4, hh2, s2, t2, b9⟩ := var h3 [m0, m1, m2, m3] rfl om t1.fit
      have hsub2 := cells_grow t1.grows hsub'
      have x8 : h4.cells E (own h.next) 4 = some [l0, l1, l2, l3] := blk_cells (t2.grows _ _ b8) rfl ol
      have x9 : h4.cells E (own h3.next) 4 = some [m0, m1, m2, m3] := blk_cells b9 rfl om
      have M4 := (M.trans t1).trans t2
      obtain ⟨nf, x, h5, ck, rfl, t5⟩ := hsame _ _ _ _ M4.fit (rep_grow M4.grows hrk) (rep_grow M4.grows hrk') (hk _ (List.getElem_mem hil)).1 (hk _ (List.getElem_mem hil)).2
      apply Wc.loop
      simp only [loop20, loopOf, firstLoop, Option.getD, Tryd.f20]
      repeat' (first | (with_reducible apply Wc.seq) | (apply Wc.opsN nf; (focus ((repeat' (first | with_reducible exact RO.nil | ((with_reducible apply RO.run (awant_none rfl)); (focus ((first | simp +decide only [awant, ayield_get, oper1, aop, opv, opvs, opvo, opvp, abuiltin, aun, Gx, abin, isShift, aint, roV, pair, bind, Option.bind, acall, Sx, n0, q1, q2, q15, q16, q17, e1, qia23 _ _ _ _ hir, Int.toNat_natCast, Qx, Hx, hsub, qtz25, hh1, s1, hsub2, hh2, s2, x8, x9, ck, w3] | skip); with_reducible rfl))))); done))) | (refine Wc.cond2 (by simp +decide only [opv, Gx, Sx, n0, q1, q2, q15, q16, q17, e1, qia23 _ _ _ _ hir, Int.toNat_natCast, Qx, Hx, hsub, qtz25, hh1, s1, hsub2, hh2, s2, x8, x9, ck, w3]; try with_reducible rfl) (fun hb => ?_) (fun hb => ?_) <;> try contradiction) | refine Wc.skip ?_ | refine Wc.ret ?_ | refine Wc.exit ?_ | refine Wc.block ?_)
      refine ih (i + 1) _ h5 (by omega) (by omega) ?_ ?_ ?_ ?_ ?_ ?_ ?_ (M4.trans t5)
      · simp +decide only [Gx, Sx, n0]
      · simp +decide only [Gx, Sx, d0]
      · simp +decide only [Gx, Sx, n0, q1]
      · simp +decide only [Gx, Sx, n0, q2]
      · simp +decide only [Gx, Sx, n0, q15]
      · simp +decide only [Gx, Sx, n0, q16]
      · simp +decide only [Gx, Sx, n0]
  refine Wc.call (hI _ _) fn20 rfl ?_
  generalize hA0 : (⟨T.ofList [.slice b ks.length c, .slice b' ks.length c', fnV c0] 0 .nil, max ([.slice b ks.length c, .slice b' ks.length c', fnV c0] : List Value).length Tryd.f20.ntmps, []⟩ : Ac) = A0
  have n0 : A0.n = 32 := by rw [← hA0]; rfl
  have q0 : A0.get 0 = .slice b ks.length c := by rw [← hA0]; rfl
  have q1 : A0.get 1 = .slice b' ks.length c' := by rw [← hA0]; rfl
  have q2 : A0.get 2 = fnV c0 := by rw [← hA0]; rfl
  have d0 : A0.defers = [] := by rw [← hA0]
  clear hA0
  repeat' (first | (with_reducible apply Wc.seq) | (apply Wc.ops; (focus ((repeat' (first | with_reducible exact RO.nil | ((with_reducible apply RO.run (awant_none rfl)); (focus ((first | simp +decide only [awant, ayield_get, oper1, aop, opv, opvs, opvo, opvp, abuiltin, aun, Gx, abin, isShift, aint, roV, pair, bind, Option.bind, acall, Sx, n0, q0, q1, q2, Qx, Hx] | skip); with_reducible rfl))))); done))) | (refine Wc.cond2 (by simp +decide only [opv, Gx, Sx, n0, q0, q1, q2, Qx, Hx]; try with_reducible rfl) (fun hb => ?_) (fun hb => ?_) <;> try contradiction) | refine Wc.skip ?_ | refine Wc.ret ?_ | refine Wc.exit ?_ | refine Wc.block ?_)
  refine (key ks.length 0 _ g rfl (Nat.zero_le _) ?_ ?_ ?_ ?_ ?_ ?_ ?_ (Ahd.refl f)).mono ?_
  · simp +decide only [Gx, Sx, n0]
  · simp +decide only [Gx, Sx, d0]
  · simp +decide only [Gx, Sx, n0, q1]
  · simp +decide only [Gx, Sx, n0, q2]
  · simp +decide only [Gx, Sx, n0]
  · simp +decide only [Gx, Sx, n0]
  · simp +decide only [Gx, Sx, n0]
    rfl
  · rintro ex A0 h ⟨rfl, n0, d0, M⟩
    simp only [if_true]
    repeat' (first | (with_reducible apply Wc.seq) | (apply Wc.ops; (focus ((repeat' (first | with_reducible exact RO.nil | ((with_reducible apply RO.run (awant_none rfl)); (focus ((first | simp +decide only [awant, ayield_get, oper1, aop, opv, opvs, opvo, opvp, abuiltin, aun, Gx, abin, isShift, aint, roV, pair, bind, Option.bind, acall, Sx, n0] | skip); with_reducible rfl))))); done))) | (refine Wc.cond2 (by simp +decide only [opv, Gx, Sx, n0]; try with_reducible rfl) (fun hb => ?_) (fun hb => ?_) <;> try contradiction) | refine Wc.skip ?_ | refine Wc.ret ?_ | refine Wc.exit ?_ | refine Wc.block ?_)
    exact done_q (v := .bool true) (.inr rfl) (by simp +decide only [Gx, Sx, d0]) rfl (by simp +decide only [Gx, Sx, n0]) ⟨rfl, M⟩
end Go.Proofs.YtofijpbmbmbnhaaDoor
/- Numbers as bytes. -/
set_option maxRecDepth 100000
set_option maxHeartbeats 16000000
namespace Go.Proofs.YtofijpbmbmbnhaaDoor
open Go Go.Hs Go.Proofs
variable {E : Env} {I : Known}
theorem fn97 : tab.fn.get 97 = some Tryd.f97 := by kernel_rfl
noncomputable def loop97 : Code := loopOf Tryd.f97
theorem qcv3_5 (n : Int) {h : H} : aconvert tab E 3 5 (.int .i64 n) h = some (.int .u8 (IntKind.u8.wrap n), h) := by unfold aconvert; simp only [qty5, qty3]
theorem qza31 (b : Option Addr) (n c : Nat) : zeroArg tab 31 (.slice b n c) = some false := by unfold zeroArg; rw [qty31]
theorem qbs31 (x : Int) {h : H} : abuildSlice tab 31 1 [(0, .int .u8 x)] h = some (.slice (some (own h.next)) 1 1, h.new (.cells [.int .u8 x] 5 none)) := by
  unfold abuildSlice
  simp only [qty31, qtz5]
  rfl
theorem and127i (m : Nat) (h : m < 9223372036854775808) : IntKind.i64.wrap (((BitVec.ofInt IntKind.i64.bits (m : Int) &&& BitVec.ofInt IntKind.i64.bits 127).toNat : Nat) : Int) = ((m % 128 : Nat) : Int) := by
  have e : (BitVec.ofInt IntKind.i64.bits (m : Int) &&& BitVec.ofInt IntKind.i64.bits ((127 : Nat) : Int)).toNat = m % 128 := by
    rw [BitVec.ofInt_natCast, BitVec.ofInt_natCast, BitVec.toNat_and, BitVec.toNat_ofNat, BitVec.toNat_ofNat]
    rw [show 2 ^ IntKind.i64.bits = 18446744073709551616 from rfl, Nat.mod_eq_of_lt (by omega), Nat.mod_eq_of_lt (by omega)]
    exact Nat.and_two_pow_sub_one_eq_mod m 7
  have e' : (BitVec.ofInt IntKind.i64.bits (m : Int) &&& BitVec.ofInt IntKind.i64.bits 127).toNat = m % 128 := e
  rw [e']
  exact wrapN (by omega)
theorem or128i (m : Nat) (h : m < 128) : IntKind.i64.wrap (((BitVec.ofInt IntKind.i64.bits (m : Int) ||| BitVec.ofInt IntKind.i64.bits 128).toNat : Nat) : Int) = ((m + 128 : Nat) : Int) := or7 m 1 1 (by omega) (by omega) (by omega)
theorem shr7 (m : Nat) : ashift .shr .i64 (m : Nat) 7 = some (.int .i64 ((m / 128 : Nat) : Int)) := by
  show some (Value.int .i64 (((m : Nat) : Int).fdiv (2 ^ min 7 64))) = _
  rw [show (2 : Int) ^ min 7 64 = ((128 : Nat) : Int) from rfl, Int.fdiv_eq_ediv_of_nonneg _ (Int.natCast_nonneg _)]
  rfl
theorem numB_len : ∀ (n : Nat), n < 2 ^ 63 → (numB n).length ≤ 20 := by
  have key : ∀ (k n : Nat), n < 128 ^ k → (numB n).length ≤ k + 1 := by
    intro k
    induction k with
    | zero => intro n hn; rw [Nat.pow_zero] at hn; rw [numB_small (by omega : n < 128)]; simp
    | succ k ih =>
      intro n hn
      by_cases h : n < 128
      · rw [numB_small h]; simp
      · rw [numB_large h, List.length_cons]
        have := ih (n / 128) (by rw [Nat.pow_succ] at hn; omega)
        omega
  intro n hn
  exact Nat.le_trans (key 9 n (by omega)) (by decide)
theorem one_byte {h : H} (f : Fit h) (x : Nat) (hx : x < 256) : ∃ h1, Ahd h h1 ∧ h.new (.cells [.int .u8 (x : Nat)] 5 none) = h1 ∧ Byt E h1 (.slice (some (own h.next)) 1 1) [UInt8.ofNat x] := by
  have t : Ahd h (h.new (.cells [.int .u8 (x : Nat)] 5 none)) := Ahd.new0 f rfl
  have b : (h.new (.cells [.int .u8 (x : Nat)] 5 none)).blk h.next = some (.cells [.int .u8 (x : Nat)] 5 none) := new_blk_new rfl
  refine ⟨_, t, rfl, .inr ⟨own h.next, 1, rfl, Nat.le_refl _, ?_⟩⟩
  have := blk_cells (E := E) b rfl rfl
  rw [show bytesV [UInt8.ofNat x] = [.int .u8 (x : Nat)] by simp only [bytesV, List.map_cons, List.map_nil, ofNat_toNat hx]]
  exact this
theorem numB97 (hI : ∀ args h, I 97 args h = none) {g : H} (f : Fit g) (n : Nat) (hn : n ≤ 1099511627776) :
    ∃ k v g', (ev tab E I k).call 97 [.int .i64 (n : Nat)] g = some (v, g') ∧ (Mod (fun _ => False) g g' ∧ Bol 5 g.next g'.next g' v (numB n)) := by
  have key : ∀ (m : Nat) (acc : List UInt8) (sl : Value) (A0 : Ac) (h : H), m ≤ n → acc ++ numB m = numB n → acc.length ≤ 100 → A0.n = 20 → A0.defers = [] → A0.get 0 = .int .i64 (m : Nat) → A0.get 3 = sl → Mod (fun _ => False) g h → Bol 5 g.next h.next h sl acc →
      Wc tab E I ⟨97, none⟩ (.loop loop97) A0 h (fun ex A' h' => ex = .exit 0 ∧ A'.n = 20 ∧ A'.defers = [] ∧ ∃ m acc sl, m < 128 ∧ acc ++ numB m = numB n ∧ acc.length ≤ 110 ∧ A'.get 0 = .int .i64 (m : Nat) ∧ A'.get 3 = sl ∧ Mod (fun _ => False) g h' ∧ Bol 5 g.next h'.next h' sl acc) := by
    intro m
    induction m using Nat.strongRecOn with
    | ind m ih =>
    intro acc sl A0 h hm hacc hlen n0 d0 q0 q3 M K
    by_cases hs : m < 128
    · have e1 : decide ((m : Int) > 127) = false := by simp; omega
      apply Wc.loop
      simp only [loop97, loopOf, firstLoop, Option.getD, Tryd.f97]
      repeat' (first | (with_reducible apply Wc.seq) | (apply Wc.ops; (focus ((repeat' (first | with_reducible exact RO.nil | ((with_reducible apply RO.run (awant_none rfl)); (focus ((first | simp +decide only [awant, ayield_get, oper1, aop, opv, opvs, opvo, opvp, abuiltin, aun, Gx, abin, isShift, aint, roV, pair, bind, Option.bind, acall, Sx, n0, q0, q3, e1] | skip); with_reducible rfl))))); done))) | (refine Wc.cond2 (by simp +decide only [opv, Gx, Sx, n0, q0, q3, e1]; try with_reducible rfl) (fun hb => ?_) (fun hb => ?_) <;> try contradiction) | refine Wc.skip ?_ | refine Wc.ret ?_ | refine Wc.exit ?_ | refine Wc.block ?_)
      exact ⟨rfl, by simp +decide only [Gx, Sx, n0], by simp +decide only [Gx, Sx, d0], m, acc, sl, hs, hacc, by omega, by simp +decide only [Gx, Sx, n0, q0], by simp +decide only [Gx, Sx, n0, q3], M, K⟩
    · have e1 : decide ((m : Int) > 127) = true := by simp; omega
      have fh := M.fit
      have a1 := and127i m (by omega)
      have o1 := or128i (m % 128) (by omega)
      have w8 : IntKind.u8.wrap ((m % 128 + 128 : Nat) : Int) = ((m % 128 + 128 : Nat) : Int) := wrapU8 (by omega)
      have sh := shr7 m
      have hbs := qbs31 ((m % 128 + 128 : Nat) : Int) (h := h)
      obtain ⟨h1, t1, hh1, hby⟩ := one_byte (E := E) fh (m % 128 + 128) (by omega)
      rw [hh1] at hbs
      have K1 := K.mod (t1.mod (M := fun _ => False)) (fun _ _ h => h.elim)
      obtain ⟨sl', q, happ, K2, AP⟩ := bol_step (D := tab) (E := E) (t := 31) (t2 := 31) (by_ := 1) t1.fit (Nat.le_trans M.next t1.next) t1.next K1 qty31 qtz5 rfl (qza31 _ _ _) hby (by
        unfold roomy
        simp only [Bool.and_eq_true, Nat.ble_eq, List.length_singleton]; omega)
      have M2 := AP.mod f (Nat.le_refl _) (M.ahd t1)
      have hnb := numB_large hs
      have hlt : acc.length + (numB m).length = (numB n).length := by rw [← hacc, List.length_append]
      apply Wc.loop
      simp only [loop97, loopOf, firstLoop, Option.getD, Tryd.f97]
      repeat' (first | (with_reducible apply Wc.seq) | (apply Wc.ops; (focus ((repeat' (first | with_reducible exact RO.nil | ((with_reducible apply RO.run (awant_none rfl)); (focus ((first | simp +decide only [awant, ayield_get, oper1, aop, opv, opvs, opvo, opvp, abuiltin, aun, Gx, abin, isShift, aint, roV, pair, bind, Option.bind, acall, Sx, n0, q0, q3, e1, a1, o1, qcv3_5, w8, hbs, happ, sh] | skip); with_reducible rfl))))); done))) | (refine Wc.cond2 (by simp +decide only [opv, Gx, Sx, n0, q0, q3, e1, a1, o1, qcv3_5, w8, hbs, happ, sh]; try with_reducible rfl) (fun hb => ?_) (fun hb => ?_) <;> try contradiction) | refine Wc.skip ?_ | refine Wc.ret ?_ | refine Wc.exit ?_ | refine Wc.block ?_)
      refine (ih (m / 128) (by omega) (acc ++ [UInt8.ofNat (m % 128 + 128)]) sl' _ q (by omega) (by rw [List.append_assoc, ← hacc, hnb]; rfl) ?_ ?_ ?_ ?_ ?_ M2 K2)
      · rw [List.length_append, List.length_singleton]
        have h6 := numB_len n (by omega)
        have := numB_pos (m / 128)
        rw [hnb, List.length_cons] at hlt
        omega
      · simp +decide only [Gx, Sx, n0]
      · simp +decide only [Gx, Sx, d0]
      · simp +decide only [Gx, Sx, n0]
      · simp +decide only [Gx, Sx, n0]
  refine Wc.call (hI _ _) fn97 rfl ?_
  generalize hA0 : (⟨T.ofList [.int .i64 (n : Nat)] 0 .nil, max ([.int .i64 (n : Nat)] : List Value).length Tryd.f97.ntmps, []⟩ : Ac) = A0
  have n0 : A0.n = 20 := by rw [← hA0]; rfl
  have q0 : A0.get 0 = .int .i64 (n : Nat) := by rw [← hA0]; rfl
  have d0 : A0.defers = [] := by rw [← hA0]
  clear hA0
  repeat' (first | (with_reducible apply Wc.seq) | (apply Wc.ops; (focus ((repeat' (first | with_reducible exact RO.nil | ((with_reducible apply RO.run (awant_none rfl)); (focus ((first | simp +decide only [awant, ayield_get, oper1, aop, opv, opvs, opvo, opvp, abuiltin, aun, Gx, abin, isShift, aint, roV, pair, bind, Option.bind, acall, Sx, n0, q0] | skip); with_reducible rfl))))); done))) | (refine Wc.cond2 (by simp +decide only [opv, Gx, Sx, n0, q0]; try with_reducible rfl) (fun hb => ?_) (fun hb => ?_) <;> try contradiction) | refine Wc.skip ?_ | refine Wc.ret ?_ | refine Wc.exit ?_ | refine Wc.block ?_)
  refine (key n [] (.slice none 0 0) _ g (Nat.le_refl _) rfl (by simp) ?_ ?_ ?_ ?_ (Mod.refl f) (Bol.nil _ _ _)).mono ?_
  · simp +decide only [Gx, Sx, n0]
  · simp +decide only [Gx, Sx, d0]
  · simp +decide only [Gx, Sx, n0, q0]
  · simp +decide only [Gx, Sx, n0]
  · rintro ex A0 h ⟨rfl, n0, d0, m, acc, sl, hm, hacc, hlen, q0, q3, M, K⟩
    simp only [if_true]
    have fh := M.fit
    have w8 : IntKind.u8.wrap ((m : Nat) : Int) = ((m : Nat) : Int) := wrapU8 (by omega)
    have hbs := qbs31 ((m : Nat) : Int) (h := h)
    obtain ⟨h1, t1, hh1, hby⟩ := one_byte (E := E) fh m (by omega)
    rw [hh1] at hbs
    have K1 := K.mod (t1.mod (M := fun _ => False)) (fun _ _ h => h.elim)
    obtain ⟨sl', q, happ, K2, AP⟩ := bol_step (D := tab) (E := E) (t := 31) (t2 := 31) (by_ := 1) t1.fit (Nat.le_trans M.next t1.next) t1.next K1 qty31 qtz5 rfl (qza31 _ _ _) hby (by
      unfold roomy
      simp only [Bool.and_eq_true, Nat.ble_eq, List.length_singleton]; omega)
    have M2 := AP.mod f (Nat.le_refl _) (M.ahd t1)
    repeat' (first | (with_reducible apply Wc.seq) | (apply Wc.ops; (focus ((repeat' (first | with_reducible exact RO.nil | ((with_reducible apply RO.run (awant_none rfl)); (focus ((first | simp +decide only [awant, ayield_get, oper1, aop, opv, opvs, opvo, opvp, abuiltin, aun, Gx, abin, isShift, aint, roV, pair, bind, Option.bind, acall, Sx, n0, q0, q3, qcv3_5, w8, hbs, happ] | skip); with_reducible rfl))))); done))) | (refine Wc.cond2 (by simp +decide only [opv, Gx, Sx, n0, q0, q3, qcv3_5, w8, hbs, happ]; try with_reducible rfl) (fun hb => ?_) (fun hb => ?_) <;> try contradiction) | refine Wc.skip ?_ | refine Wc.ret ?_ | refine Wc.exit ?_ | refine Wc.block ?_)
    refine done_q (v := sl') (.inr rfl) (by simp +decide only [Gx, Sx, d0]) rfl (by simp +decide only [Gx, Sx, n0]) ⟨M2, ?_⟩
    rw [← hacc, numB_small hm]
    exact K2
end Go.Proofs.YtofijpbmbmbnhaaDoor
/- Bytes put behind one another. -/
set_option maxRecDepth 100000
set_option maxHeartbeats 16000000
namespace Go.Proofs.YtofijpbmbmbnhaaDoor
open Go Go.Hs Go.Proofs
variable {E : Env} {I : Known}
theorem fn96 : tab.fn.get 96 = some Tryd.f96 := by kernel_rfl
theorem fn122 : tab.fn.get 122 = some Tryd.f122 := by kernel_rfl
theorem fn127 : tab.fn.get 127 = some Tryd.f127 := by kernel_rfl
theorem ty176 : tab.ty.get 176 = some ⟨.slice 31 1 24, 1, 24, some (.slice none 0 0), true⟩ := by kernel_rfl
theorem qlen176 {h : H} (b : Option Addr) (n c : Nat) : alen tab 176 (.slice b n c) h = some (.int .i64 n) := by unfold alen; rw [ty176]
theorem qia176 (a : Addr) (n c : Nat) (i : Int) (hi : inRange i n = true) : aindexAddr tab 176 (.slice (some a) n c) (.int .i64 i) = some (.pointer (some (aadd a (i.toNat * 1)))) := by unfold aindexAddr; simp only [ty176, hi]
theorem qcap31 {h : H} (n c : Nat) : acap tab 31 (.slice none n c) h = some (.int .i64 c) := by unfold acap; rw [qty31]
theorem qza3 (n : Nat) (hn : n ≤ 70368744177664) : zeroArg tab 3 (.int .i64 (n : Nat)) = some true := by
  unfold zeroArg
  rw [qty3]
  have : Nat.ble n 70368744177664 = true := by rw [Nat.ble_eq]; exact hn
  show (match Nat.ble n 70368744177664 with | true => some true | false => none) = some true
  rw [this]
theorem qslN {h : H} : aslice tab 31 (.slice none 0 0) none (some (.int .i64 0)) none h = some (.slice none 0 0, h) := by
  unfold aslice
  rw [qty31]
  rfl
noncomputable def loop122a : Code := loopAt Tryd.f122 0
noncomputable def loop122b : Code := loopAt Tryd.f122 1
theorem _root_.Go.Hs.Mod.gof2 {g h : H} (m : Mod (fun _ => False) g h) : Grows g h := fun j B hj => m.blk j B (fun h => h) hj
theorem grow127 (hI : ∀ args h, I 127 args h = none) {g : H} (f : Fit g) (n : Nat) (h0 : 0 < n) (hn : n ≤ 1000000000) :
    ∃ k v g', (ev tab E I k).call 127 [.slice none 0 0, .int .i64 (n : Nat)] g = some (v, g') ∧ (Ahd g g' ∧ Con 5 g.next n g' v []) := by
  obtain ⟨sl', q, happ, hsl, K, t⟩ := con_start (D := tab) (E := E) (t := 31) (t2 := 3) (by_ := 1) f h0 qty31 qtz5 rfl (qza3 n (by omega)) (by
    unfold roomy
    simp only [Bool.and_eq_true, Nat.ble_eq]; omega)
  have hsl := hsl q
  have w0 : IntKind.i64.wrap (0 - 0) = 0 := by rw [wrap64 (by omega) (by omega)]; rfl
  have w1 : IntKind.i64.wrap ((n : Int) - 0) = (n : Int) := by rw [wrap64 (by omega) (by omega)]; omega
  have e1 : decide ((n : Int) < 0) = false := decide_eq_false (by omega)
  have e2 : decide ((n : Int) > 0) = true := by simp; omega
  refine Wc.call (hI _ _) fn127 rfl ?_
  generalize hA0 : (⟨T.ofList [.slice none 0 0, .int .i64 (n : Nat)] 0 .nil, max ([.slice none 0 0, .int .i64 (n : Nat)] : List Value).length Tryd.f127.ntmps, []⟩ : Ac) = A0
  have n0 : A0.n = 27 := by rw [← hA0]; rfl
  have q0 : A0.get 0 = .slice none 0 0 := by rw [← hA0]; rfl
  have q1 : A0.get 1 = .int .i64 (n : Nat) := by rw [← hA0]; rfl
  have d0 : A0.defers = [] := by rw [← hA0]
  clear hA0
  have qc0 : ∀ h, acap tab 31 (.slice none 0 0) h = some (.int .i64 0) := fun h => qcap31 0 0
  have ql0 : ∀ h, alen tab 31 (.slice none 0 0) h = some (.int .i64 0) := fun h => qlen31 none 0 0
  repeat' (first | (with_reducible apply Wc.seq) | (apply Wc.ops; (focus ((repeat' (first | with_reducible exact RO.nil | ((with_reducible apply RO.run (awant_none rfl)); (focus ((first | simp +decide only [awant, ayield_get, oper1, aop, opv, opvs, opvo, opvp, abuiltin, aun, Ac.get_put, abin, isShift, aint, roV, pair, bind, Option.bind, acall, Sx, n0, q0, q1, e1, qc0, ql0, w0, w1, e2, qslN, happ, hsl] | skip); with_reducible rfl))))); done))) | (refine Wc.cond2 (by simp +decide only [opv, Ac.get_put, Sx, n0, q0, q1, e1, qc0, ql0, w0, w1, e2, qslN, happ, hsl]; try with_reducible rfl) (fun hb => ?_) (fun hb => ?_) <;> try contradiction) | refine Wc.skip ?_ | refine Wc.ret ?_ | refine Wc.exit ?_ | refine Wc.block ?_)
  exact done_q (v := sl') (.inr rfl) (by simp +decide only [Ac.get_put, Sx, d0]) rfl (by simp +decide only [Ac.get_put, Sx, n0]) ⟨t, K⟩
def Pcs (E : Env) (g : H) (L : List (Value × List UInt8)) : Prop := ∀ x ∈ L, Byt E g x.1 x.2
def allB (L : List (Value × List UInt8)) : List UInt8 := L.flatMap (·.2)
theorem allB_take {L : List (Value × List UInt8)} {i : Nat} (hi : i < L.length) : allB (L.take (i + 1)) = allB (L.take i) ++ (L[i]).2 := by
  unfold allB
  rw [List.take_succ_eq_append_getElem hi, List.flatMap_append]
  simp
theorem allB_le {L : List (Value × List UInt8)} (i : Nat) : (allB (L.take i)).length ≤ (allB L).length := by
  have : allB L = allB (L.take i) ++ allB (L.drop i) := by
    unfold allB
    rw [← List.flatMap_append, List.take_append_drop]
  rw [this, List.length_append]; omega
theorem concat122 (hI : ∀ f args h, (f = 122 ∨ f = 127) → I f args h = none) {g : H} {L : List (Value × List UInt8)} {kp c : Nat} (f : Fit g) (hb : g.blk kp = some (.cells (L.map (·.1)) 31 none)) (P : Pcs E g L) (h0 : 0 < (allB L).length) (hn : (allB L).length ≤ 1000000) (hl : L.length ≤ 1000) :
    ∃ k v g', (ev tab E I k).call 122 [.slice (some (own kp)) L.length c] g = some (v, g') ∧ (Mod (fun _ => False) g g' ∧ ∃ n, Con 5 g.next n g' v (allB L)) := by
  have one : ∀ i (hi : i < L.length), isOne (L[i]).1 = true ∧ ∃ b c, (L[i]).1 = .slice b (L[i]).2.length c := fun i hi => by
    obtain ⟨b, c, h1⟩ := (P _ (List.getElem_mem hi)).slice
    exact ⟨by rw [h1]; rfl, b, c, h1⟩
  have ld : ∀ (h : H) i (hi : i < L.length), h.blk kp = some (.cells (L.map (·.1)) 31 none) → h.cell E (aadd (own kp) (i * 1)) = some (L[i]).1 := fun h i hi hb => by
    rw [cell_blk hb, Nat.mul_one, List.getElem?_map, List.getElem?_eq_getElem hi]
    exact one_of (one i hi).1
  have ln : ∀ (h : H) i (hi : i < L.length), alen tab 31 (L[i]).1 h = some (.int .i64 ((L[i]).2.length : Nat)) := fun h i hi => by
    obtain ⟨b, c, h1⟩ := (one i hi).2
    rw [h1]; exact qlen31 _ _ _
  have ir : ∀ i, i < L.length → inRange (i : Int) L.length = true := fun i hi => by
    show Nat.blt i L.length = true
    rw [Nat.blt_eq]; exact hi
  have key1 : ∀ (r i : Nat) (A0 : Ac), r = L.length - i → i ≤ L.length → A0.n = 36 → A0.defers = [] → A0.get 0 = .slice (some (own kp)) L.length c → A0.get 3 = .int .i64 ((allB (L.take i)).length : Nat) → A0.get 9 = .slice (some (own kp)) L.length c → A0.get 10 = .int .i64 (L.length : Nat) → A0.get 11 = .int .i64 (i : Nat) →
      Wc tab E I ⟨122, none⟩ (.loop loop122a) A0 g (fun ex A' h' => ex = .exit 0 ∧ A'.n = 36 ∧ A'.defers = [] ∧ A'.get 0 = .slice (some (own kp)) L.length c ∧ A'.get 3 = .int .i64 ((allB L).length : Nat) ∧ h' = g) := by
    intro r
    induction r with
    | zero =>
      intro i A0 hr hi n0 d0 q0 q3 q9 q10 q11
      obtain rfl : i = L.length := by omega
      have e1 : decide ((L.length : Int) < (L.length : Int)) = false := by simp
      rw [List.take_length] at q3
      apply Wc.loop
      simp only [loop122a, loopAt, loops, List.getD, Option.getD, Tryd.f122, List.append_assoc, List.cons_append, List.nil_append, List.append_nil, List.getElem?_cons_zero, List.getElem?_cons_succ]
      repeat' (first | (with_reducible apply Wc.seq) | (apply Wc.ops; (focus ((repeat' (first | with_reducible exact RO.nil | ((with_reducible apply RO.run (awant_none rfl)); (focus ((first | simp +decide only [awant, ayield_get, oper1, aop, opv, opvs, opvo, opvp, abuiltin, aun, Ac.get_put, abin, isShift, aint, roV, pair, bind, Option.bind, acall, Sx, n0, q10, q11, e1] | skip); with_reducible rfl))))); done))) | (refine Wc.cond2 (by simp +decide only [opv, Ac.get_put, Sx, n0, q10, q11, e1]; try with_reducible rfl) (fun hb => ?_) (fun hb => ?_) <;> try contradiction) | refine Wc.skip ?_ | refine Wc.ret ?_ | refine Wc.exit ?_ | refine Wc.block ?_)
      exact ⟨rfl, by simp +decide only [Ac.get_put, Sx, n0], by simp +decide only [Ac.get_put, Sx, d0], by simp +decide only [Ac.get_put, Sx, n0, q0], by simp +decide only [Ac.get_put, Sx, n0, q3], rfl⟩
    | succ r ih =>
      intro i A0 hr hi n0 d0 q0 q3 q9 q10 q11
      have hil : i < L.length := by omega
      have e1 : decide ((i : Int) < (L.length : Int)) = true := by simp; omega
      have hle := allB_le (L := L) (i + 1)
      have hs : (allB (L.take (i + 1))).length = (allB (L.take i)).length + (L[i]).2.length := by rw [allB_take hil, List.length_append]
      have w1 : IntKind.i64.wrap (((allB (L.take i)).length : Int) + ((L[i]).2.length : Int)) = ((allB (L.take (i + 1))).length : Int) := by rw [wrap64 (by omega) (by omega)]; omega
      have e2 : decide (((allB (L.take (i + 1))).length : Int) < 0) = false := decide_eq_false (by omega)
      have w3 : IntKind.i64.wrap ((i : Int) + 1) = ((i + 1 : Nat) : Int) := wrap64 (by omega) (by omega)
      have l1 := ld g i hil hb
      have l2 := ln g i hil
      apply Wc.loop
      simp only [loop122a, loopAt, loops, List.getD, Option.getD, Tryd.f122, List.append_assoc, List.cons_append, List.nil_append, List.append_nil, List.getElem?_cons_zero, List.getElem?_cons_succ]
      repeat' (first | (with_reducible apply Wc.seq) | (apply Wc.ops; (focus ((repeat' (first | with_reducible exact RO.nil | ((with_reducible apply RO.run (awant_none rfl)); (focus ((first | simp +decide only [awant, ayield_get, oper1, aop, opv, opvs, opvo, opvp, abuiltin, aun, Ac.get_put, abin, isShift, aint, roV, pair, bind, Option.bind, acall, Sx, n0, q0, q3, q9, q10, q11, e1, qia176 _ _ _ _ (ir i hil), Int.toNat_natCast, Qx, l1, l2, w1, e2, w3] | skip); with_reducible rfl))))); done))) | (refine Wc.cond2 (by simp +decide only [opv, Ac.get_put, Sx, n0, q0, q3, q9, q10, q11, e1, qia176 _ _ _ _ (ir i hil), Int.toNat_natCast, Qx, l1, l2, w1, e2, w3]; try with_reducible rfl) (fun hb => ?_) (fun hb => ?_) <;> try contradiction) | refine Wc.skip ?_ | refine Wc.ret ?_ | refine Wc.exit ?_ | refine Wc.block ?_)
      refine ih (i + 1) _ (by omega) (by omega) ?_ ?_ ?_ ?_ ?_ ?_ ?_
      · simp +decide only [Ac.get_put, Sx, n0]
      · simp +decide only [Ac.get_put, Sx, d0]
      · simp +decide only [Ac.get_put, Sx, n0, q0]
      · simp +decide only [Ac.get_put, Sx, n0]
      · simp +decide only [Ac.get_put, Sx, n0, q9]
      · simp +decide only [Ac.get_put, Sx, n0, q10]
      · simp +decide only [Ac.get_put, Sx, n0]
  have key2 : ∀ (r i n base : Nat) (sl : Value) (A0 : Ac) (h : H), r = L.length - i → i ≤ L.length → n = (allB L).length → g.next ≤ base → h.mark ≤ base → A0.n = 36 → A0.defers = [] → A0.get 6 = sl → A0.get 25 = .slice (some (own kp)) L.length c → A0.get 26 = .int .i64 (L.length : Nat) → A0.get 27 = .int .i64 (i : Nat) → Mod (fun _ => False) g h → Con 5 base n h sl (allB (L.take i)) →
      Wc tab E I ⟨122, none⟩ (.loop loop122b) A0 h (fun ex A' h' => ex = .exit 2 ∧ A'.n = 36 ∧ A'.defers = [] ∧ ∃ sl, A'.get 6 = sl ∧ Mod (fun _ => False) g h' ∧ Con 5 base n h' sl (allB L)) := by
    intro r
    induction r with
    | zero =>
      intro i n base sl A0 h hr hi hnn hbs hm n0 d0 q6 q25 q26 q27 M K
      obtain rfl : i = L.length := by omega
      have e1 : decide ((L.length : Int) < (L.length : Int)) = false := by simp
      rw [List.take_length] at K
      apply Wc.loop
      simp only [loop122b, loopAt, loops, List.getD, Option.getD, Tryd.f122, List.append_assoc, List.cons_append, List.nil_append, List.append_nil, List.getElem?_cons_zero, List.getElem?_cons_succ]
      repeat' (first | (with_reducible apply Wc.seq) | (apply Wc.ops; (focus ((repeat' (first | with_reducible exact RO.nil | ((with_reducible apply RO.run (awant_none rfl)); (focus ((first | simp +decide only [awant, ayield_get, oper1, aop, opv, opvs, opvo, opvp, abuiltin, aun, Ac.get_put, abin, isShift, aint, roV, pair, bind, Option.bind, acall, Sx, n0, q26, q27, e1] | skip); with_reducible rfl))))); done))) | (refine Wc.cond2 (by simp +decide only [opv, Ac.get_put, Sx, n0, q26, q27, e1]; try with_reducible rfl) (fun hb => ?_) (fun hb => ?_) <;> try contradiction) | refine Wc.skip ?_ | refine Wc.ret ?_ | refine Wc.exit ?_ | refine Wc.block ?_)
      exact ⟨rfl, by simp +decide only [Ac.get_put, Sx, n0], by simp +decide only [Ac.get_put, Sx, d0], sl, by simp +decide only [Ac.get_put, Sx, n0, q6], M, K⟩
    | succ r ih =>
      intro i n base sl A0 h hr hi hnn hbs hm n0 d0 q6 q25 q26 q27 M K
      have hil : i < L.length := by omega
      have e1 : decide ((i : Int) < (L.length : Int)) = true := by simp; omega
      have hle := allB_le (L := L) (i + 1)
      have hs : (allB (L.take (i + 1))).length = (allB (L.take i)).length + (L[i]).2.length := by rw [allB_take hil, List.length_append]
      have w3 : IntKind.i64.wrap ((i : Int) + 1) = ((i + 1 : Nat) : Int) := wrap64 (by omega) (by omega)
      have l1 := ld h i hil (M.gof2 _ _ hb)
      obtain ⟨b, c', hsl⟩ := (one i hil).2
      obtain ⟨sl', q, happ, K2, hM⟩ := con_step (D := tab) (E := E) (t := 31) (t2 := 31) (by_ := 1) (x := (L[i]).1) M.fit hm K qty31 qtz5 rfl (by rw [hsl]; exact qza31 _ _ _) ((P _ (List.getElem_mem hil)).grow M.gof2) (by omega) (by
        unfold roomy
        simp only [Bool.and_eq_true, Nat.ble_eq]; omega)
      have M2 := hM _ _ f hbs M
      rw [← allB_take hil] at K2
      apply Wc.loop
      simp only [loop122b, loopAt, loops, List.getD, Option.getD, Tryd.f122, List.append_assoc, List.cons_append, List.nil_append, List.append_nil, List.getElem?_cons_zero, List.getElem?_cons_succ]
      repeat' (first | (with_reducible apply Wc.seq) | (apply Wc.ops; (focus ((repeat' (first | with_reducible exact RO.nil | ((with_reducible apply RO.run (awant_none rfl)); (focus ((first | simp +decide only [awant, ayield_get, oper1, aop, opv, opvs, opvo, opvp, abuiltin, aun, Ac.get_put, abin, isShift, aint, roV, pair, bind, Option.bind, acall, Sx, n0, q6, q25, q26, q27, e1, qia176 _ _ _ _ (ir i hil), Int.toNat_natCast, Qx, l1, happ, w3] | skip); with_reducible rfl))))); done))) | (refine Wc.cond2 (by simp +decide only [opv, Ac.get_put, Sx, n0, q6, q25, q26, q27, e1, qia176 _ _ _ _ (ir i hil), Int.toNat_natCast, Qx, l1, happ, w3]; try with_reducible rfl) (fun hb => ?_) (fun hb => ?_) <;> try contradiction) | refine Wc.skip ?_ | refine Wc.ret ?_ | refine Wc.exit ?_ | refine Wc.block ?_)
      refine ih (i + 1) n base sl' _ q (by omega) (by omega) hnn hbs (by rw [M2.mark, ← M.mark]; exact hm) ?_ ?_ ?_ ?_ ?_ ?_ M2 K2
      · simp +decide only [Ac.get_put, Sx, n0]
      · simp +decide only [Ac.get_put, Sx, d0]
      · simp +decide only [Ac.get_put, Sx, n0]
      · simp +decide only [Ac.get_put, Sx, n0, q25]
      · simp +decide only [Ac.get_put, Sx, n0, q26]
      · simp +decide only [Ac.get_put, Sx, n0]
  obtain ⟨nf, v, g1, cg, t1, K1⟩ := grow127 (E := E) (I := I) (fun args h => hI _ args h (.inr rfl)) f (allB L).length h0 (by omega)
  refine Wc.call (hI _ _ _ (.inl rfl)) fn122 rfl ?_
  generalize hA0 : (⟨T.ofList [.slice (some (own kp)) L.length c] 0 .nil, max ([.slice (some (own kp)) L.length c] : List Value).length Tryd.f122.ntmps, []⟩ : Ac) = A0
  have n0 : A0.n = 36 := by rw [← hA0]; rfl
  have q0 : A0.get 0 = .slice (some (own kp)) L.length c := by rw [← hA0]; rfl
  have d0 : A0.defers = [] := by rw [← hA0]
  clear hA0
  repeat' (first | (with_reducible apply Wc.seq) | (apply Wc.ops; (focus ((repeat' (first | with_reducible exact RO.nil | ((with_reducible apply RO.run (awant_none rfl)); (focus ((first | simp +decide only [awant, ayield_get, oper1, aop, opv, opvs, opvo, opvp, abuiltin, aun, Ac.get_put, abin, isShift, aint, roV, pair, bind, Option.bind, acall, Sx, n0, q0, qlen176] | skip); with_reducible rfl))))); done))) | (refine Wc.cond2 (by simp +decide only [opv, Ac.get_put, Sx, n0, q0, qlen176]; try with_reducible rfl) (fun hb => ?_) (fun hb => ?_) <;> try contradiction) | refine Wc.skip ?_ | refine Wc.ret ?_ | refine Wc.exit ?_ | refine Wc.block ?_)
  refine (key1 L.length 0 _ rfl (Nat.zero_le _) ?_ ?_ ?_ ?_ ?_ ?_ ?_).mono ?_
  · simp +decide only [Ac.get_put, Sx, n0]
  · simp +decide only [Ac.get_put, Sx, d0]
  · simp +decide only [Ac.get_put, Sx, n0, q0]
  · simp +decide only [Ac.get_put, Sx, n0]
    rfl
  · simp +decide only [Ac.get_put, Sx, n0]
  · simp +decide only [Ac.get_put, Sx, n0]
  · simp +decide only [Ac.get_put, Sx, n0]
    rfl
  · rintro ex A0 h ⟨rfl, n0, d0, q0, q3, rfl⟩
    simp only [if_true]
    repeat' (first | (with_reducible apply Wc.seq) | (apply Wc.opsN nf; (focus ((repeat' (first | with_reducible exact RO.nil | ((with_reducible apply RO.run (awant_none rfl)); (focus ((first | simp +decide only [awant, ayield_get, oper1, aop, opv, opvs, opvo, opvp, abuiltin, aun, Ac.get_put, abin, isShift, aint, roV, pair, bind, Option.bind, acall, Sx, n0, q0, q3, cg, qlen176] | skip); with_reducible rfl))))); done))) | (refine Wc.cond2 (by simp +decide only [opv, Ac.get_put, Sx, n0, q0, q3, cg, qlen176]; try with_reducible rfl) (fun hb => ?_) (fun hb => ?_) <;> try contradiction) | refine Wc.skip ?_ | refine Wc.ret ?_ | refine Wc.exit ?_ | refine Wc.block ?_)
    refine (key2 L.length 0 _ h.next v _ g1 rfl (Nat.zero_le _) rfl (Nat.le_refl _) (by rw [t1.mark]; exact f.ok.2) ?_ ?_ ?_ ?_ ?_ ?_ t1.mod K1).mono ?_
    · simp +decide only [Ac.get_put, Sx, n0]
    · simp +decide only [Ac.get_put, Sx, d0]
    · simp +decide only [Ac.get_put, Sx, n0]
    · simp +decide only [Ac.get_put, Sx, n0]
    · simp +decide only [Ac.get_put, Sx, n0]
    · simp +decide only [Ac.get_put, Sx, n0]
      rfl
    · rintro ex A0 h2 ⟨rfl, n0, d0, sl, q6, M, K⟩
      simp only [if_true]
      repeat' (first | (with_reducible apply Wc.seq) | (apply Wc.ops; (focus ((repeat' (first | with_reducible exact RO.nil | ((with_reducible apply RO.run (awant_none rfl)); (focus ((first | simp +decide only [awant, ayield_get, oper1, aop, opv, opvs, opvo, opvp, abuiltin, aun, Ac.get_put, abin, isShift, aint, roV, pair, bind, Option.bind, acall, Sx, n0, q6] | skip); with_reducible rfl))))); done))) | (refine Wc.cond2 (by simp +decide only [opv, Ac.get_put, Sx, n0, q6]; try with_reducible rfl) (fun hb => ?_) (fun hb => ?_) <;> try contradiction) | refine Wc.skip ?_ | refine Wc.ret ?_ | refine Wc.exit ?_ | refine Wc.block ?_)
      exact done_q (v := sl) (.inr rfl) (by simp +decide only [Ac.get_put, Sx, d0]) rfl (by simp +decide only [Ac.get_put, Sx, n0]) ⟨M, _, K⟩
theorem join96 (hI : ∀ f args h, (f = 96 ∨ f = 122 ∨ f = 127) → I f args h = none) {g : H} {L : List (Value × List UInt8)} {kp c : Nat} (f : Fit g) (hb : g.blk kp = some (.cells (L.map (·.1)) 31 none)) (P : Pcs E g L) (h0 : 0 < (allB L).length) (hn : (allB L).length ≤ 1000000) (hl : L.length ≤ 1000) :
    ∃ k v g', (ev tab E I k).call 96 [.slice (some (own kp)) L.length c] g = some (v, g') ∧ (Mod (fun _ => False) g g' ∧ ∃ n, Con 5 g.next n g' v (allB L)) := by
  obtain ⟨nf, v, g1, cg, M, K⟩ := concat122 (E := E) (I := I) (fun f args h hf => hI f args h (.inr hf)) (c := c) f hb P h0 hn hl
  refine Wc.call (hI _ _ _ (.inl rfl)) fn96 rfl ?_
  generalize hA0 : (⟨T.ofList [.slice (some (own kp)) L.length c] 0 .nil, max ([.slice (some (own kp)) L.length c] : List Value).length Tryd.f96.ntmps, []⟩ : Ac) = A0
  have n0 : A0.n = 5 := by rw [← hA0]; rfl
  have q0 : A0.get 0 = .slice (some (own kp)) L.length c := by rw [← hA0]; rfl
  have d0 : A0.defers = [] := by rw [← hA0]
  clear hA0
  repeat' (first | (with_reducible apply Wc.seq) | (apply Wc.opsN nf; (focus ((repeat' (first | with_reducible exact RO.nil | ((with_reducible apply RO.run (awant_none rfl)); (focus ((first | simp +decide only [awant, ayield_get, oper1, aop, opv, opvs, opvo, opvp, abuiltin, aun, Ac.get_put, abin, isShift, aint, roV, pair, bind, Option.bind, acall, Sx, n0, q0, cg] | skip); with_reducible rfl))))); done))) | (refine Wc.cond2 (by simp +decide only [opv, Ac.get_put, Sx, n0, q0, cg]; try with_reducible rfl) (fun hb => ?_) (fun hb => ?_) <;> try contradiction) | refine Wc.skip ?_ | refine Wc.ret ?_ | refine Wc.exit ?_ | refine Wc.block ?_)
  exact done_q (v := v) (.inr rfl) (by simp +decide only [Ac.get_put, Sx, d0]) rfl (by simp +decide only [Ac.get_put, Sx, n0]) ⟨M, K⟩
end Go.Proofs.YtofijpbmbmbnhaaDoor
