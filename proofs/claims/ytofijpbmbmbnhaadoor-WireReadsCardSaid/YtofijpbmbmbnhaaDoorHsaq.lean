/- The reference's reader: the item, the items of bytes. -/
import Derived.Test.YtofijpbmbmbnhaaDoorHsap
set_option linter.unusedSimpArgs false
set_option linter.unusedVariables false
set_option maxRecDepth 100000
set_option maxHeartbeats 16000000
namespace Go.Proofs.YtofijpbmbmbnhaaDoor
open Go Go.Hs Go.Proofs
variable {E : Env} {I : Known}

theorem fn17 : tab.fn.get 17 = some Tryd.f17 := by kernel_rfl
theorem fn19 : tab.fn.get 19 = some Tryd.f19 := by kernel_rfl
noncomputable def loop19 : Code := loopOf Tryd.f19
theorem qbu91 (s : Value) (h : s.cells.toList = [s]) : abuild tab 91 [(0, s)] = some (.agg ⟨[s, .int .i64 0, .int .i64 0, .int .i64 0, .int .i64 0]⟩) := by
  unfold abuild
  simp only [qty91, afill, h]
  rfl

theorem rdec17 (hI : ∀ f args h, (f = 17 ∨ f = 57 ∨ f = 92 ∨ f = 91 ∨ f = 52) → I f args h = none) {g : H} {v : Value} {bs : List UInt8} (f : Fit g) (hB : ∀ h, Byt E h v bs) (hl : bs.length ≤ 1000000) :
    ∃ n x g', (ev tab E I n).call 17 [v] g = some (x, g') ∧ (Mod (fun _ => False) g g' ∧ DecQ E (decR bs) x g') := by
  obtain ⟨hv1, hv2, ln, hix⟩ := bytE (E := E) hB
  have hI52 : ∀ args h, I 52 args h = none := fun args h => hI _ args h (by simp)
  refine Wc.call (hI _ _ _ (.inl rfl)) fn17 rfl ?_
  generalize hA0 : (⟨T.ofList [v] 0 .nil, max ([v] : List Value).length Tryd.f17.ntmps, []⟩ : Ac) = A0
  have n0 : A0.n = 36 := by rw [← hA0]; rfl
  have q0 : A0.get 0 = v := by rw [← hA0]; rfl
  have d0 : A0.defers = [] := by rw [← hA0]
  clear hA0
  generalize hh1 : g.new (.cells (Value.agg #[.int .i64 0, .int .i64 0, .string ⟨#[]⟩, .slice none 0 0]).cells.toList 25 none) = h1
  have t1 : Ahd g h1 := by rw [← hh1]; exact Ahd.new0 f rfl
  have b2 : h1.blk g.next = some (.cells zeroL 25 none) := by rw [← hh1]; exact new_blk_new rfl
  have st : ∀ {h : H} {l : List Value}, l.length = 4 → l.all isOne = true → h.blk g.next = some (.cells zeroL 25 none) → astore tab 25 (own g.next) (.agg ⟨l⟩) h = some (h.setl g.next (.cells l 25 none)) := fun h4 ho hb => astore_all qty25 hb (by rw [h4]) (by rw [h4]; rfl) ho (by intro e; rw [e] at h4; simp at h4)
  have ld : ∀ {h : H} {l : List Value}, l.length = 4 → l.all isOne = true → (h.setl g.next (.cells l 25 none)).cells E (own g.next) 4 = some l := fun h4 ho => blk_cells (setl_same rfl) h4 ho
  unfold decR
  by_cases hlong : 65536 < bs.length
  · have e1 : decide ((bs.length : Int) > 65536) = true := by simp; omega
    have s1 := st (l := zeroL) rfl rfl b2
    have m1 := (Mod.refl (M := fun j => j = g.next) t1.fit).setl (B := .cells zeroL 25 none) rfl rfl (t1.fit.lt b2)
    repeat' (first
    | (with_reducible apply Wc.seq)
    | (apply Wc.ops; (focus ((repeat' (first
      | with_reducible exact RO.nil
      | ((with_reducible apply RO.run (awant_none rfl)); (focus ((first | simp (config := {decide := true}) only [awant, ayield_get, oper1, aop, opv, opvs, opvo, opvp, abuiltin, aun, Gx, if_true, if_false, and_true, decide_true, decide_false, abin, isShift, aint, roV, pair, bind, Option.bind, acall, Sx, n0, q0, qtz25, hh1, ln, e1, qbu25z, s1] | skip); with_reducible rfl))))); done)))
    | (refine Wc.cond2 (by simp (config := {decide := true}) only [opv, Gx, if_true, if_false, and_true, decide_true, decide_false, Sx, n0, q0, qtz25, hh1, ln, e1, qbu25z, s1]; try with_reducible rfl) (fun hb => ?_) (fun hb => ?_) <;> try contradiction)
    | refine Wc.skip ?_
    | refine Wc.ret ?_
    | refine Wc.exit ?_
    | refine Wc.block ?_)
    rw [if_pos hlong]
    exact done_c3 (v := .agg ⟨zeroL⟩) (x := .int .i64 0) (y := .int .i64 11) (.inr rfl) (by simp (config := {decide := true}) only [Gx, if_true, if_false, and_true, Sx, d0]) rfl (show _ = Value.pointer (some (own g.next)) by simp (config := {decide := true}) only [Gx, if_true, if_false, and_true, Sx, n0]) (by rw [qld25, ld rfl rfl]) (by simp (config := {decide := true}) only [Gx, if_true, if_false, and_true, Sx, n0]) (by simp (config := {decide := true}) only [Gx, if_true, if_false, and_true, Sx, n0]) ⟨Mod.low f (t1.mod.trans m1) (fun j hj => .inr (by omega)), rfl⟩
  have e1 : decide ((bs.length : Int) > 65536) = false := by simp; omega
  rw [if_neg hlong]
  have bu := qbu91 v hv1
  generalize hh2 : h1.new (.cells (Value.agg #[.slice none 0 0, .int .i64 0, .int .i64 0, .int .i64 0, .int .i64 0]).cells.toList 91 none) = h2
  have t2 : Ahd h1 h2 := by rw [← hh2]; exact Ahd.new0 t1.fit rfl
  have b5 : h2.blk h1.next = some (.cells [.slice none 0 0, .int .i64 0, .int .i64 0, .int .i64 0, .int .i64 0] 91 none) := by rw [← hh2]; exact new_blk_new rfl
  have ho5 : [v, .int .i64 0, .int .i64 0, .int .i64 0, .int .i64 0].all isOne = true := by rw [List.all_cons, hv2]; rfl
  have s5 : astore tab 91 (own h1.next) (.agg ⟨[v, .int .i64 0, .int .i64 0, .int .i64 0, .int .i64 0]⟩) h2 = some (h2.setl h1.next (.cells [v, .int .i64 0, .int .i64 0, .int .i64 0, .int .i64 0] 91 none)) := astore_all qty91 b5 rfl rfl ho5 (by simp)
  have t3 : Ahd h1 (h2.setl h1.next (.cells [v, .int .i64 0, .int .i64 0, .int .i64 0, .int .i64 0] 91 none)) := t2.setl rfl (Nat.le_refl _) (t2.fit.lt b5) t1.fit
  have b5 : Ref h1.next v 0 0 0 0 (h2.setl h1.next (.cells [v, .int .i64 0, .int .i64 0, .int .i64 0, .int .i64 0] 91 none)) := setl_same rfl
  generalize h2.setl h1.next (.cells [v, .int .i64 0, .int .i64 0, .int .i64 0, .int .i64 0] 91 none) = h3 at s5 t3 b5
  have b23 := t3.grows _ _ b2
  have lt1 := t1.fit.lt b2
  obtain ⟨n1, v1, h4, c4, l, rfl, hl4, hl1, m4, hq⟩ := ritem57 (E := E) (I := I) (fun f args h hf => hI f args h (.inr hf)) hB hl 250 (Nat.le_refl _) h3 0 0 0 t3.fit b5 (Nat.zero_le _) (by decide)
  have c4' : (ev tab E I n1).call 57 [.pointer (some (own h1.next)), .int .i64 1] h3 = some (.agg ⟨l⟩, h4) := c4
  have rok := rdItem_ok bs 250
  generalize hh5 : h4.new (.cells (Value.agg #[.int .i64 0, .int .i64 0, .string ⟨#[]⟩, .slice none 0 0]).cells.toList 25 none) = h5
  have t5 : Ahd h4 h5 := by rw [← hh5]; exact Ahd.new0 m4.fit rfl
  have b6 : h5.blk h4.next = some (.cells zeroL 25 none) := by rw [← hh5]; exact new_blk_new rfl
  have s6 : astore tab 25 (own h4.next) (.agg ⟨l⟩) h5 = some (h5.setl h4.next (.cells l 25 none)) := astore_all qty25 b6 (by rw [hl4]) (by rw [hl4]; rfl) hl1 (by intro e; rw [e] at hl4; simp at hl4)
  have t6 : Ahd h4 (h5.setl h4.next (.cells l 25 none)) := t5.setl rfl (Nat.le_refl _) (t5.fit.lt b6) m4.fit
  have b6 := setl_same (h := h5) (k := h4.next) (B := .cells l 25 none) rfl
  generalize h5.setl h4.next (.cells l 25 none) = h6 at s6 t6 b6
  have l6 : h6.cells E (own h4.next) 4 = some l := blk_cells b6 hl4 hl1
  have b26 := t6.grows _ _ (m4.blk _ _ (by omega) b23)
  have n3 := t3.next
  have n4 := m4.next
  have M6 : Mod (fun j => g.next ≤ j) g h6 := ((t1.mod.trans t3.mod).trans (m4.sub (N := fun j => g.next ≤ j) fun j hj => by omega)).trans t6.mod
  generalize hr : rdItem bs 250 0 0 = r at hq
  cases r with
  | bad p e =>
    obtain ⟨pos', it, bb⟩ := hq
    have he : e ≠ 0 := by rcases (rok.2 _ _ _ _ hr (Nat.zero_le _)).1 with rfl | rfl | rfl | rfl <;> decide
    have e9 : decide (e = 0) = false := decide_eq_false he
    have bb := bb.mod (t6.mod (M := fun _ => False)) (fun h => h)
    obtain ⟨_, f1, _, f3, f4⟩ := bb.at (E := E) hv2
    have s7 := st (h := fresh h6) (l := zeroL) rfl rfl b26
    have lt7 := M6.fit.lt b26
    have m7 := (Mod.refl (M := fun j => j = g.next) M6.fit).setl (B := .cells zeroL 25 none) rfl rfl lt7
    repeat' (first
    | (with_reducible apply Wc.seq)
    | (apply Wc.opsN n1; (focus ((repeat' (first
      | with_reducible exact RO.nil
      | ((with_reducible apply RO.run (awant_none rfl)); (focus ((first | simp (config := {decide := true}) only [awant, ayield_get, oper1, aop, opv, opvs, opvo, opvp, abuiltin, aun, Gx, if_true, if_false, and_true, decide_true, decide_false, abin, isShift, aint, roV, pair, bind, Option.bind, acall, Sx, n0, q0, qtz25, hh1, ln, e1, bu, qtz91, hh2, s5, c4', hh5, s6, Qx, Hx, f4, e9] | skip); with_reducible rfl)))
      | ((with_reducible apply RO.runG); (focus rfl); (focus rfl); (focus (simp (config := {decide := true}) only [Gx, if_true, if_false, and_true, Sx, decide_true, decide_false, n0, q0, qtz25, hh1, ln, e1, bu, qtz91, hh2, s5, c4', hh5, s6, Qx, Hx, f4, e9]; done)); (focus ((first | simp (config := {decide := true}) only [awant, ayield_get, oper1, aop, opv, opvs, opvo, opvp, abuiltin, aun, Gx, if_true, if_false, and_true, decide_true, decide_false, abin, isShift, aint, roV, pair, bind, Option.bind, acall, Sx, n0, q0, qtz25, hh1, ln, e1, bu, qtz91, hh2, s5, c4', hh5, s6, Qx, Hx, f4, e9] | skip); with_reducible rfl)))
      | ((with_reducible apply RO.skipG); (focus rfl); (focus rfl); (focus (simp (config := {decide := true}) only [Gx, if_true, if_false, and_true, Sx, decide_true, decide_false, n0, q0, qtz25, hh1, ln, e1, bu, qtz91, hh2, s5, c4', hh5, s6, Qx, Hx, f4, e9]; done))))); done)))
    | (refine Wc.quiet (by kernel_rfl) (by repeat' (first
      | with_reducible exact QO.nil
      | ((with_reducible apply QO.cons rfl rfl); (focus ((first | simp (config := {decide := true}) only [awant, ayield_get, oper1, aop, opv, opvs, opvo, opvp, abuiltin, aun, Gx, if_true, if_false, and_true, decide_true, decide_false, abin, isShift, aint, roV, pair, bind, Option.bind, acall, Sx, n0, q0, qtz25, hh1, ln, e1, bu, qtz91, hh2, s5, c4', hh5, s6, Qx, Hx, f4, e9] | skip); with_reducible rfl))))) ?_)
    | (refine Wc.cond2 (by simp (config := {decide := true}) only [opv, Gx, if_true, if_false, and_true, decide_true, decide_false, Sx, n0, q0, qtz25, hh1, ln, e1, bu, qtz91, hh2, s5, c4', hh5, s6, Qx, Hx, f4, e9]; try with_reducible rfl) (fun hb => ?_) (fun hb => ?_) <;> try contradiction)
    | refine Wc.skip ?_
    | refine Wc.ret ?_
    | refine Wc.exit ?_
    | refine Wc.block ?_)
    refine Wc.drawQ 1 (by kernel_rfl) ?_
    (iterate 5 (first
      | ((apply FQ.pure rfl rfl); (focus ((first | simp (config := {decide := true}) only [awant, ayield_get, oper1, aop, opv, opvs, opvo, opvp, abuiltin, aun, Gx, if_true, if_false, and_true, decide_true, decide_false, abin, isShift, aint, roV, pair, bind, Option.bind, acall, Sx, n0, Qx, Hx, f3, f4, qbu25z] | skip); with_reducible rfl)))
      | ((apply FQ.new rfl rfl); (focus ((first | simp (config := {decide := true}) only [awant, ayield_get, oper1, aop, opv, opvs, opvo, opvp, abuiltin, aun, Gx, if_true, if_false, and_true, decide_true, decide_false, abin, isShift, aint, roV, pair, bind, Option.bind, acall, Sx, n0, Qx, Hx, f3, f4, qbu25z] | skip); with_reducible rfl)))))
    refine FQ.setl (k := g.next) rfl rfl lt7 (by simp (config := {decide := true}) only [awant, ayield_get, oper1, aop, opv, opvs, opvo, opvp, abuiltin, aun, Gx, if_true, if_false, and_true, decide_true, decide_false, abin, isShift, aint, roV, pair, bind, Option.bind, acall, Sx, n0, s7]; with_reducible rfl) ?_
    (iterate 2 (first
      | ((apply FQ.pure rfl rfl); (focus ((first | simp (config := {decide := true}) only [awant, ayield_get, oper1, aop, opv, opvs, opvo, opvp, abuiltin, aun, Gx, if_true, if_false, and_true, decide_true, decide_false, abin, isShift, aint, roV, pair, bind, Option.bind, acall, Sx, n0] | skip); with_reducible rfl)))
      | ((apply FQ.new rfl rfl); (focus ((first | simp (config := {decide := true}) only [awant, ayield_get, oper1, aop, opv, opvs, opvo, opvp, abuiltin, aun, Gx, if_true, if_false, and_true, decide_true, decide_false, abin, isShift, aint, roV, pair, bind, Option.bind, acall, Sx, n0] | skip); with_reducible rfl)))))
    refine FQ.nil ⟨?_, ?_⟩
    · exact allMeet_but [5] 8 [(1, 5), (3, 5), (2, 5), (4, 5)] rfl rfl (by kernel_rfl) (fun _ _ _ _ hU e1 e2 => by simp only [List.mem_cons, Prod.mk.injEq, List.not_mem_nil, or_false] at hU; rcases hU with ⟨rfl, rfl⟩ | ⟨rfl, rfl⟩ | ⟨rfl, rfl⟩ | ⟨rfl, rfl⟩; (focus (cases e1; cases e2; exact meets_right (l := []) rfl rfl (fun _ _ => List.not_mem_nil) rfl (fun j _ => Nat.lt_or_ge _ _))); (focus (cases e1; cases e2; exact meets_right (l := []) rfl rfl (fun _ _ => List.not_mem_nil) rfl (fun j _ => Nat.lt_or_ge _ _))); (focus (cases e1; cases e2; exact meets_right (l := [h1.next]) rfl (by simp (config := {decide := true}) only [awant, ayield_get, oper1, aop, opv, opvs, opvo, opvp, abuiltin, aun, Gx, if_true, if_false, and_true, decide_true, decide_false, abin, isShift, aint, roV, pair, bind, Option.bind, acall, Sx, reads, pureOp, atV, n0, Hx, aadd, own]) (fun j hj => by have hj := List.mem_singleton.1 hj; subst hj; simp only [List.mem_singleton]; omega) rfl (fun j _ => Nat.lt_or_ge _ _))); (focus (cases e1; cases e2; exact meets_right (l := [h1.next]) rfl (by simp (config := {decide := true}) only [awant, ayield_get, oper1, aop, opv, opvs, opvo, opvp, abuiltin, aun, Gx, if_true, if_false, and_true, decide_true, decide_false, abin, isShift, aint, roV, pair, bind, Option.bind, acall, Sx, reads, pureOp, atV, n0, Hx, aadd, own]) (fun j hj => by have hj := List.mem_singleton.1 hj; subst hj; simp only [List.mem_singleton]; omega) rfl (fun j _ => Nat.lt_or_ge _ _))))
    refine Wc.ret ?_
    exact done_c3 (v := .agg ⟨zeroL⟩) (x := .int .i64 (p : Nat)) (y := .int .i64 e) (.inr rfl) (by simp (config := {decide := true}) only [Gx, if_true, if_false, and_true, Sx, d0]) rfl (show _ = Value.pointer (some (own g.next)) by simp (config := {decide := true}) only [Gx, if_true, if_false, and_true, Sx, n0]) (by rw [qld25, ld rfl rfl]) (by simp (config := {decide := true}) only [Gx, if_true, if_false, and_true, Sx, n0]) (by simp (config := {decide := true}) only [Gx, if_true, if_false, and_true, Sx, n0]) ⟨Mod.low f (M6.trans (m7.sub fun j hj => by omega)) (fun j hj => .inr hj), rfl⟩
  | ok t p it =>
    obtain ⟨bb, hrt⟩ := hq
    have hp := (rok.1 _ _ _ _ _ hr).2.1
    have bb := bb.mod (t6.mod (M := fun _ => False)) (fun h => h)
    obtain ⟨_, f1, _, f3, f4⟩ := bb.at (E := E) hv2
    by_cases hlt : p < bs.length
    · have e9 : decide ((p : Int) < (bs.length : Int)) = true := by simp; omega
      obtain ⟨n7, h7, c7, m7, b7⟩ := rfail52 (E := E) (I := I) hI52 t6.fit bb 4 p
      obtain ⟨_, g1, _, g3, g4⟩ := b7.at (E := E) hv2
      have b27 := m7.blk _ _ (by omega) b26
      have s8 := st (h := fresh h7) (l := zeroL) rfl rfl b27
      have lt7 := m7.fit.lt b27
      have m8 := (Mod.refl (M := fun j => j = g.next) m7.fit).setl (B := .cells zeroL 25 none) rfl rfl lt7
      repeat' (first
    | (with_reducible apply Wc.seq)
    | (apply Wc.opsN n1; (focus ((repeat' (first
      | with_reducible exact RO.nil
      | ((with_reducible apply RO.run (awant_none rfl)); (focus ((first | simp (config := {decide := true}) only [awant, ayield_get, oper1, aop, opv, opvs, opvo, opvp, abuiltin, aun, Gx, if_true, if_false, and_true, decide_true, decide_false, abin, isShift, aint, roV, pair, bind, Option.bind, acall, Sx, n0, q0, qtz25, hh1, ln, e1, bu, qtz91, hh2, s5, c4', hh5, s6, Qx, Hx, f1, f4, e9] | skip); with_reducible rfl)))
      | ((with_reducible apply RO.runG); (focus rfl); (focus rfl); (focus (simp (config := {decide := true}) only [Gx, if_true, if_false, and_true, Sx, decide_true, decide_false, n0, q0, qtz25, hh1, ln, e1, bu, qtz91, hh2, s5, c4', hh5, s6, Qx, Hx, f1, f4, e9]; done)); (focus ((first | simp (config := {decide := true}) only [awant, ayield_get, oper1, aop, opv, opvs, opvo, opvp, abuiltin, aun, Gx, if_true, if_false, and_true, decide_true, decide_false, abin, isShift, aint, roV, pair, bind, Option.bind, acall, Sx, n0, q0, qtz25, hh1, ln, e1, bu, qtz91, hh2, s5, c4', hh5, s6, Qx, Hx, f1, f4, e9] | skip); with_reducible rfl)))
      | ((with_reducible apply RO.skipG); (focus rfl); (focus rfl); (focus (simp (config := {decide := true}) only [Gx, if_true, if_false, and_true, Sx, decide_true, decide_false, n0, q0, qtz25, hh1, ln, e1, bu, qtz91, hh2, s5, c4', hh5, s6, Qx, Hx, f1, f4, e9]; done))))); done)))
    | (refine Wc.quiet (by kernel_rfl) (by repeat' (first
      | with_reducible exact QO.nil
      | ((with_reducible apply QO.cons rfl rfl); (focus ((first | simp (config := {decide := true}) only [awant, ayield_get, oper1, aop, opv, opvs, opvo, opvp, abuiltin, aun, Gx, if_true, if_false, and_true, decide_true, decide_false, abin, isShift, aint, roV, pair, bind, Option.bind, acall, Sx, n0, q0, qtz25, hh1, ln, e1, bu, qtz91, hh2, s5, c4', hh5, s6, Qx, Hx, f1, f4, e9] | skip); with_reducible rfl))))) ?_)
    | (refine Wc.cond2 (by simp (config := {decide := true}) only [opv, Gx, if_true, if_false, and_true, decide_true, decide_false, Sx, n0, q0, qtz25, hh1, ln, e1, bu, qtz91, hh2, s5, c4', hh5, s6, Qx, Hx, f1, f4, e9]; try with_reducible rfl) (fun hb => ?_) (fun hb => ?_) <;> try contradiction)
    | refine Wc.skip ?_
    | refine Wc.ret ?_
    | refine Wc.exit ?_
    | refine Wc.block ?_)
      repeat' (first
    | (with_reducible apply Wc.seq)
    | (apply Wc.opsN n7; (focus ((repeat' (first
      | with_reducible exact RO.nil
      | ((with_reducible apply RO.run (awant_none rfl)); (focus ((first | simp (config := {decide := true}) only [awant, ayield_get, oper1, aop, opv, opvs, opvo, opvp, abuiltin, aun, Gx, if_true, if_false, and_true, decide_true, decide_false, abin, isShift, aint, roV, pair, bind, Option.bind, acall, Sx, n0, Qx, Hx, f1, c7, g4] | skip); with_reducible rfl)))
      | ((with_reducible apply RO.runG); (focus rfl); (focus rfl); (focus (simp (config := {decide := true}) only [Gx, if_true, if_false, and_true, Sx, decide_true, decide_false, n0, Qx, Hx, f1, c7, g4]; done)); (focus ((first | simp (config := {decide := true}) only [awant, ayield_get, oper1, aop, opv, opvs, opvo, opvp, abuiltin, aun, Gx, if_true, if_false, and_true, decide_true, decide_false, abin, isShift, aint, roV, pair, bind, Option.bind, acall, Sx, n0, Qx, Hx, f1, c7, g4] | skip); with_reducible rfl)))
      | ((with_reducible apply RO.skipG); (focus rfl); (focus rfl); (focus (simp (config := {decide := true}) only [Gx, if_true, if_false, and_true, Sx, decide_true, decide_false, n0, Qx, Hx, f1, c7, g4]; done))))); done)))
    | (refine Wc.quiet (by kernel_rfl) (by repeat' (first
      | with_reducible exact QO.nil
      | ((with_reducible apply QO.cons rfl rfl); (focus ((first | simp (config := {decide := true}) only [awant, ayield_get, oper1, aop, opv, opvs, opvo, opvp, abuiltin, aun, Gx, if_true, if_false, and_true, decide_true, decide_false, abin, isShift, aint, roV, pair, bind, Option.bind, acall, Sx, n0, Qx, Hx, f1, c7, g4] | skip); with_reducible rfl))))) ?_)
    | (refine Wc.cond2 (by simp (config := {decide := true}) only [opv, Gx, if_true, if_false, and_true, decide_true, decide_false, Sx, n0, Qx, Hx, f1, c7, g4]; try with_reducible rfl) (fun hb => ?_) (fun hb => ?_) <;> try contradiction)
    | refine Wc.skip ?_
    | refine Wc.ret ?_
    | refine Wc.exit ?_
    | refine Wc.block ?_)
      refine Wc.drawQ 1 (by kernel_rfl) ?_
      (iterate 5 (first
      | ((apply FQ.pure rfl rfl); (focus ((first | simp (config := {decide := true}) only [awant, ayield_get, oper1, aop, opv, opvs, opvo, opvp, abuiltin, aun, Gx, if_true, if_false, and_true, decide_true, decide_false, abin, isShift, aint, roV, pair, bind, Option.bind, acall, Sx, n0, Qx, Hx, g3, g4, qbu25z] | skip); with_reducible rfl)))
      | ((apply FQ.new rfl rfl); (focus ((first | simp (config := {decide := true}) only [awant, ayield_get, oper1, aop, opv, opvs, opvo, opvp, abuiltin, aun, Gx, if_true, if_false, and_true, decide_true, decide_false, abin, isShift, aint, roV, pair, bind, Option.bind, acall, Sx, n0, Qx, Hx, g3, g4, qbu25z] | skip); with_reducible rfl)))))
      refine FQ.setl (k := g.next) rfl rfl lt7 (by simp (config := {decide := true}) only [awant, ayield_get, oper1, aop, opv, opvs, opvo, opvp, abuiltin, aun, Gx, if_true, if_false, and_true, decide_true, decide_false, abin, isShift, aint, roV, pair, bind, Option.bind, acall, Sx, n0, s8]; with_reducible rfl) ?_
      (iterate 2 (first
      | ((apply FQ.pure rfl rfl); (focus ((first | simp (config := {decide := true}) only [awant, ayield_get, oper1, aop, opv, opvs, opvo, opvp, abuiltin, aun, Gx, if_true, if_false, and_true, decide_true, decide_false, abin, isShift, aint, roV, pair, bind, Option.bind, acall, Sx, n0] | skip); with_reducible rfl)))
      | ((apply FQ.new rfl rfl); (focus ((first | simp (config := {decide := true}) only [awant, ayield_get, oper1, aop, opv, opvs, opvo, opvp, abuiltin, aun, Gx, if_true, if_false, and_true, decide_true, decide_false, abin, isShift, aint, roV, pair, bind, Option.bind, acall, Sx, n0] | skip); with_reducible rfl)))))
      refine FQ.nil ⟨?_, ?_⟩
      · exact allMeet_but [5] 8 [(1, 5), (3, 5), (2, 5), (4, 5)] rfl rfl (by kernel_rfl) (fun _ _ _ _ hU e1 e2 => by simp only [List.mem_cons, Prod.mk.injEq, List.not_mem_nil, or_false] at hU; rcases hU with ⟨rfl, rfl⟩ | ⟨rfl, rfl⟩ | ⟨rfl, rfl⟩ | ⟨rfl, rfl⟩; (focus (cases e1; cases e2; exact meets_right (l := []) rfl rfl (fun _ _ => List.not_mem_nil) rfl (fun j _ => Nat.lt_or_ge _ _))); (focus (cases e1; cases e2; exact meets_right (l := []) rfl rfl (fun _ _ => List.not_mem_nil) rfl (fun j _ => Nat.lt_or_ge _ _))); (focus (cases e1; cases e2; exact meets_right (l := [h1.next]) rfl (by simp (config := {decide := true}) only [awant, ayield_get, oper1, aop, opv, opvs, opvo, opvp, abuiltin, aun, Gx, if_true, if_false, and_true, decide_true, decide_false, abin, isShift, aint, roV, pair, bind, Option.bind, acall, Sx, reads, pureOp, atV, n0, Hx, aadd, own]) (fun j hj => by have hj := List.mem_singleton.1 hj; subst hj; simp only [List.mem_singleton]; omega) rfl (fun j _ => Nat.lt_or_ge _ _))); (focus (cases e1; cases e2; exact meets_right (l := [h1.next]) rfl (by simp (config := {decide := true}) only [awant, ayield_get, oper1, aop, opv, opvs, opvo, opvp, abuiltin, aun, Gx, if_true, if_false, and_true, decide_true, decide_false, abin, isShift, aint, roV, pair, bind, Option.bind, acall, Sx, reads, pureOp, atV, n0, Hx, aadd, own]) (fun j hj => by have hj := List.mem_singleton.1 hj; subst hj; simp only [List.mem_singleton]; omega) rfl (fun j _ => Nat.lt_or_ge _ _))))
      refine Wc.ret ?_
      refine done_c3 (v := .agg ⟨zeroL⟩) (x := .int .i64 (p : Nat)) (y := .int .i64 4) (.inr rfl) (by simp (config := {decide := true}) only [Gx, if_true, if_false, and_true, Sx, d0]) rfl (show _ = Value.pointer (some (own g.next)) by simp (config := {decide := true}) only [Gx, if_true, if_false, and_true, Sx, n0]) (by rw [qld25, ld rfl rfl]) (by simp (config := {decide := true}) only [Gx, if_true, if_false, and_true, Sx, n0]) (by simp (config := {decide := true}) only [Gx, if_true, if_false, and_true, Sx, n0]) ⟨Mod.low f ((M6.trans (m7.sub fun j hj => by omega)).trans (m8.sub fun j hj => by omega)) (fun j hj => .inr hj), ?_⟩
      simp only [if_pos hlt]
      rfl
    · have e9 : decide ((p : Int) < (bs.length : Int)) = false := by simp; omega
      have s8 := st (h := h6) hl4 hl1 b26
      have lt7 := M6.fit.lt b26
      have m8 := (Mod.refl (M := fun j => j = g.next) M6.fit).setl (B := .cells l 25 none) rfl rfl lt7
      repeat' (first
    | (with_reducible apply Wc.seq)
    | (apply Wc.opsN n1; (focus ((repeat' (first
      | with_reducible exact RO.nil
      | ((with_reducible apply RO.run (awant_none rfl)); (focus ((first | simp (config := {decide := true}) only [awant, ayield_get, oper1, aop, opv, opvs, opvo, opvp, abuiltin, aun, Gx, if_true, if_false, and_true, decide_true, decide_false, abin, isShift, aint, roV, pair, bind, Option.bind, acall, Sx, n0, q0, qtz25, hh1, ln, e1, bu, qtz91, hh2, s5, c4', hh5, s6, Qx, Hx, f1, f4, e9, l6, s8] | skip); with_reducible rfl)))
      | ((with_reducible apply RO.runG); (focus rfl); (focus rfl); (focus (simp (config := {decide := true}) only [Gx, if_true, if_false, and_true, Sx, decide_true, decide_false, n0, q0, qtz25, hh1, ln, e1, bu, qtz91, hh2, s5, c4', hh5, s6, Qx, Hx, f1, f4, e9, l6, s8]; done)); (focus ((first | simp (config := {decide := true}) only [awant, ayield_get, oper1, aop, opv, opvs, opvo, opvp, abuiltin, aun, Gx, if_true, if_false, and_true, decide_true, decide_false, abin, isShift, aint, roV, pair, bind, Option.bind, acall, Sx, n0, q0, qtz25, hh1, ln, e1, bu, qtz91, hh2, s5, c4', hh5, s6, Qx, Hx, f1, f4, e9, l6, s8] | skip); with_reducible rfl)))
      | ((with_reducible apply RO.skipG); (focus rfl); (focus rfl); (focus (simp (config := {decide := true}) only [Gx, if_true, if_false, and_true, Sx, decide_true, decide_false, n0, q0, qtz25, hh1, ln, e1, bu, qtz91, hh2, s5, c4', hh5, s6, Qx, Hx, f1, f4, e9, l6, s8]; done))))); done)))
    | (refine Wc.quiet (by kernel_rfl) (by repeat' (first
      | with_reducible exact QO.nil
      | ((with_reducible apply QO.cons rfl rfl); (focus ((first | simp (config := {decide := true}) only [awant, ayield_get, oper1, aop, opv, opvs, opvo, opvp, abuiltin, aun, Gx, if_true, if_false, and_true, decide_true, decide_false, abin, isShift, aint, roV, pair, bind, Option.bind, acall, Sx, n0, q0, qtz25, hh1, ln, e1, bu, qtz91, hh2, s5, c4', hh5, s6, Qx, Hx, f1, f4, e9, l6, s8] | skip); with_reducible rfl))))) ?_)
    | (refine Wc.cond2 (by simp (config := {decide := true}) only [opv, Gx, if_true, if_false, and_true, decide_true, decide_false, Sx, n0, q0, qtz25, hh1, ln, e1, bu, qtz91, hh2, s5, c4', hh5, s6, Qx, Hx, f1, f4, e9, l6, s8]; try with_reducible rfl) (fun hb => ?_) (fun hb => ?_) <;> try contradiction)
    | refine Wc.skip ?_
    | refine Wc.ret ?_
    | refine Wc.exit ?_
    | refine Wc.block ?_)
      refine done_c3 (v := .agg ⟨l⟩) (x := .int .i64 0) (y := .int .i64 0) (.inr rfl) (by simp (config := {decide := true}) only [Gx, if_true, if_false, and_true, Sx, d0]) rfl (show _ = Value.pointer (some (own g.next)) by simp (config := {decide := true}) only [Gx, if_true, if_false, and_true, Sx, n0]) (by rw [qld25, ld hl4 hl1]) (by simp (config := {decide := true}) only [Gx, if_true, if_false, and_true, Sx, n0]) (by simp (config := {decide := true}) only [Gx, if_true, if_false, and_true, Sx, n0]) ⟨Mod.low f (M6.trans (m8.sub fun j hj => by omega)) (fun j hj => .inr hj), ?_⟩
      simp only [if_neg hlt]
      refine ⟨l, rfl, rep_grow (fun j B hj => ?_) hrt⟩
      obtain ⟨e1, ys, ty, r, o, rfl, e2⟩ := (only_blk m4.fit).1 hj
      refine m8.blk _ _ (fun e => ?_) (t6.grows _ _ e1)
      subst e
      have := t6.grows _ _ e1
      rw [b26] at this
      cases this

theorem rsplit19 (hI : ∀ f args h, (f = 19 ∨ f = 57 ∨ f = 92 ∨ f = 91 ∨ f = 52) → I f args h = none) {g : H} {v : Value} {bs : List UInt8} (f : Fit g) (hB : ∀ h, Byt E h v bs) (hl : bs.length ≤ 1000000) :
    ∃ n x g', (ev tab E I n).call 19 [v] g = some (x, g') ∧ (Mod (fun _ => False) g g' ∧ SplQ E (splR bs) x g') := by
  obtain ⟨hv1, hv2, ln, hix⟩ := bytE (E := E) hB
  refine Wc.call (hI _ _ _ (.inl rfl)) fn19 rfl ?_
  generalize hA0 : (⟨T.ofList [v] 0 .nil, max ([v] : List Value).length Tryd.f19.ntmps, []⟩ : Ac) = A0
  have n0 : A0.n = 30 := by rw [← hA0]; rfl
  have q0 : A0.get 0 = v := by rw [← hA0]; rfl
  have d0 : A0.defers = [] := by rw [← hA0]
  clear hA0
  unfold splR
  by_cases hlong : 65536 < bs.length
  · have e1 : decide ((bs.length : Int) > 65536) = true := by simp; omega
    repeat' (first
    | (with_reducible apply Wc.seq)
    | (apply Wc.ops; (focus ((repeat' (first
      | with_reducible exact RO.nil
      | ((with_reducible apply RO.run (awant_none rfl)); (focus ((first | simp (config := {decide := true}) only [awant, ayield_get, oper1, aop, opv, opvs, opvo, opvp, abuiltin, aun, Gx, if_true, if_false, and_true, decide_true, decide_false, abin, isShift, aint, roV, pair, bind, Option.bind, acall, Sx, n0, q0, ln, e1] | skip); with_reducible rfl))))); done)))
    | (refine Wc.cond2 (by simp (config := {decide := true}) only [opv, Gx, if_true, if_false, and_true, decide_true, decide_false, Sx, n0, q0, ln, e1]; try with_reducible rfl) (fun hb => ?_) (fun hb => ?_) <;> try contradiction)
    | refine Wc.skip ?_
    | refine Wc.ret ?_
    | refine Wc.exit ?_
    | refine Wc.block ?_)
    rw [if_pos hlong]
    exact done_tmp3q (v := .slice none 0 0) (x := .int .i64 0) (y := .int .i64 11) (.inr rfl) (by simp (config := {decide := true}) only [Gx, if_true, if_false, and_true, Sx, d0]) rfl (by simp (config := {decide := true}) only [Gx, if_true, if_false, and_true, Sx, n0]) (by simp (config := {decide := true}) only [Gx, if_true, if_false, and_true, Sx, n0]) (by simp (config := {decide := true}) only [Gx, if_true, if_false, and_true, Sx, n0]) ⟨Mod.refl f, rfl⟩
  have e1 : decide ((bs.length : Int) > 65536) = false := by simp; omega
  rw [if_neg hlong]
  have bu := qbu91 v hv1
  generalize hh1 : g.new (.cells (Value.agg #[.slice none 0 0, .int .i64 0, .int .i64 0, .int .i64 0, .int .i64 0]).cells.toList 91 none) = h1
  have t1 : Ahd g h1 := by rw [← hh1]; exact Ahd.new0 f rfl
  have b5 : h1.blk g.next = some (.cells [.slice none 0 0, .int .i64 0, .int .i64 0, .int .i64 0, .int .i64 0] 91 none) := by rw [← hh1]; exact new_blk_new rfl
  have ho5 : [v, .int .i64 0, .int .i64 0, .int .i64 0, .int .i64 0].all isOne = true := by rw [List.all_cons, hv2]; rfl
  have s5 : astore tab 91 (own g.next) (.agg ⟨[v, .int .i64 0, .int .i64 0, .int .i64 0, .int .i64 0]⟩) h1 = some (h1.setl g.next (.cells [v, .int .i64 0, .int .i64 0, .int .i64 0, .int .i64 0] 91 none)) := astore_all qty91 b5 rfl rfl ho5 (by simp)
  have t2 : Ahd g (h1.setl g.next (.cells [v, .int .i64 0, .int .i64 0, .int .i64 0, .int .i64 0] 91 none)) := t1.setl rfl (Nat.le_refl _) (t1.fit.lt b5) f
  have b5 : Ref g.next v 0 0 0 0 (h1.setl g.next (.cells [v, .int .i64 0, .int .i64 0, .int .i64 0, .int .i64 0] 91 none)) := setl_same rfl
  generalize h1.setl g.next (.cells [v, .int .i64 0, .int .i64 0, .int .i64 0, .int .i64 0] 91 none) = h2 at s5 t2 b5
  have rok := rdItem_ok bs 250
  have key : ∀ (r p it : Nat) (acc : List Hs.Item) (sl : Value) (A0 : Ac) (h : H), bs.length - p ≤ r → p ≤ bs.length → acc.length ≤ p → A0.n = 30 → A0.defers = [] → A0.get 0 = v → A0.get 5 = .pointer (some (own g.next)) → A0.get 6 = sl →
      Mod (fun j => g.next ≤ j) g h → Ref g.next v p it 0 0 h → Kol E 25 g.next h.next h sl acc → splL bs bs.length 0 [] = splL bs r p acc →
      Wc tab E I ⟨19, none⟩ (.loop loop19) A0 h (fun ex A' h' => A'.n = 30 ∧ A'.defers = [] ∧ Mod (fun j => g.next ≤ j) g h' ∧ ((ex = .exit 0 ∧ ∃ l p it sl, A'.get 6 = sl ∧ splL bs bs.length 0 [] = .ok l p it ∧ l.length ≤ bs.length ∧ Kol E 25 g.next h'.next h' sl l) ∨ (ex = .ret ∧ SplQ E (splL bs bs.length 0 []) (.tuple #[A'.get 2, A'.get 3, A'.get 4]) h'))) := by
    intro r
    induction r with
    | zero =>
      intro p it acc sl A0 h hr hp hacc n0 d0 q0 q5 q6 M b K he
      have e1 : decide ((p : Int) < (bs.length : Int)) = false := by simp; omega
      obtain ⟨_, c1, _, _, _⟩ := b.at (E := E) hv2
      apply Wc.loop
      simp only [loop19, loopOf, firstLoop, Option.getD, Tryd.f19]
      repeat' (first
    | (with_reducible apply Wc.seq)
    | (apply Wc.ops; (focus ((repeat' (first
      | with_reducible exact RO.nil
      | ((with_reducible apply RO.run (awant_none rfl)); (focus ((first | simp (config := {decide := true}) only [awant, ayield_get, oper1, aop, opv, opvs, opvo, opvp, abuiltin, aun, Gx, if_true, if_false, and_true, decide_true, decide_false, abin, isShift, aint, roV, pair, bind, Option.bind, acall, Sx, n0, q0, q5, Qx, Hx, c1, ln, e1] | skip); with_reducible rfl))))); done)))
    | (refine Wc.cond2 (by simp (config := {decide := true}) only [opv, Gx, if_true, if_false, and_true, decide_true, decide_false, Sx, n0, q0, q5, Qx, Hx, c1, ln, e1]; try with_reducible rfl) (fun hb => ?_) (fun hb => ?_) <;> try contradiction)
    | refine Wc.skip ?_
    | refine Wc.ret ?_
    | refine Wc.exit ?_
    | refine Wc.block ?_)
      exact ⟨by simp (config := {decide := true}) only [Gx, if_true, if_false, and_true, Sx, n0], by simp (config := {decide := true}) only [Gx, if_true, if_false, and_true, Sx, d0], M, .inl ⟨rfl, acc, p, 0, sl, by simp (config := {decide := true}) only [Gx, if_true, if_false, and_true, Sx, n0, q6], by rw [he, splL], by omega, K⟩⟩
    | succ r ih =>
      intro p it acc sl A0 h hr hp hacc n0 d0 q0 q5 q6 M b K he
      obtain ⟨_, c1, _, _, _⟩ := b.at (E := E) hv2
      apply Wc.loop
      simp only [loop19, loopOf, firstLoop, Option.getD, Tryd.f19]
      by_cases hlt : p < bs.length
      rotate_left
      · have e1 : decide ((p : Int) < (bs.length : Int)) = false := by simp; omega
        rw [splL, if_neg hlt] at he
        repeat' (first
    | (with_reducible apply Wc.seq)
    | (apply Wc.ops; (focus ((repeat' (first
      | with_reducible exact RO.nil
      | ((with_reducible apply RO.run (awant_none rfl)); (focus ((first | simp (config := {decide := true}) only [awant, ayield_get, oper1, aop, opv, opvs, opvo, opvp, abuiltin, aun, Gx, if_true, if_false, and_true, decide_true, decide_false, abin, isShift, aint, roV, pair, bind, Option.bind, acall, Sx, n0, q0, q5, Qx, Hx, c1, ln, e1] | skip); with_reducible rfl))))); done)))
    | (refine Wc.cond2 (by simp (config := {decide := true}) only [opv, Gx, if_true, if_false, and_true, decide_true, decide_false, Sx, n0, q0, q5, Qx, Hx, c1, ln, e1]; try with_reducible rfl) (fun hb => ?_) (fun hb => ?_) <;> try contradiction)
    | refine Wc.skip ?_
    | refine Wc.ret ?_
    | refine Wc.exit ?_
    | refine Wc.block ?_)
        exact ⟨by simp (config := {decide := true}) only [Gx, if_true, if_false, and_true, Sx, n0], by simp (config := {decide := true}) only [Gx, if_true, if_false, and_true, Sx, d0], M, .inl ⟨rfl, acc, p, 0, sl, by simp (config := {decide := true}) only [Gx, if_true, if_false, and_true, Sx, n0, q6], he, by omega, K⟩⟩
      rw [splL, if_pos hlt] at he
      have e1 : decide ((p : Int) < (bs.length : Int)) = true := by simp; omega
      have fh := M.fit
      have lgn := fh.lt b
      have nM := M.next
      obtain ⟨h3, s3, b3, m3⟩ := b.set fh qty3 rfl 2 (0 : Nat) (by decide) rfl (pos' := p) (items' := 0) (w' := 0) (e' := 0)
      have s3' : astore tab 3 (aadd (own g.next) 2) (.int .i64 0) h = some h3 := s3
      have hpl : ∀ {h : H} {p it : Nat} {w e : Int}, Ref g.next v p it w e h → ∀ j B, j = g.next → h.blk j = some B → B.plain = true := fun b j B hj hB => by
        subst hj
        rw [show _ = _ from b] at hB; cases hB; rfl
      have K3 := K.mod fh m3 (hpl b)
      have n3 := m3.next
      obtain ⟨nf, v1, h4, c4, l, rfl, hl4, hl1, m4, hq⟩ := ritem57 (E := E) (I := I) (fun f args h hf => hI f args h (.inr hf)) hB hl 250 (Nat.le_refl _) h3 p 0 0 m3.fit b3 (by omega) (by decide)
      have c4' : (ev tab E I nf).call 57 [.pointer (some (own g.next)), .int .i64 1] h3 = some (.agg ⟨l⟩, h4) := c4
      have K4 := K3.mod m3.fit m4 (hpl b3)
      have n4 := m4.next
      have M4 : Mod (fun j => g.next ≤ j) g h4 := (M.trans (m3.sub fun j hj => by omega)).trans (m4.sub fun j hj => by omega)
      obtain ⟨va, vb, vc, vd, rfl⟩ := four_of hl4
      generalize hZ : (Blk.cells [va, vb, vc, vd] 25 none) = Z
      have hbs := qbs23 hl1 (h := h4)
      rw [hZ] at hbs
      generalize hh8 : h4.new Z = h8 at hbs
      have t8 : Ahd h4 h8 := by rw [← hh8, ← hZ]; exact Ahd.new0 m4.fit rfl
      have bz : h8.blk h4.next = some (.cells [va, vb, vc, vd] 25 none) := by rw [← hh8, ← hZ]; exact new_blk_new rfl
      have K8 := K4.mod m4.fit (t8.mod (M := fun _ => False)) (fun _ _ h => h.elim)
      have M8 := M4.ahd t8
      have n8 := t8.next
      have hrm : roomy (acc.length + 1) 56 = true := by
        unfold roomy
        simp only [Bool.and_eq_true, Nat.ble_eq]; omega
      generalize hri : rdItem bs 250 p 0 = ri at hq he
      cases ri with
      | bad p' e =>
        obtain ⟨pos', it', bb⟩ := hq
        have hne : e ≠ 0 := by rcases (rok.2 _ _ _ _ hri hp).1 with rfl | rfl | rfl | rfl <;> decide
        have e9 : decide (e = 0) = false := decide_eq_false hne
        obtain ⟨sl', h9, happ, RM, AP, n9, hsl', _⟩ := kol_room (D := tab) (E := E) (t := 23) (t2 := 23) (by_ := 56) (kx := h4.next) (c := 1) (lo := h8.next) t8.fit M8.next K8 (by omega) qty23 qtz25 rfl (qza23 _ _ _) (blk_cells bz rfl hl1) rfl hl1 hrm
        have M9 := AP.mod f (Nat.le_refl _) M8
        have b9 : Ref g.next v pos' it' p' e h9 := AP.keep (t8.grows _ _ bb)
        obtain ⟨_, _, _, f3, f4⟩ := b9.at (E := E) hv2
        repeat' (first
    | (with_reducible apply Wc.seq)
    | (apply Wc.opsN nf; (focus ((repeat' (first
      | with_reducible exact RO.nil
      | ((with_reducible apply RO.run (awant_none rfl)); (focus ((first | simp (config := {decide := true}) only [awant, ayield_get, oper1, aop, opv, opvs, opvo, opvp, abuiltin, aun, Gx, if_true, if_false, and_true, decide_true, decide_false, abin, isShift, aint, roV, pair, bind, Option.bind, acall, Sx, n0, q0, q5, q6, Qx, Hx, c1, ln, e1, s3', c4', hbs, happ, f4, e9] | skip); with_reducible rfl))))); done)))
    | (refine Wc.cond2 (by simp (config := {decide := true}) only [opv, Gx, if_true, if_false, and_true, decide_true, decide_false, Sx, n0, q0, q5, q6, Qx, Hx, c1, ln, e1, s3', c4', hbs, happ, f4, e9]; try with_reducible rfl) (fun hb => ?_) (fun hb => ?_) <;> try contradiction)
    | refine Wc.skip ?_
    | refine Wc.ret ?_
    | refine Wc.exit ?_
    | refine Wc.block ?_)
        refine Wc.drawC 1 (by kernel_rfl) ?_
        (iterate 7 (first
      | ((apply FC.pure rfl rfl); (focus ((first | simp (config := {decide := true}) only [awant, ayield_get, oper1, aop, opv, opvs, opvo, opvp, abuiltin, aun, Gx, if_true, if_false, and_true, decide_true, decide_false, abin, isShift, aint, roV, pair, bind, Option.bind, acall, Sx, n0, q5, Qx, Hx, f3, f4] | skip); with_reducible rfl)))
      | ((apply FC.new rfl rfl); (focus ((first | simp (config := {decide := true}) only [awant, ayield_get, oper1, aop, opv, opvs, opvo, opvp, abuiltin, aun, Gx, if_true, if_false, and_true, decide_true, decide_false, abin, isShift, aint, roV, pair, bind, Option.bind, acall, Sx, n0, q5, Qx, Hx, f3, f4] | skip); with_reducible rfl)))))
        refine FC.nil ?_
        refine Wc.ret ?_
        refine ⟨by simp (config := {decide := true}) only [Gx, if_true, if_false, and_true, Sx, n0], by simp (config := {decide := true}) only [Gx, if_true, if_false, and_true, Sx, d0], M9, .inr ⟨rfl, ?_⟩⟩
        rw [he]
        show Value.tuple #[_, _, _] = _
        simp (config := {decide := true}) only [Gx, if_true, if_false, and_true, Sx, n0]
      | ok t p' it' =>
        obtain ⟨bb, hrt⟩ := hq
        obtain ⟨o1, o2, o3, o4, o5, o6⟩ := rok.1 _ _ _ _ _ hri
        have R8 := rep_grow (only_ahd (q := fun r => Nat.ble h3.next r) m4.fit t8 (fun _ h => h)) hrt
        obtain ⟨sl', h9, happ, K9, AP, n9⟩ := kol_step (D := tab) (E := E) (t := 23) (t2 := 23) (by_ := 56) (kx := h4.next) (c := 1) (lo := h3.next) t8.fit M8.next K8 n3 (by omega) qty23 qtz25 rfl (qza23 _ _ _) R8 (blk_cells bz rfl hl1) hl1 hrm
        have M9 := AP.mod f (Nat.le_refl _) M8
        have b9 : Ref g.next v p' it' 0 0 h9 := AP.keep (t8.grows _ _ bb)
        obtain ⟨_, _, _, f3, f4⟩ := b9.at (E := E) hv2
        repeat' (first
    | (with_reducible apply Wc.seq)
    | (apply Wc.opsN nf; (focus ((repeat' (first
      | with_reducible exact RO.nil
      | ((with_reducible apply RO.run (awant_none rfl)); (focus ((first | simp (config := {decide := true}) only [awant, ayield_get, oper1, aop, opv, opvs, opvo, opvp, abuiltin, aun, Gx, if_true, if_false, and_true, decide_true, decide_false, abin, isShift, aint, roV, pair, bind, Option.bind, acall, Sx, n0, q0, q5, q6, Qx, Hx, c1, ln, e1, s3', c4', hbs, happ, f4] | skip); with_reducible rfl))))); done)))
    | (refine Wc.cond2 (by simp (config := {decide := true}) only [opv, Gx, if_true, if_false, and_true, decide_true, decide_false, Sx, n0, q0, q5, q6, Qx, Hx, c1, ln, e1, s3', c4', hbs, happ, f4]; try with_reducible rfl) (fun hb => ?_) (fun hb => ?_) <;> try contradiction)
    | refine Wc.skip ?_
    | refine Wc.ret ?_
    | refine Wc.exit ?_
    | refine Wc.block ?_)
        refine (ih p' it' (acc ++ [t]) sl' _ h9 (by omega) o2 (by rw [List.length_append, List.length_singleton]; omega) ?_ ?_ ?_ ?_ ?_ M9 b9 K9 he)
        · simp (config := {decide := true}) only [Gx, if_true, if_false, and_true, Sx, n0]
        · simp (config := {decide := true}) only [Gx, if_true, if_false, and_true, Sx, d0]
        · simp (config := {decide := true}) only [Gx, if_true, if_false, and_true, Sx, n0, q0]
        · simp (config := {decide := true}) only [Gx, if_true, if_false, and_true, Sx, n0, q5]
        · simp (config := {decide := true}) only [Gx, if_true, if_false, and_true, Sx, n0]
  repeat' (first
    | (with_reducible apply Wc.seq)
    | (apply Wc.ops; (focus ((repeat' (first
      | with_reducible exact RO.nil
      | ((with_reducible apply RO.run (awant_none rfl)); (focus ((first | simp (config := {decide := true}) only [awant, ayield_get, oper1, aop, opv, opvs, opvo, opvp, abuiltin, aun, Gx, if_true, if_false, and_true, decide_true, decide_false, abin, isShift, aint, roV, pair, bind, Option.bind, acall, Sx, n0, q0, ln, e1, bu, qtz91, hh1, s5] | skip); with_reducible rfl))))); done)))
    | (refine Wc.cond2 (by simp (config := {decide := true}) only [opv, Gx, if_true, if_false, and_true, decide_true, decide_false, Sx, n0, q0, ln, e1, bu, qtz91, hh1, s5]; try with_reducible rfl) (fun hb => ?_) (fun hb => ?_) <;> try contradiction)
    | refine Wc.skip ?_
    | refine Wc.ret ?_
    | refine Wc.exit ?_
    | refine Wc.block ?_)
  refine (key bs.length 0 0 [] (.slice none 0 0) _ h2 (by omega) (Nat.zero_le _) (Nat.zero_le _) ?_ ?_ ?_ ?_ ?_ (t2.mod) b5 (Kol.nil _ _ _) rfl).mono ?_
  · simp (config := {decide := true}) only [Gx, if_true, if_false, and_true, Sx, n0]
  · simp (config := {decide := true}) only [Gx, if_true, if_false, and_true, Sx, d0]
  · simp (config := {decide := true}) only [Gx, if_true, if_false, and_true, Sx, n0, q0]
  · simp (config := {decide := true}) only [Gx, if_true, if_false, and_true, Sx, n0]
  · simp (config := {decide := true}) only [Gx, if_true, if_false, and_true, Sx, n0]
  · rintro ex A0 h ⟨n0, d0, M, ⟨rfl, l, p, it, sl, q6, he, hll, K⟩ | ⟨rfl, hq⟩⟩
    · simp only [if_true]
      repeat' (first
    | (with_reducible apply Wc.seq)
    | (apply Wc.ops; (focus ((repeat' (first
      | with_reducible exact RO.nil
      | ((with_reducible apply RO.run (awant_none rfl)); (focus ((first | simp (config := {decide := true}) only [awant, ayield_get, oper1, aop, opv, opvs, opvo, opvp, abuiltin, aun, Gx, if_true, if_false, and_true, decide_true, decide_false, abin, isShift, aint, roV, pair, bind, Option.bind, acall, Sx, n0, q6] | skip); with_reducible rfl))))); done)))
    | (refine Wc.cond2 (by simp (config := {decide := true}) only [opv, Gx, if_true, if_false, and_true, decide_true, decide_false, Sx, n0, q6]; try with_reducible rfl) (fun hb => ?_) (fun hb => ?_) <;> try contradiction)
    | refine Wc.skip ?_
    | refine Wc.ret ?_
    | refine Wc.exit ?_
    | refine Wc.block ?_)
      refine done_tmp3q (v := sl) (x := .int .i64 0) (y := .int .i64 0) (.inr rfl) (by simp (config := {decide := true}) only [Gx, if_true, if_false, and_true, Sx, d0]) rfl (by simp (config := {decide := true}) only [Gx, if_true, if_false, and_true, Sx, n0]) (by simp (config := {decide := true}) only [Gx, if_true, if_false, and_true, Sx, n0]) (by simp (config := {decide := true}) only [Gx, if_true, if_false, and_true, Sx, n0]) ⟨Mod.low f M (fun j hj => .inr hj), ?_⟩
      rw [he]
      exact ⟨sl, rfl, rep_grow (only_grows M.fit) (K.rep M.fit (by omega) 0 0 ⟨#[]⟩ (Nat.le_refl _))⟩
    · exact done_tmp3q (.inr rfl) d0 rfl rfl rfl rfl ⟨Mod.low f M (fun j hj => .inr hj), hq⟩
end Go.Proofs.YtofijpbmbmbnhaaDoor
/- Bytes cloned and compared; lists of items compared. -/
set_option maxRecDepth 100000
set_option maxHeartbeats 16000000
namespace Go.Proofs.YtofijpbmbmbnhaaDoor
open Go Go.Hs Go.Proofs
variable {E : Env} {I : Known}

theorem fn15 : tab.fn.get 15 = some Tryd.f15 := by kernel_rfl
theorem fn20 : tab.fn.get 20 = some Tryd.f20 := by kernel_rfl
theorem fn21 : tab.fn.get 21 = some Tryd.f21 := by kernel_rfl
theorem fn22 : tab.fn.get 22 = some Tryd.f22 := by kernel_rfl
noncomputable def loop20 : Code := loopOf Tryd.f20
theorem qan31 (b : Option Addr) (n c : Nat) : anil tab 31 (.slice b n c) (.slice none 0 0) = some b.isNone := by
  unfold anil
  rw [qty31]
  cases b <;> rfl
theorem qbs31_0 {h : H} : abuildSlice tab 31 0 [] h = some (.slice (some (own h.next)) 0 0, h.new (.cells [] 5 none)) := by
  unfold abuildSlice
  simp only [qty31, qtz5]
  rfl

theorem clone15 (hI : ∀ args h, I 15 args h = none) {g : H} {v : Value} {bs : List UInt8} (f : Fit g) (hb : Byt E g v bs) (hl : bs.length ≤ 1000000) :
    ∃ n x g', (ev tab E I n).call 15 [v] g = some (x, g') ∧ (Ahd g g' ∧ Byt E g' x bs) := by
  rcases hb with ⟨rfl, rfl⟩ | ⟨a, c, rfl, hc, hcs⟩
  · refine Wc.call (hI _ _) fn15 rfl ?_
    generalize hA0 : (⟨T.ofList [.slice none 0 0] 0 .nil, max ([.slice none 0 0] : List Value).length Tryd.f15.ntmps, []⟩ : Ac) = A0
    have n0 : A0.n = 8 := by rw [← hA0]; rfl
    have q0 : A0.get 0 = .slice none 0 0 := by rw [← hA0]; rfl
    have d0 : A0.defers = [] := by rw [← hA0]
    clear hA0
    repeat' (first
    | (with_reducible apply Wc.seq)
    | (apply Wc.ops; (focus ((repeat' (first
      | with_reducible exact RO.nil
      | ((with_reducible apply RO.run (awant_none rfl)); (focus ((first | simp (config := {decide := true}) only [awant, ayield_get, oper1, aop, opv, opvs, opvo, opvp, abuiltin, aun, Gx, if_true, if_false, and_true, decide_true, decide_false, abin, isShift, aint, roV, pair, bind, Option.bind, acall, Sx, n0, q0, qan31, Option.isNone] | skip); with_reducible rfl))))); done)))
    | (refine Wc.cond2 (by simp (config := {decide := true}) only [opv, Gx, if_true, if_false, and_true, decide_true, decide_false, Sx, n0, q0, qan31, Option.isNone]; try with_reducible rfl) (fun hb => ?_) (fun hb => ?_) <;> try contradiction)
    | refine Wc.skip ?_
    | refine Wc.ret ?_
    | refine Wc.exit ?_
    | refine Wc.block ?_)
    exact done_q (v := .slice none 0 0) (.inr rfl) (by simp (config := {decide := true}) only [Gx, if_true, if_false, and_true, Sx, d0]) rfl (by simp (config := {decide := true}) only [Gx, if_true, if_false, and_true, Sx, n0]) ⟨Ahd.refl f, .inl ⟨rfl, rfl⟩⟩
  · refine Wc.call (hI _ _) fn15 rfl ?_
    generalize hA0 : (⟨T.ofList [.slice (some a) bs.length c] 0 .nil, max ([.slice (some a) bs.length c] : List Value).length Tryd.f15.ntmps, []⟩ : Ac) = A0
    have n0 : A0.n = 8 := by rw [← hA0]; rfl
    have q0 : A0.get 0 = .slice (some a) bs.length c := by rw [← hA0]; rfl
    have d0 : A0.defers = [] := by rw [← hA0]
    clear hA0
    obtain ⟨s, h', happ, hcl⟩ := clone_step (D := tab) (E := E) (t := 31) (e := 5) (sz := 1) (by_ := 1) (n := bs.length) (c := c) (a := a) (cs := bytesV bs) f qty31 qtz5 rfl (by rw [Nat.mul_one]; exact hcs) (by rw [Nat.mul_one]; exact bytesV_length bs) (by
      unfold roomy
      simp only [Bool.and_eq_true, Nat.ble_eq]; omega)
    obtain ⟨k, rt, rfl, hk, _, _⟩ := hcl.get
    repeat' (first
    | (with_reducible apply Wc.seq)
    | (apply Wc.ops; (focus ((repeat' (first
      | with_reducible exact RO.nil
      | ((with_reducible apply RO.run (awant_none rfl)); (focus ((first | simp (config := {decide := true}) only [awant, ayield_get, oper1, aop, opv, opvs, opvo, opvp, abuiltin, aun, Gx, if_true, if_false, and_true, decide_true, decide_false, abin, isShift, aint, roV, pair, bind, Option.bind, acall, Sx, n0, q0, qan31, Option.isNone, qbs31_0, happ] | skip); with_reducible rfl))))); done)))
    | (refine Wc.cond2 (by simp (config := {decide := true}) only [opv, Gx, if_true, if_false, and_true, decide_true, decide_false, Sx, n0, q0, qan31, Option.isNone, qbs31_0, happ]; try with_reducible rfl) (fun hb => ?_) (fun hb => ?_) <;> try contradiction)
    | refine Wc.skip ?_
    | refine Wc.ret ?_
    | refine Wc.exit ?_
    | refine Wc.block ?_)
    exact done_q (v := .slice (some (own k)) bs.length bs.length) (.inr rfl) (by simp (config := {decide := true}) only [Gx, if_true, if_false, and_true, Sx, d0]) rfl (by simp (config := {decide := true}) only [Gx, if_true, if_false, and_true, Sx, n0]) ⟨hcl.ahd, .inr ⟨own k, bs.length, rfl, Nat.le_refl _, blk_cells hk (bytesV_length bs) (bytesV_one bs)⟩⟩

theorem equal22 (hI : ∀ args h, I 22 args h = none) {g : H} {v u : Value} {bs : List UInt8} (hb : Byt E g v bs) (hb' : Byt E g u bs) :
    ∃ n, (ev tab E I n).call 22 [v, u] g = some (.bool true, g) := by
  suffices hw : ∃ n x g', (ev tab E I n).call 22 [v, u] g = some (x, g') ∧ (x = .bool true ∧ g' = g) by
    obtain ⟨n, x, g', h1, rfl, rfl⟩ := hw
    exact ⟨n, h1⟩
  refine Wc.call (hI _ _) fn22 rfl ?_
  generalize hA0 : (⟨T.ofList [v, u] 0 .nil, max ([v, u] : List Value).length Tryd.f22.ntmps, []⟩ : Ac) = A0
  have n0 : A0.n = 10 := by rw [← hA0]; rfl
  have q0 : A0.get 0 = v := by rw [← hA0]; rfl
  have q1 : A0.get 1 = u := by rw [← hA0]; rfl
  have d0 : A0.defers = [] := by rw [← hA0]
  clear hA0
  have c1 := qcv31_9 hb
  have c2 := qcv31_9 hb'
  repeat' (first
    | (with_reducible apply Wc.seq)
    | (apply Wc.ops; (focus ((repeat' (first
      | with_reducible exact RO.nil
      | ((with_reducible apply RO.run (awant_none rfl)); (focus ((first | simp (config := {decide := true}) only [awant, ayield_get, oper1, aop, opv, opvs, opvo, opvp, abuiltin, aun, Gx, if_true, if_false, and_true, decide_true, decide_false, abin, isShift, aint, roV, pair, bind, Option.bind, acall, Sx, n0, q0, q1, c1, c2, astr, beq_self_eq_true] | skip); with_reducible rfl))))); done)))
    | (refine Wc.cond2 (by simp (config := {decide := true}) only [opv, Gx, if_true, if_false, and_true, decide_true, decide_false, Sx, n0, q0, q1, c1, c2, astr, beq_self_eq_true]; try with_reducible rfl) (fun hb => ?_) (fun hb => ?_) <;> try contradiction)
    | refine Wc.skip ?_
    | refine Wc.ret ?_
    | refine Wc.exit ?_
    | refine Wc.block ?_)
  exact done_q (v := .bool true) (.inr rfl) (by simp (config := {decide := true}) only [Gx, if_true, if_false, and_true, Sx, d0]) rfl (by simp (config := {decide := true}) only [Gx, if_true, if_false, and_true, Sx, n0]) ⟨rfl, rfl⟩

/-- What is known of comparing items. -/
def Alk (E : Env) (I : Known) : Prop := ∀ t xv yv h, rep E h t xv → rep E h t yv → lvlI t ≤ 400 → isz t ≤ 1000000 → I 14 [xv, yv, .int .i64 0] h = some (some (.bool true, h))

theorem same21 (hI : ∀ args h, I 21 args h = none) (k14 : Alk E I) {g : H} {t : Hs.Item} {l m : List Value} (f : Fit g) (h1 : rep E g t (.agg ⟨l⟩)) (h2 : rep E g t (.agg ⟨m⟩)) (hl : lvlI t ≤ 400) (hz : isz t ≤ 1000000) :
    ∃ n x g', (ev tab E I n).call 21 [.agg ⟨l⟩, .agg ⟨m⟩] g = some (x, g') ∧ (x = .bool true ∧ Ahd g g') := by
  obtain ⟨l0, l1, l2, l3, rfl, ol⟩ := item_four h1
  obtain ⟨m0, m1, m2, m3, rfl, om⟩ := item_four h2
  refine Wc.call (hI _ _) fn21 rfl ?_
  generalize hA0 : (⟨T.ofList [.agg ⟨[l0, l1, l2, l3]⟩, .agg ⟨[m0, m1, m2, m3]⟩] 0 .nil, max ([.agg ⟨[l0, l1, l2, l3]⟩, .agg ⟨[m0, m1, m2, m3]⟩] : List Value).length Tryd.f21.ntmps, []⟩ : Ac) = A0
  have n0 : A0.n = 8 := by rw [← hA0]; rfl
  have q0 : A0.get 0 = .agg ⟨[l0, l1, l2, l3]⟩ := by rw [← hA0]; rfl
  have q1 : A0.get 1 = .agg ⟨[m0, m1, m2, m3]⟩ := by rw [← hA0]; rfl
  have d0 : A0.defers = [] := by rw [← hA0]
  clear hA0
  generalize hh1 : g.new (.cells (Value.agg ⟨[l0, l1, l2, l3]⟩).cells.toList 25 none) = g1
  have t1 : Ahd g g1 := by rw [← hh1]; exact Ahd.new0 f rfl
  have b1 : g1.blk g.next = some (.cells [l0, l1, l2, l3] 25 none) := by rw [← hh1]; exact new_blk_new rfl
  generalize hh2 : g1.new (.cells (Value.agg ⟨[m0, m1, m2, m3]⟩).cells.toList 25 none) = g2
  have t2 : Ahd g1 g2 := by rw [← hh2]; exact Ahd.new0 t1.fit rfl
  have b2 : g2.blk g1.next = some (.cells [m0, m1, m2, m3] 25 none) := by rw [← hh2]; exact new_blk_new rfl
  have x1 : g2.cells E (own g.next) 4 = some [l0, l1, l2, l3] := blk_cells (t2.grows _ _ b1) rfl ol
  have x2 : g2.cells E (own g1.next) 4 = some [m0, m1, m2, m3] := blk_cells b2 rfl om
  have t12 := t1.trans t2
  have c := ev_known (D := tab) (E := E) (k14 t _ _ g2 (rep_grow t12.grows h1) (rep_grow t12.grows h2) hl hz)
  repeat' (first
    | (with_reducible apply Wc.seq)
    | (apply Wc.opsN 1; (focus ((repeat' (first
      | with_reducible exact RO.nil
      | ((with_reducible apply RO.run (awant_none rfl)); (focus ((first | simp (config := {decide := true}) only [awant, ayield_get, oper1, aop, opv, opvs, opvo, opvp, abuiltin, aun, Gx, if_true, if_false, and_true, decide_true, decide_false, abin, isShift, aint, roV, pair, bind, Option.bind, acall, Sx, n0, q0, q1, hh1, hh2, Qx, Hx, x1, x2, c] | skip); with_reducible rfl))))); done)))
    | (refine Wc.cond2 (by simp (config := {decide := true}) only [opv, Gx, if_true, if_false, and_true, decide_true, decide_false, Sx, n0, q0, q1, hh1, hh2, Qx, Hx, x1, x2, c]; try with_reducible rfl) (fun hb => ?_) (fun hb => ?_) <;> try contradiction)
    | refine Wc.skip ?_
    | refine Wc.ret ?_
    | refine Wc.exit ?_
    | refine Wc.block ?_)
  exact done_q (v := .bool true) (.inr rfl) (by simp (config := {decide := true}) only [Gx, if_true, if_false, and_true, Sx, d0]) rfl (by simp (config := {decide := true}) only [Gx, if_true, if_false, and_true, Sx, n0]) ⟨rfl, t12⟩

theorem equal20 (hI : ∀ f args h, (f = 20 ∨ f = 21) → I f args h = none) (k14 : Alk E I) {g : H} {ks : List Hs.Item} {sl su : Value} (f : Fit g) (h1 : repK E g ks sl) (h2 : repK E g ks su) (hk : ∀ t ∈ ks, lvlI t ≤ 400 ∧ isz t ≤ 1000000) (hn : ks.length ≤ 1000000) :
    ∃ n x g', (ev tab E I n).call 20 [sl, su, fnV 21] g = some (x, g') ∧ (x = .bool true ∧ Ahd g g') := by
  obtain ⟨b, c, rfl, _, hs⟩ := repK_slice h1
  obtain ⟨b', c', rfl, _, hs'⟩ := repK_slice h2
  have key : ∀ (r i : Nat) (A0 : Ac) (h : H), r = ks.length - i → i ≤ ks.length → A0.n = 32 → A0.defers = [] → A0.get 1 = .slice b' ks.length c' → A0.get 2 = fnV 21 → A0.get 15 = .slice b ks.length c → A0.get 16 = .int .i64 (ks.length : Nat) → A0.get 17 = .int .i64 (i : Nat) → Ahd g h →
      Wc tab E I ⟨20, none⟩ (.loop loop20) A0 h (fun ex A' h' => ex = .exit 0 ∧ A'.n = 32 ∧ A'.defers = [] ∧ Ahd g h') := by
    intro r
    induction r with
    | zero =>
      intro i A0 h hr hi n0 d0 q1 q2 q15 q16 q17 M
      have e1 : decide ((i : Int) < (ks.length : Int)) = false := by simp; omega
      apply Wc.loop
      simp only [loop20, loopOf, firstLoop, Option.getD, Tryd.f20]
      repeat' (first
    | (with_reducible apply Wc.seq)
    | (apply Wc.ops; (focus ((repeat' (first
      | with_reducible exact RO.nil
      | ((with_reducible apply RO.run (awant_none rfl)); (focus ((first | simp (config := {decide := true}) only [awant, ayield_get, oper1, aop, opv, opvs, opvo, opvp, abuiltin, aun, Gx, if_true, if_false, and_true, decide_true, decide_false, abin, isShift, aint, roV, pair, bind, Option.bind, acall, Sx, n0, q16, q17, e1] | skip); with_reducible rfl))))); done)))
    | (refine Wc.cond2 (by simp (config := {decide := true}) only [opv, Gx, if_true, if_false, and_true, decide_true, decide_false, Sx, n0, q16, q17, e1]; try with_reducible rfl) (fun hb => ?_) (fun hb => ?_) <;> try contradiction)
    | refine Wc.skip ?_
    | refine Wc.ret ?_
    | refine Wc.exit ?_
    | refine Wc.block ?_)
      exact ⟨rfl, by simp (config := {decide := true}) only [Gx, if_true, if_false, and_true, Sx, n0], by simp (config := {decide := true}) only [Gx, if_true, if_false, and_true, Sx, d0], M⟩
    | succ r ih =>
      intro i A0 h hr hi n0 d0 q1 q2 q15 q16 q17 M
      have hil : i < ks.length := by omega
      have e1 : decide ((i : Int) < (ks.length : Int)) = true := by simp; omega
      rcases hs with hk0 | ⟨a, cs, rfl, hcs, hrl⟩
      · rw [hk0] at hil; simp at hil
      rcases hs' with hk0 | ⟨a', cs', rfl, hcs', hrl'⟩
      · rw [hk0] at hil; simp at hil
      obtain ⟨hl4, hrk⟩ := repL_get i hrl (List.getElem?_eq_getElem hil)
      obtain ⟨hl4', hrk'⟩ := repL_get i hrl' (List.getElem?_eq_getElem hil)
      have hsub := cells_sub (cells_grow M.grows hcs) (m := i * 4) (l := 4) (by omega)
      have hsub' := cells_sub (cells_grow M.grows hcs') (m := i * 4) (l := 4) (by omega)
      obtain ⟨l0, l1, l2, l3, hq, ol⟩ := item_four hrk
      obtain ⟨m0, m1, m2, m3, hqs, om⟩ := item_four hrk'
      rw [hq] at hsub hrk
      rw [hqs] at hsub' hrk'
      have hir : inRange (i : Int) ks.length = true := by
        show Nat.blt i ks.length = true
        rw [Nat.blt_eq]; exact hil
      have w3 : IntKind.i64.wrap ((i : Int) + 1) = ((i + 1 : Nat) : Int) := wrap64 (by omega) (by omega)
      have fh := M.fit
      -- two variables
      have var : ∀ (h : H) (l : List Value), l.length = 4 → l.all isOne = true → Fit h → ∃ hn h', h.new (.cells (Value.agg #[.int .i64 0, .int .i64 0, .string ⟨#[]⟩, .slice none 0 0]).cells.toList 25 none) = hn ∧ astore tab 25 (own h.next) (.agg ⟨l⟩) hn = some h' ∧ Ahd h h' ∧ h'.blk h.next = some (.cells l 25 none) := by
        intro h l h4 ho fh
        have t : Ahd h (h.new (.cells (Value.agg #[.int .i64 0, .int .i64 0, .string ⟨#[]⟩, .slice none 0 0]).cells.toList 25 none)) := Ahd.new0 fh rfl
        have bb : (h.new (.cells (Value.agg #[.int .i64 0, .int .i64 0, .string ⟨#[]⟩, .slice none 0 0]).cells.toList 25 none)).blk h.next = some (.cells zeroL 25 none) := new_blk_new rfl
        exact ⟨_, _, rfl, astore_all qty25 bb (by rw [h4]) (by rw [h4]; rfl) ho (by intro e; rw [e] at h4; simp at h4), t.setl rfl (Nat.le_refl _) (t.fit.lt bb) fh, setl_same rfl⟩
      obtain ⟨hn1, h3, hh1, s1, t1, b8⟩ := var h [l0, l1, l2, l3] rfl ol fh
      obtain ⟨hn2, h4, hh2, s2, t2, b9⟩ := var h3 [m0, m1, m2, m3] rfl om t1.fit
      have hsub2 := cells_grow t1.grows hsub'
      have x8 : h4.cells E (own h.next) 4 = some [l0, l1, l2, l3] := blk_cells (t2.grows _ _ b8) rfl ol
      have x9 : h4.cells E (own h3.next) 4 = some [m0, m1, m2, m3] := blk_cells b9 rfl om
      have M4 := (M.trans t1).trans t2
      obtain ⟨nf, x, h5, ck, rfl, t5⟩ := same21 (E := E) (I := I) (fun args h => hI _ args h (.inr rfl)) k14 M4.fit (rep_grow M4.grows hrk) (rep_grow M4.grows hrk') (hk _ (List.getElem_mem hil)).1 (hk _ (List.getElem_mem hil)).2
      apply Wc.loop
      simp only [loop20, loopOf, firstLoop, Option.getD, Tryd.f20]
      repeat' (first
    | (with_reducible apply Wc.seq)
    | (apply Wc.opsN nf; (focus ((repeat' (first
      | with_reducible exact RO.nil
      | ((with_reducible apply RO.run (awant_none rfl)); (focus ((first | simp (config := {decide := true}) only [awant, ayield_get, oper1, aop, opv, opvs, opvo, opvp, abuiltin, aun, Gx, if_true, if_false, and_true, decide_true, decide_false, abin, isShift, aint, roV, pair, bind, Option.bind, acall, Sx, n0, q1, q2, q15, q16, q17, e1, qia23 _ _ _ _ hir, Int.toNat_natCast, Qx, Hx, hsub, qtz25, hh1, s1, hsub2, hh2, s2, x8, x9, ck, w3] | skip); with_reducible rfl))))); done)))
    | (refine Wc.cond2 (by simp (config := {decide := true}) only [opv, Gx, if_true, if_false, and_true, decide_true, decide_false, Sx, n0, q1, q2, q15, q16, q17, e1, qia23 _ _ _ _ hir, Int.toNat_natCast, Qx, Hx, hsub, qtz25, hh1, s1, hsub2, hh2, s2, x8, x9, ck, w3]; try with_reducible rfl) (fun hb => ?_) (fun hb => ?_) <;> try contradiction)
    | refine Wc.skip ?_
    | refine Wc.ret ?_
    | refine Wc.exit ?_
    | refine Wc.block ?_)
      refine ih (i + 1) _ h5 (by omega) (by omega) ?_ ?_ ?_ ?_ ?_ ?_ ?_ (M4.trans t5)
      · simp (config := {decide := true}) only [Gx, if_true, if_false, and_true, Sx, n0]
      · simp (config := {decide := true}) only [Gx, if_true, if_false, and_true, Sx, d0]
      · simp (config := {decide := true}) only [Gx, if_true, if_false, and_true, Sx, n0, q1]
      · simp (config := {decide := true}) only [Gx, if_true, if_false, and_true, Sx, n0, q2]
      · simp (config := {decide := true}) only [Gx, if_true, if_false, and_true, Sx, n0, q15]
      · simp (config := {decide := true}) only [Gx, if_true, if_false, and_true, Sx, n0, q16]
      · simp (config := {decide := true}) only [Gx, if_true, if_false, and_true, Sx, n0]
  refine Wc.call (hI _ _ _ (.inl rfl)) fn20 rfl ?_
  generalize hA0 : (⟨T.ofList [.slice b ks.length c, .slice b' ks.length c', fnV 21] 0 .nil, max ([.slice b ks.length c, .slice b' ks.length c', fnV 21] : List Value).length Tryd.f20.ntmps, []⟩ : Ac) = A0
  have n0 : A0.n = 32 := by rw [← hA0]; rfl
  have q0 : A0.get 0 = .slice b ks.length c := by rw [← hA0]; rfl
  have q1 : A0.get 1 = .slice b' ks.length c' := by rw [← hA0]; rfl
  have q2 : A0.get 2 = fnV 21 := by rw [← hA0]; rfl
  have d0 : A0.defers = [] := by rw [← hA0]
  clear hA0
  repeat' (first
    | (with_reducible apply Wc.seq)
    | (apply Wc.ops; (focus ((repeat' (first
      | with_reducible exact RO.nil
      | ((with_reducible apply RO.run (awant_none rfl)); (focus ((first | simp (config := {decide := true}) only [awant, ayield_get, oper1, aop, opv, opvs, opvo, opvp, abuiltin, aun, Gx, if_true, if_false, and_true, decide_true, decide_false, abin, isShift, aint, roV, pair, bind, Option.bind, acall, Sx, n0, q0, q1, q2, Qx, Hx] | skip); with_reducible rfl))))); done)))
    | (refine Wc.cond2 (by simp (config := {decide := true}) only [opv, Gx, if_true, if_false, and_true, decide_true, decide_false, Sx, n0, q0, q1, q2, Qx, Hx]; try with_reducible rfl) (fun hb => ?_) (fun hb => ?_) <;> try contradiction)
    | refine Wc.skip ?_
    | refine Wc.ret ?_
    | refine Wc.exit ?_
    | refine Wc.block ?_)
  refine (key ks.length 0 _ g rfl (Nat.zero_le _) ?_ ?_ ?_ ?_ ?_ ?_ ?_ (Ahd.refl f)).mono ?_
  · simp (config := {decide := true}) only [Gx, if_true, if_false, and_true, Sx, n0]
  · simp (config := {decide := true}) only [Gx, if_true, if_false, and_true, Sx, d0]
  · simp (config := {decide := true}) only [Gx, if_true, if_false, and_true, Sx, n0, q1]
  · simp (config := {decide := true}) only [Gx, if_true, if_false, and_true, Sx, n0, q2]
  · simp (config := {decide := true}) only [Gx, if_true, if_false, and_true, Sx, n0]
  · simp (config := {decide := true}) only [Gx, if_true, if_false, and_true, Sx, n0]
  · simp (config := {decide := true}) only [Gx, if_true, if_false, and_true, Sx, n0]
    rfl
  · rintro ex A0 h ⟨rfl, n0, d0, M⟩
    simp only [if_true]
    repeat' (first
    | (with_reducible apply Wc.seq)
    | (apply Wc.ops; (focus ((repeat' (first
      | with_reducible exact RO.nil
      | ((with_reducible apply RO.run (awant_none rfl)); (focus ((first | simp (config := {decide := true}) only [awant, ayield_get, oper1, aop, opv, opvs, opvo, opvp, abuiltin, aun, Gx, if_true, if_false, and_true, decide_true, decide_false, abin, isShift, aint, roV, pair, bind, Option.bind, acall, Sx, n0] | skip); with_reducible rfl))))); done)))
    | (refine Wc.cond2 (by simp (config := {decide := true}) only [opv, Gx, if_true, if_false, and_true, decide_true, decide_false, Sx, n0]; try with_reducible rfl) (fun hb => ?_) (fun hb => ?_) <;> try contradiction)
    | refine Wc.skip ?_
    | refine Wc.ret ?_
    | refine Wc.exit ?_
    | refine Wc.block ?_)
    exact done_q (v := .bool true) (.inr rfl) (by simp (config := {decide := true}) only [Gx, if_true, if_false, and_true, Sx, d0]) rfl (by simp (config := {decide := true}) only [Gx, if_true, if_false, and_true, Sx, n0]) ⟨rfl, M⟩
end Go.Proofs.YtofijpbmbmbnhaaDoor
/- The law on reading bytes: it gives true. -/
set_option maxRecDepth 100000
set_option maxHeartbeats 16000000
namespace Go.Proofs.YtofijpbmbmbnhaaDoor
open Go Go.Hs Go.Proofs
variable {E : Env}

theorem fn4 : tab.fn.get 4 = some Tryd.f4 := by kernel_rfl

/-- What is known of the functions that the law calls. -/
structure Kn4 (E : Env) (K : Known) : Prop where
  out : ∀ f args h, f ∈ [4, 15, 16, 17, 18, 19, 20, 21, 22, 49, 52, 56, 57, 81, 82, 90, 91, 92, 117, 118, 119, 120] → K f args h = none
  k11 : ∀ h, K 11 [] h = some (some (.bool true, h))
  k14 : Alk E K

def zeroI : Hs.Item := .mk 0 0 ⟨#[]⟩ []
theorem rep_zero (E : Env) (g : H) : rep E g zeroI (.agg ⟨zeroL⟩) := by
  unfold zeroI
  rw [rep]
  exact ⟨_, rfl, .inl ⟨rfl, rfl⟩⟩
/-- What is read, or nothing; the index; the error. -/
def decT (r : Rd Hs.Item) : Hs.Item × Int × Int := match r with
  | .ok t _ _ => (t, 0, 0)
  | .bad p e => (zeroI, p, e)
def splT (r : Rd (List Hs.Item)) : List Hs.Item × Int × Int := match r with
  | .ok l _ _ => (l, 0, 0)
  | .bad p e => ([], p, e)
theorem decQ_of {g : H} {r : Rd Hs.Item} {v : Value} (h : DecQ E r v g) : ∃ l, v = .tuple #[.agg ⟨l⟩, .int .i64 (decT r).2.1, .int .i64 (decT r).2.2] ∧ rep E g (decT r).1 (.agg ⟨l⟩) := by
  unfold DecQ at h
  split at h
  · exact h
  · exact ⟨zeroL, h, rep_zero E g⟩
theorem splQ_of {g : H} {r : Rd (List Hs.Item)} {v : Value} (h : SplQ E r v g) : ∃ sl, v = .tuple #[sl, .int .i64 (splT r).2.1, .int .i64 (splT r).2.2] ∧ repK E g (splT r).1 sl := by
  unfold SplQ at h
  split at h
  · exact h
  · refine ⟨.slice none 0 0, h, ?_⟩
    unfold repK
    rw [rep]
    exact ⟨_, rfl, .inl ⟨rfl, rfl⟩⟩
theorem decT_small (bs : List UInt8) : lvlI (decT (decR bs)).1 ≤ 400 ∧ isz (decT (decR bs)).1 ≤ 1000000 := by
  generalize h : decR bs = r
  cases r with
  | ok t p it =>
    obtain ⟨h1, h2, _⟩ := decR_ok h
    exact ⟨by show lvlI t ≤ 400; omega, by show isz t ≤ 1000000; omega⟩
  | bad p e => exact ⟨by show lvlI zeroI ≤ 400; decide, by show isz zeroI ≤ 1000000; decide⟩
theorem splT_small (bs : List UInt8) (hl : bs.length ≤ 1000000) : (∀ t ∈ (splT (splR bs)).1, lvlI t ≤ 400 ∧ isz t ≤ 1000000) ∧ (splT (splR bs)).1.length ≤ 1000000 := by
  generalize h : splR bs = r
  cases r with
  | ok l p it =>
    unfold splR at h
    split at h
    · cases h
    · obtain ⟨h1, h2⟩ := splL_ok _ _ _ _ _ _ h (fun _ h => by cases h)
      refine ⟨fun t ht => ?_, by show l.length ≤ 1000000; simp at h2; omega⟩
      obtain ⟨a, b, _⟩ := h1 t ht
      exact ⟨by omega, by omega⟩
  | bad p e => exact ⟨fun t ht => (by cases ht), by show 0 ≤ 1000000; decide⟩

theorem _root_.Go.Hs.Mod.gof {g h : H} (m : Mod (fun _ => False) g h) : Grows g h := fun j B hj => m.blk j B (fun h => h) hj
theorem rfit_empty : Fit H.empty := by
  refine ⟨fun _ _ => T.get_nil _, ⟨fun k xs ty r p hd => ?_, Nat.le_refl _⟩⟩
  rw [show H.empty.dyn = T.nil from rfl, T.get_nil] at hd
  cases hd

theorem walk4 {K : Known} (k : Kn4 E K) {v : Value} {bs : List UInt8} (hB : ∀ h, Byt E h v bs) : ∃ n h', (ev tab E K n).call 4 [v] H.empty = some (.bool true, h') := by
  suffices hw : ∃ n x h', (ev tab E K n).call 4 [v] H.empty = some (x, h') ∧ x = .bool true by
    obtain ⟨n, x, h', h1, rfl⟩ := hw
    exact ⟨n, h', h1⟩
  have f0 := rfit_empty
  have hlog : H.empty.log = [] := rfl
  generalize H.empty = g at f0 hlog ⊢
  obtain ⟨hv1, hv2, ln, hix⟩ := bytE (E := E) hB
  have cw := fun (h : H) (m : Nat) => ev_knownS (D := tab) (E := E) (n := m) (k.k11 h)
  refine Wc.call (k.out _ _ _ (by simp)) fn4 rfl ?_
  generalize hA0 : (⟨T.ofList [v] 0 .nil, max ([v] : List Value).length Tryd.f4.ntmps, []⟩ : Ac) = A0
  have n0 : A0.n = 84 := by rw [← hA0]; rfl
  have q0 : A0.get 0 = v := by rw [← hA0]; rfl
  have d0 : A0.defers = [] := by rw [← hA0]
  clear hA0
  by_cases hlong : 70000 < bs.length
  · have e1 : decide ((bs.length : Int) > 70000) = true := by simp; omega
    have c11 := cw g 0
    repeat' (first
    | (with_reducible apply Wc.seq)
    | (apply Wc.opsN 1; (focus ((repeat' (first
      | with_reducible exact RO.nil
      | ((with_reducible apply RO.run (awant_none rfl)); (focus ((first | simp (config := {decide := true}) only [awant, ayield_get, oper1, aop, opv, opvs, opvo, opvp, abuiltin, aun, Gx, if_true, if_false, and_true, decide_true, decide_false, abin, isShift, aint, roV, pair, bind, Option.bind, acall, Sx, n0, q0, ln, e1, c11] | skip); with_reducible rfl))))); done)))
    | (refine Wc.cond2 (by simp (config := {decide := true}) only [opv, Gx, if_true, if_false, and_true, decide_true, decide_false, Sx, n0, q0, ln, e1, c11]; try with_reducible rfl) (fun hb => ?_) (fun hb => ?_) <;> try contradiction)
    | refine Wc.skip ?_
    | refine Wc.ret ?_
    | refine Wc.exit ?_
    | refine Wc.block ?_)
    exact done_q (v := .bool true) (.inr rfl) (by simp (config := {decide := true}) only [Gx, if_true, if_false, and_true, Sx, d0]) rfl (by simp (config := {decide := true}) only [Gx, if_true, if_false, and_true, Sx, n0]) rfl
  have e1 : decide ((bs.length : Int) > 70000) = false := by simp; omega
  have hl : bs.length ≤ 1000000 := by omega
  -- the functions, one after the other
  obtain ⟨n1, own1, g1, c1, t1, o1⟩ := clone15 (E := E) (I := K) (fun args h => k.out _ _ _ (by simp)) f0 (hB g) hl
  obtain ⟨n2, x2, g2, c2, m2, z2⟩ := dec16 (E := E) (I := K) (fun f args h hf => k.out _ _ _ (by rcases hf with h | h | h | h | h | h | h | h | h | h <;> simp [h])) t1.fit o1 hl
  obtain ⟨l2, rfl, r2⟩ := decQ_of z2
  obtain ⟨a20, a21, a22, a23, rfl, ho2⟩ := item_four r2
  have var : ∀ (h : H) (l : List Value), l.length = 4 → l.all isOne = true → Fit h → ∃ hn h', h.new (.cells (Value.agg #[.int .i64 0, .int .i64 0, .string ⟨#[]⟩, .slice none 0 0]).cells.toList 25 none) = hn ∧ astore tab 25 (own h.next) (.agg ⟨l⟩) hn = some h' ∧ Ahd h h' ∧ h'.blk h.next = some (.cells l 25 none) := by
    intro h l h4 ho fh
    have t : Ahd h (h.new (.cells (Value.agg #[.int .i64 0, .int .i64 0, .string ⟨#[]⟩, .slice none 0 0]).cells.toList 25 none)) := Ahd.new0 fh rfl
    have bb : (h.new (.cells (Value.agg #[.int .i64 0, .int .i64 0, .string ⟨#[]⟩, .slice none 0 0]).cells.toList 25 none)).blk h.next = some (.cells zeroL 25 none) := new_blk_new rfl
    exact ⟨_, _, rfl, astore_all qty25 bb (by rw [h4]) (by rw [h4]; rfl) ho (by intro e; rw [e] at h4; simp at h4), t.setl rfl (Nat.le_refl _) (t.fit.lt bb) fh, setl_same rfl⟩
  obtain ⟨hn2, g3, hh3, s3, t3, b3⟩ := var g2 [a20, a21, a22, a23] rfl ho2 m2.fit
  obtain ⟨n4, x4, g4, c4, m4, z4⟩ := rdec17 (E := E) (I := K) (fun f args h hf => k.out _ _ _ (by rcases hf with h | h | h | h | h <;> simp [h])) t3.fit hB hl
  obtain ⟨l4, rfl, r4⟩ := decQ_of z4
  obtain ⟨a40, a41, a42, a43, rfl, ho4⟩ := item_four r4
  obtain ⟨hn4, g5, hh5, s5, t5, b5⟩ := var g4 [a40, a41, a42, a43] rfl ho4 m4.fit
  have G15 : Grows g1 g5 := (m2.gof.trans t3.grows).trans (m4.gof.trans t5.grows)
  obtain ⟨n6, x6, g6, c6, m6, z6⟩ := split18 (E := E) (I := K) (fun f args h hf => k.out _ _ _ (by rcases hf with h | h | h | h | h | h | h | h | h <;> simp [h])) t5.fit (o1.grow G15) hl
  obtain ⟨sl6, rfl, r6⟩ := splQ_of z6
  obtain ⟨n7, x7, g7, c7, m7, z7⟩ := rsplit19 (E := E) (I := K) (fun f args h hf => k.out _ _ _ (by rcases hf with h | h | h | h | h <;> simp [h])) m6.fit hB hl
  obtain ⟨sl7, rfl, r7⟩ := splQ_of z7
  have G67 : Grows g6 g7 := m7.gof
  have G57 : Grows g5 g7 := m6.gof.trans G67
  have G37 : Grows g3 g7 := (m4.gof.trans t5.grows).trans G57
  obtain ⟨d1, d2⟩ := decT_small bs
  obtain ⟨p1, p2⟩ := splT_small bs hl
  have l4 : g7.cells E (own g2.next) 4 = some [a20, a21, a22, a23] := blk_cells (G37 _ _ b3) rfl ho2
  have l7 : g7.cells E (own g4.next) 4 = some [a40, a41, a42, a43] := blk_cells (G57 _ _ b5) rfl ho4
  have k14 := k.k14 _ _ _ g7 (rep_grow (t3.grows.trans G37) r2) (rep_grow (t5.grows.trans G57) r4) d1 d2
  obtain ⟨n8, x8, g8, c8, rfl, t8⟩ := equal20 (E := E) (I := K) (fun f args h hf => k.out _ _ _ (by rcases hf with h | h <;> simp [h])) k.k14 m7.fit (repK_grow G67 r6) r7 p1 p2
  obtain ⟨n9, c9⟩ := equal22 (E := E) (I := K) (fun args h => k.out _ _ _ (by simp)) (o1.grow ((G15.trans G57).trans t8.grows)) (hB g8)
  have c14 : (ev tab E K (n8 + 1)).call 14 _ g7 = _ := ev_knownS k14
  have c8' := (ev_mono (D := tab) (E := E) K (Nat.le_succ n8)).call c8
  have c9' := (ev_mono (D := tab) (E := E) K (Nat.le_succ n9)).call c9
  have c11 := cw g8 n9
  generalize (decT (decR bs)).2.1 = i1 at *
  generalize (decT (decR bs)).2.2 = i2 at *
  generalize (splT (splR bs)).2.1 = i3 at *
  generalize (splT (splR bs)).2.2 = i4 at *
  have u1 : decide (i1 = i1) = true := decide_eq_true rfl
  repeat' (first
    | (with_reducible apply Wc.seq)
    | (apply Wc.ops; (focus ((repeat' (first
      | with_reducible exact RO.nil
      | ((with_reducible apply RO.run (awant_none rfl)); (focus ((first | simp (config := {decide := true}) only [awant, ayield_get, oper1, aop, opv, opvs, opvo, opvp, abuiltin, aun, Gx, if_true, if_false, and_true, decide_true, decide_false, abin, isShift, aint, roV, pair, bind, Option.bind, acall, Sx, n0, q0, ln, e1] | skip); with_reducible rfl))))); done)))
    | (refine Wc.cond2 (by simp (config := {decide := true}) only [opv, Gx, if_true, if_false, and_true, decide_true, decide_false, Sx, n0, q0, ln, e1]; try with_reducible rfl) (fun hb => ?_) (fun hb => ?_) <;> try contradiction)
    | refine Wc.skip ?_
    | refine Wc.ret ?_
    | refine Wc.exit ?_
    | refine Wc.block ?_)
  (repeat' (with_reducible apply Wc.seq)); (apply Wc.opsN n1; (focus ((repeat' (first
      | with_reducible exact RO.nil
      | ((with_reducible apply RO.run (awant_none rfl)); (focus ((first | simp (config := {decide := true}) only [awant, ayield_get, oper1, aop, opv, opvs, opvo, opvp, abuiltin, aun, Gx, if_true, if_false, and_true, decide_true, decide_false, abin, isShift, aint, roV, pair, bind, Option.bind, acall, Sx, n0, q0, c1] | skip); with_reducible rfl)))
      | ((with_reducible apply RO.runG); (focus rfl); (focus rfl); (focus (simp (config := {decide := true}) only [Gx, if_true, if_false, and_true, Sx, decide_true, decide_false, n0, q0, c1]; done)); (focus ((first | simp (config := {decide := true}) only [awant, ayield_get, oper1, aop, opv, opvs, opvo, opvp, abuiltin, aun, Gx, if_true, if_false, and_true, decide_true, decide_false, abin, isShift, aint, roV, pair, bind, Option.bind, acall, Sx, n0, q0, c1] | skip); with_reducible rfl)))
      | ((with_reducible apply RO.skipG); (focus rfl); (focus rfl); (focus (simp (config := {decide := true}) only [Gx, if_true, if_false, and_true, Sx, decide_true, decide_false, n0, q0, c1]; done))))); done)))
  (repeat' (with_reducible apply Wc.seq)); (apply Wc.opsN n2; (focus ((repeat' (first
      | with_reducible exact RO.nil
      | ((with_reducible apply RO.run (awant_none rfl)); (focus ((first | simp (config := {decide := true}) only [awant, ayield_get, oper1, aop, opv, opvs, opvo, opvp, abuiltin, aun, Gx, if_true, if_false, and_true, decide_true, decide_false, abin, isShift, aint, roV, pair, bind, Option.bind, acall, Sx, n0, c2, qtz25, hh3, s3] | skip); with_reducible rfl)))
      | ((with_reducible apply RO.runG); (focus rfl); (focus rfl); (focus (simp (config := {decide := true}) only [Gx, if_true, if_false, and_true, Sx, decide_true, decide_false, n0, c2, qtz25, hh3, s3]; done)); (focus ((first | simp (config := {decide := true}) only [awant, ayield_get, oper1, aop, opv, opvs, opvo, opvp, abuiltin, aun, Gx, if_true, if_false, and_true, decide_true, decide_false, abin, isShift, aint, roV, pair, bind, Option.bind, acall, Sx, n0, c2, qtz25, hh3, s3] | skip); with_reducible rfl)))
      | ((with_reducible apply RO.skipG); (focus rfl); (focus rfl); (focus (simp (config := {decide := true}) only [Gx, if_true, if_false, and_true, Sx, decide_true, decide_false, n0, c2, qtz25, hh3, s3]; done))))); done)))
  (repeat' (with_reducible apply Wc.seq)); (apply Wc.opsN n4; (focus ((repeat' (first
      | with_reducible exact RO.nil
      | ((with_reducible apply RO.run (awant_none rfl)); (focus ((first | simp (config := {decide := true}) only [awant, ayield_get, oper1, aop, opv, opvs, opvo, opvp, abuiltin, aun, Gx, if_true, if_false, and_true, decide_true, decide_false, abin, isShift, aint, roV, pair, bind, Option.bind, acall, Sx, n0, q0, c4, qtz25, hh5, s5] | skip); with_reducible rfl)))
      | ((with_reducible apply RO.runG); (focus rfl); (focus rfl); (focus (simp (config := {decide := true}) only [Gx, if_true, if_false, and_true, Sx, decide_true, decide_false, n0, q0, c4, qtz25, hh5, s5]; done)); (focus ((first | simp (config := {decide := true}) only [awant, ayield_get, oper1, aop, opv, opvs, opvo, opvp, abuiltin, aun, Gx, if_true, if_false, and_true, decide_true, decide_false, abin, isShift, aint, roV, pair, bind, Option.bind, acall, Sx, n0, q0, c4, qtz25, hh5, s5] | skip); with_reducible rfl)))
      | ((with_reducible apply RO.skipG); (focus rfl); (focus rfl); (focus (simp (config := {decide := true}) only [Gx, if_true, if_false, and_true, Sx, decide_true, decide_false, n0, q0, c4, qtz25, hh5, s5]; done))))); done)))
  (repeat' (with_reducible apply Wc.seq)); (apply Wc.opsN n6; (focus ((repeat' (first
      | with_reducible exact RO.nil
      | ((with_reducible apply RO.run (awant_none rfl)); (focus ((first | simp (config := {decide := true}) only [awant, ayield_get, oper1, aop, opv, opvs, opvo, opvp, abuiltin, aun, Gx, if_true, if_false, and_true, decide_true, decide_false, abin, isShift, aint, roV, pair, bind, Option.bind, acall, Sx, n0, c6] | skip); with_reducible rfl)))
      | ((with_reducible apply RO.runG); (focus rfl); (focus rfl); (focus (simp (config := {decide := true}) only [Gx, if_true, if_false, and_true, Sx, decide_true, decide_false, n0, c6]; done)); (focus ((first | simp (config := {decide := true}) only [awant, ayield_get, oper1, aop, opv, opvs, opvo, opvp, abuiltin, aun, Gx, if_true, if_false, and_true, decide_true, decide_false, abin, isShift, aint, roV, pair, bind, Option.bind, acall, Sx, n0, c6] | skip); with_reducible rfl)))
      | ((with_reducible apply RO.skipG); (focus rfl); (focus rfl); (focus (simp (config := {decide := true}) only [Gx, if_true, if_false, and_true, Sx, decide_true, decide_false, n0, c6]; done))))); done)))
  (repeat' (with_reducible apply Wc.seq)); (apply Wc.opsN n7; (focus ((repeat' (first
      | with_reducible exact RO.nil
      | ((with_reducible apply RO.run (awant_none rfl)); (focus ((first | simp (config := {decide := true}) only [awant, ayield_get, oper1, aop, opv, opvs, opvo, opvp, abuiltin, aun, Gx, if_true, if_false, and_true, decide_true, decide_false, abin, isShift, aint, roV, pair, bind, Option.bind, acall, Sx, n0, q0, c7] | skip); with_reducible rfl)))
      | ((with_reducible apply RO.runG); (focus rfl); (focus rfl); (focus (simp (config := {decide := true}) only [Gx, if_true, if_false, and_true, Sx, decide_true, decide_false, n0, q0, c7]; done)); (focus ((first | simp (config := {decide := true}) only [awant, ayield_get, oper1, aop, opv, opvs, opvo, opvp, abuiltin, aun, Gx, if_true, if_false, and_true, decide_true, decide_false, abin, isShift, aint, roV, pair, bind, Option.bind, acall, Sx, n0, q0, c7] | skip); with_reducible rfl)))
      | ((with_reducible apply RO.skipG); (focus rfl); (focus rfl); (focus (simp (config := {decide := true}) only [Gx, if_true, if_false, and_true, Sx, decide_true, decide_false, n0, q0, c7]; done))))); done)))
  (repeat' (with_reducible apply Wc.seq)); (apply Wc.opsN (n8 + 1); (focus ((repeat' (first
      | with_reducible exact RO.nil
      | ((with_reducible apply RO.run (awant_none rfl)); (focus ((first | simp (config := {decide := true}) only [awant, ayield_get, oper1, aop, opv, opvs, opvo, opvp, abuiltin, aun, Gx, if_true, if_false, and_true, decide_true, decide_false, abin, isShift, aint, roV, pair, bind, Option.bind, acall, Sx, n0, Qx, Hx, l4, l7, c14, c8', decide_true] | skip); with_reducible rfl)))
      | ((with_reducible apply RO.runG); (focus rfl); (focus rfl); (focus (simp (config := {decide := true}) only [Gx, if_true, if_false, and_true, Sx, decide_true, decide_false, n0, Qx, Hx, l4, l7, c14, c8', decide_true]; done)); (focus ((first | simp (config := {decide := true}) only [awant, ayield_get, oper1, aop, opv, opvs, opvo, opvp, abuiltin, aun, Gx, if_true, if_false, and_true, decide_true, decide_false, abin, isShift, aint, roV, pair, bind, Option.bind, acall, Sx, n0, Qx, Hx, l4, l7, c14, c8', decide_true] | skip); with_reducible rfl)))
      | ((with_reducible apply RO.skipG); (focus rfl); (focus rfl); (focus (simp (config := {decide := true}) only [Gx, if_true, if_false, and_true, Sx, decide_true, decide_false, n0, Qx, Hx, l4, l7, c14, c8', decide_true]; done))))); done)))
  (repeat' (with_reducible apply Wc.seq)); (apply Wc.opsN (n9 + 1); (focus ((repeat' (first
      | with_reducible exact RO.nil
      | ((with_reducible apply RO.run (awant_none rfl)); (focus ((first | simp (config := {decide := true}) only [awant, ayield_get, oper1, aop, opv, opvs, opvo, opvp, abuiltin, aun, Gx, if_true, if_false, and_true, decide_true, decide_false, abin, isShift, aint, roV, pair, bind, Option.bind, acall, Sx, n0, q0, c9', c11] | skip); with_reducible rfl)))
      | ((with_reducible apply RO.runG); (focus rfl); (focus rfl); (focus (simp (config := {decide := true}) only [Gx, if_true, if_false, and_true, Sx, decide_true, decide_false, n0, q0, c9', c11]; done)); (focus ((first | simp (config := {decide := true}) only [awant, ayield_get, oper1, aop, opv, opvs, opvo, opvp, abuiltin, aun, Gx, if_true, if_false, and_true, decide_true, decide_false, abin, isShift, aint, roV, pair, bind, Option.bind, acall, Sx, n0, q0, c9', c11] | skip); with_reducible rfl)))
      | ((with_reducible apply RO.skipG); (focus rfl); (focus rfl); (focus (simp (config := {decide := true}) only [Gx, if_true, if_false, and_true, Sx, decide_true, decide_false, n0, q0, c9', c11]; done))))); done)))
  repeat' (first
    | (with_reducible apply Wc.seq)
    | (apply Wc.ops; (focus ((repeat' (first
      | with_reducible exact RO.nil
      | ((with_reducible apply RO.run (awant_none rfl)); (focus ((first | simp (config := {decide := true}) only [awant, ayield_get, oper1, aop, opv, opvs, opvo, opvp, abuiltin, aun, Gx, if_true, if_false, and_true, decide_true, decide_false, abin, isShift, aint, roV, pair, bind, Option.bind, acall, Sx, n0] | skip); with_reducible rfl))))); done)))
    | (refine Wc.cond2 (by simp (config := {decide := true}) only [opv, Gx, if_true, if_false, and_true, decide_true, decide_false, Sx, n0]; try with_reducible rfl) (fun hb => ?_) (fun hb => ?_) <;> try contradiction)
    | refine Wc.skip ?_
    | refine Wc.ret ?_
    | refine Wc.exit ?_
    | refine Wc.block ?_)
  exact done_q (v := .bool true) (.inr rfl) (by simp (config := {decide := true}) only [Gx, if_true, if_false, and_true, Sx, d0]) rfl (by simp (config := {decide := true}) only [Gx, if_true, if_false, and_true, Sx, n0]) rfl
end Go.Proofs.YtofijpbmbmbnhaaDoor
/- What is known of the functions, layer on layer, for the law on reading bytes. -/
set_option maxRecDepth 100000
set_option maxHeartbeats 4000000
namespace Go.Proofs.YtofijpbmbmbnhaaDoor
open Go Go.Hs Go.Proofs
variable {n0 : Nat}

theorem rbase_out {f : FuncId} {args : List Value} {h : H} (h1 : Nat.beq f 123 = false) (h2 : Nat.beq f 130 = false) : I0 f args h = none := by
  unfold I0
  rw [h1, h2]
noncomputable def R14 (E : Env) : Known := saidBy (says14 E) I0
theorem R14_out {E : Env} {f : FuncId} {args : List Value} {h : H} (hf : ([14, 53, 89, 55] : List Nat).any (Nat.beq f) = false) : R14 E f args h = I0 f args h := by
  unfold R14 saidBy
  rw [dif_neg]
  rintro ⟨v, s, hs⟩
  rw [List.any_eq_false] at hf
  have hm : f ∈ ([14, 53, 89, 55] : List Nat) := by
    rcases hs with ⟨rfl, _⟩ | ⟨rfl, _⟩ | ⟨rfl, _⟩ | ⟨rfl, _⟩ <;> decide
  exact hf f hm (by simp)
noncomputable def Rlaw (E : Env) : Known := fun f args h => match Nat.beq f 11, args with
  | true, [] => some (some (.bool true, h))
  | true, _ => none
  | false, _ => (R14 E) f args h
theorem Rlaw_out {E : Env} {f : FuncId} {args : List Value} {h : H} (hf : Nat.beq f 11 = false) : Rlaw E f args h = (R14 E) f args h := by
  unfold Rlaw
  rw [hf]
theorem R14_good (E : Env) : KnownGood Tryd.prog tab E n0 (R14 E) := saidByF_good tab_of noNum (known0 E n0) (shown14 (fun f args h hf => by
    rcases hf with rfl | rfl | rfl | rfl | rfl <;> exact rbase_out (by decide) (by decide)))
theorem Rlaw_good {E : Env} (hE : ∀ b o v, E0 b o = some v → E b o = some v) : KnownGood Tryd.prog tab E n0 (Rlaw E) := by
  have key : ∀ {f args h r}, Rlaw E f args h = some (some r) → (f = 11 ∧ args = [] ∧ r = (.bool true, h)) ∨ R14 E f args h = some (some r) := by
    intro f args h r hh
    unfold Rlaw at hh
    split at hh
    · next e => cases hh; exact .inl ⟨Nat.eq_of_beq_eq_true e, rfl, rfl⟩
    · cases hh
    · exact .inr hh
  have hB := R14_good (n0 := n0) E
  refine ⟨fun f args h r h' hi φ w R hok => ?_, fun f args h r h' hi o => ?_, fun f args h r h' hi => ?_⟩
  · rcases key hi with ⟨rfl, rfl, he⟩ | h1
    · cases he; exact awake_sim hE R
    · exact hB.sim _ _ _ _ _ h1 φ w R hok
  · rcases key hi with ⟨rfl, rfl, he⟩ | h1
    · cases he; exact Lg.refl o
    · exact hB.lg _ _ _ _ _ h1 o
  · rcases key hi with ⟨rfl, rfl, he⟩ | h1
    · cases he; exact Nat.le_refl _
    · exact hB.next _ _ _ _ _ h1
theorem Rlaw_none {E : Env} {f : FuncId} {args : List Value} {h : H} (hf : ([11, 14, 53, 89, 55, 123, 130] : List Nat).any (Nat.beq f) = false) : Rlaw E f args h = none := by
  simp only [List.any_cons, List.any_nil, Bool.or_eq_false_iff] at hf
  rw [Rlaw_out hf.1, R14_out (by simp [hf.2.1, hf.2.2.1, hf.2.2.2.1, hf.2.2.2.2.1]), rbase_out hf.2.2.2.2.2.1 hf.2.2.2.2.2.2.1]
theorem ralk (E : Env) : Alk E (Rlaw E) := fun t xv yv h hr hr' hl hz => (Rlaw_out (by decide)).trans (saidBy_eq (one14 E) (.inl ⟨rfl, t, xv, yv, 0, rfl, hr, hr', by decide, by omega, hz, rfl, rfl⟩))
theorem kn4 (E : Env) : Kn4 E (Rlaw E) where
  out := fun f args h hf => by
    simp only [List.mem_cons, List.not_mem_nil, or_false] at hf
    rcases hf with rfl | rfl | rfl | rfl | rfl | rfl | rfl | rfl | rfl | rfl | rfl | rfl | rfl | rfl | rfl | rfl | rfl | rfl | rfl | rfl | rfl | rfl <;> exact Rlaw_none (by decide)
  k11 := fun h => rfl
  k14 := ralk E
end Go.Proofs.YtofijpbmbmbnhaaDoor
