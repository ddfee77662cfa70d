/- The program's reader: the item of bytes. -/
import Derived.Test.YtofijpbmbmbnhaaDoorHsam
set_option linter.unusedSimpArgs false
set_option linter.unusedVariables false
set_option maxRecDepth 100000
set_option maxHeartbeats 16000000
namespace Go.Proofs.YtofijpbmbmbnhaaDoor
open Go Go.Hs Go.Proofs
variable {E : Env} {I : Known}

theorem fn49 : tab.fn.get 49 = some Tryd.f49 := by kernel_rfl
theorem fn16 : tab.fn.get 16 = some Tryd.f16 := by kernel_rfl
theorem qcv31_9 {h : H} {v : Value} {bs : List UInt8} (b : Byt E h v bs) : aconvert tab E 31 9 v h = some (.string ⟨⟨bs⟩⟩, h) := by
  unfold aconvert
  rcases b with ⟨rfl, rfl⟩ | ⟨a, c, rfl, _, hc⟩
  · simp only [qty31, qty9, qty5]
  · simp only [qty31, qty9, qty5, hc, allBytes_bytesV]
theorem qbu84 (s : Value) (h : s.cells.toList = [s]) : abuild tab 84 [(0, s)] = some (.agg ⟨[s, .int .i64 0, .int .i64 0]⟩) := by
  unfold abuild
  simp only [qty84, afill, h]
  rfl
theorem qbu86 (a b c : Value) : abuild tab 86 [(0, .agg ⟨[a, b, c]⟩)] = some (.agg ⟨[a, b, c, .int .i64 0]⟩) := by unfold abuild; simp only [qty86]; rfl

theorem done_c3 {D : Tab} {E : Env} {fn : Func} {A : Ac} {h : H} {c t u : Tmp} {ty : TypeId} {a : Addr} {v x y : Value} {ex : Ex} {Q : Value → H → Prop} (hex : ex = .normal ∨ ex = .ret) (hd : A.defers = []) (hr : fn.results = #[.cell c ty, .tmp t, .tmp u]) (hc : A.get c = .pointer (some a)) (hl : aload D E ty a h = some v) (hv : A.get t = x) (hx : A.get u = y) (hq : Q (.tuple #[v, x, y]) h) :
    (ex = .normal ∨ ex = .ret) ∧ ∃ h2 v', takeAll A.defers h = some h2 ∧ ares D E fn A h2 = some v' ∧ Q v' h2 := by
  refine ⟨hex, h, _, ?_, ?_, hq⟩
  · rw [hd]; rfl
  · unfold ares
    rw [hr]
    simp only [aresL, ares1, hc, hl, hv, hx]

/-- What is left behind an item is an error. -/
theorem whole49 (hI : ∀ f args h, (f = 49 ∨ f = 81) → I f args h = none) {k : Nat} {bs : List UInt8} {p : Nat} {e : Int} {it : Nat} {g : H} (f : Fit g) (b : Src k bs p e it g) (hp : p ≤ bs.length) (is : Bool) (l : List Value) (hl : l.length = 4) (hl1 : l.all isOne = true) :
    ∃ n v g', (ev tab E I n).call 49 [.pointer (some (own k)), .agg ⟨l⟩, .bool is] g = some (v, g') ∧ (Mod (fun j => j = k) g g' ∧ v = if is = true then (if p < bs.length then .tuple #[.agg ⟨zeroL⟩, .int .i64 (p : Nat), .int .i64 4] else .tuple #[.agg ⟨l⟩, .int .i64 0, .int .i64 0]) else .tuple #[.agg ⟨zeroL⟩, .int .i64 (p : Nat), .int .i64 e]) := by
  refine Wc.call (hI _ _ _ (.inl rfl)) fn49 rfl ?_
  generalize hA0 : (⟨T.ofList [.pointer (some (own k)), .agg ⟨l⟩, .bool is] 0 .nil, max ([.pointer (some (own k)), .agg ⟨l⟩, .bool is] : List Value).length Tryd.f49.ntmps, []⟩ : Ac) = A0
  have n0 : A0.n = 47 := by rw [← hA0]; rfl
  have q0 : A0.get 0 = .pointer (some (own k)) := by rw [← hA0]; rfl
  have q1 : A0.get 1 = .agg ⟨l⟩ := by rw [← hA0]; rfl
  have q2 : A0.get 2 = .bool is := by rw [← hA0]; rfl
  have d0 : A0.defers = [] := by rw [← hA0]
  clear hA0
  obtain ⟨l0, l1, l2, l3, rfl⟩ := four_of hl
  generalize hh1 : g.new (.cells (Value.agg ⟨[l0, l1, l2, l3]⟩).cells.toList 25 none) = h1
  have t1 : Ahd g h1 := by rw [← hh1]; exact Ahd.new0 f rfl
  have b4 : h1.blk g.next = some (.cells [l0, l1, l2, l3] 25 none) := by rw [← hh1]; exact new_blk_new rfl
  have n1 : h1.next = g.next + 1 := by rw [← hh1]; rfl
  generalize hh2 : h1.new (.cells (Value.agg #[.int .i64 0, .int .i64 0, .string ⟨#[]⟩, .slice none 0 0]).cells.toList 25 none) = h2
  have t2 : Ahd h1 h2 := by rw [← hh2]; exact Ahd.new0 t1.fit rfl
  have b6 : h2.blk h1.next = some (.cells zeroL 25 none) := by rw [← hh2]; exact new_blk_new rfl
  have t12 := t1.trans t2
  have b4 := t2.grows _ _ b4
  have kl : k < g.next := f.lt b
  have b2 := b.mod (t12.mod (M := fun _ => False)) (fun h => h)
  obtain ⟨c0, c1, c2, c3⟩ := b2.at (E := E)
  have st6 : ∀ {h : H} {a c d e : Value}, [a, c, d, e].all isOne = true → h.blk h1.next = some (.cells zeroL 25 none) → astore tab 25 (own h1.next) (.agg ⟨[a, c, d, e]⟩) h = some (h.setl h1.next (.cells [a, c, d, e] 25 none)) := fun ho hb => astore_all qty25 hb rfl rfl ho (by simp)
  have ld6 : ∀ {h : H} {a c d e : Value}, [a, c, d, e].all isOne = true → (h.setl h1.next (.cells [a, c, d, e] 25 none)).cells E (own h1.next) 4 = some [a, c, d, e] := fun ho => blk_cells (setl_same rfl) rfl ho
  have fr : ∀ {h : H} {e' : Int}, Mod (fun j => j = k) h2 h → Src k bs p e' it h → ∃ h3, astore tab 25 (own h1.next) (.agg ⟨zeroL⟩) (fresh h) = some ((fresh h).setl h1.next (.cells zeroL 25 none)) ∧ h.setl h1.next (.cells zeroL 25 none) = h3 ∧ Mod (fun j => j = k) g h3 ∧ h3.cells E (own h1.next) 4 = some zeroL ∧ h1.next < h.next := by
    intro h e' m bb
    have b6' := m.blk _ _ (by omega) b6
    have m3 := (Mod.refl (M := fun j => j = h1.next) m.fit).setl (B := .cells zeroL 25 none) rfl rfl (m.fit.lt b6')
    exact ⟨_, st6 (h := fresh h) rfl b6', rfl, Mod.low f ((t12.mod.trans (m.sub (N := fun j => j = k ∨ g.next ≤ j) fun _ h => .inl h)).trans (m3.sub fun j hj => .inr (by omega))) (fun _ h => h), ld6 rfl, m.fit.lt b6'⟩
  cases is with
  | false =>
    obtain ⟨h3, s3, hh3, m3, l3', lt3⟩ := fr (Mod.refl t12.fit) b2
    repeat' (first
    | (with_reducible apply Wc.seq)
    | (apply Wc.ops; (focus ((repeat' (first
      | with_reducible exact RO.nil
      | ((with_reducible apply RO.run (awant_none rfl)); (focus ((first | simp (config := {decide := true}) only [awant, ayield_get, oper1, aop, opv, opvs, opvo, opvp, abuiltin, aun, Gx, if_true, if_false, and_true, decide_true, decide_false, abin, isShift, aint, roV, pair, bind, Option.bind, acall, Sx, n0, q0, q1, q2, qtz25, hh1, hh2] | skip); with_reducible rfl))))); done)))
    | (refine Wc.cond2 (by simp (config := {decide := true}) only [opv, Gx, if_true, if_false, and_true, decide_true, decide_false, Sx, n0, q0, q1, q2, qtz25, hh1, hh2]; try with_reducible rfl) (fun hb => ?_) (fun hb => ?_) <;> try contradiction)
    | refine Wc.skip ?_
    | refine Wc.ret ?_
    | refine Wc.exit ?_
    | refine Wc.block ?_)
    refine Wc.drawC 1 (by kernel_rfl) ?_
    (iterate 15 (first
      | ((apply FC.pure rfl rfl); (focus ((first | simp (config := {decide := true}) only [awant, ayield_get, oper1, aop, opv, opvs, opvo, opvp, abuiltin, aun, Gx, if_true, if_false, and_true, decide_true, decide_false, abin, isShift, aint, roV, pair, bind, Option.bind, acall, Sx, n0, q0, q2, Qx, Hx] | skip); with_reducible rfl)))
      | ((apply FC.pureG rfl rfl); (focus (simp (config := {decide := true}) only [Gx, if_true, if_false, and_true, Sx, decide_true, decide_false, n0, q0, q2, Qx, Hx]; done)); (focus rfl); (focus ((first | simp (config := {decide := true}) only [awant, ayield_get, oper1, aop, opv, opvs, opvo, opvp, abuiltin, aun, Gx, if_true, if_false, and_true, decide_true, decide_false, abin, isShift, aint, roV, pair, bind, Option.bind, acall, Sx, n0, q0, q2, Qx, Hx] | skip); with_reducible rfl)))
      | ((apply FC.skipG rfl rfl); (focus (simp (config := {decide := true}) only [Gx, if_true, if_false, and_true, Sx, decide_true, decide_false, n0, q0, q2, Qx, Hx]; done)))
      | ((apply FC.new rfl rfl); (focus ((first | simp (config := {decide := true}) only [awant, ayield_get, oper1, aop, opv, opvs, opvo, opvp, abuiltin, aun, Gx, if_true, if_false, and_true, decide_true, decide_false, abin, isShift, aint, roV, pair, bind, Option.bind, acall, Sx, n0, q0, q2, Qx, Hx] | skip); with_reducible rfl)))))
    refine FC.nil ?_
    repeat' (first
    | (with_reducible apply Wc.seq)
    | (apply Wc.ops; (focus ((repeat' (first
      | with_reducible exact RO.nil
      | ((with_reducible apply RO.run (awant_none rfl)); (focus ((first | simp (config := {decide := true}) only [awant, ayield_get, oper1, aop, opv, opvs, opvo, opvp, abuiltin, aun, Gx, if_true, if_false, and_true, decide_true, decide_false, abin, isShift, aint, roV, pair, bind, Option.bind, acall, Sx, n0, q2] | skip); with_reducible rfl))))); done)))
    | (refine Wc.cond2 (by simp (config := {decide := true}) only [opv, Gx, if_true, if_false, and_true, decide_true, decide_false, Sx, n0, q2]; try with_reducible rfl) (fun hb => ?_) (fun hb => ?_) <;> try contradiction)
    | refine Wc.skip ?_
    | refine Wc.ret ?_
    | refine Wc.exit ?_
    | refine Wc.block ?_)
    refine Wc.drawQ 1 (by kernel_rfl) ?_
    (iterate 11 (first
      | ((apply FQ.pure rfl rfl); (focus ((first | simp (config := {decide := true}) only [awant, ayield_get, oper1, aop, opv, opvs, opvo, opvp, abuiltin, aun, Gx, if_true, if_false, and_true, decide_true, decide_false, abin, isShift, aint, roV, pair, bind, Option.bind, acall, Sx, n0, q0, Qx, Hx, c1, c2, qbu25z] | skip); with_reducible rfl)))
      | ((apply FQ.new rfl rfl); (focus ((first | simp (config := {decide := true}) only [awant, ayield_get, oper1, aop, opv, opvs, opvo, opvp, abuiltin, aun, Gx, if_true, if_false, and_true, decide_true, decide_false, abin, isShift, aint, roV, pair, bind, Option.bind, acall, Sx, n0, q0, Qx, Hx, c1, c2, qbu25z] | skip); with_reducible rfl)))))
    refine FQ.setl (k := h1.next) rfl rfl lt3 (by simp (config := {decide := true}) only [awant, ayield_get, oper1, aop, opv, opvs, opvo, opvp, abuiltin, aun, Gx, if_true, if_false, and_true, decide_true, decide_false, abin, isShift, aint, roV, pair, bind, Option.bind, acall, Sx, n0, s3]; with_reducible rfl) ?_
    rw [hh3]
    (iterate 2 (first
      | ((apply FQ.pure rfl rfl); (focus ((first | simp (config := {decide := true}) only [awant, ayield_get, oper1, aop, opv, opvs, opvo, opvp, abuiltin, aun, Gx, if_true, if_false, and_true, decide_true, decide_false, abin, isShift, aint, roV, pair, bind, Option.bind, acall, Sx, n0] | skip); with_reducible rfl)))
      | ((apply FQ.new rfl rfl); (focus ((first | simp (config := {decide := true}) only [awant, ayield_get, oper1, aop, opv, opvs, opvo, opvp, abuiltin, aun, Gx, if_true, if_false, and_true, decide_true, decide_false, abin, isShift, aint, roV, pair, bind, Option.bind, acall, Sx, n0] | skip); with_reducible rfl)))))
    refine FQ.nil ⟨?_, ?_⟩
    · exact allMeet_but [11] 14 [(1, 11), (2, 11), (3, 11), (4, 11), (6, 11), (7, 11), (8, 11), (9, 11), (5, 11), (10, 11)] rfl rfl (by kernel_rfl) (fun _ _ _ _ hU e1 e2 => by simp only [List.mem_cons, Prod.mk.injEq, List.not_mem_nil, or_false] at hU; rcases hU with ⟨rfl, rfl⟩ | ⟨rfl, rfl⟩ | ⟨rfl, rfl⟩ | ⟨rfl, rfl⟩ | ⟨rfl, rfl⟩ | ⟨rfl, rfl⟩ | ⟨rfl, rfl⟩ | ⟨rfl, rfl⟩ | ⟨rfl, rfl⟩ | ⟨rfl, rfl⟩; (focus (cases e1; cases e2; exact meets_right (l := []) rfl rfl (fun _ _ => List.not_mem_nil) rfl (fun j _ => Nat.lt_or_ge _ _))); (focus (cases e1; cases e2; exact meets_right (l := []) rfl rfl (fun _ _ => List.not_mem_nil) rfl (fun j _ => Nat.lt_or_ge _ _))); (focus (cases e1; cases e2; exact meets_right (l := []) rfl rfl (fun _ _ => List.not_mem_nil) rfl (fun j _ => Nat.lt_or_ge _ _))); (focus (cases e1; cases e2; exact meets_right (l := []) rfl rfl (fun _ _ => List.not_mem_nil) rfl (fun j _ => Nat.lt_or_ge _ _))); (focus (cases e1; cases e2; exact meets_right (l := []) rfl rfl (fun _ _ => List.not_mem_nil) rfl (fun j _ => Nat.lt_or_ge _ _))); (focus (cases e1; cases e2; exact meets_right (l := []) rfl rfl (fun _ _ => List.not_mem_nil) rfl (fun j _ => Nat.lt_or_ge _ _))); (focus (cases e1; cases e2; exact meets_right (l := []) rfl rfl (fun _ _ => List.not_mem_nil) rfl (fun j _ => Nat.lt_or_ge _ _))); (focus (cases e1; cases e2; exact meets_right (l := []) rfl rfl (fun _ _ => List.not_mem_nil) rfl (fun j _ => Nat.lt_or_ge _ _))); (focus (cases e1; cases e2; exact meets_right (l := [k]) rfl (by simp (config := {decide := true}) only [awant, ayield_get, oper1, aop, opv, opvs, opvo, opvp, abuiltin, aun, Gx, if_true, if_false, and_true, decide_true, decide_false, abin, isShift, aint, roV, pair, bind, Option.bind, acall, Sx, reads, pureOp, atV, n0, q0, aadd, own]) (fun j hj => by have hj := List.mem_singleton.1 hj; subst hj; simp only [List.mem_singleton]; omega) rfl (fun j _ => Nat.lt_or_ge _ _))); (focus (cases e1; cases e2; exact meets_right (l := [k]) rfl (by simp (config := {decide := true}) only [awant, ayield_get, oper1, aop, opv, opvs, opvo, opvp, abuiltin, aun, Gx, if_true, if_false, and_true, decide_true, decide_false, abin, isShift, aint, roV, pair, bind, Option.bind, acall, Sx, reads, pureOp, atV, n0, q0, aadd, own]) (fun j hj => by have hj := List.mem_singleton.1 hj; subst hj; simp only [List.mem_singleton]; omega) rfl (fun j _ => Nat.lt_or_ge _ _))))
    refine Wc.ret ?_
    exact done_c3 (v := .agg ⟨zeroL⟩) (x := .int .i64 (p : Nat)) (y := .int .i64 e) (.inr rfl) (by simp (config := {decide := true}) only [Gx, if_true, if_false, and_true, Sx, d0]) rfl (show _ = Value.pointer (some (own h1.next)) by simp (config := {decide := true}) only [Gx, if_true, if_false, and_true, Sx, n0]) (by rw [qld25, l3']) (by simp (config := {decide := true}) only [Gx, if_true, if_false, and_true, Sx, n0]) (by simp (config := {decide := true}) only [Gx, if_true, if_false, and_true, Sx, n0]) ⟨m3, by simp⟩
  | true =>
    by_cases hlt : p < bs.length
    · have e1 : decide ((p : Int) < (bs.length : Int)) = true := by simp; omega
      obtain ⟨nf, g', ck, m, b'⟩ := fail81 (E := E) (I := I) (fun args h => hI _ args h (.inr rfl)) t12.fit.fresh (show Src k bs p e it (fresh h2) from b2) 4 p
      obtain ⟨m', _, _, _⟩ := Mod.back t12.fit m
      have b'' : Src k bs p 4 it (back h2 g') := b'.back
      generalize hh4 : back h2 g' = h4 at m' b''
      obtain ⟨h3, s3, hh3, m3, l3', lt3⟩ := fr m' b''
      obtain ⟨_, d1, d2, _⟩ := b''.at (E := E)
      repeat' (first
    | (with_reducible apply Wc.seq)
    | (apply Wc.ops; (focus ((repeat' (first
      | with_reducible exact RO.nil
      | ((with_reducible apply RO.run (awant_none rfl)); (focus ((first | simp (config := {decide := true}) only [awant, ayield_get, oper1, aop, opv, opvs, opvo, opvp, abuiltin, aun, Gx, if_true, if_false, and_true, decide_true, decide_false, abin, isShift, aint, roV, pair, bind, Option.bind, acall, Sx, n0, q0, q1, q2, qtz25, hh1, hh2] | skip); with_reducible rfl))))); done)))
    | (refine Wc.cond2 (by simp (config := {decide := true}) only [opv, Gx, if_true, if_false, and_true, decide_true, decide_false, Sx, n0, q0, q1, q2, qtz25, hh1, hh2]; try with_reducible rfl) (fun hb => ?_) (fun hb => ?_) <;> try contradiction)
    | refine Wc.skip ?_
    | refine Wc.ret ?_
    | refine Wc.exit ?_
    | refine Wc.block ?_)
      refine Wc.drawC 1 (by kernel_rfl) ?_
      (iterate 15 (first
      | ((apply FC.pure rfl rfl); (focus ((first | simp (config := {decide := true}) only [awant, ayield_get, oper1, aop, opv, opvs, opvo, opvp, abuiltin, aun, Gx, if_true, if_false, and_true, decide_true, decide_false, abin, isShift, aint, roV, pair, bind, Option.bind, acall, Sx, n0, q0, q2, Qx, Hx, c0, c1, e1] | skip); with_reducible rfl)))
      | ((apply FC.pureG rfl rfl); (focus (simp (config := {decide := true}) only [Gx, if_true, if_false, and_true, Sx, decide_true, decide_false, n0, q0, q2, Qx, Hx, c0, c1, e1]; done)); (focus rfl); (focus ((first | simp (config := {decide := true}) only [awant, ayield_get, oper1, aop, opv, opvs, opvo, opvp, abuiltin, aun, Gx, if_true, if_false, and_true, decide_true, decide_false, abin, isShift, aint, roV, pair, bind, Option.bind, acall, Sx, n0, q0, q2, Qx, Hx, c0, c1, e1] | skip); with_reducible rfl)))
      | ((apply FC.skipG rfl rfl); (focus (simp (config := {decide := true}) only [Gx, if_true, if_false, and_true, Sx, decide_true, decide_false, n0, q0, q2, Qx, Hx, c0, c1, e1]; done)))
      | ((apply FC.new rfl rfl); (focus ((first | simp (config := {decide := true}) only [awant, ayield_get, oper1, aop, opv, opvs, opvo, opvp, abuiltin, aun, Gx, if_true, if_false, and_true, decide_true, decide_false, abin, isShift, aint, roV, pair, bind, Option.bind, acall, Sx, n0, q0, q2, Qx, Hx, c0, c1, e1] | skip); with_reducible rfl)))))
      refine FC.nil ?_
      repeat' (first
    | (with_reducible apply Wc.seq)
    | (apply Wc.ops; (focus ((repeat' (first
      | with_reducible exact RO.nil
      | ((with_reducible apply RO.run (awant_none rfl)); (focus ((first | simp (config := {decide := true}) only [awant, ayield_get, oper1, aop, opv, opvs, opvo, opvp, abuiltin, aun, Gx, if_true, if_false, and_true, decide_true, decide_false, abin, isShift, aint, roV, pair, bind, Option.bind, acall, Sx, n0] | skip); with_reducible rfl))))); done)))
    | (refine Wc.cond2 (by simp (config := {decide := true}) only [opv, Gx, if_true, if_false, and_true, decide_true, decide_false, Sx, n0]; try with_reducible rfl) (fun hb => ?_) (fun hb => ?_) <;> try contradiction)
    | refine Wc.skip ?_
    | refine Wc.ret ?_
    | refine Wc.exit ?_
    | refine Wc.block ?_)
      refine Wc.drawQ nf (by kernel_rfl) ?_
      (iterate 8 (first
      | ((apply FQ.pure rfl rfl); (focus ((first | simp (config := {decide := true}) only [awant, ayield_get, oper1, aop, opv, opvs, opvo, opvp, abuiltin, aun, Gx, if_true, if_false, and_true, decide_true, decide_false, abin, isShift, aint, roV, pair, bind, Option.bind, acall, Sx, n0, q0, Qx, Hx, c1] | skip); with_reducible rfl)))
      | ((apply FQ.new rfl rfl); (focus ((first | simp (config := {decide := true}) only [awant, ayield_get, oper1, aop, opv, opvs, opvo, opvp, abuiltin, aun, Gx, if_true, if_false, and_true, decide_true, decide_false, abin, isShift, aint, roV, pair, bind, Option.bind, acall, Sx, n0, q0, Qx, Hx, c1] | skip); with_reducible rfl)))))
      refine FQ.mod (h1 := g') (x := .bool false) rfl rfl (by simp (config := {decide := true}) only [awant, ayield_get, oper1, aop, opv, opvs, opvo, opvp, abuiltin, aun, Gx, if_true, if_false, and_true, decide_true, decide_false, abin, isShift, aint, roV, pair, bind, Option.bind, acall, Sx, n0, q0, Qx, Hx, ck]) ?_
      rw [hh4]
      (iterate 1 (first
      | ((apply FQ.pure rfl rfl); (focus ((first | simp (config := {decide := true}) only [awant, ayield_get, oper1, aop, opv, opvs, opvo, opvp, abuiltin, aun, Gx, if_true, if_false, and_true, decide_true, decide_false, abin, isShift, aint, roV, pair, bind, Option.bind, acall, Sx, n0, q0] | skip); with_reducible rfl)))
      | ((apply FQ.new rfl rfl); (focus ((first | simp (config := {decide := true}) only [awant, ayield_get, oper1, aop, opv, opvs, opvo, opvp, abuiltin, aun, Gx, if_true, if_false, and_true, decide_true, decide_false, abin, isShift, aint, roV, pair, bind, Option.bind, acall, Sx, n0, q0] | skip); with_reducible rfl)))))
      refine FQ.nil ⟨?_, ?_⟩
      · exact allMeet_but0 [8] 10 rfl rfl (by kernel_rfl)
      repeat' (first
    | (with_reducible apply Wc.seq)
    | (apply Wc.ops; (focus ((repeat' (first
      | with_reducible exact RO.nil
      | ((with_reducible apply RO.run (awant_none rfl)); (focus ((first | simp (config := {decide := true}) only [awant, ayield_get, oper1, aop, opv, opvs, opvo, opvp, abuiltin, aun, Gx, if_true, if_false, and_true, decide_true, decide_false, abin, isShift, aint, roV, pair, bind, Option.bind, acall, Sx, n0] | skip); with_reducible rfl))))); done)))
    | (refine Wc.cond2 (by simp (config := {decide := true}) only [opv, Gx, if_true, if_false, and_true, decide_true, decide_false, Sx, n0]; try with_reducible rfl) (fun hb => ?_) (fun hb => ?_) <;> try contradiction)
    | refine Wc.skip ?_
    | refine Wc.ret ?_
    | refine Wc.exit ?_
    | refine Wc.block ?_)
      refine Wc.drawQ 1 (by kernel_rfl) ?_
      (iterate 11 (first
      | ((apply FQ.pure rfl rfl); (focus ((first | simp (config := {decide := true}) only [awant, ayield_get, oper1, aop, opv, opvs, opvo, opvp, abuiltin, aun, Gx, if_true, if_false, and_true, decide_true, decide_false, abin, isShift, aint, roV, pair, bind, Option.bind, acall, Sx, n0, q0, Qx, Hx, d1, d2, qbu25z] | skip); with_reducible rfl)))
      | ((apply FQ.new rfl rfl); (focus ((first | simp (config := {decide := true}) only [awant, ayield_get, oper1, aop, opv, opvs, opvo, opvp, abuiltin, aun, Gx, if_true, if_false, and_true, decide_true, decide_false, abin, isShift, aint, roV, pair, bind, Option.bind, acall, Sx, n0, q0, Qx, Hx, d1, d2, qbu25z] | skip); with_reducible rfl)))))
      refine FQ.setl (k := h1.next) rfl rfl lt3 (by simp (config := {decide := true}) only [awant, ayield_get, oper1, aop, opv, opvs, opvo, opvp, abuiltin, aun, Gx, if_true, if_false, and_true, decide_true, decide_false, abin, isShift, aint, roV, pair, bind, Option.bind, acall, Sx, n0, s3]; with_reducible rfl) ?_
      rw [hh3]
      (iterate 2 (first
      | ((apply FQ.pure rfl rfl); (focus ((first | simp (config := {decide := true}) only [awant, ayield_get, oper1, aop, opv, opvs, opvo, opvp, abuiltin, aun, Gx, if_true, if_false, and_true, decide_true, decide_false, abin, isShift, aint, roV, pair, bind, Option.bind, acall, Sx, n0] | skip); with_reducible rfl)))
      | ((apply FQ.new rfl rfl); (focus ((first | simp (config := {decide := true}) only [awant, ayield_get, oper1, aop, opv, opvs, opvo, opvp, abuiltin, aun, Gx, if_true, if_false, and_true, decide_true, decide_false, abin, isShift, aint, roV, pair, bind, Option.bind, acall, Sx, n0] | skip); with_reducible rfl)))))
      refine FQ.nil ⟨?_, ?_⟩
      · exact allMeet_but [11] 14 [(1, 11), (2, 11), (3, 11), (4, 11), (6, 11), (7, 11), (8, 11), (9, 11), (5, 11), (10, 11)] rfl rfl (by kernel_rfl) (fun _ _ _ _ hU e1 e2 => by simp only [List.mem_cons, Prod.mk.injEq, List.not_mem_nil, or_false] at hU; rcases hU with ⟨rfl, rfl⟩ | ⟨rfl, rfl⟩ | ⟨rfl, rfl⟩ | ⟨rfl, rfl⟩ | ⟨rfl, rfl⟩ | ⟨rfl, rfl⟩ | ⟨rfl, rfl⟩ | ⟨rfl, rfl⟩ | ⟨rfl, rfl⟩ | ⟨rfl, rfl⟩; (focus (cases e1; cases e2; exact meets_right (l := []) rfl rfl (fun _ _ => List.not_mem_nil) rfl (fun j _ => Nat.lt_or_ge _ _))); (focus (cases e1; cases e2; exact meets_right (l := []) rfl rfl (fun _ _ => List.not_mem_nil) rfl (fun j _ => Nat.lt_or_ge _ _))); (focus (cases e1; cases e2; exact meets_right (l := []) rfl rfl (fun _ _ => List.not_mem_nil) rfl (fun j _ => Nat.lt_or_ge _ _))); (focus (cases e1; cases e2; exact meets_right (l := []) rfl rfl (fun _ _ => List.not_mem_nil) rfl (fun j _ => Nat.lt_or_ge _ _))); (focus (cases e1; cases e2; exact meets_right (l := []) rfl rfl (fun _ _ => List.not_mem_nil) rfl (fun j _ => Nat.lt_or_ge _ _))); (focus (cases e1; cases e2; exact meets_right (l := []) rfl rfl (fun _ _ => List.not_mem_nil) rfl (fun j _ => Nat.lt_or_ge _ _))); (focus (cases e1; cases e2; exact meets_right (l := []) rfl rfl (fun _ _ => List.not_mem_nil) rfl (fun j _ => Nat.lt_or_ge _ _))); (focus (cases e1; cases e2; exact meets_right (l := []) rfl rfl (fun _ _ => List.not_mem_nil) rfl (fun j _ => Nat.lt_or_ge _ _))); (focus (cases e1; cases e2; exact meets_right (l := [k]) rfl (by simp (config := {decide := true}) only [awant, ayield_get, oper1, aop, opv, opvs, opvo, opvp, abuiltin, aun, Gx, if_true, if_false, and_true, decide_true, decide_false, abin, isShift, aint, roV, pair, bind, Option.bind, acall, Sx, reads, pureOp, atV, n0, q0, aadd, own]) (fun j hj => by have hj := List.mem_singleton.1 hj; subst hj; simp only [List.mem_singleton]; omega) rfl (fun j _ => Nat.lt_or_ge _ _))); (focus (cases e1; cases e2; exact meets_right (l := [k]) rfl (by simp (config := {decide := true}) only [awant, ayield_get, oper1, aop, opv, opvs, opvo, opvp, abuiltin, aun, Gx, if_true, if_false, and_true, decide_true, decide_false, abin, isShift, aint, roV, pair, bind, Option.bind, acall, Sx, reads, pureOp, atV, n0, q0, aadd, own]) (fun j hj => by have hj := List.mem_singleton.1 hj; subst hj; simp only [List.mem_singleton]; omega) rfl (fun j _ => Nat.lt_or_ge _ _))))
      refine Wc.ret ?_
      exact done_c3 (v := .agg ⟨zeroL⟩) (x := .int .i64 (p : Nat)) (y := .int .i64 4) (.inr rfl) (by simp (config := {decide := true}) only [Gx, if_true, if_false, and_true, Sx, d0]) rfl (show _ = Value.pointer (some (own h1.next)) by simp (config := {decide := true}) only [Gx, if_true, if_false, and_true, Sx, n0]) (by rw [qld25, l3']) (by simp (config := {decide := true}) only [Gx, if_true, if_false, and_true, Sx, n0]) (by simp (config := {decide := true}) only [Gx, if_true, if_false, and_true, Sx, n0]) ⟨m3, by rw [if_pos rfl, if_pos hlt]⟩
    · have e1 : decide ((p : Int) < (bs.length : Int)) = false := by simp; omega
      have s3 := st6 hl1 b6
      have m3 := (Mod.refl (M := fun j => j = h1.next) t12.fit).setl (B := .cells [l0, l1, l2, l3] 25 none) rfl rfl (t12.fit.lt b6)
      have l4 : h2.cells E (own g.next) 4 = some [l0, l1, l2, l3] := blk_cells b4 rfl hl1
      repeat' (first
    | (with_reducible apply Wc.seq)
    | (apply Wc.ops; (focus ((repeat' (first
      | with_reducible exact RO.nil
      | ((with_reducible apply RO.run (awant_none rfl)); (focus ((first | simp (config := {decide := true}) only [awant, ayield_get, oper1, aop, opv, opvs, opvo, opvp, abuiltin, aun, Gx, if_true, if_false, and_true, decide_true, decide_false, abin, isShift, aint, roV, pair, bind, Option.bind, acall, Sx, n0, q0, q1, q2, qtz25, hh1, hh2] | skip); with_reducible rfl))))); done)))
    | (refine Wc.cond2 (by simp (config := {decide := true}) only [opv, Gx, if_true, if_false, and_true, decide_true, decide_false, Sx, n0, q0, q1, q2, qtz25, hh1, hh2]; try with_reducible rfl) (fun hb => ?_) (fun hb => ?_) <;> try contradiction)
    | refine Wc.skip ?_
    | refine Wc.ret ?_
    | refine Wc.exit ?_
    | refine Wc.block ?_)
      refine Wc.drawC 1 (by kernel_rfl) ?_
      (iterate 15 (first
      | ((apply FC.pure rfl rfl); (focus ((first | simp (config := {decide := true}) only [awant, ayield_get, oper1, aop, opv, opvs, opvo, opvp, abuiltin, aun, Gx, if_true, if_false, and_true, decide_true, decide_false, abin, isShift, aint, roV, pair, bind, Option.bind, acall, Sx, n0, q0, q2, Qx, Hx, c0, c1, e1] | skip); with_reducible rfl)))
      | ((apply FC.pureG rfl rfl); (focus (simp (config := {decide := true}) only [Gx, if_true, if_false, and_true, Sx, decide_true, decide_false, n0, q0, q2, Qx, Hx, c0, c1, e1]; done)); (focus rfl); (focus ((first | simp (config := {decide := true}) only [awant, ayield_get, oper1, aop, opv, opvs, opvo, opvp, abuiltin, aun, Gx, if_true, if_false, and_true, decide_true, decide_false, abin, isShift, aint, roV, pair, bind, Option.bind, acall, Sx, n0, q0, q2, Qx, Hx, c0, c1, e1] | skip); with_reducible rfl)))
      | ((apply FC.skipG rfl rfl); (focus (simp (config := {decide := true}) only [Gx, if_true, if_false, and_true, Sx, decide_true, decide_false, n0, q0, q2, Qx, Hx, c0, c1, e1]; done)))
      | ((apply FC.new rfl rfl); (focus ((first | simp (config := {decide := true}) only [awant, ayield_get, oper1, aop, opv, opvs, opvo, opvp, abuiltin, aun, Gx, if_true, if_false, and_true, decide_true, decide_false, abin, isShift, aint, roV, pair, bind, Option.bind, acall, Sx, n0, q0, q2, Qx, Hx, c0, c1, e1] | skip); with_reducible rfl)))))
      refine FC.nil ?_
      repeat' (first
    | (with_reducible apply Wc.seq)
    | (apply Wc.ops; (focus ((repeat' (first
      | with_reducible exact RO.nil
      | ((with_reducible apply RO.run (awant_none rfl)); (focus ((first | simp (config := {decide := true}) only [awant, ayield_get, oper1, aop, opv, opvs, opvo, opvp, abuiltin, aun, Gx, if_true, if_false, and_true, decide_true, decide_false, abin, isShift, aint, roV, pair, bind, Option.bind, acall, Sx, n0, q2, Qx, Hx, l4, s3] | skip); with_reducible rfl))))); done)))
    | (refine Wc.cond2 (by simp (config := {decide := true}) only [opv, Gx, if_true, if_false, and_true, decide_true, decide_false, Sx, n0, q2, Qx, Hx, l4, s3]; try with_reducible rfl) (fun hb => ?_) (fun hb => ?_) <;> try contradiction)
    | refine Wc.skip ?_
    | refine Wc.ret ?_
    | refine Wc.exit ?_
    | refine Wc.block ?_)
      exact done_c3 (v := .agg ⟨[l0, l1, l2, l3]⟩) (x := .int .i64 0) (y := .int .i64 0) (.inr rfl) (by simp (config := {decide := true}) only [Gx, if_true, if_false, and_true, Sx, d0]) rfl (show _ = Value.pointer (some (own h1.next)) by simp (config := {decide := true}) only [Gx, if_true, if_false, and_true, Sx, n0]) (by rw [qld25, ld6 hl1]) (by simp (config := {decide := true}) only [Gx, if_true, if_false, and_true, Sx, n0]) (by simp (config := {decide := true}) only [Gx, if_true, if_false, and_true, Sx, n0]) ⟨Mod.low f (t12.mod.trans (m3.sub (N := fun j => j = k ∨ g.next ≤ j) fun j hj => .inr (by omega))) (fun _ h => h), by rw [if_pos rfl, if_neg hlt]⟩
end Go.Proofs.YtofijpbmbmbnhaaDoor
/- The program's reader: the item of bytes, as a whole. -/
set_option maxRecDepth 100000
set_option maxHeartbeats 16000000
namespace Go.Proofs.YtofijpbmbmbnhaaDoor
open Go Go.Hs Go.Proofs
variable {E : Env} {I : Known}

/-- What reading gives. -/
def DecQ (E : Env) (r : Rd Hs.Item) (v : Value) (g : H) : Prop := match r with
  | .ok t _ _ => ∃ l, v = .tuple #[.agg ⟨l⟩, .int .i64 0, .int .i64 0] ∧ rep E g t (.agg ⟨l⟩)
  | .bad p e => v = .tuple #[.agg ⟨zeroL⟩, .int .i64 (p : Nat), .int .i64 e]

theorem dec16 (hI : ∀ f args h, (f = 16 ∨ f = 49 ∨ f = 56 ∨ f = 120 ∨ f = 119 ∨ f = 118 ∨ f = 117 ∨ f = 90 ∨ f = 82 ∨ f = 81) → I f args h = none) {g : H} {v : Value} {bs : List UInt8} (f : Fit g) (hb : Byt E g v bs) (hl : bs.length ≤ 1000000) :
    ∃ n x g', (ev tab E I n).call 16 [v] g = some (x, g') ∧ (Mod (fun _ => False) g g' ∧ DecQ E (decR bs) x g') := by
  obtain ⟨va, vc, hv⟩ := hb.slice
  refine Wc.call (hI _ _ _ (.inl rfl)) fn16 rfl ?_
  generalize hA0 : (⟨T.ofList [v] 0 .nil, max ([v] : List Value).length Tryd.f16.ntmps, []⟩ : Ac) = A0
  have n0 : A0.n = 21 := by rw [← hA0]; rfl
  have q0 : A0.get 0 = v := by rw [← hA0]; rfl
  have d0 : A0.defers = [] := by rw [← hA0]
  clear hA0
  generalize hh1 : g.new (.cells (Value.agg #[.int .i64 0, .int .i64 0, .string ⟨#[]⟩, .slice none 0 0]).cells.toList 25 none) = h1
  have t1 : Ahd g h1 := by rw [← hh1]; exact Ahd.new0 f rfl
  have b2 : h1.blk g.next = some (.cells zeroL 25 none) := by rw [← hh1]; exact new_blk_new rfl
  have ln : alen tab 31 v h1 = some (.int .i64 (bs.length : Nat)) := by rw [hv]; exact qlen31 _ _ _
  have st : ∀ {h : H} {l : List Value}, l.length = 4 → l.all isOne = true → h.blk g.next = some (.cells zeroL 25 none) → astore tab 25 (own g.next) (.agg ⟨l⟩) h = some (h.setl g.next (.cells l 25 none)) := fun h4 ho hb => astore_all qty25 hb (by rw [h4]) (by rw [h4]; rfl) ho (by intro e; rw [e] at h4; simp at h4)
  have ld : ∀ {h : H} {l : List Value}, l.length = 4 → l.all isOne = true → (h.setl g.next (.cells l 25 none)).cells E (own g.next) 4 = some l := fun h4 ho => blk_cells (setl_same rfl) h4 ho
  unfold decR
  by_cases hlong : 65536 < bs.length
  · have e1 : decide ((bs.length : Int) > 65536) = true := by simp; omega
    have s1 := st (l := zeroL) rfl rfl b2
    have m1 := (Mod.refl (M := fun j => j = g.next) t1.fit).setl (B := .cells zeroL 25 none) rfl rfl (t1.fit.lt b2)
    repeat' (first
    | (with_reducible apply Wc.seq)
    | (apply Wc.ops; (focus ((repeat' (first
      | with_reducible exact RO.nil
      | ((with_reducible apply RO.run (awant_none rfl)); (focus ((first | simp (config := {decide := true}) only [awant, ayield_get, oper1, aop, opv, opvs, opvo, opvp, abuiltin, aun, Gx, if_true, if_false, and_true, decide_true, decide_false, abin, isShift, aint, roV, pair, bind, Option.bind, acall, Sx, n0, q0, qtz25, hh1, ln, e1, qbu25z, s1] | skip); with_reducible rfl))))); done)))
    | (refine Wc.cond2 (by simp (config := {decide := true}) only [opv, Gx, if_true, if_false, and_true, decide_true, decide_false, Sx, n0, q0, qtz25, hh1, ln, e1, qbu25z, s1]; try with_reducible rfl) (fun hb => ?_) (fun hb => ?_) <;> try contradiction)
    | refine Wc.skip ?_
    | refine Wc.ret ?_
    | refine Wc.exit ?_
    | refine Wc.block ?_)
    rw [if_pos hlong]
    exact done_c3 (v := .agg ⟨zeroL⟩) (x := .int .i64 0) (y := .int .i64 11) (.inr rfl) (by simp (config := {decide := true}) only [Gx, if_true, if_false, and_true, Sx, d0]) rfl (show _ = Value.pointer (some (own g.next)) by simp (config := {decide := true}) only [Gx, if_true, if_false, and_true, Sx, n0]) (by rw [qld25, ld rfl rfl]) (by simp (config := {decide := true}) only [Gx, if_true, if_false, and_true, Sx, n0]) (by simp (config := {decide := true}) only [Gx, if_true, if_false, and_true, Sx, n0]) ⟨Mod.low f (t1.mod.trans m1) (fun j hj => .inr (by omega)), rfl⟩
  have e1 : decide ((bs.length : Int) > 65536) = false := by simp; omega
  rw [if_neg hlong]
  have cv := qcv31_9 (hb.grow t1.grows)
  have bu := qbu84 (.string ⟨⟨bs⟩⟩) rfl
  have bv := qbu86 (.string ⟨⟨bs⟩⟩) (.int .i64 0) (.int .i64 0)
  generalize hh2 : h1.new (.cells (Value.agg #[.string ⟨#[]⟩, .int .i64 0, .int .i64 0, .int .i64 0]).cells.toList 86 none) = h2
  have t2 : Ahd h1 h2 := by rw [← hh2]; exact Ahd.new0 t1.fit rfl
  have b5 : h2.blk h1.next = some (.cells [.string ⟨#[]⟩, .int .i64 0, .int .i64 0, .int .i64 0] 86 none) := by rw [← hh2]; exact new_blk_new rfl
  have s5 : astore tab 86 (own h1.next) (.agg ⟨[.string ⟨⟨bs⟩⟩, .int .i64 0, .int .i64 0, .int .i64 0]⟩) h2 = some (h2.setl h1.next (.cells [.string ⟨⟨bs⟩⟩, .int .i64 0, .int .i64 0, .int .i64 0] 86 none)) := astore_all qty86 b5 rfl rfl rfl (by simp)
  have t3 : Ahd h1 (h2.setl h1.next (.cells [.string ⟨⟨bs⟩⟩, .int .i64 0, .int .i64 0, .int .i64 0] 86 none)) := t2.setl rfl (Nat.le_refl _) (t2.fit.lt b5) t1.fit
  have b5 : Src h1.next bs 0 0 0 (h2.setl h1.next (.cells [.string ⟨⟨bs⟩⟩, .int .i64 0, .int .i64 0, .int .i64 0] 86 none)) := setl_same rfl
  generalize h2.setl h1.next (.cells [.string ⟨⟨bs⟩⟩, .int .i64 0, .int .i64 0, .int .i64 0] 86 none) = h3 at s5 t3 b5
  have b23 := t3.grows _ _ b2
  have lt1 := t1.fit.lt b2
  obtain ⟨n1, v1, h4, c4, l, z, rfl, m4, hq⟩ := item56 (E := E) (I := I) (fun f args h hf => hI f args h (by rcases hf with h | h | h | h | h | h | h | h <;> simp [h])) hl 250 (Nat.le_refl _) h3 0 0 t3.fit b5 (Nat.zero_le _) (by decide)
  have c4' : (ev tab E I n1).call 56 [.pointer (some (own h1.next)), .int .i64 1] h3 = some (.tuple #[.agg ⟨l⟩, z], h4) := c4
  have hl4 : l.length = 4 ∧ l.all isOne = true := by
    unfold ItemQ at hq
    split at hq
    · obtain ⟨_, _, _, _, rfl, h⟩ := item_four hq.2.2
      exact ⟨rfl, h⟩
    · rw [hq.2.1]; exact ⟨rfl, rfl⟩
  have rok := rdItem_ok bs 250
  have fin : ∀ (is : Bool) (p : Nat) (e : Int) (it : Nat), z = .bool is → Src h1.next bs p e it h4 → p ≤ bs.length → ∀ (l5 : List Value) (x y : Int), l5.length = 4 → l5.all isOne = true → (if is = true then (if p < bs.length then .tuple #[.agg ⟨zeroL⟩, .int .i64 (p : Nat), .int .i64 4] else .tuple #[.agg ⟨l⟩, .int .i64 0, .int .i64 0]) else .tuple #[.agg ⟨zeroL⟩, .int .i64 (p : Nat), .int .i64 e]) = Value.tuple #[.agg ⟨l5⟩, .int .i64 x, .int .i64 y] → (∀ h, Grows (only (fun r => Nat.ble h3.next r) h4) h → DecQ E (match rdItem bs 250 0 0 with | .bad p e => .bad p e | .ok t p items => if p < bs.length then .bad p 4 else .ok t p items) (.tuple #[.agg ⟨l5⟩, .int .i64 x, .int .i64 y]) h) →
      Wc tab E I ⟨16, none⟩ (match Tryd.f16.body with | some c => c | none => .skip) A0 g (fun ex A h => (ex = .normal ∨ ex = .ret) ∧ ∃ h2 v, takeAll A.defers h = some h2 ∧ ares tab E Tryd.f16 A h2 = some v ∧ (Mod (fun _ => False) g h2 ∧ DecQ E (match rdItem bs 250 0 0 with | .bad p e => .bad p e | .ok t p items => if p < bs.length then .bad p 4 else .ok t p items) v h2)) := by
    intro is p e it hz bb hp l5 x y hl5 ho5 hv5 hQ
    subst hz
    obtain ⟨n2, v2, h5, c5, m5, hv2⟩ := whole49 (E := E) (I := I) (fun f args h hf => hI f args h (by rcases hf with h | h <;> simp [h])) m4.fit bb hp is l hl4.1 hl4.2
    rw [hv5] at hv2
    subst hv2
    have b25 := m5.blk _ _ (by omega) (m4.blk _ _ (by omega) b23)
    have s6 := st hl5 ho5 b25
    have m6 := (Mod.refl (M := fun j => j = g.next) m5.fit).setl (B := .cells l5 25 none) rfl rfl (m5.fit.lt b25)
    have c4f := (ev_mono (D := tab) (E := E) I (Nat.le_max_left n1 n2)).call c4'
    have c5f := (ev_mono (D := tab) (E := E) I (Nat.le_max_right n1 n2)).call c5
    simp only [Tryd.f16]
    repeat' (first
    | (with_reducible apply Wc.seq)
    | (apply Wc.ops; (focus ((repeat' (first
      | with_reducible exact RO.nil
      | ((with_reducible apply RO.run (awant_none rfl)); (focus ((first | simp (config := {decide := true}) only [awant, ayield_get, oper1, aop, opv, opvs, opvo, opvp, abuiltin, aun, Gx, if_true, if_false, and_true, decide_true, decide_false, abin, isShift, aint, roV, pair, bind, Option.bind, acall, Sx, n0, q0, qtz25, hh1, ln, e1, cv, bu, bv, qtz86, hh2, s5] | skip); with_reducible rfl))))); done)))
    | (refine Wc.cond2 (by simp (config := {decide := true}) only [opv, Gx, if_true, if_false, and_true, decide_true, decide_false, Sx, n0, q0, qtz25, hh1, ln, e1, cv, bu, bv, qtz86, hh2, s5]; try with_reducible rfl) (fun hb => ?_) (fun hb => ?_) <;> try contradiction)
    | refine Wc.skip ?_
    | refine Wc.ret ?_
    | refine Wc.exit ?_
    | refine Wc.block ?_)
    repeat' (first
    | (with_reducible apply Wc.seq)
    | (apply Wc.opsN (max n1 n2); (focus ((repeat' (first
      | with_reducible exact RO.nil
      | ((with_reducible apply RO.run (awant_none rfl)); (focus ((first | simp (config := {decide := true}) only [awant, ayield_get, oper1, aop, opv, opvs, opvo, opvp, abuiltin, aun, Gx, if_true, if_false, and_true, decide_true, decide_false, abin, isShift, aint, roV, pair, bind, Option.bind, acall, Sx, n0, c4f, c5f, s6] | skip); with_reducible rfl))))); done)))
    | (refine Wc.cond2 (by simp (config := {decide := true}) only [opv, Gx, if_true, if_false, and_true, decide_true, decide_false, Sx, n0, c4f, c5f, s6]; try with_reducible rfl) (fun hb => ?_) (fun hb => ?_) <;> try contradiction)
    | refine Wc.skip ?_
    | refine Wc.ret ?_
    | refine Wc.exit ?_
    | refine Wc.block ?_)
    refine done_c3 (v := .agg ⟨l5⟩) (x := .int .i64 x) (y := .int .i64 y) (.inr rfl) (by simp (config := {decide := true}) only [Gx, if_true, if_false, and_true, Sx, d0]) rfl (show _ = Value.pointer (some (own g.next)) by simp (config := {decide := true}) only [Gx, if_true, if_false, and_true, Sx, n0]) (by rw [qld25, ld hl5 ho5]) (by simp (config := {decide := true}) only [Gx, if_true, if_false, and_true, Sx, n0]) (by simp (config := {decide := true}) only [Gx, if_true, if_false, and_true, Sx, n0]) ⟨?_, ?_⟩
    · refine Mod.low f (((t1.mod.trans t3.mod).trans ((m4.trans m5).sub (N := fun j => g.next ≤ j) fun j hj => by omega)).trans (m6.sub fun j hj => by omega)) (fun j hj => .inr hj)
    · refine hQ _ (fun j B hj => ?_)
      obtain ⟨e1, ys, ty, r, o, rfl, e2⟩ := (only_blk m4.fit).1 hj
      refine m6.blk _ _ (fun e => ?_) (m5.blk _ _ (fun e => ?_) e1)
      · subst e
        have := m4.blk _ _ (by omega) b23
        rw [this] at e1
        cases e1
      · subst e
        rw [show h4.blk h1.next = _ from bb] at e1
        cases e1
  generalize hr : rdItem bs 250 0 0 = r at hq fin
  cases r with
  | bad p e =>
    obtain ⟨rfl, rfl, it, bb⟩ := hq
    exact fin false p e it rfl bb (rok.2 _ _ _ _ hr (Nat.zero_le _)).2 zeroL p e rfl rfl (by simp) (fun h _ => rfl)
  | ok t p it =>
    obtain ⟨rfl, bb, hrt⟩ := hq
    have hp := (rok.1 _ _ _ _ _ hr).2.1
    by_cases hlt : p < bs.length
    · refine fin true p 0 it rfl bb hp zeroL p 4 rfl rfl (by rw [if_pos rfl, if_pos hlt]) (fun h _ => ?_)
      simp only [if_pos hlt]
      rfl
    · refine fin true p 0 it rfl bb hp l 0 0 hl4.1 hl4.2 (by rw [if_pos rfl, if_neg hlt]) (fun h hg => ?_)
      simp only [if_neg hlt]
      exact ⟨l, rfl, rep_grow hg hrt⟩
end Go.Proofs.YtofijpbmbmbnhaaDoor
/- The program's reader: the items of bytes. -/
set_option maxRecDepth 100000
set_option maxHeartbeats 16000000
namespace Go.Proofs.YtofijpbmbmbnhaaDoor
open Go Go.Hs Go.Proofs
variable {E : Env} {I : Known}

theorem fn18 : tab.fn.get 18 = some Tryd.f18 := by kernel_rfl
noncomputable def loop18 : Code := loopOf Tryd.f18

theorem done_tmp3q {D : Tab} {E : Env} {fn : Func} {A : Ac} {h : H} {t u s : Tmp} {v x y : Value} {ex : Ex} {Q : Value → H → Prop} (hex : ex = .normal ∨ ex = .ret) (hd : A.defers = []) (hr : fn.results = #[.tmp t, .tmp u, .tmp s]) (hv : A.get t = v) (hx : A.get u = x) (hy : A.get s = y) (hq : Q (.tuple #[v, x, y]) h) :
    (ex = .normal ∨ ex = .ret) ∧ ∃ h2 v', takeAll A.defers h = some h2 ∧ ares D E fn A h2 = some v' ∧ Q v' h2 := by
  refine ⟨hex, h, _, ?_, ?_, hq⟩
  · rw [hd]; rfl
  · unfold ares
    rw [hr]
    simp only [aresL, ares1, hv, hx, hy]
/-- What reading items gives. -/
def SplQ (E : Env) (r : Rd (List Hs.Item)) (v : Value) (g : H) : Prop := match r with
  | .ok l _ _ => ∃ sl, v = .tuple #[sl, .int .i64 0, .int .i64 0] ∧ repK E g l sl
  | .bad p e => v = .tuple #[.slice none 0 0, .int .i64 (p : Nat), .int .i64 e]
theorem splR_len {bs : List UInt8} : ∀ (k pos : Nat) (acc l : List Hs.Item) (p it : Nat), splL bs k pos acc = .ok l p it → l.length ≤ acc.length + k
  | 0, pos, acc, l, p, it, h => by rw [splL] at h; cases h; exact Nat.le_refl _
  | k + 1, pos, acc, l, p, it, h => by
    rw [splL] at h
    split at h
    · split at h
      · cases h
      · have := splR_len k _ _ _ _ _ h
        rw [List.length_append, List.length_singleton] at this
        omega
    · cases h; omega

theorem split18 (hI : ∀ f args h, (f = 18 ∨ f = 56 ∨ f = 120 ∨ f = 119 ∨ f = 118 ∨ f = 117 ∨ f = 90 ∨ f = 82 ∨ f = 81) → I f args h = none) {g : H} {v : Value} {bs : List UInt8} (f : Fit g) (hb : Byt E g v bs) (hl : bs.length ≤ 1000000) :
    ∃ n x g', (ev tab E I n).call 18 [v] g = some (x, g') ∧ (Mod (fun _ => False) g g' ∧ SplQ E (splR bs) x g') := by
  obtain ⟨va, vc, hv⟩ := hb.slice
  have ln : ∀ h, alen tab 31 v h = some (.int .i64 (bs.length : Nat)) := fun h => by rw [hv]; exact qlen31 _ _ _
  refine Wc.call (hI _ _ _ (.inl rfl)) fn18 rfl ?_
  generalize hA0 : (⟨T.ofList [v] 0 .nil, max ([v] : List Value).length Tryd.f18.ntmps, []⟩ : Ac) = A0
  have n0 : A0.n = 42 := by rw [← hA0]; rfl
  have q0 : A0.get 0 = v := by rw [← hA0]; rfl
  have d0 : A0.defers = [] := by rw [← hA0]
  clear hA0
  unfold splR
  by_cases hlong : 65536 < bs.length
  · have e1 : decide ((bs.length : Int) > 65536) = true := by simp; omega
    repeat' (first
    | (with_reducible apply Wc.seq)
    | (apply Wc.ops; (focus ((repeat' (first
      | with_reducible exact RO.nil
      | ((with_reducible apply RO.run (awant_none rfl)); (focus ((first | simp (config := {decide := true}) only [awant, ayield_get, oper1, aop, opv, opvs, opvo, opvp, abuiltin, aun, Gx, if_true, if_false, and_true, decide_true, decide_false, abin, isShift, aint, roV, pair, bind, Option.bind, acall, Sx, n0, q0, ln, e1] | skip); with_reducible rfl))))); done)))
    | (refine Wc.cond2 (by simp (config := {decide := true}) only [opv, Gx, if_true, if_false, and_true, decide_true, decide_false, Sx, n0, q0, ln, e1]; try with_reducible rfl) (fun hb => ?_) (fun hb => ?_) <;> try contradiction)
    | refine Wc.skip ?_
    | refine Wc.ret ?_
    | refine Wc.exit ?_
    | refine Wc.block ?_)
    rw [if_pos hlong]
    exact done_tmp3q (v := .slice none 0 0) (x := .int .i64 0) (y := .int .i64 11) (.inr rfl) (by simp (config := {decide := true}) only [Gx, if_true, if_false, and_true, Sx, d0]) rfl (by simp (config := {decide := true}) only [Gx, if_true, if_false, and_true, Sx, n0]) (by simp (config := {decide := true}) only [Gx, if_true, if_false, and_true, Sx, n0]) (by simp (config := {decide := true}) only [Gx, if_true, if_false, and_true, Sx, n0]) ⟨Mod.refl f, rfl⟩
  have e1 : decide ((bs.length : Int) > 65536) = false := by simp; omega
  rw [if_neg hlong]
  have cv := qcv31_9 hb
  have bu := qbu84 (.string ⟨⟨bs⟩⟩) rfl
  generalize hh1 : g.new (.cells (Value.agg #[.string ⟨#[]⟩, .int .i64 0, .int .i64 0]).cells.toList 84 none) = h1
  have t1 : Ahd g h1 := by rw [← hh1]; exact Ahd.new0 f rfl
  have b5 : h1.blk g.next = some (.cells [.string ⟨#[]⟩, .int .i64 0, .int .i64 0] 84 none) := by rw [← hh1]; exact new_blk_new rfl
  have s5 : astore tab 84 (own g.next) (.agg ⟨[.string ⟨⟨bs⟩⟩, .int .i64 0, .int .i64 0]⟩) h1 = some (h1.setl g.next (.cells [.string ⟨⟨bs⟩⟩, .int .i64 0, .int .i64 0] 84 none)) := astore_all qty84 b5 rfl rfl rfl (by simp)
  have t2 : Ahd g (h1.setl g.next (.cells [.string ⟨⟨bs⟩⟩, .int .i64 0, .int .i64 0] 84 none)) := t1.setl rfl (Nat.le_refl _) (t1.fit.lt b5) f
  have b5 := setl_same (h := h1) (k := g.next) (B := .cells [.string ⟨⟨bs⟩⟩, .int .i64 0, .int .i64 0] 84 none) rfl
  generalize h1.setl g.next (.cells [.string ⟨⟨bs⟩⟩, .int .i64 0, .int .i64 0] 84 none) = h2 at s5 t2 b5
  have rok := rdItem_ok bs 250
  have key : ∀ (r p : Nat) (acc : List Hs.Item) (sl : Value) (A0 : Ac) (h : H), bs.length - p ≤ r → p ≤ bs.length → acc.length ≤ p → A0.n = 42 → A0.defers = [] → A0.get 0 = v → A0.get 5 = .pointer (some (own g.next)) → A0.get 6 = sl →
      Mod (fun j => g.next ≤ j) g h → h.blk g.next = some (.cells [.string ⟨⟨bs⟩⟩, .int .i64 (p : Nat), .int .i64 0] 84 none) → Kol E 25 g.next h.next h sl acc → splL bs bs.length 0 [] = splL bs r p acc →
      Wc tab E I ⟨18, none⟩ (.loop loop18) A0 h (fun ex A' h' => A'.n = 42 ∧ A'.defers = [] ∧ Mod (fun j => g.next ≤ j) g h' ∧ ((ex = .exit 0 ∧ ∃ l p it sl, A'.get 6 = sl ∧ splL bs bs.length 0 [] = .ok l p it ∧ l.length ≤ bs.length ∧ Kol E 25 g.next h'.next h' sl l) ∨ (ex = .ret ∧ SplQ E (splL bs bs.length 0 []) (.tuple #[A'.get 2, A'.get 3, A'.get 4]) h'))) := by
    intro r
    induction r with
    | zero =>
      intro p acc sl A0 h hr hp hacc n0 d0 q0 q5 q6 M b K he
      have e1 : decide ((p : Int) < (bs.length : Int)) = false := by simp; omega
      have c1 := cell_blk (E := E) b 1
      apply Wc.loop
      simp only [loop18, loopOf, firstLoop, Option.getD, Tryd.f18]
      repeat' (first
    | (with_reducible apply Wc.seq)
    | (apply Wc.ops; (focus ((repeat' (first
      | with_reducible exact RO.nil
      | ((with_reducible apply RO.run (awant_none rfl)); (focus ((first | simp (config := {decide := true}) only [awant, ayield_get, oper1, aop, opv, opvs, opvo, opvp, abuiltin, aun, Gx, if_true, if_false, and_true, decide_true, decide_false, abin, isShift, aint, roV, pair, bind, Option.bind, acall, Sx, n0, q0, q5, Qx, Hx, c1, ln, e1] | skip); with_reducible rfl))))); done)))
    | (refine Wc.cond2 (by simp (config := {decide := true}) only [opv, Gx, if_true, if_false, and_true, decide_true, decide_false, Sx, n0, q0, q5, Qx, Hx, c1, ln, e1]; try with_reducible rfl) (fun hb => ?_) (fun hb => ?_) <;> try contradiction)
    | refine Wc.skip ?_
    | refine Wc.ret ?_
    | refine Wc.exit ?_
    | refine Wc.block ?_)
      exact ⟨by simp (config := {decide := true}) only [Gx, if_true, if_false, and_true, Sx, n0], by simp (config := {decide := true}) only [Gx, if_true, if_false, and_true, Sx, d0], M, .inl ⟨rfl, acc, p, 0, sl, by simp (config := {decide := true}) only [Gx, if_true, if_false, and_true, Sx, n0, q6], by rw [he, splL], by omega, K⟩⟩
    | succ r ih =>
      intro p acc sl A0 h hr hp hacc n0 d0 q0 q5 q6 M b K he
      have c1 := cell_blk (E := E) b 1
      apply Wc.loop
      simp only [loop18, loopOf, firstLoop, Option.getD, Tryd.f18]
      by_cases hlt : p < bs.length
      rotate_left
      · have e1 : decide ((p : Int) < (bs.length : Int)) = false := by simp; omega
        rw [splL, if_neg hlt] at he
        repeat' (first
    | (with_reducible apply Wc.seq)
    | (apply Wc.ops; (focus ((repeat' (first
      | with_reducible exact RO.nil
      | ((with_reducible apply RO.run (awant_none rfl)); (focus ((first | simp (config := {decide := true}) only [awant, ayield_get, oper1, aop, opv, opvs, opvo, opvp, abuiltin, aun, Gx, if_true, if_false, and_true, decide_true, decide_false, abin, isShift, aint, roV, pair, bind, Option.bind, acall, Sx, n0, q0, q5, Qx, Hx, c1, ln, e1] | skip); with_reducible rfl))))); done)))
    | (refine Wc.cond2 (by simp (config := {decide := true}) only [opv, Gx, if_true, if_false, and_true, decide_true, decide_false, Sx, n0, q0, q5, Qx, Hx, c1, ln, e1]; try with_reducible rfl) (fun hb => ?_) (fun hb => ?_) <;> try contradiction)
    | refine Wc.skip ?_
    | refine Wc.ret ?_
    | refine Wc.exit ?_
    | refine Wc.block ?_)
        exact ⟨by simp (config := {decide := true}) only [Gx, if_true, if_false, and_true, Sx, n0], by simp (config := {decide := true}) only [Gx, if_true, if_false, and_true, Sx, d0], M, .inl ⟨rfl, acc, p, 0, sl, by simp (config := {decide := true}) only [Gx, if_true, if_false, and_true, Sx, n0, q6], he, by omega, K⟩⟩
      rw [splL, if_pos hlt] at he
      have e1 : decide ((p : Int) < (bs.length : Int)) = true := by simp; omega
      have l5 : h.cells E (own g.next) 3 = some [.string ⟨⟨bs⟩⟩, .int .i64 (p : Nat), .int .i64 0] := blk_cells b rfl rfl
      have bv := qbu86 (.string ⟨⟨bs⟩⟩) (.int .i64 (p : Nat)) (.int .i64 0)
      have fh := M.fit
      have lgn := fh.lt b
      -- the reader
      generalize hh3 : h.new (.cells (Value.agg #[.string ⟨#[]⟩, .int .i64 0, .int .i64 0, .int .i64 0]).cells.toList 86 none) = h3
      have t3 : Ahd h h3 := by rw [← hh3]; exact Ahd.new0 fh rfl
      have b7 : h3.blk h.next = some (.cells [.string ⟨#[]⟩, .int .i64 0, .int .i64 0, .int .i64 0] 86 none) := by rw [← hh3]; exact new_blk_new rfl
      have s7 : astore tab 86 (own h.next) (.agg ⟨[.string ⟨⟨bs⟩⟩, .int .i64 (p : Nat), .int .i64 0, .int .i64 0]⟩) h3 = some (h3.setl h.next (.cells [.string ⟨⟨bs⟩⟩, .int .i64 (p : Nat), .int .i64 0, .int .i64 0] 86 none)) := astore_all qty86 b7 rfl rfl rfl (by simp)
      have t4 : Ahd h (h3.setl h.next (.cells [.string ⟨⟨bs⟩⟩, .int .i64 (p : Nat), .int .i64 0, .int .i64 0] 86 none)) := t3.setl rfl (Nat.le_refl _) (t3.fit.lt b7) fh
      have b7 : Src h.next bs p 0 0 (h3.setl h.next (.cells [.string ⟨⟨bs⟩⟩, .int .i64 (p : Nat), .int .i64 0, .int .i64 0] 86 none)) := setl_same rfl
      generalize h3.setl h.next (.cells [.string ⟨⟨bs⟩⟩, .int .i64 (p : Nat), .int .i64 0, .int .i64 0] 86 none) = h4 at s7 t4 b7
      have b54 := t4.grows _ _ b
      have K4 := K.mod fh (t4.mod (M := fun _ => False)) (fun _ _ h => h.elim)
      obtain ⟨nf, v1, h5, c5, l, z, rfl, m5, hq⟩ := item56 (E := E) (I := I) (fun f args h hf => hI f args h (.inr hf)) hl 250 (Nat.le_refl _) h4 p 0 t4.fit b7 (by omega) (by decide)
      have c5' : (ev tab E I nf).call 56 [.pointer (some (own h.next)), .int .i64 1] h4 = some (.tuple #[.agg ⟨l⟩, z], h5) := c5
      have hl4 : l.length = 4 ∧ l.all isOne = true := by
        unfold ItemQ at hq
        split at hq
        · obtain ⟨_, _, _, _, rfl, h⟩ := item_four hq.2.2
          exact ⟨rfl, h⟩
        · rw [hq.2.1]; exact ⟨rfl, rfl⟩
      have b55 := m5.blk _ _ (by omega) b54
      have K5 := K4.mod t4.fit m5 (fun j B hj hB => by
        subst hj
        rw [show h4.blk h.next = _ from b7] at hB; cases hB; rfl)
      -- its variable
      generalize hh6 : h5.new (.cells (Value.agg #[.int .i64 0, .int .i64 0, .string ⟨#[]⟩, .slice none 0 0]).cells.toList 25 none) = h6
      have t6 : Ahd h5 h6 := by rw [← hh6]; exact Ahd.new0 m5.fit rfl
      have b8 : h6.blk h5.next = some (.cells zeroL 25 none) := by rw [← hh6]; exact new_blk_new rfl
      have s8 : astore tab 25 (own h5.next) (.agg ⟨l⟩) h6 = some (h6.setl h5.next (.cells l 25 none)) := astore_all qty25 b8 (by rw [hl4.1]) (by rw [hl4.1]; rfl) hl4.2 (by intro e; rw [e] at hl4; simp at hl4)
      have t7 : Ahd h5 (h6.setl h5.next (.cells l 25 none)) := t6.setl rfl (Nat.le_refl _) (t6.fit.lt b8) m5.fit
      have b8 := setl_same (h := h6) (k := h5.next) (B := .cells l 25 none) rfl
      generalize h6.setl h5.next (.cells l 25 none) = h7 at s8 t7 b8
      have b57 := t7.grows _ _ b55
      have K7 := K5.mod m5.fit (t7.mod (M := fun _ => False)) (fun _ _ h => h.elim)
      have n4 := t4.next
      have n5 := m5.next
      have n7 := t7.next
      have nM := M.next
      have M7 : Mod (fun j => g.next ≤ j) g h7 := ((M.trans t4.mod).trans (m5.sub fun j hj => by omega)).trans t7.mod
      generalize hri : rdItem bs 250 p 0 = ri at hq he
      cases ri with
      | bad p' e =>
        obtain ⟨rfl, _, it', b'⟩ := hq
        obtain ⟨_, d1, d2, _⟩ := (b'.mod (t7.mod (M := fun _ => False)) (fun h => h)).at (E := E)
        repeat' (first
    | (with_reducible apply Wc.seq)
    | (apply Wc.opsN nf; (focus ((repeat' (first
      | with_reducible exact RO.nil
      | ((with_reducible apply RO.run (awant_none rfl)); (focus ((first | simp (config := {decide := true}) only [awant, ayield_get, oper1, aop, opv, opvs, opvo, opvp, abuiltin, aun, Gx, if_true, if_false, and_true, decide_true, decide_false, abin, isShift, aint, roV, pair, bind, Option.bind, acall, Sx, n0, q0, q5, q6, Qx, Hx, c1, ln, e1, l5, bv, qtz86, hh3, s7, c5', qtz25, hh6, s8] | skip); with_reducible rfl))))); done)))
    | (refine Wc.cond2 (by simp (config := {decide := true}) only [opv, Gx, if_true, if_false, and_true, decide_true, decide_false, Sx, n0, q0, q5, q6, Qx, Hx, c1, ln, e1, l5, bv, qtz86, hh3, s7, c5', qtz25, hh6, s8]; try with_reducible rfl) (fun hb => ?_) (fun hb => ?_) <;> try contradiction)
    | refine Wc.skip ?_
    | refine Wc.ret ?_
    | refine Wc.exit ?_
    | refine Wc.block ?_)
        refine Wc.drawC 1 (by kernel_rfl) ?_
        (iterate 9 (first
      | ((apply FC.pure rfl rfl); (focus ((first | simp (config := {decide := true}) only [awant, ayield_get, oper1, aop, opv, opvs, opvo, opvp, abuiltin, aun, Gx, if_true, if_false, and_true, decide_true, decide_false, abin, isShift, aint, roV, pair, bind, Option.bind, acall, Sx, n0, Qx, Hx, d1, d2] | skip); with_reducible rfl)))
      | ((apply FC.new rfl rfl); (focus ((first | simp (config := {decide := true}) only [awant, ayield_get, oper1, aop, opv, opvs, opvo, opvp, abuiltin, aun, Gx, if_true, if_false, and_true, decide_true, decide_false, abin, isShift, aint, roV, pair, bind, Option.bind, acall, Sx, n0, Qx, Hx, d1, d2] | skip); with_reducible rfl)))))
        refine FC.nil ?_
        refine Wc.ret ?_
        refine ⟨by simp (config := {decide := true}) only [Gx, if_true, if_false, and_true, Sx, n0], by simp (config := {decide := true}) only [Gx, if_true, if_false, and_true, Sx, d0], M7, .inr ⟨rfl, ?_⟩⟩
        rw [he]
        show Value.tuple #[_, _, _] = _
        simp (config := {decide := true}) only [Gx, if_true, if_false, and_true, Sx, n0]
      | ok t p' it' =>
        obtain ⟨rfl, b', hrt⟩ := hq
        obtain ⟨va, vb, vc, vd, rfl, hone⟩ := item_four hrt
        obtain ⟨o1, o2, o3, o4, o5, o6⟩ := rok.1 _ _ _ _ _ hri
        have b' := b'.mod (t7.mod (M := fun _ => False)) (fun h => h)
        have R7 := rep_grow (only_ahd (q := fun r => Nat.ble h4.next r) m5.fit t7 (fun _ h => h)) hrt
        have l8 : h7.cells E (own h5.next) 4 = some [va, vb, vc, vd] := blk_cells b8 rfl hone
        -- appended
        generalize hZ : (Blk.cells [va, vb, vc, vd] 25 none) = Z
        have hbs := qbs23 hone (h := h7)
        rw [hZ] at hbs
        generalize hh8 : h7.new Z = h8 at hbs
        have t8 : Ahd h7 h8 := by rw [← hh8, ← hZ]; exact Ahd.new0 t7.fit rfl
        have bz : h8.blk h7.next = some (.cells [va, vb, vc, vd] 25 none) := by rw [← hh8, ← hZ]; exact new_blk_new rfl
        have K8 := K7.mod t7.fit (t8.mod (M := fun _ => False)) (fun _ _ h => h.elim)
        have R8 := rep_grow (only_ahd (q := fun r => Nat.ble h4.next r) t7.fit t8 (fun _ h => h)) R7
        have M8 := M7.ahd t8
        obtain ⟨sl', h9, happ, K9, AP, n9⟩ := kol_step (D := tab) (E := E) (t := 23) (t2 := 23) (by_ := 56) (kx := h7.next) (c := 1) (lo := h4.next) t8.fit M8.next K8 (by omega) (by omega) qty23 qtz25 rfl (qza23 _ _ _) R8 (blk_cells bz rfl hone) hone (by
          unfold roomy
          simp only [Bool.and_eq_true, Nat.ble_eq]; omega)
        have M9 := AP.mod f (Nat.le_refl _) M8
        have b59 := AP.keep (t8.grows _ _ b57)
        have b9 : Src h.next bs p' 0 it' h9 := AP.keep (t8.grows _ _ b')
        have l9 : h9.cells E (own h.next) 3 = some [.string ⟨⟨bs⟩⟩, .int .i64 (p' : Nat), .int .i64 0] := by
          have := cells_sub (blk_cells (E := E) b9 rfl rfl) (m := 0) (l := 3) (by simp)
          exact this
        have s9 : astore tab 84 (own g.next) (.agg ⟨[.string ⟨⟨bs⟩⟩, .int .i64 (p' : Nat), .int .i64 0]⟩) h9 = some (h9.setl g.next (.cells [.string ⟨⟨bs⟩⟩, .int .i64 (p' : Nat), .int .i64 0] 84 none)) := astore_all qty84 b59 rfl rfl rfl (by simp)
        have m10 := (Mod.refl (M := fun j => j = g.next) M9.fit).setl (B := .cells [.string ⟨⟨bs⟩⟩, .int .i64 (p' : Nat), .int .i64 0] 84 none) rfl rfl (M9.fit.lt b59)
        have K10 := (K9.mod M9.fit m10 (fun j B hj hB => by
          subst hj
          rw [b59] at hB; cases hB; rfl)).up (top' := (h9.setl g.next (.cells [.string ⟨⟨bs⟩⟩, .int .i64 (p' : Nat), .int .i64 0] 84 none)).next) (by rw [setl_next]; exact Nat.le_refl _)
        repeat' (first
    | (with_reducible apply Wc.seq)
    | (apply Wc.opsN nf; (focus ((repeat' (first
      | with_reducible exact RO.nil
      | ((with_reducible apply RO.run (awant_none rfl)); (focus ((first | simp (config := {decide := true}) only [awant, ayield_get, oper1, aop, opv, opvs, opvo, opvp, abuiltin, aun, Gx, if_true, if_false, and_true, decide_true, decide_false, abin, isShift, aint, roV, pair, bind, Option.bind, acall, Sx, n0, q0, q5, q6, Qx, Hx, c1, ln, e1, l5, bv, qtz86, hh3, s7, c5', qtz25, hh6, s8, l8, hbs, happ, l9, s9] | skip); with_reducible rfl))))); done)))
    | (refine Wc.cond2 (by simp (config := {decide := true}) only [opv, Gx, if_true, if_false, and_true, decide_true, decide_false, Sx, n0, q0, q5, q6, Qx, Hx, c1, ln, e1, l5, bv, qtz86, hh3, s7, c5', qtz25, hh6, s8, l8, hbs, happ, l9, s9]; try with_reducible rfl) (fun hb => ?_) (fun hb => ?_) <;> try contradiction)
    | refine Wc.skip ?_
    | refine Wc.ret ?_
    | refine Wc.exit ?_
    | refine Wc.block ?_)
        refine (ih p' (acc ++ [t]) sl' _ _ (by omega) o2 (by rw [List.length_append, List.length_singleton]; omega) ?_ ?_ ?_ ?_ ?_ (M9.trans (m10.sub fun j hj => by omega)) (setl_same rfl) K10 he)
        · simp (config := {decide := true}) only [Gx, if_true, if_false, and_true, Sx, n0]
        · simp (config := {decide := true}) only [Gx, if_true, if_false, and_true, Sx, d0]
        · simp (config := {decide := true}) only [Gx, if_true, if_false, and_true, Sx, n0, q0]
        · simp (config := {decide := true}) only [Gx, if_true, if_false, and_true, Sx, n0, q5]
        · simp (config := {decide := true}) only [Gx, if_true, if_false, and_true, Sx, n0]
  repeat' (first
    | (with_reducible apply Wc.seq)
    | (apply Wc.ops; (focus ((repeat' (first
      | with_reducible exact RO.nil
      | ((with_reducible apply RO.run (awant_none rfl)); (focus ((first | simp (config := {decide := true}) only [awant, ayield_get, oper1, aop, opv, opvs, opvo, opvp, abuiltin, aun, Gx, if_true, if_false, and_true, decide_true, decide_false, abin, isShift, aint, roV, pair, bind, Option.bind, acall, Sx, n0, q0, ln, e1, cv, bu, qtz84, hh1, s5] | skip); with_reducible rfl))))); done)))
    | (refine Wc.cond2 (by simp (config := {decide := true}) only [opv, Gx, if_true, if_false, and_true, decide_true, decide_false, Sx, n0, q0, ln, e1, cv, bu, qtz84, hh1, s5]; try with_reducible rfl) (fun hb => ?_) (fun hb => ?_) <;> try contradiction)
    | refine Wc.skip ?_
    | refine Wc.ret ?_
    | refine Wc.exit ?_
    | refine Wc.block ?_)
  refine (key bs.length 0 [] (.slice none 0 0) _ h2 (by omega) (Nat.zero_le _) (Nat.zero_le _) ?_ ?_ ?_ ?_ ?_ (t2.mod) b5 (Kol.nil _ _ _) rfl).mono ?_
  · simp (config := {decide := true}) only [Gx, if_true, if_false, and_true, Sx, n0]
  · simp (config := {decide := true}) only [Gx, if_true, if_false, and_true, Sx, d0]
  · simp (config := {decide := true}) only [Gx, if_true, if_false, and_true, Sx, n0, q0]
  · simp (config := {decide := true}) only [Gx, if_true, if_false, and_true, Sx, n0]
  · simp (config := {decide := true}) only [Gx, if_true, if_false, and_true, Sx, n0]
  · rintro ex A0 h ⟨n0, d0, M, ⟨rfl, l, p, it, sl, q6, he, hll, K⟩ | ⟨rfl, hq⟩⟩
    · simp only [if_true]
      repeat' (first
    | (with_reducible apply Wc.seq)
    | (apply Wc.ops; (focus ((repeat' (first
      | with_reducible exact RO.nil
      | ((with_reducible apply RO.run (awant_none rfl)); (focus ((first | simp (config := {decide := true}) only [awant, ayield_get, oper1, aop, opv, opvs, opvo, opvp, abuiltin, aun, Gx, if_true, if_false, and_true, decide_true, decide_false, abin, isShift, aint, roV, pair, bind, Option.bind, acall, Sx, n0, q6] | skip); with_reducible rfl))))); done)))
    | (refine Wc.cond2 (by simp (config := {decide := true}) only [opv, Gx, if_true, if_false, and_true, decide_true, decide_false, Sx, n0, q6]; try with_reducible rfl) (fun hb => ?_) (fun hb => ?_) <;> try contradiction)
    | refine Wc.skip ?_
    | refine Wc.ret ?_
    | refine Wc.exit ?_
    | refine Wc.block ?_)
      refine done_tmp3q (v := sl) (x := .int .i64 0) (y := .int .i64 0) (.inr rfl) (by simp (config := {decide := true}) only [Gx, if_true, if_false, and_true, Sx, d0]) rfl (by simp (config := {decide := true}) only [Gx, if_true, if_false, and_true, Sx, n0]) (by simp (config := {decide := true}) only [Gx, if_true, if_false, and_true, Sx, n0]) (by simp (config := {decide := true}) only [Gx, if_true, if_false, and_true, Sx, n0]) ⟨Mod.low f M (fun j hj => .inr hj), ?_⟩
      rw [he]
      exact ⟨sl, rfl, rep_grow (only_grows M.fit) (K.rep M.fit (by omega) 0 0 ⟨#[]⟩ (Nat.le_refl _))⟩
    · exact done_tmp3q (.inr rfl) d0 rfl rfl rfl rfl ⟨Mod.low f M (fun j hj => .inr hj), hq⟩
end Go.Proofs.YtofijpbmbmbnhaaDoor
