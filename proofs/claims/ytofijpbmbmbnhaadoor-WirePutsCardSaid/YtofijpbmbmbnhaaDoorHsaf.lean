/- Loops over functions, as what holds behind them; visits of trees. -/
import Derived.Test.YtofijpbmbmbnhaaDoorHsae
import Derived.Lib.SmallJoins
set_option linter.unusedSimpArgs false
set_option linter.unusedVariables false
namespace Go.Hs
section
variable {D : Tab} {E : Env} {I : Known}
theorem Wr.round {l : Nat} {args : List Value} {h : H} {r : LoopR} {A : Ac} {Q : Value → H → Prop} (hb : h.blk l = some (.loop r)) (hp : setParams r.params.toList args ⟨r.tmps, r.n, []⟩ = some A)
  (w : Wc D E I ⟨r.fn, some l⟩ r.assign A h fun ex A1 h1 => ex = .normal ∧ ∃ r1, h1.blk l = some (.loop r1) ∧ r1.state = .ready ∧ Wc D E I ⟨r.fn, some l⟩ r.body A1 (h1.turn l (.loop { r1 with state := .busy })) fun ex A2 h2 => ∃ r2, h2.blk l = some (.loop r2) ∧
   (ex = .normal ∧ Q (.bool true) (h2.turn l (.loop { r2 with state := .ready, pending := none })) ∨ ex = .ret ∧ Q (.bool false) (h2.turn l (.loop { r2 with state := .done, pending := some .ret })))) :
  ∃ n v h', (ev D E I n).round l args h = some (v, h') ∧ Q v h' := by
 obtain ⟨n, ex, A1, h1, c1, rfl, r1, hb1, hs1, m, ex2, A2, h2, c2, r2, hb2, q⟩ := w
 have c1' := (ev_mono I (Nat.le_max_left n m)).code c1
 have c2' := (ev_mono I (Nat.le_max_right n m)).code c2
 rcases q with ⟨rfl, q⟩ | ⟨rfl, q⟩
 ·refine ⟨max n m + 1, _, _, ?_, q⟩
  show doRound (ev D E I (max n m)) l args h = _
  simp only [doRound, hb, hp, c1', hb1, hs1, c2', hb2]
 ·refine ⟨max n m + 1, _, _, ?_, q⟩
  show doRound (ev D E I (max n m)) l args h = _
  simp only [doRound, hb, hp, c1', hb1, hs1, c2', hb2]
theorem Wc.range {fn : FuncId} {f : Operand} {params : Array Tmp} {assign body : Code} {A : Ac} {h : H} {fv x : Value} {h2 : H} {r : LoopR} {Q : Ex → Ac → H → Prop} (n : Nat) (hf : opv A f = some fv)
  (hc : acall (ev D E I n) fv [.func (.yield (h.next + 1)) #[] #[]] ((h.new (.defd false)).new (.loop ⟨.ready, none, fn, A.tmps, A.n, params, assign, body, h.next⟩)) = some (x, h2))
  (hb : h2.blk (h.next + 1) = some (.loop r)) (hr : r.state ≠ .busy)
  (w : match r.pending with
   | none => Q .normal { A with defers := h.next :: A.defers } (h2.turn (h.next + 1) (.loop { r with state := .exhausted }))
   | some c => Wc D E I ⟨fn, none⟩ c { A with defers := h.next :: A.defers } (h2.turn (h.next + 1) (.loop { r with state := .exhausted })) Q) :
  Wc D E I ⟨fn, none⟩ (.rangeFunc f params assign body) A h Q := by
 have hn : (h.new (.defd false)).next = h.next + 1 := rfl
 cases hp : r.pending with
 | none =>
  rw [hp] at w
  refine ⟨n + 1, _, _, _, ?_, w⟩
  show doCode D E (ev D E I n) ⟨fn, none⟩ (.rangeFunc f params assign body) A h = _
  simp only [doCode, hf, hn, hc, hb, hp]
 | some c =>
  rw [hp] at w
  obtain ⟨m, ex, A', h', c1, q⟩ := w
  have hm := ev_mono (D := D) (E := E) I (Nat.le_max_left n m)
  have c1' := (ev_mono I (Nat.le_max_right n m)).code c1
  refine ⟨max n m + 1, ex, A', h', ?_, q⟩
  show doCode D E (ev D E I (max n m)) ⟨fn, none⟩ (.rangeFunc f params assign body) A h = _
  simp only [doCode, hf, hn, acall_mono hm hc, hb, hp]
  first
   | exact c1'
   |
    split
    ·next hs => exact absurd hs hr
    ·exact c1'
end
structure Keep (M : Nat → Prop) (h g : H) : Prop where
 blk : ∀ k B, ¬ M k → h.blk k = some B → g.blk k = some B
 next : h.next ≤ g.next
theorem Keep.refl (M : Nat → Prop) (h : H) : Keep M h h := ⟨fun _ _ _ hb => hb, Nat.le_refl _⟩
theorem Keep.trans {M : Nat → Prop} {h g f : H} (a : Keep M h g) (b : Keep M g f) : Keep M h f := ⟨fun k B hk hb => b.blk k B hk (a.blk k B hk hb), Nat.le_trans a.next b.next⟩
theorem Ahd.keep {M : Nat → Prop} {h g : H} (a : Ahd h g) : Keep M h g := ⟨fun k B _ hb => a.grows k B hb, a.next⟩
/-! ### Visits -/
section
variable {σ : Type} (step : Int → Item → σ → σ × Bool)
mutual
def visit : Int → Item → σ → σ × Bool
 | lv, .mk k n t ks, s => if (step lv (.mk k n t ks) s).2 = false then ((step lv (.mk k n t ks) s).1, false) else visitL (lv + 1) ks (step lv (.mk k n t ks) s).1
def visitL : Int → List Item → σ → σ × Bool
 | _, [], s => (s, true)
 | lv, x :: xs, s => if (visit lv x s).2 = false then ((visit lv x s).1, false) else visitL lv xs (visit lv x s).1
end
variable {step : Int → Item → σ → σ × Bool}
theorem visit_false {lv k n : Int} {tx : ByteArray} {ks : List Item} {s s1 : σ} (h : step lv (.mk k n tx ks) s = (s1, false)) : visit step lv (.mk k n tx ks) s = (s1, false) := by rw [visit]; simp only [h, if_true]
theorem visit_true {lv k n : Int} {tx : ByteArray} {ks : List Item} {s s1 : σ} (h : step lv (.mk k n tx ks) s = (s1, true)) : visit step lv (.mk k n tx ks) s = visitL step (lv + 1) ks s1 := by
 rw [visit]; simp only [h]; rw [if_neg (by simp)]
theorem visitL_false {lv : Int} {x : Item} {xs : List Item} {s s1 : σ} (h : visit step lv x s = (s1, false)) : visitL step lv (x :: xs) s = (s1, false) := by rw [visitL]; simp only [h, if_true]
theorem visitL_true {lv : Int} {x : Item} {xs : List Item} {s s1 : σ} (h : visit step lv x s = (s1, true)) : visitL step lv (x :: xs) s = visitL step lv xs s1 := by
 rw [visitL]; simp only [h]; rw [if_neg (by simp)]
end
def stepC : Int → Item → Int × Int → (Int × Int) × Bool
 | lv, .mk k n tx _, (c, e) => if lv > 250 then ((c, 11), false) else if c = 5000 then ((c, 2), false) else if k < 1 ∨ k > 63 ∨ n < 0 ∨ n > 1099511627776 then ((c, 3), false) else if (tx.data.toList.length : Int) > 4096 then ((c, 11), false) else ((c + 1, e), true)
def stepS : Int → Item → Int × Int → (Int × Int) × Bool
 | lv, _, (c, m) => ((c + 1, if lv > m then lv else m), true)
def afterC (r : Int × Int) : (Int × Int) × Bool := if r.2 = 0 then ((r.1, 0), true) else ((r.1, r.2), false)
mutual
theorem visitC : ∀ (t : Item) (lv c : Int), 0 ≤ c → c ≤ 5000 → visit stepC lv t (c, 0) = afterC (chkI t c lv)
 | .mk k n tx ks, lv, c, h1, h2 => by
  rw [visit, chkI]
  by_cases a : lv > 250
  ·simp only [stepC, if_pos a, afterC]; rfl
  ·by_cases b : c = 5000
   ·simp only [stepC, if_neg a, if_pos b, if_pos (show c ≥ 5000 by omega), afterC]; rfl
   ·by_cases d : k < 1 ∨ k > 63 ∨ n < 0 ∨ n > 1099511627776
    ·simp only [stepC, if_neg a, if_neg b, if_neg (show ¬ (c ≥ 5000) by omega), if_pos d, afterC]; rfl
    ·by_cases e : (tx.data.toList.length : Int) > 4096
     ·simp only [stepC, if_neg a, if_neg b, if_neg (show ¬ (c ≥ 5000) by omega), if_neg d, if_pos e, afterC]; rfl
     ·simp only [stepC, if_neg a, if_neg b, if_neg (show ¬ (c ≥ 5000) by omega), if_neg d, if_neg e]
      exact visitCL ks (lv + 1) (c + 1) (by omega) (by omega)
theorem visitCL : ∀ (ks : List Item) (lv c : Int), 0 ≤ c → c ≤ 5000 → visitL stepC lv ks (c, 0) = afterC (chkL ks c lv)
 | [], lv, c, h1, h2 => by rw [visitL, chkL]; rfl
 | x :: xs, lv, c, h1, h2 => by
  have hb := chkI_bound x c lv h1 h2
  have hv := visitC x lv c h1 h2
  rw [chkL]
  by_cases a : (chkI x c lv).2 = 0
  ·rw [if_neg (fun h => h a)]
   rw [afterC, if_pos a] at hv
   rw [visitL_true hv]
   exact visitCL xs lv _ hb.1 hb.2
  ·rw [if_pos a]
   rw [afterC, if_neg a] at hv
   rw [visitL_false hv, afterC, if_neg a]
end
theorem lvlL_max : ∀ (ks : List Item) (a : Int), 0 ≤ a → lvlL ks a = max a (lvlL ks 0)
 | [], a, ha => by simp only [lvlL]; omega
 | y :: ys, a, ha => by
  have hy := lvlI_bound y
  have e0 : lvlL (y :: ys) 0 = lvlL ys (lvlI y) := by rw [lvlL, if_pos (by omega)]
  rw [e0, lvlL, lvlL_max ys (lvlI y) (by omega)]
  by_cases q : lvlI y > a
  ·rw [if_pos q, lvlL_max ys (lvlI y) (by omega)]; omega
  ·rw [if_neg q, lvlL_max ys a ha]; omega
def lastS (ks : List Item) (lv m : Int) : Int := match ks with
 | [] => m
 | y :: ys => max m (lv - 1 + lvlL (y :: ys) 0)
mutual
theorem visitS : ∀ (t : Item) (lv c m : Int), visit stepS lv t (c, m) = ((c + isz t, max m (lv - 1 + lvlI t)), true)
 | .mk k n tx ks, lv, c, m => by
  have e : (if lv > m then lv else m) = max m lv := by split <;> omega
  have h := lvlL_bound ks 0 (Int.le_refl _)
  rw [visit_true (s1 := (c + 1, if lv > m then lv else m)) rfl, e, visitSL ks (lv + 1) (c + 1) _, isz, lvlI]
  simp only [Prod.mk.injEq, and_true]
  refine ⟨by push_cast; omega, ?_⟩
  cases ks with
  | nil => simp only [lastS, lvlL]; omega
  | cons x xs => simp only [lastS]; omega
theorem visitSL : ∀ (ks : List Item) (lv c m : Int), visitL stepS lv ks (c, m) = ((c + iszL ks, lastS ks lv m), true)
 | [], lv, c, m => by rw [visitL, iszL, lastS]; simp
 | x :: xs, lv, c, m => by
  have h := lvlI_bound x
  have h' := lvlL_bound xs 0 (Int.le_refl _)
  rw [visitL_true (visitS x lv c m), visitSL xs lv _ _, iszL, lastS, lvlL, if_pos (by omega), lvlL_max xs (lvlI x) (by omega)]
  simp only [Prod.mk.injEq, and_true]
  refine ⟨by push_cast; omega, ?_⟩
  cases xs with
  | nil => simp only [lastS, lvlL]; omega
  | cons y ys => simp only [lastS]; omega
end
end Go.Hs
/- Functions with a loop over a function: their end; blocks that are written. -/
namespace Go.Hs
section
variable {D : Tab} {E : Env}
theorem take_one {h : H} {d : Nat} (hb : h.blk d = some (.defd false)) (hm : h.mark ≤ d) : takeAll [d] h = some (h.setb d (.defd true)) := by
 simp only [takeAll, hb, turn_above hm]
theorem done_cellD {fn : Func} {A : Ac} {h : H} {t : Tmp} {ty : TypeId} {v : Value} {a : Addr} {d : Nat} {ex : Ex} {Q : Value → H → Prop} (hex : ex = .normal ∨ ex = .ret) (hd : A.defers = [d]) (hb : h.blk d = some (.defd false)) (hm : h.mark ≤ d) (hr : fn.results = #[.cell t ty]) (hv : A.get t = .pointer (some a)) (hl : aload D E ty a (h.setb d (.defd true)) = some v) (hq : Q v (h.setb d (.defd true))) :
  (ex = .normal ∨ ex = .ret) ∧ ∃ h2 v', takeAll A.defers h = some h2 ∧ ares D E fn A h2 = some v' ∧ Q v' h2 := by
 refine ⟨hex, _, v, by rw [hd]; exact take_one hb hm, ?_, hq⟩
 unfold ares
 rw [hr]
 simp only [aresL, ares1, hv, hl]
end
theorem done_cct {D : Tab} {E : Env} {fn : Func} {A : Ac} {h h2 : H} {t u s : Tmp} {ty uy : TypeId} {v x y : Value} {a b : Addr} {ex : Ex} {Q : Value → H → Prop} (hex : ex = .normal ∨ ex = .ret) (ht : takeAll A.defers h = some h2) (hr : fn.results = #[.cell t ty, .cell u uy, .tmp s]) (hv : A.get t = .pointer (some a)) (hx : A.get u = .pointer (some b)) (hy : A.get s = y)
  (l1 : aload D E ty a h2 = some v) (l2 : aload D E uy b h2 = some x) (hq : Q (.tuple #[v, x, y]) h2) :
  (ex = .normal ∨ ex = .ret) ∧ ∃ h2 v', takeAll A.defers h = some h2 ∧ ares D E fn A h2 = some v' ∧ Q v' h2 := by
 refine ⟨hex, _, _, ht, ?_, hq⟩
 unfold ares
 rw [hr]
 simp only [aresL, ares1, hv, hx, hy, l1, l2]
theorem done_unit {D : Tab} {E : Env} {fn : Func} {A : Ac} {h : H} {ex : Ex} {Q : Value → H → Prop} (hex : ex = .normal ∨ ex = .ret) (hd : A.defers = []) (hr : fn.results = #[]) (hq : Q (.tuple #[]) h) :
  (ex = .normal ∨ ex = .ret) ∧ ∃ h2 v', takeAll A.defers h = some h2 ∧ ares D E fn A h2 = some v' ∧ Q v' h2 := by
 refine ⟨hex, h, .tuple #[], ?_, ?_, hq⟩
 ·rw [hd]; rfl
 ·unfold ares
  rw [hr]
  simp only [aresL]
def firstRange : Code → Option (Code × Code)
 | .seq a b => match firstRange a with
  | some c => some c
  | none => firstRange b
 | .cond _ a b => match firstRange a with
  | some c => some c
  | none => firstRange b
 | .block _ c => firstRange c
 | .scope c => firstRange c
 | .rangeFunc _ _ a b => some (a, b)
 | _ => none
def rangeOf (f : Func) : Code × Code := match f.body with
 | some c => (firstRange c).getD (.skip, .skip)
 | none => (.skip, .skip)
theorem Keep.setb {M : Nat → Prop} {h g : H} (s : Keep M h g) {k : Nat} {B : Blk} (hk : M k) : Keep M h (g.setb k B) :=
 ⟨fun j B' hj hb => by
  rw [setb_ne (by intro e; subst e; exact hj hk)]
  exact s.blk j B' hj hb, s.next⟩
theorem Keep.ahd {M : Nat → Prop} {h g f : H} (s : Keep M h g) (t : Ahd g f) : Keep M h f := s.trans t.keep
def stepW : Int → Item → Int × Int → (Int × Int) × Bool
 | lv, _, (c, m) => ((IntKind.i64.wrap (c + 1), if lv > m then lv else m), true)
mutual
theorem visitW : ∀ (t : Item) (lv c m : Int), 0 ≤ c → c + isz t ≤ 1000000000 → visit stepW lv t (c, m) = visit stepS lv t (c, m)
 | .mk k n tx ks, lv, c, m, h1, h2 => by
  rw [isz] at h2
  have e : IntKind.i64.wrap (c + 1) = c + 1 := wrap64 (by omega) (by push_cast at h2; omega)
  rw [visit_true (step := stepW) (s1 := (c + 1, if lv > m then lv else m)) (by simp only [stepW, e]), visit_true (step := stepS) (s1 := (c + 1, if lv > m then lv else m)) rfl]
  exact visitWL ks (lv + 1) (c + 1) _ (by omega) (by push_cast at h2; omega)
theorem visitWL : ∀ (ks : List Item) (lv c m : Int), 0 ≤ c → c + iszL ks ≤ 1000000000 → visitL stepW lv ks (c, m) = visitL stepS lv ks (c, m)
 | [], lv, c, m, _, _ => by rw [visitL, visitL]
 | x :: xs, lv, c, m, h1, h2 => by
  rw [iszL] at h2
  push_cast at h2
  have hv := visitS x lv c m
  rw [visitL_true (step := stepW) ((visitW x lv c m h1 (by omega)).trans hv), visitL_true (step := stepS) hv]
  exact visitWL xs lv _ _ (by omega) (by omega)
end
/-! ### Items that are not too great -/
end Go.Hs
/- Regions whose order is open, one operation after the other. -/
namespace Go.Hs
section
variable {D : Tab} {E : Env} {v : Ev} {ops : Array Oper}
def FQ (D : Tab) (E : Env) (v : Ev) (ops : Array Oper) (j : Nat) (l : List Oper) (A : Ac) (h : H) (Q : Ac → H → List Tch → Prop) : Prop := ∃ A' h' ts, runFree D E v ops j l A h = some (A', h', ts) ∧ Q A' h' ts
theorem FQ.nil {j : Nat} {A : Ac} {h : H} {Q : Ac → H → List Tch → Prop} (hq : Q A h []) : FQ D E v ops j [] A h Q := ⟨A, h, [], rfl, hq⟩
theorem FQ.step {j : Nat} {o : Oper} {rest : List Oper} {A : Ac} {h h1 : H} {x : Value} {Q : Ac → H → List Tch → Prop} (hw : awant ops A o = true) (hm : mayJoin o.op = false) (ho : oper1 D E v A o (fresh h) = some (x, h1))
  (r : FQ D E v ops (j + 1) rest (A.put o.dst x) (back h h1) (fun A' h' ts => Q A' h' (⟨reads D A o, h1.log, h.next, h1.next, rootedStore A h o.op⟩ :: ts))) : FQ D E v ops j (o :: rest) A h Q := by
 obtain ⟨A', h', ts, h2, hq⟩ := r
 refine ⟨A', h', _, ?_, hq⟩
 have ho' : oper1 D E v A o { h with mark := h.next, log := [] } = some (x, h1) := ho
 simp only [runFree, hw, ho', hm, Bool.not_false, Bool.true_or]
 have h2' : runFree D E v ops (j + 1) rest (A.put o.dst x) ({ h1 with mark := h.mark, log := h.log }.note h1.log) = some (A', h', ts) := h2
 rw [h2']
theorem FQ.pure {j : Nat} {o : Oper} {rest : List Oper} {A : Ac} {h : H} {x : Value} {Q : Ac → H → List Tch → Prop} (hg : o.guard = none) (hm : mayJoin o.op = false) (ho : oper1 D E v A o (fresh h) = some (x, fresh h))
  (r : FQ D E v ops (j + 1) rest (A.put o.dst x) h (fun A' h' ts => Q A' h' (⟨reads D A o, [], h.next, h.next, rootedStore A h o.op⟩ :: ts))) : FQ D E v ops j (o :: rest) A h Q :=
 FQ.step (awant_none hg) hm ho (by rw [back_fresh]; exact r)
theorem FQ.new {j : Nat} {o : Oper} {rest : List Oper} {A : Ac} {h : H} {x : Value} {B : Blk} {Q : Ac → H → List Tch → Prop} (hg : o.guard = none) (hm : mayJoin o.op = false) (ho : oper1 D E v A o (fresh h) = some (x, (fresh h).new B))
  (r : FQ D E v ops (j + 1) rest (A.put o.dst x) (h.new B) (fun A' h' ts => Q A' h' (⟨reads D A o, [], h.next, h.next + 1, rootedStore A h o.op⟩ :: ts))) : FQ D E v ops j (o :: rest) A h Q := by
 refine FQ.step (awant_none hg) hm ho ?_
 have e : back h ((fresh h).new B) = h.new B := note_nil (h.new B)
 rw [e]; exact r
theorem Ahd.back {h h1 : H} (f : Fit h) (a : Ahd (fresh h) h1) : Ahd h (back h h1) ∧ (∀ k, (Hs.back h h1).blk k = h1.blk k) ∧ (Hs.back h h1).next = h1.next ∧ ∀ p, Grows (only p h1) (only p (Hs.back h h1)) := by
 have hl : h1.log = [] := a.log
 have e : Hs.back h h1 = { h1 with mark := h.mark, log := h.log } := by
  show ({ h1 with mark := h.mark, log := h.log } : H).note h1.log = _
  rw [hl]; exact note_nil _
 rw [e]
 have hb : ∀ k, ({ h1 with mark := h.mark, log := h.log } : H).blk k = h1.blk k := fun k => rfl
 have hf : Fit ({ h1 with mark := h.mark, log := h.log } : H) := ⟨a.fit.free, a.fit.ok.1, Nat.le_trans f.ok.2 a.next⟩
 refine ⟨⟨hf, fun k B hk => a.grows k B hk, rfl, rfl, a.next, a.chain⟩, hb, rfl, fun p => only_mono a.fit hf (fun _ _ h _ => h) (fun _ h => h)⟩
theorem FQ.call {j : Nat} {o : Oper} {rest : List Oper} {A : Ac} {h h1 : H} {x : Value} {Q : Ac → H → List Tch → Prop} (hg : o.guard = none) (hm : mayJoin o.op = false) (ho : oper1 D E v A o (fresh h) = some (x, h1)) (hl : h1.log = [])
  (r : FQ D E v ops (j + 1) rest (A.put o.dst x) (back h h1) (fun A' h' ts => Q A' h' (⟨reads D A o, [], h.next, h1.next, rootedStore A h o.op⟩ :: ts))) : FQ D E v ops j (o :: rest) A h Q :=
 FQ.step (awant_none hg) hm ho (by rw [hl]; exact r)
def calm (t : Tch) : Bool := t.writes.isEmpty && !t.rooted
def FC (D : Tab) (E : Env) (v : Ev) (ops : Array Oper) (j : Nat) (l : List Oper) (A : Ac) (h : H) (Q : Ac → H → Prop) : Prop := FQ D E v ops j l A h (fun A' h' ts => ts.all calm = true ∧ Q A' h')
theorem FQ.mono {j : Nat} {l : List Oper} {A : Ac} {h : H} {Q Q' : Ac → H → List Tch → Prop} (r : FQ D E v ops j l A h Q) (hq : ∀ A h ts, Q A h ts → Q' A h ts) : FQ D E v ops j l A h Q' := by
 obtain ⟨A', h', ts, h1, h2⟩ := r
 exact ⟨A', h', ts, h1, hq _ _ _ h2⟩
theorem rooted_not {A : Ac} {h : H} {op : Op} (hs : isStore op = false) : rootedStore A h op = false := by
 cases op <;> first | rfl | cases hs
theorem FC.nil {j : Nat} {A : Ac} {h : H} {Q : Ac → H → Prop} (hq : Q A h) : FC D E v ops j [] A h Q := FQ.nil ⟨rfl, hq⟩
theorem calm_cons {r : Option (List Nat)} {lo hi : Nat} {A : Ac} {h : H} {op : Op} (hs : isStore op = false) {ts : List Tch} (ht : ts.all calm = true) : (⟨r, [], lo, hi, rootedStore A h op⟩ :: ts : List Tch).all calm = true := by
 rw [List.all_cons, ht, rooted_not hs]; rfl
theorem FC.pure {j : Nat} {o : Oper} {rest : List Oper} {A : Ac} {h : H} {x : Value} {Q : Ac → H → Prop} (hg : o.guard = none) (hm : (mayJoin o.op || isStore o.op) = false) (ho : oper1 D E v A o (fresh h) = some (x, fresh h)) (r : FC D E v ops (j + 1) rest (A.put o.dst x) h Q) : FC D E v ops j (o :: rest) A h Q := by
 rw [Bool.or_eq_false_iff] at hm
 exact FQ.pure hg hm.1 ho (r.mono fun _ _ _ ⟨a, b⟩ => ⟨calm_cons hm.2 a, b⟩)
theorem FC.new {j : Nat} {o : Oper} {rest : List Oper} {A : Ac} {h : H} {x : Value} {B : Blk} {Q : Ac → H → Prop} (hg : o.guard = none) (hm : (mayJoin o.op || isStore o.op) = false) (ho : oper1 D E v A o (fresh h) = some (x, (fresh h).new B)) (r : FC D E v ops (j + 1) rest (A.put o.dst x) (h.new B) Q) : FC D E v ops j (o :: rest) A h Q := by
 rw [Bool.or_eq_false_iff] at hm
 exact FQ.new hg hm.1 ho (r.mono fun _ _ _ ⟨a, b⟩ => ⟨calm_cons hm.2 a, b⟩)
theorem FC.forget {j : Nat} {l : List Oper} {A : Ac} {h : H} {Q : Ac → H → Prop} (P : Ac → Prop) (hP : P A) (w : ∀ A', P A' → FC D E v ops j l A' h Q) : FC D E v ops j l A h Q := w A hP
theorem Wc.drawC {I : Known} {F : Fx} {id : Nat} {l : List Oper} {A : Ac} {h : H} {Q : Ex → Ac → H → Prop} (n : Nat) (hd : drawOk l.toArray = true) (r : FC D E (ev D E I n) l.toArray 0 l A h (Q .normal)) : Wc D E I F (.region id l.toArray true) A h Q := by
 obtain ⟨A', h', ts, h1, h2, hq⟩ := r
 refine ⟨n + 1, .normal, A', h', ?_, hq⟩
 show doCode D E (ev D E I n) F (.region id l.toArray true) A h = _
 simp only [doCode, runRegion, hd, h1, allMeet_quiet h2]; rfl
theorem Wc.drawQ {I : Known} {F : Fx} {id : Nat} {l : List Oper} {A : Ac} {h : H} {Q : Ex → Ac → H → Prop} (n : Nat) (hd : drawOk l.toArray = true) (r : FQ D E (ev D E I n) l.toArray 0 l A h (fun A' h' ts => allMeet (Region.before l.toArray) ts = true ∧ Q .normal A' h')) : Wc D E I F (.region id l.toArray true) A h Q := by
 obtain ⟨A', h', ts, h1, h2, hq⟩ := r
 refine ⟨n + 1, .normal, A', h', ?_, hq⟩
 show doCode D E (ev D E I n) F (.region id l.toArray true) A h = _
 simp only [doCode, runRegion, hd, h1, h2]; rfl
end
/-! ### Some functions are reckoned -/
noncomputable def evOn (D : Tab) (E : Env) (fs : List FuncId) (I : Known) : Known := fun f args h => match fs.any (Nat.beq f) with
 | true => evBy D E I f args h
 | false => I f args h
theorem evOn_eq {D : Tab} {E : Env} {fs : List FuncId} {I : Known} {n : Nat} {f : FuncId} {args : List Value} {h : H} {r : Value × H} (hf : fs.any (Nat.beq f) = true) (hc : (ev D E I n).call f args h = some r) : evOn D E fs I f args h = some (some r) := by
 unfold evOn; rw [hf]; exact evBy_eq hc
theorem evOn_ne {D : Tab} {E : Env} {fs : List FuncId} {I : Known} {f : FuncId} {args : List Value} {h : H} (hf : fs.any (Nat.beq f) = false) : evOn D E fs I f args h = I f args h := by
 unfold evOn; rw [hf]
theorem evOn_good {P : Program} {D : Tab} {E : Env} {n0 : Nat} (T : D.Of P) (hN : NoNum P) {fs : List FuncId} {I : Known} (hI : KnownGood P D E n0 I) : KnownGood P D E n0 (evOn D E fs I) := by
 have hB := evBy_good T hN hI
 have key : ∀ {f args h r}, evOn D E fs I f args h = some r → evBy D E I f args h = some r ∨ I f args h = some r := by
  intro f args h r hh
  unfold evOn at hh
  split at hh
  ·exact .inl hh
  ·exact .inr hh
 exact ⟨fun f args h r h' hi => by rcases key hi with h1 | h1; exact hB.sim _ _ _ _ _ h1; exact hI.sim _ _ _ _ _ h1,
  fun f args h r h' hi => by rcases key hi with h1 | h1; exact hB.lg _ _ _ _ _ h1; exact hI.lg _ _ _ _ _ h1,
  fun f args h r h' hi => by rcases key hi with h1 | h1; exact hB.next _ _ _ _ _ h1; exact hI.next _ _ _ _ _ h1⟩
/-! ### Kids -/
def repK (E : Env) (h : H) (ks : List Item) (sl : Value) : Prop := rep E h (.mk 0 0 ⟨#[]⟩ ks) (.agg ⟨[.int .i64 0, .int .i64 0, .string ⟨#[]⟩, sl]⟩)
theorem repK_of {E : Env} {h : H} {k m : Int} {tx : ByteArray} {ks : List Item} {a b c sl : Value} (hr : rep E h (.mk k m tx ks) (.agg ⟨[a, b, c, sl]⟩)) : repK E h ks sl := by
 rw [rep] at hr
 obtain ⟨s, he, hs⟩ := hr
 cases he
 unfold repK
 rw [rep]
 exact ⟨_, rfl, hs⟩
theorem repK_one {E : Env} {h : H} {ks ks' : List Item} {sl : Value} (h1 : repK E h ks sl) (h2 : repK E h ks' sl) : ks = ks' := by
 have := rep_one h1 h2
 simp only [Item.mk.injEq] at this
 exact this.2.2.2
theorem repK_grow {E : Env} {h h' : H} (g : Grows h h') {ks : List Item} {sl : Value} (h1 : repK E h ks sl) : repK E h' ks sl := rep_grow g h1
theorem repK_slice {E : Env} {h : H} {ks : List Item} {sl : Value} (hr : repK E h ks sl) : ∃ b c, sl = .slice b ks.length c ∧ ks.length < 9223372036854775808 ∧ (ks = [] ∨ ∃ a cs, b = some a ∧ h.cells E a (ks.length * 4) = some cs ∧ repL E h ks cs) := by
 obtain ⟨b, c, he, hs⟩ := rep_slice hr
 simp only [Value.agg.injEq, Array.mk.injEq, List.cons.injEq, and_true, true_and] at he
 refine ⟨b, c, he, ?_, ?_⟩
 ·rcases hs with rfl | ⟨a, cs, _, h1, _⟩
  ·decide
  ·exact h1
 ·rcases hs with h | ⟨a, cs, h1, _, h2, h3⟩
  ·exact .inl h
  ·exact .inr ⟨a, cs, h1, h2, h3⟩
def orL : List Int → Int
 | [] => 0
 | x :: xs => if x ≠ 0 then x else orL xs
def cmpN (a b : Int) : Int := if a < b then -1 else if a > b then 1 else 0
theorem cmpL_if : ∀ (a b : List UInt8), cmpL a b = if (a == b) = false then (if Op.bytesLess a b then -1 else 1) else 0
 | [], [] => rfl
 | [], _ :: _ => rfl
 | _ :: _, [] => rfl
 | a :: as, b :: bs => by
  rw [cmpL, cmpL_if as bs]
  have h1 : ∀ x y : UInt8, x = y ↔ x.toNat = y.toNat := fun x y => ⟨fun h => by rw [h], fun h => UInt8.toNat.inj h⟩
  by_cases q : a.toNat < b.toNat
  ·have e1 : a.toNat.blt b.toNat = true := by rw [Nat.blt_eq]; exact q
   have ne : a ≠ b := fun h => by rw [h] at q; exact Nat.lt_irrefl _ q
   have e2 : (a :: as == b :: bs) = false := by simp [ne]
   have e3 : Op.bytesLess (a :: as) (b :: bs) = true := by
    unfold Op.bytesLess
    simp [UInt8.lt_iff_toNat_lt, q, ne]
   rw [e2, e3]; simp [e1]
  ·have e1 : a.toNat.blt b.toNat = false := by
    cases qq : a.toNat.blt b.toNat
    ·rfl
    ·rw [Nat.blt_eq] at qq; exact absurd qq q
   by_cases q2 : b.toNat < a.toNat
   ·have e4 : b.toNat.blt a.toNat = true := by rw [Nat.blt_eq]; exact q2
    have ne : a ≠ b := fun h => by rw [h] at q2; exact Nat.lt_irrefl _ q2
    have e2 : (a :: as == b :: bs) = false := by simp [ne]
    have e3 : Op.bytesLess (a :: as) (b :: bs) = false := by
     unfold Op.bytesLess
     simp [UInt8.lt_iff_toNat_lt, q, ne]
    rw [e2, e3]; simp [e1, e4]
   ·have e4 : b.toNat.blt a.toNat = false := by
     cases qq : b.toNat.blt a.toNat
     ·rfl
     ·rw [Nat.blt_eq] at qq; exact absurd qq q2
    obtain rfl : a = b := (h1 a b).2 (by omega)
    have e2 : (a :: as == a :: bs) = (as == bs) := by simp
    have e3 : Op.bytesLess (a :: as) (a :: bs) = Op.bytesLess as bs := by
     rw [Op.bytesLess]
     simp [UInt8.lt_iff_toNat_lt]
    rw [e2, e3]; simp [e1]
theorem ordI_or (k m : Int) (tx : ByteArray) (ks : List Item) (k' m' : Int) (tx' : ByteArray) (ks' : List Item) : ordI (.mk k m tx ks) (.mk k' m' tx' ks') = orL [cmpN k k', cmpN m m', cmpL tx.data.toList tx'.data.toList, ordL ks ks'] := by
 have hc := cmpL_if tx.data.toList tx'.data.toList
 have hn : ∀ a b : Int, cmpN a b = if a ≠ b then (if a < b then -1 else 1) else 0 := by
  intro a b
  unfold cmpN
  by_cases h : a < b
  ·rw [if_pos h, if_pos (show a ≠ b by omega), if_pos h]
  ·by_cases h2 : a > b
   ·rw [if_neg h, if_pos h2, if_pos (show a ≠ b by omega), if_neg h]
   ·rw [if_neg h, if_neg h2, if_neg (show ¬ a ≠ b by omega)]
 have ho : ∀ (p : Prop) [Decidable p] (q : Bool) (l : List Int), orL ((if p then (if q = true then -1 else 1) else 0) :: l) = if p then (if q = true then -1 else 1) else orL l := by
  intro p _ q l
  rw [orL]
  by_cases h : p
  ·simp only [if_pos h]
   cases q <;> rfl
  ·simp only [if_neg h]; rfl
 have h1 : orL [ordL ks ks'] = ordL ks ks' := by
  simp only [orL]
  split
  ·rfl
  ·next h => exact (Classical.not_not.1 h).symm
 rw [ordI, hc, hn k k', hn m m']
 have e := ho (k ≠ k') (decide (k < k')) [if m ≠ m' then (if m < m' then -1 else 1) else 0, if (tx.data.toList == tx'.data.toList) = false then (if Op.bytesLess tx.data.toList tx'.data.toList = true then -1 else 1) else 0, ordL ks ks']
 simp only [decide_eq_true_eq] at e
 rw [e]
 have e := ho (m ≠ m') (decide (m < m')) [if (tx.data.toList == tx'.data.toList) = false then (if Op.bytesLess tx.data.toList tx'.data.toList = true then -1 else 1) else 0, ordL ks ks']
 simp only [decide_eq_true_eq] at e
 rw [e, ho ((tx.data.toList == tx'.data.toList) = false), h1]
def chkAll : List Item → Int
 | [] => 0
 | x :: xs => if (chkI x 0 1).2 ≠ 0 then (chkI x 0 1).2 else chkAll xs
end Go.Hs
/- Blocks of before that are written, whatever is told of it; regions in which that happens. -/
namespace Go.Hs
def H.setl (h : H) (k : Nat) (B : Blk) : H := (h.setb k B).note [k]
theorem setl_blk (h : H) (k : Nat) (B : Blk) (j : Nat) : (h.setl k B).blk j = (h.setb k B).blk j := H.note_blk _ _ _
theorem setl_dyn (h : H) (k : Nat) (B : Blk) : (h.setl k B).dyn = h.dyn.set k B := H.note_dyn _ _
theorem setl_next (h : H) (k : Nat) (B : Blk) : (h.setl k B).next = h.next := H.note_next _ _
theorem note_mark (h : H) (ks : List Nat) : (h.note ks).mark = h.mark := by unfold H.note; split <;> rfl
theorem note_chains (h : H) (ks : List Nat) : (h.note ks).chains = h.chains := by unfold H.note; split <;> rfl
theorem setl_mark (h : H) (k : Nat) (B : Blk) : (h.setl k B).mark = h.mark := note_mark _ _
theorem setl_chain (h : H) (k : Nat) (B : Blk) (r : Nat) : (h.setl k B).chain r = h.chain r := by
 unfold H.chain
 show (((h.setb k B).note [k]).chains.get r).getD [] = _
 rw [note_chains]; rfl
theorem setl_same {h : H} {k : Nat} {B : Blk} (hB : B.plain = true) : (h.setl k B).blk k = some B := by rw [setl_blk]; exact setb_same hB
theorem setl_ne {h : H} {k j : Nat} {B : Blk} (hk : j ≠ k) : (h.setl k B).blk j = h.blk j := by rw [setl_blk]; exact setb_ne hk
theorem note_log {h : H} {ks : List Nat} {j : Nat} (hj : j ∈ (h.note ks).log) : j ∈ h.log ∨ (j ∈ ks ∧ j < h.mark) := by
 unfold H.note at hj
 split at hj
 ·exact .inl hj
 ·next m hm =>
  rcases List.mem_append.1 hj with hj | hj
  ·obtain ⟨h1, h2⟩ := List.mem_filter.1 hj
   rw [Nat.ble_eq] at h2
   exact .inr ⟨h1, by omega⟩
  ·exact .inl hj
theorem setl_log {h : H} {k : Nat} {B : Blk} {j : Nat} (hj : j ∈ (h.setl k B).log) : j ∈ h.log ∨ (j = k ∧ j < h.mark) := by
 rcases note_log hj with h1 | ⟨h1, h2⟩
 ·exact .inl h1
 ·exact .inr ⟨by simpa using h1, h2⟩
theorem Fit.setl {h : H} (f : Fit h) {k : Nat} {B : Blk} (hB : B.plain = true) (hk : k < h.next) : Fit (h.setl k B) := by
 have g := f.setb hB hk
 refine ⟨fun j hj => ?_, ⟨fun j xs ty r p hd => ?_, ?_⟩⟩
 ·rw [setl_next] at hj
  rw [setl_dyn]
  exact g.free j hj
 ·rw [setl_dyn] at hd
  rw [setl_next]
  exact g.ok.1 _ _ _ _ _ hd
 ·rw [setl_mark, setl_next]; exact f.ok.2
structure Mod (M : Nat → Prop) (h g : H) : Prop where
 fit : Fit g
 blk : ∀ k B, ¬ M k → h.blk k = some B → g.blk k = some B
 mark : g.mark = h.mark
 next : h.next ≤ g.next
 chain : ∀ r, r < h.next → g.chain r = h.chain r
 log : ∀ j, j ∈ g.log → j ∈ h.log ∨ (M j ∧ j < h.mark)
theorem Mod.refl {M : Nat → Prop} {h : H} (f : Fit h) : Mod M h h := ⟨f, fun _ _ _ h => h, rfl, Nat.le_refl _, fun _ _ => rfl, fun _ h => .inl h⟩
theorem Mod.trans {M : Nat → Prop} {h g f : H} (s : Mod M h g) (t : Mod M g f) : Mod M h f :=
 ⟨t.fit, fun k B hk hb => t.blk k B hk (s.blk k B hk hb), t.mark.trans s.mark, Nat.le_trans s.next t.next, fun r hr => (t.chain r (Nat.lt_of_lt_of_le hr s.next)).trans (s.chain r hr), fun j hj => by
  rcases t.log j hj with h1 | ⟨h1, h2⟩
  ·exact s.log j h1
  ·exact .inr ⟨h1, by rw [← s.mark]; exact h2⟩⟩
theorem Ahd.mod {M : Nat → Prop} {h g : H} (a : Ahd h g) : Mod M h g := ⟨a.fit, fun k B _ hb => a.grows k B hb, a.mark, a.next, a.chain, fun j hj => .inl (by rw [← a.log]; exact hj)⟩
theorem Mod.ahd {M : Nat → Prop} {h g f : H} (s : Mod M h g) (t : Ahd g f) : Mod M h f := s.trans t.mod
theorem Mod.sub {M N : Nat → Prop} {h g : H} (s : Mod M h g) (hMN : ∀ k, M k → N k) : Mod N h g :=
 ⟨s.fit, fun k B hk hb => s.blk k B (fun hm => hk (hMN k hm)) hb, s.mark, s.next, s.chain, fun j hj => (s.log j hj).imp id (fun h => ⟨hMN j h.1, h.2⟩)⟩
theorem Mod.setl {M : Nat → Prop} {h g : H} (s : Mod M h g) {k : Nat} {B : Blk} (hB : B.plain = true) (hk : M k) (hg : k < g.next) : Mod M h (g.setl k B) :=
 ⟨s.fit.setl hB hg, fun j B' hj hb => by
  rw [setl_ne (by intro e; subst e; exact hj hk)]; exact s.blk j B' hj hb, (setl_mark _ _ _).trans s.mark, by rw [setl_next]; exact s.next, fun r hr => (setl_chain _ _ _ _).trans (s.chain r hr), fun j hj => by
  rcases setl_log hj with h1 | ⟨rfl, h2⟩
  ·exact s.log j h1
  ·exact .inr ⟨hk, by rw [← s.mark]; exact h2⟩⟩
theorem Mod.low {M N : Nat → Prop} {h g : H} (f : Fit h) (s : Mod N h g) (hN : ∀ k, N k → M k ∨ h.next ≤ k) : Mod M h g :=
 ⟨s.fit, fun k B hk hb => s.blk k B (fun hn => by
  rcases hN k hn with h1 | h1
  ·exact hk h1
  ·have := f.lt hb; omega) hb, s.mark, s.next, s.chain, fun j hj => by
  rcases s.log j hj with h1 | ⟨h1, h2⟩
  ·exact .inl h1
  ·rcases hN j h1 with h3 | h3
   ·exact .inr ⟨h3, h2⟩
   ·have := f.ok.2; omega⟩
theorem put_setl {h : H} {k o : Nat} {vs xs : List Value} {ty : TypeId} (hb : h.blk k = some (.cells xs ty none)) (hv : vs ≠ []) (hl : o + vs.length ≤ xs.length) (h1 : vs.all isOne = true) :
  h.put (aadd (own k) o) vs = some (h.setl k (.cells (xs.take o ++ vs ++ xs.drop (o + vs.length)) ty none)) := by
 unfold H.put
 cases vs with
 | nil => exact absurd rfl hv
 | cons v vs =>
  simp only [aadd, own, Nat.zero_add, hb]
  rw [h1, show Nat.ble (o + (v :: vs).length) xs.length = true from by rw [Nat.ble_eq]; exact hl]
  simp only [Bool.and_self]
  rfl
theorem put_own_setl {h : H} {k : Nat} {vs xs : List Value} {ty : TypeId} (hb : h.blk k = some (.cells xs ty none)) (hv : vs ≠ []) (hl : vs.length = xs.length) (h1 : vs.all isOne = true) :
  h.put (own k) vs = some (h.setl k (.cells vs ty none)) := by
 have := put_setl (o := 0) hb hv (by omega) h1
 rw [show aadd (own k) 0 = own k from rfl, List.take_zero, List.nil_append, List.drop_of_length_le (by omega), List.append_nil] at this
 exact this
theorem fresh_setl {h : H} {k : Nat} {B : Blk} (hk : k < h.next) : ((fresh h).setl k B).log = [k] ∧ back h ((fresh h).setl k B) = h.setl k B := by
 have hd : ∃ m, h.next = m + 1 ∧ k ≤ m := by cases hn : h.next with | zero => omega | succ m => exact ⟨m, rfl, by omega⟩
 obtain ⟨m, hm1, hm2⟩ := hd
 have hble : Nat.ble k m = true := by rw [Nat.ble_eq]; exact hm2
 have e : (fresh h).setl k B = { h with dyn := h.dyn.set k B, mark := h.next, log := [k] } := by
  unfold H.setl H.note
  have : ((fresh h).setb k B).mark = m + 1 := hm1
  rw [this]
  simp only [List.filter_cons, hble, if_true, List.filter_nil]
  rw [← hm1]
  rfl
 rw [e]
 exact ⟨rfl, rfl⟩
theorem Mod.back {M : Nat → Prop} {h h1 : H} (f : Fit h) (a : Mod M (fresh h) h1) : Mod M h (Hs.back h h1) ∧ (∀ k, (Hs.back h h1).blk k = h1.blk k) ∧ (Hs.back h h1).next = h1.next ∧ ∀ j, j ∈ h1.log → M j ∧ j < h.next := by
 have hb := back_blk h h1
 have hn := back_next h h1
 have hl : ∀ j, j ∈ h1.log → M j ∧ j < h.next := fun j hj => by
  rcases a.log j hj with h2 | h2
  ·cases h2
  ·exact h2
 refine ⟨⟨⟨fun k hk => ?_, ⟨fun k xs ty r p hd => ?_, ?_⟩⟩, fun k B hk hB => by rw [hb]; exact a.blk k B hk hB, ?_, by rw [hn]; exact a.next, fun r hr => ?_, fun j hj => ?_⟩, hb, hn, hl⟩
 ·rw [hn] at hk
  rw [back_dyn]; exact a.fit.free k hk
 ·rw [back_dyn] at hd
  rw [hn]; exact a.fit.ok.1 _ _ _ _ _ hd
 ·unfold Hs.back
  rw [note_mark, H.note_next]
  exact Nat.le_trans f.ok.2 a.next
 ·unfold Hs.back
  rw [note_mark]
 ·unfold Hs.back H.chain
  rw [note_chains]
  exact a.chain r hr
 ·rcases note_log hj with h2 | ⟨h2, h3⟩
  ·exact .inl h2
  ·exact .inr ⟨(hl j h2).1, h3⟩
theorem allMeet_by {b : Array Nat} {ts : List Tch} (S : List Nat) (hc : ∀ i e, ts[i]? = some e → S.contains i = false → calm e = true) (hS : ∀ i j s t, i < j → (S.contains i = true ∨ S.contains j = true) → ts[i]? = some s → ts[j]? = some t → ordered b i j = false → meets s t = true) : allMeet b ts = true := by
 unfold allMeet
 simp only [List.all_eq_true]
 rintro ⟨x, i⟩ hx ⟨y, j⟩ hy
 have hx := List.mem_zipIdx_iff_getElem?.1 hx
 have hy := List.mem_zipIdx_iff_getElem?.1 hy
 simp only at hx hy ⊢
 by_cases hij : i < j
 rotate_left
 ·have : Nat.blt i j = false := by
   cases q : Nat.blt i j
   ·rfl
   ·rw [Nat.blt_eq] at q; omega
  rw [this]; rfl
 cases ho : ordered b i j with
 | true => simp
 | false =>
  by_cases h1 : S.contains i = true
  ·rw [hS i j x y hij (.inl h1) hx hy ho]; simp
  ·by_cases h2 : S.contains j = true
   ·rw [hS i j x y hij (.inr h2) hx hy ho]; simp
   ·have c1 := hc i x hx (by simpa using h1)
    have c2 := hc j y hy (by simpa using h2)
    simp only [calm, Bool.and_eq_true, Bool.not_eq_true', List.isEmpty_iff] at c1 c2
    have : meets x y = true := by
     unfold meets
     rw [c1.1, c2.1, c1.2, c2.2]
     simp [apart?]
    rw [this, Bool.or_true]
theorem pairs_of {b : Array Nat} {S : List Nat} {n : Nat} {U : List (Nat × Nat)} (h : ((List.range n).all fun i => (List.range n).all fun j => !(Nat.blt i j) || !(S.contains i || S.contains j) || ordered b i j || U.contains (i, j)) = true) {i j : Nat} (hij : i < j) (hj : j < n) (hs : S.contains i = true ∨ S.contains j = true) (ho : ordered b i j = false) : (i, j) ∈ U := by
 rw [List.all_eq_true] at h
 have h1 := h i (List.mem_range.2 (by omega))
 rw [List.all_eq_true] at h1
 have h2 := h1 j (List.mem_range.2 hj)
 have e1 : Nat.blt i j = true := by rw [Nat.blt_eq]; exact hij
 have e2 : (S.contains i || S.contains j) = true := by rcases hs with h | h <;> rw [h] <;> simp
 rw [e1, e2, ho] at h2
 simpa using h2
theorem allMeet_last {b : Array Nat} {l : List Tch} {s : Tch} (hc : l.all calm = true) (h : ((List.range l.length).all fun i => ordered b i l.length) = true) : allMeet b (l ++ [s]) = true := by
 refine allMeet_by [l.length] (fun i e hi hs => ?_) (fun i j s' t hij hs h1 h2 ho => ?_)
 ·have hil : i < l.length := by
   have h1 := (List.getElem?_eq_some_iff.1 hi).1
   rw [List.length_append] at h1
   have h2 : i ≠ l.length := by
    intro e
    subst e
    simp at hs
   simp at h1
   omega
  rw [List.getElem?_append_left hil] at hi
  rw [List.all_eq_true] at hc
  exact hc e (List.mem_of_getElem? hi)
 ·have hj : j < l.length + 1 := by
   have := (List.getElem?_eq_some_iff.1 h2).1
   simpa using this
  have hjl : j = l.length := by
   rcases hs with hs | hs
   ·have : i = l.length := by simpa using hs
    omega
   ·simpa using hs
  subst hjl
  rw [List.all_eq_true] at h
  rw [h i (List.mem_range.2 hij)] at ho
  cases ho
theorem meets_left {s t : Tch} {l : List Nat} (ht : t.writes = []) (hr : t.reads = some l) (hd : ∀ k, k ∈ s.writes → k ∉ l) (hn : t.rooted = false) : meets s t = true := by
 unfold meets
 rw [ht, hr, hn]
 have h1 : apart? s.writes (some l) = true := by
  cases hw : s.writes with
  | nil => rfl
  | cons w ws =>
   simp only [apart?, List.all_eq_true]
   intro k hk
   rw [Bool.not_eq_true', List.any_eq_false]
   intro j hj hjk
   obtain rfl := Nat.eq_of_beq_eq_true hjk
   exact hd k (by rw [hw]; exact hk) hj
 have h2 : apart? s.writes (some []) = true := by cases hw : s.writes <;> simp [apart?]
 rw [h1, h2]
 simp [apart?]
theorem meets_right {s t : Tch} {l : List Nat} (hs : s.writes = []) (hr : s.reads = some l) (hd : ∀ k, k ∈ t.writes → k ∉ l) (hn : s.rooted = false) (hb : ∀ k, k ∈ t.writes → k < s.lo ∨ s.hi ≤ k) : meets s t = true := by
 unfold meets
 rw [hs, hr, hn]
 have h1 : apart? t.writes (some l) = true := by
  cases hw : t.writes with
  | nil => rfl
  | cons w ws =>
   simp only [apart?, List.all_eq_true]
   intro k hk
   rw [Bool.not_eq_true', List.any_eq_false]
   intro j hj hjk
   obtain rfl := Nat.eq_of_beq_eq_true hjk
   exact hd k (by rw [hw]; exact hk) hj
 have h3 : (t.writes.all fun k => Nat.blt k s.lo || Nat.ble s.hi k) = true := by
  rw [List.all_eq_true]
  intro k hk
  rcases hb k hk with h | h
  ·rw [show Nat.blt k s.lo = true from by rw [Nat.blt_eq]; exact h]; rfl
  ·rw [show Nat.ble s.hi k = true from by rw [Nat.ble_eq]; exact h, Bool.or_true]
 rw [h1, h3]
 simp [apart?]
section
variable {D : Tab} {E : Env} {v : Ev} {ops : Array Oper}
theorem FQ.setl {j : Nat} {o : Oper} {rest : List Oper} {A : Ac} {h : H} {k : Nat} {B : Blk} {x : Value} {Q : Ac → H → List Tch → Prop} (hg : o.guard = none) (hm : mayJoin o.op = false) (hk : k < h.next) (ho : oper1 D E v A o (fresh h) = some (x, (fresh h).setl k B))
  (r : FQ D E v ops (j + 1) rest (A.put o.dst x) (h.setl k B) (fun A' h' ts => Q A' h' (⟨reads D A o, [k], h.next, h.next, rootedStore A h o.op⟩ :: ts))) : FQ D E v ops j (o :: rest) A h Q := by
 obtain ⟨e1, e2⟩ := fresh_setl (h := h) (k := k) (B := B) hk
 refine FQ.step (awant_none hg) hm ho ?_
 rw [e2, e1, setl_next]
 exact r
theorem FQ.mod {j : Nat} {o : Oper} {rest : List Oper} {A : Ac} {h h1 : H} {x : Value} {Q : Ac → H → List Tch → Prop} (hg : o.guard = none) (hm : mayJoin o.op = false) (ho : oper1 D E v A o (fresh h) = some (x, h1))
  (r : FQ D E v ops (j + 1) rest (A.put o.dst x) (back h h1) (fun A' h' ts => Q A' h' (⟨reads D A o, h1.log, h.next, h1.next, rootedStore A h o.op⟩ :: ts))) : FQ D E v ops j (o :: rest) A h Q :=
 FQ.step (awant_none hg) hm ho r
end
section
variable {D : Tab} {E : Env} {I : Known}
theorem Wc.state {F : Fx} {c : Code} {A : Ac} {h : H} {Q : Ex → Ac → H → Prop} (P : Ac → H → Prop) (hP : P A h) (w : ∀ A' h', P A' h' → Wc D E I F c A' h' Q) : Wc D E I F c A h Q := w A h hP
end
end Go.Hs
/- Slices that are appended to, wherever the mark stands. -/
namespace Go.Hs
def Ap2 (h : H) (base : Nat) (e : TypeId) (sz : Nat) (s : Value) (n : Nat) (xs : List Value) (ro : Option Nat) : Prop :=
 (n = 0 ∧ xs = [] ∧ s = .slice none 0 0 ∧ ro = none) ∨
 ∃ k r, s = .slice (some (own k)) n n ∧ h.blk k = some (.cells xs e (some (r, 0))) ∧ xs.length = n * sz ∧ xs.all isOne = true ∧ base ≤ r ∧ r < h.next ∧ (∀ j ∈ h.chain r, ∃ ys ty p, h.dyn.get j = some (.cells ys ty (some (r, p))) ∧ p + ys.length ≤ n * sz) ∧ ro = some r
theorem ap2_step {D : Tab} {E : Env} {h : H} {base : Nat} {t t2 e : TypeId} {sz by_ n kx c i6 i7 : Nat} {i8 : Option Value} {i9 : Bool} {s ze : Value} {xs cs : List Value} {ro : Option Nat} (f : Fit h) (hbn : base ≤ h.next) (ap : Ap2 h base e sz s n xs ro)
  (ht : D.ty.get t = some ⟨.slice e sz by_, i6, i7, i8, i9⟩) (hz : tzero D e = some ze) (hzz : (Nat.beq ze.cells.toList.length sz && Nat.blt 0 sz && ze.cells.toList.all isOne) = true) (hzt : zeroArg D t2 (.slice (some (own kx)) 1 c) = some false)
  (hx : h.cells E (own kx) sz = some cs) (hcl : cs.length = sz) (hc1 : cs.all isOne = true) (hrm : roomy (n + 1) by_ = true) :
  ∃ s' h' ro', aappend D E t t2 s (.slice (some (own kx)) 1 c) h = some (s', h') ∧ Ap2 h' base e sz s' (n + 1) (xs ++ cs) ro' ∧ Grew base ro h h' ∧ (ro = none ∧ ro' = some h.next ∨ ro ≠ none ∧ ro' = ro) := by
 have hel : aelems E sz ze.cells.toList (.slice (some (own kx)) 1 c) h = some (1, cs) := by
  simp only [aelems, Nat.one_mul, hx]
 have hbl : Nat.beq cs.length (1 * sz) = true := by rw [Nat.one_mul, hcl]; exact Nat.beq_refl sz
 have hsz : 0 < sz := by
  simp only [Bool.and_eq_true, Nat.blt_eq] at hzz
  exact hzz.1.2
 rcases ap with ⟨rfl, rfl, rfl, rfl⟩ | ⟨k, r, rfl, hb, hl, h1, hbr, hrx, hch, rfl⟩
 ·refine ⟨.slice (some (own h.next)) 1 1, h.newOpen cs e, some h.next, ?_, .inr ⟨h.next, h.next, rfl, ?_, ?_, ?_, hbn, Nat.lt_succ_self _, ?_, rfl⟩, ⟨newOpen_fit f, fun k B hb _ => newOpen_old f hb, rfl, rfl, Nat.le_succ _, fun r hr => ?_⟩, .inl ⟨rfl, rfl⟩⟩
  ·unfold aappend
   rw [ht]
   simp only [hz, hzt, hzz, hel, hbl, hrm]
  ·exact newOpen_new
  ·rw [List.nil_append]; simp [hcl]
  ·rw [List.nil_append]; exact hc1
  ·intro j hj
   simp only [H.chain, H.newOpen, T.get_set_same, Option.getD, List.mem_singleton] at hj
   subst hj
   exact ⟨cs, e, 0, T.get_set_same _ _ _, by simp [hcl]⟩
  ·simp only [H.chain, H.newOpen]
   rw [T.get_set_ne _ _ _ _ (by omega)]
 ·have hkn := f.lt hb
  have hd := H.blk_dyn hb
  have hrn := f.ok.1 _ _ _ _ _ hd
  have hgr : h.grow e r (0 + (own k).off) (n * sz) (own k).block (xs.drop (own k).off) cs = { h with next := h.next + 1, dyn := h.dyn.set h.next (.cells (xs ++ cs) e (some (r, 0))), chains := h.chains.set r (h.next :: h.spare r k (0 + n * sz) (0 + n * sz + cs.length)) } := by
   unfold H.grow
   simp only [own, Nat.add_zero, List.drop_zero]
   have hgone : h.gone r k (0 + n * sz) (0 + n * sz + cs.length) = [] := by
    rw [List.eq_nil_iff_forall_not_mem]
    intro j hj
    obtain ⟨hj1, hj2⟩ := mem_gone.1 hj
    obtain ⟨ys, ty, p, hd, hle⟩ := hch j hj1
    unfold H.hits at hj2
    split at hj2
    ·cases hj2
    ·rw [hd] at hj2
     simp only [Bool.and_eq_true, Nat.blt_eq] at hj2
     omega
   rw [hgone]
   exact note_nil _
  generalize hg : ({ h with next := h.next + 1, dyn := h.dyn.set h.next (.cells (xs ++ cs) e (some (r, 0))), chains := h.chains.set r (h.next :: h.spare r k (0 + n * sz) (0 + n * sz + cs.length)) } : H) = g at hgr
  have hcr : g.chain r = h.next :: h.spare r k (0 + n * sz) (0 + n * sz + cs.length) := by
   rw [← hg]; simp only [H.chain, T.get_set_same, Option.getD]
  have hcn : ∀ r', r' ≠ r → g.chain r' = h.chain r' := by
   intro r' hr'
   rw [← hg]; simp only [H.chain]; rw [T.get_set_ne _ _ _ _ hr']
  have hgn : g.next = h.next + 1 := by rw [← hg]
  have hnew : g.blk h.next = some (.cells (xs ++ cs) e (some (r, 0))) := by
   have hdd : g.dyn.get h.next = some (.cells (xs ++ cs) e (some (r, 0))) := by rw [← hg]; exact T.get_set_same _ _ _
   unfold H.blk
   rw [hdd]
   simp only [hcr, List.contains_cons, beq_self_eq_true, Bool.true_or]
  have hold : ∀ j, j ≠ h.next → g.dyn.get j = h.dyn.get j := by
   intro j hj
   rw [← hg]; exact T.get_set_ne _ _ _ _ hj
  refine ⟨.slice (some (own h.next)) (n + 1) (n + 1), g, some r, ?_, .inr ⟨h.next, r, rfl, hnew, ?_, ?_, hbr, by rw [hgn]; omega, ?_, rfl⟩, ⟨⟨fun j hj => ?_, fun j ys ty r' p hd' => ?_, ?_⟩, ?_, ?_, ?_, ?_, ?_⟩, .inr ⟨by simp, rfl⟩⟩
  ·unfold aappend
   rw [ht]
   simp only [hz, hzt, hzz, hel, hbl, hrm]
   have e1 : (own k).spot = some 0 := rfl
   have e2 : (own k).block = k := rfl
   have e3 : (own k).off = 0 := rfl
   have e4 : Nat.ble (n + 1) n = false := by
    cases hq : Nat.ble (n + 1) n
    ·rfl
    ·rw [Nat.ble_eq] at hq; omega
   simp only [e1, e2, hb, e4]
   have e5 : (Nat.beq n n && Nat.beq ((own k).off + n * sz) xs.length && Nat.beq e e && (xs.drop (own k).off).all isOne && Nat.ble (own k).off xs.length) = true := by
    rw [e3, Nat.zero_add, hl, List.drop_zero, h1, Nat.beq_refl, Nat.beq_refl, Nat.beq_refl]
    simp [Nat.ble]
   simp only [e5]
   rw [← hgr]; rfl
  ·rw [List.length_append, hl, hcl]; rw [Nat.add_mul, Nat.one_mul]
  ·rw [List.all_append, h1, hc1]; rfl
  ·intro j hj
   rw [hcr] at hj
   rcases List.mem_cons.1 hj with rfl | hj
   ·exact ⟨xs ++ cs, e, 0, H.blk_dyn hnew, by rw [List.length_append, hl, hcl, Nat.add_mul, Nat.one_mul]; omega⟩
   ·obtain ⟨ys, ty, p, hd, hle⟩ := hch j (mem_spare.1 hj).1
    have hjn : j ≠ h.next := by
     intro e
     subst e
     rw [f.free _ (Nat.le_refl _)] at hd; cases hd
    refine ⟨ys, ty, p, by rw [hold j hjn]; exact hd, ?_⟩
    rw [Nat.add_mul]; omega
  ·rw [hgn] at hj
   rw [hold j (by omega)]; exact f.free j (by omega)
  ·rw [hgn]
   by_cases hj : j = h.next
   ·subst hj
    have := H.blk_dyn hnew
    rw [this] at hd'; cases hd'; omega
   ·rw [hold j hj] at hd'
    have := f.ok.1 _ _ _ _ _ hd'; omega
  ·rw [hgn]
   have := f.ok.2
   rw [← hg]; exact Nat.le_succ_of_le this
  ·intro j B hbj hro
   have hjn := f.lt hbj
   rw [← hbj]
   refine blk_congr (hold j (by omega)) (fun ys u r' q hd' => ?_)
   have : B = .cells ys u (some (r', q)) := by
    have := H.blk_dyn hbj
    rw [hd'] at this; cases this; rfl
   have hne := hro _ _ _ _ this
   rw [hcn r' (fun h => hne (by rw [h]))]
  ·rw [← hg]
  ·rw [← hg]
  ·rw [hgn]; omega
  ·intro r' hr'
   exact hcn r' (by omega)
theorem Ap2.mod {M : Nat → Prop} {h g : H} {base : Nat} {e : TypeId} {sz : Nat} {s : Value} {n : Nat} {xs : List Value} {ro : Option Nat} (a : Ap2 h base e sz s n xs ro) (m : Mod M h g) (hp : ∀ k B, M k → h.blk k = some B → B.plain = true) : Ap2 g base e sz s n xs ro := by
 rcases a with a | ⟨k, r, e1, e2, e3, e4, e5, e6, e7, e8⟩
 ·exact .inl a
 ·have keep : ∀ j ys ty p, h.blk j = some (.cells ys ty (some (r, p))) → g.blk j = some (.cells ys ty (some (r, p))) := fun j ys ty p hb => m.blk _ _ (fun hM => by
   have := hp _ _ hM hb
   cases this) hb
  refine .inr ⟨k, r, e1, keep _ _ _ _ e2, e3, e4, e5, Nat.lt_of_lt_of_le e6 m.next, fun j hj => ?_, e8⟩
  rw [m.chain r e6] at hj
  obtain ⟨ys, ty, p, hd, hle⟩ := e7 j hj
  have hb : h.blk j = some (.cells ys ty (some (r, p))) := by
   unfold H.blk
   rw [hd]
   simp only
   rw [show (h.chain r).contains j = true from by simpa using hj]
  exact ⟨ys, ty, p, H.blk_dyn (keep _ _ _ _ hb), hle⟩
theorem only_mod {M : Nat → Prop} {p q : Nat → Bool} {h g : H} (f : Fit h) (m : Mod M h g) (hM : ∀ k B, M k → h.blk k = some B → B.plain = true) (hp : ∀ r, p r = true → q r = true) : Grows (only p h) (only q g) :=
 only_mono f m.fit (fun k B hb ⟨xs, ty, r, o, hB, _⟩ => m.blk k B (fun hk => by
  have := hM k B hk hb
  subst hB; cases this) hb) hp
end Go.Hs
/- Items that are right; loops of a function. -/
namespace Go.Hs
def loops : Code → List Code
 | .seq a b => loops a ++ loops b
 | .cond _ a b => loops a ++ loops b
 | .block _ c => loops c
 | .scope c => loops c
 | .loop c => c :: loops c
 | .rangeFunc _ _ a b => loops a ++ loops b
 | _ => []
def loopAt (f : Func) (n : Nat) : Code := match f.body with
 | some c => (loops c).getD n .skip
 | none => .skip
mutual
def goodI : Item → Prop
 | .mk k n tx ks => 1 ≤ k ∧ k ≤ 63 ∧ 0 ≤ n ∧ n ≤ 1099511627776 ∧ tx.data.toList.length ≤ 4096 ∧ goodL ks
def goodL : List Item → Prop
 | [] => True
 | x :: xs => goodI x ∧ goodL xs
end
theorem iszL_append : ∀ (xs : List Item) (y : Item), iszL (xs ++ [y]) = iszL xs + isz y
 | [], y => by simp [iszL]
 | x :: xs, y => by rw [List.cons_append, iszL, iszL_append xs y, iszL]; omega
mutual
theorem chkI_good : ∀ (t : Item) (b l : Int), goodI t → 0 ≤ b → b + isz t ≤ 5000 → l - 1 + lvlI t ≤ 250 → (chkI t b l).2 = 0
 | .mk k n tx ks, b, l, hg, h0, h1, h2 => by
  rw [goodI] at hg
  obtain ⟨g1, g2, g3, g4, g5, g6⟩ := hg
  rw [isz] at h1
  rw [lvlI] at h2
  have hb := lvlL_bound ks 0 (Int.le_refl _)
  rw [chkI, if_neg (by omega), if_neg (by push_cast at h1; omega), if_neg (by omega), if_neg (by omega)]
  exact chkL_good ks (b + 1) (l + 1) g6 (by omega) (by push_cast at h1; omega) (by omega)
theorem chkL_good : ∀ (ks : List Item) (b l : Int), goodL ks → 0 ≤ b → b + iszL ks ≤ 5000 → l - 1 + lvlL ks 0 ≤ 250 → (chkL ks b l).2 = 0
 | [], b, l, _, _, _, _ => by rw [chkL]
 | x :: xs, b, l, hg, h0, h1, h2 => by
  rw [goodL] at hg
  rw [iszL] at h1
  push_cast at h1
  have hx := lvlI_bound x
  rw [lvlL, if_pos (by omega)] at h2
  have hm := lvlL_max xs (lvlI x) (by omega)
  have e := chkI_good x b l hg.1 h0 (by omega) (by omega)
  have es := chkI_size x b l e
  rw [chkL, if_neg (by rw [e]; simp), es]
  exact chkL_good xs (b + isz x) l hg.2 (by omega) (by omega) (by omega)
end
theorem lvlL_append (xs : List Item) (y : Item) : lvlL (xs ++ [y]) 0 = max (lvlL xs 0) (lvlI y) := by
 have key : ∀ (xs : List Item) (m : Int), lvlL (xs ++ [y]) m = (if lvlI y > lvlL xs m then lvlI y else lvlL xs m) := by
  intro xs
  induction xs with
  | nil => intro m; simp only [List.nil_append, lvlL]; rfl
  | cons x xs ih => intro m; rw [List.cons_append, lvlL, ih, lvlL]
 rw [key]
 split <;> omega
theorem back_chain (h g : H) (r : Nat) : (back h g).chain r = g.chain r := by
 unfold back H.chain
 rw [note_chains]
theorem back_fit {h q : H} (f : Fit h) (fq : Fit q) (hn : h.next ≤ q.next) : Fit (back h q) := by
 refine ⟨fun k hk => ?_, ⟨fun k xs ty r p hd => ?_, ?_⟩⟩
 ·rw [back_next] at hk
  rw [back_dyn]; exact fq.free k hk
 ·rw [back_dyn] at hd
  rw [back_next]; exact fq.ok.1 _ _ _ _ _ hd
 ·unfold back
  rw [note_mark, H.note_next]
  exact Nat.le_trans f.ok.2 hn
theorem back_only {h q : H} (f : Fit h) (fq : Fit q) (hn : h.next ≤ q.next) (p : Nat → Bool) : Grows (only p q) (only p (back h q)) :=
 only_mono fq (back_fit f fq hn) (fun k B hb _ => by rw [back_blk]; exact hb) (fun _ h => h)
theorem Ap2.back {h q : H} {base : Nat} {e : TypeId} {sz : Nat} {s : Value} {n : Nat} {xs : List Value} {ro : Option Nat} (a : Ap2 q base e sz s n xs ro) : Ap2 (Hs.back h q) base e sz s n xs ro := by
 rcases a with a | ⟨k, r, e1, e2, e3, e4, e5, e6, e7, e8⟩
 ·exact .inl a
 ·exact .inr ⟨k, r, e1, by rw [back_blk]; exact e2, e3, e4, e5, by rw [back_next]; exact e6, fun j hj => by
   rw [back_chain] at hj
   obtain ⟨ys, ty, p, h1, h2⟩ := e7 j hj
   exact ⟨ys, ty, p, by rw [back_dyn]; exact h1, h2⟩, e8⟩
theorem back_mark (h q : H) : (back h q).mark = h.mark := by unfold back; rw [note_mark]
theorem back_log {h q : H} (hl : q.log = []) : (back h q).log = h.log := by
 unfold back
 rw [hl]
 show (H.note _ []).log = _
 rw [note_nil]
theorem isz_pos (t : Item) : 1 ≤ isz t := by obtain ⟨_, _, _, ks⟩ := t; rw [isz]; omega
theorem len_iszL : ∀ l : List Item, l.length ≤ iszL l
 | [] => by simp [iszL]
 | x :: l => by rw [iszL, List.length_cons]; have := isz_pos x; have := len_iszL l; omega
end Go.Hs
/- Slices that are cloned. -/
namespace Go.Hs
theorem Ahd.newOpen {h : H} (f : Fit h) (xs : List Value) (ty : TypeId) : Ahd h (h.newOpen xs ty) :=
 ⟨newOpen_fit f, fun k B hb => newOpen_old f hb, rfl, rfl, Nat.le_succ _, fun r hr => by
  simp only [H.chain, H.newOpen]
  rw [T.get_set_ne _ _ _ _ (by omega)]⟩
structure Cln (h h' : H) (e : TypeId) (n : Nat) (cs : List Value) (s : Value) : Prop where
 ahd : Ahd h h'
 get : ∃ k rt, s = .slice (some (own k)) n n ∧ h'.blk k = some (.cells cs e rt) ∧ h.next ≤ k ∧ (rt = none ∧ n = 0 ∨ rt = some (k, 0) ∧ h'.chain k = [k])
theorem clone_step {D : Tab} {E : Env} {h : H} {t e : TypeId} {sz by_ n c i6 i7 : Nat} {i8 : Option Value} {i9 : Bool} {ze : Value} {cs : List Value} {a : Addr} (f : Fit h)
  (ht : D.ty.get t = some ⟨.slice e sz by_, i6, i7, i8, i9⟩) (hz : tzero D e = some ze) (hzz : (Nat.beq ze.cells.toList.length sz && Nat.blt 0 sz && ze.cells.toList.all isOne) = true)
  (hx : h.cells E a (n * sz) = some cs) (hcl : cs.length = n * sz) (hrm : roomy n by_ = true) :
  ∃ s h', aappend D E t t (.slice (some (own h.next)) 0 0) (.slice (some a) n c) (h.new (.cells [] e none)) = some (s, h') ∧ Cln h h' e n cs s := by
 have a1 : Ahd h (h.new (.cells [] e none)) := Ahd.new0 f rfl
 have b1 : (h.new (.cells [] e none)).blk h.next = some (.cells [] e none) := new_blk_new rfl
 have hx1 : (h.new (.cells [] e none)).cells E a (n * sz) = some cs := cells_grow a1.grows hx
 generalize h.new (.cells [] e none) = h1 at a1 b1 hx1 ⊢
 have hel : aelems E sz ze.cells.toList (.slice (some a) n c) h1 = some (n, cs) := by simp only [aelems, hx1]
 have hbl : Nat.beq cs.length (n * sz) = true := by rw [hcl]; exact Nat.beq_refl _
 have hzt : zeroArg D t (.slice (some a) n c) = some false := by unfold zeroArg; rw [ht]
 cases n with
 | zero =>
  refine ⟨.slice (some (own h.next)) 0 0, h1, ?_, a1, h.next, none, rfl, ?_, Nat.le_refl _, .inl ⟨rfl, rfl⟩⟩
  ·unfold aappend
   rw [ht]
   simp only [hz, hzt, hzz, hel, hbl, Nat.ble_self_eq_true]
  ·rw [b1]
   have : cs = [] := List.length_eq_zero_iff.1 (by rw [hcl, Nat.zero_mul])
   rw [this]
 | succ n =>
  refine ⟨.slice (some (own h1.next)) (n + 1) (n + 1), h1.newOpen cs e, ?_, a1.trans (Ahd.newOpen a1.fit _ _), h1.next, some (h1.next, 0), rfl, newOpen_new, a1.next, .inr ⟨rfl, by simp only [H.chain, H.newOpen, T.get_set_same, Option.getD]⟩⟩
  unfold aappend
  rw [ht]
  have hb' : h1.blk (own h.next).block = some (.cells [] e none) := b1
  have hr' : roomy (0 + (n + 1)) by_ = true := by rw [Nat.zero_add]; exact hrm
  have hle : Nat.ble (0 + (n + 1)) 0 = false := by
   cases q : Nat.ble (0 + (n + 1)) 0
   ·rfl
   ·rw [Nat.ble_eq] at q; omega
  have hsp : (own h.next).spot = some 0 := rfl
  simp only [hz, hzt, hzz, hel, hbl, hr', hb', hle, hsp, H.cells, Nat.zero_mul, List.nil_append]
  simp only [Nat.zero_add]
theorem aslice_start {D : Tab} {t e : TypeId} {sz by_ n c m i6 i7 : Nat} {i8 : Option Value} {i9 : Bool} {a : Addr} {h : H} (ht : D.ty.get t = some ⟨.slice e sz by_, i6, i7, i8, i9⟩) (hmn : m ≤ n) (hnc : n ≤ c) (hs : a.spot ≠ some 0) :
  ∃ c', m ≤ c' ∧ aslice D t (.slice (some a) n c) none (some (.int .i64 (m : Nat))) none h = some (.slice (some a) m c', h) := by
 have h1 : Nat.ble n c = true := by rw [Nat.ble_eq]; exact hnc
 have h2 : abound (some (.int .i64 (m : Nat))) c n = some m := by
  have : inRange ((m : Nat) : Int) (c + 1) = true := by
   show Nat.blt m (c + 1) = true
   rw [Nat.blt_eq]; omega
  simp only [abound, this, Int.toNat_natCast]
 unfold aslice
 rw [ht]
 have h3 : abound none m 0 = some 0 := rfl
 simp only [h1, asliceS, h2, h3, Nat.zero_mul, Nat.sub_zero]
 obtain ⟨b, o, sp⟩ := a
 have ha : aadd ⟨b, o, sp⟩ 0 = ⟨b, o, sp⟩ := by
  match sp with
  | none => rfl
  | some 0 => rfl
  | some (_ + 1) => rfl
 cases hc : Nat.beq c 0 with
 | false => exact ⟨c, by omega, by simp only [ha]⟩
 | true =>
  have := Nat.eq_of_beq_eq_true hc
  obtain rfl : m = 0 := by omega
  match sp, hs with
  | none, _ => exact ⟨0, Nat.le_refl _, rfl⟩
  | some (_ + 1), _ => exact ⟨0, Nat.le_refl _, rfl⟩
  | some 0, hs => exact absurd rfl hs
theorem aadd_zero (a : Addr) : aadd a 0 = a := by
 obtain ⟨b, o, sp⟩ := a
 match sp with
 | none => rfl
 | some 0 => rfl
 | some (_ + 1) => rfl
theorem Mod.toAhd {h g : H} (m : Mod (fun _ => False) h g) (hl : h.log = []) : Ahd h g :=
 ⟨m.fit, fun k B hb => m.blk k B (fun h => h) hb, by
  rw [hl]
  refine List.eq_nil_iff_forall_not_mem.2 fun j hj => ?_
  rcases m.log j hj with h1 | ⟨h1, _⟩
  ·rw [hl] at h1; cases h1
  ·exact h1, m.mark, m.next, m.chain⟩
end Go.Hs
/- A slice that is appended to from several places: what grew of it elsewhere is gone, nothing of before is. -/
namespace Go.Hs
def ChainOk (b : Nat) (e : TypeId) (h : H) (r : Nat) (P : Nat → Nat → Prop) : Prop := ∀ j ∈ h.chain r, b ≤ j ∧ ∃ ys, h.dyn.get j = some (.cells ys e (some (r, 0))) ∧ P j ys.length
theorem ChainOk.mono {b : Nat} {e : TypeId} {h : H} {r : Nat} {P Q : Nat → Nat → Prop} (c : ChainOk b e h r P) (hP : ∀ j l, P j l → Q j l) : ChainOk b e h r Q := fun j hj => by
 obtain ⟨h1, ys, h2, h3⟩ := c j hj
 exact ⟨h1, ys, h2, hP _ _ h3⟩
theorem chain_blk {h : H} {j r : Nat} {ys : List Value} {e : TypeId} {p : Nat} (hj : j ∈ h.chain r) (hd : h.dyn.get j = some (.cells ys e (some (r, p)))) : h.blk j = some (.cells ys e (some (r, p))) := by
 unfold H.blk
 rw [hd]
 simp only [show (h.chain r).contains j = true from by simpa using hj]
theorem Ahd.chainOk {b : Nat} {e : TypeId} {h g : H} {r : Nat} {P : Nat → Nat → Prop} (a : Ahd h g) (hr : r < h.next) (hP : ChainOk b e h r P) : ChainOk b e g r P := fun j hj => by
 rw [a.chain r hr] at hj
 obtain ⟨q1, ys, q2, q3⟩ := hP j hj
 exact ⟨q1, ys, H.blk_dyn (a.grows _ _ (chain_blk hj q2)), q3⟩
structure Pth (e : TypeId) (h : H) (sp : Value) (p : List Value) (rt : Option Nat) : Prop where
 get : ∃ k, sp = .slice (some (own k)) p.length p.length ∧ h.blk k = some (.cells p e (rt.map fun r => (r, 0)))
 one : p.all isOne = true
 nil : rt = none → p = []
theorem Pth.grow {e : TypeId} {h g : H} {sp : Value} {p : List Value} {rt : Option Nat} (P : Pth e h sp p rt) (hg : Grows h g) : Pth e g sp p rt := by
 obtain ⟨k, h1, h2⟩ := P.get
 exact ⟨⟨k, h1, hg _ _ h2⟩, P.one, P.nil⟩
theorem Pth.lt {e : TypeId} {h : H} {sp : Value} {p : List Value} {rt : Option Nat} (f : Fit h) (P : Pth e h sp p rt) : ∀ r, rt = some r → r < h.next := by
 intro r hr
 obtain ⟨k, h1, h2⟩ := P.get
 subst hr
 exact f.ok.1 _ _ _ _ _ (H.blk_dyn h2)
end Go.Hs
/- The order of items is an order. -/
namespace Go.Hs
theorem cmpN_anti (a b : Int) : cmpN a b = - cmpN b a := by
 unfold cmpN
 split <;> split <;> (try split) <;> (try split) <;> omega
theorem cmpN_zero (a b : Int) : cmpN a b = 0 ↔ a = b := by
 unfold cmpN
 split
 ·omega
 ·split <;> omega
theorem cmpL_cons (a : UInt8) (as : List UInt8) (b : UInt8) (bs : List UInt8) : cmpL (a :: as) (b :: bs) = if cmpN (a.toNat : Int) b.toNat ≠ 0 then cmpN (a.toNat : Int) b.toNat else cmpL as bs := by
 rw [cmpL]
 by_cases q : a.toNat < b.toNat
 ·have e1 : a.toNat.blt b.toNat = true := by rw [Nat.blt_eq]; exact q
  have e2 : cmpN (a.toNat : Int) b.toNat = -1 := by unfold cmpN; rw [if_pos (by omega)]
  rw [e1, e2]; simp
 ·have e1 : a.toNat.blt b.toNat = false := by
   cases qq : a.toNat.blt b.toNat
   ·rfl
   ·rw [Nat.blt_eq] at qq; exact absurd qq q
  by_cases q2 : b.toNat < a.toNat
  ·have e3 : b.toNat.blt a.toNat = true := by rw [Nat.blt_eq]; exact q2
   have e2 : cmpN (a.toNat : Int) b.toNat = 1 := by unfold cmpN; rw [if_neg (by omega), if_pos (by omega)]
   rw [e1, e2, e3]; simp
  ·have e3 : b.toNat.blt a.toNat = false := by
    cases qq : b.toNat.blt a.toNat
    ·rfl
    ·rw [Nat.blt_eq] at qq; exact absurd qq q2
   have e2 : cmpN (a.toNat : Int) b.toNat = 0 := by rw [cmpN_zero]; omega
   rw [e1, e2, e3]; simp
theorem cmpL_anti : ∀ (a b : List UInt8), cmpL a b = - cmpL b a
 | [], [] => rfl
 | [], _ :: _ => rfl
 | _ :: _, [] => rfl
 | a :: as, b :: bs => by
  rw [cmpL_cons, cmpL_cons, cmpL_anti as bs, cmpN_anti a.toNat b.toNat]
  split <;> split <;> omega
theorem cmpL_zero : ∀ (a b : List UInt8), cmpL a b = 0 ↔ a = b
 | [], [] => by simp [cmpL]
 | [], _ :: _ => by simp [cmpL]
 | _ :: _, [] => by simp [cmpL]
 | a :: as, b :: bs => by
  rw [cmpL_cons]
  have h1 := cmpN_zero a.toNat b.toNat
  have h2 := cmpL_zero as bs
  have h3 : a = b ↔ a.toNat = b.toNat := ⟨fun h => by rw [h], fun h => UInt8.toNat.inj h⟩
  simp only [List.cons.injEq]
  split
  ·constructor
   ·intro h; omega
   ·rintro ⟨rfl, _⟩; rename_i hh; exact absurd (h1.2 rfl) hh
  ·next hh =>
   have hab : a = b := by rw [h3]; have := h1.1 (Classical.not_not.1 hh); omega
   rw [h2]
   exact ⟨fun h => ⟨hab, h⟩, fun h => h.2⟩
theorem ordI_if (k m : Int) (tx : ByteArray) (ks : List Item) (k' m' : Int) (tx' : ByteArray) (ks' : List Item) : ordI (.mk k m tx ks) (.mk k' m' tx' ks') = if cmpN k k' ≠ 0 then cmpN k k' else if cmpN m m' ≠ 0 then cmpN m m' else if cmpL tx.data.toList tx'.data.toList ≠ 0 then cmpL tx.data.toList tx'.data.toList else ordL ks ks' := by
 rw [ordI_or]
 simp only [orL]
 split
 ·rfl
 ·split
  ·rfl
  ·split
   ·rfl
   ·split
    ·rfl
    ·next h => exact (Classical.not_not.1 h).symm
mutual
theorem ordI_anti : ∀ (a b : Item), ordI a b = - ordI b a
 | .mk k m tx ks, .mk k' m' tx' ks' => by
  rw [ordI_if, ordI_if, cmpN_anti k k', cmpN_anti m m', cmpL_anti tx.data.toList tx'.data.toList, ordL_anti ks ks']
  split <;> split <;> (try split) <;> (try split) <;> (try split) <;> (try split) <;> omega
theorem ordL_anti : ∀ (a b : List Item), ordL a b = - ordL b a
 | [], [] => by simp [ordL]
 | [], _ :: _ => by simp [ordL]
 | _ :: _, [] => by simp [ordL]
 | a :: as, b :: bs => by
  rw [ordL, ordL, ordI_anti a b, ordL_anti as bs]
  split <;> split <;> omega
end
mutual
theorem ordI_zero : ∀ (a b : Item), ordI a b = 0 → a = b
 | .mk k m tx ks, .mk k' m' tx' ks', h => by
  rw [ordI_if] at h
  split at h
  ·next hh => exact absurd h hh
  ·next h1 =>
   split at h
   ·next hh => exact absurd h hh
   ·next h2 =>
    split at h
    ·next hh => exact absurd h hh
    ·next h3 =>
     have e1 := (cmpN_zero _ _).1 (Classical.not_not.1 h1)
     have e2 := (cmpN_zero _ _).1 (Classical.not_not.1 h2)
     have e3 := (cmpL_zero _ _).1 (Classical.not_not.1 h3)
     have e4 := ordL_zero ks ks' h
     have e5 : tx = tx' := by
      apply ByteArray.ext
      exact Array.ext' e3
     rw [e1, e2, e5, e4]
theorem ordL_zero : ∀ (a b : List Item), ordL a b = 0 → a = b
 | [], [], _ => rfl
 | [], _ :: _, h => by simp [ordL] at h
 | _ :: _, [], h => by simp [ordL] at h
 | a :: as, b :: bs, h => by
  rw [ordL] at h
  split at h
  ·next hh => exact absurd h hh
  ·next h1 => rw [ordI_zero a b (Classical.not_not.1 h1), ordL_zero as bs h]
end
theorem ordI_self (a : Item) : ordI a a = 0 := by
 have := ordI_anti a a
 omega
end Go.Hs
/- Cells of a cloned slice that are written. -/
namespace Go.Hs
theorem put_root {g : H} {k o : Nat} {vs xs : List Value} {e : TypeId} (f : Fit g) (hb : g.blk k = some (.cells xs e (some (k, 0)))) (hc : g.chain k = [k]) (hv : vs ≠ []) (hl : o + vs.length ≤ xs.length) (h1 : vs.all isOne = true) :
  ∃ q, (fresh g).put (aadd (own k) o) vs = some q ∧ q.log = [k] ∧ q.next = g.next ∧ Fit (back g q) ∧ (back g q).blk k = some (.cells (xs.take o ++ vs ++ xs.drop (o + vs.length)) e (some (k, 0))) ∧ (∀ j, j ≠ k → (back g q).blk j = g.blk j) ∧ (∀ r, (back g q).chain r = g.chain r) ∧ (g.mark ≤ k → (back g q).log = g.log) := by
 have hkn := f.lt hb
 have hsp : g.spare k k (0 + o) (0 + o + vs.length) = [k] := by
  unfold H.spare
  rw [hc]
  have : g.hits k (0 + o) (0 + o + vs.length) k = false := by
   unfold H.hits
   rw [Nat.beq_refl]
  simp only [List.filter_cons, this, Bool.not_false, if_true, List.filter_nil]
 have hgn : g.gone k k (0 + o) (0 + o + vs.length) = [] := by
  unfold H.gone
  rw [hc]
  have : g.hits k (0 + o) (0 + o + vs.length) k = false := by
   unfold H.hits
   rw [Nat.beq_refl]
  simp only [List.filter_cons, this, List.filter_nil]
  rfl
 have hput : (fresh g).put (aadd (own k) o) vs = some (({ fresh g with dyn := g.dyn.set k (.cells (xs.take o ++ vs ++ xs.drop (o + vs.length)) e (some (k, 0))), chains := g.chains.set k [k] } : H).note [k]) := by
  have hb' : (fresh g).blk k = some (.cells xs e (some (k, 0))) := hb
  have hsp' : (fresh g).spare k k (0 + o) (0 + o + vs.length) = [k] := hsp
  have hgn' : (fresh g).gone k k (0 + o) (0 + o + vs.length) = [] := hgn
  unfold H.put
  cases vs with
  | nil => exact absurd rfl hv
  | cons v vs =>
   simp only [aadd, own, Nat.zero_add, hb'] at hsp' hgn' ⊢
   rw [h1, show Nat.ble (o + (v :: vs).length) xs.length = true from by rw [Nat.ble_eq]; exact hl]
   simp only [Bool.and_self, hsp', hgn']
   rfl
 obtain ⟨m, hm1, hm2⟩ : ∃ m, g.next = m + 1 ∧ k ≤ m := by cases hn : g.next with | zero => omega | succ m => exact ⟨m, rfl, by omega⟩
 have hble : Nat.ble k m = true := by rw [Nat.ble_eq]; exact hm2
 generalize hB : (Blk.cells (xs.take o ++ vs ++ xs.drop (o + vs.length)) e (some (k, 0))) = B at hput
 have hq : (({ fresh g with dyn := g.dyn.set k B, chains := g.chains.set k [k] } : H).note [k]) = { g with dyn := g.dyn.set k B, chains := g.chains.set k [k], mark := g.next, log := [k] } := by
  unfold H.note
  have : ({ fresh g with dyn := g.dyn.set k B, chains := g.chains.set k [k] } : H).mark = m + 1 := hm1
  rw [this]
  simp only [List.filter_cons, hble, if_true, List.filter_nil]
  rw [← hm1]
  rfl
 rw [hq] at hput
 generalize hqq : ({ g with dyn := g.dyn.set k B, chains := g.chains.set k [k], mark := g.next, log := [k] } : H) = q at hput
 have hqn : q.next = g.next := by rw [← hqq]
 have hql : q.log = [k] := by rw [← hqq]
 have hqd : q.dyn = g.dyn.set k B := by rw [← hqq]
 have hqc : ∀ r, q.chain r = g.chain r := by
  intro r
  rw [← hqq]
  simp only [H.chain, T.get_set]
  split
  ·next h => subst h; simpa [H.chain, Option.getD] using hc.symm
  ·rfl
 have hfq : Fit q := by
  refine ⟨fun j hj => ?_, ⟨fun j ys ty r p hd => ?_, ?_⟩⟩
  ·rw [hqn] at hj
   rw [hqd, T.get_set_ne _ _ _ _ (by omega)]; exact f.free j hj
  ·rw [hqn]
   rw [hqd] at hd
   by_cases hj : j = k
   ·subst hj
    rw [T.get_set_same, ← hB] at hd
    cases hd; exact hkn
   ·rw [T.get_set_ne _ _ _ _ hj] at hd
    exact f.ok.1 _ _ _ _ _ hd
  ·rw [← hqq]; exact Nat.le_refl _
 refine ⟨q, hput, hql, hqn, back_fit f hfq (by rw [hqn]; exact Nat.le_refl _), ?_, fun j hj => ?_, fun r => by rw [back_chain]; exact hqc r, fun hm => ?_⟩
 ·rw [back_blk]
  have hdd : q.dyn.get k = some B := by rw [hqd]; exact T.get_set_same _ _ _
  unfold H.blk
  rw [hdd, ← hB]
  simp only [hqc, hc, List.contains_cons, beq_self_eq_true, Bool.true_or]
 ·rw [back_blk]
  refine blk_congr (by rw [hqd, T.get_set_ne _ _ _ _ hj]) (fun _ _ r _ _ => by rw [hqc])
 ·unfold back
  rw [note_above]
  intro j hj
  rw [hql] at hj
  obtain rfl := List.mem_singleton.1 hj
  exact hm
theorem Ahd.root {h g g' : H} {k : Nat} (a : Ahd h g) (f : Fit h) (hk : h.next ≤ k) (hf : Fit g') (hn : g'.next = g.next) (hm : g'.mark = g.mark) (hb : ∀ j, j ≠ k → g'.blk j = g.blk j) (hc : ∀ r, g'.chain r = g.chain r) (hl : g.mark ≤ k → g'.log = g.log) : Ahd h g' :=
 ⟨hf, fun j B hB => by rw [hb j (by have := f.lt hB; omega)]; exact a.grows j B hB, (hl (by rw [a.mark]; exact Nat.le_trans f.ok.2 hk)).trans a.log, hm.trans a.mark, by rw [hn]; exact a.next, fun r hr => (hc r).trans (a.chain r hr)⟩
end Go.Hs
/- Short names for what the walks' simplifier is told. -/
namespace Go.Hs
theorem Sx : (∀ (A : Ac) (d : Option Tmp) (v : Value), (A.put d v).n = A.n) ∧ (∀ (A : Ac) (d : Option Tmp) (v : Value), (A.put d v).defers = A.defers) ∧
  (∀ (α : Type) (l : List α), [] ++ l = l) ∧ (∀ (α : Type) (l : List α), l ++ [] = l) ∧ (∀ (α : Type) (l : List α), l.toArray.toList = l) ∧ (∀ (α : Type) (a : α) (l : List α), (a :: l)[0]? = some a) ∧ (∀ (α : Type) (a : α) (l : List α) (i : Nat), (a :: l)[i + 1]? = l[i]?) ∧ (!true) = false ∧ (!false) = true ∧ (∀ (α : Type) (h : Decidable True) (a b : α), @ite α True h a b = a) ∧ (∀ (α : Type) (h : Decidable False) (a b : α), @ite α False h a b = b) ∧ (∀ p : Prop, (p ∧ True) = p) ∧ (∀ h : Decidable True, @decide True h = true) ∧ (∀ h : Decidable False, @decide False h = false) :=
 ⟨fun _ _ _ => Ac.put_n .., fun _ _ _ => Ac.put_defers .., fun _ _ => List.nil_append _, fun _ _ => List.append_nil _, fun _ _ => rfl, fun _ _ _ => rfl, fun _ _ _ _ => rfl, rfl, rfl, fun _ _ _ _ => if_true _ _, fun _ _ _ _ => if_false _ _, fun _ => and_true _, fun _ => decide_true _, fun _ => decide_false _⟩
end Go.Hs
/- Cells of own blocks that are read and written, by rewriting. -/
namespace Go.Hs
section
variable {D : Tab} {E : Env}
theorem aadd_own (k i j : Nat) : aadd (aadd (own k) i) j = aadd (own k) (i + j) := by
 show (⟨k, 0 + i + j, some 0⟩ : Addr) = ⟨k, 0 + (i + j), some 0⟩
 rw [Nat.add_assoc]
theorem cell_blk {g : H} {k : Nat} {xs : List Value} {ty : TypeId} {rt : Option (Nat × Nat)} (hb : g.blk k = some (.cells xs ty rt)) (i : Nat) : g.cell E (aadd (own k) i) = one? xs[i]? := by
 simp only [H.cell, aadd, own, hb, Nat.zero_add]
theorem cell_blk0 {g : H} {k : Nat} {xs : List Value} {ty : TypeId} {rt : Option (Nat × Nat)} (hb : g.blk k = some (.cells xs ty rt)) : g.cell E (own k) = one? xs[0]? := by
 simp only [H.cell, own, hb]
theorem Hx : (∀ (E : Env) (h : H) (a : Addr), (fresh h).cell E a = h.cell E a) ∧ (∀ (E : Env) (h : H) (a : Addr) (n : Nat), (fresh h).cells E a n = h.cells E a n) ∧ (∀ h : H, (fresh h).next = h.next) ∧ (∀ k i j : Nat, aadd (aadd (own k) i) j = aadd (own k) (i + j)) ∧ (∀ k : Nat, aadd (own k) 0 = own k) ∧
  (∀ (k : IntKind) (n : Int), one? (some (.int k n)) = some (.int k n)) ∧ (∀ s : ByteArray, one? (some (.string s)) = some (.string s)) ∧ (∀ (b : Option Addr) (n c : Nat), one? (some (.slice b n c)) = some (.slice b n c)) ∧ (∀ b : Option Addr, one? (some (.pointer b)) = some (.pointer b)) ∧ (∀ (f : Fn) (a b : Array Value), one? (some (.func f a b)) = some (.func f a b)) ∧ (∀ b : Bool, one? (some (.bool b)) = some (.bool b)) :=
 ⟨fun _ _ _ => rfl, fun _ _ _ _ => rfl, fun _ => rfl, aadd_own, fun _ => rfl, fun _ _ => rfl, fun _ => rfl, fun _ _ _ => rfl, fun _ => rfl, fun _ _ _ => rfl, fun _ => rfl⟩
theorem Gx : (∀ (A : Ac) (d t : Tmp) (v : Value), d ≠ t → (A.put (some d) v).get t = A.get t) ∧ (∀ (A : Ac) (d : Tmp) (v : Value), d < A.n → (A.put (some d) v).get d = v) ∧ (∀ (A : Ac) (v : Value) (t : Tmp), (A.put none v).get t = A.get t) :=
 ⟨fun A d t v h => by rw [Ac.get_put]; simp [h], fun A d v h => by rw [Ac.get_put]; simp [h], fun A v t => by rw [Ac.get_put]⟩
theorem astore_one {t : TypeId} {i : TI} (ht : D.ty.get t = some i) (hs : i.size = 1) {g : H} {k o : Nat} {xs ys : List Value} {ty : TypeId} {v : Value} (hb : g.blk k = some (.cells xs ty none)) (hv : v.cells.toList = [v]) (h1 : isOne v = true) (hl : o < xs.length) (hy : xs.take o ++ [v] ++ xs.drop (o + 1) = ys) : astore D t (aadd (own k) o) v g = some (g.setl k (.cells ys ty none)) := by
 unfold astore
 simp only [ht, hs, hv]
 rw [← hy]
 exact put_setl hb (by simp) (by simp only [List.length_singleton]; omega) (by simp [h1])
theorem astore_all {t : TypeId} {i : TI} (ht : D.ty.get t = some i) {g : H} {k : Nat} {xs ys : List Value} {ty : TypeId} (hb : g.blk k = some (.cells xs ty none)) (hs : i.size = ys.length) (hl : ys.length = xs.length) (h1 : ys.all isOne = true) (hn : ys ≠ []) : astore D t (own k) (.agg ⟨ys⟩) g = some (g.setl k (.cells ys ty none)) := by
 unfold astore
 have e : Nat.beq (Value.agg ⟨ys⟩).cells.toList.length i.size = true := by
  rw [hs]; exact Nat.beq_refl _
 simp only [ht, e]
 exact put_own_setl hb hn hl h1
theorem setl_above {h : H} {k : Nat} {B : Blk} (hm : h.mark ≤ k) : h.setl k B = h.setb k B :=
 note_above (h := h.setb k B) (fun j hj => by simp at hj; subst hj; exact hm)
theorem Ahd.setl {h g : H} (s : Ahd h g) {k : Nat} {B : Blk} (hB : B.plain = true) (hk : h.next ≤ k) (hg : k < g.next) (f : Fit h) : Ahd h (g.setl k B) := by
 rw [setl_above (by rw [s.mark]; exact Nat.le_trans f.ok.2 hk)]
 exact s.setb hB hk hg f
end
end Go.Hs
/- Items with short texts. -/
namespace Go.Hs
mutual
def smlI : Item → Prop
 | .mk k n tx ks => 1 ≤ k ∧ k ≤ 63 ∧ 0 ≤ n ∧ n ≤ 1099511627776 ∧ tx.data.toList.length ≤ 5 ∧ smlL ks
def smlL : List Item → Prop
 | [] => True
 | x :: xs => smlI x ∧ smlL xs
end
theorem smlL_append : ∀ {xs : List Item} {y : Item}, smlL xs → smlI y → smlL (xs ++ [y])
 | [], y, _, hy => by rw [List.nil_append, smlL, smlL]; exact ⟨hy, trivial⟩
 | x :: xs, y, h, hy => by
  rw [smlL] at h
  rw [List.cons_append, smlL]
  exact ⟨h.1, smlL_append h.2 hy⟩
mutual
theorem smlI.good : ∀ {t : Item}, smlI t → goodI t
 | .mk k n tx ks, h => by
  rw [smlI] at h
  rw [goodI]
  exact ⟨h.1, h.2.1, h.2.2.1, h.2.2.2.1, by omega, smlL.good h.2.2.2.2.2⟩
theorem smlL.good : ∀ {ks : List Item}, smlL ks → goodL ks
 | [], _ => by rw [goodL]; trivial
 | x :: xs, h => by
  rw [smlL] at h
  rw [goodL]
  exact ⟨smlI.good h.1, smlL.good h.2⟩
end
end Go.Hs
/- Places in items, and items put there: what is so of them. -/
namespace Go.Hs
def atN : Item → List Nat → Option Item
 | t, [] => some t
 | .mk _ _ _ ks, i :: p => match ks[i]? with
  | some y => atN y p
  | none => none
def putN : Item → List Nat → Item → Item
 | _, [], x => x
 | .mk k m tx ks, i :: p, x => match ks[i]? with
  | some y => .mk k m tx (ks.set i (putN y p x))
  | none => .mk k m tx ks
theorem atN_put : ∀ (p : List Nat) (t x y : Item), atN t p = some y → atN (putN t p x) p = some x
 | [], t, x, y, _ => by rw [putN, atN]
 | i :: p, .mk k m tx ks, x, y, h => by
  rw [atN] at h
  rw [putN]
  split at h
  ·next z hz =>
   have hi := (List.getElem?_eq_some_iff.1 hz).1
   rw [atN, List.getElem?_set_self hi]
   exact atN_put p z x y h
  ·cases h
theorem putN_at : ∀ (p : List Nat) (t y : Item), atN t p = some y → putN t p y = t
 | [], t, y, h => by rw [atN] at h; cases h; rw [putN]
 | i :: p, .mk k m tx ks, y, h => by
  rw [atN] at h
  rw [putN]
  split at h
  ·next z hz =>
   rw [putN_at p z y h]
   congr 1
   obtain ⟨hi, he⟩ := List.getElem?_eq_some_iff.1 hz
   rw [← he, List.set_getElem_self]
  ·cases h
theorem putN_put : ∀ (p : List Nat) (t x y z : Item), atN t p = some y → putN (putN t p x) p z = putN t p z
 | [], t, x, y, z, _ => by simp only [putN]
 | i :: p, .mk k m tx ks, x, y, z, h => by
  rw [atN] at h
  split at h
  ·next w hw =>
   have hi := (List.getElem?_eq_some_iff.1 hw).1
   have e1 : putN (.mk k m tx ks) (i :: p) x = .mk k m tx (ks.set i (putN w p x)) := by rw [putN, hw]
   have e2 : putN (.mk k m tx ks) (i :: p) z = .mk k m tx (ks.set i (putN w p z)) := by rw [putN, hw]
   rw [e1, e2, putN, List.getElem?_set_self hi]
   simp only
   rw [putN_put p w x y z h, List.set_set]
  ·cases h
theorem atN_snoc : ∀ (p : List Nat) (t : Item) (k m : Int) (tx : ByteArray) (ks : List Item) (i : Nat) (y : Item), atN t p = some (.mk k m tx ks) → ks[i]? = some y → atN t (p ++ [i]) = some y
 | [], t, k, m, tx, ks, i, y, h, hy => by
  rw [atN] at h; cases h
  rw [List.nil_append, atN, hy]
  simp only
  rw [atN]
 | j :: p, .mk k' m' tx' ks', k, m, tx, ks, i, y, h, hy => by
  rw [atN] at h
  rw [List.cons_append, atN]
  split at h
  ·next z hz =>
   exact atN_snoc p z k m tx ks i y h hy
  ·cases h
theorem putN_snoc : ∀ (p : List Nat) (t : Item) (k m : Int) (tx : ByteArray) (ks : List Item) (i : Nat) (x : Item), atN t p = some (.mk k m tx ks) → i < ks.length → putN t (p ++ [i]) x = putN t p (.mk k m tx (ks.set i x))
 | [], t, k, m, tx, ks, i, x, h, hi => by
  rw [atN] at h; cases h
  simp only [List.nil_append, putN, List.getElem?_eq_getElem hi]
 | j :: p, .mk k' m' tx' ks', k, m, tx, ks, i, x, h, hi => by
  rw [atN] at h
  rw [List.cons_append, putN, putN]
  split at h
  ·next z hz =>
   rw [putN_snoc p z k m tx ks i x h hi]
  ·cases h
end Go.Hs
/- Items in blocks of their own; a place in such an item, and what is so when something is written there. -/
namespace Go.Hs
mutual
/-- The Kids lie in blocks of their own, those of each in blocks between two numbers. -/
def repS (g : H) : Nat → Nat → Item → List Value → Prop
 | lo, hi, .mk k m tx ks, l => ∃ s, l = [.int .i64 k, .int .i64 m, .string tx, s] ∧ ((ks = [] ∧ (s = .slice none 0 0 ∨ ∃ k0 c0, s = .slice (some (own k0)) 0 c0 ∧ c0 < 9223372036854775808)) ∨ ∃ kc c xs, s = .slice (some (own kc)) ks.length c ∧ (ks.length ≤ c ∧ c < 9223372036854775808) ∧ lo ≤ kc ∧ kc < hi ∧ g.blk kc = some (.cells xs 25 (some (kc, 0))) ∧ g.chain kc = [kc] ∧ xs.all isOne = true ∧ repSL g (kc + 1) hi ks xs)
def repSL (g : H) : Nat → Nat → List Item → List Value → Prop
 | _, _, [], xs => xs = []
 | lo, hi, x :: ks, xs => ∃ mid a b c d ys, xs = a :: b :: c :: d :: ys ∧ lo ≤ mid ∧ mid ≤ hi ∧ repS g lo mid x [a, b, c, d] ∧ repSL g mid hi ks ys
end
theorem repSL_length {g : H} : ∀ {ks : List Item} {lo hi : Nat} {xs : List Value}, repSL g lo hi ks xs → xs.length = ks.length * 4
 | [], _, _, xs, h => by rw [repSL] at h; rw [h]; rfl
 | x :: ks, lo, hi, xs, h => by
  rw [repSL] at h
  obtain ⟨mid, a, b, c, d, ys, rfl, _, _, _, h2⟩ := h
  have := repSL_length h2
  simp only [List.length_cons]
  omega
def KeptIn (g g' : H) (lo hi : Nat) : Prop := ∀ j, lo ≤ j → j < hi → ∀ B, g.blk j = some B → g'.blk j = some B
theorem KeptIn.sub {g g' : H} {lo hi lo' hi' : Nat} (k : KeptIn g g' lo hi) (h1 : lo ≤ lo') (h2 : hi' ≤ hi) : KeptIn g g' lo' hi' := fun j a b => k j (by omega) (by omega)
section
variable {E : Env}
mutual
theorem repS.rep {g g' : H} : ∀ {t : Item} {lo hi : Nat} {l : List Value}, repS g lo hi t l → KeptIn g g' lo hi → Hs.rep E g' t (.agg ⟨l⟩)
 | .mk k m tx ks, lo, hi, l, h, kp => by
  rw [repS] at h
  obtain ⟨s, rfl, h⟩ := h
  rw [Hs.rep]
  refine ⟨s, rfl, ?_⟩
  rcases h with ⟨h0, h | ⟨k0, c0, e, hc⟩⟩ | ⟨kc, c, xs, rfl, hc, h1, h2, hb, _, ho, hl⟩
  ·exact .inl ⟨h0, h⟩
  ·subst h0
   exact .inr ⟨own k0, c0, [], e, ⟨Nat.zero_le _, hc⟩, rfl, by rw [repL]⟩
  ·exact .inr ⟨own kc, c, xs, rfl, hc, blk_cells (kp kc h1 h2 _ hb) (repSL_length hl) ho, repSL.rep hl (kp.sub (by omega) (Nat.le_refl _))⟩
theorem repSL.rep {g g' : H} : ∀ {ks : List Item} {lo hi : Nat} {xs : List Value}, repSL g lo hi ks xs → KeptIn g g' lo hi → repL E g' ks xs
 | [], _, _, xs, h, _ => by rw [repSL] at h; rw [repL]; exact h
 | x :: ks, lo, hi, xs, h, kp => by
  rw [repSL] at h
  obtain ⟨mid, a, b, c, d, ys, rfl, h1, h2, h3, h4⟩ := h
  rw [repL]
  exact ⟨a, b, c, d, ys, rfl, repS.rep h3 (kp.sub (Nat.le_refl _) h2), repSL.rep h4 (kp.sub h1 (Nat.le_refl _))⟩
end
theorem repSL_get {g : H} : ∀ {ks : List Item} {lo hi : Nat} {xs : List Value} (i : Nat) {x : Item}, repSL g lo hi ks xs → ks[i]? = some x →
  ∃ m1 m2 a b c d, lo ≤ m1 ∧ m1 ≤ m2 ∧ m2 ≤ hi ∧ (xs.drop (i * 4)).take 4 = [a, b, c, d] ∧ repS g m1 m2 x [a, b, c, d] ∧
   ∀ (g' : H) (a' b' c' d' : Value) (x' : Item), KeptIn g g' lo m1 → KeptIn g g' m2 hi → Hs.rep E g' x' (.agg ⟨[a', b', c', d']⟩) → repL E g' (ks.set i x') (xs.take (i * 4) ++ [a', b', c', d'] ++ xs.drop (i * 4 + 4))
 | [], _, _, _, _, _, _, hi => by simp at hi
 | y :: ks, lo, hi, xs, 0, x, h, hx => by
  rw [repSL] at h
  obtain ⟨mid, a, b, c, d, ys, rfl, h1, h2, h3, h4⟩ := h
  obtain rfl : y = x := by simpa using hx
  refine ⟨lo, mid, a, b, c, d, Nat.le_refl _, h1, h2, rfl, h3, fun g' a' b' c' d' x' _ k2 hr => ?_⟩
  show repL E g' (x' :: ks) (a' :: b' :: c' :: d' :: ys)
  rw [repL]
  exact ⟨a', b', c', d', ys, rfl, hr, repSL.rep h4 k2⟩
 | y :: ks, lo, hi, xs, i + 1, x, h, hx => by
  rw [repSL] at h
  obtain ⟨mid, a, b, c, d, ys, rfl, h1, h2, h3, h4⟩ := h
  obtain ⟨m1, m2, e1, e2, e3, e4, p1, p2, p3, p4, p5, p6⟩ := repSL_get i h4 (by simpa using hx)
  have e : (i + 1) * 4 = i * 4 + 4 := by omega
  refine ⟨m1, m2, e1, e2, e3, e4, by omega, p2, p3, ?_, p5, fun g' a' b' c' d' x' k1 k2 hr => ?_⟩
  ·rw [e]
   exact p4
  ·have := p6 g' a' b' c' d' x' (k1.sub h1 (Nat.le_refl _)) k2 hr
   rw [e]
   show repL E g' (y :: ks.set i x') (a :: b :: c :: d :: (ys.take (i * 4) ++ [a', b', c', d'] ++ ys.drop (i * 4 + 4)))
   rw [repL]
   exact ⟨a, b, c, d, _, rfl, repS.rep h3 (k1.sub (Nat.le_refl _) (by omega)), this⟩
structure Ctx (E : Env) (g : H) (Lo Hi k9 : Nat) (t : Item) (p : List Nat) (y : Item) (kc o : Nat) (xs : List Value) (ro : Option (Nat × Nat)) (lo hi : Nat) : Prop where
 at_ : atN t p = some y
 blk : g.blk kc = some (.cells xs 25 ro)
 four : ∃ a b c d, (xs.drop o).take 4 = [a, b, c, d] ∧ repS g lo hi y [a, b, c, d]
 fits : o + 4 ≤ xs.length
 ones : xs.all isOne = true
 away : ¬ (lo ≤ kc ∧ kc < hi)
 root : ro = none ∨ (ro = some (kc, 0) ∧ g.chain kc = [kc])
 sub : Lo ≤ lo ∧ hi ≤ Hi
 kin : kc = k9 ∨ (Lo ≤ kc ∧ kc < Hi)
 done : ∀ (g' : H) (a' b' c' d' : Value) (x : Item), (∀ j, (j = k9 ∨ (Lo ≤ j ∧ j < Hi)) → j ≠ kc → ¬ (lo ≤ j ∧ j < hi) → ∀ B, g.blk j = some B → g'.blk j = some B) → g'.blk kc = some (.cells (xs.take o ++ [a', b', c', d'] ++ xs.drop (o + 4)) 25 ro) → rep E g' x (.agg ⟨[a', b', c', d']⟩) → ∃ lr, g'.blk k9 = some (.cells lr 25 none) ∧ rep E g' (putN t p x) (.agg ⟨lr⟩)
theorem Ctx.start {g : H} {k9 lo hi : Nat} {t : Item} {a b c d : Value} (hb : g.blk k9 = some (.cells [a, b, c, d] 25 none)) (ho : [a, b, c, d].all isOne = true) (hr : repS g lo hi t [a, b, c, d]) (hk : ¬ (lo ≤ k9 ∧ k9 < hi)) : Ctx E g lo hi k9 t [] t k9 0 [a, b, c, d] none lo hi :=
 ⟨by rw [atN], hb, ⟨a, b, c, d, rfl, hr⟩, Nat.le_refl _, ho, hk, .inl rfl, ⟨Nat.le_refl _, Nat.le_refl _⟩, .inl rfl, fun g' a' b' c' d' x _ h1 h2 => ⟨_, h1, by rw [putN]; exact h2⟩⟩
theorem Ctx.step {g : H} {Lo Hi k9 kc o lo hi : Nat} {t : Item} {p : List Nat} {xs : List Value} {ro : Option (Nat × Nat)} {k m : Int} {tx : ByteArray} {ks : List Item} (C : Ctx E g Lo Hi k9 t p (.mk k m tx ks) kc o xs ro lo hi) (i : Nat) (hi' : i < ks.length) :
  ∃ kc2 c xs2 m1 m2, (xs.drop o).take 4 = [.int .i64 k, .int .i64 m, .string tx, .slice (some (own kc2)) ks.length c] ∧ lo ≤ kc2 ∧ kc2 < hi ∧ Ctx E g Lo Hi k9 t (p ++ [i]) ks[i] kc2 (i * 4) xs2 (some (kc2, 0)) m1 m2 := by
 obtain ⟨cat, cblk, ⟨a, b, c, d, hq, hr⟩, cfit, cone, caway, croot, csub, ckin, cdone⟩ := C
 rw [repS] at hr
 obtain ⟨s, hs, hr⟩ := hr
 rcases hr with ⟨h0, _⟩ | ⟨kc2, c2, xs2, rfl, hc, h1, h2, hb, hch, ho, hl⟩
 ·rw [h0] at hi'; simp at hi'
 have hx := List.getElem?_eq_getElem hi'
 obtain ⟨m1, m2, e1, e2, e3, e4, p1, p2, p3, p4, p5, p6⟩ := repSL_get (E := E) i hl hx
 have hlen := repSL_length hl
 refine ⟨kc2, c2, xs2, m1, m2, by rw [hq, hs], h1, h2, atN_snoc p t k m tx ks i _ cat hx, hb, ⟨e1, e2, e3, e4, p4, p5⟩, by omega, ho, by omega, .inr ⟨rfl, hch⟩, ⟨by omega, by omega⟩, .inr ⟨by omega, by omega⟩, fun g' a' b' c' d' x kp hb' hr' => ?_⟩
 rw [putN_snoc p t k m tx ks i x cat hi']
 have hlen2 : (xs2.take (i * 4) ++ [a', b', c', d'] ++ xs2.drop (i * 4 + 4)).length = (ks.set i x).length * 4 := by
  simp only [List.length_append, List.length_take, List.length_drop, List.length_cons, List.length_nil, List.length_set]
  omega
 refine cdone g' a b c d _ (fun j hin hj hn B hB => kp j hin (by omega) (by omega) B hB) ?_ ?_
 ·have hxs : xs.take o ++ [a, b, c, d] ++ xs.drop (o + 4) = xs := by
   rw [← hq, List.append_assoc, ← List.drop_drop, List.take_append_drop, List.take_append_drop]
  rw [hxs]
  exact kp kc ckin (by omega) (by omega) _ cblk
 ·rw [Hs.rep]
  refine ⟨_, by rw [← hs], .inr ⟨own kc2, c2, _, by rw [List.length_set], by rw [List.length_set]; exact hc, ?_, p6 g' a' b' c' d' x (fun j ha hb2 B hB => kp j (.inr (by omega)) (by omega) (by omega) B hB) (fun j ha hb2 B hB => kp j (.inr (by omega)) (by omega) (by omega) B hB) hr'⟩⟩
  refine blk_cells hb' hlen2 ?_
  have hone : [a', b', c', d'].all isOne = true := by
   obtain ⟨k', m', tx', ks'⟩ := x
   rw [Hs.rep] at hr'
   obtain ⟨s', e, hs'⟩ := hr'
   simp only [Value.agg.injEq, Array.mk.injEq] at e
   rw [e]
   rcases hs' with ⟨_, rfl⟩ | ⟨_, _, _, rfl, _⟩ <;> rfl
  rw [List.all_append, List.all_append, hone]
  rw [List.all_eq_true] at ho
  simp only [Bool.and_true, Bool.and_eq_true, List.all_eq_true]
  exact ⟨fun v hv => ho v (List.mem_of_mem_take hv), fun v hv => ho v (List.mem_of_mem_drop hv)⟩
end
end Go.Hs
/- Items in blocks of their own: kept, in wider bounds, one more. -/
namespace Go.Hs
def Same (g g' : H) (lo hi : Nat) : Prop := ∀ j, lo ≤ j → j < hi → (∀ B, g.blk j = some B → g'.blk j = some B) ∧ g'.chain j = g.chain j
theorem Same.sub {g g' : H} {lo hi lo' hi' : Nat} (k : Same g g' lo hi) (h1 : lo ≤ lo') (h2 : hi' ≤ hi) : Same g g' lo' hi' := fun j a b => k j (by omega) (by omega)
mutual
theorem repS.keep {g g' : H} : ∀ {t : Item} {lo hi : Nat} {l : List Value}, repS g lo hi t l → Same g g' lo hi → repS g' lo hi t l
 | .mk k m tx ks, lo, hi, l, h, kp => by
  rw [repS] at h ⊢
  obtain ⟨s, hs, h⟩ := h
  refine ⟨s, hs, ?_⟩
  rcases h with h | ⟨kc, c, xs, e, hc, h1, h2, hb, hch, ho, hl⟩
  ·exact .inl h
  ·exact .inr ⟨kc, c, xs, e, hc, h1, h2, (kp kc h1 h2).1 _ hb, by rw [(kp kc h1 h2).2]; exact hch, ho, repSL.keep hl (kp.sub (by omega) (Nat.le_refl _))⟩
theorem repSL.keep {g g' : H} : ∀ {ks : List Item} {lo hi : Nat} {xs : List Value}, repSL g lo hi ks xs → Same g g' lo hi → repSL g' lo hi ks xs
 | [], _, _, xs, h, _ => by rw [repSL] at h ⊢; exact h
 | x :: ks, lo, hi, xs, h, kp => by
  rw [repSL] at h ⊢
  obtain ⟨mid, a, b, c, d, ys, e, h1, h2, h3, h4⟩ := h
  exact ⟨mid, a, b, c, d, ys, e, h1, h2, repS.keep h3 (kp.sub (Nat.le_refl _) h2), repSL.keep h4 (kp.sub h1 (Nat.le_refl _))⟩
end
mutual
theorem repS.up {g : H} : ∀ {t : Item} {lo hi hi' : Nat} {l : List Value}, repS g lo hi t l → hi ≤ hi' → repS g lo hi' t l
 | .mk k m tx ks, lo, hi, hi', l, h, hh => by
  rw [repS] at h ⊢
  obtain ⟨s, hs, h⟩ := h
  refine ⟨s, hs, ?_⟩
  rcases h with h | ⟨kc, c, xs, e, hc, h1, h2, hb, hch, ho, hl⟩
  ·exact .inl h
  ·exact .inr ⟨kc, c, xs, e, hc, h1, by omega, hb, hch, ho, repSL.up hl hh (by omega)⟩
theorem repSL.up {g : H} : ∀ {ks : List Item} {lo hi hi' : Nat} {xs : List Value}, repSL g lo hi ks xs → hi ≤ hi' → lo ≤ hi → repSL g lo hi' ks xs
 | [], _, _, _, xs, h, _, _ => by rw [repSL] at h ⊢; exact h
 | x :: ks, lo, hi, hi', xs, h, hh, _ => by
  rw [repSL] at h ⊢
  obtain ⟨mid, a, b, c, d, ys, e, h1, h2, h3, h4⟩ := h
  exact ⟨mid, a, b, c, d, ys, e, h1, by omega, h3, repSL.up h4 hh h2⟩
end
theorem repS.down {g : H} : ∀ {t : Item} {lo lo' hi : Nat} {l : List Value}, repS g lo hi t l → lo' ≤ lo → repS g lo' hi t l
 | .mk k m tx ks, lo, lo', hi, l, h, hh => by
  rw [repS] at h ⊢
  obtain ⟨s, hs, h⟩ := h
  refine ⟨s, hs, ?_⟩
  rcases h with h | ⟨kc, c, xs, e, hc, h1, h2, hb, hch, ho, hl⟩
  ·exact .inl h
  ·exact .inr ⟨kc, c, xs, e, hc, by omega, h2, hb, hch, ho, hl⟩
theorem repSL.snoc {g : H} : ∀ {ks : List Item} {lo hi m1 m2 : Nat} {xs : List Value} {x : Item} {a b c d : Value}, repSL g lo hi ks xs → lo ≤ hi → hi ≤ m1 → m1 ≤ m2 → repS g m1 m2 x [a, b, c, d] → repSL g lo m2 (ks ++ [x]) (xs ++ [a, b, c, d])
 | [], lo, hi, m1, m2, xs, x, a, b, c, d, h, h0, h1, h2, hr => by
  rw [repSL] at h
  rw [h, List.nil_append, List.nil_append, repSL]
  exact ⟨m2, a, b, c, d, [], rfl, by omega, Nat.le_refl _, hr.down (by omega), by rw [repSL]⟩
 | y :: ks, lo, hi, m1, m2, xs, x, a, b, c, d, h, h0, h1, h2, hr => by
  rw [repSL] at h
  obtain ⟨mid, a', b', c', d', ys, rfl, e1, e2, e3, e4⟩ := h
  rw [List.cons_append, repSL]
  exact ⟨mid, a', b', c', d', ys ++ [a, b, c, d], rfl, e1, by omega, e3, repSL.snoc e4 e2 h1 h2 hr⟩
end Go.Hs
/- Data that is handed in, as items. -/
namespace Go.Hs
def dec : Value → Value
 | .slice (some a) n c => match a.spot with
  | none => .slice (some a) n c
  | some s => .slice (some ⟨a.block, a.off, some (s + 1)⟩) n c
 | v => v
def envOf (w : World) : Env := fun b o =>
 match w.cell? ⟨b, o, none⟩ with
 | some v => match foV (dec v) with
  | true => some (dec v)
  | false => none
 | none => none
theorem dec_ren {φ : Ph} {v : Value} (h : foV (dec v) = true) : ren φ (dec v) = v := by
 cases v with
 | slice b n c => cases b with
  | none => rfl
  | some a =>
   cases hs : a.spot with
   | none => simp [dec, hs, ren, renA, extA]
   | some s =>
    simp only [dec, hs, ren, renA, extA, Nat.add_zero]
    rw [← hs]
 | _ => exact (roV.ok φ (show roV _ = true from h)).2
theorem envOf_ro {w : World} {b o : Nat} {v : Value} (h : envOf w b o = some v) : b < w.heap.size ∧ w.cell? ⟨b, o, none⟩ = some (ren (fun _ => none) v) ∧ foV v = true := by
 unfold envOf at h
 split at h
 ·next x hx =>
  split at h
  ·next hf =>
   cases h
   refine ⟨?_, by rw [dec_ren hf]; exact hx, hf⟩
   simp only [World.cell?] at hx
   split at hx
   ·next hb => exact (Array.getElem?_eq_some_iff.1 hb).1
   ·cases hx
  ·cases h
 ·cases h
theorem envOf_at {w : World} {b o : Nat} {v : Value} (h : w.cell? ⟨b, o, none⟩ = some v) (hf : foV (dec v) = true) : envOf w b o = some (dec v) := by
 unfold envOf
 simp only [h, hf]
theorem roCells_append {E : Env} : ∀ (n m b o : Nat) (xs ys : List Value), roCells E b o n = some xs → roCells E b (o + n) m = some ys → roCells E b o (n + m) = some (xs ++ ys)
 | 0, m, b, o, xs, ys, h1, h2 => by
  simp only [roCells, Option.some.injEq] at h1
  subst h1
  rw [Nat.zero_add]; exact h2
 | n + 1, m, b, o, xs, ys, h1, h2 => by
  simp only [roCells] at h1
  split at h1
  ·next v hv =>
   split at h1
   ·next vs hvs =>
    cases h1
    have := roCells_append n m b (o + 1) vs ys hvs (by rw [show o + 1 + n = o + (n + 1) by omega]; exact h2)
    rw [show n + 1 + m = (n + m) + 1 by omega]
    simp only [roCells, hv, this, List.cons_append]
   ·cases h1
  ·cases h1
section
variable {H0 : Type} {enc : TypeId × Value → H0} {P : Program} {w : World} {sp : Nat → Bool} {held : Bool} {ti tn ts tk : TypeId}
end
end Go.Hs
/- Data that is handed in, as bytes. -/
namespace Go.Hs
section
variable {H0 : Type} {enc : TypeId × Value → H0} {P : Program} {w : World} {sp : Nat → Bool} {held : Bool} {ts te : TypeId}
theorem cells1 {a : Addr} {cs : List Value} (h : w.cells? 0 a 1 = some cs) : ∃ c0, cs = [c0] ∧ w.cell? a = some c0 := by
 simp only [World.cells?, Nat.zero_le, if_true, show List.range 1 = [0] from rfl, List.mapM_cons, List.mapM_nil, Option.bind_eq_bind, Option.bind_eq_some_iff] at h
 obtain ⟨c0, h0, l1, h1, h2⟩ := h
 cases h1; cases h2
 exact ⟨c0, rfl, h0⟩
theorem bytes_of_trod (hs : P.underlying ts = some (.slice te)) (he : P.underlying te = some (.int .u8)) (hc : P.cellsOf te = 1) (h : H) {fuel : Nat} {cs : List Value} {x : DataW H0 × List MemPlace} (hx : DataW.trod enc P w 0 sp held fuel ts cs = some x) :
  ∃ c0, cs = [c0] ∧ foV (dec c0) = true ∧ ∃ bs : List Int, (dec c0 = .slice none 0 0 ∧ bs = []) ∨ ∃ a c, dec c0 = .slice (some a) bs.length c ∧ bs.length ≤ c ∧ h.cells (envOf w) a bs.length = some (bs.map (Value.int .u8)) ∧ a.spot ≠ some 0 := by
 rcases DataW.trod_slice hs hx with ⟨rfl, _⟩ | ⟨a, len, cap, elems, rest, n', hn, rfl, _, _, hlc, hcap, hel, hele, _⟩
 ·exact ⟨_, rfl, rfl, [], .inl ⟨rfl, rfl⟩⟩
 ·have hd : ∃ a', dec (.slice (some a) len cap) = .slice (some a') len cap ∧ foV (.slice (some a') len cap) = true ∧ (a.spot = none → a' = a) ∧ a'.spot ≠ some 0 := by
   unfold dec
   cases hsp : a.spot with
   | none => exact ⟨a, by simp only [hsp], by simp only [foV, hsp], fun _ => rfl, by rw [hsp]; simp⟩
   | some s => exact ⟨⟨a.block, a.off, some (s + 1)⟩, by simp only [hsp], rfl, (fun h => by cases h), by simp⟩
  obtain ⟨a', hda, hfa, haa, hsa⟩ := hd
  refine ⟨_, rfl, by rw [hda]; exact hfa, ?_⟩
  have each : ∀ i, i < len → a.spot = none ∧ ∃ k : Int, envOf w a.block (a.off + i) = some (.int .u8 k) := by
   intro i hi
   have hb := hele i hi
   rw [hc, Nat.mul_one, List.getElem?_eq_getElem (by omega), Option.bind_eq_some_iff] at hb
   obtain ⟨ci, h1, h2⟩ := hb
   obtain ⟨d0, rfl, q0⟩ := cells1 h1
   obtain ⟨k, k1, _⟩ := DataW.trod_int he h2
   replace k1 : d0 = .int .u8 k := by simpa using k1
   subst k1
   have hsp : a.spot = none := by
    by_cases hi0 : i = 0
    ·rw [hi0] at q0
     simp only [Addr.add, if_true, World.cell?] at q0
     split at q0
     ·split at q0
      ·cases q0
      ·next hh => simpa using hh
     ·cases q0
    ·have := hele 0 (by omega)
     rw [hc, List.getElem?_eq_getElem (by omega), Option.bind_eq_some_iff] at this
     obtain ⟨c0, g1, _⟩ := this
     obtain ⟨_, _, q0⟩ := cells1 g1
     simp only [Nat.zero_mul, Addr.add, if_true, World.cell?] at q0
     split at q0
     ·split at q0
      ·cases q0
      ·next hh => simpa using hh
     ·cases q0
   refine ⟨hsp, k, ?_⟩
   have ha : a = ⟨a.block, a.off, none⟩ := by cases a; simp_all
   rw [ha] at q0
   simp only [Addr.add_plain] at q0
   exact envOf_at q0 rfl
  have build : ∀ j, j ≤ len → ∃ bs : List Int, bs.length = j ∧ roCells (envOf w) a.block a.off j = some (bs.map (Value.int .u8)) := by
   intro j
   induction j with
   | zero => intro _; exact ⟨[], rfl, rfl⟩
   | succ j ihj =>
    intro hj
    obtain ⟨bs, g1, g3⟩ := ihj (by omega)
    obtain ⟨_, k, g5⟩ := each j (by omega)
    refine ⟨bs ++ [k], by simp [g1], ?_⟩
    rw [List.map_append]
    refine roCells_append _ _ _ _ _ _ g3 ?_
    simp only [roCells, g5, one?, isOne, List.map_cons, List.map_nil]
  obtain ⟨bs, g1, g3⟩ := build len (Nat.le_refl _)
  refine ⟨bs, .inr ⟨a', cap, by rw [hda, g1], by omega, ?_, hsa⟩⟩
  cases hle : len with
  | zero =>
   subst hle
   obtain rfl := List.length_eq_zero_iff.1 g1
   rfl
  | succ m =>
   obtain ⟨hsp, _⟩ := each 0 (by omega)
   rw [haa hsp, g1, hle]
   unfold H.cells
   simp only [hsp]
   rw [← hle]; exact g3
end
end Go.Hs
/- Bytes in memory; operations of drawn regions that are left out. -/
namespace Go.Hs
section
variable {D : Tab} {E : Env}
theorem cells_cell {h : H} {a : Addr} {n i : Nat} {cs : List Value} {v : Value} (hc : h.cells E a n = some cs) (hi : i < n) (hv : cs[i]? = some v) : h.cell E (aadd a i) = some v := by
 have h1 := cells_sub hc (m := i) (l := 1) (by omega)
 have hl : i < cs.length := (List.getElem?_eq_some_iff.1 hv).1
 have e : (cs.drop i).take 1 = [v] := by
  rw [List.drop_eq_getElem_cons hl, List.take_succ_cons, List.take_zero, (List.getElem?_eq_some_iff.1 hv).2]
 rw [e] at h1
 generalize aadd a i = b at h1
 obtain ⟨k, o, sp⟩ := b
 match sp, h1 with
 | none, h1 =>
  have h1 : (match one? (E k o) with | some v => (match some [] with | some vs => some (v :: vs) | none => none) | none => none : Option (List Value)) = some [v] := h1
  show one? (E k o) = some v
  split at h1
  ·next w hw =>
   cases h1
   rw [hw]
  ·cases h1
 | some (_ + 1), h1 => cases h1
 | some 0, h1 =>
  have h1 : (match h.blk k with | some (.cells xs _ _) => (match Nat.ble (o + 1) xs.length && ((xs.drop o).take 1).all isOne with | true => some ((xs.drop o).take 1) | false => none) | _ => none : Option (List Value)) = some [v] := h1
  show (match h.blk k with | some (.cells xs _ _) => one? xs[o]? | _ => none) = some v
  cases hb : h.blk k with
  | none => rw [hb] at h1; cases h1
  | some B => cases B with
   | cells xs ty rt =>
    rw [hb] at h1
    simp only at h1 ⊢
    split at h1
    ·next hh =>
     have h1 := Option.some.inj h1
     simp only [Bool.and_eq_true, Nat.ble_eq] at hh
     have hlt : o < xs.length := by omega
     rw [List.drop_eq_getElem_cons hlt, List.take_succ_cons, List.take_zero] at h1 hh
     simp only [List.cons.injEq, and_true] at h1
     rw [List.getElem?_eq_getElem hlt, h1]
     rw [h1] at hh
     simp only [List.all_cons, List.all_nil, Bool.and_true] at hh
     simp only [one?, hh.2]
    ·cases h1
   | _ => rw [hb] at h1; cases h1
end
end Go.Hs
/- Bytes that are collected. -/
namespace Go.Hs
theorem apn_step {D : Tab} {E : Env} {h : H} {base : Nat} {t t2 e : TypeId} {sz by_ n m c i6 i7 : Nat} {ax : Addr} {i8 : Option Value} {i9 : Bool} {s ze : Value} {xs cs : List Value} {ro : Option Nat} (f : Fit h) (hbn : base ≤ h.next) (ap : Ap2 h base e sz s n xs ro)
  (ht : D.ty.get t = some ⟨.slice e sz by_, i6, i7, i8, i9⟩) (hz : tzero D e = some ze) (hzz : (Nat.beq ze.cells.toList.length sz && Nat.blt 0 sz && ze.cells.toList.all isOne) = true) (hzt : zeroArg D t2 (.slice (some ax) (m + 1) c) = some false)
  (hx : h.cells E ax ((m + 1) * sz) = some cs) (hcl : cs.length = (m + 1) * sz) (hc1 : cs.all isOne = true) (hrm : roomy (n + (m + 1)) by_ = true) :
  ∃ s' h' ro', aappend D E t t2 s (.slice (some ax) (m + 1) c) h = some (s', h') ∧ Ap2 h' base e sz s' (n + (m + 1)) (xs ++ cs) ro' ∧ Grew base ro h h' ∧ (ro = none ∧ ro' = some h.next ∨ ro ≠ none ∧ ro' = ro) ∧ ∀ r', r' < h.next → ro ≠ some r' → h'.chain r' = h.chain r' := by
 have hel : aelems E sz ze.cells.toList (.slice (some ax) (m + 1) c) h = some (m + 1, cs) := by
  simp only [aelems, hx]
 have hbl : Nat.beq cs.length ((m + 1) * sz) = true := by rw [hcl]; exact Nat.beq_refl _
 have hsz : 0 < sz := by
  simp only [Bool.and_eq_true, Nat.blt_eq] at hzz
  exact hzz.1.2
 rcases ap with ⟨rfl, rfl, rfl, rfl⟩ | ⟨k, r, rfl, hb, hl, h1, hbr, hrx, hch, rfl⟩
 ·rw [Nat.zero_add] at hrm ⊢
  refine ⟨.slice (some (own h.next)) (m + 1) (m + 1), h.newOpen cs e, some h.next, ?_, .inr ⟨h.next, h.next, rfl, ?_, ?_, ?_, hbn, Nat.lt_succ_self _, ?_, rfl⟩, ⟨newOpen_fit f, fun k B hb _ => newOpen_old f hb, rfl, rfl, Nat.le_succ _, fun r hr => ?_⟩, .inl ⟨rfl, rfl⟩, fun r' hr' _ => by simp only [H.chain, H.newOpen]; rw [T.get_set_ne _ _ _ _ (by omega)]⟩
  ·unfold aappend
   rw [ht]
   simp only [hz, hzt, hzz, hel, hbl, hrm]
  ·exact newOpen_new
  ·rw [List.nil_append]; exact hcl
  ·rw [List.nil_append]; exact hc1
  ·intro j hj
   simp only [H.chain, H.newOpen, T.get_set_same, Option.getD, List.mem_singleton] at hj
   subst hj
   exact ⟨cs, e, 0, T.get_set_same _ _ _, by rw [Nat.zero_add, hcl]; exact Nat.le_refl _⟩
  ·simp only [H.chain, H.newOpen]
   rw [T.get_set_ne _ _ _ _ (by omega)]
 ·have hkn := f.lt hb
  have hd := H.blk_dyn hb
  have hrn := f.ok.1 _ _ _ _ _ hd
  have hgr : h.grow e r (0 + (own k).off) (n * sz) (own k).block (xs.drop (own k).off) cs = { h with next := h.next + 1, dyn := h.dyn.set h.next (.cells (xs ++ cs) e (some (r, 0))), chains := h.chains.set r (h.next :: h.spare r k (0 + n * sz) (0 + n * sz + cs.length)) } := by
   unfold H.grow
   simp only [own, Nat.add_zero, List.drop_zero]
   have hgone : h.gone r k (0 + n * sz) (0 + n * sz + cs.length) = [] := by
    rw [List.eq_nil_iff_forall_not_mem]
    intro j hj
    obtain ⟨hj1, hj2⟩ := mem_gone.1 hj
    obtain ⟨ys, ty, p, hd, hle⟩ := hch j hj1
    unfold H.hits at hj2
    split at hj2
    ·cases hj2
    ·rw [hd] at hj2
     simp only [Bool.and_eq_true, Nat.blt_eq] at hj2
     omega
   rw [hgone]
   exact note_nil _
  generalize hg : ({ h with next := h.next + 1, dyn := h.dyn.set h.next (.cells (xs ++ cs) e (some (r, 0))), chains := h.chains.set r (h.next :: h.spare r k (0 + n * sz) (0 + n * sz + cs.length)) } : H) = g at hgr
  have hcr : g.chain r = h.next :: h.spare r k (0 + n * sz) (0 + n * sz + cs.length) := by
   rw [← hg]; simp only [H.chain, T.get_set_same, Option.getD]
  have hcn : ∀ r', r' ≠ r → g.chain r' = h.chain r' := by
   intro r' hr'
   rw [← hg]; simp only [H.chain]; rw [T.get_set_ne _ _ _ _ hr']
  have hgn : g.next = h.next + 1 := by rw [← hg]
  have hnew : g.blk h.next = some (.cells (xs ++ cs) e (some (r, 0))) := by
   have hdd : g.dyn.get h.next = some (.cells (xs ++ cs) e (some (r, 0))) := by rw [← hg]; exact T.get_set_same _ _ _
   unfold H.blk
   rw [hdd]
   simp only [hcr, List.contains_cons, beq_self_eq_true, Bool.true_or]
  have hold : ∀ j, j ≠ h.next → g.dyn.get j = h.dyn.get j := by
   intro j hj
   rw [← hg]; exact T.get_set_ne _ _ _ _ hj
  refine ⟨.slice (some (own h.next)) (n + (m + 1)) (n + (m + 1)), g, some r, ?_, .inr ⟨h.next, r, rfl, hnew, ?_, ?_, hbr, by rw [hgn]; omega, ?_, rfl⟩, ⟨⟨fun j hj => ?_, fun j ys ty r' p hd' => ?_, ?_⟩, ?_, ?_, ?_, ?_, ?_⟩, .inr ⟨by simp, rfl⟩, fun r' _ hr' => hcn r' (fun e => hr' (by rw [e]))⟩
  ·unfold aappend
   rw [ht]
   simp only [hz, hzt, hzz, hel, hbl, hrm]
   have e1 : (own k).spot = some 0 := rfl
   have e2 : (own k).block = k := rfl
   have e3 : (own k).off = 0 := rfl
   have e4 : Nat.ble (n + (m + 1)) n = false := by
    cases hq : Nat.ble (n + (m + 1)) n
    ·rfl
    ·rw [Nat.ble_eq] at hq; omega
   simp only [e1, e2, hb, e4]
   have e5 : (Nat.beq n n && Nat.beq ((own k).off + n * sz) xs.length && Nat.beq e e && (xs.drop (own k).off).all isOne && Nat.ble (own k).off xs.length) = true := by
    rw [e3, Nat.zero_add, hl, List.drop_zero, h1, Nat.beq_refl, Nat.beq_refl, Nat.beq_refl]
    simp [Nat.ble]
   simp only [e5]
   rw [← hgr]; rfl
  ·rw [List.length_append, hl, hcl, ← Nat.add_mul]
  ·rw [List.all_append, h1, hc1]; rfl
  ·intro j hj
   rw [hcr] at hj
   rcases List.mem_cons.1 hj with rfl | hj
   ·exact ⟨xs ++ cs, e, 0, H.blk_dyn hnew, by rw [List.length_append, hl, hcl, Nat.add_mul n]; omega⟩
   ·obtain ⟨ys, ty, p, hd, hle⟩ := hch j (mem_spare.1 hj).1
    have hjn : j ≠ h.next := by
     intro e
     subst e
     rw [f.free _ (Nat.le_refl _)] at hd; cases hd
    refine ⟨ys, ty, p, by rw [hold j hjn]; exact hd, ?_⟩
    rw [Nat.add_mul n]; omega
  ·rw [hgn] at hj
   rw [hold j (by omega)]; exact f.free j (by omega)
  ·rw [hgn]
   by_cases hj : j = h.next
   ·subst hj
    have := H.blk_dyn hnew
    rw [this] at hd'; cases hd'; omega
   ·rw [hold j hj] at hd'
    have := f.ok.1 _ _ _ _ _ hd'; omega
  ·rw [hgn]
   have := f.ok.2
   rw [← hg]; exact Nat.le_succ_of_le this
  ·intro j B hbj hro
   have hjn := f.lt hbj
   rw [← hbj]
   refine blk_congr (hold j (by omega)) (fun ys u r' q hd' => ?_)
   have : B = .cells ys u (some (r', q)) := by
    have := H.blk_dyn hbj
    rw [hd'] at this; cases this; rfl
   have hne := hro _ _ _ _ this
   rw [hcn r' (fun h => hne (by rw [h]))]
  ·rw [← hg]
  ·rw [← hg]
  ·rw [hgn]; omega
  ·intro r' hr'
   exact hcn r' (by omega)
section
variable {D : Tab} {E : Env} {tb : TypeId}
end
end Go.Hs
/- Bytes that are put into room that was made for them. -/
namespace Go.Hs
section
variable {D : Tab} {E : Env} {tb : TypeId}
theorem FC.call {v : Ev} {ops : Array Oper} {j : Nat} {o : Oper} {rest : List Oper} {A : Ac} {h h1 : H} {x : Value} {Q : Ac → H → Prop} (hg : o.guard = none) (hm : (mayJoin o.op || isStore o.op) = false) (ho : oper1 D E v A o (fresh h) = some (x, h1)) (hl : h1.log = []) (r : FC D E v ops (j + 1) rest (A.put o.dst x) (back h h1) Q) : FC D E v ops j (o :: rest) A h Q := by
 rw [Bool.or_eq_false_iff] at hm
 exact FQ.call hg hm.1 ho hl (r.mono fun _ _ _ ⟨a, b⟩ => ⟨calm_cons hm.2 a, b⟩)
end
end Go.Hs
/- Bytes of items, read again; and cut off. -/
namespace Go.Hs
theorem len_iszE : ∀ ks : List Item, ks.length ≤ iszL ks
 | [] => Nat.zero_le _
 | x :: xs => by
  have := len_iszE xs
  have h1 : 1 ≤ isz x := by obtain ⟨_, _, _, _⟩ := x; rw [isz]; omega
  rw [iszL, List.length_cons]; omega
/-! ### Bytes that are cut off -/
end Go.Hs
/- Items with short texts; their bytes one behind the other, whole or cut off: the law on streams, in plain Lean. -/
namespace Go.Hs
def fineL (ts : List Item) : Prop := ∀ t ∈ ts, goodI t ∧ lvlI t ≤ 250 ∧ isz t ≤ 5000
end Go.Hs
/- Items put into items: right, and how large. -/
namespace Go.Hs
theorem goodL_set : ∀ {ks : List Item} {z : Item} (i : Nat), goodL ks → goodI z → goodL (ks.set i z)
 | [], z, i, h, _ => by simpa using h
 | x :: ks, z, 0, h, hz => by
  rw [goodL] at h
  rw [List.set_cons_zero, goodL]
  exact ⟨hz, h.2⟩
 | x :: ks, z, i + 1, h, hz => by
  rw [goodL] at h
  rw [List.set_cons_succ, goodL]
  exact ⟨h.1, goodL_set i h.2 hz⟩
theorem goodL_get : ∀ {ks : List Item} {y : Item} (i : Nat), goodL ks → ks[i]? = some y → goodI y
 | [], y, i, _, h => by simp at h
 | x :: ks, y, 0, h, hy => by
  rw [goodL] at h
  obtain rfl : x = y := by simpa using hy
  exact h.1
 | x :: ks, y, i + 1, h, hy => by
  rw [goodL] at h
  exact goodL_get i h.2 (by simpa using hy)
theorem goodI_put : ∀ (p : List Nat) (t x : Item), goodI t → goodI x → goodI (putN t p x)
 | [], t, x, _, hx => by rw [putN]; exact hx
 | i :: p, .mk k m tx ks, x, h, hx => by
  rw [putN]
  rw [goodI] at h
  obtain ⟨g1, g2, g3, g4, g5, g6⟩ := h
  split
  ·next y hy =>
   rw [goodI]
   exact ⟨g1, g2, g3, g4, g5, goodL_set i g6 (goodI_put p y x (goodL_get i g6 hy) hx)⟩
  ·rw [goodI]
   exact ⟨g1, g2, g3, g4, g5, g6⟩
theorem iszL_set : ∀ {ks : List Item} {y z : Item} (i : Nat), ks[i]? = some y → iszL (ks.set i z) + isz y = iszL ks + isz z
 | [], y, z, i, h => by simp at h
 | x :: ks, y, z, 0, hy => by
  obtain rfl : x = y := by simpa using hy
  rw [List.set_cons_zero, iszL, iszL]; omega
 | x :: ks, y, z, i + 1, hy => by
  have := iszL_set (z := z) i (show ks[i]? = some y by simpa using hy)
  rw [List.set_cons_succ, iszL, iszL]; omega
theorem isz_put : ∀ (p : List Nat) (t x : Item), isz (putN t p x) ≤ isz t + isz x
 | [], t, x => by rw [putN]; omega
 | i :: p, .mk k m tx ks, x => by
  rw [putN]
  split
  ·next y hy =>
   have h1 := isz_put p y x
   have h2 := iszL_set (z := putN y p x) i hy
   rw [isz, isz]; omega
  ·omega
theorem lvlL_lei : ∀ (ks : List Item) (m B : Int), lvlL ks m ≤ B ↔ m ≤ B ∧ ∀ t ∈ ks, lvlI t ≤ B
 | [], m, B => by rw [lvlL]; simp
 | x :: ks, m, B => by
  rw [lvlL]
  split
  ·rw [lvlL_lei ks _ B]
   simp only [List.mem_cons, forall_eq_or_imp]
   constructor
   ·rintro ⟨h1, h2⟩; exact ⟨by omega, h1, h2⟩
   ·rintro ⟨h1, h2, h3⟩; exact ⟨h2, h3⟩
  ·rw [lvlL_lei ks _ B]
   simp only [List.mem_cons, forall_eq_or_imp]
   constructor
   ·rintro ⟨h1, h2⟩; exact ⟨h1, by omega, h2⟩
   ·rintro ⟨h1, h2, h3⟩; exact ⟨h1, h3⟩
theorem lvlI_put : ∀ (p : List Nat) (t x : Item), lvlI (putN t p x) ≤ lvlI t + lvlI x
 | [], t, x => by rw [putN]; have := lvlI_bound t; omega
 | i :: p, .mk k m tx ks, x => by
  have hx := lvlI_bound x
  rw [putN]
  split
  ·next y hy =>
   have h1 := lvlI_put p y x
   obtain ⟨hi, he⟩ := List.getElem?_eq_some_iff.1 hy
   have h2 := (lvlL_lei ks 0 (lvlL ks 0)).1 (Int.le_refl _)
   have hb : lvlL (ks.set i (putN y p x)) 0 ≤ lvlL ks 0 + lvlI x := by
    rw [lvlL_lei]
    refine ⟨by have := h2.1; omega, fun t ht => ?_⟩
    rcases List.mem_or_eq_of_mem_set ht with ht | rfl
    ·have := h2.2 t ht; omega
    ·have := h2.2 y (by rw [← he]; exact List.getElem_mem hi)
     omega
   rw [lvlI, lvlI]; omega
  ·omega
end Go.Hs
/- A place in an item: kept where nothing of the item is written. -/
namespace Go.Hs
variable {E : Env}
theorem Ctx.keep {g g' : H} {Lo Hi k9 kc o lo hi : Nat} {t y : Item} {p : List Nat} {xs : List Value} {ro : Option (Nat × Nat)} (C : Ctx E g Lo Hi k9 t p y kc o xs ro lo hi) (hk : ∀ j, (j = k9 ∨ (Lo ≤ j ∧ j < Hi)) → (∀ B, g.blk j = some B → g'.blk j = some B) ∧ g'.chain j = g.chain j) : Ctx E g' Lo Hi k9 t p y kc o xs ro lo hi := by
 obtain ⟨cat, cblk, ⟨a, b, c, d, hq, hr⟩, cfit, cone, caway, croot, csub, ckin, cdone⟩ := C
 refine ⟨cat, (hk kc ckin).1 _ cblk, ⟨a, b, c, d, hq, hr.keep (fun j h1 h2 => hk j (.inr (by omega)))⟩, cfit, cone, caway, ?_, csub, ckin, fun g2 a' b' c' d' x kp hb hx => ?_⟩
 ·rcases croot with e | ⟨e, h⟩
  ·exact .inl e
  ·exact .inr ⟨e, by rw [(hk kc ckin).2]; exact h⟩
 ·exact cdone g2 a' b' c' d' x (fun j hin hj hn B hB => kp j hin hj hn B ((hk j hin).1 B hB)) hb hx
end Go.Hs
/- Three slices that are appended to in turn: items, their bytes, where those end. -/
namespace Go.Hs
section
variable {D : Tab} {E : Env}
def Lo (b top : Nat) (a : Option Nat) : Prop := ∀ r, a = some r → b ≤ r ∧ r < top
def natsV (ns : List Nat) : List Value := ns.map fun n => .int .i64 (n : Nat)
variable {b top : Nat} {h g : H} {s1 s2 s3 : Value} {ts : List Item} {bs : List UInt8} {ns : List Nat}
theorem ap2_root {h : H} {base : Nat} {e : TypeId} {sz : Nat} {s : Value} {n : Nat} {xs : List Value} {ro : Option Nat} (a : Ap2 h base e sz s n xs ro) : ∀ r, ro = some r → base ≤ r ∧ r < h.next := fun r hr => by
 rcases a with ⟨_, _, _, e3⟩ | ⟨_, rr, _, _, _, _, e5, e6, _, e8⟩
 ·rw [e3] at hr; cases hr
 ·rw [e8] at hr; cases hr; exact ⟨e5, e6⟩
end
end Go.Hs
/- Slices that are appended to: all that was there stays. Lists of numbers in memory, and lists of those. -/
namespace Go.Hs
structure Gk (ro : Option Nat) (h g : H) : Prop where
 fit : Fit g
 grows : Grows h g
 log : g.log = h.log
 mark : g.mark = h.mark
 next : h.next ≤ g.next
 chain : ∀ r, r < h.next → ro ≠ some r → g.chain r = h.chain r
theorem Ahd.gk {h g : H} {ro : Option Nat} (a : Ahd h g) : Gk ro h g := ⟨a.fit, a.grows, a.log, a.mark, a.next, fun r hr _ => a.chain r hr⟩
theorem Ahd.gkA {h0 h g : H} {ro : Option Nat} (a : Ahd h0 h) (k : Gk ro h g) (hro : ∀ r, ro = some r → h0.next ≤ r) : Ahd h0 g :=
 ⟨k.fit, a.grows.trans k.grows, k.log.trans a.log, k.mark.trans a.mark, Nat.le_trans a.next k.next, fun r hr => (k.chain r (Nat.lt_of_lt_of_le hr a.next) (fun e => by have := hro r e; omega)).trans (a.chain r hr)⟩
def Ap3 (h : H) (base : Nat) (e : TypeId) (sz : Nat) (s : Value) (n : Nat) (xs : List Value) (ro : Option Nat) : Prop :=
 Ap2 h base e sz s n xs ro ∨ ∃ k, s = .slice (some (own k)) n n ∧ h.blk k = some (.cells xs e none) ∧ xs.length = n * sz ∧ xs.all isOne = true ∧ ro = none
theorem Ap3.grow {h g : H} {base : Nat} {e : TypeId} {sz : Nat} {s : Value} {n : Nat} {xs : List Value} {ro : Option Nat} (a : Ap3 h base e sz s n xs ro) (f : Fit h) (G : Ahd h g) : Ap3 g base e sz s n xs ro := by
 rcases a with a | ⟨k, e1, e2, e3⟩
 ·exact .inl (a.mod (M := fun _ => False) G.mod (fun _ _ h => h.elim))
 ·exact .inr ⟨k, e1, G.grows _ _ e2, e3⟩
theorem Ap3.get {h : H} {base : Nat} {e : TypeId} {sz : Nat} {s : Value} {n : Nat} {xs : List Value} {ro : Option Nat} (a : Ap3 h base e sz s n xs ro) : (n = 0 ∧ xs = [] ∧ s = .slice none 0 0) ∨ ∃ k rt, s = .slice (some (own k)) n n ∧ h.blk k = some (.cells xs e rt) ∧ xs.length = n * sz ∧ xs.all isOne = true := by
 rcases a with (⟨h1, h2, h3, _⟩ | ⟨k, r, e1, e2, e3, e4, _⟩) | ⟨k, e1, e2, e3, e4, _⟩
 ·exact .inl ⟨h1, h2, h3⟩
 ·exact .inr ⟨k, _, e1, e2, e3, e4⟩
 ·exact .inr ⟨k, _, e1, e2, e3, e4⟩
theorem Ap3.root {h : H} {base : Nat} {e : TypeId} {sz : Nat} {s : Value} {n : Nat} {xs : List Value} {ro : Option Nat} (a : Ap3 h base e sz s n xs ro) : ∀ r, ro = some r → base ≤ r ∧ r < h.next := by
 rcases a with a | ⟨k, e1, e2, e3, e4, rfl⟩
 ·exact ap2_root a
 ·intro r h; cases h
theorem apk_step {D : Tab} {E : Env} {h : H} {base : Nat} {t t2 e : TypeId} {sz by_ n m c i6 i7 : Nat} {ax : Addr} {i8 : Option Value} {i9 : Bool} {s ze : Value} {xs cs : List Value} {ro : Option Nat} (f : Fit h) (hbn : base ≤ h.next) (ap : Ap3 h base e sz s n xs ro)
  (ht : D.ty.get t = some ⟨.slice e sz by_, i6, i7, i8, i9⟩) (hz : tzero D e = some ze) (hzz : (Nat.beq ze.cells.toList.length sz && Nat.blt 0 sz && ze.cells.toList.all isOne) = true) (hzt : zeroArg D t2 (.slice (some ax) (m + 1) c) = some false)
  (hx : h.cells E ax ((m + 1) * sz) = some cs) (hcl : cs.length = (m + 1) * sz) (hc1 : cs.all isOne = true) (hrm : roomy (n + (m + 1)) by_ = true) :
  ∃ s' h' ro', aappend D E t t2 s (.slice (some ax) (m + 1) c) h = some (s', h') ∧ Ap2 h' base e sz s' (n + (m + 1)) (xs ++ cs) ro' ∧ Gk ro h h' ∧ (ro = none ∧ ro' = some h.next ∨ ro ≠ none ∧ ro' = ro) := by
 rcases ap with ap | ⟨k, rfl, hb, hl, h1, rfl⟩
 ·have ap0 := ap
  obtain ⟨s', h', ro', happ, a2, gw, hroo, hch⟩ := apn_step f hbn ap ht hz hzz hzt hx hcl hc1 hrm
  refine ⟨s', h', ro', happ, a2, ⟨gw.fit, fun j B hB => ?_, gw.log, gw.mark, gw.next, hch⟩, hroo⟩
  by_cases hr : rootsNot ro B
  ·exact gw.keep _ _ hB hr
  ·-- a block of the chain: none is hit
   rcases ap0 with ⟨_, _, _, rfl⟩ | ⟨k, r, rfl, hb, hl, h1, hbr, hrx, hch', rfl⟩
   ·exact absurd (fun _ _ _ _ _ => by simp) hr
   rcases a2 with ⟨e0, _⟩ | ⟨k', r', e1, e2, e3, e4, e5, e6, e7, e8⟩
   ·omega
   rcases hroo with ⟨hc, _⟩ | ⟨_, hroo⟩
   ·cases hc
   rw [hroo] at e8
   cases e8
   have hap : aappend D E t t2 (.slice (some (own k)) n n) (.slice (some ax) (m + 1) c) h = some (.slice (some (own h.next)) (n + (m + 1)) (n + (m + 1)), h.grow e r (0 + (own k).off) (n * sz) (own k).block (xs.drop (own k).off) cs) := by
    have hel : aelems E sz ze.cells.toList (.slice (some ax) (m + 1) c) h = some (m + 1, cs) := by simp only [aelems, hx]
    have hbl : Nat.beq cs.length ((m + 1) * sz) = true := by rw [hcl]; exact Nat.beq_refl _
    unfold aappend
    rw [ht]
    simp only [hz, hzt, hzz, hel, hbl, hrm]
    have q1 : (own k).spot = some 0 := rfl
    have q2 : (own k).block = k := rfl
    have q3 : (own k).off = 0 := rfl
    have q4 : Nat.ble (n + (m + 1)) n = false := by
     cases hq : Nat.ble (n + (m + 1)) n
     ·rfl
     ·rw [Nat.ble_eq] at hq; omega
    simp only [q1, q2, hb, q4]
    have q5 : (Nat.beq n n && Nat.beq ((own k).off + n * sz) xs.length && Nat.beq e e && (xs.drop (own k).off).all isOne && Nat.ble (own k).off xs.length) = true := by
     rw [q3, Nat.zero_add, hl, List.drop_zero, h1, Nat.beq_refl, Nat.beq_refl, Nat.beq_refl]
     simp [Nat.ble]
    simp only [q5]
   rw [hap] at happ
   have hg := (Prod.mk.inj (Option.some.inj happ)).2
   have hcg : h'.chain r = h.next :: h.spare r k (n * sz) (n * sz + cs.length) := by
    rw [← hg]
    unfold H.grow H.chain
    rw [note_chains]
    simp only [T.get_set_same, Option.getD, own, Nat.zero_add]
   have hdg : h'.dyn = h.dyn.set h.next (.cells (xs ++ cs) e (some (r, 0))) := by
    rw [← hg]
    unfold H.grow
    rw [H.note_dyn]
    simp only [own, List.drop_zero, Nat.add_zero]
   have hjn := f.lt hB
   rw [← hB]
   refine blk_congr (by rw [hdg, T.get_set_ne _ _ _ _ (by omega)]) (fun ys u r' q hd' => ?_)
   by_cases hrr : r' = r
   ·subst hrr
    rw [hcg]
    constructor
    ·intro hj
     rcases List.mem_cons.1 hj with rfl | hj
     ·omega
     ·exact (mem_spare.1 hj).1
    ·intro hj
     refine List.mem_cons_of_mem _ (mem_spare.2 ⟨hj, ?_⟩)
     obtain ⟨ys', ty, p, hd, hle⟩ := hch' j hj
     unfold H.hits
     split
     ·rfl
     ·rw [hd]
      have : Nat.blt (n * sz) (p + ys'.length) = false := by
       cases hq : Nat.blt (n * sz) (p + ys'.length)
       ·rfl
       ·rw [Nat.blt_eq] at hq; omega
      simp only [this, Bool.false_and]
   ·rw [hch r' (f.ok.1 _ _ _ _ _ (by
     have := H.blk_dyn hB
     first | exact hd' | (rw [hdg, T.get_set_ne _ _ _ _ (by omega)] at hd'; exact hd'))) (fun e => hrr (Option.some.inj e).symm)]
 ·have hel : aelems E sz ze.cells.toList (.slice (some ax) (m + 1) c) h = some (m + 1, cs) := by simp only [aelems, hx]
  have hbl : Nat.beq cs.length ((m + 1) * sz) = true := by rw [hcl]; exact Nat.beq_refl _
  refine ⟨.slice (some (own h.next)) (n + (m + 1)) (n + (m + 1)), h.newOpen (xs ++ cs) e, some h.next, ?_, .inr ⟨h.next, h.next, rfl, newOpen_new, ?_, ?_, hbn, Nat.lt_succ_self _, ?_, rfl⟩, (Ahd.newOpen f _ _).gk, .inl ⟨rfl, rfl⟩⟩
  ·unfold aappend
   rw [ht]
   simp only [hz, hzt, hzz, hel, hbl, hrm]
   have q1 : (own k).spot = some 0 := rfl
   have q2 : (own k).block = k := rfl
   have q4 : Nat.ble (n + (m + 1)) n = false := by
    cases hq : Nat.ble (n + (m + 1)) n
    ·rfl
    ·rw [Nat.ble_eq] at hq; omega
   have q6 : h.cells E (own k) (n * sz) = some xs := blk_cells hb hl h1
   simp only [q1, q2, hb, q4, q6]
  ·rw [List.length_append, hl, hcl, ← Nat.add_mul]
  ·rw [List.all_append, h1, hc1]; rfl
  ·intro j hj
   simp only [H.chain, H.newOpen, T.get_set_same, Option.getD, List.mem_singleton] at hj
   subst hj
   exact ⟨xs ++ cs, e, 0, T.get_set_same _ _ _, by rw [Nat.zero_add, List.length_append, hl, hcl, ← Nat.add_mul]; exact Nat.le_refl _⟩
theorem Gk.back {h h1 : H} {ro : Option Nat} (f : Fit h) (k : Gk ro (fresh h) h1) : Gk ro h (Hs.back h h1) ∧ h1.log = [] := by
 have hl : h1.log = [] := k.log
 exact ⟨⟨back_fit f k.fit k.next, fun j B hb => by rw [back_blk]; exact k.grows j B hb, back_log hl, back_mark _ _, by rw [back_next]; exact k.next, fun r hr hne => by rw [back_chain]; exact k.chain r hr hne⟩, hl⟩
theorem grows_back (h h1 : H) : Grows h1 (Hs.back h h1) := fun _ _ hb => by rw [back_blk]; exact hb
theorem Ap3.back {h h1 : H} {base : Nat} {e : TypeId} {sz : Nat} {s : Value} {n : Nat} {xs : List Value} {ro : Option Nat} (a : Ap3 h1 base e sz s n xs ro) : Ap3 (Hs.back h h1) base e sz s n xs ro := by
 rcases a with (a | ⟨k, r, e1, e2, e3, e4, e5, e6, e7, e8⟩) | ⟨k, e1, e2, e3⟩
 ·exact .inl (.inl a)
 ·refine .inl (.inr ⟨k, r, e1, by rw [back_blk]; exact e2, e3, e4, e5, by rw [back_next]; exact e6, fun j hj => ?_, e8⟩)
  rw [back_chain] at hj
  obtain ⟨ys, ty, p, h1, h2⟩ := e7 j hj
  exact ⟨ys, ty, p, by rw [back_dyn]; exact h1, h2⟩
 ·exact .inr ⟨k, e1, by rw [back_blk]; exact e2, e3⟩
theorem Ap3.fresh {h : H} {base : Nat} {e : TypeId} {sz : Nat} {s : Value} {n : Nat} {xs : List Value} {ro : Option Nat} (a : Ap3 h base e sz s n xs ro) : Ap3 (Hs.fresh h) base e sz s n xs ro := by
 rcases a with (a | ⟨k, r, q⟩) | ⟨k, q⟩
 ·exact .inl (.inl a)
 ·exact .inl (.inr ⟨k, r, q⟩)
 ·exact .inr ⟨k, q⟩
/-! ### Lists of numbers, and lists of those -/
def Nums (E : Env) (h : H) (v : Value) (ns : List Nat) : Prop := ∃ b c, v = .slice b ns.length c ∧ (ns = [] ∨ ∃ a, b = some a ∧ h.cells E a ns.length = some (natsV ns))
theorem Nums.grow {E : Env} {g h : H} {v : Value} {ns : List Nat} (n : Nums E h v ns) (hg : Grows h g) : Nums E g v ns := by
 obtain ⟨b, c, e, h1 | ⟨a, h1, h2⟩⟩ := n
 ·exact ⟨b, c, e, .inl h1⟩
 ·exact ⟨b, c, e, .inr ⟨a, h1, cells_grow hg h2⟩⟩
def NumsL (E : Env) (h : H) : List (List Nat) → List Value → Prop
 | [], vs => vs = []
 | p :: ps, vs => ∃ v l, vs = v :: l ∧ Nums E h v p ∧ NumsL E h ps l
theorem NumsL.grow {E : Env} {g h : H} (hg : Grows h g) : ∀ {ps : List (List Nat)} {vs : List Value}, NumsL E h ps vs → NumsL E g ps vs
 | [], _, n => n
 | _ :: _, _, ⟨v, l, e, n, m⟩ => ⟨v, l, e, n.grow hg, NumsL.grow hg m⟩
theorem NumsL.append {E : Env} {h : H} : ∀ {ps qs : List (List Nat)} {vs ws : List Value}, NumsL E h ps vs → NumsL E h qs ws → NumsL E h (ps ++ qs) (vs ++ ws)
 | [], _, _, _, n, m => by rw [show _ = _ from n]; exact m
 | _ :: _, _, _, _, ⟨v, l, e, n, m⟩, k => ⟨v, l ++ _, by rw [e]; rfl, n, NumsL.append m k⟩
theorem NumsL.get {E : Env} {h : H} : ∀ {ps : List (List Nat)} {vs : List Value} (i : Nat) (hi : i < ps.length), NumsL E h ps vs → ∃ v, vs[i]? = some v ∧ Nums E h v ps[i]
 | [], _, i, hi, _ => by simp at hi
 | p :: ps, _, 0, _, ⟨v, l, e, n, m⟩ => ⟨v, by rw [e]; rfl, n⟩
 | p :: ps, _, i + 1, hi, ⟨v, l, e, n, m⟩ => by
  obtain ⟨w, h1, h2⟩ := NumsL.get i (by simpa using hi) m
  exact ⟨w, by rw [e, List.getElem?_cons_succ]; exact h1, h2⟩
def Pl (E : Env) (te base : Nat) (h : H) (s : Value) (ps : List (List Nat)) (ro : Option Nat) : Prop := ∃ vs, Ap3 h base te 1 s ps.length vs ro ∧ NumsL E h ps vs
def Pls (E : Env) (h : H) (s : Value) (ps : List (List Nat)) : Prop := ∃ b c, s = .slice b ps.length c ∧ (ps = [] ∨ ∃ a vs, b = some a ∧ h.cells E a ps.length = some vs ∧ NumsL E h ps vs)
theorem Pls.grow {E : Env} {g h : H} {s : Value} {ps : List (List Nat)} (n : Pls E h s ps) (hg : Grows h g) : Pls E g s ps := by
 obtain ⟨b, c, e, h1 | ⟨a, vs, h1, h2, h3⟩⟩ := n
 ·exact ⟨b, c, e, .inl h1⟩
 ·exact ⟨b, c, e, .inr ⟨a, vs, h1, cells_grow hg h2, h3.grow hg⟩⟩
theorem Pl.pls {E : Env} {te base : Nat} {h : H} {s : Value} {ps : List (List Nat)} {ro : Option Nat} (p : Pl E te base h s ps ro) : Pls E h s ps := by
 obtain ⟨vs, a, n⟩ := p
 rcases a.get with ⟨h1, h2, h3⟩ | ⟨k, rt, h1, h2, h3, h4⟩
 ·have : ps = [] := List.length_eq_zero_iff.1 h1
  subst this
  exact ⟨none, 0, h3, .inl rfl⟩
 ·exact ⟨some (own k), ps.length, h1, .inr ⟨own k, vs, rfl, blk_cells h2 (by rw [h3, Nat.mul_one]) h4, n⟩⟩
theorem Pl.back {E : Env} {te base : Nat} {h h1 : H} {s : Value} {ps : List (List Nat)} {ro : Option Nat} (p : Pl E te base h1 s ps ro) : Pl E te base (Hs.back h h1) s ps ro := by
 obtain ⟨vs, a, n⟩ := p
 exact ⟨vs, a.back, n.grow (grows_back _ _)⟩
theorem Ap3.nums {E : Env} {h : H} {base : Nat} {e : TypeId} {s : Value} {p : List Nat} {ro : Option Nat} (a : Ap3 h base e 1 s p.length (natsV p) ro) : Nums E h s p := by
 rcases a.get with ⟨h1, h2, h3⟩ | ⟨k, rt, h1, h2, h3, h4⟩
 ·have : p = [] := List.length_eq_zero_iff.1 h1
  subst this
  exact ⟨none, 0, h3, .inl rfl⟩
 ·exact ⟨some (own k), p.length, h1, .inr ⟨own k, rfl, blk_cells h2 (by rw [h3, Nat.mul_one]) h4⟩⟩
theorem natsV_length (p : List Nat) : (natsV p).length = p.length := by simp [natsV]
theorem natsV_one (p : List Nat) : (natsV p).all isOne = true := by simp [natsV, isOne]
theorem natsV_append (p q : List Nat) : natsV (p ++ q) = natsV p ++ natsV q := by simp [natsV]
end Go.Hs
/- Cells of a block of one's own that are written, whatever the block. -/
namespace Go.Hs
theorem store_place {g : H} {k o : Nat} {vs xs : List Value} {e : TypeId} {ro : Option (Nat × Nat)} (f : Fit g) (hb : g.blk k = some (.cells xs e ro)) (hr : ro = none ∨ ro = some (k, 0) ∧ g.chain k = [k]) (hv : vs ≠ []) (hl : o + vs.length ≤ xs.length) (h1 : vs.all isOne = true) (hm : g.mark ≤ k) :
  ∃ q, (fresh g).put (aadd (own k) o) vs = some q ∧ Fit (back g q) ∧ (back g q).blk k = some (.cells (xs.take o ++ vs ++ xs.drop (o + vs.length)) e ro) ∧ (∀ j, j ≠ k → (back g q).blk j = g.blk j) ∧ (back g q).next = g.next ∧ (back g q).mark = g.mark ∧ (∀ r, (back g q).chain r = g.chain r) ∧ (back g q).log = g.log := by
 rcases hr with rfl | ⟨rfl, hc⟩
 ·have hk := f.lt hb
  obtain ⟨h2, h3⟩ := fresh_setl (B := .cells (xs.take o ++ vs ++ xs.drop (o + vs.length)) e none) hk
  refine ⟨(fresh g).setl k (.cells (xs.take o ++ vs ++ xs.drop (o + vs.length)) e none), put_setl (h := fresh g) hb hv hl h1, ?_⟩
  rw [h3]
  exact ⟨f.setl rfl hk, setl_same rfl, fun j hj => setl_ne hj, setl_next _ _ _, setl_mark _ _ _, fun r => setl_chain _ _ _ r, by rw [setl_above hm]; rfl⟩
 ·obtain ⟨q, hput, hql, hqn, hqf, hqb, hqo, hqc, hqg⟩ := put_root f hb hc hv hl h1
  exact ⟨q, hput, hqf, hqb, hqo, by rw [back_next, hqn], back_mark _ _, hqc, hqg hm⟩
end Go.Hs
/- Whether two items are the same. -/
namespace Go.Hs
mutual
def alkI : Item → Item → Bool
 | .mk k m tx ks, .mk k' m' tx' ks' => decide (k = k') && decide (m = m') && decide (tx = tx') && decide (ks.length = ks'.length) && alkL ks ks'
def alkL : List Item → List Item → Bool
 | [], _ => true
 | _ :: _, [] => true
 | x :: xs, y :: ys => alkI x y && alkL xs ys
end
mutual
theorem alkI_iff : ∀ (t u : Item), alkI t u = true ↔ t = u
 | .mk k m tx ks, .mk k' m' tx' ks' => by
  rw [alkI]
  simp only [Bool.and_eq_true, decide_eq_true_eq, Item.mk.injEq]
  constructor
  ·rintro ⟨⟨⟨⟨h1, h2⟩, h3⟩, h4⟩, h5⟩
   exact ⟨h1, h2, h3, (alkL_iff ks ks' h4).1 h5⟩
  ·rintro ⟨h1, h2, h3, h4⟩
   exact ⟨⟨⟨⟨h1, h2⟩, h3⟩, by rw [h4]⟩, (alkL_iff ks ks' (by rw [h4])).2 h4⟩
theorem alkL_iff : ∀ (ks ks' : List Item), ks.length = ks'.length → (alkL ks ks' = true ↔ ks = ks')
 | [], [], _ => by rw [alkL]; simp
 | [], _ :: _, h => by simp at h
 | _ :: _, [], h => by simp at h
 | x :: xs, y :: ys, h => by
  rw [alkL]
  simp only [Bool.and_eq_true, List.cons.injEq]
  rw [alkI_iff x y, alkL_iff xs ys (by simpa using h)]
end
end Go.Hs
