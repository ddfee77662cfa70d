/- Loops over functions, as what holds behind them; visits of trees. -/
import Derived.Test.YtofijpbmbmbnhaaDoorHsae
import Derived.Lib.SmallJoins
set_option linter.unusedSimpArgs false
set_option linter.unusedVariables false
namespace Go.Hs
section
variable {D : Tab} {E : Env} {I : Known}
theorem Wr.round {l : Nat} {args : List Value} {h : H} {r : LoopR} {A : Ac} {Q : Value → H → Prop} (hb : h.blk l = some (.loop r)) (hp : setParams r.params.toList args ⟨r.tmps, r.n, []⟩ = some A)
  (w : Wc D E I ⟨r.fn, some l⟩ r.assign A h fun ex A1 h1 => ex = .normal ∧ ∃ r1, h1.blk l = some (.loop r1) ∧ r1.state = .ready ∧ Wc D E I ⟨r.fn, some l⟩ r.body A1 (h1.turn l (.loop { r1 with state := .busy })) fun ex A2 h2 => ∃ r2, h2.blk l = some (.loop r2) ∧
   (ex = .normal ∧ Q (.bool true) (h2.turn l (.loop { r2 with state := .ready, pending := none })) ∨ ex = .ret ∧ Q (.bool false) (h2.turn l (.loop { r2 with state := .done, pending := some .ret })))) :
  ∃ n v h', (ev D E I n).round l args h = some (v, h') ∧ Q v h' := by
 obtain ⟨n, ex, A1, h1, c1, rfl, r1, hb1, hs1, m, ex2, A2, h2, c2, r2, hb2, q⟩ := w
 have c1' := (ev_mono I (Nat.le_max_left n m)).code c1
 have c2' := (ev_mono I (Nat.le_max_right n m)).code c2
 rcases q with ⟨rfl, q⟩ | ⟨rfl, q⟩
 ·refine ⟨max n m + 1, _, _, ?_, q⟩
  show doRound (ev D E I (max n m)) l args h = _
  simp only [doRound, hb, hp, c1', hb1, hs1, c2', hb2]
 ·refine ⟨max n m + 1, _, _, ?_, q⟩
  show doRound (ev D E I (max n m)) l args h = _
  simp only [doRound, hb, hp, c1', hb1, hs1, c2', hb2]
theorem Wc.range {fn : FuncId} {f : Operand} {params : Array Tmp} {assign body : Code} {A : Ac} {h : H} {fv x : Value} {h2 : H} {r : LoopR} {Q : Ex → Ac → H → Prop} (n : Nat) (hf : opv A f = some fv)
  (hc : acall (ev D E I n) fv [.func (.yield (h.next + 1)) #[] #[]] ((h.new (.defd false)).new (.loop ⟨.ready, none, fn, A.tmps, A.n, params, assign, body, h.next⟩)) = some (x, h2))
  (hb : h2.blk (h.next + 1) = some (.loop r)) (hr : r.state ≠ .busy)
  (w : match r.pending with
   | none => Q .normal { A with defers := h.next :: A.defers } (h2.turn (h.next + 1) (.loop { r with state := .exhausted }))
   | some c => Wc D E I ⟨fn, none⟩ c { A with defers := h.next :: A.defers } (h2.turn (h.next + 1) (.loop { r with state := .exhausted })) Q) :
  Wc D E I ⟨fn, none⟩ (.rangeFunc f params assign body) A h Q := by
 have hn : (h.new (.defd false)).next = h.next + 1 := rfl
 cases hp : r.pending with
 | none =>
  rw [hp] at w
  refine ⟨n + 1, _, _, _, ?_, w⟩
  show doCode D E (ev D E I n) ⟨fn, none⟩ (.rangeFunc f params assign body) A h = _
  simp only [doCode, hf, hn, hc, hb, hp]
 | some c =>
  rw [hp] at w
  obtain ⟨m, ex, A', h', c1, q⟩ := w
  have hm := ev_mono (D := D) (E := E) I (Nat.le_max_left n m)
  have c1' := (ev_mono I (Nat.le_max_right n m)).code c1
  refine ⟨max n m + 1, ex, A', h', ?_, q⟩
  show doCode D E (ev D E I (max n m)) ⟨fn, none⟩ (.rangeFunc f params assign body) A h = _
  simp only [doCode, hf, hn, acall_mono hm hc, hb, hp]
  first
   | exact c1'
   |
    split
    ·next hs => exact absurd hs hr
    ·exact c1'
end
structure Keep (M : Nat → Prop) (h g : H) : Prop where
 blk : ∀ k B, ¬ M k → h.blk k = some B → g.blk k = some B
 next : h.next ≤ g.next
theorem Keep.refl (M : Nat → Prop) (h : H) : Keep M h h := ⟨fun _ _ _ hb => hb, Nat.le_refl _⟩
theorem Keep.trans {M : Nat → Prop} {h g f : H} (a : Keep M h g) (b : Keep M g f) : Keep M h f := ⟨fun k B hk hb => b.blk k B hk (a.blk k B hk hb), Nat.le_trans a.next b.next⟩
theorem Ahd.keep {M : Nat → Prop} {h g : H} (a : Ahd h g) : Keep M h g := ⟨fun k B _ hb => a.grows k B hb, a.next⟩
/-! ### Visits -/
section
variable {σ : Type} (step : Int → Item → σ → σ × Bool)
mutual
def visit : Int → Item → σ → σ × Bool
 | lv, .mk k n t ks, s => if (step lv (.mk k n t ks) s).2 = false then ((step lv (.mk k n t ks) s).1, false) else visitL (lv + 1) ks (step lv (.mk k n t ks) s).1
def visitL : Int → List Item → σ → σ × Bool
 | _, [], s => (s, true)
 | lv, x :: xs, s => if (visit lv x s).2 = false then ((visit lv x s).1, false) else visitL lv xs (visit lv x s).1
end
variable {step : Int → Item → σ → σ × Bool}
theorem visit_false {lv k n : Int} {tx : ByteArray} {ks : List Item} {s s1 : σ} (h : step lv (.mk k n tx ks) s = (s1, false)) : visit step lv (.mk k n tx ks) s = (s1, false) := by rw [visit]; simp only [h, if_true]
theorem visit_true {lv k n : Int} {tx : ByteArray} {ks : List Item} {s s1 : σ} (h : step lv (.mk k n tx ks) s = (s1, true)) : visit step lv (.mk k n tx ks) s = visitL step (lv + 1) ks s1 := by
 rw [visit]; simp only [h]; rw [if_neg (by simp)]
theorem visitL_false {lv : Int} {x : Item} {xs : List Item} {s s1 : σ} (h : visit step lv x s = (s1, false)) : visitL step lv (x :: xs) s = (s1, false) := by rw [visitL]; simp only [h, if_true]
theorem visitL_true {lv : Int} {x : Item} {xs : List Item} {s s1 : σ} (h : visit step lv x s = (s1, true)) : visitL step lv (x :: xs) s = visitL step lv xs s1 := by
 rw [visitL]; simp only [h]; rw [if_neg (by simp)]
end
def stepC : Int → Item → Int × Int → (Int × Int) × Bool
 | lv, .mk k n tx _, (c, e) => if lv > 250 then ((c, 11), false) else if c = 5000 then ((c, 2), false) else if k < 1 ∨ k > 63 ∨ n < 0 ∨ n > 1099511627776 then ((c, 3), false) else if (tx.data.toList.length : Int) > 4096 then ((c, 11), false) else ((c + 1, e), true)
def afterC (r : Int × Int) : (Int × Int) × Bool := if r.2 = 0 then ((r.1, 0), true) else ((r.1, r.2), false)
mutual
theorem visitC : ∀ (t : Item) (lv c : Int), 0 ≤ c → c ≤ 5000 → visit stepC lv t (c, 0) = afterC (chkI t c lv)
 | .mk k n tx ks, lv, c, h1, h2 => by
  rw [visit, chkI]
  by_cases a : lv > 250
  ·simp only [stepC, if_pos a, afterC]; rfl
  ·by_cases b : c = 5000
   ·simp only [stepC, if_neg a, if_pos b, if_pos (show c ≥ 5000 by omega), afterC]; rfl
   ·by_cases d : k < 1 ∨ k > 63 ∨ n < 0 ∨ n > 1099511627776
    ·simp only [stepC, if_neg a, if_neg b, if_neg (show ¬ (c ≥ 5000) by omega), if_pos d, afterC]; rfl
    ·by_cases e : (tx.data.toList.length : Int) > 4096
     ·simp only [stepC, if_neg a, if_neg b, if_neg (show ¬ (c ≥ 5000) by omega), if_neg d, if_pos e, afterC]; rfl
     ·simp only [stepC, if_neg a, if_neg b, if_neg (show ¬ (c ≥ 5000) by omega), if_neg d, if_neg e]
      exact visitCL ks (lv + 1) (c + 1) (by omega) (by omega)
theorem visitCL : ∀ (ks : List Item) (lv c : Int), 0 ≤ c → c ≤ 5000 → visitL stepC lv ks (c, 0) = afterC (chkL ks c lv)
 | [], lv, c, h1, h2 => by rw [visitL, chkL]; rfl
 | x :: xs, lv, c, h1, h2 => by
  have hb := chkI_bound x c lv h1 h2
  have hv := visitC x lv c h1 h2
  rw [chkL]
  by_cases a : (chkI x c lv).2 = 0
  ·rw [if_neg (fun h => h a)]
   rw [afterC, if_pos a] at hv
   rw [visitL_true hv]
   exact visitCL xs lv _ hb.1 hb.2
  ·rw [if_pos a]
   rw [afterC, if_neg a] at hv
   rw [visitL_false hv, afterC, if_neg a]
end
theorem lvlL_max : ∀ (ks : List Item) (a : Int), 0 ≤ a → lvlL ks a = max a (lvlL ks 0)
 | [], a, ha => by simp only [lvlL]; omega
 | y :: ys, a, ha => by
  have hy := lvlI_bound y
  have e0 : lvlL (y :: ys) 0 = lvlL ys (lvlI y) := by rw [lvlL, if_pos (by omega)]
  rw [e0, lvlL, lvlL_max ys (lvlI y) (by omega)]
  by_cases q : lvlI y > a
  ·rw [if_pos q, lvlL_max ys (lvlI y) (by omega)]; omega
  ·rw [if_neg q, lvlL_max ys a ha]; omega
end Go.Hs
/- Functions with a loop over a function: their end; blocks that are written. -/
namespace Go.Hs
section
variable {D : Tab} {E : Env}
theorem take_one {h : H} {d : Nat} (hb : h.blk d = some (.defd false)) (hm : h.mark ≤ d) : takeAll [d] h = some (h.setb d (.defd true)) := by
 simp only [takeAll, hb, turn_above hm]
theorem done_cellD {fn : Func} {A : Ac} {h : H} {t : Tmp} {ty : TypeId} {v : Value} {a : Addr} {d : Nat} {ex : Ex} {Q : Value → H → Prop} (hex : ex = .normal ∨ ex = .ret) (hd : A.defers = [d]) (hb : h.blk d = some (.defd false)) (hm : h.mark ≤ d) (hr : fn.results = #[.cell t ty]) (hv : A.get t = .pointer (some a)) (hl : aload D E ty a (h.setb d (.defd true)) = some v) (hq : Q v (h.setb d (.defd true))) :
  (ex = .normal ∨ ex = .ret) ∧ ∃ h2 v', takeAll A.defers h = some h2 ∧ ares D E fn A h2 = some v' ∧ Q v' h2 := by
 refine ⟨hex, _, v, by rw [hd]; exact take_one hb hm, ?_, hq⟩
 unfold ares
 rw [hr]
 simp only [aresL, ares1, hv, hl]
end
theorem done_unit {D : Tab} {E : Env} {fn : Func} {A : Ac} {h : H} {ex : Ex} {Q : Value → H → Prop} (hex : ex = .normal ∨ ex = .ret) (hd : A.defers = []) (hr : fn.results = #[]) (hq : Q (.tuple #[]) h) :
  (ex = .normal ∨ ex = .ret) ∧ ∃ h2 v', takeAll A.defers h = some h2 ∧ ares D E fn A h2 = some v' ∧ Q v' h2 := by
 refine ⟨hex, h, .tuple #[], ?_, ?_, hq⟩
 ·rw [hd]; rfl
 ·unfold ares
  rw [hr]
  simp only [aresL]
def firstRange : Code → Option (Code × Code)
 | .seq a b => match firstRange a with
  | some c => some c
  | none => firstRange b
 | .cond _ a b => match firstRange a with
  | some c => some c
  | none => firstRange b
 | .block _ c => firstRange c
 | .scope c => firstRange c
 | .rangeFunc _ _ a b => some (a, b)
 | _ => none
def rangeOf (f : Func) : Code × Code := match f.body with
 | some c => (firstRange c).getD (.skip, .skip)
 | none => (.skip, .skip)
theorem Keep.setb {M : Nat → Prop} {h g : H} (s : Keep M h g) {k : Nat} {B : Blk} (hk : M k) : Keep M h (g.setb k B) :=
 ⟨fun j B' hj hb => by
  rw [setb_ne (by intro e; subst e; exact hj hk)]
  exact s.blk j B' hj hb, s.next⟩
theorem Keep.ahd {M : Nat → Prop} {h g f : H} (s : Keep M h g) (t : Ahd g f) : Keep M h f := s.trans t.keep
/-! ### Items that are not too great -/
end Go.Hs
/- Regions whose order is open, one operation after the other. -/
namespace Go.Hs
section
variable {D : Tab} {E : Env} {v : Ev} {ops : Array Oper}
def FQ (D : Tab) (E : Env) (v : Ev) (ops : Array Oper) (j : Nat) (l : List Oper) (A : Ac) (h : H) (Q : Ac → H → List Tch → Prop) : Prop := ∃ A' h' ts, runFree D E v ops j l A h = some (A', h', ts) ∧ Q A' h' ts
theorem FQ.nil {j : Nat} {A : Ac} {h : H} {Q : Ac → H → List Tch → Prop} (hq : Q A h []) : FQ D E v ops j [] A h Q := ⟨A, h, [], rfl, hq⟩
theorem FQ.step {j : Nat} {o : Oper} {rest : List Oper} {A : Ac} {h h1 : H} {x : Value} {Q : Ac → H → List Tch → Prop} (hw : awant ops A o = true) (hm : mayJoin o.op = false) (ho : oper1 D E v A o (fresh h) = some (x, h1))
  (r : FQ D E v ops (j + 1) rest (A.put o.dst x) (back h h1) (fun A' h' ts => Q A' h' (⟨reads D A o, h1.log, h.next, h1.next, rootedStore A h o.op⟩ :: ts))) : FQ D E v ops j (o :: rest) A h Q := by
 obtain ⟨A', h', ts, h2, hq⟩ := r
 refine ⟨A', h', _, ?_, hq⟩
 have ho' : oper1 D E v A o { h with mark := h.next, log := [] } = some (x, h1) := ho
 simp only [runFree, hw, ho', hm, Bool.not_false, Bool.true_or]
 have h2' : runFree D E v ops (j + 1) rest (A.put o.dst x) ({ h1 with mark := h.mark, log := h.log }.note h1.log) = some (A', h', ts) := h2
 rw [h2']
theorem FQ.pure {j : Nat} {o : Oper} {rest : List Oper} {A : Ac} {h : H} {x : Value} {Q : Ac → H → List Tch → Prop} (hg : o.guard = none) (hm : mayJoin o.op = false) (ho : oper1 D E v A o (fresh h) = some (x, fresh h))
  (r : FQ D E v ops (j + 1) rest (A.put o.dst x) h (fun A' h' ts => Q A' h' (⟨reads D A o, [], h.next, h.next, rootedStore A h o.op⟩ :: ts))) : FQ D E v ops j (o :: rest) A h Q :=
 FQ.step (awant_none hg) hm ho (by rw [back_fresh]; exact r)
theorem FQ.new {j : Nat} {o : Oper} {rest : List Oper} {A : Ac} {h : H} {x : Value} {B : Blk} {Q : Ac → H → List Tch → Prop} (hg : o.guard = none) (hm : mayJoin o.op = false) (ho : oper1 D E v A o (fresh h) = some (x, (fresh h).new B))
  (r : FQ D E v ops (j + 1) rest (A.put o.dst x) (h.new B) (fun A' h' ts => Q A' h' (⟨reads D A o, [], h.next, h.next + 1, rootedStore A h o.op⟩ :: ts))) : FQ D E v ops j (o :: rest) A h Q := by
 refine FQ.step (awant_none hg) hm ho ?_
 have e : back h ((fresh h).new B) = h.new B := note_nil (h.new B)
 rw [e]; exact r
theorem Ahd.back {h h1 : H} (f : Fit h) (a : Ahd (fresh h) h1) : Ahd h (back h h1) ∧ (∀ k, (Hs.back h h1).blk k = h1.blk k) ∧ (Hs.back h h1).next = h1.next ∧ ∀ p, Grows (only p h1) (only p (Hs.back h h1)) := by
 have hl : h1.log = [] := a.log
 have e : Hs.back h h1 = { h1 with mark := h.mark, log := h.log } := by
  show ({ h1 with mark := h.mark, log := h.log } : H).note h1.log = _
  rw [hl]; exact note_nil _
 rw [e]
 have hb : ∀ k, ({ h1 with mark := h.mark, log := h.log } : H).blk k = h1.blk k := fun k => rfl
 have hf : Fit ({ h1 with mark := h.mark, log := h.log } : H) := ⟨a.fit.free, a.fit.ok.1, Nat.le_trans f.ok.2 a.next⟩
 refine ⟨⟨hf, fun k B hk => a.grows k B hk, rfl, rfl, a.next, a.chain⟩, hb, rfl, fun p => only_mono a.fit hf (fun _ _ h _ => h) (fun _ h => h)⟩
theorem FQ.call {j : Nat} {o : Oper} {rest : List Oper} {A : Ac} {h h1 : H} {x : Value} {Q : Ac → H → List Tch → Prop} (hg : o.guard = none) (hm : mayJoin o.op = false) (ho : oper1 D E v A o (fresh h) = some (x, h1)) (hl : h1.log = [])
  (r : FQ D E v ops (j + 1) rest (A.put o.dst x) (back h h1) (fun A' h' ts => Q A' h' (⟨reads D A o, [], h.next, h1.next, rootedStore A h o.op⟩ :: ts))) : FQ D E v ops j (o :: rest) A h Q :=
 FQ.step (awant_none hg) hm ho (by rw [hl]; exact r)
def calm (t : Tch) : Bool := t.writes.isEmpty && !t.rooted
def FC (D : Tab) (E : Env) (v : Ev) (ops : Array Oper) (j : Nat) (l : List Oper) (A : Ac) (h : H) (Q : Ac → H → Prop) : Prop := FQ D E v ops j l A h (fun A' h' ts => ts.all calm = true ∧ Q A' h')
theorem FQ.mono {j : Nat} {l : List Oper} {A : Ac} {h : H} {Q Q' : Ac → H → List Tch → Prop} (r : FQ D E v ops j l A h Q) (hq : ∀ A h ts, Q A h ts → Q' A h ts) : FQ D E v ops j l A h Q' := by
 obtain ⟨A', h', ts, h1, h2⟩ := r
 exact ⟨A', h', ts, h1, hq _ _ _ h2⟩
theorem rooted_not {A : Ac} {h : H} {op : Op} (hs : isStore op = false) : rootedStore A h op = false := by
 cases op <;> first | rfl | cases hs
theorem FC.nil {j : Nat} {A : Ac} {h : H} {Q : Ac → H → Prop} (hq : Q A h) : FC D E v ops j [] A h Q := FQ.nil ⟨rfl, hq⟩
theorem calm_cons {r : Option (List Nat)} {lo hi : Nat} {A : Ac} {h : H} {op : Op} (hs : isStore op = false) {ts : List Tch} (ht : ts.all calm = true) : (⟨r, [], lo, hi, rootedStore A h op⟩ :: ts : List Tch).all calm = true := by
 rw [List.all_cons, ht, rooted_not hs]; rfl
theorem FC.pure {j : Nat} {o : Oper} {rest : List Oper} {A : Ac} {h : H} {x : Value} {Q : Ac → H → Prop} (hg : o.guard = none) (hm : (mayJoin o.op || isStore o.op) = false) (ho : oper1 D E v A o (fresh h) = some (x, fresh h)) (r : FC D E v ops (j + 1) rest (A.put o.dst x) h Q) : FC D E v ops j (o :: rest) A h Q := by
 rw [Bool.or_eq_false_iff] at hm
 exact FQ.pure hg hm.1 ho (r.mono fun _ _ _ ⟨a, b⟩ => ⟨calm_cons hm.2 a, b⟩)
theorem FC.new {j : Nat} {o : Oper} {rest : List Oper} {A : Ac} {h : H} {x : Value} {B : Blk} {Q : Ac → H → Prop} (hg : o.guard = none) (hm : (mayJoin o.op || isStore o.op) = false) (ho : oper1 D E v A o (fresh h) = some (x, (fresh h).new B)) (r : FC D E v ops (j + 1) rest (A.put o.dst x) (h.new B) Q) : FC D E v ops j (o :: rest) A h Q := by
 rw [Bool.or_eq_false_iff] at hm
 exact FQ.new hg hm.1 ho (r.mono fun _ _ _ ⟨a, b⟩ => ⟨calm_cons hm.2 a, b⟩)
theorem Wc.drawC {I : Known} {F : Fx} {id : Nat} {l : List Oper} {A : Ac} {h : H} {Q : Ex → Ac → H → Prop} (n : Nat) (hd : drawOk l.toArray = true) (r : FC D E (ev D E I n) l.toArray 0 l A h (Q .normal)) : Wc D E I F (.region id l.toArray true) A h Q := by
 obtain ⟨A', h', ts, h1, h2, hq⟩ := r
 refine ⟨n + 1, .normal, A', h', ?_, hq⟩
 show doCode D E (ev D E I n) F (.region id l.toArray true) A h = _
 simp only [doCode, runRegion, hd, h1, allMeet_quiet h2]; rfl
theorem Wc.drawQ {I : Known} {F : Fx} {id : Nat} {l : List Oper} {A : Ac} {h : H} {Q : Ex → Ac → H → Prop} (n : Nat) (hd : drawOk l.toArray = true) (r : FQ D E (ev D E I n) l.toArray 0 l A h (fun A' h' ts => allMeet (Region.before l.toArray) ts = true ∧ Q .normal A' h')) : Wc D E I F (.region id l.toArray true) A h Q := by
 obtain ⟨A', h', ts, h1, h2, hq⟩ := r
 refine ⟨n + 1, .normal, A', h', ?_, hq⟩
 show doCode D E (ev D E I n) F (.region id l.toArray true) A h = _
 simp only [doCode, runRegion, hd, h1, h2]; rfl
end
/-! ### Some functions are reckoned -/
/-! ### Kids -/
def repK (E : Env) (h : H) (ks : List Item) (sl : Value) : Prop := rep E h (.mk 0 0 ⟨#[]⟩ ks) (.agg ⟨[.int .i64 0, .int .i64 0, .string ⟨#[]⟩, sl]⟩)
theorem repK_of {E : Env} {h : H} {k m : Int} {tx : ByteArray} {ks : List Item} {a b c sl : Value} (hr : rep E h (.mk k m tx ks) (.agg ⟨[a, b, c, sl]⟩)) : repK E h ks sl := by
 rw [rep] at hr
 obtain ⟨s, he, hs⟩ := hr
 cases he
 unfold repK
 rw [rep]
 exact ⟨_, rfl, hs⟩
theorem repK_one {E : Env} {h : H} {ks ks' : List Item} {sl : Value} (h1 : repK E h ks sl) (h2 : repK E h ks' sl) : ks = ks' := by
 have := rep_one h1 h2
 simp only [Item.mk.injEq] at this
 exact this.2.2.2
theorem repK_grow {E : Env} {h h' : H} (g : Grows h h') {ks : List Item} {sl : Value} (h1 : repK E h ks sl) : repK E h' ks sl := rep_grow g h1
theorem repK_slice {E : Env} {h : H} {ks : List Item} {sl : Value} (hr : repK E h ks sl) : ∃ b c, sl = .slice b ks.length c ∧ ks.length < 9223372036854775808 ∧ (ks = [] ∨ ∃ a cs, b = some a ∧ h.cells E a (ks.length * 4) = some cs ∧ repL E h ks cs) := by
 obtain ⟨b, c, he, hs⟩ := rep_slice hr
 simp only [Value.agg.injEq, Array.mk.injEq, List.cons.injEq, and_true, true_and] at he
 refine ⟨b, c, he, ?_, ?_⟩
 ·rcases hs with rfl | ⟨a, cs, _, h1, _⟩
  ·decide
  ·exact h1
 ·rcases hs with h | ⟨a, cs, h1, _, h2, h3⟩
  ·exact .inl h
  ·exact .inr ⟨a, cs, h1, h2, h3⟩
def chkAll : List Item → Int
 | [] => 0
 | x :: xs => if (chkI x 0 1).2 ≠ 0 then (chkI x 0 1).2 else chkAll xs
end Go.Hs
/- Blocks of before that are written, whatever is told of it; regions in which that happens. -/
namespace Go.Hs
def H.setl (h : H) (k : Nat) (B : Blk) : H := (h.setb k B).note [k]
theorem setl_blk (h : H) (k : Nat) (B : Blk) (j : Nat) : (h.setl k B).blk j = (h.setb k B).blk j := H.note_blk _ _ _
theorem setl_dyn (h : H) (k : Nat) (B : Blk) : (h.setl k B).dyn = h.dyn.set k B := H.note_dyn _ _
theorem setl_next (h : H) (k : Nat) (B : Blk) : (h.setl k B).next = h.next := H.note_next _ _
theorem note_mark (h : H) (ks : List Nat) : (h.note ks).mark = h.mark := by unfold H.note; split <;> rfl
theorem note_chains (h : H) (ks : List Nat) : (h.note ks).chains = h.chains := by unfold H.note; split <;> rfl
theorem setl_mark (h : H) (k : Nat) (B : Blk) : (h.setl k B).mark = h.mark := note_mark _ _
theorem setl_chain (h : H) (k : Nat) (B : Blk) (r : Nat) : (h.setl k B).chain r = h.chain r := by
 unfold H.chain
 show (((h.setb k B).note [k]).chains.get r).getD [] = _
 rw [note_chains]; rfl
theorem setl_same {h : H} {k : Nat} {B : Blk} (hB : B.plain = true) : (h.setl k B).blk k = some B := by rw [setl_blk]; exact setb_same hB
theorem setl_ne {h : H} {k j : Nat} {B : Blk} (hk : j ≠ k) : (h.setl k B).blk j = h.blk j := by rw [setl_blk]; exact setb_ne hk
theorem note_log {h : H} {ks : List Nat} {j : Nat} (hj : j ∈ (h.note ks).log) : j ∈ h.log ∨ (j ∈ ks ∧ j < h.mark) := by
 unfold H.note at hj
 split at hj
 ·exact .inl hj
 ·next m hm =>
  rcases List.mem_append.1 hj with hj | hj
  ·obtain ⟨h1, h2⟩ := List.mem_filter.1 hj
   rw [Nat.ble_eq] at h2
   exact .inr ⟨h1, by omega⟩
  ·exact .inl hj
theorem setl_log {h : H} {k : Nat} {B : Blk} {j : Nat} (hj : j ∈ (h.setl k B).log) : j ∈ h.log ∨ (j = k ∧ j < h.mark) := by
 rcases note_log hj with h1 | ⟨h1, h2⟩
 ·exact .inl h1
 ·exact .inr ⟨by simpa using h1, h2⟩
theorem Fit.setl {h : H} (f : Fit h) {k : Nat} {B : Blk} (hB : B.plain = true) (hk : k < h.next) : Fit (h.setl k B) := by
 have g := f.setb hB hk
 refine ⟨fun j hj => ?_, ⟨fun j xs ty r p hd => ?_, ?_⟩⟩
 ·rw [setl_next] at hj
  rw [setl_dyn]
  exact g.free j hj
 ·rw [setl_dyn] at hd
  rw [setl_next]
  exact g.ok.1 _ _ _ _ _ hd
 ·rw [setl_mark, setl_next]; exact f.ok.2
structure Mod (M : Nat → Prop) (h g : H) : Prop where
 fit : Fit g
 blk : ∀ k B, ¬ M k → h.blk k = some B → g.blk k = some B
 mark : g.mark = h.mark
 next : h.next ≤ g.next
 chain : ∀ r, r < h.next → g.chain r = h.chain r
 log : ∀ j, j ∈ g.log → j ∈ h.log ∨ (M j ∧ j < h.mark)
theorem Mod.refl {M : Nat → Prop} {h : H} (f : Fit h) : Mod M h h := ⟨f, fun _ _ _ h => h, rfl, Nat.le_refl _, fun _ _ => rfl, fun _ h => .inl h⟩
theorem Mod.trans {M : Nat → Prop} {h g f : H} (s : Mod M h g) (t : Mod M g f) : Mod M h f :=
 ⟨t.fit, fun k B hk hb => t.blk k B hk (s.blk k B hk hb), t.mark.trans s.mark, Nat.le_trans s.next t.next, fun r hr => (t.chain r (Nat.lt_of_lt_of_le hr s.next)).trans (s.chain r hr), fun j hj => by
  rcases t.log j hj with h1 | ⟨h1, h2⟩
  ·exact s.log j h1
  ·exact .inr ⟨h1, by rw [← s.mark]; exact h2⟩⟩
theorem Ahd.mod {M : Nat → Prop} {h g : H} (a : Ahd h g) : Mod M h g := ⟨a.fit, fun k B _ hb => a.grows k B hb, a.mark, a.next, a.chain, fun j hj => .inl (by rw [← a.log]; exact hj)⟩
theorem Mod.ahd {M : Nat → Prop} {h g f : H} (s : Mod M h g) (t : Ahd g f) : Mod M h f := s.trans t.mod
theorem Mod.sub {M N : Nat → Prop} {h g : H} (s : Mod M h g) (hMN : ∀ k, M k → N k) : Mod N h g :=
 ⟨s.fit, fun k B hk hb => s.blk k B (fun hm => hk (hMN k hm)) hb, s.mark, s.next, s.chain, fun j hj => (s.log j hj).imp id (fun h => ⟨hMN j h.1, h.2⟩)⟩
theorem Mod.setl {M : Nat → Prop} {h g : H} (s : Mod M h g) {k : Nat} {B : Blk} (hB : B.plain = true) (hk : M k) (hg : k < g.next) : Mod M h (g.setl k B) :=
 ⟨s.fit.setl hB hg, fun j B' hj hb => by
  rw [setl_ne (by intro e; subst e; exact hj hk)]; exact s.blk j B' hj hb, (setl_mark _ _ _).trans s.mark, by rw [setl_next]; exact s.next, fun r hr => (setl_chain _ _ _ _).trans (s.chain r hr), fun j hj => by
  rcases setl_log hj with h1 | ⟨rfl, h2⟩
  ·exact s.log j h1
  ·exact .inr ⟨hk, by rw [← s.mark]; exact h2⟩⟩
theorem Mod.low {M N : Nat → Prop} {h g : H} (f : Fit h) (s : Mod N h g) (hN : ∀ k, N k → M k ∨ h.next ≤ k) : Mod M h g :=
 ⟨s.fit, fun k B hk hb => s.blk k B (fun hn => by
  rcases hN k hn with h1 | h1
  ·exact hk h1
  ·have := f.lt hb; omega) hb, s.mark, s.next, s.chain, fun j hj => by
  rcases s.log j hj with h1 | ⟨h1, h2⟩
  ·exact .inl h1
  ·rcases hN j h1 with h3 | h3
   ·exact .inr ⟨h3, h2⟩
   ·have := f.ok.2; omega⟩
theorem put_setl {h : H} {k o : Nat} {vs xs : List Value} {ty : TypeId} (hb : h.blk k = some (.cells xs ty none)) (hv : vs ≠ []) (hl : o + vs.length ≤ xs.length) (h1 : vs.all isOne = true) :
  h.put (aadd (own k) o) vs = some (h.setl k (.cells (xs.take o ++ vs ++ xs.drop (o + vs.length)) ty none)) := by
 unfold H.put
 cases vs with
 | nil => exact absurd rfl hv
 | cons v vs =>
  simp only [aadd, own, Nat.zero_add, hb]
  rw [h1, show Nat.ble (o + (v :: vs).length) xs.length = true from by rw [Nat.ble_eq]; exact hl]
  simp only [Bool.and_self]
  rfl
theorem put_own_setl {h : H} {k : Nat} {vs xs : List Value} {ty : TypeId} (hb : h.blk k = some (.cells xs ty none)) (hv : vs ≠ []) (hl : vs.length = xs.length) (h1 : vs.all isOne = true) :
  h.put (own k) vs = some (h.setl k (.cells vs ty none)) := by
 have := put_setl (o := 0) hb hv (by omega) h1
 rw [show aadd (own k) 0 = own k from rfl, List.take_zero, List.nil_append, List.drop_of_length_le (by omega), List.append_nil] at this
 exact this
theorem fresh_setl {h : H} {k : Nat} {B : Blk} (hk : k < h.next) : ((fresh h).setl k B).log = [k] ∧ back h ((fresh h).setl k B) = h.setl k B := by
 have hd : ∃ m, h.next = m + 1 ∧ k ≤ m := by cases hn : h.next with | zero => omega | succ m => exact ⟨m, rfl, by omega⟩
 obtain ⟨m, hm1, hm2⟩ := hd
 have hble : Nat.ble k m = true := by rw [Nat.ble_eq]; exact hm2
 have e : (fresh h).setl k B = { h with dyn := h.dyn.set k B, mark := h.next, log := [k] } := by
  unfold H.setl H.note
  have : ((fresh h).setb k B).mark = m + 1 := hm1
  rw [this]
  simp only [List.filter_cons, hble, if_true, List.filter_nil]
  rw [← hm1]
  rfl
 rw [e]
 exact ⟨rfl, rfl⟩
theorem Mod.back {M : Nat → Prop} {h h1 : H} (f : Fit h) (a : Mod M (fresh h) h1) : Mod M h (Hs.back h h1) ∧ (∀ k, (Hs.back h h1).blk k = h1.blk k) ∧ (Hs.back h h1).next = h1.next ∧ ∀ j, j ∈ h1.log → M j ∧ j < h.next := by
 have hb := back_blk h h1
 have hn := back_next h h1
 have hl : ∀ j, j ∈ h1.log → M j ∧ j < h.next := fun j hj => by
  rcases a.log j hj with h2 | h2
  ·cases h2
  ·exact h2
 refine ⟨⟨⟨fun k hk => ?_, ⟨fun k xs ty r p hd => ?_, ?_⟩⟩, fun k B hk hB => by rw [hb]; exact a.blk k B hk hB, ?_, by rw [hn]; exact a.next, fun r hr => ?_, fun j hj => ?_⟩, hb, hn, hl⟩
 ·rw [hn] at hk
  rw [back_dyn]; exact a.fit.free k hk
 ·rw [back_dyn] at hd
  rw [hn]; exact a.fit.ok.1 _ _ _ _ _ hd
 ·unfold Hs.back
  rw [note_mark, H.note_next]
  exact Nat.le_trans f.ok.2 a.next
 ·unfold Hs.back
  rw [note_mark]
 ·unfold Hs.back H.chain
  rw [note_chains]
  exact a.chain r hr
 ·rcases note_log hj with h2 | ⟨h2, h3⟩
  ·exact .inl h2
  ·exact .inr ⟨(hl j h2).1, h3⟩
theorem allMeet_by {b : Array Nat} {ts : List Tch} (S : List Nat) (hc : ∀ i e, ts[i]? = some e → S.contains i = false → calm e = true) (hS : ∀ i j s t, i < j → (S.contains i = true ∨ S.contains j = true) → ts[i]? = some s → ts[j]? = some t → ordered b i j = false → meets s t = true) : allMeet b ts = true := by
 unfold allMeet
 simp only [List.all_eq_true]
 rintro ⟨x, i⟩ hx ⟨y, j⟩ hy
 have hx := List.mem_zipIdx_iff_getElem?.1 hx
 have hy := List.mem_zipIdx_iff_getElem?.1 hy
 simp only at hx hy ⊢
 by_cases hij : i < j
 rotate_left
 ·have : Nat.blt i j = false := by
   cases q : Nat.blt i j
   ·rfl
   ·rw [Nat.blt_eq] at q; omega
  rw [this]; rfl
 cases ho : ordered b i j with
 | true => simp
 | false =>
  by_cases h1 : S.contains i = true
  ·rw [hS i j x y hij (.inl h1) hx hy ho]; simp
  ·by_cases h2 : S.contains j = true
   ·rw [hS i j x y hij (.inr h2) hx hy ho]; simp
   ·have c1 := hc i x hx (by simpa using h1)
    have c2 := hc j y hy (by simpa using h2)
    simp only [calm, Bool.and_eq_true, Bool.not_eq_true', List.isEmpty_iff] at c1 c2
    have : meets x y = true := by
     unfold meets
     rw [c1.1, c2.1, c1.2, c2.2]
     simp [apart?]
    rw [this, Bool.or_true]
theorem pairs_of {b : Array Nat} {S : List Nat} {n : Nat} {U : List (Nat × Nat)} (h : ((List.range n).all fun i => (List.range n).all fun j => !(Nat.blt i j) || !(S.contains i || S.contains j) || ordered b i j || U.contains (i, j)) = true) {i j : Nat} (hij : i < j) (hj : j < n) (hs : S.contains i = true ∨ S.contains j = true) (ho : ordered b i j = false) : (i, j) ∈ U := by
 rw [List.all_eq_true] at h
 have h1 := h i (List.mem_range.2 (by omega))
 rw [List.all_eq_true] at h1
 have h2 := h1 j (List.mem_range.2 hj)
 have e1 : Nat.blt i j = true := by rw [Nat.blt_eq]; exact hij
 have e2 : (S.contains i || S.contains j) = true := by rcases hs with h | h <;> rw [h] <;> simp
 rw [e1, e2, ho] at h2
 simpa using h2
theorem allMeet_last {b : Array Nat} {l : List Tch} {s : Tch} (hc : l.all calm = true) (h : ((List.range l.length).all fun i => ordered b i l.length) = true) : allMeet b (l ++ [s]) = true := by
 refine allMeet_by [l.length] (fun i e hi hs => ?_) (fun i j s' t hij hs h1 h2 ho => ?_)
 ·have hil : i < l.length := by
   have h1 := (List.getElem?_eq_some_iff.1 hi).1
   rw [List.length_append] at h1
   have h2 : i ≠ l.length := by
    intro e
    subst e
    simp at hs
   simp at h1
   omega
  rw [List.getElem?_append_left hil] at hi
  rw [List.all_eq_true] at hc
  exact hc e (List.mem_of_getElem? hi)
 ·have hj : j < l.length + 1 := by
   have := (List.getElem?_eq_some_iff.1 h2).1
   simpa using this
  have hjl : j = l.length := by
   rcases hs with hs | hs
   ·have : i = l.length := by simpa using hs
    omega
   ·simpa using hs
  subst hjl
  rw [List.all_eq_true] at h
  rw [h i (List.mem_range.2 hij)] at ho
  cases ho
theorem meets_left {s t : Tch} {l : List Nat} (ht : t.writes = []) (hr : t.reads = some l) (hd : ∀ k, k ∈ s.writes → k ∉ l) (hn : t.rooted = false) : meets s t = true := by
 unfold meets
 rw [ht, hr, hn]
 have h1 : apart? s.writes (some l) = true := by
  cases hw : s.writes with
  | nil => rfl
  | cons w ws =>
   simp only [apart?, List.all_eq_true]
   intro k hk
   rw [Bool.not_eq_true', List.any_eq_false]
   intro j hj hjk
   obtain rfl := Nat.eq_of_beq_eq_true hjk
   exact hd k (by rw [hw]; exact hk) hj
 have h2 : apart? s.writes (some []) = true := by cases hw : s.writes <;> simp [apart?]
 rw [h1, h2]
 simp [apart?]
theorem meets_right {s t : Tch} {l : List Nat} (hs : s.writes = []) (hr : s.reads = some l) (hd : ∀ k, k ∈ t.writes → k ∉ l) (hn : s.rooted = false) (hb : ∀ k, k ∈ t.writes → k < s.lo ∨ s.hi ≤ k) : meets s t = true := by
 unfold meets
 rw [hs, hr, hn]
 have h1 : apart? t.writes (some l) = true := by
  cases hw : t.writes with
  | nil => rfl
  | cons w ws =>
   simp only [apart?, List.all_eq_true]
   intro k hk
   rw [Bool.not_eq_true', List.any_eq_false]
   intro j hj hjk
   obtain rfl := Nat.eq_of_beq_eq_true hjk
   exact hd k (by rw [hw]; exact hk) hj
 have h3 : (t.writes.all fun k => Nat.blt k s.lo || Nat.ble s.hi k) = true := by
  rw [List.all_eq_true]
  intro k hk
  rcases hb k hk with h | h
  ·rw [show Nat.blt k s.lo = true from by rw [Nat.blt_eq]; exact h]; rfl
  ·rw [show Nat.ble s.hi k = true from by rw [Nat.ble_eq]; exact h, Bool.or_true]
 rw [h1, h3]
 simp [apart?]
section
variable {D : Tab} {E : Env} {v : Ev} {ops : Array Oper}
theorem FQ.setl {j : Nat} {o : Oper} {rest : List Oper} {A : Ac} {h : H} {k : Nat} {B : Blk} {x : Value} {Q : Ac → H → List Tch → Prop} (hg : o.guard = none) (hm : mayJoin o.op = false) (hk : k < h.next) (ho : oper1 D E v A o (fresh h) = some (x, (fresh h).setl k B))
  (r : FQ D E v ops (j + 1) rest (A.put o.dst x) (h.setl k B) (fun A' h' ts => Q A' h' (⟨reads D A o, [k], h.next, h.next, rootedStore A h o.op⟩ :: ts))) : FQ D E v ops j (o :: rest) A h Q := by
 obtain ⟨e1, e2⟩ := fresh_setl (h := h) (k := k) (B := B) hk
 refine FQ.step (awant_none hg) hm ho ?_
 rw [e2, e1, setl_next]
 exact r
theorem FQ.mod {j : Nat} {o : Oper} {rest : List Oper} {A : Ac} {h h1 : H} {x : Value} {Q : Ac → H → List Tch → Prop} (hg : o.guard = none) (hm : mayJoin o.op = false) (ho : oper1 D E v A o (fresh h) = some (x, h1))
  (r : FQ D E v ops (j + 1) rest (A.put o.dst x) (back h h1) (fun A' h' ts => Q A' h' (⟨reads D A o, h1.log, h.next, h1.next, rootedStore A h o.op⟩ :: ts))) : FQ D E v ops j (o :: rest) A h Q :=
 FQ.step (awant_none hg) hm ho r
end
section
variable {D : Tab} {E : Env} {I : Known}
theorem Wc.state {F : Fx} {c : Code} {A : Ac} {h : H} {Q : Ex → Ac → H → Prop} (P : Ac → H → Prop) (hP : P A h) (w : ∀ A' h', P A' h' → Wc D E I F c A' h' Q) : Wc D E I F c A h Q := w A h hP
end
end Go.Hs
/- Slices that are appended to, wherever the mark stands. -/
namespace Go.Hs
def Ap2 (h : H) (base : Nat) (e : TypeId) (sz : Nat) (s : Value) (n : Nat) (xs : List Value) (ro : Option Nat) : Prop :=
 (n = 0 ∧ xs = [] ∧ s = .slice none 0 0 ∧ ro = none) ∨
 ∃ k r, s = .slice (some (own k)) n n ∧ h.blk k = some (.cells xs e (some (r, 0))) ∧ xs.length = n * sz ∧ xs.all isOne = true ∧ base ≤ r ∧ r < h.next ∧ (∀ j ∈ h.chain r, ∃ ys ty p, h.dyn.get j = some (.cells ys ty (some (r, p))) ∧ p + ys.length ≤ n * sz) ∧ ro = some r
theorem ap2_step {D : Tab} {E : Env} {h : H} {base : Nat} {t t2 e : TypeId} {sz by_ n kx c i6 i7 : Nat} {i8 : Option Value} {i9 : Bool} {s ze : Value} {xs cs : List Value} {ro : Option Nat} (f : Fit h) (hbn : base ≤ h.next) (ap : Ap2 h base e sz s n xs ro)
  (ht : D.ty.get t = some ⟨.slice e sz by_, i6, i7, i8, i9⟩) (hz : tzero D e = some ze) (hzz : (Nat.beq ze.cells.toList.length sz && Nat.blt 0 sz && ze.cells.toList.all isOne) = true) (hzt : zeroArg D t2 (.slice (some (own kx)) 1 c) = some false)
  (hx : h.cells E (own kx) sz = some cs) (hcl : cs.length = sz) (hc1 : cs.all isOne = true) (hrm : roomy (n + 1) by_ = true) :
  ∃ s' h' ro', aappend D E t t2 s (.slice (some (own kx)) 1 c) h = some (s', h') ∧ Ap2 h' base e sz s' (n + 1) (xs ++ cs) ro' ∧ Grew base ro h h' ∧ (ro = none ∧ ro' = some h.next ∨ ro ≠ none ∧ ro' = ro) := by
 have hel : aelems E sz ze.cells.toList (.slice (some (own kx)) 1 c) h = some (1, cs) := by
  simp only [aelems, Nat.one_mul, hx]
 have hbl : Nat.beq cs.length (1 * sz) = true := by rw [Nat.one_mul, hcl]; exact Nat.beq_refl sz
 have hsz : 0 < sz := by
  simp only [Bool.and_eq_true, Nat.blt_eq] at hzz
  exact hzz.1.2
 rcases ap with ⟨rfl, rfl, rfl, rfl⟩ | ⟨k, r, rfl, hb, hl, h1, hbr, hrx, hch, rfl⟩
 ·refine ⟨.slice (some (own h.next)) 1 1, h.newOpen cs e, some h.next, ?_, .inr ⟨h.next, h.next, rfl, ?_, ?_, ?_, hbn, Nat.lt_succ_self _, ?_, rfl⟩, ⟨newOpen_fit f, fun k B hb _ => newOpen_old f hb, rfl, rfl, Nat.le_succ _, fun r hr => ?_⟩, .inl ⟨rfl, rfl⟩⟩
  ·unfold aappend
   rw [ht]
   simp only [hz, hzt, hzz, hel, hbl, hrm]
  ·exact newOpen_new
  ·rw [List.nil_append]; simp [hcl]
  ·rw [List.nil_append]; exact hc1
  ·intro j hj
   simp only [H.chain, H.newOpen, T.get_set_same, Option.getD, List.mem_singleton] at hj
   subst hj
   exact ⟨cs, e, 0, T.get_set_same _ _ _, by simp [hcl]⟩
  ·simp only [H.chain, H.newOpen]
   rw [T.get_set_ne _ _ _ _ (by omega)]
 ·have hkn := f.lt hb
  have hd := H.blk_dyn hb
  have hrn := f.ok.1 _ _ _ _ _ hd
  have hgr : h.grow e r (0 + (own k).off) (n * sz) (own k).block (xs.drop (own k).off) cs = { h with next := h.next + 1, dyn := h.dyn.set h.next (.cells (xs ++ cs) e (some (r, 0))), chains := h.chains.set r (h.next :: h.spare r k (0 + n * sz) (0 + n * sz + cs.length)) } := by
   unfold H.grow
   simp only [own, Nat.add_zero, List.drop_zero]
   have hgone : h.gone r k (0 + n * sz) (0 + n * sz + cs.length) = [] := by
    rw [List.eq_nil_iff_forall_not_mem]
    intro j hj
    obtain ⟨hj1, hj2⟩ := mem_gone.1 hj
    obtain ⟨ys, ty, p, hd, hle⟩ := hch j hj1
    unfold H.hits at hj2
    split at hj2
    ·cases hj2
    ·rw [hd] at hj2
     simp only [Bool.and_eq_true, Nat.blt_eq] at hj2
     omega
   rw [hgone]
   exact note_nil _
  generalize hg : ({ h with next := h.next + 1, dyn := h.dyn.set h.next (.cells (xs ++ cs) e (some (r, 0))), chains := h.chains.set r (h.next :: h.spare r k (0 + n * sz) (0 + n * sz + cs.length)) } : H) = g at hgr
  have hcr : g.chain r = h.next :: h.spare r k (0 + n * sz) (0 + n * sz + cs.length) := by
   rw [← hg]; simp only [H.chain, T.get_set_same, Option.getD]
  have hcn : ∀ r', r' ≠ r → g.chain r' = h.chain r' := by
   intro r' hr'
   rw [← hg]; simp only [H.chain]; rw [T.get_set_ne _ _ _ _ hr']
  have hgn : g.next = h.next + 1 := by rw [← hg]
  have hnew : g.blk h.next = some (.cells (xs ++ cs) e (some (r, 0))) := by
   have hdd : g.dyn.get h.next = some (.cells (xs ++ cs) e (some (r, 0))) := by rw [← hg]; exact T.get_set_same _ _ _
   unfold H.blk
   rw [hdd]
   simp only [hcr, List.contains_cons, beq_self_eq_true, Bool.true_or]
  have hold : ∀ j, j ≠ h.next → g.dyn.get j = h.dyn.get j := by
   intro j hj
   rw [← hg]; exact T.get_set_ne _ _ _ _ hj
  refine ⟨.slice (some (own h.next)) (n + 1) (n + 1), g, some r, ?_, .inr ⟨h.next, r, rfl, hnew, ?_, ?_, hbr, by rw [hgn]; omega, ?_, rfl⟩, ⟨⟨fun j hj => ?_, fun j ys ty r' p hd' => ?_, ?_⟩, ?_, ?_, ?_, ?_, ?_⟩, .inr ⟨by simp, rfl⟩⟩
  ·unfold aappend
   rw [ht]
   simp only [hz, hzt, hzz, hel, hbl, hrm]
   have e1 : (own k).spot = some 0 := rfl
   have e2 : (own k).block = k := rfl
   have e3 : (own k).off = 0 := rfl
   have e4 : Nat.ble (n + 1) n = false := by
    cases hq : Nat.ble (n + 1) n
    ·rfl
    ·rw [Nat.ble_eq] at hq; omega
   simp only [e1, e2, hb, e4]
   have e5 : (Nat.beq n n && Nat.beq ((own k).off + n * sz) xs.length && Nat.beq e e && (xs.drop (own k).off).all isOne && Nat.ble (own k).off xs.length) = true := by
    rw [e3, Nat.zero_add, hl, List.drop_zero, h1, Nat.beq_refl, Nat.beq_refl, Nat.beq_refl]
    simp [Nat.ble]
   simp only [e5]
   rw [← hgr]; rfl
  ·rw [List.length_append, hl, hcl]; rw [Nat.add_mul, Nat.one_mul]
  ·rw [List.all_append, h1, hc1]; rfl
  ·intro j hj
   rw [hcr] at hj
   rcases List.mem_cons.1 hj with rfl | hj
   ·exact ⟨xs ++ cs, e, 0, H.blk_dyn hnew, by rw [List.length_append, hl, hcl, Nat.add_mul, Nat.one_mul]; omega⟩
   ·obtain ⟨ys, ty, p, hd, hle⟩ := hch j (mem_spare.1 hj).1
    have hjn : j ≠ h.next := by
     intro e
     subst e
     rw [f.free _ (Nat.le_refl _)] at hd; cases hd
    refine ⟨ys, ty, p, by rw [hold j hjn]; exact hd, ?_⟩
    rw [Nat.add_mul]; omega
  ·rw [hgn] at hj
   rw [hold j (by omega)]; exact f.free j (by omega)
  ·rw [hgn]
   by_cases hj : j = h.next
   ·subst hj
    have := H.blk_dyn hnew
    rw [this] at hd'; cases hd'; omega
   ·rw [hold j hj] at hd'
    have := f.ok.1 _ _ _ _ _ hd'; omega
  ·rw [hgn]
   have := f.ok.2
   rw [← hg]; exact Nat.le_succ_of_le this
  ·intro j B hbj hro
   have hjn := f.lt hbj
   rw [← hbj]
   refine blk_congr (hold j (by omega)) (fun ys u r' q hd' => ?_)
   have : B = .cells ys u (some (r', q)) := by
    have := H.blk_dyn hbj
    rw [hd'] at this; cases this; rfl
   have hne := hro _ _ _ _ this
   rw [hcn r' (fun h => hne (by rw [h]))]
  ·rw [← hg]
  ·rw [← hg]
  ·rw [hgn]; omega
  ·intro r' hr'
   exact hcn r' (by omega)
theorem Ap2.mod {M : Nat → Prop} {h g : H} {base : Nat} {e : TypeId} {sz : Nat} {s : Value} {n : Nat} {xs : List Value} {ro : Option Nat} (a : Ap2 h base e sz s n xs ro) (m : Mod M h g) (hp : ∀ k B, M k → h.blk k = some B → B.plain = true) : Ap2 g base e sz s n xs ro := by
 rcases a with a | ⟨k, r, e1, e2, e3, e4, e5, e6, e7, e8⟩
 ·exact .inl a
 ·have keep : ∀ j ys ty p, h.blk j = some (.cells ys ty (some (r, p))) → g.blk j = some (.cells ys ty (some (r, p))) := fun j ys ty p hb => m.blk _ _ (fun hM => by
   have := hp _ _ hM hb
   cases this) hb
  refine .inr ⟨k, r, e1, keep _ _ _ _ e2, e3, e4, e5, Nat.lt_of_lt_of_le e6 m.next, fun j hj => ?_, e8⟩
  rw [m.chain r e6] at hj
  obtain ⟨ys, ty, p, hd, hle⟩ := e7 j hj
  have hb : h.blk j = some (.cells ys ty (some (r, p))) := by
   unfold H.blk
   rw [hd]
   simp only
   rw [show (h.chain r).contains j = true from by simpa using hj]
  exact ⟨ys, ty, p, H.blk_dyn (keep _ _ _ _ hb), hle⟩
theorem only_mod {M : Nat → Prop} {p q : Nat → Bool} {h g : H} (f : Fit h) (m : Mod M h g) (hM : ∀ k B, M k → h.blk k = some B → B.plain = true) (hp : ∀ r, p r = true → q r = true) : Grows (only p h) (only q g) :=
 only_mono f m.fit (fun k B hb ⟨xs, ty, r, o, hB, _⟩ => m.blk k B (fun hk => by
  have := hM k B hk hb
  subst hB; cases this) hb) hp
end Go.Hs
/- Items that are right; loops of a function. -/
namespace Go.Hs
def loops : Code → List Code
 | .seq a b => loops a ++ loops b
 | .cond _ a b => loops a ++ loops b
 | .block _ c => loops c
 | .scope c => loops c
 | .loop c => c :: loops c
 | .rangeFunc _ _ a b => loops a ++ loops b
 | _ => []
def loopAt (f : Func) (n : Nat) : Code := match f.body with
 | some c => (loops c).getD n .skip
 | none => .skip
mutual
def goodI : Item → Prop
 | .mk k n tx ks => 1 ≤ k ∧ k ≤ 63 ∧ 0 ≤ n ∧ n ≤ 1099511627776 ∧ tx.data.toList.length ≤ 4096 ∧ goodL ks
def goodL : List Item → Prop
 | [] => True
 | x :: xs => goodI x ∧ goodL xs
end
theorem goodL_append : ∀ {xs : List Item} {y : Item}, goodL xs → goodI y → goodL (xs ++ [y])
 | [], y, _, hy => by rw [List.nil_append, goodL, goodL]; exact ⟨hy, trivial⟩
 | x :: xs, y, h, hy => by
  rw [goodL] at h
  rw [List.cons_append, goodL]
  exact ⟨h.1, goodL_append h.2 hy⟩
theorem iszL_append : ∀ (xs : List Item) (y : Item), iszL (xs ++ [y]) = iszL xs + isz y
 | [], y => by simp [iszL]
 | x :: xs, y => by rw [List.cons_append, iszL, iszL_append xs y, iszL]; omega
mutual
theorem chkI_good : ∀ (t : Item) (b l : Int), goodI t → 0 ≤ b → b + isz t ≤ 5000 → l - 1 + lvlI t ≤ 250 → (chkI t b l).2 = 0
 | .mk k n tx ks, b, l, hg, h0, h1, h2 => by
  rw [goodI] at hg
  obtain ⟨g1, g2, g3, g4, g5, g6⟩ := hg
  rw [isz] at h1
  rw [lvlI] at h2
  have hb := lvlL_bound ks 0 (Int.le_refl _)
  rw [chkI, if_neg (by omega), if_neg (by push_cast at h1; omega), if_neg (by omega), if_neg (by omega)]
  exact chkL_good ks (b + 1) (l + 1) g6 (by omega) (by push_cast at h1; omega) (by omega)
theorem chkL_good : ∀ (ks : List Item) (b l : Int), goodL ks → 0 ≤ b → b + iszL ks ≤ 5000 → l - 1 + lvlL ks 0 ≤ 250 → (chkL ks b l).2 = 0
 | [], b, l, _, _, _, _ => by rw [chkL]
 | x :: xs, b, l, hg, h0, h1, h2 => by
  rw [goodL] at hg
  rw [iszL] at h1
  push_cast at h1
  have hx := lvlI_bound x
  rw [lvlL, if_pos (by omega)] at h2
  have hm := lvlL_max xs (lvlI x) (by omega)
  have e := chkI_good x b l hg.1 h0 (by omega) (by omega)
  have es := chkI_size x b l e
  rw [chkL, if_neg (by rw [e]; simp), es]
  exact chkL_good xs (b + isz x) l hg.2 (by omega) (by omega) (by omega)
end
theorem lvlL_append (xs : List Item) (y : Item) : lvlL (xs ++ [y]) 0 = max (lvlL xs 0) (lvlI y) := by
 have key : ∀ (xs : List Item) (m : Int), lvlL (xs ++ [y]) m = (if lvlI y > lvlL xs m then lvlI y else lvlL xs m) := by
  intro xs
  induction xs with
  | nil => intro m; simp only [List.nil_append, lvlL]; rfl
  | cons x xs ih => intro m; rw [List.cons_append, lvlL, ih, lvlL]
 rw [key]
 split <;> omega
theorem back_chain (h g : H) (r : Nat) : (back h g).chain r = g.chain r := by
 unfold back H.chain
 rw [note_chains]
theorem back_fit {h q : H} (f : Fit h) (fq : Fit q) (hn : h.next ≤ q.next) : Fit (back h q) := by
 refine ⟨fun k hk => ?_, ⟨fun k xs ty r p hd => ?_, ?_⟩⟩
 ·rw [back_next] at hk
  rw [back_dyn]; exact fq.free k hk
 ·rw [back_dyn] at hd
  rw [back_next]; exact fq.ok.1 _ _ _ _ _ hd
 ·unfold back
  rw [note_mark, H.note_next]
  exact Nat.le_trans f.ok.2 hn
theorem back_only {h q : H} (f : Fit h) (fq : Fit q) (hn : h.next ≤ q.next) (p : Nat → Bool) : Grows (only p q) (only p (back h q)) :=
 only_mono fq (back_fit f fq hn) (fun k B hb _ => by rw [back_blk]; exact hb) (fun _ h => h)
theorem Ap2.back {h q : H} {base : Nat} {e : TypeId} {sz : Nat} {s : Value} {n : Nat} {xs : List Value} {ro : Option Nat} (a : Ap2 q base e sz s n xs ro) : Ap2 (Hs.back h q) base e sz s n xs ro := by
 rcases a with a | ⟨k, r, e1, e2, e3, e4, e5, e6, e7, e8⟩
 ·exact .inl a
 ·exact .inr ⟨k, r, e1, by rw [back_blk]; exact e2, e3, e4, e5, by rw [back_next]; exact e6, fun j hj => by
   rw [back_chain] at hj
   obtain ⟨ys, ty, p, h1, h2⟩ := e7 j hj
   exact ⟨ys, ty, p, by rw [back_dyn]; exact h1, h2⟩, e8⟩
theorem back_mark (h q : H) : (back h q).mark = h.mark := by unfold back; rw [note_mark]
theorem back_log {h q : H} (hl : q.log = []) : (back h q).log = h.log := by
 unfold back
 rw [hl]
 show (H.note _ []).log = _
 rw [note_nil]
theorem isz_pos (t : Item) : 1 ≤ isz t := by obtain ⟨_, _, _, ks⟩ := t; rw [isz]; omega
theorem len_iszL : ∀ l : List Item, l.length ≤ iszL l
 | [] => by simp [iszL]
 | x :: l => by rw [iszL, List.length_cons]; have := isz_pos x; have := len_iszL l; omega
end Go.Hs
/- Slices that are cloned. -/
namespace Go.Hs
theorem Ahd.newOpen {h : H} (f : Fit h) (xs : List Value) (ty : TypeId) : Ahd h (h.newOpen xs ty) :=
 ⟨newOpen_fit f, fun k B hb => newOpen_old f hb, rfl, rfl, Nat.le_succ _, fun r hr => by
  simp only [H.chain, H.newOpen]
  rw [T.get_set_ne _ _ _ _ (by omega)]⟩
structure Cln (h h' : H) (e : TypeId) (n : Nat) (cs : List Value) (s : Value) : Prop where
 ahd : Ahd h h'
 get : ∃ k rt, s = .slice (some (own k)) n n ∧ h'.blk k = some (.cells cs e rt) ∧ h.next ≤ k ∧ (rt = none ∧ n = 0 ∨ rt = some (k, 0) ∧ h'.chain k = [k])
theorem clone_step {D : Tab} {E : Env} {h : H} {t e : TypeId} {sz by_ n c i6 i7 : Nat} {i8 : Option Value} {i9 : Bool} {ze : Value} {cs : List Value} {a : Addr} (f : Fit h)
  (ht : D.ty.get t = some ⟨.slice e sz by_, i6, i7, i8, i9⟩) (hz : tzero D e = some ze) (hzz : (Nat.beq ze.cells.toList.length sz && Nat.blt 0 sz && ze.cells.toList.all isOne) = true)
  (hx : h.cells E a (n * sz) = some cs) (hcl : cs.length = n * sz) (hrm : roomy n by_ = true) :
  ∃ s h', aappend D E t t (.slice (some (own h.next)) 0 0) (.slice (some a) n c) (h.new (.cells [] e none)) = some (s, h') ∧ Cln h h' e n cs s := by
 have a1 : Ahd h (h.new (.cells [] e none)) := Ahd.new0 f rfl
 have b1 : (h.new (.cells [] e none)).blk h.next = some (.cells [] e none) := new_blk_new rfl
 have hx1 : (h.new (.cells [] e none)).cells E a (n * sz) = some cs := cells_grow a1.grows hx
 generalize h.new (.cells [] e none) = h1 at a1 b1 hx1 ⊢
 have hel : aelems E sz ze.cells.toList (.slice (some a) n c) h1 = some (n, cs) := by simp only [aelems, hx1]
 have hbl : Nat.beq cs.length (n * sz) = true := by rw [hcl]; exact Nat.beq_refl _
 have hzt : zeroArg D t (.slice (some a) n c) = some false := by unfold zeroArg; rw [ht]
 cases n with
 | zero =>
  refine ⟨.slice (some (own h.next)) 0 0, h1, ?_, a1, h.next, none, rfl, ?_, Nat.le_refl _, .inl ⟨rfl, rfl⟩⟩
  ·unfold aappend
   rw [ht]
   simp only [hz, hzt, hzz, hel, hbl, Nat.ble_self_eq_true]
  ·rw [b1]
   have : cs = [] := List.length_eq_zero_iff.1 (by rw [hcl, Nat.zero_mul])
   rw [this]
 | succ n =>
  refine ⟨.slice (some (own h1.next)) (n + 1) (n + 1), h1.newOpen cs e, ?_, a1.trans (Ahd.newOpen a1.fit _ _), h1.next, some (h1.next, 0), rfl, newOpen_new, a1.next, .inr ⟨rfl, by simp only [H.chain, H.newOpen, T.get_set_same, Option.getD]⟩⟩
  unfold aappend
  rw [ht]
  have hb' : h1.blk (own h.next).block = some (.cells [] e none) := b1
  have hr' : roomy (0 + (n + 1)) by_ = true := by rw [Nat.zero_add]; exact hrm
  have hle : Nat.ble (0 + (n + 1)) 0 = false := by
   cases q : Nat.ble (0 + (n + 1)) 0
   ·rfl
   ·rw [Nat.ble_eq] at q; omega
  have hsp : (own h.next).spot = some 0 := rfl
  simp only [hz, hzt, hzz, hel, hbl, hr', hb', hle, hsp, H.cells, Nat.zero_mul, List.nil_append]
  simp only [Nat.zero_add]
theorem aslice_start {D : Tab} {t e : TypeId} {sz by_ n c m i6 i7 : Nat} {i8 : Option Value} {i9 : Bool} {a : Addr} {h : H} (ht : D.ty.get t = some ⟨.slice e sz by_, i6, i7, i8, i9⟩) (hmn : m ≤ n) (hnc : n ≤ c) (hs : a.spot ≠ some 0) :
  ∃ c', m ≤ c' ∧ aslice D t (.slice (some a) n c) none (some (.int .i64 (m : Nat))) none h = some (.slice (some a) m c', h) := by
 have h1 : Nat.ble n c = true := by rw [Nat.ble_eq]; exact hnc
 have h2 : abound (some (.int .i64 (m : Nat))) c n = some m := by
  have : inRange ((m : Nat) : Int) (c + 1) = true := by
   show Nat.blt m (c + 1) = true
   rw [Nat.blt_eq]; omega
  simp only [abound, this, Int.toNat_natCast]
 unfold aslice
 rw [ht]
 have h3 : abound none m 0 = some 0 := rfl
 simp only [h1, asliceS, h2, h3, Nat.zero_mul, Nat.sub_zero]
 obtain ⟨b, o, sp⟩ := a
 have ha : aadd ⟨b, o, sp⟩ 0 = ⟨b, o, sp⟩ := by
  match sp with
  | none => rfl
  | some 0 => rfl
  | some (_ + 1) => rfl
 cases hc : Nat.beq c 0 with
 | false => exact ⟨c, by omega, by simp only [ha]⟩
 | true =>
  have := Nat.eq_of_beq_eq_true hc
  obtain rfl : m = 0 := by omega
  match sp, hs with
  | none, _ => exact ⟨0, Nat.le_refl _, rfl⟩
  | some (_ + 1), _ => exact ⟨0, Nat.le_refl _, rfl⟩
  | some 0, hs => exact absurd rfl hs
theorem aadd_zero (a : Addr) : aadd a 0 = a := by
 obtain ⟨b, o, sp⟩ := a
 match sp with
 | none => rfl
 | some 0 => rfl
 | some (_ + 1) => rfl
end Go.Hs
/- Short names for what the walks' simplifier is told. -/
namespace Go.Hs
theorem Sx : (∀ (A : Ac) (d : Option Tmp) (v : Value), (A.put d v).n = A.n) ∧ (∀ (A : Ac) (d : Option Tmp) (v : Value), (A.put d v).defers = A.defers) ∧
  (∀ (α : Type) (l : List α), [] ++ l = l) ∧ (∀ (α : Type) (l : List α), l ++ [] = l) ∧ (∀ (α : Type) (l : List α), l.toArray.toList = l) ∧ (∀ (α : Type) (a : α) (l : List α), (a :: l)[0]? = some a) ∧ (∀ (α : Type) (a : α) (l : List α) (i : Nat), (a :: l)[i + 1]? = l[i]?) ∧ (!true) = false ∧ (!false) = true ∧ (∀ (α : Type) (h : Decidable True) (a b : α), @ite α True h a b = a) ∧ (∀ (α : Type) (h : Decidable False) (a b : α), @ite α False h a b = b) ∧ (∀ p : Prop, (p ∧ True) = p) ∧ (∀ h : Decidable True, @decide True h = true) ∧ (∀ h : Decidable False, @decide False h = false) :=
 ⟨fun _ _ _ => Ac.put_n .., fun _ _ _ => Ac.put_defers .., fun _ _ => List.nil_append _, fun _ _ => List.append_nil _, fun _ _ => rfl, fun _ _ _ => rfl, fun _ _ _ _ => rfl, rfl, rfl, fun _ _ _ _ => if_true _ _, fun _ _ _ _ => if_false _ _, fun _ => and_true _, fun _ => decide_true _, fun _ => decide_false _⟩
end Go.Hs
/- Data that is handed in, as items. -/
namespace Go.Hs
def dec : Value → Value
 | .slice (some a) n c => match a.spot with
  | none => .slice (some a) n c
  | some s => .slice (some ⟨a.block, a.off, some (s + 1)⟩) n c
 | v => v
def envOf (w : World) : Env := fun b o =>
 match w.cell? ⟨b, o, none⟩ with
 | some v => match foV (dec v) with
  | true => some (dec v)
  | false => none
 | none => none
theorem dec_ren {φ : Ph} {v : Value} (h : foV (dec v) = true) : ren φ (dec v) = v := by
 cases v with
 | slice b n c => cases b with
  | none => rfl
  | some a =>
   cases hs : a.spot with
   | none => simp [dec, hs, ren, renA, extA]
   | some s =>
    simp only [dec, hs, ren, renA, extA, Nat.add_zero]
    rw [← hs]
 | _ => exact (roV.ok φ (show roV _ = true from h)).2
theorem envOf_ro {w : World} {b o : Nat} {v : Value} (h : envOf w b o = some v) : b < w.heap.size ∧ w.cell? ⟨b, o, none⟩ = some (ren (fun _ => none) v) ∧ foV v = true := by
 unfold envOf at h
 split at h
 ·next x hx =>
  split at h
  ·next hf =>
   cases h
   refine ⟨?_, by rw [dec_ren hf]; exact hx, hf⟩
   simp only [World.cell?] at hx
   split at hx
   ·next hb => exact (Array.getElem?_eq_some_iff.1 hb).1
   ·cases hx
  ·cases h
 ·cases h
theorem envOf_at {w : World} {b o : Nat} {v : Value} (h : w.cell? ⟨b, o, none⟩ = some v) (hf : foV (dec v) = true) : envOf w b o = some (dec v) := by
 unfold envOf
 simp only [h, hf]
theorem roCells_append {E : Env} : ∀ (n m b o : Nat) (xs ys : List Value), roCells E b o n = some xs → roCells E b (o + n) m = some ys → roCells E b o (n + m) = some (xs ++ ys)
 | 0, m, b, o, xs, ys, h1, h2 => by
  simp only [roCells, Option.some.injEq] at h1
  subst h1
  rw [Nat.zero_add]; exact h2
 | n + 1, m, b, o, xs, ys, h1, h2 => by
  simp only [roCells] at h1
  split at h1
  ·next v hv =>
   split at h1
   ·next vs hvs =>
    cases h1
    have := roCells_append n m b (o + 1) vs ys hvs (by rw [show o + 1 + n = o + (n + 1) by omega]; exact h2)
    rw [show n + 1 + m = (n + m) + 1 by omega]
    simp only [roCells, hv, this, List.cons_append]
   ·cases h1
  ·cases h1
section
variable {H0 : Type} {enc : TypeId × Value → H0} {P : Program} {w : World} {sp : Nat → Bool} {held : Bool} {ti tn ts tk : TypeId}
end
end Go.Hs
/- Data that is handed in, as bytes. -/
namespace Go.Hs
section
variable {H0 : Type} {enc : TypeId × Value → H0} {P : Program} {w : World} {sp : Nat → Bool} {held : Bool} {ts te : TypeId}
theorem cells1 {a : Addr} {cs : List Value} (h : w.cells? 0 a 1 = some cs) : ∃ c0, cs = [c0] ∧ w.cell? a = some c0 := by
 simp only [World.cells?, Nat.zero_le, if_true, show List.range 1 = [0] from rfl, List.mapM_cons, List.mapM_nil, Option.bind_eq_bind, Option.bind_eq_some_iff] at h
 obtain ⟨c0, h0, l1, h1, h2⟩ := h
 cases h1; cases h2
 exact ⟨c0, rfl, h0⟩
theorem bytes_of_trod (hs : P.underlying ts = some (.slice te)) (he : P.underlying te = some (.int .u8)) (hc : P.cellsOf te = 1) (h : H) {fuel : Nat} {cs : List Value} {x : DataW H0 × List MemPlace} (hx : DataW.trod enc P w 0 sp held fuel ts cs = some x) :
  ∃ c0, cs = [c0] ∧ foV (dec c0) = true ∧ ∃ bs : List Int, (dec c0 = .slice none 0 0 ∧ bs = []) ∨ ∃ a c, dec c0 = .slice (some a) bs.length c ∧ bs.length ≤ c ∧ h.cells (envOf w) a bs.length = some (bs.map (Value.int .u8)) ∧ a.spot ≠ some 0 := by
 rcases DataW.trod_slice hs hx with ⟨rfl, _⟩ | ⟨a, len, cap, elems, rest, n', hn, rfl, _, _, hlc, hcap, hel, hele, _⟩
 ·exact ⟨_, rfl, rfl, [], .inl ⟨rfl, rfl⟩⟩
 ·have hd : ∃ a', dec (.slice (some a) len cap) = .slice (some a') len cap ∧ foV (.slice (some a') len cap) = true ∧ (a.spot = none → a' = a) ∧ a'.spot ≠ some 0 := by
   unfold dec
   cases hsp : a.spot with
   | none => exact ⟨a, by simp only [hsp], by simp only [foV, hsp], fun _ => rfl, by rw [hsp]; simp⟩
   | some s => exact ⟨⟨a.block, a.off, some (s + 1)⟩, by simp only [hsp], rfl, (fun h => by cases h), by simp⟩
  obtain ⟨a', hda, hfa, haa, hsa⟩ := hd
  refine ⟨_, rfl, by rw [hda]; exact hfa, ?_⟩
  have each : ∀ i, i < len → a.spot = none ∧ ∃ k : Int, envOf w a.block (a.off + i) = some (.int .u8 k) := by
   intro i hi
   have hb := hele i hi
   rw [hc, Nat.mul_one, List.getElem?_eq_getElem (by omega), Option.bind_eq_some_iff] at hb
   obtain ⟨ci, h1, h2⟩ := hb
   obtain ⟨d0, rfl, q0⟩ := cells1 h1
   obtain ⟨k, k1, _⟩ := DataW.trod_int he h2
   replace k1 : d0 = .int .u8 k := by simpa using k1
   subst k1
   have hsp : a.spot = none := by
    by_cases hi0 : i = 0
    ·rw [hi0] at q0
     simp only [Addr.add, if_true, World.cell?] at q0
     split at q0
     ·split at q0
      ·cases q0
      ·next hh => simpa using hh
     ·cases q0
    ·have := hele 0 (by omega)
     rw [hc, List.getElem?_eq_getElem (by omega), Option.bind_eq_some_iff] at this
     obtain ⟨c0, g1, _⟩ := this
     obtain ⟨_, _, q0⟩ := cells1 g1
     simp only [Nat.zero_mul, Addr.add, if_true, World.cell?] at q0
     split at q0
     ·split at q0
      ·cases q0
      ·next hh => simpa using hh
     ·cases q0
   refine ⟨hsp, k, ?_⟩
   have ha : a = ⟨a.block, a.off, none⟩ := by cases a; simp_all
   rw [ha] at q0
   simp only [Addr.add_plain] at q0
   exact envOf_at q0 rfl
  have build : ∀ j, j ≤ len → ∃ bs : List Int, bs.length = j ∧ roCells (envOf w) a.block a.off j = some (bs.map (Value.int .u8)) := by
   intro j
   induction j with
   | zero => intro _; exact ⟨[], rfl, rfl⟩
   | succ j ihj =>
    intro hj
    obtain ⟨bs, g1, g3⟩ := ihj (by omega)
    obtain ⟨_, k, g5⟩ := each j (by omega)
    refine ⟨bs ++ [k], by simp [g1], ?_⟩
    rw [List.map_append]
    refine roCells_append _ _ _ _ _ _ g3 ?_
    simp only [roCells, g5, one?, isOne, List.map_cons, List.map_nil]
  obtain ⟨bs, g1, g3⟩ := build len (Nat.le_refl _)
  refine ⟨bs, .inr ⟨a', cap, by rw [hda, g1], by omega, ?_, hsa⟩⟩
  cases hle : len with
  | zero =>
   subst hle
   obtain rfl := List.length_eq_zero_iff.1 g1
   rfl
  | succ m =>
   obtain ⟨hsp, _⟩ := each 0 (by omega)
   rw [haa hsp, g1, hle]
   unfold H.cells
   simp only [hsp]
   rw [← hle]; exact g3
end
end Go.Hs
/- Items with short texts. -/
namespace Go.Hs
mutual
def smlI : Item → Prop
 | .mk k n tx ks => 1 ≤ k ∧ k ≤ 63 ∧ 0 ≤ n ∧ n ≤ 1099511627776 ∧ tx.data.toList.length ≤ 5 ∧ smlL ks
def smlL : List Item → Prop
 | [] => True
 | x :: xs => smlI x ∧ smlL xs
end
theorem smlL_append : ∀ {xs : List Item} {y : Item}, smlL xs → smlI y → smlL (xs ++ [y])
 | [], y, _, hy => by rw [List.nil_append, smlL, smlL]; exact ⟨hy, trivial⟩
 | x :: xs, y, h, hy => by
  rw [smlL] at h
  rw [List.cons_append, smlL]
  exact ⟨h.1, smlL_append h.2 hy⟩
mutual
theorem smlI.good : ∀ {t : Item}, smlI t → goodI t
 | .mk k n tx ks, h => by
  rw [smlI] at h
  rw [goodI]
  exact ⟨h.1, h.2.1, h.2.2.1, h.2.2.2.1, by omega, smlL.good h.2.2.2.2.2⟩
theorem smlL.good : ∀ {ks : List Item}, smlL ks → goodL ks
 | [], _ => by rw [goodL]; trivial
 | x :: xs, h => by
  rw [smlL] at h
  rw [goodL]
  exact ⟨smlI.good h.1, smlL.good h.2⟩
end
end Go.Hs
/- Bytes that are read as items: what is reckoned. -/
namespace Go.Hs
inductive Rd (α : Type) where
 | ok (v : α) (pos items : Nat)
 | bad (pos : Nat) (e : Int)
def rdNum (bs : List UInt8) (least most frm items : Nat) : Nat → Nat → Nat → Nat → Rd Nat
 | 0, _, _, _ => .bad frm 3
 | k + 1, i, pos, n => match bs[pos]? with
  | none => .bad pos 4
  | some c =>
   if 128 ≤ c.toNat then rdNum bs least most frm items k (i + 1) (pos + 1) (n + c.toNat % 128 * 128 ^ i)
   else if c.toNat = 0 ∧ 0 < i then .bad frm 4
   else if most < n + c.toNat % 128 * 128 ^ i then .bad frm 3
   else if n + c.toNat % 128 * 128 ^ i < least then .bad frm 4
   else .ok (n + c.toNat % 128 * 128 ^ i) (pos + 1) items
def rdN (bs : List UInt8) (least most pos items : Nat) : Rd Nat := rdNum bs least most pos items 6 0 pos 0
def rdText (bs : List UInt8) (pos items : Nat) : Rd ByteArray :=
 match rdN bs 1 4096 pos items with
 | .bad p e => .bad p e
 | .ok n p items => if bs.length - p < n then .bad bs.length 4 else .ok ⟨⟨(bs.drop p).take n⟩⟩ (p + n) items
def rdKids (rec : Nat → Nat → Rd Item) : Nat → List Item → Nat → Nat → Rd (List Item)
 | 0, acc, pos, items => .ok acc pos items
 | n + 1, acc, pos, items => match rec pos items with
  | .bad p e => .bad p e
  | .ok t p items => rdKids rec n (acc ++ [t]) p items
def rdKidsN (bs : List UInt8) (rec : Nat → Nat → Rd Item) (pos items : Nat) : Rd (List Item) :=
 match rdN bs 1 5000 pos items with
 | .bad p e => .bad p e
 | .ok n p items => rdKids rec n [] p items
def rdItem (bs : List UInt8) : Nat → Nat → Nat → Rd Item
 | 0, pos, _ => match bs[pos]? with
  | none => .bad pos 4
  | some _ => .bad pos 11
 | f + 1, pos, items => match bs[pos]? with
  | none => .bad pos 4
  | some hd =>
   if 5000 ≤ items then .bad pos 2
   else if hd.toNat % 64 = 0 then .bad pos 4
   else match rdN bs 0 1099511627776 (pos + 1) (items + 1) with
    | .bad p e => .bad p e
    | .ok n p items => match (if hd.toNat / 64 % 2 = 1 then rdText bs p items else .ok ⟨⟨[]⟩⟩ p items) with
     | .bad p e => .bad p e
     | .ok tx p items => match (if 128 ≤ hd.toNat then rdKidsN bs (rdItem bs f) p items else .ok [] p items) with
      | .bad p e => .bad p e
      | .ok ks p items => .ok (.mk (hd.toNat % 64 : Nat) (n : Nat) tx ks) p items
def splL (bs : List UInt8) : Nat → Nat → List Item → Rd (List Item)
 | 0, pos, acc => .ok acc pos 0
 | k + 1, pos, acc => if pos < bs.length then
   match rdItem bs 250 pos 0 with
   | .bad p e => .bad p e
   | .ok t p _ => splL bs k p (acc ++ [t])
  else .ok acc pos 0
def splR (bs : List UInt8) : Rd (List Item) :=
 if 65536 < bs.length then .bad 0 11 else splL bs bs.length 0 []
/-! ### What is so of what is read -/
theorem rdNum_ok {bs : List UInt8} {least most frm items : Nat} : ∀ (k i pos n v p it : Nat), rdNum bs least most frm items k i pos n = .ok v p it → pos < p ∧ p ≤ bs.length ∧ v ≤ most ∧ least ≤ v ∧ it = items ∧ p ≤ pos + k
 | 0, _, _, _, _, _, _, h => by cases h
 | k + 1, i, pos, n, v, p, it, h => by
  rw [rdNum] at h
  split at h
  ·cases h
  ·next c hc =>
   have hlt : pos < bs.length := (List.getElem?_eq_some_iff.1 hc).1
   split at h
   ·obtain ⟨h1, h2, h3, h4, h5, h6⟩ := rdNum_ok _ _ _ _ _ _ _ h
    exact ⟨by omega, h2, h3, h4, h5, by omega⟩
   ·split at h
    ·cases h
    ·split at h
     ·cases h
     ·split at h
      ·cases h
      ·cases h
       exact ⟨by omega, by omega, by omega, by omega, rfl, by omega⟩
theorem rdNum_bad {bs : List UInt8} {least most frm items : Nat} : ∀ (k i pos n p : Nat) (e : Int), rdNum bs least most frm items k i pos n = .bad p e → pos ≤ bs.length → frm ≤ bs.length → (e = 3 ∨ e = 4) ∧ p ≤ bs.length
 | 0, _, _, _, _, _, h, _, hf => by cases h; exact ⟨.inl rfl, hf⟩
 | k + 1, i, pos, n, p, e, h, hp, hf => by
  rw [rdNum] at h
  split at h
  ·cases h; exact ⟨.inr rfl, hp⟩
  ·next c hc =>
   have hlt : pos < bs.length := (List.getElem?_eq_some_iff.1 hc).1
   split at h
   ·exact rdNum_bad _ _ _ _ _ _ h (by omega) hf
   ·split at h
    ·cases h; exact ⟨.inr rfl, hf⟩
    ·split at h
     ·cases h; exact ⟨.inl rfl, hf⟩
     ·split at h
      ·cases h; exact ⟨.inr rfl, hf⟩
      ·cases h
theorem rdN_ok {bs : List UInt8} {least most pos items v p it : Nat} (h : rdN bs least most pos items = .ok v p it) : pos < p ∧ p ≤ bs.length ∧ v ≤ most ∧ least ≤ v ∧ it = items := by
 obtain ⟨h1, h2, h3, h4, h5, _⟩ := rdNum_ok _ _ _ _ _ _ _ h
 exact ⟨h1, h2, h3, h4, h5⟩
theorem rdN_bad {bs : List UInt8} {least most pos items p : Nat} {e : Int} (h : rdN bs least most pos items = .bad p e) (hp : pos ≤ bs.length) : (e = 3 ∨ e = 4) ∧ p ≤ bs.length := rdNum_bad _ _ _ _ _ _ h hp hp
theorem rdText_ok {bs : List UInt8} {pos items p it : Nat} {v : ByteArray} (h : rdText bs pos items = .ok v p it) : pos < p ∧ p ≤ bs.length ∧ v.data.toList.length ≤ 4096 ∧ 1 ≤ v.data.toList.length ∧ it = items := by
 rw [rdText] at h
 split at h
 ·cases h
 ·next n q it' hn =>
  obtain ⟨h1, h2, h3, h4, h5⟩ := rdN_ok hn
  split at h
  ·cases h
  ·next hl =>
   cases h
   have hb : ((bs.drop q).take n).length = n := by
    rw [List.length_take, List.length_drop]; omega
   refine ⟨by omega, by omega, ?_, ?_, h5⟩
   ·show ((bs.drop q).take n).length ≤ 4096
    omega
   ·show 1 ≤ ((bs.drop q).take n).length
    omega
theorem rdText_bad {bs : List UInt8} {pos items p : Nat} {e : Int} (h : rdText bs pos items = .bad p e) (hp : pos ≤ bs.length) : (e = 3 ∨ e = 4) ∧ p ≤ bs.length := by
 rw [rdText] at h
 split at h
 ·next hn => cases h; exact rdN_bad hn hp
 ·split at h
  ·cases h; exact ⟨.inr rfl, Nat.le_refl _⟩
  ·cases h
def RdOk (bs : List UInt8) (f : Nat) (rec : Nat → Nat → Rd Item) : Prop :=
 (∀ pos items t p it, rec pos items = .ok t p it → pos < p ∧ p ≤ bs.length ∧ it = items + isz t ∧ it ≤ 5000 ∧ lvlI t ≤ f ∧ goodI t) ∧
 (∀ pos items p e, rec pos items = .bad p e → pos ≤ bs.length → (e = 2 ∨ e = 3 ∨ e = 4 ∨ e = 11) ∧ p ≤ bs.length)
theorem rdKids_ok {bs : List UInt8} {f : Nat} {rec : Nat → Nat → Rd Item} (R : RdOk bs f rec) : ∀ (n : Nat) (acc : List Item) (pos items : Nat) (ks : List Item) (p it : Nat), rdKids rec n acc pos items = .ok ks p it → pos ≤ bs.length → items ≤ 5000 → goodL acc → lvlL acc 0 ≤ f →
  pos ≤ p ∧ p ≤ bs.length ∧ it + iszL acc = items + iszL ks ∧ it ≤ 5000 ∧ lvlL ks 0 ≤ f ∧ goodL ks ∧ ks.length = acc.length + n
 | 0, acc, pos, items, ks, p, it, h, hp, hi, hg, hl => by
  rw [rdKids] at h
  cases h
  exact ⟨Nat.le_refl _, hp, rfl, hi, hl, hg, rfl⟩
 | n + 1, acc, pos, items, ks, p, it, h, hp, hi, hg, hl => by
  rw [rdKids] at h
  split at h
  ·cases h
  ·next t q it' ht =>
   obtain ⟨h1, h2, h3, h4, h5, h6⟩ := R.1 _ _ _ _ _ ht
   obtain ⟨g1, g2, g3, g4, g5, g6, g7⟩ := rdKids_ok R n _ _ _ _ _ _ h h2 h4 (goodL_append hg h6) (by rw [lvlL_append]; omega)
   rw [iszL_append] at g3
   rw [List.length_append, List.length_singleton] at g7
   exact ⟨by omega, g2, by omega, g4, g5, g6, by omega⟩
theorem rdKids_bad {bs : List UInt8} {f : Nat} {rec : Nat → Nat → Rd Item} (R : RdOk bs f rec) : ∀ (n : Nat) (acc : List Item) (pos items : Nat) (p : Nat) (e : Int), rdKids rec n acc pos items = .bad p e → pos ≤ bs.length → (e = 2 ∨ e = 3 ∨ e = 4 ∨ e = 11) ∧ p ≤ bs.length
 | 0, acc, pos, items, p, e, h, hp => by cases h
 | n + 1, acc, pos, items, p, e, h, hp => by
  rw [rdKids] at h
  split at h
  ·next hb => cases h; exact R.2 _ _ _ _ hb hp
  ·next t q it' ht =>
   exact rdKids_bad R n _ _ _ _ _ h (R.1 _ _ _ _ _ ht).2.1
theorem rdItem_ok (bs : List UInt8) : ∀ f, RdOk bs f (rdItem bs f)
 | 0 => by
  refine ⟨fun pos items t p it h => ?_, fun pos items p e h hp => ?_⟩
  ·rw [rdItem] at h
   split at h <;> cases h
  ·rw [rdItem] at h
   split at h
   ·cases h; exact ⟨by simp, hp⟩
   ·cases h; exact ⟨by simp, hp⟩
 | f + 1 => by
  have R := rdItem_ok bs f
  refine ⟨fun pos items t p it h => ?_, fun pos items p e h hp => ?_⟩
  ·rw [rdItem] at h
   split at h
   ·cases h
   ·next hd hhd =>
    split at h
    ·cases h
    ·next hit =>
     split at h
     ·cases h
     ·next hk =>
      split at h
      ·cases h
      ·next n p1 i1 hn =>
       obtain ⟨a1, a2, a3, _, a5⟩ := rdN_ok hn
       split at h
       ·cases h
       ·next tx p2 i2 ht =>
        have ht' : p1 ≤ p2 ∧ p2 ≤ bs.length ∧ tx.data.toList.length ≤ 4096 ∧ i2 = i1 := by
         split at ht
         ·obtain ⟨b1, b2, b3, b4, b5⟩ := rdText_ok ht
          exact ⟨by omega, b2, b3, b5⟩
         ·cases ht
          exact ⟨Nat.le_refl _, a2, Nat.zero_le _, rfl⟩
        obtain ⟨b1, b2, b3, b4⟩ := ht'
        split at h
        ·cases h
        ·next ks p3 i3 hks =>
         have hks' : p2 ≤ p3 ∧ p3 ≤ bs.length ∧ i3 = i2 + iszL ks ∧ i3 ≤ 5000 ∧ lvlL ks 0 ≤ f ∧ goodL ks := by
          split at hks
          ·rw [rdKidsN] at hks
           split at hks
           ·cases hks
           ·next m q i' hm =>
            obtain ⟨c1, c2, c3, c4, c5⟩ := rdN_ok hm
            obtain ⟨d1, d2, d3, d4, d5, d6, d7⟩ := rdKids_ok R _ _ _ _ _ _ _ hks c2 (by omega) (by rw [goodL]; trivial) (by rw [lvlL]; omega)
            rw [iszL] at d3
            exact ⟨by omega, d2, by omega, d4, d5, d6⟩
          ·cases hks
           exact ⟨Nat.le_refl _, b2, by rw [iszL]; omega, by omega, by rw [lvlL]; omega, by rw [goodL]; trivial⟩
         obtain ⟨c1, c2, c3, c4, c5, c6⟩ := hks'
         cases h
         refine ⟨by omega, c2, by rw [isz]; omega, c4, by rw [lvlI]; omega, ?_⟩
         rw [goodI]
         refine ⟨by omega, by omega, by omega, by omega, b3, c6⟩
  ·rw [rdItem] at h
   split at h
   ·cases h; exact ⟨by simp, hp⟩
   ·next hd hhd =>
    have hlt : pos < bs.length := (List.getElem?_eq_some_iff.1 hhd).1
    split at h
    ·cases h; exact ⟨by simp, hp⟩
    ·split at h
     ·cases h; exact ⟨by simp, hp⟩
     ·split at h
      ·next hn =>
       cases h
       have := rdN_bad hn (by omega)
       exact ⟨by rcases this.1 with h | h <;> simp [h], this.2⟩
      ·next n p1 i1 hn =>
       obtain ⟨a1, a2, a3, _, a5⟩ := rdN_ok hn
       split at h
       ·next ht =>
        cases h
        split at ht
        ·have := rdText_bad ht a2
         exact ⟨by rcases this.1 with h | h <;> simp [h], this.2⟩
        ·cases ht
       ·next tx p2 i2 ht =>
        have b2 : p2 ≤ bs.length := by
         split at ht
         ·exact (rdText_ok ht).2.1
         ·cases ht; exact a2
        split at h
        ·next hks =>
         cases h
         split at hks
         ·rw [rdKidsN] at hks
          split at hks
          ·next hm =>
           cases hks
           have := rdN_bad hm b2
           exact ⟨by rcases this.1 with h | h <;> simp [h], this.2⟩
          ·next m q i' hm => exact rdKids_bad R _ _ _ _ _ _ hks (rdN_ok hm).2.1
         ·cases hks
        ·cases h
end Go.Hs
/- Bytes of items, read again; and cut off. -/
namespace Go.Hs
def numB (m : Nat) : List UInt8 := if m < 128 then [UInt8.ofNat m] else UInt8.ofNat (m % 128 + 128) :: numB (m / 128)
termination_by m
decreasing_by omega
theorem numB_small {m : Nat} (h : m < 128) : numB m = [UInt8.ofNat m] := by rw [numB, if_pos h]
theorem numB_large {m : Nat} (h : ¬ m < 128) : numB m = UInt8.ofNat (m % 128 + 128) :: numB (m / 128) := by rw [numB, if_neg h]
theorem numB_pos (m : Nat) : 1 ≤ (numB m).length := by
 rw [numB]
 split <;> simp
mutual
/-- The bytes of an item. -/
def encI : Item → List UInt8
 | .mk k n t ks => UInt8.ofNat (k.toNat + (if t.data.toList = [] then 0 else 64) + (if ks.length = 0 then 0 else 128)) :: (numB n.toNat ++ ((if t.data.toList = [] then [] else numB t.data.toList.length ++ t.data.toList) ++ (if ks.length = 0 then [] else numB ks.length ++ encL ks)))
def encL : List Item → List UInt8
 | [] => []
 | x :: xs => encI x ++ encL xs
end
theorem drop_head {bs l : List UInt8} {pos : Nat} {c : UInt8} (h : bs.drop pos = c :: l) : bs[pos]? = some c ∧ bs.drop (pos + 1) = l := by
 constructor
 ·rw [← List.head?_drop, h]; rfl
 ·rw [← List.drop_drop, h]; rfl
theorem drop_more {bs x l : List UInt8} {pos : Nat} (h : bs.drop pos = x ++ l) : bs.drop (pos + x.length) = l := by
 rw [← List.drop_drop, h, List.drop_left]
theorem ofNat_toNat {m : Nat} (h : m < 256) : (UInt8.ofNat m).toNat = m := by
 rw [UInt8.toNat_ofNat']
 exact Nat.mod_eq_of_lt h
theorem rdNum_enc {least most frm items : Nat} {bs rest : List UInt8} : ∀ (k m i pos n : Nat), bs.drop pos = numB m ++ rest → m < 128 ^ (k + 1) → (i = 0 ∨ 0 < m) → least ≤ n + m * 128 ^ i → n + m * 128 ^ i ≤ most → rdNum bs least most frm items (k + 1) i pos n = .ok (n + m * 128 ^ i) (pos + (numB m).length) items := by
 intro k
 induction k with
 | zero =>
  intro m i pos n hd hm hi hl hmo
  have hm : m < 128 := by simpa using hm
  rw [numB_small hm] at hd ⊢
  obtain ⟨h1, h2⟩ := drop_head hd
  have hc := ofNat_toNat (m := m) (by omega)
  rw [rdNum, h1]
  simp only [hc]
  rw [Nat.mod_eq_of_lt hm, if_neg (by omega), if_neg (by omega), if_neg (by omega), if_neg (by omega)]
  rfl
 | succ k ih =>
  intro m i pos n hd hm hi hl hmo
  by_cases q : m < 128
  ·rw [numB_small q] at hd ⊢
   obtain ⟨h1, h2⟩ := drop_head hd
   have hc := ofNat_toNat (m := m) (by omega)
   rw [rdNum, h1]
   simp only [hc]
   rw [Nat.mod_eq_of_lt q, if_neg (by omega), if_neg (by omega), if_neg (by omega), if_neg (by omega)]
   rfl
  ·rw [numB_large q] at hd ⊢
   obtain ⟨h1, h2⟩ := drop_head hd
   have hc := ofNat_toNat (m := m % 128 + 128) (by omega)
   have e : n + m % 128 * 128 ^ i + m / 128 * 128 ^ (i + 1) = n + m * 128 ^ i := by
    have h3 := Nat.div_add_mod m 128
    have h4 : m * 128 ^ i = (128 * (m / 128) + m % 128) * 128 ^ i := by rw [h3]
    rw [h4, Nat.add_mul, Nat.pow_succ, Nat.mul_comm (128 ^ i) 128, ← Nat.mul_assoc, Nat.mul_comm (m / 128) 128]
    omega
   have hp : (m % 128 + 128) % 128 = m % 128 := by omega
   rw [rdNum, h1]
   simp only [hc]
   rw [hp, if_pos (by omega), ih (m / 128) (i + 1) (pos + 1) _ h2 (by rw [Nat.pow_succ] at hm; omega) (.inr (by omega)) (by rw [e]; exact hl) (by rw [e]; exact hmo), e, List.length_cons]
   congr 1
   omega
theorem rdN_enc {least most items m pos : Nat} {bs rest : List UInt8} (hd : bs.drop pos = numB m ++ rest) (hm : m ≤ 1099511627776) (hl : least ≤ m) (hmo : m ≤ most) : rdN bs least most pos items = .ok m (pos + (numB m).length) items := by
 have := rdNum_enc (least := least) (most := most) (frm := pos) (items := items) 5 m 0 pos 0 hd (by omega) (.inl rfl) (by simpa using hl) (by simpa using hmo)
 simpa [rdN] using this
theorem bytesX {a : ByteArray} {l : List UInt8} (h : a.data.toList = l) : a = ⟨⟨l⟩⟩ := by
 obtain ⟨⟨x⟩⟩ := a
 cases h; rfl
theorem rdText_enc {items pos : Nat} {bs rest : List UInt8} {t : ByteArray} (hd : bs.drop pos = numB t.data.toList.length ++ (t.data.toList ++ rest)) (h1 : 1 ≤ t.data.toList.length) (h2 : t.data.toList.length ≤ 4096) : rdText bs pos items = .ok t (pos + ((numB t.data.toList.length).length + t.data.toList.length)) items := by
 rw [rdText, rdN_enc hd (by omega) h1 h2]
 have hd2 := drop_more hd
 have hl : bs.length - (pos + (numB t.data.toList.length).length) = t.data.toList.length + rest.length := by
  rw [← List.length_drop, hd2, List.length_append]
 simp only [hl]
 rw [if_neg (by omega), hd2, List.take_left]
 rw [← bytesX (a := t) rfl]
 congr 1
 omega
theorem goodL_mem : ∀ {ks : List Item} {x : Item}, goodL ks → x ∈ ks → goodI x
 | [], _, _, h => by cases h
 | y :: ks, x, hg, h => by
  rw [goodL] at hg
  rcases List.mem_cons.1 h with rfl | h
  ·exact hg.1
  ·exact goodL_mem hg.2 h
theorem len_iszE : ∀ ks : List Item, ks.length ≤ iszL ks
 | [] => Nat.zero_le _
 | x :: xs => by
  have := len_iszE xs
  have h1 : 1 ≤ isz x := by obtain ⟨_, _, _, _⟩ := x; rw [isz]; omega
  rw [iszL, List.length_cons]; omega
theorem rdKids_mono {bs : List UInt8} {f : Nat} {rec : Nat → Nat → Rd Item} (R : RdOk bs f rec) : ∀ (n : Nat) (acc : List Item) (pos items : Nat) (ks : List Item) (p it : Nat), rdKids rec n acc pos items = .ok ks p it → pos ≤ p
 | 0, acc, pos, items, ks, p, it, h => by
  rw [rdKids] at h; cases h; exact Nat.le_refl _
 | n + 1, acc, pos, items, ks, p, it, h => by
  rw [rdKids] at h
  split at h
  ·cases h
  ·next t q it' ht =>
   have := rdKids_mono R n _ _ _ _ _ _ h
   have := (R.1 _ _ _ _ _ ht).1
   omega
def RdEnc (bs : List UInt8) (f : Nat) (rec : Nat → Nat → Rd Item) : Prop := ∀ (t : Item) (pos items : Nat) (rest : List UInt8), bs.drop pos = encI t ++ rest → goodI t → lvlI t ≤ f → items + isz t ≤ 5000 → rec pos items = .ok t (pos + (encI t).length) (items + isz t)
theorem rdKids_enc {bs : List UInt8} {f : Nat} {rec : Nat → Nat → Rd Item} (R : RdEnc bs f rec) : ∀ (ks acc : List Item) (pos items : Nat) (rest : List UInt8), bs.drop pos = encL ks ++ rest → goodL ks → lvlL ks 0 ≤ f → items + iszL ks ≤ 5000 → rdKids rec ks.length acc pos items = .ok (acc ++ ks) (pos + (encL ks).length) (items + iszL ks)
 | [], acc, pos, items, rest, hd, hg, hl, hz => by
  rw [List.length_nil, rdKids, encL, iszL, List.append_nil]; rfl
 | x :: xs, acc, pos, items, rest, hd, hg, hl, hz => by
  rw [goodL] at hg
  rw [iszL] at hz ⊢
  rw [encL, List.append_assoc] at hd
  have hx := lvlI_bound x
  rw [lvlL, if_pos (by omega), lvlL_max _ _ (by omega)] at hl
  rw [List.length_cons, rdKids, R x pos items _ hd hg.1 (by omega) (by omega)]
  have := rdKids_enc R xs (acc ++ [x]) (pos + (encI x).length) (items + isz x) rest (drop_more hd) hg.2 (by omega) (by omega)
  simp only [this]
  rw [encL, List.append_assoc, List.length_append]
  simp only [List.singleton_append, Rd.ok.injEq, true_and]
  omega
theorem rdItem_enc (bs : List UInt8) : ∀ f, RdEnc bs f (rdItem bs f)
 | 0 => by
  intro t pos items rest hd hg hl hz
  have := lvlI_bound t
  omega
 | f + 1 => by
  have R := rdItem_enc bs f
  intro t pos items rest hd hg hl hz
  obtain ⟨k, n, tx, ks⟩ := t
  rw [goodI] at hg
  obtain ⟨g1, g2, g3, g4, g5, g6⟩ := hg
  rw [lvlI] at hl
  rw [isz] at hz
  rw [encI, List.cons_append] at hd
  obtain ⟨h1, h2⟩ := drop_head hd
  generalize hhd : k.toNat + (if tx.data.toList = [] then 0 else 64) + (if ks.length = 0 then 0 else 128) = hd0 at h1 hd
  have hlt : hd0 < 256 := by rw [← hhd]; split <;> split <;> omega
  have hc := ofNat_toNat hlt
  have hk : hd0 % 64 = k.toNat := by rw [← hhd]; split <;> split <;> omega
  have b6 : hd0 / 64 % 2 = 1 ↔ tx.data.toList ≠ [] := by rw [← hhd]; split <;> split <;> simp_all <;> omega
  have b7 : 128 ≤ hd0 ↔ ks.length ≠ 0 := by rw [← hhd]; split <;> split <;> simp_all <;> omega
  rw [rdItem, h1]
  simp only [hc, hk]
  rw [if_neg (by omega), if_neg (by omega)]
  rw [List.append_assoc, List.append_assoc] at h2
  rw [rdN_enc h2 (by omega) (Nat.zero_le _) (by omega)]
  have h3 := drop_more h2
  simp only []
  have ht : (if hd0 / 64 % 2 = 1 then rdText bs (pos + 1 + (numB n.toNat).length) (items + 1) else .ok ⟨⟨[]⟩⟩ (pos + 1 + (numB n.toNat).length) (items + 1)) = .ok tx (pos + 1 + (numB n.toNat).length + (if tx.data.toList = [] then [] else numB tx.data.toList.length ++ tx.data.toList : List UInt8).length) (items + 1) := by
   by_cases q : tx.data.toList = []
   ·rw [if_neg (fun h => (b6.1 h) q), if_pos q, bytesX q]; rfl
   ·rw [if_pos (b6.2 q), if_neg q, List.length_append]
    rw [if_neg q, List.append_assoc] at h3
    refine rdText_enc h3 ?_ g5
    have := List.length_pos_iff.2 q
    omega
  rw [ht]
  have h4 := drop_more h3
  simp only []
  generalize hp2 : pos + 1 + (numB n.toNat).length + (if tx.data.toList = [] then [] else numB tx.data.toList.length ++ tx.data.toList : List UInt8).length = p2 at h4 ⊢
  have hk : (if 128 ≤ hd0 then rdKidsN bs (rdItem bs f) p2 (items + 1) else .ok [] p2 (items + 1)) = .ok ks (p2 + (if ks.length = 0 then [] else numB ks.length ++ encL ks : List UInt8).length) (items + 1 + iszL ks) := by
   by_cases q : ks.length = 0
   ·rw [if_neg (fun h => (b7.1 h) q), if_pos q, List.length_eq_zero_iff.1 q, iszL]; rfl
   ·rw [if_pos (b7.2 q), if_neg q, List.length_append]
    rw [if_neg q, List.append_assoc] at h4
    have hkl := len_iszE ks
    rw [rdKidsN, rdN_enc h4 (by omega) (by omega) (by omega)]
    simp only []
    rw [rdKids_enc R ks [] _ _ _ (drop_more h4) g6 (by omega) (by omega)]
    rw [List.nil_append, Nat.add_assoc]
  rw [hk]
  simp only [Rd.ok.injEq]
  refine ⟨?_, ?_, ?_⟩
  ·rw [Int.toNat_of_nonneg (by omega), Int.toNat_of_nonneg (by omega)]
  ·rw [encI, List.length_cons, List.length_append, List.length_append, ← hp2]
   omega
  ·rw [isz]; omega
/-! ### Bytes that are cut off -/
theorem get_take {bs : List UInt8} {m p : Nat} : (bs.take m)[p]? = if p < m then bs[p]? else none := List.getElem?_take
def cutR {α : Type} (m p : Nat) (r : Rd α) : Rd α := if p ≤ m then r else .bad m 4
theorem rdNum_take {bs : List UInt8} {least most frm items m : Nat} (hm : m ≤ bs.length) : ∀ (k i pos n v p it : Nat), rdNum bs least most frm items k i pos n = .ok v p it → pos ≤ m → rdNum (bs.take m) least most frm items k i pos n = cutR m p (.ok v p it)
 | 0, _, _, _, _, _, _, h, _ => by cases h
 | k + 1, i, pos, n, v, p, it, h, hp => by
  rw [rdNum] at h ⊢
  rw [get_take]
  by_cases q : pos < m
  ·rw [if_pos q]
   split at h
   ·cases h
   ·next c hc =>
    split at h
    ·next h1 =>
     simp only [hc, if_pos h1]
     exact rdNum_take hm _ _ _ _ _ _ _ h (by omega)
    ·next h1 =>
     split at h
     ·cases h
     ·next h2 =>
      split at h
      ·cases h
      ·next h3 =>
       split at h
       ·cases h
       ·next h4 =>
        cases h
        simp only [hc, if_neg h1, if_neg h2, if_neg h3, if_neg h4, cutR]
        rw [if_pos (by omega)]
  ·rw [if_neg q]
   have := (rdNum_ok (bs := bs) (least := least) (most := most) (frm := frm) (items := items) (k + 1) i pos n v p it (by rw [rdNum]; exact h)).1
   obtain rfl : pos = m := by omega
   simp only [cutR]
   rw [if_neg (by omega)]
theorem rdN_take {bs : List UInt8} {least most pos items m v p it : Nat} (hm : m ≤ bs.length) (h : rdN bs least most pos items = .ok v p it) (hp : pos ≤ m) : rdN (bs.take m) least most pos items = cutR m p (.ok v p it) := rdNum_take hm _ _ _ _ _ _ _ h hp
theorem rdText_take {bs : List UInt8} {pos items m p it : Nat} {v : ByteArray} (hm : m ≤ bs.length) (h : rdText bs pos items = .ok v p it) (hp : pos ≤ m) : rdText (bs.take m) pos items = cutR m p (.ok v p it) := by
 rw [rdText] at h ⊢
 split at h
 ·cases h
 ·next n q it' hn =>
  obtain ⟨a1, a2, a3, a4, a5⟩ := rdN_ok hn
  rw [rdN_take hm hn hp]
  split at h
  ·cases h
  ·next hl =>
   cases h
   unfold cutR
   by_cases c1 : q ≤ m
   ·rw [if_pos c1]
    simp only [List.length_take, Nat.min_eq_left hm]
    by_cases c2 : q + n ≤ m
    ·rw [if_neg (by omega), if_pos c2, List.drop_take, List.take_take, Nat.min_eq_left (by omega)]
    ·rw [if_pos (by omega), if_neg c2]
   ·rw [if_neg c1, if_neg (by omega)]
def RdCut (bs : List UInt8) (m f : Nat) (rec rec' : Nat → Nat → Rd Item) : Prop := ∀ (t : Item) (pos items p it : Nat), rec pos items = .ok t p it → pos ≤ m → rec' pos items = cutR m p (.ok t p it)
theorem rdKids_take {bs : List UInt8} {m f : Nat} {rec rec' : Nat → Nat → Rd Item} (R : RdOk bs f rec) (C : RdCut bs m f rec rec') : ∀ (n : Nat) (acc : List Item) (pos items : Nat) (ks : List Item) (p it : Nat), rdKids rec n acc pos items = .ok ks p it → pos ≤ m → rdKids rec' n acc pos items = cutR m p (.ok ks p it)
 | 0, acc, pos, items, ks, p, it, h, hp => by
  rw [rdKids] at h ⊢
  cases h
  rw [cutR, if_pos hp]
 | n + 1, acc, pos, items, ks, p, it, h, hp => by
  rw [rdKids] at h ⊢
  split at h
  ·cases h
  ·next t q it' ht =>
   rw [C _ _ _ _ _ ht hp]
   unfold cutR
   by_cases c : q ≤ m
   ·rw [if_pos c]
    exact rdKids_take R C n _ _ _ _ _ _ h c
   ·rw [if_neg c]
    have hq := rdKids_mono R n _ _ _ _ _ _ h
    rw [if_neg (by omega)]
theorem rdItem_take {bs : List UInt8} {m : Nat} (hm : m ≤ bs.length) : ∀ f, RdCut bs m f (rdItem bs f) (rdItem (bs.take m) f)
 | 0 => by
  intro t pos items p it h hp
  rw [rdItem] at h
  split at h <;> cases h
 | f + 1 => by
  have C := rdItem_take hm f
  have R := rdItem_ok bs f
  intro t pos items p it h hp
  have hpp := ((rdItem_ok bs (f + 1)).1 _ _ _ _ _ h).1
  rw [rdItem] at h ⊢
  rw [get_take]
  split at h
  ·cases h
  ·next hd hhd =>
   by_cases q : pos < m
   rotate_left
   ·rw [if_neg q]
    obtain rfl : pos = m := by omega
    rw [cutR, if_neg (by omega)]
   rw [if_pos q, hhd]
   split at h
   ·cases h
   ·next h1 =>
    split at h
    ·cases h
    ·next h2 =>
     simp only [if_neg h1, if_neg h2]
     split at h
     ·cases h
     ·next n p1 i1 hn =>
      obtain ⟨a1, a2, a3, _, a5⟩ := rdN_ok hn
      rw [rdN_take hm hn (by omega)]
      split at h
      ·cases h
      ·next tx p2 i2 ht =>
       split at h
       ·cases h
       ·next ks p3 i3 hks =>
        cases h
        have ht2 : p1 ≤ p2 := by
         split at ht
         ·exact Nat.le_of_lt (rdText_ok ht).1
         ·cases ht; exact Nat.le_refl _
        have hk2 : p2 ≤ p := by
         split at hks
         ·rw [rdKidsN] at hks
          split at hks
          ·cases hks
          ·next hq => have := (rdN_ok hq).1; have := rdKids_mono R _ _ _ _ _ _ _ hks; omega
         ·cases hks; exact Nat.le_refl _
        by_cases c1 : p1 ≤ m
        rotate_left
        ·simp only [cutR, if_neg c1]
         rw [if_neg (by omega)]
        simp only [cutR, if_pos c1]
        have ht' : (if hd.toNat / 64 % 2 = 1 then rdText (bs.take m) p1 i1 else .ok ⟨⟨[]⟩⟩ p1 i1) = cutR m p2 (.ok tx p2 i2) := by
         split at ht
         ·next c => rw [if_pos c]; exact rdText_take hm ht c1
         ·next c => cases ht; rw [if_neg c, cutR, if_pos c1]
        rw [ht']
        by_cases c2 : p2 ≤ m
        rotate_left
        ·simp only [cutR, if_neg c2]
         rw [if_neg (by omega)]
        simp only [cutR, if_pos c2]
        have hk' : (if 128 ≤ hd.toNat then rdKidsN (bs.take m) (rdItem (bs.take m) f) p2 i2 else .ok [] p2 i2) = cutR m p (.ok ks p it) := by
         split at hks
         ·next c =>
          rw [if_pos c]
          rw [rdKidsN] at hks ⊢
          split at hks
          ·cases hks
          ·next k4 p4 i4 hq =>
           obtain ⟨b1, _⟩ := rdN_ok hq
           have := rdKids_mono R _ _ _ _ _ _ _ hks
           rw [rdN_take hm hq c2]
           by_cases c3 : p4 ≤ m
           ·simp only [cutR, if_pos c3]
            exact rdKids_take R C _ _ _ _ _ _ _ hks c3
           ·simp only [cutR, if_neg c3]
            rw [if_neg (by omega)]
         ·next c => cases hks; rw [if_neg c, cutR, if_pos c2]
        rw [hk']
        by_cases c3 : p ≤ m
        ·simp only [cutR, if_pos c3]
        ·simp only [cutR, if_neg c3]
end Go.Hs
/- Items with short texts; their bytes one behind the other, whole or cut off: the law on streams, in plain Lean. -/
namespace Go.Hs
theorem numB_le : ∀ (k n : Nat), n < 128 ^ k → (numB n).length ≤ k + 1 := by
 intro k
 induction k with
 | zero => intro n hn; rw [Nat.pow_zero] at hn; rw [numB_small (by omega : n < 128)]; simp
 | succ k ih =>
  intro n hn
  by_cases h : n < 128
  ·rw [numB_small h]; simp
  ·rw [numB_large h, List.length_cons]
   have := ih (n / 128) (by rw [Nat.pow_succ] at hn; omega)
   omega
theorem encI_form (k n : Int) (tx : ByteArray) (ks : List Item) : ∃ hd tB kB, encI (.mk k n tx ks) = hd :: (numB n.toNat ++ (tB ++ kB)) ∧ tB.length ≤ (numB tx.data.toList.length).length + tx.data.toList.length ∧ kB.length ≤ (numB ks.length).length + (encL ks).length := by
 rw [encI]
 refine ⟨_, _, _, rfl, ?_, ?_⟩
 ·split
  ·simp
  ·rw [List.length_append]; omega
 ·split
  ·simp
  ·rw [List.length_append]; omega
theorem encI_pos (t : Item) : 1 ≤ (encI t).length := by
 obtain ⟨k, n, tx, ks⟩ := t
 obtain ⟨hd, tB, kB, e, _⟩ := encI_form k n tx ks
 rw [e, List.length_cons]; omega
mutual
theorem encI_short : ∀ {t : Item}, smlI t → isz t ≤ 5000 → (encI t).length ≤ 100 * isz t
 | .mk k n tx ks, h, hz => by
  rw [smlI] at h
  obtain ⟨g1, g2, g3, g4, g5, g6⟩ := h
  rw [isz] at hz ⊢
  have ih := encL_short g6 (by omega)
  obtain ⟨hd, tB, kB, e, h1, h2⟩ := encI_form k n tx ks
  have a1 := numB_le 9 n.toNat (by omega)
  have a2 := numB_le 9 tx.data.toList.length (by omega)
  have a3 := numB_le 9 ks.length (by have := len_iszE ks; omega)
  rw [e, List.length_cons, List.length_append, List.length_append]
  omega
theorem encL_short : ∀ {ks : List Item}, smlL ks → iszL ks ≤ 5000 → (encL ks).length ≤ 100 * iszL ks
 | [], _, _ => by rw [encL]; simp
 | x :: xs, h, hz => by
  rw [smlL] at h
  rw [iszL] at hz ⊢
  rw [encL, List.length_append]
  have := encI_short h.1 (by omega)
  have := encL_short h.2 (by omega)
  omega
end
theorem encL_app : ∀ (a b : List Item), encL (a ++ b) = encL a ++ encL b
 | [], b => by rw [List.nil_append, encL, List.nil_append]
 | x :: a, b => by rw [List.cons_append, encL, encL, encL_app a b, List.append_assoc]
theorem encL_one (x : Item) : encL [x] = encI x := by rw [encL, encL, List.append_nil]
def fineL (ts : List Item) : Prop := ∀ t ∈ ts, goodI t ∧ lvlI t ≤ 250 ∧ isz t ≤ 5000
theorem splL_enc {bs : List UInt8} : ∀ (ts acc : List Item) (pos k : Nat), fineL ts → bs.drop pos = encL ts → pos ≤ bs.length → ts.length ≤ k → splL bs k pos acc = .ok (acc ++ ts) bs.length 0
 | [], acc, pos, k, _, hd, hp, _ => by
  rw [encL] at hd
  have : bs.length ≤ pos := List.drop_eq_nil_iff.1 hd
  obtain rfl : pos = bs.length := by omega
  cases k with
  | zero => rw [splL, List.append_nil]
  | succ k => rw [splL, if_neg (by omega), List.append_nil]
 | t :: ts, acc, pos, 0, _, _, _, hk => by simp at hk
 | t :: ts, acc, pos, k + 1, hf, hd, hp, hk => by
  rw [encL] at hd
  have hl : (bs.drop pos).length = (encI t).length + (encL ts).length := by rw [hd, List.length_append]
  rw [List.length_drop] at hl
  have hpos := encI_pos t
  obtain ⟨f1, f2, f3⟩ := hf t (by simp)
  have hr := rdItem_enc bs 250 t pos 0 (encL ts) hd f1 f2 (by omega)
  rw [splL, if_pos (by omega), hr]
  have := splL_enc ts (acc ++ [t]) (pos + (encI t).length) k (fun x hx => hf x (by simp [hx])) (drop_more hd) (by omega) (by simpa using hk)
  rw [List.append_assoc] at this
  exact this
theorem splR_enc {ts : List Item} (hf : fineL ts) (hl : (encL ts).length ≤ 65536) : splR (encL ts) = .ok ts (encL ts).length 0 := by
 have hk : ∀ ts : List Item, ts.length ≤ (encL ts).length := by
  intro ts
  induction ts with
  | nil => simp
  | cons t ts ih => rw [encL, List.length_append, List.length_cons]; have := encI_pos t; omega
 rw [splR, if_neg (by omega), splL_enc ts [] 0 _ hf rfl (Nat.zero_le _) (hk ts)]
 rfl
theorem splL_cut {bs : List UInt8} {m : Nat} (hm : m ≤ bs.length) : ∀ (ts acc : List Item) (pos k : Nat), fineL ts → bs.drop pos = encL ts → pos ≤ m → m ≤ pos + k →
  (∀ i, i ≤ ts.length → pos + (encL (ts.take i)).length = m → splL (bs.take m) k pos acc = .ok (acc ++ ts.take i) m 0) ∧
  ((∀ i, i ≤ ts.length → pos + (encL (ts.take i)).length ≠ m) → splL (bs.take m) k pos acc = .bad m 4) := by
 intro ts
 have hlt : (bs.take m).length = m := by rw [List.length_take]; omega
 have stop : ∀ k acc, splL (bs.take m) k m acc = .ok acc m 0 := by
  intro k acc
  cases k with
  | zero => rw [splL]
  | succ k => rw [splL, if_neg (by omega)]
 induction ts with
 | nil =>
  intro acc pos k _ hd hp _
  rw [encL] at hd
  have : bs.length ≤ pos := List.drop_eq_nil_iff.1 hd
  obtain rfl : pos = m := by omega
  exact ⟨fun i _ _ => by rw [stop]; simp, fun h => absurd (show pos + (encL (([] : List Item).take 0)).length = pos by rw [List.take_nil, encL]; rfl) (h 0 (Nat.zero_le _))⟩
 | cons t ts ih =>
  intro acc pos k hf hd hp hk
  rw [encL] at hd
  obtain ⟨f1, f2, f3⟩ := hf t (by simp)
  have hpos := encI_pos t
  have hr := rdItem_enc bs 250 t pos 0 (encL ts) hd f1 f2 (by omega)
  have ht := rdItem_take hm 250 t pos 0 _ _ hr hp
  have l0 : (encL ((t :: ts).take 0)).length = 0 := by rw [List.take_zero, encL]; rfl
  have ls : ∀ i, (encL ((t :: ts).take (i + 1))).length = (encI t).length + (encL (ts.take i)).length := fun i => by
   rw [List.take_succ_cons, encL, List.length_append]
  by_cases hq : pos = m
  ·subst hq
   refine ⟨fun i hi he => ?_, fun h => absurd (by rw [l0, Nat.add_zero]) (h 0 (Nat.zero_le _))⟩
   cases i with
   | zero => rw [stop, List.take_zero, List.append_nil]
   | succ i => rw [ls] at he; omega
  ·have hlt2 : pos < m := by omega
   cases k with
   | zero => omega
   | succ k =>
    rw [splL, if_pos (by omega), ht, cutR]
    by_cases hc : pos + (encI t).length ≤ m
    ·rw [if_pos hc]
     obtain ⟨i1, i2⟩ := ih (acc ++ [t]) (pos + (encI t).length) k (fun x hx => hf x (by simp [hx])) (drop_more hd) hc (by omega)
     refine ⟨fun i hi he => ?_, fun h => ?_⟩
     ·cases i with
      | zero => rw [l0] at he; omega
      | succ i =>
       rw [ls] at he
       have := i1 i (by simpa using hi) (by omega)
       rw [List.append_assoc] at this
       exact this
     ·exact i2 fun i hi he => h (i + 1) (by simpa using hi) (by rw [ls]; omega)
    ·rw [if_neg hc]
     refine ⟨fun i hi he => ?_, fun _ => rfl⟩
     cases i with
     | zero => rw [l0] at he; omega
     | succ i => rw [ls] at he; omega
def endsL (ts : List Item) : List Nat := (List.range ts.length).map fun j => (encL (ts.take (j + 1))).length
theorem endsL_snoc (ts : List Item) (t : Item) : endsL (ts ++ [t]) = endsL ts ++ [(encL (ts ++ [t])).length] := by
 unfold endsL
 rw [List.length_append, List.length_singleton, List.range_succ, List.map_append, List.map_singleton]
 congr 1
 ·refine List.map_congr_left fun j hj => ?_
  have := List.mem_range.1 hj
  rw [List.take_append_of_le_length (by omega)]
 ·rw [List.take_of_length_le (by simp)]
theorem endsL_len (ts : List Item) : (endsL ts).length = ts.length := by simp [endsL]
theorem endsL_get {ts : List Item} {j : Nat} (h : j < ts.length) : (endsL ts)[j]? = some (encL (ts.take (j + 1))).length := by
 unfold endsL
 rw [List.getElem?_map, List.getElem?_range h]; rfl
def idxN (c : Nat) : List Nat → Nat → Int
 | [], _ => -1
 | x :: l, i => if c = x then (i : Int) else idxN c l (i + 1)
theorem idxN_some {c : Nat} : ∀ (l : List Nat) (i : Nat), (∃ j : Nat, idxN c l i = ((i + j : Nat) : Int) ∧ l[j]? = some c) ∨ (idxN c l i = -1 ∧ ∀ j : Nat, l[j]? ≠ some c)
 | [], i => .inr ⟨rfl, fun j => by simp⟩
 | x :: l, i => by
  rw [idxN]
  by_cases h : c = x
  ·rw [if_pos h]
   exact .inl ⟨0, rfl, by rw [h]; rfl⟩
  ·rw [if_neg h]
   rcases idxN_some l (i + 1) with ⟨j, e1, e2⟩ | ⟨e1, e2⟩
   ·exact .inl ⟨j + 1, by rw [e1]; congr 1; omega, e2⟩
   ·refine .inr ⟨e1, fun j hj => ?_⟩
    cases j with
    | zero => exact h (by cases hj; rfl)
    | succ j => exact e2 j hj
theorem splR_cut {ts : List Item} {m : Nat} (hf : fineL ts) (hl : (encL ts).length ≤ 65536) (hm : m ≤ (encL ts).length) :
  ((m = 0 ∨ 0 ≤ idxN m (endsL ts) 0) → ∃ k, k ≤ ts.length ∧ splR ((encL ts).take m) = .ok (ts.take k) m 0 ∧ (k : Int) = idxN m (endsL ts) 0 + 1) ∧
  (¬ (m = 0 ∨ 0 ≤ idxN m (endsL ts) 0) → splR ((encL ts).take m) = .bad m 4) := by
 have hlt : ((encL ts).take m).length = m := by rw [List.length_take]; omega
 obtain ⟨c1, c2⟩ := splL_cut (bs := encL ts) hm ts [] 0 m hf rfl (Nat.zero_le _) (by omega)
 have e0 : splR ((encL ts).take m) = splL ((encL ts).take m) m 0 [] := by rw [splR, if_neg (by omega), hlt]
 rw [e0]
 have gt : ∀ {j : Nat} {v : Nat}, (endsL ts)[j]? = some v → j < ts.length ∧ v = (encL (ts.take (j + 1))).length := fun {j v} h => by
  have hj : j < ts.length := by rw [← endsL_len ts]; exact (List.getElem?_eq_some_iff.1 h).1
  rw [endsL_get hj] at h
  exact ⟨hj, by cases h; rfl⟩
 rcases idxN_some (c := m) (endsL ts) 0 with ⟨j, e1, e2⟩ | ⟨e1, e2⟩
 ·obtain ⟨hj, hv⟩ := gt e2
  refine ⟨fun _ => ⟨j + 1, hj, ?_, ?_⟩, fun h => absurd (.inr (by rw [e1]; omega)) h⟩
  ·have := c1 (j + 1) hj (by omega)
   rw [List.nil_append] at this
   exact this
  ·rw [e1]; omega
 ·refine ⟨fun h => ?_, fun h => ?_⟩
  ·rcases h with rfl | h
   ·refine ⟨0, Nat.zero_le _, ?_, by rw [e1]; rfl⟩
    have := c1 0 (Nat.zero_le _) (by rw [List.take_zero, encL]; rfl)
    rw [List.nil_append] at this
    exact this
   ·rw [e1] at h; omega
  ·refine c2 fun i hi he => ?_
   cases i with
   | zero => rw [List.take_zero, encL] at he; exact h (.inl (by simpa using he.symm))
   | succ i => exact e2 i (by rw [endsL_get (by omega)]; rw [Nat.zero_add] at he; rw [he])
end Go.Hs
/- Cells of own blocks that are read and written, by rewriting. -/
namespace Go.Hs
section
variable {D : Tab} {E : Env}
theorem aadd_own (k i j : Nat) : aadd (aadd (own k) i) j = aadd (own k) (i + j) := by
 show (⟨k, 0 + i + j, some 0⟩ : Addr) = ⟨k, 0 + (i + j), some 0⟩
 rw [Nat.add_assoc]
theorem one_of {v : Value} (h : isOne v = true) : one? (some v) = some v := by simp only [one?, h]
theorem cell_blk {g : H} {k : Nat} {xs : List Value} {ty : TypeId} {rt : Option (Nat × Nat)} (hb : g.blk k = some (.cells xs ty rt)) (i : Nat) : g.cell E (aadd (own k) i) = one? xs[i]? := by
 simp only [H.cell, aadd, own, hb, Nat.zero_add]
theorem cell_blk0 {g : H} {k : Nat} {xs : List Value} {ty : TypeId} {rt : Option (Nat × Nat)} (hb : g.blk k = some (.cells xs ty rt)) : g.cell E (own k) = one? xs[0]? := by
 simp only [H.cell, own, hb]
theorem Hx : (∀ (E : Env) (h : H) (a : Addr), (fresh h).cell E a = h.cell E a) ∧ (∀ (E : Env) (h : H) (a : Addr) (n : Nat), (fresh h).cells E a n = h.cells E a n) ∧ (∀ h : H, (fresh h).next = h.next) ∧ (∀ k i j : Nat, aadd (aadd (own k) i) j = aadd (own k) (i + j)) ∧ (∀ k : Nat, aadd (own k) 0 = own k) ∧
  (∀ (k : IntKind) (n : Int), one? (some (.int k n)) = some (.int k n)) ∧ (∀ s : ByteArray, one? (some (.string s)) = some (.string s)) ∧ (∀ (b : Option Addr) (n c : Nat), one? (some (.slice b n c)) = some (.slice b n c)) ∧ (∀ b : Option Addr, one? (some (.pointer b)) = some (.pointer b)) ∧ (∀ (f : Fn) (a b : Array Value), one? (some (.func f a b)) = some (.func f a b)) ∧ (∀ b : Bool, one? (some (.bool b)) = some (.bool b)) :=
 ⟨fun _ _ _ => rfl, fun _ _ _ _ => rfl, fun _ => rfl, aadd_own, fun _ => rfl, fun _ _ => rfl, fun _ => rfl, fun _ _ _ => rfl, fun _ => rfl, fun _ _ _ => rfl, fun _ => rfl⟩
theorem Gx : (∀ (A : Ac) (d t : Tmp) (v : Value), d ≠ t → (A.put (some d) v).get t = A.get t) ∧ (∀ (A : Ac) (d : Tmp) (v : Value), d < A.n → (A.put (some d) v).get d = v) ∧ (∀ (A : Ac) (v : Value) (t : Tmp), (A.put none v).get t = A.get t) :=
 ⟨fun A d t v h => by rw [Ac.get_put]; simp [h], fun A d v h => by rw [Ac.get_put]; simp [h], fun A v t => by rw [Ac.get_put]⟩
theorem astore_one {t : TypeId} {i : TI} (ht : D.ty.get t = some i) (hs : i.size = 1) {g : H} {k o : Nat} {xs ys : List Value} {ty : TypeId} {v : Value} (hb : g.blk k = some (.cells xs ty none)) (hv : v.cells.toList = [v]) (h1 : isOne v = true) (hl : o < xs.length) (hy : xs.take o ++ [v] ++ xs.drop (o + 1) = ys) : astore D t (aadd (own k) o) v g = some (g.setl k (.cells ys ty none)) := by
 unfold astore
 simp only [ht, hs, hv]
 rw [← hy]
 exact put_setl hb (by simp) (by simp only [List.length_singleton]; omega) (by simp [h1])
theorem astore_all {t : TypeId} {i : TI} (ht : D.ty.get t = some i) {g : H} {k : Nat} {xs ys : List Value} {ty : TypeId} (hb : g.blk k = some (.cells xs ty none)) (hs : i.size = ys.length) (hl : ys.length = xs.length) (h1 : ys.all isOne = true) (hn : ys ≠ []) : astore D t (own k) (.agg ⟨ys⟩) g = some (g.setl k (.cells ys ty none)) := by
 unfold astore
 have e : Nat.beq (Value.agg ⟨ys⟩).cells.toList.length i.size = true := by
  rw [hs]; exact Nat.beq_refl _
 simp only [ht, e]
 exact put_own_setl hb hn hl h1
theorem setl_above {h : H} {k : Nat} {B : Blk} (hm : h.mark ≤ k) : h.setl k B = h.setb k B :=
 note_above (h := h.setb k B) (fun j hj => by simp at hj; subst hj; exact hm)
theorem Ahd.setl {h g : H} (s : Ahd h g) {k : Nat} {B : Blk} (hB : B.plain = true) (hk : h.next ≤ k) (hg : k < g.next) (f : Fit h) : Ahd h (g.setl k B) := by
 rw [setl_above (by rw [s.mark]; exact Nat.le_trans f.ok.2 hk)]
 exact s.setb hB hk hg f
end
end Go.Hs
/- Bits of numbers, reckoned. -/
namespace Go.Hs
theorem wrapU8 {x : Nat} (h : x < 256) : IntKind.u8.wrap (x : Nat) = (x : Nat) := by
 simp only [IntKind.wrap, IntKind.bits, IntKind.signed]
 simp
 omega
theorem wrapN {x : Nat} (h : x < 9223372036854775808) : IntKind.i64.wrap (x : Nat) = (x : Nat) := wrap64 (by omega) (by omega)
theorem and_u8 (c m : Nat) (h : c < 256) (hm : m < 256) : IntKind.u8.wrap (((BitVec.ofInt IntKind.u8.bits (c : Int) &&& BitVec.ofInt IntKind.u8.bits (m : Int)).toNat : Nat) : Int) = ((c &&& m : Nat) : Int) := by
 have e : (BitVec.ofInt IntKind.u8.bits (c : Int) &&& BitVec.ofInt IntKind.u8.bits (m : Int)).toNat = c &&& m := by
  rw [BitVec.ofInt_natCast, BitVec.ofInt_natCast, BitVec.toNat_and, BitVec.toNat_ofNat, BitVec.toNat_ofNat]
  rw [show 2 ^ IntKind.u8.bits = 256 from rfl, Nat.mod_eq_of_lt h, Nat.mod_eq_of_lt hm]
 rw [e]
 exact wrapU8 (Nat.lt_of_le_of_lt Nat.and_le_left h)
theorem and127 (c : Nat) (h : c < 256) : IntKind.u8.wrap (((BitVec.ofInt IntKind.u8.bits (c : Int) &&& BitVec.ofInt IntKind.u8.bits 127).toNat : Nat) : Int) = ((c % 128 : Nat) : Int) := by
 have := and_u8 c 127 h (by omega)
 rw [show c &&& 127 = c % 128 from Nat.and_two_pow_sub_one_eq_mod c 7] at this
 exact this
theorem and63 (c : Nat) (h : c < 256) : IntKind.u8.wrap (((BitVec.ofInt IntKind.u8.bits (c : Int) &&& BitVec.ofInt IntKind.u8.bits 63).toNat : Nat) : Int) = ((c % 64 : Nat) : Int) := by
 have := and_u8 c 63 h (by omega)
 rw [show c &&& 63 = c % 64 from Nat.and_two_pow_sub_one_eq_mod c 6] at this
 exact this
theorem and_64 : ∀ c : Nat, c < 256 → c &&& 64 = 64 * (c / 64 % 2) := by decide +kernel
theorem and_128 : ∀ c : Nat, c < 256 → c &&& 128 = 128 * (c / 128) := by decide +kernel
theorem and64 (c : Nat) (h : c < 256) : IntKind.u8.wrap (((BitVec.ofInt IntKind.u8.bits (c : Int) &&& BitVec.ofInt IntKind.u8.bits 64).toNat : Nat) : Int) = ((64 * (c / 64 % 2) : Nat) : Int) := by
 have := and_u8 c 64 h (by omega)
 rw [and_64 c h] at this
 exact this
theorem and128 (c : Nat) (h : c < 256) : IntKind.u8.wrap (((BitVec.ofInt IntKind.u8.bits (c : Int) &&& BitVec.ofInt IntKind.u8.bits 128).toNat : Nat) : Int) = ((128 * (c / 128) : Nat) : Int) := by
 have := and_u8 c 128 h (by omega)
 rw [and_128 c h] at this
 exact this
theorem pow128 (i : Nat) : 128 ^ i = 2 ^ (7 * i) := by rw [Nat.pow_mul]
theorem pow128_le {i j : Nat} (h : i ≤ j) : 128 ^ i ≤ 128 ^ j := Nat.pow_le_pow_right (by decide) h
theorem shl7 (m i : Nat) (hm : m < 128) (hi : i ≤ 5) : ashift .shl .i64 (m : Nat) ((7 * i : Nat) : Int) = some (.int .i64 ((m * 128 ^ i : Nat) : Int)) := by
 show some (Value.int .i64 (IntKind.i64.wrap ((m : Int) * 2 ^ min (7 * i) IntKind.i64.bits))) = _
 have e : min (7 * i) IntKind.i64.bits = 7 * i := by
  show min (7 * i) 64 = 7 * i
  omega
 rw [e]
 have e2 : (m : Int) * 2 ^ (7 * i) = ((m * 128 ^ i : Nat) : Int) := by
  rw [pow128]; push_cast; rfl
 have h1 := pow128_le hi
 have h2 : m * 128 ^ i ≤ 127 * 128 ^ 5 := Nat.mul_le_mul (by omega) h1
 rw [e2, wrapN (by omega)]
theorem or7 (x m i : Nat) (hx : x < 128 ^ i) (hm : m < 128) (hi : i ≤ 5) : IntKind.i64.wrap (((BitVec.ofInt IntKind.i64.bits (x : Int) ||| BitVec.ofInt IntKind.i64.bits ((m * 128 ^ i : Nat) : Int)).toNat : Nat) : Int) = ((x + m * 128 ^ i : Nat) : Int) := by
 have h1 := pow128_le hi
 have h2 : m * 128 ^ i ≤ 127 * 128 ^ 5 := Nat.mul_le_mul (by omega) h1
 have e : (BitVec.ofInt IntKind.i64.bits (x : Int) ||| BitVec.ofInt IntKind.i64.bits ((m * 128 ^ i : Nat) : Int)).toNat = x + m * 128 ^ i := by
  rw [BitVec.ofInt_natCast, BitVec.ofInt_natCast, BitVec.toNat_or, BitVec.toNat_ofNat, BitVec.toNat_ofNat]
  rw [show 2 ^ IntKind.i64.bits = 18446744073709551616 from rfl, Nat.mod_eq_of_lt (by omega), Nat.mod_eq_of_lt (by omega), Nat.or_comm]
  rw [pow128] at hx ⊢
  rw [Nat.mul_comm m, ← Nat.two_pow_add_eq_or_of_lt hx m, Nat.add_comm]
 rw [e, wrapN (by omega)]
def calmBut (S : List Nat) : Nat → List Tch → Bool
 | _, [] => true
 | i, t :: ts => (S.contains i || calm t) && calmBut S (i + 1) ts
theorem calmBut_get {S : List Nat} : ∀ (ts : List Tch) (o i : Nat) (e : Tch), calmBut S o ts = true → ts[i]? = some e → S.contains (o + i) = false → calm e = true
 | [], _, _, _, _, h, _ => by simp at h
 | t :: ts, o, 0, e, hc, h, hs => by
  simp at h
  subst h
  simp only [calmBut, Bool.and_eq_true] at hc
  rw [Nat.add_zero] at hs
  rw [hs, Bool.false_or] at hc
  exact hc.1
 | t :: ts, o, i + 1, e, hc, h, hs => by
  simp only [calmBut, Bool.and_eq_true] at hc
  rw [List.getElem?_cons_succ] at h
  exact calmBut_get ts (o + 1) i e hc.2 h (by rw [show o + 1 + i = o + (i + 1) by omega]; exact hs)
theorem allMeet_but {b : Array Nat} {ts : List Tch} (S : List Nat) (n : Nat) (U : List (Nat × Nat)) (hn : ts.length = n) (hc : calmBut S 0 ts = true) (hp : ((List.range n).all fun i => (List.range n).all fun j => !(Nat.blt i j) || !(S.contains i || S.contains j) || ordered b i j || U.contains (i, j)) = true)
  (hU : ∀ i j s t, (i, j) ∈ U → ts[i]? = some s → ts[j]? = some t → meets s t = true) : allMeet b ts = true := by
 refine allMeet_by S (fun i e hi hs => calmBut_get ts 0 i e hc hi (by rw [Nat.zero_add]; exact hs)) (fun i j s t hij hs w1 w2 ho => ?_)
 have hj : j < n := by rw [← hn]; exact (List.getElem?_eq_some_iff.1 w2).1
 exact hU i j s t (pairs_of hp hij hj hs ho) w1 w2
theorem allMeet_but0 {b : Array Nat} {ts : List Tch} (S : List Nat) (n : Nat) (hn : ts.length = n) (hc : calmBut S 0 ts = true) (hp : ((List.range n).all fun i => (List.range n).all fun j => !(Nat.blt i j) || !(S.contains i || S.contains j) || ordered b i j || ([] : List (Nat × Nat)).contains (i, j)) = true) : allMeet b ts = true :=
 allMeet_but S n [] hn hc hp (fun _ _ _ _ h => by cases h)
end Go.Hs
