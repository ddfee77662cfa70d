/- Items that are right; loops of a function. -/
import Derived.Test.YtofijpbmbmbnhaaDoorHsaf
set_option linter.unusedSimpArgs false
set_option linter.unusedVariables false
namespace Go.Hs

/-- The bodies of all loops of a piece of code, in order. -/
def loops : Code → List Code
  | .seq a b => loops a ++ loops b
  | .cond _ a b => loops a ++ loops b
  | .block _ c => loops c
  | .scope c => loops c
  | .loop c => c :: loops c
  | .rangeFunc _ _ a b => loops a ++ loops b
  | _ => []
def loopAt (f : Func) (n : Nat) : Code := match f.body with
  | some c => (loops c).getD n .skip
  | none => .skip

mutual
def goodI : Item → Prop
  | .mk k n tx ks => 1 ≤ k ∧ k ≤ 63 ∧ 0 ≤ n ∧ n ≤ 1099511627776 ∧ tx.data.toList.length ≤ 4096 ∧ goodL ks
def goodL : List Item → Prop
  | [] => True
  | x :: xs => goodI x ∧ goodL xs
end
theorem goodL_append : ∀ {xs : List Item} {y : Item}, goodL xs → goodI y → goodL (xs ++ [y])
  | [], y, _, hy => by rw [List.nil_append, goodL, goodL]; exact ⟨hy, trivial⟩
  | x :: xs, y, h, hy => by
    rw [goodL] at h
    rw [List.cons_append, goodL]
    exact ⟨h.1, goodL_append h.2 hy⟩
theorem iszL_append : ∀ (xs : List Item) (y : Item), iszL (xs ++ [y]) = iszL xs + isz y
  | [], y => by simp [iszL]
  | x :: xs, y => by rw [List.cons_append, iszL, iszL_append xs y, iszL]; omega
mutual
theorem chkI_good : ∀ (t : Item) (b l : Int), goodI t → 0 ≤ b → b + isz t ≤ 5000 → l - 1 + lvlI t ≤ 250 → (chkI t b l).2 = 0
  | .mk k n tx ks, b, l, hg, h0, h1, h2 => by
    rw [goodI] at hg
    obtain ⟨g1, g2, g3, g4, g5, g6⟩ := hg
    rw [isz] at h1
    rw [lvlI] at h2
    have hb := lvlL_bound ks 0 (Int.le_refl _)
    rw [chkI, if_neg (by omega), if_neg (by push_cast at h1; omega), if_neg (by omega), if_neg (by omega)]
    exact chkL_good ks (b + 1) (l + 1) g6 (by omega) (by push_cast at h1; omega) (by omega)
theorem chkL_good : ∀ (ks : List Item) (b l : Int), goodL ks → 0 ≤ b → b + iszL ks ≤ 5000 → l - 1 + lvlL ks 0 ≤ 250 → (chkL ks b l).2 = 0
  | [], b, l, _, _, _, _ => by rw [chkL]
  | x :: xs, b, l, hg, h0, h1, h2 => by
    rw [goodL] at hg
    rw [iszL] at h1
    push_cast at h1
    have hx := lvlI_bound x
    rw [lvlL, if_pos (by omega)] at h2
    have hm := lvlL_max xs (lvlI x) (by omega)
    have e := chkI_good x b l hg.1 h0 (by omega) (by omega)
    have es := chkI_size x b l e
    rw [chkL, if_neg (by rw [e]; simp), es]
    exact chkL_good xs (b + isz x) l hg.2 (by omega) (by omega) (by omega)
end
theorem lvlL_append (xs : List Item) (y : Item) : lvlL (xs ++ [y]) 0 = max (lvlL xs 0) (lvlI y) := by
  have key : ∀ (xs : List Item) (m : Int), lvlL (xs ++ [y]) m = (if lvlI y > lvlL xs m then lvlI y else lvlL xs m) := by
    intro xs
    induction xs with
    | nil => intro m; simp only [List.nil_append, lvlL]; rfl
    | cons x xs ih => intro m; rw [List.cons_append, lvlL, ih, lvlL]
  rw [key]
  split <;> omega

theorem back_chain (h g : H) (r : Nat) : (back h g).chain r = g.chain r := by
  unfold back H.chain
  rw [note_chains]
theorem back_fit {h q : H} (f : Fit h) (fq : Fit q) (hn : h.next ≤ q.next) : Fit (back h q) := by
  refine ⟨fun k hk => ?_, ⟨fun k xs ty r p hd => ?_, ?_⟩⟩
  · rw [back_next] at hk
    rw [back_dyn]; exact fq.free k hk
  · rw [back_dyn] at hd
    rw [back_next]; exact fq.ok.1 _ _ _ _ _ hd
  · unfold back
    rw [note_mark, H.note_next]
    exact Nat.le_trans f.ok.2 hn
theorem back_only {h q : H} (f : Fit h) (fq : Fit q) (hn : h.next ≤ q.next) (p : Nat → Bool) : Grows (only p q) (only p (back h q)) :=
  only_mono fq (back_fit f fq hn) (fun k B hb _ => by rw [back_blk]; exact hb) (fun _ h => h)
theorem Ap2.back {h q : H} {base : Nat} {e : TypeId} {sz : Nat} {s : Value} {n : Nat} {xs : List Value} {ro : Option Nat} (a : Ap2 q base e sz s n xs ro) : Ap2 (Hs.back h q) base e sz s n xs ro := by
  rcases a with a | ⟨k, r, e1, e2, e3, e4, e5, e6, e7, e8⟩
  · exact .inl a
  · exact .inr ⟨k, r, e1, by rw [back_blk]; exact e2, e3, e4, e5, by rw [back_next]; exact e6, fun j hj => by
      rw [back_chain] at hj
      obtain ⟨ys, ty, p, h1, h2⟩ := e7 j hj
      exact ⟨ys, ty, p, by rw [back_dyn]; exact h1, h2⟩, e8⟩
theorem back_mark (h q : H) : (back h q).mark = h.mark := by unfold back; rw [note_mark]
theorem back_log {h q : H} (hl : q.log = []) : (back h q).log = h.log := by
  unfold back
  rw [hl]
  show (H.note _ []).log = _
  rw [note_nil]
theorem isz_pos (t : Item) : 1 ≤ isz t := by obtain ⟨_, _, _, ks⟩ := t; rw [isz]; omega
theorem len_iszL : ∀ l : List Item, l.length ≤ iszL l
  | [] => by simp [iszL]
  | x :: l => by rw [iszL, List.length_cons]; have := isz_pos x; have := len_iszL l; omega
end Go.Hs
/- Slices that are cloned. -/
namespace Go.Hs

theorem Ahd.newOpen {h : H} (f : Fit h) (xs : List Value) (ty : TypeId) : Ahd h (h.newOpen xs ty) :=
  ⟨newOpen_fit f, fun k B hb => newOpen_old f hb, rfl, rfl, Nat.le_succ _, fun r hr => by
    simp only [H.chain, H.newOpen]
    rw [T.get_set_ne _ _ _ _ (by omega)]⟩

/-- A new block with the cells of a slice; what is behind it is told. -/
structure Cln (h h' : H) (e : TypeId) (n : Nat) (cs : List Value) (s : Value) : Prop where
  ahd : Ahd h h'
  get : ∃ k rt, s = .slice (some (own k)) n n ∧ h'.blk k = some (.cells cs e rt) ∧ h.next ≤ k ∧ (rt = none ∧ n = 0 ∨ rt = some (k, 0) ∧ h'.chain k = [k])

theorem clone_step {D : Tab} {E : Env} {h : H} {t e : TypeId} {sz by_ n c i6 i7 : Nat} {i8 : Option Value} {i9 : Bool} {ze : Value} {cs : List Value} {a : Addr} (f : Fit h)
    (ht : D.ty.get t = some ⟨.slice e sz by_, i6, i7, i8, i9⟩) (hz : tzero D e = some ze) (hzz : (Nat.beq ze.cells.toList.length sz && Nat.blt 0 sz && ze.cells.toList.all isOne) = true)
    (hx : h.cells E a (n * sz) = some cs) (hcl : cs.length = n * sz) (hrm : roomy n by_ = true) :
    ∃ s h', aappend D E t t (.slice (some (own h.next)) 0 0) (.slice (some a) n c) (h.new (.cells [] e none)) = some (s, h') ∧ Cln h h' e n cs s := by
  have a1 : Ahd h (h.new (.cells [] e none)) := Ahd.new0 f rfl
  have b1 : (h.new (.cells [] e none)).blk h.next = some (.cells [] e none) := new_blk_new rfl
  have hx1 : (h.new (.cells [] e none)).cells E a (n * sz) = some cs := cells_grow a1.grows hx
  generalize h.new (.cells [] e none) = h1 at a1 b1 hx1 ⊢
  have hel : aelems E sz ze.cells.toList (.slice (some a) n c) h1 = some (n, cs) := by simp only [aelems, hx1]
  have hbl : Nat.beq cs.length (n * sz) = true := by rw [hcl]; exact Nat.beq_refl _
  have hzt : zeroArg D t (.slice (some a) n c) = some false := by unfold zeroArg; rw [ht]
  cases n with
  | zero =>
    refine ⟨.slice (some (own h.next)) 0 0, h1, ?_, a1, h.next, none, rfl, ?_, Nat.le_refl _, .inl ⟨rfl, rfl⟩⟩
    · unfold aappend
      rw [ht]
      simp only [hz, hzt, hzz, hel, hbl, Nat.ble_self_eq_true]
    · rw [b1]
      have : cs = [] := List.length_eq_zero_iff.1 (by rw [hcl, Nat.zero_mul])
      rw [this]
  | succ n =>
    refine ⟨.slice (some (own h1.next)) (n + 1) (n + 1), h1.newOpen cs e, ?_, a1.trans (Ahd.newOpen a1.fit _ _), h1.next, some (h1.next, 0), rfl, newOpen_new, a1.next, .inr ⟨rfl, by simp only [H.chain, H.newOpen, T.get_set_same, Option.getD]⟩⟩
    unfold aappend
    rw [ht]
    have hb' : h1.blk (own h.next).block = some (.cells [] e none) := b1
    have hr' : roomy (0 + (n + 1)) by_ = true := by rw [Nat.zero_add]; exact hrm
    have hle : Nat.ble (0 + (n + 1)) 0 = false := by
      cases q : Nat.ble (0 + (n + 1)) 0
      · rfl
      · rw [Nat.ble_eq] at q; omega
    have hsp : (own h.next).spot = some 0 := rfl
    simp only [hz, hzt, hzz, hel, hbl, hr', hb', hle, hsp, H.cells, Nat.zero_mul, List.nil_append]
    simp only [Nat.zero_add]

/-- The beginning of a slice that is handed in. -/
theorem aslice_start {D : Tab} {t e : TypeId} {sz by_ n c m i6 i7 : Nat} {i8 : Option Value} {i9 : Bool} {a : Addr} {h : H} (ht : D.ty.get t = some ⟨.slice e sz by_, i6, i7, i8, i9⟩) (hmn : m ≤ n) (hnc : n ≤ c) (hs : a.spot ≠ some 0) :
    ∃ c', m ≤ c' ∧ aslice D t (.slice (some a) n c) none (some (.int .i64 (m : Nat))) none h = some (.slice (some a) m c', h) := by
  have h1 : Nat.ble n c = true := by rw [Nat.ble_eq]; exact hnc
  have h2 : abound (some (.int .i64 (m : Nat))) c n = some m := by
    have : inRange ((m : Nat) : Int) (c + 1) = true := by
      show Nat.blt m (c + 1) = true
      rw [Nat.blt_eq]; omega
    simp only [abound, this, Int.toNat_natCast]
  unfold aslice
  rw [ht]
  have h3 : abound none m 0 = some 0 := rfl
  simp only [h1, asliceS, h2, h3, Nat.zero_mul, Nat.sub_zero]
  obtain ⟨b, o, sp⟩ := a
  have ha : aadd ⟨b, o, sp⟩ 0 = ⟨b, o, sp⟩ := by
    match sp with
    | none => rfl
    | some 0 => rfl
    | some (_ + 1) => rfl
  cases hc : Nat.beq c 0 with
  | false => exact ⟨c, by omega, by simp only [ha]⟩
  | true =>
    have := Nat.eq_of_beq_eq_true hc
    obtain rfl : m = 0 := by omega
    match sp, hs with
    | none, _ => exact ⟨0, Nat.le_refl _, rfl⟩
    | some (_ + 1), _ => exact ⟨0, Nat.le_refl _, rfl⟩
    | some 0, hs => exact absurd rfl hs
theorem aadd_zero (a : Addr) : aadd a 0 = a := by
  obtain ⟨b, o, sp⟩ := a
  match sp with
  | none => rfl
  | some 0 => rfl
  | some (_ + 1) => rfl
/-- Nothing of before is written. -/
theorem Mod.toAhd {h g : H} (m : Mod (fun _ => False) h g) (hl : h.log = []) : Ahd h g :=
  ⟨m.fit, fun k B hb => m.blk k B (fun h => h) hb, by
    rw [hl]
    refine List.eq_nil_iff_forall_not_mem.2 fun j hj => ?_
    rcases m.log j hj with h1 | ⟨h1, _⟩
    · rw [hl] at h1; cases h1
    · exact h1, m.mark, m.next, m.chain⟩
end Go.Hs
/- A slice that is appended to from several places: what grew of it elsewhere is gone, nothing of before is. -/
namespace Go.Hs

/-- What is told of the blocks of a chain. -/
def ChainOk (b : Nat) (e : TypeId) (h : H) (r : Nat) (P : Nat → Nat → Prop) : Prop := ∀ j ∈ h.chain r, b ≤ j ∧ ∃ ys, h.dyn.get j = some (.cells ys e (some (r, 0))) ∧ P j ys.length

theorem ChainOk.mono {b : Nat} {e : TypeId} {h : H} {r : Nat} {P Q : Nat → Nat → Prop} (c : ChainOk b e h r P) (hP : ∀ j l, P j l → Q j l) : ChainOk b e h r Q := fun j hj => by
  obtain ⟨h1, ys, h2, h3⟩ := c j hj
  exact ⟨h1, ys, h2, hP _ _ h3⟩

/-- A heap behind another; one chain may have grown. -/
structure Xt (b : Nat) (e : TypeId) (rt : Option Nat) (h g : H) : Prop where
  fit : Fit g
  grows : Grows h g
  log : g.log = h.log
  mark : g.mark = h.mark
  next : h.next ≤ g.next
  chain : ∀ r, r < h.next → rt ≠ some r → g.chain r = h.chain r
  ok : ∀ r, rt = some r → ∀ P, ChainOk b e h r P → ChainOk b e g r (fun j l => P j l ∨ h.next ≤ j)

theorem chain_blk {h : H} {j r : Nat} {ys : List Value} {e : TypeId} {p : Nat} (hj : j ∈ h.chain r) (hd : h.dyn.get j = some (.cells ys e (some (r, p)))) : h.blk j = some (.cells ys e (some (r, p))) := by
  unfold H.blk
  rw [hd]
  simp only [show (h.chain r).contains j = true from by simpa using hj]

theorem Ahd.chainOk {b : Nat} {e : TypeId} {h g : H} {r : Nat} {P : Nat → Nat → Prop} (a : Ahd h g) (hr : r < h.next) (hP : ChainOk b e h r P) : ChainOk b e g r P := fun j hj => by
  rw [a.chain r hr] at hj
  obtain ⟨q1, ys, q2, q3⟩ := hP j hj
  exact ⟨q1, ys, H.blk_dyn (a.grows _ _ (chain_blk hj q2)), q3⟩
theorem Ahd.xt {b : Nat} {e : TypeId} {rt : Option Nat} {h g : H} (a : Ahd h g) (hr : ∀ r, rt = some r → r < h.next) : Xt b e rt h g :=
  ⟨a.fit, a.grows, a.log, a.mark, a.next, fun r h1 _ => a.chain r h1, fun r h1 P hP j hj => by
    rw [a.chain r (hr r h1)] at hj
    obtain ⟨q1, ys, q2, q3⟩ := hP j hj
    exact ⟨q1, ys, H.blk_dyn (a.grows _ _ (chain_blk hj q2)), .inl q3⟩⟩
theorem Xt.refl {b : Nat} {e : TypeId} {rt : Option Nat} {h : H} (f : Fit h) (hr : ∀ r, rt = some r → r < h.next) : Xt b e rt h h := (Ahd.refl f).xt hr
theorem Xt.ahd {b : Nat} {e : TypeId} {h g : H} (x : Xt b e none h g) : Ahd h g := ⟨x.fit, x.grows, x.log, x.mark, x.next, fun r hr => x.chain r hr (by simp)⟩
theorem Xt.trans {b : Nat} {e : TypeId} {rt rt' : Option Nat} {h g f : H} (x : Xt b e rt h g) (y : Xt b e rt' g f) (h1 : rt = none ∨ rt' = rt) (h2 : ∀ r, rt' = some r → rt' = rt ∨ h.next ≤ r) : Xt b e rt h f :=
  ⟨y.fit, x.grows.trans y.grows, y.log.trans x.log, y.mark.trans x.mark, Nat.le_trans x.next y.next, fun r hr hne => by
    rw [y.chain r (Nat.lt_of_lt_of_le hr x.next) (fun hc => by
      rcases h2 r hc with h3 | h3
      · exact hne (h3 ▸ hc)
      · omega)]
    exact x.chain r hr hne, fun r hr P hP => by
    have hc : rt' = some r := by
      rcases h1 with h1 | h1
      · rw [h1] at hr; cases hr
      · rw [h1]; exact hr
    refine (y.ok r hc _ (x.ok r hr P hP)).mono ?_
    rintro j l ((h3 | h3) | h3)
    · exact .inl h3
    · exact .inr h3
    · exact .inr (Nat.le_trans x.next h3)⟩
/-- The same chain, or none: further. -/
theorem Xt.ahead {b : Nat} {e : TypeId} {rt : Option Nat} {h g f : H} (x : Xt b e rt h g) (y : Ahd g f) (hr : ∀ r, rt = some r → r < g.next) : Xt b e rt h f :=
  x.trans (y.xt hr) (.inr rfl) (fun _ _ => .inl rfl)

theorem Xt.back {b : Nat} {e : TypeId} {rt : Option Nat} {h h1 : H} (f : Fit h) (x : Xt b e rt (fresh h) h1) : Xt b e rt h (Hs.back h h1) ∧ h1.log = [] := by
  have hl : h1.log = [] := x.log
  refine ⟨⟨back_fit f x.fit x.next, fun k B hb => by rw [back_blk]; exact x.grows k B hb, back_log hl, back_mark _ _, by rw [back_next]; exact x.next, fun r hr hne => by rw [back_chain]; exact x.chain r hr hne, fun r hr P hP j hj => ?_⟩, hl⟩
  rw [back_chain] at hj
  obtain ⟨q1, ys, q2, q3⟩ := x.ok r hr P hP j hj
  exact ⟨q1, ys, by rw [back_dyn]; exact q2, q3⟩

/-- Such a slice. -/
structure Pth (e : TypeId) (h : H) (sp : Value) (p : List Value) (rt : Option Nat) : Prop where
  get : ∃ k, sp = .slice (some (own k)) p.length p.length ∧ h.blk k = some (.cells p e (rt.map fun r => (r, 0)))
  one : p.all isOne = true
  nil : rt = none → p = []

theorem Pth.grow {e : TypeId} {h g : H} {sp : Value} {p : List Value} {rt : Option Nat} (P : Pth e h sp p rt) (hg : Grows h g) : Pth e g sp p rt := by
  obtain ⟨k, h1, h2⟩ := P.get
  exact ⟨⟨k, h1, hg _ _ h2⟩, P.one, P.nil⟩
theorem Pth.lt {e : TypeId} {h : H} {sp : Value} {p : List Value} {rt : Option Nat} (f : Fit h) (P : Pth e h sp p rt) : ∀ r, rt = some r → r < h.next := by
  intro r hr
  obtain ⟨k, h1, h2⟩ := P.get
  subst hr
  exact f.ok.1 _ _ _ _ _ (H.blk_dyn h2)

/-- One more, in a region in which it is told what is written. -/
theorem pth_step {D : Tab} {E : Env} {hN g : H} {b : Nat} {t t2 e : TypeId} {by_ kx c i6 i7 : Nat} {i8 : Option Value} {i9 : Bool} {sp ze x : Value} {p : List Value} {rt : Option Nat} (X : Xt b e rt hN g) (P : Pth e g sp p rt) (fN : Fit hN) (hb : b ≤ hN.next) (ok : ∀ r, rt = some r → ChainOk b e g r (fun j l => l ≤ p.length ∨ hN.next ≤ j))
    (ht : D.ty.get t = some ⟨.slice e 1 by_, i6, i7, i8, i9⟩) (hz : tzero D e = some ze) (hzz : (Nat.beq ze.cells.toList.length 1 && Nat.blt 0 1 && ze.cells.toList.all isOne) = true) (hzt : zeroArg D t2 (.slice (some (own kx)) 1 c) = some false)
    (hx : g.cells E (own kx) 1 = some [x]) (hc1 : isOne x = true) (hrm : roomy (p.length + 1) by_ = true) :
    ∃ s' q rt', aappend D E t t2 sp (.slice (some (own kx)) 1 c) (fresh g) = some (s', q) ∧ Xt b e rt hN (back g q) ∧ Pth e (back g q) sp p rt ∧ Pth e (back g q) s' (p ++ [x]) rt' ∧ (∀ r, rt' = some r → ChainOk b e (back g q) r (fun _ l => l ≤ p.length + 1)) ∧ (rt = none ∧ rt' = some g.next ∨ rt' = rt) ∧
      (∀ k xs ty, g.blk k = some (.cells xs ty none) → (back g q).blk k = some (.cells xs ty none)) ∧ (∀ j ∈ q.log, b ≤ j ∧ ∃ ys r, g.dyn.get j = some (.cells ys e (some (r, 0)))) ∧ g.next ≤ q.next := by
  obtain ⟨k, rfl, hbk⟩ := P.get
  have f := X.fit
  have hx' : (fresh g).cells E (own kx) 1 = some [x] := hx
  have hel : aelems E 1 ze.cells.toList (.slice (some (own kx)) 1 c) (fresh g) = some (1, [x]) := by
    simp only [aelems, Nat.one_mul, hx']
  have hbl : Nat.beq ([x] : List Value).length (1 * 1) = true := rfl
  have hkn := f.lt hbk
  cases rt with
  | none =>
    obtain rfl := P.nil rfl
    have hbk' : (fresh g).blk (own k).block = some (.cells [] e none) := hbk
    have e4 : Nat.ble (([] : List Value).length + 1) ([] : List Value).length = false := rfl
    have hsp : (own k).spot = some 0 := rfl
    have hap : aappend D E t t2 (.slice (some (own k)) ([] : List Value).length ([] : List Value).length) (.slice (some (own kx)) 1 c) (fresh g) = some (.slice (some (own g.next)) 1 1, (fresh g).newOpen [x] e) := by
      unfold aappend
      rw [ht]
      simp only [hz, hzt, hzz, hel, hbl, hrm, hsp, hbk', e4]
      rfl
    obtain ⟨a1, a2, a3, a4⟩ := Ahd.back f (Ahd.newOpen f.fresh [x] e)
    have hbn : (back g ((fresh g).newOpen [x] e)).blk g.next = some (.cells [x] e (some (g.next, 0))) := by rw [a2]; exact newOpen_new
    have hch : (back g ((fresh g).newOpen [x] e)).chain g.next = [g.next] := by
      rw [back_chain]
      simp only [H.chain, H.newOpen, fresh, T.get_set_same, Option.getD]
    refine ⟨_, _, some g.next, hap, X.ahead a1 (fun r hr => by cases hr), P.grow a1.grows, ⟨⟨g.next, rfl, hbn⟩, by simp [hc1], fun h => by cases h⟩, fun r hr j hj => ?_, .inl ⟨rfl, rfl⟩, fun k xs ty hk => a1.grows _ _ hk, fun j hj => ?_, Nat.le_succ _⟩
    · cases hr
      rw [hch] at hj
      obtain rfl := List.mem_singleton.1 hj
      exact ⟨Nat.le_trans hb X.next, [x], H.blk_dyn hbn, Nat.le_refl _⟩
    · cases hj
  | some r =>
    have hck := ok r rfl
    have hrn := P.lt f r rfl
    have hbk' : (fresh g).blk (own k).block = some (.cells p e (some (r, 0))) := hbk
    have hsp : (own k).spot = some 0 := rfl
    have e4 : Nat.ble (p.length + 1) p.length = false := by
      cases hq : Nat.ble (p.length + 1) p.length
      · rfl
      · rw [Nat.ble_eq] at hq; omega
    have e5 : (Nat.beq p.length p.length && Nat.beq ((own k).off + p.length * 1) p.length && Nat.beq e e && (p.drop (own k).off).all isOne && Nat.ble (own k).off p.length) = true := by
      have : (own k).off = 0 := rfl
      rw [this, Nat.zero_add, Nat.mul_one, List.drop_zero, P.one, Nat.beq_refl, Nat.beq_refl]
      simp [Nat.ble]
    have hap : aappend D E t t2 (.slice (some (own k)) p.length p.length) (.slice (some (own kx)) 1 c) (fresh g) = some (.slice (some (own g.next)) (p.length + 1) (p.length + 1), (fresh g).grow e r 0 p.length k p [x]) := by
      unfold aappend
      rw [ht]
      simp only [hz, hzt, hzz, hel, hbl, hrm, hsp, hbk', Option.map, e4]
      simp only [e5]
      simp only [own, Nat.add_zero, List.drop_zero, Nat.mul_one]
      rfl
    generalize hq : (fresh g).grow e r 0 p.length k p [x] = q at hap
    have hits_of : ∀ j, j ∈ g.chain r → g.hits k p.length (p.length + 1) j = false → ∃ ys, g.dyn.get j = some (.cells ys e (some (r, 0))) ∧ ys.length ≤ p.length := by
      intro j hj hh
      obtain ⟨_, ys, h1, _⟩ := hck j hj
      refine ⟨ys, h1, ?_⟩
      unfold H.hits at hh
      split at hh
      · next hjk =>
        obtain rfl := Nat.eq_of_beq_eq_true hjk
        have := H.blk_dyn hbk
        rw [h1] at this
        simp only [Option.map, Option.some.injEq, Blk.cells.injEq] at this
        rw [this.1]; exact Nat.le_refl _
      · rw [h1] at hh
        simp only [Bool.and_eq_false_iff] at hh
        rcases hh with (hh | hh) | hh
        · have : ¬ p.length < 0 + ys.length := fun hc => by
            rw [← Nat.blt_eq] at hc; rw [hc] at hh; cases hh
          omega
        · have : ¬ 0 < p.length + 1 := fun hc => by
            rw [← Nat.blt_eq] at hc; rw [hc] at hh; cases hh
          omega
        · have : ¬ 0 < ys.length := fun hc => by
            rw [← Nat.blt_eq] at hc; rw [hc] at hh; cases hh
          omega
    have stays : ∀ j ys, j ∈ g.chain r → g.dyn.get j = some (.cells ys e (some (r, 0))) → ys.length ≤ p.length → g.hits k p.length (p.length + 1) j = false := by
      intro j ys hj hd hle
      unfold H.hits
      split
      · rfl
      · rw [hd]
        have : Nat.blt p.length (0 + ys.length) = false := by
          cases q : Nat.blt p.length (0 + ys.length)
          · rfl
          · rw [Nat.blt_eq] at q; omega
        simp only [this, Bool.false_and]
    have hsame : ∀ j, (fresh g).hits k p.length (p.length + 1) j = g.hits k p.length (p.length + 1) j := fun j => rfl
    have hqn : q.next = g.next + 1 := by rw [← hq]; unfold H.grow; rw [H.note_next]; rfl
    have hqd : q.dyn = g.dyn.set g.next (.cells (p ++ [x]) e (some (r, 0))) := by rw [← hq]; unfold H.grow; rw [H.note_dyn]; rfl
    have hqc : q.chains = g.chains.set r (g.next :: g.spare r k (0 + p.length) (0 + p.length + 1)) := by rw [← hq]; unfold H.grow; rw [note_chains]; rfl
    have hql : ∀ j ∈ q.log, j ∈ g.chain r ∧ g.hits k p.length (p.length + 1) j = true := by
      intro j hj
      rw [← hq] at hj
      unfold H.grow at hj
      rcases note_log hj with h1 | ⟨h1, _⟩
      · cases h1
      · have := mem_gone.1 h1
        rw [Nat.zero_add] at this
        exact this
    have hqN : ∀ j ∈ q.log, hN.next ≤ j := by
      intro j hj
      obtain ⟨h1, h2⟩ := hql j hj
      obtain ⟨_, ys, h3, h4⟩ := hck j h1
      rcases h4 with h4 | h4
      · rw [stays j ys h1 h3 h4] at h2; cases h2
      · exact h4
    have hfq : Fit q := by
      refine ⟨fun j hj => ?_, ⟨fun j ys ty r' p' hd' => ?_, ?_⟩⟩
      · rw [hqn] at hj
        rw [hqd, T.get_set_ne _ _ _ _ (by omega)]; exact f.free j (by omega)
      · rw [hqn]
        rw [hqd] at hd'
        by_cases hj : j = g.next
        · subst hj
          rw [T.get_set_same] at hd'
          cases hd'; omega
        · rw [T.get_set_ne _ _ _ _ hj] at hd'
          have := f.ok.1 _ _ _ _ _ hd'; omega
      · have : q.mark = g.next := by rw [← hq]; unfold H.grow; rw [note_mark]; rfl
        rw [this, hqn]; omega
    have hcr : q.chain r = g.next :: g.spare r k p.length (p.length + 1) := by
      simp only [H.chain, hqc, T.get_set_same, Option.getD, Nat.zero_add]
    have hcn : ∀ r', r' ≠ r → q.chain r' = g.chain r' := by
      intro r' hr'
      simp only [H.chain, hqc]; rw [T.get_set_ne _ _ _ _ hr']
    have keep : ∀ j B, g.blk j = some B → (∀ ys u p', B = .cells ys u (some (r, p')) → j ∈ q.chain r) → q.blk j = some B := by
      intro j B hB hj
      have hjn := f.lt hB
      have hd := H.blk_dyn hB
      have hd2 : q.dyn.get j = some B := by rw [hqd, T.get_set_ne _ _ _ _ (by omega)]; exact hd
      unfold H.blk at hB ⊢
      rw [hd2]
      rw [hd] at hB
      cases B with
      | cells ys u rt' => cases rt' with
        | none => rfl
        | some rp =>
          obtain ⟨r', p'⟩ := rp
          by_cases hr : r' = r
          · subst hr
            simp only
            rw [show (q.chain r').contains j = true from by simpa using hj _ _ _ rfl]
          · simp only [hcn r' hr]
            exact hB
      | _ => rfl
    have hkc : k ∈ q.chain r := by
      have h1 : k ∈ g.chain r := by
        unfold H.blk at hbk
        rw [H.blk_dyn (h := g) (k := k) (B := .cells p e (some (r, 0))) (by unfold H.blk; exact hbk)] at hbk
        simp only at hbk
        split at hbk
        · next hc => simpa using hc
        · cases hbk
      rw [hcr]
      refine List.mem_cons_of_mem _ (mem_spare.2 ⟨h1, ?_⟩)
      unfold H.hits
      rw [Nat.beq_refl]
    have hnew : q.blk g.next = some (.cells (p ++ [x]) e (some (r, 0))) := by
      have hdd : q.dyn.get g.next = some (.cells (p ++ [x]) e (some (r, 0))) := by rw [hqd]; exact T.get_set_same _ _ _
      unfold H.blk
      rw [hdd]
      simp only [hcr, List.contains_cons, beq_self_eq_true, Bool.true_or]
    have hback : (back g q).log = g.log := by
      unfold back
      have : ∀ j ∈ q.log, ({ q with mark := g.mark, log := g.log } : H).mark ≤ j := fun j hj => by
        show g.mark ≤ j
        have := hqN j hj
        rw [X.mark]
        exact Nat.le_trans fN.ok.2 this
      rw [note_above this]
    have hbk2 : q.blk k = some (.cells p e (some (r, 0))) := keep k _ hbk (fun _ _ _ _ => hkc)
    have dynOf : ∀ j ∈ q.chain r, b ≤ j ∧ ∃ ys, q.dyn.get j = some (.cells ys e (some (r, 0))) ∧ ys.length ≤ p.length + 1 ∧ (j = g.next ∨ j ∈ g.chain r ∧ g.dyn.get j = some (.cells ys e (some (r, 0)))) := by
      intro j hj
      rw [hcr] at hj
      rcases List.mem_cons.1 hj with rfl | hj
      · exact ⟨Nat.le_trans hb X.next, _, H.blk_dyn hnew, by simp, .inl rfl⟩
      · obtain ⟨h1, h2⟩ := mem_spare.1 hj
        obtain ⟨ys, h3, h4⟩ := hits_of j h1 h2
        refine ⟨(hck j h1).1, ys, ?_, by omega, .inr ⟨h1, h3⟩⟩
        have hjn : j ≠ g.next := by
          intro e
          subst e
          rw [f.free _ (Nat.le_refl _)] at h3; cases h3
        rw [hqd, T.get_set_ne _ _ _ _ hjn]; exact h3
    refine ⟨_, q, some r, hap, ⟨back_fit f hfq (by rw [hqn]; omega), fun j B hB => ?_, ?_, (back_mark _ _).trans X.mark, by rw [back_next, hqn]; have := X.next; omega, fun r' hr' hne => ?_, fun r' hr' P' hP' j hj => ?_⟩, ⟨⟨k, rfl, by rw [back_blk]; exact hbk2⟩, P.one, P.nil⟩, ⟨⟨g.next, ?_, by rw [back_blk]; exact hnew⟩, by rw [List.all_append, P.one]; simp [hc1], fun h => by cases h⟩, fun r' hr' j hj => ?_, .inr rfl, fun j xs ty hB => ?_, fun j hj => ?_, by rw [hqn]; omega⟩
    · rw [back_blk]
      have hB' := X.grows _ _ hB
      refine keep j B hB' (fun ys u p' he => ?_)
      subst he
      have hj : j ∈ g.chain r := by
        unfold H.blk at hB'
        rw [H.blk_dyn (h := g) (k := j) (B := .cells ys u (some (r, p'))) (by unfold H.blk; exact hB')] at hB'
        simp only at hB'
        split at hB'
        · next hc => simpa using hc
        · cases hB'
      obtain ⟨_, ys', h1, h2⟩ := hck j hj
      rw [hcr]
      refine List.mem_cons_of_mem _ (mem_spare.2 ⟨hj, ?_⟩)
      rcases h2 with h2 | h2
      · exact stays j ys' hj h1 h2
      · have := fN.lt hB; omega
    · rw [hback]; exact X.log
    · rw [back_chain, hcn r' (fun e => hne (by rw [e]))]
      exact X.chain r' hr' hne
    · cases hr'
      rw [back_chain] at hj
      obtain ⟨h1, ys, h2, h3, h4⟩ := dynOf j hj
      refine ⟨h1, ys, by rw [back_dyn]; exact h2, ?_⟩
      rcases h4 with rfl | ⟨h4, h5⟩
      · exact .inr X.next
      · obtain ⟨_, ys', q2, q3⟩ := X.ok r rfl P' hP' j h4
        rw [h5] at q2
        cases q2
        exact q3
    · rw [List.length_append]; rfl
    · cases hr'
      rw [back_chain] at hj
      obtain ⟨h1, ys, h2, h3, _⟩ := dynOf j hj
      exact ⟨h1, ys, by rw [back_dyn]; exact h2, h3⟩
    · rw [back_blk]
      exact keep j _ hB (fun _ _ _ he => by cases he)
    · obtain ⟨h1, _⟩ := hql j hj
      obtain ⟨h2, ys, h3, _⟩ := hck j h1
      exact ⟨h2, ys, r, h3⟩
end Go.Hs
/- Where two items differ. -/
namespace Go.Hs

mutual
/-- The first place where they differ, in the order of a walk. -/
def apaI : Item → Item → Option (List Int)
  | .mk k m tx ks, .mk k' m' tx' ks' => if k = k' ∧ m = m' ∧ ks.length = ks'.length ∧ tx = tx' then apaL ks ks' 0 else some []
def apaL : List Item → List Item → Int → Option (List Int)
  | [], _, _ => none
  | _ :: _, [], _ => none
  | x :: xs, y :: ys, i => match apaI x y with
    | some p => some (i :: p)
    | none => apaL xs ys (i + 1)
end

/-- The item at a place. -/
def atI : Item → List Int → Option Item
  | t, [] => some t
  | .mk _ _ _ ks, i :: p => match i with
    | .ofNat n => match ks[n]? with
      | some t => atI t p
      | none => none
    | .negSucc _ => none

mutual
theorem apaI_none : ∀ (t u : Item), apaI t u = none → t = u
  | .mk k m tx ks, .mk k' m' tx' ks', h => by
    rw [apaI] at h
    split at h
    · next hc =>
      obtain ⟨rfl, rfl, h3, rfl⟩ := hc
      rw [apaL_none ks ks' 0 h3 h]
    · cases h
theorem apaL_none : ∀ (ks ks' : List Item) (i : Int), ks.length = ks'.length → apaL ks ks' i = none → ks = ks'
  | [], [], _, _, _ => rfl
  | [], _ :: _, _, h, _ => by simp at h
  | _ :: _, [], _, h, _ => by simp at h
  | x :: xs, y :: ys, i, h, e => by
    rw [apaL] at e
    split at e
    · cases e
    · next hx =>
      rw [apaI_none x y hx, apaL_none xs ys (i + 1) (by simpa using h) e]
end
mutual
theorem apaI_self : ∀ (t : Item), apaI t t = none
  | .mk k m tx ks => by rw [apaI, if_pos ⟨rfl, rfl, rfl, rfl⟩]; exact apaL_self ks 0
theorem apaL_self : ∀ (ks : List Item) (i : Int), apaL ks ks i = none
  | [], _ => by rw [apaL]
  | x :: xs, i => by rw [apaL, apaI_self x]; exact apaL_self xs (i + 1)
end
theorem apaI_ord {t u : Item} {p : List Int} (h : apaI t u = some p) : ordI t u ≠ 0 := fun h0 => by
  rw [ordI_zero t u h0, apaI_self] at h
  cases h

/-- They have not the same head. -/
def headNe : Item → Item → Prop
  | .mk k m tx ks, .mk k' m' tx' ks' => ¬ (k = k' ∧ m = m' ∧ ks.length = ks'.length ∧ tx = tx')

mutual
theorem apaI_at : ∀ (t u : Item) (p : List Int), apaI t u = some p → ∃ t' u', atI t p = some t' ∧ atI u p = some u' ∧ headNe t' u'
  | .mk k m tx ks, .mk k' m' tx' ks', p, h => by
    rw [apaI] at h
    split at h
    · obtain ⟨n, q, t', u', x, y, rfl, h2, h3, h4, h5, h6⟩ := apaL_at ks ks' 0 p h
      refine ⟨t', u', ?_, ?_, h6⟩
      · rw [show (0 : Int) + (n : Int) = Int.ofNat n by simp, atI]
        simp only [h2, h4]
      · rw [show (0 : Int) + (n : Int) = Int.ofNat n by simp, atI]
        simp only [h3, h5]
    · next hn =>
      cases h
      exact ⟨.mk k m tx ks, .mk k' m' tx' ks', by rw [atI], by rw [atI], hn⟩
theorem apaL_at : ∀ (ks ks' : List Item) (i : Int) (p : List Int), apaL ks ks' i = some p → ∃ (n : Nat) (q : List Int) (t' u' x y : Item), p = (i + n) :: q ∧ ks[n]? = some x ∧ ks'[n]? = some y ∧ atI x q = some t' ∧ atI y q = some u' ∧ headNe t' u'
  | [], _, _, _, h => by rw [apaL] at h; cases h
  | _ :: _, [], _, _, h => by rw [apaL] at h; cases h
  | x :: xs, y :: ys, i, p, h => by
    rw [apaL] at h
    split at h
    · next q hq =>
      cases h
      obtain ⟨t', u', h1, h2, h3⟩ := apaI_at x y q hq
      exact ⟨0, q, t', u', x, y, by simp, rfl, rfl, h1, h2, h3⟩
    · obtain ⟨n, q, t', u', x', y', h1, h2, h3, h4⟩ := apaL_at xs ys (i + 1) p h
      exact ⟨n + 1, q, t', u', x', y', by rw [h1]; congr 1; push_cast; omega, h2, h3, h4⟩
end

/-- A rest of the lists. -/
theorem apaL_drop {ks ks' : List Item} {i : Nat} (h : i < ks.length) (h' : i < ks'.length) (n : Int) : apaL (ks.drop i) (ks'.drop i) n = match apaI ks[i] ks'[i] with
    | some p => some (n :: p)
    | none => apaL (ks.drop (i + 1)) (ks'.drop (i + 1)) (n + 1) := by
  rw [List.drop_eq_getElem_cons h, List.drop_eq_getElem_cons h', apaL]

mutual
theorem apaI_len : ∀ (t u : Item) (p : List Int), apaI t u = some p → (p.length : Int) < lvlI t ∧ p.length ≤ isz t
  | .mk k m tx ks, .mk k' m' tx' ks', p, h => by
    rw [apaI] at h
    rw [lvlI, isz]
    split at h
    · have := apaL_len ks ks' 0 p h
      omega
    · cases h
      have := lvlL_bound ks 0 (Int.le_refl _)
      simp only [List.length_nil]
      omega
theorem apaL_len : ∀ (ks ks' : List Item) (i : Int) (p : List Int), apaL ks ks' i = some p → (p.length : Int) ≤ lvlL ks 0 ∧ p.length ≤ iszL ks
  | [], _, _, _, h => by rw [apaL] at h; cases h
  | _ :: _, [], _, _, h => by rw [apaL] at h; cases h
  | x :: xs, y :: ys, i, p, h => by
    rw [apaL] at h
    have hb := lvlI_bound x
    have hm := lvlL_max xs (lvlI x) (by omega)
    have h0 := lvlL_bound xs 0 (Int.le_refl _)
    rw [lvlL, if_pos (by omega), iszL]
    split at h
    · next q hq =>
      cases h
      obtain ⟨h1, h2⟩ := apaI_len x y q hq
      have := isz_pos x
      simp only [List.length_cons]
      push_cast
      omega
    · obtain ⟨h1, h2⟩ := apaL_len xs ys (i + 1) p h
      omega
end
end Go.Hs
/- Cells of a cloned slice that are written. -/
namespace Go.Hs

theorem put_root {g : H} {k o : Nat} {vs xs : List Value} {e : TypeId} (f : Fit g) (hb : g.blk k = some (.cells xs e (some (k, 0)))) (hc : g.chain k = [k]) (hv : vs ≠ []) (hl : o + vs.length ≤ xs.length) (h1 : vs.all isOne = true) :
    ∃ q, (fresh g).put (aadd (own k) o) vs = some q ∧ q.log = [k] ∧ q.next = g.next ∧ Fit (back g q) ∧ (back g q).blk k = some (.cells (xs.take o ++ vs ++ xs.drop (o + vs.length)) e (some (k, 0))) ∧ (∀ j, j ≠ k → (back g q).blk j = g.blk j) ∧ (∀ r, (back g q).chain r = g.chain r) ∧ (g.mark ≤ k → (back g q).log = g.log) := by
  have hkn := f.lt hb
  have hsp : g.spare k k (0 + o) (0 + o + vs.length) = [k] := by
    unfold H.spare
    rw [hc]
    have : g.hits k (0 + o) (0 + o + vs.length) k = false := by
      unfold H.hits
      rw [Nat.beq_refl]
    simp only [List.filter_cons, this, Bool.not_false, if_true, List.filter_nil]
  have hgn : g.gone k k (0 + o) (0 + o + vs.length) = [] := by
    unfold H.gone
    rw [hc]
    have : g.hits k (0 + o) (0 + o + vs.length) k = false := by
      unfold H.hits
      rw [Nat.beq_refl]
    simp only [List.filter_cons, this, List.filter_nil]
    rfl
  have hput : (fresh g).put (aadd (own k) o) vs = some (({ fresh g with dyn := g.dyn.set k (.cells (xs.take o ++ vs ++ xs.drop (o + vs.length)) e (some (k, 0))), chains := g.chains.set k [k] } : H).note [k]) := by
    have hb' : (fresh g).blk k = some (.cells xs e (some (k, 0))) := hb
    have hsp' : (fresh g).spare k k (0 + o) (0 + o + vs.length) = [k] := hsp
    have hgn' : (fresh g).gone k k (0 + o) (0 + o + vs.length) = [] := hgn
    unfold H.put
    cases vs with
    | nil => exact absurd rfl hv
    | cons v vs =>
      simp only [aadd, own, Nat.zero_add, hb'] at hsp' hgn' ⊢
      rw [h1, show Nat.ble (o + (v :: vs).length) xs.length = true from by rw [Nat.ble_eq]; exact hl]
      simp only [Bool.and_self, hsp', hgn']
      rfl
  obtain ⟨m, hm1, hm2⟩ : ∃ m, g.next = m + 1 ∧ k ≤ m := by cases hn : g.next with | zero => omega | succ m => exact ⟨m, rfl, by omega⟩
  have hble : Nat.ble k m = true := by rw [Nat.ble_eq]; exact hm2
  generalize hB : (Blk.cells (xs.take o ++ vs ++ xs.drop (o + vs.length)) e (some (k, 0))) = B at hput
  have hq : (({ fresh g with dyn := g.dyn.set k B, chains := g.chains.set k [k] } : H).note [k]) = { g with dyn := g.dyn.set k B, chains := g.chains.set k [k], mark := g.next, log := [k] } := by
    unfold H.note
    have : ({ fresh g with dyn := g.dyn.set k B, chains := g.chains.set k [k] } : H).mark = m + 1 := hm1
    rw [this]
    simp only [List.filter_cons, hble, if_true, List.filter_nil]
    rw [← hm1]
    rfl
  rw [hq] at hput
  generalize hqq : ({ g with dyn := g.dyn.set k B, chains := g.chains.set k [k], mark := g.next, log := [k] } : H) = q at hput
  have hqn : q.next = g.next := by rw [← hqq]
  have hql : q.log = [k] := by rw [← hqq]
  have hqd : q.dyn = g.dyn.set k B := by rw [← hqq]
  have hqc : ∀ r, q.chain r = g.chain r := by
    intro r
    rw [← hqq]
    simp only [H.chain, T.get_set]
    split
    · next h => subst h; simpa [H.chain, Option.getD] using hc.symm
    · rfl
  have hfq : Fit q := by
    refine ⟨fun j hj => ?_, ⟨fun j ys ty r p hd => ?_, ?_⟩⟩
    · rw [hqn] at hj
      rw [hqd, T.get_set_ne _ _ _ _ (by omega)]; exact f.free j hj
    · rw [hqn]
      rw [hqd] at hd
      by_cases hj : j = k
      · subst hj
        rw [T.get_set_same, ← hB] at hd
        cases hd; exact hkn
      · rw [T.get_set_ne _ _ _ _ hj] at hd
        exact f.ok.1 _ _ _ _ _ hd
    · rw [← hqq]; exact Nat.le_refl _
  refine ⟨q, hput, hql, hqn, back_fit f hfq (by rw [hqn]; exact Nat.le_refl _), ?_, fun j hj => ?_, fun r => by rw [back_chain]; exact hqc r, fun hm => ?_⟩
  · rw [back_blk]
    have hdd : q.dyn.get k = some B := by rw [hqd]; exact T.get_set_same _ _ _
    unfold H.blk
    rw [hdd, ← hB]
    simp only [hqc, hc, List.contains_cons, beq_self_eq_true, Bool.true_or]
  · rw [back_blk]
    refine blk_congr (by rw [hqd, T.get_set_ne _ _ _ _ hj]) (fun _ _ r _ _ => by rw [hqc])
  · unfold back
    rw [note_above]
    intro j hj
    rw [hql] at hj
    obtain rfl := List.mem_singleton.1 hj
    exact hm

/-- What was there before the clone stays. -/
theorem Ahd.root {h g g' : H} {k : Nat} (a : Ahd h g) (f : Fit h) (hk : h.next ≤ k) (hf : Fit g') (hn : g'.next = g.next) (hm : g'.mark = g.mark) (hb : ∀ j, j ≠ k → g'.blk j = g.blk j) (hc : ∀ r, g'.chain r = g.chain r) (hl : g.mark ≤ k → g'.log = g.log) : Ahd h g' :=
  ⟨hf, fun j B hB => by rw [hb j (by have := f.lt hB; omega)]; exact a.grows j B hB, (hl (by rw [a.mark]; exact Nat.le_trans f.ok.2 hk)).trans a.log, hm.trans a.mark, by rw [hn]; exact a.next, fun r hr => (hc r).trans (a.chain r hr)⟩
end Go.Hs
/- Short names for what the walks' simplifier is told. -/
namespace Go.Hs
/-- Temporaries, lists. -/
theorem Sx : (∀ (A : Ac) (d : Option Tmp) (v : Value), (A.put d v).n = A.n) ∧ (∀ (A : Ac) (d : Option Tmp) (v : Value), (A.put d v).defers = A.defers) ∧
    (∀ (α : Type) (l : List α), [] ++ l = l) ∧ (∀ (α : Type) (l : List α), l ++ [] = l) ∧ (∀ (α : Type) (l : List α), l.toArray.toList = l) ∧ (∀ (α : Type) (a : α) (l : List α), (a :: l)[0]? = some a) ∧ (∀ (α : Type) (a : α) (l : List α) (i : Nat), (a :: l)[i + 1]? = l[i]?) ∧ (!true) = false ∧ (!false) = true :=
  ⟨fun _ _ _ => Ac.put_n .., fun _ _ _ => Ac.put_defers .., fun _ _ => List.nil_append _, fun _ _ => List.append_nil _, fun _ _ => rfl, fun _ _ _ => rfl, fun _ _ _ _ => rfl, rfl, rfl⟩
end Go.Hs
