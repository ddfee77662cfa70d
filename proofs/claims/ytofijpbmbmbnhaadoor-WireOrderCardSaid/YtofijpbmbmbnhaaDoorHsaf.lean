/- Items: how many there are, as the law counts. -/
import Derived.Test.YtofijpbmbmbnhaaDoorHsae
import Derived.Lib.SmallJoins
set_option linter.unusedSimpArgs false
set_option linter.unusedVariables false
namespace Go.Hs

mutual
def isz : Item → Nat
  | .mk _ _ _ ks => iszL ks + 1
def iszL : List Item → Nat
  | [] => 0
  | x :: xs => isz x + iszL xs
end

theorem isz_mem : ∀ {ks : List Item} {x : Item}, x ∈ ks → isz x ≤ iszL ks
  | [], x, h => by cases h
  | y :: ks, x, h => by
    rw [iszL]
    rcases List.mem_cons.1 h with rfl | h
    · omega
    · have := isz_mem h; omega

theorem isz_kid {k n : Int} {t : ByteArray} {ks : List Item} {x : Item} (h : x ∈ ks) : isz x < isz (.mk k n t ks) := by
  have := isz_mem h
  rw [isz]; omega

mutual
theorem rep_one {E : Env} {h : H} : ∀ {t t' : Item} {v : Value}, rep E h t v → rep E h t' v → t = t'
  | .mk k n tx ks, .mk k' n' tx' ks', v, h1, h2 => by
    rw [rep] at h1 h2
    obtain ⟨s, rfl, h1⟩ := h1
    obtain ⟨s', he, h2⟩ := h2
    cases he
    have : ks = ks' := by
      rcases h1 with ⟨rfl, rfl⟩ | ⟨a, c, cs, rfl, _, h3, h4⟩
      · rcases h2 with ⟨rfl, _⟩ | ⟨a, c, cs, he, _⟩
        · rfl
        · cases he
      · rcases h2 with ⟨_, he⟩ | ⟨a', c', cs', he, _, h5, h6⟩
        · cases he
        · simp only [Value.slice.injEq, Option.some.injEq] at he
          obtain ⟨rfl, hl, rfl⟩ := he
          rw [← hl, h3] at h5
          cases h5
          exact repL_one hl h4 h6
    rw [this]
theorem repL_one {E : Env} {h : H} : ∀ {ks ks' : List Item} {cs : List Value}, ks.length = ks'.length → repL E h ks cs → repL E h ks' cs → ks = ks'
  | [], [], _, _, _, _ => rfl
  | [], _ :: _, _, hl, _, _ => by cases hl
  | _ :: _, [], _, hl, _, _ => by cases hl
  | x :: xs, y :: ys, cs, hl, h1, h2 => by
    rw [repL] at h1 h2
    obtain ⟨a, b, c, d, l, rfl, h3, h4⟩ := h1
    obtain ⟨a', b', c', d', l', he, h5, h6⟩ := h2
    cases he
    rw [rep_one h3 h5, repL_one (by simpa using hl) h4 h6]
end

mutual
/-- How the law counts: to a limit. -/
def cntI : Item → Int → Int → Int
  | .mk _ _ _ ks, deep, many => if deep > 300 then 7000 else cntL ks (deep + 1) (many + 1)
def cntL : List Item → Int → Int → Int
  | [], _, many => many
  | x :: xs, deep, many => if many ≤ 6000 then cntL xs deep (cntI x deep many) else many
end

mutual
theorem cntI_bound : ∀ (t : Item) (deep many : Int), 0 ≤ many → many ≤ 6000 → 0 ≤ cntI t deep many ∧ cntI t deep many ≤ 7000
  | .mk k n tx ks, deep, many, h1, h2 => by
    rw [cntI]
    split
    · omega
    · exact cntL_bound ks (deep + 1) (many + 1) (by omega) (by omega)
theorem cntL_bound : ∀ (ks : List Item) (deep many : Int), 0 ≤ many → many ≤ 7000 → 0 ≤ cntL ks deep many ∧ cntL ks deep many ≤ 7000
  | [], _, many, h1, h2 => by rw [cntL]; exact ⟨h1, h2⟩
  | x :: xs, deep, many, h1, h2 => by
    rw [cntL]
    split
    · next hle =>
      obtain ⟨h3, h4⟩ := cntI_bound x deep many h1 hle
      exact cntL_bound xs deep _ h3 h4
    · exact ⟨h1, h2⟩
end

theorem wrap64 {x : Int} (h1 : -9223372036854775808 ≤ x) (h2 : x < 9223372036854775808) : IntKind.i64.wrap x = x := by
  simp only [IntKind.wrap, IntKind.bits, IntKind.signed]
  simp
  omega

/-! ### A heap that grows keeps what reads -/
theorem new_blk_old {h : H} {B : Blk} {k : Nat} (hk : k ≠ h.next) : (h.new B).blk k = h.blk k :=
  blk_congr (by simp only [H.new]; rw [T.get_set_ne _ _ _ _ hk]) (fun _ _ _ _ _ => Iff.rfl)
theorem new_blk_new {h : H} {B : Blk} (hB : B.plain = true) : (h.new B).blk h.next = some B := by
  have hd : (h.new B).dyn.get h.next = some B := T.get_set_same _ _ _
  cases B with
  | cells xs ty rt => cases rt with
    | none => exact blk_none_root hd
    | some _ => cases hB
  | _ => unfold H.blk; rw [hd]

/-- What lies in a new block. -/
theorem box_cells {E : Env} {h : H} {xs : List Value} {ty : TypeId} {n : Nat} (hn : xs.length = n) (h1 : xs.all isOne = true) : (h.new (.cells xs ty none)).cells E (own h.next) n = some xs := by
  subst hn
  cases xs with
  | nil => rfl
  | cons x xs =>
    unfold H.cells
    simp only [List.length_cons, own, new_blk_new (h := h) (B := .cells (x :: xs) ty none) rfl, List.drop_zero, Nat.zero_add]
    rw [show (x :: xs).take (xs.length + 1) = x :: xs from List.take_of_length_le (by simp)]
    rw [h1, show Nat.ble (xs.length + 1) (xs.length + 1) = true from by rw [Nat.ble_eq]; exact Nat.le_refl _]
    rfl
theorem box_cell {E : Env} {h : H} {xs : List Value} {ty : TypeId} {i : Nat} {x : Value} (hx : xs[i]? = some x) (h1 : isOne x = true) : (h.new (.cells xs ty none)).cell E (aadd (own h.next) i) = some x := by
  simp only [H.cell, aadd, own, new_blk_new (h := h) (B := .cells xs ty none) rfl, Nat.zero_add, hx, one?, h1]

/-- An item's value. -/
theorem rep_slice {E : Env} {h : H} {k m : Int} {tx : ByteArray} {ks : List Item} {v : Value} (hr : rep E h (.mk k m tx ks) v) : ∃ b c, v = .agg ⟨[.int .i64 k, .int .i64 m, .string tx, .slice b ks.length c]⟩ ∧
    (ks = [] ∨ ∃ a cs, b = some a ∧ ks.length < 9223372036854775808 ∧ h.cells E a (ks.length * 4) = some cs ∧ repL E h ks cs) := by
  rw [rep] at hr
  obtain ⟨s, rfl, hs⟩ := hr
  rcases hs with ⟨rfl, rfl⟩ | ⟨a, c, cs, rfl, h1, h2, h3⟩
  · exact ⟨none, 0, rfl, .inl rfl⟩
  · exact ⟨some a, c, rfl, .inr ⟨a, cs, rfl, by omega, h2, h3⟩⟩

/-- What is seen in the one is seen in the other. -/
def Grows (h h' : H) : Prop := ∀ k B, h.blk k = some B → h'.blk k = some B

theorem cells_grow {E : Env} {h h' : H} (g : Grows h h') {a : Addr} {n : Nat} {cs : List Value} (hc : h.cells E a n = some cs) : h'.cells E a n = some cs := by
  cases n with
  | zero => simpa [H.cells] using hc
  | succ n =>
    unfold H.cells at hc ⊢
    simp only at hc ⊢
    cases hs : a.spot with
    | none => rw [hs] at hc; exact hc
    | some s =>
      rw [hs] at hc
      cases s with
      | zero =>
        simp only at hc ⊢
        cases hb : h.blk a.block with
        | none => rw [hb] at hc; cases hc
        | some B => rw [g _ _ hb]; rw [hb] at hc; exact hc
      | succ s => cases hc

mutual
theorem rep_grow {E : Env} {h h' : H} (g : Grows h h') : ∀ {t : Item} {v : Value}, rep E h t v → rep E h' t v
  | .mk k n tx ks, v, hr => by
    rw [rep] at hr ⊢
    obtain ⟨s, h1, h2⟩ := hr
    refine ⟨s, h1, ?_⟩
    rcases h2 with h2 | ⟨a, c, cs, h3, h4, h5, h6⟩
    · exact .inl h2
    · exact .inr ⟨a, c, cs, h3, h4, cells_grow g h5, repL_grow g h6⟩
theorem repL_grow {E : Env} {h h' : H} (g : Grows h h') : ∀ {ks : List Item} {cs : List Value}, repL E h ks cs → repL E h' ks cs
  | [], cs, hr => by rw [repL] at hr ⊢; exact hr
  | x :: xs, cs, hr => by
    rw [repL] at hr ⊢
    obtain ⟨a, b, c, d, l, h1, h2, h3⟩ := hr
    exact ⟨a, b, c, d, l, h1, rep_grow g h2, repL_grow g h3⟩
end

theorem new_fresh {h : H} (hf : ∀ k, h.next ≤ k → h.dyn.get k = none) (B : Blk) : ∀ k, (h.new B).next ≤ k → (h.new B).dyn.get k = none := by
  intro k hk
  have hk : h.next + 1 ≤ k := hk
  simp only [H.new]
  rw [T.get_set_ne _ _ _ _ (by omega)]
  exact hf k (by omega)
theorem Grows.trans {h h' h'' : H} (g : Grows h h') (g' : Grows h' h'') : Grows h h'' := fun k B hb => g' k B (g k B hb)
theorem cell_grow {E : Env} {h h' : H} (g : Grows h h') {a : Addr} {v : Value} (hc : h.cell E a = some v) : h'.cell E a = some v := by
  unfold H.cell at hc ⊢
  cases hs : a.spot with
  | none => rw [hs] at hc; exact hc
  | some s =>
    rw [hs] at hc
    cases s with
    | zero =>
      simp only at hc ⊢
      cases hb : h.blk a.block with
      | none => rw [hb] at hc; cases hc
      | some B => rw [g _ _ hb]; rw [hb] at hc; exact hc
    | succ s => cases hc

theorem grows_new {h : H} (hf : ∀ k, h.next ≤ k → h.dyn.get k = none) (B : Blk) : Grows h (h.new B) := by
  intro k B' hb
  rw [new_blk_old]
  · exact hb
  · intro e
    subst e
    have := H.blk_dyn hb
    rw [hf _ (Nat.le_refl _)] at this; cases this
end Go.Hs
/- What the functions on items reckon. -/
namespace Go.Hs

/-- The body of the first loop of a piece of code. -/
def firstLoop : Code → Option Code
  | .seq a b => match firstLoop a with
    | some c => some c
    | none => firstLoop b
  | .cond _ a b => match firstLoop a with
    | some c => some c
    | none => firstLoop b
  | .block _ c => firstLoop c
  | .scope c => firstLoop c
  | .loop c => some c
  | _ => none
def loopOf (f : Func) : Code := match f.body with
  | some c => (firstLoop c).getD .skip
  | none => .skip

/-! ### Is an item right? -/
mutual
def chkI : Item → Int → Int → Int × Int
  | .mk k n tx ks, b, l => if l > 250 then (b, 11) else if b ≥ 5000 then (b, 2) else if k < 1 ∨ k > 63 ∨ n < 0 ∨ n > 1099511627776 then (b, 3) else if (tx.data.toList.length : Int) > 4096 then (b, 11) else chkL ks (b + 1) (l + 1)
def chkL : List Item → Int → Int → Int × Int
  | [], b, _ => (b, 0)
  | x :: xs, b, l => if (chkI x b l).2 ≠ 0 then chkI x b l else chkL xs (chkI x b l).1 l
end

mutual
theorem chkI_bound : ∀ (t : Item) (b l : Int), 0 ≤ b → b ≤ 5000 → 0 ≤ (chkI t b l).1 ∧ (chkI t b l).1 ≤ 5000
  | .mk k n tx ks, b, l, h1, h2 => by
    rw [chkI]
    split
    · exact ⟨h1, h2⟩
    · split
      · exact ⟨h1, h2⟩
      · split
        · exact ⟨h1, h2⟩
        · split
          · exact ⟨h1, h2⟩
          · exact chkL_bound ks (b + 1) (l + 1) (by omega) (by omega)
theorem chkL_bound : ∀ (ks : List Item) (b l : Int), 0 ≤ b → b ≤ 5000 → 0 ≤ (chkL ks b l).1 ∧ (chkL ks b l).1 ≤ 5000
  | [], b, l, h1, h2 => by rw [chkL]; exact ⟨h1, h2⟩
  | x :: xs, b, l, h1, h2 => by
    rw [chkL]
    have := chkI_bound x b l h1 h2
    split
    · exact this
    · exact chkL_bound xs _ l this.1 this.2
end

mutual
/-- A right item has as many items as are counted. -/
theorem chkI_size : ∀ (t : Item) (b l : Int), (chkI t b l).2 = 0 → (chkI t b l).1 = b + isz t
  | .mk k n tx ks, b, l, h => by
    rw [chkI] at h ⊢
    split at h
    · cases h
    · split at h
      · cases h
      · split at h
        · cases h
        · split at h
          · cases h
          · next h1 h2 h3 h4 =>
            rw [if_neg h1, if_neg h2, if_neg h3, if_neg h4, chkL_size ks _ _ h, isz]
            push_cast; omega
theorem chkL_size : ∀ (ks : List Item) (b l : Int), (chkL ks b l).2 = 0 → (chkL ks b l).1 = b + iszL ks
  | [], b, l, _ => by rw [chkL, iszL]; simp
  | x :: xs, b, l, h => by
    rw [chkL] at h ⊢
    split at h
    · next hne => exact absurd h hne
    · next hne =>
      rw [if_neg hne]
      have h0 : (chkI x b l).2 = 0 := Classical.not_not.1 hne
      rw [chkL_size xs _ l h, chkI_size x b l h0, iszL]
      push_cast; omega
end

/-! ### The greatest level -/
mutual
def lvlI : Item → Int
  | .mk _ _ _ ks => lvlL ks 0 + 1
def lvlL : List Item → Int → Int
  | [], m => m
  | x :: xs, m => lvlL xs (if lvlI x > m then lvlI x else m)
end
mutual
theorem lvlI_bound : ∀ (t : Item), 1 ≤ lvlI t ∧ lvlI t ≤ isz t
  | .mk k n tx ks => by
    rw [lvlI, isz]
    have := lvlL_bound ks 0 (Int.le_refl _)
    push_cast; omega
theorem lvlL_bound : ∀ (ks : List Item) (m : Int), 0 ≤ m → m ≤ lvlL ks m ∧ lvlL ks m ≤ m + iszL ks
  | [], m, h => by rw [lvlL, iszL]; simp
  | x :: xs, m, h => by
    rw [lvlL, iszL]
    have h1 := lvlI_bound x
    split
    · have := lvlL_bound xs (lvlI x) (by omega)
      push_cast; omega
    · have := lvlL_bound xs m h
      push_cast; omega
end

/-! ### Which comes first -/
mutual
def ordI : Item → Item → Int
  | .mk k n t ks, .mk k' n' t' ks' =>
    if k ≠ k' then (if k < k' then -1 else 1)
    else if n ≠ n' then (if n < n' then -1 else 1)
    else if (t.data.toList == t'.data.toList) = false then (if Op.bytesLess t.data.toList t'.data.toList then -1 else 1)
    else ordL ks ks'
def ordL : List Item → List Item → Int
  | [], [] => 0
  | [], _ :: _ => -1
  | _ :: _, [] => 1
  | x :: xs, y :: ys => if ordI x y ≠ 0 then ordI x y else ordL xs ys
end

/-- Items, levels, error. -/
def szI (t : Item) : Int × Int × Int := if (chkI t 0 1).2 ≠ 0 then (0, 0, (chkI t 0 1).2) else ((chkI t 0 1).1, lvlI t, 0)
/-- The error of two. -/
def bothI (x y : Item) : Int := if (chkI x 0 1).2 ≠ 0 then (chkI x 0 1).2 else (chkI y 0 1).2
def cmpI (x y : Item) : Int × Int := if bothI x y ≠ 0 then (0, bothI x y) else (ordI x y, 0)

/-- What is asked of operations that write nothing. -/
theorem allMeet_quiet {b : Array Nat} {ts : List Tch} (h : ts.all (fun t => t.writes.isEmpty && !t.rooted) = true) : allMeet b ts = true := by
  rw [List.all_eq_true] at h
  unfold allMeet
  simp only [List.all_eq_true]
  rintro ⟨s, i⟩ hs ⟨t, j⟩ ht
  have h1 := h s (List.mem_of_getElem? (List.mem_zipIdx_iff_getElem?.1 hs))
  have h2 := h t (List.mem_of_getElem? (List.mem_zipIdx_iff_getElem?.1 ht))
  simp only [Bool.and_eq_true, Bool.not_eq_true', List.isEmpty_iff] at h1 h2
  have : meets s t = true := by
    unfold meets
    rw [h1.1, h2.1, h1.2, h2.2]
    simp [apart?]
  rw [this, Bool.or_true]

theorem Wc.draw {D : Tab} {E : Env} {I : Known} {F : Fx} {id : Nat} {ops : Array Oper} {A A' : Ac} {h h' : H} {ts : List Tch} {Q : Ex → Ac → H → Prop} (hd : drawOk ops = true) (hf : runFree D E (ev D E I 1) ops 0 ops.toList A h = some (A', h', ts))
    (hw : ts.all (fun t => t.writes.isEmpty && !t.rooted) = true) (hq : Q .normal A' h') : Wc D E I F (.region id ops true) A h Q := by
  refine Wc.region_eq (A' := A') (h' := h') ?_ hq
  simp only [runRegion, hd, hf, allMeet_quiet hw]

/-- Operations of a region whose order is open, that leave the heap. -/
inductive QO (D : Tab) (E : Env) (v : Ev) (ops : Array Oper) : List Oper → Ac → H → Ac → Prop
  | nil {A : Ac} {h : H} : QO D E v ops [] A h A
  | cons {o : Oper} {rest : List Oper} {A A' : Ac} {h : H} {x : Value} (hg : o.guard = none) (hs : isStore o.op = false) (ho : oper1 D E v A o (fresh h) = some (x, fresh h)) (r : QO D E v ops rest (A.put o.dst x) h A') : QO D E v ops (o :: rest) A h A'

theorem back_fresh (h : H) : back h (fresh h) = h := note_nil h

theorem QO.free {D : Tab} {E : Env} {v : Ev} {ops : Array Oper} : ∀ {l : List Oper} {A A' : Ac} {h : H} (j : Nat), QO D E v ops l A h A' → ∃ ts, runFree D E v ops j l A h = some (A', h, ts) ∧ ts.all (fun t => t.writes.isEmpty && !t.rooted) = true := by
  intro l
  induction l with
  | nil => intro A A' h j q; cases q; exact ⟨[], rfl, rfl⟩
  | cons o l ih =>
    intro A A' h j q
    cases q with
    | cons hg hs ho r =>
      obtain ⟨ts, h1, h2⟩ := ih (j + 1) r
      refine ⟨⟨reads D A o, [], h.next, h.next, rootedStore A h o.op⟩ :: ts, ?_, ?_⟩
      · have ho' : oper1 D E v A o { h with mark := h.next, log := [] } = some (_, fresh h) := ho
        simp only [runFree, awant_none hg, ho']
        have hc : (!(mayJoin o.op) || Nat.beq (fresh h).next h.next || slimOf ops j) = true := by
          rw [show Nat.beq (fresh h).next h.next = true from Nat.beq_refl h.next]; simp
        rw [hc]
        have hb : ({ (fresh h) with mark := h.mark, log := h.log } : H).note (fresh h).log = h := back_fresh h
        simp only [hb, h1]
        rfl
      · rw [List.all_cons, h2]
        have : rootedStore A h o.op = false := by
          cases hop : o.op <;> first | rfl | (rw [hop] at hs; cases hs)
        simp [this]

theorem Wc.quiet {D : Tab} {E : Env} {I : Known} {F : Fx} {id : Nat} {l : List Oper} {A A' : Ac} {h : H} {Q : Ex → Ac → H → Prop} (hd : drawOk l.toArray = true) (hq : QO D E (ev D E I 1) l.toArray l A h A') (w : Q .normal A' h) : Wc D E I F (.region id l.toArray true) A h Q := by
  obtain ⟨ts, h1, h2⟩ := hq.free 0
  exact Wc.draw hd h1 h2 w

theorem note_mk (h : H) : (H.mk h.next h.dyn h.chains h.mark h.log).note [] = h := note_nil h
end Go.Hs
/- Functions that make memory: what stays, slices that are appended to, calls that are reckoned as known. -/
namespace Go.Hs

/-- A heap in order: behind its end is nothing, chains begin in it, the mark lies in it. -/
structure Fit (h : H) : Prop where
  free : ∀ k, h.next ≤ k → h.dyn.get k = none
  ok : h.Ok

/-- A heap behind another: what was there is there, nothing that was there is written. -/
structure Ahd (h g : H) : Prop where
  fit : Fit g
  grows : Grows h g
  log : g.log = h.log
  mark : g.mark = h.mark
  next : h.next ≤ g.next
  chain : ∀ r, r < h.next → g.chain r = h.chain r

theorem Ahd.refl {h : H} (f : Fit h) : Ahd h h := ⟨f, fun _ _ h => h, rfl, rfl, Nat.le_refl _, fun _ _ => rfl⟩
theorem Ahd.trans {h g f : H} (s : Ahd h g) (t : Ahd g f) : Ahd h f :=
  ⟨t.fit, s.grows.trans t.grows, t.log.trans s.log, t.mark.trans s.mark, Nat.le_trans s.next t.next, fun r hr => (t.chain r (Nat.lt_of_lt_of_le hr s.next)).trans (s.chain r hr)⟩

theorem Fit.fresh {h : H} (f : Fit h) : Fit (fresh h) := ⟨f.free, f.ok.1, Nat.le_refl _⟩

theorem Fit.none {h : H} (f : Fit h) {k : Nat} {B : Blk} (hb : h.dyn.get k = some B) : k < h.next := by
  apply Classical.byContradiction
  intro hk
  rw [f.free k (by omega)] at hb; cases hb
theorem Fit.lt {h : H} (f : Fit h) {k : Nat} {B : Blk} (hb : h.blk k = some B) : k < h.next := f.none (H.blk_dyn hb)

theorem Fit.new {h : H} (f : Fit h) {B : Blk} (hB : B.plain = true) : Fit (h.new B) := ⟨new_fresh f.free B, (Lg.new f.ok B hB).ok f.ok⟩
theorem Ahd.new0 {h : H} (f : Fit h) {B : Blk} (hB : B.plain = true) : Ahd h (h.new B) :=
  ⟨f.new hB, grows_new f.free B, rfl, rfl, Nat.le_succ _, fun _ _ => rfl⟩

/-! ### A plain block that is written -/
def H.setb (h : H) (k : Nat) (B : Blk) : H := { h with dyn := h.dyn.set k B }

theorem note_above {h : H} {ks : List Nat} (hk : ∀ k ∈ ks, h.mark ≤ k) : h.note ks = h := by
  unfold H.note
  split
  · rfl
  · next m hm =>
    have : ks.filter (fun k => Nat.ble k m) = [] := by
      rw [List.filter_eq_nil_iff]
      intro k hkk
      have := hk k hkk
      rw [hm] at this
      simp only [Nat.ble_eq]; omega
    rw [this]
    rfl

theorem setb_same {h : H} {k : Nat} {B : Blk} (hB : B.plain = true) : (h.setb k B).blk k = some B := by
  have hd : (h.setb k B).dyn.get k = some B := T.get_set_same _ _ _
  cases B with
  | cells xs ty rt => cases rt with
    | none => exact blk_none_root hd
    | some _ => cases hB
  | _ => unfold H.blk; rw [hd]
theorem setb_ne {h : H} {k j : Nat} {B : Blk} (hk : j ≠ k) : (h.setb k B).blk j = h.blk j :=
  blk_congr (by simp only [H.setb]; rw [T.get_set_ne _ _ _ _ hk]) (fun _ _ _ _ _ => Iff.rfl)
theorem Fit.setb {h : H} (f : Fit h) {k : Nat} {B : Blk} (hB : B.plain = true) (hk : k < h.next) : Fit (h.setb k B) := by
  refine ⟨fun j hj => ?_, fun j xs ty r p hd => ?_, f.ok.2⟩
  · have hj : h.next ≤ j := hj
    simp only [H.setb]; rw [T.get_set_ne _ _ _ _ (by omega)]; exact f.free j hj
  · simp only [H.setb, T.get_set] at hd ⊢
    split at hd
    · cases hd; simp [Blk.plain] at hB
    · exact f.ok.1 _ _ _ _ _ hd

theorem put_plain {h : H} {k o : Nat} {vs xs : List Value} {ty : TypeId} (hb : h.blk k = some (.cells xs ty none)) (hv : vs ≠ []) (hl : o + vs.length ≤ xs.length) (h1 : vs.all isOne = true) (hm : h.mark ≤ k) :
    h.put (aadd (own k) o) vs = some (h.setb k (.cells (xs.take o ++ vs ++ xs.drop (o + vs.length)) ty none)) := by
  unfold H.put
  cases vs with
  | nil => exact absurd rfl hv
  | cons v vs =>
    simp only [aadd, own, Nat.zero_add, hb]
    rw [h1, show Nat.ble (o + (v :: vs).length) xs.length = true from by rw [Nat.ble_eq]; exact hl]
    simp only [Bool.and_self]
    congr 1
    exact note_above (h := { h with dyn := _ }) (fun j hj => by simp at hj; subst hj; exact hm)

theorem put_own {h : H} {k : Nat} {vs xs : List Value} {ty : TypeId} (hb : h.blk k = some (.cells xs ty none)) (hv : vs ≠ []) (hl : vs.length = xs.length) (h1 : vs.all isOne = true) (hm : h.mark ≤ k) :
    h.put (own k) vs = some (h.setb k (.cells vs ty none)) := by
  have := put_plain (o := 0) hb hv (by omega) h1 hm
  rw [show aadd (own k) 0 = own k from rfl, List.take_zero, List.nil_append, List.drop_of_length_le (by omega), List.append_nil] at this
  exact this

theorem turn_above {h : H} {k : Nat} {B : Blk} (hm : h.mark ≤ k) : h.turn k B = h.setb k B :=
  note_above (h := { h with dyn := _ }) (fun j hj => by simp at hj; subst hj; exact hm)

theorem blk_cells {E : Env} {h : H} {k n : Nat} {xs : List Value} {ty : TypeId} {rt : Option (Nat × Nat)} (hb : h.blk k = some (.cells xs ty rt)) (hn : xs.length = n) (h1 : xs.all isOne = true) : h.cells E (own k) n = some xs := by
  subst hn
  cases xs with
  | nil => rfl
  | cons x xs =>
    unfold H.cells
    simp only [List.length_cons, own, hb, List.drop_zero, Nat.zero_add]
    rw [show (x :: xs).take (xs.length + 1) = x :: xs from List.take_of_length_le (by simp)]
    rw [h1, show Nat.ble (xs.length + 1) (xs.length + 1) = true from by rw [Nat.ble_eq]; exact Nat.le_refl _]
    rfl
theorem blk_cell {E : Env} {h : H} {k i : Nat} {xs : List Value} {ty : TypeId} {rt : Option (Nat × Nat)} {x : Value} (hb : h.blk k = some (.cells xs ty rt)) (hx : xs[i]? = some x) (h1 : isOne x = true) : h.cell E (aadd (own k) i) = some x := by
  simp only [H.cell, aadd, own, hb, Nat.zero_add, hx, one?, h1]
theorem blk_cell0 {E : Env} {h : H} {k : Nat} {xs : List Value} {ty : TypeId} {rt : Option (Nat × Nat)} {x : Value} (hb : h.blk k = some (.cells (x :: xs) ty rt)) (h1 : isOne x = true) : h.cell E (own k) = some x :=
  blk_cell (i := 0) hb rfl h1

/-! ### What lies in new chains alone -/
def seen (p : Nat → Bool) : Option Blk → Option Blk
  | some (.cells xs ty (some (r, q))) => match p r with
    | true => some (.cells xs ty (some (r, q)))
    | false => none
  | _ => none
/-- The blocks of some chains alone. -/
def only (p : Nat → Bool) (h : H) : H := ⟨h.next, T.ofOpts ((List.range h.next).map fun k => seen p (h.blk k)) 0 .nil, h.chains, h.mark, h.log⟩

theorem only_dyn (p : Nat → Bool) (h : H) (k : Nat) : (only p h).dyn.get k = if k < h.next then seen p (h.blk k) else none := by
  have := T.get_ofOpts ((List.range h.next).map fun k => seen p (h.blk k)) 0 .nil k (fun k _ => T.get_nil k)
  simp only [only]
  rw [this, if_pos (Nat.zero_le _), Nat.sub_zero, List.getElem?_map]
  by_cases hk : k < h.next
  · rw [List.getElem?_range hk, if_pos hk]; rfl
  · rw [List.getElem?_eq_none (by simpa using hk), if_neg hk]; rfl

theorem only_blk {p : Nat → Bool} {h : H} (f : Fit h) {k : Nat} {B : Blk} : (only p h).blk k = some B ↔ h.blk k = some B ∧ ∃ xs ty r q, B = .cells xs ty (some (r, q)) ∧ p r = true := by
  constructor
  · intro hb
    have hd := H.blk_dyn hb
    rw [only_dyn] at hd
    split at hd
    · next hk =>
      unfold seen at hd
      split at hd
      · next xs ty r q hh =>
        split at hd
        · next hp => cases hd; exact ⟨hh, xs, ty, r, q, rfl, hp⟩
        · cases hd
      · cases hd
    · cases hd
  · rintro ⟨hb, xs, ty, r, q, rfl, hp⟩
    have hk := f.lt hb
    have hd : (only p h).dyn.get k = some (.cells xs ty (some (r, q))) := by
      rw [only_dyn, if_pos hk, hb]
      simp only [seen, hp]
    unfold H.blk
    rw [hd]
    simp only
    have hc : (only p h).chain r = h.chain r := rfl
    rw [hc]
    unfold H.blk at hb
    rw [H.blk_dyn (h := h) (k := k) (B := .cells xs ty (some (r, q))) (by unfold H.blk; exact hb)] at hb
    exact hb

theorem only_grows {p : Nat → Bool} {h : H} (f : Fit h) : Grows (only p h) h := fun _ _ hb => ((only_blk f).1 hb).1

/-- A slice that is appended to. -/
def Ap (h : H) (base : Nat) (e : TypeId) (sz : Nat) (s : Value) (n : Nat) (xs : List Value) (ro : Option Nat) : Prop :=
  (n = 0 ∧ xs = [] ∧ s = .slice none 0 0 ∧ ro = none) ∨
  ∃ k r, s = .slice (some (own k)) n n ∧ h.blk k = some (.cells xs e (some (r, 0))) ∧ xs.length = n * sz ∧ xs.all isOne = true ∧ base ≤ r ∧ (∀ j ∈ h.chain r, base ≤ j) ∧ ro = some r

def rootsNot (ro : Option Nat) (B : Blk) : Prop := ∀ xs ty r q, B = .cells xs ty (some (r, q)) → ro ≠ some r

theorem newOpen_new {h : H} {xs : List Value} {ty : TypeId} : (h.newOpen xs ty).blk h.next = some (.cells xs ty (some (h.next, 0))) := by
  have hd : (h.newOpen xs ty).dyn.get h.next = some (.cells xs ty (some (h.next, 0))) := T.get_set_same _ _ _
  have hc : (h.newOpen xs ty).chain h.next = [h.next] := by simp only [H.chain, H.newOpen, T.get_set_same, Option.getD]
  unfold H.blk
  rw [hd]
  simp only [hc, List.contains_cons, beq_self_eq_true, Bool.true_or]
theorem newOpen_old {h : H} (f : Fit h) {xs : List Value} {ty : TypeId} {k : Nat} {B : Blk} (hb : h.blk k = some B) : (h.newOpen xs ty).blk k = some B := by
  have hk := f.lt hb
  rw [← hb]
  refine blk_congr (by simp only [H.newOpen]; rw [T.get_set_ne _ _ _ _ (by omega)]) (fun ys u r q hd => ?_)
  have := f.ok.1 _ _ _ _ _ hd
  simp only [H.newOpen, H.chain]
  rw [T.get_set_ne _ _ _ _ (by omega)]
theorem newOpen_fit {h : H} (f : Fit h) {xs : List Value} {ty : TypeId} : Fit (h.newOpen xs ty) := by
  refine ⟨fun k hk => ?_, (Lg.newOpen f.ok xs ty).ok f.ok⟩
  have hk : h.next + 1 ≤ k := hk
  simp only [H.newOpen]
  rw [T.get_set_ne _ _ _ _ (by omega)]
  exact f.free k (by omega)

/-- What a heap keeps of one from which a chain grew. -/
structure Grew (base : Nat) (ro : Option Nat) (h g : H) : Prop where
  fit : Fit g
  keep : ∀ k B, h.blk k = some B → rootsNot ro B → g.blk k = some B
  log : g.log = h.log
  mark : g.mark = h.mark
  next : h.next ≤ g.next
  chain : ∀ r, r < base → g.chain r = h.chain r

theorem ap_step {D : Tab} {E : Env} {h : H} {base : Nat} {t t2 e : TypeId} {sz by_ n kx c i6 i7 : Nat} {i8 : Option Value} {i9 : Bool} {s ze : Value} {xs cs : List Value} {ro : Option Nat} (f : Fit h) (hbm : h.mark ≤ base) (hbn : base ≤ h.next) (ap : Ap h base e sz s n xs ro)
    (ht : D.ty.get t = some ⟨.slice e sz by_, i6, i7, i8, i9⟩) (hz : tzero D e = some ze) (hzz : (Nat.beq ze.cells.toList.length sz && Nat.blt 0 sz && ze.cells.toList.all isOne) = true) (hzt : zeroArg D t2 (.slice (some (own kx)) 1 c) = some false)
    (hx : h.cells E (own kx) sz = some cs) (hcl : cs.length = sz) (hc1 : cs.all isOne = true) (hrm : roomy (n + 1) by_ = true) :
    ∃ s' h' ro', aappend D E t t2 s (.slice (some (own kx)) 1 c) h = some (s', h') ∧ Ap h' base e sz s' (n + 1) (xs ++ cs) ro' ∧ Grew base ro h h' ∧ (ro = none ∧ ro' = some h.next ∨ ro ≠ none ∧ ro' = ro) := by
  have hel : aelems E sz ze.cells.toList (.slice (some (own kx)) 1 c) h = some (1, cs) := by
    simp only [aelems, Nat.one_mul, hx]
  have hbl : Nat.beq cs.length (1 * sz) = true := by rw [Nat.one_mul, hcl]; exact Nat.beq_refl sz
  have hsz : 0 < sz := by
    simp only [Bool.and_eq_true, Nat.blt_eq] at hzz
    exact hzz.1.2
  rcases ap with ⟨rfl, rfl, rfl, rfl⟩ | ⟨k, r, rfl, hb, hl, h1, hbr, hch, rfl⟩
  · refine ⟨.slice (some (own h.next)) 1 1, h.newOpen cs e, some h.next, ?_, .inr ⟨h.next, h.next, rfl, ?_, ?_, ?_, hbn, ?_, rfl⟩, ⟨newOpen_fit f, fun k B hb _ => newOpen_old f hb, rfl, rfl, Nat.le_succ _, fun r hr => ?_⟩, .inl ⟨rfl, rfl⟩⟩
    · unfold aappend
      rw [ht]
      simp only [hz, hzt, hzz, hel, hbl, hrm]
    · exact newOpen_new
    · rw [List.nil_append]; simp [hcl]
    · rw [List.nil_append]; exact hc1
    · intro j hj
      simp only [H.chain, H.newOpen, T.get_set_same, Option.getD, List.mem_singleton] at hj
      omega
    · simp only [H.chain, H.newOpen]
      rw [T.get_set_ne _ _ _ _ (by omega)]
  · have hkn := f.lt hb
    have hd := H.blk_dyn hb
    have hrn := f.ok.1 _ _ _ _ _ hd
    have hgr : h.grow e r (0 + (own k).off) (n * sz) (own k).block (xs.drop (own k).off) cs = { h with next := h.next + 1, dyn := h.dyn.set h.next (.cells (xs ++ cs) e (some (r, 0))), chains := h.chains.set r (h.next :: h.spare r k (0 + n * sz) (0 + n * sz + cs.length)) } := by
      unfold H.grow
      simp only [own, Nat.add_zero, List.drop_zero]
      exact note_above (fun j hj => Nat.le_trans hbm (hch j (mem_gone.1 hj).1))
    generalize hg : ({ h with next := h.next + 1, dyn := h.dyn.set h.next (.cells (xs ++ cs) e (some (r, 0))), chains := h.chains.set r (h.next :: h.spare r k (0 + n * sz) (0 + n * sz + cs.length)) } : H) = g at hgr
    have hcr : g.chain r = h.next :: h.spare r k (0 + n * sz) (0 + n * sz + cs.length) := by
      rw [← hg]; simp only [H.chain, T.get_set_same, Option.getD]
    have hcn : ∀ r', r' ≠ r → g.chain r' = h.chain r' := by
      intro r' hr'
      rw [← hg]; simp only [H.chain]; rw [T.get_set_ne _ _ _ _ hr']
    have hgn : g.next = h.next + 1 := by rw [← hg]
    have hnew : g.blk h.next = some (.cells (xs ++ cs) e (some (r, 0))) := by
      have hdd : g.dyn.get h.next = some (.cells (xs ++ cs) e (some (r, 0))) := by rw [← hg]; exact T.get_set_same _ _ _
      unfold H.blk
      rw [hdd]
      simp only [hcr, List.contains_cons, beq_self_eq_true, Bool.true_or]
    have hold : ∀ j, j ≠ h.next → g.dyn.get j = h.dyn.get j := by
      intro j hj
      rw [← hg]; exact T.get_set_ne _ _ _ _ hj
    refine ⟨.slice (some (own h.next)) (n + 1) (n + 1), g, some r, ?_, .inr ⟨h.next, r, rfl, hnew, ?_, ?_, hbr, ?_, rfl⟩, ⟨⟨fun j hj => ?_, fun j ys ty r' p hd' => ?_, ?_⟩, ?_, ?_, ?_, ?_, ?_⟩, .inr ⟨by simp, rfl⟩⟩
    · unfold aappend
      rw [ht]
      simp only [hz, hzt, hzz, hel, hbl, hrm]
      have e1 : (own k).spot = some 0 := rfl
      have e2 : (own k).block = k := rfl
      have e3 : (own k).off = 0 := rfl
      have e4 : Nat.ble (n + 1) n = false := by
        cases hq : Nat.ble (n + 1) n
        · rfl
        · rw [Nat.ble_eq] at hq; omega
      simp only [e1, e2, hb, e4]
      have e5 : (Nat.beq n n && Nat.beq ((own k).off + n * sz) xs.length && Nat.beq e e && (xs.drop (own k).off).all isOne && Nat.ble (own k).off xs.length) = true := by
        rw [e3, Nat.zero_add, hl, List.drop_zero, h1, Nat.beq_refl, Nat.beq_refl, Nat.beq_refl]
        simp [Nat.ble]
      simp only [e5]
      rw [← hgr]; rfl
    · rw [List.length_append, hl, hcl]; rw [Nat.add_mul, Nat.one_mul]
    · rw [List.all_append, h1, hc1]; rfl
    · intro j hj
      rw [hcr] at hj
      rcases List.mem_cons.1 hj with rfl | hj
      · exact hbn
      · exact hch j (mem_spare.1 hj).1
    · rw [hgn] at hj
      rw [hold j (by omega)]; exact f.free j (by omega)
    · rw [hgn]
      by_cases hj : j = h.next
      · subst hj
        have := H.blk_dyn hnew
        rw [this] at hd'; cases hd'; omega
      · rw [hold j hj] at hd'
        have := f.ok.1 _ _ _ _ _ hd'; omega
    · rw [hgn]
      have := f.ok.2
      rw [← hg]; exact Nat.le_succ_of_le this
    · intro j B hbj hro
      have hjn := f.lt hbj
      rw [← hbj]
      refine blk_congr (hold j (by omega)) (fun ys u r' q hd' => ?_)
      have : B = .cells ys u (some (r', q)) := by
        have := H.blk_dyn hbj
        rw [hd'] at this; cases this; rfl
      have hne := hro _ _ _ _ this
      rw [hcn r' (fun h => hne (by rw [h]))]
    · rw [← hg]
    · rw [← hg]
    · rw [hgn]; omega
    · intro r' hr'
      exact hcn r' (by omega)

theorem only_mono {p q : Nat → Bool} {h g : H} (f : Fit h) (f' : Fit g) (hg : ∀ k B, h.blk k = some B → (∃ xs ty r o, B = .cells xs ty (some (r, o)) ∧ p r = true) → g.blk k = some B) (hp : ∀ r, p r = true → q r = true) : Grows (only p h) (only q g) := by
  intro k B hb
  obtain ⟨h1, xs, ty, r, o, rfl, h2⟩ := (only_blk f).1 hb
  exact (only_blk f').2 ⟨hg _ _ h1 ⟨xs, ty, r, o, rfl, h2⟩, xs, ty, r, o, rfl, hp _ h2⟩
theorem only_sub {p q : Nat → Bool} {h : H} (f : Fit h) (hp : ∀ r, p r = true → q r = true) : Grows (only p h) (only q h) := only_mono f f (fun _ _ hb _ => hb) hp
theorem only_ahd {p q : Nat → Bool} {h g : H} (f : Fit h) (s : Ahd h g) (hp : ∀ r, p r = true → q r = true) : Grows (only p h) (only q g) := only_mono f s.fit (fun _ _ hb _ => s.grows _ _ hb) hp
theorem only_grew {p q : Nat → Bool} {base : Nat} {ro : Option Nat} {h g : H} (f : Fit h) (s : Grew base ro h g) (hro : ∀ r, p r = true → ro ≠ some r) (hp : ∀ r, p r = true → q r = true) : Grows (only p h) (only q g) :=
  only_mono f s.fit (fun _ _ hb ⟨_, _, _, _, hB, h2⟩ => s.keep _ _ hb (fun _ _ _ _ he => by subst hB; cases he; exact hro _ h2)) hp
theorem Ahd.setb {h g : H} (s : Ahd h g) {k : Nat} {B : Blk} (hB : B.plain = true) (hk : h.next ≤ k) (hg : k < g.next) (f : Fit h) : Ahd h (g.setb k B) :=
  ⟨s.fit.setb hB hg, fun j B' hb => by
    have := f.lt hb
    rw [setb_ne (by omega)]; exact s.grows _ _ hb, s.log, s.mark, s.next, s.chain⟩
theorem Ahd.new {h g : H} (s : Ahd h g) {B : Blk} (hB : B.plain = true) : Ahd h (g.new B) := s.trans (Ahd.new0 s.fit hB)
theorem Ahd.grew {h g g' : H} (f : Fit h) (s : Ahd h g) {ro : Option Nat} (hro : ∀ r, ro = some r → h.next ≤ r) (t : Grew h.next ro g g') : Ahd h g' :=
  ⟨t.fit, fun k B hb => t.keep _ _ (s.grows _ _ hb) (fun xs ty r q he hr => by
    subst he
    have h1 := f.ok.1 _ _ _ _ _ (H.blk_dyn hb)
    have := hro _ hr
    omega), t.log.trans s.log, t.mark.trans s.mark, Nat.le_trans s.next t.next, fun r hr => (t.chain r hr).trans (s.chain r hr)⟩
theorem only_setb {p : Nat → Bool} {h : H} (f : Fit h) {k : Nat} {B B0 : Blk} (hB : B.plain = true) (hb0 : h.blk k = some B0) (hB0 : B0.plain = true) : Grows (only p h) (only p (h.setb k B)) :=
  only_mono f (f.setb hB (f.lt hb0)) (fun j B' hb ⟨_, _, _, _, hB', _⟩ => by
    have hne : j ≠ k := by
      intro e
      subst e
      rw [hb0] at hb; cases hb; subst hB'; simp [Blk.plain] at hB0
    rw [setb_ne hne]; exact hb) (fun _ h => h)

/-- Cells of items, one behind the other. -/
theorem repL_append {E : Env} {h : H} : ∀ {ks : List Item} {cs : List Value} {x : Item} {l : List Value}, repL E h ks cs → rep E h x (.agg ⟨l⟩) → repL E h (ks ++ [x]) (cs ++ l)
  | [], cs, x, l, h1, h2 => by
    rw [repL] at h1; subst h1
    obtain ⟨k, m, tx, ks'⟩ := x
    have h3 := h2
    rw [rep] at h3
    obtain ⟨s, he, _⟩ := h3
    cases he
    rw [List.nil_append, List.nil_append, repL]
    exact ⟨_, _, _, _, [], rfl, h2, by rw [repL]⟩
  | y :: ks, cs, x, l, h1, h2 => by
    rw [repL] at h1
    obtain ⟨a, b, c, d, l', rfl, h3, h4⟩ := h1
    rw [List.cons_append, repL]
    exact ⟨a, b, c, d, l' ++ l, rfl, h3, repL_append h4 h2⟩

/-- A function that gives a variable's value. -/
theorem done_cell {D : Tab} {E : Env} {fn : Func} {A : Ac} {h : H} {t : Tmp} {ty : TypeId} {v : Value} {a : Addr} {ex : Ex} {Q : Value → H → Prop} (hex : ex = .normal ∨ ex = .ret) (hd : A.defers = []) (hr : fn.results = #[.cell t ty]) (hv : A.get t = .pointer (some a)) (hl : aload D E ty a h = some v) (hq : Q v h) :
    (ex = .normal ∨ ex = .ret) ∧ ∃ h2 v', takeAll A.defers h = some h2 ∧ ares D E fn A h2 = some v' ∧ Q v' h2 := by
  refine ⟨hex, h, v, ?_, ?_, hq⟩
  · rw [hd]; rfl
  · unfold ares
    rw [hr]
    simp only [aresL, ares1, hv, hl]
theorem done_q {D : Tab} {E : Env} {fn : Func} {A : Ac} {h : H} {t : Tmp} {v : Value} {ex : Ex} {Q : Value → H → Prop} (hex : ex = .normal ∨ ex = .ret) (hd : A.defers = []) (hr : fn.results = #[.tmp t]) (hv : A.get t = v) (hq : Q v h) :
    (ex = .normal ∨ ex = .ret) ∧ ∃ h2 v', takeAll A.defers h = some h2 ∧ ares D E fn A h2 = some v' ∧ Q v' h2 := by
  refine ⟨hex, h, v, ?_, ?_, hq⟩
  · rw [hd]; rfl
  · unfold ares
    rw [hr]
    simp only [aresL, ares1, hv]

/-! ### Calls that are reckoned -/
section
variable {P : Program} {D : Tab} {E : Env} {n0 : Nat}

open Classical in
/-- What the evaluator reckons is known. -/
noncomputable def evBy (D : Tab) (E : Env) (I : Known) : Known := fun f args h =>
  if c : ∃ r n, (ev D E I n).call f args h = some r then some (some c.choose) else none

theorem evBy_eq {I : Known} {n : Nat} {f : FuncId} {args : List Value} {h : H} {r : Value × H} (hc : (ev D E I n).call f args h = some r) : evBy D E I f args h = some (some r) := by
  have c : ∃ r n, (ev D E I n).call f args h = some r := ⟨r, n, hc⟩
  unfold evBy
  rw [dif_pos c]
  obtain ⟨m, hm⟩ := c.choose_spec
  have h1 := (ev_mono I (Nat.le_max_left n m)).call hc
  have h2 := (ev_mono I (Nat.le_max_right n m)).call hm
  rw [h1] at h2
  rw [Option.some.inj h2]
theorem evBy_known {I : Known} {f : FuncId} {args : List Value} {h : H} {r : Value × H} (hi : I f args h = some (some r)) : evBy D E I f args h = some (some r) := evBy_eq (n := 1) (ev_known hi)

theorem evBy_good (T : D.Of P) (hN : NoNum P) {I : Known} (hI : KnownGood P D E n0 I) : KnownGood P D E n0 (evBy D E I) := by
  have key : ∀ {f args h r h'}, evBy D E I f args h = some (some (r, h')) → ∃ n, (ev D E I n).call f args h = some (r, h') := by
    intro f args h r h' hi
    unfold evBy at hi
    split at hi
    · next c =>
      obtain ⟨n, hn⟩ := c.choose_spec
      rw [Option.some.inj (Option.some.inj hi)] at hn
      exact ⟨n, hn⟩
    · cases hi
  refine ⟨fun f args h r h' hi φ w R hok => ?_, fun f args h r h' hi o => ?_, fun f args h r h' hi => ?_⟩
  · obtain ⟨n, hn⟩ := key hi
    exact (ev_ok T hN hI n).call _ _ _ _ _ hn φ w R hok
  · obtain ⟨n, hn⟩ := key hi
    exact (ev_lg hI.lg n).call hn o
  · obtain ⟨n, hn⟩ := key hi
    exact (ev_next hI.next n).call hn

/-- What is to be shown of what is said, in heaps that are in order. -/
def ShownF (D : Tab) (E : Env) (I : Known) (S : Says) : Prop :=
  ∀ m f args h v, S m f args h v → Fit (fresh h) → roV v = true ∧ ∃ n h', (ev D E (upTo S I m) n).call f args (fresh h) = some (v, h') ∧ h'.log = []

theorem Shown.fit {I : Known} {S : Says} (hS : Shown D E I S) : ShownF D E I S := fun m f args h v hs hf => hS m f args h v hs hf.free

theorem upToF_good (T : D.Of P) (hN : NoNum P) {I : Known} (hI : KnownGood P D E n0 I) {S : Says} (hS : ShownF D E I S) : ∀ m, KnownGood P D E n0 (upTo S I m) := by
  have key : ∀ m, KnownGood P D E n0 (upTo S I m) → ∀ {f args h v φ w}, S m f args h v → Tie D E n0 All φ h w → (∀ x ∈ args, okV φ x) → Sim P D E n0 (callFunc f (args.map (ren φ)).toArray) φ h w v h := by
    intro m hm f args h v φ w hs R hok
    obtain ⟨hro, n, h', h1, h2⟩ := hS m f args h v hs ⟨R.fresh, R.root, Nat.le_refl _⟩
    have hev := ev_ok T hN hm n
    have hlg := (ev_lg hm.lg n).call h1 ⟨R.root, Nat.le_refl _⟩
    obtain ⟨L, l1, _, l3⟩ := hlg.log
    have hL : L = [] := by
      rw [h2] at l1
      have : L ++ (fresh h).log = [] := l1.symm
      exact (List.append_eq_nil_iff.1 this).1
    exact forget_sim R (hev.call _ _ _ _ _ h1 φ w (R.marked _ _) hok) hro (fun k hk => l3 k hk (by rw [hL]; simp))
  intro m
  induction m using Nat.strongRecOn with
  | ind m ih =>
    refine ⟨fun f args h r h' hi φ w R hok => ?_, fun f args h r h' hi o => ?_, fun f args h r h' hi => ?_⟩
    · unfold upTo at hi
      split at hi
      · next c =>
        cases hi
        obtain ⟨s, h1, h2⟩ := c.choose_spec
        exact key s (ih s h1) h2 R hok
      · exact hI.sim _ _ _ _ _ hi φ w R hok
    · unfold upTo at hi
      split at hi
      · cases hi; exact Lg.refl o
      · exact hI.lg _ _ _ _ _ hi o
    · unfold upTo at hi
      split at hi
      · cases hi; exact Nat.le_refl _
      · exact hI.next _ _ _ _ _ hi

/-- What is said is known, and good. -/
theorem saidByF_good (T : D.Of P) (hN : NoNum P) {I : Known} (hI : KnownGood P D E n0 I) {S : Says} (hS : ShownF D E I S) : KnownGood P D E n0 (saidBy S I) := by
  have hm := upToF_good T hN hI hS
  refine ⟨fun f args h r h' hi φ w R hok => ?_, fun f args h r h' hi o => ?_, fun f args h r h' hi => ?_⟩
  · unfold saidBy at hi
    split at hi
    · next c =>
      cases hi
      obtain ⟨s, h2⟩ := c.choose_spec
      obtain ⟨hro, n, h', h3, h4⟩ := hS s f args h _ h2 ⟨R.fresh, R.root, Nat.le_refl _⟩
      have hev := ev_ok T hN (hm s) n
      have hlg := (ev_lg (hm s).lg n).call h3 ⟨R.root, Nat.le_refl _⟩
      obtain ⟨L, l1, _, l3⟩ := hlg.log
      have hL : L = [] := by
        rw [h4] at l1
        have : L ++ (fresh h).log = [] := l1.symm
        exact (List.append_eq_nil_iff.1 this).1
      exact forget_sim R (hev.call _ _ _ _ _ h3 φ w (R.marked _ _) hok) hro (fun k hk => l3 k hk (by rw [hL]; simp))
    · exact hI.sim _ _ _ _ _ hi φ w R hok
  · unfold saidBy at hi
    split at hi
    · cases hi; exact Lg.refl o
    · exact hI.lg _ _ _ _ _ hi o
  · unfold saidBy at hi
    split at hi
    · cases hi; exact Nat.le_refl _
    · exact hI.next _ _ _ _ _ hi

/-- A region in which functions are called that are not known. -/
theorem Wc.opsN {I : Known} {F : Fx} {id : Nat} {l : List Oper} {A A' : Ac} {h h' : H} {Q : Ex → Ac → H → Prop} (n : Nat) (he : runOps D E (ev D E I n) l.toArray l A h = some (A', h')) (hq : Q .normal A' h') : Wc D E I F (.region id l.toArray false) A h Q := by
  refine ⟨n + 1, .normal, A', h', ?_, hq⟩
  show doCode D E (ev D E I n) F (.region id l.toArray false) A h = _
  simp only [doCode, runRegion, he]; rfl

/-- Operations, with what is asked of the end. -/
def RQ (D : Tab) (E : Env) (v : Ev) (ops : Array Oper) (l : List Oper) (A : Ac) (h : H) (Q : Ac → H → Prop) : Prop := ∃ A' h', runOps D E v ops l A h = some (A', h') ∧ Q A' h'
theorem RQ.run {v : Ev} {ops : Array Oper} {o : Oper} {rest : List Oper} {A : Ac} {h h' : H} {x : Value} {Q : Ac → H → Prop} (hw : awant ops A o = true) (ho : oper1 D E v A o h = some (x, h')) (r : RQ D E v ops rest (A.put o.dst x) h' Q) : RQ D E v ops (o :: rest) A h Q := by
  obtain ⟨A', h2, h3, h4⟩ := r
  exact ⟨A', h2, RO.run hw ho h3, h4⟩
theorem RQ.runG {v : Ev} {ops : Array Oper} {o : Oper} {rest : List Oper} {A : Ac} {h h' : H} {x : Value} {Q : Ac → H → Prop} {j : Nat} {w : Bool} {d : Tmp} (hg : o.guard = some (j, w)) (hd : (ops[j]?).bind (·.dst) = some d) (hv : A.get d = .bool w) (ho : oper1 D E v A o h = some (x, h')) (r : RQ D E v ops rest (A.put o.dst x) h' Q) : RQ D E v ops (o :: rest) A h Q := by
  obtain ⟨A', h2, h3, h4⟩ := r
  exact ⟨A', h2, RO.runG hg hd hv ho h3, h4⟩
theorem RQ.skipG {v : Ev} {ops : Array Oper} {o : Oper} {rest : List Oper} {A : Ac} {h : H} {Q : Ac → H → Prop} {j : Nat} {w : Bool} {d : Tmp} (hg : o.guard = some (j, w)) (hd : (ops[j]?).bind (·.dst) = some d) (hv : A.get d = .bool (!w)) (r : RQ D E v ops rest (A.put o.dst undef) h Q) : RQ D E v ops (o :: rest) A h Q := by
  obtain ⟨A', h2, h3, h4⟩ := r
  exact ⟨A', h2, RO.skipG hg hd hv h3, h4⟩
theorem RQ.nil {v : Ev} {ops : Array Oper} {A : Ac} {h : H} {Q : Ac → H → Prop} (hq : Q A h) : RQ D E v ops [] A h Q := ⟨A, h, rfl, hq⟩
theorem RQ.forget {v : Ev} {ops : Array Oper} {l : List Oper} {A : Ac} {h : H} {Q : Ac → H → Prop} (P : Ac → Prop) (hP : P A) (w : ∀ A', P A' → RQ D E v ops l A' h Q) : RQ D E v ops l A h Q := w A hP
theorem Wc.opsQ {I : Known} {F : Fx} {id : Nat} {l : List Oper} {A : Ac} {h : H} {Q : Ex → Ac → H → Prop} (n : Nat) (r : RQ D E (ev D E I n) l.toArray l A h (Q .normal)) : Wc D E I F (.region id l.toArray false) A h Q := by
  obtain ⟨A', h', h1, h2⟩ := r
  exact Wc.opsN n h1 h2
end
end Go.Hs
/- Loops over functions, as what holds behind them; visits of trees. -/
namespace Go.Hs
section
variable {D : Tab} {E : Env} {I : Known}

/-- A round of a loop over a function. -/
theorem Wr.round {l : Nat} {args : List Value} {h : H} {r : LoopR} {A : Ac} {Q : Value → H → Prop} (hb : h.blk l = some (.loop r)) (hp : setParams r.params.toList args ⟨r.tmps, r.n, []⟩ = some A)
    (w : Wc D E I ⟨r.fn, some l⟩ r.assign A h fun ex A1 h1 => ex = .normal ∧ ∃ r1, h1.blk l = some (.loop r1) ∧ r1.state = .ready ∧ Wc D E I ⟨r.fn, some l⟩ r.body A1 (h1.turn l (.loop { r1 with state := .busy })) fun ex A2 h2 => ∃ r2, h2.blk l = some (.loop r2) ∧
      (ex = .normal ∧ Q (.bool true) (h2.turn l (.loop { r2 with state := .ready, pending := none })) ∨ ex = .ret ∧ Q (.bool false) (h2.turn l (.loop { r2 with state := .done, pending := some .ret })))) :
    ∃ n v h', (ev D E I n).round l args h = some (v, h') ∧ Q v h' := by
  obtain ⟨n, ex, A1, h1, c1, rfl, r1, hb1, hs1, m, ex2, A2, h2, c2, r2, hb2, q⟩ := w
  have c1' := (ev_mono I (Nat.le_max_left n m)).code c1
  have c2' := (ev_mono I (Nat.le_max_right n m)).code c2
  rcases q with ⟨rfl, q⟩ | ⟨rfl, q⟩
  · refine ⟨max n m + 1, _, _, ?_, q⟩
    show doRound (ev D E I (max n m)) l args h = _
    simp only [doRound, hb, hp, c1', hb1, hs1, c2', hb2]
  · refine ⟨max n m + 1, _, _, ?_, q⟩
    show doRound (ev D E I (max n m)) l args h = _
    simp only [doRound, hb, hp, c1', hb1, hs1, c2', hb2]

/-- A loop over a function, in a frame that is no round. -/
theorem Wc.range {fn : FuncId} {f : Operand} {params : Array Tmp} {assign body : Code} {A : Ac} {h : H} {fv x : Value} {h2 : H} {r : LoopR} {Q : Ex → Ac → H → Prop} (n : Nat) (hf : opv A f = some fv)
    (hc : acall (ev D E I n) fv [.func (.yield (h.next + 1)) #[] #[]] ((h.new (.defd false)).new (.loop ⟨.ready, none, fn, A.tmps, A.n, params, assign, body, h.next⟩)) = some (x, h2))
    (hb : h2.blk (h.next + 1) = some (.loop r)) (hr : r.state ≠ .busy)
    (w : match r.pending with
      | none => Q .normal { A with defers := h.next :: A.defers } (h2.turn (h.next + 1) (.loop { r with state := .exhausted }))
      | some c => Wc D E I ⟨fn, none⟩ c { A with defers := h.next :: A.defers } (h2.turn (h.next + 1) (.loop { r with state := .exhausted })) Q) :
    Wc D E I ⟨fn, none⟩ (.rangeFunc f params assign body) A h Q := by
  have hn : (h.new (.defd false)).next = h.next + 1 := rfl
  cases hp : r.pending with
  | none =>
    rw [hp] at w
    refine ⟨n + 1, _, _, _, ?_, w⟩
    show doCode D E (ev D E I n) ⟨fn, none⟩ (.rangeFunc f params assign body) A h = _
    simp only [doCode, hf, hn, hc, hb, hp]
  | some c =>
    rw [hp] at w
    obtain ⟨m, ex, A', h', c1, q⟩ := w
    have hm := ev_mono (D := D) (E := E) I (Nat.le_max_left n m)
    have c1' := (ev_mono I (Nat.le_max_right n m)).code c1
    refine ⟨max n m + 1, ex, A', h', ?_, q⟩
    show doCode D E (ev D E I (max n m)) ⟨fn, none⟩ (.rangeFunc f params assign body) A h = _
    simp only [doCode, hf, hn, acall_mono hm hc, hb, hp]
    first
      | exact c1'
      | (split
         · next hs => exact absurd hs hr
         · exact c1')
end

/-- Blocks but some stay. -/
structure Keep (M : Nat → Prop) (h g : H) : Prop where
  blk : ∀ k B, ¬ M k → h.blk k = some B → g.blk k = some B
  next : h.next ≤ g.next
theorem Keep.refl (M : Nat → Prop) (h : H) : Keep M h h := ⟨fun _ _ _ hb => hb, Nat.le_refl _⟩
theorem Keep.trans {M : Nat → Prop} {h g f : H} (a : Keep M h g) (b : Keep M g f) : Keep M h f := ⟨fun k B hk hb => b.blk k B hk (a.blk k B hk hb), Nat.le_trans a.next b.next⟩
theorem Ahd.keep {M : Nat → Prop} {h g : H} (a : Ahd h g) : Keep M h g := ⟨fun k B _ hb => a.grows k B hb, a.next⟩

/-! ### Visits -/
section
variable {σ : Type} (step : Int → Item → σ → σ × Bool)
mutual
def visit : Int → Item → σ → σ × Bool
  | lv, .mk k n t ks, s => if (step lv (.mk k n t ks) s).2 = false then ((step lv (.mk k n t ks) s).1, false) else visitL (lv + 1) ks (step lv (.mk k n t ks) s).1
def visitL : Int → List Item → σ → σ × Bool
  | _, [], s => (s, true)
  | lv, x :: xs, s => if (visit lv x s).2 = false then ((visit lv x s).1, false) else visitL lv xs (visit lv x s).1
end
variable {step : Int → Item → σ → σ × Bool}
theorem visit_false {lv k n : Int} {tx : ByteArray} {ks : List Item} {s s1 : σ} (h : step lv (.mk k n tx ks) s = (s1, false)) : visit step lv (.mk k n tx ks) s = (s1, false) := by rw [visit]; simp only [h, if_true]
theorem visit_true {lv k n : Int} {tx : ByteArray} {ks : List Item} {s s1 : σ} (h : step lv (.mk k n tx ks) s = (s1, true)) : visit step lv (.mk k n tx ks) s = visitL step (lv + 1) ks s1 := by
  rw [visit]; simp only [h]; rw [if_neg (by simp)]
theorem visitL_false {lv : Int} {x : Item} {xs : List Item} {s s1 : σ} (h : visit step lv x s = (s1, false)) : visitL step lv (x :: xs) s = (s1, false) := by rw [visitL]; simp only [h, if_true]
theorem visitL_true {lv : Int} {x : Item} {xs : List Item} {s s1 : σ} (h : visit step lv x s = (s1, true)) : visitL step lv (x :: xs) s = visitL step lv xs s1 := by
  rw [visitL]; simp only [h]; rw [if_neg (by simp)]
end

/-- The step of a check. -/
def stepC : Int → Item → Int × Int → (Int × Int) × Bool
  | lv, .mk k n tx _, (c, e) => if lv > 250 then ((c, 11), false) else if c = 5000 then ((c, 2), false) else if k < 1 ∨ k > 63 ∨ n < 0 ∨ n > 1099511627776 then ((c, 3), false) else if (tx.data.toList.length : Int) > 4096 then ((c, 11), false) else ((c + 1, e), true)
/-- The step of a count. -/
def stepS : Int → Item → Int × Int → (Int × Int) × Bool
  | lv, _, (c, m) => ((c + 1, if lv > m then lv else m), true)

def afterC (r : Int × Int) : (Int × Int) × Bool := if r.2 = 0 then ((r.1, 0), true) else ((r.1, r.2), false)
mutual
theorem visitC : ∀ (t : Item) (lv c : Int), 0 ≤ c → c ≤ 5000 → visit stepC lv t (c, 0) = afterC (chkI t c lv)
  | .mk k n tx ks, lv, c, h1, h2 => by
    rw [visit, chkI]
    by_cases a : lv > 250
    · simp only [stepC, if_pos a, afterC]; rfl
    · by_cases b : c = 5000
      · simp only [stepC, if_neg a, if_pos b, if_pos (show c ≥ 5000 by omega), afterC]; rfl
      · by_cases d : k < 1 ∨ k > 63 ∨ n < 0 ∨ n > 1099511627776
        · simp only [stepC, if_neg a, if_neg b, if_neg (show ¬ (c ≥ 5000) by omega), if_pos d, afterC]; rfl
        · by_cases e : (tx.data.toList.length : Int) > 4096
          · simp only [stepC, if_neg a, if_neg b, if_neg (show ¬ (c ≥ 5000) by omega), if_neg d, if_pos e, afterC]; rfl
          · simp only [stepC, if_neg a, if_neg b, if_neg (show ¬ (c ≥ 5000) by omega), if_neg d, if_neg e]
            exact visitCL ks (lv + 1) (c + 1) (by omega) (by omega)
theorem visitCL : ∀ (ks : List Item) (lv c : Int), 0 ≤ c → c ≤ 5000 → visitL stepC lv ks (c, 0) = afterC (chkL ks c lv)
  | [], lv, c, h1, h2 => by rw [visitL, chkL]; rfl
  | x :: xs, lv, c, h1, h2 => by
    have hb := chkI_bound x c lv h1 h2
    have hv := visitC x lv c h1 h2
    rw [chkL]
    by_cases a : (chkI x c lv).2 = 0
    · rw [if_neg (fun h => h a)]
      rw [afterC, if_pos a] at hv
      rw [visitL_true hv]
      exact visitCL xs lv _ hb.1 hb.2
    · rw [if_pos a]
      rw [afterC, if_neg a] at hv
      rw [visitL_false hv, afterC, if_neg a]
end
theorem lvlL_max : ∀ (ks : List Item) (a : Int), 0 ≤ a → lvlL ks a = max a (lvlL ks 0)
  | [], a, ha => by simp only [lvlL]; omega
  | y :: ys, a, ha => by
    have hy := lvlI_bound y
    have e0 : lvlL (y :: ys) 0 = lvlL ys (lvlI y) := by rw [lvlL, if_pos (by omega)]
    rw [e0, lvlL, lvlL_max ys (lvlI y) (by omega)]
    by_cases q : lvlI y > a
    · rw [if_pos q, lvlL_max ys (lvlI y) (by omega)]; omega
    · rw [if_neg q, lvlL_max ys a ha]; omega
def lastS (ks : List Item) (lv m : Int) : Int := match ks with
  | [] => m
  | y :: ys => max m (lv - 1 + lvlL (y :: ys) 0)
mutual
theorem visitS : ∀ (t : Item) (lv c m : Int), visit stepS lv t (c, m) = ((c + isz t, max m (lv - 1 + lvlI t)), true)
  | .mk k n tx ks, lv, c, m => by
    have e : (if lv > m then lv else m) = max m lv := by split <;> omega
    have h := lvlL_bound ks 0 (Int.le_refl _)
    rw [visit_true (s1 := (c + 1, if lv > m then lv else m)) rfl, e, visitSL ks (lv + 1) (c + 1) _, isz, lvlI]
    simp only [Prod.mk.injEq, and_true]
    refine ⟨by push_cast; omega, ?_⟩
    cases ks with
    | nil => simp only [lastS, lvlL]; omega
    | cons x xs => simp only [lastS]; omega
theorem visitSL : ∀ (ks : List Item) (lv c m : Int), visitL stepS lv ks (c, m) = ((c + iszL ks, lastS ks lv m), true)
  | [], lv, c, m => by rw [visitL, iszL, lastS]; simp
  | x :: xs, lv, c, m => by
    have h := lvlI_bound x
    have h' := lvlL_bound xs 0 (Int.le_refl _)
    rw [visitL_true (visitS x lv c m), visitSL xs lv _ _, iszL, lastS, lvlL, if_pos (by omega), lvlL_max xs (lvlI x) (by omega)]
    simp only [Prod.mk.injEq, and_true]
    refine ⟨by push_cast; omega, ?_⟩
    cases xs with
    | nil => simp only [lastS, lvlL]; omega
    | cons y ys => simp only [lastS]; omega
end
end Go.Hs
/- Functions with a loop over a function: their end; blocks that are written. -/
namespace Go.Hs
section
variable {D : Tab} {E : Env}

theorem take_one {h : H} {d : Nat} (hb : h.blk d = some (.defd false)) (hm : h.mark ≤ d) : takeAll [d] h = some (h.setb d (.defd true)) := by
  simp only [takeAll, hb, turn_above hm]

theorem done_cellD {fn : Func} {A : Ac} {h : H} {t : Tmp} {ty : TypeId} {v : Value} {a : Addr} {d : Nat} {ex : Ex} {Q : Value → H → Prop} (hex : ex = .normal ∨ ex = .ret) (hd : A.defers = [d]) (hb : h.blk d = some (.defd false)) (hm : h.mark ≤ d) (hr : fn.results = #[.cell t ty]) (hv : A.get t = .pointer (some a)) (hl : aload D E ty a (h.setb d (.defd true)) = some v) (hq : Q v (h.setb d (.defd true))) :
    (ex = .normal ∨ ex = .ret) ∧ ∃ h2 v', takeAll A.defers h = some h2 ∧ ares D E fn A h2 = some v' ∧ Q v' h2 := by
  refine ⟨hex, _, v, by rw [hd]; exact take_one hb hm, ?_, hq⟩
  unfold ares
  rw [hr]
  simp only [aresL, ares1, hv, hl]
theorem done_cell3 {fn : Func} {A : Ac} {h h2 : H} {t u s : Tmp} {ty uy sy : TypeId} {v x y : Value} {a b c : Addr} {ex : Ex} {Q : Value → H → Prop} (hex : ex = .normal ∨ ex = .ret) (ht : takeAll A.defers h = some h2) (hr : fn.results = #[.cell t ty, .cell u uy, .cell s sy]) (hv : A.get t = .pointer (some a)) (hx : A.get u = .pointer (some b)) (hy : A.get s = .pointer (some c))
    (l1 : aload D E ty a h2 = some v) (l2 : aload D E uy b h2 = some x) (l3 : aload D E sy c h2 = some y) (hq : Q (.tuple #[v, x, y]) h2) :
    (ex = .normal ∨ ex = .ret) ∧ ∃ h2 v', takeAll A.defers h = some h2 ∧ ares D E fn A h2 = some v' ∧ Q v' h2 := by
  refine ⟨hex, _, _, ht, ?_, hq⟩
  unfold ares
  rw [hr]
  simp only [aresL, ares1, hv, hx, hy, l1, l2, l3]
end

theorem done_cct {D : Tab} {E : Env} {fn : Func} {A : Ac} {h h2 : H} {t u s : Tmp} {ty uy : TypeId} {v x y : Value} {a b : Addr} {ex : Ex} {Q : Value → H → Prop} (hex : ex = .normal ∨ ex = .ret) (ht : takeAll A.defers h = some h2) (hr : fn.results = #[.cell t ty, .cell u uy, .tmp s]) (hv : A.get t = .pointer (some a)) (hx : A.get u = .pointer (some b)) (hy : A.get s = y)
    (l1 : aload D E ty a h2 = some v) (l2 : aload D E uy b h2 = some x) (hq : Q (.tuple #[v, x, y]) h2) :
    (ex = .normal ∨ ex = .ret) ∧ ∃ h2 v', takeAll A.defers h = some h2 ∧ ares D E fn A h2 = some v' ∧ Q v' h2 := by
  refine ⟨hex, _, _, ht, ?_, hq⟩
  unfold ares
  rw [hr]
  simp only [aresL, ares1, hv, hx, hy, l1, l2]
theorem done_unit {D : Tab} {E : Env} {fn : Func} {A : Ac} {h : H} {ex : Ex} {Q : Value → H → Prop} (hex : ex = .normal ∨ ex = .ret) (hd : A.defers = []) (hr : fn.results = #[]) (hq : Q (.tuple #[]) h) :
    (ex = .normal ∨ ex = .ret) ∧ ∃ h2 v', takeAll A.defers h = some h2 ∧ ares D E fn A h2 = some v' ∧ Q v' h2 := by
  refine ⟨hex, h, .tuple #[], ?_, ?_, hq⟩
  · rw [hd]; rfl
  · unfold ares
    rw [hr]
    simp only [aresL]

/-- The first loop over a function. -/
def firstRange : Code → Option (Code × Code)
  | .seq a b => match firstRange a with
    | some c => some c
    | none => firstRange b
  | .cond _ a b => match firstRange a with
    | some c => some c
    | none => firstRange b
  | .block _ c => firstRange c
  | .scope c => firstRange c
  | .rangeFunc _ _ a b => some (a, b)
  | _ => none
def rangeOf (f : Func) : Code × Code := match f.body with
  | some c => (firstRange c).getD (.skip, .skip)
  | none => (.skip, .skip)

theorem Keep.setb {M : Nat → Prop} {h g : H} (s : Keep M h g) {k : Nat} {B : Blk} (hk : M k) : Keep M h (g.setb k B) :=
  ⟨fun j B' hj hb => by
    rw [setb_ne (by intro e; subst e; exact hj hk)]
    exact s.blk j B' hj hb, s.next⟩
theorem Keep.ahd {M : Nat → Prop} {h g f : H} (s : Keep M h g) (t : Ahd g f) : Keep M h f := s.trans t.keep

/-- The step of a count, as it is reckoned. -/
def stepW : Int → Item → Int × Int → (Int × Int) × Bool
  | lv, _, (c, m) => ((IntKind.i64.wrap (c + 1), if lv > m then lv else m), true)
mutual
theorem visitW : ∀ (t : Item) (lv c m : Int), 0 ≤ c → c + isz t ≤ 1000000000 → visit stepW lv t (c, m) = visit stepS lv t (c, m)
  | .mk k n tx ks, lv, c, m, h1, h2 => by
    rw [isz] at h2
    have e : IntKind.i64.wrap (c + 1) = c + 1 := wrap64 (by omega) (by push_cast at h2; omega)
    rw [visit_true (step := stepW) (s1 := (c + 1, if lv > m then lv else m)) (by simp only [stepW, e]), visit_true (step := stepS) (s1 := (c + 1, if lv > m then lv else m)) rfl]
    exact visitWL ks (lv + 1) (c + 1) _ (by omega) (by push_cast at h2; omega)
theorem visitWL : ∀ (ks : List Item) (lv c m : Int), 0 ≤ c → c + iszL ks ≤ 1000000000 → visitL stepW lv ks (c, m) = visitL stepS lv ks (c, m)
  | [], lv, c, m, _, _ => by rw [visitL, visitL]
  | x :: xs, lv, c, m, h1, h2 => by
    rw [iszL] at h2
    push_cast at h2
    have hv := visitS x lv c m
    rw [visitL_true (step := stepW) ((visitW x lv c m h1 (by omega)).trans hv), visitL_true (step := stepS) hv]
    exact visitWL xs lv _ _ (by omega) (by omega)
end

/-! ### Items that are not too great -/
theorem lvlL_le {B : Int} : ∀ (ks : List Item) (m : Int), m ≤ B → (∀ x ∈ ks, lvlI x ≤ B) → lvlL ks m ≤ B
  | [], m, hm, _ => by rw [lvlL]; exact hm
  | x :: xs, m, hm, h => by
    rw [lvlL]
    have hx := h x (by simp)
    split
    · exact lvlL_le xs _ hx (fun y hy => h y (by simp [hy]))
    · exact lvlL_le xs _ hm (fun y hy => h y (by simp [hy]))
theorem cntL_great : ∀ (ks : List Item) (deep many : Int), 6000 < many → cntL ks deep many = many
  | [], deep, many, _ => by rw [cntL]
  | x :: xs, deep, many, h => by rw [cntL, if_neg (by omega)]
mutual
theorem cntI_size : ∀ (t : Item) (deep many : Int), cntI t deep many ≤ 6000 → cntI t deep many = many + isz t ∧ deep + lvlI t ≤ 301
  | .mk k n tx ks, deep, many, h => by
    rw [cntI] at h ⊢
    by_cases a : deep > 300
    · rw [if_pos a] at h; omega
    · rw [if_neg a] at h ⊢
      obtain ⟨h1, h2⟩ := cntL_size ks (deep + 1) (many + 1) h
      rw [h1, isz, lvlI]
      refine ⟨by push_cast; omega, ?_⟩
      have := lvlL_le (B := 300 - deep) ks 0 (by omega) (fun x hx => by have := h2 x hx; omega)
      omega
theorem cntL_size : ∀ (ks : List Item) (deep many : Int), cntL ks deep many ≤ 6000 → cntL ks deep many = many + iszL ks ∧ ∀ x ∈ ks, deep + lvlI x ≤ 301
  | [], deep, many, _ => by rw [cntL, iszL]; exact ⟨by simp, fun x hx => by cases hx⟩
  | x :: xs, deep, many, h => by
    rw [cntL] at h ⊢
    by_cases a : many ≤ 6000
    · rw [if_pos a] at h ⊢
      have hx : cntI x deep many ≤ 6000 := by
        apply Classical.byContradiction
        intro hn
        rw [cntL_great xs deep _ (by omega)] at h
        exact hn h
      obtain ⟨h1, h2⟩ := cntI_size x deep many hx
      obtain ⟨h3, h4⟩ := cntL_size xs deep _ h
      rw [h3, h1, iszL]
      refine ⟨by push_cast; omega, fun y hy => ?_⟩
      rcases List.mem_cons.1 hy with rfl | hy
      · exact h2
      · exact h4 y hy
    · rw [if_neg a] at h; omega
end

/-- A function of which nothing is known. -/
def butNot (f0 : FuncId) (I : Known) : Known := fun f args h => match Nat.beq f f0 with
  | true => none
  | false => I f args h
theorem butNot_same {f0 : FuncId} {I : Known} {args : List Value} {h : H} : butNot f0 I f0 args h = none := by
  unfold butNot; rw [Nat.beq_refl]
theorem butNot_ne {f0 f : FuncId} {I : Known} {args : List Value} {h : H} (hf : Nat.beq f f0 = false) : butNot f0 I f args h = I f args h := by
  unfold butNot; rw [hf]
theorem butNot_good {P : Program} {D : Tab} {E : Env} {n0 : Nat} {f0 : FuncId} {I : Known} (hI : KnownGood P D E n0 I) : KnownGood P D E n0 (butNot f0 I) := by
  have key : ∀ {f args h r}, butNot f0 I f args h = some r → I f args h = some r := by
    intro f args h r hh
    unfold butNot at hh
    split at hh
    · cases hh
    · exact hh
  exact ⟨fun f args h r h' hi => hI.sim _ _ _ _ _ (key hi), fun f args h r h' hi => hI.lg _ _ _ _ _ (key hi), fun f args h r h' hi => hI.next _ _ _ _ _ (key hi)⟩
end Go.Hs
/- Regions whose order is open, one operation after the other. -/
namespace Go.Hs
section
variable {D : Tab} {E : Env} {v : Ev} {ops : Array Oper}

/-- Operations of a region whose order is open, with what is asked of the end. -/
def FQ (D : Tab) (E : Env) (v : Ev) (ops : Array Oper) (j : Nat) (l : List Oper) (A : Ac) (h : H) (Q : Ac → H → List Tch → Prop) : Prop := ∃ A' h' ts, runFree D E v ops j l A h = some (A', h', ts) ∧ Q A' h' ts

theorem FQ.nil {j : Nat} {A : Ac} {h : H} {Q : Ac → H → List Tch → Prop} (hq : Q A h []) : FQ D E v ops j [] A h Q := ⟨A, h, [], rfl, hq⟩
theorem FQ.step {j : Nat} {o : Oper} {rest : List Oper} {A : Ac} {h h1 : H} {x : Value} {Q : Ac → H → List Tch → Prop} (hw : awant ops A o = true) (hm : mayJoin o.op = false) (ho : oper1 D E v A o (fresh h) = some (x, h1))
    (r : FQ D E v ops (j + 1) rest (A.put o.dst x) (back h h1) (fun A' h' ts => Q A' h' (⟨reads D A o, h1.log, h.next, h1.next, rootedStore A h o.op⟩ :: ts))) : FQ D E v ops j (o :: rest) A h Q := by
  obtain ⟨A', h', ts, h2, hq⟩ := r
  refine ⟨A', h', _, ?_, hq⟩
  have ho' : oper1 D E v A o { h with mark := h.next, log := [] } = some (x, h1) := ho
  simp only [runFree, hw, ho', hm, Bool.not_false, Bool.true_or]
  have h2' : runFree D E v ops (j + 1) rest (A.put o.dst x) ({ h1 with mark := h.mark, log := h.log }.note h1.log) = some (A', h', ts) := h2
  rw [h2']

/-- It changes nothing. -/
theorem FQ.pure {j : Nat} {o : Oper} {rest : List Oper} {A : Ac} {h : H} {x : Value} {Q : Ac → H → List Tch → Prop} (hg : o.guard = none) (hm : mayJoin o.op = false) (ho : oper1 D E v A o (fresh h) = some (x, fresh h))
    (r : FQ D E v ops (j + 1) rest (A.put o.dst x) h (fun A' h' ts => Q A' h' (⟨reads D A o, [], h.next, h.next, rootedStore A h o.op⟩ :: ts))) : FQ D E v ops j (o :: rest) A h Q :=
  FQ.step (awant_none hg) hm ho (by rw [back_fresh]; exact r)
theorem FQ.pureG {j : Nat} {o : Oper} {rest : List Oper} {A : Ac} {h : H} {x : Value} {Q : Ac → H → List Tch → Prop} {i : Nat} {w : Bool} {d : Tmp} (hg : o.guard = some (i, w)) (hd : (ops[i]?).bind (·.dst) = some d) (hv : A.get d = .bool w) (hm : mayJoin o.op = false) (ho : oper1 D E v A o (fresh h) = some (x, fresh h))
    (r : FQ D E v ops (j + 1) rest (A.put o.dst x) h (fun A' h' ts => Q A' h' (⟨reads D A o, [], h.next, h.next, rootedStore A h o.op⟩ :: ts))) : FQ D E v ops j (o :: rest) A h Q := by
  refine FQ.step ?_ hm ho (by rw [back_fresh]; exact r)
  unfold awant
  rw [hg]
  simp only [ayield_get, hd, hv]
  cases w <;> rfl
/-- It makes a block. -/
theorem FQ.new {j : Nat} {o : Oper} {rest : List Oper} {A : Ac} {h : H} {x : Value} {B : Blk} {Q : Ac → H → List Tch → Prop} (hg : o.guard = none) (hm : mayJoin o.op = false) (ho : oper1 D E v A o (fresh h) = some (x, (fresh h).new B))
    (r : FQ D E v ops (j + 1) rest (A.put o.dst x) (h.new B) (fun A' h' ts => Q A' h' (⟨reads D A o, [], h.next, h.next + 1, rootedStore A h o.op⟩ :: ts))) : FQ D E v ops j (o :: rest) A h Q := by
  refine FQ.step (awant_none hg) hm ho ?_
  have e : back h ((fresh h).new B) = h.new B := note_nil (h.new B)
  rw [e]; exact r

/-- A heap ahead, told by itself. -/
theorem Ahd.back {h h1 : H} (f : Fit h) (a : Ahd (fresh h) h1) : Ahd h (back h h1) ∧ (∀ k, (Hs.back h h1).blk k = h1.blk k) ∧ (Hs.back h h1).next = h1.next ∧ ∀ p, Grows (only p h1) (only p (Hs.back h h1)) := by
  have hl : h1.log = [] := a.log
  have e : Hs.back h h1 = { h1 with mark := h.mark, log := h.log } := by
    show ({ h1 with mark := h.mark, log := h.log } : H).note h1.log = _
    rw [hl]; exact note_nil _
  rw [e]
  have hb : ∀ k, ({ h1 with mark := h.mark, log := h.log } : H).blk k = h1.blk k := fun k => rfl
  have hf : Fit ({ h1 with mark := h.mark, log := h.log } : H) := ⟨a.fit.free, a.fit.ok.1, Nat.le_trans f.ok.2 a.next⟩
  refine ⟨⟨hf, fun k B hk => a.grows k B hk, rfl, rfl, a.next, a.chain⟩, hb, rfl, fun p => only_mono a.fit hf (fun _ _ h _ => h) (fun _ h => h)⟩
theorem FQ.call {j : Nat} {o : Oper} {rest : List Oper} {A : Ac} {h h1 : H} {x : Value} {Q : Ac → H → List Tch → Prop} (hg : o.guard = none) (hm : mayJoin o.op = false) (ho : oper1 D E v A o (fresh h) = some (x, h1)) (hl : h1.log = [])
    (r : FQ D E v ops (j + 1) rest (A.put o.dst x) (back h h1) (fun A' h' ts => Q A' h' (⟨reads D A o, [], h.next, h1.next, rootedStore A h o.op⟩ :: ts))) : FQ D E v ops j (o :: rest) A h Q :=
  FQ.step (awant_none hg) hm ho (by rw [hl]; exact r)

/-- Cells of a block of before are written. -/
theorem put_fresh {h : H} {k : Nat} {vs xs : List Value} {ty : TypeId} (hb : h.blk k = some (.cells xs ty none)) (hv : vs ≠ []) (hl : vs.length = xs.length) (h1 : vs.all isOne = true) (hk : k < h.next) (hm : h.mark ≤ k) :
    ∃ h1, (fresh h).put (own k) vs = some h1 ∧ h1.log = [k] ∧ h1.next = h.next ∧ back h h1 = h.setb k (.cells vs ty none) := by
  have hb' : (fresh h).blk (own k).block = some (.cells xs ty none) := hb
  have hd : ∃ m, h.next = m + 1 ∧ k ≤ m := by cases hn : h.next with | zero => omega | succ m => exact ⟨m, rfl, by omega⟩
  obtain ⟨m, hm1, hm2⟩ := hd
  refine ⟨({ fresh h with dyn := (fresh h).dyn.set k (.cells vs ty none) } : H).note [k], ?_, ?_, ?_, ?_⟩
  · unfold H.put
    cases vs with
    | nil => exact absurd rfl hv
    | cons v vs =>
      simp only [hb']
      have e1 : (own k).spot = some 0 := rfl
      have e2 : (own k).off = 0 := rfl
      have e3 : (own k).block = k := rfl
      simp only [e1, e2, e3, Nat.zero_add, h1, show Nat.ble (v :: vs).length xs.length = true from by rw [Nat.ble_eq]; exact Nat.le_of_eq hl, Bool.and_self, List.take_zero, List.nil_append, List.drop_of_length_le (Nat.le_of_eq hl.symm), List.append_nil]
  · unfold H.note
    have : ({ fresh h with dyn := (fresh h).dyn.set k (.cells vs ty none) } : H).mark = m + 1 := hm1
    rw [this]
    have hble : Nat.ble k m = true := by rw [Nat.ble_eq]; exact hm2
    simp only [List.filter_cons, hble, if_true, List.filter_nil]
    rfl
  · rw [H.note_next]; rfl
  · have e : ∀ g : H, g.log = [k] → back h g = ({ g with mark := h.mark, log := h.log } : H).note [k] := fun g hg => by
      show ({ g with mark := h.mark, log := h.log } : H).note g.log = _
      rw [hg]
    rw [e _ (by
      unfold H.note
      have : ({ fresh h with dyn := (fresh h).dyn.set k (.cells vs ty none) } : H).mark = m + 1 := hm1
      rw [this]
      have hble : Nat.ble k m = true := by rw [Nat.ble_eq]; exact hm2
      simp only [List.filter_cons, hble, if_true, List.filter_nil]
      rfl)]
    rw [note_above (by intro j hj; simp at hj; subst hj; exact hm)]
    unfold H.note
    split <;> rfl
theorem FQ.store {j : Nat} {o : Oper} {rest : List Oper} {A : Ac} {h h1 : H} {k : Nat} {B : Blk} {Q : Ac → H → List Tch → Prop} (hg : o.guard = none) (hm : mayJoin o.op = false) (ho : oper1 D E v A o (fresh h) = some (undef, h1)) (hl : h1.log = [k]) (hn : h1.next = h.next) (hb : back h h1 = h.setb k B)
    (r : FQ D E v ops (j + 1) rest (A.put o.dst undef) (h.setb k B) (fun A' h' ts => Q A' h' (⟨reads D A o, [k], h.next, h.next, rootedStore A h o.op⟩ :: ts))) : FQ D E v ops j (o :: rest) A h Q :=
  FQ.step (awant_none hg) hm ho (by rw [hb, hl, hn]; exact r)

def calm (t : Tch) : Bool := t.writes.isEmpty && !t.rooted

/-- Regions in which nothing is written that was there. -/
def FC (D : Tab) (E : Env) (v : Ev) (ops : Array Oper) (j : Nat) (l : List Oper) (A : Ac) (h : H) (Q : Ac → H → Prop) : Prop := FQ D E v ops j l A h (fun A' h' ts => ts.all calm = true ∧ Q A' h')
theorem FQ.mono {j : Nat} {l : List Oper} {A : Ac} {h : H} {Q Q' : Ac → H → List Tch → Prop} (r : FQ D E v ops j l A h Q) (hq : ∀ A h ts, Q A h ts → Q' A h ts) : FQ D E v ops j l A h Q' := by
  obtain ⟨A', h', ts, h1, h2⟩ := r
  exact ⟨A', h', ts, h1, hq _ _ _ h2⟩
theorem rooted_not {A : Ac} {h : H} {op : Op} (hs : isStore op = false) : rootedStore A h op = false := by
  cases op <;> first | rfl | cases hs
theorem FC.nil {j : Nat} {A : Ac} {h : H} {Q : Ac → H → Prop} (hq : Q A h) : FC D E v ops j [] A h Q := FQ.nil ⟨rfl, hq⟩
theorem calm_cons {r : Option (List Nat)} {lo hi : Nat} {A : Ac} {h : H} {op : Op} (hs : isStore op = false) {ts : List Tch} (ht : ts.all calm = true) : (⟨r, [], lo, hi, rootedStore A h op⟩ :: ts : List Tch).all calm = true := by
  rw [List.all_cons, ht, rooted_not hs]; rfl
theorem FC.pure {j : Nat} {o : Oper} {rest : List Oper} {A : Ac} {h : H} {x : Value} {Q : Ac → H → Prop} (hg : o.guard = none) (hm : (mayJoin o.op || isStore o.op) = false) (ho : oper1 D E v A o (fresh h) = some (x, fresh h)) (r : FC D E v ops (j + 1) rest (A.put o.dst x) h Q) : FC D E v ops j (o :: rest) A h Q := by
  rw [Bool.or_eq_false_iff] at hm
  exact FQ.pure hg hm.1 ho (r.mono fun _ _ _ ⟨a, b⟩ => ⟨calm_cons hm.2 a, b⟩)
theorem FC.pureG {j : Nat} {o : Oper} {rest : List Oper} {A : Ac} {h : H} {x : Value} {Q : Ac → H → Prop} {i : Nat} {w : Bool} {d : Tmp} (hg : o.guard = some (i, w)) (hd : (ops[i]?).bind (·.dst) = some d) (hv : A.get d = .bool w) (hm : (mayJoin o.op || isStore o.op) = false) (ho : oper1 D E v A o (fresh h) = some (x, fresh h)) (r : FC D E v ops (j + 1) rest (A.put o.dst x) h Q) : FC D E v ops j (o :: rest) A h Q := by
  rw [Bool.or_eq_false_iff] at hm
  exact FQ.pureG hg hd hv hm.1 ho (r.mono fun _ _ _ ⟨a, b⟩ => ⟨calm_cons hm.2 a, b⟩)
theorem FC.new {j : Nat} {o : Oper} {rest : List Oper} {A : Ac} {h : H} {x : Value} {B : Blk} {Q : Ac → H → Prop} (hg : o.guard = none) (hm : (mayJoin o.op || isStore o.op) = false) (ho : oper1 D E v A o (fresh h) = some (x, (fresh h).new B)) (r : FC D E v ops (j + 1) rest (A.put o.dst x) (h.new B) Q) : FC D E v ops j (o :: rest) A h Q := by
  rw [Bool.or_eq_false_iff] at hm
  exact FQ.new hg hm.1 ho (r.mono fun _ _ _ ⟨a, b⟩ => ⟨calm_cons hm.2 a, b⟩)
theorem FC.forget {j : Nat} {l : List Oper} {A : Ac} {h : H} {Q : Ac → H → Prop} (P : Ac → Prop) (hP : P A) (w : ∀ A', P A' → FC D E v ops j l A' h Q) : FC D E v ops j l A h Q := w A hP

theorem Wc.drawC {I : Known} {F : Fx} {id : Nat} {l : List Oper} {A : Ac} {h : H} {Q : Ex → Ac → H → Prop} (n : Nat) (hd : drawOk l.toArray = true) (r : FC D E (ev D E I n) l.toArray 0 l A h (Q .normal)) : Wc D E I F (.region id l.toArray true) A h Q := by
  obtain ⟨A', h', ts, h1, h2, hq⟩ := r
  refine ⟨n + 1, .normal, A', h', ?_, hq⟩
  show doCode D E (ev D E I n) F (.region id l.toArray true) A h = _
  simp only [doCode, runRegion, hd, h1, allMeet_quiet h2]; rfl
theorem Wc.drawQ {I : Known} {F : Fx} {id : Nat} {l : List Oper} {A : Ac} {h : H} {Q : Ex → Ac → H → Prop} (n : Nat) (hd : drawOk l.toArray = true) (r : FQ D E (ev D E I n) l.toArray 0 l A h (fun A' h' ts => allMeet (Region.before l.toArray) ts = true ∧ Q .normal A' h')) : Wc D E I F (.region id l.toArray true) A h Q := by
  obtain ⟨A', h', ts, h1, h2, hq⟩ := r
  refine ⟨n + 1, .normal, A', h', ?_, hq⟩
  show doCode D E (ev D E I n) F (.region id l.toArray true) A h = _
  simp only [doCode, runRegion, hd, h1, h2]; rfl

/-- Operations that write nothing, and two behind them. -/
theorem allMeet_tail {b : Array Nat} {l : List Tch} {s t : Tch} (hc : l.all calm = true) (h1 : ∀ i e, l[i]? = some e → ordered b i l.length = true ∨ meets e s = true) (h2 : ∀ i e, l[i]? = some e → ordered b i (l.length + 1) = true ∨ meets e t = true) (h3 : ordered b l.length (l.length + 1) = true) : allMeet b (l ++ [s, t]) = true := by
  unfold allMeet
  simp only [List.all_eq_true]
  rintro ⟨x, i⟩ hx ⟨y, j⟩ hy
  have hx := List.mem_zipIdx_iff_getElem?.1 hx
  have hy := List.mem_zipIdx_iff_getElem?.1 hy
  simp only at hx hy ⊢
  by_cases hij : i < j
  rotate_left
  · have : Nat.blt i j = false := by
      cases q : Nat.blt i j
      · rfl
      · rw [Nat.blt_eq] at q; omega
    rw [this]; rfl
  have hjl : j < l.length + 2 := by
    have := (List.getElem?_eq_some_iff.1 hy).1
    simpa using this
  rw [List.all_eq_true] at hc
  by_cases hj : j < l.length
  · rw [List.getElem?_append_left (by omega)] at hx hy
    have c1 := hc x (List.mem_of_getElem? hx)
    have c2 := hc y (List.mem_of_getElem? hy)
    simp only [calm, Bool.and_eq_true, Bool.not_eq_true', List.isEmpty_iff] at c1 c2
    have : meets x y = true := by
      unfold meets
      rw [c1.1, c2.1, c1.2, c2.2]
      simp [apart?]
    rw [this, Bool.or_true]
  · by_cases hj2 : j = l.length
    · subst hj2
      rw [List.getElem?_append_left (by omega)] at hx
      rw [List.getElem?_append_right (Nat.le_refl _), Nat.sub_self] at hy
      cases hy
      rcases h1 i x hx with h | h <;> simp [h]
    · obtain rfl : j = l.length + 1 := by omega
      rw [List.getElem?_append_right (by omega), show l.length + 1 - l.length = 1 by omega] at hy
      cases hy
      by_cases hi : i = l.length
      · subst hi; simp [h3]
      · rw [List.getElem?_append_left (by omega)] at hx
        rcases h2 i x hx with h | h <;> simp [h]
end

/-! ### Some functions are reckoned -/
/-- What the evaluator reckons of some functions is known. -/
noncomputable def evOn (D : Tab) (E : Env) (fs : List FuncId) (I : Known) : Known := fun f args h => match fs.any (Nat.beq f) with
  | true => evBy D E I f args h
  | false => I f args h
theorem evOn_eq {D : Tab} {E : Env} {fs : List FuncId} {I : Known} {n : Nat} {f : FuncId} {args : List Value} {h : H} {r : Value × H} (hf : fs.any (Nat.beq f) = true) (hc : (ev D E I n).call f args h = some r) : evOn D E fs I f args h = some (some r) := by
  unfold evOn; rw [hf]; exact evBy_eq hc
theorem evOn_ne {D : Tab} {E : Env} {fs : List FuncId} {I : Known} {f : FuncId} {args : List Value} {h : H} (hf : fs.any (Nat.beq f) = false) : evOn D E fs I f args h = I f args h := by
  unfold evOn; rw [hf]
theorem evOn_good {P : Program} {D : Tab} {E : Env} {n0 : Nat} (T : D.Of P) (hN : NoNum P) {fs : List FuncId} {I : Known} (hI : KnownGood P D E n0 I) : KnownGood P D E n0 (evOn D E fs I) := by
  have hB := evBy_good T hN hI
  have key : ∀ {f args h r}, evOn D E fs I f args h = some r → evBy D E I f args h = some r ∨ I f args h = some r := by
    intro f args h r hh
    unfold evOn at hh
    split at hh
    · exact .inl hh
    · exact .inr hh
  exact ⟨fun f args h r h' hi => by rcases key hi with h1 | h1; exact hB.sim _ _ _ _ _ h1; exact hI.sim _ _ _ _ _ h1,
    fun f args h r h' hi => by rcases key hi with h1 | h1; exact hB.lg _ _ _ _ _ h1; exact hI.lg _ _ _ _ _ h1,
    fun f args h r h' hi => by rcases key hi with h1 | h1; exact hB.next _ _ _ _ _ h1; exact hI.next _ _ _ _ _ h1⟩

/-! ### Kids -/
/-- A slice that reads as items. -/
def repK (E : Env) (h : H) (ks : List Item) (sl : Value) : Prop := rep E h (.mk 0 0 ⟨#[]⟩ ks) (.agg ⟨[.int .i64 0, .int .i64 0, .string ⟨#[]⟩, sl]⟩)
theorem repK_of {E : Env} {h : H} {k m : Int} {tx : ByteArray} {ks : List Item} {a b c sl : Value} (hr : rep E h (.mk k m tx ks) (.agg ⟨[a, b, c, sl]⟩)) : repK E h ks sl := by
  rw [rep] at hr
  obtain ⟨s, he, hs⟩ := hr
  cases he
  unfold repK
  rw [rep]
  exact ⟨_, rfl, hs⟩
theorem repK_one {E : Env} {h : H} {ks ks' : List Item} {sl : Value} (h1 : repK E h ks sl) (h2 : repK E h ks' sl) : ks = ks' := by
  have := rep_one h1 h2
  simp only [Item.mk.injEq] at this
  exact this.2.2.2
theorem repK_grow {E : Env} {h h' : H} (g : Grows h h') {ks : List Item} {sl : Value} (h1 : repK E h ks sl) : repK E h' ks sl := rep_grow g h1
theorem repK_slice {E : Env} {h : H} {ks : List Item} {sl : Value} (hr : repK E h ks sl) : ∃ b c, sl = .slice b ks.length c ∧ ks.length < 9223372036854775808 ∧ (ks = [] ∨ ∃ a cs, b = some a ∧ h.cells E a (ks.length * 4) = some cs ∧ repL E h ks cs) := by
  obtain ⟨b, c, he, hs⟩ := rep_slice hr
  simp only [Value.agg.injEq, Array.mk.injEq, List.cons.injEq, and_true, true_and] at he
  refine ⟨b, c, he, ?_, ?_⟩
  · rcases hs with rfl | ⟨a, cs, _, h1, _⟩
    · decide
    · exact h1
  · rcases hs with h | ⟨a, cs, h1, _, h2, h3⟩
    · exact .inl h
    · exact .inr ⟨a, cs, h1, h2, h3⟩

/-- The first that is not nothing. -/
def orL : List Int → Int
  | [] => 0
  | x :: xs => if x ≠ 0 then x else orL xs
def cmpN (a b : Int) : Int := if a < b then -1 else if a > b then 1 else 0

theorem cmpL_if : ∀ (a b : List UInt8), cmpL a b = if (a == b) = false then (if Op.bytesLess a b then -1 else 1) else 0
  | [], [] => rfl
  | [], _ :: _ => rfl
  | _ :: _, [] => rfl
  | a :: as, b :: bs => by
    rw [cmpL, cmpL_if as bs]
    have h1 : ∀ x y : UInt8, x = y ↔ x.toNat = y.toNat := fun x y => ⟨fun h => by rw [h], fun h => UInt8.toNat.inj h⟩
    by_cases q : a.toNat < b.toNat
    · have e1 : a.toNat.blt b.toNat = true := by rw [Nat.blt_eq]; exact q
      have ne : a ≠ b := fun h => by rw [h] at q; exact Nat.lt_irrefl _ q
      have e2 : (a :: as == b :: bs) = false := by simp [ne]
      have e3 : Op.bytesLess (a :: as) (b :: bs) = true := by
        unfold Op.bytesLess
        simp [UInt8.lt_iff_toNat_lt, q, ne]
      rw [e2, e3]; simp [e1]
    · have e1 : a.toNat.blt b.toNat = false := by
        cases qq : a.toNat.blt b.toNat
        · rfl
        · rw [Nat.blt_eq] at qq; exact absurd qq q
      by_cases q2 : b.toNat < a.toNat
      · have e4 : b.toNat.blt a.toNat = true := by rw [Nat.blt_eq]; exact q2
        have ne : a ≠ b := fun h => by rw [h] at q2; exact Nat.lt_irrefl _ q2
        have e2 : (a :: as == b :: bs) = false := by simp [ne]
        have e3 : Op.bytesLess (a :: as) (b :: bs) = false := by
          unfold Op.bytesLess
          simp [UInt8.lt_iff_toNat_lt, q, ne]
        rw [e2, e3]; simp [e1, e4]
      · have e4 : b.toNat.blt a.toNat = false := by
          cases qq : b.toNat.blt a.toNat
          · rfl
          · rw [Nat.blt_eq] at qq; exact absurd qq q2
        obtain rfl : a = b := (h1 a b).2 (by omega)
        have e2 : (a :: as == a :: bs) = (as == bs) := by simp
        have e3 : Op.bytesLess (a :: as) (a :: bs) = Op.bytesLess as bs := by
          rw [Op.bytesLess]
          simp [UInt8.lt_iff_toNat_lt]
        rw [e2, e3]; simp [e1]
theorem ordI_or (k m : Int) (tx : ByteArray) (ks : List Item) (k' m' : Int) (tx' : ByteArray) (ks' : List Item) : ordI (.mk k m tx ks) (.mk k' m' tx' ks') = orL [cmpN k k', cmpN m m', cmpL tx.data.toList tx'.data.toList, ordL ks ks'] := by
  have hc := cmpL_if tx.data.toList tx'.data.toList
  have hn : ∀ a b : Int, cmpN a b = if a ≠ b then (if a < b then -1 else 1) else 0 := by
    intro a b
    unfold cmpN
    by_cases h : a < b
    · rw [if_pos h, if_pos (show a ≠ b by omega), if_pos h]
    · by_cases h2 : a > b
      · rw [if_neg h, if_pos h2, if_pos (show a ≠ b by omega), if_neg h]
      · rw [if_neg h, if_neg h2, if_neg (show ¬ a ≠ b by omega)]
  have ho : ∀ (p : Prop) [Decidable p] (q : Bool) (l : List Int), orL ((if p then (if q = true then -1 else 1) else 0) :: l) = if p then (if q = true then -1 else 1) else orL l := by
    intro p _ q l
    rw [orL]
    by_cases h : p
    · simp only [if_pos h]
      cases q <;> rfl
    · simp only [if_neg h]; rfl
  have h1 : orL [ordL ks ks'] = ordL ks ks' := by
    simp only [orL]
    split
    · rfl
    · next h => exact (Classical.not_not.1 h).symm
  rw [ordI, hc, hn k k', hn m m']
  have e := ho (k ≠ k') (decide (k < k')) [if m ≠ m' then (if m < m' then -1 else 1) else 0, if (tx.data.toList == tx'.data.toList) = false then (if Op.bytesLess tx.data.toList tx'.data.toList = true then -1 else 1) else 0, ordL ks ks']
  simp only [decide_eq_true_eq] at e
  rw [e]
  have e := ho (m ≠ m') (decide (m < m')) [if (tx.data.toList == tx'.data.toList) = false then (if Op.bytesLess tx.data.toList tx'.data.toList = true then -1 else 1) else 0, ordL ks ks']
  simp only [decide_eq_true_eq] at e
  rw [e, ho ((tx.data.toList == tx'.data.toList) = false), h1]

/-- The error of the first that isn't right. -/
def chkAll : List Item → Int
  | [] => 0
  | x :: xs => if (chkI x 0 1).2 ≠ 0 then (chkI x 0 1).2 else chkAll xs
theorem chkAll_two (x y : Item) : chkAll [x, y] = bothI x y := by
  simp only [chkAll, bothI]
  split
  · rfl
  · split
    · rfl
    · next h => exact (Classical.not_not.1 h).symm
end Go.Hs
/- Data that is handed in, as items. -/
namespace Go.Hs

/-- How a cell of the machine's is told to the evaluator. -/
def dec : Value → Value
  | .slice (some a) n c => match a.spot with
    | none => .slice (some a) n c
    | some s => .slice (some ⟨a.block, a.off, some (s + 1)⟩) n c
  | v => v

/-- What is read of a memory. -/
def envOf (w : World) : Env := fun b o =>
  match w.cell? ⟨b, o, none⟩ with
  | some v => match foV (dec v) with
    | true => some (dec v)
    | false => none
  | none => none

theorem dec_ren {φ : Ph} {v : Value} (h : foV (dec v) = true) : ren φ (dec v) = v := by
  cases v with
  | slice b n c => cases b with
    | none => rfl
    | some a =>
      cases hs : a.spot with
      | none => simp [dec, hs, ren, renA, extA]
      | some s =>
        simp only [dec, hs, ren, renA, extA, Nat.add_zero]
        rw [← hs]
  | _ => exact (roV.ok φ (show roV _ = true from h)).2

theorem envOf_ro {w : World} {b o : Nat} {v : Value} (h : envOf w b o = some v) : b < w.heap.size ∧ w.cell? ⟨b, o, none⟩ = some (ren (fun _ => none) v) ∧ foV v = true := by
  unfold envOf at h
  split at h
  · next x hx =>
    split at h
    · next hf =>
      cases h
      refine ⟨?_, by rw [dec_ren hf]; exact hx, hf⟩
      simp only [World.cell?] at hx
      split at hx
      · next hb => exact (Array.getElem?_eq_some_iff.1 hb).1
      · cases hx
    · cases h
  · cases h
theorem envOf_at {w : World} {b o : Nat} {v : Value} (h : w.cell? ⟨b, o, none⟩ = some v) (hf : foV (dec v) = true) : envOf w b o = some (dec v) := by
  unfold envOf
  simp only [h, hf]

theorem roCells_append {E : Env} : ∀ (n m b o : Nat) (xs ys : List Value), roCells E b o n = some xs → roCells E b (o + n) m = some ys → roCells E b o (n + m) = some (xs ++ ys)
  | 0, m, b, o, xs, ys, h1, h2 => by
    simp only [roCells, Option.some.injEq] at h1
    subst h1
    rw [Nat.zero_add]; exact h2
  | n + 1, m, b, o, xs, ys, h1, h2 => by
    simp only [roCells] at h1
    split at h1
    · next v hv =>
      split at h1
      · next vs hvs =>
        cases h1
        have := roCells_append n m b (o + 1) vs ys hvs (by rw [show o + 1 + n = o + (n + 1) by omega]; exact h2)
        rw [show n + 1 + m = (n + m) + 1 by omega]
        simp only [roCells, hv, this, List.cons_append]
      · cases h1
    · cases h1

/-- The types of an item. -/
structure ItemTy (P : Program) (ti tn ts tk : TypeId) : Prop where
  item : ∃ f0 f1 f2 f3 : Field, P.underlying ti = some (.struct #[f0, f1, f2, f3]) ∧ (f0.type = tn ∧ f1.type = tn ∧ f2.type = ts ∧ f3.type = tk) ∧ (f0.offset = 0 ∧ f1.offset = 1 ∧ f2.offset = 2 ∧ f3.offset = 3)
  num : P.underlying tn = some (.int .i64)
  str : P.underlying ts = some .string
  kids : P.underlying tk = some (.slice ti)
  c4 : P.cellsOf ti = 4
  cn : P.cellsOf tn = 1
  cs : P.cellsOf ts = 1
  ck : P.cellsOf tk = 1

section
variable {H0 : Type} {enc : TypeId × Value → H0} {P : Program} {w : World} {sp : Nat → Bool} {held : Bool} {ti tn ts tk : TypeId}

/-- Four cells. -/
theorem four_of {l : List Value} (h : l.length = 4) : ∃ a b c d, l = [a, b, c, d] := by
  match l, h with
  | [a, b, c, d], _ => exact ⟨a, b, c, d, rfl⟩

theorem cells4 {a : Addr} {cs : List Value} (h : w.cells? 0 a 4 = some cs) : ∃ c0 c1 c2 c3, cs = [c0, c1, c2, c3] ∧ w.cell? a = some c0 ∧ w.cell? (a.add 1) = some c1 ∧ w.cell? (a.add 2) = some c2 ∧ w.cell? (a.add 3) = some c3 := by
  simp only [World.cells?, Nat.zero_le, if_true, show List.range 4 = [0, 1, 2, 3] from rfl, List.mapM_cons, List.mapM_nil, Option.bind_eq_bind, Option.bind_eq_some_iff] at h
  obtain ⟨c0, h0, l1, ⟨c1, h1, l2, ⟨c2, h2, l3, ⟨c3, h3, l4, h4, h5⟩, h6⟩, h7⟩, h8⟩ := h
  cases h4; cases h5; cases h6; cases h7; cases h8
  exact ⟨c0, c1, c2, c3, rfl, h0, h1, h2, h3⟩

/-- Cells that read as an item. -/
theorem rep_of_trod (T : ItemTy P ti tn ts tk) (h : H) : ∀ (fuel : Nat) (cs : List Value) (x : DataW H0 × List MemPlace), DataW.trod enc P w 0 sp held fuel ti cs = some x →
    ∃ c0 c1 c2 c3, cs = [c0, c1, c2, c3] ∧ (∀ c ∈ cs, isOne (dec c) = true ∧ foV (dec c) = true) ∧ ∃ t, rep (envOf w) h t (.agg ⟨[dec c0, dec c1, dec c2, dec c3]⟩) := by
  intro fuel
  induction fuel using Nat.strongRecOn with
  | ind fuel ih =>
    intro cs x hx
    obtain ⟨f0, f1, f2, f3, hu, ⟨t0, t1, t2, t3⟩, o0, o1, o2, o3⟩ := T.item
    obtain ⟨xs, n, hn, _, hl, hlen, hf⟩ := DataW.trod_struct hu hx
    subst hn
    rw [T.c4] at hl
    obtain ⟨c0, c1, c2, c3, rfl⟩ := four_of hl
    obtain ⟨y0, y1, y2, y3, rfl⟩ : ∃ y0 y1 y2 y3, xs = [y0, y1, y2, y3] := by
      match xs, hlen with
      | [a, b, c, d], _ => exact ⟨a, b, c, d, rfl⟩
    have e0 := hf 0 f0 rfl
    have e1 := hf 1 f1 rfl
    have e2 := hf 2 f2 rfl
    have e3 := hf 3 f3 rfl
    rw [t0, o0, T.cn] at e0
    rw [t1, o1, T.cn] at e1
    rw [t2, o2, T.cs] at e2
    rw [t3, o3, T.ck] at e3
    obtain ⟨k, k1, _⟩ := DataW.trod_int T.num (x := y0) e0
    obtain ⟨m, m1, _⟩ := DataW.trod_int T.num (x := y1) e1
    obtain ⟨tx, x1, _⟩ := DataW.trod_string T.str (x := y2) e2
    replace k1 : c0 = .int .i64 k := by simpa using k1
    replace m1 : c1 = .int .i64 m := by simpa using m1
    replace x1 : c2 = .string tx := by simpa using x1
    cases k1; cases m1; cases x1
    rcases DataW.trod_slice T.kids (x := y3) e3 with ⟨hs, _⟩ | ⟨a, len, cap, elems, rest, n', hn, hs, _, _, hlc, hcap, hel, hele, _⟩
    · have hs : c3 = .slice none 0 0 := by simpa using hs
      subst hs
      refine ⟨_, _, _, _, rfl, ?_, .mk k m tx [], ?_⟩
      · intro c hc
        simp only [List.mem_cons, List.not_mem_nil, or_false] at hc
        rcases hc with rfl | rfl | rfl | rfl <;> exact ⟨rfl, rfl⟩
      · rw [rep]
        exact ⟨_, rfl, .inl ⟨rfl, rfl⟩⟩
    · have hs : c3 = .slice (some a) len cap := by simpa using hs
      subst hs
      subst hn
      have hcap' : cap < 9223372036854775808 := by
        have : maxLen = 9223372036854775807 := by decide
        omega
      have hd : ∃ a', dec (.slice (some a) len cap) = .slice (some a') len cap ∧ foV (.slice (some a') len cap) = true ∧ (a.spot = none → a' = a) := by
        unfold dec
        cases hsp : a.spot with
        | none => exact ⟨a, by simp only [hsp], by simp only [foV, hsp], fun _ => rfl⟩
        | some s => exact ⟨⟨a.block, a.off, some (s + 1)⟩, by simp only [hsp], rfl, fun h => by cases h⟩
      obtain ⟨a', hda, hfa, haa⟩ := hd
      refine ⟨_, _, _, _, rfl, ?_, ?_⟩
      · intro c hc
        simp only [List.mem_cons, List.not_mem_nil, or_false] at hc
        rcases hc with rfl | rfl | rfl | rfl
        · exact ⟨rfl, rfl⟩
        · exact ⟨rfl, rfl⟩
        · exact ⟨rfl, rfl⟩
        · rw [hda]; exact ⟨rfl, hfa⟩
      rw [hda]
      have each : ∀ i, i < len → a.spot = none ∧ ∃ c0 c1 c2 c3 t, roCells (envOf w) a.block (a.off + i * 4) 4 = some [dec c0, dec c1, dec c2, dec c3] ∧ rep (envOf w) h t (.agg ⟨[dec c0, dec c1, dec c2, dec c3]⟩) := by
        intro i hi
        have hb := hele i hi
        rw [T.c4, List.getElem?_eq_getElem (by omega), Option.bind_eq_some_iff] at hb
        obtain ⟨ci, h1, h2⟩ := hb
        obtain ⟨d0, d1, d2, d3, rfl, q0, q1, q2, q3⟩ := cells4 h1
        obtain ⟨_, _, _, _, he, hfo, t, hr⟩ := ih _ (by omega) _ _ h2
        cases he
        have hsp : a.spot = none := by
          by_cases hi0 : i * 4 = 0
          · rw [hi0] at q0
            simp only [Addr.add, if_true, World.cell?] at q0
            split at q0
            · split at q0
              · cases q0
              · next hh => simpa using hh
            · cases q0
          · have := hele 0 (by omega)
            rw [T.c4, List.getElem?_eq_getElem (by omega), Option.bind_eq_some_iff] at this
            obtain ⟨c0, g1, _⟩ := this
            obtain ⟨_, _, _, _, _, q0, _⟩ := cells4 g1
            simp only [Nat.zero_mul, Addr.add, if_true, World.cell?] at q0
            split at q0
            · split at q0
              · cases q0
              · next hh => simpa using hh
            · cases q0
        refine ⟨hsp, d0, d1, d2, d3, t, ?_, hr⟩
        have ha : a = ⟨a.block, a.off, none⟩ := by cases a; simp_all
        rw [ha] at q0 q1 q2 q3
        simp only [Addr.add_plain] at q0 q1 q2 q3
        obtain ⟨p0, r0⟩ := hfo d0 (by simp)
        obtain ⟨p1, r1⟩ := hfo d1 (by simp)
        obtain ⟨p2, r2⟩ := hfo d2 (by simp)
        obtain ⟨p3, r3⟩ := hfo d3 (by simp)
        simp only [roCells, envOf_at q0 r0, envOf_at q1 r1, envOf_at q2 r2, envOf_at q3 r3, one?, p0, p1, p2, p3]
      have build : ∀ j, j ≤ len → ∃ ks l, ks.length = j ∧ (envOf w, h) = (envOf w, h) ∧ roCells (envOf w) a.block a.off (j * 4) = some l ∧ repL (envOf w) h ks l := by
        intro j
        induction j with
        | zero => intro _; exact ⟨[], [], rfl, rfl, rfl, by rw [repL]⟩
        | succ j ihj =>
          intro hj
          obtain ⟨ks, l, g1, _, g3, g4⟩ := ihj (by omega)
          obtain ⟨_, d0, d1, d2, d3, t, g5, g6⟩ := each j (by omega)
          refine ⟨ks ++ [t], l ++ [dec d0, dec d1, dec d2, dec d3], by simp [g1], rfl, ?_, repL_append g4 g6⟩
          rw [show (j + 1) * 4 = j * 4 + 4 by omega]
          exact roCells_append _ _ _ _ _ _ g3 g5
      obtain ⟨ks, l, g1, _, g3, g4⟩ := build len (Nat.le_refl _)
      refine ⟨.mk k m tx ks, ?_⟩
      rw [rep]
      refine ⟨_, rfl, .inr ⟨a', cap, l, by rw [g1], ⟨by omega, hcap'⟩, ?_, g4⟩⟩
      rw [g1]
      cases hle : len with
      | zero =>
        subst hle
        rw [Nat.zero_mul] at g3 ⊢
        simp only [roCells] at g3
        rw [H.cells]; exact g3
      | succ m =>
        obtain ⟨hsp, _⟩ := each 0 (by omega)
        rw [haa hsp, ← hle]
        unfold H.cells
        have : len * 4 = (len * 4 - 1) + 1 := by omega
        rw [this]
        simp only [hsp]
        rw [← this]; exact g3
end
end Go.Hs
/- Data that is handed in, as bytes. -/
namespace Go.Hs
section
variable {H0 : Type} {enc : TypeId × Value → H0} {P : Program} {w : World} {sp : Nat → Bool} {held : Bool} {ts te : TypeId}

theorem cells1 {a : Addr} {cs : List Value} (h : w.cells? 0 a 1 = some cs) : ∃ c0, cs = [c0] ∧ w.cell? a = some c0 := by
  simp only [World.cells?, Nat.zero_le, if_true, show List.range 1 = [0] from rfl, List.mapM_cons, List.mapM_nil, Option.bind_eq_bind, Option.bind_eq_some_iff] at h
  obtain ⟨c0, h0, l1, h1, h2⟩ := h
  cases h1; cases h2
  exact ⟨c0, rfl, h0⟩

theorem bytes_of_trod (hs : P.underlying ts = some (.slice te)) (he : P.underlying te = some (.int .u8)) (hc : P.cellsOf te = 1) (h : H) {fuel : Nat} {cs : List Value} {x : DataW H0 × List MemPlace} (hx : DataW.trod enc P w 0 sp held fuel ts cs = some x) :
    ∃ c0, cs = [c0] ∧ foV (dec c0) = true ∧ ∃ bs : List Int, (dec c0 = .slice none 0 0 ∧ bs = []) ∨ ∃ a c, dec c0 = .slice (some a) bs.length c ∧ bs.length ≤ c ∧ h.cells (envOf w) a bs.length = some (bs.map (Value.int .u8)) ∧ a.spot ≠ some 0 := by
  rcases DataW.trod_slice hs hx with ⟨rfl, _⟩ | ⟨a, len, cap, elems, rest, n', hn, rfl, _, _, hlc, hcap, hel, hele, _⟩
  · exact ⟨_, rfl, rfl, [], .inl ⟨rfl, rfl⟩⟩
  · have hd : ∃ a', dec (.slice (some a) len cap) = .slice (some a') len cap ∧ foV (.slice (some a') len cap) = true ∧ (a.spot = none → a' = a) ∧ a'.spot ≠ some 0 := by
      unfold dec
      cases hsp : a.spot with
      | none => exact ⟨a, by simp only [hsp], by simp only [foV, hsp], fun _ => rfl, by rw [hsp]; simp⟩
      | some s => exact ⟨⟨a.block, a.off, some (s + 1)⟩, by simp only [hsp], rfl, (fun h => by cases h), by simp⟩
    obtain ⟨a', hda, hfa, haa, hsa⟩ := hd
    refine ⟨_, rfl, by rw [hda]; exact hfa, ?_⟩
    have each : ∀ i, i < len → a.spot = none ∧ ∃ k : Int, envOf w a.block (a.off + i) = some (.int .u8 k) := by
      intro i hi
      have hb := hele i hi
      rw [hc, Nat.mul_one, List.getElem?_eq_getElem (by omega), Option.bind_eq_some_iff] at hb
      obtain ⟨ci, h1, h2⟩ := hb
      obtain ⟨d0, rfl, q0⟩ := cells1 h1
      obtain ⟨k, k1, _⟩ := DataW.trod_int he h2
      replace k1 : d0 = .int .u8 k := by simpa using k1
      subst k1
      have hsp : a.spot = none := by
        by_cases hi0 : i = 0
        · rw [hi0] at q0
          simp only [Addr.add, if_true, World.cell?] at q0
          split at q0
          · split at q0
            · cases q0
            · next hh => simpa using hh
          · cases q0
        · have := hele 0 (by omega)
          rw [hc, List.getElem?_eq_getElem (by omega), Option.bind_eq_some_iff] at this
          obtain ⟨c0, g1, _⟩ := this
          obtain ⟨_, _, q0⟩ := cells1 g1
          simp only [Nat.zero_mul, Addr.add, if_true, World.cell?] at q0
          split at q0
          · split at q0
            · cases q0
            · next hh => simpa using hh
          · cases q0
      refine ⟨hsp, k, ?_⟩
      have ha : a = ⟨a.block, a.off, none⟩ := by cases a; simp_all
      rw [ha] at q0
      simp only [Addr.add_plain] at q0
      exact envOf_at q0 rfl
    have build : ∀ j, j ≤ len → ∃ bs : List Int, bs.length = j ∧ roCells (envOf w) a.block a.off j = some (bs.map (Value.int .u8)) := by
      intro j
      induction j with
      | zero => intro _; exact ⟨[], rfl, rfl⟩
      | succ j ihj =>
        intro hj
        obtain ⟨bs, g1, g3⟩ := ihj (by omega)
        obtain ⟨_, k, g5⟩ := each j (by omega)
        refine ⟨bs ++ [k], by simp [g1], ?_⟩
        rw [List.map_append]
        refine roCells_append _ _ _ _ _ _ g3 ?_
        simp only [roCells, g5, one?, isOne, List.map_cons, List.map_nil]
    obtain ⟨bs, g1, g3⟩ := build len (Nat.le_refl _)
    refine ⟨bs, .inr ⟨a', cap, by rw [hda, g1], by omega, ?_, hsa⟩⟩
    cases hle : len with
    | zero =>
      subst hle
      obtain rfl := List.length_eq_zero_iff.1 g1
      rfl
    | succ m =>
      obtain ⟨hsp, _⟩ := each 0 (by omega)
      rw [haa hsp, g1, hle]
      unfold H.cells
      simp only [hsp]
      rw [← hle]; exact g3
end
end Go.Hs
/- Blocks of before that are written, whatever is told of it; regions in which that happens. -/
namespace Go.Hs

/-- An own block is written; it is told if it was there before the mark. -/
def H.setl (h : H) (k : Nat) (B : Blk) : H := (h.setb k B).note [k]

theorem setl_blk (h : H) (k : Nat) (B : Blk) (j : Nat) : (h.setl k B).blk j = (h.setb k B).blk j := H.note_blk _ _ _
theorem setl_dyn (h : H) (k : Nat) (B : Blk) : (h.setl k B).dyn = h.dyn.set k B := H.note_dyn _ _
theorem setl_next (h : H) (k : Nat) (B : Blk) : (h.setl k B).next = h.next := H.note_next _ _
theorem note_mark (h : H) (ks : List Nat) : (h.note ks).mark = h.mark := by unfold H.note; split <;> rfl
theorem note_chains (h : H) (ks : List Nat) : (h.note ks).chains = h.chains := by unfold H.note; split <;> rfl
theorem setl_mark (h : H) (k : Nat) (B : Blk) : (h.setl k B).mark = h.mark := note_mark _ _
theorem setl_chain (h : H) (k : Nat) (B : Blk) (r : Nat) : (h.setl k B).chain r = h.chain r := by
  unfold H.chain
  show (((h.setb k B).note [k]).chains.get r).getD [] = _
  rw [note_chains]; rfl
theorem setl_same {h : H} {k : Nat} {B : Blk} (hB : B.plain = true) : (h.setl k B).blk k = some B := by rw [setl_blk]; exact setb_same hB
theorem setl_ne {h : H} {k j : Nat} {B : Blk} (hk : j ≠ k) : (h.setl k B).blk j = h.blk j := by rw [setl_blk]; exact setb_ne hk
theorem note_log {h : H} {ks : List Nat} {j : Nat} (hj : j ∈ (h.note ks).log) : j ∈ h.log ∨ (j ∈ ks ∧ j < h.mark) := by
  unfold H.note at hj
  split at hj
  · exact .inl hj
  · next m hm =>
    rcases List.mem_append.1 hj with hj | hj
    · obtain ⟨h1, h2⟩ := List.mem_filter.1 hj
      rw [Nat.ble_eq] at h2
      exact .inr ⟨h1, by omega⟩
    · exact .inl hj
theorem setl_log {h : H} {k : Nat} {B : Blk} {j : Nat} (hj : j ∈ (h.setl k B).log) : j ∈ h.log ∨ (j = k ∧ j < h.mark) := by
  rcases note_log hj with h1 | ⟨h1, h2⟩
  · exact .inl h1
  · exact .inr ⟨by simpa using h1, h2⟩
theorem Fit.setl {h : H} (f : Fit h) {k : Nat} {B : Blk} (hB : B.plain = true) (hk : k < h.next) : Fit (h.setl k B) := by
  have g := f.setb hB hk
  refine ⟨fun j hj => ?_, ⟨fun j xs ty r p hd => ?_, ?_⟩⟩
  · rw [setl_next] at hj
    rw [setl_dyn]
    exact g.free j hj
  · rw [setl_dyn] at hd
    rw [setl_next]
    exact g.ok.1 _ _ _ _ _ hd
  · rw [setl_mark, setl_next]; exact f.ok.2

/-- A heap behind another: but for some blocks what was there is there. -/
structure Mod (M : Nat → Prop) (h g : H) : Prop where
  fit : Fit g
  blk : ∀ k B, ¬ M k → h.blk k = some B → g.blk k = some B
  mark : g.mark = h.mark
  next : h.next ≤ g.next
  chain : ∀ r, r < h.next → g.chain r = h.chain r
  log : ∀ j, j ∈ g.log → j ∈ h.log ∨ (M j ∧ j < h.mark)

theorem Mod.refl {M : Nat → Prop} {h : H} (f : Fit h) : Mod M h h := ⟨f, fun _ _ _ h => h, rfl, Nat.le_refl _, fun _ _ => rfl, fun _ h => .inl h⟩
theorem Mod.trans {M : Nat → Prop} {h g f : H} (s : Mod M h g) (t : Mod M g f) : Mod M h f :=
  ⟨t.fit, fun k B hk hb => t.blk k B hk (s.blk k B hk hb), t.mark.trans s.mark, Nat.le_trans s.next t.next, fun r hr => (t.chain r (Nat.lt_of_lt_of_le hr s.next)).trans (s.chain r hr), fun j hj => by
    rcases t.log j hj with h1 | ⟨h1, h2⟩
    · exact s.log j h1
    · exact .inr ⟨h1, by rw [← s.mark]; exact h2⟩⟩
theorem Ahd.mod {M : Nat → Prop} {h g : H} (a : Ahd h g) : Mod M h g := ⟨a.fit, fun k B _ hb => a.grows k B hb, a.mark, a.next, a.chain, fun j hj => .inl (by rw [← a.log]; exact hj)⟩
theorem Mod.ahd {M : Nat → Prop} {h g f : H} (s : Mod M h g) (t : Ahd g f) : Mod M h f := s.trans t.mod
theorem Mod.sub {M N : Nat → Prop} {h g : H} (s : Mod M h g) (hMN : ∀ k, M k → N k) : Mod N h g :=
  ⟨s.fit, fun k B hk hb => s.blk k B (fun hm => hk (hMN k hm)) hb, s.mark, s.next, s.chain, fun j hj => (s.log j hj).imp id (fun h => ⟨hMN j h.1, h.2⟩)⟩
theorem Mod.setl {M : Nat → Prop} {h g : H} (s : Mod M h g) {k : Nat} {B : Blk} (hB : B.plain = true) (hk : M k) (hg : k < g.next) : Mod M h (g.setl k B) :=
  ⟨s.fit.setl hB hg, fun j B' hj hb => by
    rw [setl_ne (by intro e; subst e; exact hj hk)]; exact s.blk j B' hj hb, (setl_mark _ _ _).trans s.mark, by rw [setl_next]; exact s.next, fun r hr => (setl_chain _ _ _ _).trans (s.chain r hr), fun j hj => by
    rcases setl_log hj with h1 | ⟨rfl, h2⟩
    · exact s.log j h1
    · exact .inr ⟨hk, by rw [← s.mark]; exact h2⟩⟩
/-- New blocks that are written: nothing that was there is. -/
theorem Mod.low {M N : Nat → Prop} {h g : H} (f : Fit h) (s : Mod N h g) (hN : ∀ k, N k → M k ∨ h.next ≤ k) : Mod M h g :=
  ⟨s.fit, fun k B hk hb => s.blk k B (fun hn => by
    rcases hN k hn with h1 | h1
    · exact hk h1
    · have := f.lt hb; omega) hb, s.mark, s.next, s.chain, fun j hj => by
    rcases s.log j hj with h1 | ⟨h1, h2⟩
    · exact .inl h1
    · rcases hN j h1 with h3 | h3
      · exact .inr ⟨h3, h2⟩
      · have := f.ok.2; omega⟩
theorem Mod.grow {E : Env} {M : Nat → Prop} {h g h0 : H} (s : Mod M h g) (hg : Grows h0 h) (hM : ∀ k B, h0.blk k = some B → ¬ M k) : Grows h0 g := fun k B hb => s.blk k B (hM k B hb) (hg k B hb)

theorem put_setl {h : H} {k o : Nat} {vs xs : List Value} {ty : TypeId} (hb : h.blk k = some (.cells xs ty none)) (hv : vs ≠ []) (hl : o + vs.length ≤ xs.length) (h1 : vs.all isOne = true) :
    h.put (aadd (own k) o) vs = some (h.setl k (.cells (xs.take o ++ vs ++ xs.drop (o + vs.length)) ty none)) := by
  unfold H.put
  cases vs with
  | nil => exact absurd rfl hv
  | cons v vs =>
    simp only [aadd, own, Nat.zero_add, hb]
    rw [h1, show Nat.ble (o + (v :: vs).length) xs.length = true from by rw [Nat.ble_eq]; exact hl]
    simp only [Bool.and_self]
    rfl
theorem put_own_setl {h : H} {k : Nat} {vs xs : List Value} {ty : TypeId} (hb : h.blk k = some (.cells xs ty none)) (hv : vs ≠ []) (hl : vs.length = xs.length) (h1 : vs.all isOne = true) :
    h.put (own k) vs = some (h.setl k (.cells vs ty none)) := by
  have := put_setl (o := 0) hb hv (by omega) h1
  rw [show aadd (own k) 0 = own k from rfl, List.take_zero, List.nil_append, List.drop_of_length_le (by omega), List.append_nil] at this
  exact this

/-- In a drawn region: what is told, and what is behind. -/
theorem fresh_setl {h : H} {k : Nat} {B : Blk} (hk : k < h.next) : ((fresh h).setl k B).log = [k] ∧ back h ((fresh h).setl k B) = h.setl k B := by
  have hd : ∃ m, h.next = m + 1 ∧ k ≤ m := by cases hn : h.next with | zero => omega | succ m => exact ⟨m, rfl, by omega⟩
  obtain ⟨m, hm1, hm2⟩ := hd
  have hble : Nat.ble k m = true := by rw [Nat.ble_eq]; exact hm2
  have e : (fresh h).setl k B = { h with dyn := h.dyn.set k B, mark := h.next, log := [k] } := by
    unfold H.setl H.note
    have : ((fresh h).setb k B).mark = m + 1 := hm1
    rw [this]
    simp only [List.filter_cons, hble, if_true, List.filter_nil]
    rw [← hm1]
    rfl
  rw [e]
  exact ⟨rfl, rfl⟩
theorem Mod.back {M : Nat → Prop} {h h1 : H} (f : Fit h) (a : Mod M (fresh h) h1) : Mod M h (Hs.back h h1) ∧ (∀ k, (Hs.back h h1).blk k = h1.blk k) ∧ (Hs.back h h1).next = h1.next ∧ ∀ j, j ∈ h1.log → M j ∧ j < h.next := by
  have hb := back_blk h h1
  have hn := back_next h h1
  have hl : ∀ j, j ∈ h1.log → M j ∧ j < h.next := fun j hj => by
    rcases a.log j hj with h2 | h2
    · cases h2
    · exact h2
  refine ⟨⟨⟨fun k hk => ?_, ⟨fun k xs ty r p hd => ?_, ?_⟩⟩, fun k B hk hB => by rw [hb]; exact a.blk k B hk hB, ?_, by rw [hn]; exact a.next, fun r hr => ?_, fun j hj => ?_⟩, hb, hn, hl⟩
  · rw [hn] at hk
    rw [back_dyn]; exact a.fit.free k hk
  · rw [back_dyn] at hd
    rw [hn]; exact a.fit.ok.1 _ _ _ _ _ hd
  · unfold Hs.back
    rw [note_mark, H.note_next]
    exact Nat.le_trans f.ok.2 a.next
  · unfold Hs.back
    rw [note_mark]
  · unfold Hs.back H.chain
    rw [note_chains]
    exact a.chain r hr
  · rcases note_log hj with h2 | ⟨h2, h3⟩
    · exact .inl h2
    · exact .inr ⟨(hl j h2).1, h3⟩

/-- Each two that are not ordered, one of which isn't calm, meet. -/
theorem allMeet_by {b : Array Nat} {ts : List Tch} (S : List Nat) (hc : ∀ i e, ts[i]? = some e → S.contains i = false → calm e = true) (hS : ∀ i j s t, i < j → (S.contains i = true ∨ S.contains j = true) → ts[i]? = some s → ts[j]? = some t → ordered b i j = false → meets s t = true) : allMeet b ts = true := by
  unfold allMeet
  simp only [List.all_eq_true]
  rintro ⟨x, i⟩ hx ⟨y, j⟩ hy
  have hx := List.mem_zipIdx_iff_getElem?.1 hx
  have hy := List.mem_zipIdx_iff_getElem?.1 hy
  simp only at hx hy ⊢
  by_cases hij : i < j
  rotate_left
  · have : Nat.blt i j = false := by
      cases q : Nat.blt i j
      · rfl
      · rw [Nat.blt_eq] at q; omega
    rw [this]; rfl
  cases ho : ordered b i j with
  | true => simp
  | false =>
    by_cases h1 : S.contains i = true
    · rw [hS i j x y hij (.inl h1) hx hy ho]; simp
    · by_cases h2 : S.contains j = true
      · rw [hS i j x y hij (.inr h2) hx hy ho]; simp
      · have c1 := hc i x hx (by simpa using h1)
        have c2 := hc j y hy (by simpa using h2)
        simp only [calm, Bool.and_eq_true, Bool.not_eq_true', List.isEmpty_iff] at c1 c2
        have : meets x y = true := by
          unfold meets
          rw [c1.1, c2.1, c1.2, c2.2]
          simp [apart?]
        rw [this, Bool.or_true]
/-- Which pairs are to be looked at. -/
theorem pairs_of {b : Array Nat} {S : List Nat} {n : Nat} {U : List (Nat × Nat)} (h : ((List.range n).all fun i => (List.range n).all fun j => !(Nat.blt i j) || !(S.contains i || S.contains j) || ordered b i j || U.contains (i, j)) = true) {i j : Nat} (hij : i < j) (hj : j < n) (hs : S.contains i = true ∨ S.contains j = true) (ho : ordered b i j = false) : (i, j) ∈ U := by
  rw [List.all_eq_true] at h
  have h1 := h i (List.mem_range.2 (by omega))
  rw [List.all_eq_true] at h1
  have h2 := h1 j (List.mem_range.2 hj)
  have e1 : Nat.blt i j = true := by rw [Nat.blt_eq]; exact hij
  have e2 : (S.contains i || S.contains j) = true := by rcases hs with h | h <;> rw [h] <;> simp
  rw [e1, e2, ho] at h2
  simpa using h2

/-- Operations that write nothing, and one behind them all. -/
theorem allMeet_last {b : Array Nat} {l : List Tch} {s : Tch} (hc : l.all calm = true) (h : ((List.range l.length).all fun i => ordered b i l.length) = true) : allMeet b (l ++ [s]) = true := by
  refine allMeet_by [l.length] (fun i e hi hs => ?_) (fun i j s' t hij hs h1 h2 ho => ?_)
  · have hil : i < l.length := by
      have h1 := (List.getElem?_eq_some_iff.1 hi).1
      rw [List.length_append] at h1
      have h2 : i ≠ l.length := by
        intro e
        subst e
        simp at hs
      simp at h1
      omega
    rw [List.getElem?_append_left hil] at hi
    rw [List.all_eq_true] at hc
    exact hc e (List.mem_of_getElem? hi)
  · have hj : j < l.length + 1 := by
      have := (List.getElem?_eq_some_iff.1 h2).1
      simpa using this
    have hjl : j = l.length := by
      rcases hs with hs | hs
      · have : i = l.length := by simpa using hs
        omega
      · simpa using hs
    subst hjl
    rw [List.all_eq_true] at h
    rw [h i (List.mem_range.2 hij)] at ho
    cases ho

/-- It writes, the other one reads nothing of it and writes nothing, or the other way round. -/
theorem meets_left {s t : Tch} {l : List Nat} (ht : t.writes = []) (hr : t.reads = some l) (hd : ∀ k, k ∈ s.writes → k ∉ l) (hn : t.rooted = false) : meets s t = true := by
  unfold meets
  rw [ht, hr, hn]
  have h1 : apart? s.writes (some l) = true := by
    cases hw : s.writes with
    | nil => rfl
    | cons w ws =>
      simp only [apart?, List.all_eq_true]
      intro k hk
      rw [Bool.not_eq_true', List.any_eq_false]
      intro j hj hjk
      obtain rfl := Nat.eq_of_beq_eq_true hjk
      exact hd k (by rw [hw]; exact hk) hj
  have h2 : apart? s.writes (some []) = true := by cases hw : s.writes <;> simp [apart?]
  rw [h1, h2]
  simp [apart?]
theorem meets_right {s t : Tch} {l : List Nat} (hs : s.writes = []) (hr : s.reads = some l) (hd : ∀ k, k ∈ t.writes → k ∉ l) (hn : s.rooted = false) (hb : ∀ k, k ∈ t.writes → k < s.lo ∨ s.hi ≤ k) : meets s t = true := by
  unfold meets
  rw [hs, hr, hn]
  have h1 : apart? t.writes (some l) = true := by
    cases hw : t.writes with
    | nil => rfl
    | cons w ws =>
      simp only [apart?, List.all_eq_true]
      intro k hk
      rw [Bool.not_eq_true', List.any_eq_false]
      intro j hj hjk
      obtain rfl := Nat.eq_of_beq_eq_true hjk
      exact hd k (by rw [hw]; exact hk) hj
  have h3 : (t.writes.all fun k => Nat.blt k s.lo || Nat.ble s.hi k) = true := by
    rw [List.all_eq_true]
    intro k hk
    rcases hb k hk with h | h
    · rw [show Nat.blt k s.lo = true from by rw [Nat.blt_eq]; exact h]; rfl
    · rw [show Nat.ble s.hi k = true from by rw [Nat.ble_eq]; exact h, Bool.or_true]
  rw [h1, h3]
  simp [apart?]

section
variable {D : Tab} {E : Env} {v : Ev} {ops : Array Oper}
/-- It writes a block of before. -/
theorem FQ.setl {j : Nat} {o : Oper} {rest : List Oper} {A : Ac} {h : H} {k : Nat} {B : Blk} {x : Value} {Q : Ac → H → List Tch → Prop} (hg : o.guard = none) (hm : mayJoin o.op = false) (hk : k < h.next) (ho : oper1 D E v A o (fresh h) = some (x, (fresh h).setl k B))
    (r : FQ D E v ops (j + 1) rest (A.put o.dst x) (h.setl k B) (fun A' h' ts => Q A' h' (⟨reads D A o, [k], h.next, h.next, rootedStore A h o.op⟩ :: ts))) : FQ D E v ops j (o :: rest) A h Q := by
  obtain ⟨e1, e2⟩ := fresh_setl (h := h) (k := k) (B := B) hk
  refine FQ.step (awant_none hg) hm ho ?_
  rw [e2, e1, setl_next]
  exact r
/-- It writes blocks of before. -/
theorem FQ.mod {j : Nat} {o : Oper} {rest : List Oper} {A : Ac} {h h1 : H} {x : Value} {Q : Ac → H → List Tch → Prop} (hg : o.guard = none) (hm : mayJoin o.op = false) (ho : oper1 D E v A o (fresh h) = some (x, h1))
    (r : FQ D E v ops (j + 1) rest (A.put o.dst x) (back h h1) (fun A' h' ts => Q A' h' (⟨reads D A o, h1.log, h.next, h1.next, rootedStore A h o.op⟩ :: ts))) : FQ D E v ops j (o :: rest) A h Q :=
  FQ.step (awant_none hg) hm ho r
theorem FQ.forget {j : Nat} {l : List Oper} {A : Ac} {h : H} {Q : Ac → H → List Tch → Prop} (P : Ac → Prop) (hP : P A) (w : ∀ A', P A' → FQ D E v ops j l A' h Q) : FQ D E v ops j l A h Q := w A hP
end
section
variable {D : Tab} {E : Env} {I : Known}
/-- Of the temporaries and the heap only this is kept. -/
theorem Wc.state {F : Fx} {c : Code} {A : Ac} {h : H} {Q : Ex → Ac → H → Prop} (P : Ac → H → Prop) (hP : P A h) (w : ∀ A' h', P A' h' → Wc D E I F c A' h' Q) : Wc D E I F c A h Q := w A h hP
end
end Go.Hs
/- Slices that are appended to, wherever the mark stands. -/
namespace Go.Hs

/-- A slice that is appended to: no other block of its chain is longer. -/
def Ap2 (h : H) (base : Nat) (e : TypeId) (sz : Nat) (s : Value) (n : Nat) (xs : List Value) (ro : Option Nat) : Prop :=
  (n = 0 ∧ xs = [] ∧ s = .slice none 0 0 ∧ ro = none) ∨
  ∃ k r, s = .slice (some (own k)) n n ∧ h.blk k = some (.cells xs e (some (r, 0))) ∧ xs.length = n * sz ∧ xs.all isOne = true ∧ base ≤ r ∧ r < h.next ∧ (∀ j ∈ h.chain r, ∃ ys ty p, h.dyn.get j = some (.cells ys ty (some (r, p))) ∧ p + ys.length ≤ n * sz) ∧ ro = some r

theorem ap2_step {D : Tab} {E : Env} {h : H} {base : Nat} {t t2 e : TypeId} {sz by_ n kx c i6 i7 : Nat} {i8 : Option Value} {i9 : Bool} {s ze : Value} {xs cs : List Value} {ro : Option Nat} (f : Fit h) (hbn : base ≤ h.next) (ap : Ap2 h base e sz s n xs ro)
    (ht : D.ty.get t = some ⟨.slice e sz by_, i6, i7, i8, i9⟩) (hz : tzero D e = some ze) (hzz : (Nat.beq ze.cells.toList.length sz && Nat.blt 0 sz && ze.cells.toList.all isOne) = true) (hzt : zeroArg D t2 (.slice (some (own kx)) 1 c) = some false)
    (hx : h.cells E (own kx) sz = some cs) (hcl : cs.length = sz) (hc1 : cs.all isOne = true) (hrm : roomy (n + 1) by_ = true) :
    ∃ s' h' ro', aappend D E t t2 s (.slice (some (own kx)) 1 c) h = some (s', h') ∧ Ap2 h' base e sz s' (n + 1) (xs ++ cs) ro' ∧ Grew base ro h h' ∧ (ro = none ∧ ro' = some h.next ∨ ro ≠ none ∧ ro' = ro) := by
  have hel : aelems E sz ze.cells.toList (.slice (some (own kx)) 1 c) h = some (1, cs) := by
    simp only [aelems, Nat.one_mul, hx]
  have hbl : Nat.beq cs.length (1 * sz) = true := by rw [Nat.one_mul, hcl]; exact Nat.beq_refl sz
  have hsz : 0 < sz := by
    simp only [Bool.and_eq_true, Nat.blt_eq] at hzz
    exact hzz.1.2
  rcases ap with ⟨rfl, rfl, rfl, rfl⟩ | ⟨k, r, rfl, hb, hl, h1, hbr, hrx, hch, rfl⟩
  · refine ⟨.slice (some (own h.next)) 1 1, h.newOpen cs e, some h.next, ?_, .inr ⟨h.next, h.next, rfl, ?_, ?_, ?_, hbn, Nat.lt_succ_self _, ?_, rfl⟩, ⟨newOpen_fit f, fun k B hb _ => newOpen_old f hb, rfl, rfl, Nat.le_succ _, fun r hr => ?_⟩, .inl ⟨rfl, rfl⟩⟩
    · unfold aappend
      rw [ht]
      simp only [hz, hzt, hzz, hel, hbl, hrm]
    · exact newOpen_new
    · rw [List.nil_append]; simp [hcl]
    · rw [List.nil_append]; exact hc1
    · intro j hj
      simp only [H.chain, H.newOpen, T.get_set_same, Option.getD, List.mem_singleton] at hj
      subst hj
      exact ⟨cs, e, 0, T.get_set_same _ _ _, by simp [hcl]⟩
    · simp only [H.chain, H.newOpen]
      rw [T.get_set_ne _ _ _ _ (by omega)]
  · have hkn := f.lt hb
    have hd := H.blk_dyn hb
    have hrn := f.ok.1 _ _ _ _ _ hd
    have hgr : h.grow e r (0 + (own k).off) (n * sz) (own k).block (xs.drop (own k).off) cs = { h with next := h.next + 1, dyn := h.dyn.set h.next (.cells (xs ++ cs) e (some (r, 0))), chains := h.chains.set r (h.next :: h.spare r k (0 + n * sz) (0 + n * sz + cs.length)) } := by
      unfold H.grow
      simp only [own, Nat.add_zero, List.drop_zero]
      have hgone : h.gone r k (0 + n * sz) (0 + n * sz + cs.length) = [] := by
        rw [List.eq_nil_iff_forall_not_mem]
        intro j hj
        obtain ⟨hj1, hj2⟩ := mem_gone.1 hj
        obtain ⟨ys, ty, p, hd, hle⟩ := hch j hj1
        unfold H.hits at hj2
        split at hj2
        · cases hj2
        · rw [hd] at hj2
          simp only [Bool.and_eq_true, Nat.blt_eq] at hj2
          omega
      rw [hgone]
      exact note_nil _
    generalize hg : ({ h with next := h.next + 1, dyn := h.dyn.set h.next (.cells (xs ++ cs) e (some (r, 0))), chains := h.chains.set r (h.next :: h.spare r k (0 + n * sz) (0 + n * sz + cs.length)) } : H) = g at hgr
    have hcr : g.chain r = h.next :: h.spare r k (0 + n * sz) (0 + n * sz + cs.length) := by
      rw [← hg]; simp only [H.chain, T.get_set_same, Option.getD]
    have hcn : ∀ r', r' ≠ r → g.chain r' = h.chain r' := by
      intro r' hr'
      rw [← hg]; simp only [H.chain]; rw [T.get_set_ne _ _ _ _ hr']
    have hgn : g.next = h.next + 1 := by rw [← hg]
    have hnew : g.blk h.next = some (.cells (xs ++ cs) e (some (r, 0))) := by
      have hdd : g.dyn.get h.next = some (.cells (xs ++ cs) e (some (r, 0))) := by rw [← hg]; exact T.get_set_same _ _ _
      unfold H.blk
      rw [hdd]
      simp only [hcr, List.contains_cons, beq_self_eq_true, Bool.true_or]
    have hold : ∀ j, j ≠ h.next → g.dyn.get j = h.dyn.get j := by
      intro j hj
      rw [← hg]; exact T.get_set_ne _ _ _ _ hj
    refine ⟨.slice (some (own h.next)) (n + 1) (n + 1), g, some r, ?_, .inr ⟨h.next, r, rfl, hnew, ?_, ?_, hbr, by rw [hgn]; omega, ?_, rfl⟩, ⟨⟨fun j hj => ?_, fun j ys ty r' p hd' => ?_, ?_⟩, ?_, ?_, ?_, ?_, ?_⟩, .inr ⟨by simp, rfl⟩⟩
    · unfold aappend
      rw [ht]
      simp only [hz, hzt, hzz, hel, hbl, hrm]
      have e1 : (own k).spot = some 0 := rfl
      have e2 : (own k).block = k := rfl
      have e3 : (own k).off = 0 := rfl
      have e4 : Nat.ble (n + 1) n = false := by
        cases hq : Nat.ble (n + 1) n
        · rfl
        · rw [Nat.ble_eq] at hq; omega
      simp only [e1, e2, hb, e4]
      have e5 : (Nat.beq n n && Nat.beq ((own k).off + n * sz) xs.length && Nat.beq e e && (xs.drop (own k).off).all isOne && Nat.ble (own k).off xs.length) = true := by
        rw [e3, Nat.zero_add, hl, List.drop_zero, h1, Nat.beq_refl, Nat.beq_refl, Nat.beq_refl]
        simp [Nat.ble]
      simp only [e5]
      rw [← hgr]; rfl
    · rw [List.length_append, hl, hcl]; rw [Nat.add_mul, Nat.one_mul]
    · rw [List.all_append, h1, hc1]; rfl
    · intro j hj
      rw [hcr] at hj
      rcases List.mem_cons.1 hj with rfl | hj
      · exact ⟨xs ++ cs, e, 0, H.blk_dyn hnew, by rw [List.length_append, hl, hcl, Nat.add_mul, Nat.one_mul]; omega⟩
      · obtain ⟨ys, ty, p, hd, hle⟩ := hch j (mem_spare.1 hj).1
        have hjn : j ≠ h.next := by
          intro e
          subst e
          rw [f.free _ (Nat.le_refl _)] at hd; cases hd
        refine ⟨ys, ty, p, by rw [hold j hjn]; exact hd, ?_⟩
        rw [Nat.add_mul]; omega
    · rw [hgn] at hj
      rw [hold j (by omega)]; exact f.free j (by omega)
    · rw [hgn]
      by_cases hj : j = h.next
      · subst hj
        have := H.blk_dyn hnew
        rw [this] at hd'; cases hd'; omega
      · rw [hold j hj] at hd'
        have := f.ok.1 _ _ _ _ _ hd'; omega
    · rw [hgn]
      have := f.ok.2
      rw [← hg]; exact Nat.le_succ_of_le this
    · intro j B hbj hro
      have hjn := f.lt hbj
      rw [← hbj]
      refine blk_congr (hold j (by omega)) (fun ys u r' q hd' => ?_)
      have : B = .cells ys u (some (r', q)) := by
        have := H.blk_dyn hbj
        rw [hd'] at this; cases this; rfl
      have hne := hro _ _ _ _ this
      rw [hcn r' (fun h => hne (by rw [h]))]
    · rw [← hg]
    · rw [← hg]
    · rw [hgn]; omega
    · intro r' hr'
      exact hcn r' (by omega)


/-- Where plain blocks alone are written. -/
theorem Ap2.mod {M : Nat → Prop} {h g : H} {base : Nat} {e : TypeId} {sz : Nat} {s : Value} {n : Nat} {xs : List Value} {ro : Option Nat} (a : Ap2 h base e sz s n xs ro) (m : Mod M h g) (hp : ∀ k B, M k → h.blk k = some B → B.plain = true) : Ap2 g base e sz s n xs ro := by
  rcases a with a | ⟨k, r, e1, e2, e3, e4, e5, e6, e7, e8⟩
  · exact .inl a
  · have keep : ∀ j ys ty p, h.blk j = some (.cells ys ty (some (r, p))) → g.blk j = some (.cells ys ty (some (r, p))) := fun j ys ty p hb => m.blk _ _ (fun hM => by
      have := hp _ _ hM hb
      cases this) hb
    refine .inr ⟨k, r, e1, keep _ _ _ _ e2, e3, e4, e5, Nat.lt_of_lt_of_le e6 m.next, fun j hj => ?_, e8⟩
    rw [m.chain r e6] at hj
    obtain ⟨ys, ty, p, hd, hle⟩ := e7 j hj
    have hb : h.blk j = some (.cells ys ty (some (r, p))) := by
      unfold H.blk
      rw [hd]
      simp only
      rw [show (h.chain r).contains j = true from by simpa using hj]
    exact ⟨ys, ty, p, H.blk_dyn (keep _ _ _ _ hb), hle⟩
theorem only_mod {M : Nat → Prop} {p q : Nat → Bool} {h g : H} (f : Fit h) (m : Mod M h g) (hM : ∀ k B, M k → h.blk k = some B → B.plain = true) (hp : ∀ r, p r = true → q r = true) : Grows (only p h) (only q g) :=
  only_mono f m.fit (fun k B hb ⟨xs, ty, r, o, hB, _⟩ => m.blk k B (fun hk => by
    have := hM k B hk hb
    subst hB; cases this) hb) hp
theorem Grew.mod {M : Nat → Prop} {base : Nat} {ro : Option Nat} {h g : H} (t : Grew base ro h g) (f : Fit h) (hb : base = h.next) (hro : ∀ r, ro = some r → h.next ≤ r) : Mod M h g :=
  ⟨t.fit, fun k B _ hk => t.keep _ _ hk (fun xs ty r q he hr => by
    subst he
    have h1 := f.ok.1 _ _ _ _ _ (H.blk_dyn hk)
    have := hro _ hr
    omega), t.mark, t.next, fun r hr => t.chain r (by rw [hb]; exact hr), fun j hj => .inl (by rw [← t.log]; exact hj)⟩
end Go.Hs
/- The order of items is an order. -/
namespace Go.Hs

/-- How three comparisons fit. -/
def T3 (x y z : Int) : Prop := (x ≤ 0 → y ≤ 0 → z ≤ 0) ∧ (x < 0 → y ≤ 0 → z < 0) ∧ (x ≤ 0 → y < 0 → z < 0) ∧ (x = 0 → y = 0 → z = 0)
theorem T3.then {x y z a b c : Int} (h : T3 x y z) (g : T3 a b c) : T3 (if x ≠ 0 then x else a) (if y ≠ 0 then y else b) (if z ≠ 0 then z else c) := by
  unfold T3 at *
  split <;> split <;> split <;> omega
theorem cmpN_T (a b c : Int) : T3 (cmpN a b) (cmpN b c) (cmpN a c) := by
  unfold T3 cmpN
  split <;> split <;> split <;> (try split) <;> (try split) <;> (try split) <;> omega
theorem cmpN_anti (a b : Int) : cmpN a b = - cmpN b a := by
  unfold cmpN
  split <;> split <;> (try split) <;> (try split) <;> omega
theorem cmpN_range (a b : Int) : -1 ≤ cmpN a b ∧ cmpN a b ≤ 1 := by
  unfold cmpN
  split
  · omega
  · split <;> omega
theorem cmpN_zero (a b : Int) : cmpN a b = 0 ↔ a = b := by
  unfold cmpN
  split
  · omega
  · split <;> omega

theorem cmpL_cons (a : UInt8) (as : List UInt8) (b : UInt8) (bs : List UInt8) : cmpL (a :: as) (b :: bs) = if cmpN (a.toNat : Int) b.toNat ≠ 0 then cmpN (a.toNat : Int) b.toNat else cmpL as bs := by
  rw [cmpL]
  by_cases q : a.toNat < b.toNat
  · have e1 : a.toNat.blt b.toNat = true := by rw [Nat.blt_eq]; exact q
    have e2 : cmpN (a.toNat : Int) b.toNat = -1 := by unfold cmpN; rw [if_pos (by omega)]
    rw [e1, e2]; simp
  · have e1 : a.toNat.blt b.toNat = false := by
      cases qq : a.toNat.blt b.toNat
      · rfl
      · rw [Nat.blt_eq] at qq; exact absurd qq q
    by_cases q2 : b.toNat < a.toNat
    · have e3 : b.toNat.blt a.toNat = true := by rw [Nat.blt_eq]; exact q2
      have e2 : cmpN (a.toNat : Int) b.toNat = 1 := by unfold cmpN; rw [if_neg (by omega), if_pos (by omega)]
      rw [e1, e2, e3]; simp
    · have e3 : b.toNat.blt a.toNat = false := by
        cases qq : b.toNat.blt a.toNat
        · rfl
        · rw [Nat.blt_eq] at qq; exact absurd qq q2
      have e2 : cmpN (a.toNat : Int) b.toNat = 0 := by rw [cmpN_zero]; omega
      rw [e1, e2, e3]; simp
theorem cmpL_T : ∀ (a b c : List UInt8), T3 (cmpL a b) (cmpL b c) (cmpL a c)
  | [], [], [] => by simp [T3, cmpL]
  | [], [], _ :: _ => by simp [T3, cmpL]
  | [], _ :: _, [] => by simp [T3, cmpL]
  | [], b :: bs, c :: cs => by simp [T3, cmpL]
  | _ :: _, [], [] => by simp [T3, cmpL]
  | _ :: _, [], _ :: _ => by simp [T3, cmpL]
  | _ :: _, _ :: _, [] => by simp [T3, cmpL]
  | a :: as, b :: bs, c :: cs => by
    rw [cmpL_cons, cmpL_cons, cmpL_cons]
    exact (cmpN_T _ _ _).then (cmpL_T as bs cs)
theorem cmpL_anti : ∀ (a b : List UInt8), cmpL a b = - cmpL b a
  | [], [] => rfl
  | [], _ :: _ => rfl
  | _ :: _, [] => rfl
  | a :: as, b :: bs => by
    rw [cmpL_cons, cmpL_cons, cmpL_anti as bs, cmpN_anti a.toNat b.toNat]
    split <;> split <;> omega
theorem cmpL_range : ∀ (a b : List UInt8), -1 ≤ cmpL a b ∧ cmpL a b ≤ 1
  | [], [] => by simp [cmpL]
  | [], _ :: _ => by simp [cmpL]
  | _ :: _, [] => by simp [cmpL]
  | a :: as, b :: bs => by
    rw [cmpL_cons]
    have h1 := cmpN_range a.toNat b.toNat
    have h2 := cmpL_range as bs
    split <;> omega
theorem cmpL_zero : ∀ (a b : List UInt8), cmpL a b = 0 ↔ a = b
  | [], [] => by simp [cmpL]
  | [], _ :: _ => by simp [cmpL]
  | _ :: _, [] => by simp [cmpL]
  | a :: as, b :: bs => by
    rw [cmpL_cons]
    have h1 := cmpN_zero a.toNat b.toNat
    have h2 := cmpL_zero as bs
    have h3 : a = b ↔ a.toNat = b.toNat := ⟨fun h => by rw [h], fun h => UInt8.toNat.inj h⟩
    simp only [List.cons.injEq]
    split
    · constructor
      · intro h; omega
      · rintro ⟨rfl, _⟩; rename_i hh; exact absurd (h1.2 rfl) hh
    · next hh =>
      have hab : a = b := by rw [h3]; have := h1.1 (Classical.not_not.1 hh); omega
      rw [h2]
      exact ⟨fun h => ⟨hab, h⟩, fun h => h.2⟩

theorem ordI_if (k m : Int) (tx : ByteArray) (ks : List Item) (k' m' : Int) (tx' : ByteArray) (ks' : List Item) : ordI (.mk k m tx ks) (.mk k' m' tx' ks') = if cmpN k k' ≠ 0 then cmpN k k' else if cmpN m m' ≠ 0 then cmpN m m' else if cmpL tx.data.toList tx'.data.toList ≠ 0 then cmpL tx.data.toList tx'.data.toList else ordL ks ks' := by
  rw [ordI_or]
  simp only [orL]
  split
  · rfl
  · split
    · rfl
    · split
      · rfl
      · split
        · rfl
        · next h => exact (Classical.not_not.1 h).symm
mutual
theorem ordI_T : ∀ (a b c : Item), T3 (ordI a b) (ordI b c) (ordI a c)
  | .mk k m tx ks, .mk k' m' tx' ks', .mk k2 m2 tx2 ks2 => by
    rw [ordI_if, ordI_if, ordI_if]
    exact (cmpN_T _ _ _).then ((cmpN_T _ _ _).then ((cmpL_T _ _ _).then (ordL_T ks ks' ks2)))
theorem ordL_T : ∀ (a b c : List Item), T3 (ordL a b) (ordL b c) (ordL a c)
  | [], [], [] => by simp [T3, ordL]
  | [], [], _ :: _ => by simp [T3, ordL]
  | [], _ :: _, [] => by simp [T3, ordL]
  | [], b :: bs, c :: cs => by simp [T3, ordL]
  | _ :: _, [], [] => by simp [T3, ordL]
  | _ :: _, [], _ :: _ => by simp [T3, ordL]
  | _ :: _, _ :: _, [] => by simp [T3, ordL]
  | a :: as, b :: bs, c :: cs => by
    rw [ordL, ordL, ordL]
    exact (ordI_T a b c).then (ordL_T as bs cs)
end
mutual
theorem ordI_anti : ∀ (a b : Item), ordI a b = - ordI b a
  | .mk k m tx ks, .mk k' m' tx' ks' => by
    rw [ordI_if, ordI_if, cmpN_anti k k', cmpN_anti m m', cmpL_anti tx.data.toList tx'.data.toList, ordL_anti ks ks']
    split <;> split <;> (try split) <;> (try split) <;> (try split) <;> (try split) <;> omega
theorem ordL_anti : ∀ (a b : List Item), ordL a b = - ordL b a
  | [], [] => by simp [ordL]
  | [], _ :: _ => by simp [ordL]
  | _ :: _, [] => by simp [ordL]
  | a :: as, b :: bs => by
    rw [ordL, ordL, ordI_anti a b, ordL_anti as bs]
    split <;> split <;> omega
end
mutual
theorem ordI_range : ∀ (a b : Item), -1 ≤ ordI a b ∧ ordI a b ≤ 1
  | .mk k m tx ks, .mk k' m' tx' ks' => by
    rw [ordI_if]
    have h1 := cmpN_range k k'
    have h2 := cmpN_range m m'
    have h3 := cmpL_range tx.data.toList tx'.data.toList
    have h4 := ordL_range ks ks'
    split
    · exact h1
    · split
      · exact h2
      · split
        · exact h3
        · exact h4
theorem ordL_range : ∀ (a b : List Item), -1 ≤ ordL a b ∧ ordL a b ≤ 1
  | [], [] => by simp [ordL]
  | [], _ :: _ => by simp [ordL]
  | _ :: _, [] => by simp [ordL]
  | a :: as, b :: bs => by
    rw [ordL]
    have h1 := ordI_range a b
    have h2 := ordL_range as bs
    split
    · exact h1
    · exact h2
end
mutual
theorem ordI_zero : ∀ (a b : Item), ordI a b = 0 → a = b
  | .mk k m tx ks, .mk k' m' tx' ks', h => by
    rw [ordI_if] at h
    split at h
    · next hh => exact absurd h hh
    · next h1 =>
      split at h
      · next hh => exact absurd h hh
      · next h2 =>
        split at h
        · next hh => exact absurd h hh
        · next h3 =>
          have e1 := (cmpN_zero _ _).1 (Classical.not_not.1 h1)
          have e2 := (cmpN_zero _ _).1 (Classical.not_not.1 h2)
          have e3 := (cmpL_zero _ _).1 (Classical.not_not.1 h3)
          have e4 := ordL_zero ks ks' h
          have e5 : tx = tx' := by
            apply ByteArray.ext
            exact Array.ext' e3
          rw [e1, e2, e5, e4]
theorem ordL_zero : ∀ (a b : List Item), ordL a b = 0 → a = b
  | [], [], _ => rfl
  | [], _ :: _, h => by simp [ordL] at h
  | _ :: _, [], h => by simp [ordL] at h
  | a :: as, b :: bs, h => by
    rw [ordL] at h
    split at h
    · next hh => exact absurd h hh
    · next h1 => rw [ordI_zero a b (Classical.not_not.1 h1), ordL_zero as bs h]
end
theorem ordI_self (a : Item) : ordI a a = 0 := by
  have := ordI_anti a a
  omega
end Go.Hs
