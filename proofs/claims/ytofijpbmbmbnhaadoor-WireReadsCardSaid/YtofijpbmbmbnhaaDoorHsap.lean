/- The reference's reader: items. -/
import Derived.Test.YtofijpbmbmbnhaaDoorHsao
set_option linter.unusedSimpArgs false
set_option linter.unusedVariables false
set_option maxRecDepth 100000
set_option maxHeartbeats 16000000
namespace Go.Proofs.YtofijpbmbmbnhaaDoor
open Go Go.Hs Go.Proofs
variable {E : Env} {I : Known}

theorem fn57 : tab.fn.get 57 = some Tryd.f57 := by kernel_rfl
noncomputable def loop57 : Code := loopOf Tryd.f57

/-- What the reference's reader of an item gives. -/
def RItemQ (E : Env) (k : Nat) (v : Value) (r : Rd Hs.Item) (lo : Nat) (l : List Value) (w : Int) (g : H) : Prop := match r with
  | .ok t p it => Ref k v p it w 0 g ∧ rep E (only (fun r => Nat.ble lo r) g) t (.agg ⟨l⟩)
  | .bad p e => ∃ pos it, Ref k v pos it p e g
def Item57 (E : Env) (I : Known) (k : Nat) (v : Value) (bs : List UInt8) (f : Nat) : Prop := ∀ (g : H) (pos items : Nat) (w : Int), Fit g → Ref k v pos items w 0 g → pos ≤ bs.length → items ≤ 5000 →
  ∃ n x g', (ev tab E I n).call 57 [.pointer (some (own k)), .int .i64 (251 - f : Nat)] g = some (x, g') ∧ (∃ l, x = .agg ⟨l⟩ ∧ l.length = 4 ∧ l.all isOne = true ∧ Mod (fun j => j = k) g g' ∧ RItemQ E k v (rdItem bs f pos items) g.next l w g')

theorem qslE {v : Value} {bs : List UInt8} (hB : ∀ h, Byt E h v bs) {p n : Nat} (h1 : 1 ≤ n) (h2 : p + n ≤ bs.length) : ∃ sv, (∀ h, aslice tab 31 v (some (.int .i64 (p : Nat))) (some (.int .i64 (p + n : Nat))) none h = some (sv, h)) ∧ ∀ h : H, aconvert tab E 31 9 sv h = some (.string ⟨⟨(bs.drop p).take n⟩⟩, h) := by
  rcases hB H.empty with ⟨_, rfl⟩ | ⟨a, c, rfl, hc, _⟩
  · simp at h2; omega
  have i1 : inRange ((p + n : Nat) : Int) (c + 1) = true := by
    show Nat.blt (p + n) (c + 1) = true
    rw [Nat.blt_eq]; omega
  have i2 : inRange ((p : Nat) : Int) (p + n + 1) = true := by
    show Nat.blt p (p + n + 1) = true
    rw [Nat.blt_eq]; omega
  have i3 : Nat.beq c p = false := by
    cases q : Nat.beq c p
    · rfl
    · have := Nat.eq_of_beq_eq_true q; omega
  have i4 : Nat.ble bs.length c = true := by rw [Nat.ble_eq]; exact hc
  have hlen : ((bs.drop p).take n).length = n := by rw [List.length_take, List.length_drop]; omega
  refine ⟨.slice (some (aadd a p)) n (c - p), fun h => ?_, fun h => ?_⟩
  · unfold aslice
    rw [qty31]
    simp only [i4, asliceS, abound, i1, i2, i3, Int.toNat_natCast, Nat.mul_one, Nat.add_sub_cancel_left]
  · refine qcv31_9 (.inr ⟨aadd a p, c - p, by rw [hlen], by omega, ?_⟩)
    rcases hB h with ⟨h3, _⟩ | ⟨a', c', h3, _, h4⟩
    · cases h3
    · cases h3
      have := cells_sub h4 (m := p) (l := n) (by omega)
      rw [hlen, this, bytesV_sub]

/-- Where the number and the text are read. -/
def St1 (k k7 : Nat) (v : Value) (kd : Int) (r : Rd (Nat × ByteArray)) (w : Int) (h : H) : Prop := match r with
  | .ok x p it => Ref k v p it w 0 h ∧ h.blk k7 = some (.cells [.int .i64 kd, .int .i64 (x.1 : Nat), .string x.2, .slice none 0 0] 25 none)
  | .bad p e => ∃ pos it l, Ref k v pos it p e h ∧ e ≠ 0 ∧ h.blk k7 = some (.cells l 25 none) ∧ l.length = 4 ∧ l.all isOne = true
/-- Where all is read. -/
def St2 (E : Env) (k k7 lo : Nat) (v : Value) (r : Rd Hs.Item) (w : Int) (h : H) : Prop := ∃ l, h.blk k7 = some (.cells l 25 none) ∧ l.length = 4 ∧ l.all isOne = true ∧ RItemQ E k v r lo l w h

/-- What comes behind the number and the text. -/
def Rest (bs : List UInt8) (fu hd : Nat) (r : Rd (Nat × ByteArray)) : Rd Hs.Item := match r with
  | .bad p e => .bad p e
  | .ok x p it => match (if 128 ≤ hd then rdKidsN bs (rdItem bs fu) p it else .ok [] p it) with
    | .bad p e => .bad p e
    | .ok ks p it => .ok (.mk (hd % 64 : Nat) (x.1 : Nat) x.2 ks) p it
def onT {α : Type} (r : Rd α) (b : Bool) : Bool := match r with
  | .ok _ _ _ => b
  | .bad _ _ => false

theorem ritem57 (hI : ∀ f args h, (f = 57 ∨ f = 92 ∨ f = 91 ∨ f = 52) → I f args h = none) {k : Nat} {v : Value} {bs : List UInt8} (hB : ∀ h, Byt E h v bs) (hl : bs.length ≤ 1000000) : ∀ fu, fu ≤ 250 → Item57 E I k v bs fu := by
  obtain ⟨hv1, hv2, ln, hix⟩ := bytE (E := E) hB
  have hI52 : ∀ args h, I 52 args h = none := fun args h => hI _ args h (by simp)
  have hI91 : ∀ f args h, (f = 91 ∨ f = 52) → I f args h = none := fun f args h hf => hI f args h (by rcases hf with h | h <;> simp [h])
  have hI92 : ∀ f args h, (f = 92 ∨ f = 91 ∨ f = 52) → I f args h = none := fun f args h hf => hI f args h (.inr hf)
  intro fu
  induction fu with
  | zero =>
    intro _ g pos items w f b hp hi
    show ∃ n x g', (ev tab E I n).call 57 [.pointer (some (own k)), .int .i64 (251 : Nat)] g = some (x, g') ∧ _
    refine Wc.call (hI _ _ _ (.inl rfl)) fn57 rfl ?_
    generalize hA0 : (⟨T.ofList [.pointer (some (own k)), .int .i64 (251 : Nat)] 0 .nil, max ([.pointer (some (own k)), .int .i64 (251 : Nat)] : List Value).length Tryd.f57.ntmps, []⟩ : Ac) = A0
    have n0 : A0.n = 178 := by rw [← hA0]; rfl
    have q0 : A0.get 0 = .pointer (some (own k)) := by rw [← hA0]; rfl
    have q1 : A0.get 1 = .int .i64 (251 : Nat) := by rw [← hA0]; rfl
    have d0 : A0.defers = [] := by rw [← hA0]
    clear hA0
    generalize hh1 : g.new (.cells (Value.agg #[.int .i64 0, .int .i64 0, .string ⟨#[]⟩, .slice none 0 0]).cells.toList 25 none) = h1
    have t1 : Ahd g h1 := by rw [← hh1]; exact Ahd.new0 f rfl
    have b4 : h1.blk g.next = some (.cells zeroL 25 none) := by rw [← hh1]; exact new_blk_new rfl
    have n1 : h1.next = g.next + 1 := by rw [← hh1]; rfl
    have kl : k < g.next := f.lt b
    have b1 := b.mod (t1.mod (M := fun _ => False)) (fun h => h)
    obtain ⟨c0, c1, c2, c3, c4⟩ := b1.at (E := E) hv2
    have st4 : ∀ {h : H} {l : List Value}, l.length = 4 → l.all isOne = true → h.blk g.next = some (.cells zeroL 25 none) → astore tab 25 (own g.next) (.agg ⟨l⟩) h = some (h.setl g.next (.cells l 25 none)) := fun h4 ho hb => astore_all qty25 hb (by rw [h4]) (by rw [h4]; rfl) ho (by intro e; rw [e] at h4; simp at h4)
    have low : ∀ {h : H}, Mod (fun j => j = k ∨ g.next ≤ j) g h → Mod (fun j => j = k) g h := fun m => m.low f (fun _ h => h)
    have up : ∀ {h h' : H}, Mod (fun j => j = k) h h' → Mod (fun j => j = k ∨ g.next ≤ j) h h' := fun m => m.sub (fun _ h => .inl h)
    -- the end
    have fin : ∀ {h : H} {l : List Value} {A0 : Ac} {ex : Ex}, (ex = .normal ∨ ex = .ret) → A0.defers = [] → A0.get 4 = .pointer (some (own g.next)) → l.length = 4 → l.all isOne = true → Mod (fun j => j = k ∨ g.next ≤ j) g h → h.blk g.next = some (.cells l 25 none) → RItemQ E k v (rdItem bs 0 pos items) g.next l w h →
        (ex = .normal ∨ ex = .ret) ∧ ∃ h2 v', takeAll A0.defers h = some h2 ∧ ares tab E Tryd.f57 A0 h2 = some v' ∧ (∃ l, v' = .agg ⟨l⟩ ∧ l.length = 4 ∧ l.all isOne = true ∧ Mod (fun j => j = k) g h2 ∧ RItemQ E k v (rdItem bs 0 pos items) g.next l w h2) := by
      intro h l A0 ex hex d0 q4 h4 ho m hb hq
      have hc : h.cells E (own g.next) 4 = some l := blk_cells hb h4 ho
      exact done_cell hex d0 rfl q4 (by rw [qld25, hc]) ⟨l, rfl, h4, ho, low m, hq⟩
    have wrong : ∀ {h : H} {p : Nat} {e : Int} {pos' it : Nat} {A0 : Ac} {ex : Ex}, (ex = .normal ∨ ex = .ret) → A0.defers = [] → A0.get 4 = .pointer (some (own g.next)) → Mod (fun j => j = k ∨ g.next ≤ j) g h → h.blk g.next = some (.cells zeroL 25 none) → Ref k v pos' it p e h → rdItem bs 0 pos items = .bad p e →
        (ex = .normal ∨ ex = .ret) ∧ ∃ h2 v', takeAll A0.defers (h.setl g.next (.cells zeroL 25 none)) = some h2 ∧ ares tab E Tryd.f57 A0 h2 = some v' ∧ (∃ l, v' = .agg ⟨l⟩ ∧ l.length = 4 ∧ l.all isOne = true ∧ Mod (fun j => j = k) g h2 ∧ RItemQ E k v (rdItem bs 0 pos items) g.next l w h2) := by
      intro h p e pos' it A0 ex hex d0 q4 m hb bb he
      have m2 := (Mod.refl (M := fun j => j = g.next) m.fit).setl (B := .cells zeroL 25 none) rfl rfl (m.fit.lt hb)
      refine fin hex d0 q4 rfl rfl (m.trans (m2.sub fun j hj => .inr (by omega))) (setl_same rfl) ?_
      rw [he]
      exact ⟨pos', it, bb.mod m2 (by omega)⟩
    by_cases h1e : pos = bs.length
    · have e2 : decide ((pos : Int) = (bs.length : Int)) = true := by simp; omega
      have hn : bs[pos]? = none := by rw [List.getElem?_eq_none_iff]; omega
      have he : rdItem bs 0 pos items = .bad pos 4 := by rw [rdItem, hn]
      obtain ⟨nf, g', ck, m, b'⟩ := rfail52 (E := E) (I := I) hI52 t1.fit b1 4 pos
      have b4' := m.blk _ _ (by omega) b4
      have s4 := st4 (l := zeroL) rfl rfl b4'
      repeat' (first
    | (with_reducible apply Wc.seq)
    | (apply Wc.opsN nf; (focus ((repeat' (first
      | with_reducible exact RO.nil
      | ((with_reducible apply RO.run (awant_none rfl)); (focus ((first | simp (config := {decide := true}) only [awant, ayield_get, oper1, aop, opv, opvs, opvo, opvp, abuiltin, aun, Gx, if_true, if_false, and_true, decide_true, decide_false, abin, isShift, aint, roV, pair, bind, Option.bind, acall, Sx, n0, q0, qtz25, hh1, Qx, Hx, c0, c1, ln, e2, ck, qbu25z, s4] | skip); with_reducible rfl))))); done)))
    | (refine Wc.cond2 (by simp (config := {decide := true}) only [opv, Gx, if_true, if_false, and_true, decide_true, decide_false, Sx, n0, q0, qtz25, hh1, Qx, Hx, c0, c1, ln, e2, ck, qbu25z, s4]; try with_reducible rfl) (fun hb => ?_) (fun hb => ?_) <;> try contradiction)
    | refine Wc.skip ?_
    | refine Wc.ret ?_
    | refine Wc.exit ?_
    | refine Wc.block ?_)
      exact wrong (.inr rfl) (by simp (config := {decide := true}) only [Gx, if_true, if_false, and_true, Sx, d0]) (by simp (config := {decide := true}) only [Gx, if_true, if_false, and_true, Sx, n0]) (t1.mod.trans (up m)) b4' b' he
    have hlt : pos < bs.length := by omega
    obtain ⟨hd, hc⟩ : ∃ c, bs[pos]? = some c := ⟨bs[pos], List.getElem?_eq_getElem hlt⟩
    have e2 : decide ((pos : Int) = (bs.length : Int)) = false := by simp; omega
    have he : rdItem bs 0 pos items = .bad pos 11 := by rw [rdItem, hc]
    obtain ⟨nf, g', ck, m, b'⟩ := rfail52 (E := E) (I := I) hI52 t1.fit b1 11 pos
    have b4' := m.blk _ _ (by omega) b4
    have s4 := st4 (l := zeroL) rfl rfl b4'
    repeat' (first
    | (with_reducible apply Wc.seq)
    | (apply Wc.opsN nf; (focus ((repeat' (first
      | with_reducible exact RO.nil
      | ((with_reducible apply RO.run (awant_none rfl)); (focus ((first | simp (config := {decide := true}) only [awant, ayield_get, oper1, aop, opv, opvs, opvo, opvp, abuiltin, aun, Gx, if_true, if_false, and_true, decide_true, decide_false, abin, isShift, aint, roV, pair, bind, Option.bind, acall, Sx, n0, q0, q1, qtz25, hh1, Qx, Hx, c0, c1, ln, e2, ck, qbu25z, s4] | skip); with_reducible rfl))))); done)))
    | (refine Wc.cond2 (by simp (config := {decide := true}) only [opv, Gx, if_true, if_false, and_true, decide_true, decide_false, Sx, n0, q0, q1, qtz25, hh1, Qx, Hx, c0, c1, ln, e2, ck, qbu25z, s4]; try with_reducible rfl) (fun hb => ?_) (fun hb => ?_) <;> try contradiction)
    | refine Wc.skip ?_
    | refine Wc.ret ?_
    | refine Wc.exit ?_
    | refine Wc.block ?_)
    exact wrong (.inr rfl) (by simp (config := {decide := true}) only [Gx, if_true, if_false, and_true, Sx, d0]) (by simp (config := {decide := true}) only [Gx, if_true, if_false, and_true, Sx, n0]) (t1.mod.trans (up m)) b4' b' he
  | succ fu IH =>
  intro hfu g pos items w f b hp hi
  have RI := IH (by omega)
  rw [show 251 - (fu + 1) = 250 - fu by omega]
  have rok := rdItem_ok bs fu
  refine Wc.call (hI _ _ _ (.inl rfl)) fn57 rfl ?_
  generalize hA0 : (⟨T.ofList [.pointer (some (own k)), .int .i64 (250 - fu : Nat)] 0 .nil, max ([.pointer (some (own k)), .int .i64 (250 - fu : Nat)] : List Value).length Tryd.f57.ntmps, []⟩ : Ac) = A0
  have n0 : A0.n = 178 := by rw [← hA0]; rfl
  have q0 : A0.get 0 = .pointer (some (own k)) := by rw [← hA0]; rfl
  have q1 : A0.get 1 = .int .i64 (250 - fu : Nat) := by rw [← hA0]; rfl
  have d0 : A0.defers = [] := by rw [← hA0]
  clear hA0
  generalize hh1 : g.new (.cells (Value.agg #[.int .i64 0, .int .i64 0, .string ⟨#[]⟩, .slice none 0 0]).cells.toList 25 none) = h1
  have t1 : Ahd g h1 := by rw [← hh1]; exact Ahd.new0 f rfl
  have b4 : h1.blk g.next = some (.cells zeroL 25 none) := by rw [← hh1]; exact new_blk_new rfl
  have n1 : h1.next = g.next + 1 := by rw [← hh1]; rfl
  have kl : k < g.next := f.lt b
  have b1 := b.mod (t1.mod (M := fun _ => False)) (fun h => h)
  obtain ⟨c0, c1, c2, c3, c4⟩ := b1.at (E := E) hv2
  have st4 : ∀ {h : H} {l : List Value}, l.length = 4 → l.all isOne = true → h.blk g.next = some (.cells zeroL 25 none) → astore tab 25 (own g.next) (.agg ⟨l⟩) h = some (h.setl g.next (.cells l 25 none)) := fun h4 ho hb => astore_all qty25 hb (by rw [h4]) (by rw [h4]; rfl) ho (by intro e; rw [e] at h4; simp at h4)
  have low : ∀ {h : H}, Mod (fun j => j = k ∨ g.next ≤ j) g h → Mod (fun j => j = k) g h := fun m => m.low f (fun _ h => h)
  have up : ∀ {h h' : H}, Mod (fun j => j = k) h h' → Mod (fun j => j = k ∨ g.next ≤ j) h h' := fun m => m.sub (fun _ h => .inl h)
  -- the end
  have fin : ∀ {h : H} {l : List Value} {A0 : Ac} {ex : Ex}, (ex = .normal ∨ ex = .ret) → A0.defers = [] → A0.get 4 = .pointer (some (own g.next)) → l.length = 4 → l.all isOne = true → Mod (fun j => j = k ∨ g.next ≤ j) g h → h.blk g.next = some (.cells l 25 none) → RItemQ E k v (rdItem bs (fu + 1) pos items) g.next l w h →
      (ex = .normal ∨ ex = .ret) ∧ ∃ h2 v', takeAll A0.defers h = some h2 ∧ ares tab E Tryd.f57 A0 h2 = some v' ∧ (∃ l, v' = .agg ⟨l⟩ ∧ l.length = 4 ∧ l.all isOne = true ∧ Mod (fun j => j = k) g h2 ∧ RItemQ E k v (rdItem bs (fu + 1) pos items) g.next l w h2) := by
    intro h l A0 ex hex d0 q4 h4 ho m hb hq
    have hc : h.cells E (own g.next) 4 = some l := blk_cells hb h4 ho
    exact done_cell hex d0 rfl q4 (by rw [qld25, hc]) ⟨l, rfl, h4, ho, low m, hq⟩
  have wrong : ∀ {h : H} {p : Nat} {e : Int} {pos' it : Nat} {A0 : Ac} {ex : Ex}, (ex = .normal ∨ ex = .ret) → A0.defers = [] → A0.get 4 = .pointer (some (own g.next)) → Mod (fun j => j = k ∨ g.next ≤ j) g h → h.blk g.next = some (.cells zeroL 25 none) → Ref k v pos' it p e h → rdItem bs (fu + 1) pos items = .bad p e →
      (ex = .normal ∨ ex = .ret) ∧ ∃ h2 v', takeAll A0.defers (h.setl g.next (.cells zeroL 25 none)) = some h2 ∧ ares tab E Tryd.f57 A0 h2 = some v' ∧ (∃ l, v' = .agg ⟨l⟩ ∧ l.length = 4 ∧ l.all isOne = true ∧ Mod (fun j => j = k) g h2 ∧ RItemQ E k v (rdItem bs (fu + 1) pos items) g.next l w h2) := by
    intro h p e pos' it A0 ex hex d0 q4 m hb bb he
    have m2 := (Mod.refl (M := fun j => j = g.next) m.fit).setl (B := .cells zeroL 25 none) rfl rfl (m.fit.lt hb)
    refine fin hex d0 q4 rfl rfl (m.trans (m2.sub fun j hj => .inr (by omega))) (setl_same rfl) ?_
    rw [he]
    exact ⟨pos', it, bb.mod m2 (by omega)⟩
  by_cases h1e : pos = bs.length
  · have e2 : decide ((pos : Int) = (bs.length : Int)) = true := by simp; omega
    have hn : bs[pos]? = none := by rw [List.getElem?_eq_none_iff]; omega
    have he : rdItem bs (fu + 1) pos items = .bad pos 4 := by rw [rdItem, hn]
    obtain ⟨nf, g', ck, m, b'⟩ := rfail52 (E := E) (I := I) hI52 t1.fit b1 4 pos
    have b4' := m.blk _ _ (by omega) b4
    have s4 := st4 (l := zeroL) rfl rfl b4'
    repeat' (first
    | (with_reducible apply Wc.seq)
    | (apply Wc.opsN nf; (focus ((repeat' (first
      | with_reducible exact RO.nil
      | ((with_reducible apply RO.run (awant_none rfl)); (focus ((first | simp (config := {decide := true}) only [awant, ayield_get, oper1, aop, opv, opvs, opvo, opvp, abuiltin, aun, Gx, if_true, if_false, and_true, decide_true, decide_false, abin, isShift, aint, roV, pair, bind, Option.bind, acall, Sx, n0, q0, qtz25, hh1, Qx, Hx, c0, c1, ln, e2, ck, qbu25z, s4] | skip); with_reducible rfl))))); done)))
    | (refine Wc.cond2 (by simp (config := {decide := true}) only [opv, Gx, if_true, if_false, and_true, decide_true, decide_false, Sx, n0, q0, qtz25, hh1, Qx, Hx, c0, c1, ln, e2, ck, qbu25z, s4]; try with_reducible rfl) (fun hb => ?_) (fun hb => ?_) <;> try contradiction)
    | refine Wc.skip ?_
    | refine Wc.ret ?_
    | refine Wc.exit ?_
    | refine Wc.block ?_)
    exact wrong (.inr rfl) (by simp (config := {decide := true}) only [Gx, if_true, if_false, and_true, Sx, d0]) (by simp (config := {decide := true}) only [Gx, if_true, if_false, and_true, Sx, n0]) (t1.mod.trans (up m)) b4' b' he
  have hlt : pos < bs.length := by omega
  obtain ⟨hd, hc⟩ : ∃ c, bs[pos]? = some c := ⟨bs[pos], List.getElem?_eq_getElem hlt⟩
  have hc8 : hd.toNat < 256 := hd.toNat_lt
  have e2 : decide ((pos : Int) = (bs.length : Int)) = false := by simp; omega
  have e3 : decide (((250 - fu : Nat) : Int) > 250) = false := by simp; omega
  have eR : rdItem bs (fu + 1) pos items = (if 5000 ≤ items then .bad pos 2
      else if hd.toNat % 64 = 0 then .bad pos 4
      else match rdN bs 0 1099511627776 (pos + 1) (items + 1) with
        | .bad p e => .bad p e
        | .ok n p items => match (if hd.toNat / 64 % 2 = 1 then rdText bs p items else .ok ⟨⟨[]⟩⟩ p items) with
          | .bad p e => .bad p e
          | .ok tx p items => match (if 128 ≤ hd.toNat then rdKidsN bs (rdItem bs fu) p items else .ok [] p items) with
            | .bad p e => .bad p e
            | .ok ks p items => .ok (.mk (hd.toNat % 64 : Nat) (n : Nat) tx ks) p items) := by rw [rdItem, hc]; rfl
  generalize rdItem bs (fu + 1) pos items = R at eR fin wrong ⊢
  by_cases h5 : 5000 ≤ items
  · have e4 : decide ((items : Int) ≥ 5000) = true := by simp; omega
    rw [if_pos h5] at eR
    obtain ⟨nf, g', ck, m, b'⟩ := rfail52 (E := E) (I := I) hI52 t1.fit b1 2 pos
    have b4' := m.blk _ _ (by omega) b4
    have s4 := st4 (l := zeroL) rfl rfl b4'
    repeat' (first
    | (with_reducible apply Wc.seq)
    | (apply Wc.opsN nf; (focus ((repeat' (first
      | with_reducible exact RO.nil
      | ((with_reducible apply RO.run (awant_none rfl)); (focus ((first | simp (config := {decide := true}) only [awant, ayield_get, oper1, aop, opv, opvs, opvo, opvp, abuiltin, aun, Gx, if_true, if_false, and_true, decide_true, decide_false, abin, isShift, aint, roV, pair, bind, Option.bind, acall, Sx, n0, q0, q1, qtz25, hh1, Qx, Hx, c0, c1, c2, ln, e2, e3, e4, ck, qbu25z, s4] | skip); with_reducible rfl))))); done)))
    | (refine Wc.cond2 (by simp (config := {decide := true}) only [opv, Gx, if_true, if_false, and_true, decide_true, decide_false, Sx, n0, q0, q1, qtz25, hh1, Qx, Hx, c0, c1, c2, ln, e2, e3, e4, ck, qbu25z, s4]; try with_reducible rfl) (fun hb => ?_) (fun hb => ?_) <;> try contradiction)
    | refine Wc.skip ?_
    | refine Wc.ret ?_
    | refine Wc.exit ?_
    | refine Wc.block ?_)
    exact wrong (.inr rfl) (by simp (config := {decide := true}) only [Gx, if_true, if_false, and_true, Sx, d0]) (by simp (config := {decide := true}) only [Gx, if_true, if_false, and_true, Sx, n0]) (t1.mod.trans (up m)) b4' b' eR
  have e4 : decide ((items : Int) ≥ 5000) = false := by simp; omega
  rw [if_neg h5] at eR
  -- its head
  have w1 : IntKind.i64.wrap ((items : Int) + 1) = ((items + 1 : Nat) : Int) := by rw [wrap64 (by omega) (by omega)]; omega
  obtain ⟨h2, s2, b2, m2⟩ := b1.set t1.fit qty3 rfl 2 (items + 1 : Nat) (by decide) rfl (pos' := pos) (items' := items + 1) (w' := w) (e' := 0)
  obtain ⟨d0', d1, d2, d3, d4⟩ := b2.at (E := E) hv2
  obtain ⟨ca, ix, lc⟩ := hix pos hd hc
  have lc := lc h2
  have w0 : IntKind.i64.wrap ((hd.toNat : Nat) : Int) = ((hd.toNat : Nat) : Int) := wrapN (by omega)
  have tm : ((hd.toNat : Nat) : Int).tmod 64 = ((hd.toNat % 64 : Nat) : Int) := tmodN hd.toNat 64
  have bk := qbu25k ((hd.toNat % 64 : Nat) : Int)
  have b42 := m2.blk _ _ (by omega) b4
  generalize hh3 : h2.new (.cells (Value.agg #[.int .i64 0, .int .i64 0, .string ⟨#[]⟩, .slice none 0 0]).cells.toList 25 none) = h3
  have t3 : Ahd h2 h3 := by rw [← hh3]; exact Ahd.new0 m2.fit rfl
  have b7 : h3.blk h2.next = some (.cells zeroL 25 none) := by rw [← hh3]; exact new_blk_new rfl
  have s7 : astore tab 25 (own h2.next) (.agg ⟨[.int .i64 (hd.toNat % 64 : Nat), .int .i64 0, .string ⟨#[]⟩, .slice none 0 0]⟩) h3 = some (h3.setl h2.next (.cells [.int .i64 (hd.toNat % 64 : Nat), .int .i64 0, .string ⟨#[]⟩, .slice none 0 0] 25 none)) := astore_all qty25 b7 rfl rfl rfl (by simp)
  have t4 : Ahd h2 (h3.setl h2.next (.cells [.int .i64 (hd.toNat % 64 : Nat), .int .i64 0, .string ⟨#[]⟩, .slice none 0 0] 25 none)) := t3.setl rfl (Nat.le_refl _) (t3.fit.lt b7) m2.fit
  have b7 := setl_same (h := h3) (k := h2.next) (B := .cells [.int .i64 (hd.toNat % 64 : Nat), .int .i64 0, .string ⟨#[]⟩, .slice none 0 0] 25 none) rfl
  generalize h3.setl h2.next (.cells [.int .i64 (hd.toNat % 64 : Nat), .int .i64 0, .string ⟨#[]⟩, .slice none 0 0] 25 none) = h4 at s7 t4 b7
  have hk7 : g.next < h2.next := m2.fit.lt b42
  generalize hk7e : h2.next = k7 at *
  have b44 := t4.grows _ _ b42
  have M4 := (t1.mod.trans (up m2)).ahd t4
  have b5 := b2.mod (t4.mod (M := fun _ => False)) (fun h => h)
  have kd0 := cell_blk0 (E := E) b7
  repeat' (first
    | (with_reducible apply Wc.seq)
    | (apply Wc.ops; (focus ((repeat' (first
      | with_reducible exact RO.nil
      | ((with_reducible apply RO.run (awant_none rfl)); (focus ((first | simp (config := {decide := true}) only [awant, ayield_get, oper1, aop, opv, opvs, opvo, opvp, abuiltin, aun, Gx, if_true, if_false, and_true, decide_true, decide_false, abin, isShift, aint, roV, pair, bind, Option.bind, acall, Sx, n0, q0, q1, qtz25, hh1, Qx, Hx, c0, c1, c2, ln, e2, e3, e4, w1, s2, d0', ix, lc, qcv5_3, w0, tm, bk, hh3, hk7e, s7] | skip); with_reducible rfl))))); done)))
    | (refine Wc.cond2 (by simp (config := {decide := true}) only [opv, Gx, if_true, if_false, and_true, decide_true, decide_false, Sx, n0, q0, q1, qtz25, hh1, Qx, Hx, c0, c1, c2, ln, e2, e3, e4, w1, s2, d0', ix, lc, qcv5_3, w0, tm, bk, hh3, hk7e, s7]; try with_reducible rfl) (fun hb => ?_) (fun hb => ?_) <;> try contradiction)
    | refine Wc.skip ?_
    | refine Wc.ret ?_
    | refine Wc.exit ?_
    | refine Wc.block ?_)
  by_cases hk0 : hd.toNat % 64 = 0
  · have e5 : decide (((hd.toNat % 64 : Nat) : Int) = 0) = true := by simp; omega
    rw [if_pos hk0] at eR
    obtain ⟨nf, g', ck, m, b'⟩ := rfail52 (E := E) (I := I) hI52 t4.fit b5 4 pos
    have b4' := m.blk _ _ (by omega) b44
    have s4 := st4 (l := zeroL) rfl rfl b4'
    repeat' (first
    | (with_reducible apply Wc.seq)
    | (apply Wc.opsN nf; (focus ((repeat' (first
      | with_reducible exact RO.nil
      | ((with_reducible apply RO.run (awant_none rfl)); (focus ((first | simp (config := {decide := true}) only [awant, ayield_get, oper1, aop, opv, opvs, opvo, opvp, abuiltin, aun, Gx, if_true, if_false, and_true, decide_true, decide_false, abin, isShift, aint, roV, pair, bind, Option.bind, acall, Sx, n0, q0, q1, Qx, Hx, kd0, e5, ck, qbu25z, s4] | skip); with_reducible rfl))))); done)))
    | (refine Wc.cond2 (by simp (config := {decide := true}) only [opv, Gx, if_true, if_false, and_true, decide_true, decide_false, Sx, n0, q0, q1, Qx, Hx, kd0, e5, ck, qbu25z, s4]; try with_reducible rfl) (fun hb => ?_) (fun hb => ?_) <;> try contradiction)
    | refine Wc.skip ?_
    | refine Wc.ret ?_
    | refine Wc.exit ?_
    | refine Wc.block ?_)
    exact wrong (.inr rfl) (by simp (config := {decide := true}) only [Gx, if_true, if_false, and_true, Sx, d0]) (by simp (config := {decide := true}) only [Gx, if_true, if_false, and_true, Sx, n0]) (M4.trans (up m)) b4' b' eR
  have e5 : decide (((hd.toNat % 64 : Nat) : Int) = 0) = false := by simp; omega
  rw [if_neg hk0] at eR
  -- the loop over its Kids
  have stop : ∀ (i n : Nat) (A0 : Ac) (h : H) (pos' it p : Nat) (e : Int), e ≠ 0 → A0.n = 178 → A0.defers = [] → A0.get 0 = .pointer (some (own k)) → A0.get 1 = .int .i64 (250 - fu : Nat) → A0.get 4 = .pointer (some (own g.next)) → A0.get 7 = .pointer (some (own k7)) → A0.get 9 = .int .i64 (n : Nat) → A0.get 10 = .int .i64 (i : Nat) → Ref k v pos' it p e h →
      Wc tab E I ⟨57, none⟩ (.loop loop57) A0 h (fun ex A' h' => ex = .exit 0 ∧ A'.n = 178 ∧ A'.defers = [] ∧ A'.get 4 = .pointer (some (own g.next)) ∧ A'.get 7 = .pointer (some (own k7)) ∧ h' = h) := by
    intro i n A0 h pos' it p e he n0 d0 q0 q1 q4 q7 q9 q10 b
    obtain ⟨_, _, _, _, f4⟩ := b.at (E := E) hv2
    have e9 : decide (e = 0) = false := decide_eq_false he
    apply Wc.loop
    simp only [loop57, loopOf, firstLoop, Option.getD, Tryd.f57]
    by_cases h1 : i < n
    · have e1 : decide ((i : Int) < (n : Int)) = true := by simp; omega
      repeat' (first
    | (with_reducible apply Wc.seq)
    | (apply Wc.ops; (focus ((repeat' (first
      | with_reducible exact RO.nil
      | ((with_reducible apply RO.run (awant_none rfl)); (focus ((first | simp (config := {decide := true}) only [awant, ayield_get, oper1, aop, opv, opvs, opvo, opvp, abuiltin, aun, Gx, if_true, if_false, and_true, decide_true, decide_false, abin, isShift, aint, roV, pair, bind, Option.bind, acall, Sx, n0, q0, q9, q10, Qx, Hx, e1, f4, e9] | skip); with_reducible rfl)))
      | ((with_reducible apply RO.runG); (focus rfl); (focus rfl); (focus (simp (config := {decide := true}) only [Gx, if_true, if_false, and_true, Sx, decide_true, decide_false, n0, q0, q9, q10, Qx, Hx, e1, f4, e9]; done)); (focus ((first | simp (config := {decide := true}) only [awant, ayield_get, oper1, aop, opv, opvs, opvo, opvp, abuiltin, aun, Gx, if_true, if_false, and_true, decide_true, decide_false, abin, isShift, aint, roV, pair, bind, Option.bind, acall, Sx, n0, q0, q9, q10, Qx, Hx, e1, f4, e9] | skip); with_reducible rfl)))
      | ((with_reducible apply RO.skipG); (focus rfl); (focus rfl); (focus (simp (config := {decide := true}) only [Gx, if_true, if_false, and_true, Sx, decide_true, decide_false, n0, q0, q9, q10, Qx, Hx, e1, f4, e9]; done))))); done)))
    | (refine Wc.quiet (by kernel_rfl) (by repeat' (first
      | with_reducible exact QO.nil
      | ((with_reducible apply QO.cons rfl rfl); (focus ((first | simp (config := {decide := true}) only [awant, ayield_get, oper1, aop, opv, opvs, opvo, opvp, abuiltin, aun, Gx, if_true, if_false, and_true, decide_true, decide_false, abin, isShift, aint, roV, pair, bind, Option.bind, acall, Sx, n0, q0, q9, q10, Qx, Hx, e1, f4, e9] | skip); with_reducible rfl))))) ?_)
    | (refine Wc.cond2 (by simp (config := {decide := true}) only [opv, Gx, if_true, if_false, and_true, decide_true, decide_false, Sx, n0, q0, q9, q10, Qx, Hx, e1, f4, e9]; try with_reducible rfl) (fun hb => ?_) (fun hb => ?_) <;> try contradiction)
    | refine Wc.skip ?_
    | refine Wc.ret ?_
    | refine Wc.exit ?_
    | refine Wc.block ?_)
      exact ⟨rfl, by simp (config := {decide := true}) only [Gx, if_true, if_false, and_true, Sx, n0], by simp (config := {decide := true}) only [Gx, if_true, if_false, and_true, Sx, d0], by simp (config := {decide := true}) only [Gx, if_true, if_false, and_true, Sx, n0, q4], by simp (config := {decide := true}) only [Gx, if_true, if_false, and_true, Sx, n0, q7], rfl⟩
    · have e1 : decide ((i : Int) < (n : Int)) = false := by simp; omega
      repeat' (first
    | (with_reducible apply Wc.seq)
    | (apply Wc.ops; (focus ((repeat' (first
      | with_reducible exact RO.nil
      | ((with_reducible apply RO.run (awant_none rfl)); (focus ((first | simp (config := {decide := true}) only [awant, ayield_get, oper1, aop, opv, opvs, opvo, opvp, abuiltin, aun, Gx, if_true, if_false, and_true, decide_true, decide_false, abin, isShift, aint, roV, pair, bind, Option.bind, acall, Sx, n0, q0, q9, q10, Qx, Hx, e1, f4, e9] | skip); with_reducible rfl)))
      | ((with_reducible apply RO.runG); (focus rfl); (focus rfl); (focus (simp (config := {decide := true}) only [Gx, if_true, if_false, and_true, Sx, decide_true, decide_false, n0, q0, q9, q10, Qx, Hx, e1, f4, e9]; done)); (focus ((first | simp (config := {decide := true}) only [awant, ayield_get, oper1, aop, opv, opvs, opvo, opvp, abuiltin, aun, Gx, if_true, if_false, and_true, decide_true, decide_false, abin, isShift, aint, roV, pair, bind, Option.bind, acall, Sx, n0, q0, q9, q10, Qx, Hx, e1, f4, e9] | skip); with_reducible rfl)))
      | ((with_reducible apply RO.skipG); (focus rfl); (focus rfl); (focus (simp (config := {decide := true}) only [Gx, if_true, if_false, and_true, Sx, decide_true, decide_false, n0, q0, q9, q10, Qx, Hx, e1, f4, e9]; done))))); done)))
    | (refine Wc.quiet (by kernel_rfl) (by repeat' (first
      | with_reducible exact QO.nil
      | ((with_reducible apply QO.cons rfl rfl); (focus ((first | simp (config := {decide := true}) only [awant, ayield_get, oper1, aop, opv, opvs, opvo, opvp, abuiltin, aun, Gx, if_true, if_false, and_true, decide_true, decide_false, abin, isShift, aint, roV, pair, bind, Option.bind, acall, Sx, n0, q0, q9, q10, Qx, Hx, e1, f4, e9] | skip); with_reducible rfl))))) ?_)
    | (refine Wc.cond2 (by simp (config := {decide := true}) only [opv, Gx, if_true, if_false, and_true, decide_true, decide_false, Sx, n0, q0, q9, q10, Qx, Hx, e1, f4, e9]; try with_reducible rfl) (fun hb => ?_) (fun hb => ?_) <;> try contradiction)
    | refine Wc.skip ?_
    | refine Wc.ret ?_
    | refine Wc.exit ?_
    | refine Wc.block ?_)
      exact ⟨rfl, by simp (config := {decide := true}) only [Gx, if_true, if_false, and_true, Sx, n0], by simp (config := {decide := true}) only [Gx, if_true, if_false, and_true, Sx, d0], by simp (config := {decide := true}) only [Gx, if_true, if_false, and_true, Sx, n0, q4], by simp (config := {decide := true}) only [Gx, if_true, if_false, and_true, Sx, n0, q7], rfl⟩
  have key : ∀ (r i n p it base : Nat) (acc : List Hs.Item) (sl : Value) (kd : Int) (x : Nat × ByteArray) (A0 : Ac) (h : H), r = n - i → i ≤ n → n ≤ 5000 → acc.length = i → p ≤ bs.length → it ≤ 5000 → g.next ≤ base → base ≤ h.next → A0.n = 178 → A0.defers = [] → A0.get 0 = .pointer (some (own k)) → A0.get 1 = .int .i64 (250 - fu : Nat) → A0.get 4 = .pointer (some (own g.next)) → A0.get 7 = .pointer (some (own k7)) → A0.get 9 = .int .i64 (n : Nat) → A0.get 10 = .int .i64 (i : Nat) →
      Mod (fun j => j = k ∨ g.next ≤ j) g h → h.blk g.next = some (.cells zeroL 25 none) → Ref k v p it w 0 h → h.blk k7 = some (.cells [.int .i64 kd, .int .i64 (x.1 : Nat), .string x.2, sl] 25 none) → Kol E 25 base h.next h sl acc →
      Wc tab E I ⟨57, none⟩ (.loop loop57) A0 h (fun ex A' h' => ex = .exit 0 ∧ A'.n = 178 ∧ A'.defers = [] ∧ A'.get 4 = .pointer (some (own g.next)) ∧ A'.get 7 = .pointer (some (own k7)) ∧ Mod (fun j => j = k ∨ g.next ≤ j) g h' ∧ h'.blk g.next = some (.cells zeroL 25 none) ∧ St2 E k k7 g.next v (match rdKids (rdItem bs fu) r acc p it with | .bad p e => .bad p e | .ok ks p it => .ok (.mk kd (x.1 : Nat) x.2 ks) p it) w h') := by
    intro r
    induction r with
    | zero =>
      intro i n p it base acc sl kd x A0 h hr hin hn hacc hp hit hb1 hb2 n0 d0 q0 q1 q4 q7 q9 q10 M b4 b b7 K
      have e1 : decide ((i : Int) < (n : Int)) = false := by simp; omega
      obtain ⟨sb, hsl⟩ := K.slice
      apply Wc.loop
      simp only [loop57, loopOf, firstLoop, Option.getD, Tryd.f57]
      repeat' (first
    | (with_reducible apply Wc.seq)
    | (apply Wc.ops; (focus ((repeat' (first
      | with_reducible exact RO.nil
      | ((with_reducible apply RO.run (awant_none rfl)); (focus ((first | simp (config := {decide := true}) only [awant, ayield_get, oper1, aop, opv, opvs, opvo, opvp, abuiltin, aun, Gx, if_true, if_false, and_true, decide_true, decide_false, abin, isShift, aint, roV, pair, bind, Option.bind, acall, Sx, n0, q0, q9, q10, Qx, Hx, e1] | skip); with_reducible rfl)))
      | ((with_reducible apply RO.runG); (focus rfl); (focus rfl); (focus (simp (config := {decide := true}) only [Gx, if_true, if_false, and_true, Sx, decide_true, decide_false, n0, q0, q9, q10, Qx, Hx, e1]; done)); (focus ((first | simp (config := {decide := true}) only [awant, ayield_get, oper1, aop, opv, opvs, opvo, opvp, abuiltin, aun, Gx, if_true, if_false, and_true, decide_true, decide_false, abin, isShift, aint, roV, pair, bind, Option.bind, acall, Sx, n0, q0, q9, q10, Qx, Hx, e1] | skip); with_reducible rfl)))
      | ((with_reducible apply RO.skipG); (focus rfl); (focus rfl); (focus (simp (config := {decide := true}) only [Gx, if_true, if_false, and_true, Sx, decide_true, decide_false, n0, q0, q9, q10, Qx, Hx, e1]; done))))); done)))
    | (refine Wc.quiet (by kernel_rfl) (by repeat' (first
      | with_reducible exact QO.nil
      | ((with_reducible apply QO.cons rfl rfl); (focus ((first | simp (config := {decide := true}) only [awant, ayield_get, oper1, aop, opv, opvs, opvo, opvp, abuiltin, aun, Gx, if_true, if_false, and_true, decide_true, decide_false, abin, isShift, aint, roV, pair, bind, Option.bind, acall, Sx, n0, q0, q9, q10, Qx, Hx, e1] | skip); with_reducible rfl))))) ?_)
    | (refine Wc.cond2 (by simp (config := {decide := true}) only [opv, Gx, if_true, if_false, and_true, decide_true, decide_false, Sx, n0, q0, q9, q10, Qx, Hx, e1]; try with_reducible rfl) (fun hb => ?_) (fun hb => ?_) <;> try contradiction)
    | refine Wc.skip ?_
    | refine Wc.ret ?_
    | refine Wc.exit ?_
    | refine Wc.block ?_)
      refine ⟨rfl, by simp (config := {decide := true}) only [Gx, if_true, if_false, and_true, Sx, n0], by simp (config := {decide := true}) only [Gx, if_true, if_false, and_true, Sx, d0], by simp (config := {decide := true}) only [Gx, if_true, if_false, and_true, Sx, n0, q4], by simp (config := {decide := true}) only [Gx, if_true, if_false, and_true, Sx, n0, q7], M, b4, _, b7, rfl, by rw [hsl]; rfl, ?_⟩
      rw [rdKids]
      exact ⟨b, K.rep M.fit (by omega) _ _ _ hb1⟩
    | succ r ih =>
      intro i n p it base acc sl kd x A0 h hr hin hn hacc hp hit hb1 hb2 n0 d0 q0 q1 q4 q7 q9 q10 M b4 b b7 K
      have e1 : decide ((i : Int) < (n : Int)) = true := by simp; omega
      have fh := M.fit
      obtain ⟨_, _, _, _, f4⟩ := b.at (E := E) hv2
      have w1 : IntKind.i64.wrap (((250 - fu : Nat) : Int) + 1) = ((251 - fu : Nat) : Int) := by rw [wrap64 (by omega) (by omega)]; omega
      have w2 : IntKind.i64.wrap ((i : Int) + 1) = ((i + 1 : Nat) : Int) := by rw [wrap64 (by omega) (by omega)]; omega
      obtain ⟨sb, hsl⟩ := K.slice
      have lsl : h.cell E (aadd (own k7) 3) = some sl := by
        rw [cell_blk b7, hsl]; rfl
      obtain ⟨nf, v1, q, ck, l, rfl, hl4, hl1, mq, hq⟩ := RI (fresh h) p it w fh.fresh b hp hit
      obtain ⟨m2, sb2, nn2, lq2⟩ := Mod.back fh mq
      have hq2 : RItemQ E k v (rdItem bs fu p it) h.next l w (back h q) := by
        unfold RItemQ at hq ⊢
        split at hq
        · exact ⟨by unfold Ref; rw [sb2]; exact hq.1, rep_grow (back_only fh mq.fit mq.next _) hq.2⟩
        · obtain ⟨a, c, hh⟩ := hq
          exact ⟨a, c, by unfold Ref; rw [sb2]; exact hh⟩
      have K2 := K.mod fh m2 (fun j B hj hB => by
        subst hj
        rw [show h.blk j = _ from b] at hB; cases hB; rfl)
      have b42 := m2.blk _ _ (by omega) b4
      have b72 := m2.blk _ _ (by omega) b7
      have n2 := m2.next
      have M2 := M.trans (up m2)
      have lk : k < h.next := fh.lt b
      have lk7 : k7 < h.next := fh.lt b7
      generalize hh2 : back h q = h2 at m2 hq2 K2 b42 b72 n2 M2
      obtain ⟨la, lb, lc', ld, rfl⟩ := four_of hl4
      generalize hZ : (Blk.cells [la, lb, lc', ld] 25 none) = Z
      have hbs := qbs23 hl1 (h := fresh h2)
      rw [hZ] at hbs
      generalize hh3 : h2.new Z = h3
      have t3 : Ahd h2 h3 := by rw [← hh3, ← hZ]; exact Ahd.new0 M2.fit rfl
      have bz : h3.blk h2.next = some (.cells [la, lb, lc', ld] 25 none) := by rw [← hh3, ← hZ]; exact new_blk_new rfl
      have K3 := K2.mod M2.fit (t3.mod (M := fun _ => False)) (fun _ _ h => h.elim)
      have M3 := M2.ahd t3
      have n3 := t3.next
      have hrm : roomy (acc.length + 1) 56 = true := by
        unfold roomy
        simp only [Bool.and_eq_true, Nat.ble_eq]; omega
      have lz : (fresh h3).cells E (own h2.next) 4 = some [la, lb, lc', ld] := blk_cells (h := fresh h3) bz rfl hl1
      have code : ∀ (sl' : Value) (qh h4 : H), aappend tab E 23 23 sl (.slice (some (own h2.next)) 1 1) (fresh h3) = some (sl', qh) → qh.log = [] → back h3 qh = h4 → sl'.cells.toList = [sl'] → isOne sl' = true → h4.blk k7 = some (.cells [.int .i64 kd, .int .i64 (x.1 : Nat), .string x.2, sl] 25 none) → Fit h4 → k7 < h4.next →
          (∀ A0 : Ac, A0.n = 178 → A0.defers = [] → A0.get 0 = .pointer (some (own k)) → A0.get 1 = .int .i64 (250 - fu : Nat) → A0.get 4 = .pointer (some (own g.next)) → A0.get 7 = .pointer (some (own k7)) → A0.get 9 = .int .i64 (n : Nat) → A0.get 10 = .int .i64 (i + 1 : Nat) → Wc tab E I ⟨57, none⟩ (.loop loop57) A0 (h4.setl k7 (.cells [.int .i64 kd, .int .i64 (x.1 : Nat), .string x.2, sl'] 25 none)) (fun ex A' h' => ex = .exit 0 ∧ A'.n = 178 ∧ A'.defers = [] ∧ A'.get 4 = .pointer (some (own g.next)) ∧ A'.get 7 = .pointer (some (own k7)) ∧ Mod (fun j => j = k ∨ g.next ≤ j) g h' ∧ h'.blk g.next = some (.cells zeroL 25 none) ∧ St2 E k k7 g.next v (match rdKids (rdItem bs fu) (r + 1) acc p it with | .bad p e => .bad p e | .ok ks p it => .ok (.mk kd (x.1 : Nat) x.2 ks) p it) w h')) →
          Wc tab E I ⟨57, none⟩ (.loop loop57) A0 h (fun ex A' h' => ex = .exit 0 ∧ A'.n = 178 ∧ A'.defers = [] ∧ A'.get 4 = .pointer (some (own g.next)) ∧ A'.get 7 = .pointer (some (own k7)) ∧ Mod (fun j => j = k ∨ g.next ≤ j) g h' ∧ h'.blk g.next = some (.cells zeroL 25 none) ∧ St2 E k k7 g.next v (match rdKids (rdItem bs fu) (r + 1) acc p it with | .bad p e => .bad p e | .ok ks p it => .ok (.mk kd (x.1 : Nat) x.2 ks) p it) w h') := by
        intro sl' qh h4 happ hql hh4 hs1 hs2 b74 f4' lt4 cont
        have s9 : astore tab 23 (aadd (own k7) 3) sl' (fresh h4) = some ((fresh h4).setl k7 (.cells [.int .i64 kd, .int .i64 (x.1 : Nat), .string x.2, sl'] 25 none)) := astore_one (g := fresh h4) qty23 rfl b74 hs1 hs2 (by simp) rfl
        apply Wc.loop
        simp only [loop57, loopOf, firstLoop, Option.getD, Tryd.f57]
        repeat' (first
    | (with_reducible apply Wc.seq)
    | (apply Wc.ops; (focus ((repeat' (first
      | with_reducible exact RO.nil
      | ((with_reducible apply RO.run (awant_none rfl)); (focus ((first | simp (config := {decide := true}) only [awant, ayield_get, oper1, aop, opv, opvs, opvo, opvp, abuiltin, aun, Gx, if_true, if_false, and_true, decide_true, decide_false, abin, isShift, aint, roV, pair, bind, Option.bind, acall, Sx, n0, q0, q9, q10, Qx, Hx, e1, f4] | skip); with_reducible rfl)))
      | ((with_reducible apply RO.runG); (focus rfl); (focus rfl); (focus (simp (config := {decide := true}) only [Gx, if_true, if_false, and_true, Sx, decide_true, decide_false, n0, q0, q9, q10, Qx, Hx, e1, f4]; done)); (focus ((first | simp (config := {decide := true}) only [awant, ayield_get, oper1, aop, opv, opvs, opvo, opvp, abuiltin, aun, Gx, if_true, if_false, and_true, decide_true, decide_false, abin, isShift, aint, roV, pair, bind, Option.bind, acall, Sx, n0, q0, q9, q10, Qx, Hx, e1, f4] | skip); with_reducible rfl)))
      | ((with_reducible apply RO.skipG); (focus rfl); (focus rfl); (focus (simp (config := {decide := true}) only [Gx, if_true, if_false, and_true, Sx, decide_true, decide_false, n0, q0, q9, q10, Qx, Hx, e1, f4]; done))))); done)))
    | (refine Wc.quiet (by kernel_rfl) (by repeat' (first
      | with_reducible exact QO.nil
      | ((with_reducible apply QO.cons rfl rfl); (focus ((first | simp (config := {decide := true}) only [awant, ayield_get, oper1, aop, opv, opvs, opvo, opvp, abuiltin, aun, Gx, if_true, if_false, and_true, decide_true, decide_false, abin, isShift, aint, roV, pair, bind, Option.bind, acall, Sx, n0, q0, q9, q10, Qx, Hx, e1, f4] | skip); with_reducible rfl))))) ?_)
    | (refine Wc.cond2 (by simp (config := {decide := true}) only [opv, Gx, if_true, if_false, and_true, decide_true, decide_false, Sx, n0, q0, q9, q10, Qx, Hx, e1, f4]; try with_reducible rfl) (fun hb => ?_) (fun hb => ?_) <;> try contradiction)
    | refine Wc.skip ?_
    | refine Wc.ret ?_
    | refine Wc.exit ?_
    | refine Wc.block ?_)
        refine Wc.drawQ nf (by kernel_rfl) ?_
        (iterate 5 (first
      | ((apply FQ.pure rfl rfl); (focus ((first | simp (config := {decide := true}) only [awant, ayield_get, oper1, aop, opv, opvs, opvo, opvp, abuiltin, aun, Gx, if_true, if_false, and_true, decide_true, decide_false, abin, isShift, aint, roV, pair, bind, Option.bind, acall, Sx, n0, q0, q1, q7, Qx, Hx, lsl, w1] | skip); with_reducible rfl)))
      | ((apply FQ.new rfl rfl); (focus ((first | simp (config := {decide := true}) only [awant, ayield_get, oper1, aop, opv, opvs, opvo, opvp, abuiltin, aun, Gx, if_true, if_false, and_true, decide_true, decide_false, abin, isShift, aint, roV, pair, bind, Option.bind, acall, Sx, n0, q0, q1, q7, Qx, Hx, lsl, w1] | skip); with_reducible rfl)))))
        refine FQ.mod (h1 := q) (x := .agg ⟨[la, lb, lc', ld]⟩) rfl rfl (by simp (config := {decide := true}) only [awant, ayield_get, oper1, aop, opv, opvs, opvo, opvp, abuiltin, aun, Gx, if_true, if_false, and_true, decide_true, decide_false, abin, isShift, aint, roV, pair, bind, Option.bind, acall, Sx, n0, q0, ck]) ?_
        rw [hh2]
        refine FQ.new (x := .slice (some (own h2.next)) 1 1) (B := Z) rfl rfl (by simp (config := {decide := true}) only [awant, ayield_get, oper1, aop, opv, opvs, opvo, opvp, abuiltin, aun, Gx, if_true, if_false, and_true, decide_true, decide_false, abin, isShift, aint, roV, pair, bind, Option.bind, acall, Sx, n0, hbs, Hx]) ?_
        rw [hh3]
        refine FQ.call (h1 := qh) (x := sl') rfl rfl (by simp (config := {decide := true}) only [awant, ayield_get, oper1, aop, opv, opvs, opvo, opvp, abuiltin, aun, Gx, if_true, if_false, and_true, decide_true, decide_false, abin, isShift, aint, roV, pair, bind, Option.bind, acall, Sx, n0, happ]) hql ?_
        rw [hh4]
        (iterate 1 (first
      | ((apply FQ.pure rfl rfl); (focus ((first | simp (config := {decide := true}) only [awant, ayield_get, oper1, aop, opv, opvs, opvo, opvp, abuiltin, aun, Gx, if_true, if_false, and_true, decide_true, decide_false, abin, isShift, aint, roV, pair, bind, Option.bind, acall, Sx, n0, q7, Qx, Hx] | skip); with_reducible rfl)))
      | ((apply FQ.new rfl rfl); (focus ((first | simp (config := {decide := true}) only [awant, ayield_get, oper1, aop, opv, opvs, opvo, opvp, abuiltin, aun, Gx, if_true, if_false, and_true, decide_true, decide_false, abin, isShift, aint, roV, pair, bind, Option.bind, acall, Sx, n0, q7, Qx, Hx] | skip); with_reducible rfl)))))
        refine FQ.setl (k := k7) (B := .cells [.int .i64 kd, .int .i64 (x.1 : Nat), .string x.2, sl'] 25 none) (x := undef) rfl rfl lt4 (by simp (config := {decide := true}) only [awant, ayield_get, oper1, aop, opv, opvs, opvo, opvp, abuiltin, aun, Gx, if_true, if_false, and_true, decide_true, decide_false, abin, isShift, aint, roV, pair, bind, Option.bind, acall, Sx, n0, s9]) ?_
        refine FQ.nil ⟨?_, ?_⟩
        · refine allMeet_but [5, 9] 10 [(0, 5), (1, 5), (5, 8)] rfl rfl (by kernel_rfl) (fun ii jj ss tt hU e1 e2 => ?_)
          simp only [List.mem_cons, Prod.mk.injEq, List.not_mem_nil, or_false] at hU
          rcases hU with ⟨rfl, rfl⟩ | ⟨rfl, rfl⟩ | ⟨rfl, rfl⟩
          · cases e1; cases e2
            exact meets_right (l := []) rfl rfl (fun _ _ => List.not_mem_nil) rfl (fun j _ => Nat.lt_or_ge _ _)
          · cases e1; cases e2
            exact meets_right (l := [k7]) rfl (by simp (config := {decide := true}) only [awant, ayield_get, oper1, aop, opv, opvs, opvo, opvp, abuiltin, aun, Gx, if_true, if_false, and_true, decide_true, decide_false, abin, isShift, aint, roV, pair, bind, Option.bind, acall, Sx, reads, pureOp, atV, n0, q7, aadd, own]) (fun j hj => by
              have := (lq2 j hj).1
              simp only [List.mem_singleton]
              omega) rfl (fun j _ => Nat.lt_or_ge _ _)
          · cases e1; cases e2
            exact meets_left (l := []) rfl rfl (fun _ _ => List.not_mem_nil) rfl
        repeat' (first
    | (with_reducible apply Wc.seq)
    | (apply Wc.ops; (focus ((repeat' (first
      | with_reducible exact RO.nil
      | ((with_reducible apply RO.run (awant_none rfl)); (focus ((first | simp (config := {decide := true}) only [awant, ayield_get, oper1, aop, opv, opvs, opvo, opvp, abuiltin, aun, Gx, if_true, if_false, and_true, decide_true, decide_false, abin, isShift, aint, roV, pair, bind, Option.bind, acall, Sx, n0, q10, w2] | skip); with_reducible rfl))))); done)))
    | (refine Wc.cond2 (by simp (config := {decide := true}) only [opv, Gx, if_true, if_false, and_true, decide_true, decide_false, Sx, n0, q10, w2]; try with_reducible rfl) (fun hb => ?_) (fun hb => ?_) <;> try contradiction)
    | refine Wc.skip ?_
    | refine Wc.ret ?_
    | refine Wc.exit ?_
    | refine Wc.block ?_)
        refine cont _ ?_ ?_ ?_ ?_ ?_ ?_ ?_ ?_
        · simp (config := {decide := true}) only [Gx, if_true, if_false, and_true, Sx, n0]
        · simp (config := {decide := true}) only [Gx, if_true, if_false, and_true, Sx, d0]
        · simp (config := {decide := true}) only [Gx, if_true, if_false, and_true, Sx, n0, q0]
        · simp (config := {decide := true}) only [Gx, if_true, if_false, and_true, Sx, n0, q1]
        · simp (config := {decide := true}) only [Gx, if_true, if_false, and_true, Sx, n0, q4]
        · simp (config := {decide := true}) only [Gx, if_true, if_false, and_true, Sx, n0, q7]
        · simp (config := {decide := true}) only [Gx, if_true, if_false, and_true, Sx, n0, q9]
        · simp (config := {decide := true}) only [Gx, if_true, if_false, and_true, Sx, n0]
      rw [rdKids] at code ⊢
      generalize hri : rdItem bs fu p it = ri at hq2 code
      cases ri with
      | bad p' e =>
        obtain ⟨pos', it', bb⟩ := hq2
        have he : e ≠ 0 := by rcases (rok.2 _ _ _ _ hri hp).1 with rfl | rfl | rfl | rfl <;> decide
        obtain ⟨sl', qh, happ, RM, AP, qn, hsl', _⟩ := kol_room (D := tab) (E := E) (t := 23) (t2 := 23) (by_ := 56) (kx := h2.next) (c := 1) (lo := h3.next) t3.fit.fresh (show base ≤ (fresh h3).next by show base ≤ h3.next; omega) K3.fresh (by omega) qty23 qtz25 rfl (qza23 _ _ _) lz rfl hl1 hrm
        have AB := AP.back t3.fit
        have M4 := AB.mod f hb1 M3
        have b74 := AB.keep (t3.grows _ _ b72)
        have b44 := AB.keep (t3.grows _ _ b42)
        have bb4 := AB.keep (t3.grows _ _ bb)
        have lt4 := M4.fit.lt b74
        have m5 := (Mod.refl (M := fun j => j = k7) M4.fit).setl (B := .cells [.int .i64 kd, .int .i64 (x.1 : Nat), .string x.2, sl'] 25 none) rfl rfl lt4
        refine code sl' qh _ happ AP.log rfl (by rw [hsl']; rfl) (by rw [hsl']; rfl) b74 M4.fit lt4 (fun A0 n0 d0 q0 q1 q4 q7 q9 q10 => ?_)
        have bb5 : Ref k v pos' it' p' e _ := m5.blk _ _ (by omega) bb4
        refine (stop (i + 1) n A0 _ pos' it' p' e he n0 d0 q0 q1 q4 q7 q9 q10 bb5).mono ?_
        rintro ex A' h' ⟨rfl, a1, a2, a3, a4, rfl⟩
        exact ⟨rfl, a1, a2, a3, a4, M4.trans (m5.sub fun j hj => .inr (by omega)), m5.blk _ _ (by omega) b44, _, setl_same rfl, rfl, by rw [hsl']; rfl, pos', it', bb5⟩
      | ok t p' it' =>
        obtain ⟨bb, hrt⟩ := hq2
        obtain ⟨o1, o2, o3, o4, o5, o6⟩ := rok.1 _ _ _ _ _ hri
        have R3 := rep_grow (only_ahd (q := fun r => Nat.ble h.next r) M2.fit t3 (fun _ h => h)) hrt
        obtain ⟨sl', qh, happ, K4, AP, qn⟩ := kol_step (D := tab) (E := E) (t := 23) (t2 := 23) (by_ := 56) (kx := h2.next) (c := 1) (lo := h.next) t3.fit.fresh (show base ≤ (fresh h3).next by show base ≤ h3.next; omega) K3.fresh (Nat.le_refl _) hb2 qty23 qtz25 rfl (qza23 _ _ _) (rep_fresh R3) lz hl1 hrm
        have AB := AP.back t3.fit
        have K5 := K4.back t3.fit AP.fit AP.next
        have M4 := AB.mod f hb1 M3
        have b74 := AB.keep (t3.grows _ _ b72)
        have b44 := AB.keep (t3.grows _ _ b42)
        have bb4 := AB.keep (t3.grows _ _ bb)
        have lt4 := M4.fit.lt b74
        have n4 : (back h3 qh).next = h3.next + 1 := by rw [back_next, qn]; rfl
        have m5 := (Mod.refl (M := fun j => j = k7) M4.fit).setl (B := .cells [.int .i64 kd, .int .i64 (x.1 : Nat), .string x.2, sl'] 25 none) rfl rfl lt4
        obtain ⟨sb', hsl'⟩ := K4.slice
        have K6 := (K5.mod M4.fit m5 (fun j B hj hB => by
          subst hj
          rw [b74] at hB; cases hB; rfl)).up (top' := ((back h3 qh).setl k7 (.cells [.int .i64 kd, .int .i64 (x.1 : Nat), .string x.2, sl'] 25 none)).next) (by rw [setl_next, back_next]; exact Nat.le_refl _)
        refine code sl' qh _ happ AP.log rfl (by rw [hsl']; rfl) (by rw [hsl']; rfl) b74 M4.fit lt4 (fun A0 n0 d0 q0 q1 q4 q7 q9 q10 => ?_)
        exact ih (i + 1) n p' it' base (acc ++ [t]) sl' kd x A0 _ (by omega) (by omega) hn (by rw [List.length_append, hacc]; rfl) o2 o4 hb1 (by rw [setl_next]; omega) n0 d0 q0 q1 q4 q7 q9 q10 (M4.trans (m5.sub fun j hj => .inr (by omega))) (m5.blk _ _ (by omega) b44) (m5.blk _ _ (by omega) bb4) (setl_same rfl) K6
  -- its number
  obtain ⟨h5, s5, b5', m5⟩ := b5.set t4.fit qty3 rfl 1 (pos + 1 : Nat) (by decide) rfl (pos' := pos + 1) (items' := items + 1) (w' := w) (e' := 0)
  have w2 : IntKind.i64.wrap ((pos : Int) + 1) = ((pos + 1 : Nat) : Int) := by rw [wrap64 (by omega) (by omega)]; omega
  have b45 := m5.blk _ _ (by omega) b44
  have b75 := m5.blk _ _ (by omega) b7
  obtain ⟨n6, x6, h6, c6, m6, hq6⟩ := rnum91 (E := E) (I := I) hI91 hB m5.fit b5' (by omega) hl 1099511627776 (Nat.le_refl _) (items + 1)
  have c6' : (ev tab E I n6).call 91 [.pointer (some (own k)), .int .i64 1099511627776] h5 = some (x6, h6) := c6
  obtain ⟨nm, rfl⟩ : ∃ m : Nat, x6 = .int .i64 (m : Nat) := by
    unfold NumR at hq6
    split at hq6
    · exact ⟨_, hq6.1⟩
    · obtain ⟨m, _, h, _⟩ := hq6
      exact ⟨m, h⟩
  have b46 := m6.blk _ _ (by omega) b45
  have b76 := m6.blk _ _ (by omega) b75
  have s6 : astore tab 3 (aadd (own k7) 1) (.int .i64 (nm : Nat)) h6 = some (h6.setl k7 (.cells [.int .i64 (hd.toNat % 64 : Nat), .int .i64 (nm : Nat), .string ⟨#[]⟩, .slice none 0 0] 25 none)) := astore_one qty3 rfl b76 rfl rfl (by simp) rfl
  have m7 := (Mod.refl (M := fun j => j = k7) m6.fit).setl (B := .cells [.int .i64 (hd.toNat % 64 : Nat), .int .i64 (nm : Nat), .string ⟨#[]⟩, .slice none 0 0] 25 none) rfl rfl (m6.fit.lt b76)
  have b77 := setl_same (h := h6) (k := k7) (B := .cells [.int .i64 (hd.toNat % 64 : Nat), .int .i64 (nm : Nat), .string ⟨#[]⟩, .slice none 0 0] 25 none) rfl
  have b47 := m7.blk _ _ (by omega) b46
  have M7 : Mod (fun j => j = k ∨ g.next ≤ j) g _ := ((M4.trans (up m5)).trans (up m6)).trans (m7.sub fun j hj => .inr (by omega))
  have kb : ∀ {pos' it : Nat} {w' e : Int}, Ref k v pos' it w' e h6 → Ref k v pos' it w' e (h6.setl k7 (.cells [.int .i64 (hd.toNat % 64 : Nat), .int .i64 (nm : Nat), .string ⟨#[]⟩, .slice none 0 0] 25 none)) := fun b => b.mod m7 (by omega)
  generalize h6.setl k7 (.cells [.int .i64 (hd.toNat % 64 : Nat), .int .i64 (nm : Nat), .string ⟨#[]⟩, .slice none 0 0] 25 none) = h7 at s6 m7 b77 b47 M7 kb
  obtain ⟨_, d1, _, _, _⟩ := b5.at (E := E) hv2
  repeat' (first
    | (with_reducible apply Wc.seq)
    | (apply Wc.opsN n6; (focus ((repeat' (first
      | with_reducible exact RO.nil
      | ((with_reducible apply RO.run (awant_none rfl)); (focus ((first | simp (config := {decide := true}) only [awant, ayield_get, oper1, aop, opv, opvs, opvo, opvp, abuiltin, aun, Gx, if_true, if_false, and_true, decide_true, decide_false, abin, isShift, aint, roV, pair, bind, Option.bind, acall, Sx, n0, q0, q1, Qx, Hx, kd0, e5, d1, w2, s5, c6', s6] | skip); with_reducible rfl))))); done)))
    | (refine Wc.cond2 (by simp (config := {decide := true}) only [opv, Gx, if_true, if_false, and_true, decide_true, decide_false, Sx, n0, q0, q1, Qx, Hx, kd0, e5, d1, w2, s5, c6', s6]; try with_reducible rfl) (fun hb => ?_) (fun hb => ?_) <;> try contradiction)
    | refine Wc.skip ?_
    | refine Wc.ret ?_
    | refine Wc.exit ?_
    | refine Wc.block ?_)
  refine Wc.forget (fun A => A.n = 178 ∧ A.defers = [] ∧ A.get 0 = .pointer (some (own k)) ∧ A.get 1 = .int .i64 (250 - fu : Nat) ∧ A.get 4 = .pointer (some (own g.next)) ∧ A.get 6 = .int .i64 (hd.toNat : Nat) ∧ A.get 7 = .pointer (some (own k7))) ⟨by simp (config := {decide := true}) only [Gx, if_true, if_false, and_true, Sx, n0], by simp (config := {decide := true}) only [Gx, if_true, if_false, and_true, Sx, d0], by first | (simp (config := {decide := true}) only [Gx, if_true, if_false, and_true, Sx, n0, q0, q1]; done) | (simp (config := {decide := true}) only [Gx, if_true, if_false, and_true, Sx, n0, q0, q1]; rfl), by first | (simp (config := {decide := true}) only [Gx, if_true, if_false, and_true, Sx, n0, q0, q1]; done) | (simp (config := {decide := true}) only [Gx, if_true, if_false, and_true, Sx, n0, q0, q1]; rfl), by first | (simp (config := {decide := true}) only [Gx, if_true, if_false, and_true, Sx, n0, q0, q1]; done) | (simp (config := {decide := true}) only [Gx, if_true, if_false, and_true, Sx, n0, q0, q1]; rfl), by first | (simp (config := {decide := true}) only [Gx, if_true, if_false, and_true, Sx, n0, q0, q1]; done) | (simp (config := {decide := true}) only [Gx, if_true, if_false, and_true, Sx, n0, q0, q1]; rfl), by first | (simp (config := {decide := true}) only [Gx, if_true, if_false, and_true, Sx, n0, q0, q1]; done) | (simp (config := {decide := true}) only [Gx, if_true, if_false, and_true, Sx, n0, q0, q1]; rfl)⟩ ?_
  rintro A0 ⟨n0, d0, q0, q1, q4, q6, q7⟩
  have td : ((hd.toNat : Nat) : Int).tdiv 64 = ((hd.toNat / 64 : Nat) : Int) := tdivN hd.toNat 64
  have tm2 : ((hd.toNat / 64 : Nat) : Int).tmod 2 = ((hd.toNat / 64 % 2 : Nat) : Int) := tmodN (hd.toNat / 64) 2
  have e6 : decide (((hd.toNat / 64 % 2 : Nat) : Int) = 1) = decide (hd.toNat / 64 % 2 = 1) := by
    by_cases h : hd.toNat / 64 % 2 = 1
    · rw [h]; rfl
    · rw [decide_eq_false h, decide_eq_false (by omega)]
  generalize hr0 : rdN bs 0 1099511627776 (pos + 1) (items + 1) = r0 at hq6 eR
  refine Wc.mono (Q := fun ex A h => ex = .normal ∧ A.n = 178 ∧ A.defers = [] ∧ A.get 0 = .pointer (some (own k)) ∧ A.get 1 = .int .i64 (250 - fu : Nat) ∧ A.get 4 = .pointer (some (own g.next)) ∧ A.get 6 = .int .i64 (hd.toNat : Nat) ∧ A.get 7 = .pointer (some (own k7)) ∧ A.get 86 = .bool (onT r0 (decide (hd.toNat / 64 % 2 = 1))) ∧ h = h7) ?_ ?_
  · cases r0 with
    | bad p e =>
      obtain ⟨m, pos', hm, b6⟩ := hq6
      obtain ⟨_, _, _, _, f4⟩ := (kb b6).at (E := E) hv2
      have he := (rdN_bad hr0 (by omega)).1
      have e7 : decide (e = 0) = false := by rcases he with rfl | rfl <;> decide
      (repeat' (with_reducible apply Wc.seq)); (apply Wc.opsN 1; (focus ((repeat' (first
      | with_reducible exact RO.nil
      | ((with_reducible apply RO.run (awant_none rfl)); (focus ((first | simp (config := {decide := true}) only [awant, ayield_get, oper1, aop, opv, opvs, opvo, opvp, abuiltin, aun, Gx, if_true, if_false, and_true, decide_true, decide_false, abin, isShift, aint, roV, pair, bind, Option.bind, acall, Sx, n0, q0, q6, Qx, Hx, f4, e7] | skip); with_reducible rfl)))
      | ((with_reducible apply RO.runG); (focus rfl); (focus rfl); (focus (simp (config := {decide := true}) only [Gx, if_true, if_false, and_true, Sx, decide_true, decide_false, n0, q0, q6, Qx, Hx, f4, e7]; done)); (focus ((first | simp (config := {decide := true}) only [awant, ayield_get, oper1, aop, opv, opvs, opvo, opvp, abuiltin, aun, Gx, if_true, if_false, and_true, decide_true, decide_false, abin, isShift, aint, roV, pair, bind, Option.bind, acall, Sx, n0, q0, q6, Qx, Hx, f4, e7] | skip); with_reducible rfl)))
      | ((with_reducible apply RO.skipG); (focus rfl); (focus rfl); (focus (simp (config := {decide := true}) only [Gx, if_true, if_false, and_true, Sx, decide_true, decide_false, n0, q0, q6, Qx, Hx, f4, e7]; done))))); done)))
      exact ⟨rfl, by simp (config := {decide := true}) only [Gx, if_true, if_false, and_true, Sx, n0], by simp (config := {decide := true}) only [Gx, if_true, if_false, and_true, Sx, d0], by simp (config := {decide := true}) only [Gx, if_true, if_false, and_true, Sx, n0, q0], by simp (config := {decide := true}) only [Gx, if_true, if_false, and_true, Sx, n0, q1], by simp (config := {decide := true}) only [Gx, if_true, if_false, and_true, Sx, n0, q4], by simp (config := {decide := true}) only [Gx, if_true, if_false, and_true, Sx, n0, q6], by simp (config := {decide := true}) only [Gx, if_true, if_false, and_true, Sx, n0, q7], by simp (config := {decide := true}) only [Gx, if_true, if_false, and_true, Sx, n0, onT], rfl⟩
    | ok m p it =>
      obtain ⟨hm, b6⟩ := hq6
      obtain ⟨_, _, _, _, f4⟩ := (kb b6).at (E := E) hv2
      have wq : IntKind.i64.wrap ((hd.toNat / 64 : Nat) : Int) = ((hd.toNat / 64 : Nat) : Int) := wrapN (by omega)
      (repeat' (with_reducible apply Wc.seq)); (apply Wc.opsN 1; (focus ((repeat' (first
      | with_reducible exact RO.nil
      | ((with_reducible apply RO.run (awant_none rfl)); (focus ((first | simp (config := {decide := true}) only [awant, ayield_get, oper1, aop, opv, opvs, opvo, opvp, abuiltin, aun, Gx, if_true, if_false, and_true, decide_true, decide_false, abin, isShift, aint, roV, pair, bind, Option.bind, acall, Sx, n0, q0, q6, Qx, Hx, f4, td, wq, tm2, e6] | skip); with_reducible rfl)))
      | ((with_reducible apply RO.runG); (focus rfl); (focus rfl); (focus (simp (config := {decide := true}) only [Gx, if_true, if_false, and_true, Sx, decide_true, decide_false, n0, q0, q6, Qx, Hx, f4, td, wq, tm2, e6]; done)); (focus ((first | simp (config := {decide := true}) only [awant, ayield_get, oper1, aop, opv, opvs, opvo, opvp, abuiltin, aun, Gx, if_true, if_false, and_true, decide_true, decide_false, abin, isShift, aint, roV, pair, bind, Option.bind, acall, Sx, n0, q0, q6, Qx, Hx, f4, td, wq, tm2, e6] | skip); with_reducible rfl)))
      | ((with_reducible apply RO.skipG); (focus rfl); (focus rfl); (focus (simp (config := {decide := true}) only [Gx, if_true, if_false, and_true, Sx, decide_true, decide_false, n0, q0, q6, Qx, Hx, f4, td, wq, tm2, e6]; done))))); done)))
      exact ⟨rfl, by simp (config := {decide := true}) only [Gx, if_true, if_false, and_true, Sx, n0], by simp (config := {decide := true}) only [Gx, if_true, if_false, and_true, Sx, d0], by simp (config := {decide := true}) only [Gx, if_true, if_false, and_true, Sx, n0, q0], by simp (config := {decide := true}) only [Gx, if_true, if_false, and_true, Sx, n0, q1], by simp (config := {decide := true}) only [Gx, if_true, if_false, and_true, Sx, n0, q4], by simp (config := {decide := true}) only [Gx, if_true, if_false, and_true, Sx, n0, q6], by simp (config := {decide := true}) only [Gx, if_true, if_false, and_true, Sx, n0, q7], by simp (config := {decide := true}) only [Gx, if_true, if_false, and_true, Sx, n0, onT], rfl⟩
  rintro ex A0 h ⟨rfl, n0, d0, q0, q1, q4, q6, q7, q86, rfl⟩
  simp only []
  -- its text
  repeat' (with_reducible apply Wc.seq)
  refine Wc.mono (Q := fun ex A h => ex = .normal ∧ A.n = 178 ∧ A.defers = [] ∧ A.get 0 = .pointer (some (own k)) ∧ A.get 1 = .int .i64 (250 - fu : Nat) ∧ A.get 4 = .pointer (some (own g.next)) ∧ A.get 6 = .int .i64 (hd.toNat : Nat) ∧ A.get 7 = .pointer (some (own k7)) ∧ Mod (fun j => j = k ∨ g.next ≤ j) g h ∧ h.blk g.next = some (.cells zeroL 25 none) ∧ ∃ r1, R = Rest bs fu hd.toNat r1 ∧ St1 k k7 v (hd.toNat % 64 : Nat) r1 w h ∧ ∀ x p it, r1 = .ok x p it → p ≤ bs.length ∧ it ≤ 5000) ?_ ?_
  · cases r0 with
    | bad p e =>
      obtain ⟨m, pos', hm, b6⟩ := hq6
      have he := (rdN_bad hr0 (by omega)).1
      repeat' (first
    | (with_reducible apply Wc.seq)
    | (apply Wc.ops; (focus ((repeat' (first
      | with_reducible exact RO.nil
      | ((with_reducible apply RO.run (awant_none rfl)); (focus ((first | simp (config := {decide := true}) only [awant, ayield_get, oper1, aop, opv, opvs, opvo, opvp, abuiltin, aun, Gx, if_true, if_false, and_true, decide_true, decide_false, abin, isShift, aint, roV, pair, bind, Option.bind, acall, Sx, n0, q86, onT] | skip); with_reducible rfl))))); done)))
    | (refine Wc.cond2 (by simp (config := {decide := true}) only [opv, Gx, if_true, if_false, and_true, decide_true, decide_false, Sx, n0, q86, onT]; try with_reducible rfl) (fun hb => ?_) (fun hb => ?_) <;> try contradiction)
    | refine Wc.skip ?_
    | refine Wc.ret ?_
    | refine Wc.exit ?_
    | refine Wc.block ?_)
      exact ⟨rfl, by simp (config := {decide := true}) only [Gx, if_true, if_false, and_true, Sx, n0], by simp (config := {decide := true}) only [Gx, if_true, if_false, and_true, Sx, d0], by simp (config := {decide := true}) only [Gx, if_true, if_false, and_true, Sx, n0, q0], by simp (config := {decide := true}) only [Gx, if_true, if_false, and_true, Sx, n0, q1], by simp (config := {decide := true}) only [Gx, if_true, if_false, and_true, Sx, n0, q4], by simp (config := {decide := true}) only [Gx, if_true, if_false, and_true, Sx, n0, q6], by simp (config := {decide := true}) only [Gx, if_true, if_false, and_true, Sx, n0, q7], M7, b47, .bad p e, eR, ⟨pos', items + 1, _, kb b6, by rcases he with rfl | rfl <;> decide, b77, rfl, rfl⟩, fun _ _ _ h => by cases h⟩
    | ok m p it =>
      obtain ⟨hm, b6⟩ := hq6
      obtain ⟨_, hp1, _, _, rfl⟩ := rdN_ok hr0
      simp only [Value.int.injEq, true_and] at hm
      obtain rfl : nm = m := by omega
      have b6 := kb b6
      by_cases ho : hd.toNat / 64 % 2 = 1
      rotate_left
      · simp only [if_neg ho] at eR
        have e8 : decide (hd.toNat / 64 % 2 = 1) = false := decide_eq_false ho
        repeat' (first
    | (with_reducible apply Wc.seq)
    | (apply Wc.ops; (focus ((repeat' (first
      | with_reducible exact RO.nil
      | ((with_reducible apply RO.run (awant_none rfl)); (focus ((first | simp (config := {decide := true}) only [awant, ayield_get, oper1, aop, opv, opvs, opvo, opvp, abuiltin, aun, Gx, if_true, if_false, and_true, decide_true, decide_false, abin, isShift, aint, roV, pair, bind, Option.bind, acall, Sx, n0, q86, onT, e8] | skip); with_reducible rfl))))); done)))
    | (refine Wc.cond2 (by simp (config := {decide := true}) only [opv, Gx, if_true, if_false, and_true, decide_true, decide_false, Sx, n0, q86, onT, e8]; try with_reducible rfl) (fun hb => ?_) (fun hb => ?_) <;> try contradiction)
    | refine Wc.skip ?_
    | refine Wc.ret ?_
    | refine Wc.exit ?_
    | refine Wc.block ?_)
        exact ⟨rfl, by simp (config := {decide := true}) only [Gx, if_true, if_false, and_true, Sx, n0], by simp (config := {decide := true}) only [Gx, if_true, if_false, and_true, Sx, d0], by simp (config := {decide := true}) only [Gx, if_true, if_false, and_true, Sx, n0, q0], by simp (config := {decide := true}) only [Gx, if_true, if_false, and_true, Sx, n0, q1], by simp (config := {decide := true}) only [Gx, if_true, if_false, and_true, Sx, n0, q4], by simp (config := {decide := true}) only [Gx, if_true, if_false, and_true, Sx, n0, q6], by simp (config := {decide := true}) only [Gx, if_true, if_false, and_true, Sx, n0, q7], M7, b47, .ok (nm, ⟨⟨[]⟩⟩) p (items + 1), eR, ⟨b6, b77⟩, fun _ _ _ h => by cases h; exact ⟨hp1, by omega⟩⟩
      simp only [if_pos ho] at eR
      have e8 : decide (hd.toNat / 64 % 2 = 1) = true := decide_eq_true ho
      obtain ⟨n8, x8, h8, c8, m8, hq8⟩ := rsome92 (E := E) (I := I) hI92 hB M7.fit b6 hp1 hl 4096 (by decide) (items + 1)
      have c8' : (ev tab E I n8).call 92 [.pointer (some (own k)), .int .i64 4096] h = some (x8, h8) := c8
      have b48 := m8.blk _ _ (by omega) b47
      have b78 := m8.blk _ _ (by omega) b77
      have M8 := M7.trans (up m8)
      have eT : rdText bs p (items + 1) = match rdN bs 1 4096 p (items + 1) with | .bad p e => .bad p e | .ok n p items => if bs.length - p < n then .bad bs.length 4 else .ok ⟨⟨(bs.drop p).take n⟩⟩ (p + n) items := rfl
      rw [eT] at eR
      generalize hr2 : rdN bs 1 4096 p (items + 1) = r2 at hq8 eR
      cases r2 with
      | bad p2 e =>
        obtain ⟨m2', pos2, rfl, b8⟩ := hq8
        have he := (rdN_bad hr2 hp1).1
        have e9 : decide (e = 0) = false := by rcases he with rfl | rfl <;> decide
        obtain ⟨_, _, _, _, f4⟩ := b8.at (E := E) hv2
        repeat' (first
    | (with_reducible apply Wc.seq)
    | (apply Wc.opsN n8; (focus ((repeat' (first
      | with_reducible exact RO.nil
      | ((with_reducible apply RO.run (awant_none rfl)); (focus ((first | simp (config := {decide := true}) only [awant, ayield_get, oper1, aop, opv, opvs, opvo, opvp, abuiltin, aun, Gx, if_true, if_false, and_true, decide_true, decide_false, abin, isShift, aint, roV, pair, bind, Option.bind, acall, Sx, n0, q0, q86, onT, e8, c8'] | skip); with_reducible rfl))))); done)))
    | (refine Wc.cond2 (by simp (config := {decide := true}) only [opv, Gx, if_true, if_false, and_true, decide_true, decide_false, Sx, n0, q0, q86, onT, e8, c8']; try with_reducible rfl) (fun hb => ?_) (fun hb => ?_) <;> try contradiction)
    | refine Wc.skip ?_
    | refine Wc.ret ?_
    | refine Wc.exit ?_
    | refine Wc.block ?_)
        refine Wc.drawC 1 (by kernel_rfl) ?_
        (iterate 19 (first
      | ((apply FC.pure rfl rfl); (focus ((first | simp (config := {decide := true}) only [awant, ayield_get, oper1, aop, opv, opvs, opvo, opvp, abuiltin, aun, Gx, if_true, if_false, and_true, decide_true, decide_false, abin, isShift, aint, roV, pair, bind, Option.bind, acall, Sx, n0, q0, Qx, Hx, f4, e9] | skip); with_reducible rfl)))
      | ((apply FC.pureG rfl rfl); (focus (simp (config := {decide := true}) only [Gx, if_true, if_false, and_true, Sx, decide_true, decide_false, n0, q0, Qx, Hx, f4, e9]; done)); (focus rfl); (focus ((first | simp (config := {decide := true}) only [awant, ayield_get, oper1, aop, opv, opvs, opvo, opvp, abuiltin, aun, Gx, if_true, if_false, and_true, decide_true, decide_false, abin, isShift, aint, roV, pair, bind, Option.bind, acall, Sx, n0, q0, Qx, Hx, f4, e9] | skip); with_reducible rfl)))
      | ((apply FC.skipG rfl rfl); (focus (simp (config := {decide := true}) only [Gx, if_true, if_false, and_true, Sx, decide_true, decide_false, n0, q0, Qx, Hx, f4, e9]; done)))
      | ((apply FC.new rfl rfl); (focus ((first | simp (config := {decide := true}) only [awant, ayield_get, oper1, aop, opv, opvs, opvo, opvp, abuiltin, aun, Gx, if_true, if_false, and_true, decide_true, decide_false, abin, isShift, aint, roV, pair, bind, Option.bind, acall, Sx, n0, q0, Qx, Hx, f4, e9] | skip); with_reducible rfl)))))
        refine FC.nil ?_
        repeat' (first
    | (with_reducible apply Wc.seq)
    | (apply Wc.ops; (focus ((repeat' (first
      | with_reducible exact RO.nil
      | ((with_reducible apply RO.run (awant_none rfl)); (focus ((first | simp (config := {decide := true}) only [awant, ayield_get, oper1, aop, opv, opvs, opvo, opvp, abuiltin, aun, Gx, if_true, if_false, and_true, decide_true, decide_false, abin, isShift, aint, roV, pair, bind, Option.bind, acall, Sx, n0, q0, Qx, Hx, f4, e9] | skip); with_reducible rfl))))); done)))
    | (refine Wc.cond2 (by simp (config := {decide := true}) only [opv, Gx, if_true, if_false, and_true, decide_true, decide_false, Sx, n0, q0, Qx, Hx, f4, e9]; try with_reducible rfl) (fun hb => ?_) (fun hb => ?_) <;> try contradiction)
    | refine Wc.skip ?_
    | refine Wc.ret ?_
    | refine Wc.exit ?_
    | refine Wc.block ?_)
        exact ⟨rfl, by simp (config := {decide := true}) only [Gx, if_true, if_false, and_true, Sx, n0], by simp (config := {decide := true}) only [Gx, if_true, if_false, and_true, Sx, d0], by simp (config := {decide := true}) only [Gx, if_true, if_false, and_true, Sx, n0, q0], by simp (config := {decide := true}) only [Gx, if_true, if_false, and_true, Sx, n0, q1], by simp (config := {decide := true}) only [Gx, if_true, if_false, and_true, Sx, n0, q4], by simp (config := {decide := true}) only [Gx, if_true, if_false, and_true, Sx, n0, q6], by simp (config := {decide := true}) only [Gx, if_true, if_false, and_true, Sx, n0, q7], M8, b48, .bad p2 e, eR, ⟨pos2, items + 1, _, b8, by rcases he with rfl | rfl <;> decide, b78, rfl, rfl⟩, fun _ _ _ h => by cases h⟩
      | ok n p2 it2 =>
        obtain ⟨rfl, b8⟩ := hq8
        obtain ⟨_, hp2, hn4, hn1, rfl⟩ := rdN_ok hr2
        obtain ⟨f0, f1, _, _, f4⟩ := b8.at (E := E) hv2
        have w3 : IntKind.i64.wrap ((bs.length : Int) - (p2 : Int)) = ((bs.length - p2 : Nat) : Int) := by rw [wrap64 (by omega) (by omega)]; omega
        by_cases hsh : bs.length - p2 < n
        · simp only [if_pos hsh] at eR
          have e9 : decide ((n : Int) > ((bs.length - p2 : Nat) : Int)) = true := by simp; omega
          obtain ⟨n9, h9, c9, m9, b9⟩ := rfail52 (E := E) (I := I) hI52 m8.fit b8 4 bs.length
          obtain ⟨_, _, _, _, f4'⟩ := b9.at (E := E) hv2
          repeat' (first
    | (with_reducible apply Wc.seq)
    | (apply Wc.opsN n8; (focus ((repeat' (first
      | with_reducible exact RO.nil
      | ((with_reducible apply RO.run (awant_none rfl)); (focus ((first | simp (config := {decide := true}) only [awant, ayield_get, oper1, aop, opv, opvs, opvo, opvp, abuiltin, aun, Gx, if_true, if_false, and_true, decide_true, decide_false, abin, isShift, aint, roV, pair, bind, Option.bind, acall, Sx, n0, q0, q86, onT, e8, c8'] | skip); with_reducible rfl))))); done)))
    | (refine Wc.cond2 (by simp (config := {decide := true}) only [opv, Gx, if_true, if_false, and_true, decide_true, decide_false, Sx, n0, q0, q86, onT, e8, c8']; try with_reducible rfl) (fun hb => ?_) (fun hb => ?_) <;> try contradiction)
    | refine Wc.skip ?_
    | refine Wc.ret ?_
    | refine Wc.exit ?_
    | refine Wc.block ?_)
          refine Wc.drawC 1 (by kernel_rfl) ?_
          (iterate 19 (first
      | ((apply FC.pure rfl rfl); (focus ((first | simp (config := {decide := true}) only [awant, ayield_get, oper1, aop, opv, opvs, opvo, opvp, abuiltin, aun, Gx, if_true, if_false, and_true, decide_true, decide_false, abin, isShift, aint, roV, pair, bind, Option.bind, acall, Sx, n0, q0, Qx, Hx, f0, f1, f4, ln, w3, e9] | skip); with_reducible rfl)))
      | ((apply FC.pureG rfl rfl); (focus (simp (config := {decide := true}) only [Gx, if_true, if_false, and_true, Sx, decide_true, decide_false, n0, q0, Qx, Hx, f0, f1, f4, ln, w3, e9]; done)); (focus rfl); (focus ((first | simp (config := {decide := true}) only [awant, ayield_get, oper1, aop, opv, opvs, opvo, opvp, abuiltin, aun, Gx, if_true, if_false, and_true, decide_true, decide_false, abin, isShift, aint, roV, pair, bind, Option.bind, acall, Sx, n0, q0, Qx, Hx, f0, f1, f4, ln, w3, e9] | skip); with_reducible rfl)))
      | ((apply FC.skipG rfl rfl); (focus (simp (config := {decide := true}) only [Gx, if_true, if_false, and_true, Sx, decide_true, decide_false, n0, q0, Qx, Hx, f0, f1, f4, ln, w3, e9]; done)))
      | ((apply FC.new rfl rfl); (focus ((first | simp (config := {decide := true}) only [awant, ayield_get, oper1, aop, opv, opvs, opvo, opvp, abuiltin, aun, Gx, if_true, if_false, and_true, decide_true, decide_false, abin, isShift, aint, roV, pair, bind, Option.bind, acall, Sx, n0, q0, Qx, Hx, f0, f1, f4, ln, w3, e9] | skip); with_reducible rfl)))))
          refine FC.nil ?_
          repeat' (first
    | (with_reducible apply Wc.seq)
    | (apply Wc.opsN n9; (focus ((repeat' (first
      | with_reducible exact RO.nil
      | ((with_reducible apply RO.run (awant_none rfl)); (focus ((first | simp (config := {decide := true}) only [awant, ayield_get, oper1, aop, opv, opvs, opvo, opvp, abuiltin, aun, Gx, if_true, if_false, and_true, decide_true, decide_false, abin, isShift, aint, roV, pair, bind, Option.bind, acall, Sx, n0, q0, Qx, Hx, f0, ln, c9, f4'] | skip); with_reducible rfl))))); done)))
    | (refine Wc.cond2 (by simp (config := {decide := true}) only [opv, Gx, if_true, if_false, and_true, decide_true, decide_false, Sx, n0, q0, Qx, Hx, f0, ln, c9, f4']; try with_reducible rfl) (fun hb => ?_) (fun hb => ?_) <;> try contradiction)
    | refine Wc.skip ?_
    | refine Wc.ret ?_
    | refine Wc.exit ?_
    | refine Wc.block ?_)
          exact ⟨rfl, by simp (config := {decide := true}) only [Gx, if_true, if_false, and_true, Sx, n0], by simp (config := {decide := true}) only [Gx, if_true, if_false, and_true, Sx, d0], by simp (config := {decide := true}) only [Gx, if_true, if_false, and_true, Sx, n0, q0], by simp (config := {decide := true}) only [Gx, if_true, if_false, and_true, Sx, n0, q1], by simp (config := {decide := true}) only [Gx, if_true, if_false, and_true, Sx, n0, q4], by simp (config := {decide := true}) only [Gx, if_true, if_false, and_true, Sx, n0, q6], by simp (config := {decide := true}) only [Gx, if_true, if_false, and_true, Sx, n0, q7], M8.trans (up m9), m9.blk _ _ (by omega) b48, .bad bs.length 4, eR, ⟨p2, items + 1, _, b9, by decide, m9.blk _ _ (by omega) b78, rfl, rfl⟩, fun _ _ _ h => by cases h⟩
        · simp only [if_neg hsh] at eR
          have e9 : decide ((n : Int) > ((bs.length - p2 : Nat) : Int)) = false := by simp; omega
          have w4 : IntKind.i64.wrap ((p2 : Int) + (n : Int)) = ((p2 + n : Nat) : Int) := by rw [wrap64 (by omega) (by omega)]; omega
          obtain ⟨sv, hsl, hcv⟩ := qslE (E := E) hB (p := p2) (n := n) hn1 (by omega)
          have hsl := hsl (fresh h8)
          have hcv := hcv (fresh h8)
          have s9 : astore tab 9 (aadd (own k7) 2) (.string ⟨⟨(bs.drop p2).take n⟩⟩) (fresh h8) = some ((fresh h8).setl k7 (.cells [.int .i64 (hd.toNat % 64 : Nat), .int .i64 (nm : Nat), .string ⟨⟨(bs.drop p2).take n⟩⟩, .slice none 0 0] 25 none)) := astore_one (g := fresh h8) qty9 rfl b78 rfl rfl (by simp) rfl
          have m9 := (Mod.refl (M := fun j => j = k7) m8.fit).setl (B := .cells [.int .i64 (hd.toNat % 64 : Nat), .int .i64 (nm : Nat), .string ⟨⟨(bs.drop p2).take n⟩⟩, .slice none 0 0] 25 none) rfl rfl (m8.fit.lt b78)
          have b79 := setl_same (h := h8) (k := k7) (B := .cells [.int .i64 (hd.toNat % 64 : Nat), .int .i64 (nm : Nat), .string ⟨⟨(bs.drop p2).take n⟩⟩, .slice none 0 0] 25 none) rfl
          have b49 := m9.blk _ _ (by omega) b48
          have b9 := b8.mod m9 (by omega)
          have M9 := M8.trans (m9.sub (N := fun j => j = k ∨ g.next ≤ j) fun j hj => .inr (by omega))
          have lt9 : k7 < h8.next := m8.fit.lt b78
          generalize hh9 : h8.setl k7 (.cells [.int .i64 (hd.toNat % 64 : Nat), .int .i64 (nm : Nat), .string ⟨⟨(bs.drop p2).take n⟩⟩, .slice none 0 0] 25 none) = h9 at m9 b79 b49 b9 M9
          obtain ⟨_, f1', _, _, _⟩ := b9.at (E := E) hv2
          obtain ⟨h10, s10, b10, m10⟩ := b9.set m9.fit qty3 rfl 1 (p2 + n : Nat) (by decide) rfl (pos' := p2 + n) (items' := items + 1) (w' := w) (e' := 0)
          repeat' (first
    | (with_reducible apply Wc.seq)
    | (apply Wc.opsN n8; (focus ((repeat' (first
      | with_reducible exact RO.nil
      | ((with_reducible apply RO.run (awant_none rfl)); (focus ((first | simp (config := {decide := true}) only [awant, ayield_get, oper1, aop, opv, opvs, opvo, opvp, abuiltin, aun, Gx, if_true, if_false, and_true, decide_true, decide_false, abin, isShift, aint, roV, pair, bind, Option.bind, acall, Sx, n0, q0, q86, onT, e8, c8'] | skip); with_reducible rfl))))); done)))
    | (refine Wc.cond2 (by simp (config := {decide := true}) only [opv, Gx, if_true, if_false, and_true, decide_true, decide_false, Sx, n0, q0, q86, onT, e8, c8']; try with_reducible rfl) (fun hb => ?_) (fun hb => ?_) <;> try contradiction)
    | refine Wc.skip ?_
    | refine Wc.ret ?_
    | refine Wc.exit ?_
    | refine Wc.block ?_)
          refine Wc.drawC 1 (by kernel_rfl) ?_
          (iterate 19 (first
      | ((apply FC.pure rfl rfl); (focus ((first | simp (config := {decide := true}) only [awant, ayield_get, oper1, aop, opv, opvs, opvo, opvp, abuiltin, aun, Gx, if_true, if_false, and_true, decide_true, decide_false, abin, isShift, aint, roV, pair, bind, Option.bind, acall, Sx, n0, q0, Qx, Hx, f0, f1, f4, ln, w3, e9] | skip); with_reducible rfl)))
      | ((apply FC.pureG rfl rfl); (focus (simp (config := {decide := true}) only [Gx, if_true, if_false, and_true, Sx, decide_true, decide_false, n0, q0, Qx, Hx, f0, f1, f4, ln, w3, e9]; done)); (focus rfl); (focus ((first | simp (config := {decide := true}) only [awant, ayield_get, oper1, aop, opv, opvs, opvo, opvp, abuiltin, aun, Gx, if_true, if_false, and_true, decide_true, decide_false, abin, isShift, aint, roV, pair, bind, Option.bind, acall, Sx, n0, q0, Qx, Hx, f0, f1, f4, ln, w3, e9] | skip); with_reducible rfl)))
      | ((apply FC.skipG rfl rfl); (focus (simp (config := {decide := true}) only [Gx, if_true, if_false, and_true, Sx, decide_true, decide_false, n0, q0, Qx, Hx, f0, f1, f4, ln, w3, e9]; done)))
      | ((apply FC.new rfl rfl); (focus ((first | simp (config := {decide := true}) only [awant, ayield_get, oper1, aop, opv, opvs, opvo, opvp, abuiltin, aun, Gx, if_true, if_false, and_true, decide_true, decide_false, abin, isShift, aint, roV, pair, bind, Option.bind, acall, Sx, n0, q0, Qx, Hx, f0, f1, f4, ln, w3, e9] | skip); with_reducible rfl)))))
          refine FC.nil ?_
          repeat' (first
    | (with_reducible apply Wc.seq)
    | (apply Wc.ops; (focus ((repeat' (first
      | with_reducible exact RO.nil
      | ((with_reducible apply RO.run (awant_none rfl)); (focus ((first | simp (config := {decide := true}) only [awant, ayield_get, oper1, aop, opv, opvs, opvo, opvp, abuiltin, aun, Gx, if_true, if_false, and_true, decide_true, decide_false, abin, isShift, aint, roV, pair, bind, Option.bind, acall, Sx, n0, q0, Qx, Hx, f4] | skip); with_reducible rfl))))); done)))
    | (refine Wc.cond2 (by simp (config := {decide := true}) only [opv, Gx, if_true, if_false, and_true, decide_true, decide_false, Sx, n0, q0, Qx, Hx, f4]; try with_reducible rfl) (fun hb => ?_) (fun hb => ?_) <;> try contradiction)
    | refine Wc.skip ?_
    | refine Wc.ret ?_
    | refine Wc.exit ?_
    | refine Wc.block ?_)
          refine Wc.drawQ 1 (by kernel_rfl) ?_
          (iterate 14 (first
      | ((apply FQ.pure rfl rfl); (focus ((first | simp (config := {decide := true}) only [awant, ayield_get, oper1, aop, opv, opvs, opvo, opvp, abuiltin, aun, Gx, if_true, if_false, and_true, decide_true, decide_false, abin, isShift, aint, roV, pair, bind, Option.bind, acall, Sx, n0, q0, Qx, Hx, f0, f1, w4] | skip); with_reducible rfl)))
      | ((apply FQ.new rfl rfl); (focus ((first | simp (config := {decide := true}) only [awant, ayield_get, oper1, aop, opv, opvs, opvo, opvp, abuiltin, aun, Gx, if_true, if_false, and_true, decide_true, decide_false, abin, isShift, aint, roV, pair, bind, Option.bind, acall, Sx, n0, q0, Qx, Hx, f0, f1, w4] | skip); with_reducible rfl)))))
          refine FQ.pureJ (x := sv) rfl (by simp (config := {decide := true}) only [awant, ayield_get, oper1, aop, opv, opvs, opvo, opvp, abuiltin, aun, Gx, if_true, if_false, and_true, decide_true, decide_false, abin, isShift, aint, roV, pair, bind, Option.bind, acall, Sx, n0, hsl]) ?_
          refine FQ.pure (x := .string ⟨⟨(bs.drop p2).take n⟩⟩) rfl rfl (by simp (config := {decide := true}) only [awant, ayield_get, oper1, aop, opv, opvs, opvo, opvp, abuiltin, aun, Gx, if_true, if_false, and_true, decide_true, decide_false, abin, isShift, aint, roV, pair, bind, Option.bind, acall, Sx, n0, hcv]) ?_
          (iterate 1 (first
      | ((apply FQ.pure rfl rfl); (focus ((first | simp (config := {decide := true}) only [awant, ayield_get, oper1, aop, opv, opvs, opvo, opvp, abuiltin, aun, Gx, if_true, if_false, and_true, decide_true, decide_false, abin, isShift, aint, roV, pair, bind, Option.bind, acall, Sx, n0, q7, Qx, Hx] | skip); with_reducible rfl)))
      | ((apply FQ.new rfl rfl); (focus ((first | simp (config := {decide := true}) only [awant, ayield_get, oper1, aop, opv, opvs, opvo, opvp, abuiltin, aun, Gx, if_true, if_false, and_true, decide_true, decide_false, abin, isShift, aint, roV, pair, bind, Option.bind, acall, Sx, n0, q7, Qx, Hx] | skip); with_reducible rfl)))))
          refine FQ.setl (k := k7) rfl rfl lt9 (by simp (config := {decide := true}) only [awant, ayield_get, oper1, aop, opv, opvs, opvo, opvp, abuiltin, aun, Gx, if_true, if_false, and_true, decide_true, decide_false, abin, isShift, aint, roV, pair, bind, Option.bind, acall, Sx, n0, s9]; with_reducible rfl) ?_
          refine FQ.nil ⟨?_, ?_⟩
          · exact allMeet_but0 [17] 18 rfl rfl (by kernel_rfl)
          rw [hh9]
          repeat' (first
    | (with_reducible apply Wc.seq)
    | (apply Wc.ops; (focus ((repeat' (first
      | with_reducible exact RO.nil
      | ((with_reducible apply RO.run (awant_none rfl)); (focus ((first | simp (config := {decide := true}) only [awant, ayield_get, oper1, aop, opv, opvs, opvo, opvp, abuiltin, aun, Gx, if_true, if_false, and_true, decide_true, decide_false, abin, isShift, aint, roV, pair, bind, Option.bind, acall, Sx, n0, q0, Qx, Hx, f1', w4, s10] | skip); with_reducible rfl))))); done)))
    | (refine Wc.cond2 (by simp (config := {decide := true}) only [opv, Gx, if_true, if_false, and_true, decide_true, decide_false, Sx, n0, q0, Qx, Hx, f1', w4, s10]; try with_reducible rfl) (fun hb => ?_) (fun hb => ?_) <;> try contradiction)
    | refine Wc.skip ?_
    | refine Wc.ret ?_
    | refine Wc.exit ?_
    | refine Wc.block ?_)
          exact ⟨rfl, by simp (config := {decide := true}) only [Gx, if_true, if_false, and_true, Sx, n0], by simp (config := {decide := true}) only [Gx, if_true, if_false, and_true, Sx, d0], by simp (config := {decide := true}) only [Gx, if_true, if_false, and_true, Sx, n0, q0], by simp (config := {decide := true}) only [Gx, if_true, if_false, and_true, Sx, n0, q1], by simp (config := {decide := true}) only [Gx, if_true, if_false, and_true, Sx, n0, q4], by simp (config := {decide := true}) only [Gx, if_true, if_false, and_true, Sx, n0, q6], by simp (config := {decide := true}) only [Gx, if_true, if_false, and_true, Sx, n0, q7], M9.trans (up m10), m10.blk _ _ (by omega) b49, .ok (nm, ⟨⟨(bs.drop p2).take n⟩⟩) (p2 + n) (items + 1), eR, ⟨b10, m10.blk _ _ (by omega) b79⟩, fun _ _ _ h => by cases h; exact ⟨by omega, by omega⟩⟩
  rintro ex A0 h ⟨rfl, n0, d0, q0, q1, q4, q6, q7, M, b4, r1, eR, hS, hr1⟩
  simp only []
  have e10 : decide ((hd.toNat : Int) ≥ 128) = decide (128 ≤ hd.toNat) := by
    by_cases h : 128 ≤ hd.toNat
    · rw [decide_eq_true h, decide_eq_true (by omega)]
    · rw [decide_eq_false h, decide_eq_false (by omega)]
  repeat' (with_reducible apply Wc.seq)
  refine Wc.mono (Q := fun ex A h' => ex = .normal ∧ A.n = 178 ∧ A.defers = [] ∧ A.get 0 = .pointer (some (own k)) ∧ A.get 1 = .int .i64 (250 - fu : Nat) ∧ A.get 4 = .pointer (some (own g.next)) ∧ A.get 6 = .int .i64 (hd.toNat : Nat) ∧ A.get 7 = .pointer (some (own k7)) ∧ A.get 153 = .bool (onT r1 (decide (128 ≤ hd.toNat))) ∧ h' = h) ?_ ?_
  · cases r1 with
    | bad p e =>
      obtain ⟨pos', it', l, bb, he, _⟩ := hS
      obtain ⟨_, _, _, _, f4⟩ := bb.at (E := E) hv2
      have e7 : decide (e = 0) = false := decide_eq_false he
      (repeat' (with_reducible apply Wc.seq)); (apply Wc.opsN 1; (focus ((repeat' (first
      | with_reducible exact RO.nil
      | ((with_reducible apply RO.run (awant_none rfl)); (focus ((first | simp (config := {decide := true}) only [awant, ayield_get, oper1, aop, opv, opvs, opvo, opvp, abuiltin, aun, Gx, if_true, if_false, and_true, decide_true, decide_false, abin, isShift, aint, roV, pair, bind, Option.bind, acall, Sx, n0, q0, q6, Qx, Hx, f4, e7] | skip); with_reducible rfl)))
      | ((with_reducible apply RO.runG); (focus rfl); (focus rfl); (focus (simp (config := {decide := true}) only [Gx, if_true, if_false, and_true, Sx, decide_true, decide_false, n0, q0, q6, Qx, Hx, f4, e7]; done)); (focus ((first | simp (config := {decide := true}) only [awant, ayield_get, oper1, aop, opv, opvs, opvo, opvp, abuiltin, aun, Gx, if_true, if_false, and_true, decide_true, decide_false, abin, isShift, aint, roV, pair, bind, Option.bind, acall, Sx, n0, q0, q6, Qx, Hx, f4, e7] | skip); with_reducible rfl)))
      | ((with_reducible apply RO.skipG); (focus rfl); (focus rfl); (focus (simp (config := {decide := true}) only [Gx, if_true, if_false, and_true, Sx, decide_true, decide_false, n0, q0, q6, Qx, Hx, f4, e7]; done))))); done)))
      exact ⟨rfl, by simp (config := {decide := true}) only [Gx, if_true, if_false, and_true, Sx, n0], by simp (config := {decide := true}) only [Gx, if_true, if_false, and_true, Sx, d0], by simp (config := {decide := true}) only [Gx, if_true, if_false, and_true, Sx, n0, q0], by simp (config := {decide := true}) only [Gx, if_true, if_false, and_true, Sx, n0, q1], by simp (config := {decide := true}) only [Gx, if_true, if_false, and_true, Sx, n0, q4], by simp (config := {decide := true}) only [Gx, if_true, if_false, and_true, Sx, n0, q6], by simp (config := {decide := true}) only [Gx, if_true, if_false, and_true, Sx, n0, q7], by simp (config := {decide := true}) only [Gx, if_true, if_false, and_true, Sx, n0, onT], rfl⟩
    | ok x p it =>
      obtain ⟨_, _, _, _, f4⟩ := hS.1.at (E := E) hv2
      (repeat' (with_reducible apply Wc.seq)); (apply Wc.opsN 1; (focus ((repeat' (first
      | with_reducible exact RO.nil
      | ((with_reducible apply RO.run (awant_none rfl)); (focus ((first | simp (config := {decide := true}) only [awant, ayield_get, oper1, aop, opv, opvs, opvo, opvp, abuiltin, aun, Gx, if_true, if_false, and_true, decide_true, decide_false, abin, isShift, aint, roV, pair, bind, Option.bind, acall, Sx, n0, q0, q6, Qx, Hx, f4, e10] | skip); with_reducible rfl)))
      | ((with_reducible apply RO.runG); (focus rfl); (focus rfl); (focus (simp (config := {decide := true}) only [Gx, if_true, if_false, and_true, Sx, decide_true, decide_false, n0, q0, q6, Qx, Hx, f4, e10]; done)); (focus ((first | simp (config := {decide := true}) only [awant, ayield_get, oper1, aop, opv, opvs, opvo, opvp, abuiltin, aun, Gx, if_true, if_false, and_true, decide_true, decide_false, abin, isShift, aint, roV, pair, bind, Option.bind, acall, Sx, n0, q0, q6, Qx, Hx, f4, e10] | skip); with_reducible rfl)))
      | ((with_reducible apply RO.skipG); (focus rfl); (focus rfl); (focus (simp (config := {decide := true}) only [Gx, if_true, if_false, and_true, Sx, decide_true, decide_false, n0, q0, q6, Qx, Hx, f4, e10]; done))))); done)))
      exact ⟨rfl, by simp (config := {decide := true}) only [Gx, if_true, if_false, and_true, Sx, n0], by simp (config := {decide := true}) only [Gx, if_true, if_false, and_true, Sx, d0], by simp (config := {decide := true}) only [Gx, if_true, if_false, and_true, Sx, n0, q0], by simp (config := {decide := true}) only [Gx, if_true, if_false, and_true, Sx, n0, q1], by simp (config := {decide := true}) only [Gx, if_true, if_false, and_true, Sx, n0, q4], by simp (config := {decide := true}) only [Gx, if_true, if_false, and_true, Sx, n0, q6], by simp (config := {decide := true}) only [Gx, if_true, if_false, and_true, Sx, n0, q7], by simp (config := {decide := true}) only [Gx, if_true, if_false, and_true, Sx, n0, onT], rfl⟩
  rintro ex A0 h' ⟨rfl, n0, d0, q0, q1, q4, q6, q7, q153, rfl⟩
  simp only []
  repeat' (with_reducible apply Wc.seq)
  refine Wc.mono (Q := fun ex A h => ex = .normal ∧ A.n = 178 ∧ A.defers = [] ∧ A.get 4 = .pointer (some (own g.next)) ∧ A.get 7 = .pointer (some (own k7)) ∧ Mod (fun j => j = k ∨ g.next ≤ j) g h ∧ h.blk g.next = some (.cells zeroL 25 none) ∧ St2 E k k7 g.next v R w h) ?_ ?_
  · cases r1 with
    | bad p e =>
      obtain ⟨pos', it', l, bb, he, b7, h4, h1⟩ := hS
      repeat' (first
    | (with_reducible apply Wc.seq)
    | (apply Wc.ops; (focus ((repeat' (first
      | with_reducible exact RO.nil
      | ((with_reducible apply RO.run (awant_none rfl)); (focus ((first | simp (config := {decide := true}) only [awant, ayield_get, oper1, aop, opv, opvs, opvo, opvp, abuiltin, aun, Gx, if_true, if_false, and_true, decide_true, decide_false, abin, isShift, aint, roV, pair, bind, Option.bind, acall, Sx, n0, q153, onT] | skip); with_reducible rfl))))); done)))
    | (refine Wc.cond2 (by simp (config := {decide := true}) only [opv, Gx, if_true, if_false, and_true, decide_true, decide_false, Sx, n0, q153, onT]; try with_reducible rfl) (fun hb => ?_) (fun hb => ?_) <;> try contradiction)
    | refine Wc.skip ?_
    | refine Wc.ret ?_
    | refine Wc.exit ?_
    | refine Wc.block ?_)
      refine ⟨rfl, by simp (config := {decide := true}) only [Gx, if_true, if_false, and_true, Sx, n0], by simp (config := {decide := true}) only [Gx, if_true, if_false, and_true, Sx, d0], by simp (config := {decide := true}) only [Gx, if_true, if_false, and_true, Sx, n0, q4], by simp (config := {decide := true}) only [Gx, if_true, if_false, and_true, Sx, n0, q7], M, b4, l, b7, h4, h1, ?_⟩
      rw [eR]
      exact ⟨pos', it', bb⟩
    | ok x p it =>
      obtain ⟨bb, b7⟩ := hS
      obtain ⟨hp1, hit1⟩ := hr1 x p it rfl
      by_cases ho : 128 ≤ hd.toNat
      rotate_left
      · have e8 : decide (128 ≤ hd.toNat) = false := decide_eq_false ho
        rw [Rest, if_neg ho] at eR
        repeat' (first
    | (with_reducible apply Wc.seq)
    | (apply Wc.ops; (focus ((repeat' (first
      | with_reducible exact RO.nil
      | ((with_reducible apply RO.run (awant_none rfl)); (focus ((first | simp (config := {decide := true}) only [awant, ayield_get, oper1, aop, opv, opvs, opvo, opvp, abuiltin, aun, Gx, if_true, if_false, and_true, decide_true, decide_false, abin, isShift, aint, roV, pair, bind, Option.bind, acall, Sx, n0, q153, onT, e8] | skip); with_reducible rfl))))); done)))
    | (refine Wc.cond2 (by simp (config := {decide := true}) only [opv, Gx, if_true, if_false, and_true, decide_true, decide_false, Sx, n0, q153, onT, e8]; try with_reducible rfl) (fun hb => ?_) (fun hb => ?_) <;> try contradiction)
    | refine Wc.skip ?_
    | refine Wc.ret ?_
    | refine Wc.exit ?_
    | refine Wc.block ?_)
        refine ⟨rfl, by simp (config := {decide := true}) only [Gx, if_true, if_false, and_true, Sx, n0], by simp (config := {decide := true}) only [Gx, if_true, if_false, and_true, Sx, d0], by simp (config := {decide := true}) only [Gx, if_true, if_false, and_true, Sx, n0, q4], by simp (config := {decide := true}) only [Gx, if_true, if_false, and_true, Sx, n0, q7], M, b4, _, b7, rfl, rfl, ?_⟩
        rw [eR]
        exact ⟨bb, (Kol.nil g.next g.next _).rep (ti := 25) M.fit (by decide) _ _ _ (Nat.le_refl _)⟩
      have e8 : decide (128 ≤ hd.toNat) = true := decide_eq_true ho
      rw [Rest, if_pos ho] at eR
      obtain ⟨n8, x8, h8, c8, m8, hq8⟩ := rsome92 (E := E) (I := I) hI92 hB M.fit bb hp1 hl 5000 (by decide) it
      have c8' : (ev tab E I n8).call 92 [.pointer (some (own k)), .int .i64 5000] h' = some (x8, h8) := c8
      have b48 := m8.blk _ _ (by omega) b4
      have b78 := m8.blk _ _ (by omega) b7
      have M8 := M.trans (up m8)
      have eK : rdKidsN bs (rdItem bs fu) p it = match rdN bs 1 5000 p it with | .bad p e => .bad p e | .ok n p items => rdKids (rdItem bs fu) n [] p items := rfl
      rw [eK] at eR
      generalize hr2 : rdN bs 1 5000 p it = r2 at hq8 eR
      cases r2 with
      | bad p2 e =>
        obtain ⟨m2', pos2, rfl, b8⟩ := hq8
        have he : e ≠ 0 := by rcases (rdN_bad hr2 hp1).1 with rfl | rfl <;> decide
        repeat' (first
    | (with_reducible apply Wc.seq)
    | (apply Wc.opsN n8; (focus ((repeat' (first
      | with_reducible exact RO.nil
      | ((with_reducible apply RO.run (awant_none rfl)); (focus ((first | simp (config := {decide := true}) only [awant, ayield_get, oper1, aop, opv, opvs, opvo, opvp, abuiltin, aun, Gx, if_true, if_false, and_true, decide_true, decide_false, abin, isShift, aint, roV, pair, bind, Option.bind, acall, Sx, n0, q0, q153, onT, e8, c8'] | skip); with_reducible rfl))))); done)))
    | (refine Wc.cond2 (by simp (config := {decide := true}) only [opv, Gx, if_true, if_false, and_true, decide_true, decide_false, Sx, n0, q0, q153, onT, e8, c8']; try with_reducible rfl) (fun hb => ?_) (fun hb => ?_) <;> try contradiction)
    | refine Wc.skip ?_
    | refine Wc.ret ?_
    | refine Wc.exit ?_
    | refine Wc.block ?_)
        refine (stop 0 m2' _ h8 pos2 it p2 e he ?_ ?_ ?_ ?_ ?_ ?_ ?_ ?_ b8).mono ?_
        · simp (config := {decide := true}) only [Gx, if_true, if_false, and_true, Sx, n0]
        · simp (config := {decide := true}) only [Gx, if_true, if_false, and_true, Sx, d0]
        · simp (config := {decide := true}) only [Gx, if_true, if_false, and_true, Sx, n0, q0]
        · simp (config := {decide := true}) only [Gx, if_true, if_false, and_true, Sx, n0, q1]
        · simp (config := {decide := true}) only [Gx, if_true, if_false, and_true, Sx, n0, q4]
        · simp (config := {decide := true}) only [Gx, if_true, if_false, and_true, Sx, n0, q7]
        · simp (config := {decide := true}) only [Gx, if_true, if_false, and_true, Sx, n0]
        · simp (config := {decide := true}) only [Gx, if_true, if_false, and_true, Sx, n0]
          rfl
        · rintro ex A' h2 ⟨rfl, a1, a2, a3, a4, rfl⟩
          simp only [if_true]
          refine ⟨trivial, a1, a2, a3, a4, M8, b48, _, b78, rfl, rfl, ?_⟩
          rw [eR]
          exact ⟨pos2, it, b8⟩
      | ok n p2 it2 =>
        obtain ⟨rfl, b8⟩ := hq8
        obtain ⟨_, hp2, hn4, hn1, rfl⟩ := rdN_ok hr2
        repeat' (first
    | (with_reducible apply Wc.seq)
    | (apply Wc.opsN n8; (focus ((repeat' (first
      | with_reducible exact RO.nil
      | ((with_reducible apply RO.run (awant_none rfl)); (focus ((first | simp (config := {decide := true}) only [awant, ayield_get, oper1, aop, opv, opvs, opvo, opvp, abuiltin, aun, Gx, if_true, if_false, and_true, decide_true, decide_false, abin, isShift, aint, roV, pair, bind, Option.bind, acall, Sx, n0, q0, q153, onT, e8, c8'] | skip); with_reducible rfl))))); done)))
    | (refine Wc.cond2 (by simp (config := {decide := true}) only [opv, Gx, if_true, if_false, and_true, decide_true, decide_false, Sx, n0, q0, q153, onT, e8, c8']; try with_reducible rfl) (fun hb => ?_) (fun hb => ?_) <;> try contradiction)
    | refine Wc.skip ?_
    | refine Wc.ret ?_
    | refine Wc.exit ?_
    | refine Wc.block ?_)
        refine (key n 0 n p2 it2 h8.next [] (.slice none 0 0) (hd.toNat % 64 : Nat) x _ h8 rfl (Nat.zero_le _) hn4 rfl hp2 hit1 M8.next (Nat.le_refl _) ?_ ?_ ?_ ?_ ?_ ?_ ?_ ?_ M8 b48 b8 b78 (Kol.nil _ _ _)).mono ?_
        · simp (config := {decide := true}) only [Gx, if_true, if_false, and_true, Sx, n0]
        · simp (config := {decide := true}) only [Gx, if_true, if_false, and_true, Sx, d0]
        · simp (config := {decide := true}) only [Gx, if_true, if_false, and_true, Sx, n0, q0]
        · simp (config := {decide := true}) only [Gx, if_true, if_false, and_true, Sx, n0, q1]
        · simp (config := {decide := true}) only [Gx, if_true, if_false, and_true, Sx, n0, q4]
        · simp (config := {decide := true}) only [Gx, if_true, if_false, and_true, Sx, n0, q7]
        · simp (config := {decide := true}) only [Gx, if_true, if_false, and_true, Sx, n0]
        · simp (config := {decide := true}) only [Gx, if_true, if_false, and_true, Sx, n0]
          rfl
        · rintro ex A' h2 ⟨rfl, a1, a2, a3, a4, a5, a6, a7⟩
          simp only [if_true]
          exact ⟨trivial, a1, a2, a3, a4, a5, a6, by rw [eR]; exact a7⟩
  rintro ex A0 h ⟨rfl, n0, d0, q4, q7, M, b4, l, b7, hl4, hl1, hq⟩
  simp only []
  have l7 : h.cells E (own k7) 4 = some l := blk_cells b7 hl4 hl1
  have s9 := st4 hl4 hl1 b4
  have m9 := (Mod.refl (M := fun j => j = g.next) M.fit).setl (B := .cells l 25 none) rfl rfl (M.fit.lt b4)
  repeat' (first
    | (with_reducible apply Wc.seq)
    | (apply Wc.ops; (focus ((repeat' (first
      | with_reducible exact RO.nil
      | ((with_reducible apply RO.run (awant_none rfl)); (focus ((first | simp (config := {decide := true}) only [awant, ayield_get, oper1, aop, opv, opvs, opvo, opvp, abuiltin, aun, Gx, if_true, if_false, and_true, decide_true, decide_false, abin, isShift, aint, roV, pair, bind, Option.bind, acall, Sx, n0, q4, q7, Qx, Hx, l7, s9] | skip); with_reducible rfl))))); done)))
    | (refine Wc.cond2 (by simp (config := {decide := true}) only [opv, Gx, if_true, if_false, and_true, decide_true, decide_false, Sx, n0, q4, q7, Qx, Hx, l7, s9]; try with_reducible rfl) (fun hb => ?_) (fun hb => ?_) <;> try contradiction)
    | refine Wc.skip ?_
    | refine Wc.ret ?_
    | refine Wc.exit ?_
    | refine Wc.block ?_)
  refine fin (ex := .ret) (.inr rfl) (by simp (config := {decide := true}) only [Gx, if_true, if_false, and_true, Sx, d0]) (by simp (config := {decide := true}) only [Gx, if_true, if_false, and_true, Sx, n0, q4]) hl4 hl1 (M.trans (m9.sub fun j hj => .inr (by omega))) (setl_same rfl) ?_
  unfold RItemQ at hq ⊢
  split at hq
  · refine ⟨hq.1.mod m9 (by omega), rep_grow (only_mod M.fit m9 (fun j B hj hB => ?_) (fun _ h => h)) hq.2⟩
    subst hj
    rw [b4] at hB; cases hB; rfl
  · obtain ⟨a, c, hh⟩ := hq
    exact ⟨a, c, hh.mod m9 (by omega)⟩
end Go.Proofs.YtofijpbmbmbnhaaDoor
