/- The reference's reader: errors, numbers. -/
import Derived.Test.YtofijpbmbmbnhaaDoorHsan
set_option linter.unusedSimpArgs false
set_option linter.unusedVariables false
set_option maxRecDepth 100000
set_option maxHeartbeats 16000000
namespace Go.Proofs.YtofijpbmbmbnhaaDoor
open Go Go.Hs Go.Proofs
variable {E : Env} {I : Known}

theorem fn52 : tab.fn.get 52 = some Tryd.f52 := by kernel_rfl
theorem fn91 : tab.fn.get 91 = some Tryd.f91 := by kernel_rfl
theorem fn92 : tab.fn.get 92 = some Tryd.f92 := by kernel_rfl
noncomputable def loop91 : Code := loopOf Tryd.f91

/-- The reference's source: its bytes, where it stands, how many items were begun, where it is wrong, its error. -/
def Ref (k : Nat) (v : Value) (pos items : Nat) (w e : Int) (g : H) : Prop := g.blk k = some (.cells [v, .int .i64 (pos : Nat), .int .i64 (items : Nat), .int .i64 w, .int .i64 e] 91 none)
theorem Ref.mod {k : Nat} {v : Value} {pos items : Nat} {w e : Int} {g g' : H} {M : Nat → Prop} (b : Ref k v pos items w e g) (m : Mod M g g') (hk : ¬ M k) : Ref k v pos items w e g' := m.blk _ _ hk b
theorem Ref.at {k : Nat} {v : Value} {pos items : Nat} {w e : Int} {g : H} (b : Ref k v pos items w e g) (ho : isOne v = true) : g.cell E (own k) = some v ∧ g.cell E (aadd (own k) 1) = some (.int .i64 (pos : Nat)) ∧ g.cell E (aadd (own k) 2) = some (.int .i64 (items : Nat)) ∧ g.cell E (aadd (own k) 3) = some (.int .i64 w) ∧ g.cell E (aadd (own k) 4) = some (.int .i64 e) :=
  ⟨(cell_blk0 b).trans (one_of ho), cell_blk b 1, cell_blk b 2, cell_blk b 3, cell_blk b 4⟩
/-- A number of it is written. -/
theorem Ref.set {k : Nat} {v : Value} {pos items : Nat} {w e : Int} {g : H} (f : Fit g) (b : Ref k v pos items w e g) {t : TypeId} {ti : TI} (ht : tab.ty.get t = some ti) (hs : ti.size = 1) (o : Nat) (x : Int) {pos' items' : Nat} {w' e' : Int} (ho : o < 5) (hy : ([v, .int .i64 (pos : Nat), .int .i64 (items : Nat), .int .i64 w, .int .i64 e] : List Value).take o ++ [.int .i64 x] ++ ([v, .int .i64 (pos : Nat), .int .i64 (items : Nat), .int .i64 w, .int .i64 e] : List Value).drop (o + 1) = [v, .int .i64 (pos' : Nat), .int .i64 (items' : Nat), .int .i64 w', .int .i64 e']) :
    ∃ g', astore tab t (aadd (own k) o) (.int .i64 x) g = some g' ∧ Ref k v pos' items' w' e' g' ∧ Mod (fun j => j = k) g g' :=
  ⟨_, astore_one ht hs b rfl rfl ho hy, setl_same rfl, (Mod.refl f).setl rfl rfl (f.lt b)⟩

theorem rfail52 (hI : ∀ args h, I 52 args h = none) {k : Nat} {v : Value} {pos items : Nat} {w e : Int} {g : H} (f : Fit g) (b : Ref k v pos items w e g) (e' : Int) (p : Nat) :
    ∃ n g', (ev tab E I n).call 52 [.pointer (some (own k)), .int .i64 e', .int .i64 (p : Nat)] g = some (.tuple #[], g') ∧ Mod (fun j => j = k) g g' ∧ Ref k v pos items p e' g' := by
  suffices hw : ∃ n x g', (ev tab E I n).call 52 [.pointer (some (own k)), .int .i64 e', .int .i64 (p : Nat)] g = some (x, g') ∧ (x = .tuple #[] ∧ Mod (fun j => j = k) g g' ∧ Ref k v pos items p e' g') by
    obtain ⟨n, x, g', h1, rfl, h2, h3⟩ := hw
    exact ⟨n, g', h1, h2, h3⟩
  refine Wc.call (hI _ _) fn52 rfl ?_
  generalize hA0 : (⟨T.ofList [.pointer (some (own k)), .int .i64 e', .int .i64 (p : Nat)] 0 .nil, max ([.pointer (some (own k)), .int .i64 e', .int .i64 (p : Nat)] : List Value).length Tryd.f52.ntmps, []⟩ : Ac) = A0
  have n0 : A0.n = 14 := by rw [← hA0]; rfl
  have q0 : A0.get 0 = .pointer (some (own k)) := by rw [← hA0]; rfl
  have q1 : A0.get 1 = .int .i64 e' := by rw [← hA0]; rfl
  have q2 : A0.get 2 = .int .i64 (p : Nat) := by rw [← hA0]; rfl
  have d0 : A0.defers = [] := by rw [← hA0]
  clear hA0
  obtain ⟨g1, s1, b1, m1⟩ := b.set f qty26 rfl 4 e' (by decide) rfl (pos' := pos) (items' := items) (w' := w) (e' := e')
  obtain ⟨g2, s2, b2, m2⟩ := b1.set m1.fit qty3 rfl 3 (p : Nat) (by decide) rfl (pos' := pos) (items' := items) (w' := (p : Nat)) (e' := e')
  repeat' (first
    | (with_reducible apply Wc.seq)
    | (apply Wc.ops; (focus ((repeat' (first
      | with_reducible exact RO.nil
      | ((with_reducible apply RO.run (awant_none rfl)); (focus ((first | simp (config := {decide := true}) only [awant, ayield_get, oper1, aop, opv, opvs, opvo, opvp, abuiltin, aun, Gx, if_true, if_false, and_true, decide_true, decide_false, abin, isShift, aint, roV, pair, bind, Option.bind, acall, Sx, n0, q0, q1, q2, Qx, Hx, s1, s2] | skip); with_reducible rfl))))); done)))
    | (refine Wc.cond2 (by simp (config := {decide := true}) only [opv, Gx, if_true, if_false, and_true, decide_true, decide_false, Sx, n0, q0, q1, q2, Qx, Hx, s1, s2]; try with_reducible rfl) (fun hb => ?_) (fun hb => ?_) <;> try contradiction)
    | refine Wc.skip ?_
    | refine Wc.ret ?_
    | refine Wc.exit ?_
    | refine Wc.block ?_)
  exact ⟨.inl rfl, g2, .tuple #[], by simp (config := {decide := true}) only [Gx, if_true, if_false, and_true, Sx, d0]; rfl, rfl, rfl, m1.trans m2, b2⟩

theorem rdNum_least {bs : List UInt8} {most frm items : Nat} : ∀ (k i pos n : Nat), rdNum bs 1 most frm items k i pos n = match rdNum bs 0 most frm items k i pos n with
    | .ok m p it => if m < 1 then .bad frm 4 else .ok m p it
    | .bad p e => .bad p e
  | 0, i, pos, n => rfl
  | k + 1, i, pos, n => by
    rw [rdNum, rdNum]
    split
    · rfl
    · split
      · exact rdNum_least k _ _ _
      · split
        · rfl
        · split
          · rfl
          · rw [if_neg (Nat.not_lt_zero (_ + _))]
theorem rdN_least {bs : List UInt8} {most pos items : Nat} : rdN bs 1 most pos items = match rdN bs 0 most pos items with
    | .ok m p it => if m < 1 then .bad pos 4 else .ok m p it
    | .bad p e => .bad p e := rdNum_least _ _ _ _

theorem tmodN (a b : Nat) : (a : Int).tmod (b : Int) = ((a % b : Nat) : Int) := by
  rw [Int.tmod_eq_emod_of_nonneg (Int.natCast_nonneg a)]; rfl
theorem tdivN (a b : Nat) : (a : Int).tdiv (b : Int) = ((a / b : Nat) : Int) := by
  rw [Int.tdiv_eq_ediv_of_nonneg (Int.natCast_nonneg a)]; rfl

/-- What the reference's reader of numbers gives. -/
def NumR (k : Nat) (v : Value) (r : Rd Nat) (x : Value) (items : Nat) (w : Int) (g : H) : Prop := match r with
  | .ok m p _ => x = .int .i64 (m : Nat) ∧ Ref k v p items w 0 g
  | .bad p e => ∃ (m pos : Nat), x = .int .i64 (m : Nat) ∧ Ref k v pos items p e g

theorem bytE {v : Value} {bs : List UInt8} (hB : ∀ h, Byt E h v bs) : v.cells.toList = [v] ∧ isOne v = true ∧ (∀ h, alen tab 31 v h = some (.int .i64 (bs.length : Nat))) ∧ (∀ (p : Nat) (c : UInt8), bs[p]? = some c → ∃ a, aindexAddr tab 31 v (.int .i64 (p : Nat)) = some (.pointer (some a)) ∧ ∀ h : H, h.cell E a = some (.int .u8 (c.toNat : Nat))) := by
  obtain ⟨a, c, rfl⟩ := (hB H.empty).slice
  refine ⟨rfl, rfl, fun h => qlen31 _ _ _, fun p x hp => ?_⟩
  have hlt : p < bs.length := (List.getElem?_eq_some_iff.1 hp).1
  have hir : inRange ((p : Nat) : Int) bs.length = true := by
    show Nat.blt p bs.length = true
    rw [Nat.blt_eq]; exact hlt
  rcases hB H.empty with ⟨h1, rfl⟩ | ⟨a', c', h1, _, _⟩
  · simp at hlt
  · cases h1
    refine ⟨aadd a' p, ?_, fun h => ?_⟩
    · rw [qia31 _ _ _ _ hir, Int.toNat_natCast, Nat.mul_one]
    · rcases hB h with ⟨h1, rfl⟩ | ⟨a2, c2, h1, _, h3⟩
      · simp at hlt
      · cases h1
        exact cells_cell h3 hlt (bytesV_get hp)

theorem rnum91 (hI : ∀ f args h, (f = 91 ∨ f = 52) → I f args h = none) {k : Nat} {v : Value} {bs : List UInt8} (hB : ∀ h, Byt E h v bs) {pos items : Nat} {w : Int} {g : H} (f : Fit g) (b : Ref k v pos items w 0 g) (hp : pos ≤ bs.length) (hl : bs.length ≤ 1000000) (most : Nat) (hm : most ≤ 1099511627776) (it0 : Nat) :
    ∃ n x g', (ev tab E I n).call 91 [.pointer (some (own k)), .int .i64 (most : Nat)] g = some (x, g') ∧ (Mod (fun j => j = k) g g' ∧ NumR k v (rdN bs 0 most pos it0) x items w g') := by
  have kl : k < g.next := f.lt b
  obtain ⟨hv1, hv2, ln, hix⟩ := bytE (E := E) hB
  have key : ∀ (r i p nn : Nat) (A0 : Ac) (h : H), r = 6 - i → i ≤ 6 → nn < 128 ^ i → p ≤ bs.length → A0.n = 81 → A0.defers = [] → A0.get 0 = .pointer (some (own k)) → A0.get 1 = .int .i64 (most : Nat) → A0.get 5 = .int .i64 (pos : Nat) → A0.get 6 = .int .i64 (nn : Nat) → A0.get 7 = .int .i64 (128 ^ i : Nat) → A0.get 8 = .int .i64 (i : Nat) → Mod (fun j => j = k) g h → Ref k v p items w 0 h → rdN bs 0 most pos it0 = rdNum bs 0 most pos it0 r i p nn →
      Wc tab E I ⟨91, none⟩ (.loop loop91) A0 h (fun ex A' h' => A'.n = 81 ∧ A'.defers = [] ∧ Mod (fun j => j = k) g h' ∧ ((ex = .exit 0 ∧ A'.get 0 = .pointer (some (own k)) ∧ A'.get 5 = .int .i64 (pos : Nat) ∧ rdN bs 0 most pos it0 = .bad pos 3 ∧ ∃ p', Ref k v p' items w 0 h') ∨ (ex = .ret ∧ NumR k v (rdN bs 0 most pos it0) (A'.get 4) items w h'))) := by
    intro r
    induction r with
    | zero =>
      intro i p nn A0 h hr hi hnn hpl n0 d0 q0 q1 q5 q6 q7 q8 M b he
      obtain rfl : i = 6 := by omega
      have e1 : decide (((6 : Nat) : Int) < 6) = false := by decide
      apply Wc.loop
      simp only [loop91, loopOf, firstLoop, Option.getD, Tryd.f91]
      repeat' (first
    | (with_reducible apply Wc.seq)
    | (apply Wc.ops; (focus ((repeat' (first
      | with_reducible exact RO.nil
      | ((with_reducible apply RO.run (awant_none rfl)); (focus ((first | simp (config := {decide := true}) only [awant, ayield_get, oper1, aop, opv, opvs, opvo, opvp, abuiltin, aun, Gx, if_true, if_false, and_true, decide_true, decide_false, abin, isShift, aint, roV, pair, bind, Option.bind, acall, Sx, n0, q8, e1] | skip); with_reducible rfl))))); done)))
    | (refine Wc.cond2 (by simp (config := {decide := true}) only [opv, Gx, if_true, if_false, and_true, decide_true, decide_false, Sx, n0, q8, e1]; try with_reducible rfl) (fun hb => ?_) (fun hb => ?_) <;> try contradiction)
    | refine Wc.skip ?_
    | refine Wc.ret ?_
    | refine Wc.exit ?_
    | refine Wc.block ?_)
      exact ⟨by simp (config := {decide := true}) only [Gx, if_true, if_false, and_true, Sx, n0], by simp (config := {decide := true}) only [Gx, if_true, if_false, and_true, Sx, d0], M, .inl ⟨rfl, by simp (config := {decide := true}) only [Gx, if_true, if_false, and_true, Sx, n0, q0], by simp (config := {decide := true}) only [Gx, if_true, if_false, and_true, Sx, n0, q5], by rw [he, rdNum], p, b⟩⟩
    | succ r ih =>
      intro i p nn A0 h hr hi hnn hpl n0 d0 q0 q1 q5 q6 q7 q8 M b he
      have hi6 : i < 6 := by omega
      have e1 : decide ((i : Int) < 6) = true := by simp; omega
      have fh := M.fit
      obtain ⟨c0, c1, c2, c3, c4⟩ := b.at (E := E) hv2
      apply Wc.loop
      simp only [loop91, loopOf, firstLoop, Option.getD, Tryd.f91]
      by_cases h1 : p = bs.length
      · have e2 : decide ((p : Int) = (bs.length : Int)) = true := by simp; omega
        have hn : bs[p]? = none := by rw [List.getElem?_eq_none_iff]; omega
        rw [rdNum, hn] at he
        obtain ⟨nf, g', ck, m, b'⟩ := rfail52 (E := E) (I := I) (fun args h => hI _ args h (.inr rfl)) fh b 4 p
        repeat' (first
    | (with_reducible apply Wc.seq)
    | (apply Wc.ops; (focus ((repeat' (first
      | with_reducible exact RO.nil
      | ((with_reducible apply RO.run (awant_none rfl)); (focus ((first | simp (config := {decide := true}) only [awant, ayield_get, oper1, aop, opv, opvs, opvo, opvp, abuiltin, aun, Gx, if_true, if_false, and_true, decide_true, decide_false, abin, isShift, aint, roV, pair, bind, Option.bind, acall, Sx, n0, q8, e1] | skip); with_reducible rfl))))); done)))
    | (refine Wc.cond2 (by simp (config := {decide := true}) only [opv, Gx, if_true, if_false, and_true, decide_true, decide_false, Sx, n0, q8, e1]; try with_reducible rfl) (fun hb => ?_) (fun hb => ?_) <;> try contradiction)
    | refine Wc.skip ?_
    | refine Wc.ret ?_
    | refine Wc.exit ?_
    | refine Wc.block ?_)
        refine Wc.drawC 1 (by kernel_rfl) ?_
        (iterate 10 (first
      | ((apply FC.pure rfl rfl); (focus ((first | simp (config := {decide := true}) only [awant, ayield_get, oper1, aop, opv, opvs, opvo, opvp, abuiltin, aun, Gx, if_true, if_false, and_true, decide_true, decide_false, abin, isShift, aint, roV, pair, bind, Option.bind, acall, Sx, n0, q0, Qx, Hx, c0, c1, ln, e2] | skip); with_reducible rfl)))
      | ((apply FC.new rfl rfl); (focus ((first | simp (config := {decide := true}) only [awant, ayield_get, oper1, aop, opv, opvs, opvo, opvp, abuiltin, aun, Gx, if_true, if_false, and_true, decide_true, decide_false, abin, isShift, aint, roV, pair, bind, Option.bind, acall, Sx, n0, q0, Qx, Hx, c0, c1, ln, e2] | skip); with_reducible rfl)))))
        refine FC.nil ?_
        repeat' (first
    | (with_reducible apply Wc.seq)
    | (apply Wc.opsN nf; (focus ((repeat' (first
      | with_reducible exact RO.nil
      | ((with_reducible apply RO.run (awant_none rfl)); (focus ((first | simp (config := {decide := true}) only [awant, ayield_get, oper1, aop, opv, opvs, opvo, opvp, abuiltin, aun, Gx, if_true, if_false, and_true, decide_true, decide_false, abin, isShift, aint, roV, pair, bind, Option.bind, acall, Sx, n0, q0, Qx, Hx, c1, ck] | skip); with_reducible rfl))))); done)))
    | (refine Wc.cond2 (by simp (config := {decide := true}) only [opv, Gx, if_true, if_false, and_true, decide_true, decide_false, Sx, n0, q0, Qx, Hx, c1, ck]; try with_reducible rfl) (fun hb => ?_) (fun hb => ?_) <;> try contradiction)
    | refine Wc.skip ?_
    | refine Wc.ret ?_
    | refine Wc.exit ?_
    | refine Wc.block ?_)
        refine ⟨by simp (config := {decide := true}) only [Gx, if_true, if_false, and_true, Sx, n0], by simp (config := {decide := true}) only [Gx, if_true, if_false, and_true, Sx, d0], M.trans m, .inr ⟨rfl, ?_⟩⟩
        rw [he]
        exact ⟨0, p, by simp (config := {decide := true}) only [Gx, if_true, if_false, and_true, Sx, n0]; rfl, b'⟩
      · have hlt : p < bs.length := by omega
        have e2 : decide ((p : Int) = (bs.length : Int)) = false := by simp; omega
        obtain ⟨c, hc⟩ : ∃ c, bs[p]? = some c := ⟨bs[p], List.getElem?_eq_getElem hlt⟩
        have hc8 : c.toNat < 256 := c.toNat_lt
        obtain ⟨ca, ix, lc⟩ := hix p c hc
        have lc := lc h
        have w0 : IntKind.i64.wrap ((c.toNat : Nat) : Int) = ((c.toNat : Nat) : Int) := wrapN (by omega)
        have w1 : IntKind.i64.wrap ((p : Int) + 1) = ((p + 1 : Nat) : Int) := wrap64 (by omega) (by omega)
        have w3 : IntKind.i64.wrap ((i : Int) + 1) = ((i + 1 : Nat) : Int) := wrap64 (by omega) (by omega)
        have tm : ((c.toNat : Nat) : Int).tmod 128 = ((c.toNat % 128 : Nat) : Int) := tmodN c.toNat 128
        have p5 := pow128_le (show i ≤ 5 by omega)
        have hmm : c.toNat % 128 * 128 ^ i ≤ 127 * 128 ^ 5 := Nat.mul_le_mul (by omega) p5
        have hn5 : nn < 128 ^ 5 := Nat.lt_of_lt_of_le hnn p5
        have hnn' : nn + c.toNat % 128 * 128 ^ i < 128 ^ (i + 1) := by
          have : c.toNat % 128 * 128 ^ i ≤ 127 * 128 ^ i := Nat.mul_le_mul_right _ (by omega)
          rw [Nat.pow_succ]; omega
        have hpw : 128 ^ i * 128 = 128 ^ (i + 1) := (Nat.pow_succ _ _).symm
        rw [rdNum, hc] at he
        simp only [] at he
        generalize hP1 : 128 ^ (i + 1) = P1 at hnn' hpw
        generalize hP : 128 ^ i = P at q7 hmm hnn hnn' hpw he
        have w4 : IntKind.i64.wrap (((c.toNat % 128 : Nat) : Int) * (P : Int)) = ((c.toNat % 128 * P : Nat) : Int) := by rw [← Int.natCast_mul]; exact wrapN (by omega)
        have w5 : IntKind.i64.wrap ((nn : Int) + ((c.toNat % 128 * P : Nat) : Int)) = ((nn + c.toNat % 128 * P : Nat) : Int) := by rw [← Int.natCast_add]; exact wrapN (by omega)
        have w6 : IntKind.i64.wrap ((P : Int) * 128) = (P1 : Int) := by rw [show (P : Int) * 128 = ((P * 128 : Nat) : Int) by push_cast; rfl, hpw]; exact wrapN (by omega)
        generalize nn + c.toNat % 128 * P = n2 at w5 hnn' he
        obtain ⟨h1, s1, b1, m1⟩ := b.set fh qty3 rfl 1 (p + 1 : Nat) (by decide) rfl (pos' := p + 1) (items' := items) (w' := w) (e' := 0)
        have M1 := M.trans m1
        repeat' (first
    | (with_reducible apply Wc.seq)
    | (apply Wc.ops; (focus ((repeat' (first
      | with_reducible exact RO.nil
      | ((with_reducible apply RO.run (awant_none rfl)); (focus ((first | simp (config := {decide := true}) only [awant, ayield_get, oper1, aop, opv, opvs, opvo, opvp, abuiltin, aun, Gx, if_true, if_false, and_true, decide_true, decide_false, abin, isShift, aint, roV, pair, bind, Option.bind, acall, Sx, n0, q8, e1] | skip); with_reducible rfl))))); done)))
    | (refine Wc.cond2 (by simp (config := {decide := true}) only [opv, Gx, if_true, if_false, and_true, decide_true, decide_false, Sx, n0, q8, e1]; try with_reducible rfl) (fun hb => ?_) (fun hb => ?_) <;> try contradiction)
    | refine Wc.skip ?_
    | refine Wc.ret ?_
    | refine Wc.exit ?_
    | refine Wc.block ?_)
        refine Wc.drawC 1 (by kernel_rfl) ?_
        (iterate 10 (first
      | ((apply FC.pure rfl rfl); (focus ((first | simp (config := {decide := true}) only [awant, ayield_get, oper1, aop, opv, opvs, opvo, opvp, abuiltin, aun, Gx, if_true, if_false, and_true, decide_true, decide_false, abin, isShift, aint, roV, pair, bind, Option.bind, acall, Sx, n0, q0, Qx, Hx, c0, c1, ln, e2] | skip); with_reducible rfl)))
      | ((apply FC.new rfl rfl); (focus ((first | simp (config := {decide := true}) only [awant, ayield_get, oper1, aop, opv, opvs, opvo, opvp, abuiltin, aun, Gx, if_true, if_false, and_true, decide_true, decide_false, abin, isShift, aint, roV, pair, bind, Option.bind, acall, Sx, n0, q0, Qx, Hx, c0, c1, ln, e2] | skip); with_reducible rfl)))))
        refine FC.nil ?_
        repeat' (first
    | (with_reducible apply Wc.seq)
    | (apply Wc.ops; (focus ((repeat' (first
      | with_reducible exact RO.nil
      | ((with_reducible apply RO.run (awant_none rfl)); (focus ((first | simp (config := {decide := true}) only [awant, ayield_get, oper1, aop, opv, opvs, opvo, opvp, abuiltin, aun, Gx, if_true, if_false, and_true, decide_true, decide_false, abin, isShift, aint, roV, pair, bind, Option.bind, acall, Sx, n0] | skip); with_reducible rfl))))); done)))
    | (refine Wc.cond2 (by simp (config := {decide := true}) only [opv, Gx, if_true, if_false, and_true, decide_true, decide_false, Sx, n0]; try with_reducible rfl) (fun hb => ?_) (fun hb => ?_) <;> try contradiction)
    | refine Wc.skip ?_
    | refine Wc.ret ?_
    | refine Wc.exit ?_
    | refine Wc.block ?_)
        refine Wc.drawC 1 (by kernel_rfl) ?_
        (iterate 12 (first
      | ((apply FC.pure rfl rfl); (focus ((first | simp (config := {decide := true}) only [awant, ayield_get, oper1, aop, opv, opvs, opvo, opvp, abuiltin, aun, Gx, if_true, if_false, and_true, decide_true, decide_false, abin, isShift, aint, roV, pair, bind, Option.bind, acall, Sx, n0, q0, Qx, Hx, c0, c1, ix, lc, qcv5_3, w0] | skip); with_reducible rfl)))
      | ((apply FC.new rfl rfl); (focus ((first | simp (config := {decide := true}) only [awant, ayield_get, oper1, aop, opv, opvs, opvo, opvp, abuiltin, aun, Gx, if_true, if_false, and_true, decide_true, decide_false, abin, isShift, aint, roV, pair, bind, Option.bind, acall, Sx, n0, q0, Qx, Hx, c0, c1, ix, lc, qcv5_3, w0] | skip); with_reducible rfl)))))
        refine FC.nil ?_
        by_cases h2 : 128 ≤ c.toNat
        · have e3 : decide ((c.toNat : Int) ≥ 128) = true := by simp; omega
          rw [if_pos h2] at he
          repeat' (first
    | (with_reducible apply Wc.seq)
    | (apply Wc.ops; (focus ((repeat' (first
      | with_reducible exact RO.nil
      | ((with_reducible apply RO.run (awant_none rfl)); (focus ((first | simp (config := {decide := true}) only [awant, ayield_get, oper1, aop, opv, opvs, opvo, opvp, abuiltin, aun, Gx, if_true, if_false, and_true, decide_true, decide_false, abin, isShift, aint, roV, pair, bind, Option.bind, acall, Sx, n0, q0, q6, q7, q8, Qx, Hx, c1, w1, s1, tm, w4, w5, w6, e3, w3] | skip); with_reducible rfl))))); done)))
    | (refine Wc.cond2 (by simp (config := {decide := true}) only [opv, Gx, if_true, if_false, and_true, decide_true, decide_false, Sx, n0, q0, q6, q7, q8, Qx, Hx, c1, w1, s1, tm, w4, w5, w6, e3, w3]; try with_reducible rfl) (fun hb => ?_) (fun hb => ?_) <;> try contradiction)
    | refine Wc.skip ?_
    | refine Wc.ret ?_
    | refine Wc.exit ?_
    | refine Wc.block ?_)
          refine (ih (i + 1) (p + 1) n2 _ h1 (by omega) (by omega) (by rw [hP1]; exact hnn') (by omega) ?_ ?_ ?_ ?_ ?_ ?_ ?_ ?_ M1 b1 he)
          · simp (config := {decide := true}) only [Gx, if_true, if_false, and_true, Sx, n0]
          · simp (config := {decide := true}) only [Gx, if_true, if_false, and_true, Sx, d0]
          · simp (config := {decide := true}) only [Gx, if_true, if_false, and_true, Sx, n0, q0]
          · simp (config := {decide := true}) only [Gx, if_true, if_false, and_true, Sx, n0, q1]
          · simp (config := {decide := true}) only [Gx, if_true, if_false, and_true, Sx, n0, q5]
          · simp (config := {decide := true}) only [Gx, if_true, if_false, and_true, Sx, n0]
          · rw [hP1]
            simp (config := {decide := true}) only [Gx, if_true, if_false, and_true, Sx, n0]
          · simp (config := {decide := true}) only [Gx, if_true, if_false, and_true, Sx, n0]
        · have e3 : decide ((c.toNat : Int) ≥ 128) = false := by simp; omega
          rw [if_neg h2] at he
          repeat' (first
    | (with_reducible apply Wc.seq)
    | (apply Wc.ops; (focus ((repeat' (first
      | with_reducible exact RO.nil
      | ((with_reducible apply RO.run (awant_none rfl)); (focus ((first | simp (config := {decide := true}) only [awant, ayield_get, oper1, aop, opv, opvs, opvo, opvp, abuiltin, aun, Gx, if_true, if_false, and_true, decide_true, decide_false, abin, isShift, aint, roV, pair, bind, Option.bind, acall, Sx, n0, q0, q6, q7, q8, Qx, Hx, c1, w1, s1, tm, w4, w5, w6, e3, w3] | skip); with_reducible rfl))))); done)))
    | (refine Wc.cond2 (by simp (config := {decide := true}) only [opv, Gx, if_true, if_false, and_true, decide_true, decide_false, Sx, n0, q0, q6, q7, q8, Qx, Hx, c1, w1, s1, tm, w4, w5, w6, e3, w3]; try with_reducible rfl) (fun hb => ?_) (fun hb => ?_) <;> try contradiction)
    | refine Wc.skip ?_
    | refine Wc.ret ?_
    | refine Wc.exit ?_
    | refine Wc.block ?_)
          refine Wc.forget (fun A => A.n = 81 ∧ A.defers = [] ∧ A.get 0 = .pointer (some (own k)) ∧ A.get 1 = .int .i64 (most : Nat) ∧ A.get 5 = .int .i64 (pos : Nat) ∧ A.get 6 = .int .i64 (n2 : Nat) ∧ A.get 8 = .int .i64 (i : Nat) ∧ A.get 9 = .int .i64 (c.toNat : Nat)) ⟨by simp (config := {decide := true}) only [Gx, if_true, if_false, and_true, Sx, n0], by simp (config := {decide := true}) only [Gx, if_true, if_false, and_true, Sx, d0], by first | (simp (config := {decide := true}) only [Gx, if_true, if_false, and_true, Sx, n0, q0, q1, q5, q6, q8]; done) | (simp (config := {decide := true}) only [Gx, if_true, if_false, and_true, Sx, n0, q0, q1, q5, q6, q8]; rfl), by first | (simp (config := {decide := true}) only [Gx, if_true, if_false, and_true, Sx, n0, q0, q1, q5, q6, q8]; done) | (simp (config := {decide := true}) only [Gx, if_true, if_false, and_true, Sx, n0, q0, q1, q5, q6, q8]; rfl), by first | (simp (config := {decide := true}) only [Gx, if_true, if_false, and_true, Sx, n0, q0, q1, q5, q6, q8]; done) | (simp (config := {decide := true}) only [Gx, if_true, if_false, and_true, Sx, n0, q0, q1, q5, q6, q8]; rfl), by first | (simp (config := {decide := true}) only [Gx, if_true, if_false, and_true, Sx, n0, q0, q1, q5, q6, q8]; done) | (simp (config := {decide := true}) only [Gx, if_true, if_false, and_true, Sx, n0, q0, q1, q5, q6, q8]; rfl), by first | (simp (config := {decide := true}) only [Gx, if_true, if_false, and_true, Sx, n0, q0, q1, q5, q6, q8]; done) | (simp (config := {decide := true}) only [Gx, if_true, if_false, and_true, Sx, n0, q0, q1, q5, q6, q8]; rfl), by first | (simp (config := {decide := true}) only [Gx, if_true, if_false, and_true, Sx, n0, q0, q1, q5, q6, q8]; done) | (simp (config := {decide := true}) only [Gx, if_true, if_false, and_true, Sx, n0, q0, q1, q5, q6, q8]; rfl)⟩ ?_
          rintro A0 ⟨n0, d0, q0, q1, q5, q6, q8, q9⟩
          have bad : ∀ (e : Int), ∃ nf g', (ev tab E I nf).call 52 [.pointer (some (own k)), .int .i64 e, .int .i64 (pos : Nat)] h1 = some (.tuple #[], g') ∧ Mod (fun j => j = k) g g' ∧ Ref k v (p + 1) items pos e g' := fun e => by
            obtain ⟨nf, g', ck, m, b'⟩ := rfail52 (E := E) (I := I) (fun args h => hI _ args h (.inr rfl)) M1.fit b1 e pos
            exact ⟨nf, g', ck, M1.trans m, b'⟩
          by_cases h3 : c.toNat = 0 ∧ 0 < i
          · rw [if_pos h3] at he
            have e4 : decide ((c.toNat : Int) = 0) = true := by simp; omega
            have e5 : decide ((i : Int) > 0) = true := by simp; omega
            obtain ⟨nf, g', ck, m', b'⟩ := bad 4
            repeat' (first
    | (with_reducible apply Wc.seq)
    | (apply Wc.opsN nf; (focus ((repeat' (first
      | with_reducible exact RO.nil
      | ((with_reducible apply RO.run (awant_none rfl)); (focus ((first | simp (config := {decide := true}) only [awant, ayield_get, oper1, aop, opv, opvs, opvo, opvp, abuiltin, aun, Gx, if_true, if_false, and_true, decide_true, decide_false, abin, isShift, aint, roV, pair, bind, Option.bind, acall, Sx, n0, q0, q1, q5, q6, q8, q9, Qx, Hx, e4, e5, ck] | skip); with_reducible rfl)))
      | ((with_reducible apply RO.runG); (focus rfl); (focus rfl); (focus (simp (config := {decide := true}) only [Gx, if_true, if_false, and_true, Sx, decide_true, decide_false, n0, q0, q1, q5, q6, q8, q9, Qx, Hx, e4, e5, ck]; done)); (focus ((first | simp (config := {decide := true}) only [awant, ayield_get, oper1, aop, opv, opvs, opvo, opvp, abuiltin, aun, Gx, if_true, if_false, and_true, decide_true, decide_false, abin, isShift, aint, roV, pair, bind, Option.bind, acall, Sx, n0, q0, q1, q5, q6, q8, q9, Qx, Hx, e4, e5, ck] | skip); with_reducible rfl)))
      | ((with_reducible apply RO.skipG); (focus rfl); (focus rfl); (focus (simp (config := {decide := true}) only [Gx, if_true, if_false, and_true, Sx, decide_true, decide_false, n0, q0, q1, q5, q6, q8, q9, Qx, Hx, e4, e5, ck]; done))))); done)))
    | (refine Wc.quiet (by kernel_rfl) (by repeat' (first
      | with_reducible exact QO.nil
      | ((with_reducible apply QO.cons rfl rfl); (focus ((first | simp (config := {decide := true}) only [awant, ayield_get, oper1, aop, opv, opvs, opvo, opvp, abuiltin, aun, Gx, if_true, if_false, and_true, decide_true, decide_false, abin, isShift, aint, roV, pair, bind, Option.bind, acall, Sx, n0, q0, q1, q5, q6, q8, q9, Qx, Hx, e4, e5, ck] | skip); with_reducible rfl))))) ?_)
    | (refine Wc.cond2 (by simp (config := {decide := true}) only [opv, Gx, if_true, if_false, and_true, decide_true, decide_false, Sx, n0, q0, q1, q5, q6, q8, q9, Qx, Hx, e4, e5, ck]; try with_reducible rfl) (fun hb => ?_) (fun hb => ?_) <;> try contradiction)
    | refine Wc.skip ?_
    | refine Wc.ret ?_
    | refine Wc.exit ?_
    | refine Wc.block ?_)
            refine ⟨by simp (config := {decide := true}) only [Gx, if_true, if_false, and_true, Sx, n0], by simp (config := {decide := true}) only [Gx, if_true, if_false, and_true, Sx, d0], m', .inr ⟨rfl, ?_⟩⟩
            rw [he]
            exact ⟨n2, p + 1, by simp (config := {decide := true}) only [Gx, if_true, if_false, and_true, Sx, n0, q6], b'⟩
          · rw [if_neg h3] at he
            rw [if_neg (Nat.not_lt_zero n2)] at he
            by_cases h6 : c.toNat = 0
            · have e4 : decide ((c.toNat : Int) = 0) = true := by simp; omega
              have e5 : decide ((i : Int) > 0) = false := by simp; omega
              by_cases h4 : most < n2
              · rw [if_pos h4] at he
                have e6 : decide ((n2 : Int) > (most : Int)) = true := by simp; omega
                obtain ⟨nf, g', ck, m', b'⟩ := bad 3
                repeat' (first
    | (with_reducible apply Wc.seq)
    | (apply Wc.opsN nf; (focus ((repeat' (first
      | with_reducible exact RO.nil
      | ((with_reducible apply RO.run (awant_none rfl)); (focus ((first | simp (config := {decide := true}) only [awant, ayield_get, oper1, aop, opv, opvs, opvo, opvp, abuiltin, aun, Gx, if_true, if_false, and_true, decide_true, decide_false, abin, isShift, aint, roV, pair, bind, Option.bind, acall, Sx, n0, q0, q1, q5, q6, q8, q9, Qx, Hx, e4, e5, e6, ck] | skip); with_reducible rfl)))
      | ((with_reducible apply RO.runG); (focus rfl); (focus rfl); (focus (simp (config := {decide := true}) only [Gx, if_true, if_false, and_true, Sx, decide_true, decide_false, n0, q0, q1, q5, q6, q8, q9, Qx, Hx, e4, e5, e6, ck]; done)); (focus ((first | simp (config := {decide := true}) only [awant, ayield_get, oper1, aop, opv, opvs, opvo, opvp, abuiltin, aun, Gx, if_true, if_false, and_true, decide_true, decide_false, abin, isShift, aint, roV, pair, bind, Option.bind, acall, Sx, n0, q0, q1, q5, q6, q8, q9, Qx, Hx, e4, e5, e6, ck] | skip); with_reducible rfl)))
      | ((with_reducible apply RO.skipG); (focus rfl); (focus rfl); (focus (simp (config := {decide := true}) only [Gx, if_true, if_false, and_true, Sx, decide_true, decide_false, n0, q0, q1, q5, q6, q8, q9, Qx, Hx, e4, e5, e6, ck]; done))))); done)))
    | (refine Wc.quiet (by kernel_rfl) (by repeat' (first
      | with_reducible exact QO.nil
      | ((with_reducible apply QO.cons rfl rfl); (focus ((first | simp (config := {decide := true}) only [awant, ayield_get, oper1, aop, opv, opvs, opvo, opvp, abuiltin, aun, Gx, if_true, if_false, and_true, decide_true, decide_false, abin, isShift, aint, roV, pair, bind, Option.bind, acall, Sx, n0, q0, q1, q5, q6, q8, q9, Qx, Hx, e4, e5, e6, ck] | skip); with_reducible rfl))))) ?_)
    | (refine Wc.cond2 (by simp (config := {decide := true}) only [opv, Gx, if_true, if_false, and_true, decide_true, decide_false, Sx, n0, q0, q1, q5, q6, q8, q9, Qx, Hx, e4, e5, e6, ck]; try with_reducible rfl) (fun hb => ?_) (fun hb => ?_) <;> try contradiction)
    | refine Wc.skip ?_
    | refine Wc.ret ?_
    | refine Wc.exit ?_
    | refine Wc.block ?_)
                refine ⟨by simp (config := {decide := true}) only [Gx, if_true, if_false, and_true, Sx, n0], by simp (config := {decide := true}) only [Gx, if_true, if_false, and_true, Sx, d0], m', .inr ⟨rfl, ?_⟩⟩
                rw [he]
                exact ⟨n2, p + 1, by simp (config := {decide := true}) only [Gx, if_true, if_false, and_true, Sx, n0, q6], b'⟩
              · rw [if_neg h4] at he
                have e6 : decide ((n2 : Int) > (most : Int)) = false := by simp; omega
                repeat' (first
    | (with_reducible apply Wc.seq)
    | (apply Wc.ops; (focus ((repeat' (first
      | with_reducible exact RO.nil
      | ((with_reducible apply RO.run (awant_none rfl)); (focus ((first | simp (config := {decide := true}) only [awant, ayield_get, oper1, aop, opv, opvs, opvo, opvp, abuiltin, aun, Gx, if_true, if_false, and_true, decide_true, decide_false, abin, isShift, aint, roV, pair, bind, Option.bind, acall, Sx, n0, q0, q1, q5, q6, q8, q9, Qx, Hx, e4, e5, e6] | skip); with_reducible rfl)))
      | ((with_reducible apply RO.runG); (focus rfl); (focus rfl); (focus (simp (config := {decide := true}) only [Gx, if_true, if_false, and_true, Sx, decide_true, decide_false, n0, q0, q1, q5, q6, q8, q9, Qx, Hx, e4, e5, e6]; done)); (focus ((first | simp (config := {decide := true}) only [awant, ayield_get, oper1, aop, opv, opvs, opvo, opvp, abuiltin, aun, Gx, if_true, if_false, and_true, decide_true, decide_false, abin, isShift, aint, roV, pair, bind, Option.bind, acall, Sx, n0, q0, q1, q5, q6, q8, q9, Qx, Hx, e4, e5, e6] | skip); with_reducible rfl)))
      | ((with_reducible apply RO.skipG); (focus rfl); (focus rfl); (focus (simp (config := {decide := true}) only [Gx, if_true, if_false, and_true, Sx, decide_true, decide_false, n0, q0, q1, q5, q6, q8, q9, Qx, Hx, e4, e5, e6]; done))))); done)))
    | (refine Wc.quiet (by kernel_rfl) (by repeat' (first
      | with_reducible exact QO.nil
      | ((with_reducible apply QO.cons rfl rfl); (focus ((first | simp (config := {decide := true}) only [awant, ayield_get, oper1, aop, opv, opvs, opvo, opvp, abuiltin, aun, Gx, if_true, if_false, and_true, decide_true, decide_false, abin, isShift, aint, roV, pair, bind, Option.bind, acall, Sx, n0, q0, q1, q5, q6, q8, q9, Qx, Hx, e4, e5, e6] | skip); with_reducible rfl))))) ?_)
    | (refine Wc.cond2 (by simp (config := {decide := true}) only [opv, Gx, if_true, if_false, and_true, decide_true, decide_false, Sx, n0, q0, q1, q5, q6, q8, q9, Qx, Hx, e4, e5, e6]; try with_reducible rfl) (fun hb => ?_) (fun hb => ?_) <;> try contradiction)
    | refine Wc.skip ?_
    | refine Wc.ret ?_
    | refine Wc.exit ?_
    | refine Wc.block ?_)
                refine ⟨by simp (config := {decide := true}) only [Gx, if_true, if_false, and_true, Sx, n0], by simp (config := {decide := true}) only [Gx, if_true, if_false, and_true, Sx, d0], M1, .inr ⟨rfl, ?_⟩⟩
                rw [he]
                exact ⟨by simp (config := {decide := true}) only [Gx, if_true, if_false, and_true, Sx, n0, q6], b1⟩
            · have e4 : decide ((c.toNat : Int) = 0) = false := by simp; omega
              have e5 := e4
              by_cases h4 : most < n2
              · rw [if_pos h4] at he
                have e6 : decide ((n2 : Int) > (most : Int)) = true := by simp; omega
                obtain ⟨nf, g', ck, m', b'⟩ := bad 3
                repeat' (first
    | (with_reducible apply Wc.seq)
    | (apply Wc.opsN nf; (focus ((repeat' (first
      | with_reducible exact RO.nil
      | ((with_reducible apply RO.run (awant_none rfl)); (focus ((first | simp (config := {decide := true}) only [awant, ayield_get, oper1, aop, opv, opvs, opvo, opvp, abuiltin, aun, Gx, if_true, if_false, and_true, decide_true, decide_false, abin, isShift, aint, roV, pair, bind, Option.bind, acall, Sx, n0, q0, q1, q5, q6, q8, q9, Qx, Hx, e4, e5, e6, ck] | skip); with_reducible rfl)))
      | ((with_reducible apply RO.runG); (focus rfl); (focus rfl); (focus (simp (config := {decide := true}) only [Gx, if_true, if_false, and_true, Sx, decide_true, decide_false, n0, q0, q1, q5, q6, q8, q9, Qx, Hx, e4, e5, e6, ck]; done)); (focus ((first | simp (config := {decide := true}) only [awant, ayield_get, oper1, aop, opv, opvs, opvo, opvp, abuiltin, aun, Gx, if_true, if_false, and_true, decide_true, decide_false, abin, isShift, aint, roV, pair, bind, Option.bind, acall, Sx, n0, q0, q1, q5, q6, q8, q9, Qx, Hx, e4, e5, e6, ck] | skip); with_reducible rfl)))
      | ((with_reducible apply RO.skipG); (focus rfl); (focus rfl); (focus (simp (config := {decide := true}) only [Gx, if_true, if_false, and_true, Sx, decide_true, decide_false, n0, q0, q1, q5, q6, q8, q9, Qx, Hx, e4, e5, e6, ck]; done))))); done)))
    | (refine Wc.quiet (by kernel_rfl) (by repeat' (first
      | with_reducible exact QO.nil
      | ((with_reducible apply QO.cons rfl rfl); (focus ((first | simp (config := {decide := true}) only [awant, ayield_get, oper1, aop, opv, opvs, opvo, opvp, abuiltin, aun, Gx, if_true, if_false, and_true, decide_true, decide_false, abin, isShift, aint, roV, pair, bind, Option.bind, acall, Sx, n0, q0, q1, q5, q6, q8, q9, Qx, Hx, e4, e5, e6, ck] | skip); with_reducible rfl))))) ?_)
    | (refine Wc.cond2 (by simp (config := {decide := true}) only [opv, Gx, if_true, if_false, and_true, decide_true, decide_false, Sx, n0, q0, q1, q5, q6, q8, q9, Qx, Hx, e4, e5, e6, ck]; try with_reducible rfl) (fun hb => ?_) (fun hb => ?_) <;> try contradiction)
    | refine Wc.skip ?_
    | refine Wc.ret ?_
    | refine Wc.exit ?_
    | refine Wc.block ?_)
                refine ⟨by simp (config := {decide := true}) only [Gx, if_true, if_false, and_true, Sx, n0], by simp (config := {decide := true}) only [Gx, if_true, if_false, and_true, Sx, d0], m', .inr ⟨rfl, ?_⟩⟩
                rw [he]
                exact ⟨n2, p + 1, by simp (config := {decide := true}) only [Gx, if_true, if_false, and_true, Sx, n0, q6], b'⟩
              · rw [if_neg h4] at he
                have e6 : decide ((n2 : Int) > (most : Int)) = false := by simp; omega
                repeat' (first
    | (with_reducible apply Wc.seq)
    | (apply Wc.ops; (focus ((repeat' (first
      | with_reducible exact RO.nil
      | ((with_reducible apply RO.run (awant_none rfl)); (focus ((first | simp (config := {decide := true}) only [awant, ayield_get, oper1, aop, opv, opvs, opvo, opvp, abuiltin, aun, Gx, if_true, if_false, and_true, decide_true, decide_false, abin, isShift, aint, roV, pair, bind, Option.bind, acall, Sx, n0, q0, q1, q5, q6, q8, q9, Qx, Hx, e4, e5, e6] | skip); with_reducible rfl)))
      | ((with_reducible apply RO.runG); (focus rfl); (focus rfl); (focus (simp (config := {decide := true}) only [Gx, if_true, if_false, and_true, Sx, decide_true, decide_false, n0, q0, q1, q5, q6, q8, q9, Qx, Hx, e4, e5, e6]; done)); (focus ((first | simp (config := {decide := true}) only [awant, ayield_get, oper1, aop, opv, opvs, opvo, opvp, abuiltin, aun, Gx, if_true, if_false, and_true, decide_true, decide_false, abin, isShift, aint, roV, pair, bind, Option.bind, acall, Sx, n0, q0, q1, q5, q6, q8, q9, Qx, Hx, e4, e5, e6] | skip); with_reducible rfl)))
      | ((with_reducible apply RO.skipG); (focus rfl); (focus rfl); (focus (simp (config := {decide := true}) only [Gx, if_true, if_false, and_true, Sx, decide_true, decide_false, n0, q0, q1, q5, q6, q8, q9, Qx, Hx, e4, e5, e6]; done))))); done)))
    | (refine Wc.quiet (by kernel_rfl) (by repeat' (first
      | with_reducible exact QO.nil
      | ((with_reducible apply QO.cons rfl rfl); (focus ((first | simp (config := {decide := true}) only [awant, ayield_get, oper1, aop, opv, opvs, opvo, opvp, abuiltin, aun, Gx, if_true, if_false, and_true, decide_true, decide_false, abin, isShift, aint, roV, pair, bind, Option.bind, acall, Sx, n0, q0, q1, q5, q6, q8, q9, Qx, Hx, e4, e5, e6] | skip); with_reducible rfl))))) ?_)
    | (refine Wc.cond2 (by simp (config := {decide := true}) only [opv, Gx, if_true, if_false, and_true, decide_true, decide_false, Sx, n0, q0, q1, q5, q6, q8, q9, Qx, Hx, e4, e5, e6]; try with_reducible rfl) (fun hb => ?_) (fun hb => ?_) <;> try contradiction)
    | refine Wc.skip ?_
    | refine Wc.ret ?_
    | refine Wc.exit ?_
    | refine Wc.block ?_)
                refine ⟨by simp (config := {decide := true}) only [Gx, if_true, if_false, and_true, Sx, n0], by simp (config := {decide := true}) only [Gx, if_true, if_false, and_true, Sx, d0], M1, .inr ⟨rfl, ?_⟩⟩
                rw [he]
                exact ⟨by simp (config := {decide := true}) only [Gx, if_true, if_false, and_true, Sx, n0, q6], b1⟩
  refine Wc.call (hI _ _ _ (.inl rfl)) fn91 rfl ?_
  generalize hA0 : (⟨T.ofList [.pointer (some (own k)), .int .i64 (most : Nat)] 0 .nil, max ([.pointer (some (own k)), .int .i64 (most : Nat)] : List Value).length Tryd.f91.ntmps, []⟩ : Ac) = A0
  have n0 : A0.n = 81 := by rw [← hA0]; rfl
  have q0 : A0.get 0 = .pointer (some (own k)) := by rw [← hA0]; rfl
  have q1 : A0.get 1 = .int .i64 (most : Nat) := by rw [← hA0]; rfl
  have d0 : A0.defers = [] := by rw [← hA0]
  clear hA0
  obtain ⟨c0, c1, c2, c3, c4⟩ := b.at (E := E) hv2
  repeat' (first
    | (with_reducible apply Wc.seq)
    | (apply Wc.ops; (focus ((repeat' (first
      | with_reducible exact RO.nil
      | ((with_reducible apply RO.run (awant_none rfl)); (focus ((first | simp (config := {decide := true}) only [awant, ayield_get, oper1, aop, opv, opvs, opvo, opvp, abuiltin, aun, Gx, if_true, if_false, and_true, decide_true, decide_false, abin, isShift, aint, roV, pair, bind, Option.bind, acall, Sx, n0, q0, q1, Qx, Hx, c1] | skip); with_reducible rfl))))); done)))
    | (refine Wc.cond2 (by simp (config := {decide := true}) only [opv, Gx, if_true, if_false, and_true, decide_true, decide_false, Sx, n0, q0, q1, Qx, Hx, c1]; try with_reducible rfl) (fun hb => ?_) (fun hb => ?_) <;> try contradiction)
    | refine Wc.skip ?_
    | refine Wc.ret ?_
    | refine Wc.exit ?_
    | refine Wc.block ?_)
  refine (key 6 0 pos 0 _ g rfl (by omega) (by decide) hp ?_ ?_ ?_ ?_ ?_ ?_ ?_ ?_ (Mod.refl f) b rfl).mono ?_
  · simp (config := {decide := true}) only [Gx, if_true, if_false, and_true, Sx, n0]
  · simp (config := {decide := true}) only [Gx, if_true, if_false, and_true, Sx, d0]
  · simp (config := {decide := true}) only [Gx, if_true, if_false, and_true, Sx, n0, q0]
  · simp (config := {decide := true}) only [Gx, if_true, if_false, and_true, Sx, n0, q1]
  · simp (config := {decide := true}) only [Gx, if_true, if_false, and_true, Sx, n0]
  · simp (config := {decide := true}) only [Gx, if_true, if_false, and_true, Sx, n0]
    rfl
  · simp (config := {decide := true}) only [Gx, if_true, if_false, and_true, Sx, n0]
    rfl
  · simp (config := {decide := true}) only [Gx, if_true, if_false, and_true, Sx, n0]
    rfl
  · rintro ex A0 h' ⟨n0, d0, M, ⟨rfl, q0, q5, he, p', b'⟩ | ⟨rfl, hq⟩⟩
    · obtain ⟨nf, g', ck, m, b2⟩ := rfail52 (E := E) (I := I) (fun args h => hI _ args h (.inr rfl)) M.fit b' 3 pos
      simp only [if_true]
      repeat' (first
    | (with_reducible apply Wc.seq)
    | (apply Wc.opsN nf; (focus ((repeat' (first
      | with_reducible exact RO.nil
      | ((with_reducible apply RO.run (awant_none rfl)); (focus ((first | simp (config := {decide := true}) only [awant, ayield_get, oper1, aop, opv, opvs, opvo, opvp, abuiltin, aun, Gx, if_true, if_false, and_true, decide_true, decide_false, abin, isShift, aint, roV, pair, bind, Option.bind, acall, Sx, n0, q0, q5, Qx, Hx, ck] | skip); with_reducible rfl))))); done)))
    | (refine Wc.cond2 (by simp (config := {decide := true}) only [opv, Gx, if_true, if_false, and_true, decide_true, decide_false, Sx, n0, q0, q5, Qx, Hx, ck]; try with_reducible rfl) (fun hb => ?_) (fun hb => ?_) <;> try contradiction)
    | refine Wc.skip ?_
    | refine Wc.ret ?_
    | refine Wc.exit ?_
    | refine Wc.block ?_)
      refine done_q (v := .int .i64 0) (.inr rfl) (by simp (config := {decide := true}) only [Gx, if_true, if_false, and_true, Sx, d0]) rfl (by simp (config := {decide := true}) only [Gx, if_true, if_false, and_true, Sx, n0]) ⟨M.trans m, ?_⟩
      rw [he]
      exact ⟨0, p', rfl, b2⟩
    · exact done_q (.inr rfl) d0 rfl rfl ⟨M, hq⟩

theorem rsome92 (hI : ∀ f args h, (f = 92 ∨ f = 91 ∨ f = 52) → I f args h = none) {k : Nat} {v : Value} {bs : List UInt8} (hB : ∀ h, Byt E h v bs) {pos items : Nat} {w : Int} {g : H} (f : Fit g) (b : Ref k v pos items w 0 g) (hp : pos ≤ bs.length) (hl : bs.length ≤ 1000000) (most : Nat) (hm : most ≤ 1099511627776) (it0 : Nat) :
    ∃ n x g', (ev tab E I n).call 92 [.pointer (some (own k)), .int .i64 (most : Nat)] g = some (x, g') ∧ (Mod (fun j => j = k) g g' ∧ NumR k v (rdN bs 1 most pos it0) x items w g') := by
  obtain ⟨hv1, hv2, ln, hix⟩ := bytE (E := E) hB
  obtain ⟨nf, x, g1, c1', m1, hq⟩ := rnum91 (E := E) (I := I) (fun f args h hf => hI f args h (.inr hf)) hB f b hp hl most hm it0
  refine Wc.call (hI _ _ _ (.inl rfl)) fn92 rfl ?_
  generalize hA0 : (⟨T.ofList [.pointer (some (own k)), .int .i64 (most : Nat)] 0 .nil, max ([.pointer (some (own k)), .int .i64 (most : Nat)] : List Value).length Tryd.f92.ntmps, []⟩ : Ac) = A0
  have n0 : A0.n = 27 := by rw [← hA0]; rfl
  have q0 : A0.get 0 = .pointer (some (own k)) := by rw [← hA0]; rfl
  have q1 : A0.get 1 = .int .i64 (most : Nat) := by rw [← hA0]; rfl
  have d0 : A0.defers = [] := by rw [← hA0]
  clear hA0
  obtain ⟨c0, c1, c2, c3, c4⟩ := b.at (E := E) hv2
  rw [rdN_least]
  generalize hr : rdN bs 0 most pos it0 = r at hq
  cases r with
  | bad p e =>
    obtain ⟨m, pos', rfl, b'⟩ := hq
    obtain ⟨_, _, _, _, d4⟩ := b'.at (E := E) hv2
    have he := (rdN_bad hr hp).1
    have e1 : decide (e = 0) = false := by rcases he with rfl | rfl <;> decide
    repeat' (first
    | (with_reducible apply Wc.seq)
    | (apply Wc.opsN nf; (focus ((repeat' (first
      | with_reducible exact RO.nil
      | ((with_reducible apply RO.run (awant_none rfl)); (focus ((first | simp (config := {decide := true}) only [awant, ayield_get, oper1, aop, opv, opvs, opvo, opvp, abuiltin, aun, Gx, if_true, if_false, and_true, decide_true, decide_false, abin, isShift, aint, roV, pair, bind, Option.bind, acall, Sx, n0, q0, q1, Qx, Hx, c1, c1', d4, e1] | skip); with_reducible rfl)))
      | ((with_reducible apply RO.runG); (focus rfl); (focus rfl); (focus (simp (config := {decide := true}) only [Gx, if_true, if_false, and_true, Sx, decide_true, decide_false, n0, q0, q1, Qx, Hx, c1, c1', d4, e1]; done)); (focus ((first | simp (config := {decide := true}) only [awant, ayield_get, oper1, aop, opv, opvs, opvo, opvp, abuiltin, aun, Gx, if_true, if_false, and_true, decide_true, decide_false, abin, isShift, aint, roV, pair, bind, Option.bind, acall, Sx, n0, q0, q1, Qx, Hx, c1, c1', d4, e1] | skip); with_reducible rfl)))
      | ((with_reducible apply RO.skipG); (focus rfl); (focus rfl); (focus (simp (config := {decide := true}) only [Gx, if_true, if_false, and_true, Sx, decide_true, decide_false, n0, q0, q1, Qx, Hx, c1, c1', d4, e1]; done))))); done)))
    | (refine Wc.quiet (by kernel_rfl) (by repeat' (first
      | with_reducible exact QO.nil
      | ((with_reducible apply QO.cons rfl rfl); (focus ((first | simp (config := {decide := true}) only [awant, ayield_get, oper1, aop, opv, opvs, opvo, opvp, abuiltin, aun, Gx, if_true, if_false, and_true, decide_true, decide_false, abin, isShift, aint, roV, pair, bind, Option.bind, acall, Sx, n0, q0, q1, Qx, Hx, c1, c1', d4, e1] | skip); with_reducible rfl))))) ?_)
    | (refine Wc.cond2 (by simp (config := {decide := true}) only [opv, Gx, if_true, if_false, and_true, decide_true, decide_false, Sx, n0, q0, q1, Qx, Hx, c1, c1', d4, e1]; try with_reducible rfl) (fun hb => ?_) (fun hb => ?_) <;> try contradiction)
    | refine Wc.skip ?_
    | refine Wc.ret ?_
    | refine Wc.exit ?_
    | refine Wc.block ?_)
    exact done_q (v := .int .i64 (m : Nat)) (.inr rfl) (by simp (config := {decide := true}) only [Gx, if_true, if_false, and_true, Sx, d0]) rfl (by simp (config := {decide := true}) only [Gx, if_true, if_false, and_true, Sx, n0]) ⟨m1, m, pos', rfl, b'⟩
  | ok m p it =>
    obtain ⟨rfl, b'⟩ := hq
    obtain ⟨_, _, _, _, d4⟩ := b'.at (E := E) hv2
    by_cases h1 : m = 0
    · have e2 : decide ((m : Int) = 0) = true := by simp; omega
      obtain ⟨nf2, g', ck, m', b2⟩ := rfail52 (E := E) (I := I) (fun args h => hI _ args h (.inr (.inr rfl))) m1.fit b' 4 pos
      repeat' (first
    | (with_reducible apply Wc.seq)
    | (apply Wc.opsN nf; (focus ((repeat' (first
      | with_reducible exact RO.nil
      | ((with_reducible apply RO.run (awant_none rfl)); (focus ((first | simp (config := {decide := true}) only [awant, ayield_get, oper1, aop, opv, opvs, opvo, opvp, abuiltin, aun, Gx, if_true, if_false, and_true, decide_true, decide_false, abin, isShift, aint, roV, pair, bind, Option.bind, acall, Sx, n0, q0, q1, Qx, Hx, c1, c1', d4, e2] | skip); with_reducible rfl)))
      | ((with_reducible apply RO.runG); (focus rfl); (focus rfl); (focus (simp (config := {decide := true}) only [Gx, if_true, if_false, and_true, Sx, decide_true, decide_false, n0, q0, q1, Qx, Hx, c1, c1', d4, e2]; done)); (focus ((first | simp (config := {decide := true}) only [awant, ayield_get, oper1, aop, opv, opvs, opvo, opvp, abuiltin, aun, Gx, if_true, if_false, and_true, decide_true, decide_false, abin, isShift, aint, roV, pair, bind, Option.bind, acall, Sx, n0, q0, q1, Qx, Hx, c1, c1', d4, e2] | skip); with_reducible rfl)))
      | ((with_reducible apply RO.skipG); (focus rfl); (focus rfl); (focus (simp (config := {decide := true}) only [Gx, if_true, if_false, and_true, Sx, decide_true, decide_false, n0, q0, q1, Qx, Hx, c1, c1', d4, e2]; done))))); done)))
    | (refine Wc.quiet (by kernel_rfl) (by repeat' (first
      | with_reducible exact QO.nil
      | ((with_reducible apply QO.cons rfl rfl); (focus ((first | simp (config := {decide := true}) only [awant, ayield_get, oper1, aop, opv, opvs, opvo, opvp, abuiltin, aun, Gx, if_true, if_false, and_true, decide_true, decide_false, abin, isShift, aint, roV, pair, bind, Option.bind, acall, Sx, n0, q0, q1, Qx, Hx, c1, c1', d4, e2] | skip); with_reducible rfl))))) ?_)
    | (refine Wc.cond2 (by simp (config := {decide := true}) only [opv, Gx, if_true, if_false, and_true, decide_true, decide_false, Sx, n0, q0, q1, Qx, Hx, c1, c1', d4, e2]; try with_reducible rfl) (fun hb => ?_) (fun hb => ?_) <;> try contradiction)
    | refine Wc.skip ?_
    | refine Wc.ret ?_
    | refine Wc.exit ?_
    | refine Wc.block ?_)
      repeat' (first
    | (with_reducible apply Wc.seq)
    | (apply Wc.opsN nf2; (focus ((repeat' (first
      | with_reducible exact RO.nil
      | ((with_reducible apply RO.run (awant_none rfl)); (focus ((first | simp (config := {decide := true}) only [awant, ayield_get, oper1, aop, opv, opvs, opvo, opvp, abuiltin, aun, Gx, if_true, if_false, and_true, decide_true, decide_false, abin, isShift, aint, roV, pair, bind, Option.bind, acall, Sx, n0, q0, q1, Qx, Hx, ck] | skip); with_reducible rfl))))); done)))
    | (refine Wc.cond2 (by simp (config := {decide := true}) only [opv, Gx, if_true, if_false, and_true, decide_true, decide_false, Sx, n0, q0, q1, Qx, Hx, ck]; try with_reducible rfl) (fun hb => ?_) (fun hb => ?_) <;> try contradiction)
    | refine Wc.skip ?_
    | refine Wc.ret ?_
    | refine Wc.exit ?_
    | refine Wc.block ?_)
      refine done_q (v := .int .i64 (m : Nat)) (.inr rfl) (by simp (config := {decide := true}) only [Gx, if_true, if_false, and_true, Sx, d0]) rfl (by simp (config := {decide := true}) only [Gx, if_true, if_false, and_true, Sx, n0]) ⟨m1.trans m', ?_⟩
      simp only [h1]
      exact ⟨0, p, rfl, b2⟩
    · have e2 : decide ((m : Int) = 0) = false := by simp; omega
      repeat' (first
    | (with_reducible apply Wc.seq)
    | (apply Wc.opsN nf; (focus ((repeat' (first
      | with_reducible exact RO.nil
      | ((with_reducible apply RO.run (awant_none rfl)); (focus ((first | simp (config := {decide := true}) only [awant, ayield_get, oper1, aop, opv, opvs, opvo, opvp, abuiltin, aun, Gx, if_true, if_false, and_true, decide_true, decide_false, abin, isShift, aint, roV, pair, bind, Option.bind, acall, Sx, n0, q0, q1, Qx, Hx, c1, c1', d4, e2] | skip); with_reducible rfl)))
      | ((with_reducible apply RO.runG); (focus rfl); (focus rfl); (focus (simp (config := {decide := true}) only [Gx, if_true, if_false, and_true, Sx, decide_true, decide_false, n0, q0, q1, Qx, Hx, c1, c1', d4, e2]; done)); (focus ((first | simp (config := {decide := true}) only [awant, ayield_get, oper1, aop, opv, opvs, opvo, opvp, abuiltin, aun, Gx, if_true, if_false, and_true, decide_true, decide_false, abin, isShift, aint, roV, pair, bind, Option.bind, acall, Sx, n0, q0, q1, Qx, Hx, c1, c1', d4, e2] | skip); with_reducible rfl)))
      | ((with_reducible apply RO.skipG); (focus rfl); (focus rfl); (focus (simp (config := {decide := true}) only [Gx, if_true, if_false, and_true, Sx, decide_true, decide_false, n0, q0, q1, Qx, Hx, c1, c1', d4, e2]; done))))); done)))
    | (refine Wc.quiet (by kernel_rfl) (by repeat' (first
      | with_reducible exact QO.nil
      | ((with_reducible apply QO.cons rfl rfl); (focus ((first | simp (config := {decide := true}) only [awant, ayield_get, oper1, aop, opv, opvs, opvo, opvp, abuiltin, aun, Gx, if_true, if_false, and_true, decide_true, decide_false, abin, isShift, aint, roV, pair, bind, Option.bind, acall, Sx, n0, q0, q1, Qx, Hx, c1, c1', d4, e2] | skip); with_reducible rfl))))) ?_)
    | (refine Wc.cond2 (by simp (config := {decide := true}) only [opv, Gx, if_true, if_false, and_true, decide_true, decide_false, Sx, n0, q0, q1, Qx, Hx, c1, c1', d4, e2]; try with_reducible rfl) (fun hb => ?_) (fun hb => ?_) <;> try contradiction)
    | refine Wc.skip ?_
    | refine Wc.ret ?_
    | refine Wc.exit ?_
    | refine Wc.block ?_)
      refine done_q (v := .int .i64 (m : Nat)) (.inr rfl) (by simp (config := {decide := true}) only [Gx, if_true, if_false, and_true, Sx, d0]) rfl (by simp (config := {decide := true}) only [Gx, if_true, if_false, and_true, Sx, n0]) ⟨m1, ?_⟩
      simp only [if_neg (show ¬ m < 1 by omega)]
      exact ⟨rfl, b'⟩
end Go.Proofs.YtofijpbmbmbnhaaDoor
