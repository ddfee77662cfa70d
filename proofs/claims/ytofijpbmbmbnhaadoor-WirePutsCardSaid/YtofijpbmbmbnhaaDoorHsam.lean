/- A store of handed in bytes; an item that is made of it. -/
import Derived.Test.YtofijpbmbmbnhaaDoorHsal
set_option linter.unusedSimpArgs false
set_option linter.unusedVariables false
set_option maxRecDepth 100000
set_option maxHeartbeats 8000000
namespace Go.Proofs.YtofijpbmbmbnhaaDoor
open Go Go.Hs Go.Proofs
variable {E : Env} {I : Known}
theorem fn24 : tab.fn.get 24 = some Tryd.f24 := by kernel_rfl
theorem fn59 : tab.fn.get 59 = some Tryd.f59 := by kernel_rfl
theorem fn23 : tab.fn.get 23 = some Tryd.f23 := by kernel_rfl
def Bin (E : Env) (h : H) (sl : Value) (bs : List Int) : Prop := (sl = .slice none 0 0 ∧ bs = []) ∨ ∃ a c, sl = .slice (some a) bs.length c ∧ bs.length ≤ c ∧ h.cells E a bs.length = some (bs.map (Value.int .u8)) ∧ a.spot ≠ some 0
theorem Bin.grow {h g : H} {sl : Value} {bs : List Int} (b : Bin E h sl bs) (hg : Grows h g) : Bin E g sl bs := by
  rcases b with b | ⟨a, c, e1, e2, e3, e4⟩
  · exact .inl b
  · exact .inr ⟨a, c, e1, e2, cells_grow hg e3, e4⟩
theorem anil31_0 : anil tab 31 (.slice none 0 0) (.slice none 0 0) = some true := by
  unfold anil
  rw [ty31]
  rfl
theorem anil31_1 (a : Addr) (n c : Nat) : anil tab 31 (.slice (some a) n c) (.slice none 0 0) = some false := by
  unfold anil
  rw [ty31]
theorem bs31_0 {h : H} : abuildSlice tab 31 0 [] h = some (.slice (some (own h.next)) 0 0, h.new (.cells [] 5 none)) := by
  unfold abuildSlice
  simp only [ty31, tz5]
  rfl
theorem clone59 (hI : ∀ args h, I 59 args h = none) {h : H} {sl : Value} {bs : List Int} (f : Fit h) (hb : Bin E h sl bs) (hl : bs.length ≤ 1000000) :
    ∃ n v h', (ev tab E I n).call 59 [sl] h = some (v, h') ∧ (Ahd h h' ∧ Bts (fun k => h'.next ≤ k) h' v bs) := by
  refine Wc.call (hI _ _) fn59 rfl ?_
  generalize hA0 : (⟨T.ofList [sl] 0 .nil, max ([sl] : List Value).length Tryd.f59.ntmps, []⟩ : Ac) = A0
  have n0 : A0.n = 8 := by rw [← hA0]; rfl
  have g00 : A0.get 0 = sl := by rw [← hA0]; rfl
  have d0 : A0.defers = [] := by rw [← hA0]
  rcases hb with ⟨rfl, rfl⟩ | ⟨a, c, rfl, hc, hcs, hs⟩
  · repeat' (first | (with_reducible apply Wc.seq) | (apply Wc.ops; (focus ((repeat' (first | with_reducible exact RO.nil | ((with_reducible apply RO.run (awant_none rfl)); (focus ((first | simp +decide only [awant, ayield_get, oper1, aop, opv, opvs, opvo, opvp, abuiltin, aun, Ac.get_put, abin, isShift, aint, roV, pair, bind, Option.bind, acall, Sx, n0, g00, anil31_0] | skip); with_reducible rfl))))); done))) | (refine Wc.cond2 (by simp +decide only [opv, Ac.get_put, Sx, n0, g00, anil31_0]; try with_reducible rfl) (fun hb => ?_) (fun hb => ?_) <;> try contradiction) | refine Wc.skip ?_ | refine Wc.ret ?_ | refine Wc.exit ?_ | refine Wc.block ?_)
    exact done_q (v := .slice none 0 0) (.inr rfl) (by simp +decide only [Ac.get_put, Sx, d0]) rfl (by simp +decide only [Ac.get_put, Sx, n0]) ⟨Ahd.refl f, .inl ⟨rfl, rfl⟩⟩
  · obtain ⟨s, h', happ, hcl⟩ := clone_step (D := tab) (E := E) (t := 31) (e := 5) (sz := 1) (by_ := 1) (n := bs.length) (c := c) (a := a) f ty31 tz5 rfl (by rw [Nat.mul_one]; exact hcs) (by rw [List.length_map, Nat.mul_one]) (by
      unfold roomy
      simp only [Bool.and_eq_true, Nat.ble_eq]; omega)
    obtain ⟨k, rt, rfl, hk, hk1, hrt⟩ := hcl.get
    repeat' (first | (with_reducible apply Wc.seq) | (apply Wc.ops; (focus ((repeat' (first | with_reducible exact RO.nil | ((with_reducible apply RO.run (awant_none rfl)); (focus ((first | simp +decide only [awant, ayield_get, oper1, aop, opv, opvs, opvo, opvp, abuiltin, aun, Ac.get_put, abin, isShift, aint, roV, pair, bind, Option.bind, acall, Sx, n0, g00, anil31_1, bs31_0, happ] | skip); with_reducible rfl))))); done))) | (refine Wc.cond2 (by simp +decide only [opv, Ac.get_put, Sx, n0, g00, anil31_1, bs31_0, happ]; try with_reducible rfl) (fun hb => ?_) (fun hb => ?_) <;> try contradiction) | refine Wc.skip ?_ | refine Wc.ret ?_ | refine Wc.exit ?_ | refine Wc.block ?_)
    exact done_q (v := .slice (some (own k)) bs.length bs.length) (.inr rfl) (by simp +decide only [Ac.get_put, Sx, d0]) rfl (by simp +decide only [Ac.get_put, Sx, n0]) ⟨hcl.ahd, .inr ⟨k, _, rt, rfl, hk, by have := hcl.ahd.fit.lt hk; omega⟩⟩
theorem amin300 (n : Nat) : amin (fun x y => if y < x then y else x) [.int .i64 (n : Nat), .int .i64 300] = some (.int .i64 ((min n 300 : Nat) : Int)) := by
  simp only [amin, aminG]
  by_cases q : (300 : Int) < (n : Int)
  · have : min n 300 = 300 := by omega
    simp [q, this]
  · have : min n 300 = n := by omega
    simp [q, this]
theorem ab101 (b : Option Addr) (n c : Nat) : abuild tab 101 [(0, .slice b n c), (2, .int .u64 88172645463325252)] = some (.agg ⟨[.slice b n c, .int .i64 0, .int .u64 88172645463325252]⟩) := by
  unfold abuild
  rw [ty101]
  rfl
theorem of24 (hI : ∀ f args h, (f = 24 ∨ f = 59) → I f args h = none) {h : H} {sl : Value} {bs : List Int} (f : Fit h) (hb : Bin E h sl bs) :
    ∃ n v h', (ev tab E I n).call 24 [sl] h = some (v, h') ∧ (∃ kS bv, v = .pointer (some (own kS)) ∧ Ahd h h' ∧ h.next ≤ kS ∧ Sto (fun k => kS ≤ k) kS bv (bs.take 300) h' 0) := by
  have hb3 : ∃ sl3, aslice tab 31 sl none (some (.int .i64 ((min bs.length 300 : Nat) : Int))) none h = some (sl3, h) ∧ Bin E h sl3 (bs.take 300) := by
    rcases hb with ⟨rfl, rfl⟩ | ⟨a, c, rfl, hc, hcs, hs⟩
    · refine ⟨.slice none 0 0, ?_, .inl ⟨rfl, rfl⟩⟩
      unfold aslice
      rw [ty31]
      rfl
    · obtain ⟨c', hc', e⟩ := aslice_start (D := tab) (t := 31) (m := min bs.length 300) (h := h) ty31 (Nat.min_le_left _ _) hc hs
      have hlt : (bs.take 300).length = min bs.length 300 := by rw [List.length_take]; omega
      refine ⟨_, e, .inr ⟨a, c', by rw [hlt], by rw [hlt]; exact hc', ?_, hs⟩⟩
      have := cells_sub (m := 0) (l := min bs.length 300) hcs (by omega)
      rw [aadd_zero, List.drop_zero] at this
      rw [hlt, this, List.map_take]
      congr 1
      rw [List.take_eq_take_iff, List.length_map]
      omega
  obtain ⟨sl3, hsl, hb3⟩ := hb3
  obtain ⟨nf, v, h1, hc, a1, hB⟩ := clone59 (E := E) (I := I) (fun args h => hI _ args h (.inr rfl)) f hb3 (by simp; omega)
  refine Wc.call (hI _ _ _ (.inl rfl)) fn24 rfl ?_
  generalize hA0 : (⟨T.ofList [sl] 0 .nil, max ([sl] : List Value).length Tryd.f24.ntmps, []⟩ : Ac) = A0
  have n0 : A0.n = 11 := by rw [← hA0]; rfl
  have g00 : A0.get 0 = sl := by rw [← hA0]; rfl
  have d0 : A0.defers = [] := by rw [← hA0]
  have hln : alen tab 31 sl h = some (.int .i64 (bs.length : Nat)) := by
    rcases hb with ⟨rfl, rfl⟩ | ⟨a, c, rfl, _⟩ <;> exact len31 _ _ _
  obtain ⟨vb, vn, vc, rfl⟩ : ∃ b n c, v = .slice b n c := by
    rcases hB with ⟨rfl, _⟩ | ⟨k, c, rt, rfl, _⟩ <;> exact ⟨_, _, _, rfl⟩
  generalize hB2 : (Blk.cells (Value.agg ⟨[.slice vb vn vc, .int .i64 0, .int .u64 88172645463325252]⟩).cells.toList 101 none) = B2
  have a2 : Ahd h1 (h1.new B2) := by rw [← hB2]; exact Ahd.new0 a1.fit rfl
  have b2 : (h1.new B2).blk h1.next = some (.cells [.slice vb vn vc, .int .i64 0, .int .u64 88172645463325252] 101 none) := by rw [← hB2]; exact new_blk_new rfl
  repeat' (first | (with_reducible apply Wc.seq) | (apply Wc.opsN nf; (focus ((repeat' (first | with_reducible exact RO.nil | ((with_reducible apply RO.run (awant_none rfl)); (focus ((first | simp +decide only [awant, ayield_get, oper1, aop, opv, opvs, opvo, opvp, abuiltin, aun, Ac.get_put, abin, isShift, aint, roV, pair, bind, Option.bind, acall, Sx, n0, g00, hln, amin300, hsl, hc, ab101, hB2] | skip); with_reducible rfl))))); done))) | (refine Wc.cond2 (by simp +decide only [opv, Ac.get_put, Sx, n0, g00, hln, amin300, hsl, hc, ab101, hB2]; try with_reducible rfl) (fun hb => ?_) (fun hb => ?_) <;> try contradiction) | refine Wc.skip ?_ | refine Wc.ret ?_ | refine Wc.exit ?_ | refine Wc.block ?_)
  refine done_q (v := .pointer (some (own h1.next))) (.inr rfl) (by simp +decide only [Ac.get_put, Sx, d0]) rfl (by simp +decide only [Ac.get_put, Sx, n0]) ⟨h1.next, .slice vb vn vc, rfl, a1.trans a2, a1.next, _, b2, by decide, by decide, ?_, by decide⟩
  exact (hB.mod (M := fun k => h1.next ≤ k) (a2.mod (M := fun _ => False)) (fun _ h => h.elim))
theorem grown23 (hI : ∀ f args h, (f = 121 ∨ f = 94 ∨ f = 93 ∨ f = 95 ∨ f = 58 ∨ f = 23) → I f args h = none) {kS : Nat} {bv : Value} {bs : List Int} {h : H} {a : Int} (hbs : bs.length ≤ 1000000) (deep left : Nat) (hdeep : deep ≤ 100) (hl1 : 1 ≤ left) (hl2 : left ≤ 100) (ha : a + 100 * left ≤ 100000000) (hfit : Fit h) (S : Sto (fun k => kS ≤ k) kS bv bs h a) :
    ∃ n v h', (ev tab E I n).call 23 [.pointer (some (own kS)), .int .i64 (left : Nat), .int .i64 (deep : Nat)] h = some (v, h') ∧ (∃ t, Mod (fun k => k = kS) h h' ∧ rep E (only (fun r => Nat.ble h.next r) h') t v ∧ smlI t ∧ lvlI t ≤ (deep : Int) + 1 ∧ isz t ≤ left ∧ ∃ a', Sto (fun k => kS ≤ k) kS bv bs h' a' ∧ a ≤ a' ∧ a' ≤ a + 21 * isz t) := by
  have lS : kS < h.next := by obtain ⟨_, e1, _⟩ := S; exact hfit.lt e1
  refine Wc.call (hI _ _ _ (by simp)) fn23 rfl ?_
  generalize hA0 : (⟨T.ofList [.pointer (some (own kS)), .int .i64 (left : Nat), .int .i64 (deep : Nat)] 0 .nil, max ([.pointer (some (own kS)), .int .i64 (left : Nat), .int .i64 (deep : Nat)] : List Value).length Tryd.f23.ntmps, []⟩ : Ac) = A0
  have n0 : A0.n = 12 := by rw [← hA0]; rfl
  have g00 : A0.get 0 = .pointer (some (own kS)) := by rw [← hA0]; rfl
  have g01 : A0.get 1 = .int .i64 (left : Nat) := by rw [← hA0]; rfl
  have g02 : A0.get 2 = .int .i64 (deep : Nat) := by rw [← hA0]; rfl
  have d0 : A0.defers = [] := by rw [← hA0]
  have z3 : tzero tab 3 = some (.int .i64 0) := tz3
  generalize hB1 : (Blk.cells (Value.agg #[.int .i64 0, .int .i64 0, .string ⟨#[]⟩, .slice none 0 0]).cells.toList 25 none) = B1
  generalize hh1 : h.new B1 = h1
  have a1 : Ahd h h1 := by rw [← hh1, ← hB1]; exact Ahd.new0 hfit rfl
  have b1 : h1.blk h.next = some (.cells [.int .i64 0, .int .i64 0, .string ⟨#[]⟩, .slice none 0 0] 25 none) := by rw [← hh1, ← hB1]; exact new_blk_new rfl
  have x1 : h1.next = h.next + 1 := by rw [← hh1]; rfl
  generalize hB2 : (Blk.cells (Value.int .i64 0).cells.toList 3 none) = B2
  generalize hh2 : h1.new B2 = h2
  have a2 : Ahd h1 h2 := by rw [← hh2, ← hB2]; exact Ahd.new0 a1.fit rfl
  have b2 : h2.blk h1.next = some (.cells [.int .i64 0] 3 none) := by rw [← hh2, ← hB2]; exact new_blk_new rfl
  have x2 : h2.next = h1.next + 1 := by rw [← hh2]; rfl
  have b1' := a2.grows _ _ b1
  have st3 := st3l (i := (left : Nat)) b2
  generalize hh3 : h2.setl h1.next (.cells [.int .i64 (left : Nat)] 3 none) = h3 at st3
  have m3 : Mod (fun k => k = h1.next) h2 h3 := by rw [← hh3]; exact (Mod.refl a2.fit).setl rfl rfl (by omega)
  have b3 : h3.blk h1.next = some (.cells [.int .i64 (left : Nat)] 3 none) := by rw [← hh3]; exact setl_same rfl
  have b1'' := m3.blk _ _ (by omega) b1'
  have S3 : Sto (fun k => k = kS ∨ k = h1.next) kS bv bs h3 a := ((((S.ahd a1).ahd a2).mod m3 (fun k hk => by omega) (by omega)).up m3.fit (fun k hk => by omega))
  obtain ⟨nf, v, h4, hc, t, a', left', m4, r4, gd, lv, sz, S4, b4, ha1, ha2⟩ := grown58 (E := E) (I := I) (fun f args h hf => hI f args h (by rcases hf with h | h | h | h | h <;> simp [h])) (kS := kS) (kL := h1.next) (by omega) hbs deep h3 a left hdeep hl1 hl2 ha m3.fit S3 b3
  have b64 := m4.blk _ _ (by omega) b1''
  obtain ⟨va, vb, vc, vd, rfl, hone⟩ : ∃ a b c d, v = .agg ⟨[a, b, c, d]⟩ ∧ [a, b, c, d].all isOne = true := by
    obtain ⟨k', m', tx', ks'⟩ := t
    obtain ⟨sb', sc', rfl, _⟩ := rep_slice r4
    exact ⟨_, _, _, _, rfl, rfl⟩
  have st5 := st25l (a := va) (b := vb) (c := vc) (d := vd) b64 hone
  have ln4 := m4.next
  have ln3 := m3.next
  generalize hh5 : h4.setl h.next (.cells [va, vb, vc, vd] 25 none) = h5 at st5
  have m5 : Mod (fun k => k = h.next) h4 h5 := by rw [← hh5]; exact (Mod.refl m4.fit).setl rfl rfl (by omega)
  have b5 : h5.blk h.next = some (.cells [va, vb, vc, vd] 25 none) := by rw [← hh5]; exact setl_same rfl
  have hp5 : ∀ k B, k = h.next → h4.blk k = some B → B.plain = true := by
    intro k B hk hb
    subst hk
    rw [b64] at hb; cases hb; rfl
  have r5 := rep_grow (only_mod (q := fun r => Nat.ble h.next r) m4.fit m5 hp5 (fun r hr => by rw [Nat.ble_eq] at hr ⊢; have := m3.next; omega)) r4
  have r5g := rep_grow (only_grows m5.fit) r5
  repeat' (first | (with_reducible apply Wc.seq) | (apply Wc.opsN nf; (focus ((repeat' (first | with_reducible exact RO.nil | ((with_reducible apply RO.run (awant_none rfl)); (focus ((first | simp +decide only [awant, ayield_get, oper1, aop, opv, opvs, opvo, opvp, abuiltin, aun, Ac.get_put, abin, isShift, aint, roV, pair, bind, Option.bind, acall, Sx, n0, g00, g01, g02, tz25, z3, hB1, hh1, hB2, hh2, st3, hc, st5] | skip); with_reducible rfl))))); done))) | (refine Wc.cond2 (by simp +decide only [opv, Ac.get_put, Sx, n0, g00, g01, g02, tz25, z3, hB1, hh1, hB2, hh2, st3, hc, st5]; try with_reducible rfl) (fun hb => ?_) (fun hb => ?_) <;> try contradiction) | refine Wc.skip ?_ | refine Wc.ret ?_ | refine Wc.exit ?_ | refine Wc.block ?_)
  refine done_cell (.inr rfl) (by simp +decide only [Ac.get_put, Sx, d0]) rfl (show _ = Value.pointer (some (own h.next)) by simp +decide only [Ac.get_put, Sx, n0]) (by rw [ld25, blk_cells b5 (n := 4) rfl hone]) ⟨t, ?_, r5, gd, lv, by omega, a', ?_, ha1, by omega⟩
  rotate_left
  · obtain ⟨seed, e1, e2, e3, e4, e5⟩ := S4
    obtain ⟨_, _, _, _, e4', _⟩ := S
    have mm : Mod (fun k => k = kS ∨ k = h1.next ∨ k = h.next) h h5 := (((a1.trans a2).mod.trans (m3.sub fun k hk => by omega)).trans (m4.sub fun k hk => by omega)).trans (m5.sub fun k hk => by omega)
    exact ⟨seed, m5.blk _ _ (by omega) e1, e2, e3, e4'.mod (mm.low (M := fun k => k = kS) hfit (fun k hk => by omega)) (fun k hk => Nat.le_of_eq hk.symm), e5⟩
  have mm : Mod (fun k => k = kS ∨ k = h1.next ∨ k = h.next) h h5 := (((a1.trans a2).mod.trans (m3.sub fun k hk => by omega)).trans (m4.sub fun k hk => by omega)).trans (m5.sub fun k hk => by omega)
  exact mm.low hfit (fun k hk => by omega)
theorem made (hI : ∀ f args h, (f = 121 ∨ f = 94 ∨ f = 93 ∨ f = 95 ∨ f = 58 ∨ f = 23 ∨ f = 24 ∨ f = 59) → I f args h = none) {h : H} {sl : Value} {bs : List Int} (f : Fit h) (hl : h.log = []) (hb : Bin E h sl bs) (deep left : Nat) (hdeep : deep ≤ 100) (hl1 : 1 ≤ left) (hl2 : left ≤ 100) :
    ∃ n p h1 x0 x1 x2 x3 h2 t, (∀ m, n ≤ m → (ev tab E I m).call 24 [sl] h = some (p, h1) ∧ (ev tab E I m).call 23 [p, .int .i64 (left : Nat), .int .i64 (deep : Nat)] h1 = some (.agg ⟨[x0, x1, x2, x3]⟩, h2)) ∧ [x0, x1, x2, x3].all isOne = true ∧ Ahd h h2 ∧ rep E h2 t (.agg ⟨[x0, x1, x2, x3]⟩) ∧ goodI t ∧ lvlI t ≤ (deep : Int) + 1 ∧ isz t ≤ left := by
  obtain ⟨n1, p, h1, c1, kS, bv, rfl, a1, lk, S⟩ := of24 (E := E) (I := I) (fun f args h hf => hI f args h (by rcases hf with h | h <;> simp [h])) f hb
  obtain ⟨n2, v, h2, c2, t, m2, r, gd, lv, sz, _⟩ := grown23 (E := E) (I := I) (fun f args h hf => hI f args h (by rcases hf with h | h | h | h | h | h <;> simp [h])) (by simp; omega) deep left hdeep hl1 hl2 (by omega) a1.fit S
  obtain ⟨va, vb, vc, vd, rfl, hone⟩ : ∃ a b c d, v = .agg ⟨[a, b, c, d]⟩ ∧ [a, b, c, d].all isOne = true := by
    obtain ⟨k', m', tx', ks'⟩ := t
    obtain ⟨sb', sc', rfl, _⟩ := rep_slice r
    exact ⟨_, _, _, _, rfl, rfl⟩
  refine ⟨max n1 n2, _, h1, va, vb, vc, vd, h2, t, fun m hm => ⟨(ev_mono I (by omega)).call c1, (ev_mono I (by omega)).call c2⟩, hone, ?_, rep_grow (only_grows m2.fit) r, gd.good, lv, sz⟩
  exact ((a1.mod.trans m2).low f (fun k hk => by omega)).toAhd hl
end Go.Proofs.YtofijpbmbmbnhaaDoor
/- Where two items differ, as the program tells it. -/
set_option maxRecDepth 100000
set_option maxHeartbeats 8000000
namespace Go.Proofs.YtofijpbmbmbnhaaDoor
open Go Go.Hs Go.Proofs
variable {E : Env} {I : Known}
theorem fn75 : tab.fn.get 75 = some Tryd.f75 := by kernel_rfl
/-! ### The head -/
/-! ### Numbers that are cloned -/
theorem anil53_1 (a : Addr) (n c : Nat) : anil tab 53 (.slice (some a) n c) (.slice none 0 0) = some false := by
  unfold anil
  rw [ty53]
theorem bs53_0 {h : H} : abuildSlice tab 53 0 [] h = some (.slice (some (own h.next)) 0 0, h.new (.cells [] 3 none)) := by
  unfold abuildSlice
  simp only [ty53, tz3]
  rfl
theorem done_q2 {D : Tab} {E : Env} {fn : Func} {A : Ac} {h : H} {t u : Tmp} {v x : Value} {ex : Ex} {Q : Value → H → Prop} (hex : ex = .normal ∨ ex = .ret) (hd : A.defers = []) (hr : fn.results = #[.tmp t, .tmp u]) (hv : A.get t = v) (hx : A.get u = x) (hq : Q (.tuple #[v, x]) h) :
    (ex = .normal ∨ ex = .ret) ∧ ∃ h2 v', takeAll A.defers h = some h2 ∧ ares D E fn A h2 = some v' ∧ Q v' h2 := by
  refine ⟨hex, h, _, ?_, ?_, hq⟩
  · rw [hd]; rfl
  · unfold ares
    rw [hr]
    simp only [aresL, ares1, hv, hx]
end Go.Proofs.YtofijpbmbmbnhaaDoor
/- Where two items differ: the walk. -/
set_option maxRecDepth 100000
set_option maxHeartbeats 8000000
namespace Go.Proofs.YtofijpbmbmbnhaaDoor
open Go Go.Hs Go.Proofs
variable {E : Env} {I : Known}
theorem rep_four {h : H} {t : Hs.Item} {v : Value} (hr : rep E h t v) : ∃ q0 q1 q2 q3, v = .agg ⟨[q0, q1, q2, q3]⟩ ∧ [q0, q1, q2, q3].all isOne = true := by
  obtain ⟨k', m', tx', ks'⟩ := t
  obtain ⟨sb', sc', e, _⟩ := rep_slice hr
  exact ⟨_, _, _, _, e, rfl⟩
end Go.Proofs.YtofijpbmbmbnhaaDoor
/- An item of one's own. -/
set_option maxRecDepth 100000
set_option maxHeartbeats 8000000
namespace Go.Proofs.YtofijpbmbmbnhaaDoor
open Go Go.Hs Go.Proofs
variable {E : Env} {I : Known}
theorem fn47 : tab.fn.get 47 = some Tryd.f47 := by kernel_rfl
theorem fn68 : tab.fn.get 68 = some Tryd.f68 := by kernel_rfl
theorem anil23_0 : anil tab 23 (.slice none 0 0) (.slice none 0 0) = some true := by
  unfold anil
  rw [ty23]
  rfl
theorem anil23_1 (a : Addr) (n c : Nat) : anil tab 23 (.slice (some a) n c) (.slice none 0 0) = some false := by
  unfold anil
  rw [ty23]
theorem bs23_0 {h : H} : abuildSlice tab 23 0 [] h = some (.slice (some (own h.next)) 0 0, h.new (.cells [] 25 none)) := by
  unfold abuildSlice
  simp only [ty23, tz25]
  rfl
theorem clone47 (hI : ∀ args h, I 47 args h = none) {h : H} {a : Addr} {n c : Nat} {cs : List Value} (f : Fit h) (hcs : h.cells E a (n * 4) = some cs) (hcl : cs.length = n * 4) (hl : n ≤ 1000000) :
    ∃ nn v h', (ev tab E I nn).call 47 [.slice (some a) n c] h = some (v, h') ∧ Cln h h' 25 n cs v := by
  refine Wc.call (hI _ _) fn47 rfl ?_
  generalize hA0 : (⟨T.ofList [.slice (some a) n c] 0 .nil, max ([.slice (some a) n c] : List Value).length Tryd.f47.ntmps, []⟩ : Ac) = A0
  have n0 : A0.n = 8 := by rw [← hA0]; rfl
  have g00 : A0.get 0 = .slice (some a) n c := by rw [← hA0]; rfl
  have d0 : A0.defers = [] := by rw [← hA0]
  obtain ⟨s, h', happ, hcl⟩ := clone_step (D := tab) (E := E) (t := 23) (e := 25) (sz := 4) (by_ := 56) (n := n) (c := c) (a := a) f ty23 tz25 rfl hcs hcl (by
    unfold roomy
    simp only [Bool.and_eq_true, Nat.ble_eq]; omega)
  repeat' (first | (with_reducible apply Wc.seq) | (apply Wc.ops; (focus ((repeat' (first | with_reducible exact RO.nil | ((with_reducible apply RO.run (awant_none rfl)); (focus ((first | simp +decide only [awant, ayield_get, oper1, aop, opv, opvs, opvo, opvp, abuiltin, aun, Ac.get_put, abin, isShift, aint, roV, pair, bind, Option.bind, acall, Sx, n0, g00, anil23_1, bs23_0, happ] | skip); with_reducible rfl))))); done))) | (refine Wc.cond2 (by simp +decide only [opv, Ac.get_put, Sx, n0, g00, anil23_1, bs23_0, happ]; try with_reducible rfl) (fun hb => ?_) (fun hb => ?_) <;> try contradiction) | refine Wc.skip ?_ | refine Wc.ret ?_ | refine Wc.exit ?_ | refine Wc.block ?_)
  exact done_q (v := s) (.inr rfl) (by simp +decide only [Ac.get_put, Sx, d0]) rfl (by simp +decide only [Ac.get_put, Sx, n0]) hcl
theorem clone47_nil (hI : ∀ args h, I 47 args h = none) (h : H) : ∃ nn v h', (ev tab E I nn).call 47 [.slice none 0 0] h = some (v, h') ∧ (v = .slice none 0 0 ∧ h' = h) := by
  refine Wc.call (hI _ _) fn47 rfl ?_
  generalize hA0 : (⟨T.ofList [.slice none 0 0] 0 .nil, max ([.slice none 0 0] : List Value).length Tryd.f47.ntmps, []⟩ : Ac) = A0
  have n0 : A0.n = 8 := by rw [← hA0]; rfl
  have g00 : A0.get 0 = .slice none 0 0 := by rw [← hA0]; rfl
  have d0 : A0.defers = [] := by rw [← hA0]
  repeat' (first | (with_reducible apply Wc.seq) | (apply Wc.ops; (focus ((repeat' (first | with_reducible exact RO.nil | ((with_reducible apply RO.run (awant_none rfl)); (focus ((first | simp +decide only [awant, ayield_get, oper1, aop, opv, opvs, opvo, opvp, abuiltin, aun, Ac.get_put, abin, isShift, aint, roV, pair, bind, Option.bind, acall, Sx, n0, g00, anil23_0] | skip); with_reducible rfl))))); done))) | (refine Wc.cond2 (by simp +decide only [opv, Ac.get_put, Sx, n0, g00, anil23_0]; try with_reducible rfl) (fun hb => ?_) (fun hb => ?_) <;> try contradiction) | refine Wc.skip ?_ | refine Wc.ret ?_ | refine Wc.exit ?_ | refine Wc.block ?_)
  exact done_q (v := .slice none 0 0) (.inr rfl) (by simp +decide only [Ac.get_put, Sx, d0]) rfl (by simp +decide only [Ac.get_put, Sx, n0]) ⟨rfl, rfl⟩
theorem kids47 (hI : ∀ args h, I 47 args h = none) {h0 h : H} {ks : List Hs.Item} {s : Value} (f : Fit h) (hg : Grows h0 h) (hs : (ks = [] ∧ s = .slice none 0 0) ∨ ∃ a c cs, s = .slice (some a) ks.length c ∧ (ks.length ≤ c ∧ c < 9223372036854775808) ∧ h0.cells E a (ks.length * 4) = some cs ∧ repL E h0 ks cs) (hl : ks.length ≤ 1000000) :
    ∃ nn b c h', (ev tab E I nn).call 47 [s] h = some (.slice b ks.length c, h') ∧ Ahd h h' ∧ ((ks = [] ∧ (b = none ∧ c = 0 ∨ ∃ k, b = some (own k) ∧ c = 0)) ∨ ∃ kc cs, b = some (own kc) ∧ c = ks.length ∧ h.next ≤ kc ∧ h'.blk kc = some (.cells cs 25 (some (kc, 0))) ∧ h'.chain kc = [kc] ∧ repL E h0 ks cs) := by
  rcases hs with ⟨rfl, rfl⟩ | ⟨a, c, cs, rfl, _, hcs, hrl⟩
  · obtain ⟨nn, v, h', hc, rfl, rfl⟩ := clone47_nil (E := E) hI h
    exact ⟨nn, none, 0, _, hc, Ahd.refl f, .inl ⟨rfl, .inl ⟨rfl, rfl⟩⟩⟩
  · obtain ⟨nn, v, h', hc, cl⟩ := clone47 (E := E) (c := c) hI f (cells_grow hg hcs) (repL_length hrl) hl
    obtain ⟨k, rt, rfl, hk, hk1, hrt⟩ := cl.get
    refine ⟨nn, _, _, h', hc, cl.ahd, ?_⟩
    rcases hrt with ⟨rfl, h0⟩ | ⟨rfl, hch⟩
    · exact .inl ⟨List.length_eq_zero_iff.1 h0, .inr ⟨k, rfl, h0⟩⟩
    · exact .inr ⟨k, cs, rfl, rfl, hk1, hk, hch, hrl⟩
theorem rep_four' {h : H} {t : Hs.Item} {a b c d : Value} (hr : rep E h t (.agg ⟨[a, b, c, d]⟩)) : [a, b, c, d].all isOne = true := by
  obtain ⟨q0, q1, q2, q3, e, h1⟩ := rep_four hr
  simp only [Value.agg.injEq, Array.mk.injEq] at e
  rw [e]; exact h1
theorem repL_one {h : H} : ∀ {ks : List Hs.Item} {cs : List Value}, repL E h ks cs → cs.all isOne = true
  | [], cs, hr => by rw [repL] at hr; rw [hr]; rfl
  | x :: xs, cs, hr => by
    rw [repL] at hr
    obtain ⟨a, b, c, d, l, rfl, h1, h2⟩ := hr
    have e := rep_four' h1
    have e2 := repL_one h2
    simp only [List.all_cons, List.all_nil, Bool.and_true, Bool.and_eq_true] at e ⊢
    exact ⟨e.1, e.2.1, e.2.2.1, e.2.2.2, e2⟩
end Go.Proofs.YtofijpbmbmbnhaaDoor
/- An item of one's own: the walk. -/
set_option maxRecDepth 100000
set_option maxHeartbeats 8000000
namespace Go.Proofs.YtofijpbmbmbnhaaDoor
open Go Go.Hs Go.Proofs
variable {E : Env} {I : Known}
noncomputable def loop68 : Code := loopOf Tryd.f68
theorem st23_3m {k : Nat} {x0 x1 x2 x3 : Value} {b : Option Addr} {n c : Nat} {g : H} (hb : g.blk k = some (.cells [x0, x1, x2, x3] 25 none)) (hm : g.mark ≤ k) : astore tab 23 (aadd (own k) 3) (.slice b n c) g = some (g.setb k (.cells [x0, x1, x2, .slice b n c] 25 none)) := by
  unfold astore
  rw [ty23]
  exact put_plain (o := 3) (vs := [.slice b n c]) hb (by simp) (by simp) rfl hm
def OwnK (E : Env) (h0 : H) (ks : List Hs.Item) (b : Option Addr) (c : Nat) (g : H) (i : Nat) : Prop :=
  ks = [] ∨ ∃ kc xs cs, b = some (own kc) ∧ c = ks.length ∧ h0.next ≤ kc ∧ g.blk kc = some (.cells (xs ++ cs.drop (i * 4)) 25 (some (kc, 0))) ∧ g.chain kc = [kc] ∧ xs.length = i * 4 ∧ (xs ++ cs.drop (i * 4)).all isOne = true ∧ repL E h0 ks cs ∧ repL E (only (fun r => Nat.blt kc r) g) (ks.take i) xs
theorem own68 (hI : ∀ f args h, (f = 68 ∨ f = 47) → I f args h = none) : ∀ (s : Nat) (t : Hs.Item) (xv : Value) (h : H), isz t ≤ s → rep E h t xv → Fit h → isz t ≤ 1000000 →
    ∃ n v h', (ev tab E I n).call 68 [xv] h = some (v, h') ∧ (Ahd h h' ∧ rep E (only (fun r => Nat.ble h.next r) h') t v) := by
  intro s
  induction s with
  | zero => intro t xv h hs; have := isz_pos t; omega
  | succ s IH =>
  intro t xv h hs hr hfit hlen
  obtain ⟨k, m, tx, ks⟩ := t
  have hr0 := hr
  rw [rep] at hr0
  obtain ⟨s1, rfl, hs1⟩ := hr0
  obtain ⟨sb, sn, sc, rfl⟩ : ∃ b n c, s1 = .slice b n c := by
    rcases hs1 with ⟨_, rfl⟩ | ⟨a, c, cs, rfl, _⟩ <;> exact ⟨_, _, _, rfl⟩
  rw [isz] at hs hlen
  have hkl := len_iszL ks
  refine Wc.call (hI _ _ _ (.inl rfl)) fn68 rfl ?_
  generalize hA0 : (⟨T.ofList [.agg ⟨[.int .i64 k, .int .i64 m, .string tx, .slice sb sn sc]⟩] 0 .nil, max ([.agg ⟨[.int .i64 k, .int .i64 m, .string tx, .slice sb sn sc]⟩] : List Value).length Tryd.f68.ntmps, []⟩ : Ac) = A0
  have n0 : A0.n = 25 := by rw [← hA0]; rfl
  have g00 : A0.get 0 = .agg ⟨[.int .i64 k, .int .i64 m, .string tx, .slice sb sn sc]⟩ := by rw [← hA0]; rfl
  have d0 : A0.defers = [] := by rw [← hA0]
  generalize hh1 : h.new (.cells (Value.agg ⟨[.int .i64 k, .int .i64 m, .string tx, .slice sb sn sc]⟩).cells.toList 25 none) = h1
  have a1 : Ahd h h1 := by rw [← hh1]; exact Ahd.new0 hfit rfl
  have b1 : h1.blk h.next = some (.cells [.int .i64 k, .int .i64 m, .string tx, .slice sb sn sc] 25 none) := by rw [← hh1]; exact new_blk_new rfl
  have x1 : h1.next = h.next + 1 := by rw [← hh1]; rfl
  generalize hh2 : h1.new (.cells (Value.agg #[.int .i64 0, .int .i64 0, .string ⟨#[]⟩, .slice none 0 0]).cells.toList 25 none) = h2
  have a2 : Ahd h1 h2 := by rw [← hh2]; exact Ahd.new0 a1.fit rfl
  have b2 : h2.blk h1.next = some (.cells [.int .i64 0, .int .i64 0, .string ⟨#[]⟩, .slice none 0 0] 25 none) := by rw [← hh2]; exact new_blk_new rfl
  have x2 : h2.next = h1.next + 1 := by rw [← hh2]; rfl
  have b1' := a2.grows _ _ b1
  have ag := a1.trans a2
  have l3 : h2.cell E (aadd (own h.next) 3) = some (.slice sb sn sc) := blk_cell (i := 3) b1' rfl rfl
  obtain ⟨nf, vb, vc, h3, c47, a3, hk⟩ := kids47 (E := E) (I := I) (ks := ks) (s := .slice sb sn sc) (fun args h => hI _ args h (.inr rfl)) ag.fit ag.grows hs1 (by omega)
  have b13 := a3.grows _ _ b1'
  have b23 := a3.grows _ _ b2
  have hlt1 := a3.fit.lt b13
  have hlt2 := a3.fit.lt b23
  have st := st23_3m (b := vb) (n := ks.length) (c := vc) b13 (by rw [a3.mark, ag.mark]; exact hfit.ok.2)
  generalize hh4 : h3.setb h.next (.cells [.int .i64 k, .int .i64 m, .string tx, .slice vb ks.length vc] 25 none) = h4 at st
  have a4 : Ahd h h4 := by rw [← hh4]; exact (ag.trans a3).setb rfl (Nat.le_refl _) hlt1 hfit
  have b14 : h4.blk h.next = some (.cells [.int .i64 k, .int .i64 m, .string tx, .slice vb ks.length vc] 25 none) := by rw [← hh4]; exact setb_same rfl
  have b24 : h4.blk h1.next = some (.cells [.int .i64 0, .int .i64 0, .string ⟨#[]⟩, .slice none 0 0] 25 none) := by rw [← hh4, setb_ne (by omega)]; exact b23
  have l4 : h4.cell E (aadd (own h.next) 3) = some (.slice vb ks.length vc) := blk_cell (i := 3) b14 rfl rfl
  have hO : OwnK E h ks vb vc h4 0 := by
    rcases hk with ⟨e, _⟩ | ⟨kc, cs, e1, e2, e3, e4, e5, e6⟩
    · exact .inl e
    · have hne : kc ≠ h.next := by omega
      refine .inr ⟨kc, [], cs, e1, e2, by omega, ?_, ?_, rfl, ?_, e6, ?_⟩
      · rw [← hh4, setb_ne hne]; simpa using e4
      · rw [← hh4]; exact e5
      · simpa using repL_one e6
      · rw [List.take_zero, repL]
  repeat' (with_reducible apply Wc.seq)
  refine Wc.ops (by repeat' (first | with_reducible exact RO.nil | ((with_reducible apply RO.run (awant_none rfl)); (focus ((first | simp +decide only [awant, ayield_get, oper1, aop, opv, opvs, opvo, opvp, abuiltin, aun, Ac.get_put, abin, isShift, aint, roV, pair, bind, Option.bind, acall, Sx, n0, g00, hh1, tz25, hh2] | skip); with_reducible rfl))))) ?_
  repeat' (with_reducible apply Wc.seq)
  repeat' (first | (with_reducible apply Wc.seq) | (apply Wc.opsN nf; (focus ((repeat' (first | with_reducible exact RO.nil | ((with_reducible apply RO.run (awant_none rfl)); (focus ((first | simp +decide only [awant, ayield_get, oper1, aop, opv, opvs, opvo, opvp, abuiltin, aun, Ac.get_put, abin, isShift, aint, roV, pair, bind, Option.bind, acall, Sx, n0, fa25_3, ld23, l3, c47, st, l4, len23] | skip); with_reducible rfl))))); done))) | (refine Wc.cond2 (by simp +decide only [opv, Ac.get_put, Sx, n0, fa25_3, ld23, l3, c47, st, l4, len23]; try with_reducible rfl) (fun hb => ?_) (fun hb => ?_) <;> try contradiction) | refine Wc.skip ?_ | refine Wc.ret ?_ | refine Wc.exit ?_ | refine Wc.block ?_)
  have key : ∀ (r i : Nat) (A : Ac) (g : H), r = ks.length - i → i ≤ ks.length → A.n = 25 → A.defers = [] → A.get 1 = .pointer (some (own h.next)) → A.get 2 = .pointer (some (own h1.next)) → A.get 10 = .slice vb ks.length vc → A.get 11 = .int .i64 (ks.length : Nat) → A.get 12 = .int .i64 (i : Nat) →
      Ahd h g → g.blk h.next = some (.cells [.int .i64 k, .int .i64 m, .string tx, .slice vb ks.length vc] 25 none) → g.blk h1.next = some (.cells [.int .i64 0, .int .i64 0, .string ⟨#[]⟩, .slice none 0 0] 25 none) → OwnK E h ks vb vc g i →
      Wc tab E I ⟨68, none⟩ (.loop loop68) A g (fun ex A g => ex = .exit 0 ∧ A.n = 25 ∧ A.defers = [] ∧ A.get 1 = .pointer (some (own h.next)) ∧ A.get 2 = .pointer (some (own h1.next)) ∧ Ahd h g ∧ g.blk h.next = some (.cells [.int .i64 k, .int .i64 m, .string tx, .slice vb ks.length vc] 25 none) ∧ g.blk h1.next = some (.cells [.int .i64 0, .int .i64 0, .string ⟨#[]⟩, .slice none 0 0] 25 none) ∧ OwnK E h ks vb vc g ks.length) := by
    intro r
    induction r with
    | zero =>
      intro i A g hr' hi nA dA p1 p2 p10 p11 p12 ah c1 c2 O
      obtain rfl : i = ks.length := by omega
      have hlt : decide ((ks.length : Int) < (ks.length : Int)) = false := by simp
      apply Wc.loop
      simp only [loop68, loopOf, firstLoop, Option.getD, Tryd.f68]
      repeat' (first | (with_reducible apply Wc.seq) | (apply Wc.ops; (focus ((repeat' (first | with_reducible exact RO.nil | ((with_reducible apply RO.run (awant_none rfl)); (focus ((first | simp +decide only [awant, ayield_get, oper1, aop, opv, opvs, opvo, opvp, abuiltin, aun, Ac.get_put, abin, isShift, aint, roV, pair, bind, Option.bind, acall, Sx, nA, p11, p12, hlt] | skip); with_reducible rfl))))); done))) | (refine Wc.cond2 (by simp +decide only [opv, Ac.get_put, Sx, nA, p11, p12, hlt]; try with_reducible rfl) (fun hb => ?_) (fun hb => ?_) <;> try contradiction) | refine Wc.skip ?_ | refine Wc.ret ?_ | refine Wc.exit ?_ | refine Wc.block ?_)
      exact ⟨rfl, by simp +decide only [Ac.get_put, Sx, nA], by simp +decide only [Ac.get_put, Sx, dA], by simp +decide only [Ac.get_put, Sx, nA, p1], by simp +decide only [Ac.get_put, Sx, nA, p2], ah, c1, c2, O⟩
    | succ r ih =>
      intro i A g hr' hi nA dA p1 p2 p10 p11 p12 ah c1 c2 O
      have hil : i < ks.length := by omega
      have hr1 : r = ks.length - (i + 1) := by omega
      have hlt : decide ((i : Int) < (ks.length : Int)) = true := by simp; omega
      rcases O with h0 | ⟨kc, xs, cs, rfl, rfl, e3, e4, e5, e6, e7, e8, e9⟩
      · rw [h0] at hil; simp at hil
      have hcl := repL_length e8
      obtain ⟨hl4, hrk⟩ := repL_get i e8 (List.getElem?_eq_getElem hil)
      obtain ⟨q0, q1, q2, q3, hq, hone⟩ := rep_four hrk
      simp only [Value.agg.injEq, Array.mk.injEq] at hq
      rw [hq] at hrk
      have hwhole : g.cells E (own kc) (ks.length * 4) = some (xs ++ cs.drop (i * 4)) := blk_cells e4 (by rw [List.length_append, List.length_drop, e6]; omega) e7
      have hsub := cells_sub hwhole (m := i * 4) (l := 4) (by omega)
      rw [List.drop_left' e6, hq] at hsub
      have hmem : ks[i] ∈ ks := List.getElem_mem hil
      have hkz := isz_mem hmem
      have hir : inRange (i : Int) ks.length = true := by
        show Nat.blt i ks.length = true
        rw [Nat.blt_eq]; exact hil
      have w3 : IntKind.i64.wrap ((i : Int) + 1) = (i : Int) + 1 := wrap64 (by omega) (by omega)
      generalize hh5 : g.new (.cells (Value.agg #[.int .i64 0, .int .i64 0, .string ⟨#[]⟩, .slice none 0 0]).cells.toList 25 none) = g1
      have u1 : Ahd g g1 := by rw [← hh5]; exact Ahd.new0 ah.fit rfl
      have cc1 : g1.blk g.next = some (.cells [.int .i64 0, .int .i64 0, .string ⟨#[]⟩, .slice none 0 0] 25 none) := by rw [← hh5]; exact new_blk_new rfl
      have hn1 : g1.next = g.next + 1 := by rw [← hh5]; rfl
      have hst := st25 (a := q0) (b := q1) (c := q2) (d := q3) cc1 hone (by rw [u1.mark]; exact ah.fit.ok.2)
      generalize hh6 : g1.setb g.next (.cells [q0, q1, q2, q3] 25 none) = g2 at hst
      have u2 : Ahd g g2 := by rw [← hh6]; exact u1.setb rfl (Nat.le_refl _) (by omega) ah.fit
      have cc2 : g2.blk g.next = some (.cells [q0, q1, q2, q3] 25 none) := by rw [← hh6]; exact setb_same rfl
      obtain ⟨nk, v, qh, ck, ak, rk⟩ := IH ks[i] (.agg ⟨[q0, q1, q2, q3]⟩) (fresh g2) (by omega) (rep_grow (h' := fresh g2) ((ah.trans u2).grows) hrk) u2.fit.fresh (by omega)
      obtain ⟨v0, v1, v2, v3, rfl, vone⟩ := rep_four rk
      obtain ⟨u3, hb3, hn3, ho3⟩ := Ahd.back u2.fit ak
      have hl3 : qh.log = [] := ak.log
      have rk := rep_grow (ho3 _) rk
      generalize hg3 : back g2 qh = g3 at u3 hb3 hn3 ho3 rk
      have ah3 := (ah.trans u2).trans u3
      have e4' := (u2.trans u3).grows _ _ e4
      have kcl := ah.fit.lt e4
      have e5' : g3.chain kc = [kc] := by rw [(u2.trans u3).chain _ kcl]; exact e5
      obtain ⟨q, hput, hql, hqn, hqf, hqb, hqo, hqc, hqg⟩ := put_root (o := i * 4) (vs := [v0, v1, v2, v3]) u3.fit e4' e5' (by simp) (by rw [List.length_append, List.length_drop, e6]; simp only [List.length_cons, List.length_nil]; omega) vone
      have hsto : astore tab 25 (aadd (own kc) (i * 4)) (.agg ⟨[v0, v1, v2, v3]⟩) (fresh g3) = some q := by
        unfold astore
        rw [ty25]
        exact hput
      have hcells : (xs ++ cs.drop (i * 4)).take (i * 4) ++ [v0, v1, v2, v3] ++ (xs ++ cs.drop (i * 4)).drop (i * 4 + [v0, v1, v2, v3].length) = (xs ++ [v0, v1, v2, v3]) ++ cs.drop ((i + 1) * 4) := by
        rw [List.take_left' e6, ← List.drop_drop, List.drop_left' e6, List.drop_drop]
        congr 2
        simp only [List.length_cons, List.length_nil]
        omega
      rw [hcells] at hqb
      have hnb := back_next g3 q
      have hmb := back_mark g3 q
      generalize hg4 : back g3 q = g4 at hqf hqb hqo hqc hqg hnb hmb
      have ah4 : Ahd h g4 := ah3.root hfit e3 hqf (by rw [hnb, hqn]) hmb hqo hqc hqg
      have hne1 : h.next ≠ kc := fun e => by rw [← e, c1] at e4; simp at e4
      have hne2 : h1.next ≠ kc := fun e => by rw [← e, c2] at e4; simp at e4
      have c1' : g4.blk h.next = some (.cells [.int .i64 k, .int .i64 m, .string tx, .slice (some (own kc)) ks.length ks.length] 25 none) := by rw [hqo _ hne1]; exact (u2.trans u3).grows _ _ c1
      have c2' : g4.blk h1.next = some (.cells [.int .i64 0, .int .i64 0, .string ⟨#[]⟩, .slice none 0 0] 25 none) := by rw [hqo _ hne2]; exact (u2.trans u3).grows _ _ c2
      have keep : ∀ (p : Nat → Bool), (∀ r, p r = true → Nat.blt kc r = true) → Grows (only p g3) (only (fun r => Nat.blt kc r) g4) := fun p hp => only_mono u3.fit hqf (fun j B hb ⟨ys, ty, r, o, hB, hpr⟩ => by
        rw [hqo j (fun e => by
          rw [e, e4'] at hb
          rw [← Option.some.inj hb] at hB
          cases hB
          have := hp _ hpr
          rw [Nat.blt_eq] at this; omega)]
        exact hb) hp
      have O' : OwnK E h ks (some (own kc)) ks.length g4 (i + 1) := by
        refine .inr ⟨kc, xs ++ [v0, v1, v2, v3], cs, rfl, rfl, e3, hqb, by rw [hqc]; exact e5', by rw [List.length_append, e6]; simp only [List.length_cons, List.length_nil]; omega, ?_, e8, ?_⟩
        · have := repL_one e8
          rw [List.all_append] at e7 ⊢
          rw [List.all_append, vone]
          simp only [Bool.and_eq_true] at e7 ⊢
          refine ⟨⟨e7.1, trivial⟩, ?_⟩
          rw [List.all_eq_true] at this ⊢
          exact fun z hz => this z (List.mem_of_mem_drop hz)
        · rw [List.take_succ_eq_append_getElem hil]
          refine repL_append (repL_grow (keep _ (fun r h => h)) (repL_grow (only_ahd ah.fit (u2.trans u3) (fun r h => h)) e9)) (rep_grow (keep _ (fun r h => ?_)) rk)
          rw [Nat.ble_eq] at h
          rw [Nat.blt_eq]
          have : (fresh g2).next = g2.next := rfl
          have := u2.next
          omega
      have f3 : (fresh g2).cell E (aadd (own h.next) 3) = some (.slice (some (own kc)) ks.length ks.length) := blk_cell (h := fresh g2) (i := 3) (u2.grows _ _ c1) rfl rfl
      have f9 : (fresh g2).cells E (own g.next) 4 = some [q0, q1, q2, q3] := blk_cells (h := fresh g2) cc2 rfl hone
      apply Wc.loop
      simp only [loop68, loopOf, firstLoop, Option.getD, Tryd.f68]
      repeat' (first | (with_reducible apply Wc.seq) | (apply Wc.ops; (focus ((repeat' (first | with_reducible exact RO.nil | ((with_reducible apply RO.run (awant_none rfl)); (focus ((first | simp +decide only [awant, ayield_get, oper1, aop, opv, opvs, opvo, opvp, abuiltin, aun, Ac.get_put, abin, isShift, aint, roV, pair, bind, Option.bind, acall, Sx, nA, p10, p11, p12, hlt, ia23 _ _ _ _ hir, Int.toNat_natCast, ld25, hsub, tz25, hh5, hst] | skip); with_reducible rfl))))); done))) | (refine Wc.cond2 (by simp +decide only [opv, Ac.get_put, Sx, nA, p10, p11, p12, hlt, ia23 _ _ _ _ hir, Int.toNat_natCast, ld25, hsub, tz25, hh5, hst]; try with_reducible rfl) (fun hb => ?_) (fun hb => ?_) <;> try contradiction) | refine Wc.skip ?_ | refine Wc.ret ?_ | refine Wc.exit ?_ | refine Wc.block ?_)
      refine Wc.forget (fun A => A.n = 25 ∧ A.defers = [] ∧ A.get 1 = .pointer (some (own h.next)) ∧ A.get 2 = .pointer (some (own h1.next)) ∧ A.get 3 = .int .i64 (i : Nat) ∧ A.get 4 = .pointer (some (own g.next)) ∧ A.get 10 = .slice (some (own kc)) ks.length ks.length ∧ A.get 11 = .int .i64 (ks.length : Nat) ∧ A.get 12 = .int .i64 (i : Nat)) ⟨by simp +decide only [Ac.get_put, Sx, nA], by simp +decide only [Ac.get_put, Sx, dA], by simp +decide only [Ac.get_put, Sx, nA, p1], by simp +decide only [Ac.get_put, Sx, nA, p2], by simp +decide only [Ac.get_put, Sx, nA], by simp +decide only [Ac.get_put, Sx, nA], by simp +decide only [Ac.get_put, Sx, nA, p10], by simp +decide only [Ac.get_put, Sx, nA, p11], by simp +decide only [Ac.get_put, Sx, nA, p12]⟩ ?_
      clear nA dA p1 p2 p10 p11 p12
      rintro A ⟨nA, dA, p1, p2, p3, p4, p10, p11, p12⟩
      refine Wc.drawQ nk (by kernel_rfl) ?_
      (iterate 4 (first | ((apply FQ.pure rfl rfl); (focus ((first | simp +decide only [awant, ayield_get, oper1, aop, opv, opvs, opvo, opvp, abuiltin, aun, Ac.get_put, abin, isShift, aint, roV, pair, bind, Option.bind, acall, Sx, nA, p1, p3, p4, fa25_3, ld23, f3, ld25, f9] | skip); with_reducible rfl))) | ((apply FQ.new rfl rfl); (focus ((first | simp +decide only [awant, ayield_get, oper1, aop, opv, opvs, opvo, opvp, abuiltin, aun, Ac.get_put, abin, isShift, aint, roV, pair, bind, Option.bind, acall, Sx, nA, p1, p3, p4, fa25_3, ld23, f3, ld25, f9] | skip); with_reducible rfl)))))
      refine FQ.call (h1 := qh) (x := .agg ⟨[v0, v1, v2, v3]⟩) rfl rfl (by simp +decide only [awant, ayield_get, oper1, aop, opv, opvs, opvo, opvp, abuiltin, aun, Ac.get_put, abin, isShift, aint, roV, pair, bind, Option.bind, acall, Sx, nA, ck]) hl3 ?_
      rw [hg3]
      (iterate 1 (first | ((apply FQ.pure rfl rfl); (focus ((first | simp +decide only [awant, ayield_get, oper1, aop, opv, opvs, opvo, opvp, abuiltin, aun, Ac.get_put, abin, isShift, aint, roV, pair, bind, Option.bind, acall, Sx, nA, ia23 _ _ _ _ hir, Int.toNat_natCast] | skip); with_reducible rfl))) | ((apply FQ.new rfl rfl); (focus ((first | simp +decide only [awant, ayield_get, oper1, aop, opv, opvs, opvo, opvp, abuiltin, aun, Ac.get_put, abin, isShift, aint, roV, pair, bind, Option.bind, acall, Sx, nA, ia23 _ _ _ _ hir, Int.toNat_natCast] | skip); with_reducible rfl)))))
      refine FQ.mod (h1 := q) (x := undef) rfl rfl (by simp +decide only [awant, ayield_get, oper1, aop, opv, opvs, opvo, opvp, abuiltin, aun, Ac.get_put, abin, isShift, aint, roV, pair, bind, Option.bind, acall, Sx, nA, hsto]) ?_
      rw [hg4]
      refine FQ.nil ⟨?_, ?_⟩
      · refine allMeet_last (l := [_, _, _, _, _, _]) ?_ (by kernel_rfl)
        simp only [List.all_cons, calm, List.isEmpty_nil, Bool.true_and, List.all_nil, Bool.and_true]
        rfl
      repeat' (first | (with_reducible apply Wc.seq) | (apply Wc.ops; (focus ((repeat' (first | with_reducible exact RO.nil | ((with_reducible apply RO.run (awant_none rfl)); (focus ((first | simp +decide only [awant, ayield_get, oper1, aop, opv, opvs, opvo, opvp, abuiltin, aun, Ac.get_put, abin, isShift, aint, roV, pair, bind, Option.bind, acall, Sx, nA, p12, w3] | skip); with_reducible rfl))))); done))) | (refine Wc.cond2 (by simp +decide only [opv, Ac.get_put, Sx, nA, p12, w3]; try with_reducible rfl) (fun hb => ?_) (fun hb => ?_) <;> try contradiction) | refine Wc.skip ?_ | refine Wc.ret ?_ | refine Wc.exit ?_ | refine Wc.block ?_)
      refine (ih (i + 1) _ g4 hr1 hil ?_ ?_ ?_ ?_ ?_ ?_ ?_ ah4 c1' c2' O').mono (fun _ _ _ h => h)
      · simp +decide only [Ac.get_put, Sx, nA]
      · simp +decide only [Ac.get_put, Sx, dA]
      · simp +decide only [Ac.get_put, Sx, nA, p1]
      · simp +decide only [Ac.get_put, Sx, nA, p2]
      · simp +decide only [Ac.get_put, Sx, nA, p10]
      · simp +decide only [Ac.get_put, Sx, nA, p11]
      · simp +decide only [Ac.get_put, Sx, nA]
        rfl
  refine (key ks.length 0 _ h4 rfl (Nat.zero_le _) ?_ ?_ ?_ ?_ ?_ ?_ ?_ a4 b14 b24 hO).mono ?_
  · simp +decide only [Ac.get_put, Sx, n0]
  · simp +decide only [Ac.get_put, Sx, d0]
  · simp +decide only [Ac.get_put, Sx, n0]
  · simp +decide only [Ac.get_put, Sx, n0]
  · simp +decide only [Ac.get_put, Sx, n0]
  · simp +decide only [Ac.get_put, Sx, n0]
  · simp +decide only [Ac.get_put, Sx, n0]
    rfl
  · rintro ex A g ⟨rfl, nA, dA, p1, p2, ah, c1, c2, O⟩
    simp only [if_true]
    have lx : g.cells E (own h.next) 4 = some [.int .i64 k, .int .i64 m, .string tx, .slice vb ks.length vc] := blk_cells c1 rfl rfl
    have st5 := st25 (a := .int .i64 k) (b := .int .i64 m) (c := .string tx) (d := .slice vb ks.length vc) c2 rfl (by rw [ah.mark]; have := hfit.ok.2; omega)
    have lg2 := ah.fit.lt c2
    generalize hh5 : g.setb h1.next (.cells [.int .i64 k, .int .i64 m, .string tx, .slice vb ks.length vc] 25 none) = g5 at st5
    have a5 : Ahd h g5 := by rw [← hh5]; exact ah.setb rfl (by omega) lg2 hfit
    have b5 : g5.blk h1.next = some (.cells [.int .i64 k, .int .i64 m, .string tx, .slice vb ks.length vc] 25 none) := by rw [← hh5]; exact setb_same rfl
    repeat' (first | (with_reducible apply Wc.seq) | (apply Wc.ops; (focus ((repeat' (first | with_reducible exact RO.nil | ((with_reducible apply RO.run (awant_none rfl)); (focus ((first | simp +decide only [awant, ayield_get, oper1, aop, opv, opvs, opvo, opvp, abuiltin, aun, Ac.get_put, abin, isShift, aint, roV, pair, bind, Option.bind, acall, Sx, nA, p1, p2, ld25, lx, st5] | skip); with_reducible rfl))))); done))) | (refine Wc.cond2 (by simp +decide only [opv, Ac.get_put, Sx, nA, p1, p2, ld25, lx, st5]; try with_reducible rfl) (fun hb => ?_) (fun hb => ?_) <;> try contradiction) | refine Wc.skip ?_ | refine Wc.ret ?_ | refine Wc.exit ?_ | refine Wc.block ?_)
    refine done_cell (.inr rfl) (by simp +decide only [Ac.get_put, Sx, dA]) rfl (show _ = Value.pointer (some (own h1.next)) by simp +decide only [Ac.get_put, Sx, nA, p2]) (by rw [ld25, blk_cells b5 (n := 4) rfl rfl]) ⟨a5, ?_⟩
    rw [rep]
    refine ⟨_, rfl, ?_⟩
    rcases O with h0 | ⟨kc, xs, cs, rfl, rfl, e3, e4, e5, e6, e7, e8, e9⟩
    · subst h0
      rcases hk with ⟨_, ⟨rfl, rfl⟩ | ⟨k, rfl, rfl⟩⟩ | ⟨kc, cs, rfl, rfl, _⟩
      · exact .inl ⟨rfl, rfl⟩
      · exact .inr ⟨own k, 0, [], rfl, ⟨Nat.le_refl _, by decide⟩, rfl, by rw [repL]⟩
      · exact .inr ⟨own kc, _, [], rfl, ⟨Nat.le_refl _, by decide⟩, rfl, by rw [repL]⟩
    · have hcl := repL_length e8
      have hd : cs.drop (ks.length * 4) = [] := List.drop_of_length_le (by omega)
      rw [hd, List.append_nil] at e4 e7
      rw [List.take_length] at e9
      have hne : kc ≠ h1.next := fun e => by rw [e, c2] at e4; simp at e4
      have e4' : g5.blk kc = some (.cells xs 25 (some (kc, 0))) := by rw [← hh5, setb_ne hne]; exact e4
      refine .inr ⟨own kc, ks.length, xs, rfl, ⟨Nat.le_refl _, by omega⟩, ?_, ?_⟩
      · exact blk_cells ((only_blk a5.fit).2 ⟨e4', _, _, _, _, rfl, by rw [Nat.ble_eq]; exact e3⟩) e6 e7
      · refine repL_grow (only_mono ah.fit a5.fit (fun j B hb ⟨ys, ty, r, o, hB, _⟩ => ?_) (fun r hr => ?_)) e9
        · rw [Nat.blt_eq] at hr
          rw [Nat.ble_eq]; omega
        · rw [← hh5, setb_ne (fun e => by
            rw [e, c2] at hb
            rw [← Option.some.inj hb] at hB
            cases hB)]
          exact hb
end Go.Proofs.YtofijpbmbmbnhaaDoor
/- An item of one's own, in blocks of its own. -/
set_option maxRecDepth 100000
set_option maxHeartbeats 8000000
namespace Go.Proofs.YtofijpbmbmbnhaaDoor
open Go Go.Hs Go.Proofs
variable {E : Env} {I : Known}
def OwnS (E : Env) (h0 : H) (lo : Nat) (ks : List Hs.Item) (b : Option Addr) (c : Nat) (g : H) (i : Nat) : Prop :=
  ks = [] ∨ ∃ kc xs cs cur, b = some (own kc) ∧ c = ks.length ∧ lo ≤ kc ∧ g.blk kc = some (.cells (xs ++ cs.drop (i * 4)) 25 (some (kc, 0))) ∧ g.chain kc = [kc] ∧ xs.length = i * 4 ∧ (xs ++ cs.drop (i * 4)).all isOne = true ∧ repL E h0 ks cs ∧ kc + 1 ≤ cur ∧ cur ≤ g.next ∧ repSL g (kc + 1) cur (ks.take i) xs
theorem own68S (hI : ∀ f args h, (f = 68 ∨ f = 47) → I f args h = none) : ∀ (s : Nat) (t : Hs.Item) (xv : Value) (h : H), isz t ≤ s → rep E h t xv → Fit h → isz t ≤ 1000000 →
    ∃ n v h', (ev tab E I n).call 68 [xv] h = some (v, h') ∧ (Ahd h h' ∧ ∃ a b c d, v = .agg ⟨[a, b, c, d]⟩ ∧ [a, b, c, d].all isOne = true ∧ repS h' h.next h'.next t [a, b, c, d]) := by
  intro s
  induction s with
  | zero => intro t xv h hs; have := isz_pos t; omega
  | succ s IH =>
  intro t xv h hs hr hfit hlen
  obtain ⟨k, m, tx, ks⟩ := t
  have hr0 := hr
  rw [rep] at hr0
  obtain ⟨s1, rfl, hs1⟩ := hr0
  obtain ⟨sb, sn, sc, rfl⟩ : ∃ b n c, s1 = .slice b n c := by
    rcases hs1 with ⟨_, rfl⟩ | ⟨a, c, cs, rfl, _⟩ <;> exact ⟨_, _, _, rfl⟩
  rw [isz] at hs hlen
  have hkl := len_iszL ks
  refine Wc.call (hI _ _ _ (.inl rfl)) fn68 rfl ?_
  generalize hA0 : (⟨T.ofList [.agg ⟨[.int .i64 k, .int .i64 m, .string tx, .slice sb sn sc]⟩] 0 .nil, max ([.agg ⟨[.int .i64 k, .int .i64 m, .string tx, .slice sb sn sc]⟩] : List Value).length Tryd.f68.ntmps, []⟩ : Ac) = A0
  have n0 : A0.n = 25 := by rw [← hA0]; rfl
  have g00 : A0.get 0 = .agg ⟨[.int .i64 k, .int .i64 m, .string tx, .slice sb sn sc]⟩ := by rw [← hA0]; rfl
  have d0 : A0.defers = [] := by rw [← hA0]
  generalize hh1 : h.new (.cells (Value.agg ⟨[.int .i64 k, .int .i64 m, .string tx, .slice sb sn sc]⟩).cells.toList 25 none) = h1
  have a1 : Ahd h h1 := by rw [← hh1]; exact Ahd.new0 hfit rfl
  have b1 : h1.blk h.next = some (.cells [.int .i64 k, .int .i64 m, .string tx, .slice sb sn sc] 25 none) := by rw [← hh1]; exact new_blk_new rfl
  have x1 : h1.next = h.next + 1 := by rw [← hh1]; rfl
  generalize hh2 : h1.new (.cells (Value.agg #[.int .i64 0, .int .i64 0, .string ⟨#[]⟩, .slice none 0 0]).cells.toList 25 none) = h2
  have a2 : Ahd h1 h2 := by rw [← hh2]; exact Ahd.new0 a1.fit rfl
  have b2 : h2.blk h1.next = some (.cells [.int .i64 0, .int .i64 0, .string ⟨#[]⟩, .slice none 0 0] 25 none) := by rw [← hh2]; exact new_blk_new rfl
  have x2 : h2.next = h1.next + 1 := by rw [← hh2]; rfl
  have b1' := a2.grows _ _ b1
  have ag := a1.trans a2
  have l3 : h2.cell E (aadd (own h.next) 3) = some (.slice sb sn sc) := blk_cell (i := 3) b1' rfl rfl
  obtain ⟨nf, vb, vc, h3, c47, a3, hk⟩ := kids47 (E := E) (I := I) (ks := ks) (s := .slice sb sn sc) (fun args h => hI _ args h (.inr rfl)) ag.fit ag.grows hs1 (by omega)
  have b13 := a3.grows _ _ b1'
  have b23 := a3.grows _ _ b2
  have hlt1 := a3.fit.lt b13
  have hlt2 := a3.fit.lt b23
  have st := st23_3m (b := vb) (n := ks.length) (c := vc) b13 (by rw [a3.mark, ag.mark]; exact hfit.ok.2)
  generalize hh4 : h3.setb h.next (.cells [.int .i64 k, .int .i64 m, .string tx, .slice vb ks.length vc] 25 none) = h4 at st
  have a4 : Ahd h h4 := by rw [← hh4]; exact (ag.trans a3).setb rfl (Nat.le_refl _) hlt1 hfit
  have b14 : h4.blk h.next = some (.cells [.int .i64 k, .int .i64 m, .string tx, .slice vb ks.length vc] 25 none) := by rw [← hh4]; exact setb_same rfl
  have b24 : h4.blk h1.next = some (.cells [.int .i64 0, .int .i64 0, .string ⟨#[]⟩, .slice none 0 0] 25 none) := by rw [← hh4, setb_ne (by omega)]; exact b23
  have l4 : h4.cell E (aadd (own h.next) 3) = some (.slice vb ks.length vc) := blk_cell (i := 3) b14 rfl rfl
  have hO : OwnS E h h2.next ks vb vc h4 0 := by
    rcases hk with ⟨e, _⟩ | ⟨kc, cs, e1, e2, e3, e4, e5, e6⟩
    · exact .inl e
    · have hne : kc ≠ h.next := by omega
      have hkl4 := a3.fit.lt e4
      refine .inr ⟨kc, [], cs, kc + 1, e1, e2, e3, ?_, ?_, rfl, ?_, e6, Nat.le_refl _, ?_, ?_⟩
      · rw [← hh4, setb_ne hne]; simpa using e4
      · rw [← hh4]; exact e5
      · simpa using repL_one e6
      · rw [← hh4]; exact hkl4
      · rw [List.take_zero, repSL]
  repeat' (with_reducible apply Wc.seq)
  refine Wc.ops (by repeat' (first | with_reducible exact RO.nil | ((with_reducible apply RO.run (awant_none rfl)); (focus ((first | simp +decide only [awant, ayield_get, oper1, aop, opv, opvs, opvo, opvp, abuiltin, aun, Ac.get_put, abin, isShift, aint, roV, pair, bind, Option.bind, acall, Sx, n0, g00, hh1, tz25, hh2] | skip); with_reducible rfl))))) ?_
  repeat' (with_reducible apply Wc.seq)
  repeat' (first | (with_reducible apply Wc.seq) | (apply Wc.opsN nf; (focus ((repeat' (first | with_reducible exact RO.nil | ((with_reducible apply RO.run (awant_none rfl)); (focus ((first | simp +decide only [awant, ayield_get, oper1, aop, opv, opvs, opvo, opvp, abuiltin, aun, Ac.get_put, abin, isShift, aint, roV, pair, bind, Option.bind, acall, Sx, n0, fa25_3, ld23, l3, c47, st, l4, len23] | skip); with_reducible rfl))))); done))) | (refine Wc.cond2 (by simp +decide only [opv, Ac.get_put, Sx, n0, fa25_3, ld23, l3, c47, st, l4, len23]; try with_reducible rfl) (fun hb => ?_) (fun hb => ?_) <;> try contradiction) | refine Wc.skip ?_ | refine Wc.ret ?_ | refine Wc.exit ?_ | refine Wc.block ?_)
  have key : ∀ (r i : Nat) (A : Ac) (g : H), r = ks.length - i → i ≤ ks.length → A.n = 25 → A.defers = [] → A.get 1 = .pointer (some (own h.next)) → A.get 2 = .pointer (some (own h1.next)) → A.get 10 = .slice vb ks.length vc → A.get 11 = .int .i64 (ks.length : Nat) → A.get 12 = .int .i64 (i : Nat) →
      Ahd h g → g.blk h.next = some (.cells [.int .i64 k, .int .i64 m, .string tx, .slice vb ks.length vc] 25 none) → g.blk h1.next = some (.cells [.int .i64 0, .int .i64 0, .string ⟨#[]⟩, .slice none 0 0] 25 none) → OwnS E h h2.next ks vb vc g i →
      Wc tab E I ⟨68, none⟩ (.loop loop68) A g (fun ex A g => ex = .exit 0 ∧ A.n = 25 ∧ A.defers = [] ∧ A.get 1 = .pointer (some (own h.next)) ∧ A.get 2 = .pointer (some (own h1.next)) ∧ Ahd h g ∧ g.blk h.next = some (.cells [.int .i64 k, .int .i64 m, .string tx, .slice vb ks.length vc] 25 none) ∧ g.blk h1.next = some (.cells [.int .i64 0, .int .i64 0, .string ⟨#[]⟩, .slice none 0 0] 25 none) ∧ OwnS E h h2.next ks vb vc g ks.length) := by
    intro r
    induction r with
    | zero =>
      intro i A g hr' hi nA dA p1 p2 p10 p11 p12 ah c1 c2 O
      obtain rfl : i = ks.length := by omega
      have hlt : decide ((ks.length : Int) < (ks.length : Int)) = false := by simp
      apply Wc.loop
      simp only [loop68, loopOf, firstLoop, Option.getD, Tryd.f68]
      repeat' (first | (with_reducible apply Wc.seq) | (apply Wc.ops; (focus ((repeat' (first | with_reducible exact RO.nil | ((with_reducible apply RO.run (awant_none rfl)); (focus ((first | simp +decide only [awant, ayield_get, oper1, aop, opv, opvs, opvo, opvp, abuiltin, aun, Ac.get_put, abin, isShift, aint, roV, pair, bind, Option.bind, acall, Sx, nA, p11, p12, hlt] | skip); with_reducible rfl))))); done))) | (refine Wc.cond2 (by simp +decide only [opv, Ac.get_put, Sx, nA, p11, p12, hlt]; try with_reducible rfl) (fun hb => ?_) (fun hb => ?_) <;> try contradiction) | refine Wc.skip ?_ | refine Wc.ret ?_ | refine Wc.exit ?_ | refine Wc.block ?_)
      exact ⟨rfl, by simp +decide only [Ac.get_put, Sx, nA], by simp +decide only [Ac.get_put, Sx, dA], by simp +decide only [Ac.get_put, Sx, nA, p1], by simp +decide only [Ac.get_put, Sx, nA, p2], ah, c1, c2, O⟩
    | succ r ih =>
      intro i A g hr' hi nA dA p1 p2 p10 p11 p12 ah c1 c2 O
      have hil : i < ks.length := by omega
      have hr1 : r = ks.length - (i + 1) := by omega
      have hlt : decide ((i : Int) < (ks.length : Int)) = true := by simp; omega
      rcases O with h0 | ⟨kc, xs, cs, cur, rfl, rfl, e3, e4, e5, e6, e7, e8, ec1, ec2, e9⟩
      · rw [h0] at hil; simp at hil
      have hcl := repL_length e8
      obtain ⟨hl4, hrk⟩ := repL_get i e8 (List.getElem?_eq_getElem hil)
      obtain ⟨q0, q1, q2, q3, hq, hone⟩ := rep_four hrk
      simp only [Value.agg.injEq, Array.mk.injEq] at hq
      rw [hq] at hrk
      have hwhole : g.cells E (own kc) (ks.length * 4) = some (xs ++ cs.drop (i * 4)) := blk_cells e4 (by rw [List.length_append, List.length_drop, e6]; omega) e7
      have hsub := cells_sub hwhole (m := i * 4) (l := 4) (by omega)
      rw [List.drop_left' e6, hq] at hsub
      have hmem : ks[i] ∈ ks := List.getElem_mem hil
      have hkz := isz_mem hmem
      have hir : inRange (i : Int) ks.length = true := by
        show Nat.blt i ks.length = true
        rw [Nat.blt_eq]; exact hil
      have w3 : IntKind.i64.wrap ((i : Int) + 1) = (i : Int) + 1 := wrap64 (by omega) (by omega)
      generalize hh5 : g.new (.cells (Value.agg #[.int .i64 0, .int .i64 0, .string ⟨#[]⟩, .slice none 0 0]).cells.toList 25 none) = g1
      have u1 : Ahd g g1 := by rw [← hh5]; exact Ahd.new0 ah.fit rfl
      have cc1 : g1.blk g.next = some (.cells [.int .i64 0, .int .i64 0, .string ⟨#[]⟩, .slice none 0 0] 25 none) := by rw [← hh5]; exact new_blk_new rfl
      have hn1 : g1.next = g.next + 1 := by rw [← hh5]; rfl
      have hst := st25 (a := q0) (b := q1) (c := q2) (d := q3) cc1 hone (by rw [u1.mark]; exact ah.fit.ok.2)
      generalize hh6 : g1.setb g.next (.cells [q0, q1, q2, q3] 25 none) = g2 at hst
      have u2 : Ahd g g2 := by rw [← hh6]; exact u1.setb rfl (Nat.le_refl _) (by omega) ah.fit
      have cc2 : g2.blk g.next = some (.cells [q0, q1, q2, q3] 25 none) := by rw [← hh6]; exact setb_same rfl
      obtain ⟨nk, v, qh, ck, ak, v0, v1, v2, v3, rfl, vone, rk⟩ := IH ks[i] (.agg ⟨[q0, q1, q2, q3]⟩) (fresh g2) (by omega) (rep_grow (h' := fresh g2) ((ah.trans u2).grows) hrk) u2.fit.fresh (by omega)
      obtain ⟨u3, hb3, hn3, ho3⟩ := Ahd.back u2.fit ak
      have hl3 : qh.log = [] := ak.log
      have rk : repS (back g2 qh) (fresh g2).next qh.next ks[i] [v0, v1, v2, v3] := rk.keep (fun j _ _ => ⟨fun B hB => by rw [back_blk]; exact hB, by rw [back_chain]⟩)
      have hqn3 : (back g2 qh).next = qh.next := back_next _ _
      generalize hg3 : back g2 qh = g3 at u3 hb3 hn3 ho3 rk hqn3
      have ah3 := (ah.trans u2).trans u3
      have e4' := (u2.trans u3).grows _ _ e4
      have kcl := ah.fit.lt e4
      have e5' : g3.chain kc = [kc] := by rw [(u2.trans u3).chain _ kcl]; exact e5
      obtain ⟨q, hput, hql, hqn, hqf, hqb, hqo, hqc, hqg⟩ := put_root (o := i * 4) (vs := [v0, v1, v2, v3]) u3.fit e4' e5' (by simp) (by rw [List.length_append, List.length_drop, e6]; simp only [List.length_cons, List.length_nil]; omega) vone
      have hsto : astore tab 25 (aadd (own kc) (i * 4)) (.agg ⟨[v0, v1, v2, v3]⟩) (fresh g3) = some q := by
        unfold astore
        rw [ty25]
        exact hput
      have hcells : (xs ++ cs.drop (i * 4)).take (i * 4) ++ [v0, v1, v2, v3] ++ (xs ++ cs.drop (i * 4)).drop (i * 4 + [v0, v1, v2, v3].length) = (xs ++ [v0, v1, v2, v3]) ++ cs.drop ((i + 1) * 4) := by
        rw [List.take_left' e6, ← List.drop_drop, List.drop_left' e6, List.drop_drop]
        congr 2
        simp only [List.length_cons, List.length_nil]
        omega
      rw [hcells] at hqb
      have hnb := back_next g3 q
      have hmb := back_mark g3 q
      generalize hg4 : back g3 q = g4 at hqf hqb hqo hqc hqg hnb hmb
      have ah4 : Ahd h g4 := ah3.root hfit (Nat.le_trans ag.next e3) hqf (by rw [hnb, hqn]) hmb hqo hqc hqg
      have hne1 : h.next ≠ kc := fun e => by rw [← e, c1] at e4; simp at e4
      have hne2 : h1.next ≠ kc := fun e => by rw [← e, c2] at e4; simp at e4
      have c1' : g4.blk h.next = some (.cells [.int .i64 k, .int .i64 m, .string tx, .slice (some (own kc)) ks.length ks.length] 25 none) := by rw [hqo _ hne1]; exact (u2.trans u3).grows _ _ c1
      have c2' : g4.blk h1.next = some (.cells [.int .i64 0, .int .i64 0, .string ⟨#[]⟩, .slice none 0 0] 25 none) := by rw [hqo _ hne2]; exact (u2.trans u3).grows _ _ c2
      have O' : OwnS E h h2.next ks (some (own kc)) ks.length g4 (i + 1) := by
        have kcn : kc < g2.next := Nat.lt_of_lt_of_le kcl u2.next
        refine .inr ⟨kc, xs ++ [v0, v1, v2, v3], cs, qh.next, rfl, rfl, e3, hqb, by rw [hqc]; exact e5', by rw [List.length_append, e6]; simp only [List.length_cons, List.length_nil]; omega, ?_, e8, ?_, ?_, ?_⟩
        · have := repL_one e8
          rw [List.all_append] at e7 ⊢
          rw [List.all_append, vone]
          simp only [Bool.and_eq_true] at e7 ⊢
          refine ⟨⟨e7.1, trivial⟩, ?_⟩
          rw [List.all_eq_true] at this ⊢
          exact fun z hz => this z (List.mem_of_mem_drop hz)
        · have := ak.next
          have : (fresh g2).next = g2.next := rfl
          omega
        · omega
        · rw [List.take_succ_eq_append_getElem hil]
          have sm : Same g g4 (kc + 1) cur := fun j j1 j2 => ⟨fun B hB => by rw [hqo j (by omega)]; exact (u2.trans u3).grows _ _ hB, by rw [hqc]; exact (u2.trans u3).chain j (by omega)⟩
          have sm2 : Same g3 g4 (fresh g2).next qh.next := fun j j1 j2 => ⟨fun B hB => by rw [hqo j (fun e => by have : (fresh g2).next = g2.next := rfl; omega)]; exact hB, by rw [hqc]⟩
          have n2 := u2.next
          have n3 := ak.next
          have n4 : (fresh g2).next = g2.next := rfl
          exact (e9.keep sm).snoc ec1 (by omega) n3 (rk.keep sm2)
      have f3 : (fresh g2).cell E (aadd (own h.next) 3) = some (.slice (some (own kc)) ks.length ks.length) := blk_cell (h := fresh g2) (i := 3) (u2.grows _ _ c1) rfl rfl
      have f9 : (fresh g2).cells E (own g.next) 4 = some [q0, q1, q2, q3] := blk_cells (h := fresh g2) cc2 rfl hone
      apply Wc.loop
      simp only [loop68, loopOf, firstLoop, Option.getD, Tryd.f68]
      repeat' (first | (with_reducible apply Wc.seq) | (apply Wc.ops; (focus ((repeat' (first | with_reducible exact RO.nil | ((with_reducible apply RO.run (awant_none rfl)); (focus ((first | simp +decide only [awant, ayield_get, oper1, aop, opv, opvs, opvo, opvp, abuiltin, aun, Ac.get_put, abin, isShift, aint, roV, pair, bind, Option.bind, acall, Sx, nA, p10, p11, p12, hlt, ia23 _ _ _ _ hir, Int.toNat_natCast, ld25, hsub, tz25, hh5, hst] | skip); with_reducible rfl))))); done))) | (refine Wc.cond2 (by simp +decide only [opv, Ac.get_put, Sx, nA, p10, p11, p12, hlt, ia23 _ _ _ _ hir, Int.toNat_natCast, ld25, hsub, tz25, hh5, hst]; try with_reducible rfl) (fun hb => ?_) (fun hb => ?_) <;> try contradiction) | refine Wc.skip ?_ | refine Wc.ret ?_ | refine Wc.exit ?_ | refine Wc.block ?_)
      refine Wc.forget (fun A => A.n = 25 ∧ A.defers = [] ∧ A.get 1 = .pointer (some (own h.next)) ∧ A.get 2 = .pointer (some (own h1.next)) ∧ A.get 3 = .int .i64 (i : Nat) ∧ A.get 4 = .pointer (some (own g.next)) ∧ A.get 10 = .slice (some (own kc)) ks.length ks.length ∧ A.get 11 = .int .i64 (ks.length : Nat) ∧ A.get 12 = .int .i64 (i : Nat)) ⟨by simp +decide only [Ac.get_put, Sx, nA], by simp +decide only [Ac.get_put, Sx, dA], by simp +decide only [Ac.get_put, Sx, nA, p1], by simp +decide only [Ac.get_put, Sx, nA, p2], by simp +decide only [Ac.get_put, Sx, nA], by simp +decide only [Ac.get_put, Sx, nA], by simp +decide only [Ac.get_put, Sx, nA, p10], by simp +decide only [Ac.get_put, Sx, nA, p11], by simp +decide only [Ac.get_put, Sx, nA, p12]⟩ ?_
      clear nA dA p1 p2 p10 p11 p12
      rintro A ⟨nA, dA, p1, p2, p3, p4, p10, p11, p12⟩
      refine Wc.drawQ nk (by kernel_rfl) ?_
      (iterate 4 (first | ((apply FQ.pure rfl rfl); (focus ((first | simp +decide only [awant, ayield_get, oper1, aop, opv, opvs, opvo, opvp, abuiltin, aun, Ac.get_put, abin, isShift, aint, roV, pair, bind, Option.bind, acall, Sx, nA, p1, p3, p4, fa25_3, ld23, f3, ld25, f9] | skip); with_reducible rfl))) | ((apply FQ.new rfl rfl); (focus ((first | simp +decide only [awant, ayield_get, oper1, aop, opv, opvs, opvo, opvp, abuiltin, aun, Ac.get_put, abin, isShift, aint, roV, pair, bind, Option.bind, acall, Sx, nA, p1, p3, p4, fa25_3, ld23, f3, ld25, f9] | skip); with_reducible rfl)))))
      refine FQ.call (h1 := qh) (x := .agg ⟨[v0, v1, v2, v3]⟩) rfl rfl (by simp +decide only [awant, ayield_get, oper1, aop, opv, opvs, opvo, opvp, abuiltin, aun, Ac.get_put, abin, isShift, aint, roV, pair, bind, Option.bind, acall, Sx, nA, ck]) hl3 ?_
      rw [hg3]
      (iterate 1 (first | ((apply FQ.pure rfl rfl); (focus ((first | simp +decide only [awant, ayield_get, oper1, aop, opv, opvs, opvo, opvp, abuiltin, aun, Ac.get_put, abin, isShift, aint, roV, pair, bind, Option.bind, acall, Sx, nA, ia23 _ _ _ _ hir, Int.toNat_natCast] | skip); with_reducible rfl))) | ((apply FQ.new rfl rfl); (focus ((first | simp +decide only [awant, ayield_get, oper1, aop, opv, opvs, opvo, opvp, abuiltin, aun, Ac.get_put, abin, isShift, aint, roV, pair, bind, Option.bind, acall, Sx, nA, ia23 _ _ _ _ hir, Int.toNat_natCast] | skip); with_reducible rfl)))))
      refine FQ.mod (h1 := q) (x := undef) rfl rfl (by simp +decide only [awant, ayield_get, oper1, aop, opv, opvs, opvo, opvp, abuiltin, aun, Ac.get_put, abin, isShift, aint, roV, pair, bind, Option.bind, acall, Sx, nA, hsto]) ?_
      rw [hg4]
      refine FQ.nil ⟨?_, ?_⟩
      · refine allMeet_last (l := [_, _, _, _, _, _]) ?_ (by kernel_rfl)
        simp only [List.all_cons, calm, List.isEmpty_nil, Bool.true_and, List.all_nil, Bool.and_true]
        rfl
      repeat' (first | (with_reducible apply Wc.seq) | (apply Wc.ops; (focus ((repeat' (first | with_reducible exact RO.nil | ((with_reducible apply RO.run (awant_none rfl)); (focus ((first | simp +decide only [awant, ayield_get, oper1, aop, opv, opvs, opvo, opvp, abuiltin, aun, Ac.get_put, abin, isShift, aint, roV, pair, bind, Option.bind, acall, Sx, nA, p12, w3] | skip); with_reducible rfl))))); done))) | (refine Wc.cond2 (by simp +decide only [opv, Ac.get_put, Sx, nA, p12, w3]; try with_reducible rfl) (fun hb => ?_) (fun hb => ?_) <;> try contradiction) | refine Wc.skip ?_ | refine Wc.ret ?_ | refine Wc.exit ?_ | refine Wc.block ?_)
      refine (ih (i + 1) _ g4 hr1 hil ?_ ?_ ?_ ?_ ?_ ?_ ?_ ah4 c1' c2' O').mono (fun _ _ _ h => h)
      · simp +decide only [Ac.get_put, Sx, nA]
      · simp +decide only [Ac.get_put, Sx, dA]
      · simp +decide only [Ac.get_put, Sx, nA, p1]
      · simp +decide only [Ac.get_put, Sx, nA, p2]
      · simp +decide only [Ac.get_put, Sx, nA, p10]
      · simp +decide only [Ac.get_put, Sx, nA, p11]
      · simp +decide only [Ac.get_put, Sx, nA]
        rfl
  refine (key ks.length 0 _ h4 rfl (Nat.zero_le _) ?_ ?_ ?_ ?_ ?_ ?_ ?_ a4 b14 b24 hO).mono ?_
  · simp +decide only [Ac.get_put, Sx, n0]
  · simp +decide only [Ac.get_put, Sx, d0]
  · simp +decide only [Ac.get_put, Sx, n0]
  · simp +decide only [Ac.get_put, Sx, n0]
  · simp +decide only [Ac.get_put, Sx, n0]
  · simp +decide only [Ac.get_put, Sx, n0]
  · simp +decide only [Ac.get_put, Sx, n0]
    rfl
  · rintro ex A g ⟨rfl, nA, dA, p1, p2, ah, c1, c2, O⟩
    simp only [if_true]
    have lx : g.cells E (own h.next) 4 = some [.int .i64 k, .int .i64 m, .string tx, .slice vb ks.length vc] := blk_cells c1 rfl rfl
    have st5 := st25 (a := .int .i64 k) (b := .int .i64 m) (c := .string tx) (d := .slice vb ks.length vc) c2 rfl (by rw [ah.mark]; have := hfit.ok.2; omega)
    have lg2 := ah.fit.lt c2
    generalize hh5 : g.setb h1.next (.cells [.int .i64 k, .int .i64 m, .string tx, .slice vb ks.length vc] 25 none) = g5 at st5
    have a5 : Ahd h g5 := by rw [← hh5]; exact ah.setb rfl (by omega) lg2 hfit
    have b5 : g5.blk h1.next = some (.cells [.int .i64 k, .int .i64 m, .string tx, .slice vb ks.length vc] 25 none) := by rw [← hh5]; exact setb_same rfl
    repeat' (first | (with_reducible apply Wc.seq) | (apply Wc.ops; (focus ((repeat' (first | with_reducible exact RO.nil | ((with_reducible apply RO.run (awant_none rfl)); (focus ((first | simp +decide only [awant, ayield_get, oper1, aop, opv, opvs, opvo, opvp, abuiltin, aun, Ac.get_put, abin, isShift, aint, roV, pair, bind, Option.bind, acall, Sx, nA, p1, p2, ld25, lx, st5] | skip); with_reducible rfl))))); done))) | (refine Wc.cond2 (by simp +decide only [opv, Ac.get_put, Sx, nA, p1, p2, ld25, lx, st5]; try with_reducible rfl) (fun hb => ?_) (fun hb => ?_) <;> try contradiction) | refine Wc.skip ?_ | refine Wc.ret ?_ | refine Wc.exit ?_ | refine Wc.block ?_)
    refine done_cell (.inr rfl) (by simp +decide only [Ac.get_put, Sx, dA]) rfl (show _ = Value.pointer (some (own h1.next)) by simp +decide only [Ac.get_put, Sx, nA, p2]) (by rw [ld25, blk_cells b5 (n := 4) rfl rfl]) ⟨a5, _, _, _, _, rfl, rfl, ?_⟩
    rw [repS]
    refine ⟨_, rfl, ?_⟩
    rcases O with h0 | ⟨kc, xs, cs, cur, rfl, rfl, e3, e4, e5, e6, e7, e8, ec1, ec2, e9⟩
    · subst h0
      rcases hk with ⟨_, ⟨rfl, rfl⟩ | ⟨k, rfl, rfl⟩⟩ | ⟨kc, cs, rfl, rfl, _⟩
      · exact .inl ⟨rfl, .inl rfl⟩
      · exact .inl ⟨rfl, .inr ⟨k, 0, rfl, by decide⟩⟩
      · exact .inl ⟨rfl, .inr ⟨kc, 0, rfl, by decide⟩⟩
    · have hcl := repL_length e8
      have hd : cs.drop (ks.length * 4) = [] := List.drop_of_length_le (by omega)
      rw [hd, List.append_nil] at e4 e7
      rw [List.take_length] at e9
      have hne : kc ≠ h1.next := by omega
      have e4' : g5.blk kc = some (.cells xs 25 (some (kc, 0))) := by rw [← hh5, setb_ne hne]; exact e4
      have hn5 : g5.next = g.next := by rw [← hh5]; rfl
      have sm : Same g g5 (kc + 1) cur := fun j j1 j2 => ⟨fun B hB => by rw [← hh5, setb_ne (by omega)]; exact hB, by rw [← hh5]; rfl⟩
      exact .inr ⟨kc, ks.length, xs, rfl, ⟨Nat.le_refl _, by omega⟩, by have := ag.next; omega, by omega, e4', by rw [← hh5]; exact e5, e7, (e9.keep sm).up (by omega) ec1⟩
end Go.Proofs.YtofijpbmbmbnhaaDoor
/- Put: an item is put into an item's copy. -/
set_option maxRecDepth 100000
set_option maxHeartbeats 16000000
namespace Go.Proofs.YtofijpbmbmbnhaaDoor
open Go Go.Hs Go.Proofs
variable {E : Env} {I : Known}
theorem fn42 : tab.fn.get 42 = some Tryd.f42 := by kernel_rfl
noncomputable def loop42 : Code := loopOf Tryd.f42
theorem qbs23_2 {a b c d a' b' c' d' : Value} (h1 : [a, b, c, d].all isOne = true) (h2 : [a', b', c', d'].all isOne = true) {h : H} : abuildSlice tab 23 2 [(0, .agg ⟨[a, b, c, d]⟩), (1, .agg ⟨[a', b', c', d']⟩)] h = some (.slice (some (own h.next)) 2 2, h.new (.cells [a, b, c, d, a', b', c', d'] 25 none)) := by
  unfold abuildSlice
  simp only [qty23, qtz25]
  rfl
theorem atN_append : ∀ (a b : List Nat) (t z : Hs.Item), atN t a = some z → atN t (a ++ b) = atN z b
  | [], b, t, z, h => by rw [atN] at h; cases h; rfl
  | i :: a, b, .mk k m tx ks, z, h => by
    rw [atN] at h
    rw [List.cons_append, atN]
    split at h
    · exact atN_append a b _ z h
    · cases h
theorem atN_isz : ∀ (p : List Nat) (t z : Hs.Item), atN t p = some z → isz z ≤ isz t
  | [], t, z, h => by rw [atN] at h; cases h; exact Nat.le_refl _
  | i :: p, .mk k m tx ks, z, h => by
    rw [atN] at h
    split at h
    · next y hy =>
      obtain ⟨hi, he⟩ := List.getElem?_eq_some_iff.1 hy
      have h1 := atN_isz p y z h
      have h2 := isz_mem (show y ∈ ks by rw [← he]; exact List.getElem_mem hi)
      rw [isz]; omega
    · cases h
theorem loop42_ok (hI : ∀ f args h, (f = 76) → I f args h = none) {g : H} (fg : Fit g) {Lo Hi k9 k10 kp5 kp6 : Nat} {t y : Hs.Item} {pv : Value} {p : List Nat} (hpv : Nums E g pv p) (hat : atN t p = some y) (hz : isz t ≤ 1000000) (hpl : p.length ≤ 1000000) (h10 : g.next ≤ k10) :
    ∀ (r i : Nat) (z : Hs.Item) (kc o : Nat) (xs : List Value) (ro : Option (Nat × Nat)) (lo hi : Nat) (A0 : Ac) (h : H), r = p.length - i → i ≤ p.length → A0.n = 49 → A0.defers = [] → A0.get 5 = .pointer (some (own kp5)) → A0.get 6 = .pointer (some (own kp6)) → A0.get 9 = .pointer (some (own k9)) → A0.get 10 = .pointer (some (own k10)) → A0.get 11 = .func (.func 76) #[] #[.pointer (some (own k10))] → A0.get 26 = pv → A0.get 27 = .int .i64 (p.length : Nat) → A0.get 28 = .int .i64 (i : Nat) →
      Mod (fun k => k = k10) g h → h.blk k10 = some (.cells [.pointer (some (aadd (own kc) o))] 122 none) → Ctx E h Lo Hi k9 t (p.take i) z kc o xs ro lo hi → k10 ≠ k9 → ¬ (Lo ≤ k10 ∧ k10 < Hi) →
      Wc tab E I ⟨42, none⟩ (.loop loop42) A0 h (fun ex A h' => ex = .exit 0 ∧ A.n = 49 ∧ A.defers = [] ∧ A.get 5 = .pointer (some (own kp5)) ∧ A.get 6 = .pointer (some (own kp6)) ∧ A.get 9 = .pointer (some (own k9)) ∧ A.get 10 = .pointer (some (own k10)) ∧ Mod (fun k => k = k10) g h' ∧ ∃ kc o xs ro lo hi, h'.blk k10 = some (.cells [.pointer (some (aadd (own kc) o))] 122 none) ∧ Ctx E h' Lo Hi k9 t p y kc o xs ro lo hi) := by
  intro r
  induction r with
  | zero =>
    intro i z kc o xs ro lo hi A0 h hr hi' n0 d0 q5 q6 q9 q10 q11 q26 q27 q28 M hB C hne hout
    obtain rfl : i = p.length := by omega
    have e1 : decide ((p.length : Int) < (p.length : Int)) = false := by simp
    rw [List.take_length] at C
    obtain rfl : z = y := Option.some.inj (C.at_.symm.trans hat)
    apply Wc.loop
    simp only [loop42, loopOf, firstLoop, Option.getD, Tryd.f42]
    repeat' (first | (with_reducible apply Wc.seq) | (apply Wc.ops; (focus ((repeat' (first | with_reducible exact RO.nil | ((with_reducible apply RO.run (awant_none rfl)); (focus ((first | simp +decide only [awant, ayield_get, oper1, aop, opv, opvs, opvo, opvp, abuiltin, aun, Ac.get_put, abin, isShift, aint, roV, pair, bind, Option.bind, acall, Sx, n0, q27, q28, e1] | skip); with_reducible rfl))))); done))) | (refine Wc.cond2 (by simp +decide only [opv, Ac.get_put, Sx, n0, q27, q28, e1]; try with_reducible rfl) (fun hb => ?_) (fun hb => ?_) <;> try contradiction) | refine Wc.skip ?_ | refine Wc.ret ?_ | refine Wc.exit ?_ | refine Wc.block ?_)
    exact ⟨rfl, by simp +decide only [Ac.get_put, Sx, n0], by simp +decide only [Ac.get_put, Sx, d0], by simp +decide only [Ac.get_put, Sx, n0, q5], by simp +decide only [Ac.get_put, Sx, n0, q6], by simp +decide only [Ac.get_put, Sx, n0, q9], by simp +decide only [Ac.get_put, Sx, n0, q10], M, kc, o, xs, ro, lo, hi, hB, C⟩
  | succ r ih =>
    intro i z kc o xs ro lo hi A0 h hr hi' n0 d0 q5 q6 q9 q10 q11 q26 q27 q28 M hB C hne hout
    have hil : i < p.length := by omega
    have e1 : decide ((i : Int) < (p.length : Int)) = true := decide_eq_true (by omega)
    have hir : inRange (i : Int) p.length = true := by
      show Nat.blt i p.length = true
      rw [Nat.blt_eq]; exact hil
    have w4 : IntKind.i64.wrap ((i : Int) + 1) = ((i + 1 : Nat) : Int) := wrap64 (by omega) (by omega)
    obtain ⟨bp, cp, rfl, hv⟩ := hpv
    rcases hv with rfl | ⟨ap, rfl, hcs⟩
    · simp at hil
    have hz0 : atN z (p.drop i) = some y := by
      rw [← atN_append (p.take i) (p.drop i) t z C.at_, List.take_append_drop]; exact hat
    rw [List.drop_eq_getElem_cons hil] at hz0
    obtain ⟨k, m, tx, ks⟩ := z
    rw [atN] at hz0
    have hki : p[i] < ks.length := by
      rcases Nat.lt_or_ge p[i] ks.length with h | h
      · exact h
      · rw [List.getElem?_eq_none h] at hz0; cases hz0
    obtain ⟨kc2, c, xs2, m1, m2, hx, b1, b2, C2⟩ := C.step p[i] hki
    have cl : h.cell E (aadd ap (i * 1)) = some (.int .i64 (p[i] : Nat)) := by
      rw [Nat.mul_one]
      exact cells_cell (cells_grow (M.low (M := fun _ => False) fg (fun k hk => .inr (by omega))).gof2 hcs) hil (by unfold natsV; rw [List.getElem?_map, List.getElem?_eq_getElem hil]; rfl)
    have hzz := atN_isz _ _ _ C.at_
    rw [isz] at hzz
    have hkl := len_iszE ks
    have hm10 : h.mark ≤ k10 := by have := fg.ok.2; have := M.mark; omega
    obtain ⟨nf, _, _, ck, rfl, rfl⟩ := step76 (E := E) (I := I) (fun args h => hI _ _ _ rfl) M.fit hB C.blk hx hki (by omega) hm10
    have M1 := M.setl (k := k10) (B := .cells [.pointer (some (aadd (own kc2) (p[i] * 4)))] 122 none) rfl rfl (M.fit.lt hB)
    have B1 := setl_same (h := h) (k := k10) (B := .cells [.pointer (some (aadd (own kc2) (p[i] * 4)))] 122 none) rfl
    have C3 := C2.keep (g' := h.setl k10 (.cells [.pointer (some (aadd (own kc2) (p[i] * 4)))] 122 none)) (fun j hj => ⟨fun B hb' => by rw [setl_ne (by omega)]; exact hb', setl_chain _ _ _ _⟩)
    rw [← List.take_succ_eq_append_getElem hil] at C3
    apply Wc.loop
    simp only [loop42, loopOf, firstLoop, Option.getD, Tryd.f42]
    repeat' (first | (with_reducible apply Wc.seq) | (apply Wc.opsN nf; (focus ((repeat' (first | with_reducible exact RO.nil | ((with_reducible apply RO.run (awant_none rfl)); (focus ((first | simp +decide only [awant, ayield_get, oper1, aop, opv, opvs, opvo, opvp, abuiltin, aun, Ac.get_put, abin, isShift, aint, roV, pair, bind, Option.bind, acall, Sx, n0, q10, q11, q26, q27, q28, e1, qia53 _ _ _ _ hir, Int.toNat_natCast, Qx, Hx, cl, ck, w4, List.cons_append] | skip); with_reducible rfl))))); done))) | (refine Wc.cond2 (by simp +decide only [opv, Ac.get_put, Sx, n0, q10, q11, q26, q27, q28, e1, qia53 _ _ _ _ hir, Int.toNat_natCast, Qx, Hx, cl, ck, w4, List.cons_append]; try with_reducible rfl) (fun hb => ?_) (fun hb => ?_) <;> try contradiction) | refine Wc.skip ?_ | refine Wc.ret ?_ | refine Wc.exit ?_ | refine Wc.block ?_)
    refine ih (i + 1) _ kc2 (p[i] * 4) xs2 _ m1 m2 _ _ (by omega) (by omega) ?_ ?_ ?_ ?_ ?_ ?_ ?_ ?_ ?_ ?_ M1 B1 C3 hne hout
    · simp +decide only [Ac.get_put, Sx, n0]
    · simp +decide only [Ac.get_put, Sx, d0]
    · simp +decide only [Ac.get_put, Sx, n0, q5]
    · simp +decide only [Ac.get_put, Sx, n0, q6]
    · simp +decide only [Ac.get_put, Sx, n0, q9]
    · simp +decide only [Ac.get_put, Sx, n0, q10]
    · simp +decide only [Ac.get_put, Sx, n0, q11]
    · simp +decide only [Ac.get_put, Sx, n0, q26]
    · simp +decide only [Ac.get_put, Sx, n0, q27]
    · simp +decide only [Ac.get_put, Sx, n0]
end Go.Proofs.YtofijpbmbmbnhaaDoor
/- The item at a place. -/
set_option maxRecDepth 100000
set_option maxHeartbeats 8000000
namespace Go.Proofs.YtofijpbmbmbnhaaDoor
open Go Go.Hs Go.Proofs
variable {E : Env} {I : Known}
theorem fn29 : tab.fn.get 29 = some Tryd.f29 := by kernel_rfl
noncomputable def loop29 : Code := loopOf Tryd.f29
theorem done_cq {D : Tab} {E : Env} {fn : Func} {A : Ac} {h : H} {t u : Tmp} {ty : TypeId} {v x : Value} {a : Addr} {ex : Ex} {Q : Value → H → Prop} (hex : ex = .normal ∨ ex = .ret) (hd : A.defers = []) (hr : fn.results = #[.cell t ty, .tmp u]) (hv : A.get t = .pointer (some a)) (hl : aload D E ty a h = some v) (hx : A.get u = x) (hq : Q (.tuple #[v, x]) h) :
    (ex = .normal ∨ ex = .ret) ∧ ∃ h2 v', takeAll A.defers h = some h2 ∧ ares D E fn A h2 = some v' ∧ Q v' h2 := by
  refine ⟨hex, h, _, ?_, ?_, hq⟩
  · rw [hd]; rfl
  · unfold ares
    rw [hr]
    simp only [aresL, ares1, hv, hx, hl]
end Go.Proofs.YtofijpbmbmbnhaaDoor
