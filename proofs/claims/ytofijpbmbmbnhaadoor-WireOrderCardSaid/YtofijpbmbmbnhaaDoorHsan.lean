/- A store of handed in bytes; an item that is made of it. -/
import Derived.Test.YtofijpbmbmbnhaaDoorHsam
set_option linter.unusedSimpArgs false
set_option linter.unusedVariables false
set_option maxRecDepth 100000
set_option maxHeartbeats 8000000
namespace Go.Proofs.YtofijpbmbmbnhaaDoor
open Go Go.Hs Go.Proofs
variable {E : Env} {I : Known}

theorem fn24 : tab.fn.get 24 = some Tryd.f24 := by kernel_rfl
theorem fn59 : tab.fn.get 59 = some Tryd.f59 := by kernel_rfl
theorem fn23 : tab.fn.get 23 = some Tryd.f23 := by kernel_rfl

/-- Bytes that are handed in. -/
def Bin (E : Env) (h : H) (sl : Value) (bs : List Int) : Prop := (sl = .slice none 0 0 ∧ bs = []) ∨ ∃ a c, sl = .slice (some a) bs.length c ∧ bs.length ≤ c ∧ h.cells E a bs.length = some (bs.map (Value.int .u8)) ∧ a.spot ≠ some 0

theorem Bin.grow {h g : H} {sl : Value} {bs : List Int} (b : Bin E h sl bs) (hg : Grows h g) : Bin E g sl bs := by
  rcases b with b | ⟨a, c, e1, e2, e3, e4⟩
  · exact .inl b
  · exact .inr ⟨a, c, e1, e2, cells_grow hg e3, e4⟩

theorem anil31_0 : anil tab 31 (.slice none 0 0) (.slice none 0 0) = some true := by
  unfold anil
  rw [ty31]
  rfl
theorem anil31_1 (a : Addr) (n c : Nat) : anil tab 31 (.slice (some a) n c) (.slice none 0 0) = some false := by
  unfold anil
  rw [ty31]
theorem bs31_0 {h : H} : abuildSlice tab 31 0 [] h = some (.slice (some (own h.next)) 0 0, h.new (.cells [] 5 none)) := by
  unfold abuildSlice
  simp only [ty31, tz5]
  rfl

theorem clone59 (hI : ∀ args h, I 59 args h = none) {h : H} {sl : Value} {bs : List Int} (f : Fit h) (hb : Bin E h sl bs) (hl : bs.length ≤ 1000000) :
    ∃ n v h', (ev tab E I n).call 59 [sl] h = some (v, h') ∧ (Ahd h h' ∧ Bts (fun k => h'.next ≤ k) h' v bs) := by
  refine Wc.call (hI _ _) fn59 rfl ?_
  generalize hA0 : (⟨T.ofList [sl] 0 .nil, max ([sl] : List Value).length Tryd.f59.ntmps, []⟩ : Ac) = A0
  have n0 : A0.n = 8 := by rw [← hA0]; rfl
  have g00 : A0.get 0 = sl := by rw [← hA0]; rfl
  have d0 : A0.defers = [] := by rw [← hA0]
  rcases hb with ⟨rfl, rfl⟩ | ⟨a, c, rfl, hc, hcs, hs⟩
  · repeat' (first
    | (with_reducible apply Wc.seq)
    | (refine Wc.ops (by repeat' (first
      | with_reducible exact RO.nil
      | ((with_reducible apply RO.run (awant_none rfl)); (focus ((first | simp (config := {decide := true}) only [awant, ayield_get, oper1, aop, opv, opvs, opvo, opvp, abuiltin, Ac.get_put, if_true, if_false, and_true, decide_true, abin, isShift, aint, roV, pair, bind, Option.bind, acall, Sx, n0, g00, anil31_0] | skip); with_reducible rfl))))) ?_)
    | (refine Wc.cond2 (by simp (config := {decide := true}) only [opv, Ac.get_put, if_true, if_false, and_true, decide_true, Sx, n0, g00, anil31_0]; try with_reducible rfl) (fun hb => ?_) (fun hb => ?_) <;> try contradiction)
    | refine Wc.skip ?_
    | refine Wc.ret ?_
    | refine Wc.exit ?_
    | refine Wc.block ?_)
    exact done_q (v := .slice none 0 0) (.inr rfl) (by simp (config := {decide := true}) only [Ac.get_put, if_true, if_false, and_true, Sx, d0]) rfl (by simp (config := {decide := true}) only [Ac.get_put, if_true, if_false, and_true, Sx, n0]) ⟨Ahd.refl f, .inl ⟨rfl, rfl⟩⟩
  · obtain ⟨s, h', happ, hcl⟩ := clone_step (D := tab) (E := E) (t := 31) (e := 5) (sz := 1) (by_ := 1) (n := bs.length) (c := c) (a := a) f ty31 tz5 rfl (by rw [Nat.mul_one]; exact hcs) (by rw [List.length_map, Nat.mul_one]) (by
      unfold roomy
      simp only [Bool.and_eq_true, Nat.ble_eq]; omega)
    obtain ⟨k, rt, rfl, hk, hk1, hrt⟩ := hcl.get
    repeat' (first
    | (with_reducible apply Wc.seq)
    | (refine Wc.ops (by repeat' (first
      | with_reducible exact RO.nil
      | ((with_reducible apply RO.run (awant_none rfl)); (focus ((first | simp (config := {decide := true}) only [awant, ayield_get, oper1, aop, opv, opvs, opvo, opvp, abuiltin, Ac.get_put, if_true, if_false, and_true, decide_true, abin, isShift, aint, roV, pair, bind, Option.bind, acall, Sx, n0, g00, anil31_1, bs31_0, happ] | skip); with_reducible rfl))))) ?_)
    | (refine Wc.cond2 (by simp (config := {decide := true}) only [opv, Ac.get_put, if_true, if_false, and_true, decide_true, Sx, n0, g00, anil31_1, bs31_0, happ]; try with_reducible rfl) (fun hb => ?_) (fun hb => ?_) <;> try contradiction)
    | refine Wc.skip ?_
    | refine Wc.ret ?_
    | refine Wc.exit ?_
    | refine Wc.block ?_)
    exact done_q (v := .slice (some (own k)) bs.length bs.length) (.inr rfl) (by simp (config := {decide := true}) only [Ac.get_put, if_true, if_false, and_true, Sx, d0]) rfl (by simp (config := {decide := true}) only [Ac.get_put, if_true, if_false, and_true, Sx, n0]) ⟨hcl.ahd, .inr ⟨k, _, rt, rfl, hk, by have := hcl.ahd.fit.lt hk; omega⟩⟩

theorem amin300 (n : Nat) : amin (fun x y => if y < x then y else x) [.int .i64 (n : Nat), .int .i64 300] = some (.int .i64 ((min n 300 : Nat) : Int)) := by
  simp only [amin, aminG]
  by_cases q : (300 : Int) < (n : Int)
  · have : min n 300 = 300 := by omega
    simp [q, this]
  · have : min n 300 = n := by omega
    simp [q, this]
theorem ab101 (b : Option Addr) (n c : Nat) : abuild tab 101 [(0, .slice b n c), (2, .int .u64 88172645463325252)] = some (.agg ⟨[.slice b n c, .int .i64 0, .int .u64 88172645463325252]⟩) := by
  unfold abuild
  rw [ty101]
  rfl

theorem of24 (hI : ∀ f args h, (f = 24 ∨ f = 59) → I f args h = none) {h : H} {sl : Value} {bs : List Int} (f : Fit h) (hb : Bin E h sl bs) :
    ∃ n v h', (ev tab E I n).call 24 [sl] h = some (v, h') ∧ (∃ kS bv, v = .pointer (some (own kS)) ∧ Ahd h h' ∧ h.next ≤ kS ∧ Sto (fun k => kS ≤ k) kS bv (bs.take 300) h' 0) := by
  have hb3 : ∃ sl3, aslice tab 31 sl none (some (.int .i64 ((min bs.length 300 : Nat) : Int))) none h = some (sl3, h) ∧ Bin E h sl3 (bs.take 300) := by
    rcases hb with ⟨rfl, rfl⟩ | ⟨a, c, rfl, hc, hcs, hs⟩
    · refine ⟨.slice none 0 0, ?_, .inl ⟨rfl, rfl⟩⟩
      unfold aslice
      rw [ty31]
      rfl
    · obtain ⟨c', hc', e⟩ := aslice_start (D := tab) (t := 31) (m := min bs.length 300) (h := h) ty31 (Nat.min_le_left _ _) hc hs
      have hlt : (bs.take 300).length = min bs.length 300 := by rw [List.length_take]; omega
      refine ⟨_, e, .inr ⟨a, c', by rw [hlt], by rw [hlt]; exact hc', ?_, hs⟩⟩
      have := cells_sub (m := 0) (l := min bs.length 300) hcs (by omega)
      rw [aadd_zero, List.drop_zero] at this
      rw [hlt, this, List.map_take]
      congr 1
      rw [List.take_eq_take_iff, List.length_map]
      omega
  obtain ⟨sl3, hsl, hb3⟩ := hb3
  obtain ⟨nf, v, h1, hc, a1, hB⟩ := clone59 (E := E) (I := I) (fun args h => hI _ args h (.inr rfl)) f hb3 (by simp; omega)
  refine Wc.call (hI _ _ _ (.inl rfl)) fn24 rfl ?_
  generalize hA0 : (⟨T.ofList [sl] 0 .nil, max ([sl] : List Value).length Tryd.f24.ntmps, []⟩ : Ac) = A0
  have n0 : A0.n = 11 := by rw [← hA0]; rfl
  have g00 : A0.get 0 = sl := by rw [← hA0]; rfl
  have d0 : A0.defers = [] := by rw [← hA0]
  have hln : alen tab 31 sl h = some (.int .i64 (bs.length : Nat)) := by
    rcases hb with ⟨rfl, rfl⟩ | ⟨a, c, rfl, _⟩ <;> exact len31 _ _ _
  obtain ⟨vb, vn, vc, rfl⟩ : ∃ b n c, v = .slice b n c := by
    rcases hB with ⟨rfl, _⟩ | ⟨k, c, rt, rfl, _⟩ <;> exact ⟨_, _, _, rfl⟩
  generalize hB2 : (Blk.cells (Value.agg ⟨[.slice vb vn vc, .int .i64 0, .int .u64 88172645463325252]⟩).cells.toList 101 none) = B2
  have a2 : Ahd h1 (h1.new B2) := by rw [← hB2]; exact Ahd.new0 a1.fit rfl
  have b2 : (h1.new B2).blk h1.next = some (.cells [.slice vb vn vc, .int .i64 0, .int .u64 88172645463325252] 101 none) := by rw [← hB2]; exact new_blk_new rfl
  repeat' (first
    | (with_reducible apply Wc.seq)
    | (refine Wc.opsN nf (by repeat' (first
      | with_reducible exact RO.nil
      | ((with_reducible apply RO.run (awant_none rfl)); (focus ((first | simp (config := {decide := true}) only [awant, ayield_get, oper1, aop, opv, opvs, opvo, opvp, abuiltin, Ac.get_put, if_true, if_false, and_true, decide_true, abin, isShift, aint, roV, pair, bind, Option.bind, acall, Sx, n0, g00, hln, amin300, hsl, hc, ab101, hB2] | skip); with_reducible rfl))))) ?_)
    | (refine Wc.cond2 (by simp (config := {decide := true}) only [opv, Ac.get_put, if_true, if_false, and_true, decide_true, Sx, n0, g00, hln, amin300, hsl, hc, ab101, hB2]; try with_reducible rfl) (fun hb => ?_) (fun hb => ?_) <;> try contradiction)
    | refine Wc.skip ?_
    | refine Wc.ret ?_
    | refine Wc.exit ?_
    | refine Wc.block ?_)
  refine done_q (v := .pointer (some (own h1.next))) (.inr rfl) (by simp (config := {decide := true}) only [Ac.get_put, if_true, if_false, and_true, Sx, d0]) rfl (by simp (config := {decide := true}) only [Ac.get_put, if_true, if_false, and_true, Sx, n0]) ⟨h1.next, .slice vb vn vc, rfl, a1.trans a2, a1.next, _, b2, by decide, by decide, ?_, by decide⟩
  exact (hB.mod (M := fun k => h1.next ≤ k) (a2.mod (M := fun _ => False)) (fun _ h => h.elim))

theorem grown23 (hI : ∀ f args h, (f = 121 ∨ f = 94 ∨ f = 93 ∨ f = 95 ∨ f = 58 ∨ f = 23) → I f args h = none) {kS : Nat} {bv : Value} {bs : List Int} {h : H} {a : Int} (hbs : bs.length ≤ 1000000) (deep left : Nat) (hdeep : deep ≤ 100) (hl1 : 1 ≤ left) (hl2 : left ≤ 100) (ha : a + 100 * left ≤ 100000000) (hfit : Fit h) (S : Sto (fun k => kS ≤ k) kS bv bs h a) :
    ∃ n v h', (ev tab E I n).call 23 [.pointer (some (own kS)), .int .i64 (left : Nat), .int .i64 (deep : Nat)] h = some (v, h') ∧ (∃ t, Mod (fun k => k = kS) h h' ∧ rep E h' t v ∧ goodI t ∧ lvlI t ≤ (deep : Int) + 1 ∧ isz t ≤ left) := by
  have lS : kS < h.next := by obtain ⟨_, e1, _⟩ := S; exact hfit.lt e1
  refine Wc.call (hI _ _ _ (by simp)) fn23 rfl ?_
  generalize hA0 : (⟨T.ofList [.pointer (some (own kS)), .int .i64 (left : Nat), .int .i64 (deep : Nat)] 0 .nil, max ([.pointer (some (own kS)), .int .i64 (left : Nat), .int .i64 (deep : Nat)] : List Value).length Tryd.f23.ntmps, []⟩ : Ac) = A0
  have n0 : A0.n = 12 := by rw [← hA0]; rfl
  have g00 : A0.get 0 = .pointer (some (own kS)) := by rw [← hA0]; rfl
  have g01 : A0.get 1 = .int .i64 (left : Nat) := by rw [← hA0]; rfl
  have g02 : A0.get 2 = .int .i64 (deep : Nat) := by rw [← hA0]; rfl
  have d0 : A0.defers = [] := by rw [← hA0]
  have z3 : tzero tab 3 = some (.int .i64 0) := tz3
  generalize hB1 : (Blk.cells (Value.agg #[.int .i64 0, .int .i64 0, .string ⟨#[]⟩, .slice none 0 0]).cells.toList 25 none) = B1
  generalize hh1 : h.new B1 = h1
  have a1 : Ahd h h1 := by rw [← hh1, ← hB1]; exact Ahd.new0 hfit rfl
  have b1 : h1.blk h.next = some (.cells [.int .i64 0, .int .i64 0, .string ⟨#[]⟩, .slice none 0 0] 25 none) := by rw [← hh1, ← hB1]; exact new_blk_new rfl
  have x1 : h1.next = h.next + 1 := by rw [← hh1]; rfl
  generalize hB2 : (Blk.cells (Value.int .i64 0).cells.toList 3 none) = B2
  generalize hh2 : h1.new B2 = h2
  have a2 : Ahd h1 h2 := by rw [← hh2, ← hB2]; exact Ahd.new0 a1.fit rfl
  have b2 : h2.blk h1.next = some (.cells [.int .i64 0] 3 none) := by rw [← hh2, ← hB2]; exact new_blk_new rfl
  have x2 : h2.next = h1.next + 1 := by rw [← hh2]; rfl
  have b1' := a2.grows _ _ b1
  have st3 := st3l (i := (left : Nat)) b2
  generalize hh3 : h2.setl h1.next (.cells [.int .i64 (left : Nat)] 3 none) = h3 at st3
  have m3 : Mod (fun k => k = h1.next) h2 h3 := by rw [← hh3]; exact (Mod.refl a2.fit).setl rfl rfl (by omega)
  have b3 : h3.blk h1.next = some (.cells [.int .i64 (left : Nat)] 3 none) := by rw [← hh3]; exact setl_same rfl
  have b1'' := m3.blk _ _ (by omega) b1'
  have S3 : Sto (fun k => k = kS ∨ k = h1.next) kS bv bs h3 a := ((((S.ahd a1).ahd a2).mod m3 (fun k hk => by omega) (by omega)).up m3.fit (fun k hk => by omega))
  obtain ⟨nf, v, h4, hc, t, a', left', m4, r4, gd, lv, sz, S4, b4, _, _⟩ := grown58 (E := E) (I := I) (fun f args h hf => hI f args h (by rcases hf with h | h | h | h | h <;> simp [h])) (kS := kS) (kL := h1.next) (by omega) hbs deep h3 a left hdeep hl1 hl2 ha m3.fit S3 b3
  have b64 := m4.blk _ _ (by omega) b1''
  obtain ⟨va, vb, vc, vd, rfl, hone⟩ : ∃ a b c d, v = .agg ⟨[a, b, c, d]⟩ ∧ [a, b, c, d].all isOne = true := by
    obtain ⟨k', m', tx', ks'⟩ := t
    obtain ⟨sb', sc', rfl, _⟩ := rep_slice r4
    exact ⟨_, _, _, _, rfl, rfl⟩
  have st5 := st25l (a := va) (b := vb) (c := vc) (d := vd) b64 hone
  have ln4 := m4.next
  have ln3 := m3.next
  generalize hh5 : h4.setl h.next (.cells [va, vb, vc, vd] 25 none) = h5 at st5
  have m5 : Mod (fun k => k = h.next) h4 h5 := by rw [← hh5]; exact (Mod.refl m4.fit).setl rfl rfl (by omega)
  have b5 : h5.blk h.next = some (.cells [va, vb, vc, vd] 25 none) := by rw [← hh5]; exact setl_same rfl
  have hp5 : ∀ k B, k = h.next → h4.blk k = some B → B.plain = true := by
    intro k B hk hb
    subst hk
    rw [b64] at hb; cases hb; rfl
  have r5 := rep_grow (only_grows m5.fit) (rep_grow (only_mod m4.fit m5 hp5 (fun r h => h)) r4)
  repeat' (first
    | (with_reducible apply Wc.seq)
    | (refine Wc.opsN nf (by repeat' (first
      | with_reducible exact RO.nil
      | ((with_reducible apply RO.run (awant_none rfl)); (focus ((first | simp (config := {decide := true}) only [awant, ayield_get, oper1, aop, opv, opvs, opvo, opvp, abuiltin, Ac.get_put, if_true, if_false, and_true, decide_true, abin, isShift, aint, roV, pair, bind, Option.bind, acall, Sx, n0, g00, g01, g02, tz25, z3, hB1, hh1, hB2, hh2, st3, hc, st5] | skip); with_reducible rfl))))) ?_)
    | (refine Wc.cond2 (by simp (config := {decide := true}) only [opv, Ac.get_put, if_true, if_false, and_true, decide_true, Sx, n0, g00, g01, g02, tz25, z3, hB1, hh1, hB2, hh2, st3, hc, st5]; try with_reducible rfl) (fun hb => ?_) (fun hb => ?_) <;> try contradiction)
    | refine Wc.skip ?_
    | refine Wc.ret ?_
    | refine Wc.exit ?_
    | refine Wc.block ?_)
  refine done_cell (.inr rfl) (by simp (config := {decide := true}) only [Ac.get_put, if_true, if_false, and_true, Sx, d0]) rfl (show _ = Value.pointer (some (own h.next)) by simp (config := {decide := true}) only [Ac.get_put, if_true, if_false, and_true, Sx, n0]) (by rw [ld25, blk_cells b5 (n := 4) rfl hone]) ⟨t, ?_, r5, gd, lv, by omega⟩
  have mm : Mod (fun k => k = kS ∨ k = h1.next ∨ k = h.next) h h5 := (((a1.trans a2).mod.trans (m3.sub fun k hk => by omega)).trans (m4.sub fun k hk => by omega)).trans (m5.sub fun k hk => by omega)
  exact mm.low hfit (fun k hk => by omega)

/-- An item is made of bytes. -/
theorem made (hI : ∀ f args h, (f = 121 ∨ f = 94 ∨ f = 93 ∨ f = 95 ∨ f = 58 ∨ f = 23 ∨ f = 24 ∨ f = 59) → I f args h = none) {h : H} {sl : Value} {bs : List Int} (f : Fit h) (hl : h.log = []) (hb : Bin E h sl bs) (deep left : Nat) (hdeep : deep ≤ 100) (hl1 : 1 ≤ left) (hl2 : left ≤ 100) :
    ∃ n p h1 x0 x1 x2 x3 h2 t, (∀ m, n ≤ m → (ev tab E I m).call 24 [sl] h = some (p, h1) ∧ (ev tab E I m).call 23 [p, .int .i64 (left : Nat), .int .i64 (deep : Nat)] h1 = some (.agg ⟨[x0, x1, x2, x3]⟩, h2)) ∧ [x0, x1, x2, x3].all isOne = true ∧ Ahd h h2 ∧ rep E h2 t (.agg ⟨[x0, x1, x2, x3]⟩) ∧ goodI t ∧ lvlI t ≤ (deep : Int) + 1 ∧ isz t ≤ left := by
  obtain ⟨n1, p, h1, c1, kS, bv, rfl, a1, lk, S⟩ := of24 (E := E) (I := I) (fun f args h hf => hI f args h (by rcases hf with h | h <;> simp [h])) f hb
  obtain ⟨n2, v, h2, c2, t, m2, r, gd, lv, sz⟩ := grown23 (E := E) (I := I) (fun f args h hf => hI f args h (by rcases hf with h | h | h | h | h | h <;> simp [h])) (by simp; omega) deep left hdeep hl1 hl2 (by omega) a1.fit S
  obtain ⟨va, vb, vc, vd, rfl, hone⟩ : ∃ a b c d, v = .agg ⟨[a, b, c, d]⟩ ∧ [a, b, c, d].all isOne = true := by
    obtain ⟨k', m', tx', ks'⟩ := t
    obtain ⟨sb', sc', rfl, _⟩ := rep_slice r
    exact ⟨_, _, _, _, rfl, rfl⟩
  refine ⟨max n1 n2, _, h1, va, vb, vc, vd, h2, t, fun m hm => ⟨(ev_mono I (by omega)).call c1, (ev_mono I (by omega)).call c2⟩, hone, ?_, r, gd, lv, sz⟩
  exact ((a1.mod.trans m2).low f (fun k hk => by omega)).toAhd hl
end Go.Proofs.YtofijpbmbmbnhaaDoor
/- Where two items differ, as the program tells it. -/
set_option maxRecDepth 100000
set_option maxHeartbeats 8000000
namespace Go.Proofs.YtofijpbmbmbnhaaDoor
open Go Go.Hs Go.Proofs
variable {E : Env} {I : Known}

theorem fn108 : tab.fn.get 108 = some Tryd.f108 := by kernel_rfl
theorem fn75 : tab.fn.get 75 = some Tryd.f75 := by kernel_rfl
theorem fn67 : tab.fn.get 67 = some Tryd.f67 := by kernel_rfl
theorem fn28 : tab.fn.get 28 = some Tryd.f28 := by kernel_rfl
theorem ty161 : tab.ty.get 161 = some ⟨.struct [(0, 3, 1), (1, 3, 1), (2, 3, 1), (3, 9, 1)], 4, 40, some (.agg #[.int .i64 0, .int .i64 0, .int .i64 0, .string ⟨#[]⟩]), true⟩ := by kernel_rfl
theorem tz161 : tzero tab 161 = some (.agg #[.int .i64 0, .int .i64 0, .int .i64 0, .string ⟨#[]⟩]) := by unfold tzero; rw [ty161]
theorem ld161 (a : Addr) {h : H} : aload tab E 161 a h = match h.cells E a 4 with | some cs => some (.agg ⟨cs⟩) | none => none := by unfold aload; rw [ty161]; rfl
theorem ab161 (k m n : Int) (tx : ByteArray) : abuild tab 161 [(0, .int .i64 k), (1, .int .i64 m), (2, .int .i64 n), (3, .string tx)] = some (.agg ⟨[.int .i64 k, .int .i64 m, .int .i64 n, .string tx]⟩) := by
  unfold abuild
  rw [ty161]
  rfl
theorem st161 {k : Nat} {ty : TypeId} {x0 x1 x2 x3 a b c d : Value} {g : H} (hb : g.blk k = some (.cells [x0, x1, x2, x3] ty none)) (h1 : [a, b, c, d].all isOne = true) (hm : g.mark ≤ k) : astore tab 161 (own k) (.agg ⟨[a, b, c, d]⟩) g = some (g.setb k (.cells [a, b, c, d] ty none)) := by
  unfold astore
  rw [ty161]
  exact put_own hb (by simp [Value.cells]) rfl h1 hm

/-! ### The head -/
def says108 : Says := fun s f args _ v => f = 108 ∧ s = 0 ∧ ∃ k m tx b n c, args = [.agg ⟨[.int .i64 k, .int .i64 m, .string tx, .slice b n c]⟩] ∧ v = .agg ⟨[.int .i64 k, .int .i64 m, .int .i64 (n : Nat), .string tx]⟩
theorem one108 : One says108 := by
  rintro s s' f args h v v' ⟨_, _, k, m, tx, b, n, c, rfl, rfl⟩ ⟨_, _, k', m', tx', b', n', c', he, rfl⟩
  cases he
  rfl
theorem shown108 (hI : ∀ args h, I 108 args h = none) : ShownF tab E I says108 := by
  rintro sz f args h v ⟨rfl, rfl, k, m, tx, b, n, c, rfl, rfl⟩ hfit
  refine ⟨rfl, ?_⟩
  have hJ : upTo says108 I 0 = I := by funext f args h; exact upTo_none (fun _ _ hs => absurd hs (Nat.not_lt_zero _))
  rw [hJ]
  have hl0 : (fresh h).log = [] := rfl
  suffices hw : ∃ nn v h', (ev tab E I nn).call 108 [.agg ⟨[.int .i64 k, .int .i64 m, .string tx, .slice b n c]⟩] (fresh h) = some (v, h') ∧ (v = .agg ⟨[.int .i64 k, .int .i64 m, .int .i64 (n : Nat), .string tx]⟩ ∧ h'.log = []) by
    obtain ⟨n, v, h', h1, rfl, h3⟩ := hw
    exact ⟨n, h', h1, h3⟩
  refine Wc.call (hI _ _) fn108 rfl ?_
  generalize hA0 : (⟨T.ofList [.agg ⟨[.int .i64 k, .int .i64 m, .string tx, .slice b n c]⟩] 0 .nil, max ([.agg ⟨[.int .i64 k, .int .i64 m, .string tx, .slice b n c]⟩] : List Value).length Tryd.f108.ntmps, []⟩ : Ac) = A0
  have n0 : A0.n = 13 := by rw [← hA0]; rfl
  have g00 : A0.get 0 = .agg ⟨[.int .i64 k, .int .i64 m, .string tx, .slice b n c]⟩ := by rw [← hA0]; rfl
  have d0 : A0.defers = [] := by rw [← hA0]
  generalize hg : fresh h = g at hfit hl0
  generalize hh1 : g.new (.cells (Value.agg ⟨[.int .i64 k, .int .i64 m, .string tx, .slice b n c]⟩).cells.toList 25 none) = h1
  have a1 : Ahd g h1 := by rw [← hh1]; exact Ahd.new0 hfit rfl
  have b1 : h1.blk g.next = some (.cells [.int .i64 k, .int .i64 m, .string tx, .slice b n c] 25 none) := by rw [← hh1]; exact new_blk_new rfl
  generalize hh2 : h1.new (.cells (Value.agg #[.int .i64 0, .int .i64 0, .int .i64 0, .string ⟨#[]⟩]).cells.toList 161 none) = h2
  have a2 : Ahd h1 h2 := by rw [← hh2]; exact Ahd.new0 a1.fit rfl
  have b2 : h2.blk h1.next = some (.cells [.int .i64 0, .int .i64 0, .int .i64 0, .string ⟨#[]⟩] 161 none) := by rw [← hh2]; exact new_blk_new rfl
  have b1' := a2.grows _ _ b1
  have x2 : h2.next = h1.next + 1 := by rw [← hh2]; rfl
  have lk : h2.cell E (aadd (own g.next) 0) = some (.int .i64 k) := blk_cell (i := 0) b1' rfl rfl
  have lm : h2.cell E (aadd (own g.next) 1) = some (.int .i64 m) := blk_cell (i := 1) b1' rfl rfl
  have lt : h2.cell E (aadd (own g.next) 2) = some (.string tx) := blk_cell (i := 2) b1' rfl rfl
  have ls : h2.cell E (aadd (own g.next) 3) = some (.slice b n c) := blk_cell (i := 3) b1' rfl rfl
  have st := st161 (a := .int .i64 k) (b := .int .i64 m) (c := .int .i64 (n : Nat)) (d := .string tx) b2 rfl (by rw [a2.mark]; exact a1.fit.ok.2)
  generalize hh3 : h2.setb h1.next (.cells [.int .i64 k, .int .i64 m, .int .i64 (n : Nat), .string tx] 161 none) = h3 at st
  have a3 : Ahd h1 h3 := by rw [← hh3]; exact a2.setb rfl (Nat.le_refl _) (by omega) a1.fit
  have b3 : h3.blk h1.next = some (.cells [.int .i64 k, .int .i64 m, .int .i64 (n : Nat), .string tx] 161 none) := by rw [← hh3]; exact setb_same rfl
  repeat' (first
    | (with_reducible apply Wc.seq)
    | (refine Wc.ops (by repeat' (first
      | with_reducible exact RO.nil
      | ((with_reducible apply RO.run (awant_none rfl)); (focus ((first | simp (config := {decide := true}) only [awant, ayield_get, oper1, aop, opv, opvs, opvo, opvp, abuiltin, Ac.get_put, if_true, if_false, and_true, decide_true, abin, isShift, aint, roV, pair, bind, Option.bind, acall, Sx, n0, g00, hh1, tz161, hh2, fa25_0, fa25_1, fa25_2, fa25_3, ld3, ld9, ld23, len23, lk, lm, lt, ls, ab161, st] | skip); with_reducible rfl))))) ?_)
    | (refine Wc.cond2 (by simp (config := {decide := true}) only [opv, Ac.get_put, if_true, if_false, and_true, decide_true, Sx, n0, g00, hh1, tz161, hh2, fa25_0, fa25_1, fa25_2, fa25_3, ld3, ld9, ld23, len23, lk, lm, lt, ls, ab161, st]; try with_reducible rfl) (fun hb => ?_) (fun hb => ?_) <;> try contradiction)
    | refine Wc.skip ?_
    | refine Wc.ret ?_
    | refine Wc.exit ?_
    | refine Wc.block ?_)
  exact done_cell (.inr rfl) (by simp (config := {decide := true}) only [Ac.get_put, if_true, if_false, and_true, Sx, d0]) rfl (show _ = Value.pointer (some (own h1.next)) by simp (config := {decide := true}) only [Ac.get_put, if_true, if_false, and_true, Sx, n0]) (by rw [ld161, blk_cells b3 (n := 4) rfl rfl]) ⟨rfl, (a1.trans a3).log.trans hl0⟩

/-! ### Numbers that are cloned -/
theorem anil53_1 (a : Addr) (n c : Nat) : anil tab 53 (.slice (some a) n c) (.slice none 0 0) = some false := by
  unfold anil
  rw [ty53]
theorem bs53_0 {h : H} : abuildSlice tab 53 0 [] h = some (.slice (some (own h.next)) 0 0, h.new (.cells [] 3 none)) := by
  unfold abuildSlice
  simp only [ty53, tz3]
  rfl
/-- A slice of numbers. -/
def Ints (h : H) (v : Value) (p : List Int) : Prop := ∃ k rt, v = .slice (some (own k)) p.length p.length ∧ h.blk k = some (.cells (p.map (Value.int .i64)) 3 rt)
theorem ints_one (p : List Int) : (p.map (Value.int .i64)).all isOne = true := by
  simp [isOne]
theorem clone75 (hI : ∀ args h, I 75 args h = none) {h : H} {sp : Value} {p : List Int} (f : Fit h) (hb : Ints h sp p) (hl : p.length ≤ 1000000) :
    ∃ n v h', (ev tab E I n).call 75 [sp] h = some (v, h') ∧ (Ahd h h' ∧ Ints h' v p) := by
  obtain ⟨k, rt, rfl, hk⟩ := hb
  refine Wc.call (hI _ _) fn75 rfl ?_
  generalize hA0 : (⟨T.ofList [.slice (some (own k)) p.length p.length] 0 .nil, max ([.slice (some (own k)) p.length p.length] : List Value).length Tryd.f75.ntmps, []⟩ : Ac) = A0
  have n0 : A0.n = 8 := by rw [← hA0]; rfl
  have g00 : A0.get 0 = .slice (some (own k)) p.length p.length := by rw [← hA0]; rfl
  have d0 : A0.defers = [] := by rw [← hA0]
  obtain ⟨s, h', happ, hcl⟩ := clone_step (D := tab) (E := E) (t := 53) (e := 3) (sz := 1) (by_ := 8) (n := p.length) (c := p.length) (a := own k) f ty53 tz3 rfl (blk_cells hk (by rw [List.length_map, Nat.mul_one]) (ints_one p)) (by rw [List.length_map, Nat.mul_one]) (by
    unfold roomy
    simp only [Bool.and_eq_true, Nat.ble_eq]; omega)
  obtain ⟨k', rt', rfl, hk', hk1, hrt⟩ := hcl.get
  repeat' (first
    | (with_reducible apply Wc.seq)
    | (refine Wc.ops (by repeat' (first
      | with_reducible exact RO.nil
      | ((with_reducible apply RO.run (awant_none rfl)); (focus ((first | simp (config := {decide := true}) only [awant, ayield_get, oper1, aop, opv, opvs, opvo, opvp, abuiltin, Ac.get_put, if_true, if_false, and_true, decide_true, abin, isShift, aint, roV, pair, bind, Option.bind, acall, Sx, n0, g00, anil53_1, bs53_0, happ] | skip); with_reducible rfl))))) ?_)
    | (refine Wc.cond2 (by simp (config := {decide := true}) only [opv, Ac.get_put, if_true, if_false, and_true, decide_true, Sx, n0, g00, anil53_1, bs53_0, happ]; try with_reducible rfl) (fun hb => ?_) (fun hb => ?_) <;> try contradiction)
    | refine Wc.skip ?_
    | refine Wc.ret ?_
    | refine Wc.exit ?_
    | refine Wc.block ?_)
  exact done_q (v := .slice (some (own k')) p.length p.length) (.inr rfl) (by simp (config := {decide := true}) only [Ac.get_put, if_true, if_false, and_true, Sx, d0]) rfl (by simp (config := {decide := true}) only [Ac.get_put, if_true, if_false, and_true, Sx, n0]) ⟨hcl.ahd, k', rt', rfl, hk'⟩

theorem done_q2 {D : Tab} {E : Env} {fn : Func} {A : Ac} {h : H} {t u : Tmp} {v x : Value} {ex : Ex} {Q : Value → H → Prop} (hex : ex = .normal ∨ ex = .ret) (hd : A.defers = []) (hr : fn.results = #[.tmp t, .tmp u]) (hv : A.get t = v) (hx : A.get u = x) (hq : Q (.tuple #[v, x]) h) :
    (ex = .normal ∨ ex = .ret) ∧ ∃ h2 v', takeAll A.defers h = some h2 ∧ ares D E fn A h2 = some v' ∧ Q v' h2 := by
  refine ⟨hex, h, _, ?_, ?_, hq⟩
  · rw [hd]; rfl
  · unfold ares
    rw [hr]
    simp only [aresL, ares1, hv, hx]

theorem beq_dec (a b : ByteArray) : (a == b) = decide (a = b) := by
  rw [beq_str]
  by_cases h : a = b
  · subst h
    simp
  · have : (a.data.toList == b.data.toList) = false := beq_false_of_ne (fun e => h (by
      obtain ⟨⟨a⟩⟩ := a
      obtain ⟨⟨b⟩⟩ := b
      simp only at e
      rw [e]))
    rw [this]
    simp [h]
theorem aeq_3 (d : Nat) (a b : Int) : aeq tab (d + 1) 3 (.int .i64 a) (.int .i64 b) = some (a == b) := by
  rw [aeq, ty3]
  rfl
theorem aeq_9 (d : Nat) (a b : ByteArray) : aeq tab (d + 1) 9 (.string a) (.string b) = some (decide (a = b)) := by
  rw [aeq, ty9, ← beq_dec]
theorem aeq161 (k m n : Int) (tx : ByteArray) (k' m' n' : Int) (tx' : ByteArray) : aeq tab 10000 161 (.agg ⟨[.int .i64 k, .int .i64 m, .int .i64 n, .string tx]⟩) (.agg ⟨[.int .i64 k', .int .i64 m', .int .i64 n', .string tx']⟩) = some (decide (k = k' ∧ m = m' ∧ n = n' ∧ tx = tx')) := by
  have e : aeq tab (9998 + 1 + 1) 161 (.agg ⟨[.int .i64 k, .int .i64 m, .int .i64 n, .string tx]⟩) (.agg ⟨[.int .i64 k', .int .i64 m', .int .i64 n', .string tx']⟩) = some (decide (k = k' ∧ m = m' ∧ n = n' ∧ tx = tx')) := by
    rw [aeq, ty161]
    have p3 : ∀ (xs : List Value) (o : Nat), apart tab 3 xs o = xs[o]? := fun xs o => by unfold apart; rw [ty3]; rfl
    have p9 : ∀ (xs : List Value) (o : Nat), apart tab 9 xs o = xs[o]? := fun xs o => by unfold apart; rw [ty9]; rfl
    simp only [eqFields, p3, p9, List.getElem?_cons_zero, List.getElem?_cons_succ, aeq_3, aeq_9]
    by_cases h1 : k = k' <;> by_cases h2 : m = m' <;> by_cases h3 : n = n' <;> by_cases h4 : tx = tx' <;> simp [h1, h2, h3, h4]
  exact e
end Go.Proofs.YtofijpbmbmbnhaaDoor
/- Where two items differ: the walk. -/
set_option maxRecDepth 100000
set_option maxHeartbeats 8000000
namespace Go.Proofs.YtofijpbmbmbnhaaDoor
open Go Go.Hs Go.Proofs
variable {E : Env} {I : Known}

theorem rep_four {h : H} {t : Hs.Item} {v : Value} (hr : rep E h t v) : ∃ q0 q1 q2 q3, v = .agg ⟨[q0, q1, q2, q3]⟩ ∧ [q0, q1, q2, q3].all isOne = true := by
  obtain ⟨k', m', tx', ks'⟩ := t
  obtain ⟨sb', sc', e, _⟩ := rep_slice hr
  exact ⟨_, _, _, _, e, rfl⟩
theorem bs53_1 (n : Int) {h : H} : abuildSlice tab 53 1 [(0, .int .i64 n)] h = some (.slice (some (own h.next)) 1 1, h.new (.cells [.int .i64 n] 3 none)) := by
  unfold abuildSlice
  simp only [ty53, tz3]
  rfl
noncomputable def loop67 : Code := loopOf Tryd.f67

/-- What it gives. -/
def apaV (t u : Hs.Item) (p : List Int) (v : Value) (h : H) : Prop := match apaI t u with
  | some q => ∃ pv, v = .tuple #[pv, .bool true] ∧ Ints h pv (p ++ q)
  | none => v = .tuple #[.slice none 0 0, .bool false]

theorem Pth.ints {h : H} {sp : Value} {p : List Int} {rt : Option Nat} (P : Pth 3 h sp (p.map (Value.int .i64)) rt) : Ints h sp p := by
  obtain ⟨k, h1, h2⟩ := P.get
  rw [List.length_map] at h1
  exact ⟨k, _, h1, h2⟩
theorem Ints.same' {h g : H} {v : Value} {p : List Int} (i : Ints h v p) (hg : Grows h g) : Ints g v p := by
  obtain ⟨k, rt, h1, h2⟩ := i
  exact ⟨k, rt, h1, hg _ _ h2⟩
theorem Ints.same {h g : H} {v : Value} {p : List Int} (i : Ints h v p) (hb : ∀ k, g.blk k = h.blk k) : Ints g v p := by
  obtain ⟨k, rt, h1, h2⟩ := i
  exact ⟨k, rt, h1, by rw [hb]; exact h2⟩
theorem blk_low {h : H} (f : Fit h) {a : Addr} {n : Nat} {cs : List Value} (hc : h.cells E a n = some cs) (hn : 0 < n) (o : Nat) : ∀ k ∈ atV (.pointer (some (aadd a o))), k < h.next := by
  intro k hk
  obtain ⟨b, f', sp⟩ := a
  cases n with
  | zero => omega
  | succ n =>
    match sp, hc, hk with
    | none, _, hk => cases hk
    | some (_ + 1), _, hk =>
      cases o with
      | zero => cases hk
      | succ o => cases hk
    | some 0, hc, hk =>
      have hk : k ∈ [b] := hk
      obtain rfl := List.mem_singleton.1 hk
      unfold H.cells at hc
      simp only at hc
      split at hc
      · next hb => exact f.lt hb
      · cases hc

theorem apart67 (hI : ∀ f args h, (f = 67 ∨ f = 75) → I f args h = none) (h108 : ∀ k m tx b n c h, I 108 [.agg ⟨[.int .i64 k, .int .i64 m, .string tx, .slice b n c]⟩] h = some (some (.agg ⟨[.int .i64 k, .int .i64 m, .int .i64 (n : Nat), .string tx]⟩, h))) {h0 : H} (f0 : Fit h0) : ∀ (s : Nat) (t u : Hs.Item) (xv yv : Value) (h : H) (sp : Value) (p : List Int) (rt : Option Nat), isz t ≤ s → rep E h0 t xv → rep E h0 u yv → Grows h0 h → Fit h → h0.next ≤ h.next → Pth 3 h sp (p.map (Value.int .i64)) rt → (∀ r, rt = some r → ChainOk h0.next 3 h r (fun _ l => l ≤ p.length)) → p.length + isz t ≤ 1000000 →
    ∃ n v h', (ev tab E I n).call 67 [xv, yv, sp] h = some (v, h') ∧ (Xt h0.next 3 rt h h' ∧ apaV t u p v h') := by
  intro s
  induction s with
  | zero => intro t u xv yv h sp p rt hs; have := isz_pos t; omega
  | succ s IH =>
  intro t u xv yv h sp p rt hs hr hr' hg hfit hn P hok hlen
  obtain ⟨k, m, tx, ks⟩ := t
  obtain ⟨k', m', tx', ks'⟩ := u
  obtain ⟨sb, sc, rfl, hsk⟩ := rep_slice hr
  obtain ⟨sb', sc', rfl, hsk'⟩ := rep_slice hr'
  refine Wc.call (hI _ _ _ (.inl rfl)) fn67 rfl ?_
  generalize hA0 : (⟨T.ofList [.agg ⟨[.int .i64 k, .int .i64 m, .string tx, .slice sb ks.length sc]⟩, .agg ⟨[.int .i64 k', .int .i64 m', .string tx', .slice sb' ks'.length sc']⟩, sp] 0 .nil, max ([.agg ⟨[.int .i64 k, .int .i64 m, .string tx, .slice sb ks.length sc]⟩, .agg ⟨[.int .i64 k', .int .i64 m', .string tx', .slice sb' ks'.length sc']⟩, sp] : List Value).length Tryd.f67.ntmps, []⟩ : Ac) = A0
  have n0 : A0.n = 44 := by rw [← hA0]; rfl
  have g00 : A0.get 0 = .agg ⟨[.int .i64 k, .int .i64 m, .string tx, .slice sb ks.length sc]⟩ := by rw [← hA0]; rfl
  have g01 : A0.get 1 = .agg ⟨[.int .i64 k', .int .i64 m', .string tx', .slice sb' ks'.length sc']⟩ := by rw [← hA0]; rfl
  have g02 : A0.get 2 = sp := by rw [← hA0]; rfl
  have d0 : A0.defers = [] := by rw [← hA0]
  generalize hh1 : h.new (.cells (Value.agg ⟨[.int .i64 k, .int .i64 m, .string tx, .slice sb ks.length sc]⟩).cells.toList 25 none) = h1
  have a1 : Ahd h h1 := by rw [← hh1]; exact Ahd.new0 hfit rfl
  have b1 : h1.blk h.next = some (.cells [.int .i64 k, .int .i64 m, .string tx, .slice sb ks.length sc] 25 none) := by rw [← hh1]; exact new_blk_new rfl
  generalize hh2 : h1.new (.cells (Value.agg ⟨[.int .i64 k', .int .i64 m', .string tx', .slice sb' ks'.length sc']⟩).cells.toList 25 none) = h2
  have a2 : Ahd h1 h2 := by rw [← hh2]; exact Ahd.new0 a1.fit rfl
  have b2 : h2.blk h1.next = some (.cells [.int .i64 k', .int .i64 m', .string tx', .slice sb' ks'.length sc'] 25 none) := by rw [← hh2]; exact new_blk_new rfl
  have b1' := a2.grows _ _ b1
  have ag := a1.trans a2
  have x1 : (fresh h2).cells E (own h.next) 4 = some [.int .i64 k, .int .i64 m, .string tx, .slice sb ks.length sc] := blk_cells (h := fresh h2) b1' rfl rfl
  have y1 : (fresh h2).cells E (own h1.next) 4 = some [.int .i64 k', .int .i64 m', .string tx', .slice sb' ks'.length sc'] := blk_cells (h := fresh h2) b2 rfl rfl
  have lt := P.lt hfit
  have c1 := ev_known (D := tab) (E := E) (h108 k m tx sb ks.length sc (fresh h2))
  have c2 := ev_known (D := tab) (E := E) (h108 k' m' tx' sb' ks'.length sc' (fresh h2))
  repeat' (with_reducible apply Wc.seq)
  refine Wc.ops (by repeat' (first
      | with_reducible exact RO.nil
      | ((with_reducible apply RO.run (awant_none rfl)); (focus ((first | simp (config := {decide := true}) only [awant, ayield_get, oper1, aop, opv, opvs, opvo, opvp, abuiltin, Ac.get_put, if_true, if_false, and_true, decide_true, abin, isShift, aint, roV, pair, bind, Option.bind, acall, Sx, n0, g00, g01, hh1, hh2] | skip); with_reducible rfl))))) ?_
  repeat' (with_reducible apply Wc.seq)
  refine Wc.drawC 1 (by kernel_rfl) ?_
  by_cases hc : k = k' ∧ m = m' ∧ ks.length = ks'.length ∧ tx = tx'
  rotate_left
  · -- the heads differ
    have hc' : ¬ (k = k' ∧ m = m' ∧ (ks.length : Int) = (ks'.length : Int) ∧ tx = tx') := fun ⟨e1, e2, e3, e4⟩ => hc ⟨e1, e2, by omega, e4⟩
    have ha : apaI (.mk k m tx ks) (.mk k' m' tx' ks') = some [] := by rw [apaI, if_neg hc]
    obtain ⟨nf, v5, h5, c75, a5, i5⟩ := clone75 (E := E) (I := I) (fun args h => hI _ args h (.inr rfl)) ag.fit ((Pth.ints P).same' ag.grows) (by omega)
    (iterate 5 (first
      | ((apply FC.pure rfl rfl); (focus ((first | simp (config := {decide := true}) only [awant, ayield_get, oper1, aop, opv, opvs, opvo, opvp, abuiltin, Ac.get_put, if_true, if_false, and_true, decide_true, abin, isShift, aint, roV, pair, bind, Option.bind, acall, Sx, n0, ld25, x1, y1, c1, c2, aeq161, decide_eq_false hc'] | skip); with_reducible rfl)))
      | ((apply FC.new rfl rfl); (focus ((first | simp (config := {decide := true}) only [awant, ayield_get, oper1, aop, opv, opvs, opvo, opvp, abuiltin, Ac.get_put, if_true, if_false, and_true, decide_true, abin, isShift, aint, roV, pair, bind, Option.bind, acall, Sx, n0, ld25, x1, y1, c1, c2, aeq161, decide_eq_false hc'] | skip); with_reducible rfl)))))
    refine FC.nil ?_
    repeat' (first
    | (with_reducible apply Wc.seq)
    | (refine Wc.opsN nf (by repeat' (first
      | with_reducible exact RO.nil
      | ((with_reducible apply RO.run (awant_none rfl)); (focus ((first | simp (config := {decide := true}) only [awant, ayield_get, oper1, aop, opv, opvs, opvo, opvp, abuiltin, Ac.get_put, if_true, if_false, and_true, decide_true, abin, isShift, aint, roV, pair, bind, Option.bind, acall, Sx, n0, g02, c75] | skip); with_reducible rfl))))) ?_)
    | (refine Wc.cond2 (by simp (config := {decide := true}) only [opv, Ac.get_put, if_true, if_false, and_true, decide_true, Sx, n0, g02, c75]; try with_reducible rfl) (fun hb => ?_) (fun hb => ?_) <;> try contradiction)
    | refine Wc.skip ?_
    | refine Wc.ret ?_
    | refine Wc.exit ?_
    | refine Wc.block ?_)
    refine done_q2 (v := v5) (x := .bool true) (.inr rfl) (by simp (config := {decide := true}) only [Ac.get_put, if_true, if_false, and_true, Sx, d0]) rfl (by simp (config := {decide := true}) only [Ac.get_put, if_true, if_false, and_true, Sx, n0]) (by simp (config := {decide := true}) only [Ac.get_put, if_true, if_false, and_true, Sx, n0]) ⟨(ag.trans a5).xt lt, ?_⟩
    unfold apaV
    rw [ha]
    exact ⟨v5, rfl, by rw [List.append_nil]; exact i5⟩
  · -- the heads are the same
    have hl : ks.length = ks'.length := hc.2.2.1
    have hc' : (k = k' ∧ m = m' ∧ (ks.length : Int) = (ks'.length : Int) ∧ tx = tx') := ⟨hc.1, hc.2.1, by omega, hc.2.2.2⟩
    have ha : apaI (.mk k m tx ks) (.mk k' m' tx' ks') = apaL ks ks' 0 := by rw [apaI, if_pos hc]
    have l3 : h2.cell E (aadd (own h.next) 3) = some (.slice sb ks.length sc) := blk_cell (i := 3) b1' rfl rfl
    (iterate 5 (first
      | ((apply FC.pure rfl rfl); (focus ((first | simp (config := {decide := true}) only [awant, ayield_get, oper1, aop, opv, opvs, opvo, opvp, abuiltin, Ac.get_put, if_true, if_false, and_true, decide_true, abin, isShift, aint, roV, pair, bind, Option.bind, acall, Sx, n0, ld25, x1, y1, c1, c2, aeq161, decide_eq_true hc'] | skip); with_reducible rfl)))
      | ((apply FC.new rfl rfl); (focus ((first | simp (config := {decide := true}) only [awant, ayield_get, oper1, aop, opv, opvs, opvo, opvp, abuiltin, Ac.get_put, if_true, if_false, and_true, decide_true, abin, isShift, aint, roV, pair, bind, Option.bind, acall, Sx, n0, ld25, x1, y1, c1, c2, aeq161, decide_eq_true hc'] | skip); with_reducible rfl)))))
    refine FC.nil ?_
    repeat' (first
    | (with_reducible apply Wc.seq)
    | (refine Wc.ops (by repeat' (first
      | with_reducible exact RO.nil
      | ((with_reducible apply RO.run (awant_none rfl)); (focus ((first | simp (config := {decide := true}) only [awant, ayield_get, oper1, aop, opv, opvs, opvo, opvp, abuiltin, Ac.get_put, if_true, if_false, and_true, decide_true, abin, isShift, aint, roV, pair, bind, Option.bind, acall, Sx, n0, fa25_3, ld23, l3, len23] | skip); with_reducible rfl))))) ?_)
    | (refine Wc.cond2 (by simp (config := {decide := true}) only [opv, Ac.get_put, if_true, if_false, and_true, decide_true, Sx, n0, fa25_3, ld23, l3, len23]; try with_reducible rfl) (fun hb => ?_) (fun hb => ?_) <;> try contradiction)
    | refine Wc.skip ?_
    | refine Wc.ret ?_
    | refine Wc.exit ?_
    | refine Wc.block ?_)
    have hkk := hsk
    have key : ∀ (r i : Nat) (A : Ac) (g : H), r = ks.length - i → i ≤ ks.length → A.n = 44 → A.defers = [] → A.get 2 = sp → A.get 4 = .pointer (some (own h1.next)) → A.get 20 = .slice sb ks.length sc → A.get 21 = .int .i64 (ks.length : Nat) → A.get 22 = .int .i64 (i : Nat) →
        Xt h0.next 3 rt h2 g → apaL ks ks' 0 = apaL (ks.drop i) (ks'.drop i) (i : Nat) →
        Wc tab E I ⟨67, none⟩ (.loop loop67) A g (fun ex A' g' => A'.n = 44 ∧ A'.defers = [] ∧ Xt h0.next 3 rt h2 g' ∧ ((ex = .exit 0 ∧ apaL ks ks' 0 = none) ∨ (ex = .ret ∧ ∃ q pv, apaL ks ks' 0 = some q ∧ A'.get 6 = pv ∧ A'.get 7 = .bool true ∧ Ints g' pv (p ++ q)))) := by
      intro r
      induction r with
      | zero =>
        intro i A g hr' hi nA dA p2 p4 p20 p21 p22 X ho
        have hil : i = ks.length := by omega
        have hlt : decide ((i : Int) < (ks.length : Int)) = false := by simp; omega
        apply Wc.loop
        simp only [loop67, loopOf, firstLoop, Option.getD, Tryd.f67]
        repeat' (first
    | (with_reducible apply Wc.seq)
    | (refine Wc.ops (by repeat' (first
      | with_reducible exact RO.nil
      | ((with_reducible apply RO.run (awant_none rfl)); (focus ((first | simp (config := {decide := true}) only [awant, ayield_get, oper1, aop, opv, opvs, opvo, opvp, abuiltin, Ac.get_put, if_true, if_false, and_true, decide_true, abin, isShift, aint, roV, pair, bind, Option.bind, acall, Sx, nA, p21, p22, hlt] | skip); with_reducible rfl))))) ?_)
    | (refine Wc.cond2 (by simp (config := {decide := true}) only [opv, Ac.get_put, if_true, if_false, and_true, decide_true, Sx, nA, p21, p22, hlt]; try with_reducible rfl) (fun hb => ?_) (fun hb => ?_) <;> try contradiction)
    | refine Wc.skip ?_
    | refine Wc.ret ?_
    | refine Wc.exit ?_
    | refine Wc.block ?_)
        refine ⟨by simp (config := {decide := true}) only [Ac.get_put, if_true, if_false, and_true, Sx, nA], by simp (config := {decide := true}) only [Ac.get_put, if_true, if_false, and_true, Sx, dA], X, .inl ⟨rfl, ?_⟩⟩
        rw [ho, hil, List.drop_length, apaL]
      | succ r ih =>
        intro i A g hr' hi nA dA p2 p4 p20 p21 p22 X ho
        have hil : i < ks.length := by omega
        have hil' : i < ks'.length := by omega
        have hlt : decide ((i : Int) < (ks.length : Int)) = true := by simp; omega
        rcases hsk with hk0 | ⟨a, cs, rfl, hcap, hcs, hrl⟩
        · rw [hk0] at hil; simp at hil
        rcases hsk' with hk0 | ⟨a', cs', rfl, hcap', hcs', hrl'⟩
        · rw [hk0] at hil'; simp at hil'
        have G2 : Grows h0 g := (hg.trans ag.grows).trans X.grows
        obtain ⟨hl4, hrk⟩ := repL_get i hrl (List.getElem?_eq_getElem hil)
        obtain ⟨hl4', hrk'⟩ := repL_get i hrl' (List.getElem?_eq_getElem hil')
        have hsub := cells_sub (cells_grow G2 hcs) (m := i * 4) (l := 4) (by omega)
        have hmem : ks[i] ∈ ks := List.getElem_mem hil
        have hkz := isz_mem hmem
        rw [isz] at hs hlen
        obtain ⟨q0, q1, q2, q3, hq, hone⟩ := rep_four hrk
        obtain ⟨s0, s1, s2, s3, hqs, hones⟩ := rep_four hrk'
        simp only [Value.agg.injEq, Array.mk.injEq] at hq hqs
        rw [hq] at hsub hrk
        have hsubL := cells_sub (cells_grow G2 hcs') (m := i * 4) (l := 4) (by omega)
        rw [hqs] at hrk'
        have hir : inRange (i : Int) ks.length = true := by
          show Nat.blt i ks.length = true
          rw [Nat.blt_eq]; exact hil
        have hir' : inRange (i : Int) ks'.length = true := by
          show Nat.blt i ks'.length = true
          rw [Nat.blt_eq]; exact hil'
        have w3 : IntKind.i64.wrap ((i : Int) + 1) = (i : Int) + 1 := wrap64 (by omega) (by omega)
        -- the item is copied
        generalize hh3 : g.new (.cells (Value.agg #[.int .i64 0, .int .i64 0, .string ⟨#[]⟩, .slice none 0 0]).cells.toList 25 none) = g1
        have e1 : Ahd g g1 := by rw [← hh3]; exact Ahd.new0 X.fit rfl
        have cc1 : g1.blk g.next = some (.cells [.int .i64 0, .int .i64 0, .string ⟨#[]⟩, .slice none 0 0] 25 none) := by rw [← hh3]; exact new_blk_new rfl
        have hn1 : g1.next = g.next + 1 := by rw [← hh3]; rfl
        have hst := st25 (a := q0) (b := q1) (c := q2) (d := q3) cc1 hone (by rw [e1.mark]; exact X.fit.ok.2)
        generalize hh4 : g1.setb g.next (.cells [q0, q1, q2, q3] 25 none) = g2 at hst
        have e2 : Ahd g g2 := by rw [← hh4]; exact e1.setb rfl (Nat.le_refl _) (by omega) X.fit
        have cc2 : g2.blk g.next = some (.cells [q0, q1, q2, q3] 25 none) := by rw [← hh4]; exact setb_same rfl
        have hn2 : g2.next = g1.next := by rw [← hh4]; rfl
        have ltg : ∀ r, rt = some r → r < g.next := fun r hr => Nat.lt_of_lt_of_le (lt r hr) (Nat.le_trans ag.next X.next)
        -- the number
        generalize hB3 : (Blk.cells [.int .i64 (i : Nat)] 3 none) = B3
        generalize hh5 : g2.new B3 = g3
        have e3 : Ahd g2 g3 := by rw [← hh5, ← hB3]; exact Ahd.new0 e2.fit rfl
        have cc3 : g3.blk g2.next = some (.cells [.int .i64 (i : Nat)] 3 none) := by rw [← hh5, ← hB3]; exact new_blk_new rfl
        have X3 : Xt h0.next 3 rt h2 g3 := X.ahead (e2.trans e3) ltg
        have P3 : Pth 3 g3 sp (p.map (Value.int .i64)) rt := P.grow (ag.grows.trans X3.grows)
        have ok3 : ∀ r, rt = some r → ChainOk h0.next 3 g3 r (fun j l => l ≤ (p.map (Value.int .i64)).length ∨ h2.next ≤ j) := by
          intro r hr
          rw [List.length_map]
          exact X3.ok r hr _ (ag.chainOk (lt r hr) (hok r hr))
        obtain ⟨s', q, rt', happ, X4, P4, P4', ok4, hrt, keep4, hlog, hnq⟩ := pth_step (D := tab) (E := E) (t := 53) (t2 := 53) (by_ := 8) (kx := g2.next) (c := 1) (x := .int .i64 (i : Nat)) X3 P3 ag.fit (Nat.le_trans hn ag.next) ok3 ty53 tz3 rfl (by unfold zeroArg; rw [ty53]) (blk_cells cc3 rfl rfl) rfl (by
          rw [List.length_map]
          unfold roomy
          simp only [Bool.and_eq_true, Nat.ble_eq]; omega)
        rw [List.length_map] at ok4
        rw [show p.map (Value.int .i64) ++ [.int .i64 (i : Nat)] = (p ++ [(i : Int)]).map (Value.int .i64) by rw [List.map_append]; rfl] at P4'
        generalize hg4 : back g3 q = g4 at X4 P4 P4' ok4 keep4
        have hf4 := X4.fit
        obtain ⟨nf, v, qh, ck, Y, hv⟩ := IH ks[i] ks'[i] (.agg ⟨[q0, q1, q2, q3]⟩) (.agg ⟨[s0, s1, s2, s3]⟩) (fresh g4) s' (p ++ [(i : Int)]) rt' (by omega) hrk hrk' ((hg.trans ag.grows).trans X4.grows) hf4.fresh (Nat.le_trans (Nat.le_trans hn ag.next) X4.next) (P4'.grow (g := fresh g4) (fun _ _ hb => hb)) (fun r hr => by rw [List.length_append]; exact ok4 r hr) (by rw [List.length_append]; simp only [List.length_singleton]; omega)
        obtain ⟨Y, hql⟩ := Y.back hf4
        obtain ⟨pv, b, rfl, hvb⟩ : ∃ pv b, v = .tuple #[pv, .bool b] ∧ ((b = true ∧ ∃ q', apaI ks[i] ks'[i] = some q' ∧ Ints qh pv ((p ++ [(i : Int)]) ++ q')) ∨ (b = false ∧ apaI ks[i] ks'[i] = none)) := by
          unfold apaV at hv
          split at hv
          · next q' hq' =>
            obtain ⟨pv, rfl, hi⟩ := hv
            exact ⟨pv, true, rfl, .inl ⟨rfl, q', hq', hi⟩⟩
          · next hq' => exact ⟨_, false, hv, .inr ⟨rfl, hq'⟩⟩
        have hin : ∀ p, Ints qh pv p → Ints (back g4 qh) pv p := fun p hp => hp.same (fun k => back_blk _ _ _)
        have X5 : Xt h0.next 3 rt h2 (back g4 qh) := X4.trans Y (hrt.elim (fun h => .inl h.1) .inr) (fun r hr => by
          rcases hrt with h | h
          · right
            rw [h.2] at hr
            cases hr
            exact X3.next
          · exact .inl h)
        have f9 : (fresh g2).cells E (own g.next) 4 = some [q0, q1, q2, q3] := blk_cells (h := fresh g2) cc2 rfl hone
        have f4 : (fresh g2).cell E (aadd (own h1.next) 3) = some (.slice (some a') ks'.length sc') := blk_cell (h := fresh g2) (i := 3) (e2.grows _ _ (X.grows _ _ b2)) rfl rfl
        have fsub : (fresh g2).cells E (aadd a' (i * 4)) 4 = some [s0, s1, s2, s3] := by
          rw [hqs] at hsubL
          have e : Grows g (fresh g2) := e2.grows
          exact cells_grow e hsubL
        have hfn : (fresh g2).next = g2.next := rfl
        have hbs := bs53_1 (i : Nat) (h := fresh g2)
        rw [hB3] at hbs
        apply Wc.loop
        simp only [loop67, loopOf, firstLoop, Option.getD, Tryd.f67]
        repeat' (first
    | (with_reducible apply Wc.seq)
    | (refine Wc.ops (by repeat' (first
      | with_reducible exact RO.nil
      | ((with_reducible apply RO.run (awant_none rfl)); (focus ((first | simp (config := {decide := true}) only [awant, ayield_get, oper1, aop, opv, opvs, opvo, opvp, abuiltin, Ac.get_put, if_true, if_false, and_true, decide_true, abin, isShift, aint, roV, pair, bind, Option.bind, acall, Sx, nA, p20, p21, p22, hlt, ia23 _ _ _ _ hir, Int.toNat_natCast, ld25, hsub, tz25, hh3, hst] | skip); with_reducible rfl))))) ?_)
    | (refine Wc.cond2 (by simp (config := {decide := true}) only [opv, Ac.get_put, if_true, if_false, and_true, decide_true, Sx, nA, p20, p21, p22, hlt, ia23 _ _ _ _ hir, Int.toNat_natCast, ld25, hsub, tz25, hh3, hst]; try with_reducible rfl) (fun hb => ?_) (fun hb => ?_) <;> try contradiction)
    | refine Wc.skip ?_
    | refine Wc.ret ?_
    | refine Wc.exit ?_
    | refine Wc.block ?_)
        refine Wc.forget (fun A => A.n = 44 ∧ A.defers = [] ∧ A.get 2 = sp ∧ A.get 4 = .pointer (some (own h1.next)) ∧ A.get 8 = .int .i64 (i : Nat) ∧ A.get 9 = .pointer (some (own g.next)) ∧ A.get 20 = .slice (some a) ks.length sc ∧ A.get 21 = .int .i64 (ks.length : Nat) ∧ A.get 22 = .int .i64 (i : Nat)) ⟨by simp (config := {decide := true}) only [Ac.get_put, if_true, if_false, and_true, Sx, nA], by simp (config := {decide := true}) only [Ac.get_put, if_true, if_false, and_true, Sx, dA], by simp (config := {decide := true}) only [Ac.get_put, if_true, if_false, and_true, Sx, nA, p2], by simp (config := {decide := true}) only [Ac.get_put, if_true, if_false, and_true, Sx, nA, p4], by simp (config := {decide := true}) only [Ac.get_put, if_true, if_false, and_true, Sx, nA], by simp (config := {decide := true}) only [Ac.get_put, if_true, if_false, and_true, Sx, nA], by simp (config := {decide := true}) only [Ac.get_put, if_true, if_false, and_true, Sx, nA, p20], by simp (config := {decide := true}) only [Ac.get_put, if_true, if_false, and_true, Sx, nA, p21], by simp (config := {decide := true}) only [Ac.get_put, if_true, if_false, and_true, Sx, nA, p22]⟩ ?_
        clear nA dA p2 p4 p20 p21 p22
        rintro A ⟨nA, dA, p2, p4, p8, p9, p20, p21, p22⟩
        refine Wc.drawQ nf (by kernel_rfl) ?_
        (iterate 8 (first
      | ((apply FQ.pure rfl rfl); (focus ((first | simp (config := {decide := true}) only [awant, ayield_get, oper1, aop, opv, opvs, opvo, opvp, abuiltin, Ac.get_put, if_true, if_false, and_true, decide_true, abin, isShift, aint, roV, pair, bind, Option.bind, acall, Sx, nA, p8, p9, p4, p2, ld25, f9, fa25_3, ld23, f4, ia23 _ _ _ _ hir', Int.toNat_natCast, fsub] | skip); with_reducible rfl)))
      | ((apply FQ.new rfl rfl); (focus ((first | simp (config := {decide := true}) only [awant, ayield_get, oper1, aop, opv, opvs, opvo, opvp, abuiltin, Ac.get_put, if_true, if_false, and_true, decide_true, abin, isShift, aint, roV, pair, bind, Option.bind, acall, Sx, nA, p8, p9, p4, p2, ld25, f9, fa25_3, ld23, f4, ia23 _ _ _ _ hir', Int.toNat_natCast, fsub] | skip); with_reducible rfl)))))
        refine FQ.new (x := .slice (some (own g2.next)) 1 1) (B := B3) rfl rfl (by simp (config := {decide := true}) only [awant, ayield_get, oper1, aop, opv, opvs, opvo, opvp, abuiltin, Ac.get_put, if_true, if_false, and_true, decide_true, abin, isShift, aint, roV, pair, bind, Option.bind, acall, Sx, nA, p8, hbs, hfn]) ?_
        rw [hh5]
        refine FQ.mod (h1 := q) (x := s') rfl rfl (by simp (config := {decide := true}) only [awant, ayield_get, oper1, aop, opv, opvs, opvo, opvp, abuiltin, Ac.get_put, if_true, if_false, and_true, decide_true, abin, isShift, aint, roV, pair, bind, Option.bind, acall, Sx, nA, p2, happ]) ?_
        rw [hg4]
        refine FQ.call (h1 := qh) (x := .tuple #[pv, .bool b]) rfl rfl (by simp (config := {decide := true}) only [awant, ayield_get, oper1, aop, opv, opvs, opvo, opvp, abuiltin, Ac.get_put, if_true, if_false, and_true, decide_true, abin, isShift, aint, roV, pair, bind, Option.bind, acall, Sx, nA, ck]) hql ?_
        generalize hg5 : back g4 qh = g5 at X5 hin
        (iterate 5 (first
      | ((apply FQ.pure rfl rfl); (focus ((first | simp (config := {decide := true}) only [awant, ayield_get, oper1, aop, opv, opvs, opvo, opvp, abuiltin, Ac.get_put, if_true, if_false, and_true, decide_true, abin, isShift, aint, roV, pair, bind, Option.bind, acall, Sx, nA, ex0, ex1] | skip); with_reducible rfl)))
      | ((apply FQ.new rfl rfl); (focus ((first | simp (config := {decide := true}) only [awant, ayield_get, oper1, aop, opv, opvs, opvo, opvp, abuiltin, Ac.get_put, if_true, if_false, and_true, decide_true, abin, isShift, aint, roV, pair, bind, Option.bind, acall, Sx, nA, ex0, ex1] | skip); with_reducible rfl)))))
        refine FQ.nil ⟨?_, ?_⟩
        · refine allMeet_by [9] (fun ii e hi hs => ?_) (fun ii jj ss tt hij hs w1 w2 ho => ?_)
          · have hi16 : ii < 16 := (List.getElem?_eq_some_iff.1 hi).1
            obtain rfl | rfl | rfl | rfl | rfl | rfl | rfl | rfl | rfl | rfl | rfl | rfl | rfl | rfl | rfl | rfl : ii = 0 ∨ ii = 1 ∨ ii = 2 ∨ ii = 3 ∨ ii = 4 ∨ ii = 5 ∨ ii = 6 ∨ ii = 7 ∨ ii = 8 ∨ ii = 9 ∨ ii = 10 ∨ ii = 11 ∨ ii = 12 ∨ ii = 13 ∨ ii = 14 ∨ ii = 15 := by omega
            all_goals first
              | (cases hi; rfl)
              | (cases hs; done)
          · have hj16 : jj < 16 := (List.getElem?_eq_some_iff.1 w2).1
            have hU := pairs_of (n := 16) (S := [9]) (U := [(0, 9), (1, 9), (2, 9), (3, 9), (4, 9), (5, 9)]) (by kernel_rfl) hij hj16 hs ho
            simp only [List.mem_cons, Prod.mk.injEq, List.not_mem_nil, or_false] at hU
            have hpl : ∀ k xs ty, g3.dyn.get k = some (.cells xs ty none) → ∀ j ∈ q.log, j ≠ k := by
              rintro k xs ty hk j hj rfl
              obtain ⟨_, ys, r, h1⟩ := hlog j hj
              rw [hk] at h1; cases h1
            have hw9 := hpl g.next _ _ (H.blk_dyn (e3.grows _ _ cc2))
            have hw4 := hpl h1.next _ _ (H.blk_dyn (X3.grows _ _ b2))
            have any : ∀ (n : Nat), ∀ k ∈ q.log, k < n ∨ n ≤ k := fun n k _ => by omega
            rcases hU with ⟨rfl, rfl⟩ | ⟨rfl, rfl⟩ | ⟨rfl, rfl⟩ | ⟨rfl, rfl⟩ | ⟨rfl, rfl⟩ | ⟨rfl, rfl⟩
            · cases w1; cases w2
              exact meets_right (l := [g.next]) rfl (by simp (config := {decide := true}) only [awant, ayield_get, oper1, aop, opv, opvs, opvo, opvp, abuiltin, Ac.get_put, if_true, if_false, and_true, decide_true, abin, isShift, aint, roV, pair, bind, Option.bind, acall, Sx, reads, pureOp, atV, nA, p9, aadd, own]) (fun k hk => by simpa using hw9 k hk) rfl (any _)
            · cases w1; cases w2
              exact meets_right (l := []) rfl rfl (fun k _ => by simp) rfl (any _)
            · cases w1; cases w2
              exact meets_right (l := [h1.next]) rfl (by simp (config := {decide := true}) only [awant, ayield_get, oper1, aop, opv, opvs, opvo, opvp, abuiltin, Ac.get_put, if_true, if_false, and_true, decide_true, abin, isShift, aint, roV, pair, bind, Option.bind, acall, Sx, reads, pureOp, atV, nA, p4, aadd, own]) (fun k hk => by simpa using hw4 k hk) rfl (any _)
            · cases w1; cases w2
              exact meets_right (l := []) rfl rfl (fun k _ => by simp) rfl (any _)
            · cases w1; cases w2
              exact meets_right (l := []) rfl rfl (fun k _ => by simp) rfl (any _)
            · cases w1; cases w2
              exact meets_right (l := atV (.pointer (some (aadd a' (i * 4))))) rfl (by simp (config := {decide := true}) only [awant, ayield_get, oper1, aop, opv, opvs, opvo, opvp, abuiltin, Ac.get_put, if_true, if_false, and_true, decide_true, abin, isShift, aint, roV, pair, bind, Option.bind, acall, Sx, reads, pureOp, nA]) (fun k hk hh => by
                have h1 := blk_low f0 hcs' (by omega) (i * 4) k hh
                have h2 := (hlog k hk).1
                omega) rfl (any _)
        have hd : apaL (ks.drop i) (ks'.drop i) (i : Nat) = match apaI ks[i] ks'[i] with
            | some p => some ((i : Int) :: p)
            | none => apaL (ks.drop (i + 1)) (ks'.drop (i + 1)) ((i : Int) + 1) := apaL_drop hil hil' _
        refine Wc.forget (fun A => A.n = 44 ∧ A.defers = [] ∧ A.get 2 = sp ∧ A.get 4 = .pointer (some (own h1.next)) ∧ A.get 10 = pv ∧ A.get 11 = .bool b ∧ A.get 20 = .slice (some a) ks.length sc ∧ A.get 21 = .int .i64 (ks.length : Nat) ∧ A.get 22 = .int .i64 (i : Nat)) ⟨by simp (config := {decide := true}) only [Ac.get_put, if_true, if_false, and_true, Sx, nA], by simp (config := {decide := true}) only [Ac.get_put, if_true, if_false, and_true, Sx, dA], by simp (config := {decide := true}) only [Ac.get_put, if_true, if_false, and_true, Sx, nA, p2], by simp (config := {decide := true}) only [Ac.get_put, if_true, if_false, and_true, Sx, nA, p4], by simp (config := {decide := true}) only [Ac.get_put, if_true, if_false, and_true, Sx, nA], by simp (config := {decide := true}) only [Ac.get_put, if_true, if_false, and_true, Sx, nA], by simp (config := {decide := true}) only [Ac.get_put, if_true, if_false, and_true, Sx, nA, p20], by simp (config := {decide := true}) only [Ac.get_put, if_true, if_false, and_true, Sx, nA, p21], by simp (config := {decide := true}) only [Ac.get_put, if_true, if_false, and_true, Sx, nA, p22]⟩ ?_
        clear nA dA p2 p4 p8 p9 p20 p21 p22
        rintro A ⟨nA, dA, p2, p4, p10, p11, p20, p21, p22⟩
        rcases hvb with ⟨rfl, q', hq', hi'⟩ | ⟨rfl, hq'⟩
        · repeat' (first
    | (with_reducible apply Wc.seq)
    | (refine Wc.ops (by repeat' (first
      | with_reducible exact RO.nil
      | ((with_reducible apply RO.run (awant_none rfl)); (focus ((first | simp (config := {decide := true}) only [awant, ayield_get, oper1, aop, opv, opvs, opvo, opvp, abuiltin, Ac.get_put, if_true, if_false, and_true, decide_true, abin, isShift, aint, roV, pair, bind, Option.bind, acall, Sx, nA, p10, p11] | skip); with_reducible rfl))))) ?_)
    | (refine Wc.cond2 (by simp (config := {decide := true}) only [opv, Ac.get_put, if_true, if_false, and_true, decide_true, Sx, nA, p10, p11]; try with_reducible rfl) (fun hb => ?_) (fun hb => ?_) <;> try contradiction)
    | refine Wc.skip ?_
    | refine Wc.ret ?_
    | refine Wc.exit ?_
    | refine Wc.block ?_)
          refine ⟨by simp (config := {decide := true}) only [Ac.get_put, if_true, if_false, and_true, Sx, nA], by simp (config := {decide := true}) only [Ac.get_put, if_true, if_false, and_true, Sx, dA], X5, .inr ⟨rfl, (i : Int) :: q', pv, ?_, by simp (config := {decide := true}) only [Ac.get_put, if_true, if_false, and_true, Sx, nA], by simp (config := {decide := true}) only [Ac.get_put, if_true, if_false, and_true, Sx, nA], ?_⟩⟩
          · rw [ho, hd, hq']
          · have := hin _ hi'
            rw [List.append_assoc] at this
            exact this
        · repeat' (first
    | (with_reducible apply Wc.seq)
    | (refine Wc.ops (by repeat' (first
      | with_reducible exact RO.nil
      | ((with_reducible apply RO.run (awant_none rfl)); (focus ((first | simp (config := {decide := true}) only [awant, ayield_get, oper1, aop, opv, opvs, opvo, opvp, abuiltin, Ac.get_put, if_true, if_false, and_true, decide_true, abin, isShift, aint, roV, pair, bind, Option.bind, acall, Sx, nA, p11, p22, w3] | skip); with_reducible rfl))))) ?_)
    | (refine Wc.cond2 (by simp (config := {decide := true}) only [opv, Ac.get_put, if_true, if_false, and_true, decide_true, Sx, nA, p11, p22, w3]; try with_reducible rfl) (fun hb => ?_) (fun hb => ?_) <;> try contradiction)
    | refine Wc.skip ?_
    | refine Wc.ret ?_
    | refine Wc.exit ?_
    | refine Wc.block ?_)
          refine (ih (i + 1) _ g5 (by omega) (by omega) ?_ ?_ ?_ ?_ ?_ ?_ ?_ X5 ?_).mono ?_
          · simp (config := {decide := true}) only [Ac.get_put, if_true, if_false, and_true, Sx, nA]
          · simp (config := {decide := true}) only [Ac.get_put, if_true, if_false, and_true, Sx, dA]
          · simp (config := {decide := true}) only [Ac.get_put, if_true, if_false, and_true, Sx, nA, p2]
          · simp (config := {decide := true}) only [Ac.get_put, if_true, if_false, and_true, Sx, nA, p4]
          · simp (config := {decide := true}) only [Ac.get_put, if_true, if_false, and_true, Sx, nA, p20]
          · simp (config := {decide := true}) only [Ac.get_put, if_true, if_false, and_true, Sx, nA, p21]
          · simp (config := {decide := true}) only [Ac.get_put, if_true, if_false, and_true, Sx, nA]
            rfl
          · rw [ho, hd, hq']
            push_cast
            rfl
          · rintro ex A' h' ⟨e1, e2, e3, ⟨rfl, e6⟩ | ⟨rfl, e6⟩⟩
            · exact ⟨e1, e2, e3, .inl ⟨rfl, e6⟩⟩
            · exact ⟨e1, e2, e3, .inr ⟨rfl, e6⟩⟩
    refine (key ks.length 0 _ h2 rfl (Nat.zero_le _) ?_ ?_ ?_ ?_ ?_ ?_ ?_ (Xt.refl ag.fit (fun r hr => Nat.lt_of_lt_of_le (lt r hr) ag.next)) (by rw [List.drop_zero, List.drop_zero]; rfl)).mono ?_
    · simp (config := {decide := true}) only [Ac.get_put, if_true, if_false, and_true, Sx, n0]
    · simp (config := {decide := true}) only [Ac.get_put, if_true, if_false, and_true, Sx, d0]
    · simp (config := {decide := true}) only [Ac.get_put, if_true, if_false, and_true, Sx, n0, g02]
    · simp (config := {decide := true}) only [Ac.get_put, if_true, if_false, and_true, Sx, n0]
    · simp (config := {decide := true}) only [Ac.get_put, if_true, if_false, and_true, Sx, n0]
    · simp (config := {decide := true}) only [Ac.get_put, if_true, if_false, and_true, Sx, n0]
    · simp (config := {decide := true}) only [Ac.get_put, if_true, if_false, and_true, Sx, n0]
      rfl
    · have fin : ∀ g', Xt h0.next 3 rt h2 g' → Xt h0.next 3 rt h g' := fun g' X => (ag.xt lt).trans X (.inr rfl) (fun _ _ => .inl rfl)
      rintro ex A' g' ⟨e1, e2, e5, ⟨rfl, e6⟩ | ⟨rfl, q, pv, e6, e7, e8, e9⟩⟩
      · simp only [if_true]
        repeat' (first
    | (with_reducible apply Wc.seq)
    | (refine Wc.ops (by repeat' (first
      | with_reducible exact RO.nil
      | ((with_reducible apply RO.run (awant_none rfl)); (focus ((first | simp (config := {decide := true}) only [awant, ayield_get, oper1, aop, opv, opvs, opvo, opvp, abuiltin, Ac.get_put, if_true, if_false, and_true, decide_true, abin, isShift, aint, roV, pair, bind, Option.bind, acall, Sx, e1] | skip); with_reducible rfl))))) ?_)
    | (refine Wc.cond2 (by simp (config := {decide := true}) only [opv, Ac.get_put, if_true, if_false, and_true, decide_true, Sx, e1]; try with_reducible rfl) (fun hb => ?_) (fun hb => ?_) <;> try contradiction)
    | refine Wc.skip ?_
    | refine Wc.ret ?_
    | refine Wc.exit ?_
    | refine Wc.block ?_)
        refine done_q2 (v := .slice none 0 0) (x := .bool false) (.inr rfl) (by simp (config := {decide := true}) only [Ac.get_put, if_true, if_false, and_true, Sx, e2]) rfl (by simp (config := {decide := true}) only [Ac.get_put, if_true, if_false, and_true, Sx, e1]) (by simp (config := {decide := true}) only [Ac.get_put, if_true, if_false, and_true, Sx, e1]) ⟨fin _ e5, ?_⟩
        unfold apaV
        rw [ha, e6]
      · refine done_q2 (v := pv) (x := .bool true) (.inr rfl) e2 rfl e7 e8 ⟨fin _ e5, ?_⟩
        unfold apaV
        rw [ha, e6]
        exact ⟨pv, rfl, e9⟩
end Go.Proofs.YtofijpbmbmbnhaaDoor
/- Apart: where two right items differ. -/
set_option maxRecDepth 100000
set_option maxHeartbeats 8000000
namespace Go.Proofs.YtofijpbmbmbnhaaDoor
open Go Go.Hs Go.Proofs
variable {E : Env} {I : Known}

/-- What Apart gives. -/
def apV (t u : Hs.Item) (v : Value) (h : H) : Prop := match apaI t u with
  | some q => ∃ pv, v = .tuple #[pv, .int .i64 0] ∧ Ints h pv q
  | none => v = .tuple #[.slice none 0 0, .int .i64 6]

theorem apart28 (hI : ∀ f args h, (f = 28 ∨ f = 67 ∨ f = 75) → I f args h = none) (h108 : ∀ k m tx b n c h, I 108 [.agg ⟨[.int .i64 k, .int .i64 m, .string tx, .slice b n c]⟩] h = some (some (.agg ⟨[.int .i64 k, .int .i64 m, .int .i64 (n : Nat), .string tx]⟩, h))) (h65 : ∀ ks sl h, repK E h ks sl → iszL ks ≤ 1000000 → I 65 [sl] h = some (some (.int .i64 (chkAll ks), h))) {t u : Hs.Item} {xv yv : Value} {h : H} (hr : rep E h t xv) (hr' : rep E h u yv) (hfit : Fit h) (hz : isz t ≤ 400000) (hz' : isz u ≤ 400000) (hbo : bothI t u = 0) :
    ∃ n v h', (ev tab E I n).call 28 [xv, yv] h = some (v, h') ∧ (Ahd h h' ∧ apV t u v h') := by
  obtain ⟨x0, x1, x2, x3, rfl, xone⟩ := rep_four hr
  obtain ⟨y0, y1, y2, y3, rfl, yone⟩ := rep_four hr'
  refine Wc.call (hI _ _ _ (.inl rfl)) fn28 rfl ?_
  generalize hA0 : (⟨T.ofList [.agg ⟨[x0, x1, x2, x3]⟩, .agg ⟨[y0, y1, y2, y3]⟩] 0 .nil, max ([.agg ⟨[x0, x1, x2, x3]⟩, .agg ⟨[y0, y1, y2, y3]⟩] : List Value).length Tryd.f28.ntmps, []⟩ : Ac) = A0
  have n0 : A0.n = 26 := by rw [← hA0]; rfl
  have g00 : A0.get 0 = .agg ⟨[x0, x1, x2, x3]⟩ := by rw [← hA0]; rfl
  have g01 : A0.get 1 = .agg ⟨[y0, y1, y2, y3]⟩ := by rw [← hA0]; rfl
  have d0 : A0.defers = [] := by rw [← hA0]
  generalize hh1 : h.new (.cells (Value.agg ⟨[x0, x1, x2, x3]⟩).cells.toList 25 none) = h1
  have a1 : Ahd h h1 := by rw [← hh1]; exact Ahd.new0 hfit rfl
  have b1 : h1.blk h.next = some (.cells [x0, x1, x2, x3] 25 none) := by rw [← hh1]; exact new_blk_new rfl
  generalize hh2 : h1.new (.cells (Value.agg ⟨[y0, y1, y2, y3]⟩).cells.toList 25 none) = h2
  have a2 : Ahd h1 h2 := by rw [← hh2]; exact Ahd.new0 a1.fit rfl
  have b2 : h2.blk h1.next = some (.cells [y0, y1, y2, y3] 25 none) := by rw [← hh2]; exact new_blk_new rfl
  have b1' := a2.grows _ _ b1
  have ag := a1.trans a2
  have lx : h2.cells E (own h.next) 4 = some [x0, x1, x2, x3] := blk_cells b1' rfl xone
  have ly : h2.cells E (own h1.next) 4 = some [y0, y1, y2, y3] := blk_cells b2 rfl yone
  generalize hh3 : h2.new (.cells [x0, x1, x2, x3, y0, y1, y2, y3] 25 none) = h3
  have a3 : Ahd h2 h3 := by rw [← hh3]; exact Ahd.new0 a2.fit rfl
  have b3 : h3.blk h2.next = some (.cells [x0, x1, x2, x3, y0, y1, y2, y3] 25 none) := by rw [← hh3]; exact new_blk_new rfl
  have ag3 := ag.trans a3
  have lx3 := cells_grow a3.grows lx
  have ly3 := cells_grow a3.grows ly
  have hbs := bs23_2 (a := x0) (b := x1) (c := x2) (d := x3) (a' := y0) (b' := y1) (c' := y2) (d' := y3) (h := h2)
  rw [hh3] at hbs
  have hone8 : [x0, x1, x2, x3, y0, y1, y2, y3].all isOne = true := by
    simp only [List.all_cons, List.all_nil, Bool.and_true, Bool.and_eq_true] at xone yone ⊢
    exact ⟨xone.1, xone.2.1, xone.2.2.1, xone.2.2.2, yone.1, yone.2.1, yone.2.2.1, yone.2.2.2⟩
  have hk : repK E h3 [t, u] (.slice (some (own h2.next)) 2 2) := by
    unfold repK
    rw [rep]
    refine ⟨_, rfl, .inr ⟨own h2.next, 2, _, rfl, ⟨Nat.le_refl _, by decide⟩, blk_cells b3 rfl hone8, ?_⟩⟩
    rw [repL]
    refine ⟨_, _, _, _, _, rfl, rep_grow ag3.grows hr, ?_⟩
    rw [repL]
    refine ⟨_, _, _, _, _, rfl, rep_grow ag3.grows hr', ?_⟩
    rw [repL]
  have c65 : (ev tab E I 1).call 65 [.slice (some (own h2.next)) 2 2] h3 = some (.int .i64 0, h3) := by
    have := ev_known (D := tab) (E := E) (h65 _ _ _ hk (by simp only [iszL]; omega))
    have e : chkAll [t, u] = bothI t u := chkAll_two t u
    rw [e, hbo] at this
    exact this
  -- the path
  generalize hh4 : h3.new (.cells [] 3 none) = h4
  have a4 : Ahd h3 h4 := by rw [← hh4]; exact Ahd.new0 a3.fit rfl
  have b4 : h4.blk h3.next = some (.cells [] 3 none) := by rw [← hh4]; exact new_blk_new rfl
  have hb0 := bs53_0 (h := h3)
  rw [hh4] at hb0
  have ag4 := ag3.trans a4
  obtain ⟨nf, v, h5, c67, X, hv⟩ := apart67 (E := E) (I := I) (fun f args h hf => hI f args h (by rcases hf with h | h <;> simp [h])) h108 hfit (isz t) t u _ _ h4 (.slice (some (own h3.next)) 0 0) [] none (Nat.le_refl _) hr hr' ag4.grows a4.fit ag4.next ⟨⟨h3.next, rfl, b4⟩, rfl, fun _ => rfl⟩ (fun r hr => by cases hr) (by simp only [List.length_nil]; omega)
  have a5 := ag4.trans X.ahd
  obtain ⟨pv, b, rfl, hvb⟩ : ∃ pv b, v = .tuple #[pv, .bool b] ∧ ((b = true ∧ ∃ q', apaI t u = some q' ∧ Ints h5 pv q') ∨ (b = false ∧ apaI t u = none)) := by
    unfold apaV at hv
    split at hv
    · next q' hq' =>
      obtain ⟨pv, rfl, hi⟩ := hv
      exact ⟨pv, true, rfl, .inl ⟨rfl, q', hq', hi⟩⟩
    · next hq' => exact ⟨_, false, hv, .inr ⟨rfl, hq'⟩⟩
  have c65 := (ev_mono I (Nat.le_max_right nf 1)).call c65
  have c67 := (ev_mono I (Nat.le_max_left nf 1)).call c67
  generalize max nf 1 = nf at c65 c67
  have d65 : (!decide ((0 : Int) = 0)) = false := rfl
  rcases hvb with ⟨rfl, q', hq', hi'⟩ | ⟨rfl, hq'⟩
  · repeat' (first
    | (with_reducible apply Wc.seq)
    | (refine Wc.opsN nf (by repeat' (first
      | with_reducible exact RO.nil
      | ((with_reducible apply RO.run (awant_none rfl)); (focus ((first | simp (config := {decide := true}) only [awant, ayield_get, oper1, aop, opv, opvs, opvo, opvp, abuiltin, Ac.get_put, if_true, if_false, and_true, decide_true, abin, isShift, aint, roV, pair, bind, Option.bind, acall, Sx, n0, g00, g01, hh1, hh2, ld25, lx, ly, hbs, c65, d65, lx3, ly3, hb0, c67, ex0, ex1, aun] | skip); with_reducible rfl))))) ?_)
    | (refine Wc.cond2 (by simp (config := {decide := true}) only [opv, Ac.get_put, if_true, if_false, and_true, decide_true, Sx, n0, g00, g01, hh1, hh2, ld25, lx, ly, hbs, c65, d65, lx3, ly3, hb0, c67, ex0, ex1, aun]; try with_reducible rfl) (fun hb => ?_) (fun hb => ?_) <;> try contradiction)
    | refine Wc.skip ?_
    | refine Wc.ret ?_
    | refine Wc.exit ?_
    | refine Wc.block ?_)
    refine done_q2 (v := pv) (x := .int .i64 0) (.inr rfl) (by simp (config := {decide := true}) only [Ac.get_put, if_true, if_false, and_true, Sx, d0]) rfl (by simp (config := {decide := true}) only [Ac.get_put, if_true, if_false, and_true, Sx, n0]) (by simp (config := {decide := true}) only [Ac.get_put, if_true, if_false, and_true, Sx, n0]) ⟨a5, ?_⟩
    unfold apV
    rw [hq']
    exact ⟨pv, rfl, hi'⟩
  · repeat' (first
    | (with_reducible apply Wc.seq)
    | (refine Wc.opsN nf (by repeat' (first
      | with_reducible exact RO.nil
      | ((with_reducible apply RO.run (awant_none rfl)); (focus ((first | simp (config := {decide := true}) only [awant, ayield_get, oper1, aop, opv, opvs, opvo, opvp, abuiltin, Ac.get_put, if_true, if_false, and_true, decide_true, abin, isShift, aint, roV, pair, bind, Option.bind, acall, Sx, n0, g00, g01, hh1, hh2, ld25, lx, ly, hbs, c65, d65, lx3, ly3, hb0, c67, ex0, ex1, aun] | skip); with_reducible rfl))))) ?_)
    | (refine Wc.cond2 (by simp (config := {decide := true}) only [opv, Ac.get_put, if_true, if_false, and_true, decide_true, Sx, n0, g00, g01, hh1, hh2, ld25, lx, ly, hbs, c65, d65, lx3, ly3, hb0, c67, ex0, ex1, aun]; try with_reducible rfl) (fun hb => ?_) (fun hb => ?_) <;> try contradiction)
    | refine Wc.skip ?_
    | refine Wc.ret ?_
    | refine Wc.exit ?_
    | refine Wc.block ?_)
    refine done_q2 (v := .slice none 0 0) (x := .int .i64 6) (.inr rfl) (by simp (config := {decide := true}) only [Ac.get_put, if_true, if_false, and_true, Sx, d0]) rfl (by simp (config := {decide := true}) only [Ac.get_put, if_true, if_false, and_true, Sx, n0]) (by simp (config := {decide := true}) only [Ac.get_put, if_true, if_false, and_true, Sx, n0]) ⟨a5, ?_⟩
    unfold apV
    rw [hq']
end Go.Proofs.YtofijpbmbmbnhaaDoor
/- An item of one's own. -/
set_option maxRecDepth 100000
set_option maxHeartbeats 8000000
namespace Go.Proofs.YtofijpbmbmbnhaaDoor
open Go Go.Hs Go.Proofs
variable {E : Env} {I : Known}

theorem fn47 : tab.fn.get 47 = some Tryd.f47 := by kernel_rfl
theorem fn68 : tab.fn.get 68 = some Tryd.f68 := by kernel_rfl
theorem anil23_0 : anil tab 23 (.slice none 0 0) (.slice none 0 0) = some true := by
  unfold anil
  rw [ty23]
  rfl
theorem anil23_1 (a : Addr) (n c : Nat) : anil tab 23 (.slice (some a) n c) (.slice none 0 0) = some false := by
  unfold anil
  rw [ty23]
theorem bs23_0 {h : H} : abuildSlice tab 23 0 [] h = some (.slice (some (own h.next)) 0 0, h.new (.cells [] 25 none)) := by
  unfold abuildSlice
  simp only [ty23, tz25]
  rfl

theorem clone47 (hI : ∀ args h, I 47 args h = none) {h : H} {a : Addr} {n c : Nat} {cs : List Value} (f : Fit h) (hcs : h.cells E a (n * 4) = some cs) (hcl : cs.length = n * 4) (hl : n ≤ 1000000) :
    ∃ nn v h', (ev tab E I nn).call 47 [.slice (some a) n c] h = some (v, h') ∧ Cln h h' 25 n cs v := by
  refine Wc.call (hI _ _) fn47 rfl ?_
  generalize hA0 : (⟨T.ofList [.slice (some a) n c] 0 .nil, max ([.slice (some a) n c] : List Value).length Tryd.f47.ntmps, []⟩ : Ac) = A0
  have n0 : A0.n = 8 := by rw [← hA0]; rfl
  have g00 : A0.get 0 = .slice (some a) n c := by rw [← hA0]; rfl
  have d0 : A0.defers = [] := by rw [← hA0]
  obtain ⟨s, h', happ, hcl⟩ := clone_step (D := tab) (E := E) (t := 23) (e := 25) (sz := 4) (by_ := 56) (n := n) (c := c) (a := a) f ty23 tz25 rfl hcs hcl (by
    unfold roomy
    simp only [Bool.and_eq_true, Nat.ble_eq]; omega)
  repeat' (first
    | (with_reducible apply Wc.seq)
    | (refine Wc.ops (by repeat' (first
      | with_reducible exact RO.nil
      | ((with_reducible apply RO.run (awant_none rfl)); (focus ((first | simp (config := {decide := true}) only [awant, ayield_get, oper1, aop, opv, opvs, opvo, opvp, abuiltin, Ac.get_put, if_true, if_false, and_true, decide_true, abin, isShift, aint, roV, pair, bind, Option.bind, acall, Sx, n0, g00, anil23_1, bs23_0, happ] | skip); with_reducible rfl))))) ?_)
    | (refine Wc.cond2 (by simp (config := {decide := true}) only [opv, Ac.get_put, if_true, if_false, and_true, decide_true, Sx, n0, g00, anil23_1, bs23_0, happ]; try with_reducible rfl) (fun hb => ?_) (fun hb => ?_) <;> try contradiction)
    | refine Wc.skip ?_
    | refine Wc.ret ?_
    | refine Wc.exit ?_
    | refine Wc.block ?_)
  exact done_q (v := s) (.inr rfl) (by simp (config := {decide := true}) only [Ac.get_put, if_true, if_false, and_true, Sx, d0]) rfl (by simp (config := {decide := true}) only [Ac.get_put, if_true, if_false, and_true, Sx, n0]) hcl
theorem clone47_nil (hI : ∀ args h, I 47 args h = none) (h : H) : ∃ nn v h', (ev tab E I nn).call 47 [.slice none 0 0] h = some (v, h') ∧ (v = .slice none 0 0 ∧ h' = h) := by
  refine Wc.call (hI _ _) fn47 rfl ?_
  generalize hA0 : (⟨T.ofList [.slice none 0 0] 0 .nil, max ([.slice none 0 0] : List Value).length Tryd.f47.ntmps, []⟩ : Ac) = A0
  have n0 : A0.n = 8 := by rw [← hA0]; rfl
  have g00 : A0.get 0 = .slice none 0 0 := by rw [← hA0]; rfl
  have d0 : A0.defers = [] := by rw [← hA0]
  repeat' (first
    | (with_reducible apply Wc.seq)
    | (refine Wc.ops (by repeat' (first
      | with_reducible exact RO.nil
      | ((with_reducible apply RO.run (awant_none rfl)); (focus ((first | simp (config := {decide := true}) only [awant, ayield_get, oper1, aop, opv, opvs, opvo, opvp, abuiltin, Ac.get_put, if_true, if_false, and_true, decide_true, abin, isShift, aint, roV, pair, bind, Option.bind, acall, Sx, n0, g00, anil23_0] | skip); with_reducible rfl))))) ?_)
    | (refine Wc.cond2 (by simp (config := {decide := true}) only [opv, Ac.get_put, if_true, if_false, and_true, decide_true, Sx, n0, g00, anil23_0]; try with_reducible rfl) (fun hb => ?_) (fun hb => ?_) <;> try contradiction)
    | refine Wc.skip ?_
    | refine Wc.ret ?_
    | refine Wc.exit ?_
    | refine Wc.block ?_)
  exact done_q (v := .slice none 0 0) (.inr rfl) (by simp (config := {decide := true}) only [Ac.get_put, if_true, if_false, and_true, Sx, d0]) rfl (by simp (config := {decide := true}) only [Ac.get_put, if_true, if_false, and_true, Sx, n0]) ⟨rfl, rfl⟩

/-- The Kids, cloned: nothing of them yet one's own. -/
theorem kids47 (hI : ∀ args h, I 47 args h = none) {h0 h : H} {ks : List Hs.Item} {s : Value} (f : Fit h) (hg : Grows h0 h) (hs : (ks = [] ∧ s = .slice none 0 0) ∨ ∃ a c cs, s = .slice (some a) ks.length c ∧ (ks.length ≤ c ∧ c < 9223372036854775808) ∧ h0.cells E a (ks.length * 4) = some cs ∧ repL E h0 ks cs) (hl : ks.length ≤ 1000000) :
    ∃ nn b c h', (ev tab E I nn).call 47 [s] h = some (.slice b ks.length c, h') ∧ Ahd h h' ∧ ((ks = [] ∧ (b = none ∧ c = 0 ∨ ∃ k, b = some (own k) ∧ c = 0)) ∨ ∃ kc cs, b = some (own kc) ∧ c = ks.length ∧ h.next ≤ kc ∧ h'.blk kc = some (.cells cs 25 (some (kc, 0))) ∧ h'.chain kc = [kc] ∧ repL E h0 ks cs) := by
  rcases hs with ⟨rfl, rfl⟩ | ⟨a, c, cs, rfl, _, hcs, hrl⟩
  · obtain ⟨nn, v, h', hc, rfl, rfl⟩ := clone47_nil (E := E) hI h
    exact ⟨nn, none, 0, _, hc, Ahd.refl f, .inl ⟨rfl, .inl ⟨rfl, rfl⟩⟩⟩
  · obtain ⟨nn, v, h', hc, cl⟩ := clone47 (E := E) (c := c) hI f (cells_grow hg hcs) (repL_length hrl) hl
    obtain ⟨k, rt, rfl, hk, hk1, hrt⟩ := cl.get
    refine ⟨nn, _, _, h', hc, cl.ahd, ?_⟩
    rcases hrt with ⟨rfl, h0⟩ | ⟨rfl, hch⟩
    · exact .inl ⟨List.length_eq_zero_iff.1 h0, .inr ⟨k, rfl, h0⟩⟩
    · exact .inr ⟨k, cs, rfl, rfl, hk1, hk, hch, hrl⟩
theorem rep_four' {h : H} {t : Hs.Item} {a b c d : Value} (hr : rep E h t (.agg ⟨[a, b, c, d]⟩)) : [a, b, c, d].all isOne = true := by
  obtain ⟨q0, q1, q2, q3, e, h1⟩ := rep_four hr
  simp only [Value.agg.injEq, Array.mk.injEq] at e
  rw [e]; exact h1
theorem repL_one {h : H} : ∀ {ks : List Hs.Item} {cs : List Value}, repL E h ks cs → cs.all isOne = true
  | [], cs, hr => by rw [repL] at hr; rw [hr]; rfl
  | x :: xs, cs, hr => by
    rw [repL] at hr
    obtain ⟨a, b, c, d, l, rfl, h1, h2⟩ := hr
    have e := rep_four' h1
    have e2 := repL_one h2
    simp only [List.all_cons, List.all_nil, Bool.and_true, Bool.and_eq_true] at e ⊢
    exact ⟨e.1, e.2.1, e.2.2.1, e.2.2.2, e2⟩
end Go.Proofs.YtofijpbmbmbnhaaDoor
/- An item of one's own: the walk. -/
set_option maxRecDepth 100000
set_option maxHeartbeats 8000000
namespace Go.Proofs.YtofijpbmbmbnhaaDoor
open Go Go.Hs Go.Proofs
variable {E : Env} {I : Known}

noncomputable def loop68 : Code := loopOf Tryd.f68
theorem st23_3m {k : Nat} {x0 x1 x2 x3 : Value} {b : Option Addr} {n c : Nat} {g : H} (hb : g.blk k = some (.cells [x0, x1, x2, x3] 25 none)) (hm : g.mark ≤ k) : astore tab 23 (aadd (own k) 3) (.slice b n c) g = some (g.setb k (.cells [x0, x1, x2, .slice b n c] 25 none)) := by
  unfold astore
  rw [ty23]
  exact put_plain (o := 3) (vs := [.slice b n c]) hb (by simp) (by simp) rfl hm

/-- The Kids that are one's own so far. -/
def OwnK (E : Env) (h0 : H) (ks : List Hs.Item) (b : Option Addr) (c : Nat) (g : H) (i : Nat) : Prop :=
  ks = [] ∨ ∃ kc xs cs, b = some (own kc) ∧ c = ks.length ∧ h0.next ≤ kc ∧ g.blk kc = some (.cells (xs ++ cs.drop (i * 4)) 25 (some (kc, 0))) ∧ g.chain kc = [kc] ∧ xs.length = i * 4 ∧ (xs ++ cs.drop (i * 4)).all isOne = true ∧ repL E h0 ks cs ∧ repL E (only (fun r => Nat.blt kc r) g) (ks.take i) xs

theorem OwnK.ahd {h0 g g' : H} {ks : List Hs.Item} {b : Option Addr} {c i : Nat} (o : OwnK E h0 ks b c g i) (f : Fit g) (a : Ahd g g') : OwnK E h0 ks b c g' i := by
  rcases o with o | ⟨kc, xs, cs, e1, e2, e3, e4, e5, e6, e7, e8, e9⟩
  · exact .inl o
  · exact .inr ⟨kc, xs, cs, e1, e2, e3, a.grows _ _ e4, by rw [a.chain _ (f.lt e4)]; exact e5, e6, e7, e8, repL_grow (only_ahd f a (fun _ h => h)) e9⟩

theorem own68 (hI : ∀ f args h, (f = 68 ∨ f = 47) → I f args h = none) : ∀ (s : Nat) (t : Hs.Item) (xv : Value) (h : H), isz t ≤ s → rep E h t xv → Fit h → isz t ≤ 1000000 →
    ∃ n v h', (ev tab E I n).call 68 [xv] h = some (v, h') ∧ (Ahd h h' ∧ rep E (only (fun r => Nat.ble h.next r) h') t v) := by
  intro s
  induction s with
  | zero => intro t xv h hs; have := isz_pos t; omega
  | succ s IH =>
  intro t xv h hs hr hfit hlen
  obtain ⟨k, m, tx, ks⟩ := t
  have hr0 := hr
  rw [rep] at hr0
  obtain ⟨s1, rfl, hs1⟩ := hr0
  obtain ⟨sb, sn, sc, rfl⟩ : ∃ b n c, s1 = .slice b n c := by
    rcases hs1 with ⟨_, rfl⟩ | ⟨a, c, cs, rfl, _⟩ <;> exact ⟨_, _, _, rfl⟩
  rw [isz] at hs hlen
  have hkl := len_iszL ks
  refine Wc.call (hI _ _ _ (.inl rfl)) fn68 rfl ?_
  generalize hA0 : (⟨T.ofList [.agg ⟨[.int .i64 k, .int .i64 m, .string tx, .slice sb sn sc]⟩] 0 .nil, max ([.agg ⟨[.int .i64 k, .int .i64 m, .string tx, .slice sb sn sc]⟩] : List Value).length Tryd.f68.ntmps, []⟩ : Ac) = A0
  have n0 : A0.n = 25 := by rw [← hA0]; rfl
  have g00 : A0.get 0 = .agg ⟨[.int .i64 k, .int .i64 m, .string tx, .slice sb sn sc]⟩ := by rw [← hA0]; rfl
  have d0 : A0.defers = [] := by rw [← hA0]
  generalize hh1 : h.new (.cells (Value.agg ⟨[.int .i64 k, .int .i64 m, .string tx, .slice sb sn sc]⟩).cells.toList 25 none) = h1
  have a1 : Ahd h h1 := by rw [← hh1]; exact Ahd.new0 hfit rfl
  have b1 : h1.blk h.next = some (.cells [.int .i64 k, .int .i64 m, .string tx, .slice sb sn sc] 25 none) := by rw [← hh1]; exact new_blk_new rfl
  have x1 : h1.next = h.next + 1 := by rw [← hh1]; rfl
  generalize hh2 : h1.new (.cells (Value.agg #[.int .i64 0, .int .i64 0, .string ⟨#[]⟩, .slice none 0 0]).cells.toList 25 none) = h2
  have a2 : Ahd h1 h2 := by rw [← hh2]; exact Ahd.new0 a1.fit rfl
  have b2 : h2.blk h1.next = some (.cells [.int .i64 0, .int .i64 0, .string ⟨#[]⟩, .slice none 0 0] 25 none) := by rw [← hh2]; exact new_blk_new rfl
  have x2 : h2.next = h1.next + 1 := by rw [← hh2]; rfl
  have b1' := a2.grows _ _ b1
  have ag := a1.trans a2
  have l3 : h2.cell E (aadd (own h.next) 3) = some (.slice sb sn sc) := blk_cell (i := 3) b1' rfl rfl
  obtain ⟨nf, vb, vc, h3, c47, a3, hk⟩ := kids47 (E := E) (I := I) (ks := ks) (s := .slice sb sn sc) (fun args h => hI _ args h (.inr rfl)) ag.fit ag.grows hs1 (by omega)
  have b13 := a3.grows _ _ b1'
  have b23 := a3.grows _ _ b2
  have hlt1 := a3.fit.lt b13
  have hlt2 := a3.fit.lt b23
  have st := st23_3m (b := vb) (n := ks.length) (c := vc) b13 (by rw [a3.mark, ag.mark]; exact hfit.ok.2)
  generalize hh4 : h3.setb h.next (.cells [.int .i64 k, .int .i64 m, .string tx, .slice vb ks.length vc] 25 none) = h4 at st
  have a4 : Ahd h h4 := by rw [← hh4]; exact (ag.trans a3).setb rfl (Nat.le_refl _) hlt1 hfit
  have b14 : h4.blk h.next = some (.cells [.int .i64 k, .int .i64 m, .string tx, .slice vb ks.length vc] 25 none) := by rw [← hh4]; exact setb_same rfl
  have b24 : h4.blk h1.next = some (.cells [.int .i64 0, .int .i64 0, .string ⟨#[]⟩, .slice none 0 0] 25 none) := by rw [← hh4, setb_ne (by omega)]; exact b23
  have l4 : h4.cell E (aadd (own h.next) 3) = some (.slice vb ks.length vc) := blk_cell (i := 3) b14 rfl rfl
  have hO : OwnK E h ks vb vc h4 0 := by
    rcases hk with ⟨e, _⟩ | ⟨kc, cs, e1, e2, e3, e4, e5, e6⟩
    · exact .inl e
    · have hne : kc ≠ h.next := by omega
      refine .inr ⟨kc, [], cs, e1, e2, by omega, ?_, ?_, rfl, ?_, e6, ?_⟩
      · rw [← hh4, setb_ne hne]; simpa using e4
      · rw [← hh4]; exact e5
      · simpa using repL_one e6
      · rw [List.take_zero, repL]
  repeat' (with_reducible apply Wc.seq)
  refine Wc.ops (by repeat' (first
      | with_reducible exact RO.nil
      | ((with_reducible apply RO.run (awant_none rfl)); (focus ((first | simp (config := {decide := true}) only [awant, ayield_get, oper1, aop, opv, opvs, opvo, opvp, abuiltin, Ac.get_put, if_true, if_false, and_true, decide_true, abin, isShift, aint, roV, pair, bind, Option.bind, acall, Sx, n0, g00, hh1, tz25, hh2] | skip); with_reducible rfl))))) ?_
  repeat' (with_reducible apply Wc.seq)
  repeat' (first
    | (with_reducible apply Wc.seq)
    | (refine Wc.opsN nf (by repeat' (first
      | with_reducible exact RO.nil
      | ((with_reducible apply RO.run (awant_none rfl)); (focus ((first | simp (config := {decide := true}) only [awant, ayield_get, oper1, aop, opv, opvs, opvo, opvp, abuiltin, Ac.get_put, if_true, if_false, and_true, decide_true, abin, isShift, aint, roV, pair, bind, Option.bind, acall, Sx, n0, fa25_3, ld23, l3, c47, st, l4, len23] | skip); with_reducible rfl))))) ?_)
    | (refine Wc.cond2 (by simp (config := {decide := true}) only [opv, Ac.get_put, if_true, if_false, and_true, decide_true, Sx, n0, fa25_3, ld23, l3, c47, st, l4, len23]; try with_reducible rfl) (fun hb => ?_) (fun hb => ?_) <;> try contradiction)
    | refine Wc.skip ?_
    | refine Wc.ret ?_
    | refine Wc.exit ?_
    | refine Wc.block ?_)
  have key : ∀ (r i : Nat) (A : Ac) (g : H), r = ks.length - i → i ≤ ks.length → A.n = 25 → A.defers = [] → A.get 1 = .pointer (some (own h.next)) → A.get 2 = .pointer (some (own h1.next)) → A.get 10 = .slice vb ks.length vc → A.get 11 = .int .i64 (ks.length : Nat) → A.get 12 = .int .i64 (i : Nat) →
      Ahd h g → g.blk h.next = some (.cells [.int .i64 k, .int .i64 m, .string tx, .slice vb ks.length vc] 25 none) → g.blk h1.next = some (.cells [.int .i64 0, .int .i64 0, .string ⟨#[]⟩, .slice none 0 0] 25 none) → OwnK E h ks vb vc g i →
      Wc tab E I ⟨68, none⟩ (.loop loop68) A g (fun ex A g => ex = .exit 0 ∧ A.n = 25 ∧ A.defers = [] ∧ A.get 1 = .pointer (some (own h.next)) ∧ A.get 2 = .pointer (some (own h1.next)) ∧ Ahd h g ∧ g.blk h.next = some (.cells [.int .i64 k, .int .i64 m, .string tx, .slice vb ks.length vc] 25 none) ∧ g.blk h1.next = some (.cells [.int .i64 0, .int .i64 0, .string ⟨#[]⟩, .slice none 0 0] 25 none) ∧ OwnK E h ks vb vc g ks.length) := by
    intro r
    induction r with
    | zero =>
      intro i A g hr' hi nA dA p1 p2 p10 p11 p12 ah c1 c2 O
      obtain rfl : i = ks.length := by omega
      have hlt : decide ((ks.length : Int) < (ks.length : Int)) = false := by simp
      apply Wc.loop
      simp only [loop68, loopOf, firstLoop, Option.getD, Tryd.f68]
      repeat' (first
    | (with_reducible apply Wc.seq)
    | (refine Wc.ops (by repeat' (first
      | with_reducible exact RO.nil
      | ((with_reducible apply RO.run (awant_none rfl)); (focus ((first | simp (config := {decide := true}) only [awant, ayield_get, oper1, aop, opv, opvs, opvo, opvp, abuiltin, Ac.get_put, if_true, if_false, and_true, decide_true, abin, isShift, aint, roV, pair, bind, Option.bind, acall, Sx, nA, p11, p12, hlt] | skip); with_reducible rfl))))) ?_)
    | (refine Wc.cond2 (by simp (config := {decide := true}) only [opv, Ac.get_put, if_true, if_false, and_true, decide_true, Sx, nA, p11, p12, hlt]; try with_reducible rfl) (fun hb => ?_) (fun hb => ?_) <;> try contradiction)
    | refine Wc.skip ?_
    | refine Wc.ret ?_
    | refine Wc.exit ?_
    | refine Wc.block ?_)
      exact ⟨rfl, by simp (config := {decide := true}) only [Ac.get_put, if_true, if_false, and_true, Sx, nA], by simp (config := {decide := true}) only [Ac.get_put, if_true, if_false, and_true, Sx, dA], by simp (config := {decide := true}) only [Ac.get_put, if_true, if_false, and_true, Sx, nA, p1], by simp (config := {decide := true}) only [Ac.get_put, if_true, if_false, and_true, Sx, nA, p2], ah, c1, c2, O⟩
    | succ r ih =>
      intro i A g hr' hi nA dA p1 p2 p10 p11 p12 ah c1 c2 O
      have hil : i < ks.length := by omega
      have hr1 : r = ks.length - (i + 1) := by omega
      have hlt : decide ((i : Int) < (ks.length : Int)) = true := by simp; omega
      rcases O with h0 | ⟨kc, xs, cs, rfl, rfl, e3, e4, e5, e6, e7, e8, e9⟩
      · rw [h0] at hil; simp at hil
      have hcl := repL_length e8
      obtain ⟨hl4, hrk⟩ := repL_get i e8 (List.getElem?_eq_getElem hil)
      obtain ⟨q0, q1, q2, q3, hq, hone⟩ := rep_four hrk
      simp only [Value.agg.injEq, Array.mk.injEq] at hq
      rw [hq] at hrk
      have hwhole : g.cells E (own kc) (ks.length * 4) = some (xs ++ cs.drop (i * 4)) := blk_cells e4 (by rw [List.length_append, List.length_drop, e6]; omega) e7
      have hsub := cells_sub hwhole (m := i * 4) (l := 4) (by omega)
      rw [List.drop_left' e6, hq] at hsub
      have hmem : ks[i] ∈ ks := List.getElem_mem hil
      have hkz := isz_mem hmem
      have hir : inRange (i : Int) ks.length = true := by
        show Nat.blt i ks.length = true
        rw [Nat.blt_eq]; exact hil
      have w3 : IntKind.i64.wrap ((i : Int) + 1) = (i : Int) + 1 := wrap64 (by omega) (by omega)
      -- the item is copied
      generalize hh5 : g.new (.cells (Value.agg #[.int .i64 0, .int .i64 0, .string ⟨#[]⟩, .slice none 0 0]).cells.toList 25 none) = g1
      have u1 : Ahd g g1 := by rw [← hh5]; exact Ahd.new0 ah.fit rfl
      have cc1 : g1.blk g.next = some (.cells [.int .i64 0, .int .i64 0, .string ⟨#[]⟩, .slice none 0 0] 25 none) := by rw [← hh5]; exact new_blk_new rfl
      have hn1 : g1.next = g.next + 1 := by rw [← hh5]; rfl
      have hst := st25 (a := q0) (b := q1) (c := q2) (d := q3) cc1 hone (by rw [u1.mark]; exact ah.fit.ok.2)
      generalize hh6 : g1.setb g.next (.cells [q0, q1, q2, q3] 25 none) = g2 at hst
      have u2 : Ahd g g2 := by rw [← hh6]; exact u1.setb rfl (Nat.le_refl _) (by omega) ah.fit
      have cc2 : g2.blk g.next = some (.cells [q0, q1, q2, q3] 25 none) := by rw [← hh6]; exact setb_same rfl
      -- one's own
      obtain ⟨nk, v, qh, ck, ak, rk⟩ := IH ks[i] (.agg ⟨[q0, q1, q2, q3]⟩) (fresh g2) (by omega) (rep_grow (h' := fresh g2) ((ah.trans u2).grows) hrk) u2.fit.fresh (by omega)
      obtain ⟨v0, v1, v2, v3, rfl, vone⟩ := rep_four rk
      obtain ⟨u3, hb3, hn3, ho3⟩ := Ahd.back u2.fit ak
      have hl3 : qh.log = [] := ak.log
      have rk := rep_grow (ho3 _) rk
      generalize hg3 : back g2 qh = g3 at u3 hb3 hn3 ho3 rk
      have ah3 := (ah.trans u2).trans u3
      have e4' := (u2.trans u3).grows _ _ e4
      have kcl := ah.fit.lt e4
      have e5' : g3.chain kc = [kc] := by rw [(u2.trans u3).chain _ kcl]; exact e5
      obtain ⟨q, hput, hql, hqn, hqf, hqb, hqo, hqc, hqg⟩ := put_root (o := i * 4) (vs := [v0, v1, v2, v3]) u3.fit e4' e5' (by simp) (by rw [List.length_append, List.length_drop, e6]; simp only [List.length_cons, List.length_nil]; omega) vone
      have hsto : astore tab 25 (aadd (own kc) (i * 4)) (.agg ⟨[v0, v1, v2, v3]⟩) (fresh g3) = some q := by
        unfold astore
        rw [ty25]
        exact hput
      have hcells : (xs ++ cs.drop (i * 4)).take (i * 4) ++ [v0, v1, v2, v3] ++ (xs ++ cs.drop (i * 4)).drop (i * 4 + [v0, v1, v2, v3].length) = (xs ++ [v0, v1, v2, v3]) ++ cs.drop ((i + 1) * 4) := by
        rw [List.take_left' e6, ← List.drop_drop, List.drop_left' e6, List.drop_drop]
        congr 2
        simp only [List.length_cons, List.length_nil]
        omega
      rw [hcells] at hqb
      have hnb := back_next g3 q
      have hmb := back_mark g3 q
      generalize hg4 : back g3 q = g4 at hqf hqb hqo hqc hqg hnb hmb
      have ah4 : Ahd h g4 := ah3.root hfit e3 hqf (by rw [hnb, hqn]) hmb hqo hqc hqg
      have hne1 : h.next ≠ kc := fun e => by rw [← e, c1] at e4; simp at e4
      have hne2 : h1.next ≠ kc := fun e => by rw [← e, c2] at e4; simp at e4
      have c1' : g4.blk h.next = some (.cells [.int .i64 k, .int .i64 m, .string tx, .slice (some (own kc)) ks.length ks.length] 25 none) := by rw [hqo _ hne1]; exact (u2.trans u3).grows _ _ c1
      have c2' : g4.blk h1.next = some (.cells [.int .i64 0, .int .i64 0, .string ⟨#[]⟩, .slice none 0 0] 25 none) := by rw [hqo _ hne2]; exact (u2.trans u3).grows _ _ c2
      have keep : ∀ (p : Nat → Bool), (∀ r, p r = true → Nat.blt kc r = true) → Grows (only p g3) (only (fun r => Nat.blt kc r) g4) := fun p hp => only_mono u3.fit hqf (fun j B hb ⟨ys, ty, r, o, hB, hpr⟩ => by
        rw [hqo j (fun e => by
          rw [e, e4'] at hb
          rw [← Option.some.inj hb] at hB
          cases hB
          have := hp _ hpr
          rw [Nat.blt_eq] at this; omega)]
        exact hb) hp
      have O' : OwnK E h ks (some (own kc)) ks.length g4 (i + 1) := by
        refine .inr ⟨kc, xs ++ [v0, v1, v2, v3], cs, rfl, rfl, e3, hqb, by rw [hqc]; exact e5', by rw [List.length_append, e6]; simp only [List.length_cons, List.length_nil]; omega, ?_, e8, ?_⟩
        · have := repL_one e8
          rw [List.all_append] at e7 ⊢
          rw [List.all_append, vone]
          simp only [Bool.and_eq_true] at e7 ⊢
          refine ⟨⟨e7.1, trivial⟩, ?_⟩
          rw [List.all_eq_true] at this ⊢
          exact fun z hz => this z (List.mem_of_mem_drop hz)
        · rw [List.take_succ_eq_append_getElem hil]
          refine repL_append (repL_grow (keep _ (fun r h => h)) (repL_grow (only_ahd ah.fit (u2.trans u3) (fun r h => h)) e9)) (rep_grow (keep _ (fun r h => ?_)) rk)
          rw [Nat.ble_eq] at h
          rw [Nat.blt_eq]
          have : (fresh g2).next = g2.next := rfl
          have := u2.next
          omega
      have f3 : (fresh g2).cell E (aadd (own h.next) 3) = some (.slice (some (own kc)) ks.length ks.length) := blk_cell (h := fresh g2) (i := 3) (u2.grows _ _ c1) rfl rfl
      have f9 : (fresh g2).cells E (own g.next) 4 = some [q0, q1, q2, q3] := blk_cells (h := fresh g2) cc2 rfl hone
      apply Wc.loop
      simp only [loop68, loopOf, firstLoop, Option.getD, Tryd.f68]
      repeat' (first
    | (with_reducible apply Wc.seq)
    | (refine Wc.ops (by repeat' (first
      | with_reducible exact RO.nil
      | ((with_reducible apply RO.run (awant_none rfl)); (focus ((first | simp (config := {decide := true}) only [awant, ayield_get, oper1, aop, opv, opvs, opvo, opvp, abuiltin, Ac.get_put, if_true, if_false, and_true, decide_true, abin, isShift, aint, roV, pair, bind, Option.bind, acall, Sx, nA, p10, p11, p12, hlt, ia23 _ _ _ _ hir, Int.toNat_natCast, ld25, hsub, tz25, hh5, hst] | skip); with_reducible rfl))))) ?_)
    | (refine Wc.cond2 (by simp (config := {decide := true}) only [opv, Ac.get_put, if_true, if_false, and_true, decide_true, Sx, nA, p10, p11, p12, hlt, ia23 _ _ _ _ hir, Int.toNat_natCast, ld25, hsub, tz25, hh5, hst]; try with_reducible rfl) (fun hb => ?_) (fun hb => ?_) <;> try contradiction)
    | refine Wc.skip ?_
    | refine Wc.ret ?_
    | refine Wc.exit ?_
    | refine Wc.block ?_)
      refine Wc.forget (fun A => A.n = 25 ∧ A.defers = [] ∧ A.get 1 = .pointer (some (own h.next)) ∧ A.get 2 = .pointer (some (own h1.next)) ∧ A.get 3 = .int .i64 (i : Nat) ∧ A.get 4 = .pointer (some (own g.next)) ∧ A.get 10 = .slice (some (own kc)) ks.length ks.length ∧ A.get 11 = .int .i64 (ks.length : Nat) ∧ A.get 12 = .int .i64 (i : Nat)) ⟨by simp (config := {decide := true}) only [Ac.get_put, if_true, if_false, and_true, Sx, nA], by simp (config := {decide := true}) only [Ac.get_put, if_true, if_false, and_true, Sx, dA], by simp (config := {decide := true}) only [Ac.get_put, if_true, if_false, and_true, Sx, nA, p1], by simp (config := {decide := true}) only [Ac.get_put, if_true, if_false, and_true, Sx, nA, p2], by simp (config := {decide := true}) only [Ac.get_put, if_true, if_false, and_true, Sx, nA], by simp (config := {decide := true}) only [Ac.get_put, if_true, if_false, and_true, Sx, nA], by simp (config := {decide := true}) only [Ac.get_put, if_true, if_false, and_true, Sx, nA, p10], by simp (config := {decide := true}) only [Ac.get_put, if_true, if_false, and_true, Sx, nA, p11], by simp (config := {decide := true}) only [Ac.get_put, if_true, if_false, and_true, Sx, nA, p12]⟩ ?_
      clear nA dA p1 p2 p10 p11 p12
      rintro A ⟨nA, dA, p1, p2, p3, p4, p10, p11, p12⟩
      refine Wc.drawQ nk (by kernel_rfl) ?_
      (iterate 4 (first
      | ((apply FQ.pure rfl rfl); (focus ((first | simp (config := {decide := true}) only [awant, ayield_get, oper1, aop, opv, opvs, opvo, opvp, abuiltin, Ac.get_put, if_true, if_false, and_true, decide_true, abin, isShift, aint, roV, pair, bind, Option.bind, acall, Sx, nA, p1, p3, p4, fa25_3, ld23, f3, ld25, f9] | skip); with_reducible rfl)))
      | ((apply FQ.new rfl rfl); (focus ((first | simp (config := {decide := true}) only [awant, ayield_get, oper1, aop, opv, opvs, opvo, opvp, abuiltin, Ac.get_put, if_true, if_false, and_true, decide_true, abin, isShift, aint, roV, pair, bind, Option.bind, acall, Sx, nA, p1, p3, p4, fa25_3, ld23, f3, ld25, f9] | skip); with_reducible rfl)))))
      refine FQ.call (h1 := qh) (x := .agg ⟨[v0, v1, v2, v3]⟩) rfl rfl (by simp (config := {decide := true}) only [awant, ayield_get, oper1, aop, opv, opvs, opvo, opvp, abuiltin, Ac.get_put, if_true, if_false, and_true, decide_true, abin, isShift, aint, roV, pair, bind, Option.bind, acall, Sx, nA, ck]) hl3 ?_
      rw [hg3]
      (iterate 1 (first
      | ((apply FQ.pure rfl rfl); (focus ((first | simp (config := {decide := true}) only [awant, ayield_get, oper1, aop, opv, opvs, opvo, opvp, abuiltin, Ac.get_put, if_true, if_false, and_true, decide_true, abin, isShift, aint, roV, pair, bind, Option.bind, acall, Sx, nA, ia23 _ _ _ _ hir, Int.toNat_natCast] | skip); with_reducible rfl)))
      | ((apply FQ.new rfl rfl); (focus ((first | simp (config := {decide := true}) only [awant, ayield_get, oper1, aop, opv, opvs, opvo, opvp, abuiltin, Ac.get_put, if_true, if_false, and_true, decide_true, abin, isShift, aint, roV, pair, bind, Option.bind, acall, Sx, nA, ia23 _ _ _ _ hir, Int.toNat_natCast] | skip); with_reducible rfl)))))
      refine FQ.mod (h1 := q) (x := undef) rfl rfl (by simp (config := {decide := true}) only [awant, ayield_get, oper1, aop, opv, opvs, opvo, opvp, abuiltin, Ac.get_put, if_true, if_false, and_true, decide_true, abin, isShift, aint, roV, pair, bind, Option.bind, acall, Sx, nA, hsto]) ?_
      rw [hg4]
      refine FQ.nil ⟨?_, ?_⟩
      · refine allMeet_last (l := [_, _, _, _, _, _]) ?_ (by kernel_rfl)
        simp only [List.all_cons, calm, List.isEmpty_nil, Bool.true_and, List.all_nil, Bool.and_true]
        rfl
      repeat' (first
    | (with_reducible apply Wc.seq)
    | (refine Wc.ops (by repeat' (first
      | with_reducible exact RO.nil
      | ((with_reducible apply RO.run (awant_none rfl)); (focus ((first | simp (config := {decide := true}) only [awant, ayield_get, oper1, aop, opv, opvs, opvo, opvp, abuiltin, Ac.get_put, if_true, if_false, and_true, decide_true, abin, isShift, aint, roV, pair, bind, Option.bind, acall, Sx, nA, p12, w3] | skip); with_reducible rfl))))) ?_)
    | (refine Wc.cond2 (by simp (config := {decide := true}) only [opv, Ac.get_put, if_true, if_false, and_true, decide_true, Sx, nA, p12, w3]; try with_reducible rfl) (fun hb => ?_) (fun hb => ?_) <;> try contradiction)
    | refine Wc.skip ?_
    | refine Wc.ret ?_
    | refine Wc.exit ?_
    | refine Wc.block ?_)
      refine (ih (i + 1) _ g4 hr1 hil ?_ ?_ ?_ ?_ ?_ ?_ ?_ ah4 c1' c2' O').mono (fun _ _ _ h => h)
      · simp (config := {decide := true}) only [Ac.get_put, if_true, if_false, and_true, Sx, nA]
      · simp (config := {decide := true}) only [Ac.get_put, if_true, if_false, and_true, Sx, dA]
      · simp (config := {decide := true}) only [Ac.get_put, if_true, if_false, and_true, Sx, nA, p1]
      · simp (config := {decide := true}) only [Ac.get_put, if_true, if_false, and_true, Sx, nA, p2]
      · simp (config := {decide := true}) only [Ac.get_put, if_true, if_false, and_true, Sx, nA, p10]
      · simp (config := {decide := true}) only [Ac.get_put, if_true, if_false, and_true, Sx, nA, p11]
      · simp (config := {decide := true}) only [Ac.get_put, if_true, if_false, and_true, Sx, nA]
        rfl
  refine (key ks.length 0 _ h4 rfl (Nat.zero_le _) ?_ ?_ ?_ ?_ ?_ ?_ ?_ a4 b14 b24 hO).mono ?_
  · simp (config := {decide := true}) only [Ac.get_put, if_true, if_false, and_true, Sx, n0]
  · simp (config := {decide := true}) only [Ac.get_put, if_true, if_false, and_true, Sx, d0]
  · simp (config := {decide := true}) only [Ac.get_put, if_true, if_false, and_true, Sx, n0]
  · simp (config := {decide := true}) only [Ac.get_put, if_true, if_false, and_true, Sx, n0]
  · simp (config := {decide := true}) only [Ac.get_put, if_true, if_false, and_true, Sx, n0]
  · simp (config := {decide := true}) only [Ac.get_put, if_true, if_false, and_true, Sx, n0]
  · simp (config := {decide := true}) only [Ac.get_put, if_true, if_false, and_true, Sx, n0]
    rfl
  · rintro ex A g ⟨rfl, nA, dA, p1, p2, ah, c1, c2, O⟩
    simp only [if_true]
    have lx : g.cells E (own h.next) 4 = some [.int .i64 k, .int .i64 m, .string tx, .slice vb ks.length vc] := blk_cells c1 rfl rfl
    have st5 := st25 (a := .int .i64 k) (b := .int .i64 m) (c := .string tx) (d := .slice vb ks.length vc) c2 rfl (by rw [ah.mark]; have := hfit.ok.2; omega)
    have lg2 := ah.fit.lt c2
    generalize hh5 : g.setb h1.next (.cells [.int .i64 k, .int .i64 m, .string tx, .slice vb ks.length vc] 25 none) = g5 at st5
    have a5 : Ahd h g5 := by rw [← hh5]; exact ah.setb rfl (by omega) lg2 hfit
    have b5 : g5.blk h1.next = some (.cells [.int .i64 k, .int .i64 m, .string tx, .slice vb ks.length vc] 25 none) := by rw [← hh5]; exact setb_same rfl
    repeat' (first
    | (with_reducible apply Wc.seq)
    | (refine Wc.ops (by repeat' (first
      | with_reducible exact RO.nil
      | ((with_reducible apply RO.run (awant_none rfl)); (focus ((first | simp (config := {decide := true}) only [awant, ayield_get, oper1, aop, opv, opvs, opvo, opvp, abuiltin, Ac.get_put, if_true, if_false, and_true, decide_true, abin, isShift, aint, roV, pair, bind, Option.bind, acall, Sx, nA, p1, p2, ld25, lx, st5] | skip); with_reducible rfl))))) ?_)
    | (refine Wc.cond2 (by simp (config := {decide := true}) only [opv, Ac.get_put, if_true, if_false, and_true, decide_true, Sx, nA, p1, p2, ld25, lx, st5]; try with_reducible rfl) (fun hb => ?_) (fun hb => ?_) <;> try contradiction)
    | refine Wc.skip ?_
    | refine Wc.ret ?_
    | refine Wc.exit ?_
    | refine Wc.block ?_)
    refine done_cell (.inr rfl) (by simp (config := {decide := true}) only [Ac.get_put, if_true, if_false, and_true, Sx, dA]) rfl (show _ = Value.pointer (some (own h1.next)) by simp (config := {decide := true}) only [Ac.get_put, if_true, if_false, and_true, Sx, nA, p2]) (by rw [ld25, blk_cells b5 (n := 4) rfl rfl]) ⟨a5, ?_⟩
    rw [rep]
    refine ⟨_, rfl, ?_⟩
    rcases O with h0 | ⟨kc, xs, cs, rfl, rfl, e3, e4, e5, e6, e7, e8, e9⟩
    · subst h0
      rcases hk with ⟨_, ⟨rfl, rfl⟩ | ⟨k, rfl, rfl⟩⟩ | ⟨kc, cs, rfl, rfl, _⟩
      · exact .inl ⟨rfl, rfl⟩
      · exact .inr ⟨own k, 0, [], rfl, ⟨Nat.le_refl _, by decide⟩, rfl, by rw [repL]⟩
      · exact .inr ⟨own kc, _, [], rfl, ⟨Nat.le_refl _, by decide⟩, rfl, by rw [repL]⟩
    · have hcl := repL_length e8
      have hd : cs.drop (ks.length * 4) = [] := List.drop_of_length_le (by omega)
      rw [hd, List.append_nil] at e4 e7
      rw [List.take_length] at e9
      have hne : kc ≠ h1.next := fun e => by rw [e, c2] at e4; simp at e4
      have e4' : g5.blk kc = some (.cells xs 25 (some (kc, 0))) := by rw [← hh5, setb_ne hne]; exact e4
      refine .inr ⟨own kc, ks.length, xs, rfl, ⟨Nat.le_refl _, by omega⟩, ?_, ?_⟩
      · exact blk_cells ((only_blk a5.fit).2 ⟨e4', _, _, _, _, rfl, by rw [Nat.ble_eq]; exact e3⟩) e6 e7
      · refine repL_grow (only_mono ah.fit a5.fit (fun j B hb ⟨ys, ty, r, o, hB, _⟩ => ?_) (fun r hr => ?_)) e9
        · rw [Nat.blt_eq] at hr
          rw [Nat.ble_eq]; omega
        · rw [← hh5, setb_ne (fun e => by
            rw [e, c2] at hb
            rw [← Option.some.inj hb] at hB
            cases hB)]
          exact hb
end Go.Proofs.YtofijpbmbmbnhaaDoor
/- The item at a place. -/
set_option maxRecDepth 100000
set_option maxHeartbeats 8000000
namespace Go.Proofs.YtofijpbmbmbnhaaDoor
open Go Go.Hs Go.Proofs
variable {E : Env} {I : Known}

theorem fn29 : tab.fn.get 29 = some Tryd.f29 := by kernel_rfl
noncomputable def loop29 : Code := loopOf Tryd.f29

theorem done_cq {D : Tab} {E : Env} {fn : Func} {A : Ac} {h : H} {t u : Tmp} {ty : TypeId} {v x : Value} {a : Addr} {ex : Ex} {Q : Value → H → Prop} (hex : ex = .normal ∨ ex = .ret) (hd : A.defers = []) (hr : fn.results = #[.cell t ty, .tmp u]) (hv : A.get t = .pointer (some a)) (hl : aload D E ty a h = some v) (hx : A.get u = x) (hq : Q (.tuple #[v, x]) h) :
    (ex = .normal ∨ ex = .ret) ∧ ∃ h2 v', takeAll A.defers h = some h2 ∧ ares D E fn A h2 = some v' ∧ Q v' h2 := by
  refine ⟨hex, h, _, ?_, ?_, hq⟩
  · rw [hd]; rfl
  · unfold ares
    rw [hr]
    simp only [aresL, ares1, hv, hx, hl]

theorem atI_cons {k m : Int} {tx : ByteArray} {ks : List Hs.Item} {i : Int} {p : List Int} {t : Hs.Item} (h : atI (.mk k m tx ks) (i :: p) = some t) : ∃ (n : Nat) (hn : n < ks.length), i = (n : Nat) ∧ atI ks[n] p = some t := by
  cases i with
  | ofNat n =>
    rw [atI] at h
    split at h
    · next c hc =>
      obtain ⟨hn, rfl⟩ := List.getElem?_eq_some_iff.1 hc
      exact ⟨n, hn, rfl, h⟩
    · cases h
  | negSucc n => simp [atI] at h

theorem at29 (hI : ∀ f args h, (f = 29 ∨ f = 68 ∨ f = 47) → I f args h = none) (h35 : ∀ t xv h, rep E h t xv → isz t ≤ 1000000 → I 35 [xv] h = some (some (.int .i64 (chkI t 0 1).2, h))) {t t' : Hs.Item} {p : List Int} {xv pv : Value} {h : H} (hr : rep E h t xv) (hp : Ints h pv p) (hat : atI t p = some t') (hfit : Fit h) (hz : isz t ≤ 1000000) (hlp : p.length ≤ 1000000) (hck : (chkI t 0 1).2 = 0) :
    ∃ n v h', (ev tab E I n).call 29 [xv, pv] h = some (v, h') ∧ (Ahd h h' ∧ ∃ tv, v = .tuple #[tv, .int .i64 0] ∧ rep E h' t' tv) := by
  obtain ⟨x0, x1, x2, x3, rfl, xone⟩ := rep_four hr
  obtain ⟨kp, rt, rfl, hkp⟩ := hp
  refine Wc.call (hI _ _ _ (.inl rfl)) fn29 rfl ?_
  generalize hA0 : (⟨T.ofList [.agg ⟨[x0, x1, x2, x3]⟩, .slice (some (own kp)) p.length p.length] 0 .nil, max ([.agg ⟨[x0, x1, x2, x3]⟩, .slice (some (own kp)) p.length p.length] : List Value).length Tryd.f29.ntmps, []⟩ : Ac) = A0
  have n0 : A0.n = 39 := by rw [← hA0]; rfl
  have g00 : A0.get 0 = .agg ⟨[x0, x1, x2, x3]⟩ := by rw [← hA0]; rfl
  have g01 : A0.get 1 = .slice (some (own kp)) p.length p.length := by rw [← hA0]; rfl
  have d0 : A0.defers = [] := by rw [← hA0]
  generalize hh1 : h.new (.cells (Value.agg ⟨[x0, x1, x2, x3]⟩).cells.toList 25 none) = h1
  have a1 : Ahd h h1 := by rw [← hh1]; exact Ahd.new0 hfit rfl
  have b1 : h1.blk h.next = some (.cells [x0, x1, x2, x3] 25 none) := by rw [← hh1]; exact new_blk_new rfl
  have x1' : h1.next = h.next + 1 := by rw [← hh1]; rfl
  generalize hh2 : h1.new (.cells (Value.agg #[.int .i64 0, .int .i64 0, .string ⟨#[]⟩, .slice none 0 0]).cells.toList 25 none) = h2
  have a2 : Ahd h1 h2 := by rw [← hh2]; exact Ahd.new0 a1.fit rfl
  have b2 : h2.blk h1.next = some (.cells [.int .i64 0, .int .i64 0, .string ⟨#[]⟩, .slice none 0 0] 25 none) := by rw [← hh2]; exact new_blk_new rfl
  have b1' := a2.grows _ _ b1
  have ag := a1.trans a2
  have lx : h2.cells E (own h.next) 4 = some [x0, x1, x2, x3] := blk_cells b1' rfl xone
  have c35 : (ev tab E I 1).call 35 [.agg ⟨[x0, x1, x2, x3]⟩] h2 = some (.int .i64 0, h2) := by
    have := ev_known (D := tab) (E := E) (h35 _ _ _ (rep_grow ag.grows hr) hz)
    rw [hck] at this
    exact this
  have d35 : (!decide ((0 : Int) = 0)) = false := rfl
  have key : ∀ (r i : Nat) (A : Ac) (g : H) (c : Hs.Item) (y0 y1 y2 y3 : Value), r = p.length - i → i ≤ p.length → A.n = 39 → A.defers = [] → A.get 2 = .pointer (some (own h.next)) → A.get 4 = .pointer (some (own h1.next)) → A.get 15 = .slice (some (own kp)) p.length p.length → A.get 16 = .int .i64 (p.length : Nat) → A.get 17 = .int .i64 (i : Nat) →
      Ahd h g → g.blk h.next = some (.cells [y0, y1, y2, y3] 25 none) → g.blk h1.next = some (.cells [.int .i64 0, .int .i64 0, .string ⟨#[]⟩, .slice none 0 0] 25 none) → rep E h c (.agg ⟨[y0, y1, y2, y3]⟩) → isz c ≤ 1000000 → atI c (p.drop i) = some t' →
      Wc tab E I ⟨29, none⟩ (.loop loop29) A g (fun ex A g => ex = .exit 0 ∧ A.n = 39 ∧ A.defers = [] ∧ A.get 2 = .pointer (some (own h.next)) ∧ A.get 4 = .pointer (some (own h1.next)) ∧ Ahd h g ∧ ∃ y0 y1 y2 y3, g.blk h.next = some (.cells [y0, y1, y2, y3] 25 none) ∧ g.blk h1.next = some (.cells [.int .i64 0, .int .i64 0, .string ⟨#[]⟩, .slice none 0 0] 25 none) ∧ rep E h t' (.agg ⟨[y0, y1, y2, y3]⟩) ∧ isz t' ≤ 1000000) := by
    intro r
    induction r with
    | zero =>
      intro i A g c y0 y1 y2 y3 hr' hi nA dA p2 p4 p15 p16 p17 ah c1 c2 rc zc hc
      obtain rfl : i = p.length := by omega
      have hlt : decide ((p.length : Int) < (p.length : Int)) = false := by simp
      rw [List.drop_length] at hc
      obtain ⟨k, m, tx, ks⟩ := c
      rw [atI] at hc
      cases hc
      apply Wc.loop
      simp only [loop29, loopOf, firstLoop, Option.getD, Tryd.f29]
      repeat' (first
    | (with_reducible apply Wc.seq)
    | (refine Wc.ops (by repeat' (first
      | with_reducible exact RO.nil
      | ((with_reducible apply RO.run (awant_none rfl)); (focus ((first | simp (config := {decide := true}) only [awant, ayield_get, oper1, aop, opv, opvs, opvo, opvp, abuiltin, Ac.get_put, if_true, if_false, and_true, decide_true, abin, isShift, aint, roV, pair, bind, Option.bind, acall, Sx, nA, p16, p17, hlt] | skip); with_reducible rfl))))) ?_)
    | (refine Wc.cond2 (by simp (config := {decide := true}) only [opv, Ac.get_put, if_true, if_false, and_true, decide_true, Sx, nA, p16, p17, hlt]; try with_reducible rfl) (fun hb => ?_) (fun hb => ?_) <;> try contradiction)
    | refine Wc.skip ?_
    | refine Wc.ret ?_
    | refine Wc.exit ?_
    | refine Wc.block ?_)
      exact ⟨rfl, by simp (config := {decide := true}) only [Ac.get_put, if_true, if_false, and_true, Sx, nA], by simp (config := {decide := true}) only [Ac.get_put, if_true, if_false, and_true, Sx, dA], by simp (config := {decide := true}) only [Ac.get_put, if_true, if_false, and_true, Sx, nA, p2], by simp (config := {decide := true}) only [Ac.get_put, if_true, if_false, and_true, Sx, nA, p4], ah, y0, y1, y2, y3, c1, c2, rc, zc⟩
    | succ r ih =>
      intro i A g c y0 y1 y2 y3 hr' hi nA dA p2 p4 p15 p16 p17 ah c1 c2 rc zc hc
      have hil : i < p.length := by omega
      have hr1 : r = p.length - (i + 1) := by omega
      have hlt : decide ((i : Int) < (p.length : Int)) = true := by simp; omega
      rw [List.drop_eq_getElem_cons hil] at hc
      obtain ⟨k, m, tx, ks⟩ := c
      obtain ⟨n, hn, hpi, hc⟩ := atI_cons hc
      have rc0 := rc
      rw [rep] at rc0
      obtain ⟨s1, e1, hs1⟩ := rc0
      simp only [Value.agg.injEq, Array.mk.injEq, List.cons.injEq, and_true] at e1
      obtain ⟨rfl, rfl, rfl, rfl⟩ := e1
      rcases hs1 with ⟨hk0, _⟩ | ⟨a, cc, cs, rfl, _, hcs, hrl⟩
      · rw [hk0] at hn; simp at hn
      obtain ⟨hl4, hrk⟩ := repL_get n hrl (List.getElem?_eq_getElem hn)
      obtain ⟨q0, q1, q2, q3, hq, hone⟩ := rep_four hrk
      simp only [Value.agg.injEq, Array.mk.injEq] at hq
      rw [hq] at hrk
      have hsub := cells_sub (cells_grow ah.grows hcs) (m := n * 4) (l := 4) (by omega)
      rw [hq] at hsub
      have hmem : ks[n] ∈ ks := List.getElem_mem hn
      have hkz := isz_mem hmem
      rw [isz] at zc
      have hirp : inRange (i : Int) p.length = true := by
        show Nat.blt i p.length = true
        rw [Nat.blt_eq]; exact hil
      have hir : inRange (n : Int) ks.length = true := by
        show Nat.blt n ks.length = true
        rw [Nat.blt_eq]; exact hn
      have w3 : IntKind.i64.wrap ((i : Int) + 1) = (i : Int) + 1 := wrap64 (by omega) (by omega)
      have lp : g.cell E (aadd (own kp) (i * 1)) = some (.int .i64 (n : Nat)) := blk_cell (ah.grows _ _ hkp) (by rw [Nat.mul_one, List.getElem?_map, List.getElem?_eq_getElem hil, hpi]; rfl) rfl
      have l3 : g.cell E (aadd (own h.next) 3) = some (.slice (some a) ks.length cc) := blk_cell (i := 3) c1 rfl rfl
      have dn : decide ((n : Int) < 0) = false := by simp
      have dg : decide ((n : Int) ≥ (ks.length : Int)) = false := by simp; omega
      have hst := st25 (a := q0) (b := q1) (c := q2) (d := q3) c1 hone (by rw [ah.mark]; exact hfit.ok.2)
      have lg := ah.fit.lt c1
      generalize hh6 : g.setb h.next (.cells [q0, q1, q2, q3] 25 none) = g2 at hst
      have u2 : Ahd h g2 := by rw [← hh6]; exact ah.setb rfl (Nat.le_refl _) lg hfit
      have cc1 : g2.blk h.next = some (.cells [q0, q1, q2, q3] 25 none) := by rw [← hh6]; exact setb_same rfl
      have cc2 : g2.blk h1.next = some (.cells [.int .i64 0, .int .i64 0, .string ⟨#[]⟩, .slice none 0 0] 25 none) := by rw [← hh6, setb_ne (by omega)]; exact c2
      apply Wc.loop
      simp only [loop29, loopOf, firstLoop, Option.getD, Tryd.f29]
      repeat' (first
    | (with_reducible apply Wc.seq)
    | (refine Wc.ops (by repeat' (first
      | with_reducible exact RO.nil
      | ((with_reducible apply RO.run (awant_none rfl)); (focus ((first | simp (config := {decide := true}) only [awant, ayield_get, oper1, aop, opv, opvs, opvo, opvp, abuiltin, Ac.get_put, if_true, if_false, and_true, decide_true, abin, isShift, aint, roV, pair, bind, Option.bind, acall, Sx, nA, p2, p15, p16, p17, hlt, ia53 _ _ _ _ hirp, Int.toNat_natCast, ld3, lp, dn, dg, fa25_3, ld23, l3, len23, ia23 _ _ _ _ hir, ld25, hsub, hst, w3] | skip); with_reducible rfl)))
      | ((with_reducible apply RO.runG); (focus rfl); (focus rfl); (focus (simp (config := {decide := true}) only [awant, ayield_get, oper1, aop, opv, opvs, opvo, opvp, abuiltin, Ac.get_put, if_true, if_false, and_true, decide_true, abin, isShift, aint, roV, pair, bind, Option.bind, acall, Sx, nA, p2, p15, p16, p17, hlt, ia53 _ _ _ _ hirp, Int.toNat_natCast, ld3, lp, dn, dg, fa25_3, ld23, l3, len23, ia23 _ _ _ _ hir, ld25, hsub, hst, w3]; done)); (focus ((first | simp (config := {decide := true}) only [awant, ayield_get, oper1, aop, opv, opvs, opvo, opvp, abuiltin, Ac.get_put, if_true, if_false, and_true, decide_true, abin, isShift, aint, roV, pair, bind, Option.bind, acall, Sx, nA, p2, p15, p16, p17, hlt, ia53 _ _ _ _ hirp, Int.toNat_natCast, ld3, lp, dn, dg, fa25_3, ld23, l3, len23, ia23 _ _ _ _ hir, ld25, hsub, hst, w3] | skip); with_reducible rfl)))
      | ((with_reducible apply RO.skipG); (focus rfl); (focus rfl); (focus (simp (config := {decide := true}) only [awant, ayield_get, oper1, aop, opv, opvs, opvo, opvp, abuiltin, Ac.get_put, if_true, if_false, and_true, decide_true, abin, isShift, aint, roV, pair, bind, Option.bind, acall, Sx, nA, p2, p15, p16, p17, hlt, ia53 _ _ _ _ hirp, Int.toNat_natCast, ld3, lp, dn, dg, fa25_3, ld23, l3, len23, ia23 _ _ _ _ hir, ld25, hsub, hst, w3]; done))))) ?_)
    | (refine Wc.quiet (by kernel_rfl) (by repeat' (first
      | with_reducible exact QO.nil
      | ((with_reducible apply QO.cons rfl rfl); (focus ((first | simp (config := {decide := true}) only [awant, ayield_get, oper1, aop, opv, opvs, opvo, opvp, abuiltin, Ac.get_put, if_true, if_false, and_true, decide_true, abin, isShift, aint, roV, pair, bind, Option.bind, acall, Sx, nA, p2, p15, p16, p17, hlt, ia53 _ _ _ _ hirp, Int.toNat_natCast, ld3, lp, dn, dg, fa25_3, ld23, l3, len23, ia23 _ _ _ _ hir, ld25, hsub, hst, w3] | skip); with_reducible rfl))))) ?_)
    | (refine Wc.cond2 (by simp (config := {decide := true}) only [opv, Ac.get_put, if_true, if_false, and_true, decide_true, Sx, nA, p2, p15, p16, p17, hlt, ia53 _ _ _ _ hirp, Int.toNat_natCast, ld3, lp, dn, dg, fa25_3, ld23, l3, len23, ia23 _ _ _ _ hir, ld25, hsub, hst, w3]; try with_reducible rfl) (fun hb => ?_) (fun hb => ?_) <;> try contradiction)
    | refine Wc.skip ?_
    | refine Wc.ret ?_
    | refine Wc.exit ?_
    | refine Wc.block ?_)
      refine (ih (i + 1) _ g2 ks[n] q0 q1 q2 q3 hr1 hil ?_ ?_ ?_ ?_ ?_ ?_ ?_ u2 cc1 cc2 hrk (by omega) hc).mono (fun _ _ _ h => h)
      · simp (config := {decide := true}) only [Ac.get_put, if_true, if_false, and_true, Sx, nA]
      · simp (config := {decide := true}) only [Ac.get_put, if_true, if_false, and_true, Sx, dA]
      · simp (config := {decide := true}) only [Ac.get_put, if_true, if_false, and_true, Sx, nA, p2]
      · simp (config := {decide := true}) only [Ac.get_put, if_true, if_false, and_true, Sx, nA, p4]
      · simp (config := {decide := true}) only [Ac.get_put, if_true, if_false, and_true, Sx, nA, p15]
      · simp (config := {decide := true}) only [Ac.get_put, if_true, if_false, and_true, Sx, nA, p16]
      · simp (config := {decide := true}) only [Ac.get_put, if_true, if_false, and_true, Sx, nA]
        rfl
  repeat' (first
    | (with_reducible apply Wc.seq)
    | (refine Wc.ops (by repeat' (first
      | with_reducible exact RO.nil
      | ((with_reducible apply RO.run (awant_none rfl)); (focus ((first | simp (config := {decide := true}) only [awant, ayield_get, oper1, aop, opv, opvs, opvo, opvp, abuiltin, Ac.get_put, if_true, if_false, and_true, decide_true, abin, isShift, aint, roV, pair, bind, Option.bind, acall, Sx, n0, g00, g01, hh1, tz25, hh2, ld25, lx, c35, d35, len53] | skip); with_reducible rfl))))) ?_)
    | (refine Wc.cond2 (by simp (config := {decide := true}) only [opv, Ac.get_put, if_true, if_false, and_true, decide_true, Sx, n0, g00, g01, hh1, tz25, hh2, ld25, lx, c35, d35, len53]; try with_reducible rfl) (fun hb => ?_) (fun hb => ?_) <;> try contradiction)
    | refine Wc.skip ?_
    | refine Wc.ret ?_
    | refine Wc.exit ?_
    | refine Wc.block ?_)
  refine (key p.length 0 _ h2 t x0 x1 x2 x3 rfl (Nat.zero_le _) ?_ ?_ ?_ ?_ ?_ ?_ ?_ ag b1' b2 hr hz (by rw [List.drop_zero]; exact hat)).mono ?_
  · simp (config := {decide := true}) only [Ac.get_put, if_true, if_false, and_true, Sx, n0]
  · simp (config := {decide := true}) only [Ac.get_put, if_true, if_false, and_true, Sx, d0]
  · simp (config := {decide := true}) only [Ac.get_put, if_true, if_false, and_true, Sx, n0]
  · simp (config := {decide := true}) only [Ac.get_put, if_true, if_false, and_true, Sx, n0]
  · simp (config := {decide := true}) only [Ac.get_put, if_true, if_false, and_true, Sx, n0, g01]
  · simp (config := {decide := true}) only [Ac.get_put, if_true, if_false, and_true, Sx, n0]
  · simp (config := {decide := true}) only [Ac.get_put, if_true, if_false, and_true, Sx, n0]
    rfl
  · rintro ex A g ⟨rfl, nA, dA, p2, p4, ah, y0, y1, y2, y3, c1, c2, rc, zc⟩
    simp only [if_true]
    have yone := rep_four' rc
    have lx : g.cells E (own h.next) 4 = some [y0, y1, y2, y3] := blk_cells c1 rfl yone
    obtain ⟨nf, v, g3, c68, a3, r3⟩ := own68 (E := E) (I := I) (fun f args h hf => hI f args h (by rcases hf with h | h <;> simp [h])) (isz t') t' _ g (Nat.le_refl _) (rep_grow ah.grows rc) ah.fit zc
    obtain ⟨v0, v1, v2, v3, rfl, vone⟩ := rep_four r3
    have c23 := a3.grows _ _ c2
    have st5 := st25 (a := v0) (b := v1) (c := v2) (d := v3) c23 vone (by rw [a3.mark, ah.mark]; have := hfit.ok.2; omega)
    have lg2 := a3.fit.lt c23
    generalize hh5 : g3.setb h1.next (.cells [v0, v1, v2, v3] 25 none) = g5 at st5
    have a5 : Ahd h g5 := by rw [← hh5]; exact (ah.trans a3).setb rfl (by omega) lg2 hfit
    have b5 : g5.blk h1.next = some (.cells [v0, v1, v2, v3] 25 none) := by rw [← hh5]; exact setb_same rfl
    have r5 : rep E g5 t' (.agg ⟨[v0, v1, v2, v3]⟩) := rep_grow (only_grows a5.fit) (rep_grow (only_mono (q := fun r => Nat.ble g.next r) a3.fit a5.fit (fun j B hb ⟨ys, ty, r, o, hB, _⟩ => by
      rw [← hh5, setb_ne (fun e => by
        rw [e, c23] at hb
        rw [← Option.some.inj hb] at hB
        cases hB)]
      exact hb) (fun r h => h)) r3)
    repeat' (first
    | (with_reducible apply Wc.seq)
    | (refine Wc.opsN nf (by repeat' (first
      | with_reducible exact RO.nil
      | ((with_reducible apply RO.run (awant_none rfl)); (focus ((first | simp (config := {decide := true}) only [awant, ayield_get, oper1, aop, opv, opvs, opvo, opvp, abuiltin, Ac.get_put, if_true, if_false, and_true, decide_true, abin, isShift, aint, roV, pair, bind, Option.bind, acall, Sx, nA, p2, p4, ld25, lx, c68, st5] | skip); with_reducible rfl))))) ?_)
    | (refine Wc.cond2 (by simp (config := {decide := true}) only [opv, Ac.get_put, if_true, if_false, and_true, decide_true, Sx, nA, p2, p4, ld25, lx, c68, st5]; try with_reducible rfl) (fun hb => ?_) (fun hb => ?_) <;> try contradiction)
    | refine Wc.skip ?_
    | refine Wc.ret ?_
    | refine Wc.exit ?_
    | refine Wc.block ?_)
    exact done_cq (.inr rfl) (by simp (config := {decide := true}) only [Ac.get_put, if_true, if_false, and_true, Sx, dA]) rfl (show _ = Value.pointer (some (own h1.next)) by simp (config := {decide := true}) only [Ac.get_put, if_true, if_false, and_true, Sx, nA, p4]) (by rw [ld25, blk_cells b5 (n := 4) rfl vone]) (show _ = Value.int .i64 0 by simp (config := {decide := true}) only [Ac.get_put, if_true, if_false, and_true, Sx, nA]) ⟨a5, _, rfl, r5⟩
end Go.Proofs.YtofijpbmbmbnhaaDoor
