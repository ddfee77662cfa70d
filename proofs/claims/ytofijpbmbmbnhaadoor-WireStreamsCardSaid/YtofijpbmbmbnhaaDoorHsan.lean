/- A store of handed in bytes; an item that is made of it. -/
import Derived.Test.YtofijpbmbmbnhaaDoorHsam
set_option linter.unusedSimpArgs false
set_option linter.unusedVariables false
set_option maxRecDepth 100000
set_option maxHeartbeats 8000000
namespace Go.Proofs.YtofijpbmbmbnhaaDoor
open Go Go.Hs Go.Proofs
variable {E : Env} {I : Known}
theorem fn24 : tab.fn.get 24 = some Tryd.f24 := by kernel_rfl
theorem fn59 : tab.fn.get 59 = some Tryd.f59 := by kernel_rfl
theorem fn23 : tab.fn.get 23 = some Tryd.f23 := by kernel_rfl
def Bin (E : Env) (h : H) (sl : Value) (bs : List Int) : Prop := (sl = .slice none 0 0 ∧ bs = []) ∨ ∃ a c, sl = .slice (some a) bs.length c ∧ bs.length ≤ c ∧ h.cells E a bs.length = some (bs.map (Value.int .u8)) ∧ a.spot ≠ some 0
theorem anil31_0 : anil tab 31 (.slice none 0 0) (.slice none 0 0) = some true := by
  unfold anil
  rw [ty31]
  rfl
theorem anil31_1 (a : Addr) (n c : Nat) : anil tab 31 (.slice (some a) n c) (.slice none 0 0) = some false := by
  unfold anil
  rw [ty31]
theorem bs31_0 {h : H} : abuildSlice tab 31 0 [] h = some (.slice (some (own h.next)) 0 0, h.new (.cells [] 5 none)) := by
  unfold abuildSlice
  simp only [ty31, tz5]
  rfl
theorem clone59 (hI : ∀ args h, I 59 args h = none) {h : H} {sl : Value} {bs : List Int} (f : Fit h) (hb : Bin E h sl bs) (hl : bs.length ≤ 1000000) :
    ∃ n v h', (ev tab E I n).call 59 [sl] h = some (v, h') ∧ (Ahd h h' ∧ Bts (fun k => h'.next ≤ k) h' v bs) := by
  refine Wc.call (hI _ _) fn59 rfl ?_
  generalize hA0 : (⟨T.ofList [sl] 0 .nil, max ([sl] : List Value).length Tryd.f59.ntmps, []⟩ : Ac) = A0
  have n0 : A0.n = 8 := by rw [← hA0]; rfl
  have g00 : A0.get 0 = sl := by rw [← hA0]; rfl
  have d0 : A0.defers = [] := by rw [← hA0]
  rcases hb with ⟨rfl, rfl⟩ | ⟨a, c, rfl, hc, hcs, hs⟩
  · repeat' (first | (with_reducible apply Wc.seq) | (apply Wc.ops; (focus ((repeat' (first | with_reducible exact RO.nil | ((with_reducible apply RO.run (awant_none rfl)); (focus ((first | simp +decide only [awant, ayield_get, oper1, aop, opv, opvs, opvo, opvp, abuiltin, aun, Ac.get_put, abin, isShift, aint, roV, pair, bind, Option.bind, acall, Sx, n0, g00, anil31_0] | skip); with_reducible rfl))))); done))) | (refine Wc.cond2 (by simp +decide only [opv, Ac.get_put, Sx, n0, g00, anil31_0]; try with_reducible rfl) (fun hb => ?_) (fun hb => ?_) <;> try contradiction) | refine Wc.skip ?_ | refine Wc.ret ?_ | refine Wc.exit ?_ | refine Wc.block ?_)
    exact done_q (v := .slice none 0 0) (.inr rfl) (by simp +decide only [Ac.get_put, Sx, d0]) rfl (by simp +decide only [Ac.get_put, Sx, n0]) ⟨Ahd.refl f, .inl ⟨rfl, rfl⟩⟩
  · obtain ⟨s, h', happ, hcl⟩ := clone_step (D := tab) (E := E) (t := 31) (e := 5) (sz := 1) (by_ := 1) (n := bs.length) (c := c) (a := a) f ty31 tz5 rfl (by rw [Nat.mul_one]; exact hcs) (by rw [List.length_map, Nat.mul_one]) (by
      unfold roomy
      simp only [Bool.and_eq_true, Nat.ble_eq]; omega)
    obtain ⟨k, rt, rfl, hk, hk1, hrt⟩ := hcl.get
    repeat' (first | (with_reducible apply Wc.seq) | (apply Wc.ops; (focus ((repeat' (first | with_reducible exact RO.nil | ((with_reducible apply RO.run (awant_none rfl)); (focus ((first | simp +decide only [awant, ayield_get, oper1, aop, opv, opvs, opvo, opvp, abuiltin, aun, Ac.get_put, abin, isShift, aint, roV, pair, bind, Option.bind, acall, Sx, n0, g00, anil31_1, bs31_0, happ] | skip); with_reducible rfl))))); done))) | (refine Wc.cond2 (by simp +decide only [opv, Ac.get_put, Sx, n0, g00, anil31_1, bs31_0, happ]; try with_reducible rfl) (fun hb => ?_) (fun hb => ?_) <;> try contradiction) | refine Wc.skip ?_ | refine Wc.ret ?_ | refine Wc.exit ?_ | refine Wc.block ?_)
    exact done_q (v := .slice (some (own k)) bs.length bs.length) (.inr rfl) (by simp +decide only [Ac.get_put, Sx, d0]) rfl (by simp +decide only [Ac.get_put, Sx, n0]) ⟨hcl.ahd, .inr ⟨k, _, rt, rfl, hk, by have := hcl.ahd.fit.lt hk; omega⟩⟩
theorem amin300 (n : Nat) : amin (fun x y => if y < x then y else x) [.int .i64 (n : Nat), .int .i64 300] = some (.int .i64 ((min n 300 : Nat) : Int)) := by
  simp only [amin, aminG]
  by_cases q : (300 : Int) < (n : Int)
  · have : min n 300 = 300 := by omega
    simp [q, this]
  · have : min n 300 = n := by omega
    simp [q, this]
theorem ab101 (b : Option Addr) (n c : Nat) : abuild tab 101 [(0, .slice b n c), (2, .int .u64 88172645463325252)] = some (.agg ⟨[.slice b n c, .int .i64 0, .int .u64 88172645463325252]⟩) := by
  unfold abuild
  rw [ty101]
  rfl
theorem of24 (hI : ∀ f args h, (f = 24 ∨ f = 59) → I f args h = none) {h : H} {sl : Value} {bs : List Int} (f : Fit h) (hb : Bin E h sl bs) :
    ∃ n v h', (ev tab E I n).call 24 [sl] h = some (v, h') ∧ (∃ kS bv, v = .pointer (some (own kS)) ∧ Ahd h h' ∧ h.next ≤ kS ∧ Sto (fun k => kS ≤ k) kS bv (bs.take 300) h' 0) := by
  have hb3 : ∃ sl3, aslice tab 31 sl none (some (.int .i64 ((min bs.length 300 : Nat) : Int))) none h = some (sl3, h) ∧ Bin E h sl3 (bs.take 300) := by
    rcases hb with ⟨rfl, rfl⟩ | ⟨a, c, rfl, hc, hcs, hs⟩
    · refine ⟨.slice none 0 0, ?_, .inl ⟨rfl, rfl⟩⟩
      unfold aslice
      rw [ty31]
      rfl
    · obtain ⟨c', hc', e⟩ := aslice_start (D := tab) (t := 31) (m := min bs.length 300) (h := h) ty31 (Nat.min_le_left _ _) hc hs
      have hlt : (bs.take 300).length = min bs.length 300 := by rw [List.length_take]; omega
      refine ⟨_, e, .inr ⟨a, c', by rw [hlt], by rw [hlt]; exact hc', ?_, hs⟩⟩
      have := cells_sub (m := 0) (l := min bs.length 300) hcs (by omega)
      rw [aadd_zero, List.drop_zero] at this
      rw [hlt, this, List.map_take]
      congr 1
      rw [List.take_eq_take_iff, List.length_map]
      omega
  obtain ⟨sl3, hsl, hb3⟩ := hb3
  obtain ⟨nf, v, h1, hc, a1, hB⟩ := clone59 (E := E) (I := I) (fun args h => hI _ args h (.inr rfl)) f hb3 (by simp; omega)
  refine Wc.call (hI _ _ _ (.inl rfl)) fn24 rfl ?_
  generalize hA0 : (⟨T.ofList [sl] 0 .nil, max ([sl] : List Value).length Tryd.f24.ntmps, []⟩ : Ac) = A0
  have n0 : A0.n = 11 := by rw [← hA0]; rfl
  have g00 : A0.get 0 = sl := by rw [← hA0]; rfl
  have d0 : A0.defers = [] := by rw [← hA0]
  have hln : alen tab 31 sl h = some (.int .i64 (bs.length : Nat)) := by
    rcases hb with ⟨rfl, rfl⟩ | ⟨a, c, rfl, _⟩ <;> exact len31 _ _ _
  obtain ⟨vb, vn, vc, rfl⟩ : ∃ b n c, v = .slice b n c := by
    rcases hB with ⟨rfl, _⟩ | ⟨k, c, rt, rfl, _⟩ <;> exact ⟨_, _, _, rfl⟩
  generalize hB2 : (Blk.cells (Value.agg ⟨[.slice vb vn vc, .int .i64 0, .int .u64 88172645463325252]⟩).cells.toList 101 none) = B2
  have a2 : Ahd h1 (h1.new B2) := by rw [← hB2]; exact Ahd.new0 a1.fit rfl
  have b2 : (h1.new B2).blk h1.next = some (.cells [.slice vb vn vc, .int .i64 0, .int .u64 88172645463325252] 101 none) := by rw [← hB2]; exact new_blk_new rfl
  repeat' (first | (with_reducible apply Wc.seq) | (apply Wc.opsN nf; (focus ((repeat' (first | with_reducible exact RO.nil | ((with_reducible apply RO.run (awant_none rfl)); (focus ((first | simp +decide only [awant, ayield_get, oper1, aop, opv, opvs, opvo, opvp, abuiltin, aun, Ac.get_put, abin, isShift, aint, roV, pair, bind, Option.bind, acall, Sx, n0, g00, hln, amin300, hsl, hc, ab101, hB2] | skip); with_reducible rfl))))); done))) | (refine Wc.cond2 (by simp +decide only [opv, Ac.get_put, Sx, n0, g00, hln, amin300, hsl, hc, ab101, hB2]; try with_reducible rfl) (fun hb => ?_) (fun hb => ?_) <;> try contradiction) | refine Wc.skip ?_ | refine Wc.ret ?_ | refine Wc.exit ?_ | refine Wc.block ?_)
  refine done_q (v := .pointer (some (own h1.next))) (.inr rfl) (by simp +decide only [Ac.get_put, Sx, d0]) rfl (by simp +decide only [Ac.get_put, Sx, n0]) ⟨h1.next, .slice vb vn vc, rfl, a1.trans a2, a1.next, _, b2, by decide, by decide, ?_, by decide⟩
  exact (hB.mod (M := fun k => h1.next ≤ k) (a2.mod (M := fun _ => False)) (fun _ h => h.elim))
theorem grown23 (hI : ∀ f args h, (f = 121 ∨ f = 94 ∨ f = 93 ∨ f = 95 ∨ f = 58 ∨ f = 23) → I f args h = none) {kS : Nat} {bv : Value} {bs : List Int} {h : H} {a : Int} (hbs : bs.length ≤ 1000000) (deep left : Nat) (hdeep : deep ≤ 100) (hl1 : 1 ≤ left) (hl2 : left ≤ 100) (ha : a + 100 * left ≤ 100000000) (hfit : Fit h) (S : Sto (fun k => kS ≤ k) kS bv bs h a) :
    ∃ n v h', (ev tab E I n).call 23 [.pointer (some (own kS)), .int .i64 (left : Nat), .int .i64 (deep : Nat)] h = some (v, h') ∧ (∃ t, Mod (fun k => k = kS) h h' ∧ rep E (only (fun r => Nat.ble h.next r) h') t v ∧ smlI t ∧ lvlI t ≤ (deep : Int) + 1 ∧ isz t ≤ left ∧ ∃ a', Sto (fun k => kS ≤ k) kS bv bs h' a' ∧ a ≤ a' ∧ a' ≤ a + 21 * isz t) := by
  have lS : kS < h.next := by obtain ⟨_, e1, _⟩ := S; exact hfit.lt e1
  refine Wc.call (hI _ _ _ (by simp)) fn23 rfl ?_
  generalize hA0 : (⟨T.ofList [.pointer (some (own kS)), .int .i64 (left : Nat), .int .i64 (deep : Nat)] 0 .nil, max ([.pointer (some (own kS)), .int .i64 (left : Nat), .int .i64 (deep : Nat)] : List Value).length Tryd.f23.ntmps, []⟩ : Ac) = A0
  have n0 : A0.n = 12 := by rw [← hA0]; rfl
  have g00 : A0.get 0 = .pointer (some (own kS)) := by rw [← hA0]; rfl
  have g01 : A0.get 1 = .int .i64 (left : Nat) := by rw [← hA0]; rfl
  have g02 : A0.get 2 = .int .i64 (deep : Nat) := by rw [← hA0]; rfl
  have d0 : A0.defers = [] := by rw [← hA0]
  have z3 : tzero tab 3 = some (.int .i64 0) := tz3
  generalize hB1 : (Blk.cells (Value.agg #[.int .i64 0, .int .i64 0, .string ⟨#[]⟩, .slice none 0 0]).cells.toList 25 none) = B1
  generalize hh1 : h.new B1 = h1
  have a1 : Ahd h h1 := by rw [← hh1, ← hB1]; exact Ahd.new0 hfit rfl
  have b1 : h1.blk h.next = some (.cells [.int .i64 0, .int .i64 0, .string ⟨#[]⟩, .slice none 0 0] 25 none) := by rw [← hh1, ← hB1]; exact new_blk_new rfl
  have x1 : h1.next = h.next + 1 := by rw [← hh1]; rfl
  generalize hB2 : (Blk.cells (Value.int .i64 0).cells.toList 3 none) = B2
  generalize hh2 : h1.new B2 = h2
  have a2 : Ahd h1 h2 := by rw [← hh2, ← hB2]; exact Ahd.new0 a1.fit rfl
  have b2 : h2.blk h1.next = some (.cells [.int .i64 0] 3 none) := by rw [← hh2, ← hB2]; exact new_blk_new rfl
  have x2 : h2.next = h1.next + 1 := by rw [← hh2]; rfl
  have b1' := a2.grows _ _ b1
  have st3 := st3l (i := (left : Nat)) b2
  generalize hh3 : h2.setl h1.next (.cells [.int .i64 (left : Nat)] 3 none) = h3 at st3
  have m3 : Mod (fun k => k = h1.next) h2 h3 := by rw [← hh3]; exact (Mod.refl a2.fit).setl rfl rfl (by omega)
  have b3 : h3.blk h1.next = some (.cells [.int .i64 (left : Nat)] 3 none) := by rw [← hh3]; exact setl_same rfl
  have b1'' := m3.blk _ _ (by omega) b1'
  have S3 : Sto (fun k => k = kS ∨ k = h1.next) kS bv bs h3 a := ((((S.ahd a1).ahd a2).mod m3 (fun k hk => by omega) (by omega)).up m3.fit (fun k hk => by omega))
  obtain ⟨nf, v, h4, hc, t, a', left', m4, r4, gd, lv, sz, S4, b4, ha1, ha2⟩ := grown58 (E := E) (I := I) (fun f args h hf => hI f args h (by rcases hf with h | h | h | h | h <;> simp [h])) (kS := kS) (kL := h1.next) (by omega) hbs deep h3 a left hdeep hl1 hl2 ha m3.fit S3 b3
  have b64 := m4.blk _ _ (by omega) b1''
  obtain ⟨va, vb, vc, vd, rfl, hone⟩ : ∃ a b c d, v = .agg ⟨[a, b, c, d]⟩ ∧ [a, b, c, d].all isOne = true := by
    obtain ⟨k', m', tx', ks'⟩ := t
    obtain ⟨sb', sc', rfl, _⟩ := rep_slice r4
    exact ⟨_, _, _, _, rfl, rfl⟩
  have st5 := st25l (a := va) (b := vb) (c := vc) (d := vd) b64 hone
  have ln4 := m4.next
  have ln3 := m3.next
  generalize hh5 : h4.setl h.next (.cells [va, vb, vc, vd] 25 none) = h5 at st5
  have m5 : Mod (fun k => k = h.next) h4 h5 := by rw [← hh5]; exact (Mod.refl m4.fit).setl rfl rfl (by omega)
  have b5 : h5.blk h.next = some (.cells [va, vb, vc, vd] 25 none) := by rw [← hh5]; exact setl_same rfl
  have hp5 : ∀ k B, k = h.next → h4.blk k = some B → B.plain = true := by
    intro k B hk hb
    subst hk
    rw [b64] at hb; cases hb; rfl
  have r5 := rep_grow (only_mod (q := fun r => Nat.ble h.next r) m4.fit m5 hp5 (fun r hr => by rw [Nat.ble_eq] at hr ⊢; have := m3.next; omega)) r4
  have r5g := rep_grow (only_grows m5.fit) r5
  repeat' (first | (with_reducible apply Wc.seq) | (apply Wc.opsN nf; (focus ((repeat' (first | with_reducible exact RO.nil | ((with_reducible apply RO.run (awant_none rfl)); (focus ((first | simp +decide only [awant, ayield_get, oper1, aop, opv, opvs, opvo, opvp, abuiltin, aun, Ac.get_put, abin, isShift, aint, roV, pair, bind, Option.bind, acall, Sx, n0, g00, g01, g02, tz25, z3, hB1, hh1, hB2, hh2, st3, hc, st5] | skip); with_reducible rfl))))); done))) | (refine Wc.cond2 (by simp +decide only [opv, Ac.get_put, Sx, n0, g00, g01, g02, tz25, z3, hB1, hh1, hB2, hh2, st3, hc, st5]; try with_reducible rfl) (fun hb => ?_) (fun hb => ?_) <;> try contradiction) | refine Wc.skip ?_ | refine Wc.ret ?_ | refine Wc.exit ?_ | refine Wc.block ?_)
  refine done_cell (.inr rfl) (by simp +decide only [Ac.get_put, Sx, d0]) rfl (show _ = Value.pointer (some (own h.next)) by simp +decide only [Ac.get_put, Sx, n0]) (by rw [ld25, blk_cells b5 (n := 4) rfl hone]) ⟨t, ?_, r5, gd, lv, by omega, a', ?_, ha1, by omega⟩
  rotate_left
  · obtain ⟨seed, e1, e2, e3, e4, e5⟩ := S4
    obtain ⟨_, _, _, _, e4', _⟩ := S
    have mm : Mod (fun k => k = kS ∨ k = h1.next ∨ k = h.next) h h5 := (((a1.trans a2).mod.trans (m3.sub fun k hk => by omega)).trans (m4.sub fun k hk => by omega)).trans (m5.sub fun k hk => by omega)
    exact ⟨seed, m5.blk _ _ (by omega) e1, e2, e3, e4'.mod (mm.low (M := fun k => k = kS) hfit (fun k hk => by omega)) (fun k hk => Nat.le_of_eq hk.symm), e5⟩
  have mm : Mod (fun k => k = kS ∨ k = h1.next ∨ k = h.next) h h5 := (((a1.trans a2).mod.trans (m3.sub fun k hk => by omega)).trans (m4.sub fun k hk => by omega)).trans (m5.sub fun k hk => by omega)
  exact mm.low hfit (fun k hk => by omega)
end Go.Proofs.YtofijpbmbmbnhaaDoor
/- Facts on types, printed by wip/tools/tyl.py. -/
set_option maxRecDepth 100000
namespace Go.Proofs.YtofijpbmbmbnhaaDoor
open Go Go.Hs Go.Proofs
variable {E : Env}
theorem qty3 : tab.ty.get 3 = some ⟨.int .i64, 1, 8, some (.int .i64 0), true⟩ := by kernel_rfl
theorem qtz3 : tzero tab 3 = some (.int .i64 0) := by unfold tzero; rw [qty3]
theorem qld3 (a : Addr) {h : H} : aload tab E 3 a h = h.cell E a := by unfold aload; rw [qty3]; rfl
theorem qty4 : tab.ty.get 4 = some ⟨.bool, 1, 1, some (.bool false), true⟩ := by kernel_rfl
theorem qld4 (a : Addr) {h : H} : aload tab E 4 a h = h.cell E a := by unfold aload; rw [qty4]; rfl
theorem qty5 : tab.ty.get 5 = some ⟨.int .u8, 1, 1, some (.int .u8 0), true⟩ := by kernel_rfl
theorem qtz5 : tzero tab 5 = some (.int .u8 0) := by unfold tzero; rw [qty5]
theorem qld5 (a : Addr) {h : H} : aload tab E 5 a h = h.cell E a := by unfold aload; rw [qty5]; rfl
theorem qty9 : tab.ty.get 9 = some ⟨.string, 1, 16, some (.string ⟨#[]⟩), true⟩ := by kernel_rfl
theorem qld9 (a : Addr) {h : H} : aload tab E 9 a h = h.cell E a := by unfold aload; rw [qty9]; rfl
theorem qlen9 {h : H} (s : ByteArray) : alen tab 9 (.string s) h = some (.int .i64 (s.data.toList.length : Nat)) := by unfold alen; rw [qty9]
theorem qty23 : tab.ty.get 23 = some ⟨.slice 25 4 56, 1, 24, some (.slice none 0 0), true⟩ := by kernel_rfl
theorem qld23 (a : Addr) {h : H} : aload tab E 23 a h = h.cell E a := by unfold aload; rw [qty23]; rfl
theorem qlen23 {h : H} (b : Option Addr) (n c : Nat) : alen tab 23 (.slice b n c) h = some (.int .i64 n) := by unfold alen; rw [qty23]
theorem qia23 (a : Addr) (n c : Nat) (i : Int) (hi : inRange i n = true) : aindexAddr tab 23 (.slice (some a) n c) (.int .i64 i) = some (.pointer (some (aadd a (i.toNat * 4)))) := by unfold aindexAddr; simp only [qty23, hi]
theorem qty25 : tab.ty.get 25 = some ⟨.struct [(0, 3, 1), (1, 3, 1), (2, 9, 1), (3, 23, 1)], 4, 56, some (.agg #[.int .i64 0, .int .i64 0, .string ⟨#[]⟩, .slice none 0 0]), true⟩ := by kernel_rfl
theorem qtz25 : tzero tab 25 = some (.agg #[.int .i64 0, .int .i64 0, .string ⟨#[]⟩, .slice none 0 0]) := by unfold tzero; rw [qty25]
theorem qld25 (a : Addr) {h : H} : aload tab E 25 a h = match h.cells E a 4 with | some cs => some (.agg ⟨cs⟩) | none => none := by unfold aload; rw [qty25]; rfl
theorem qfa25_0 (a : Addr) : afieldAddr tab 25 (.pointer (some a)) 0 = some (.pointer (some (aadd a 0))) := by unfold afieldAddr; rw [qty25]; rfl
theorem qfa25_1 (a : Addr) : afieldAddr tab 25 (.pointer (some a)) 1 = some (.pointer (some (aadd a 1))) := by unfold afieldAddr; rw [qty25]; rfl
theorem qfa25_2 (a : Addr) : afieldAddr tab 25 (.pointer (some a)) 2 = some (.pointer (some (aadd a 2))) := by unfold afieldAddr; rw [qty25]; rfl
theorem qfa25_3 (a : Addr) : afieldAddr tab 25 (.pointer (some a)) 3 = some (.pointer (some (aadd a 3))) := by unfold afieldAddr; rw [qty25]; rfl
theorem qty26 : tab.ty.get 26 = some ⟨.int .i64, 1, 8, some (.int .i64 0), true⟩ := by kernel_rfl
theorem qld26 (a : Addr) {h : H} : aload tab E 26 a h = h.cell E a := by unfold aload; rw [qty26]; rfl
theorem qty31 : tab.ty.get 31 = some ⟨.slice 5 1 1, 1, 24, some (.slice none 0 0), true⟩ := by kernel_rfl
theorem qtz31 : tzero tab 31 = some (.slice none 0 0) := by unfold tzero; rw [qty31]
theorem qld31 (a : Addr) {h : H} : aload tab E 31 a h = h.cell E a := by unfold aload; rw [qty31]; rfl
theorem qlen31 {h : H} (b : Option Addr) (n c : Nat) : alen tab 31 (.slice b n c) h = some (.int .i64 n) := by unfold alen; rw [qty31]
theorem qty53 : tab.ty.get 53 = some ⟨.slice 3 1 8, 1, 24, some (.slice none 0 0), true⟩ := by kernel_rfl
theorem qld53 (a : Addr) {h : H} : aload tab E 53 a h = h.cell E a := by unfold aload; rw [qty53]; rfl
theorem qlen53 {h : H} (b : Option Addr) (n c : Nat) : alen tab 53 (.slice b n c) h = some (.int .i64 n) := by unfold alen; rw [qty53]
theorem qia53 (a : Addr) (n c : Nat) (i : Int) (hi : inRange i n = true) : aindexAddr tab 53 (.slice (some a) n c) (.int .i64 i) = some (.pointer (some (aadd a (i.toNat * 1)))) := by unfold aindexAddr; simp only [qty53, hi]
theorem qty84 : tab.ty.get 84 = some ⟨.struct [(0, 9, 1), (1, 3, 1), (2, 26, 1)], 3, 32, some (.agg #[.string ⟨#[]⟩, .int .i64 0, .int .i64 0]), true⟩ := by kernel_rfl
theorem qtz84 : tzero tab 84 = some (.agg #[.string ⟨#[]⟩, .int .i64 0, .int .i64 0]) := by unfold tzero; rw [qty84]
theorem qld84 (a : Addr) {h : H} : aload tab E 84 a h = match h.cells E a 3 with | some cs => some (.agg ⟨cs⟩) | none => none := by unfold aload; rw [qty84]; rfl
theorem qfa84_0 (a : Addr) : afieldAddr tab 84 (.pointer (some a)) 0 = some (.pointer (some (aadd a 0))) := by unfold afieldAddr; rw [qty84]; rfl
theorem qfa84_1 (a : Addr) : afieldAddr tab 84 (.pointer (some a)) 1 = some (.pointer (some (aadd a 1))) := by unfold afieldAddr; rw [qty84]; rfl
theorem qfa84_2 (a : Addr) : afieldAddr tab 84 (.pointer (some a)) 2 = some (.pointer (some (aadd a 2))) := by unfold afieldAddr; rw [qty84]; rfl
theorem qty86 : tab.ty.get 86 = some ⟨.struct [(0, 84, 3), (3, 3, 1)], 4, 40, some (.agg #[.string ⟨#[]⟩, .int .i64 0, .int .i64 0, .int .i64 0]), true⟩ := by kernel_rfl
theorem qtz86 : tzero tab 86 = some (.agg #[.string ⟨#[]⟩, .int .i64 0, .int .i64 0, .int .i64 0]) := by unfold tzero; rw [qty86]
theorem qld86 (a : Addr) {h : H} : aload tab E 86 a h = match h.cells E a 4 with | some cs => some (.agg ⟨cs⟩) | none => none := by unfold aload; rw [qty86]; rfl
theorem qfa86_0 (a : Addr) : afieldAddr tab 86 (.pointer (some a)) 0 = some (.pointer (some (aadd a 0))) := by unfold afieldAddr; rw [qty86]; rfl
theorem qfa86_1 (a : Addr) : afieldAddr tab 86 (.pointer (some a)) 1 = some (.pointer (some (aadd a 3))) := by unfold afieldAddr; rw [qty86]; rfl
theorem qty91 : tab.ty.get 91 = some ⟨.struct [(0, 31, 1), (1, 3, 1), (2, 3, 1), (3, 3, 1), (4, 26, 1)], 5, 56, some (.agg #[.slice none 0 0, .int .i64 0, .int .i64 0, .int .i64 0, .int .i64 0]), true⟩ := by kernel_rfl
theorem qld91 (a : Addr) {h : H} : aload tab E 91 a h = match h.cells E a 5 with | some cs => some (.agg ⟨cs⟩) | none => none := by unfold aload; rw [qty91]; rfl
theorem qfa91_0 (a : Addr) : afieldAddr tab 91 (.pointer (some a)) 0 = some (.pointer (some (aadd a 0))) := by unfold afieldAddr; rw [qty91]; rfl
theorem qfa91_1 (a : Addr) : afieldAddr tab 91 (.pointer (some a)) 1 = some (.pointer (some (aadd a 1))) := by unfold afieldAddr; rw [qty91]; rfl
theorem qfa91_2 (a : Addr) : afieldAddr tab 91 (.pointer (some a)) 2 = some (.pointer (some (aadd a 2))) := by unfold afieldAddr; rw [qty91]; rfl
theorem qfa91_3 (a : Addr) : afieldAddr tab 91 (.pointer (some a)) 3 = some (.pointer (some (aadd a 3))) := by unfold afieldAddr; rw [qty91]; rfl
theorem qfa91_4 (a : Addr) : afieldAddr tab 91 (.pointer (some a)) 4 = some (.pointer (some (aadd a 4))) := by unfold afieldAddr; rw [qty91]; rfl
theorem qty139 : tab.ty.get 139 = some ⟨.func, 1, 8, some (.nilFunc), true⟩ := by kernel_rfl
theorem qld139 (a : Addr) {h : H} : aload tab E 139 a h = h.cell E a := by unfold aload; rw [qty139]; rfl
theorem qty141 : tab.ty.get 141 = some ⟨.struct [(0, 5, 1), (1, 139, 1)], 2, 16, some (.agg #[.int .u8 0, .nilFunc]), true⟩ := by kernel_rfl
theorem qtz141 : tzero tab 141 = some (.agg #[.int .u8 0, .nilFunc]) := by unfold tzero; rw [qty141]
theorem qld141 (a : Addr) {h : H} : aload tab E 141 a h = match h.cells E a 2 with | some cs => some (.agg ⟨cs⟩) | none => none := by unfold aload; rw [qty141]; rfl
theorem qfa141_0 (a : Addr) : afieldAddr tab 141 (.pointer (some a)) 0 = some (.pointer (some (aadd a 0))) := by unfold afieldAddr; rw [qty141]; rfl
theorem qfa141_1 (a : Addr) : afieldAddr tab 141 (.pointer (some a)) 1 = some (.pointer (some (aadd a 1))) := by unfold afieldAddr; rw [qty141]; rfl
theorem qty142 : tab.ty.get 142 = some ⟨.array 3 141 2, 6, 48, some (.agg #[.int .u8 0, .nilFunc, .int .u8 0, .nilFunc, .int .u8 0, .nilFunc]), true⟩ := by kernel_rfl
theorem qtz142 : tzero tab 142 = some (.agg #[.int .u8 0, .nilFunc, .int .u8 0, .nilFunc, .int .u8 0, .nilFunc]) := by unfold tzero; rw [qty142]
theorem qld142 (a : Addr) {h : H} : aload tab E 142 a h = match h.cells E a 6 with | some cs => some (.agg ⟨cs⟩) | none => none := by unfold aload; rw [qty142]; rfl
theorem Qx : (∀ (E : Env) (a : Addr) (h : H), aload tab E 3 a h = h.cell E a) ∧ (∀ (E : Env) (a : Addr) (h : H), aload tab E 4 a h = h.cell E a) ∧ (∀ (E : Env) (a : Addr) (h : H), aload tab E 5 a h = h.cell E a) ∧ (∀ (E : Env) (a : Addr) (h : H), aload tab E 9 a h = h.cell E a) ∧ (∀ (h : H) (s : ByteArray), alen tab 9 (.string s) h = some (.int .i64 (s.data.toList.length : Nat))) ∧ (∀ (E : Env) (a : Addr) (h : H), aload tab E 23 a h = h.cell E a) ∧ (∀ (h : H) (b : Option Addr) (n c : Nat), alen tab 23 (.slice b n c) h = some (.int .i64 n)) ∧ (∀ (E : Env) (a : Addr) (h : H), aload tab E 25 a h = match h.cells E a 4 with | some cs => some (.agg ⟨cs⟩) | none => none) ∧ (∀ (a : Addr), afieldAddr tab 25 (.pointer (some a)) 0 = some (.pointer (some (aadd a 0)))) ∧ (∀ (a : Addr), afieldAddr tab 25 (.pointer (some a)) 1 = some (.pointer (some (aadd a 1)))) ∧ (∀ (a : Addr), afieldAddr tab 25 (.pointer (some a)) 2 = some (.pointer (some (aadd a 2)))) ∧ (∀ (a : Addr), afieldAddr tab 25 (.pointer (some a)) 3 = some (.pointer (some (aadd a 3)))) ∧ (∀ (E : Env) (a : Addr) (h : H), aload tab E 26 a h = h.cell E a) ∧ (∀ (E : Env) (a : Addr) (h : H), aload tab E 31 a h = h.cell E a) ∧ (∀ (h : H) (b : Option Addr) (n c : Nat), alen tab 31 (.slice b n c) h = some (.int .i64 n)) ∧ (∀ (E : Env) (a : Addr) (h : H), aload tab E 53 a h = h.cell E a) ∧ (∀ (h : H) (b : Option Addr) (n c : Nat), alen tab 53 (.slice b n c) h = some (.int .i64 n)) ∧ (∀ (E : Env) (a : Addr) (h : H), aload tab E 84 a h = match h.cells E a 3 with | some cs => some (.agg ⟨cs⟩) | none => none) ∧ (∀ (a : Addr), afieldAddr tab 84 (.pointer (some a)) 0 = some (.pointer (some (aadd a 0)))) ∧ (∀ (a : Addr), afieldAddr tab 84 (.pointer (some a)) 1 = some (.pointer (some (aadd a 1)))) ∧ (∀ (a : Addr), afieldAddr tab 84 (.pointer (some a)) 2 = some (.pointer (some (aadd a 2)))) ∧ (∀ (E : Env) (a : Addr) (h : H), aload tab E 86 a h = match h.cells E a 4 with | some cs => some (.agg ⟨cs⟩) | none => none) ∧ (∀ (a : Addr), afieldAddr tab 86 (.pointer (some a)) 0 = some (.pointer (some (aadd a 0)))) ∧ (∀ (a : Addr), afieldAddr tab 86 (.pointer (some a)) 1 = some (.pointer (some (aadd a 3)))) ∧ (∀ (E : Env) (a : Addr) (h : H), aload tab E 91 a h = match h.cells E a 5 with | some cs => some (.agg ⟨cs⟩) | none => none) ∧ (∀ (a : Addr), afieldAddr tab 91 (.pointer (some a)) 0 = some (.pointer (some (aadd a 0)))) ∧ (∀ (a : Addr), afieldAddr tab 91 (.pointer (some a)) 1 = some (.pointer (some (aadd a 1)))) ∧ (∀ (a : Addr), afieldAddr tab 91 (.pointer (some a)) 2 = some (.pointer (some (aadd a 2)))) ∧ (∀ (a : Addr), afieldAddr tab 91 (.pointer (some a)) 3 = some (.pointer (some (aadd a 3)))) ∧ (∀ (a : Addr), afieldAddr tab 91 (.pointer (some a)) 4 = some (.pointer (some (aadd a 4)))) ∧ (∀ (E : Env) (a : Addr) (h : H), aload tab E 139 a h = h.cell E a) ∧ (∀ (E : Env) (a : Addr) (h : H), aload tab E 141 a h = match h.cells E a 2 with | some cs => some (.agg ⟨cs⟩) | none => none) ∧ (∀ (a : Addr), afieldAddr tab 141 (.pointer (some a)) 0 = some (.pointer (some (aadd a 0)))) ∧ (∀ (a : Addr), afieldAddr tab 141 (.pointer (some a)) 1 = some (.pointer (some (aadd a 1)))) ∧ (∀ (E : Env) (a : Addr) (h : H), aload tab E 142 a h = match h.cells E a 6 with | some cs => some (.agg ⟨cs⟩) | none => none) :=
  ⟨fun E a h => by first | exact qld3 _ | exact qld3 _ _ _, fun E a h => by first | exact qld4 _ | exact qld4 _ _ _, fun E a h => by first | exact qld5 _ | exact qld5 _ _ _, fun E a h => by first | exact qld9 _ | exact qld9 _ _ _, fun h s => by first | exact qlen9 _ | exact qlen9 _ _ _, fun E a h => by first | exact qld23 _ | exact qld23 _ _ _, fun h b n c => by first | exact qlen23 _ | exact qlen23 _ _ _, fun E a h => by first | exact qld25 _ | exact qld25 _ _ _, fun a => by first | exact qfa25_0 _ | exact qfa25_0 _ _ _, fun a => by first | exact qfa25_1 _ | exact qfa25_1 _ _ _, fun a => by first | exact qfa25_2 _ | exact qfa25_2 _ _ _, fun a => by first | exact qfa25_3 _ | exact qfa25_3 _ _ _, fun E a h => by first | exact qld26 _ | exact qld26 _ _ _, fun E a h => by first | exact qld31 _ | exact qld31 _ _ _, fun h b n c => by first | exact qlen31 _ | exact qlen31 _ _ _, fun E a h => by first | exact qld53 _ | exact qld53 _ _ _, fun h b n c => by first | exact qlen53 _ | exact qlen53 _ _ _, fun E a h => by first | exact qld84 _ | exact qld84 _ _ _, fun a => by first | exact qfa84_0 _ | exact qfa84_0 _ _ _, fun a => by first | exact qfa84_1 _ | exact qfa84_1 _ _ _, fun a => by first | exact qfa84_2 _ | exact qfa84_2 _ _ _, fun E a h => by first | exact qld86 _ | exact qld86 _ _ _, fun a => by first | exact qfa86_0 _ | exact qfa86_0 _ _ _, fun a => by first | exact qfa86_1 _ | exact qfa86_1 _ _ _, fun E a h => by first | exact qld91 _ | exact qld91 _ _ _, fun a => by first | exact qfa91_0 _ | exact qfa91_0 _ _ _, fun a => by first | exact qfa91_1 _ | exact qfa91_1 _ _ _, fun a => by first | exact qfa91_2 _ | exact qfa91_2 _ _ _, fun a => by first | exact qfa91_3 _ | exact qfa91_3 _ _ _, fun a => by first | exact qfa91_4 _ | exact qfa91_4 _ _ _, fun E a h => by first | exact qld139 _ | exact qld139 _ _ _, fun E a h => by first | exact qld141 _ | exact qld141 _ _ _, fun a => by first | exact qfa141_0 _ | exact qfa141_0 _ _ _, fun a => by first | exact qfa141_1 _ | exact qfa141_1 _ _ _, fun E a h => by first | exact qld142 _ | exact qld142 _ _ _⟩
end Go.Proofs.YtofijpbmbmbnhaaDoor
/- The program's reader: errors, beginnings, numbers. -/
set_option maxRecDepth 100000
set_option maxHeartbeats 8000000
namespace Go.Proofs.YtofijpbmbmbnhaaDoor
open Go Go.Hs Go.Proofs
variable {E : Env} {I : Known}
theorem fn81 : tab.fn.get 81 = some Tryd.f81 := by kernel_rfl
theorem fn82 : tab.fn.get 82 = some Tryd.f82 := by kernel_rfl
theorem fn118 : tab.fn.get 118 = some Tryd.f118 := by kernel_rfl
def Src (k : Nat) (bs : List UInt8) (pos : Nat) (e : Int) (items : Nat) (g : H) : Prop := g.blk k = some (.cells [.string ⟨⟨bs⟩⟩, .int .i64 (pos : Nat), .int .i64 e, .int .i64 (items : Nat)] 86 none)
theorem Src.at {k : Nat} {bs : List UInt8} {pos : Nat} {e : Int} {items : Nat} {g : H} (b : Src k bs pos e items g) : g.cell E (own k) = some (.string ⟨⟨bs⟩⟩) ∧ g.cell E (aadd (own k) 1) = some (.int .i64 (pos : Nat)) ∧ g.cell E (aadd (own k) 2) = some (.int .i64 e) ∧ g.cell E (aadd (own k) 3) = some (.int .i64 (items : Nat)) :=
  ⟨cell_blk0 b, cell_blk b 1, cell_blk b 2, cell_blk b 3⟩
theorem Src.mod {k : Nat} {bs : List UInt8} {pos : Nat} {e : Int} {items : Nat} {g g' : H} {M : Nat → Prop} (b : Src k bs pos e items g) (m : Mod M g g') (hk : ¬ M k) : Src k bs pos e items g' := m.blk _ _ hk b
theorem Src.back {k : Nat} {bs : List UInt8} {pos : Nat} {e : Int} {items : Nat} {h g : H} (b : Src k bs pos e items g) : Src k bs pos e items (Hs.back h g) := by
  unfold Src
  rw [back_blk]; exact b
theorem Src.pos {k : Nat} {bs : List UInt8} {pos : Nat} {e : Int} {items : Nat} {g : H} (b : Src k bs pos e items g) (p : Nat) : astore tab 3 (aadd (own k) 1) (.int .i64 (p : Nat)) g = some (g.setl k (.cells [.string ⟨⟨bs⟩⟩, .int .i64 (p : Nat), .int .i64 e, .int .i64 (items : Nat)] 86 none)) ∧ Src k bs p e items (g.setl k (.cells [.string ⟨⟨bs⟩⟩, .int .i64 (p : Nat), .int .i64 e, .int .i64 (items : Nat)] 86 none)) :=
  ⟨astore_one qty3 rfl b rfl rfl (by simp) rfl, setl_same rfl⟩
theorem Src.err {k : Nat} {bs : List UInt8} {pos : Nat} {e : Int} {items : Nat} {g : H} (b : Src k bs pos e items g) (e' : Int) : astore tab 26 (aadd (own k) 2) (.int .i64 e') g = some (g.setl k (.cells [.string ⟨⟨bs⟩⟩, .int .i64 (pos : Nat), .int .i64 e', .int .i64 (items : Nat)] 86 none)) ∧ Src k bs pos e' items (g.setl k (.cells [.string ⟨⟨bs⟩⟩, .int .i64 (pos : Nat), .int .i64 e', .int .i64 (items : Nat)] 86 none)) :=
  ⟨astore_one qty26 rfl b rfl rfl (by simp) rfl, setl_same rfl⟩
theorem Src.num {k : Nat} {bs : List UInt8} {pos : Nat} {e : Int} {items : Nat} {g : H} (b : Src k bs pos e items g) (p : Nat) : astore tab 3 (aadd (own k) 3) (.int .i64 (p : Nat)) g = some (g.setl k (.cells [.string ⟨⟨bs⟩⟩, .int .i64 (pos : Nat), .int .i64 e, .int .i64 (p : Nat)] 86 none)) ∧ Src k bs pos e p (g.setl k (.cells [.string ⟨⟨bs⟩⟩, .int .i64 (pos : Nat), .int .i64 e, .int .i64 (p : Nat)] 86 none)) :=
  ⟨astore_one qty3 rfl b rfl rfl (by simp) rfl, setl_same rfl⟩
theorem fail81 (hI : ∀ args h, I 81 args h = none) {k : Nat} {bs : List UInt8} {pos : Nat} {e : Int} {items : Nat} {g : H} (f : Fit g) (b : Src k bs pos e items g) (e' : Int) (p : Nat) :
    ∃ n g', (ev tab E I n).call 81 [.pointer (some (own k)), .int .i64 e', .int .i64 (p : Nat)] g = some (.bool false, g') ∧ Mod (fun j => j = k) g g' ∧ Src k bs p e' items g' := by
  suffices hw : ∃ n v g', (ev tab E I n).call 81 [.pointer (some (own k)), .int .i64 e', .int .i64 (p : Nat)] g = some (v, g') ∧ (v = .bool false ∧ Mod (fun j => j = k) g g' ∧ Src k bs p e' items g') by
    obtain ⟨n, v, g', h1, rfl, h2, h3⟩ := hw
    exact ⟨n, g', h1, h2, h3⟩
  refine Wc.call (hI _ _) fn81 rfl ?_
  generalize hA0 : (⟨T.ofList [.pointer (some (own k)), .int .i64 e', .int .i64 (p : Nat)] 0 .nil, max ([.pointer (some (own k)), .int .i64 e', .int .i64 (p : Nat)] : List Value).length Tryd.f81.ntmps, []⟩ : Ac) = A0
  have n0 : A0.n = 15 := by rw [← hA0]; rfl
  have q0 : A0.get 0 = .pointer (some (own k)) := by rw [← hA0]; rfl
  have q1 : A0.get 1 = .int .i64 e' := by rw [← hA0]; rfl
  have q2 : A0.get 2 = .int .i64 (p : Nat) := by rw [← hA0]; rfl
  have d0 : A0.defers = [] := by rw [← hA0]
  clear hA0
  have kl : k < g.next := f.lt b
  obtain ⟨s1, b1⟩ := b.err e'
  have m1 := (Mod.refl (M := fun j => j = k) f).setl (B := .cells [.string ⟨⟨bs⟩⟩, .int .i64 (pos : Nat), .int .i64 e', .int .i64 (items : Nat)] 86 none) rfl rfl kl
  generalize g.setl k (.cells [.string ⟨⟨bs⟩⟩, .int .i64 (pos : Nat), .int .i64 e', .int .i64 (items : Nat)] 86 none) = g1 at s1 b1 m1
  obtain ⟨s2, b2⟩ := b1.pos p
  have m2 := m1.setl (B := .cells [.string ⟨⟨bs⟩⟩, .int .i64 (p : Nat), .int .i64 e', .int .i64 (items : Nat)] 86 none) rfl rfl (Nat.lt_of_lt_of_le kl m1.next)
  repeat' (first | (with_reducible apply Wc.seq) | (apply Wc.ops; (focus ((repeat' (first | with_reducible exact RO.nil | ((with_reducible apply RO.run (awant_none rfl)); (focus ((first | simp +decide only [awant, ayield_get, oper1, aop, opv, opvs, opvo, opvp, abuiltin, aun, Gx, abin, isShift, aint, roV, pair, bind, Option.bind, acall, Sx, n0, q0, q1, q2, Qx, Hx, s1, s2] | skip); with_reducible rfl))))); done))) | (refine Wc.cond2 (by simp +decide only [opv, Gx, Sx, n0, q0, q1, q2, Qx, Hx, s1, s2]; try with_reducible rfl) (fun hb => ?_) (fun hb => ?_) <;> try contradiction) | refine Wc.skip ?_ | refine Wc.ret ?_ | refine Wc.exit ?_ | refine Wc.block ?_)
  exact done_q (v := .bool false) (.inr rfl) (by simp +decide only [Gx, Sx, d0]) rfl (by simp +decide only [Gx, Sx, n0]) ⟨rfl, m2, b2⟩
theorem begins82 (hI : ∀ f args h, (f = 82 ∨ f = 81) → I f args h = none) {k : Nat} {bs : List UInt8} {pos items : Nat} {g : H} (f : Fit g) (b : Src k bs pos 0 items g) (hi : items ≤ 5000) (level : Nat) :
    ∃ n v g', (ev tab E I n).call 82 [.pointer (some (own k)), .int .i64 (level : Nat)] g = some (v, g') ∧ (Mod (fun j => j = k) g g' ∧ ((250 < level ∧ v = .bool false ∧ Src k bs pos 11 items g') ∨ (level ≤ 250 ∧ items = 5000 ∧ v = .bool false ∧ Src k bs pos 2 items g') ∨ (level ≤ 250 ∧ items < 5000 ∧ v = .bool true ∧ Src k bs pos 0 (items + 1) g'))) := by
  have kl : k < g.next := f.lt b
  obtain ⟨c0, c1, c2, c3⟩ := b.at (E := E)
  refine Wc.call (hI _ _ _ (.inl rfl)) fn82 rfl ?_
  generalize hA0 : (⟨T.ofList [.pointer (some (own k)), .int .i64 (level : Nat)] 0 .nil, max ([.pointer (some (own k)), .int .i64 (level : Nat)] : List Value).length Tryd.f82.ntmps, []⟩ : Ac) = A0
  have n0 : A0.n = 39 := by rw [← hA0]; rfl
  have q0 : A0.get 0 = .pointer (some (own k)) := by rw [← hA0]; rfl
  have q1 : A0.get 1 = .int .i64 (level : Nat) := by rw [← hA0]; rfl
  have d0 : A0.defers = [] := by rw [← hA0]
  clear hA0
  by_cases h1 : 250 < level
  · have e1 : decide ((level : Int) > 250) = true := by simp; omega
    obtain ⟨nf, g', ck, m, b'⟩ := fail81 (E := E) (I := I) (fun args h => hI _ args h (.inr rfl)) f.fresh (show Src k bs pos 0 items (fresh g) from b) 11 pos
    obtain ⟨m', _, hn, hl⟩ := Mod.back f m
    repeat' (first | (with_reducible apply Wc.seq) | (apply Wc.ops; (focus ((repeat' (first | with_reducible exact RO.nil | ((with_reducible apply RO.run (awant_none rfl)); (focus ((first | simp +decide only [awant, ayield_get, oper1, aop, opv, opvs, opvo, opvp, abuiltin, aun, Gx, abin, isShift, aint, roV, pair, bind, Option.bind, acall, Sx, n0, q0, q1, Qx, Hx, e1] | skip); with_reducible rfl))))); done))) | (refine Wc.cond2 (by simp +decide only [opv, Gx, Sx, n0, q0, q1, Qx, Hx, e1]; try with_reducible rfl) (fun hb => ?_) (fun hb => ?_) <;> try contradiction) | refine Wc.skip ?_ | refine Wc.ret ?_ | refine Wc.exit ?_ | refine Wc.block ?_)
    refine Wc.drawQ nf (by kernel_rfl) ?_
    (iterate 8 (first | ((apply FQ.pure rfl rfl); (focus ((first | simp +decide only [awant, ayield_get, oper1, aop, opv, opvs, opvo, opvp, abuiltin, aun, Gx, abin, isShift, aint, roV, pair, bind, Option.bind, acall, Sx, n0, q0, q1, Qx, Hx, c1] | skip); with_reducible rfl))) | ((apply FQ.new rfl rfl); (focus ((first | simp +decide only [awant, ayield_get, oper1, aop, opv, opvs, opvo, opvp, abuiltin, aun, Gx, abin, isShift, aint, roV, pair, bind, Option.bind, acall, Sx, n0, q0, q1, Qx, Hx, c1] | skip); with_reducible rfl)))))
    refine FQ.mod (h1 := g') (x := .bool false) rfl rfl (by simp +decide only [awant, ayield_get, oper1, aop, opv, opvs, opvo, opvp, abuiltin, aun, Gx, abin, isShift, aint, roV, pair, bind, Option.bind, acall, Sx, n0, q0, Qx, Hx, ck]) ?_
    (iterate 1 (first | ((apply FQ.pure rfl rfl); (focus ((first | simp +decide only [awant, ayield_get, oper1, aop, opv, opvs, opvo, opvp, abuiltin, aun, Gx, abin, isShift, aint, roV, pair, bind, Option.bind, acall, Sx, n0, q0] | skip); with_reducible rfl))) | ((apply FQ.new rfl rfl); (focus ((first | simp +decide only [awant, ayield_get, oper1, aop, opv, opvs, opvo, opvp, abuiltin, aun, Gx, abin, isShift, aint, roV, pair, bind, Option.bind, acall, Sx, n0, q0] | skip); with_reducible rfl)))))
    refine FQ.nil ⟨?_, ?_⟩
    · exact allMeet_but0 [8] 10 rfl rfl (by kernel_rfl)
    refine Wc.ret ?_
    show (Ex.ret = .normal ∨ Ex.ret = .ret) ∧ _
    refine done_q (v := .bool false) (.inr rfl) (by simp +decide only [Gx, Sx, d0]) rfl (by simp +decide only [Gx, Sx, n0]) ⟨m', .inl ⟨h1, rfl, b'.back⟩⟩
  · have e1 : decide ((level : Int) > 250) = false := by simp; omega
    by_cases h2 : items = 5000
    · have e2 : decide ((items : Int) = 5000) = true := by simp; omega
      obtain ⟨nf, g', ck, m, b'⟩ := fail81 (E := E) (I := I) (fun args h => hI _ args h (.inr rfl)) f.fresh (show Src k bs pos 0 items (fresh g) from b) 2 pos
      obtain ⟨m', _, hn, hl⟩ := Mod.back f m
      repeat' (first | (with_reducible apply Wc.seq) | (apply Wc.ops; (focus ((repeat' (first | with_reducible exact RO.nil | ((with_reducible apply RO.run (awant_none rfl)); (focus ((first | simp +decide only [awant, ayield_get, oper1, aop, opv, opvs, opvo, opvp, abuiltin, aun, Gx, abin, isShift, aint, roV, pair, bind, Option.bind, acall, Sx, n0, q0, q1, Qx, Hx, e1, e2, c3] | skip); with_reducible rfl))))); done))) | (refine Wc.cond2 (by simp +decide only [opv, Gx, Sx, n0, q0, q1, Qx, Hx, e1, e2, c3]; try with_reducible rfl) (fun hb => ?_) (fun hb => ?_) <;> try contradiction) | refine Wc.skip ?_ | refine Wc.ret ?_ | refine Wc.exit ?_ | refine Wc.block ?_)
      refine Wc.drawQ nf (by kernel_rfl) ?_
      (iterate 8 (first | ((apply FQ.pure rfl rfl); (focus ((first | simp +decide only [awant, ayield_get, oper1, aop, opv, opvs, opvo, opvp, abuiltin, aun, Gx, abin, isShift, aint, roV, pair, bind, Option.bind, acall, Sx, n0, q0, q1, Qx, Hx, c1] | skip); with_reducible rfl))) | ((apply FQ.new rfl rfl); (focus ((first | simp +decide only [awant, ayield_get, oper1, aop, opv, opvs, opvo, opvp, abuiltin, aun, Gx, abin, isShift, aint, roV, pair, bind, Option.bind, acall, Sx, n0, q0, q1, Qx, Hx, c1] | skip); with_reducible rfl)))))
      refine FQ.mod (h1 := g') (x := .bool false) rfl rfl (by simp +decide only [awant, ayield_get, oper1, aop, opv, opvs, opvo, opvp, abuiltin, aun, Gx, abin, isShift, aint, roV, pair, bind, Option.bind, acall, Sx, n0, q0, Qx, Hx, ck]) ?_
      (iterate 1 (first | ((apply FQ.pure rfl rfl); (focus ((first | simp +decide only [awant, ayield_get, oper1, aop, opv, opvs, opvo, opvp, abuiltin, aun, Gx, abin, isShift, aint, roV, pair, bind, Option.bind, acall, Sx, n0, q0] | skip); with_reducible rfl))) | ((apply FQ.new rfl rfl); (focus ((first | simp +decide only [awant, ayield_get, oper1, aop, opv, opvs, opvo, opvp, abuiltin, aun, Gx, abin, isShift, aint, roV, pair, bind, Option.bind, acall, Sx, n0, q0] | skip); with_reducible rfl)))))
      refine FQ.nil ⟨?_, ?_⟩
      · exact allMeet_but0 [8] 10 rfl rfl (by kernel_rfl)
      refine Wc.ret ?_
      show (Ex.ret = .normal ∨ Ex.ret = .ret) ∧ _
      refine done_q (v := .bool false) (.inr rfl) (by simp +decide only [Gx, Sx, d0]) rfl (by simp +decide only [Gx, Sx, n0]) ⟨m', .inr (.inl ⟨by omega, h2, rfl, b'.back⟩)⟩
    · have e2 : decide ((items : Int) = 5000) = false := by simp; omega
      have w1 : IntKind.i64.wrap ((items : Int) + 1) = ((items + 1 : Nat) : Int) := wrap64 (by omega) (by omega)
      obtain ⟨s1, b1⟩ := b.num (items + 1)
      have m1 := (Mod.refl (M := fun j => j = k) f).setl (B := .cells [.string ⟨⟨bs⟩⟩, .int .i64 (pos : Nat), .int .i64 0, .int .i64 (items + 1 : Nat)] 86 none) rfl rfl kl
      repeat' (first | (with_reducible apply Wc.seq) | (apply Wc.ops; (focus ((repeat' (first | with_reducible exact RO.nil | ((with_reducible apply RO.run (awant_none rfl)); (focus ((first | simp +decide only [awant, ayield_get, oper1, aop, opv, opvs, opvo, opvp, abuiltin, aun, Gx, abin, isShift, aint, roV, pair, bind, Option.bind, acall, Sx, n0, q0, q1, Qx, Hx, e1, e2, c3, w1, s1] | skip); with_reducible rfl))))); done))) | (refine Wc.cond2 (by simp +decide only [opv, Gx, Sx, n0, q0, q1, Qx, Hx, e1, e2, c3, w1, s1]; try with_reducible rfl) (fun hb => ?_) (fun hb => ?_) <;> try contradiction) | refine Wc.skip ?_ | refine Wc.ret ?_ | refine Wc.exit ?_ | refine Wc.block ?_)
      refine done_q (v := .bool true) (.inr rfl) (by simp +decide only [Gx, Sx, d0]) rfl (by simp +decide only [Gx, Sx, n0]) ⟨m1, .inr (.inr ⟨by omega, by omega, rfl, b1⟩)⟩
end Go.Proofs.YtofijpbmbmbnhaaDoor
/- The program's reader: numbers. -/
set_option maxRecDepth 100000
set_option maxHeartbeats 8000000
namespace Go.Proofs.YtofijpbmbmbnhaaDoor
open Go Go.Hs Go.Proofs
variable {E : Env} {I : Known}
noncomputable def loop118 : Code := loopOf Tryd.f118
theorem qix9 {bs : List UInt8} {p : Nat} {c : UInt8} (h : bs[p]? = some c) : aindex tab 9 (.string ⟨⟨bs⟩⟩) (.int .i64 (p : Nat)) = some (.int .u8 (c.toNat : Nat)) := by
  have hp : p < bs.length := (List.getElem?_eq_some_iff.1 h).1
  have hi : inRange ((p : Nat) : Int) bs.length = true := by
    show Nat.blt p bs.length = true
    rw [Nat.blt_eq]; exact hp
  unfold aindex
  rw [qty9]
  simp only [hi, Int.toNat_natCast, h]
theorem qcv5_3 (n : Int) {h : H} : aconvert tab E 5 3 (.int .u8 n) h = some (.int .i64 (IntKind.i64.wrap n), h) := by unfold aconvert; simp only [qty5, qty3]
theorem done_r2 {D : Tab} {E : Env} {fn : Func} {A : Ac} {h : H} {t u : Tmp} {v x : Value} {ex : Ex} {Q : Value → H → Prop} (hex : ex = .normal ∨ ex = .ret) (hd : A.defers = []) (hr : fn.results = #[.tmp t, .tmp u]) (hv : A.get t = v) (hx : A.get u = x) (hq : Q (.tuple #[v, x]) h) :
    (ex = .normal ∨ ex = .ret) ∧ ∃ h2 v', takeAll A.defers h = some h2 ∧ ares D E fn A h2 = some v' ∧ Q v' h2 := by
  refine ⟨hex, h, _, ?_, ?_, hq⟩
  · rw [hd]; rfl
  · unfold ares
    rw [hr]
    simp only [aresL, ares1, hv, hx]
def NumQ (k : Nat) (bs : List UInt8) (r : Rd Nat) (v x : Value) (items : Nat) (g : H) : Prop := match r with
  | .ok m p it => v = .int .i64 (m : Nat) ∧ x = .bool true ∧ Src k bs p 0 it g
  | .bad p e => v = .int .i64 0 ∧ x = .bool false ∧ Src k bs p e items g
theorem num118 (hI : ∀ f args h, (f = 118 ∨ f = 81) → I f args h = none) {k : Nat} {bs : List UInt8} {pos items : Nat} {g : H} (f : Fit g) (b : Src k bs pos 0 items g) (hp : pos ≤ bs.length) (hl : bs.length ≤ 1000000) (least most : Nat) (hm : most ≤ 1099511627776) (hl1 : least ≤ 1) :
    ∃ n v g', (ev tab E I n).call 118 [.pointer (some (own k)), .int .i64 (least : Nat), .int .i64 (most : Nat)] g = some (v, g') ∧ (∃ u x, v = .tuple #[u, x] ∧ Mod (fun j => j = k) g g' ∧ NumQ k bs (rdN bs least most pos items) u x items g') := by
  have kl : k < g.next := f.lt b
  have key : ∀ (r i p nn : Nat) (A0 : Ac) (h : H), r = 6 - i → i ≤ 6 → nn < 128 ^ i → p ≤ bs.length → A0.n = 108 → A0.defers = [] → A0.get 0 = .pointer (some (own k)) → A0.get 1 = .int .i64 (least : Nat) → A0.get 2 = .int .i64 (most : Nat) → A0.get 8 = .int .i64 (pos : Nat) → A0.get 9 = .int .i64 (nn : Nat) → A0.get 17 = .int .i64 (i : Nat) → Mod (fun j => j = k) g h → Src k bs p 0 items h → rdN bs least most pos items = rdNum bs least most pos items r i p nn →
      Wc tab E I ⟨118, none⟩ (.loop loop118) A0 h (fun ex A' h' => A'.n = 108 ∧ A'.defers = [] ∧ Mod (fun j => j = k) g h' ∧ ((ex = .exit 0 ∧ A'.get 0 = .pointer (some (own k)) ∧ A'.get 8 = .int .i64 (pos : Nat) ∧ rdN bs least most pos items = .bad pos 3 ∧ ∃ p', Src k bs p' 0 items h') ∨ (ex = .ret ∧ NumQ k bs (rdN bs least most pos items) (A'.get 6) (A'.get 7) items h'))) := by
    intro r
    induction r with
    | zero =>
      intro i p nn A0 h hr hi hnn hpl n0 d0 q0 q1 q2 q8 q9 q17 M b he
      obtain rfl : i = 6 := by omega
      have e1 : decide (((6 : Nat) : Int) < 6) = false := by decide
      apply Wc.loop
      simp only [loop118, loopOf, firstLoop, Option.getD, Tryd.f118]
      repeat' (first | (with_reducible apply Wc.seq) | (apply Wc.ops; (focus ((repeat' (first | with_reducible exact RO.nil | ((with_reducible apply RO.run (awant_none rfl)); (focus ((first | simp +decide only [awant, ayield_get, oper1, aop, opv, opvs, opvo, opvp, abuiltin, aun, Gx, abin, isShift, aint, roV, pair, bind, Option.bind, acall, Sx, n0, q17, e1] | skip); with_reducible rfl))))); done))) | (refine Wc.cond2 (by simp +decide only [opv, Gx, Sx, n0, q17, e1]; try with_reducible rfl) (fun hb => ?_) (fun hb => ?_) <;> try contradiction) | refine Wc.skip ?_ | refine Wc.ret ?_ | refine Wc.exit ?_ | refine Wc.block ?_)
      refine ⟨by simp +decide only [Gx, Sx, n0], by simp +decide only [Gx, Sx, d0], M, .inl ⟨rfl, by simp +decide only [Gx, Sx, n0, q0], by simp +decide only [Gx, Sx, n0, q8], ?_, p, b⟩⟩
      rw [he, rdNum]
    | succ r ih =>
      intro i p nn A0 h hr hi hnn hpl n0 d0 q0 q1 q2 q8 q9 q17 M b he
      have hi6 : i < 6 := by omega
      have e1 : decide ((i : Int) < 6) = true := by simp; omega
      have fh := M.fit
      have kh : k < h.next := Nat.lt_of_lt_of_le kl M.next
      obtain ⟨c0, c1, c2, c3⟩ := b.at (E := E)
      apply Wc.loop
      simp only [loop118, loopOf, firstLoop, Option.getD, Tryd.f118]
      by_cases h1 : p = bs.length
      · -- the bytes end
        have e2 : decide ((p : Int) = (bs.length : Int)) = true := by simp; omega
        have hn : bs[p]? = none := by rw [List.getElem?_eq_none_iff]; omega
        rw [rdNum, hn] at he
        obtain ⟨nf, g', ck, m, b'⟩ := fail81 (E := E) (I := I) (fun args h => hI _ args h (.inr rfl)) fh.fresh (show Src k bs p 0 items (fresh h) from b) 4 p
        obtain ⟨m', _, hn, hl⟩ := Mod.back fh m
        repeat' (first | (with_reducible apply Wc.seq) | (apply Wc.ops; (focus ((repeat' (first | with_reducible exact RO.nil | ((with_reducible apply RO.run (awant_none rfl)); (focus ((first | simp +decide only [awant, ayield_get, oper1, aop, opv, opvs, opvo, opvp, abuiltin, aun, Gx, abin, isShift, aint, roV, pair, bind, Option.bind, acall, Sx, n0, q17, e1] | skip); with_reducible rfl))))); done))) | (refine Wc.cond2 (by simp +decide only [opv, Gx, Sx, n0, q17, e1]; try with_reducible rfl) (fun hb => ?_) (fun hb => ?_) <;> try contradiction) | refine Wc.skip ?_ | refine Wc.ret ?_ | refine Wc.exit ?_ | refine Wc.block ?_)
        refine Wc.drawC 1 (by kernel_rfl) ?_
        (iterate 12 (first | ((apply FC.pure rfl rfl); (focus ((first | simp +decide only [awant, ayield_get, oper1, aop, opv, opvs, opvo, opvp, abuiltin, aun, Gx, abin, isShift, aint, roV, pair, bind, Option.bind, acall, Sx, n0, q0, Qx, Hx, c0, c1, e2] | skip); with_reducible rfl))) | ((apply FC.new rfl rfl); (focus ((first | simp +decide only [awant, ayield_get, oper1, aop, opv, opvs, opvo, opvp, abuiltin, aun, Gx, abin, isShift, aint, roV, pair, bind, Option.bind, acall, Sx, n0, q0, Qx, Hx, c0, c1, e2] | skip); with_reducible rfl)))))
        refine FC.nil ?_
        repeat' (first | (with_reducible apply Wc.seq) | (apply Wc.ops; (focus ((repeat' (first | with_reducible exact RO.nil | ((with_reducible apply RO.run (awant_none rfl)); (focus ((first | simp +decide only [awant, ayield_get, oper1, aop, opv, opvs, opvo, opvp, abuiltin, aun, Gx, abin, isShift, aint, roV, pair, bind, Option.bind, acall, Sx, n0] | skip); with_reducible rfl))))); done))) | (refine Wc.cond2 (by simp +decide only [opv, Gx, Sx, n0]; try with_reducible rfl) (fun hb => ?_) (fun hb => ?_) <;> try contradiction) | refine Wc.skip ?_ | refine Wc.ret ?_ | refine Wc.exit ?_ | refine Wc.block ?_)
        refine Wc.drawQ nf (by kernel_rfl) ?_
        (iterate 8 (first | ((apply FQ.pure rfl rfl); (focus ((first | simp +decide only [awant, ayield_get, oper1, aop, opv, opvs, opvo, opvp, abuiltin, aun, Gx, abin, isShift, aint, roV, pair, bind, Option.bind, acall, Sx, n0, q0, q1, Qx, Hx, c1] | skip); with_reducible rfl))) | ((apply FQ.new rfl rfl); (focus ((first | simp +decide only [awant, ayield_get, oper1, aop, opv, opvs, opvo, opvp, abuiltin, aun, Gx, abin, isShift, aint, roV, pair, bind, Option.bind, acall, Sx, n0, q0, q1, Qx, Hx, c1] | skip); with_reducible rfl)))))
        refine FQ.mod (h1 := g') (x := .bool false) rfl rfl (by simp +decide only [awant, ayield_get, oper1, aop, opv, opvs, opvo, opvp, abuiltin, aun, Gx, abin, isShift, aint, roV, pair, bind, Option.bind, acall, Sx, n0, q0, Qx, Hx, ck]) ?_
        (iterate 2 (first | ((apply FQ.pure rfl rfl); (focus ((first | simp +decide only [awant, ayield_get, oper1, aop, opv, opvs, opvo, opvp, abuiltin, aun, Gx, abin, isShift, aint, roV, pair, bind, Option.bind, acall, Sx, n0, q0] | skip); with_reducible rfl))) | ((apply FQ.new rfl rfl); (focus ((first | simp +decide only [awant, ayield_get, oper1, aop, opv, opvs, opvo, opvp, abuiltin, aun, Gx, abin, isShift, aint, roV, pair, bind, Option.bind, acall, Sx, n0, q0] | skip); with_reducible rfl)))))
        refine FQ.nil ⟨?_, ?_⟩
        · exact allMeet_but0 [8] 11 rfl rfl (by kernel_rfl)
        refine Wc.ret ?_
        refine ⟨by simp +decide only [Gx, Sx, n0], by simp +decide only [Gx, Sx, d0], M.trans m', .inr ⟨rfl, ?_⟩⟩
        rw [he]
        exact ⟨by simp +decide only [Gx, Sx, n0], by simp +decide only [Gx, Sx, n0], b'.back⟩
      · have hlt : p < bs.length := by omega
        have e2 : decide ((p : Int) = (bs.length : Int)) = false := by simp; omega
        obtain ⟨c, hc⟩ : ∃ c, bs[p]? = some c := ⟨bs[p], List.getElem?_eq_getElem hlt⟩
        have hc8 : c.toNat < 256 := c.toNat_lt
        have ix := qix9 hc
        have a1 := and127 c.toNat hc8
        have w0 : IntKind.i64.wrap ((c.toNat % 128 : Nat) : Int) = ((c.toNat % 128 : Nat) : Int) := wrapN (by omega)
        have w1 : IntKind.i64.wrap ((p : Int) + 1) = ((p + 1 : Nat) : Int) := wrap64 (by omega) (by omega)
        have w2 : IntKind.i64.wrap (7 * (i : Int)) = ((7 * i : Nat) : Int) := wrap64 (by omega) (by omega)
        have w3 : IntKind.i64.wrap ((i : Int) + 1) = ((i + 1 : Nat) : Int) := wrap64 (by omega) (by omega)
        have sh := shl7 (c.toNat % 128) i (by omega) (by omega)
        have o1 := or7 nn (c.toNat % 128) i hnn (by omega) (by omega)
        have hnn' : nn + c.toNat % 128 * 128 ^ i < 128 ^ (i + 1) := by
          have : c.toNat % 128 * 128 ^ i ≤ 127 * 128 ^ i := Nat.mul_le_mul_right _ (by omega)
          rw [Nat.pow_succ]; omega
        rw [rdNum, hc] at he
        simp only [] at he
        generalize nn + c.toNat % 128 * 128 ^ i = n2 at o1 hnn' he
        obtain ⟨s1, b1⟩ := b.pos (p + 1)
        have m1 := (Mod.refl (M := fun j => j = k) fh).setl (B := .cells [.string ⟨⟨bs⟩⟩, .int .i64 (p + 1 : Nat), .int .i64 0, .int .i64 (items : Nat)] 86 none) rfl rfl kh
        generalize h.setl k (.cells [.string ⟨⟨bs⟩⟩, .int .i64 (p + 1 : Nat), .int .i64 0, .int .i64 (items : Nat)] 86 none) = h1 at s1 b1 m1
        have M1 := M.trans m1
        repeat' (first | (with_reducible apply Wc.seq) | (apply Wc.ops; (focus ((repeat' (first | with_reducible exact RO.nil | ((with_reducible apply RO.run (awant_none rfl)); (focus ((first | simp +decide only [awant, ayield_get, oper1, aop, opv, opvs, opvo, opvp, abuiltin, aun, Gx, abin, isShift, aint, roV, pair, bind, Option.bind, acall, Sx, n0, q17, e1] | skip); with_reducible rfl))))); done))) | (refine Wc.cond2 (by simp +decide only [opv, Gx, Sx, n0, q17, e1]; try with_reducible rfl) (fun hb => ?_) (fun hb => ?_) <;> try contradiction) | refine Wc.skip ?_ | refine Wc.ret ?_ | refine Wc.exit ?_ | refine Wc.block ?_)
        refine Wc.drawC 1 (by kernel_rfl) ?_
        (iterate 12 (first | ((apply FC.pure rfl rfl); (focus ((first | simp +decide only [awant, ayield_get, oper1, aop, opv, opvs, opvo, opvp, abuiltin, aun, Gx, abin, isShift, aint, roV, pair, bind, Option.bind, acall, Sx, n0, q0, Qx, Hx, c0, c1, e2] | skip); with_reducible rfl))) | ((apply FC.new rfl rfl); (focus ((first | simp +decide only [awant, ayield_get, oper1, aop, opv, opvs, opvo, opvp, abuiltin, aun, Gx, abin, isShift, aint, roV, pair, bind, Option.bind, acall, Sx, n0, q0, Qx, Hx, c0, c1, e2] | skip); with_reducible rfl)))))
        refine FC.nil ?_
        repeat' (first | (with_reducible apply Wc.seq) | (apply Wc.ops; (focus ((repeat' (first | with_reducible exact RO.nil | ((with_reducible apply RO.run (awant_none rfl)); (focus ((first | simp +decide only [awant, ayield_get, oper1, aop, opv, opvs, opvo, opvp, abuiltin, aun, Gx, abin, isShift, aint, roV, pair, bind, Option.bind, acall, Sx, n0] | skip); with_reducible rfl))))); done))) | (refine Wc.cond2 (by simp +decide only [opv, Gx, Sx, n0]; try with_reducible rfl) (fun hb => ?_) (fun hb => ?_) <;> try contradiction) | refine Wc.skip ?_ | refine Wc.ret ?_ | refine Wc.exit ?_ | refine Wc.block ?_)
        refine Wc.drawC 1 (by kernel_rfl) ?_
        (iterate 12 (first | ((apply FC.pure rfl rfl); (focus ((first | simp +decide only [awant, ayield_get, oper1, aop, opv, opvs, opvo, opvp, abuiltin, aun, Gx, abin, isShift, aint, roV, pair, bind, Option.bind, acall, Sx, n0, q0, Qx, Hx, c0, c1, ix] | skip); with_reducible rfl))) | ((apply FC.new rfl rfl); (focus ((first | simp +decide only [awant, ayield_get, oper1, aop, opv, opvs, opvo, opvp, abuiltin, aun, Gx, abin, isShift, aint, roV, pair, bind, Option.bind, acall, Sx, n0, q0, Qx, Hx, c0, c1, ix] | skip); with_reducible rfl)))))
        refine FC.nil ?_
        by_cases h2 : 128 ≤ c.toNat
        · have e3 : decide ((c.toNat : Int) > 127) = true := by simp; omega
          rw [if_pos h2] at he
          repeat' (first | (with_reducible apply Wc.seq) | (apply Wc.ops; (focus ((repeat' (first | with_reducible exact RO.nil | ((with_reducible apply RO.run (awant_none rfl)); (focus ((first | simp +decide only [awant, ayield_get, oper1, aop, opv, opvs, opvo, opvp, abuiltin, aun, Gx, abin, isShift, aint, roV, pair, bind, Option.bind, acall, Sx, n0, q0, q9, q17, Qx, Hx, c1, w1, s1, a1, qcv5_3, w0, w2, sh, o1, e3, w3] | skip); with_reducible rfl))))); done))) | (refine Wc.cond2 (by simp +decide only [opv, Gx, Sx, n0, q0, q9, q17, Qx, Hx, c1, w1, s1, a1, qcv5_3, w0, w2, sh, o1, e3, w3]; try with_reducible rfl) (fun hb => ?_) (fun hb => ?_) <;> try contradiction) | refine Wc.skip ?_ | refine Wc.ret ?_ | refine Wc.exit ?_ | refine Wc.block ?_)
          refine (ih (i + 1) (p + 1) n2 _ h1 (by omega) (by omega) hnn' (by omega) ?_ ?_ ?_ ?_ ?_ ?_ ?_ ?_ M1 b1 he)
          · simp +decide only [Gx, Sx, n0]
          · simp +decide only [Gx, Sx, d0]
          · simp +decide only [Gx, Sx, n0, q0]
          · simp +decide only [Gx, Sx, n0, q1]
          · simp +decide only [Gx, Sx, n0, q2]
          · simp +decide only [Gx, Sx, n0, q8]
          · simp +decide only [Gx, Sx, n0]
          · simp +decide only [Gx, Sx, n0]
        · have e3 : decide ((c.toNat : Int) > 127) = false := by simp; omega
          rw [if_neg h2] at he
          repeat' (first | (with_reducible apply Wc.seq) | (apply Wc.ops; (focus ((repeat' (first | with_reducible exact RO.nil | ((with_reducible apply RO.run (awant_none rfl)); (focus ((first | simp +decide only [awant, ayield_get, oper1, aop, opv, opvs, opvo, opvp, abuiltin, aun, Gx, abin, isShift, aint, roV, pair, bind, Option.bind, acall, Sx, n0, q0, q9, q17, Qx, Hx, c1, w1, s1, a1, qcv5_3, w0, w2, sh, o1, e3, w3] | skip); with_reducible rfl))))); done))) | (refine Wc.cond2 (by simp +decide only [opv, Gx, Sx, n0, q0, q9, q17, Qx, Hx, c1, w1, s1, a1, qcv5_3, w0, w2, sh, o1, e3, w3]; try with_reducible rfl) (fun hb => ?_) (fun hb => ?_) <;> try contradiction) | refine Wc.skip ?_ | refine Wc.ret ?_ | refine Wc.exit ?_ | refine Wc.block ?_)
          refine Wc.forget (fun A => A.n = 108 ∧ A.defers = [] ∧ A.get 0 = .pointer (some (own k)) ∧ A.get 1 = .int .i64 (least : Nat) ∧ A.get 2 = .int .i64 (most : Nat) ∧ A.get 8 = .int .i64 (pos : Nat) ∧ A.get 9 = .int .i64 (n2 : Nat) ∧ A.get 10 = .int .i64 (i : Nat) ∧ A.get 11 = .int .u8 (c.toNat : Nat)) ⟨by simp +decide only [Gx, Sx, n0], by simp +decide only [Gx, Sx, d0], by first | (simp +decide only [Gx, Sx, n0, q0, q1, q2, q8, q9]; done) | (simp +decide only [Gx, Sx, n0, q0, q1, q2, q8, q9]; rfl), by first | (simp +decide only [Gx, Sx, n0, q0, q1, q2, q8, q9]; done) | (simp +decide only [Gx, Sx, n0, q0, q1, q2, q8, q9]; rfl), by first | (simp +decide only [Gx, Sx, n0, q0, q1, q2, q8, q9]; done) | (simp +decide only [Gx, Sx, n0, q0, q1, q2, q8, q9]; rfl), by first | (simp +decide only [Gx, Sx, n0, q0, q1, q2, q8, q9]; done) | (simp +decide only [Gx, Sx, n0, q0, q1, q2, q8, q9]; rfl), by first | (simp +decide only [Gx, Sx, n0, q0, q1, q2, q8, q9]; done) | (simp +decide only [Gx, Sx, n0, q0, q1, q2, q8, q9]; rfl), by first | (simp +decide only [Gx, Sx, n0, q0, q1, q2, q8, q9]; done) | (simp +decide only [Gx, Sx, n0, q0, q1, q2, q8, q9]; rfl), by first | (simp +decide only [Gx, Sx, n0, q0, q1, q2, q8, q9]; done) | (simp +decide only [Gx, Sx, n0, q0, q1, q2, q8, q9]; rfl)⟩ ?_
          rintro A0 ⟨n0, d0, q0, q1, q2, q8, q9, q10, q11⟩
          have bad : ∀ (e : Int), ∃ nf g', (ev tab E I nf).call 81 [.pointer (some (own k)), .int .i64 e, .int .i64 (pos : Nat)] h1 = some (.bool false, g') ∧ Mod (fun j => j = k) g g' ∧ Src k bs pos e items g' := fun e => by
            obtain ⟨nf, g', ck, m, b'⟩ := fail81 (E := E) (I := I) (fun args h => hI _ args h (.inr rfl)) M1.fit b1 e pos
            exact ⟨nf, g', ck, M1.trans m, b'⟩
          by_cases h3 : c.toNat = 0 ∧ 0 < i
          · rw [if_pos h3] at he
            have e4 : decide ((c.toNat : Int) = 0) = true := by simp; omega
            have e5 : decide ((i : Int) > 0) = true := by simp; omega
            obtain ⟨nf, g', ck, M', b'⟩ := bad 4
            repeat' (first | (with_reducible apply Wc.seq) | (apply Wc.opsN nf; (focus ((repeat' (first | with_reducible exact RO.nil | ((with_reducible apply RO.run (awant_none rfl)); (focus ((first | simp +decide only [awant, ayield_get, oper1, aop, opv, opvs, opvo, opvp, abuiltin, aun, Gx, abin, isShift, aint, roV, pair, bind, Option.bind, acall, Sx, n0, q0, q1, q2, q8, q9, q10, q11, Qx, Hx, e4, e5, ck] | skip); with_reducible rfl))) | ((with_reducible apply RO.runG); (focus rfl); (focus rfl); (focus (simp +decide only [Gx, Sx, decide_true, decide_false, n0, q0, q1, q2, q8, q9, q10, q11, Qx, Hx, e4, e5, ck]; done)); (focus ((first | simp +decide only [awant, ayield_get, oper1, aop, opv, opvs, opvo, opvp, abuiltin, aun, Gx, abin, isShift, aint, roV, pair, bind, Option.bind, acall, Sx, n0, q0, q1, q2, q8, q9, q10, q11, Qx, Hx, e4, e5, ck] | skip); with_reducible rfl))) | ((with_reducible apply RO.skipG); (focus rfl); (focus rfl); (focus (simp +decide only [Gx, Sx, decide_true, decide_false, n0, q0, q1, q2, q8, q9, q10, q11, Qx, Hx, e4, e5, ck]; done))))); done))) | (refine Wc.quiet (by kernel_rfl) (by repeat' (first | with_reducible exact QO.nil | ((with_reducible apply QO.cons rfl rfl); (focus ((first | simp +decide only [awant, ayield_get, oper1, aop, opv, opvs, opvo, opvp, abuiltin, aun, Gx, abin, isShift, aint, roV, pair, bind, Option.bind, acall, Sx, n0, q0, q1, q2, q8, q9, q10, q11, Qx, Hx, e4, e5, ck] | skip); with_reducible rfl))))) ?_) | (refine Wc.cond2 (by simp +decide only [opv, Gx, Sx, n0, q0, q1, q2, q8, q9, q10, q11, Qx, Hx, e4, e5, ck]; try with_reducible rfl) (fun hb => ?_) (fun hb => ?_) <;> try contradiction) | refine Wc.skip ?_ | refine Wc.ret ?_ | refine Wc.exit ?_ | refine Wc.block ?_)
            refine ⟨by simp +decide only [Gx, Sx, n0], by simp +decide only [Gx, Sx, d0], M', .inr ⟨rfl, ?_⟩⟩
            rw [he]
            exact ⟨by simp +decide only [Gx, Sx, n0], by simp +decide only [Gx, Sx, n0], b'⟩
          · rw [if_neg h3] at he
            by_cases h6 : c.toNat = 0
            · have e4 : decide ((c.toNat : Int) = 0) = true := by simp; omega
              have e5 : decide ((i : Int) > 0) = false := by simp; omega
              by_cases h4 : most < n2
              · rw [if_pos h4] at he
                have e6 : decide ((n2 : Int) > (most : Int)) = true := by simp; omega
                obtain ⟨nf, g', ck, M', b'⟩ := bad 3
                repeat' (first | (with_reducible apply Wc.seq) | (apply Wc.opsN nf; (focus ((repeat' (first | with_reducible exact RO.nil | ((with_reducible apply RO.run (awant_none rfl)); (focus ((first | simp +decide only [awant, ayield_get, oper1, aop, opv, opvs, opvo, opvp, abuiltin, aun, Gx, abin, isShift, aint, roV, pair, bind, Option.bind, acall, Sx, n0, q0, q1, q2, q8, q9, q10, q11, Qx, Hx, e4, e5, e6, ck] | skip); with_reducible rfl))) | ((with_reducible apply RO.runG); (focus rfl); (focus rfl); (focus (simp +decide only [Gx, Sx, decide_true, decide_false, n0, q0, q1, q2, q8, q9, q10, q11, Qx, Hx, e4, e5, e6, ck]; done)); (focus ((first | simp +decide only [awant, ayield_get, oper1, aop, opv, opvs, opvo, opvp, abuiltin, aun, Gx, abin, isShift, aint, roV, pair, bind, Option.bind, acall, Sx, n0, q0, q1, q2, q8, q9, q10, q11, Qx, Hx, e4, e5, e6, ck] | skip); with_reducible rfl))) | ((with_reducible apply RO.skipG); (focus rfl); (focus rfl); (focus (simp +decide only [Gx, Sx, decide_true, decide_false, n0, q0, q1, q2, q8, q9, q10, q11, Qx, Hx, e4, e5, e6, ck]; done))))); done))) | (refine Wc.quiet (by kernel_rfl) (by repeat' (first | with_reducible exact QO.nil | ((with_reducible apply QO.cons rfl rfl); (focus ((first | simp +decide only [awant, ayield_get, oper1, aop, opv, opvs, opvo, opvp, abuiltin, aun, Gx, abin, isShift, aint, roV, pair, bind, Option.bind, acall, Sx, n0, q0, q1, q2, q8, q9, q10, q11, Qx, Hx, e4, e5, e6, ck] | skip); with_reducible rfl))))) ?_) | (refine Wc.cond2 (by simp +decide only [opv, Gx, Sx, n0, q0, q1, q2, q8, q9, q10, q11, Qx, Hx, e4, e5, e6, ck]; try with_reducible rfl) (fun hb => ?_) (fun hb => ?_) <;> try contradiction) | refine Wc.skip ?_ | refine Wc.ret ?_ | refine Wc.exit ?_ | refine Wc.block ?_)
                refine ⟨by simp +decide only [Gx, Sx, n0], by simp +decide only [Gx, Sx, d0], M', .inr ⟨rfl, ?_⟩⟩
                rw [he]
                exact ⟨by simp +decide only [Gx, Sx, n0], by simp +decide only [Gx, Sx, n0], b'⟩
              · rw [if_neg h4] at he
                have e6 : decide ((n2 : Int) > (most : Int)) = false := by simp; omega
                by_cases h5 : n2 < least
                · rw [if_pos h5] at he
                  have e7 : decide ((n2 : Int) < (least : Int)) = true := by simp; omega
                  obtain ⟨nf, g', ck, M', b'⟩ := bad 4
                  repeat' (first | (with_reducible apply Wc.seq) | (apply Wc.opsN nf; (focus ((repeat' (first | with_reducible exact RO.nil | ((with_reducible apply RO.run (awant_none rfl)); (focus ((first | simp +decide only [awant, ayield_get, oper1, aop, opv, opvs, opvo, opvp, abuiltin, aun, Gx, abin, isShift, aint, roV, pair, bind, Option.bind, acall, Sx, n0, q0, q1, q2, q8, q9, q10, q11, Qx, Hx, e4, e5, e6, e7, ck] | skip); with_reducible rfl))) | ((with_reducible apply RO.runG); (focus rfl); (focus rfl); (focus (simp +decide only [Gx, Sx, decide_true, decide_false, n0, q0, q1, q2, q8, q9, q10, q11, Qx, Hx, e4, e5, e6, e7, ck]; done)); (focus ((first | simp +decide only [awant, ayield_get, oper1, aop, opv, opvs, opvo, opvp, abuiltin, aun, Gx, abin, isShift, aint, roV, pair, bind, Option.bind, acall, Sx, n0, q0, q1, q2, q8, q9, q10, q11, Qx, Hx, e4, e5, e6, e7, ck] | skip); with_reducible rfl))) | ((with_reducible apply RO.skipG); (focus rfl); (focus rfl); (focus (simp +decide only [Gx, Sx, decide_true, decide_false, n0, q0, q1, q2, q8, q9, q10, q11, Qx, Hx, e4, e5, e6, e7, ck]; done))))); done))) | (refine Wc.quiet (by kernel_rfl) (by repeat' (first | with_reducible exact QO.nil | ((with_reducible apply QO.cons rfl rfl); (focus ((first | simp +decide only [awant, ayield_get, oper1, aop, opv, opvs, opvo, opvp, abuiltin, aun, Gx, abin, isShift, aint, roV, pair, bind, Option.bind, acall, Sx, n0, q0, q1, q2, q8, q9, q10, q11, Qx, Hx, e4, e5, e6, e7, ck] | skip); with_reducible rfl))))) ?_) | (refine Wc.cond2 (by simp +decide only [opv, Gx, Sx, n0, q0, q1, q2, q8, q9, q10, q11, Qx, Hx, e4, e5, e6, e7, ck]; try with_reducible rfl) (fun hb => ?_) (fun hb => ?_) <;> try contradiction) | refine Wc.skip ?_ | refine Wc.ret ?_ | refine Wc.exit ?_ | refine Wc.block ?_)
                  refine ⟨by simp +decide only [Gx, Sx, n0], by simp +decide only [Gx, Sx, d0], M', .inr ⟨rfl, ?_⟩⟩
                  rw [he]
                  exact ⟨by simp +decide only [Gx, Sx, n0], by simp +decide only [Gx, Sx, n0], b'⟩
                · rw [if_neg h5] at he
                  have e7 : decide ((n2 : Int) < (least : Int)) = false := by simp; omega
                  repeat' (first | (with_reducible apply Wc.seq) | (apply Wc.ops; (focus ((repeat' (first | with_reducible exact RO.nil | ((with_reducible apply RO.run (awant_none rfl)); (focus ((first | simp +decide only [awant, ayield_get, oper1, aop, opv, opvs, opvo, opvp, abuiltin, aun, Gx, abin, isShift, aint, roV, pair, bind, Option.bind, acall, Sx, n0, q0, q1, q2, q8, q9, q10, q11, Qx, Hx, e4, e5, e6, e7] | skip); with_reducible rfl))) | ((with_reducible apply RO.runG); (focus rfl); (focus rfl); (focus (simp +decide only [Gx, Sx, decide_true, decide_false, n0, q0, q1, q2, q8, q9, q10, q11, Qx, Hx, e4, e5, e6, e7]; done)); (focus ((first | simp +decide only [awant, ayield_get, oper1, aop, opv, opvs, opvo, opvp, abuiltin, aun, Gx, abin, isShift, aint, roV, pair, bind, Option.bind, acall, Sx, n0, q0, q1, q2, q8, q9, q10, q11, Qx, Hx, e4, e5, e6, e7] | skip); with_reducible rfl))) | ((with_reducible apply RO.skipG); (focus rfl); (focus rfl); (focus (simp +decide only [Gx, Sx, decide_true, decide_false, n0, q0, q1, q2, q8, q9, q10, q11, Qx, Hx, e4, e5, e6, e7]; done))))); done))) | (refine Wc.quiet (by kernel_rfl) (by repeat' (first | with_reducible exact QO.nil | ((with_reducible apply QO.cons rfl rfl); (focus ((first | simp +decide only [awant, ayield_get, oper1, aop, opv, opvs, opvo, opvp, abuiltin, aun, Gx, abin, isShift, aint, roV, pair, bind, Option.bind, acall, Sx, n0, q0, q1, q2, q8, q9, q10, q11, Qx, Hx, e4, e5, e6, e7] | skip); with_reducible rfl))))) ?_) | (refine Wc.cond2 (by simp +decide only [opv, Gx, Sx, n0, q0, q1, q2, q8, q9, q10, q11, Qx, Hx, e4, e5, e6, e7]; try with_reducible rfl) (fun hb => ?_) (fun hb => ?_) <;> try contradiction) | refine Wc.skip ?_ | refine Wc.ret ?_ | refine Wc.exit ?_ | refine Wc.block ?_)
                  refine ⟨by simp +decide only [Gx, Sx, n0], by simp +decide only [Gx, Sx, d0], M1, .inr ⟨rfl, ?_⟩⟩
                  rw [he]
                  exact ⟨by simp +decide only [Gx, Sx, n0], by simp +decide only [Gx, Sx, n0], b1⟩
            · have e4 : decide ((c.toNat : Int) = 0) = false := by simp; omega
              have e5 := e4
              by_cases h4 : most < n2
              · rw [if_pos h4] at he
                have e6 : decide ((n2 : Int) > (most : Int)) = true := by simp; omega
                obtain ⟨nf, g', ck, M', b'⟩ := bad 3
                repeat' (first | (with_reducible apply Wc.seq) | (apply Wc.opsN nf; (focus ((repeat' (first | with_reducible exact RO.nil | ((with_reducible apply RO.run (awant_none rfl)); (focus ((first | simp +decide only [awant, ayield_get, oper1, aop, opv, opvs, opvo, opvp, abuiltin, aun, Gx, abin, isShift, aint, roV, pair, bind, Option.bind, acall, Sx, n0, q0, q1, q2, q8, q9, q10, q11, Qx, Hx, e4, e5, e6, ck] | skip); with_reducible rfl))) | ((with_reducible apply RO.runG); (focus rfl); (focus rfl); (focus (simp +decide only [Gx, Sx, decide_true, decide_false, n0, q0, q1, q2, q8, q9, q10, q11, Qx, Hx, e4, e5, e6, ck]; done)); (focus ((first | simp +decide only [awant, ayield_get, oper1, aop, opv, opvs, opvo, opvp, abuiltin, aun, Gx, abin, isShift, aint, roV, pair, bind, Option.bind, acall, Sx, n0, q0, q1, q2, q8, q9, q10, q11, Qx, Hx, e4, e5, e6, ck] | skip); with_reducible rfl))) | ((with_reducible apply RO.skipG); (focus rfl); (focus rfl); (focus (simp +decide only [Gx, Sx, decide_true, decide_false, n0, q0, q1, q2, q8, q9, q10, q11, Qx, Hx, e4, e5, e6, ck]; done))))); done))) | (refine Wc.quiet (by kernel_rfl) (by repeat' (first | with_reducible exact QO.nil | ((with_reducible apply QO.cons rfl rfl); (focus ((first | simp +decide only [awant, ayield_get, oper1, aop, opv, opvs, opvo, opvp, abuiltin, aun, Gx, abin, isShift, aint, roV, pair, bind, Option.bind, acall, Sx, n0, q0, q1, q2, q8, q9, q10, q11, Qx, Hx, e4, e5, e6, ck] | skip); with_reducible rfl))))) ?_) | (refine Wc.cond2 (by simp +decide only [opv, Gx, Sx, n0, q0, q1, q2, q8, q9, q10, q11, Qx, Hx, e4, e5, e6, ck]; try with_reducible rfl) (fun hb => ?_) (fun hb => ?_) <;> try contradiction) | refine Wc.skip ?_ | refine Wc.ret ?_ | refine Wc.exit ?_ | refine Wc.block ?_)
                refine ⟨by simp +decide only [Gx, Sx, n0], by simp +decide only [Gx, Sx, d0], M', .inr ⟨rfl, ?_⟩⟩
                rw [he]
                exact ⟨by simp +decide only [Gx, Sx, n0], by simp +decide only [Gx, Sx, n0], b'⟩
              · rw [if_neg h4] at he
                have e6 : decide ((n2 : Int) > (most : Int)) = false := by simp; omega
                by_cases h5 : n2 < least
                · rw [if_pos h5] at he
                  have e7 : decide ((n2 : Int) < (least : Int)) = true := by simp; omega
                  obtain ⟨nf, g', ck, M', b'⟩ := bad 4
                  repeat' (first | (with_reducible apply Wc.seq) | (apply Wc.opsN nf; (focus ((repeat' (first | with_reducible exact RO.nil | ((with_reducible apply RO.run (awant_none rfl)); (focus ((first | simp +decide only [awant, ayield_get, oper1, aop, opv, opvs, opvo, opvp, abuiltin, aun, Gx, abin, isShift, aint, roV, pair, bind, Option.bind, acall, Sx, n0, q0, q1, q2, q8, q9, q10, q11, Qx, Hx, e4, e5, e6, e7, ck] | skip); with_reducible rfl))) | ((with_reducible apply RO.runG); (focus rfl); (focus rfl); (focus (simp +decide only [Gx, Sx, decide_true, decide_false, n0, q0, q1, q2, q8, q9, q10, q11, Qx, Hx, e4, e5, e6, e7, ck]; done)); (focus ((first | simp +decide only [awant, ayield_get, oper1, aop, opv, opvs, opvo, opvp, abuiltin, aun, Gx, abin, isShift, aint, roV, pair, bind, Option.bind, acall, Sx, n0, q0, q1, q2, q8, q9, q10, q11, Qx, Hx, e4, e5, e6, e7, ck] | skip); with_reducible rfl))) | ((with_reducible apply RO.skipG); (focus rfl); (focus rfl); (focus (simp +decide only [Gx, Sx, decide_true, decide_false, n0, q0, q1, q2, q8, q9, q10, q11, Qx, Hx, e4, e5, e6, e7, ck]; done))))); done))) | (refine Wc.quiet (by kernel_rfl) (by repeat' (first | with_reducible exact QO.nil | ((with_reducible apply QO.cons rfl rfl); (focus ((first | simp +decide only [awant, ayield_get, oper1, aop, opv, opvs, opvo, opvp, abuiltin, aun, Gx, abin, isShift, aint, roV, pair, bind, Option.bind, acall, Sx, n0, q0, q1, q2, q8, q9, q10, q11, Qx, Hx, e4, e5, e6, e7, ck] | skip); with_reducible rfl))))) ?_) | (refine Wc.cond2 (by simp +decide only [opv, Gx, Sx, n0, q0, q1, q2, q8, q9, q10, q11, Qx, Hx, e4, e5, e6, e7, ck]; try with_reducible rfl) (fun hb => ?_) (fun hb => ?_) <;> try contradiction) | refine Wc.skip ?_ | refine Wc.ret ?_ | refine Wc.exit ?_ | refine Wc.block ?_)
                  refine ⟨by simp +decide only [Gx, Sx, n0], by simp +decide only [Gx, Sx, d0], M', .inr ⟨rfl, ?_⟩⟩
                  rw [he]
                  exact ⟨by simp +decide only [Gx, Sx, n0], by simp +decide only [Gx, Sx, n0], b'⟩
                · rw [if_neg h5] at he
                  have e7 : decide ((n2 : Int) < (least : Int)) = false := by simp; omega
                  repeat' (first | (with_reducible apply Wc.seq) | (apply Wc.ops; (focus ((repeat' (first | with_reducible exact RO.nil | ((with_reducible apply RO.run (awant_none rfl)); (focus ((first | simp +decide only [awant, ayield_get, oper1, aop, opv, opvs, opvo, opvp, abuiltin, aun, Gx, abin, isShift, aint, roV, pair, bind, Option.bind, acall, Sx, n0, q0, q1, q2, q8, q9, q10, q11, Qx, Hx, e4, e5, e6, e7] | skip); with_reducible rfl))) | ((with_reducible apply RO.runG); (focus rfl); (focus rfl); (focus (simp +decide only [Gx, Sx, decide_true, decide_false, n0, q0, q1, q2, q8, q9, q10, q11, Qx, Hx, e4, e5, e6, e7]; done)); (focus ((first | simp +decide only [awant, ayield_get, oper1, aop, opv, opvs, opvo, opvp, abuiltin, aun, Gx, abin, isShift, aint, roV, pair, bind, Option.bind, acall, Sx, n0, q0, q1, q2, q8, q9, q10, q11, Qx, Hx, e4, e5, e6, e7] | skip); with_reducible rfl))) | ((with_reducible apply RO.skipG); (focus rfl); (focus rfl); (focus (simp +decide only [Gx, Sx, decide_true, decide_false, n0, q0, q1, q2, q8, q9, q10, q11, Qx, Hx, e4, e5, e6, e7]; done))))); done))) | (refine Wc.quiet (by kernel_rfl) (by repeat' (first | with_reducible exact QO.nil | ((with_reducible apply QO.cons rfl rfl); (focus ((first | simp +decide only [awant, ayield_get, oper1, aop, opv, opvs, opvo, opvp, abuiltin, aun, Gx, abin, isShift, aint, roV, pair, bind, Option.bind, acall, Sx, n0, q0, q1, q2, q8, q9, q10, q11, Qx, Hx, e4, e5, e6, e7] | skip); with_reducible rfl))))) ?_) | (refine Wc.cond2 (by simp +decide only [opv, Gx, Sx, n0, q0, q1, q2, q8, q9, q10, q11, Qx, Hx, e4, e5, e6, e7]; try with_reducible rfl) (fun hb => ?_) (fun hb => ?_) <;> try contradiction) | refine Wc.skip ?_ | refine Wc.ret ?_ | refine Wc.exit ?_ | refine Wc.block ?_)
                  refine ⟨by simp +decide only [Gx, Sx, n0], by simp +decide only [Gx, Sx, d0], M1, .inr ⟨rfl, ?_⟩⟩
                  rw [he]
                  exact ⟨by simp +decide only [Gx, Sx, n0], by simp +decide only [Gx, Sx, n0], b1⟩
  refine Wc.call (hI _ _ _ (.inl rfl)) fn118 rfl ?_
  generalize hA0 : (⟨T.ofList [.pointer (some (own k)), .int .i64 (least : Nat), .int .i64 (most : Nat)] 0 .nil, max ([.pointer (some (own k)), .int .i64 (least : Nat), .int .i64 (most : Nat)] : List Value).length Tryd.f118.ntmps, []⟩ : Ac) = A0
  have n0 : A0.n = 108 := by rw [← hA0]; rfl
  have q0 : A0.get 0 = .pointer (some (own k)) := by rw [← hA0]; rfl
  have q1 : A0.get 1 = .int .i64 (least : Nat) := by rw [← hA0]; rfl
  have q2 : A0.get 2 = .int .i64 (most : Nat) := by rw [← hA0]; rfl
  have d0 : A0.defers = [] := by rw [← hA0]
  clear hA0
  obtain ⟨c0, c1, c2, c3⟩ := b.at (E := E)
  repeat' (first | (with_reducible apply Wc.seq) | (apply Wc.ops; (focus ((repeat' (first | with_reducible exact RO.nil | ((with_reducible apply RO.run (awant_none rfl)); (focus ((first | simp +decide only [awant, ayield_get, oper1, aop, opv, opvs, opvo, opvp, abuiltin, aun, Gx, abin, isShift, aint, roV, pair, bind, Option.bind, acall, Sx, n0, q0, q1, q2, Qx, Hx, c1] | skip); with_reducible rfl))))); done))) | (refine Wc.cond2 (by simp +decide only [opv, Gx, Sx, n0, q0, q1, q2, Qx, Hx, c1]; try with_reducible rfl) (fun hb => ?_) (fun hb => ?_) <;> try contradiction) | refine Wc.skip ?_ | refine Wc.ret ?_ | refine Wc.exit ?_ | refine Wc.block ?_)
  refine (key 6 0 pos 0 _ g rfl (by omega) (by decide) hp ?_ ?_ ?_ ?_ ?_ ?_ ?_ ?_ (Mod.refl f) b rfl).mono ?_
  · simp +decide only [Gx, Sx, n0]
  · simp +decide only [Gx, Sx, d0]
  · simp +decide only [Gx, Sx, n0, q0]
  · simp +decide only [Gx, Sx, n0, q1]
  · simp +decide only [Gx, Sx, n0, q2]
  · simp +decide only [Gx, Sx, n0]
  · simp +decide only [Gx, Sx, n0]
    rfl
  · simp +decide only [Gx, Sx, n0]
    rfl
  · rintro ex A0 h' ⟨n0, d0, M, ⟨rfl, q0, q8, he, p', b'⟩ | ⟨rfl, hq⟩⟩
    · obtain ⟨nf, g', ck, m, b2⟩ := fail81 (E := E) (I := I) (fun args h => hI _ args h (.inr rfl)) M.fit b' 3 pos
      simp only [if_true]
      repeat' (first | (with_reducible apply Wc.seq) | (apply Wc.opsN nf; (focus ((repeat' (first | with_reducible exact RO.nil | ((with_reducible apply RO.run (awant_none rfl)); (focus ((first | simp +decide only [awant, ayield_get, oper1, aop, opv, opvs, opvo, opvp, abuiltin, aun, Gx, abin, isShift, aint, roV, pair, bind, Option.bind, acall, Sx, n0, q0, q8, Qx, Hx, ck] | skip); with_reducible rfl))))); done))) | (refine Wc.cond2 (by simp +decide only [opv, Gx, Sx, n0, q0, q8, Qx, Hx, ck]; try with_reducible rfl) (fun hb => ?_) (fun hb => ?_) <;> try contradiction) | refine Wc.skip ?_ | refine Wc.ret ?_ | refine Wc.exit ?_ | refine Wc.block ?_)
      refine done_r2 (v := .int .i64 0) (x := .bool false) (.inr rfl) (by simp +decide only [Gx, Sx, d0]) rfl (by simp +decide only [Gx, Sx, n0]) (by simp +decide only [Gx, Sx, n0]) ⟨_, _, rfl, M.trans m, ?_⟩
      rw [he]
      exact ⟨rfl, rfl, b2⟩
    · exact done_r2 (.inr rfl) d0 rfl rfl rfl ⟨_, _, rfl, M, hq⟩
end Go.Proofs.YtofijpbmbmbnhaaDoor
