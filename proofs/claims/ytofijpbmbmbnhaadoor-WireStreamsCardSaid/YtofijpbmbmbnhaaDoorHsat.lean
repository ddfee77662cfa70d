/- The law on streams: its loop. -/
import Derived.Test.YtofijpbmbmbnhaaDoorHsas
set_option linter.unusedSimpArgs false
set_option linter.unusedVariables false
set_option maxRecDepth 100000
set_option maxHeartbeats 16000000
namespace Go.Proofs.YtofijpbmbmbnhaaDoor
open Go Go.Hs Go.Proofs
variable {E : Env} {I : Known}
structure Kn8 (E : Env) (K : Known) : Prop where
  out : ∀ f args h, f ∈ [8, 24, 59, 23, 58, 121, 94, 93, 95, 25, 60, 61, 96, 97, 122, 127, 37, 18, 56, 120, 119, 118, 117, 90, 82, 81, 22, 20, 38, 39, 40] → K f args h = none
  k11 : ∀ h, K 11 [] h = some (some (.bool true, h))
  kc : Chk E K
  k14 : Alk E K
theorem fn8 : tab.fn.get 8 = some Tryd.f8 := by kernel_rfl
noncomputable def loop8 : Code := loopOf Tryd.f8
theorem qbs53 (n : Int) {h : H} : abuildSlice tab 53 1 [(0, .int .i64 n)] h = some (.slice (some (own h.next)) 1 1, h.new (.cells [.int .i64 n] 3 none)) := by
  unfold abuildSlice
  simp only [qty53, qtz3]
  rfl
theorem qza53 (b : Option Addr) (n c : Nat) : zeroArg tab 53 (.slice b n c) = some false := by unfold zeroArg; rw [qty53]
theorem iszL_app (xs : List Hs.Item) (y : Hs.Item) : iszL (xs ++ [y]) = iszL xs + isz y := iszL_append xs y
theorem loop8_ok {K : Known} (k : Kn8 E K) {g0 : H} (f0 : Fit g0) {kS : Nat} {bv : Value} {bs0 : List Int} (hB0 : Bts (fun k => kS ≤ k) g0 bv bs0) (hbs : bs0.length ≤ 1000000) (m : Nat) (hm : m ≤ 5) (u : Value) :
    ∀ (r i : Nat) (ts : List Hs.Item) (s8 s9 s10 : Value) (a seed : Int) (A0 : Ac) (h : H), r = m - i → i ≤ m → ts.length = i → smlL ts → fineL ts → iszL ts ≤ 8 * i → A0.n = 126 → A0.defers = [] → A0.get 2 = u → A0.get 7 = .pointer (some (own kS)) → A0.get 8 = s8 → A0.get 9 = s9 → A0.get 10 = s10 → A0.get 27 = .int .i64 (m : Nat) → A0.get 28 = .int .i64 (i : Nat) →
      Mod (fun k => k = kS) g0 h → h.blk kS = some (.cells [bv, .int .i64 a, .int .u64 seed] 101 none) → 0 ≤ seed → seed < 18446744073709551616 → 0 ≤ a → a ≤ 168 * i → Tri E g0.next h.next h s8 ts s10 (encL ts) s9 (endsL ts) →
      Wc tab E K ⟨8, none⟩ (.loop loop8) A0 h (fun ex A' h' => ex = .exit 0 ∧ A'.n = 126 ∧ A'.defers = [] ∧ A'.get 2 = u ∧ ∃ ts s8 s9 s10, A'.get 8 = s8 ∧ A'.get 9 = s9 ∧ A'.get 10 = s10 ∧ ts.length ≤ 5 ∧ smlL ts ∧ fineL ts ∧ iszL ts ≤ 40 ∧ Mod (fun k => k = kS) g0 h' ∧ Tri E g0.next h'.next h' s8 ts s10 (encL ts) s9 (endsL ts)) := by
  intro r
  induction r with
  | zero =>
    intro i ts s8 s9 s10 a seed A0 h hr hi hti sm fi sz n0 d0 q2 q7 q8 q9 q10 q27 q28 M bS hs0 hs1 ha0 ha1 T
    have e1 : decide ((i : Int) < (m : Int)) = false := decide_eq_false (by omega)
    apply Wc.loop
    simp only [loop8, loopOf, firstLoop, Option.getD, Tryd.f8]
    repeat' (first | (with_reducible apply Wc.seq) | (apply Wc.ops; (focus ((repeat' (first | with_reducible exact RO.nil | ((with_reducible apply RO.run (awant_none rfl)); (focus ((first | simp +decide only [awant, ayield_get, oper1, aop, opv, opvs, opvo, opvp, abuiltin, aun, Ac.get_put, abin, isShift, aint, roV, pair, bind, Option.bind, acall, Sx, n0, q27, q28, e1] | skip); with_reducible rfl))))); done))) | (refine Wc.cond2 (by simp +decide only [opv, Ac.get_put, Sx, n0, q27, q28, e1]; try with_reducible rfl) (fun hb => ?_) (fun hb => ?_) <;> try contradiction) | refine Wc.skip ?_ | refine Wc.ret ?_ | refine Wc.exit ?_ | refine Wc.block ?_)
    exact ⟨rfl, by simp +decide only [Ac.get_put, Sx, n0], by simp +decide only [Ac.get_put, Sx, d0], by simp +decide only [Ac.get_put, Sx, n0, q2], ts, s8, s9, s10, by simp +decide only [Ac.get_put, Sx, n0, q8], by simp +decide only [Ac.get_put, Sx, n0, q9], by simp +decide only [Ac.get_put, Sx, n0, q10], by omega, sm, fi, by omega, M, T⟩
  | succ r ih =>
    intro i ts s8 s9 s10 a seed A0 h hr hi hti sm fi sz n0 d0 q2 q7 q8 q9 q10 q27 q28 M bS hs0 hs1 ha0 ha1 T
    have e1 : decide ((i : Int) < (m : Int)) = true := decide_eq_true (by omega)
    have w4 : IntKind.i64.wrap ((i : Int) + 1) = ((i + 1 : Nat) : Int) := wrap64 (by omega) (by omega)
    have fh := M.fit
    have nh := M.next
    have els := encL_short sm (by omega)
    have S : Sto (fun k => kS ≤ k) kS bv bs0 h a := ⟨seed, bS, hs0, hs1, hB0.mod M (fun k hk => Nat.le_of_eq hk.symm), ha0⟩
    obtain ⟨n1, v, h1, c1, t, m1, r1, smt, lv, szt, a', S', ha2, ha3⟩ := grown23 (E := E) (I := K) (fun f args h hf => k.out _ _ _ (by rcases hf with h | h | h | h | h | h <;> simp [h])) hbs 4 8 (by omega) (by omega) (by omega) (by omega) fh S
    have c1 : (ev tab E K n1).call 23 [.pointer (some (own kS)), .int .i64 8, .int .i64 4] h = some (v, h1) := c1
    obtain ⟨x0, x1, x2, x3, rfl, hone⟩ : ∃ a b c d, v = .agg ⟨[a, b, c, d]⟩ ∧ [a, b, c, d].all isOne = true := by
      obtain ⟨k', m', tx', ks'⟩ := t
      obtain ⟨sb', sc', rfl, _⟩ := rep_slice r1
      exact ⟨_, _, _, _, rfl, rfl⟩
    obtain ⟨seed', bS1, hs0', hs1', _, ha0'⟩ := S'
    have T1 := T.mod fh m1 (fun j B hj hB => by subst hj; rw [bS] at hB; cases hB; rfl)
    have ft : goodI t ∧ lvlI t ≤ 250 ∧ isz t ≤ 5000 := ⟨smt.good, by omega, by omega⟩
    have ets := encI_short smt (by omega)
    have t2 : Ahd h1 (h1.new (.cells (Value.agg #[.int .i64 0, .int .i64 0, .string ⟨#[]⟩, .slice none 0 0]).cells.toList 25 none)) := Ahd.new0 m1.fit rfl
    have b3 : (h1.new (.cells (Value.agg #[.int .i64 0, .int .i64 0, .string ⟨#[]⟩, .slice none 0 0]).cells.toList 25 none)).blk h1.next = some (.cells zeroL 25 none) := new_blk_new rfl
    have s3 := astore_all (ys := [x0, x1, x2, x3]) qty25 b3 rfl rfl hone (by simp)
    have t3 := t2.setl (k := h1.next) (B := .cells [x0, x1, x2, x3] 25 none) rfl (Nat.le_refl _) (t2.fit.lt b3) m1.fit
    have b3 := setl_same (h := h1.new (.cells (Value.agg #[.int .i64 0, .int .i64 0, .string ⟨#[]⟩, .slice none 0 0]).cells.toList 25 none)) (k := h1.next) (B := .cells [x0, x1, x2, x3] 25 none) rfl
    generalize hh2 : h1.new (.cells (Value.agg #[.int .i64 0, .int .i64 0, .string ⟨#[]⟩, .slice none 0 0]).cells.toList 25 none) = h2 at s3 t3 b3
    generalize h2.setl h1.next (.cells [x0, x1, x2, x3] 25 none) = h3 at s3 t3 b3
    have l3 : h3.cells E (own h1.next) 4 = some [x0, x1, x2, x3] := blk_cells b3 rfl hone
    have T3 := T1.mod m1.fit (t3.mod (M := fun _ => False)) (fun _ _ h => h.elim)
    have r3 := rep_grow (only_ahd (p := fun r => Nat.ble h.next r) (q := fun r => Nat.ble h.next r) m1.fit t3 (fun _ h => h)) r1
    obtain ⟨n2, _, h4, c2, vb, rfl, m4, B4⟩ := encode25 (E := E) (I := K) (fun f args h hf => k.out _ _ _ (by rcases hf with h | h | h | h | h | h | h <;> simp [h])) k.kc t3.fit (rep_grow (only_grows t3.fit) r3) ft (by omega)
    have T4 := T3.mod t3.fit m4 (fun _ _ h => h.elim)
    have b4 := m4.blk _ _ (fun h => h) b3
    have l4 : h4.cells E (own h1.next) 4 = some [x0, x1, x2, x3] := blk_cells b4 rfl hone
    have r4 := rep_grow (only_mod (q := fun r => Nat.ble h.next r) t3.fit m4 (fun _ _ h => h.elim) (fun _ h => h)) r3
    have hbs5 := qbs23 hone (h := h4)
    have t5 : Ahd h4 (h4.new (.cells [x0, x1, x2, x3] 25 none)) := Ahd.new0 m4.fit rfl
    have b5 : (h4.new (.cells [x0, x1, x2, x3] 25 none)).blk h4.next = some (.cells [x0, x1, x2, x3] 25 none) := new_blk_new rfl
    generalize h4.new (.cells [x0, x1, x2, x3] 25 none) = h5 at hbs5 t5 b5
    have T5 := T4.mod m4.fit (t5.mod (M := fun _ => False)) (fun _ _ h => h.elim)
    have r5 := rep_grow (only_ahd (p := fun r => Nat.ble h.next r) (q := fun r => Nat.ble h.next r) m4.fit t5 (fun _ h => h)) r4
    have B5 := B4.grow (only_ahd (p := fun r => Nat.ble h3.next r) (q := fun r => Nat.ble h3.next r) m4.fit t5 (fun _ h => h))
    have n15 : h1.next ≤ h5.next := Nat.le_trans t3.next (Nat.le_trans m4.next t5.next)
    have nm1 := m1.next
    have nt3 := t3.next
    obtain ⟨s8', g6, happ6, T6, A6, G6⟩ := tri_items (D := tab) (E := E) (t := 23) (t2 := 23) (by_ := 56) (kx := h4.next) (c := 1) (lo := h.next) t5.fit (by omega) T5 (Nat.le_refl _) nh qty23 qtz25 rfl (qza23 _ _ _) r5 (blk_cells b5 rfl hone) hone (by
      unfold roomy
      simp only [Bool.and_eq_true, Nat.ble_eq]; omega)
    have B6 := (B5.grow (G6 h3.next (by omega))).grow (only_grows A6.fit)
    have n6 := A6.next
    obtain ⟨bb, bc, hvb⟩ := B6.slice
    obtain ⟨s10', g7, happ7, T7, A7⟩ := tri_bytes (D := tab) (E := E) (t := 31) (t2 := 31) (by_ := 1) (x := vb) A6.fit (by omega) T6 qty31 qtz5 rfl (by rw [hvb]; exact qza31 _ _ _) B6 (encI_pos t) (by
      unfold roomy
      simp only [Bool.and_eq_true, Nat.ble_eq]; omega)
    have n7 := A7.next
    have ln : ∀ h, alen tab 31 s10' h = some (.int .i64 ((encL ts ++ encI t).length : Nat)) := fun h => by
      obtain ⟨cc, e⟩ := T7.len
      rw [e]; exact qlen31 _ _ _
    have hbs8 := qbs53 ((encL ts ++ encI t).length : Nat) (h := g7)
    have t8 : Ahd g7 (g7.new (.cells [.int .i64 ((encL ts ++ encI t).length : Nat)] 3 none)) := Ahd.new0 A7.fit rfl
    have b8 : (g7.new (.cells [.int .i64 ((encL ts ++ encI t).length : Nat)] 3 none)).blk g7.next = some (.cells [.int .i64 ((encL ts ++ encI t).length : Nat)] 3 none) := new_blk_new rfl
    generalize g7.new (.cells [.int .i64 ((encL ts ++ encI t).length : Nat)] 3 none) = g8 at hbs8 t8 b8
    have T8 := T7.mod A7.fit (t8.mod (M := fun _ => False)) (fun _ _ h => h.elim)
    have n8 := t8.next
    have hel := endsL_len ts
    obtain ⟨s9', g9, happ9, T9, A9⟩ := tri_num (D := tab) (E := E) (t := 53) (t2 := 53) (by_ := 8) (kx := g7.next) (c := 1) (x := (encL ts ++ encI t).length) t8.fit (by omega) T8 qty53 qtz3 rfl (qza53 _ _ _) (blk_cells b8 rfl rfl) (by
      unfold roomy
      simp only [Bool.and_eq_true, Nat.ble_eq]; omega)
    have M5 : Mod (fun k => k = kS) g0 h5 := (((M.trans m1).trans t3.mod).trans (m4.sub fun _ h => h.elim)).trans t5.mod
    have M9 : Mod (fun k => k = kS) g0 g9 := A9.mod f0 (Nat.le_refl _) ((A7.mod f0 (Nat.le_refl _) (A6.mod f0 (Nat.le_refl _) M5)).trans t8.mod)
    have bS9 := A9.keep (t8.grows _ _ (A7.keep (A6.keep (t5.grows _ _ (m4.blk _ _ (fun h => h) (t3.grows _ _ bS1))))))
    have eE : encL (ts ++ [t]) = encL ts ++ encI t := by rw [encL_app, encL_one]
    have eN : endsL (ts ++ [t]) = endsL ts ++ [(encL ts ++ encI t).length] := by rw [endsL_snoc, eE]
    have c1f := (ev_mono (D := tab) (E := E) K (show n1 ≤ n1 + n2 by omega)).call c1
    have c2f := (ev_mono (D := tab) (E := E) K (show n2 ≤ n1 + n2 by omega)).call c2
    apply Wc.loop
    simp only [loop8, loopOf, firstLoop, Option.getD, Tryd.f8]
    repeat' (first | (with_reducible apply Wc.seq) | (apply Wc.opsN (n1 + n2); (focus ((repeat' (first | with_reducible exact RO.nil | ((with_reducible apply RO.run (awant_none rfl)); (focus ((first | simp +decide only [awant, ayield_get, oper1, aop, opv, opvs, opvo, opvp, abuiltin, aun, Ac.get_put, abin, isShift, aint, roV, pair, bind, Option.bind, acall, Sx, n0, q7, q8, q9, q10, q27, q28, e1, c1f, qtz25, hh2, s3, Qx, Hx, l3, c2f, l4, hbs5, happ6, happ7, ln, hbs8, happ9, w4] | skip); with_reducible rfl))))); done))) | (refine Wc.cond2 (by simp +decide only [opv, Ac.get_put, Sx, n0, q7, q8, q9, q10, q27, q28, e1, c1f, qtz25, hh2, s3, Qx, Hx, l3, c2f, l4, hbs5, happ6, happ7, ln, hbs8, happ9, w4]; try with_reducible rfl) (fun hb => ?_) (fun hb => ?_) <;> try contradiction) | refine Wc.skip ?_ | refine Wc.ret ?_ | refine Wc.exit ?_ | refine Wc.block ?_)
    refine ih (i + 1) (ts ++ [t]) s8' s9' s10' a' seed' _ g9 (by omega) (by omega) (by rw [List.length_append, List.length_singleton]; omega) (smlL_append sm smt) (fun x hx => ?_) (by rw [iszL_app]; omega) ?_ ?_ ?_ ?_ ?_ ?_ ?_ ?_ ?_ M9 bS9 hs0' hs1' ha0' (by omega) (by rw [eE, eN]; exact T9)
    · rcases List.mem_append.1 hx with hx | hx
      · exact fi x hx
      · obtain rfl := List.mem_singleton.1 hx
        exact ft
    · simp +decide only [Ac.get_put, Sx, n0]
    · simp +decide only [Ac.get_put, Sx, d0]
    · simp +decide only [Ac.get_put, Sx, n0, q2]
    · simp +decide only [Ac.get_put, Sx, n0, q7]
    · simp +decide only [Ac.get_put, Sx, n0]
    · simp +decide only [Ac.get_put, Sx, n0]
    · simp +decide only [Ac.get_put, Sx, n0]
    · simp +decide only [Ac.get_put, Sx, n0, q27]
    · simp +decide only [Ac.get_put, Sx, n0]
end Go.Proofs.YtofijpbmbmbnhaaDoor
/- The law on streams: it gives true. -/
set_option maxRecDepth 100000
set_option maxHeartbeats 16000000
namespace Go.Proofs.YtofijpbmbmbnhaaDoor
open Go Go.Hs Go.Proofs
variable {E : Env} {I : Known}
theorem qty40 : tab.ty.get 40 = some ⟨.int .u16, 1, 2, some (.int .u16 0), true⟩ := by kernel_rfl
theorem qcv40_3 (n : Int) {h : H} : aconvert tab E 40 3 (.int .u16 n) h = some (.int .i64 (IntKind.i64.wrap n), h) := by unfold aconvert; simp only [qty40, qty3]
theorem remN (a b : Nat) (hb : 0 < b) : aint .rem .i64 (a : Nat) (b : Nat) = some (.int .i64 ((a % b : Nat) : Int)) := by
  rw [remI (by omega)]
  congr 2
theorem addN (a : Nat) (ha : a < 1000000000) : aint .add .i64 (a : Nat) 1 = some (.int .i64 ((a + 1 : Nat) : Int)) := by
  show some (Value.int .i64 (IntKind.i64.wrap ((a : Int) + 1))) = _
  rw [wrap64 (by omega) (by omega)]
  rfl
theorem sfit_empty : Fit H.empty := by
  refine ⟨fun _ _ => T.get_nil _, ⟨fun k xs ty r p hd => ?_, Nat.le_refl _⟩⟩
  rw [show H.empty.dyn = T.nil from rfl, T.get_nil] at hd
  cases hd
theorem byt_slice {g : H} {v : Value} {bs : List UInt8} (hb : Byt E g v bs) (m : Nat) (hm : m ≤ bs.length) (h0 : bs.length = 0 → v = .slice none 0 0) :
    ∃ s, (∀ h, aslice tab 31 v none (some (.int .i64 (m : Nat))) none h = some (s, h)) ∧ Byt E g s (bs.take m) := by
  rcases hb with ⟨rfl, rfl⟩ | ⟨a, c, rfl, hc, hcs⟩
  · obtain rfl : m = 0 := by simpa using hm
    exact ⟨.slice none 0 0, fun h => qslN, .inl ⟨rfl, rfl⟩⟩
  · have hlt : (bs.take m).length = m := by rw [List.length_take]; omega
    have hpos : 0 < bs.length := by
      rcases Nat.eq_zero_or_pos bs.length with e | e
      · cases h0 e
      · exact e
    refine ⟨.slice (some (aadd a (0 * 1))) (m - 0) (c - 0), fun h => ?_, .inr ⟨aadd a (0 * 1), c - 0, by rw [hlt]; rfl, by rw [hlt]; omega, ?_⟩⟩
    · have h1 : Nat.ble bs.length c = true := by rw [Nat.ble_eq]; exact hc
      have h2 : abound (some (.int .i64 (m : Nat))) c bs.length = some m := by
        have : inRange ((m : Nat) : Int) (c + 1) = true := by
          show Nat.blt m (c + 1) = true
          rw [Nat.blt_eq]; omega
        simp only [abound, this, Int.toNat_natCast]
      have h3 : abound none m 0 = some 0 := rfl
      have e : Nat.beq c 0 = false := by
        cases hq : Nat.beq c 0
        · rfl
        · have := Nat.eq_of_beq_eq_true hq; omega
      unfold aslice
      rw [qty31]
      simp only [h1, asliceS, h2, h3, e]
    · have := cells_sub (m := 0) (l := m) hcs (by omega)
      rw [List.drop_zero] at this
      rw [hlt, Nat.zero_mul, this]
      congr 1
      have h2 := bytesV_sub bs 0 m
      rw [List.drop_zero, List.drop_zero] at h2
      exact h2
theorem walk8 {K : Known} (k : Kn8 E K) {s0 : Value} {l0 : List Int} (hb0 : Bin E H.empty s0 l0) (n1 n2 : Nat) (h1 : n1 < 256) (h2 : n2 < 65536) :
    ∃ n h', (ev tab E K n).call 8 [s0, .int .u8 (n1 : Nat), .int .u16 (n2 : Nat)] H.empty = some (.bool true, h') := by
  suffices hw : ∃ n v h', (ev tab E K n).call 8 [s0, .int .u8 (n1 : Nat), .int .u16 (n2 : Nat)] H.empty = some (v, h') ∧ v = .bool true by
    obtain ⟨n, v, h', h1, rfl⟩ := hw
    exact ⟨n, h', h1⟩
  have f0 := sfit_empty
  generalize H.empty = g at hb0 f0 ⊢
  obtain ⟨n24, p, g0, c24, kS, bv, rfl, a0, lk, S⟩ := of24 (E := E) (I := K) (fun f args h hf => k.out _ _ _ (by rcases hf with h | h <;> simp [h])) f0 hb0
  obtain ⟨seed, bS, hs0, hs1, hB0, _⟩ := S
  have w1 : IntKind.i64.wrap (n1 : Int) = (n1 : Int) := wrap64 (by omega) (by omega)
  have w2 : IntKind.i64.wrap (n2 : Int) = (n2 : Int) := wrap64 (by omega) (by omega)
  have r1 : aint .rem .i64 (n1 : Nat) 6 = some (.int .i64 ((n1 % 6 : Nat) : Int)) := remN n1 6 (by omega)
  refine Wc.call (k.out _ _ _ (by simp)) fn8 rfl ?_
  generalize hA0 : (⟨T.ofList [s0, .int .u8 (n1 : Nat), .int .u16 (n2 : Nat)] 0 .nil, max ([s0, .int .u8 (n1 : Nat), .int .u16 (n2 : Nat)] : List Value).length Tryd.f8.ntmps, []⟩ : Ac) = A0
  have n0 : A0.n = 126 := by rw [← hA0]; rfl
  have q0 : A0.get 0 = s0 := by rw [← hA0]; rfl
  have q1 : A0.get 1 = .int .u8 (n1 : Nat) := by rw [← hA0]; rfl
  have q2 : A0.get 2 = .int .u16 (n2 : Nat) := by rw [← hA0]; rfl
  have d0 : A0.defers = [] := by rw [← hA0]
  clear hA0
  (repeat' (with_reducible apply Wc.seq)); (apply Wc.opsN 1; (focus ((repeat' (first | with_reducible exact RO.nil | ((with_reducible apply RO.run (awant_none rfl)); (focus ((first | simp +decide only [awant, ayield_get, oper1, aop, opv, opvs, opvo, opvp, abuiltin, aun, Ac.get_put, abin, isShift, aint, roV, pair, bind, Option.bind, acall, Sx, n0] | skip); with_reducible rfl))))); done)))
  (repeat' (with_reducible apply Wc.seq)); (apply Wc.opsN n24; (focus ((repeat' (first | with_reducible exact RO.nil | ((with_reducible apply RO.run (awant_none rfl)); (focus ((first | simp +decide only [awant, ayield_get, oper1, aop, opv, opvs, opvo, opvp, abuiltin, aun, Ac.get_put, abin, isShift, aint, roV, pair, bind, Option.bind, acall, Sx, n0, q0, c24] | skip); with_reducible rfl))))); done)))
  (repeat' (with_reducible apply Wc.seq)); (apply Wc.opsN 1; (focus ((repeat' (first | with_reducible exact RO.nil | ((with_reducible apply RO.run (awant_none rfl)); (focus ((first | simp +decide only [awant, ayield_get, oper1, aop, opv, opvs, opvo, opvp, abuiltin, aun, Ac.get_put, abin, isShift, aint, roV, pair, bind, Option.bind, acall, Sx, n0] | skip); with_reducible rfl))))); done)))
  (repeat' (with_reducible apply Wc.seq)); (apply Wc.opsN 1; (focus ((repeat' (first | with_reducible exact RO.nil | ((with_reducible apply RO.run (awant_none rfl)); (focus ((first | simp +decide only [awant, ayield_get, oper1, aop, opv, opvs, opvo, opvp, abuiltin, aun, Ac.get_put, abin, isShift, aint, roV, pair, bind, Option.bind, acall, Sx, n0] | skip); with_reducible rfl))))); done)))
  (repeat' (with_reducible apply Wc.seq)); (apply Wc.opsN 1; (focus ((repeat' (first | with_reducible exact RO.nil | ((with_reducible apply RO.run (awant_none rfl)); (focus ((first | simp +decide only [awant, ayield_get, oper1, aop, opv, opvs, opvo, opvp, abuiltin, aun, Ac.get_put, abin, isShift, aint, roV, pair, bind, Option.bind, acall, Sx, n0] | skip); with_reducible rfl))))); done)))
  (repeat' (with_reducible apply Wc.seq)); (apply Wc.opsN 1; (focus ((repeat' (first | with_reducible exact RO.nil | ((with_reducible apply RO.run (awant_none rfl)); (focus ((first | simp +decide only [awant, ayield_get, oper1, aop, opv, opvs, opvo, opvp, abuiltin, aun, Ac.get_put, abin, isShift, roV, pair, bind, Option.bind, acall, Sx, n0, q1, qcv5_3, w1, r1] | skip); with_reducible rfl))))); done)))
  repeat' (first | (with_reducible apply Wc.seq) | (apply Wc.ops; (focus ((repeat' (first | with_reducible exact RO.nil | ((with_reducible apply RO.run (awant_none rfl)); (focus ((first | simp +decide only [awant, ayield_get, oper1, aop, opv, opvs, opvo, opvp, abuiltin, aun, Ac.get_put, abin, isShift, aint, roV, pair, bind, Option.bind, acall, Sx, n0] | skip); with_reducible rfl))))); done))) | (refine Wc.cond2 (by simp +decide only [opv, Ac.get_put, Sx, n0]; try with_reducible rfl) (fun hb => ?_) (fun hb => ?_) <;> try contradiction) | refine Wc.skip ?_ | refine Wc.ret ?_ | refine Wc.exit ?_ | refine Wc.block ?_)
  refine (loop8_ok k a0.fit hB0 (by simp; omega) (n1 % 6) (by omega) (.int .u16 (n2 : Nat)) (n1 % 6) 0 [] (.slice none 0 0) (.slice none 0 0) (.slice none 0 0) 0 seed _ g0 rfl (Nat.zero_le _) rfl (by rw [smlL]; trivial) (fun _ h => by cases h) (by rw [iszL]; exact Nat.zero_le _) ?_ ?_ ?_ ?_ ?_ ?_ ?_ ?_ ?_ (Mod.refl a0.fit) bS hs0 hs1 (Int.le_refl _) (Int.le_refl _) (by rw [encL]; exact Tri.nil _ _ _)).mono ?_
  · simp +decide only [Ac.get_put, Sx, n0]
  · simp +decide only [Ac.get_put, Sx, d0]
  · simp +decide only [Ac.get_put, Sx, n0, q2]
  · simp +decide only [Ac.get_put, Sx, n0]
  · simp +decide only [Ac.get_put, Sx, n0]
  · simp +decide only [Ac.get_put, Sx, n0]
  · simp +decide only [Ac.get_put, Sx, n0]
  · simp +decide only [Ac.get_put, Sx, n0]
  · simp +decide only [Ac.get_put, Sx, n0]
    rfl
  rintro ex A0 h ⟨rfl, n0, d0, q2, ts, s8, s9, s10, q8, q9, q10, hts, sm, fi, sz, M, T⟩
  simp only [if_true]
  have fh := M.fit
  have els := encL_short sm (by omega)
  have hK : repK E h ts s8 := repK_of (rep_grow (only_grows fh) ((T.kol fh).rep fh (by omega) 0 0 ⟨#[]⟩ (lo := g0.next) (Nat.le_refl _)))
  obtain ⟨n37, _, g1, c37, v14, rfl, m1, B1, hv0⟩ := join37 (E := E) (I := K) (fun f args h hf => k.out _ _ _ (by rcases hf with h | h | h | h | h | h | h <;> simp [h])) k.kc fh hK fi (by omega) (by omega)
  have hI18 : ∀ f args h, (f = 18 ∨ f = 56 ∨ f = 120 ∨ f = 119 ∨ f = 118 ∨ f = 117 ∨ f = 90 ∨ f = 82 ∨ f = 81) → K f args h = none := fun f args h hf => k.out _ _ _ (by rcases hf with h | h | h | h | h | h | h | h | h <;> simp [h])
  obtain ⟨n18, x18, g2, c18, m2, z2⟩ := split18 (E := E) (I := K) hI18 m1.fit B1 (by omega)
  rw [splR_enc fi (by omega)] at z2
  obtain ⟨s16, rfl, r16⟩ := z2
  have G12 := m1.gof2.trans m2.gof2
  obtain ⟨n22, c22⟩ := equal22 (E := E) (I := K) (fun args h => k.out _ _ _ (by simp)) (B1.grow m2.gof2) (T.byt.grow G12)
  obtain ⟨n20, _, g3, c20, rfl, t3⟩ := equal20s (E := E) (I := K) (fun f args h hf => k.out _ _ _ (by rcases hf with h | h <;> simp [h])) k.k14 m2.fit (repK_grow G12 hK) r16 (fun t ht => ⟨by have := (fi t ht).2.1; omega, by have := (fi t ht).2.2; omega⟩) (by omega)
  have c22f := (ev_mono (D := tab) (E := E) K (show n22 ≤ n22 + n20 by omega)).call c22
  have c20f := (ev_mono (D := tab) (E := E) K (show n20 ≤ n22 + n20 by omega)).call c20
  (repeat' (with_reducible apply Wc.seq)); (apply Wc.opsN n37; (focus ((repeat' (first | with_reducible exact RO.nil | ((with_reducible apply RO.run (awant_none rfl)); (focus ((first | simp +decide only [awant, ayield_get, oper1, aop, opv, opvs, opvo, opvp, abuiltin, aun, Ac.get_put, abin, isShift, aint, roV, pair, bind, Option.bind, acall, Sx, n0, q8, c37] | skip); with_reducible rfl))))); done)))
  (repeat' (with_reducible apply Wc.seq)); (apply Wc.opsN n18; (focus ((repeat' (first | with_reducible exact RO.nil | ((with_reducible apply RO.run (awant_none rfl)); (focus ((first | simp +decide only [awant, ayield_get, oper1, aop, opv, opvs, opvo, opvp, abuiltin, aun, Ac.get_put, abin, isShift, aint, roV, pair, bind, Option.bind, acall, Sx, n0, c18] | skip); with_reducible rfl))))); done)))
  (repeat' (with_reducible apply Wc.seq)); (apply Wc.opsN (n22 + n20); (focus ((repeat' (first | with_reducible exact RO.nil | ((with_reducible apply RO.run (awant_none rfl)); (focus ((first | simp +decide only [awant, ayield_get, oper1, aop, opv, opvs, opvo, opvp, abuiltin, aun, Ac.get_put, abin, isShift, aint, roV, pair, bind, Option.bind, acall, Sx, n0, q8, q10, c22f, c20f, decide_true] | skip); with_reducible rfl))) | ((with_reducible apply RO.runG); (focus rfl); (focus rfl); (focus (simp +decide only [awant, ayield_get, oper1, aop, opv, opvs, opvo, opvp, abuiltin, aun, Ac.get_put, abin, isShift, aint, roV, pair, bind, Option.bind, acall, Sx, n0, q8, q10, c22f, c20f, decide_true]; done)); (focus ((first | simp +decide only [awant, ayield_get, oper1, aop, opv, opvs, opvo, opvp, abuiltin, aun, Ac.get_put, abin, isShift, aint, roV, pair, bind, Option.bind, acall, Sx, n0, q8, q10, c22f, c20f, decide_true] | skip); with_reducible rfl))) | ((with_reducible apply RO.skipG); (focus rfl); (focus rfl); (focus (simp +decide only [awant, ayield_get, oper1, aop, opv, opvs, opvo, opvp, abuiltin, aun, Ac.get_put, abin, isShift, aint, roV, pair, bind, Option.bind, acall, Sx, n0, q8, q10, c22f, c20f, decide_true]; done))))); done)))
  repeat' (first | (with_reducible apply Wc.seq) | (apply Wc.ops; (focus ((repeat' (first | with_reducible exact RO.nil | ((with_reducible apply RO.run (awant_none rfl)); (focus ((first | simp +decide only [awant, ayield_get, oper1, aop, opv, opvs, opvo, opvp, abuiltin, aun, Ac.get_put, abin, isShift, aint, roV, pair, bind, Option.bind, acall, Sx, n0] | skip); with_reducible rfl))))); done))) | (refine Wc.cond2 (by simp +decide only [opv, Ac.get_put, Sx, n0]; try with_reducible rfl) (fun hb => ?_) (fun hb => ?_) <;> try contradiction) | refine Wc.skip ?_ | refine Wc.ret ?_ | refine Wc.exit ?_ | refine Wc.block ?_)
  obtain ⟨vb, vc, hv14⟩ := B1.slice
  have ln : ∀ h, alen tab 31 v14 h = some (.int .i64 ((encL ts).length : Nat)) := fun h => by rw [hv14]; exact qlen31 _ _ _
  have ad := addN (encL ts).length (by omega)
  have r2 := remN n2 ((encL ts).length + 1) (by omega)
  generalize hm : n2 % ((encL ts).length + 1) = m at r2
  have hml : m ≤ (encL ts).length := by
    have := Nat.mod_lt n2 (show 0 < (encL ts).length + 1 by omega)
    omega
  (repeat' (with_reducible apply Wc.seq)); (apply Wc.opsN 1; (focus ((repeat' (first | with_reducible exact RO.nil | ((with_reducible apply RO.run (awant_none rfl)); (focus ((first | simp +decide only [awant, ayield_get, oper1, aop, opv, opvs, opvo, opvp, abuiltin, aun, Ac.get_put, abin, isShift, roV, pair, bind, Option.bind, acall, Sx, n0, q2, qcv40_3, w2, ln, ad, r2] | skip); with_reducible rfl))))); done)))
  refine Wc.forget (fun A => A.n = 126 ∧ A.defers = [] ∧ A.get 9 = s9 ∧ A.get 14 = v14 ∧ A.get 19 = .int .i64 (m : Nat)) ⟨by simp +decide only [Ac.get_put, Sx, n0], by simp +decide only [Ac.get_put, Sx, d0], by first | (simp +decide only [Ac.get_put, Sx, n0, q9]; done) | (simp +decide only [Ac.get_put, Sx, n0, q9]; rfl), by first | (simp +decide only [Ac.get_put, Sx, n0, q9]; done) | (simp +decide only [Ac.get_put, Sx, n0, q9]; rfl), by first | (simp +decide only [Ac.get_put, Sx, n0, q9]; done) | (simp +decide only [Ac.get_put, Sx, n0, q9]; rfl)⟩ ?_
  rintro A0 ⟨n0, d0, q9, q14, q19⟩
  obtain ⟨s20, hsl, B20⟩ := byt_slice ((B1.grow m2.gof2).grow t3.grows) m hml (fun h => hv0 (by
    cases ts with
    | nil => rfl
    | cons t ts => rw [encL, List.length_append] at h; have := encI_pos t; omega))
  obtain ⟨n18', x, g4, c18', m4, z4⟩ := split18 (E := E) (I := K) hI18 t3.fit B20 (by rw [List.length_take]; omega)
  obtain ⟨sc1, sc2⟩ := splR_cut fi (by omega) hml
  have N4 : Nms E g4 s9 (endsL ts) := T.nms.grow (G12.trans (t3.grows.trans m4.gof2))
  have hel : (endsL ts).length ≤ 1000000 := by rw [endsL_len]; omega
  obtain ⟨n39, _, g5, c39, rfl, e5⟩ := contains39 (E := E) (I := K) (fun f args h hf => k.out _ _ _ (by rcases hf with h | h <;> simp [h])) N4 hel m
  obtain ⟨n40, _, g6, c40, rfl, e6⟩ := index40 (E := E) (I := K) (fun args h => k.out _ _ _ (by simp)) N4 hel m
  rw [e5] at c39
  rw [e6] at c40
  have c11 := ev_known (D := tab) (E := E) (k.k11 g4)
  generalize hN : n18' + n39 + n40 + 1 = N
  have c18f := (ev_mono (D := tab) (E := E) K (show n18' ≤ N by omega)).call c18'
  have c39f := (ev_mono (D := tab) (E := E) K (show n39 ≤ N by omega)).call c39
  have c40f := (ev_mono (D := tab) (E := E) K (show n40 ≤ N by omega)).call c40
  have c11f := (ev_mono (D := tab) (E := E) K (show 1 ≤ N by omega)).call c11
  by_cases hcut : m = 0 ∨ 0 ≤ idxN m (endsL ts) 0
  · obtain ⟨kk, hk1, hk2, hk3⟩ := sc1 hcut
    rw [hk2] at z4
    obtain ⟨s20', rfl, r20⟩ := z4
    have lk : ∀ h, alen tab 23 s20' h = some (.int .i64 (kk : Nat)) := fun h => by
      obtain ⟨b, c, rfl, _⟩ := repK_slice r20
      rw [qlen23, List.length_take, Nat.min_eq_left hk1]
    have wi : IntKind.i64.wrap (idxN m (endsL ts) 0 + 1) = (kk : Int) := by rw [← hk3]; exact wrap64 (by omega) (by omega)
    have ek : decide ((kk : Int) = (kk : Int)) = true := decide_eq_true rfl
    by_cases hm0 : m = 0
    · have em : decide ((m : Int) = 0) = true := decide_eq_true (by omega)
      (repeat' (with_reducible apply Wc.seq)); (apply Wc.opsN N; (focus ((repeat' (first | with_reducible exact RO.nil | ((with_reducible apply RO.run (awant_none rfl)); (focus ((first | simp +decide only [awant, ayield_get, oper1, aop, opv, opvs, opvo, opvp, abuiltin, aun, Ac.get_put, abin, isShift, aint, roV, pair, bind, Option.bind, acall, Sx, n0, q14, q19, hsl, c18f] | skip); with_reducible rfl))))); done)))
      (repeat' (with_reducible apply Wc.seq)); (apply Wc.opsN N; (focus ((repeat' (first | with_reducible exact RO.nil | ((with_reducible apply RO.run (awant_none rfl)); (focus ((first | simp +decide only [awant, ayield_get, oper1, aop, opv, opvs, opvo, opvp, abuiltin, aun, Ac.get_put, abin, isShift, aint, roV, pair, bind, Option.bind, acall, Sx, n0, q9, q19, em] | skip); with_reducible rfl))) | ((with_reducible apply RO.runG); (focus rfl); (focus rfl); (focus (simp +decide only [awant, ayield_get, oper1, aop, opv, opvs, opvo, opvp, abuiltin, aun, Ac.get_put, abin, isShift, aint, roV, pair, bind, Option.bind, acall, Sx, n0, q9, q19, em]; done)); (focus ((first | simp +decide only [awant, ayield_get, oper1, aop, opv, opvs, opvo, opvp, abuiltin, aun, Ac.get_put, abin, isShift, aint, roV, pair, bind, Option.bind, acall, Sx, n0, q9, q19, em] | skip); with_reducible rfl))) | ((with_reducible apply RO.skipG); (focus rfl); (focus rfl); (focus (simp +decide only [awant, ayield_get, oper1, aop, opv, opvs, opvo, opvp, abuiltin, aun, Ac.get_put, abin, isShift, aint, roV, pair, bind, Option.bind, acall, Sx, n0, q9, q19, em]; done))))); done)))
      repeat' (first | (with_reducible apply Wc.seq) | (apply Wc.ops; (focus ((repeat' (first | with_reducible exact RO.nil | ((with_reducible apply RO.run (awant_none rfl)); (focus ((first | simp +decide only [awant, ayield_get, oper1, aop, opv, opvs, opvo, opvp, abuiltin, aun, Ac.get_put, abin, isShift, aint, roV, pair, bind, Option.bind, acall, Sx, n0] | skip); with_reducible rfl))))); done))) | (refine Wc.cond2 (by simp +decide only [opv, Ac.get_put, Sx, n0]; try with_reducible rfl) (fun hb => ?_) (fun hb => ?_) <;> try contradiction) | refine Wc.skip ?_ | refine Wc.ret ?_ | refine Wc.exit ?_ | refine Wc.block ?_)
      (repeat' (with_reducible apply Wc.seq)); (apply Wc.opsN N; (focus ((repeat' (first | with_reducible exact RO.nil | ((with_reducible apply RO.run (awant_none rfl)); (focus ((first | simp +decide only [awant, ayield_get, oper1, aop, opv, opvs, opvo, opvp, abuiltin, aun, Ac.get_put, abin, isShift, aint, roV, pair, bind, Option.bind, acall, Sx, n0, q9, q19, lk, c40f, wi, ek, c11f, decide_true] | skip); with_reducible rfl))) | ((with_reducible apply RO.runG); (focus rfl); (focus rfl); (focus (simp +decide only [awant, ayield_get, oper1, aop, opv, opvs, opvo, opvp, abuiltin, aun, Ac.get_put, abin, isShift, aint, roV, pair, bind, Option.bind, acall, Sx, n0, q9, q19, lk, c40f, wi, ek, c11f, decide_true]; done)); (focus ((first | simp +decide only [awant, ayield_get, oper1, aop, opv, opvs, opvo, opvp, abuiltin, aun, Ac.get_put, abin, isShift, aint, roV, pair, bind, Option.bind, acall, Sx, n0, q9, q19, lk, c40f, wi, ek, c11f, decide_true] | skip); with_reducible rfl))) | ((with_reducible apply RO.skipG); (focus rfl); (focus rfl); (focus (simp +decide only [awant, ayield_get, oper1, aop, opv, opvs, opvo, opvp, abuiltin, aun, Ac.get_put, abin, isShift, aint, roV, pair, bind, Option.bind, acall, Sx, n0, q9, q19, lk, c40f, wi, ek, c11f, decide_true]; done))))); done)))
      repeat' (first | (with_reducible apply Wc.seq) | (apply Wc.ops; (focus ((repeat' (first | with_reducible exact RO.nil | ((with_reducible apply RO.run (awant_none rfl)); (focus ((first | simp +decide only [awant, ayield_get, oper1, aop, opv, opvs, opvo, opvp, abuiltin, aun, Ac.get_put, abin, isShift, aint, roV, pair, bind, Option.bind, acall, Sx, n0] | skip); with_reducible rfl))))); done))) | (refine Wc.cond2 (by simp +decide only [opv, Ac.get_put, Sx, n0]; try with_reducible rfl) (fun hb => ?_) (fun hb => ?_) <;> try contradiction) | refine Wc.skip ?_ | refine Wc.ret ?_ | refine Wc.exit ?_ | refine Wc.block ?_)
      exact done_q (v := .bool true) (.inr rfl) (by simp +decide only [Ac.get_put, Sx, d0]) rfl (by simp +decide only [Ac.get_put, Sx, n0]) rfl
    · have em : decide ((m : Int) = 0) = false := decide_eq_false (by omega)
      have ei : decide (idxN m (endsL ts) 0 ≥ 0) = true := decide_eq_true (by rcases hcut with h | h; exact absurd h hm0; exact h)
      rw [ei] at c39f
      (repeat' (with_reducible apply Wc.seq)); (apply Wc.opsN N; (focus ((repeat' (first | with_reducible exact RO.nil | ((with_reducible apply RO.run (awant_none rfl)); (focus ((first | simp +decide only [awant, ayield_get, oper1, aop, opv, opvs, opvo, opvp, abuiltin, aun, Ac.get_put, abin, isShift, aint, roV, pair, bind, Option.bind, acall, Sx, n0, q14, q19, hsl, c18f] | skip); with_reducible rfl))))); done)))
      (repeat' (with_reducible apply Wc.seq)); (apply Wc.opsN N; (focus ((repeat' (first | with_reducible exact RO.nil | ((with_reducible apply RO.run (awant_none rfl)); (focus ((first | simp +decide only [awant, ayield_get, oper1, aop, opv, opvs, opvo, opvp, abuiltin, aun, Ac.get_put, abin, isShift, aint, roV, pair, bind, Option.bind, acall, Sx, n0, q9, q19, em, c39f] | skip); with_reducible rfl))) | ((with_reducible apply RO.runG); (focus rfl); (focus rfl); (focus (simp +decide only [awant, ayield_get, oper1, aop, opv, opvs, opvo, opvp, abuiltin, aun, Ac.get_put, abin, isShift, aint, roV, pair, bind, Option.bind, acall, Sx, n0, q9, q19, em, c39f]; done)); (focus ((first | simp +decide only [awant, ayield_get, oper1, aop, opv, opvs, opvo, opvp, abuiltin, aun, Ac.get_put, abin, isShift, aint, roV, pair, bind, Option.bind, acall, Sx, n0, q9, q19, em, c39f] | skip); with_reducible rfl))) | ((with_reducible apply RO.skipG); (focus rfl); (focus rfl); (focus (simp +decide only [awant, ayield_get, oper1, aop, opv, opvs, opvo, opvp, abuiltin, aun, Ac.get_put, abin, isShift, aint, roV, pair, bind, Option.bind, acall, Sx, n0, q9, q19, em, c39f]; done))))); done)))
      repeat' (first | (with_reducible apply Wc.seq) | (apply Wc.ops; (focus ((repeat' (first | with_reducible exact RO.nil | ((with_reducible apply RO.run (awant_none rfl)); (focus ((first | simp +decide only [awant, ayield_get, oper1, aop, opv, opvs, opvo, opvp, abuiltin, aun, Ac.get_put, abin, isShift, aint, roV, pair, bind, Option.bind, acall, Sx, n0] | skip); with_reducible rfl))))); done))) | (refine Wc.cond2 (by simp +decide only [opv, Ac.get_put, Sx, n0]; try with_reducible rfl) (fun hb => ?_) (fun hb => ?_) <;> try contradiction) | refine Wc.skip ?_ | refine Wc.ret ?_ | refine Wc.exit ?_ | refine Wc.block ?_)
      (repeat' (with_reducible apply Wc.seq)); (apply Wc.opsN N; (focus ((repeat' (first | with_reducible exact RO.nil | ((with_reducible apply RO.run (awant_none rfl)); (focus ((first | simp +decide only [awant, ayield_get, oper1, aop, opv, opvs, opvo, opvp, abuiltin, aun, Ac.get_put, abin, isShift, aint, roV, pair, bind, Option.bind, acall, Sx, n0, q9, q19, lk, c40f, wi, ek, c11f, decide_true] | skip); with_reducible rfl))) | ((with_reducible apply RO.runG); (focus rfl); (focus rfl); (focus (simp +decide only [awant, ayield_get, oper1, aop, opv, opvs, opvo, opvp, abuiltin, aun, Ac.get_put, abin, isShift, aint, roV, pair, bind, Option.bind, acall, Sx, n0, q9, q19, lk, c40f, wi, ek, c11f, decide_true]; done)); (focus ((first | simp +decide only [awant, ayield_get, oper1, aop, opv, opvs, opvo, opvp, abuiltin, aun, Ac.get_put, abin, isShift, aint, roV, pair, bind, Option.bind, acall, Sx, n0, q9, q19, lk, c40f, wi, ek, c11f, decide_true] | skip); with_reducible rfl))) | ((with_reducible apply RO.skipG); (focus rfl); (focus rfl); (focus (simp +decide only [awant, ayield_get, oper1, aop, opv, opvs, opvo, opvp, abuiltin, aun, Ac.get_put, abin, isShift, aint, roV, pair, bind, Option.bind, acall, Sx, n0, q9, q19, lk, c40f, wi, ek, c11f, decide_true]; done))))); done)))
      repeat' (first | (with_reducible apply Wc.seq) | (apply Wc.ops; (focus ((repeat' (first | with_reducible exact RO.nil | ((with_reducible apply RO.run (awant_none rfl)); (focus ((first | simp +decide only [awant, ayield_get, oper1, aop, opv, opvs, opvo, opvp, abuiltin, aun, Ac.get_put, abin, isShift, aint, roV, pair, bind, Option.bind, acall, Sx, n0] | skip); with_reducible rfl))))); done))) | (refine Wc.cond2 (by simp +decide only [opv, Ac.get_put, Sx, n0]; try with_reducible rfl) (fun hb => ?_) (fun hb => ?_) <;> try contradiction) | refine Wc.skip ?_ | refine Wc.ret ?_ | refine Wc.exit ?_ | refine Wc.block ?_)
      exact done_q (v := .bool true) (.inr rfl) (by simp +decide only [Ac.get_put, Sx, d0]) rfl (by simp +decide only [Ac.get_put, Sx, n0]) rfl
  · rw [sc2 hcut] at z4
    obtain rfl : x = .tuple #[.slice none 0 0, .int .i64 (m : Nat), .int .i64 4] := z4
    have em : decide ((m : Int) = 0) = false := decide_eq_false (fun h => hcut (.inl (by omega)))
    have ei : decide (idxN m (endsL ts) 0 ≥ 0) = false := decide_eq_false (fun h => hcut (.inr h))
    have ek : decide ((m : Int) = (m : Int)) = true := decide_eq_true rfl
    rw [ei] at c39f
    (repeat' (with_reducible apply Wc.seq)); (apply Wc.opsN N; (focus ((repeat' (first | with_reducible exact RO.nil | ((with_reducible apply RO.run (awant_none rfl)); (focus ((first | simp +decide only [awant, ayield_get, oper1, aop, opv, opvs, opvo, opvp, abuiltin, aun, Ac.get_put, abin, isShift, aint, roV, pair, bind, Option.bind, acall, Sx, n0, q14, q19, hsl, c18f] | skip); with_reducible rfl))))); done)))
    (repeat' (with_reducible apply Wc.seq)); (apply Wc.opsN N; (focus ((repeat' (first | with_reducible exact RO.nil | ((with_reducible apply RO.run (awant_none rfl)); (focus ((first | simp +decide only [awant, ayield_get, oper1, aop, opv, opvs, opvo, opvp, abuiltin, aun, Ac.get_put, abin, isShift, aint, roV, pair, bind, Option.bind, acall, Sx, n0, q9, q19, em, c39f] | skip); with_reducible rfl))) | ((with_reducible apply RO.runG); (focus rfl); (focus rfl); (focus (simp +decide only [awant, ayield_get, oper1, aop, opv, opvs, opvo, opvp, abuiltin, aun, Ac.get_put, abin, isShift, aint, roV, pair, bind, Option.bind, acall, Sx, n0, q9, q19, em, c39f]; done)); (focus ((first | simp +decide only [awant, ayield_get, oper1, aop, opv, opvs, opvo, opvp, abuiltin, aun, Ac.get_put, abin, isShift, aint, roV, pair, bind, Option.bind, acall, Sx, n0, q9, q19, em, c39f] | skip); with_reducible rfl))) | ((with_reducible apply RO.skipG); (focus rfl); (focus rfl); (focus (simp +decide only [awant, ayield_get, oper1, aop, opv, opvs, opvo, opvp, abuiltin, aun, Ac.get_put, abin, isShift, aint, roV, pair, bind, Option.bind, acall, Sx, n0, q9, q19, em, c39f]; done))))); done)))
    repeat' (first | (with_reducible apply Wc.seq) | (apply Wc.ops; (focus ((repeat' (first | with_reducible exact RO.nil | ((with_reducible apply RO.run (awant_none rfl)); (focus ((first | simp +decide only [awant, ayield_get, oper1, aop, opv, opvs, opvo, opvp, abuiltin, aun, Ac.get_put, abin, isShift, aint, roV, pair, bind, Option.bind, acall, Sx, n0] | skip); with_reducible rfl))))); done))) | (refine Wc.cond2 (by simp +decide only [opv, Ac.get_put, Sx, n0]; try with_reducible rfl) (fun hb => ?_) (fun hb => ?_) <;> try contradiction) | refine Wc.skip ?_ | refine Wc.ret ?_ | refine Wc.exit ?_ | refine Wc.block ?_)
    (repeat' (with_reducible apply Wc.seq)); (apply Wc.opsN N; (focus ((repeat' (first | with_reducible exact RO.nil | ((with_reducible apply RO.run (awant_none rfl)); (focus ((first | simp +decide only [awant, ayield_get, oper1, aop, opv, opvs, opvo, opvp, abuiltin, aun, Ac.get_put, abin, isShift, aint, roV, pair, bind, Option.bind, acall, Sx, n0, q19, ek, c11f, decide_true] | skip); with_reducible rfl))) | ((with_reducible apply RO.runG); (focus rfl); (focus rfl); (focus (simp +decide only [awant, ayield_get, oper1, aop, opv, opvs, opvo, opvp, abuiltin, aun, Ac.get_put, abin, isShift, aint, roV, pair, bind, Option.bind, acall, Sx, n0, q19, ek, c11f, decide_true]; done)); (focus ((first | simp +decide only [awant, ayield_get, oper1, aop, opv, opvs, opvo, opvp, abuiltin, aun, Ac.get_put, abin, isShift, aint, roV, pair, bind, Option.bind, acall, Sx, n0, q19, ek, c11f, decide_true] | skip); with_reducible rfl))) | ((with_reducible apply RO.skipG); (focus rfl); (focus rfl); (focus (simp +decide only [awant, ayield_get, oper1, aop, opv, opvs, opvo, opvp, abuiltin, aun, Ac.get_put, abin, isShift, aint, roV, pair, bind, Option.bind, acall, Sx, n0, q19, ek, c11f, decide_true]; done))))); done)))
    repeat' (first | (with_reducible apply Wc.seq) | (apply Wc.ops; (focus ((repeat' (first | with_reducible exact RO.nil | ((with_reducible apply RO.run (awant_none rfl)); (focus ((first | simp +decide only [awant, ayield_get, oper1, aop, opv, opvs, opvo, opvp, abuiltin, aun, Ac.get_put, abin, isShift, aint, roV, pair, bind, Option.bind, acall, Sx, n0] | skip); with_reducible rfl))))); done))) | (refine Wc.cond2 (by simp +decide only [opv, Ac.get_put, Sx, n0]; try with_reducible rfl) (fun hb => ?_) (fun hb => ?_) <;> try contradiction) | refine Wc.skip ?_ | refine Wc.ret ?_ | refine Wc.exit ?_ | refine Wc.block ?_)
    exact done_q (v := .bool true) (.inr rfl) (by simp +decide only [Ac.get_put, Sx, d0]) rfl (by simp +decide only [Ac.get_put, Sx, n0]) rfl
end Go.Proofs.YtofijpbmbmbnhaaDoor
/- What is known of the functions, layer on layer, for the law on streams. -/
set_option maxRecDepth 100000
set_option maxHeartbeats 4000000
namespace Go.Proofs.YtofijpbmbmbnhaaDoor
open Go Go.Hs Go.Proofs
variable {n0 : Nat}
theorem sbase_out {f : FuncId} {args : List Value} {h : H} (h1 : Nat.beq f 123 = false) (h2 : Nat.beq f 130 = false) : I0 f args h = none := by
  unfold I0
  rw [h1, h2]
theorem ssaid_out {S : Says} {I : Known} {f : FuncId} {args : List Value} {h : H} {fs : List Nat} (hS : ∀ s f args h v, S s f args h v → f ∈ fs) (hf : fs.any (Nat.beq f) = false) : saidBy S I f args h = I f args h := by
  unfold saidBy
  rw [dif_neg]
  rintro ⟨v, s, h1⟩
  rw [List.any_eq_false] at hf
  exact hf f (hS _ _ _ _ _ h1) (by simp)
noncomputable def S35 (E : Env) : Known := saidBy (says35 E) I0
theorem S35_out {E : Env} {f : FuncId} {args : List Value} {h : H} (hf : ([35] : List Nat).any (Nat.beq f) = false) : S35 E f args h = I0 f args h :=
  ssaid_out (fun s f args h v hs => by rw [hs.1]; exact List.mem_singleton.2 rfl) hf
noncomputable def S65 (E : Env) : Known := saidBy (says65 E) (S35 E)
theorem S65_out {E : Env} {f : FuncId} {args : List Value} {h : H} (hf : ([65] : List Nat).any (Nat.beq f) = false) : S65 E f args h = S35 E f args h :=
  ssaid_out (fun s f args h v hs => by rw [hs.1]; exact List.mem_singleton.2 rfl) hf
noncomputable def S14 (E : Env) : Known := saidBy (says14 E) (S65 E)
theorem S14_out {E : Env} {f : FuncId} {args : List Value} {h : H} (hf : ([14, 53, 89, 55] : List Nat).any (Nat.beq f) = false) : S14 E f args h = S65 E f args h :=
  ssaid_out (fun s f args h v hs => by rcases hs with ⟨rfl, _⟩ | ⟨rfl, _⟩ | ⟨rfl, _⟩ | ⟨rfl, _⟩ <;> decide) hf
noncomputable def Slaw (E : Env) : Known := fun f args h => match Nat.beq f 11, args with
  | true, [] => some (some (.bool true, h))
  | true, _ => none
  | false, _ => (S14 E) f args h
theorem Slaw_out {E : Env} {f : FuncId} {args : List Value} {h : H} (hf : Nat.beq f 11 = false) : Slaw E f args h = (S14 E) f args h := by
  unfold Slaw
  rw [hf]
theorem S65_none {E : Env} {f : FuncId} {args : List Value} {h : H} (hf : ([65, 35, 123, 130] : List Nat).any (Nat.beq f) = false) : S65 E f args h = none := by
  simp only [List.any_cons, List.any_nil, Bool.or_eq_false_iff] at hf
  rw [S65_out (by simp [hf.1]), S35_out (by simp [hf.2.1]), sbase_out hf.2.2.1 hf.2.2.2.1]
theorem S35_good (E : Env) : KnownGood Tryd.prog tab E n0 (S35 E) := saidByF_good tab_of noNum (known0 E n0) (shown35 (fun f args h hf => by
    rcases hf with rfl | rfl | rfl | rfl <;> exact sbase_out (by decide) (by decide)))
theorem S65_good (E : Env) : KnownGood Tryd.prog tab E n0 (S65 E) := saidByF_good tab_of noNum (S35_good E) (shown65 (fun a h => (S35_out (by decide)).trans (sbase_out (by decide) (by decide))) (fun t xv h hr hz => saidBy_eq (one35 E) ⟨rfl, rfl, t, xv, rfl, hr, hz, rfl⟩))
theorem S14_good (E : Env) : KnownGood Tryd.prog tab E n0 (S14 E) := saidByF_good tab_of noNum (S65_good E) (shown14 (fun f args h hf => by
    rcases hf with rfl | rfl | rfl | rfl | rfl <;> exact S65_none (by decide)))
theorem Slaw_good {E : Env} (hE : ∀ b o v, E0 b o = some v → E b o = some v) : KnownGood Tryd.prog tab E n0 (Slaw E) := by
  have key : ∀ {f args h r}, Slaw E f args h = some (some r) → (f = 11 ∧ args = [] ∧ r = (.bool true, h)) ∨ S14 E f args h = some (some r) := by
    intro f args h r hh
    unfold Slaw at hh
    split at hh
    · next e => cases hh; exact .inl ⟨Nat.eq_of_beq_eq_true e, rfl, rfl⟩
    · cases hh
    · exact .inr hh
  have hB := S14_good (n0 := n0) E
  refine ⟨fun f args h r h' hi φ w R hok => ?_, fun f args h r h' hi o => ?_, fun f args h r h' hi => ?_⟩
  · rcases key hi with ⟨rfl, rfl, he⟩ | h1
    · cases he; exact awake_sim hE R
    · exact hB.sim _ _ _ _ _ h1 φ w R hok
  · rcases key hi with ⟨rfl, rfl, he⟩ | h1
    · cases he; exact Lg.refl o
    · exact hB.lg _ _ _ _ _ h1 o
  · rcases key hi with ⟨rfl, rfl, he⟩ | h1
    · cases he; exact Nat.le_refl _
    · exact hB.next _ _ _ _ _ h1
theorem Slaw_none {E : Env} {f : FuncId} {args : List Value} {h : H} (hf : ([11, 14, 53, 89, 55, 65, 35, 123, 130] : List Nat).any (Nat.beq f) = false) : Slaw E f args h = none := by
  simp only [List.any_cons, List.any_nil, Bool.or_eq_false_iff] at hf
  rw [Slaw_out hf.1, S14_out (by simp [hf.2.1, hf.2.2.1, hf.2.2.2.1, hf.2.2.2.2.1]), S65_none (by simp [hf.2.2.2.2.2.1, hf.2.2.2.2.2.2.1, hf.2.2.2.2.2.2.2.1, hf.2.2.2.2.2.2.2.2.1])]
theorem salk (E : Env) : Alk E (Slaw E) := fun t xv yv h hr hr' hl hz => (Slaw_out (by decide)).trans (saidBy_eq (one14 E) (.inl ⟨rfl, t, xv, yv, 0, rfl, hr, hr', by decide, by omega, hz, rfl, rfl⟩))
theorem schk (E : Env) : Chk E (Slaw E) :=
  ⟨fun t xv h hr hz => (Slaw_out (by decide)).trans ((S14_out (by decide)).trans ((S65_out (by decide)).trans (saidBy_eq (one35 E) ⟨rfl, rfl, t, xv, rfl, hr, hz, rfl⟩))),
   fun ks sl h hr hz => (Slaw_out (by decide)).trans ((S14_out (by decide)).trans (saidBy_eq (one65 E) ⟨rfl, rfl, ks, sl, rfl, hr, hz, rfl⟩))⟩
theorem kn8 (E : Env) : Kn8 E (Slaw E) where
  out := fun f args h hf => by
    simp only [List.mem_cons, List.not_mem_nil, or_false] at hf
    rcases hf with rfl | rfl | rfl | rfl | rfl | rfl | rfl | rfl | rfl | rfl | rfl | rfl | rfl | rfl | rfl | rfl | rfl | rfl | rfl | rfl | rfl | rfl | rfl | rfl | rfl | rfl | rfl | rfl | rfl | rfl | rfl <;> exact Slaw_none (by decide)
  k11 := fun h => rfl
  kc := schk E
  k14 := salk E
end Go.Proofs.YtofijpbmbmbnhaaDoor
