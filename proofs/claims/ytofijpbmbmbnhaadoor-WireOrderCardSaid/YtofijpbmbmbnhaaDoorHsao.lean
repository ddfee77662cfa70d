/- The law on the order: all pairs are compared. -/
import Derived.Test.YtofijpbmbmbnhaaDoorHsan
set_option linter.unusedSimpArgs false
set_option linter.unusedVariables false
set_option maxRecDepth 100000
set_option maxHeartbeats 8000000
namespace Go.Proofs.YtofijpbmbmbnhaaDoor
open Go Go.Hs Go.Proofs
variable {E : Env} {I : Known}

theorem fn6 : tab.fn.get 6 = some Tryd.f6 := by kernel_rfl
theorem ty49 : tab.ty.get 49 = some ⟨.array 3 3 1, 3, 24, some (.agg #[.int .i64 0, .int .i64 0, .int .i64 0]), true⟩ := by kernel_rfl
theorem ty50 : tab.ty.get 50 = some ⟨.array 3 49 3, 9, 72, some (.agg #[.int .i64 0, .int .i64 0, .int .i64 0, .int .i64 0, .int .i64 0, .int .i64 0, .int .i64 0, .int .i64 0, .int .i64 0]), true⟩ := by kernel_rfl
theorem tz50 : tzero tab 50 = some (.agg #[.int .i64 0, .int .i64 0, .int .i64 0, .int .i64 0, .int .i64 0, .int .i64 0, .int .i64 0, .int .i64 0, .int .i64 0]) := by unfold tzero; rw [ty50]
theorem ia50 (a : Addr) (i : Int) (hi : inRange i 3 = true) : aindexAddr tab 50 (.pointer (some a)) (.int .i64 i) = some (.pointer (some (aadd a (i.toNat * 3)))) := by unfold aindexAddr; simp only [ty50, hi]
theorem ia49 (a : Addr) (i : Int) (hi : inRange i 3 = true) : aindexAddr tab 49 (.pointer (some a)) (.int .i64 i) = some (.pointer (some (aadd a (i.toNat * 1)))) := by unfold aindexAddr; simp only [ty49, hi]
theorem aadd_own (k a b : Nat) : aadd (aadd (own k) a) b = aadd (own k) (a + b) := by
  simp only [aadd, own, Nat.zero_add]
theorem in3 {i : Nat} (h : i < 3) : inRange (i : Int) 3 = true := by
  show Nat.blt i 3 = true
  rw [Nat.blt_eq]; exact h

/-- The numbers that the law keeps: n of them are there. -/
def mat (o : Nat → Nat → Int) (n : Nat) : List Value := (List.range 9).map fun m => if m < n then .int .i64 (o (m / 3) (m % 3)) else .int .i64 0
theorem mat_len (o : Nat → Nat → Int) (n : Nat) : (mat o n).length = 9 := by simp [mat]
theorem mat_one (o : Nat → Nat → Int) (n : Nat) : (mat o n).all isOne = true := by
  rw [List.all_eq_true]
  intro x hx
  unfold mat at hx
  obtain ⟨m, _, rfl⟩ := List.mem_map.1 hx
  split <;> rfl
theorem mat_get (o : Nat → Nat → Int) {i j : Nat} (hi : i < 3) (hj : j < 3) : (mat o 9)[i * 3 + j]? = some (.int .i64 (o i j)) := by
  unfold mat
  rw [List.getElem?_map, List.getElem?_range (by omega)]
  simp only [Option.map]
  rw [if_pos (by omega), show (i * 3 + j) / 3 = i by omega, show (i * 3 + j) % 3 = j by omega]
theorem mat_set (o : Nat → Nat → Int) {i j : Nat} (hi : i < 3) (hj : j < 3) : (mat o (i * 3 + j)).take (i * 3 + j) ++ [.int .i64 (o i j)] ++ (mat o (i * 3 + j)).drop (i * 3 + j + 1) = mat o (i * 3 + j + 1) := by
  obtain rfl | rfl | rfl : i = 0 ∨ i = 1 ∨ i = 2 := by omega
  all_goals
    obtain rfl | rfl | rfl : j = 0 ∨ j = 1 ∨ j = 2 := by omega
    all_goals rfl
theorem mat_0 (o : Nat → Nat → Int) : mat o 0 = [.int .i64 0, .int .i64 0, .int .i64 0, .int .i64 0, .int .i64 0, .int .i64 0, .int .i64 0, .int .i64 0, .int .i64 0] := rfl

theorem st_mat {k : Nat} {o : Nat → Nat → Int} {i j : Nat} (hi : i < 3) (hj : j < 3) {g : H} (hb : g.blk k = some (.cells (mat o (i * 3 + j)) 50 none)) (hm : g.mark ≤ k) : astore tab 3 (aadd (aadd (own k) (i * 3)) (j * 1)) (.int .i64 (o i j)) g = some (g.setb k (.cells (mat o (i * 3 + j + 1)) 50 none)) := by
  unfold astore
  rw [ty3, aadd_own, Nat.mul_one, ← mat_set o hi hj]
  exact put_plain (o := i * 3 + j) (vs := [.int .i64 (o i j)]) hb (by simp) (by rw [mat_len]; simp only [List.length_cons, List.length_nil]; omega) rfl hm
theorem ld_mat {k : Nat} {o : Nat → Nat → Int} {i j : Nat} (hi : i < 3) (hj : j < 3) {g : H} (hb : g.blk k = some (.cells (mat o 9) 50 none)) : g.cell E (aadd (aadd (own k) (i * 3)) (j * 1)) = some (.int .i64 (o i j)) := by
  rw [aadd_own, Nat.mul_one]
  exact blk_cell hb (mat_get o hi hj) rfl

noncomputable def loop6a : Code := loopAt Tryd.f6 0
noncomputable def loop6b : Code := loopAt Tryd.f6 1

/-- Three right items lie in a row. -/
def Row3 (E : Env) (g : H) (kA : Nat) (tI : Nat → Hs.Item) : Prop := ∀ i, i < 3 → ∃ q0 q1 q2 q3, g.cells E (aadd (own kA) (i * 4)) 4 = some [q0, q1, q2, q3] ∧ [q0, q1, q2, q3].all isOne = true ∧ rep E g (tI i) (.agg ⟨[q0, q1, q2, q3]⟩)
theorem Row3.grow {g g' : H} {kA : Nat} {tI : Nat → Hs.Item} (r : Row3 E g kA tI) (hg : Grows g g') : Row3 E g' kA tI := fun i hi => by
  obtain ⟨q0, q1, q2, q3, h1, h2, h3⟩ := r i hi
  exact ⟨q0, q1, q2, q3, cells_grow hg h1, h2, rep_grow hg h3⟩

/-- What stays of the temporaries. -/
structure Tm (A : Ac) (kA kM : Nat) : Prop where
  n : A.n = 242
  d : A.defers = []
  t7 : A.get 7 = .slice (some (own kA)) 3 3
  t8 : A.get 8 = .pointer (some (own kM))

theorem inner6 (h27 : ∀ t xv u yv h, rep E h t xv → rep E h u yv → isz t ≤ 400000 → isz u ≤ 400000 → I 27 [xv, yv] h = some (some (.tuple #[.int .i64 (cmpI t u).1, .int .i64 (cmpI t u).2], h))) {tI : Nat → Hs.Item} (hgood : ∀ i j, cmpI (tI i) (tI j) = (ordI (tI i) (tI j), 0)) (hz : ∀ i, isz (tI i) ≤ 400000) {h8 : H} (f8 : Fit h8) {kA kM : Nat} (hkM : h8.next ≤ kM) (R : Row3 E h8 kA tI) {i : Nat} (hi : i < 3) {k10 : Nat} (hk10 : kM < k10) {z0 z1 z2 z3 : Value} (zone : [z0, z1, z2, z3].all isOne = true) (zr : rep E h8 (tI i) (.agg ⟨[z0, z1, z2, z3]⟩)) :
    ∀ (r j : Nat) (A : Ac) (g : H), r = 3 - j → j ≤ 3 → Tm A kA kM → A.get 9 = .int .i64 (i : Nat) → A.get 10 = .pointer (some (own k10)) → A.get 37 = .slice (some (own kA)) 3 3 → A.get 38 = .int .i64 3 → A.get 39 = .int .i64 (i : Nat) → A.get 44 = .slice (some (own kA)) 3 3 → A.get 45 = .int .i64 3 → A.get 46 = .int .i64 (j : Nat) →
      Ahd h8 g → g.blk kM = some (.cells (mat (fun i j => ordI (tI i) (tI j)) (i * 3 + j)) 50 none) → g.blk k10 = some (.cells [z0, z1, z2, z3] 25 none) →
      Wc tab E I ⟨6, none⟩ (.loop loop6b) A g (fun ex A g => ex = .exit 2 ∧ Tm A kA kM ∧ A.get 37 = .slice (some (own kA)) 3 3 ∧ A.get 38 = .int .i64 3 ∧ A.get 39 = .int .i64 (i : Nat) ∧ Ahd h8 g ∧ g.blk kM = some (.cells (mat (fun i j => ordI (tI i) (tI j)) ((i + 1) * 3)) 50 none)) := by
  intro r
  induction r with
  | zero =>
    intro j A g hr hj T p9 p10 p37 p38 p39 p44 p45 p46 ah bM b10
    obtain rfl : j = 3 := by omega
    have hlt : decide (((3 : Nat) : Int) < 3) = false := rfl
    obtain ⟨nA, dA, p7, p8⟩ := T
    apply Wc.loop
    simp only [loop6b, loopAt, loops, List.getD, Option.getD, Tryd.f6, List.append_assoc, List.cons_append, List.nil_append, List.append_nil, List.getElem?_cons_zero, List.getElem?_cons_succ]
    repeat' (first
    | (with_reducible apply Wc.seq)
    | (refine Wc.ops (by repeat' (first
      | with_reducible exact RO.nil
      | ((with_reducible apply RO.run (awant_none rfl)); (focus ((first | simp (config := {decide := true}) only [awant, ayield_get, oper1, aop, opv, opvs, opvo, opvp, abuiltin, Ac.get_put, if_true, if_false, and_true, decide_true, abin, isShift, aint, roV, pair, bind, Option.bind, acall, Sx, nA, p45, p46, hlt] | skip); with_reducible rfl))))) ?_)
    | (refine Wc.cond2 (by simp (config := {decide := true}) only [opv, Ac.get_put, if_true, if_false, and_true, decide_true, Sx, nA, p45, p46, hlt]; try with_reducible rfl) (fun hb => ?_) (fun hb => ?_) <;> try contradiction)
    | refine Wc.skip ?_
    | refine Wc.ret ?_
    | refine Wc.exit ?_
    | refine Wc.block ?_)
    exact ⟨rfl, ⟨by simp (config := {decide := true}) only [Ac.get_put, if_true, if_false, and_true, Sx, nA], by simp (config := {decide := true}) only [Ac.get_put, if_true, if_false, and_true, Sx, dA], by simp (config := {decide := true}) only [Ac.get_put, if_true, if_false, and_true, Sx, nA, p7], by simp (config := {decide := true}) only [Ac.get_put, if_true, if_false, and_true, Sx, nA, p8]⟩, by simp (config := {decide := true}) only [Ac.get_put, if_true, if_false, and_true, Sx, nA, p37], by simp (config := {decide := true}) only [Ac.get_put, if_true, if_false, and_true, Sx, nA, p38], by simp (config := {decide := true}) only [Ac.get_put, if_true, if_false, and_true, Sx, nA, p39], ah, by rw [bM, show (i + 1) * 3 = i * 3 + 3 by omega]⟩
  | succ r ih =>
    intro j A g hr hj T p9 p10 p37 p38 p39 p44 p45 p46 ah bM b10
    have hj3 : j < 3 := by omega
    have hr1 : r = 3 - (j + 1) := by omega
    have hlt : decide ((j : Int) < 3) = true := by simp; omega
    obtain ⟨nA, dA, p7, p8⟩ := T
    obtain ⟨q0, q1, q2, q3, hc, hone, hrq⟩ := (R.grow ah.grows) j hj3
    have w3 : IntKind.i64.wrap ((j : Int) + 1) = (j : Int) + 1 := wrap64 (by omega) (by omega)
    generalize hh5 : g.new (.cells (Value.agg #[.int .i64 0, .int .i64 0, .string ⟨#[]⟩, .slice none 0 0]).cells.toList 25 none) = g1
    have u1 : Ahd g g1 := by rw [← hh5]; exact Ahd.new0 ah.fit rfl
    have cc1 : g1.blk g.next = some (.cells [.int .i64 0, .int .i64 0, .string ⟨#[]⟩, .slice none 0 0] 25 none) := by rw [← hh5]; exact new_blk_new rfl
    have hn1 : g1.next = g.next + 1 := by rw [← hh5]; rfl
    have hst := st25 (a := q0) (b := q1) (c := q2) (d := q3) cc1 hone (by rw [u1.mark]; exact ah.fit.ok.2)
    generalize hh6 : g1.setb g.next (.cells [q0, q1, q2, q3] 25 none) = g2 at hst
    have u2 : Ahd g g2 := by rw [← hh6]; exact u1.setb rfl (Nat.le_refl _) (by omega) ah.fit
    have cc2 : g2.blk g.next = some (.cells [q0, q1, q2, q3] 25 none) := by rw [← hh6]; exact setb_same rfl
    have b10' := u2.grows _ _ b10
    have bM' := u2.grows _ _ bM
    have l10 : g2.cells E (own k10) 4 = some [z0, z1, z2, z3] := blk_cells b10' rfl zone
    have l12 : g2.cells E (own g.next) 4 = some [q0, q1, q2, q3] := blk_cells cc2 rfl hone
    have c27 : (ev tab E I 1).call 27 [.agg ⟨[z0, z1, z2, z3]⟩, .agg ⟨[q0, q1, q2, q3]⟩] g2 = some (.tuple #[.int .i64 (ordI (tI i) (tI j)), .int .i64 0], g2) := by
      have := ev_known (D := tab) (E := E) (h27 _ _ _ _ g2 (rep_grow (ah.trans u2).grows zr) (rep_grow u2.grows hrq) (hz i) (hz j))
      rw [hgood] at this
      exact this
    have hrg := ordI_range (tI i) (tI j)
    have d1 : decide (ordI (tI i) (tI j) < -1) = false := by simp; omega
    have d2 : decide (ordI (tI i) (tI j) > 1) = false := by simp; omega
    have hsm := st_mat (o := fun i j => ordI (tI i) (tI j)) hi hj3 bM' (by rw [(ah.trans u2).mark]; have := f8.ok.2; omega)
    have lkM := u2.fit.lt bM'
    generalize hh7 : g2.setb kM (.cells (mat (fun i j => ordI (tI i) (tI j)) (i * 3 + j + 1)) 50 none) = g3 at hsm
    have u3 : Ahd h8 g3 := by rw [← hh7]; exact (ah.trans u2).setb rfl hkM lkM f8
    have bM3 : g3.blk kM = some (.cells (mat (fun i j => ordI (tI i) (tI j)) (i * 3 + j + 1)) 50 none) := by rw [← hh7]; exact setb_same rfl
    have b103 : g3.blk k10 = some (.cells [z0, z1, z2, z3] 25 none) := by rw [← hh7, setb_ne (by omega)]; exact b10'
    apply Wc.loop
    simp only [loop6b, loopAt, loops, List.getD, Option.getD, Tryd.f6, List.append_assoc, List.cons_append, List.nil_append, List.append_nil, List.getElem?_cons_zero, List.getElem?_cons_succ]
    repeat' (first
    | (with_reducible apply Wc.seq)
    | (refine Wc.ops (by repeat' (first
      | with_reducible exact RO.nil
      | ((with_reducible apply RO.run (awant_none rfl)); (focus ((first | simp (config := {decide := true}) only [awant, ayield_get, oper1, aop, opv, opvs, opvo, opvp, abuiltin, Ac.get_put, if_true, if_false, and_true, decide_true, abin, isShift, aint, roV, pair, bind, Option.bind, acall, Sx, nA, p8, p9, p10, p44, p45, p46, hlt, ia23 _ _ _ _ (in3 hj3), Int.toNat_natCast, ld25, hc, tz25, hh5, hst, l10, l12, c27, ex0, ex1, d1, d2, ia50 _ _ (in3 hi), ia49 _ _ (in3 hj3), hsm, w3] | skip); with_reducible rfl)))
      | ((with_reducible apply RO.runG); (focus rfl); (focus rfl); (focus (simp (config := {decide := true}) only [awant, ayield_get, oper1, aop, opv, opvs, opvo, opvp, abuiltin, Ac.get_put, if_true, if_false, and_true, decide_true, abin, isShift, aint, roV, pair, bind, Option.bind, acall, Sx, nA, p8, p9, p10, p44, p45, p46, hlt, ia23 _ _ _ _ (in3 hj3), Int.toNat_natCast, ld25, hc, tz25, hh5, hst, l10, l12, c27, ex0, ex1, d1, d2, ia50 _ _ (in3 hi), ia49 _ _ (in3 hj3), hsm, w3]; done)); (focus ((first | simp (config := {decide := true}) only [awant, ayield_get, oper1, aop, opv, opvs, opvo, opvp, abuiltin, Ac.get_put, if_true, if_false, and_true, decide_true, abin, isShift, aint, roV, pair, bind, Option.bind, acall, Sx, nA, p8, p9, p10, p44, p45, p46, hlt, ia23 _ _ _ _ (in3 hj3), Int.toNat_natCast, ld25, hc, tz25, hh5, hst, l10, l12, c27, ex0, ex1, d1, d2, ia50 _ _ (in3 hi), ia49 _ _ (in3 hj3), hsm, w3] | skip); with_reducible rfl)))
      | ((with_reducible apply RO.skipG); (focus rfl); (focus rfl); (focus (simp (config := {decide := true}) only [awant, ayield_get, oper1, aop, opv, opvs, opvo, opvp, abuiltin, Ac.get_put, if_true, if_false, and_true, decide_true, abin, isShift, aint, roV, pair, bind, Option.bind, acall, Sx, nA, p8, p9, p10, p44, p45, p46, hlt, ia23 _ _ _ _ (in3 hj3), Int.toNat_natCast, ld25, hc, tz25, hh5, hst, l10, l12, c27, ex0, ex1, d1, d2, ia50 _ _ (in3 hi), ia49 _ _ (in3 hj3), hsm, w3]; done))))) ?_)
    | (refine Wc.quiet (by kernel_rfl) (by repeat' (first
      | with_reducible exact QO.nil
      | ((with_reducible apply QO.cons rfl rfl); (focus ((first | simp (config := {decide := true}) only [awant, ayield_get, oper1, aop, opv, opvs, opvo, opvp, abuiltin, Ac.get_put, if_true, if_false, and_true, decide_true, abin, isShift, aint, roV, pair, bind, Option.bind, acall, Sx, nA, p8, p9, p10, p44, p45, p46, hlt, ia23 _ _ _ _ (in3 hj3), Int.toNat_natCast, ld25, hc, tz25, hh5, hst, l10, l12, c27, ex0, ex1, d1, d2, ia50 _ _ (in3 hi), ia49 _ _ (in3 hj3), hsm, w3] | skip); with_reducible rfl))))) ?_)
    | (refine Wc.cond2 (by simp (config := {decide := true}) only [opv, Ac.get_put, if_true, if_false, and_true, decide_true, Sx, nA, p8, p9, p10, p44, p45, p46, hlt, ia23 _ _ _ _ (in3 hj3), Int.toNat_natCast, ld25, hc, tz25, hh5, hst, l10, l12, c27, ex0, ex1, d1, d2, ia50 _ _ (in3 hi), ia49 _ _ (in3 hj3), hsm, w3]; try with_reducible rfl) (fun hb => ?_) (fun hb => ?_) <;> try contradiction)
    | refine Wc.skip ?_
    | refine Wc.ret ?_
    | refine Wc.exit ?_
    | refine Wc.block ?_)
    refine (ih (j + 1) _ g3 hr1 hj3 ⟨?_, ?_, ?_, ?_⟩ ?_ ?_ ?_ ?_ ?_ ?_ ?_ ?_ u3 (by rw [bM3, Nat.add_assoc]) b103).mono (fun _ _ _ h => h)
    · simp (config := {decide := true}) only [Ac.get_put, if_true, if_false, and_true, Sx, nA]
    · simp (config := {decide := true}) only [Ac.get_put, if_true, if_false, and_true, Sx, dA]
    · simp (config := {decide := true}) only [Ac.get_put, if_true, if_false, and_true, Sx, nA, p7]
    · simp (config := {decide := true}) only [Ac.get_put, if_true, if_false, and_true, Sx, nA, p8]
    · simp (config := {decide := true}) only [Ac.get_put, if_true, if_false, and_true, Sx, nA, p9]
    · simp (config := {decide := true}) only [Ac.get_put, if_true, if_false, and_true, Sx, nA, p10]
    · simp (config := {decide := true}) only [Ac.get_put, if_true, if_false, and_true, Sx, nA, p37]
    · simp (config := {decide := true}) only [Ac.get_put, if_true, if_false, and_true, Sx, nA, p38]
    · simp (config := {decide := true}) only [Ac.get_put, if_true, if_false, and_true, Sx, nA, p39]
    · simp (config := {decide := true}) only [Ac.get_put, if_true, if_false, and_true, Sx, nA, p44]
    · simp (config := {decide := true}) only [Ac.get_put, if_true, if_false, and_true, Sx, nA, p45]
    · simp (config := {decide := true}) only [Ac.get_put, if_true, if_false, and_true, Sx, nA]
      rfl
end Go.Proofs.YtofijpbmbmbnhaaDoor
/- The law on the order: the pairs, the triples. -/
set_option maxRecDepth 100000
set_option maxHeartbeats 8000000
namespace Go.Proofs.YtofijpbmbmbnhaaDoor
open Go Go.Hs Go.Proofs
variable {E : Env} {I : Known}

theorem outer6 (h27 : ∀ t xv u yv h, rep E h t xv → rep E h u yv → isz t ≤ 400000 → isz u ≤ 400000 → I 27 [xv, yv] h = some (some (.tuple #[.int .i64 (cmpI t u).1, .int .i64 (cmpI t u).2], h))) {tI : Nat → Hs.Item} (hgood : ∀ i j, cmpI (tI i) (tI j) = (ordI (tI i) (tI j), 0)) (hz : ∀ i, isz (tI i) ≤ 400000) {h8 : H} (f8 : Fit h8) {kA kM : Nat} (hkM : h8.next ≤ kM) (R : Row3 E h8 kA tI) :
    ∀ (r i : Nat) (A : Ac) (g : H), r = 3 - i → i ≤ 3 → Tm A kA kM → A.get 37 = .slice (some (own kA)) 3 3 → A.get 38 = .int .i64 3 → A.get 39 = .int .i64 (i : Nat) →
      Ahd h8 g → g.blk kM = some (.cells (mat (fun i j => ordI (tI i) (tI j)) (i * 3)) 50 none) →
      Wc tab E I ⟨6, none⟩ (.loop loop6a) A g (fun ex A g => ex = .exit 0 ∧ Tm A kA kM ∧ Ahd h8 g ∧ g.blk kM = some (.cells (mat (fun i j => ordI (tI i) (tI j)) 9) 50 none)) := by
  intro r
  induction r with
  | zero =>
    intro i A g hr hi T p37 p38 p39 ah bM
    obtain rfl : i = 3 := by omega
    have hlt : decide (((3 : Nat) : Int) < 3) = false := rfl
    obtain ⟨nA, dA, p7, p8⟩ := T
    apply Wc.loop
    simp only [loop6a, loopAt, loops, List.getD, Option.getD, Tryd.f6, List.append_assoc, List.cons_append, List.nil_append, List.append_nil, List.getElem?_cons_zero, List.getElem?_cons_succ]
    repeat' (first
    | (with_reducible apply Wc.seq)
    | (refine Wc.ops (by repeat' (first
      | with_reducible exact RO.nil
      | ((with_reducible apply RO.run (awant_none rfl)); (focus ((first | simp (config := {decide := true}) only [awant, ayield_get, oper1, aop, opv, opvs, opvo, opvp, abuiltin, Ac.get_put, if_true, if_false, and_true, decide_true, abin, isShift, aint, roV, pair, bind, Option.bind, acall, Sx, nA, p38, p39, hlt] | skip); with_reducible rfl))))) ?_)
    | (refine Wc.cond2 (by simp (config := {decide := true}) only [opv, Ac.get_put, if_true, if_false, and_true, decide_true, Sx, nA, p38, p39, hlt]; try with_reducible rfl) (fun hb => ?_) (fun hb => ?_) <;> try contradiction)
    | refine Wc.skip ?_
    | refine Wc.ret ?_
    | refine Wc.exit ?_
    | refine Wc.block ?_)
    exact ⟨rfl, ⟨by simp (config := {decide := true}) only [Ac.get_put, if_true, if_false, and_true, Sx, nA], by simp (config := {decide := true}) only [Ac.get_put, if_true, if_false, and_true, Sx, dA], by simp (config := {decide := true}) only [Ac.get_put, if_true, if_false, and_true, Sx, nA, p7], by simp (config := {decide := true}) only [Ac.get_put, if_true, if_false, and_true, Sx, nA, p8]⟩, ah, bM⟩
  | succ r ih =>
    intro i A g hr hi T p37 p38 p39 ah bM
    have hi3 : i < 3 := by omega
    have hr1 : r = 3 - (i + 1) := by omega
    have hlt : decide ((i : Int) < 3) = true := by simp; omega
    obtain ⟨nA, dA, p7, p8⟩ := T
    have Rg := R.grow ah.grows
    obtain ⟨z0, z1, z2, z3, hc, zone, zr⟩ := R i hi3
    have hc := cells_grow ah.grows hc
    have w3 : IntKind.i64.wrap ((i : Int) + 1) = (i : Int) + 1 := wrap64 (by omega) (by omega)
    generalize hh5 : g.new (.cells (Value.agg #[.int .i64 0, .int .i64 0, .string ⟨#[]⟩, .slice none 0 0]).cells.toList 25 none) = g1
    have u1 : Ahd g g1 := by rw [← hh5]; exact Ahd.new0 ah.fit rfl
    have cc1 : g1.blk g.next = some (.cells [.int .i64 0, .int .i64 0, .string ⟨#[]⟩, .slice none 0 0] 25 none) := by rw [← hh5]; exact new_blk_new rfl
    have hn1 : g1.next = g.next + 1 := by rw [← hh5]; rfl
    have hst := st25 (a := z0) (b := z1) (c := z2) (d := z3) cc1 zone (by rw [u1.mark]; exact ah.fit.ok.2)
    generalize hh6 : g1.setb g.next (.cells [z0, z1, z2, z3] 25 none) = g2 at hst
    have u2 : Ahd g g2 := by rw [← hh6]; exact u1.setb rfl (Nat.le_refl _) (by omega) ah.fit
    have cc2 : g2.blk g.next = some (.cells [z0, z1, z2, z3] 25 none) := by rw [← hh6]; exact setb_same rfl
    have bM' := u2.grows _ _ bM
    have lkM := ah.fit.lt bM
    apply Wc.loop
    simp only [loop6a, loopAt, loops, List.getD, Option.getD, Tryd.f6, List.append_assoc, List.cons_append, List.nil_append, List.append_nil, List.getElem?_cons_zero, List.getElem?_cons_succ]
    repeat' (first
    | (with_reducible apply Wc.seq)
    | (refine Wc.ops (by repeat' (first
      | with_reducible exact RO.nil
      | ((with_reducible apply RO.run (awant_none rfl)); (focus ((first | simp (config := {decide := true}) only [awant, ayield_get, oper1, aop, opv, opvs, opvo, opvp, abuiltin, Ac.get_put, if_true, if_false, and_true, decide_true, abin, isShift, aint, roV, pair, bind, Option.bind, acall, Sx, nA, p7, p37, p38, p39, hlt, ia23 _ _ _ _ (in3 hi3), Int.toNat_natCast, ld25, hc, tz25, hh5, hst, len23] | skip); with_reducible rfl))))) ?_)
    | (refine Wc.cond2 (by simp (config := {decide := true}) only [opv, Ac.get_put, if_true, if_false, and_true, decide_true, Sx, nA, p7, p37, p38, p39, hlt, ia23 _ _ _ _ (in3 hi3), Int.toNat_natCast, ld25, hc, tz25, hh5, hst, len23]; try with_reducible rfl) (fun hb => ?_) (fun hb => ?_) <;> try contradiction)
    | refine Wc.skip ?_
    | refine Wc.ret ?_
    | refine Wc.exit ?_
    | refine Wc.block ?_)
    refine (inner6 h27 hgood hz f8 hkM R hi3 lkM zone zr 3 0 _ g2 rfl (by omega) ⟨?_, ?_, ?_, ?_⟩ ?_ ?_ ?_ ?_ ?_ ?_ ?_ ?_ (ah.trans u2) bM' cc2).mono ?_
    · simp (config := {decide := true}) only [Ac.get_put, if_true, if_false, and_true, Sx, nA]
    · simp (config := {decide := true}) only [Ac.get_put, if_true, if_false, and_true, Sx, dA]
    · simp (config := {decide := true}) only [Ac.get_put, if_true, if_false, and_true, Sx, nA, p7]
    · simp (config := {decide := true}) only [Ac.get_put, if_true, if_false, and_true, Sx, nA, p8]
    · simp (config := {decide := true}) only [Ac.get_put, if_true, if_false, and_true, Sx, nA, p39]
    · simp (config := {decide := true}) only [Ac.get_put, if_true, if_false, and_true, Sx, nA]
    · simp (config := {decide := true}) only [Ac.get_put, if_true, if_false, and_true, Sx, nA, p37]
    · simp (config := {decide := true}) only [Ac.get_put, if_true, if_false, and_true, Sx, nA, p38]
    · simp (config := {decide := true}) only [Ac.get_put, if_true, if_false, and_true, Sx, nA, p39]
    · simp (config := {decide := true}) only [Ac.get_put, if_true, if_false, and_true, Sx, nA, p7]
    · simp (config := {decide := true}) only [Ac.get_put, if_true, if_false, and_true, Sx, nA]
      rfl
    · simp (config := {decide := true}) only [Ac.get_put, if_true, if_false, and_true, Sx, nA]
      rfl
    · rintro ex A g ⟨rfl, ⟨nA, dA, p7, p8⟩, p37, p38, p39, ah, bM⟩
      simp only [if_true]
      repeat' (first
    | (with_reducible apply Wc.seq)
    | (refine Wc.ops (by repeat' (first
      | with_reducible exact RO.nil
      | ((with_reducible apply RO.run (awant_none rfl)); (focus ((first | simp (config := {decide := true}) only [awant, ayield_get, oper1, aop, opv, opvs, opvo, opvp, abuiltin, Ac.get_put, if_true, if_false, and_true, decide_true, abin, isShift, aint, roV, pair, bind, Option.bind, acall, Sx, nA, p39, w3] | skip); with_reducible rfl))))) ?_)
    | (refine Wc.cond2 (by simp (config := {decide := true}) only [opv, Ac.get_put, if_true, if_false, and_true, decide_true, Sx, nA, p39, w3]; try with_reducible rfl) (fun hb => ?_) (fun hb => ?_) <;> try contradiction)
    | refine Wc.skip ?_
    | refine Wc.ret ?_
    | refine Wc.exit ?_
    | refine Wc.block ?_)
      refine (ih (i + 1) _ g hr1 hi3 ⟨?_, ?_, ?_, ?_⟩ ?_ ?_ ?_ ah bM).mono (fun _ _ _ h => h)
      · simp (config := {decide := true}) only [Ac.get_put, if_true, if_false, and_true, Sx, nA]
      · simp (config := {decide := true}) only [Ac.get_put, if_true, if_false, and_true, Sx, dA]
      · simp (config := {decide := true}) only [Ac.get_put, if_true, if_false, and_true, Sx, nA, p7]
      · simp (config := {decide := true}) only [Ac.get_put, if_true, if_false, and_true, Sx, nA, p8]
      · simp (config := {decide := true}) only [Ac.get_put, if_true, if_false, and_true, Sx, nA, p37]
      · simp (config := {decide := true}) only [Ac.get_put, if_true, if_false, and_true, Sx, nA, p38]
      · simp (config := {decide := true}) only [Ac.get_put, if_true, if_false, and_true, Sx, nA]
        rfl

noncomputable def loop6c : Code := loopAt Tryd.f6 2
noncomputable def loop6d : Code := loopAt Tryd.f6 3
noncomputable def loop6e : Code := loopAt Tryd.f6 4

theorem trip6 {o : Nat → Nat → Int} (hT : ∀ i j k, o i j ≤ 0 → o j k ≤ 0 → ¬ o i k > 0) {kA kM : Nat} {g : H} (bM : g.blk kM = some (.cells (mat o 9) 50 none)) {i j : Nat} (hi : i < 3) (hj : j < 3) :
    ∀ (r k : Nat) (A : Ac), r = 3 - k → k ≤ 3 → Tm A kA kM → A.get 15 = .int .i64 (i : Nat) → A.get 16 = .int .i64 (j : Nat) → A.get 74 = .int .i64 (i : Nat) → A.get 77 = .int .i64 (j : Nat) → A.get 92 = .int .i64 (k : Nat) →
      Wc tab E I ⟨6, none⟩ (.loop loop6e) A g (fun ex A g' => ex = .exit 8 ∧ Tm A kA kM ∧ A.get 15 = .int .i64 (i : Nat) ∧ A.get 74 = .int .i64 (i : Nat) ∧ A.get 77 = .int .i64 (j : Nat) ∧ g' = g) := by
  intro r
  induction r with
  | zero =>
    intro k A hr hk T p15 p16 p74 p77 p92
    obtain rfl : k = 3 := by omega
    have hlt : decide (((3 : Nat) : Int) < 3) = false := rfl
    obtain ⟨nA, dA, p7, p8⟩ := T
    apply Wc.loop
    simp only [loop6e, loopAt, loops, List.getD, Option.getD, Tryd.f6, List.append_assoc, List.cons_append, List.nil_append, List.append_nil, List.getElem?_cons_zero, List.getElem?_cons_succ]
    repeat' (first
    | (with_reducible apply Wc.seq)
    | (refine Wc.ops (by repeat' (first
      | with_reducible exact RO.nil
      | ((with_reducible apply RO.run (awant_none rfl)); (focus ((first | simp (config := {decide := true}) only [awant, ayield_get, oper1, aop, opv, opvs, opvo, opvp, abuiltin, Ac.get_put, if_true, if_false, and_true, decide_true, abin, isShift, aint, roV, pair, bind, Option.bind, acall, Sx, nA, p92, hlt] | skip); with_reducible rfl))))) ?_)
    | (refine Wc.cond2 (by simp (config := {decide := true}) only [opv, Ac.get_put, if_true, if_false, and_true, decide_true, Sx, nA, p92, hlt]; try with_reducible rfl) (fun hb => ?_) (fun hb => ?_) <;> try contradiction)
    | refine Wc.skip ?_
    | refine Wc.ret ?_
    | refine Wc.exit ?_
    | refine Wc.block ?_)
    exact ⟨rfl, ⟨by simp (config := {decide := true}) only [Ac.get_put, if_true, if_false, and_true, Sx, nA], by simp (config := {decide := true}) only [Ac.get_put, if_true, if_false, and_true, Sx, dA], by simp (config := {decide := true}) only [Ac.get_put, if_true, if_false, and_true, Sx, nA, p7], by simp (config := {decide := true}) only [Ac.get_put, if_true, if_false, and_true, Sx, nA, p8]⟩, by simp (config := {decide := true}) only [Ac.get_put, if_true, if_false, and_true, Sx, nA, p15], by simp (config := {decide := true}) only [Ac.get_put, if_true, if_false, and_true, Sx, nA, p74], by simp (config := {decide := true}) only [Ac.get_put, if_true, if_false, and_true, Sx, nA, p77], rfl⟩
  | succ r ih =>
    intro k A hr hk T p15 p16 p74 p77 p92
    have hk3 : k < 3 := by omega
    have hr1 : r = 3 - (k + 1) := by omega
    have hlt : decide ((k : Int) < 3) = true := by simp; omega
    obtain ⟨nA, dA, p7, p8⟩ := T
    have w3 : IntKind.i64.wrap ((k : Int) + 1) = (k : Int) + 1 := wrap64 (by omega) (by omega)
    have l1 := ld_mat (E := E) hi hj bM
    have l2 := ld_mat (E := E) hj hk3 bM
    have l3 := ld_mat (E := E) hi hk3 bM
    by_cases c1 : o i j ≤ 0
    · have d1 : decide (o i j ≤ 0) = true := by simpa using c1
      by_cases c2 : o j k ≤ 0
      · have d2 : decide (o j k ≤ 0) = true := by simpa using c2
        have d3 : decide (o i k > 0) = false := by simpa using hT i j k c1 c2
        apply Wc.loop
        simp only [loop6e, loopAt, loops, List.getD, Option.getD, Tryd.f6, List.append_assoc, List.cons_append, List.nil_append, List.append_nil, List.getElem?_cons_zero, List.getElem?_cons_succ]
        repeat' (first
    | (with_reducible apply Wc.seq)
    | (refine Wc.ops (by repeat' (first
      | with_reducible exact RO.nil
      | ((with_reducible apply RO.run (awant_none rfl)); (focus ((first | simp (config := {decide := true}) only [awant, ayield_get, oper1, aop, opv, opvs, opvo, opvp, abuiltin, Ac.get_put, if_true, if_false, and_true, decide_true, abin, isShift, aint, roV, pair, bind, Option.bind, acall, Sx, nA, p8, p15, p16, p92, hlt, ia50 _ _ (in3 hi), ia50 _ _ (in3 hj), ia49 _ _ (in3 hj), ia49 _ _ (in3 hk3), Int.toNat_natCast, ld3, l1, l2, l3, d1, d2, d3, w3] | skip); with_reducible rfl)))
      | ((with_reducible apply RO.runG); (focus rfl); (focus rfl); (focus (simp (config := {decide := true}) only [awant, ayield_get, oper1, aop, opv, opvs, opvo, opvp, abuiltin, Ac.get_put, if_true, if_false, and_true, decide_true, abin, isShift, aint, roV, pair, bind, Option.bind, acall, Sx, nA, p8, p15, p16, p92, hlt, ia50 _ _ (in3 hi), ia50 _ _ (in3 hj), ia49 _ _ (in3 hj), ia49 _ _ (in3 hk3), Int.toNat_natCast, ld3, l1, l2, l3, d1, d2, d3, w3]; done)); (focus ((first | simp (config := {decide := true}) only [awant, ayield_get, oper1, aop, opv, opvs, opvo, opvp, abuiltin, Ac.get_put, if_true, if_false, and_true, decide_true, abin, isShift, aint, roV, pair, bind, Option.bind, acall, Sx, nA, p8, p15, p16, p92, hlt, ia50 _ _ (in3 hi), ia50 _ _ (in3 hj), ia49 _ _ (in3 hj), ia49 _ _ (in3 hk3), Int.toNat_natCast, ld3, l1, l2, l3, d1, d2, d3, w3] | skip); with_reducible rfl)))
      | ((with_reducible apply RO.skipG); (focus rfl); (focus rfl); (focus (simp (config := {decide := true}) only [awant, ayield_get, oper1, aop, opv, opvs, opvo, opvp, abuiltin, Ac.get_put, if_true, if_false, and_true, decide_true, abin, isShift, aint, roV, pair, bind, Option.bind, acall, Sx, nA, p8, p15, p16, p92, hlt, ia50 _ _ (in3 hi), ia50 _ _ (in3 hj), ia49 _ _ (in3 hj), ia49 _ _ (in3 hk3), Int.toNat_natCast, ld3, l1, l2, l3, d1, d2, d3, w3]; done))))) ?_)
    | (refine Wc.quiet (by kernel_rfl) (by repeat' (first
      | with_reducible exact QO.nil
      | ((with_reducible apply QO.cons rfl rfl); (focus ((first | simp (config := {decide := true}) only [awant, ayield_get, oper1, aop, opv, opvs, opvo, opvp, abuiltin, Ac.get_put, if_true, if_false, and_true, decide_true, abin, isShift, aint, roV, pair, bind, Option.bind, acall, Sx, nA, p8, p15, p16, p92, hlt, ia50 _ _ (in3 hi), ia50 _ _ (in3 hj), ia49 _ _ (in3 hj), ia49 _ _ (in3 hk3), Int.toNat_natCast, ld3, l1, l2, l3, d1, d2, d3, w3] | skip); with_reducible rfl))))) ?_)
    | (refine Wc.cond2 (by simp (config := {decide := true}) only [opv, Ac.get_put, if_true, if_false, and_true, decide_true, Sx, nA, p8, p15, p16, p92, hlt, ia50 _ _ (in3 hi), ia50 _ _ (in3 hj), ia49 _ _ (in3 hj), ia49 _ _ (in3 hk3), Int.toNat_natCast, ld3, l1, l2, l3, d1, d2, d3, w3]; try with_reducible rfl) (fun hb => ?_) (fun hb => ?_) <;> try contradiction)
    | refine Wc.skip ?_
    | refine Wc.ret ?_
    | refine Wc.exit ?_
    | refine Wc.block ?_)
        refine (ih (k + 1) _ hr1 hk3 ⟨?_, ?_, ?_, ?_⟩ ?_ ?_ ?_ ?_ ?_).mono (fun _ _ _ h => h)
        · simp (config := {decide := true}) only [Ac.get_put, if_true, if_false, and_true, Sx, nA]
        · simp (config := {decide := true}) only [Ac.get_put, if_true, if_false, and_true, Sx, dA]
        · simp (config := {decide := true}) only [Ac.get_put, if_true, if_false, and_true, Sx, nA, p7]
        · simp (config := {decide := true}) only [Ac.get_put, if_true, if_false, and_true, Sx, nA, p8]
        · simp (config := {decide := true}) only [Ac.get_put, if_true, if_false, and_true, Sx, nA, p15]
        · simp (config := {decide := true}) only [Ac.get_put, if_true, if_false, and_true, Sx, nA, p16]
        · simp (config := {decide := true}) only [Ac.get_put, if_true, if_false, and_true, Sx, nA, p74]
        · simp (config := {decide := true}) only [Ac.get_put, if_true, if_false, and_true, Sx, nA, p77]
        · simp (config := {decide := true}) only [Ac.get_put, if_true, if_false, and_true, Sx, nA]
          rfl
      · have d2 : decide (o j k ≤ 0) = false := by simpa using c2
        apply Wc.loop
        simp only [loop6e, loopAt, loops, List.getD, Option.getD, Tryd.f6, List.append_assoc, List.cons_append, List.nil_append, List.append_nil, List.getElem?_cons_zero, List.getElem?_cons_succ]
        repeat' (first
    | (with_reducible apply Wc.seq)
    | (refine Wc.ops (by repeat' (first
      | with_reducible exact RO.nil
      | ((with_reducible apply RO.run (awant_none rfl)); (focus ((first | simp (config := {decide := true}) only [awant, ayield_get, oper1, aop, opv, opvs, opvo, opvp, abuiltin, Ac.get_put, if_true, if_false, and_true, decide_true, abin, isShift, aint, roV, pair, bind, Option.bind, acall, Sx, nA, p8, p15, p16, p92, hlt, ia50 _ _ (in3 hi), ia50 _ _ (in3 hj), ia49 _ _ (in3 hj), ia49 _ _ (in3 hk3), Int.toNat_natCast, ld3, l1, l2, d1, d2, w3] | skip); with_reducible rfl)))
      | ((with_reducible apply RO.runG); (focus rfl); (focus rfl); (focus (simp (config := {decide := true}) only [awant, ayield_get, oper1, aop, opv, opvs, opvo, opvp, abuiltin, Ac.get_put, if_true, if_false, and_true, decide_true, abin, isShift, aint, roV, pair, bind, Option.bind, acall, Sx, nA, p8, p15, p16, p92, hlt, ia50 _ _ (in3 hi), ia50 _ _ (in3 hj), ia49 _ _ (in3 hj), ia49 _ _ (in3 hk3), Int.toNat_natCast, ld3, l1, l2, d1, d2, w3]; done)); (focus ((first | simp (config := {decide := true}) only [awant, ayield_get, oper1, aop, opv, opvs, opvo, opvp, abuiltin, Ac.get_put, if_true, if_false, and_true, decide_true, abin, isShift, aint, roV, pair, bind, Option.bind, acall, Sx, nA, p8, p15, p16, p92, hlt, ia50 _ _ (in3 hi), ia50 _ _ (in3 hj), ia49 _ _ (in3 hj), ia49 _ _ (in3 hk3), Int.toNat_natCast, ld3, l1, l2, d1, d2, w3] | skip); with_reducible rfl)))
      | ((with_reducible apply RO.skipG); (focus rfl); (focus rfl); (focus (simp (config := {decide := true}) only [awant, ayield_get, oper1, aop, opv, opvs, opvo, opvp, abuiltin, Ac.get_put, if_true, if_false, and_true, decide_true, abin, isShift, aint, roV, pair, bind, Option.bind, acall, Sx, nA, p8, p15, p16, p92, hlt, ia50 _ _ (in3 hi), ia50 _ _ (in3 hj), ia49 _ _ (in3 hj), ia49 _ _ (in3 hk3), Int.toNat_natCast, ld3, l1, l2, d1, d2, w3]; done))))) ?_)
    | (refine Wc.quiet (by kernel_rfl) (by repeat' (first
      | with_reducible exact QO.nil
      | ((with_reducible apply QO.cons rfl rfl); (focus ((first | simp (config := {decide := true}) only [awant, ayield_get, oper1, aop, opv, opvs, opvo, opvp, abuiltin, Ac.get_put, if_true, if_false, and_true, decide_true, abin, isShift, aint, roV, pair, bind, Option.bind, acall, Sx, nA, p8, p15, p16, p92, hlt, ia50 _ _ (in3 hi), ia50 _ _ (in3 hj), ia49 _ _ (in3 hj), ia49 _ _ (in3 hk3), Int.toNat_natCast, ld3, l1, l2, d1, d2, w3] | skip); with_reducible rfl))))) ?_)
    | (refine Wc.cond2 (by simp (config := {decide := true}) only [opv, Ac.get_put, if_true, if_false, and_true, decide_true, Sx, nA, p8, p15, p16, p92, hlt, ia50 _ _ (in3 hi), ia50 _ _ (in3 hj), ia49 _ _ (in3 hj), ia49 _ _ (in3 hk3), Int.toNat_natCast, ld3, l1, l2, d1, d2, w3]; try with_reducible rfl) (fun hb => ?_) (fun hb => ?_) <;> try contradiction)
    | refine Wc.skip ?_
    | refine Wc.ret ?_
    | refine Wc.exit ?_
    | refine Wc.block ?_)
        refine (ih (k + 1) _ hr1 hk3 ⟨?_, ?_, ?_, ?_⟩ ?_ ?_ ?_ ?_ ?_).mono (fun _ _ _ h => h)
        · simp (config := {decide := true}) only [Ac.get_put, if_true, if_false, and_true, Sx, nA]
        · simp (config := {decide := true}) only [Ac.get_put, if_true, if_false, and_true, Sx, dA]
        · simp (config := {decide := true}) only [Ac.get_put, if_true, if_false, and_true, Sx, nA, p7]
        · simp (config := {decide := true}) only [Ac.get_put, if_true, if_false, and_true, Sx, nA, p8]
        · simp (config := {decide := true}) only [Ac.get_put, if_true, if_false, and_true, Sx, nA, p15]
        · simp (config := {decide := true}) only [Ac.get_put, if_true, if_false, and_true, Sx, nA, p16]
        · simp (config := {decide := true}) only [Ac.get_put, if_true, if_false, and_true, Sx, nA, p74]
        · simp (config := {decide := true}) only [Ac.get_put, if_true, if_false, and_true, Sx, nA, p77]
        · simp (config := {decide := true}) only [Ac.get_put, if_true, if_false, and_true, Sx, nA]
          rfl
    · have d1 : decide (o i j ≤ 0) = false := by simpa using c1
      apply Wc.loop
      simp only [loop6e, loopAt, loops, List.getD, Option.getD, Tryd.f6, List.append_assoc, List.cons_append, List.nil_append, List.append_nil, List.getElem?_cons_zero, List.getElem?_cons_succ]
      repeat' (first
    | (with_reducible apply Wc.seq)
    | (refine Wc.ops (by repeat' (first
      | with_reducible exact RO.nil
      | ((with_reducible apply RO.run (awant_none rfl)); (focus ((first | simp (config := {decide := true}) only [awant, ayield_get, oper1, aop, opv, opvs, opvo, opvp, abuiltin, Ac.get_put, if_true, if_false, and_true, decide_true, abin, isShift, aint, roV, pair, bind, Option.bind, acall, Sx, nA, p8, p15, p16, p92, hlt, ia50 _ _ (in3 hi), ia49 _ _ (in3 hj), Int.toNat_natCast, ld3, l1, d1, w3] | skip); with_reducible rfl)))
      | ((with_reducible apply RO.runG); (focus rfl); (focus rfl); (focus (simp (config := {decide := true}) only [awant, ayield_get, oper1, aop, opv, opvs, opvo, opvp, abuiltin, Ac.get_put, if_true, if_false, and_true, decide_true, abin, isShift, aint, roV, pair, bind, Option.bind, acall, Sx, nA, p8, p15, p16, p92, hlt, ia50 _ _ (in3 hi), ia49 _ _ (in3 hj), Int.toNat_natCast, ld3, l1, d1, w3]; done)); (focus ((first | simp (config := {decide := true}) only [awant, ayield_get, oper1, aop, opv, opvs, opvo, opvp, abuiltin, Ac.get_put, if_true, if_false, and_true, decide_true, abin, isShift, aint, roV, pair, bind, Option.bind, acall, Sx, nA, p8, p15, p16, p92, hlt, ia50 _ _ (in3 hi), ia49 _ _ (in3 hj), Int.toNat_natCast, ld3, l1, d1, w3] | skip); with_reducible rfl)))
      | ((with_reducible apply RO.skipG); (focus rfl); (focus rfl); (focus (simp (config := {decide := true}) only [awant, ayield_get, oper1, aop, opv, opvs, opvo, opvp, abuiltin, Ac.get_put, if_true, if_false, and_true, decide_true, abin, isShift, aint, roV, pair, bind, Option.bind, acall, Sx, nA, p8, p15, p16, p92, hlt, ia50 _ _ (in3 hi), ia49 _ _ (in3 hj), Int.toNat_natCast, ld3, l1, d1, w3]; done))))) ?_)
    | (refine Wc.quiet (by kernel_rfl) (by repeat' (first
      | with_reducible exact QO.nil
      | ((with_reducible apply QO.cons rfl rfl); (focus ((first | simp (config := {decide := true}) only [awant, ayield_get, oper1, aop, opv, opvs, opvo, opvp, abuiltin, Ac.get_put, if_true, if_false, and_true, decide_true, abin, isShift, aint, roV, pair, bind, Option.bind, acall, Sx, nA, p8, p15, p16, p92, hlt, ia50 _ _ (in3 hi), ia49 _ _ (in3 hj), Int.toNat_natCast, ld3, l1, d1, w3] | skip); with_reducible rfl))))) ?_)
    | (refine Wc.cond2 (by simp (config := {decide := true}) only [opv, Ac.get_put, if_true, if_false, and_true, decide_true, Sx, nA, p8, p15, p16, p92, hlt, ia50 _ _ (in3 hi), ia49 _ _ (in3 hj), Int.toNat_natCast, ld3, l1, d1, w3]; try with_reducible rfl) (fun hb => ?_) (fun hb => ?_) <;> try contradiction)
    | refine Wc.skip ?_
    | refine Wc.ret ?_
    | refine Wc.exit ?_
    | refine Wc.block ?_)
      refine (ih (k + 1) _ hr1 hk3 ⟨?_, ?_, ?_, ?_⟩ ?_ ?_ ?_ ?_ ?_).mono (fun _ _ _ h => h)
      · simp (config := {decide := true}) only [Ac.get_put, if_true, if_false, and_true, Sx, nA]
      · simp (config := {decide := true}) only [Ac.get_put, if_true, if_false, and_true, Sx, dA]
      · simp (config := {decide := true}) only [Ac.get_put, if_true, if_false, and_true, Sx, nA, p7]
      · simp (config := {decide := true}) only [Ac.get_put, if_true, if_false, and_true, Sx, nA, p8]
      · simp (config := {decide := true}) only [Ac.get_put, if_true, if_false, and_true, Sx, nA, p15]
      · simp (config := {decide := true}) only [Ac.get_put, if_true, if_false, and_true, Sx, nA, p16]
      · simp (config := {decide := true}) only [Ac.get_put, if_true, if_false, and_true, Sx, nA, p74]
      · simp (config := {decide := true}) only [Ac.get_put, if_true, if_false, and_true, Sx, nA, p77]
      · simp (config := {decide := true}) only [Ac.get_put, if_true, if_false, and_true, Sx, nA]
        rfl
end Go.Proofs.YtofijpbmbmbnhaaDoor
/- The law on the order: all triples. -/
set_option maxRecDepth 100000
set_option maxHeartbeats 8000000
namespace Go.Proofs.YtofijpbmbmbnhaaDoor
open Go Go.Hs Go.Proofs
variable {E : Env} {I : Known}

theorem turn6 {o : Nat → Nat → Int} (hT : ∀ i j k, o i j ≤ 0 → o j k ≤ 0 → ¬ o i k > 0) (hA : ∀ i j, o i j = - o j i) (hR : ∀ i j, -1 ≤ o i j ∧ o i j ≤ 1) {kA kM : Nat} {g : H} (bM : g.blk kM = some (.cells (mat o 9) 50 none)) {i : Nat} (hi : i < 3) :
    ∀ (r j : Nat) (A : Ac), r = 3 - j → j ≤ 3 → Tm A kA kM → A.get 15 = .int .i64 (i : Nat) → A.get 74 = .int .i64 (i : Nat) → A.get 77 = .int .i64 (j : Nat) →
      Wc tab E I ⟨6, none⟩ (.loop loop6d) A g (fun ex A g' => ex = .exit 6 ∧ Tm A kA kM ∧ A.get 74 = .int .i64 (i : Nat) ∧ g' = g) := by
  intro r
  induction r with
  | zero =>
    intro j A hr hj T p15 p74 p77
    obtain rfl : j = 3 := by omega
    have hlt : decide (((3 : Nat) : Int) < 3) = false := rfl
    obtain ⟨nA, dA, p7, p8⟩ := T
    apply Wc.loop
    simp only [loop6d, loopAt, loops, List.getD, Option.getD, Tryd.f6, List.append_assoc, List.cons_append, List.nil_append, List.append_nil, List.getElem?_cons_zero, List.getElem?_cons_succ]
    repeat' (first
    | (with_reducible apply Wc.seq)
    | (refine Wc.ops (by repeat' (first
      | with_reducible exact RO.nil
      | ((with_reducible apply RO.run (awant_none rfl)); (focus ((first | simp (config := {decide := true}) only [awant, ayield_get, oper1, aop, opv, opvs, opvo, opvp, abuiltin, Ac.get_put, if_true, if_false, and_true, decide_true, abin, isShift, aint, roV, pair, bind, Option.bind, acall, Sx, nA, p77, hlt] | skip); with_reducible rfl))))) ?_)
    | (refine Wc.cond2 (by simp (config := {decide := true}) only [opv, Ac.get_put, if_true, if_false, and_true, decide_true, Sx, nA, p77, hlt]; try with_reducible rfl) (fun hb => ?_) (fun hb => ?_) <;> try contradiction)
    | refine Wc.skip ?_
    | refine Wc.ret ?_
    | refine Wc.exit ?_
    | refine Wc.block ?_)
    exact ⟨rfl, ⟨by simp (config := {decide := true}) only [Ac.get_put, if_true, if_false, and_true, Sx, nA], by simp (config := {decide := true}) only [Ac.get_put, if_true, if_false, and_true, Sx, dA], by simp (config := {decide := true}) only [Ac.get_put, if_true, if_false, and_true, Sx, nA, p7], by simp (config := {decide := true}) only [Ac.get_put, if_true, if_false, and_true, Sx, nA, p8]⟩, by simp (config := {decide := true}) only [Ac.get_put, if_true, if_false, and_true, Sx, nA, p74], rfl⟩
  | succ r ih =>
    intro j A hr hj T p15 p74 p77
    have hj3 : j < 3 := by omega
    have hr1 : r = 3 - (j + 1) := by omega
    have hlt : decide ((j : Int) < 3) = true := by simp; omega
    obtain ⟨nA, dA, p7, p8⟩ := T
    have w3 : IntKind.i64.wrap ((j : Int) + 1) = (j : Int) + 1 := wrap64 (by omega) (by omega)
    have l1 := ld_mat (E := E) (g := fresh g) hi hj3 bM
    have l2 := ld_mat (E := E) (g := fresh g) hj3 hi bM
    have wn : IntKind.i64.wrap (0 - o j i) = o i j := by
      have := hR j i
      have := hA i j
      rw [wrap64 (by omega) (by omega)]; omega
    have dn : (!decide (o i j = o i j)) = false := by simp
    apply Wc.loop
    simp only [loop6d, loopAt, loops, List.getD, Option.getD, Tryd.f6, List.append_assoc, List.cons_append, List.nil_append, List.append_nil, List.getElem?_cons_zero, List.getElem?_cons_succ]
    repeat' (first
    | (with_reducible apply Wc.seq)
    | (refine Wc.ops (by repeat' (first
      | with_reducible exact RO.nil
      | ((with_reducible apply RO.run (awant_none rfl)); (focus ((first | simp (config := {decide := true}) only [awant, ayield_get, oper1, aop, opv, opvs, opvo, opvp, abuiltin, Ac.get_put, if_true, if_false, and_true, decide_true, abin, isShift, aint, roV, pair, bind, Option.bind, acall, Sx, nA, p77, hlt] | skip); with_reducible rfl))))) ?_)
    | (refine Wc.cond2 (by simp (config := {decide := true}) only [opv, Ac.get_put, if_true, if_false, and_true, decide_true, Sx, nA, p77, hlt]; try with_reducible rfl) (fun hb => ?_) (fun hb => ?_) <;> try contradiction)
    | refine Wc.skip ?_
    | refine Wc.ret ?_
    | refine Wc.exit ?_
    | refine Wc.block ?_)
    refine Wc.drawC 1 (by kernel_rfl) ?_
    (iterate 12 (first
      | ((apply FC.pure rfl rfl); (focus ((first | simp (config := {decide := true}) only [awant, ayield_get, oper1, aop, opv, opvs, opvo, opvp, abuiltin, Ac.get_put, if_true, if_false, and_true, decide_true, abin, isShift, aint, roV, pair, bind, Option.bind, acall, Sx, nA, p8, p15, ia50 _ _ (in3 hi), ia50 _ _ (in3 hj3), ia49 _ _ (in3 hj3), ia49 _ _ (in3 hi), Int.toNat_natCast, ld3, l1, l2, aun, wn, dn] | skip); with_reducible rfl)))
      | ((apply FC.new rfl rfl); (focus ((first | simp (config := {decide := true}) only [awant, ayield_get, oper1, aop, opv, opvs, opvo, opvp, abuiltin, Ac.get_put, if_true, if_false, and_true, decide_true, abin, isShift, aint, roV, pair, bind, Option.bind, acall, Sx, nA, p8, p15, ia50 _ _ (in3 hi), ia50 _ _ (in3 hj3), ia49 _ _ (in3 hj3), ia49 _ _ (in3 hi), Int.toNat_natCast, ld3, l1, l2, aun, wn, dn] | skip); with_reducible rfl)))))
    refine FC.nil ?_
    repeat' (first
    | (with_reducible apply Wc.seq)
    | (refine Wc.ops (by repeat' (first
      | with_reducible exact RO.nil
      | ((with_reducible apply RO.run (awant_none rfl)); (focus ((first | simp (config := {decide := true}) only [awant, ayield_get, oper1, aop, opv, opvs, opvo, opvp, abuiltin, Ac.get_put, if_true, if_false, and_true, decide_true, abin, isShift, aint, roV, pair, bind, Option.bind, acall, Sx, nA] | skip); with_reducible rfl))))) ?_)
    | (refine Wc.cond2 (by simp (config := {decide := true}) only [opv, Ac.get_put, if_true, if_false, and_true, decide_true, Sx, nA]; try with_reducible rfl) (fun hb => ?_) (fun hb => ?_) <;> try contradiction)
    | refine Wc.skip ?_
    | refine Wc.ret ?_
    | refine Wc.exit ?_
    | refine Wc.block ?_)
    refine (trip6 (kA := kA) hT bM hi hj3 3 0 _ rfl (by omega) ⟨?_, ?_, ?_, ?_⟩ ?_ ?_ ?_ ?_ ?_).mono ?_
    · simp (config := {decide := true}) only [Ac.get_put, if_true, if_false, and_true, Sx, nA]
    · simp (config := {decide := true}) only [Ac.get_put, if_true, if_false, and_true, Sx, dA]
    · simp (config := {decide := true}) only [Ac.get_put, if_true, if_false, and_true, Sx, nA, p7]
    · simp (config := {decide := true}) only [Ac.get_put, if_true, if_false, and_true, Sx, nA, p8]
    · simp (config := {decide := true}) only [Ac.get_put, if_true, if_false, and_true, Sx, nA, p15]
    · simp (config := {decide := true}) only [Ac.get_put, if_true, if_false, and_true, Sx, nA]
    · simp (config := {decide := true}) only [Ac.get_put, if_true, if_false, and_true, Sx, nA, p74]
    · simp (config := {decide := true}) only [Ac.get_put, if_true, if_false, and_true, Sx, nA, p77]
    · simp (config := {decide := true}) only [Ac.get_put, if_true, if_false, and_true, Sx, nA]
      rfl
    · rintro ex A g' ⟨rfl, ⟨nA, dA, p7, p8⟩, p15, p74, p77, rfl⟩
      simp only [if_true]
      repeat' (first
    | (with_reducible apply Wc.seq)
    | (refine Wc.ops (by repeat' (first
      | with_reducible exact RO.nil
      | ((with_reducible apply RO.run (awant_none rfl)); (focus ((first | simp (config := {decide := true}) only [awant, ayield_get, oper1, aop, opv, opvs, opvo, opvp, abuiltin, Ac.get_put, if_true, if_false, and_true, decide_true, abin, isShift, aint, roV, pair, bind, Option.bind, acall, Sx, nA, p77, w3] | skip); with_reducible rfl))))) ?_)
    | (refine Wc.cond2 (by simp (config := {decide := true}) only [opv, Ac.get_put, if_true, if_false, and_true, decide_true, Sx, nA, p77, w3]; try with_reducible rfl) (fun hb => ?_) (fun hb => ?_) <;> try contradiction)
    | refine Wc.skip ?_
    | refine Wc.ret ?_
    | refine Wc.exit ?_
    | refine Wc.block ?_)
      refine (ih (j + 1) _ hr1 hj3 ⟨?_, ?_, ?_, ?_⟩ ?_ ?_ ?_).mono (fun _ _ _ h => h)
      · simp (config := {decide := true}) only [Ac.get_put, if_true, if_false, and_true, Sx, nA]
      · simp (config := {decide := true}) only [Ac.get_put, if_true, if_false, and_true, Sx, dA]
      · simp (config := {decide := true}) only [Ac.get_put, if_true, if_false, and_true, Sx, nA, p7]
      · simp (config := {decide := true}) only [Ac.get_put, if_true, if_false, and_true, Sx, nA, p8]
      · simp (config := {decide := true}) only [Ac.get_put, if_true, if_false, and_true, Sx, nA, p15]
      · simp (config := {decide := true}) only [Ac.get_put, if_true, if_false, and_true, Sx, nA, p74]
      · simp (config := {decide := true}) only [Ac.get_put, if_true, if_false, and_true, Sx, nA]
        rfl

theorem all6 {o : Nat → Nat → Int} (hT : ∀ i j k, o i j ≤ 0 → o j k ≤ 0 → ¬ o i k > 0) (hA : ∀ i j, o i j = - o j i) (hR : ∀ i j, -1 ≤ o i j ∧ o i j ≤ 1) {kA kM : Nat} {g : H} (bM : g.blk kM = some (.cells (mat o 9) 50 none)) :
    ∀ (r i : Nat) (A : Ac), r = 3 - i → i ≤ 3 → Tm A kA kM → A.get 74 = .int .i64 (i : Nat) →
      Wc tab E I ⟨6, none⟩ (.loop loop6c) A g (fun ex A g' => ex = .exit 4 ∧ Tm A kA kM ∧ g' = g) := by
  intro r
  induction r with
  | zero =>
    intro i A hr hi T p74
    obtain rfl : i = 3 := by omega
    have hlt : decide (((3 : Nat) : Int) < 3) = false := rfl
    obtain ⟨nA, dA, p7, p8⟩ := T
    apply Wc.loop
    simp only [loop6c, loopAt, loops, List.getD, Option.getD, Tryd.f6, List.append_assoc, List.cons_append, List.nil_append, List.append_nil, List.getElem?_cons_zero, List.getElem?_cons_succ]
    repeat' (first
    | (with_reducible apply Wc.seq)
    | (refine Wc.ops (by repeat' (first
      | with_reducible exact RO.nil
      | ((with_reducible apply RO.run (awant_none rfl)); (focus ((first | simp (config := {decide := true}) only [awant, ayield_get, oper1, aop, opv, opvs, opvo, opvp, abuiltin, Ac.get_put, if_true, if_false, and_true, decide_true, abin, isShift, aint, roV, pair, bind, Option.bind, acall, Sx, nA, p74, hlt] | skip); with_reducible rfl))))) ?_)
    | (refine Wc.cond2 (by simp (config := {decide := true}) only [opv, Ac.get_put, if_true, if_false, and_true, decide_true, Sx, nA, p74, hlt]; try with_reducible rfl) (fun hb => ?_) (fun hb => ?_) <;> try contradiction)
    | refine Wc.skip ?_
    | refine Wc.ret ?_
    | refine Wc.exit ?_
    | refine Wc.block ?_)
    exact ⟨rfl, ⟨by simp (config := {decide := true}) only [Ac.get_put, if_true, if_false, and_true, Sx, nA], by simp (config := {decide := true}) only [Ac.get_put, if_true, if_false, and_true, Sx, dA], by simp (config := {decide := true}) only [Ac.get_put, if_true, if_false, and_true, Sx, nA, p7], by simp (config := {decide := true}) only [Ac.get_put, if_true, if_false, and_true, Sx, nA, p8]⟩, rfl⟩
  | succ r ih =>
    intro i A hr hi T p74
    have hi3 : i < 3 := by omega
    have hr1 : r = 3 - (i + 1) := by omega
    have hlt : decide ((i : Int) < 3) = true := by simp; omega
    obtain ⟨nA, dA, p7, p8⟩ := T
    have w3 : IntKind.i64.wrap ((i : Int) + 1) = (i : Int) + 1 := wrap64 (by omega) (by omega)
    apply Wc.loop
    simp only [loop6c, loopAt, loops, List.getD, Option.getD, Tryd.f6, List.append_assoc, List.cons_append, List.nil_append, List.append_nil, List.getElem?_cons_zero, List.getElem?_cons_succ]
    repeat' (first
    | (with_reducible apply Wc.seq)
    | (refine Wc.ops (by repeat' (first
      | with_reducible exact RO.nil
      | ((with_reducible apply RO.run (awant_none rfl)); (focus ((first | simp (config := {decide := true}) only [awant, ayield_get, oper1, aop, opv, opvs, opvo, opvp, abuiltin, Ac.get_put, if_true, if_false, and_true, decide_true, abin, isShift, aint, roV, pair, bind, Option.bind, acall, Sx, nA, p74, hlt] | skip); with_reducible rfl))))) ?_)
    | (refine Wc.cond2 (by simp (config := {decide := true}) only [opv, Ac.get_put, if_true, if_false, and_true, decide_true, Sx, nA, p74, hlt]; try with_reducible rfl) (fun hb => ?_) (fun hb => ?_) <;> try contradiction)
    | refine Wc.skip ?_
    | refine Wc.ret ?_
    | refine Wc.exit ?_
    | refine Wc.block ?_)
    refine (turn6 (kA := kA) hT hA hR bM hi3 3 0 _ rfl (by omega) ⟨?_, ?_, ?_, ?_⟩ ?_ ?_ ?_).mono ?_
    · simp (config := {decide := true}) only [Ac.get_put, if_true, if_false, and_true, Sx, nA]
    · simp (config := {decide := true}) only [Ac.get_put, if_true, if_false, and_true, Sx, dA]
    · simp (config := {decide := true}) only [Ac.get_put, if_true, if_false, and_true, Sx, nA, p7]
    · simp (config := {decide := true}) only [Ac.get_put, if_true, if_false, and_true, Sx, nA, p8]
    · simp (config := {decide := true}) only [Ac.get_put, if_true, if_false, and_true, Sx, nA]
    · simp (config := {decide := true}) only [Ac.get_put, if_true, if_false, and_true, Sx, nA, p74]
    · simp (config := {decide := true}) only [Ac.get_put, if_true, if_false, and_true, Sx, nA]
      rfl
    · rintro ex A g' ⟨rfl, ⟨nA, dA, p7, p8⟩, p74, rfl⟩
      simp only [if_true]
      repeat' (first
    | (with_reducible apply Wc.seq)
    | (refine Wc.ops (by repeat' (first
      | with_reducible exact RO.nil
      | ((with_reducible apply RO.run (awant_none rfl)); (focus ((first | simp (config := {decide := true}) only [awant, ayield_get, oper1, aop, opv, opvs, opvo, opvp, abuiltin, Ac.get_put, if_true, if_false, and_true, decide_true, abin, isShift, aint, roV, pair, bind, Option.bind, acall, Sx, nA, p74, w3] | skip); with_reducible rfl))))) ?_)
    | (refine Wc.cond2 (by simp (config := {decide := true}) only [opv, Ac.get_put, if_true, if_false, and_true, decide_true, Sx, nA, p74, w3]; try with_reducible rfl) (fun hb => ?_) (fun hb => ?_) <;> try contradiction)
    | refine Wc.skip ?_
    | refine Wc.ret ?_
    | refine Wc.exit ?_
    | refine Wc.block ?_)
      refine (ih (i + 1) _ hr1 hi3 ⟨?_, ?_, ?_, ?_⟩ ?_).mono (fun _ _ _ h => h)
      · simp (config := {decide := true}) only [Ac.get_put, if_true, if_false, and_true, Sx, nA]
      · simp (config := {decide := true}) only [Ac.get_put, if_true, if_false, and_true, Sx, dA]
      · simp (config := {decide := true}) only [Ac.get_put, if_true, if_false, and_true, Sx, nA, p7]
      · simp (config := {decide := true}) only [Ac.get_put, if_true, if_false, and_true, Sx, nA, p8]
      · simp (config := {decide := true}) only [Ac.get_put, if_true, if_false, and_true, Sx, nA]
        rfl
end Go.Proofs.YtofijpbmbmbnhaaDoor
