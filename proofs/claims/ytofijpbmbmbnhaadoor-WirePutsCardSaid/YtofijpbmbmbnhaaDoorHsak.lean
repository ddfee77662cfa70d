/- How two items compare, as the program tells it. -/
import Derived.Test.YtofijpbmbmbnhaaDoorHsaj
set_option linter.unusedSimpArgs false
set_option linter.unusedVariables false
set_option maxRecDepth 100000
set_option maxHeartbeats 4000000
namespace Go.Proofs.YtofijpbmbmbnhaaDoor
open Go Go.Hs Go.Proofs
variable {E : Env} {I : Known}
theorem fn65 : tab.fn.get 65 = some Tryd.f65 := by kernel_rfl
noncomputable def loop65 : Code := loopOf Tryd.f65
def says65 (E : Env) : Says := fun s f args h v => f = 65 ∧ s = 0 ∧ ∃ ks sl, args = [sl] ∧ repK E h ks sl ∧ iszL ks ≤ 1000000 ∧ v = .int .i64 (chkAll ks)
theorem one65 (E : Env) : One (says65 E) := by
  rintro s s' f args h v v' ⟨_, _, t, xv, rfl, h1, _, rfl⟩ ⟨_, _, t', xv', he, h2, _, rfl⟩
  cases he
  rw [repK_one h1 h2]
theorem shown65 (hI : ∀ args h, I 65 args h = none) (h35 : ∀ t xv h, rep E h t xv → isz t ≤ 1000000 → I 35 [xv] h = some (some (.int .i64 (chkI t 0 1).2, h))) : ShownF tab E I (says65 E) := by
  rintro sz f args h v ⟨rfl, rfl, ks, sl, rfl, hr, hz, rfl⟩ hfit
  refine ⟨rfl, ?_⟩
  have hJ : upTo (says65 E) I 0 = I := by funext f args h; exact upTo_none (fun _ _ hs => absurd hs (Nat.not_lt_zero _))
  rw [hJ]
  have hgf : Grows h (fresh h) := fun _ _ hb => hb
  have hl0 : (fresh h).log = [] := rfl
  have hrg := repK_grow hgf hr
  obtain ⟨sb, sc, rfl, hlen, hs⟩ := repK_slice hrg
  suffices hw : ∃ n v h', (ev tab E I n).call 65 [.slice sb ks.length sc] (fresh h) = some (v, h') ∧ (v = .int .i64 (chkAll ks) ∧ h'.log = []) by
    obtain ⟨n, v, h', h1, rfl, h3⟩ := hw
    exact ⟨n, h', h1, h3⟩
  refine Wc.call (hI _ _) fn65 rfl ?_
  generalize hA0 : (⟨T.ofList [.slice sb ks.length sc] 0 .nil, max ([.slice sb ks.length sc] : List Value).length Tryd.f65.ntmps, []⟩ : Ac) = A0
  have n0 : A0.n = 18 := by rw [← hA0]; rfl
  have g00 : A0.get 0 = .slice sb ks.length sc := by rw [← hA0]; rfl
  have d0 : A0.defers = [] := by rw [← hA0]
  generalize hg : fresh h = g at hfit hl0 hgf hrg hs
  have key : ∀ (r i : Nat) (A : Ac) (g' : H), r = ks.length - i → i ≤ ks.length → A.n = 18 → A.defers = [] → A.get 6 = .slice sb ks.length sc → A.get 7 = .int .i64 (ks.length : Nat) → A.get 8 = .int .i64 (i : Nat) →
      Ahd g g' → chkAll ks = chkAll (ks.drop i) →
      Wc tab E I ⟨65, none⟩ (.loop loop65) A g' (fun ex A' g'' => A'.n = 18 ∧ A'.defers = [] ∧ Ahd g g'' ∧ ((ex = .exit 0 ∧ chkAll ks = 0) ∨ (ex = .ret ∧ A'.get 2 = .int .i64 (chkAll ks)))) := by
    intro r
    induction r with
    | zero =>
      intro i A g' hr' hi nA dA p6 p7 p8 ah ho
      have hil : i = ks.length := by omega
      have hlt : decide ((i : Int) < (ks.length : Int)) = false := by simp; omega
      apply Wc.loop
      simp only [loop65, loopOf, firstLoop, Option.getD, Tryd.f65]
      repeat' (first | (with_reducible apply Wc.seq) | (apply Wc.ops; (focus ((repeat' (first | with_reducible exact RO.nil | ((with_reducible apply RO.run (awant_none rfl)); (focus ((first | simp +decide only [awant, ayield_get, oper1, aop, opv, opvs, opvo, opvp, abuiltin, aun, Ac.get_put, abin, isShift, aint, roV, pair, bind, Option.bind, acall, Sx, nA, p6, p7, p8, hlt] | skip); with_reducible rfl))))); done))) | (refine Wc.cond2 (by simp +decide only [opv, Ac.get_put, Sx, nA, p6, p7, p8, hlt]; try with_reducible rfl) (fun hb => ?_) (fun hb => ?_) <;> try contradiction) | refine Wc.skip ?_ | refine Wc.ret ?_ | refine Wc.exit ?_ | refine Wc.block ?_)
      refine ⟨by simp +decide only [Ac.get_put, Sx, nA], by simp +decide only [Ac.get_put, Sx, dA], ah, .inl ⟨rfl, ?_⟩⟩
      rw [ho, hil, List.drop_length, chkAll]
    | succ r ih =>
      intro i A g' hr' hi nA dA p6 p7 p8 ah ho
      have hil : i < ks.length := by omega
      have hlt : decide ((i : Int) < (ks.length : Int)) = true := by simp; omega
      have hks : ks.drop i = ks[i] :: ks.drop (i + 1) := List.drop_eq_getElem_cons hil
      rcases hs with hk0 | ⟨a, cs, he, hcs, hrl⟩
      · rw [hk0] at hil; simp at hil
      subst he
      have hfit' := ah.fit
      have hcs1 := cells_grow ah.grows hcs
      obtain ⟨hl4, hrk⟩ := repL_get i hrl (List.getElem?_eq_getElem hil)
      have hsub := cells_sub hcs1 (m := i * 4) (l := 4) (by omega)
      have hmem : ks[i] ∈ ks := List.getElem_mem hil
      have hkz := isz_mem hmem
      have hq : ∃ q0 q1 q2 q3, (cs.drop (i * 4)).take 4 = [q0, q1, q2, q3] ∧ [q0, q1, q2, q3].all isOne = true := by
        generalize hki : ks[i] = ki at hrk
        obtain ⟨k', m', tx', ks'⟩ := ki
        obtain ⟨sb', sc', e, _⟩ := rep_slice hrk
        simp only [Value.agg.injEq, Array.mk.injEq] at e
        exact ⟨_, _, _, _, e, rfl⟩
      obtain ⟨q0, q1, q2, q3, hq, hone⟩ := hq
      rw [hq] at hsub hrk
      have hir : inRange (i : Int) ks.length = true := by
        show Nat.blt i ks.length = true
        rw [Nat.blt_eq]; exact hil
      have w3 : IntKind.i64.wrap ((i : Int) + 1) = (i : Int) + 1 := wrap64 (by omega) (by omega)
      generalize hh3 : g'.new (.cells (Value.agg #[.int .i64 0, .int .i64 0, .string ⟨#[]⟩, .slice none 0 0]).cells.toList 25 none) = h3
      have a3 : Ahd g' h3 := by rw [← hh3]; exact Ahd.new0 hfit' rfl
      have c3 : h3.blk g'.next = some (.cells [.int .i64 0, .int .i64 0, .string ⟨#[]⟩, .slice none 0 0] 25 none) := by rw [← hh3]; exact new_blk_new rfl
      have hn3 : h3.next = g'.next + 1 := by rw [← hh3]; rfl
      have hst3 := st25 (a := q0) (b := q1) (c := q2) (d := q3) c3 hone (by rw [a3.mark]; exact hfit'.ok.2)
      generalize hh4 : h3.setb g'.next (.cells [q0, q1, q2, q3] 25 none) = h4 at hst3
      have a4 : Ahd g' h4 := by rw [← hh4]; exact a3.setb rfl (Nat.le_refl _) (by omega) hfit'
      have c4 : h4.blk g'.next = some (.cells [q0, q1, q2, q3] 25 none) := by rw [← hh4]; exact setb_same rfl
      have ah4 := ah.trans a4
      have cl1 : h4.cells E (own g'.next) 4 = some [q0, q1, q2, q3] := blk_cells c4 rfl hone
      have hcall : (ev tab E I 1).call 35 [.agg ⟨[q0, q1, q2, q3]⟩] h4 = some (.int .i64 (chkI ks[i] 0 1).2, h4) := ev_known (h35 _ _ _ (rep_grow ah4.grows hrk) (by omega))
      by_cases q : (chkI ks[i] 0 1).2 = 0
      · have dq : (!decide ((chkI ks[i] 0 1).2 = 0)) = false := by simp [q]
        apply Wc.loop
        simp only [loop65, loopOf, firstLoop, Option.getD, Tryd.f65]
        repeat' (first | (with_reducible apply Wc.seq) | (apply Wc.ops; (focus ((repeat' (first | with_reducible exact RO.nil | ((with_reducible apply RO.run (awant_none rfl)); (focus ((first | simp +decide only [awant, ayield_get, oper1, aop, opv, opvs, opvo, opvp, abuiltin, aun, Ac.get_put, abin, isShift, aint, roV, pair, bind, Option.bind, acall, Sx, nA, p6, p7, p8, hlt, ia23 _ _ _ _ hir, Int.toNat_natCast, ld25, hsub, tz25, hh3, hst3, cl1, hcall, dq, w3] | skip); with_reducible rfl))))); done))) | (refine Wc.cond2 (by simp +decide only [opv, Ac.get_put, Sx, nA, p6, p7, p8, hlt, ia23 _ _ _ _ hir, Int.toNat_natCast, ld25, hsub, tz25, hh3, hst3, cl1, hcall, dq, w3]; try with_reducible rfl) (fun hb => ?_) (fun hb => ?_) <;> try contradiction) | refine Wc.skip ?_ | refine Wc.ret ?_ | refine Wc.exit ?_ | refine Wc.block ?_)
        refine (ih (i + 1) _ h4 (by omega) (by omega) ?_ ?_ ?_ ?_ ?_ ah4 ?_).mono ?_
        · simp +decide only [Ac.get_put, Sx, nA]
        · simp +decide only [Ac.get_put, Sx, dA]
        · simp +decide only [Ac.get_put, Sx, nA, p6]
        · simp +decide only [Ac.get_put, Sx, nA, p7]
        · simp +decide only [Ac.get_put, Sx, nA]
          rfl
        · rw [ho, hks, chkAll, if_neg (by simpa using q)]
        · rintro ex A' h' ⟨e1, e2, e3, ⟨rfl, e6⟩ | ⟨rfl, e6⟩⟩
          · exact ⟨e1, e2, e3, .inl ⟨rfl, e6⟩⟩
          · exact ⟨e1, e2, e3, .inr ⟨rfl, e6⟩⟩
      · have dq : (!decide ((chkI ks[i] 0 1).2 = 0)) = true := by simp [q]
        have e1 : chkAll ks = (chkI ks[i] 0 1).2 := by rw [ho, hks, chkAll, if_pos (by simpa using q)]
        apply Wc.loop
        simp only [loop65, loopOf, firstLoop, Option.getD, Tryd.f65]
        repeat' (first | (with_reducible apply Wc.seq) | (apply Wc.ops; (focus ((repeat' (first | with_reducible exact RO.nil | ((with_reducible apply RO.run (awant_none rfl)); (focus ((first | simp +decide only [awant, ayield_get, oper1, aop, opv, opvs, opvo, opvp, abuiltin, aun, Ac.get_put, abin, isShift, aint, roV, pair, bind, Option.bind, acall, Sx, nA, p6, p7, p8, hlt, ia23 _ _ _ _ hir, Int.toNat_natCast, ld25, hsub, tz25, hh3, hst3, cl1, hcall, dq, w3] | skip); with_reducible rfl))))); done))) | (refine Wc.cond2 (by simp +decide only [opv, Ac.get_put, Sx, nA, p6, p7, p8, hlt, ia23 _ _ _ _ hir, Int.toNat_natCast, ld25, hsub, tz25, hh3, hst3, cl1, hcall, dq, w3]; try with_reducible rfl) (fun hb => ?_) (fun hb => ?_) <;> try contradiction) | refine Wc.skip ?_ | refine Wc.ret ?_ | refine Wc.exit ?_ | refine Wc.block ?_)
        refine ⟨by simp +decide only [Ac.get_put, Sx, nA], by simp +decide only [Ac.get_put, Sx, dA], ah4, .inr ⟨rfl, ?_⟩⟩
        rw [e1]
        simp +decide only [Ac.get_put, Sx, nA]
  repeat' (first | (with_reducible apply Wc.seq) | (apply Wc.ops; (focus ((repeat' (first | with_reducible exact RO.nil | ((with_reducible apply RO.run (awant_none rfl)); (focus ((first | simp +decide only [awant, ayield_get, oper1, aop, opv, opvs, opvo, opvp, abuiltin, aun, Ac.get_put, abin, isShift, aint, roV, pair, bind, Option.bind, acall, Sx, n0, d0, g00, len23] | skip); with_reducible rfl))))); done))) | (refine Wc.cond2 (by simp +decide only [opv, Ac.get_put, Sx, n0, d0, g00, len23]; try with_reducible rfl) (fun hb => ?_) (fun hb => ?_) <;> try contradiction) | refine Wc.skip ?_ | refine Wc.ret ?_ | refine Wc.exit ?_ | refine Wc.block ?_)
  refine (key ks.length 0 _ g rfl (Nat.zero_le _) ?_ ?_ ?_ ?_ ?_ (Ahd.refl hfit) (by rw [List.drop_zero])).mono ?_
  · simp +decide only [Ac.get_put, Sx, n0]
  · simp +decide only [Ac.get_put, Sx, d0]
  · simp +decide only [Ac.get_put, Sx, n0]
  · simp +decide only [Ac.get_put, Sx, n0]
  · simp +decide only [Ac.get_put, Sx, n0]
    rfl
  · rintro ex A' g' ⟨e1, e2, e5, ⟨rfl, e6⟩ | ⟨rfl, e6⟩⟩
    · simp only [if_true]
      repeat' (first | (with_reducible apply Wc.seq) | (apply Wc.ops; (focus ((repeat' (first | with_reducible exact RO.nil | ((with_reducible apply RO.run (awant_none rfl)); (focus ((first | simp +decide only [awant, ayield_get, oper1, aop, opv, opvs, opvo, opvp, abuiltin, aun, Ac.get_put, abin, isShift, aint, roV, pair, bind, Option.bind, acall, Sx, e1] | skip); with_reducible rfl))))); done))) | (refine Wc.cond2 (by simp +decide only [opv, Ac.get_put, Sx, e1]; try with_reducible rfl) (fun hb => ?_) (fun hb => ?_) <;> try contradiction) | refine Wc.skip ?_ | refine Wc.ret ?_ | refine Wc.exit ?_ | refine Wc.block ?_)
      refine done_tmp (.inr rfl) (by simp +decide only [Ac.get_put, Sx, e2]) rfl ?_ (e5.log.trans hl0)
      rw [e6]
      simp +decide only [Ac.get_put, Sx, e1]
    · exact done_tmp (.inr rfl) e2 rfl e6 (e5.log.trans hl0)
/-! ### 27 -/
end Go.Proofs.YtofijpbmbmbnhaaDoor
/- Numbers that are made of bytes. -/
set_option maxRecDepth 100000
set_option maxHeartbeats 4000000
namespace Go.Proofs.YtofijpbmbmbnhaaDoor
open Go Go.Hs Go.Proofs
variable {E : Env} {I : Known}
theorem ty5 : tab.ty.get 5 = some ⟨.int .u8, 1, 1, some (.int .u8 0), true⟩ := by kernel_rfl
theorem ty31 : tab.ty.get 31 = some ⟨.slice 5 1 1, 1, 24, some (.slice none 0 0), true⟩ := by kernel_rfl
theorem ty99 : tab.ty.get 99 = some ⟨.int .u64, 1, 8, some (.int .u64 0), true⟩ := by kernel_rfl
theorem ty101 : tab.ty.get 101 = some ⟨.struct [(0, 31, 1), (1, 3, 1), (2, 99, 1)], 3, 40, some (.agg #[.slice none 0 0, .int .i64 0, .int .u64 0]), true⟩ := by kernel_rfl
theorem fn93 : tab.fn.get 93 = some Tryd.f93 := by kernel_rfl
theorem fn94 : tab.fn.get 94 = some Tryd.f94 := by kernel_rfl
theorem fn95 : tab.fn.get 95 = some Tryd.f95 := by kernel_rfl
theorem fn121 : tab.fn.get 121 = some Tryd.f121 := by kernel_rfl
theorem ld5 (a : Addr) {h : H} : aload tab E 5 a h = h.cell E a := by unfold aload; rw [ty5]; rfl
theorem ld31 (a : Addr) {h : H} : aload tab E 31 a h = h.cell E a := by unfold aload; rw [ty31]; rfl
theorem ld99 (a : Addr) {h : H} : aload tab E 99 a h = h.cell E a := by unfold aload; rw [ty99]; rfl
theorem fa101_0 (a : Addr) : afieldAddr tab 101 (.pointer (some a)) 0 = some (.pointer (some (aadd a 0))) := by unfold afieldAddr; rw [ty101]; rfl
theorem fa101_1 (a : Addr) : afieldAddr tab 101 (.pointer (some a)) 1 = some (.pointer (some (aadd a 1))) := by unfold afieldAddr; rw [ty101]; rfl
theorem fa101_2 (a : Addr) : afieldAddr tab 101 (.pointer (some a)) 2 = some (.pointer (some (aadd a 2))) := by unfold afieldAddr; rw [ty101]; rfl
theorem len31 {h : H} (b : Option Addr) (n c : Nat) : alen tab 31 (.slice b n c) h = some (.int .i64 n) := by unfold alen; rw [ty31]
theorem ia31 (a : Addr) (n c : Nat) (i : Int) (hi : inRange i n = true) : aindexAddr tab 31 (.slice (some a) n c) (.int .i64 i) = some (.pointer (some (aadd a (i.toNat * 1)))) := by unfold aindexAddr; simp only [ty31, hi]
theorem cv5_99 (n : Int) {h : H} : aconvert tab E 5 99 (.int .u8 n) h = some (.int .u64 (IntKind.u64.wrap n), h) := by unfold aconvert; simp only [ty5, ty99]
theorem cv99_3 (n : Int) {h : H} : aconvert tab E 99 3 (.int .u64 n) h = some (.int .i64 (IntKind.i64.wrap n), h) := by unfold aconvert; simp only [ty99, ty3]
theorem remI {a b : Int} {k : IntKind} (hb : 0 < b) : aint .rem k a b = some (.int k (a.tmod b)) := by
  unfold aint
  match b, hb with
  | .ofNat (n + 1), _ => rfl
theorem wrapU (x : Int) : 0 ≤ IntKind.u64.wrap x ∧ IntKind.u64.wrap x < 18446744073709551616 := by
  simp only [IntKind.wrap, IntKind.bits, IntKind.signed]
  simp
  omega
theorem st99_2 {k : Nat} {v : Value} {a x : Int} {s : Value} {g : H} (hb : g.blk k = some (.cells [v, .int .i64 a, s] 101 none)) : astore tab 99 (aadd (own k) 2) (.int .u64 x) g = some (g.setl k (.cells [v, .int .i64 a, .int .u64 x] 101 none)) := by
  unfold astore
  rw [ty99]
  exact put_setl (o := 2) (vs := [.int .u64 x]) hb (by simp) (by simp) rfl
theorem st3_1 {k : Nat} {v : Value} {a : Int} {s o : Value} {g : H} (hb : g.blk k = some (.cells [v, o, s] 101 none)) : astore tab 3 (aadd (own k) 1) (.int .i64 a) g = some (g.setl k (.cells [v, .int .i64 a, s] 101 none)) := by
  unfold astore
  rw [ty3]
  exact put_setl (o := 1) (vs := [.int .i64 a]) hb (by simp) (by simp) rfl
theorem shr40 (x : Int) : ashift .shr .u64 x 40 = some (.int .u64 (x.fdiv 1099511627776)) := rfl
theorem fd40 {x : Int} (h0 : 0 ≤ x) (h1 : x < 18446744073709551616) : 0 ≤ x.fdiv 1099511627776 ∧ x.fdiv 1099511627776 < 16777216 := by
  rw [Int.fdiv_eq_ediv_of_nonneg _ (by decide)]
  omega
theorem dres (y : Int) : 0 ≤ IntKind.i64.wrap ((IntKind.u64.wrap y).fdiv 1099511627776) ∧ IntKind.i64.wrap ((IntKind.u64.wrap y).fdiv 1099511627776) < 16777216 := by
  obtain ⟨h1, h2⟩ := fd40 (wrapU y).1 (wrapU y).2
  rw [wrap64 (by omega) (by omega)]
  exact ⟨h1, h2⟩
def Bts (M : Nat → Prop) (h : H) (bv : Value) (bs : List Int) : Prop := (bv = .slice none 0 0 ∧ bs = []) ∨ ∃ k c rt, bv = .slice (some (own k)) bs.length c ∧ h.blk k = some (.cells (bs.map (Value.int .u8)) 5 rt) ∧ ¬ M k
def Sto (M : Nat → Prop) (kS : Nat) (bv : Value) (bs : List Int) (h : H) (a : Int) : Prop := ∃ seed, h.blk kS = some (.cells [bv, .int .i64 a, .int .u64 seed] 101 none) ∧ 0 ≤ seed ∧ seed < 18446744073709551616 ∧ Bts M h bv bs ∧ 0 ≤ a
theorem Bts.mod {M N : Nat → Prop} {h g : H} {bv : Value} {bs : List Int} (b : Bts M h bv bs) (m : Mod N h g) (hN : ∀ k, N k → M k) : Bts M g bv bs := by
  rcases b with b | ⟨k, c, rt, e1, e2, e3⟩
  · exact .inl b
  · exact .inr ⟨k, c, rt, e1, m.blk _ _ (fun hn => e3 (hN _ hn)) e2, e3⟩
theorem Sto.mod {M N : Nat → Prop} {kS : Nat} {bv : Value} {bs : List Int} {h g : H} {a : Int} (S : Sto M kS bv bs h a) (m : Mod N h g) (hN : ∀ k, N k → M k) (hk : ¬ N kS) : Sto M kS bv bs g a := by
  obtain ⟨seed, e1, e2, e3, e4, e5⟩ := S
  exact ⟨seed, m.blk _ _ hk e1, e2, e3, e4.mod m hN, e5⟩
theorem Sto.ahd {M : Nat → Prop} {kS : Nat} {bv : Value} {bs : List Int} {h g : H} {a : Int} (S : Sto M kS bv bs h a) (m : Ahd h g) : Sto M kS bv bs g a :=
  S.mod (N := fun _ => False) m.mod (fun _ h => h.elim) (fun h => h)
theorem draw121 (hI : ∀ args h, I 121 args h = none) {M : Nat → Prop} {kS : Nat} (hM : M kS) {bv : Value} {bs : List Int} {h : H} {a : Int} (hfit : Fit h) (S : Sto M kS bv bs h a) (ha : a ≤ 1000000000) (hbs : bs.length ≤ 1000000) :
    ∃ n v h', (ev tab E I n).call 121 [.pointer (some (own kS))] h = some (v, h') ∧ (∃ d, v = .int .i64 d ∧ 0 ≤ d ∧ d < 16777216 ∧ Mod (fun k => k = kS) h h' ∧ ∃ a', Sto M kS bv bs h' a' ∧ a ≤ a' ∧ a' ≤ a + 1) := by
  refine Wc.call (hI _ _) fn121 rfl ?_
  generalize hA0 : (⟨T.ofList [.pointer (some (own kS))] 0 .nil, max ([.pointer (some (own kS))] : List Value).length Tryd.f121.ntmps, []⟩ : Ac) = A0
  have n0 : A0.n = 55 := by rw [← hA0]; rfl
  have g00 : A0.get 0 = .pointer (some (own kS)) := by rw [← hA0]; rfl
  have d0 : A0.defers = [] := by rw [← hA0]
  obtain ⟨seed, bS, s0, s1, hBt, a0⟩ := S
  have hkl : kS < h.next := hfit.lt bS
  have e1 : isOne bv = true := by
    rcases hBt with ⟨rfl, _⟩ | ⟨k, c, rt, rfl, _⟩ <;> rfl
  by_cases hne : bs.length = 0
  · -- no bytes
    have hbv : ∃ b c, bv = .slice b bs.length c := by
      rcases hBt with ⟨rfl, hbs⟩ | ⟨k, c, rt, rfl, _⟩
      · exact ⟨none, 0, by rw [hbs]; rfl⟩
      · exact ⟨_, _, rfl⟩
    obtain ⟨b, c, hbv⟩ := hbv
    have hgt : decide ((bs.length : Int) > 0) = false := by rw [hne]; rfl
    have l0 : h.cell E (aadd (own kS) 0) = some (.slice b bs.length c) := by rw [← hbv]; exact blk_cell (i := 0) bS rfl e1
    have l2 : h.cell E (aadd (own kS) 2) = some (.int .u64 seed) := blk_cell (i := 2) bS rfl rfl
    have st : ∀ x, astore tab 99 (aadd (own kS) 2) (.int .u64 x) h = some (h.setl kS (.cells [bv, .int .i64 a, .int .u64 x] 101 none)) := fun x => st99_2 bS
    have l3 : ∀ x, (h.setl kS (.cells [bv, .int .i64 a, .int .u64 x] 101 none)).cell E (aadd (own kS) 2) = some (.int .u64 x) := fun x => blk_cell (i := 2) (setl_same rfl) rfl rfl
    repeat' (first | (with_reducible apply Wc.seq) | (apply Wc.ops; (focus ((repeat' (first | with_reducible exact RO.nil | ((with_reducible apply RO.run (awant_none rfl)); (focus ((first | simp +decide only [awant, ayield_get, oper1, aop, opv, opvs, opvo, opvp, abuiltin, aun, Ac.get_put, abin, isShift, aint, roV, pair, bind, Option.bind, acall, Sx, n0, g00, fa101_0, fa101_2, ld31, ld99, l0, l2, len31, hgt, st, l3, shr40, cv99_3] | skip); with_reducible rfl))))); done))) | (refine Wc.cond2 (by simp +decide only [opv, Ac.get_put, Sx, n0, g00, fa101_0, fa101_2, ld31, ld99, l0, l2, len31, hgt, st, l3, shr40, cv99_3]; try with_reducible rfl) (fun hb => ?_) (fun hb => ?_) <;> try contradiction) | refine Wc.skip ?_ | refine Wc.ret ?_ | refine Wc.exit ?_ | refine Wc.block ?_)
    have m2 : ∀ x, Mod (fun k => k = kS) h (h.setl kS (.cells [bv, .int .i64 a, .int .u64 x] 101 none)) := fun x => (Mod.refl hfit).setl rfl rfl hkl
    refine done_q (v := .int .i64 (IntKind.i64.wrap ((IntKind.u64.wrap (IntKind.u64.wrap (seed * 6364136223846793005) + 1442695040888963407)).fdiv 1099511627776))) (.inr rfl) (by simp +decide only [Ac.get_put, Sx, d0]) rfl (by simp +decide only [Ac.get_put, Sx, n0]) ⟨_, rfl, (dres _).1, (dres _).2, m2 _, a, ⟨_, setl_same rfl, (wrapU _).1, (wrapU _).2, hBt.mod (m2 _) (fun k hk => by subst hk; exact hM), a0⟩, Int.le_refl _, by omega⟩
  · rcases hBt with ⟨_, hbs0⟩ | ⟨k, c, rt, rfl, bk, hMk⟩
    · rw [hbs0] at hne; exact absurd rfl hne
    have hgt : decide ((bs.length : Int) > 0) = true := by simp; omega
    have l0 : h.cell E (aadd (own kS) 0) = some (.slice (some (own k)) bs.length c) := blk_cell (i := 0) bS rfl rfl
    have f0 : (fresh h).cell E (aadd (own kS) 0) = some (.slice (some (own k)) bs.length c) := l0
    have f1 : (fresh h).cell E (aadd (own kS) 1) = some (.int .i64 a) := blk_cell (h := fresh h) (i := 1) bS rfl rfl
    have f2 : (fresh h).cell E (aadd (own kS) 2) = some (.int .u64 seed) := blk_cell (h := fresh h) (i := 2) bS rfl rfl
    obtain ⟨i, hi, hmod⟩ : ∃ i : Nat, i < bs.length ∧ a.tmod (bs.length : Int) = (i : Nat) := by
      refine ⟨(a % (bs.length : Int)).toNat, ?_, ?_⟩
      · have h1 := Int.emod_nonneg a (b := (bs.length : Int)) (by omega)
        have h2 := Int.emod_lt_of_pos a (b := (bs.length : Int)) (by omega)
        omega
      · rw [Int.tmod_eq_emod_of_nonneg a0]
        have h1 := Int.emod_nonneg a (b := (bs.length : Int)) (by omega)
        omega
    have hpos : (0 : Int) < (bs.length : Int) := by omega
    have hir : inRange (i : Int) bs.length = true := by
      show Nat.blt i bs.length = true
      rw [Nat.blt_eq]; exact hi
    have fb : (fresh h).cell E (aadd (own k) (i * 1)) = some (.int .u8 bs[i]) := blk_cell (h := fresh h) bk (by rw [Nat.mul_one, List.getElem?_map, List.getElem?_eq_getElem hi]; rfl) rfl
    have st : ∀ x, astore tab 99 (aadd (own kS) 2) (.int .u64 x) (fresh h) = some ((fresh h).setl kS (.cells [.slice (some (own k)) bs.length c, .int .i64 a, .int .u64 x] 101 none)) := fun x => st99_2 (g := fresh h) bS
    repeat' (first | (with_reducible apply Wc.seq) | (apply Wc.ops; (focus ((repeat' (first | with_reducible exact RO.nil | ((with_reducible apply RO.run (awant_none rfl)); (focus ((first | simp +decide only [awant, ayield_get, oper1, aop, opv, opvs, opvo, opvp, abuiltin, aun, Ac.get_put, abin, isShift, aint, roV, pair, bind, Option.bind, acall, Sx, n0, g00, fa101_0, ld31, l0, len31, hgt] | skip); with_reducible rfl))))); done))) | (refine Wc.cond2 (by simp +decide only [opv, Ac.get_put, Sx, n0, g00, fa101_0, ld31, l0, len31, hgt]; try with_reducible rfl) (fun hb => ?_) (fun hb => ?_) <;> try contradiction) | refine Wc.skip ?_ | refine Wc.ret ?_ | refine Wc.exit ?_ | refine Wc.block ?_)
    refine Wc.forget (fun A => A.n = 55 ∧ A.defers = [] ∧ A.get 0 = .pointer (some (own kS))) ⟨by simp +decide only [Ac.get_put, Sx, n0], by simp +decide only [Ac.get_put, Sx, d0], by simp +decide only [Ac.get_put, Sx, n0, g00]⟩ ?_
    clear hA0 n0 g00 d0
    rintro A0 ⟨n0, d0, g00⟩
    refine Wc.drawQ 1 (by kernel_rfl) ?_
    (iterate 17 (first | ((apply FQ.pure rfl rfl); (focus ((first | simp +decide only [awant, ayield_get, oper1, aop, opv, opvs, opvo, opvp, abuiltin, aun, Ac.get_put, abin, isShift, aint, roV, pair, bind, Option.bind, acall, Sx, n0, g00, fa101_0, fa101_1, fa101_2, ld3, ld31, ld99, f0, f1, f2, len31] | skip); with_reducible rfl))) | ((apply FQ.new rfl rfl); (focus ((first | simp +decide only [awant, ayield_get, oper1, aop, opv, opvs, opvo, opvp, abuiltin, aun, Ac.get_put, abin, isShift, aint, roV, pair, bind, Option.bind, acall, Sx, n0, g00, fa101_0, fa101_1, fa101_2, ld3, ld31, ld99, f0, f1, f2, len31] | skip); with_reducible rfl)))))
    refine FQ.pure (x := .int .i64 (i : Nat)) rfl rfl (by simp +decide only [awant, ayield_get, oper1, aop, opv, opvs, opvo, opvp, abuiltin, aun, Ac.get_put, abin, isShift, roV, pair, bind, Option.bind, acall, Sx, n0, remI hpos, hmod]) ?_
    (iterate 6 (first | ((apply FQ.pure rfl rfl); (focus ((first | simp +decide only [awant, ayield_get, oper1, aop, opv, opvs, opvo, opvp, abuiltin, aun, Ac.get_put, abin, isShift, aint, roV, pair, bind, Option.bind, acall, Sx, n0, fa101_0, fa101_1, fa101_2, ld5, ia31 _ _ _ _ hir, Int.toNat_natCast, fb, cv5_99, g00] | skip); with_reducible rfl))) | ((apply FQ.new rfl rfl); (focus ((first | simp +decide only [awant, ayield_get, oper1, aop, opv, opvs, opvo, opvp, abuiltin, aun, Ac.get_put, abin, isShift, aint, roV, pair, bind, Option.bind, acall, Sx, n0, fa101_0, fa101_1, fa101_2, ld5, ia31 _ _ _ _ hir, Int.toNat_natCast, fb, cv5_99, g00] | skip); with_reducible rfl)))))
    refine FQ.setl (k := kS) rfl rfl hkl (by simp +decide only [awant, ayield_get, oper1, aop, opv, opvs, opvo, opvp, abuiltin, aun, Ac.get_put, abin, isShift, aint, roV, pair, bind, Option.bind, acall, Sx, n0, st]; with_reducible rfl) ?_
    refine FQ.nil ⟨?_, ?_⟩
    · refine allMeet_last (l := [_, _, _, _, _, _, _, _, _, _, _, _, _, _, _, _, _, _, _, _, _, _, _, _]) ?_ (by kernel_rfl)
      simp only [List.all_cons, calm, List.isEmpty_nil, Bool.true_and, List.all_nil, Bool.and_true]
      rfl
    refine Wc.state (fun A g => A.n = 55 ∧ A.defers = [] ∧ A.get 0 = .pointer (some (own kS)) ∧ ∃ x, g = h.setl kS (.cells [.slice (some (own k)) bs.length c, .int .i64 a, .int .u64 x] 101 none)) ⟨by simp +decide only [Ac.get_put, Sx, n0], by simp +decide only [Ac.get_put, Sx, d0], by simp +decide only [Ac.get_put, Sx, n0, g00], _, rfl⟩ ?_
    clear n0 d0 g00
    rintro A0 g ⟨n0, d0, g00, x1, rfl⟩
    have b1 : (h.setl kS (.cells [.slice (some (own k)) bs.length c, .int .i64 a, .int .u64 x1] 101 none)).blk kS = some (.cells [.slice (some (own k)) bs.length c, .int .i64 a, .int .u64 x1] 101 none) := setl_same rfl
    have m1 : Mod (fun k => k = kS) h (h.setl kS (.cells [.slice (some (own k)) bs.length c, .int .i64 a, .int .u64 x1] 101 none)) := (Mod.refl hfit).setl rfl rfl hkl
    have nx1 : (h.setl kS (.cells [.slice (some (own k)) bs.length c, .int .i64 a, .int .u64 x1] 101 none)).next = h.next := setl_next _ _ _
    generalize h.setl kS (.cells [.slice (some (own k)) bs.length c, .int .i64 a, .int .u64 x1] 101 none) = g1 at b1 m1 nx1 ⊢
    have l1 : g1.cell E (aadd (own kS) 1) = some (.int .i64 a) := blk_cell (i := 1) b1 rfl rfl
    have wa : IntKind.i64.wrap (a + 1) = a + 1 := wrap64 (by omega) (by omega)
    have st2 : astore tab 3 (aadd (own kS) 1) (.int .i64 (a + 1)) g1 = some (g1.setl kS (.cells [.slice (some (own k)) bs.length c, .int .i64 (a + 1), .int .u64 x1] 101 none)) := st3_1 b1
    generalize hg2 : g1.setl kS (.cells [.slice (some (own k)) bs.length c, .int .i64 (a + 1), .int .u64 x1] 101 none) = g2 at st2
    have b2 : g2.blk kS = some (.cells [.slice (some (own k)) bs.length c, .int .i64 (a + 1), .int .u64 x1] 101 none) := by rw [← hg2]; exact setl_same rfl
    have m2 : Mod (fun k => k = kS) h g2 := by rw [← hg2]; exact m1.setl rfl rfl (by rw [nx1]; exact hkl)
    have nx2 : g2.next = h.next := by rw [← hg2, setl_next]; exact nx1
    have l2 : g2.cell E (aadd (own kS) 2) = some (.int .u64 x1) := blk_cell (i := 2) b2 rfl rfl
    have st3 : ∀ x, astore tab 99 (aadd (own kS) 2) (.int .u64 x) g2 = some (g2.setl kS (.cells [.slice (some (own k)) bs.length c, .int .i64 (a + 1), .int .u64 x] 101 none)) := fun x => st99_2 b2
    have l3 : ∀ x, (g2.setl kS (.cells [.slice (some (own k)) bs.length c, .int .i64 (a + 1), .int .u64 x] 101 none)).cell E (aadd (own kS) 2) = some (.int .u64 x) := fun x => blk_cell (i := 2) (setl_same rfl) rfl rfl
    repeat' (first | (with_reducible apply Wc.seq) | (apply Wc.ops; (focus ((repeat' (first | with_reducible exact RO.nil | ((with_reducible apply RO.run (awant_none rfl)); (focus ((first | simp +decide only [awant, ayield_get, oper1, aop, opv, opvs, opvo, opvp, abuiltin, aun, Ac.get_put, abin, isShift, aint, roV, pair, bind, Option.bind, acall, Sx, n0, g00, fa101_1, fa101_2, ld3, ld99, l1, wa, st2, l2, st3, l3, shr40, cv99_3] | skip); with_reducible rfl))))); done))) | (refine Wc.cond2 (by simp +decide only [opv, Ac.get_put, Sx, n0, g00, fa101_1, fa101_2, ld3, ld99, l1, wa, st2, l2, st3, l3, shr40, cv99_3]; try with_reducible rfl) (fun hb => ?_) (fun hb => ?_) <;> try contradiction) | refine Wc.skip ?_ | refine Wc.ret ?_ | refine Wc.exit ?_ | refine Wc.block ?_)
    have m3 : ∀ x, Mod (fun k => k = kS) h (g2.setl kS (.cells [.slice (some (own k)) bs.length c, .int .i64 (a + 1), .int .u64 x] 101 none)) := fun x => m2.setl rfl rfl (by rw [nx2]; exact hkl)
    refine done_q (v := .int .i64 (IntKind.i64.wrap ((IntKind.u64.wrap (IntKind.u64.wrap (x1 * 6364136223846793005) + 1442695040888963407)).fdiv 1099511627776))) (.inr rfl) (by simp +decide only [Ac.get_put, Sx, d0]) rfl (by simp +decide only [Ac.get_put, Sx, n0]) ⟨_, rfl, (dres _).1, (dres _).2, m3 _, a + 1, ⟨_, setl_same rfl, (wrapU _).1, (wrapU _).2, .inr ⟨k, c, rt, rfl, (m3 _).blk _ _ (fun e => hMk (by rw [e]; exact hM)) bk, hMk⟩, by omega⟩, by omega, Int.le_refl _⟩
theorem less94 (hI : ∀ f args h, (f = 121 ∨ f = 94) → I f args h = none) {M : Nat → Prop} {kS : Nat} (hM : M kS) {bv : Value} {bs : List Int} {h : H} {a : Int} (hfit : Fit h) (S : Sto M kS bv bs h a) (ha : a ≤ 1000000000) (hbs : bs.length ≤ 1000000) (m : Int) (hm : 0 < m) :
    ∃ n v h', (ev tab E I n).call 94 [.pointer (some (own kS)), .int .i64 m] h = some (v, h') ∧ (∃ d, v = .int .i64 d ∧ 0 ≤ d ∧ d < m ∧ Mod (fun k => k = kS) h h' ∧ ∃ a', Sto M kS bv bs h' a' ∧ a ≤ a' ∧ a' ≤ a + 1) := by
  obtain ⟨nf, v1, h1, hc, d, rfl, e0, e1, m1, a', S', a1, a2⟩ := draw121 (E := E) (I := I) (fun args h => hI _ args h (.inl rfl)) hM hfit S ha hbs
  refine Wc.call (hI _ _ _ (.inr rfl)) fn94 rfl ?_
  generalize hA0 : (⟨T.ofList [.pointer (some (own kS)), .int .i64 m] 0 .nil, max ([.pointer (some (own kS)), .int .i64 m] : List Value).length Tryd.f94.ntmps, []⟩ : Ac) = A0
  have n0 : A0.n = 11 := by rw [← hA0]; rfl
  have g00 : A0.get 0 = .pointer (some (own kS)) := by rw [← hA0]; rfl
  have g01 : A0.get 1 = .int .i64 m := by rw [← hA0]; rfl
  have d0 : A0.defers = [] := by rw [← hA0]
  have hle : decide (m ≤ 0) = false := by simp; omega
  repeat' (with_reducible apply Wc.seq)
  refine Wc.ops (by repeat' (first | with_reducible exact RO.nil | ((with_reducible apply RO.run (awant_none rfl)); (focus ((first | simp +decide only [awant, ayield_get, oper1, aop, opv, opvs, opvo, opvp, abuiltin, aun, Ac.get_put, abin, isShift, aint, roV, pair, bind, Option.bind, acall, Sx, n0] | skip); with_reducible rfl))))) ?_
  repeat' (with_reducible apply Wc.seq)
  refine Wc.ops (by repeat' (first | with_reducible exact RO.nil | ((with_reducible apply RO.run (awant_none rfl)); (focus ((first | simp +decide only [awant, ayield_get, oper1, aop, opv, opvs, opvo, opvp, abuiltin, aun, Ac.get_put, abin, isShift, aint, roV, pair, bind, Option.bind, acall, Sx, n0, g01, hle] | skip); with_reducible rfl))))) ?_
  repeat' (with_reducible apply Wc.seq)
  refine Wc.cond2 (by simp +decide only [awant, ayield_get, oper1, aop, opv, opvs, opvo, opvp, abuiltin, aun, Ac.get_put, abin, isShift, aint, roV, pair, bind, Option.bind, acall, Sx, n0]; try with_reducible rfl) (fun hb => ?_) (fun hb => ?_) <;> try contradiction
  refine Wc.skip ?_
  repeat' (with_reducible apply Wc.seq)
  refine Wc.opsQ nf ?_
  (iterate 3 (first | ((with_reducible apply RQ.run (awant_none rfl)); (focus ((first | simp +decide only [awant, ayield_get, oper1, aop, opv, opvs, opvo, opvp, abuiltin, aun, Ac.get_put, abin, isShift, aint, roV, pair, bind, Option.bind, acall, Sx, n0, g00, g01, hc] | skip); with_reducible rfl))) | ((with_reducible apply RQ.runG); (focus rfl); (focus rfl); (focus (simp +decide only [awant, ayield_get, oper1, aop, opv, opvs, opvo, opvp, abuiltin, aun, Ac.get_put, abin, isShift, aint, roV, pair, bind, Option.bind, acall, Sx, n0, g00, g01, hc]; done)); (focus ((first | simp +decide only [awant, ayield_get, oper1, aop, opv, opvs, opvo, opvp, abuiltin, aun, Ac.get_put, abin, isShift, aint, roV, pair, bind, Option.bind, acall, Sx, n0, g00, g01, hc] | skip); with_reducible rfl))) | ((with_reducible apply RQ.skipG); (focus rfl); (focus rfl); (focus (simp +decide only [awant, ayield_get, oper1, aop, opv, opvs, opvo, opvp, abuiltin, aun, Ac.get_put, abin, isShift, aint, roV, pair, bind, Option.bind, acall, Sx, n0, g00, g01, hc]; done)))))
  refine RQ.run (x := .int .i64 (d.tmod m)) (awant_none rfl) (by simp +decide only [awant, ayield_get, oper1, aop, opv, opvs, opvo, opvp, abuiltin, aun, Ac.get_put, abin, isShift, roV, pair, bind, Option.bind, acall, Sx, n0, remI hm]; with_reducible rfl) ?_
  (iterate 1 (first | ((with_reducible apply RQ.run (awant_none rfl)); (focus ((first | simp +decide only [awant, ayield_get, oper1, aop, opv, opvs, opvo, opvp, abuiltin, aun, Ac.get_put, abin, isShift, aint, roV, pair, bind, Option.bind, acall, Sx, n0] | skip); with_reducible rfl))) | ((with_reducible apply RQ.runG); (focus rfl); (focus rfl); (focus (simp +decide only [awant, ayield_get, oper1, aop, opv, opvs, opvo, opvp, abuiltin, aun, Ac.get_put, abin, isShift, aint, roV, pair, bind, Option.bind, acall, Sx, n0]; done)); (focus ((first | simp +decide only [awant, ayield_get, oper1, aop, opv, opvs, opvo, opvp, abuiltin, aun, Ac.get_put, abin, isShift, aint, roV, pair, bind, Option.bind, acall, Sx, n0] | skip); with_reducible rfl))) | ((with_reducible apply RQ.skipG); (focus rfl); (focus rfl); (focus (simp +decide only [awant, ayield_get, oper1, aop, opv, opvs, opvo, opvp, abuiltin, aun, Ac.get_put, abin, isShift, aint, roV, pair, bind, Option.bind, acall, Sx, n0]; done)))))
  refine RQ.nil ?_
  refine Wc.ret ?_
  refine done_q (v := .int .i64 (d.tmod m)) (.inr rfl) (by simp +decide only [Ac.get_put, Sx, d0]) rfl (by simp +decide only [Ac.get_put, Sx, n0]) ⟨_, rfl, ?_, ?_, m1, a', S', a1, a2⟩
  · rw [Int.tmod_eq_emod_of_nonneg e0]; exact Int.emod_nonneg _ (by omega)
  · rw [Int.tmod_eq_emod_of_nonneg e0]; exact Int.emod_lt_of_pos _ hm
theorem from93 (hI : ∀ f args h, (f = 121 ∨ f = 94 ∨ f = 93) → I f args h = none) {M : Nat → Prop} {kS : Nat} (hM : M kS) {bv : Value} {bs : List Int} {h : H} {a : Int} (hfit : Fit h) (S : Sto M kS bv bs h a) (ha : a ≤ 1000000000) (hbs : bs.length ≤ 1000000) (lo hi : Int) (h0 : 0 ≤ lo) (h1 : lo ≤ hi) (h2 : hi ≤ 1000000) :
    ∃ n v h', (ev tab E I n).call 93 [.pointer (some (own kS)), .int .i64 lo, .int .i64 hi] h = some (v, h') ∧ (∃ d, v = .int .i64 d ∧ lo ≤ d ∧ d ≤ hi ∧ Mod (fun k => k = kS) h h' ∧ ∃ a', Sto M kS bv bs h' a' ∧ a ≤ a' ∧ a' ≤ a + 1) := by
  obtain ⟨nf, v1, h1', hc, d, rfl, e0, e1, m1, a', S', a1, a2⟩ := less94 (E := E) (I := I) (fun f args h hf => hI f args h (by rcases hf with h | h <;> simp [h])) hM hfit S ha hbs (hi - lo + 1) (by omega)
  refine Wc.call (hI _ _ _ (.inr (.inr rfl))) fn93 rfl ?_
  generalize hA0 : (⟨T.ofList [.pointer (some (own kS)), .int .i64 lo, .int .i64 hi] 0 .nil, max ([.pointer (some (own kS)), .int .i64 lo, .int .i64 hi] : List Value).length Tryd.f93.ntmps, []⟩ : Ac) = A0
  have n0 : A0.n = 15 := by rw [← hA0]; rfl
  have g00 : A0.get 0 = .pointer (some (own kS)) := by rw [← hA0]; rfl
  have g01 : A0.get 1 = .int .i64 lo := by rw [← hA0]; rfl
  have g02 : A0.get 2 = .int .i64 hi := by rw [← hA0]; rfl
  have d0 : A0.defers = [] := by rw [← hA0]
  have w1 : IntKind.i64.wrap (hi - lo) = hi - lo := wrap64 (by omega) (by omega)
  have w2 : IntKind.i64.wrap (hi - lo + 1) = hi - lo + 1 := wrap64 (by omega) (by omega)
  have w3 : IntKind.i64.wrap (lo + d) = lo + d := wrap64 (by omega) (by omega)
  repeat' (first | (with_reducible apply Wc.seq) | (apply Wc.opsN nf; (focus ((repeat' (first | with_reducible exact RO.nil | ((with_reducible apply RO.run (awant_none rfl)); (focus ((first | simp +decide only [awant, ayield_get, oper1, aop, opv, opvs, opvo, opvp, abuiltin, aun, Ac.get_put, abin, isShift, aint, roV, pair, bind, Option.bind, acall, Sx, n0, g00, g01, g02, w1, w2, w3, hc] | skip); with_reducible rfl))))); done))) | (refine Wc.cond2 (by simp +decide only [opv, Ac.get_put, Sx, n0, g00, g01, g02, w1, w2, w3, hc]; try with_reducible rfl) (fun hb => ?_) (fun hb => ?_) <;> try contradiction) | refine Wc.skip ?_ | refine Wc.ret ?_ | refine Wc.exit ?_ | refine Wc.block ?_)
  exact done_q (v := .int .i64 (lo + d)) (.inr rfl) (by simp +decide only [Ac.get_put, Sx, d0]) rfl (by simp +decide only [Ac.get_put, Sx, n0]) ⟨_, rfl, by omega, by omega, m1, a', S', a1, a2⟩
theorem seldom95 (hI : ∀ f args h, (f = 121 ∨ f = 94 ∨ f = 95) → I f args h = none) {M : Nat → Prop} {kS : Nat} (hM : M kS) {bv : Value} {bs : List Int} {h : H} {a : Int} (hfit : Fit h) (S : Sto M kS bv bs h a) (ha : a ≤ 1000000000) (hbs : bs.length ≤ 1000000) (m : Int) (hm : 0 < m) :
    ∃ n v h', (ev tab E I n).call 95 [.pointer (some (own kS)), .int .i64 m] h = some (v, h') ∧ (∃ b, v = .bool b ∧ Mod (fun k => k = kS) h h' ∧ ∃ a', Sto M kS bv bs h' a' ∧ a ≤ a' ∧ a' ≤ a + 1) := by
  obtain ⟨nf, v1, h1', hc, d, rfl, e0, e1, m1, a', S', a1, a2⟩ := less94 (E := E) (I := I) (fun f args h hf => hI f args h (by rcases hf with h | h <;> simp [h])) hM hfit S ha hbs m hm
  refine Wc.call (hI _ _ _ (.inr (.inr rfl))) fn95 rfl ?_
  generalize hA0 : (⟨T.ofList [.pointer (some (own kS)), .int .i64 m] 0 .nil, max ([.pointer (some (own kS)), .int .i64 m] : List Value).length Tryd.f95.ntmps, []⟩ : Ac) = A0
  have n0 : A0.n = 9 := by rw [← hA0]; rfl
  have g00 : A0.get 0 = .pointer (some (own kS)) := by rw [← hA0]; rfl
  have g01 : A0.get 1 = .int .i64 m := by rw [← hA0]; rfl
  have d0 : A0.defers = [] := by rw [← hA0]
  repeat' (first | (with_reducible apply Wc.seq) | (apply Wc.opsN nf; (focus ((repeat' (first | with_reducible exact RO.nil | ((with_reducible apply RO.run (awant_none rfl)); (focus ((first | simp +decide only [awant, ayield_get, oper1, aop, opv, opvs, opvo, opvp, abuiltin, aun, Ac.get_put, abin, isShift, aint, roV, pair, bind, Option.bind, acall, Sx, n0, g00, g01, hc] | skip); with_reducible rfl))))); done))) | (refine Wc.cond2 (by simp +decide only [opv, Ac.get_put, Sx, n0, g00, g01, hc]; try with_reducible rfl) (fun hb => ?_) (fun hb => ?_) <;> try contradiction) | refine Wc.skip ?_ | refine Wc.ret ?_ | refine Wc.exit ?_ | refine Wc.block ?_)
  exact done_q (v := .bool (decide (d = 0))) (.inr rfl) (by simp +decide only [Ac.get_put, Sx, d0]) rfl (by simp +decide only [Ac.get_put, Sx, n0]) ⟨_, rfl, m1, a', S', a1, a2⟩
end Go.Proofs.YtofijpbmbmbnhaaDoor
