/- Size, as the program does it. -/
import Derived.Test.YtofijpbmbmbnhaaDoorHsai
set_option linter.unusedSimpArgs false
set_option linter.unusedVariables false
set_option maxRecDepth 100000
set_option maxHeartbeats 4000000
namespace Go.Proofs.YtofijpbmbmbnhaaDoor
open Go Go.Hs Go.Proofs
variable {E : Env} {I : Known}
theorem fn32 : tab.fn.get 32 = some Tryd.f32 := by kernel_rfl
noncomputable def asg32 : Code := (rangeOf Tryd.f32).1
noncomputable def bod32 : Code := (rangeOf Tryd.f32).2
structure St32 (g0 : H) (kA kB l : Nat) (r0 : LoopR) (s : Int × Int) (g : H) : Prop where
  fit : Fit g
  log : g.log = []
  mark : g.mark = g0.mark
  keep : Keep (fun k => k = kA ∨ k = kB ∨ k = l) g0 g
  bA : g.blk kA = some (.cells [.int .i64 s.1] 3 none)
  bB : g.blk kB = some (.cells [.int .i64 s.2] 3 none)
  bl : g.blk l = some (.loop r0)
theorem St32.ahd {g0 : H} {kA kB l : Nat} {r0 : LoopR} {s : Int × Int} {g g' : H} (S : St32 g0 kA kB l r0 s g) (a : Ahd g g') : St32 g0 kA kB l r0 s g' :=
  ⟨a.fit, a.log.trans S.log, a.mark.trans S.mark, S.keep.ahd a, a.grows _ _ S.bA, a.grows _ _ S.bB, a.grows _ _ S.bl⟩
theorem round32 {J : Known} {g0 : H} {kA kB l d : Nat} (o1 : kA < kB) (o2 : kB < l) (om : g0.mark ≤ kA) {A : Ac} (nA : A.n = 21) (p2 : A.get 2 = .pointer (some (own kA))) (p3 : A.get 3 = .pointer (some (own kB))) {s : Int × Int} {g : H}
    (S : St32 g0 kA kB l ⟨.ready, none, 32, A.tmps, A.n, #[14, 15], asg32, bod32, d⟩ s g) {lv : Int} {t : Hs.Item} {xv : Value} :
    ∃ n v g', (ev tab E J n).round l [.int .i64 lv, xv] g = some (v, g') ∧ (v = .bool (stepW lv t s).2 ∧ St32 g0 kA kB l ⟨.ready, none, 32, A.tmps, A.n, #[14, 15], asg32, bod32, d⟩ (stepW lv t s).1 g' ∧ Keep (fun k => k = kA ∨ k = kB ∨ k = l) g g') := by
  obtain ⟨c, m⟩ := s
  generalize hr0 : (⟨.ready, none, 32, A.tmps, A.n, #[14, 15], asg32, bod32, d⟩ : LoopR) = r0 at S ⊢
  have bl := S.bl
  have hln := S.fit.lt bl
  refine Wr.round bl (A := ((⟨A.tmps, A.n, []⟩ : Ac).put (some 14) (.int .i64 lv)).put (some 15) xv) (by rw [← hr0]; rfl) ?_
  have hp : ∀ i, (⟨A.tmps, A.n, []⟩ : Ac).get i = A.get i := fun _ => rfl
  have hpn : (⟨A.tmps, A.n, []⟩ : Ac).n = 21 := nA
  have q2 := (hp 2).trans p2
  have q3 := (hp 3).trans p3
  generalize (⟨A.tmps, A.n, []⟩ : Ac) = B0 at hpn q2 q3 ⊢
  have asgW : Wc tab E J ⟨r0.fn, some l⟩ r0.assign ((B0.put (some 14) (.int .i64 lv)).put (some 15) xv) g (fun ex A1 h1 => ex = .normal ∧ h1 = g ∧ A1.n = 21 ∧ A1.get 2 = .pointer (some (own kA)) ∧ A1.get 3 = .pointer (some (own kB)) ∧ A1.get 6 = .int .i64 lv) := by
    have hasg : r0.assign = asg32 := by rw [← hr0]
    have hfn0 : r0.fn = 32 := by rw [← hr0]
    rw [hasg, hfn0]
    simp only [asg32, rangeOf, firstRange, Option.getD, Tryd.f32]
    repeat' (first | (with_reducible apply Wc.seq) | (apply Wc.ops; (focus ((repeat' (first | with_reducible exact RO.nil | ((with_reducible apply RO.run (awant_none rfl)); (focus ((first | simp +decide only [awant, ayield_get, oper1, aop, opv, opvs, opvo, opvp, abuiltin, aun, Ac.get_put, abin, isShift, aint, roV, pair, bind, Option.bind, acall, Sx, hpn, q2, q3] | skip); with_reducible rfl))))); done))) | (refine Wc.cond2 (by simp +decide only [opv, Ac.get_put, Sx, hpn, q2, q3]; try with_reducible rfl) (fun hb => ?_) (fun hb => ?_) <;> try contradiction) | refine Wc.skip ?_ | refine Wc.ret ?_ | refine Wc.exit ?_ | refine Wc.block ?_)
    exact ⟨rfl, rfl, by simp +decide only [Ac.get_put, Sx, hpn], by simp +decide only [Ac.get_put, Sx, hpn, q2], by simp +decide only [Ac.get_put, Sx, hpn, q3], by simp +decide only [Ac.get_put, Sx, hpn]⟩
  refine asgW.mono ?_
  clear asgW
  rintro ex A1 h1 ⟨rfl, rfl, nA1, u2, u3, u6⟩
  refine ⟨rfl, r0, bl, by rw [← hr0], ?_⟩
  have hml : h1.mark ≤ l := by rw [S.mark]; omega
  rw [turn_above hml]
  generalize hh7 : h1.setb l (.loop { r0 with state := .busy }) = h7
  have f7 : Fit h7 := by rw [← hh7]; exact S.fit.setb rfl hln
  have A7 : h7.blk kA = some (.cells [.int .i64 c] 3 none) := by rw [← hh7, setb_ne (by omega)]; exact S.bA
  have B7 : h7.blk kB = some (.cells [.int .i64 m] 3 none) := by rw [← hh7, setb_ne (by omega)]; exact S.bB
  have L7 : h7.blk l = some (.loop { r0 with state := .busy }) := by rw [← hh7]; exact setb_same rfl
  have k7 : Keep (fun k => k = kA ∨ k = kB ∨ k = l) h1 h7 := by rw [← hh7]; exact (Keep.refl _ h1).setb (.inr (.inr rfl))
  have log7 : h7.log = [] := by rw [← hh7]; exact S.log
  have mark7 : h7.mark = g0.mark := by rw [← hh7]; exact S.mark
  have n7 : h7.next = h1.next := by rw [← hh7]; rfl
  have mA : h7.mark ≤ kA := by rw [mark7]; exact om
  have xA : h7.cell E (own kA) = some (.int .i64 c) := blk_cell0 A7 rfl
  have sA := st3 (i := IntKind.i64.wrap (c + 1)) A7 mA
  generalize hh8 : h7.setb kA (.cells [.int .i64 (IntKind.i64.wrap (c + 1))] 3 none) = h8 at sA
  have f8 : Fit h8 := by rw [← hh8]; exact f7.setb rfl (by omega)
  have A8 : h8.blk kA = some (.cells [.int .i64 (IntKind.i64.wrap (c + 1))] 3 none) := by rw [← hh8]; exact setb_same rfl
  have B8 : h8.blk kB = some (.cells [.int .i64 m] 3 none) := by rw [← hh8, setb_ne (by omega)]; exact B7
  have L8 : h8.blk l = some (.loop { r0 with state := .busy }) := by rw [← hh8, setb_ne (by omega)]; exact L7
  have k8 : Keep (fun k => k = kA ∨ k = kB ∨ k = l) h1 h8 := by rw [← hh8]; exact k7.setb (.inl rfl)
  have log8 : h8.log = [] := by rw [← hh8]; exact log7
  have mark8 : h8.mark = g0.mark := by rw [← hh8]; exact mark7
  have n8 : h8.next = h1.next := by rw [← hh8]; exact n7
  have xB : h8.cell E (own kB) = some (.int .i64 m) := blk_cell0 B8 rfl
  have sB := st3 (i := if lv > m then lv else m) B8 (by omega)
  have hmx : amin (fun x y => if y > x then y else x) [.int .i64 m, .int .i64 lv] = some (.int .i64 (if lv > m then lv else m)) := rfl
  have hbod : r0.body = bod32 := by rw [← hr0]
  have hfn0 : r0.fn = 32 := by rw [← hr0]
  rw [hbod, hfn0]
  simp only [bod32, rangeOf, firstRange, Option.getD, Tryd.f32]
  repeat' (first | (with_reducible apply Wc.seq) | (apply Wc.ops; (focus ((repeat' (first | with_reducible exact RO.nil | ((with_reducible apply RO.run (awant_none rfl)); (focus ((first | simp +decide only [awant, ayield_get, oper1, aop, opv, opvs, opvo, opvp, abuiltin, aun, Ac.get_put, abin, isShift, aint, roV, pair, bind, Option.bind, acall, Sx, nA1, u2, u3, u6, ld3, xA, sA, xB, hmx, sB] | skip); with_reducible rfl))))); done))) | (refine Wc.cond2 (by simp +decide only [opv, Ac.get_put, Sx, nA1, u2, u3, u6, ld3, xA, sA, xB, hmx, sB]; try with_reducible rfl) (fun hb => ?_) (fun hb => ?_) <;> try contradiction) | refine Wc.skip ?_ | refine Wc.ret ?_ | refine Wc.exit ?_ | refine Wc.block ?_)
  refine ⟨{ r0 with state := .busy }, by rw [setb_ne (by omega)]; exact L8, .inl ⟨rfl, rfl, ?_⟩⟩
  rw [turn_above (by show h8.mark ≤ l; rw [mark8]; omega)]
  have er : ({ r0 with state := .ready, pending := none } : LoopR) = r0 := by rw [← hr0]
  have kk := (k8.setb (k := kB) (B := .cells [.int .i64 (if lv > m then lv else m)] 3 none) (.inr (.inl rfl))).setb (k := l) (B := .loop { r0 with state := .ready, pending := none }) (.inr (.inr rfl))
  refine ⟨⟨(f8.setb rfl (by omega)).setb rfl (by show l < h8.next; omega), log8, mark8, S.keep.trans kk, ?_, ?_, ?_⟩, kk⟩
  · rw [setb_ne (by omega), setb_ne (by omega)]; exact A8
  · rw [setb_ne (by omega)]; exact setb_same rfl
  · refine (setb_same rfl).trans ?_
    show some (Blk.loop { r0 with state := .ready, pending := none }) = _
    rw [er]
def says32 (E : Env) : Says := fun s f args h v => f = 32 ∧ s = 0 ∧ ∃ t xv, args = [xv] ∧ rep E h t xv ∧ isz t ≤ 1000000 ∧ v = .tuple #[.int .i64 (szI t).1, .int .i64 (szI t).2.1, .int .i64 (szI t).2.2]
theorem one32 (E : Env) : One (says32 E) := by
  rintro s s' f args h v v' ⟨_, _, t, xv, rfl, h1, _, rfl⟩ ⟨_, _, t', xv', he, h2, _, rfl⟩
  cases he
  rw [rep_one h1 h2]
theorem shown32 (hI : ∀ f args h, (f = 32 ∨ f = 70 ∨ f = 109 ∨ f = 110) → I f args h = none) (h35 : ∀ t xv h, rep E h t xv → isz t ≤ 1000000 → I 35 [xv] h = some (some (.int .i64 (chkI t 0 1).2, h))) : ShownF tab E I (says32 E) := by
  rintro sz f args h v ⟨rfl, rfl, t, xv, rfl, hr, hz, rfl⟩ hfit
  refine ⟨rfl, ?_⟩
  obtain ⟨k, m, tx, ks⟩ := t
  obtain ⟨sb, sc, rfl, hs⟩ := rep_slice hr
  have hJ : upTo (says32 E) I 0 = I := by funext f args h; exact upTo_none (fun _ _ hs => absurd hs (Nat.not_lt_zero _))
  rw [hJ]
  suffices hw : ∃ n v h', (ev tab E I n).call 32 [.agg ⟨[.int .i64 k, .int .i64 m, .string tx, .slice sb ks.length sc]⟩] (fresh h) = some (v, h') ∧ (v = .tuple #[.int .i64 (szI (.mk k m tx ks)).1, .int .i64 (szI (.mk k m tx ks)).2.1, .int .i64 (szI (.mk k m tx ks)).2.2] ∧ h'.log = []) by
    obtain ⟨n, v, h', h1, rfl, h3⟩ := hw
    exact ⟨n, h', h1, h3⟩
  refine Wc.call (hI _ _ _ (.inl rfl)) fn32 rfl ?_
  generalize hA0 : (⟨T.ofList [.agg ⟨[.int .i64 k, .int .i64 m, .string tx, .slice sb ks.length sc]⟩] 0 .nil, max ([.agg ⟨[.int .i64 k, .int .i64 m, .string tx, .slice sb ks.length sc]⟩] : List Value).length Tryd.f32.ntmps, []⟩ : Ac) = A0
  have n0 : A0.n = 21 := by rw [← hA0]; rfl
  have g00 : A0.get 0 = .agg ⟨[.int .i64 k, .int .i64 m, .string tx, .slice sb ks.length sc]⟩ := by rw [← hA0]; rfl
  have d0 : A0.defers = [] := by rw [← hA0]
  have hl0 : (fresh h).log = [] := rfl
  have hgf : Grows h (fresh h) := fun _ _ hb => hb
  generalize hg : fresh h = g at hfit hl0 hgf
  have hmk : g.mark ≤ g.next := hfit.ok.2
  have hrg : rep E g (.mk k m tx ks) (.agg ⟨[.int .i64 k, .int .i64 m, .string tx, .slice sb ks.length sc]⟩) := rep_grow hgf hr
  generalize hh1 : g.new (.cells (Value.agg ⟨[.int .i64 k, .int .i64 m, .string tx, .slice sb ks.length sc]⟩).cells.toList 25 none) = h1
  have a1 : Ahd g h1 := by rw [← hh1]; exact Ahd.new0 hfit rfl
  have b1 : h1.blk g.next = some (.cells [.int .i64 k, .int .i64 m, .string tx, .slice sb ks.length sc] 25 none) := by rw [← hh1]; exact new_blk_new rfl
  have n1 : h1.next = g.next + 1 := by rw [← hh1]; rfl
  generalize hh2 : h1.new (.cells (Value.int .i64 0).cells.toList 3 none) = h2
  have a2 : Ahd h1 h2 := by rw [← hh2]; exact Ahd.new0 a1.fit rfl
  have b2 : h2.blk (g.next + 1) = some (.cells [.int .i64 0] 3 none) := by rw [← hh2, ← n1]; exact new_blk_new rfl
  have n2 : h2.next = g.next + 2 := by rw [← hh2]; show h1.next + 1 = _; rw [n1]
  generalize hh3 : h2.new (.cells (Value.int .i64 0).cells.toList 3 none) = h4
  have a3 : Ahd h2 h4 := by rw [← hh3]; exact Ahd.new0 a2.fit rfl
  have c3 : h4.blk (g.next + 2) = some (.cells [.int .i64 0] 3 none) := by rw [← hh3, ← n2]; exact new_blk_new rfl
  have n4 : h4.next = g.next + 3 := by rw [← hh3]; show h2.next + 1 = _; rw [n2]
  have a4 := (a1.trans a2).trans a3
  have c1 : h4.blk g.next = some (.cells [.int .i64 k, .int .i64 m, .string tx, .slice sb ks.length sc] 25 none) := a3.grows _ _ (a2.grows _ _ b1)
  have c2 : h4.blk (g.next + 1) = some (.cells [.int .i64 0] 3 none) := a3.grows _ _ b2
  have cl1 : h4.cells E (own g.next) 4 = some [.int .i64 k, .int .i64 m, .string tx, .slice sb ks.length sc] := blk_cells c1 rfl rfl
  have l4 : h4.log = [] := a4.log.trans hl0
  by_cases q : (chkI (.mk k m tx ks) 0 1).2 ≠ 0
  · have c35 : (ev tab E I 1).call 35 [.agg ⟨[.int .i64 k, .int .i64 m, .string tx, .slice sb ks.length sc]⟩] h4 = some (.int .i64 (chkI (.mk k m tx ks) 0 1).2, h4) := ev_known (h35 _ _ _ (rep_grow a4.grows hrg) hz)
    have e1 : szI (.mk k m tx ks) = (0, 0, (chkI (.mk k m tx ks) 0 1).2) := by rw [szI, if_pos q]
    have q1 : (!decide ((chkI (.mk k m tx ks) 0 1).2 = 0)) = true := by simp [q]
    have s1 := st3 (i := 0) c2 (by rw [a4.mark]; omega)
    generalize hh5 : h4.setb (g.next + 1) (.cells [.int .i64 0] 3 none) = h5 at s1
    have c5 : h5.blk (g.next + 2) = some (.cells [.int .i64 0] 3 none) := by rw [← hh5, setb_ne (by omega)]; exact c3
    have c5' : h5.blk (g.next + 1) = some (.cells [.int .i64 0] 3 none) := by rw [← hh5]; exact setb_same rfl
    have s2 := st3 (i := 0) c5 (by rw [← hh5]; show h4.mark ≤ _; rw [a4.mark]; omega)
    repeat' (first | (with_reducible apply Wc.seq) | (apply Wc.opsN 1; (focus ((repeat' (first | with_reducible exact RO.nil | ((with_reducible apply RO.run (awant_none rfl)); (focus ((first | simp +decide only [awant, ayield_get, oper1, aop, opv, opvs, opvo, opvp, abuiltin, aun, Ac.get_put, abin, isShift, aint, roV, pair, bind, Option.bind, acall, Sx, n0, d0, g00, tz3, hh1, hh2, hh3, n1, n2, ld25, cl1, c35, q1, s1, s2] | skip); with_reducible rfl))))); done))) | (refine Wc.cond2 (by simp +decide only [opv, Ac.get_put, Sx, n0, d0, g00, tz3, hh1, hh2, hh3, n1, n2, ld25, cl1, c35, q1, s1, s2]; try with_reducible rfl) (fun hb => ?_) (fun hb => ?_) <;> try contradiction) | refine Wc.skip ?_ | refine Wc.ret ?_ | refine Wc.exit ?_ | refine Wc.block ?_)
    refine done_cct (a := own (g.next + 1)) (b := own (g.next + 2)) (y := .int .i64 (chkI (.mk k m tx ks) 0 1).2) (.inr rfl) (by simp +decide only [Ac.get_put, Sx, d0]; rfl) rfl (by simp +decide only [Ac.get_put, Sx, n0]) (by simp +decide only [Ac.get_put, Sx, n0]) (by simp +decide only [Ac.get_put, Sx, n0]) (by rw [ld3]; exact blk_cell0 (by rw [setb_ne (by omega)]; exact c5') rfl) (by rw [ld3]; exact blk_cell0 (setb_same rfl) rfl) ⟨by rw [e1], ?_⟩
    rw [← hh5]; exact l4
  have q := Classical.not_not.1 q
  have q1 : (!decide ((chkI (.mk k m tx ks) 0 1).2 = 0)) = false := by simp [q]
  have hsz := chkI_size _ 0 1 q
  have e1 : szI (.mk k m tx ks) = ((chkI (.mk k m tx ks) 0 1).1, lvlI (.mk k m tx ks), 0) := by rw [szI, if_neg (fun hh => hh q)]
  obtain ⟨nf, v7, h5, hc70, rfl, hh5⟩ := call70 (E := E) (J := I) (fun args h => hI _ args h (.inr (.inl rfl))) (a := .int .i64 k) (b := .int .i64 m) (c := .string tx) (d := .slice sb ks.length sc) h4
  have hnf : ∃ nf, (ev tab E I nf).call 70 [.agg ⟨[.int .i64 k, .int .i64 m, .string tx, .slice sb ks.length sc]⟩] h4 = some (.func (.func 109) ⟨[]⟩ ⟨[.pointer (some (own (g.next + 3)))]⟩, h5) ∧ (ev tab E I nf).call 35 [.agg ⟨[.int .i64 k, .int .i64 m, .string tx, .slice sb ks.length sc]⟩] h4 = some (.int .i64 (chkI (.mk k m tx ks) 0 1).2, h4) :=
    ⟨nf + 1, by rw [← n4]; exact ev_later hc70, ev_knownS (h35 _ _ _ (rep_grow a4.grows hrg) hz)⟩
  clear hc70
  obtain ⟨nf, hc70, c35⟩ := hnf
  have a5 : Ahd h4 h5 := by rw [hh5]; exact Ahd.new0 a4.fit rfl
  have b5 : h5.blk (g.next + 3) = some (.cells [.int .i64 k, .int .i64 m, .string tx, .slice sb ks.length sc] 25 none) := by rw [hh5, ← n4]; exact new_blk_new rfl
  have n5 : h5.next = g.next + 4 := by rw [hh5]; show h4.next + 1 = _; rw [n4]
  have a05 := a4.trans a5
  repeat' (first | (with_reducible apply Wc.seq) | (apply Wc.opsN nf; (focus ((repeat' (first | with_reducible exact RO.nil | ((with_reducible apply RO.run (awant_none rfl)); (focus ((first | simp +decide only [awant, ayield_get, oper1, aop, opv, opvs, opvo, opvp, abuiltin, aun, Ac.get_put, abin, isShift, aint, roV, pair, bind, Option.bind, acall, Sx, n0, d0, g00, tz3, hh1, hh2, hh3, n1, n2, ld25, cl1, c35, q1, hc70] | skip); with_reducible rfl))))); done))) | (refine Wc.cond2 (by simp +decide only [opv, Ac.get_put, Sx, n0, d0, g00, tz3, hh1, hh2, hh3, n1, n2, ld25, cl1, c35, q1, hc70]; try with_reducible rfl) (fun hb => ?_) (fun hb => ?_) <;> try contradiction) | refine Wc.skip ?_ | refine Wc.ret ?_ | refine Wc.exit ?_ | refine Wc.block ?_)
  refine Wc.forget (fun A => A.n = 21 ∧ A.defers = [] ∧ A.get 2 = .pointer (some (own (g.next + 1))) ∧ A.get 3 = .pointer (some (own (g.next + 2))) ∧ A.get 4 = .int .i64 0 ∧ A.get 13 = .func (.func 109) ⟨[]⟩ ⟨[.pointer (some (own (g.next + 3)))]⟩) ⟨by simp +decide only [Ac.get_put, Sx, n0], by simp +decide only [Ac.get_put, Sx, d0], by simp +decide only [Ac.get_put, Sx, n0], by simp +decide only [Ac.get_put, Sx, n0], by simp +decide only [Ac.get_put, Sx, n0], by simp +decide only [Ac.get_put, Sx, n0]⟩ ?_
  clear hA0 n0 g00 d0
  rintro A ⟨nA, dA, p2, p3, p4, p13⟩
  generalize hr0 : (⟨.ready, none, 32, A.tmps, A.n, #[14, 15], asg32, bod32, g.next + 4⟩ : LoopR) = r0
  have fr0 : r0.state = .ready ∧ r0.pending = none := by rw [← hr0]; exact ⟨rfl, rfl⟩
  generalize hh6 : h5.new (.defd false) = h6
  have a6 : Ahd h5 h6 := by rw [← hh6]; exact Ahd.new0 a5.fit rfl
  have b6 : h6.blk (g.next + 4) = some (.defd false) := by rw [← hh6, ← n5]; exact new_blk_new rfl
  have n6 : h6.next = g.next + 5 := by rw [← hh6]; show h5.next + 1 = _; rw [n5]
  generalize hh7 : h6.new (.loop r0) = h7
  have a7 : Ahd h6 h7 := by rw [← hh7]; exact Ahd.new0 a6.fit rfl
  have b7 : h7.blk (g.next + 5) = some (.loop r0) := by rw [← hh7, ← n6]; exact new_blk_new rfl
  have n7 : h7.next = g.next + 6 := by rw [← hh7]; show h6.next + 1 = _; rw [n6]
  have a57 := a6.trans a7
  have a07 := a05.trans a57
  have m7 : h7.mark = g.mark := a07.mark
  have S7 : St32 h7 (g.next + 1) (g.next + 2) (g.next + 5) r0 (0, 0) h7 :=
    ⟨a7.fit, a07.log.trans hl0, rfl, Keep.refl _ _, a57.grows _ _ (a5.grows _ _ c2), a57.grows _ _ (a5.grows _ _ c3), b7⟩
  have hround := @round32 E I h7 (g.next + 1) (g.next + 2) (g.next + 5) (g.next + 4) (by omega) (by omega) (by rw [m7]; omega) A nA p2 p3
  rw [hr0] at hround
  have V : Vis E I stepW g (g.next + 5) h7.next (h7.next + 1) (fun k => k = g.next + 1 ∨ k = g.next + 2 ∨ k = g.next + 5)
      (fun _ s g' => St32 h7 (g.next + 1) (g.next + 2) (g.next + 5) r0 s g' ∧ (g'.blk h7.next = some (.cells [.func (.yield (g.next + 5)) ⟨[]⟩ ⟨[]⟩] 163 none) ∧ g'.blk (h7.next + 1) = some (.cells [.func (.func 110) ⟨[]⟩ ⟨[.pointer (some (own h7.next)), .pointer (some (own (h7.next + 1)))]⟩] 163 none))) := by
    have hM : ∀ k, h7.next ≤ k → ¬ (k = g.next + 1 ∨ k = g.next + 2 ∨ k = g.next + 5) := fun k hk => by rw [n7] at hk; omega
    refine ⟨fun S => S.1.fit, fun S k B hb => ?_, fun S => S.2.1, fun S => S.2.2, fun S a => ⟨S.1.ahd a, ⟨a.grows _ _ S.2.1, a.grows _ _ S.2.2⟩⟩, fun S k hk => hM k (Nat.le_trans S.1.keep.next hk), ?_⟩
    · have hlt := hfit.lt hb
      exact S.1.keep.blk k B (by omega) (a07.grows _ _ hb)
    · intro s g' lv t xv S hlv hlv2 hr
      obtain ⟨n, v, g'', e1, e2, e3, e4⟩ := hround S.1 (lv := lv) (t := t) (xv := xv)
      exact ⟨n, v, g'', e1, e2, ⟨e3, ⟨e4.blk _ _ (hM _ (Nat.le_refl _)) S.2.1, e4.blk _ _ (hM _ (Nat.le_succ _)) S.2.2⟩⟩, e4⟩
  obtain ⟨nc, vc, g8, hc109, rfl, ⟨S8, _⟩, kp⟩ := call109 (fun f args h hf => hI f args h (by rcases hf with h | h <;> simp [h])) V a7.fit (.mk k m tx ks) rfl (a57.grows _ _ b5) hrg hz (0, 0) (fun g' a q1 q2 => ⟨S7.ahd a, ⟨q1, q2⟩⟩)
  have hvis : (visit stepW 1 (.mk k m tx ks) (0, 0)).1 = ((chkI (.mk k m tx ks) 0 1).1, lvlI (.mk k m tx ks)) := by
    rw [visitW _ _ _ _ (Int.le_refl _) (by omega), visitS, hsz]
    have := lvlI_bound (.mk k m tx ks)
    simp only [Prod.mk.injEq]
    refine ⟨trivial, by omega⟩
  rw [hvis] at S8
  have hacall : acall (ev tab E I nc) (.func (.func 109) ⟨[]⟩ ⟨[.pointer (some (own (g.next + 3)))]⟩) [.func (.yield (h5.next + 1)) #[] #[]] ((h5.new (.defd false)).new (.loop ⟨.ready, none, 32, A.tmps, A.n, #[14, 15], asg32, bod32, h5.next⟩)) = some (.tuple #[], g8) := by
    rw [n5, hr0, hh6, hh7]
    exact hc109
  have hopv : opv A (.tmp 13) = some (.func (.func 109) ⟨[]⟩ ⟨[.pointer (some (own (g.next + 3)))]⟩) := by simp only [opv, p13]
  have m8 : g8.mark ≤ g.next := by rw [S8.mark, m7]; exact hmk
  have d8 : g8.blk (g.next + 4) = some (.defd false) := kp.blk _ _ (by omega) (a7.grows _ _ b6)
  have x8 : g.next + 6 ≤ g8.next := by rw [← n7]; exact kp.next
  have bl8 := S8.bl
  refine Wc.range nc hopv hacall (r := r0) (by rw [n5]; exact bl8) (by rw [fr0.1]; decide) ?_
  simp only [fr0.2]
  rw [turn_above (by rw [n5]; omega), n5]
  generalize hh9 : g8.setb (g.next + 4 + 1) (.loop { r0 with state := .exhausted, pending := none }) = g9
  have A9 : g9.blk (g.next + 1) = some (.cells [.int .i64 (chkI (.mk k m tx ks) 0 1).1] 3 none) := by rw [← hh9, setb_ne (by omega)]; exact S8.bA
  have B9 : g9.blk (g.next + 2) = some (.cells [.int .i64 (lvlI (.mk k m tx ks))] 3 none) := by rw [← hh9, setb_ne (by omega)]; exact S8.bB
  have D9 : g9.blk (g.next + 4) = some (.defd false) := by rw [← hh9, setb_ne (by omega)]; exact d8
  have m9 : g9.mark ≤ g.next := by rw [← hh9]; exact m8
  have l9 : g9.log = [] := by rw [← hh9]; exact S8.log
  have q2 : ∀ ds i, (⟨A.tmps, A.n, ds⟩ : Ac).get i = A.get i := fun _ _ => rfl
  refine Wc.ret ?_
  refine done_cct (h2 := g9.setb (g.next + 4) (.defd true)) (a := own (g.next + 1)) (b := own (g.next + 2)) (.inr rfl) ?_ rfl ((q2 _ _).trans p2) ((q2 _ _).trans p3) ((q2 _ _).trans p4) (by rw [ld3]; exact blk_cell0 (by rw [setb_ne (by omega)]; exact A9) rfl) (by rw [ld3]; exact blk_cell0 (by rw [setb_ne (by omega)]; exact B9) rfl) ⟨by rw [e1], l9⟩
  show takeAll ((g.next + 4) :: A.defers) g9 = _
  rw [dA]
  exact take_one D9 (by omega)
end Go.Proofs.YtofijpbmbmbnhaaDoor
/- Small functions that compare. -/
set_option maxRecDepth 100000
set_option maxHeartbeats 4000000
namespace Go.Proofs.YtofijpbmbmbnhaaDoor
open Go Go.Hs Go.Proofs
variable {E : Env} {I : Known}
theorem fn104 : tab.fn.get 104 = some Tryd.f104 := by kernel_rfl
theorem fn105 : tab.fn.get 105 = some Tryd.f105 := by kernel_rfl
theorem fn106 : tab.fn.get 106 = some Tryd.f106 := by kernel_rfl
theorem fn125 : tab.fn.get 125 = some Tryd.f125 := by kernel_rfl
theorem fn126 : tab.fn.get 126 = some Tryd.f126 := by kernel_rfl
theorem same {D : Tab} {E : Env} {I : Known} {f : FuncId} {args : List Value} {h : H} {x : Value} (w : ∃ n v h', (ev D E I n).call f args h = some (v, h') ∧ (v = x ∧ h' = h)) : ∃ n, (ev D E I n).call f args h = some (x, h) := by
  obtain ⟨n, v, h', h1, rfl, rfl⟩ := w
  exact ⟨n, h1⟩
theorem call125 (hI : ∀ args h, I 125 args h = none) (a : Int) (h : H) : ∃ n, (ev tab E I n).call 125 [.int .i64 a] h = some (.bool false, h) := by
  apply same
  refine Wc.call (hI _ _) fn125 rfl ?_
  generalize hA0 : (⟨T.ofList [.int .i64 a] 0 .nil, max ([.int .i64 a] : List Value).length Tryd.f125.ntmps, []⟩ : Ac) = A0
  have n0 : A0.n = 6 := by rw [← hA0]; rfl
  have g00 : A0.get 0 = .int .i64 a := by rw [← hA0]; rfl
  have d0 : A0.defers = [] := by rw [← hA0]
  repeat' (first | (with_reducible apply Wc.seq) | (apply Wc.ops; (focus ((repeat' (first | with_reducible exact RO.nil | ((with_reducible apply RO.run (awant_none rfl)); (focus ((first | simp +decide only [awant, ayield_get, oper1, aop, opv, opvs, opvo, opvp, abuiltin, aun, Ac.get_put, abin, isShift, aint, roV, pair, bind, Option.bind, acall, Sx, n0, d0, g00] | skip); with_reducible rfl))))); done))) | (refine Wc.cond2 (by simp +decide only [opv, Ac.get_put, Sx, n0, d0, g00]; try with_reducible rfl) (fun hb => ?_) (fun hb => ?_) <;> try contradiction) | refine Wc.skip ?_ | refine Wc.ret ?_ | refine Wc.exit ?_ | refine Wc.block ?_)
  exact done_q (v := .bool false) (.inr rfl) (by simp +decide only [Ac.get_put, Sx, d0]) rfl (by simp +decide only [Ac.get_put, Sx, n0]) ⟨rfl, rfl⟩
theorem call105 (hI : ∀ f args h, (f = 125 ∨ f = 105) → I f args h = none) (a b : Int) (h : H) : ∃ n, (ev tab E I n).call 105 [.int .i64 a, .int .i64 b] h = some (.int .i64 (cmpN a b), h) := by
  apply same
  obtain ⟨na, ca⟩ := call125 (E := E) (I := I) (fun args h => hI _ args h (.inl rfl)) a h
  obtain ⟨nb, cb⟩ := call125 (E := E) (I := I) (fun args h => hI _ args h (.inl rfl)) b h
  have ca := (ev_mono I (Nat.le_max_left na nb)).call ca
  have cb := (ev_mono I (Nat.le_max_right na nb)).call cb
  generalize max na nb = nf at ca cb
  refine Wc.call (hI _ _ _ (.inr rfl)) fn105 rfl ?_
  generalize hA0 : (⟨T.ofList [.int .i64 a, .int .i64 b] 0 .nil, max ([.int .i64 a, .int .i64 b] : List Value).length Tryd.f105.ntmps, []⟩ : Ac) = A0
  have n0 : A0.n = 20 := by rw [← hA0]; rfl
  have g00 : A0.get 0 = .int .i64 a := by rw [← hA0]; rfl
  have g01 : A0.get 1 = .int .i64 b := by rw [← hA0]; rfl
  have d0 : A0.defers = [] := by rw [← hA0]
  by_cases q1 : a < b
  · have d1 : decide (a < b) = true := by simpa using q1
    have e : cmpN a b = -1 := by unfold cmpN; rw [if_pos q1]
    repeat' (first | (with_reducible apply Wc.seq) | (apply Wc.opsN nf; (focus ((repeat' (first | with_reducible exact RO.nil | ((with_reducible apply RO.run (awant_none rfl)); (focus ((first | simp +decide only [awant, ayield_get, oper1, aop, opv, opvs, opvo, opvp, abuiltin, aun, Ac.get_put, abin, isShift, aint, roV, pair, bind, Option.bind, acall, Sx, n0, d0, g00, g01, ca, cb, d1] | skip); with_reducible rfl))))); done))) | (refine Wc.cond2 (by simp +decide only [opv, Ac.get_put, Sx, n0, d0, g00, g01, ca, cb, d1]; try with_reducible rfl) (fun hb => ?_) (fun hb => ?_) <;> try contradiction) | refine Wc.skip ?_ | refine Wc.ret ?_ | refine Wc.exit ?_ | refine Wc.block ?_)
    exact done_q (v := .int .i64 (-1)) (.inr rfl) (by simp +decide only [Ac.get_put, Sx, d0]) rfl (by simp +decide only [Ac.get_put, Sx, n0]) ⟨by rw [e], rfl⟩
  · have d1 : decide (a < b) = false := by simpa using q1
    by_cases q2 : a > b
    · have d2 : decide (a > b) = true := by simpa using q2
      have e : cmpN a b = 1 := by unfold cmpN; rw [if_neg q1, if_pos q2]
      repeat' (first | (with_reducible apply Wc.seq) | (apply Wc.opsN nf; (focus ((repeat' (first | with_reducible exact RO.nil | ((with_reducible apply RO.run (awant_none rfl)); (focus ((first | simp +decide only [awant, ayield_get, oper1, aop, opv, opvs, opvo, opvp, abuiltin, aun, Ac.get_put, abin, isShift, aint, roV, pair, bind, Option.bind, acall, Sx, n0, d0, g00, g01, ca, cb, d1, d2] | skip); with_reducible rfl))))); done))) | (refine Wc.cond2 (by simp +decide only [opv, Ac.get_put, Sx, n0, d0, g00, g01, ca, cb, d1, d2]; try with_reducible rfl) (fun hb => ?_) (fun hb => ?_) <;> try contradiction) | refine Wc.skip ?_ | refine Wc.ret ?_ | refine Wc.exit ?_ | refine Wc.block ?_)
      exact done_q (v := .int .i64 1) (.inr rfl) (by simp +decide only [Ac.get_put, Sx, d0]) rfl (by simp +decide only [Ac.get_put, Sx, n0]) ⟨by rw [e], rfl⟩
    · have d2 : decide (a > b) = false := by simpa using q2
      have e : cmpN a b = 0 := by unfold cmpN; rw [if_neg q1, if_neg q2]
      repeat' (first | (with_reducible apply Wc.seq) | (apply Wc.opsN nf; (focus ((repeat' (first | with_reducible exact RO.nil | ((with_reducible apply RO.run (awant_none rfl)); (focus ((first | simp +decide only [awant, ayield_get, oper1, aop, opv, opvs, opvo, opvp, abuiltin, aun, Ac.get_put, abin, isShift, aint, roV, pair, bind, Option.bind, acall, Sx, n0, d0, g00, g01, ca, cb, d1, d2] | skip); with_reducible rfl))))); done))) | (refine Wc.cond2 (by simp +decide only [opv, Ac.get_put, Sx, n0, d0, g00, g01, ca, cb, d1, d2]; try with_reducible rfl) (fun hb => ?_) (fun hb => ?_) <;> try contradiction) | refine Wc.skip ?_ | refine Wc.ret ?_ | refine Wc.exit ?_ | refine Wc.block ?_)
      exact done_q (v := .int .i64 0) (.inr rfl) (by simp +decide only [Ac.get_put, Sx, d0]) rfl (by simp +decide only [Ac.get_put, Sx, n0]) ⟨by rw [e], rfl⟩
theorem call126 (hI : ∀ args h, I 126 args h = none) (h130 : ∀ a b h, I 130 [.string a, .string b] h = some (some (.int .i64 (cmpL a.data.toList b.data.toList), h))) (a b : ByteArray) (h : H) : ∃ n, (ev tab E I n).call 126 [.string a, .string b] h = some (.int .i64 (cmpL a.data.toList b.data.toList), h) := by
  apply same
  refine Wc.call (hI _ _) fn126 rfl ?_
  generalize hA0 : (⟨T.ofList [.string a, .string b] 0 .nil, max ([.string a, .string b] : List Value).length Tryd.f126.ntmps, []⟩ : Ac) = A0
  have n0 : A0.n = 8 := by rw [← hA0]; rfl
  have g00 : A0.get 0 = .string a := by rw [← hA0]; rfl
  have g01 : A0.get 1 = .string b := by rw [← hA0]; rfl
  have d0 : A0.defers = [] := by rw [← hA0]
  have c130 : (ev tab E I 1).call 130 [.string a, .string b] h = some (.int .i64 (cmpL a.data.toList b.data.toList), h) := ev_known (h130 a b h)
  repeat' (first | (with_reducible apply Wc.seq) | (apply Wc.opsN 1; (focus ((repeat' (first | with_reducible exact RO.nil | ((with_reducible apply RO.run (awant_none rfl)); (focus ((first | simp +decide only [awant, ayield_get, oper1, aop, opv, opvs, opvo, opvp, abuiltin, aun, Ac.get_put, abin, isShift, aint, roV, pair, bind, Option.bind, acall, Sx, n0, d0, g00, g01, c130] | skip); with_reducible rfl))))); done))) | (refine Wc.cond2 (by simp +decide only [opv, Ac.get_put, Sx, n0, d0, g00, g01, c130]; try with_reducible rfl) (fun hb => ?_) (fun hb => ?_) <;> try contradiction) | refine Wc.skip ?_ | refine Wc.ret ?_ | refine Wc.exit ?_ | refine Wc.block ?_)
  exact done_q (v := .int .i64 (cmpL a.data.toList b.data.toList)) (.inr rfl) (by simp +decide only [Ac.get_put, Sx, d0]) rfl (by simp +decide only [Ac.get_put, Sx, n0]) ⟨rfl, rfl⟩
theorem call106 (hI : ∀ f args h, (f = 106 ∨ f = 126) → I f args h = none) (h130 : ∀ a b h, I 130 [.string a, .string b] h = some (some (.int .i64 (cmpL a.data.toList b.data.toList), h))) (a b : ByteArray) (h : H) : ∃ n, (ev tab E I n).call 106 [.string a, .string b] h = some (.int .i64 (cmpL a.data.toList b.data.toList), h) := by
  apply same
  obtain ⟨nf, c126⟩ := call126 (E := E) (I := I) (fun args h => hI _ args h (.inr rfl)) h130 a b h
  refine Wc.call (hI _ _ _ (.inl rfl)) fn106 rfl ?_
  generalize hA0 : (⟨T.ofList [.string a, .string b] 0 .nil, max ([.string a, .string b] : List Value).length Tryd.f106.ntmps, []⟩ : Ac) = A0
  have n0 : A0.n = 8 := by rw [← hA0]; rfl
  have g00 : A0.get 0 = .string a := by rw [← hA0]; rfl
  have g01 : A0.get 1 = .string b := by rw [← hA0]; rfl
  have d0 : A0.defers = [] := by rw [← hA0]
  repeat' (first | (with_reducible apply Wc.seq) | (apply Wc.opsN nf; (focus ((repeat' (first | with_reducible exact RO.nil | ((with_reducible apply RO.run (awant_none rfl)); (focus ((first | simp +decide only [awant, ayield_get, oper1, aop, opv, opvs, opvo, opvp, abuiltin, aun, Ac.get_put, abin, isShift, aint, roV, pair, bind, Option.bind, acall, Sx, n0, d0, g00, g01, c126] | skip); with_reducible rfl))))); done))) | (refine Wc.cond2 (by simp +decide only [opv, Ac.get_put, Sx, n0, d0, g00, g01, c126]; try with_reducible rfl) (fun hb => ?_) (fun hb => ?_) <;> try contradiction) | refine Wc.skip ?_ | refine Wc.ret ?_ | refine Wc.exit ?_ | refine Wc.block ?_)
  exact done_q (v := .int .i64 (cmpL a.data.toList b.data.toList)) (.inr rfl) (by simp +decide only [Ac.get_put, Sx, d0]) rfl (by simp +decide only [Ac.get_put, Sx, n0]) ⟨rfl, rfl⟩
noncomputable def loop104 : Code := loopOf Tryd.f104
theorem call104 (hI : ∀ args h, I 104 args h = none) (l : List Int) (hl : l.length ≤ 1000) {k : Nat} {rt : Option (Nat × Nat)} {h : H} (hb : h.blk k = some (.cells (l.map (Value.int .i64)) 3 rt)) : ∃ n, (ev tab E I n).call 104 [.slice (some (own k)) l.length l.length] h = some (.int .i64 (orL l), h) := by
  apply same
  refine Wc.call (hI _ _) fn104 rfl ?_
  generalize hA0 : (⟨T.ofList [.slice (some (own k)) l.length l.length] 0 .nil, max ([.slice (some (own k)) l.length l.length] : List Value).length Tryd.f104.ntmps, []⟩ : Ac) = A0
  have n0 : A0.n = 18 := by rw [← hA0]; rfl
  have g00 : A0.get 0 = .slice (some (own k)) l.length l.length := by rw [← hA0]; rfl
  have d0 : A0.defers = [] := by rw [← hA0]
  have key : ∀ (r i : Nat) (A : Ac), r = l.length - i → i ≤ l.length → A.n = 18 → A.defers = [] → A.get 3 = .int .i64 0 → A.get 6 = .slice (some (own k)) l.length l.length → A.get 7 = .int .i64 (l.length : Nat) → A.get 8 = .int .i64 (i : Nat) →
      Wc tab E I ⟨104, none⟩ (.loop loop104) A h (fun ex A' h' => h' = h ∧ A'.n = 18 ∧ A'.defers = [] ∧ ((ex = .exit 0 ∧ A'.get 3 = .int .i64 0 ∧ orL (l.drop i) = 0) ∨ (ex = .ret ∧ A'.get 2 = .int .i64 (orL (l.drop i))))) := by
    intro r
    induction r with
    | zero =>
      intro i A hr' hi nA dA p3 p6 p7 p8
      have hil : i = l.length := by omega
      have hlt : decide ((i : Int) < (l.length : Int)) = false := by simp; omega
      apply Wc.loop
      simp only [loop104, loopOf, firstLoop, Option.getD, Tryd.f104]
      repeat' (first | (with_reducible apply Wc.seq) | (apply Wc.ops; (focus ((repeat' (first | with_reducible exact RO.nil | ((with_reducible apply RO.run (awant_none rfl)); (focus ((first | simp +decide only [awant, ayield_get, oper1, aop, opv, opvs, opvo, opvp, abuiltin, aun, Ac.get_put, abin, isShift, aint, roV, pair, bind, Option.bind, acall, Sx, nA, p3, p6, p7, p8, hlt] | skip); with_reducible rfl))))); done))) | (refine Wc.cond2 (by simp +decide only [opv, Ac.get_put, Sx, nA, p3, p6, p7, p8, hlt]; try with_reducible rfl) (fun hb => ?_) (fun hb => ?_) <;> try contradiction) | refine Wc.skip ?_ | refine Wc.ret ?_ | refine Wc.exit ?_ | refine Wc.block ?_)
      refine ⟨rfl, by simp +decide only [Ac.get_put, Sx, nA], by simp +decide only [Ac.get_put, Sx, dA], .inl ⟨rfl, by simp +decide only [Ac.get_put, Sx, nA, p3], ?_⟩⟩
      rw [hil, List.drop_length, orL]
    | succ r ih =>
      intro i A hr' hi nA dA p3 p6 p7 p8
      have hil : i < l.length := by omega
      have hlt : decide ((i : Int) < (l.length : Int)) = true := by simp; omega
      have hd : l.drop i = l[i] :: l.drop (i + 1) := List.drop_eq_getElem_cons hil
      have w3 : IntKind.i64.wrap ((i : Int) + 1) = (i : Int) + 1 := wrap64 (by omega) (by omega)
      have hir : inRange (i : Int) l.length = true := by
        show Nat.blt i l.length = true
        rw [Nat.blt_eq]; exact hil
      have hc : h.cell E (aadd (own k) (i * 1)) = some (.int .i64 l[i]) := blk_cell hb (by rw [Nat.mul_one, List.getElem?_map, List.getElem?_eq_getElem hil]; rfl) rfl
      by_cases q : l[i] = 0
      · have dq : (!decide (l[i] = 0)) = false := by simp [q]
        apply Wc.loop
        simp only [loop104, loopOf, firstLoop, Option.getD, Tryd.f104]
        repeat' (first | (with_reducible apply Wc.seq) | (apply Wc.ops; (focus ((repeat' (first | with_reducible exact RO.nil | ((with_reducible apply RO.run (awant_none rfl)); (focus ((first | simp +decide only [awant, ayield_get, oper1, aop, opv, opvs, opvo, opvp, abuiltin, aun, Ac.get_put, abin, isShift, aint, roV, pair, bind, Option.bind, acall, Sx, nA, p3, p6, p7, p8, hlt, ia53 _ _ _ _ hir, Int.toNat_natCast, ld3, hc, dq, w3] | skip); with_reducible rfl))))); done))) | (refine Wc.cond2 (by simp +decide only [opv, Ac.get_put, Sx, nA, p3, p6, p7, p8, hlt, ia53 _ _ _ _ hir, Int.toNat_natCast, ld3, hc, dq, w3]; try with_reducible rfl) (fun hb => ?_) (fun hb => ?_) <;> try contradiction) | refine Wc.skip ?_ | refine Wc.ret ?_ | refine Wc.exit ?_ | refine Wc.block ?_)
        refine (ih (i + 1) _ (by omega) (by omega) ?_ ?_ ?_ ?_ ?_ ?_).mono ?_
        · simp +decide only [Ac.get_put, Sx, nA]
        · simp +decide only [Ac.get_put, Sx, dA]
        · simp +decide only [Ac.get_put, Sx, nA, p3]
        · simp +decide only [Ac.get_put, Sx, nA, p6]
        · simp +decide only [Ac.get_put, Sx, nA, p7]
        · simp +decide only [Ac.get_put, Sx, nA]
          rfl
        · rintro ex A' h' ⟨rfl, e1, e2, ⟨rfl, e3, e4⟩ | ⟨rfl, e3⟩⟩
          · exact ⟨rfl, e1, e2, .inl ⟨rfl, e3, by rw [hd, orL, if_neg (by simpa using q)]; exact e4⟩⟩
          · exact ⟨rfl, e1, e2, .inr ⟨rfl, by rw [hd, orL, if_neg (by simpa using q)]; exact e3⟩⟩
      · have dq : (!decide (l[i] = 0)) = true := by simp [q]
        apply Wc.loop
        simp only [loop104, loopOf, firstLoop, Option.getD, Tryd.f104]
        repeat' (first | (with_reducible apply Wc.seq) | (apply Wc.ops; (focus ((repeat' (first | with_reducible exact RO.nil | ((with_reducible apply RO.run (awant_none rfl)); (focus ((first | simp +decide only [awant, ayield_get, oper1, aop, opv, opvs, opvo, opvp, abuiltin, aun, Ac.get_put, abin, isShift, aint, roV, pair, bind, Option.bind, acall, Sx, nA, p3, p6, p7, p8, hlt, ia53 _ _ _ _ hir, Int.toNat_natCast, ld3, hc, dq, w3] | skip); with_reducible rfl))))); done))) | (refine Wc.cond2 (by simp +decide only [opv, Ac.get_put, Sx, nA, p3, p6, p7, p8, hlt, ia53 _ _ _ _ hir, Int.toNat_natCast, ld3, hc, dq, w3]; try with_reducible rfl) (fun hb => ?_) (fun hb => ?_) <;> try contradiction) | refine Wc.skip ?_ | refine Wc.ret ?_ | refine Wc.exit ?_ | refine Wc.block ?_)
        refine ⟨rfl, by simp +decide only [Ac.get_put, Sx, nA], by simp +decide only [Ac.get_put, Sx, dA], .inr ⟨rfl, ?_⟩⟩
        rw [hd, orL, if_pos (by simpa using q)]
        simp +decide only [Ac.get_put, Sx, nA]
  repeat' (first | (with_reducible apply Wc.seq) | (apply Wc.ops; (focus ((repeat' (first | with_reducible exact RO.nil | ((with_reducible apply RO.run (awant_none rfl)); (focus ((first | simp +decide only [awant, ayield_get, oper1, aop, opv, opvs, opvo, opvp, abuiltin, aun, Ac.get_put, abin, isShift, aint, roV, pair, bind, Option.bind, acall, Sx, n0, d0, g00, len53] | skip); with_reducible rfl))))); done))) | (refine Wc.cond2 (by simp +decide only [opv, Ac.get_put, Sx, n0, d0, g00, len53]; try with_reducible rfl) (fun hb => ?_) (fun hb => ?_) <;> try contradiction) | refine Wc.skip ?_ | refine Wc.ret ?_ | refine Wc.exit ?_ | refine Wc.block ?_)
  refine (key l.length 0 _ rfl (Nat.zero_le _) ?_ ?_ ?_ ?_ ?_ ?_).mono ?_
  · simp +decide only [Ac.get_put, Sx, n0]
  · simp +decide only [Ac.get_put, Sx, d0]
  · simp +decide only [Ac.get_put, Sx, n0]
  · simp +decide only [Ac.get_put, Sx, n0]
  · simp +decide only [Ac.get_put, Sx, n0]
  · simp +decide only [Ac.get_put, Sx, n0]
    rfl
  · rw [List.drop_zero]
    rintro ex A' h' ⟨rfl, e1, e2, ⟨rfl, e3, e4⟩ | ⟨rfl, e3⟩⟩
    · simp only [if_true]
      repeat' (first | (with_reducible apply Wc.seq) | (apply Wc.ops; (focus ((repeat' (first | with_reducible exact RO.nil | ((with_reducible apply RO.run (awant_none rfl)); (focus ((first | simp +decide only [awant, ayield_get, oper1, aop, opv, opvs, opvo, opvp, abuiltin, aun, Ac.get_put, abin, isShift, aint, roV, pair, bind, Option.bind, acall, Sx, e1, e3] | skip); with_reducible rfl))))); done))) | (refine Wc.cond2 (by simp +decide only [opv, Ac.get_put, Sx, e1, e3]; try with_reducible rfl) (fun hb => ?_) (fun hb => ?_) <;> try contradiction) | refine Wc.skip ?_ | refine Wc.ret ?_ | refine Wc.exit ?_ | refine Wc.block ?_)
      exact done_q (v := .int .i64 0) (.inr rfl) (by simp +decide only [Ac.get_put, Sx, e2]) rfl (by simp +decide only [Ac.get_put, Sx, e1]) ⟨by rw [e4], rfl⟩
    · exact done_q (.inr rfl) e2 rfl e3 ⟨rfl, rfl⟩
end Go.Proofs.YtofijpbmbmbnhaaDoor
/- Which item comes first, as the program tells it. -/
set_option maxRecDepth 100000
set_option maxHeartbeats 4000000
namespace Go.Proofs.YtofijpbmbmbnhaaDoor
open Go Go.Hs Go.Proofs
variable {E : Env} {I : Known}
theorem fn66 : tab.fn.get 66 = some Tryd.f66 := by kernel_rfl
theorem fn107 : tab.fn.get 107 = some Tryd.f107 := by kernel_rfl
theorem bs53_4 (a b c d : Int) {h : H} : abuildSlice tab 53 4 [(0, .int .i64 a), (1, .int .i64 b), (2, .int .i64 c), (3, .int .i64 d)] h = some (.slice (some (own h.next)) 4 4, h.new (.cells [.int .i64 a, .int .i64 b, .int .i64 c, .int .i64 d] 3 none)) := by
  unfold abuildSlice
  simp only [ty53, tz3]
  rfl
def says66 (E : Env) : Says := fun s f args h v =>
  (f = 66 ∧ ∃ t xv u yv, args = [xv, yv] ∧ rep E h t xv ∧ rep E h u yv ∧ isz t ≤ 1000000 ∧ s = 2 * isz t + 1 ∧ v = .int .i64 (ordI t u)) ∨
  (f = 107 ∧ ∃ ks sl ks' sl', args = [sl, sl', .func (.func 66) ⟨[]⟩ ⟨[]⟩] ∧ repK E h ks sl ∧ repK E h ks' sl' ∧ iszL ks ≤ 1000000 ∧ s = 2 * iszL ks + 2 ∧ v = .int .i64 (ordL ks ks'))
theorem one66 (E : Env) : One (says66 E) := by
  rintro s s' f args h v v' (⟨rfl, t, xv, u, yv, rfl, h1, h2, _, _, rfl⟩ | ⟨rfl, ks, sl, ks', sl', rfl, h1, h2, _, _, rfl⟩) (⟨e, t1, xv1, u1, yv1, he, h3, h4, _, _, rfl⟩ | ⟨e, ks1, sl1, ks1', sl1', he, h3, h4, _, _, rfl⟩)
  · cases he; rw [rep_one h1 h3, rep_one h2 h4]
  · exact absurd e (by decide)
  · exact absurd e (by decide)
  · cases he; rw [repK_one h1 h3, repK_one h2 h4]
theorem rank66 {E : Env} {s s' : Nat} {f : FuncId} {args : List Value} {h : H} {v v' : Value} (h1 : says66 E s f args h v) (h2 : says66 E s' f args h v') : s = s' := by
  rcases h1 with ⟨rfl, t, xv, u, yv, rfl, h1, _, _, rfl, _⟩ | ⟨rfl, ks, sl, ks', sl', rfl, h1, _, _, rfl, _⟩ <;>
    rcases h2 with ⟨e, t1, xv1, u1, yv1, he, h3, _, _, rfl, _⟩ | ⟨e, ks1, sl1, ks1', sl1', he, h3, _, _, rfl, _⟩
  · cases he; rw [rep_one h1 h3]
  · exact absurd e (by decide)
  · exact absurd e (by decide)
  · cases he; rw [repK_one h1 h3]
theorem says66_back {E : Env} {s : Nat} {f : FuncId} {args : List Value} {h : H} {v : Value} (h1 : says66 E s f args (fresh h) v) : says66 E s f args h v := by
  have g : Grows (fresh h) h := fun _ _ hb => hb
  rcases h1 with ⟨e, t, xv, u, yv, ea, r1, r2, q⟩ | ⟨e, ks, sl, ks', sl', ea, r1, r2, q⟩
  · exact .inl ⟨e, t, xv, u, yv, ea, rep_grow g r1, rep_grow g r2, q⟩
  · exact .inr ⟨e, ks, sl, ks', sl', ea, repK_grow g r1, repK_grow g r2, q⟩
noncomputable def loop107 : Code := loopOf Tryd.f107
theorem shown66 (hI : ∀ f args h, (f = 66 ∨ f = 107) → I f args h = none) (h105 : ∀ a b h, I 105 [.int .i64 a, .int .i64 b] h = some (some (.int .i64 (cmpN a b), h))) (h106 : ∀ a b h, I 106 [.string a, .string b] h = some (some (.int .i64 (cmpL a.data.toList b.data.toList), h)))
    (h104 : ∀ (l : List Int) k rt h, l.length ≤ 1000 → h.blk k = some (.cells (l.map (Value.int .i64)) 3 rt) → I 104 [.slice (some (own k)) l.length l.length] h = some (some (.int .i64 (orL l), h))) : ShownF tab E I (says66 E) := by
  intro m f args h v hs hfit
  have hnone : upTo (says66 E) I m f args (fresh h) = none := by
    rw [upTo_none]
    · rcases hs with ⟨rfl, _⟩ | ⟨rfl, _⟩
      · exact hI _ _ _ (.inl rfl)
      · exact hI _ _ _ (.inr rfl)
    · intro v' s' hlt h2
      have := rank66 hs (says66_back h2)
      omega
  have hJk : ∀ {s f args g v}, says66 E s f args g v → s < m → upTo (says66 E) I m f args g = some (some (v, g)) := fun h1 h2 => upTo_eq (one66 E) h1 h2
  have hJo : ∀ f args h, f ≠ 66 → f ≠ 107 → upTo (says66 E) I m f args h = I f args h := by
    intro f args h n1 n2
    rw [upTo_none]
    rintro v s _ (⟨e, _⟩ | ⟨e, _⟩)
    · exact n1 e
    · exact n2 e
  have j105 : ∀ a b h, upTo (says66 E) I m 105 [.int .i64 a, .int .i64 b] h = some (some (.int .i64 (cmpN a b), h)) := fun a b h => (hJo _ _ _ (by decide) (by decide)).trans (h105 a b h)
  have j106 : ∀ a b h, upTo (says66 E) I m 106 [.string a, .string b] h = some (some (.int .i64 (cmpL a.data.toList b.data.toList), h)) := fun a b h => (hJo _ _ _ (by decide) (by decide)).trans (h106 a b h)
  have j104 : ∀ (l : List Int) k rt h, l.length ≤ 1000 → h.blk k = some (.cells (l.map (Value.int .i64)) 3 rt) → upTo (says66 E) I m 104 [.slice (some (own k)) l.length l.length] h = some (some (.int .i64 (orL l), h)) := fun l k rt h a b => (hJo _ _ _ (by decide) (by decide)).trans (h104 l k rt h a b)
  have hgf : Grows h (fresh h) := fun _ _ hb => hb
  have hl0 : (fresh h).log = [] := rfl
  rcases hs with ⟨rfl, t, xv, u, yv, rfl, hr, hr', hz, rfl, rfl⟩ | ⟨rfl, ks, sl, ks', sl', rfl, hr, hr', hz, rfl, rfl⟩
  · refine ⟨rfl, ?_⟩
    obtain ⟨k, m, tx, ks⟩ := t
    obtain ⟨k', m', tx', ks'⟩ := u
    have hrg := rep_grow hgf hr
    have hrg' := rep_grow hgf hr'
    obtain ⟨sb, sc, rfl, hs⟩ := rep_slice hr
    obtain ⟨sb', sc', rfl, hs'⟩ := rep_slice hr'
    generalize hJ : upTo (says66 E) I (2 * isz (.mk k m tx ks) + 1) = J at hnone hJk j104 j105 j106 ⊢
    suffices hw : ∃ n v h', (ev tab E J n).call 66 [.agg ⟨[.int .i64 k, .int .i64 m, .string tx, .slice sb ks.length sc]⟩, .agg ⟨[.int .i64 k', .int .i64 m', .string tx', .slice sb' ks'.length sc']⟩] (fresh h) = some (v, h') ∧ (v = .int .i64 (ordI (.mk k m tx ks) (.mk k' m' tx' ks')) ∧ h'.log = []) by
      obtain ⟨n, v, h', h1, rfl, h3⟩ := hw
      exact ⟨n, h', h1, h3⟩
    refine Wc.call hnone fn66 rfl ?_
    generalize hA0 : (⟨T.ofList [.agg ⟨[.int .i64 k, .int .i64 m, .string tx, .slice sb ks.length sc]⟩, .agg ⟨[.int .i64 k', .int .i64 m', .string tx', .slice sb' ks'.length sc']⟩] 0 .nil, max ([.agg ⟨[.int .i64 k, .int .i64 m, .string tx, .slice sb ks.length sc]⟩, .agg ⟨[.int .i64 k', .int .i64 m', .string tx', .slice sb' ks'.length sc']⟩] : List Value).length Tryd.f66.ntmps, []⟩ : Ac) = A0
    have n0 : A0.n = 27 := by rw [← hA0]; rfl
    have g00 : A0.get 0 = .agg ⟨[.int .i64 k, .int .i64 m, .string tx, .slice sb ks.length sc]⟩ := by rw [← hA0]; rfl
    have g01 : A0.get 1 = .agg ⟨[.int .i64 k', .int .i64 m', .string tx', .slice sb' ks'.length sc']⟩ := by rw [← hA0]; rfl
    have d0 : A0.defers = [] := by rw [← hA0]
    generalize hg : fresh h = g at hfit hl0 hgf hrg hrg'
    apply Wc.seq
    refine Wc.ops (by repeat' (first | with_reducible exact RO.nil | ((with_reducible apply RO.run (awant_none rfl)); (focus ((first | simp +decide only [awant, ayield_get, oper1, aop, opv, opvs, opvo, opvp, abuiltin, aun, Ac.get_put, abin, isShift, aint, roV, pair, bind, Option.bind, acall, Sx, n0, g00, g01] | skip); with_reducible rfl))))) ?_
    generalize hh1 : g.new (.cells (Value.agg ⟨[.int .i64 k, .int .i64 m, .string tx, .slice sb ks.length sc]⟩).cells.toList 25 none) = h1
    have a1 : Ahd g h1 := by rw [← hh1]; exact Ahd.new0 hfit rfl
    have b1 : h1.blk g.next = some (.cells [.int .i64 k, .int .i64 m, .string tx, .slice sb ks.length sc] 25 none) := by rw [← hh1]; exact new_blk_new rfl
    generalize hh2 : h1.new (.cells (Value.agg ⟨[.int .i64 k', .int .i64 m', .string tx', .slice sb' ks'.length sc']⟩).cells.toList 25 none) = h2
    have a2 : Ahd h1 h2 := by rw [← hh2]; exact Ahd.new0 a1.fit rfl
    have b2 : h2.blk h1.next = some (.cells [.int .i64 k', .int .i64 m', .string tx', .slice sb' ks'.length sc'] 25 none) := by rw [← hh2]; exact new_blk_new rfl
    have b1' := a2.grows _ _ b1
    have ag := a1.trans a2
    clear hh1 hh2
    have hff : Grows g (fresh h2) := fun k B hb => ag.grows k B hb
    have x0 : (fresh h2).cell E (aadd (own g.next) 0) = some (.int .i64 k) := blk_cell (h := fresh h2) (i := 0) b1' rfl rfl
    have x1 : (fresh h2).cell E (aadd (own g.next) 1) = some (.int .i64 m) := blk_cell (h := fresh h2) (i := 1) b1' rfl rfl
    have x2 : (fresh h2).cell E (aadd (own g.next) 2) = some (.string tx) := blk_cell (h := fresh h2) (i := 2) b1' rfl rfl
    have x3 : (fresh h2).cell E (aadd (own g.next) 3) = some (.slice sb ks.length sc) := blk_cell (h := fresh h2) (i := 3) b1' rfl rfl
    have y0 : (fresh h2).cell E (aadd (own h1.next) 0) = some (.int .i64 k') := blk_cell (h := fresh h2) (i := 0) b2 rfl rfl
    have y1 : (fresh h2).cell E (aadd (own h1.next) 1) = some (.int .i64 m') := blk_cell (h := fresh h2) (i := 1) b2 rfl rfl
    have y2 : (fresh h2).cell E (aadd (own h1.next) 2) = some (.string tx') := blk_cell (h := fresh h2) (i := 2) b2 rfl rfl
    have y3 : (fresh h2).cell E (aadd (own h1.next) 3) = some (.slice sb' ks'.length sc') := blk_cell (h := fresh h2) (i := 3) b2 rfl rfl
    have c1 : (ev tab E J 1).call 105 [.int .i64 k, .int .i64 k'] (fresh h2) = some (.int .i64 (cmpN k k'), fresh h2) := ev_known (j105 _ _ _)
    have c2 : (ev tab E J 1).call 105 [.int .i64 m, .int .i64 m'] (fresh h2) = some (.int .i64 (cmpN m m'), fresh h2) := ev_known (j105 _ _ _)
    have c3 : (ev tab E J 1).call 106 [.string tx, .string tx'] (fresh h2) = some (.int .i64 (cmpL tx.data.toList tx'.data.toList), fresh h2) := ev_known (j106 _ _ _)
    have c4 : (ev tab E J 1).call 107 [.slice sb ks.length sc, .slice sb' ks'.length sc', .func (.func 66) #[] #[]] (fresh h2) = some (.int .i64 (ordL ks ks'), fresh h2) := by
      apply ev_known
      refine hJk (.inr ⟨rfl, ks, _, ks', _, rfl, repK_of (rep_grow hff hrg), repK_of (rep_grow hff hrg'), by rw [isz] at hz; omega, rfl, rfl⟩) (by rw [isz]; omega)
    have hfn : (fresh h2).next = h2.next := rfl
    generalize hB : (Blk.cells [.int .i64 (cmpN k k'), .int .i64 (cmpN m m'), .int .i64 (cmpL tx.data.toList tx'.data.toList), .int .i64 (ordL ks ks')] 3 none) = B
    have b5 : (fresh (h2.new B)).blk h2.next = some B := by
      show (h2.new B).blk h2.next = _
      rw [← hB]; exact new_blk_new rfl
    have c5 : (ev tab E J 1).call 104 [.slice (some (own h2.next)) 4 4] (fresh (h2.new B)) = some (.int .i64 (ordI (.mk k m tx ks) (.mk k' m' tx' ks')), fresh (h2.new B)) := by
      apply ev_known
      rw [ordI_or]
      exact j104 [cmpN k k', cmpN m m', cmpL tx.data.toList tx'.data.toList, ordL ks ks'] _ none _ (by simp) (by rw [b5, ← hB]; rfl)
    refine Wc.forget (fun A => A.n = 27 ∧ A.defers = [] ∧ A.get 2 = .pointer (some (own g.next)) ∧ A.get 3 = .pointer (some (own h1.next))) ⟨by simp +decide only [Ac.get_put, Sx, n0], by simp +decide only [Ac.get_put, Sx, d0], by simp +decide only [Ac.get_put, Sx, n0], by simp +decide only [Ac.get_put, Sx, n0]⟩ ?_
    clear hA0 n0 g00 g01 d0
    rintro A0 ⟨n0, d0, g2, g3⟩
    apply Wc.seq
    refine Wc.drawC 1 (by kernel_rfl) ?_
    (iterate 5 (first | ((apply FC.pure rfl rfl); (focus ((first | simp +decide only [awant, ayield_get, oper1, aop, opv, opvs, opvo, opvp, abuiltin, aun, Ac.get_put, abin, isShift, aint, roV, pair, bind, Option.bind, acall, Sx, n0, g2, g3, fa25_0, ld3, x0, y0, c1] | skip); with_reducible rfl))) | ((apply FC.new rfl rfl); (focus ((first | simp +decide only [awant, ayield_get, oper1, aop, opv, opvs, opvo, opvp, abuiltin, aun, Ac.get_put, abin, isShift, aint, roV, pair, bind, Option.bind, acall, Sx, n0, g2, g3, fa25_0, ld3, x0, y0, c1] | skip); with_reducible rfl)))))
    refine FC.forget (fun A => A.n = 27 ∧ A.defers = [] ∧ A.get 2 = .pointer (some (own g.next)) ∧ A.get 3 = .pointer (some (own h1.next)) ∧ A.get 9 = .int .i64 (cmpN k k')) ⟨by simp +decide only [Ac.get_put, Sx, n0], by simp +decide only [Ac.get_put, Sx, d0], by simp +decide only [Ac.get_put, Sx, n0, g2], by simp +decide only [Ac.get_put, Sx, n0, g3], by simp +decide only [Ac.get_put, Sx, n0]⟩ ?_
    clear n0 d0 g2 g3
    rintro A0 ⟨n0, d0, g2, g3, g9⟩
    (iterate 5 (first | ((apply FC.pure rfl rfl); (focus ((first | simp +decide only [awant, ayield_get, oper1, aop, opv, opvs, opvo, opvp, abuiltin, aun, Ac.get_put, abin, isShift, aint, roV, pair, bind, Option.bind, acall, Sx, n0, g2, g3, fa25_1, ld3, x1, y1, c2] | skip); with_reducible rfl))) | ((apply FC.new rfl rfl); (focus ((first | simp +decide only [awant, ayield_get, oper1, aop, opv, opvs, opvo, opvp, abuiltin, aun, Ac.get_put, abin, isShift, aint, roV, pair, bind, Option.bind, acall, Sx, n0, g2, g3, fa25_1, ld3, x1, y1, c2] | skip); with_reducible rfl)))))
    refine FC.forget (fun A => A.n = 27 ∧ A.defers = [] ∧ A.get 2 = .pointer (some (own g.next)) ∧ A.get 3 = .pointer (some (own h1.next)) ∧ A.get 9 = .int .i64 (cmpN k k') ∧ A.get 14 = .int .i64 (cmpN m m')) ⟨by simp +decide only [Ac.get_put, Sx, n0], by simp +decide only [Ac.get_put, Sx, d0], by simp +decide only [Ac.get_put, Sx, n0, g2], by simp +decide only [Ac.get_put, Sx, n0, g3], by simp +decide only [Ac.get_put, Sx, n0, g9], by simp +decide only [Ac.get_put, Sx, n0]⟩ ?_
    clear n0 d0 g2 g3 g9
    rintro A0 ⟨n0, d0, g2, g3, g9, g14⟩
    (iterate 5 (first | ((apply FC.pure rfl rfl); (focus ((first | simp +decide only [awant, ayield_get, oper1, aop, opv, opvs, opvo, opvp, abuiltin, aun, Ac.get_put, abin, isShift, aint, roV, pair, bind, Option.bind, acall, Sx, n0, g2, g3, fa25_2, ld9, x2, y2, c3] | skip); with_reducible rfl))) | ((apply FC.new rfl rfl); (focus ((first | simp +decide only [awant, ayield_get, oper1, aop, opv, opvs, opvo, opvp, abuiltin, aun, Ac.get_put, abin, isShift, aint, roV, pair, bind, Option.bind, acall, Sx, n0, g2, g3, fa25_2, ld9, x2, y2, c3] | skip); with_reducible rfl)))))
    refine FC.forget (fun A => A.n = 27 ∧ A.defers = [] ∧ A.get 2 = .pointer (some (own g.next)) ∧ A.get 3 = .pointer (some (own h1.next)) ∧ A.get 9 = .int .i64 (cmpN k k') ∧ A.get 14 = .int .i64 (cmpN m m') ∧ A.get 19 = .int .i64 (cmpL tx.data.toList tx'.data.toList)) ⟨by simp +decide only [Ac.get_put, Sx, n0], by simp +decide only [Ac.get_put, Sx, d0], by simp +decide only [Ac.get_put, Sx, n0, g2], by simp +decide only [Ac.get_put, Sx, n0, g3], by simp +decide only [Ac.get_put, Sx, n0, g9], by simp +decide only [Ac.get_put, Sx, n0, g14], by simp +decide only [Ac.get_put, Sx, n0]⟩ ?_
    clear n0 d0 g2 g3 g9 g14
    rintro A0 ⟨n0, d0, g2, g3, g9, g14, g19⟩
    (iterate 5 (first | ((apply FC.pure rfl rfl); (focus ((first | simp +decide only [awant, ayield_get, oper1, aop, opv, opvs, opvo, opvp, abuiltin, aun, Ac.get_put, abin, isShift, aint, roV, pair, bind, Option.bind, acall, Sx, n0, g2, g3, fa25_3, ld23, x3, y3, c4] | skip); with_reducible rfl))) | ((apply FC.new rfl rfl); (focus ((first | simp +decide only [awant, ayield_get, oper1, aop, opv, opvs, opvo, opvp, abuiltin, aun, Ac.get_put, abin, isShift, aint, roV, pair, bind, Option.bind, acall, Sx, n0, g2, g3, fa25_3, ld23, x3, y3, c4] | skip); with_reducible rfl)))))
    refine FC.forget (fun A => A.n = 27 ∧ A.defers = [] ∧ A.get 9 = .int .i64 (cmpN k k') ∧ A.get 14 = .int .i64 (cmpN m m') ∧ A.get 19 = .int .i64 (cmpL tx.data.toList tx'.data.toList) ∧ A.get 24 = .int .i64 (ordL ks ks')) ⟨by simp +decide only [Ac.get_put, Sx, n0], by simp +decide only [Ac.get_put, Sx, d0], by simp +decide only [Ac.get_put, Sx, n0, g9], by simp +decide only [Ac.get_put, Sx, n0, g14], by simp +decide only [Ac.get_put, Sx, n0, g19], by simp +decide only [Ac.get_put, Sx, n0]⟩ ?_
    clear n0 d0 g2 g3 g9 g14 g19
    rintro A0 ⟨n0, d0, g9, g14, g19, g24⟩
    (iterate 3 (first | ((apply FC.pure rfl rfl); (focus ((first | simp +decide only [awant, ayield_get, oper1, aop, opv, opvs, opvo, opvp, abuiltin, aun, Ac.get_put, abin, isShift, aint, roV, pair, bind, Option.bind, acall, Sx, n0, g9, g14, g19, g24, bs53_4, hfn, hB, c5] | skip); with_reducible rfl))) | ((apply FC.new rfl rfl); (focus ((first | simp +decide only [awant, ayield_get, oper1, aop, opv, opvs, opvo, opvp, abuiltin, aun, Ac.get_put, abin, isShift, aint, roV, pair, bind, Option.bind, acall, Sx, n0, g9, g14, g19, g24, bs53_4, hfn, hB, c5] | skip); with_reducible rfl)))))
    refine FC.nil ?_
    refine Wc.ret ?_
    refine done_tmp (.inr rfl) (by simp +decide only [Ac.get_put, Sx, d0]) rfl ?_ (ag.log.trans hl0)
    simp +decide only [Ac.get_put, Sx, n0]
  · refine ⟨rfl, ?_⟩
    have hrg := repK_grow hgf hr
    have hrg' := repK_grow hgf hr'
    obtain ⟨sb, sc, rfl, hlen, hs⟩ := repK_slice hrg
    obtain ⟨sb', sc', rfl, hlen', hs'⟩ := repK_slice hrg'
    generalize hJ : upTo (says66 E) I (2 * iszL ks + 2) = J at hnone hJk j104 j105 j106 ⊢
    suffices hw : ∃ n v h', (ev tab E J n).call 107 [.slice sb ks.length sc, .slice sb' ks'.length sc', .func (.func 66) ⟨[]⟩ ⟨[]⟩] (fresh h) = some (v, h') ∧ (v = .int .i64 (ordL ks ks') ∧ h'.log = []) by
      obtain ⟨n, v, h', h1, rfl, h3⟩ := hw
      exact ⟨n, h', h1, h3⟩
    refine Wc.call hnone fn107 rfl ?_
    generalize hA0 : (⟨T.ofList [.slice sb ks.length sc, .slice sb' ks'.length sc', .func (.func 66) ⟨[]⟩ ⟨[]⟩] 0 .nil, max ([.slice sb ks.length sc, .slice sb' ks'.length sc', .func (.func 66) ⟨[]⟩ ⟨[]⟩] : List Value).length Tryd.f107.ntmps, []⟩ : Ac) = A0
    have n0 : A0.n = 39 := by rw [← hA0]; rfl
    have g00 : A0.get 0 = .slice sb ks.length sc := by rw [← hA0]; rfl
    have g01 : A0.get 1 = .slice sb' ks'.length sc' := by rw [← hA0]; rfl
    have g02 : A0.get 2 = .func (.func 66) ⟨[]⟩ ⟨[]⟩ := by rw [← hA0]; rfl
    have d0 : A0.defers = [] := by rw [← hA0]
    generalize hg : fresh h = g at hfit hl0 hgf hrg hrg' hs hs'
    have key : ∀ (r i : Nat) (A : Ac) (g' : H), r = ks.length - i → i ≤ ks.length → i ≤ ks'.length → A.n = 39 → A.defers = [] → A.get 0 = .slice sb ks.length sc → A.get 1 = .slice sb' ks'.length sc' → A.get 2 = .func (.func 66) ⟨[]⟩ ⟨[]⟩ → A.get 11 = .slice sb ks.length sc → A.get 12 = .int .i64 (ks.length : Nat) → A.get 13 = .int .i64 (i : Nat) →
        Ahd g g' → ordL ks ks' = ordL (ks.drop i) (ks'.drop i) →
        Wc tab E J ⟨107, none⟩ (.loop loop107) A g' (fun ex A' g'' => A'.n = 39 ∧ A'.defers = [] ∧ A'.get 0 = .slice sb ks.length sc ∧ A'.get 1 = .slice sb' ks'.length sc' ∧ Ahd g g'' ∧ ((ex = .exit 0 ∧ ordL ks ks' = if ks.length < ks'.length then -1 else 0) ∨ (ex = .ret ∧ A'.get 6 = .int .i64 (ordL ks ks')))) := by
      intro r
      induction r with
      | zero =>
        intro i A g' hr' hi hi' nA dA p0 p1 p2 p11 p12 p13 ah ho
        have hil : i = ks.length := by omega
        have hlt : decide ((i : Int) < (ks.length : Int)) = false := by simp; omega
        apply Wc.loop
        simp only [loop107, loopOf, firstLoop, Option.getD, Tryd.f107]
        repeat' (first | (with_reducible apply Wc.seq) | (apply Wc.ops; (focus ((repeat' (first | with_reducible exact RO.nil | ((with_reducible apply RO.run (awant_none rfl)); (focus ((first | simp +decide only [awant, ayield_get, oper1, aop, opv, opvs, opvo, opvp, abuiltin, aun, Ac.get_put, abin, isShift, aint, roV, pair, bind, Option.bind, acall, Sx, nA, p0, p1, p2, p11, p12, p13, hlt] | skip); with_reducible rfl))))); done))) | (refine Wc.cond2 (by simp +decide only [opv, Ac.get_put, Sx, nA, p0, p1, p2, p11, p12, p13, hlt]; try with_reducible rfl) (fun hb => ?_) (fun hb => ?_) <;> try contradiction) | refine Wc.skip ?_ | refine Wc.ret ?_ | refine Wc.exit ?_ | refine Wc.block ?_)
        refine ⟨by simp +decide only [Ac.get_put, Sx, nA], by simp +decide only [Ac.get_put, Sx, dA], by simp +decide only [Ac.get_put, Sx, nA, p0], by simp +decide only [Ac.get_put, Sx, nA, p1], ah, .inl ⟨rfl, ?_⟩⟩
        rw [ho, hil, List.drop_length]
        by_cases q : ks.length < ks'.length
        · rw [if_pos q, List.drop_eq_getElem_cons q, ordL]
        · rw [if_neg q, List.drop_of_length_le (by omega), ordL]
      | succ r ih =>
        intro i A g' hr' hi hi' nA dA p0 p1 p2 p11 p12 p13 ah ho
        have hil : i < ks.length := by omega
        have hlt : decide ((i : Int) < (ks.length : Int)) = true := by simp; omega
        have hks : ks.drop i = ks[i] :: ks.drop (i + 1) := List.drop_eq_getElem_cons hil
        rcases hs with hk0 | ⟨a, cs, he, hcs, hrl⟩
        · rw [hk0] at hil; simp at hil
        subst he
        have hfit' := ah.fit
        have hcs1 := cells_grow ah.grows hcs
        obtain ⟨hl4, hrk⟩ := repL_get i hrl (List.getElem?_eq_getElem hil)
        have hsub := cells_sub hcs1 (m := i * 4) (l := 4) (by omega)
        have hmem : ks[i] ∈ ks := List.getElem_mem hil
        have hkz := isz_mem hmem
        have hq : ∃ q0 q1 q2 q3, (cs.drop (i * 4)).take 4 = [q0, q1, q2, q3] ∧ [q0, q1, q2, q3].all isOne = true := by
          generalize hki : ks[i] = ki at hrk
          obtain ⟨k', m', tx', ks'⟩ := ki
          obtain ⟨sb', sc', e, _⟩ := rep_slice hrk
          simp only [Value.agg.injEq, Array.mk.injEq] at e
          exact ⟨_, _, _, _, e, rfl⟩
        obtain ⟨q0, q1, q2, q3, hq, hone⟩ := hq
        rw [hq] at hsub hrk
        have hir : inRange (i : Int) ks.length = true := by
          show Nat.blt i ks.length = true
          rw [Nat.blt_eq]; exact hil
        have w3 : IntKind.i64.wrap ((i : Int) + 1) = (i : Int) + 1 := wrap64 (by omega) (by omega)
        generalize hh3 : g'.new (.cells (Value.agg #[.int .i64 0, .int .i64 0, .string ⟨#[]⟩, .slice none 0 0]).cells.toList 25 none) = h3
        have a3 : Ahd g' h3 := by rw [← hh3]; exact Ahd.new0 hfit' rfl
        have c3 : h3.blk g'.next = some (.cells [.int .i64 0, .int .i64 0, .string ⟨#[]⟩, .slice none 0 0] 25 none) := by rw [← hh3]; exact new_blk_new rfl
        have hn3 : h3.next = g'.next + 1 := by rw [← hh3]; rfl
        have hst3 := st25 (a := q0) (b := q1) (c := q2) (d := q3) c3 hone (by rw [a3.mark]; exact hfit'.ok.2)
        generalize hh4 : h3.setb g'.next (.cells [q0, q1, q2, q3] 25 none) = h4 at hst3
        have a4 : Ahd g' h4 := by rw [← hh4]; exact a3.setb rfl (Nat.le_refl _) (by omega) hfit'
        have c4 : h4.blk g'.next = some (.cells [q0, q1, q2, q3] 25 none) := by rw [← hh4]; exact setb_same rfl
        by_cases hge : i ≥ ks'.length
        · have dge : decide ((i : Int) ≥ (ks'.length : Int)) = true := by simp; omega
          have e1 : ordL ks ks' = 1 := by rw [ho, hks, List.drop_of_length_le hge, ordL]
          apply Wc.loop
          simp only [loop107, loopOf, firstLoop, Option.getD, Tryd.f107]
          repeat' (first | (with_reducible apply Wc.seq) | (apply Wc.ops; (focus ((repeat' (first | with_reducible exact RO.nil | ((with_reducible apply RO.run (awant_none rfl)); (focus ((first | simp +decide only [awant, ayield_get, oper1, aop, opv, opvs, opvo, opvp, abuiltin, aun, Ac.get_put, abin, isShift, aint, roV, pair, bind, Option.bind, acall, Sx, nA, p0, p1, p2, p11, p12, p13, hlt, ia23 _ _ _ _ hir, Int.toNat_natCast, ld25, hsub, tz25, hh3, hst3, len23, dge] | skip); with_reducible rfl))))); done))) | (refine Wc.cond2 (by simp +decide only [opv, Ac.get_put, Sx, nA, p0, p1, p2, p11, p12, p13, hlt, ia23 _ _ _ _ hir, Int.toNat_natCast, ld25, hsub, tz25, hh3, hst3, len23, dge]; try with_reducible rfl) (fun hb => ?_) (fun hb => ?_) <;> try contradiction) | refine Wc.skip ?_ | refine Wc.ret ?_ | refine Wc.exit ?_ | refine Wc.block ?_)
          refine ⟨by simp +decide only [Ac.get_put, Sx, nA], by simp +decide only [Ac.get_put, Sx, dA], by simp +decide only [Ac.get_put, Sx, nA, p0], by simp +decide only [Ac.get_put, Sx, nA, p1], ah.trans a4, .inr ⟨rfl, ?_⟩⟩
          rw [e1]
          simp +decide only [Ac.get_put, Sx, nA]
        have hil' : i < ks'.length := by omega
        have dge : decide ((i : Int) ≥ (ks'.length : Int)) = false := by simp; omega
        have hks' : ks'.drop i = ks'[i] :: ks'.drop (i + 1) := List.drop_eq_getElem_cons hil'
        rcases hs' with hk0 | ⟨a', cs', he, hcs', hrl'⟩
        · rw [hk0] at hil'; simp at hil'
        subst he
        have ah4 := ah.trans a4
        have hcs1' := cells_grow ah4.grows hcs'
        obtain ⟨hl4', hrk'⟩ := repL_get i hrl' (List.getElem?_eq_getElem hil')
        have hsub' := cells_sub hcs1' (m := i * 4) (l := 4) (by omega)
        have hq' : ∃ q0 q1 q2 q3, (cs'.drop (i * 4)).take 4 = [q0, q1, q2, q3] ∧ [q0, q1, q2, q3].all isOne = true := by
          generalize hki : ks'[i] = ki at hrk'
          obtain ⟨k', m', tx', ks'⟩ := ki
          obtain ⟨sb', sc', e, _⟩ := rep_slice hrk'
          simp only [Value.agg.injEq, Array.mk.injEq] at e
          exact ⟨_, _, _, _, e, rfl⟩
        obtain ⟨u0, u1, u2, u3, hq', hone'⟩ := hq'
        rw [hq'] at hsub' hrk'
        have hir' : inRange (i : Int) ks'.length = true := by
          show Nat.blt i ks'.length = true
          rw [Nat.blt_eq]; exact hil'
        generalize hh5 : h4.new (.cells (Value.agg #[.int .i64 0, .int .i64 0, .string ⟨#[]⟩, .slice none 0 0]).cells.toList 25 none) = h5
        have a5 : Ahd h4 h5 := by rw [← hh5]; exact Ahd.new0 a4.fit rfl
        have c5 : h5.blk h4.next = some (.cells [.int .i64 0, .int .i64 0, .string ⟨#[]⟩, .slice none 0 0] 25 none) := by rw [← hh5]; exact new_blk_new rfl
        have hn5 : h5.next = h4.next + 1 := by rw [← hh5]; rfl
        have hst5 := st25 (a := u0) (b := u1) (c := u2) (d := u3) c5 hone' (by rw [a5.mark]; exact a4.fit.ok.2)
        generalize hh6 : h5.setb h4.next (.cells [u0, u1, u2, u3] 25 none) = h6 at hst5
        have a6 : Ahd h4 h6 := by rw [← hh6]; exact a5.setb rfl (Nat.le_refl _) (by omega) a4.fit
        have c6 : h6.blk h4.next = some (.cells [u0, u1, u2, u3] 25 none) := by rw [← hh6]; exact setb_same rfl
        have c6' : h6.blk g'.next = some (.cells [q0, q1, q2, q3] 25 none) := a6.grows _ _ c4
        have ah6 := ah4.trans a6
        have cl1 : h6.cells E (own g'.next) 4 = some [q0, q1, q2, q3] := blk_cells c6' rfl hone
        have cl2 : h6.cells E (own h4.next) 4 = some [u0, u1, u2, u3] := blk_cells c6 rfl hone'
        have hcall : (ev tab E J 1).call 66 [.agg ⟨[q0, q1, q2, q3]⟩, .agg ⟨[u0, u1, u2, u3]⟩] h6 = some (.int .i64 (ordI ks[i] ks'[i]), h6) := by
          apply ev_known
          exact hJk (.inl ⟨rfl, ks[i], _, ks'[i], _, rfl, rep_grow ah6.grows hrk, rep_grow ah6.grows hrk', by omega, rfl, rfl⟩) (by omega)
        by_cases q : ordI ks[i] ks'[i] = 0
        · have dq : (!decide (ordI ks[i] ks'[i] = 0)) = false := by simp [q]
          apply Wc.loop
          simp only [loop107, loopOf, firstLoop, Option.getD, Tryd.f107]
          repeat' (first | (with_reducible apply Wc.seq) | (apply Wc.ops; (focus ((repeat' (first | with_reducible exact RO.nil | ((with_reducible apply RO.run (awant_none rfl)); (focus ((first | simp +decide only [awant, ayield_get, oper1, aop, opv, opvs, opvo, opvp, abuiltin, aun, Ac.get_put, abin, isShift, aint, roV, pair, bind, Option.bind, acall, Sx, nA, p0, p1, p2, p11, p12, p13, hlt, ia23 _ _ _ _ hir, ia23 _ _ _ _ hir', Int.toNat_natCast, ld25, hsub, hsub', tz25, hh3, hst3, hh5, hst5, len23, dge, cl1, cl2, hcall, dq, w3] | skip); with_reducible rfl))))); done))) | (refine Wc.cond2 (by simp +decide only [opv, Ac.get_put, Sx, nA, p0, p1, p2, p11, p12, p13, hlt, ia23 _ _ _ _ hir, ia23 _ _ _ _ hir', Int.toNat_natCast, ld25, hsub, hsub', tz25, hh3, hst3, hh5, hst5, len23, dge, cl1, cl2, hcall, dq, w3]; try with_reducible rfl) (fun hb => ?_) (fun hb => ?_) <;> try contradiction) | refine Wc.skip ?_ | refine Wc.ret ?_ | refine Wc.exit ?_ | refine Wc.block ?_)
          refine (ih (i + 1) _ h6 (by omega) (by omega) (by omega) ?_ ?_ ?_ ?_ ?_ ?_ ?_ ?_ ah6 ?_).mono ?_
          · simp +decide only [Ac.get_put, Sx, nA]
          · simp +decide only [Ac.get_put, Sx, dA]
          · simp +decide only [Ac.get_put, Sx, nA, p0]
          · simp +decide only [Ac.get_put, Sx, nA, p1]
          · simp +decide only [Ac.get_put, Sx, nA, p2]
          · simp +decide only [Ac.get_put, Sx, nA, p11]
          · simp +decide only [Ac.get_put, Sx, nA, p12]
          · simp +decide only [Ac.get_put, Sx, nA]
            rfl
          · rw [ho, hks, hks', ordL, if_neg (by simpa using q)]
          · rintro ex A' h' ⟨e1, e2, e3, e4, e5, ⟨rfl, e6⟩ | ⟨rfl, e6⟩⟩
            · exact ⟨e1, e2, e3, e4, e5, .inl ⟨rfl, e6⟩⟩
            · exact ⟨e1, e2, e3, e4, e5, .inr ⟨rfl, e6⟩⟩
        · have dq : (!decide (ordI ks[i] ks'[i] = 0)) = true := by simp [q]
          have e1 : ordL ks ks' = ordI ks[i] ks'[i] := by rw [ho, hks, hks', ordL, if_pos (by simpa using q)]
          apply Wc.loop
          simp only [loop107, loopOf, firstLoop, Option.getD, Tryd.f107]
          repeat' (first | (with_reducible apply Wc.seq) | (apply Wc.ops; (focus ((repeat' (first | with_reducible exact RO.nil | ((with_reducible apply RO.run (awant_none rfl)); (focus ((first | simp +decide only [awant, ayield_get, oper1, aop, opv, opvs, opvo, opvp, abuiltin, aun, Ac.get_put, abin, isShift, aint, roV, pair, bind, Option.bind, acall, Sx, nA, p0, p1, p2, p11, p12, p13, hlt, ia23 _ _ _ _ hir, ia23 _ _ _ _ hir', Int.toNat_natCast, ld25, hsub, hsub', tz25, hh3, hst3, hh5, hst5, len23, dge, cl1, cl2, hcall, dq, w3] | skip); with_reducible rfl))))); done))) | (refine Wc.cond2 (by simp +decide only [opv, Ac.get_put, Sx, nA, p0, p1, p2, p11, p12, p13, hlt, ia23 _ _ _ _ hir, ia23 _ _ _ _ hir', Int.toNat_natCast, ld25, hsub, hsub', tz25, hh3, hst3, hh5, hst5, len23, dge, cl1, cl2, hcall, dq, w3]; try with_reducible rfl) (fun hb => ?_) (fun hb => ?_) <;> try contradiction) | refine Wc.skip ?_ | refine Wc.ret ?_ | refine Wc.exit ?_ | refine Wc.block ?_)
          refine ⟨by simp +decide only [Ac.get_put, Sx, nA], by simp +decide only [Ac.get_put, Sx, dA], by simp +decide only [Ac.get_put, Sx, nA, p0], by simp +decide only [Ac.get_put, Sx, nA, p1], ah6, .inr ⟨rfl, ?_⟩⟩
          rw [e1]
          simp +decide only [Ac.get_put, Sx, nA]
    repeat' (first | (with_reducible apply Wc.seq) | (apply Wc.ops; (focus ((repeat' (first | with_reducible exact RO.nil | ((with_reducible apply RO.run (awant_none rfl)); (focus ((first | simp +decide only [awant, ayield_get, oper1, aop, opv, opvs, opvo, opvp, abuiltin, aun, Ac.get_put, abin, isShift, aint, roV, pair, bind, Option.bind, acall, Sx, n0, d0, g00, g01, g02, len23] | skip); with_reducible rfl))))); done))) | (refine Wc.cond2 (by simp +decide only [opv, Ac.get_put, Sx, n0, d0, g00, g01, g02, len23]; try with_reducible rfl) (fun hb => ?_) (fun hb => ?_) <;> try contradiction) | refine Wc.skip ?_ | refine Wc.ret ?_ | refine Wc.exit ?_ | refine Wc.block ?_)
    refine (key ks.length 0 _ g rfl (Nat.zero_le _) (Nat.zero_le _) ?_ ?_ ?_ ?_ ?_ ?_ ?_ ?_ (Ahd.refl hfit) (by rw [List.drop_zero, List.drop_zero])).mono ?_
    · simp +decide only [Ac.get_put, Sx, n0]
    · simp +decide only [Ac.get_put, Sx, d0]
    · simp +decide only [Ac.get_put, Sx, n0, g00]
    · simp +decide only [Ac.get_put, Sx, n0, g01]
    · simp +decide only [Ac.get_put, Sx, n0, g02]
    · simp +decide only [Ac.get_put, Sx, n0]
    · simp +decide only [Ac.get_put, Sx, n0]
    · simp +decide only [Ac.get_put, Sx, n0]
      rfl
    · rintro ex A' g' ⟨e1, e2, e3, e4, e5, ⟨rfl, e6⟩ | ⟨rfl, e6⟩⟩
      · simp only [if_true]
        by_cases q : ks.length < ks'.length
        · rw [if_pos q] at e6
          have dq : decide ((ks.length : Int) < (ks'.length : Int)) = true := by simp; omega
          repeat' (first | (with_reducible apply Wc.seq) | (apply Wc.ops; (focus ((repeat' (first | with_reducible exact RO.nil | ((with_reducible apply RO.run (awant_none rfl)); (focus ((first | simp +decide only [awant, ayield_get, oper1, aop, opv, opvs, opvo, opvp, abuiltin, aun, Ac.get_put, abin, isShift, aint, roV, pair, bind, Option.bind, acall, Sx, e1, e3, e4, len23, dq] | skip); with_reducible rfl))))); done))) | (refine Wc.cond2 (by simp +decide only [opv, Ac.get_put, Sx, e1, e3, e4, len23, dq]; try with_reducible rfl) (fun hb => ?_) (fun hb => ?_) <;> try contradiction) | refine Wc.skip ?_ | refine Wc.ret ?_ | refine Wc.exit ?_ | refine Wc.block ?_)
          refine done_tmp (.inr rfl) (by simp +decide only [Ac.get_put, Sx, e2]) rfl ?_ (e5.log.trans hl0)
          rw [e6]
          simp +decide only [Ac.get_put, Sx, e1]
        · rw [if_neg q] at e6
          have dq : decide ((ks.length : Int) < (ks'.length : Int)) = false := by simp; omega
          repeat' (first | (with_reducible apply Wc.seq) | (apply Wc.ops; (focus ((repeat' (first | with_reducible exact RO.nil | ((with_reducible apply RO.run (awant_none rfl)); (focus ((first | simp +decide only [awant, ayield_get, oper1, aop, opv, opvs, opvo, opvp, abuiltin, aun, Ac.get_put, abin, isShift, aint, roV, pair, bind, Option.bind, acall, Sx, e1, e3, e4, len23, dq] | skip); with_reducible rfl))))); done))) | (refine Wc.cond2 (by simp +decide only [opv, Ac.get_put, Sx, e1, e3, e4, len23, dq]; try with_reducible rfl) (fun hb => ?_) (fun hb => ?_) <;> try contradiction) | refine Wc.skip ?_ | refine Wc.ret ?_ | refine Wc.exit ?_ | refine Wc.block ?_)
          refine done_tmp (.inr rfl) (by simp +decide only [Ac.get_put, Sx, e2]) rfl ?_ (e5.log.trans hl0)
          rw [e6]
          simp +decide only [Ac.get_put, Sx, e1]
      · exact done_tmp (.inr rfl) e2 rfl e6 (e5.log.trans hl0)
end Go.Proofs.YtofijpbmbmbnhaaDoor
