/- Check, as the program does it. -/
import Derived.Test.YtofijpbmbmbnhaaDoorHsam
set_option linter.unusedSimpArgs false
set_option linter.unusedVariables false
set_option maxRecDepth 100000
set_option maxHeartbeats 4000000
namespace Go.Proofs.YtofijpbmbmbnhaaDoor
open Go Go.Hs Go.Proofs
variable {E : Env} {I : Known}

def says35 (E : Env) : Says := fun s f args h v => f = 35 ∧ s = 0 ∧ ∃ t xv, args = [xv] ∧ rep E h t xv ∧ isz t ≤ 1000000 ∧ v = .int .i64 (chkI t 0 1).2
theorem one35 (E : Env) : One (says35 E) := by
  rintro s s' f args h v v' ⟨_, _, t, xv, rfl, h1, _, rfl⟩ ⟨_, _, t', xv', he, h2, _, rfl⟩
  cases he
  rw [rep_one h1 h2]
theorem shown35 (hI : ∀ f args h, (f = 35 ∨ f = 70 ∨ f = 109 ∨ f = 110) → I f args h = none) : ShownF tab E I (says35 E) := by
  rintro sz f args h v ⟨rfl, rfl, t, xv, rfl, hr, hz, rfl⟩ hfit
  refine ⟨rfl, ?_⟩
  obtain ⟨k, m, tx, ks⟩ := t
  obtain ⟨sb, sc, rfl, hs⟩ := rep_slice hr
  have hJ : upTo (says35 E) I 0 = I := by funext f args h; exact upTo_none (fun _ _ hs => absurd hs (Nat.not_lt_zero _))
  rw [hJ]
  suffices hw : ∃ n v h', (ev tab E I n).call 35 [.agg ⟨[.int .i64 k, .int .i64 m, .string tx, .slice sb ks.length sc]⟩] (fresh h) = some (v, h') ∧ (v = .int .i64 (chkI (.mk k m tx ks) 0 1).2 ∧ h'.log = []) by
    obtain ⟨n, v, h', h1, rfl, h3⟩ := hw
    exact ⟨n, h', h1, h3⟩
  refine Wc.call (hI _ _ _ (.inl rfl)) fn35 rfl ?_
  generalize hA0 : (⟨T.ofList [.agg ⟨[.int .i64 k, .int .i64 m, .string tx, .slice sb ks.length sc]⟩] 0 .nil, max ([.agg ⟨[.int .i64 k, .int .i64 m, .string tx, .slice sb ks.length sc]⟩] : List Value).length Tryd.f35.ntmps, []⟩ : Ac) = A0
  have n0 : A0.n = 42 := by rw [← hA0]; rfl
  have g00 : A0.get 0 = .agg ⟨[.int .i64 k, .int .i64 m, .string tx, .slice sb ks.length sc]⟩ := by rw [← hA0]; rfl
  have d0 : A0.defers = [] := by rw [← hA0]
  have hl0 : (fresh h).log = [] := rfl
  have hgf : Grows h (fresh h) := fun _ _ hb => hb
  generalize hg : fresh h = g at hfit hl0 hgf
  have hmk : g.mark ≤ g.next := hfit.ok.2
  generalize hh1 : g.new (.cells (Value.agg ⟨[.int .i64 k, .int .i64 m, .string tx, .slice sb ks.length sc]⟩).cells.toList 25 none) = h1
  have a1 : Ahd g h1 := by rw [← hh1]; exact Ahd.new0 hfit rfl
  have b1 : h1.blk g.next = some (.cells [.int .i64 k, .int .i64 m, .string tx, .slice sb ks.length sc] 25 none) := by rw [← hh1]; exact new_blk_new rfl
  have n1 : h1.next = g.next + 1 := by rw [← hh1]; rfl
  generalize hh2 : h1.new (.cells (Value.int .i64 0).cells.toList 26 none) = h2
  have a2 : Ahd h1 h2 := by rw [← hh2]; exact Ahd.new0 a1.fit rfl
  have b2 : h2.blk (g.next + 1) = some (.cells [.int .i64 0] 26 none) := by rw [← hh2, ← n1]; exact new_blk_new rfl
  have n2 : h2.next = g.next + 2 := by rw [← hh2]; show h1.next + 1 = _; rw [n1]
  generalize hh3 : h2.new (.cells (Value.int .i64 0).cells.toList 3 none) = h3
  have a3 : Ahd h2 h3 := by rw [← hh3]; exact Ahd.new0 a2.fit rfl
  have b3 : h3.blk (g.next + 2) = some (.cells [.int .i64 0] 3 none) := by rw [← hh3, ← n2]; exact new_blk_new rfl
  have n3 : h3.next = g.next + 3 := by rw [← hh3]; show h2.next + 1 = _; rw [n2]
  have a13 := (a1.trans a2).trans a3
  have hst := st3 (i := 0) b3 (by rw [a13.mark]; omega)
  generalize hh4 : h3.setb (g.next + 2) (.cells [.int .i64 0] 3 none) = h4 at hst
  have a4 : Ahd g h4 := by rw [← hh4]; exact a13.setb rfl (by omega) (by omega) hfit
  have c1 : h4.blk g.next = some (.cells [.int .i64 k, .int .i64 m, .string tx, .slice sb ks.length sc] 25 none) := by rw [← hh4, setb_ne (by omega)]; exact a3.grows _ _ (a2.grows _ _ b1)
  have c2 : h4.blk (g.next + 1) = some (.cells [.int .i64 0] 26 none) := by rw [← hh4, setb_ne (by omega)]; exact a3.grows _ _ b2
  have c3 : h4.blk (g.next + 2) = some (.cells [.int .i64 0] 3 none) := by rw [← hh4]; exact setb_same rfl
  have n4 : h4.next = g.next + 3 := by rw [← hh4]; exact n3
  have cl1 : h4.cells E (own g.next) 4 = some [.int .i64 k, .int .i64 m, .string tx, .slice sb ks.length sc] := blk_cells c1 rfl rfl
  obtain ⟨nf, v7, h5, hc70, rfl, hh5⟩ := call70 (E := E) (J := I) (fun args h => hI _ args h (.inr (.inl rfl))) (a := .int .i64 k) (b := .int .i64 m) (c := .string tx) (d := .slice sb ks.length sc) h4
  have a5 : Ahd h4 h5 := by rw [hh5]; exact Ahd.new0 a4.fit rfl
  have b5 : h5.blk (g.next + 3) = some (.cells [.int .i64 k, .int .i64 m, .string tx, .slice sb ks.length sc] 25 none) := by rw [hh5, ← n4]; exact new_blk_new rfl
  have n5 : h5.next = g.next + 4 := by rw [hh5]; show h4.next + 1 = _; rw [n4]
  have a05 := a4.trans a5
  rw [n4] at hc70
  repeat' (first
    | (with_reducible apply Wc.seq)
    | (refine Wc.opsN nf (by repeat' (first
      | with_reducible exact RO.nil
      | ((with_reducible apply RO.run (awant_none rfl)); (focus ((first | simp (config := {decide := true}) only [awant, ayield_get, oper1, aop, opv, opvs, opvo, opvp, abuiltin, Ac.get_put, Ac.put_n, Ac.put_defers, if_true, if_false, and_true, decide_true, abin, isShift, aint, roV, pair, bind, Option.bind, acall, List.nil_append, List.append_nil, List.toList_toArray, List.getElem?_cons_zero, List.getElem?_cons_succ, Bool.not_true, Bool.not_false, n0, d0, g00, tz26, tz3, hh1, hh2, hh3, n1, n2, n3, hst, ld25, cl1, hc70] | skip); with_reducible rfl))))) ?_)
    | (refine Wc.cond2 (by simp (config := {decide := true}) only [awant, ayield_get, oper1, aop, opv, opvs, opvo, opvp, abuiltin, Ac.get_put, Ac.put_n, Ac.put_defers, if_true, if_false, and_true, decide_true, abin, isShift, aint, roV, pair, bind, Option.bind, acall, List.nil_append, List.append_nil, List.toList_toArray, List.getElem?_cons_zero, List.getElem?_cons_succ, Bool.not_true, Bool.not_false, n0, d0, g00, tz26, tz3, hh1, hh2, hh3, n1, n2, n3, hst, ld25, cl1, hc70]; try with_reducible rfl) (fun hb => ?_) (fun hb => ?_) <;> try contradiction)
    | refine Wc.skip ?_
    | refine Wc.ret ?_
    | refine Wc.exit ?_
    | refine Wc.block ?_)
  refine Wc.forget (fun A => A.n = 42 ∧ A.defers = [] ∧ A.get 2 = .pointer (some (own (g.next + 1))) ∧ A.get 3 = .pointer (some (own (g.next + 2))) ∧ A.get 7 = .func (.func 109) ⟨[]⟩ ⟨[.pointer (some (own (g.next + 3)))]⟩) ⟨by simp (config := {decide := true}) only [Ac.get_put, Ac.put_n, Ac.put_defers, if_true, if_false, and_true, n0], by simp (config := {decide := true}) only [Ac.get_put, Ac.put_n, Ac.put_defers, if_true, if_false, and_true, d0], by simp (config := {decide := true}) only [Ac.get_put, Ac.put_n, Ac.put_defers, if_true, if_false, and_true, n0], by simp (config := {decide := true}) only [Ac.get_put, Ac.put_n, Ac.put_defers, if_true, if_false, and_true, n0], by simp (config := {decide := true}) only [Ac.get_put, Ac.put_n, Ac.put_defers, if_true, if_false, and_true, n0]⟩ ?_
  clear hA0 n0 g00 d0
  rintro A ⟨nA, dA, p2, p3, p7⟩
  -- the loop
  generalize hr0 : (⟨.ready, none, 35, A.tmps, A.n, #[8, 9], asg35, bod35, g.next + 4⟩ : LoopR) = r0
  have fr0 : r0.state = .ready ∧ r0.pending = none := by rw [← hr0]; exact ⟨rfl, rfl⟩
  generalize hh6 : h5.new (.defd false) = h6
  have a6 : Ahd h5 h6 := by rw [← hh6]; exact Ahd.new0 a5.fit rfl
  have b6 : h6.blk (g.next + 4) = some (.defd false) := by rw [← hh6, ← n5]; exact new_blk_new rfl
  have n6 : h6.next = g.next + 5 := by rw [← hh6]; show h5.next + 1 = _; rw [n5]
  generalize hh7 : h6.new (.loop r0) = h7
  have a7 : Ahd h6 h7 := by rw [← hh7]; exact Ahd.new0 a6.fit rfl
  have b7 : h7.blk (g.next + 5) = some (.loop r0) := by rw [← hh7, ← n6]; exact new_blk_new rfl
  have n7 : h7.next = g.next + 6 := by rw [← hh7]; show h6.next + 1 = _; rw [n6]
  have a57 := a6.trans a7
  have a07 := a05.trans a57
  have m7 : h7.mark = g.mark := a07.mark
  have S7 : St35 h7 (g.next + 1) (g.next + 2) (g.next + 5) r0 true (0, 0) h7 :=
    ⟨a7.fit, a07.log.trans hl0, rfl, Keep.refl _ _, a57.grows _ _ (a5.grows _ _ c2), a57.grows _ _ (a5.grows _ _ c3), by rw [if_pos rfl]; exact b7, fun _ => ⟨rfl, by show (0 : Int) ≤ 0; omega, by show (0 : Int) ≤ 5000; omega⟩⟩
  have hrg : rep E g (.mk k m tx ks) (.agg ⟨[.int .i64 k, .int .i64 m, .string tx, .slice sb ks.length sc]⟩) := rep_grow hgf hr
  have hround := @round35 E I h7 (g.next + 1) (g.next + 2) (g.next + 5) (g.next + 4) (by omega) (by omega) (by rw [m7]; omega) A nA p2 p3
  rw [hr0] at hround
  have V : Vis E I stepC g (g.next + 5) h7.next (h7.next + 1) (fun k => k = g.next + 1 ∨ k = g.next + 2 ∨ k = g.next + 5)
      (fun b s g' => St35 h7 (g.next + 1) (g.next + 2) (g.next + 5) r0 b s g' ∧ (b = true → g'.blk h7.next = some (.cells [.func (.yield (g.next + 5)) ⟨[]⟩ ⟨[]⟩] 163 none) ∧ g'.blk (h7.next + 1) = some (.cells [.func (.func 110) ⟨[]⟩ ⟨[.pointer (some (own h7.next)), .pointer (some (own (h7.next + 1)))]⟩] 163 none))) := by
    have hM : ∀ k, h7.next ≤ k → ¬ (k = g.next + 1 ∨ k = g.next + 2 ∨ k = g.next + 5) := fun k hk => by rw [n7] at hk; omega
    refine ⟨fun S => S.1.fit, fun S k B hb => ?_, fun S => (S.2 rfl).1, fun S => (S.2 rfl).2, fun S a => ⟨S.1.ahd a, fun h => ⟨a.grows _ _ (S.2 h).1, a.grows _ _ (S.2 h).2⟩⟩, fun S k hk => hM k (Nat.le_trans S.1.keep.next hk), ?_⟩
    · have hlt := hfit.lt hb
      exact S.1.keep.blk k B (by omega) (a07.grows _ _ hb)
    · intro s g' lv t xv S hlv hlv2 hr
      obtain ⟨n, v, g'', e1, e2, e3, e4⟩ := hround S.1 hlv hlv2 hr
      exact ⟨n, v, g'', e1, e2, ⟨e3, fun _ => ⟨e4.blk _ _ (hM _ (Nat.le_refl _)) (S.2 rfl).1, e4.blk _ _ (hM _ (Nat.le_succ _)) (S.2 rfl).2⟩⟩, e4⟩
  obtain ⟨nc, vc, g8, hc109, rfl, ⟨S8, _⟩, kp⟩ := call109 (fun f args h hf => hI f args h (by rcases hf with h | h <;> simp [h])) V a7.fit (.mk k m tx ks) rfl (a57.grows _ _ b5) hrg hz (0, 0) (fun g' a q1 q2 => ⟨S7.ahd a, fun _ => ⟨q1, q2⟩⟩)
  rw [visitC _ _ _ (Int.le_refl _) (by decide)] at S8
  have hacall : acall (ev tab E I nc) (.func (.func 109) ⟨[]⟩ ⟨[.pointer (some (own (g.next + 3)))]⟩) [.func (.yield (h5.next + 1)) #[] #[]] ((h5.new (.defd false)).new (.loop ⟨.ready, none, 35, A.tmps, A.n, #[8, 9], asg35, bod35, h5.next⟩)) = some (.tuple #[], g8) := by
    rw [n5, hr0, hh6, hh7]
    exact hc109
  have hopv : opv A (.tmp 7) = some (.func (.func 109) ⟨[]⟩ ⟨[.pointer (some (own (g.next + 3)))]⟩) := by simp only [opv, p7]
  have m8 : g8.mark ≤ g.next := by rw [S8.mark, m7]; exact hmk
  have d8 : g8.blk (g.next + 4) = some (.defd false) := kp.blk _ _ (by omega) (a7.grows _ _ b6)
  have x8 : g.next + 6 ≤ g8.next := by rw [← n7]; exact kp.next
  by_cases hq : (chkI (.mk k m tx ks) 0 1).2 = 0
  · rw [afterC, if_pos hq] at S8
    have bl8 := S8.bl
    rw [if_pos rfl] at bl8
    refine Wc.range nc hopv hacall (r := r0) (by rw [n5]; exact bl8) (by rw [fr0.1]; decide) ?_
    simp only [fr0.2]
    rw [turn_above (by rw [n5]; omega), n5]
    generalize hh9 : g8.setb (g.next + 4 + 1) (.loop { r0 with state := .exhausted, pending := none }) = g9
    have R9 : g9.blk (g.next + 1) = some (.cells [.int .i64 0] 26 none) := by rw [← hh9, setb_ne (by omega)]; exact S8.bR
    have D9 : g9.blk (g.next + 4) = some (.defd false) := by rw [← hh9, setb_ne (by omega)]; exact d8
    have m9 : g9.mark ≤ g.next := by rw [← hh9]; exact m8
    have l9 : g9.log = [] := by rw [← hh9]; exact S8.log
    have hst9 := st26 (i := 0) R9 (by omega)
    generalize hh10 : g9.setb (g.next + 1) (.cells [.int .i64 0] 26 none) = g10 at hst9
    have R10 : g10.blk (g.next + 1) = some (.cells [.int .i64 0] 26 none) := by rw [← hh10]; exact setb_same rfl
    have D10 : g10.blk (g.next + 4) = some (.defd false) := by rw [← hh10, setb_ne (by omega)]; exact D9
    have m10 : g10.mark ≤ g.next := by rw [← hh10]; exact m9
    have l10 : g10.log = [] := by rw [← hh10]; exact l9
    have q2 : ∀ ds, (⟨A.tmps, A.n, ds⟩ : Ac).get 2 = .pointer (some (own (g.next + 1))) := fun _ => p2
    have qn : ∀ ds, (⟨A.tmps, A.n, ds⟩ : Ac).n = 42 := fun _ => nA
    repeat' (first
    | (with_reducible apply Wc.seq)
    | (refine Wc.ops (by repeat' (first
      | with_reducible exact RO.nil
      | ((with_reducible apply RO.run (awant_none rfl)); (focus ((first | simp (config := {decide := true}) only [awant, ayield_get, oper1, aop, opv, opvs, opvo, opvp, abuiltin, Ac.get_put, Ac.put_n, Ac.put_defers, if_true, if_false, and_true, decide_true, abin, isShift, aint, roV, pair, bind, Option.bind, acall, List.nil_append, List.append_nil, List.toList_toArray, List.getElem?_cons_zero, List.getElem?_cons_succ, Bool.not_true, Bool.not_false, qn, q2, hst9] | skip); with_reducible rfl))))) ?_)
    | (refine Wc.cond2 (by simp (config := {decide := true}) only [awant, ayield_get, oper1, aop, opv, opvs, opvo, opvp, abuiltin, Ac.get_put, Ac.put_n, Ac.put_defers, if_true, if_false, and_true, decide_true, abin, isShift, aint, roV, pair, bind, Option.bind, acall, List.nil_append, List.append_nil, List.toList_toArray, List.getElem?_cons_zero, List.getElem?_cons_succ, Bool.not_true, Bool.not_false, qn, q2, hst9]; try with_reducible rfl) (fun hb => ?_) (fun hb => ?_) <;> try contradiction)
    | refine Wc.skip ?_
    | refine Wc.ret ?_
    | refine Wc.exit ?_
    | refine Wc.block ?_)
    refine done_cellD (d := g.next + 4) (a := own (g.next + 1)) (v := .int .i64 0) (.inr rfl) (by rw [dA]; rfl) D10 (by omega) rfl (by simp (config := {decide := true}) only [Ac.get_put, Ac.put_n, Ac.put_defers, if_true, if_false, and_true, q2]) ?_ ⟨by rw [hq], l10⟩
    rw [ld26]
    exact blk_cell0 (by rw [setb_ne (by omega)]; exact R10) rfl
  · rw [afterC, if_neg hq] at S8
    have bl8 := S8.bl
    rw [if_neg (by simp)] at bl8
    refine Wc.range nc hopv hacall (r := { r0 with state := .done, pending := some .ret }) (by rw [n5]; exact bl8) (by show LoopState.done ≠ LoopState.busy; decide) ?_
    simp only
    rw [turn_above (by rw [n5]; omega), n5]
    generalize hh9 : g8.setb (g.next + 4 + 1) (.loop { r0 with state := .exhausted, pending := some .ret }) = g9
    have R9 : g9.blk (g.next + 1) = some (.cells [.int .i64 (chkI (.mk k m tx ks) 0 1).2] 26 none) := by rw [← hh9, setb_ne (by omega)]; exact S8.bR
    have D9 : g9.blk (g.next + 4) = some (.defd false) := by rw [← hh9, setb_ne (by omega)]; exact d8
    have m9 : g9.mark ≤ g.next := by rw [← hh9]; exact m8
    have l9 : g9.log = [] := by rw [← hh9]; exact S8.log
    have q2 : ∀ ds, (⟨A.tmps, A.n, ds⟩ : Ac).get 2 = .pointer (some (own (g.next + 1))) := fun _ => p2
    refine Wc.ret ?_
    refine done_cellD (d := g.next + 4) (a := own (g.next + 1)) (v := .int .i64 (chkI (.mk k m tx ks) 0 1).2) (.inr rfl) (by rw [dA]) D9 (by omega) rfl (q2 _) ?_ ⟨rfl, l9⟩
    rw [ld26]
    exact blk_cell0 (by rw [setb_ne (by omega)]; exact R9) rfl
end Go.Proofs.YtofijpbmbmbnhaaDoor
/- Size, as the program does it. -/
set_option maxRecDepth 100000
set_option maxHeartbeats 4000000
namespace Go.Proofs.YtofijpbmbmbnhaaDoor
open Go Go.Hs Go.Proofs
variable {E : Env} {I : Known}

theorem fn32 : tab.fn.get 32 = some Tryd.f32 := by kernel_rfl
noncomputable def asg32 : Code := (rangeOf Tryd.f32).1
noncomputable def bod32 : Code := (rangeOf Tryd.f32).2

/-- How it stands in the midst of the loop. -/
structure St32 (g0 : H) (kA kB l : Nat) (r0 : LoopR) (s : Int × Int) (g : H) : Prop where
  fit : Fit g
  log : g.log = []
  mark : g.mark = g0.mark
  keep : Keep (fun k => k = kA ∨ k = kB ∨ k = l) g0 g
  bA : g.blk kA = some (.cells [.int .i64 s.1] 3 none)
  bB : g.blk kB = some (.cells [.int .i64 s.2] 3 none)
  bl : g.blk l = some (.loop r0)

theorem St32.ahd {g0 : H} {kA kB l : Nat} {r0 : LoopR} {s : Int × Int} {g g' : H} (S : St32 g0 kA kB l r0 s g) (a : Ahd g g') : St32 g0 kA kB l r0 s g' :=
  ⟨a.fit, a.log.trans S.log, a.mark.trans S.mark, S.keep.ahd a, a.grows _ _ S.bA, a.grows _ _ S.bB, a.grows _ _ S.bl⟩

theorem round32 {J : Known} {g0 : H} {kA kB l d : Nat} (o1 : kA < kB) (o2 : kB < l) (om : g0.mark ≤ kA) {A : Ac} (nA : A.n = 21) (p2 : A.get 2 = .pointer (some (own kA))) (p3 : A.get 3 = .pointer (some (own kB))) {s : Int × Int} {g : H}
    (S : St32 g0 kA kB l ⟨.ready, none, 32, A.tmps, A.n, #[14, 15], asg32, bod32, d⟩ s g) {lv : Int} {t : Hs.Item} {xv : Value} :
    ∃ n v g', (ev tab E J n).round l [.int .i64 lv, xv] g = some (v, g') ∧ (v = .bool (stepW lv t s).2 ∧ St32 g0 kA kB l ⟨.ready, none, 32, A.tmps, A.n, #[14, 15], asg32, bod32, d⟩ (stepW lv t s).1 g' ∧ Keep (fun k => k = kA ∨ k = kB ∨ k = l) g g') := by
  obtain ⟨c, m⟩ := s
  generalize hr0 : (⟨.ready, none, 32, A.tmps, A.n, #[14, 15], asg32, bod32, d⟩ : LoopR) = r0 at S ⊢
  have bl := S.bl
  have hln := S.fit.lt bl
  refine Wr.round bl (A := ((⟨A.tmps, A.n, []⟩ : Ac).put (some 14) (.int .i64 lv)).put (some 15) xv) (by rw [← hr0]; rfl) ?_
  have hp : ∀ i, (⟨A.tmps, A.n, []⟩ : Ac).get i = A.get i := fun _ => rfl
  have hpn : (⟨A.tmps, A.n, []⟩ : Ac).n = 21 := nA
  have q2 := (hp 2).trans p2
  have q3 := (hp 3).trans p3
  generalize (⟨A.tmps, A.n, []⟩ : Ac) = B0 at hpn q2 q3 ⊢
  have asgW : Wc tab E J ⟨r0.fn, some l⟩ r0.assign ((B0.put (some 14) (.int .i64 lv)).put (some 15) xv) g (fun ex A1 h1 => ex = .normal ∧ h1 = g ∧ A1.n = 21 ∧ A1.get 2 = .pointer (some (own kA)) ∧ A1.get 3 = .pointer (some (own kB)) ∧ A1.get 6 = .int .i64 lv) := by
    have hasg : r0.assign = asg32 := by rw [← hr0]
    have hfn0 : r0.fn = 32 := by rw [← hr0]
    rw [hasg, hfn0]
    simp only [asg32, rangeOf, firstRange, Option.getD, Tryd.f32]
    repeat' (first
    | (with_reducible apply Wc.seq)
    | (refine Wc.ops (by repeat' (first
      | with_reducible exact RO.nil
      | ((with_reducible apply RO.run (awant_none rfl)); (focus ((first | simp (config := {decide := true}) only [awant, ayield_get, oper1, aop, opv, opvs, opvo, opvp, abuiltin, Ac.get_put, Ac.put_n, Ac.put_defers, if_true, if_false, and_true, decide_true, abin, isShift, aint, roV, pair, bind, Option.bind, acall, List.nil_append, List.append_nil, List.toList_toArray, List.getElem?_cons_zero, List.getElem?_cons_succ, Bool.not_true, Bool.not_false, hpn, q2, q3] | skip); with_reducible rfl))))) ?_)
    | (refine Wc.cond2 (by simp (config := {decide := true}) only [awant, ayield_get, oper1, aop, opv, opvs, opvo, opvp, abuiltin, Ac.get_put, Ac.put_n, Ac.put_defers, if_true, if_false, and_true, decide_true, abin, isShift, aint, roV, pair, bind, Option.bind, acall, List.nil_append, List.append_nil, List.toList_toArray, List.getElem?_cons_zero, List.getElem?_cons_succ, Bool.not_true, Bool.not_false, hpn, q2, q3]; try with_reducible rfl) (fun hb => ?_) (fun hb => ?_) <;> try contradiction)
    | refine Wc.skip ?_
    | refine Wc.ret ?_
    | refine Wc.exit ?_
    | refine Wc.block ?_)
    exact ⟨rfl, rfl, by simp (config := {decide := true}) only [Ac.get_put, Ac.put_n, Ac.put_defers, if_true, if_false, and_true, hpn], by simp (config := {decide := true}) only [Ac.get_put, Ac.put_n, Ac.put_defers, if_true, if_false, and_true, hpn, q2], by simp (config := {decide := true}) only [Ac.get_put, Ac.put_n, Ac.put_defers, if_true, if_false, and_true, hpn, q3], by simp (config := {decide := true}) only [Ac.get_put, Ac.put_n, Ac.put_defers, if_true, if_false, and_true, hpn]⟩
  refine asgW.mono ?_
  clear asgW
  rintro ex A1 h1 ⟨rfl, rfl, nA1, u2, u3, u6⟩
  refine ⟨rfl, r0, bl, by rw [← hr0], ?_⟩
  have hml : h1.mark ≤ l := by rw [S.mark]; omega
  rw [turn_above hml]
  generalize hh7 : h1.setb l (.loop { r0 with state := .busy }) = h7
  have f7 : Fit h7 := by rw [← hh7]; exact S.fit.setb rfl hln
  have A7 : h7.blk kA = some (.cells [.int .i64 c] 3 none) := by rw [← hh7, setb_ne (by omega)]; exact S.bA
  have B7 : h7.blk kB = some (.cells [.int .i64 m] 3 none) := by rw [← hh7, setb_ne (by omega)]; exact S.bB
  have L7 : h7.blk l = some (.loop { r0 with state := .busy }) := by rw [← hh7]; exact setb_same rfl
  have k7 : Keep (fun k => k = kA ∨ k = kB ∨ k = l) h1 h7 := by rw [← hh7]; exact (Keep.refl _ h1).setb (.inr (.inr rfl))
  have log7 : h7.log = [] := by rw [← hh7]; exact S.log
  have mark7 : h7.mark = g0.mark := by rw [← hh7]; exact S.mark
  have n7 : h7.next = h1.next := by rw [← hh7]; rfl
  have mA : h7.mark ≤ kA := by rw [mark7]; exact om
  have xA : h7.cell E (own kA) = some (.int .i64 c) := blk_cell0 A7 rfl
  have sA := st3 (i := IntKind.i64.wrap (c + 1)) A7 mA
  generalize hh8 : h7.setb kA (.cells [.int .i64 (IntKind.i64.wrap (c + 1))] 3 none) = h8 at sA
  have f8 : Fit h8 := by rw [← hh8]; exact f7.setb rfl (by omega)
  have A8 : h8.blk kA = some (.cells [.int .i64 (IntKind.i64.wrap (c + 1))] 3 none) := by rw [← hh8]; exact setb_same rfl
  have B8 : h8.blk kB = some (.cells [.int .i64 m] 3 none) := by rw [← hh8, setb_ne (by omega)]; exact B7
  have L8 : h8.blk l = some (.loop { r0 with state := .busy }) := by rw [← hh8, setb_ne (by omega)]; exact L7
  have k8 : Keep (fun k => k = kA ∨ k = kB ∨ k = l) h1 h8 := by rw [← hh8]; exact k7.setb (.inl rfl)
  have log8 : h8.log = [] := by rw [← hh8]; exact log7
  have mark8 : h8.mark = g0.mark := by rw [← hh8]; exact mark7
  have n8 : h8.next = h1.next := by rw [← hh8]; exact n7
  have xB : h8.cell E (own kB) = some (.int .i64 m) := blk_cell0 B8 rfl
  have sB := st3 (i := if lv > m then lv else m) B8 (by omega)
  have hmx : amin (fun x y => if y > x then y else x) [.int .i64 m, .int .i64 lv] = some (.int .i64 (if lv > m then lv else m)) := rfl
  have hbod : r0.body = bod32 := by rw [← hr0]
  have hfn0 : r0.fn = 32 := by rw [← hr0]
  rw [hbod, hfn0]
  simp only [bod32, rangeOf, firstRange, Option.getD, Tryd.f32]
  repeat' (first
    | (with_reducible apply Wc.seq)
    | (refine Wc.ops (by repeat' (first
      | with_reducible exact RO.nil
      | ((with_reducible apply RO.run (awant_none rfl)); (focus ((first | simp (config := {decide := true}) only [awant, ayield_get, oper1, aop, opv, opvs, opvo, opvp, abuiltin, Ac.get_put, Ac.put_n, Ac.put_defers, if_true, if_false, and_true, decide_true, abin, isShift, aint, roV, pair, bind, Option.bind, acall, List.nil_append, List.append_nil, List.toList_toArray, List.getElem?_cons_zero, List.getElem?_cons_succ, Bool.not_true, Bool.not_false, nA1, u2, u3, u6, ld3, xA, sA, xB, hmx, sB] | skip); with_reducible rfl))))) ?_)
    | (refine Wc.cond2 (by simp (config := {decide := true}) only [awant, ayield_get, oper1, aop, opv, opvs, opvo, opvp, abuiltin, Ac.get_put, Ac.put_n, Ac.put_defers, if_true, if_false, and_true, decide_true, abin, isShift, aint, roV, pair, bind, Option.bind, acall, List.nil_append, List.append_nil, List.toList_toArray, List.getElem?_cons_zero, List.getElem?_cons_succ, Bool.not_true, Bool.not_false, nA1, u2, u3, u6, ld3, xA, sA, xB, hmx, sB]; try with_reducible rfl) (fun hb => ?_) (fun hb => ?_) <;> try contradiction)
    | refine Wc.skip ?_
    | refine Wc.ret ?_
    | refine Wc.exit ?_
    | refine Wc.block ?_)
  refine ⟨{ r0 with state := .busy }, by rw [setb_ne (by omega)]; exact L8, .inl ⟨rfl, rfl, ?_⟩⟩
  rw [turn_above (by show h8.mark ≤ l; rw [mark8]; omega)]
  have er : ({ r0 with state := .ready, pending := none } : LoopR) = r0 := by rw [← hr0]
  have kk := (k8.setb (k := kB) (B := .cells [.int .i64 (if lv > m then lv else m)] 3 none) (.inr (.inl rfl))).setb (k := l) (B := .loop { r0 with state := .ready, pending := none }) (.inr (.inr rfl))
  refine ⟨⟨(f8.setb rfl (by omega)).setb rfl (by show l < h8.next; omega), log8, mark8, S.keep.trans kk, ?_, ?_, ?_⟩, kk⟩
  · rw [setb_ne (by omega), setb_ne (by omega)]; exact A8
  · rw [setb_ne (by omega)]; exact setb_same rfl
  · refine (setb_same rfl).trans ?_
    show some (Blk.loop { r0 with state := .ready, pending := none }) = _
    rw [er]

def says32 (E : Env) : Says := fun s f args h v => f = 32 ∧ s = 0 ∧ ∃ t xv, args = [xv] ∧ rep E h t xv ∧ isz t ≤ 1000000 ∧ v = .tuple #[.int .i64 (szI t).1, .int .i64 (szI t).2.1, .int .i64 (szI t).2.2]
theorem one32 (E : Env) : One (says32 E) := by
  rintro s s' f args h v v' ⟨_, _, t, xv, rfl, h1, _, rfl⟩ ⟨_, _, t', xv', he, h2, _, rfl⟩
  cases he
  rw [rep_one h1 h2]
theorem shown32 (hI : ∀ f args h, (f = 32 ∨ f = 70 ∨ f = 109 ∨ f = 110) → I f args h = none) (h35 : ∀ t xv h, rep E h t xv → isz t ≤ 1000000 → I 35 [xv] h = some (some (.int .i64 (chkI t 0 1).2, h))) : ShownF tab E I (says32 E) := by
  rintro sz f args h v ⟨rfl, rfl, t, xv, rfl, hr, hz, rfl⟩ hfit
  refine ⟨rfl, ?_⟩
  obtain ⟨k, m, tx, ks⟩ := t
  obtain ⟨sb, sc, rfl, hs⟩ := rep_slice hr
  have hJ : upTo (says32 E) I 0 = I := by funext f args h; exact upTo_none (fun _ _ hs => absurd hs (Nat.not_lt_zero _))
  rw [hJ]
  suffices hw : ∃ n v h', (ev tab E I n).call 32 [.agg ⟨[.int .i64 k, .int .i64 m, .string tx, .slice sb ks.length sc]⟩] (fresh h) = some (v, h') ∧ (v = .tuple #[.int .i64 (szI (.mk k m tx ks)).1, .int .i64 (szI (.mk k m tx ks)).2.1, .int .i64 (szI (.mk k m tx ks)).2.2] ∧ h'.log = []) by
    obtain ⟨n, v, h', h1, rfl, h3⟩ := hw
    exact ⟨n, h', h1, h3⟩
  refine Wc.call (hI _ _ _ (.inl rfl)) fn32 rfl ?_
  generalize hA0 : (⟨T.ofList [.agg ⟨[.int .i64 k, .int .i64 m, .string tx, .slice sb ks.length sc]⟩] 0 .nil, max ([.agg ⟨[.int .i64 k, .int .i64 m, .string tx, .slice sb ks.length sc]⟩] : List Value).length Tryd.f32.ntmps, []⟩ : Ac) = A0
  have n0 : A0.n = 21 := by rw [← hA0]; rfl
  have g00 : A0.get 0 = .agg ⟨[.int .i64 k, .int .i64 m, .string tx, .slice sb ks.length sc]⟩ := by rw [← hA0]; rfl
  have d0 : A0.defers = [] := by rw [← hA0]
  have hl0 : (fresh h).log = [] := rfl
  have hgf : Grows h (fresh h) := fun _ _ hb => hb
  generalize hg : fresh h = g at hfit hl0 hgf
  have hmk : g.mark ≤ g.next := hfit.ok.2
  have hrg : rep E g (.mk k m tx ks) (.agg ⟨[.int .i64 k, .int .i64 m, .string tx, .slice sb ks.length sc]⟩) := rep_grow hgf hr
  generalize hh1 : g.new (.cells (Value.agg ⟨[.int .i64 k, .int .i64 m, .string tx, .slice sb ks.length sc]⟩).cells.toList 25 none) = h1
  have a1 : Ahd g h1 := by rw [← hh1]; exact Ahd.new0 hfit rfl
  have b1 : h1.blk g.next = some (.cells [.int .i64 k, .int .i64 m, .string tx, .slice sb ks.length sc] 25 none) := by rw [← hh1]; exact new_blk_new rfl
  have n1 : h1.next = g.next + 1 := by rw [← hh1]; rfl
  generalize hh2 : h1.new (.cells (Value.int .i64 0).cells.toList 3 none) = h2
  have a2 : Ahd h1 h2 := by rw [← hh2]; exact Ahd.new0 a1.fit rfl
  have b2 : h2.blk (g.next + 1) = some (.cells [.int .i64 0] 3 none) := by rw [← hh2, ← n1]; exact new_blk_new rfl
  have n2 : h2.next = g.next + 2 := by rw [← hh2]; show h1.next + 1 = _; rw [n1]
  generalize hh3 : h2.new (.cells (Value.int .i64 0).cells.toList 3 none) = h4
  have a3 : Ahd h2 h4 := by rw [← hh3]; exact Ahd.new0 a2.fit rfl
  have c3 : h4.blk (g.next + 2) = some (.cells [.int .i64 0] 3 none) := by rw [← hh3, ← n2]; exact new_blk_new rfl
  have n4 : h4.next = g.next + 3 := by rw [← hh3]; show h2.next + 1 = _; rw [n2]
  have a4 := (a1.trans a2).trans a3
  have c1 : h4.blk g.next = some (.cells [.int .i64 k, .int .i64 m, .string tx, .slice sb ks.length sc] 25 none) := a3.grows _ _ (a2.grows _ _ b1)
  have c2 : h4.blk (g.next + 1) = some (.cells [.int .i64 0] 3 none) := a3.grows _ _ b2
  have cl1 : h4.cells E (own g.next) 4 = some [.int .i64 k, .int .i64 m, .string tx, .slice sb ks.length sc] := blk_cells c1 rfl rfl
  have l4 : h4.log = [] := a4.log.trans hl0
  by_cases q : (chkI (.mk k m tx ks) 0 1).2 ≠ 0
  · have c35 : (ev tab E I 1).call 35 [.agg ⟨[.int .i64 k, .int .i64 m, .string tx, .slice sb ks.length sc]⟩] h4 = some (.int .i64 (chkI (.mk k m tx ks) 0 1).2, h4) := ev_known (h35 _ _ _ (rep_grow a4.grows hrg) hz)
    have e1 : szI (.mk k m tx ks) = (0, 0, (chkI (.mk k m tx ks) 0 1).2) := by rw [szI, if_pos q]
    have q1 : (!decide ((chkI (.mk k m tx ks) 0 1).2 = 0)) = true := by simp [q]
    have s1 := st3 (i := 0) c2 (by rw [a4.mark]; omega)
    generalize hh5 : h4.setb (g.next + 1) (.cells [.int .i64 0] 3 none) = h5 at s1
    have c5 : h5.blk (g.next + 2) = some (.cells [.int .i64 0] 3 none) := by rw [← hh5, setb_ne (by omega)]; exact c3
    have c5' : h5.blk (g.next + 1) = some (.cells [.int .i64 0] 3 none) := by rw [← hh5]; exact setb_same rfl
    have s2 := st3 (i := 0) c5 (by rw [← hh5]; show h4.mark ≤ _; rw [a4.mark]; omega)
    repeat' (first
    | (with_reducible apply Wc.seq)
    | (refine Wc.opsN 1 (by repeat' (first
      | with_reducible exact RO.nil
      | ((with_reducible apply RO.run (awant_none rfl)); (focus ((first | simp (config := {decide := true}) only [awant, ayield_get, oper1, aop, opv, opvs, opvo, opvp, abuiltin, Ac.get_put, Ac.put_n, Ac.put_defers, if_true, if_false, and_true, decide_true, abin, isShift, aint, roV, pair, bind, Option.bind, acall, List.nil_append, List.append_nil, List.toList_toArray, List.getElem?_cons_zero, List.getElem?_cons_succ, Bool.not_true, Bool.not_false, n0, d0, g00, tz3, hh1, hh2, hh3, n1, n2, ld25, cl1, c35, q1, s1, s2] | skip); with_reducible rfl))))) ?_)
    | (refine Wc.cond2 (by simp (config := {decide := true}) only [awant, ayield_get, oper1, aop, opv, opvs, opvo, opvp, abuiltin, Ac.get_put, Ac.put_n, Ac.put_defers, if_true, if_false, and_true, decide_true, abin, isShift, aint, roV, pair, bind, Option.bind, acall, List.nil_append, List.append_nil, List.toList_toArray, List.getElem?_cons_zero, List.getElem?_cons_succ, Bool.not_true, Bool.not_false, n0, d0, g00, tz3, hh1, hh2, hh3, n1, n2, ld25, cl1, c35, q1, s1, s2]; try with_reducible rfl) (fun hb => ?_) (fun hb => ?_) <;> try contradiction)
    | refine Wc.skip ?_
    | refine Wc.ret ?_
    | refine Wc.exit ?_
    | refine Wc.block ?_)
    refine done_cct (a := own (g.next + 1)) (b := own (g.next + 2)) (y := .int .i64 (chkI (.mk k m tx ks) 0 1).2) (.inr rfl) (by simp (config := {decide := true}) only [Ac.get_put, Ac.put_n, Ac.put_defers, if_true, if_false, and_true, d0]; rfl) rfl (by simp (config := {decide := true}) only [Ac.get_put, Ac.put_n, Ac.put_defers, if_true, if_false, and_true, n0]) (by simp (config := {decide := true}) only [Ac.get_put, Ac.put_n, Ac.put_defers, if_true, if_false, and_true, n0]) (by simp (config := {decide := true}) only [Ac.get_put, Ac.put_n, Ac.put_defers, if_true, if_false, and_true, n0]) (by rw [ld3]; exact blk_cell0 (by rw [setb_ne (by omega)]; exact c5') rfl) (by rw [ld3]; exact blk_cell0 (setb_same rfl) rfl) ⟨by rw [e1], ?_⟩
    rw [← hh5]; exact l4
  have q := Classical.not_not.1 q
  have q1 : (!decide ((chkI (.mk k m tx ks) 0 1).2 = 0)) = false := by simp [q]
  have hsz := chkI_size _ 0 1 q
  have e1 : szI (.mk k m tx ks) = ((chkI (.mk k m tx ks) 0 1).1, lvlI (.mk k m tx ks), 0) := by rw [szI, if_neg (fun hh => hh q)]
  obtain ⟨nf, v7, h5, hc70, rfl, hh5⟩ := call70 (E := E) (J := I) (fun args h => hI _ args h (.inr (.inl rfl))) (a := .int .i64 k) (b := .int .i64 m) (c := .string tx) (d := .slice sb ks.length sc) h4
  have hnf : ∃ nf, (ev tab E I nf).call 70 [.agg ⟨[.int .i64 k, .int .i64 m, .string tx, .slice sb ks.length sc]⟩] h4 = some (.func (.func 109) ⟨[]⟩ ⟨[.pointer (some (own (g.next + 3)))]⟩, h5) ∧ (ev tab E I nf).call 35 [.agg ⟨[.int .i64 k, .int .i64 m, .string tx, .slice sb ks.length sc]⟩] h4 = some (.int .i64 (chkI (.mk k m tx ks) 0 1).2, h4) :=
    ⟨nf + 1, by rw [← n4]; exact ev_later hc70, ev_knownS (h35 _ _ _ (rep_grow a4.grows hrg) hz)⟩
  clear hc70
  obtain ⟨nf, hc70, c35⟩ := hnf
  have a5 : Ahd h4 h5 := by rw [hh5]; exact Ahd.new0 a4.fit rfl
  have b5 : h5.blk (g.next + 3) = some (.cells [.int .i64 k, .int .i64 m, .string tx, .slice sb ks.length sc] 25 none) := by rw [hh5, ← n4]; exact new_blk_new rfl
  have n5 : h5.next = g.next + 4 := by rw [hh5]; show h4.next + 1 = _; rw [n4]
  have a05 := a4.trans a5
  repeat' (first
    | (with_reducible apply Wc.seq)
    | (refine Wc.opsN nf (by repeat' (first
      | with_reducible exact RO.nil
      | ((with_reducible apply RO.run (awant_none rfl)); (focus ((first | simp (config := {decide := true}) only [awant, ayield_get, oper1, aop, opv, opvs, opvo, opvp, abuiltin, Ac.get_put, Ac.put_n, Ac.put_defers, if_true, if_false, and_true, decide_true, abin, isShift, aint, roV, pair, bind, Option.bind, acall, List.nil_append, List.append_nil, List.toList_toArray, List.getElem?_cons_zero, List.getElem?_cons_succ, Bool.not_true, Bool.not_false, n0, d0, g00, tz3, hh1, hh2, hh3, n1, n2, ld25, cl1, c35, q1, hc70] | skip); with_reducible rfl))))) ?_)
    | (refine Wc.cond2 (by simp (config := {decide := true}) only [awant, ayield_get, oper1, aop, opv, opvs, opvo, opvp, abuiltin, Ac.get_put, Ac.put_n, Ac.put_defers, if_true, if_false, and_true, decide_true, abin, isShift, aint, roV, pair, bind, Option.bind, acall, List.nil_append, List.append_nil, List.toList_toArray, List.getElem?_cons_zero, List.getElem?_cons_succ, Bool.not_true, Bool.not_false, n0, d0, g00, tz3, hh1, hh2, hh3, n1, n2, ld25, cl1, c35, q1, hc70]; try with_reducible rfl) (fun hb => ?_) (fun hb => ?_) <;> try contradiction)
    | refine Wc.skip ?_
    | refine Wc.ret ?_
    | refine Wc.exit ?_
    | refine Wc.block ?_)
  refine Wc.forget (fun A => A.n = 21 ∧ A.defers = [] ∧ A.get 2 = .pointer (some (own (g.next + 1))) ∧ A.get 3 = .pointer (some (own (g.next + 2))) ∧ A.get 4 = .int .i64 0 ∧ A.get 13 = .func (.func 109) ⟨[]⟩ ⟨[.pointer (some (own (g.next + 3)))]⟩) ⟨by simp (config := {decide := true}) only [Ac.get_put, Ac.put_n, Ac.put_defers, if_true, if_false, and_true, n0], by simp (config := {decide := true}) only [Ac.get_put, Ac.put_n, Ac.put_defers, if_true, if_false, and_true, d0], by simp (config := {decide := true}) only [Ac.get_put, Ac.put_n, Ac.put_defers, if_true, if_false, and_true, n0], by simp (config := {decide := true}) only [Ac.get_put, Ac.put_n, Ac.put_defers, if_true, if_false, and_true, n0], by simp (config := {decide := true}) only [Ac.get_put, Ac.put_n, Ac.put_defers, if_true, if_false, and_true, n0], by simp (config := {decide := true}) only [Ac.get_put, Ac.put_n, Ac.put_defers, if_true, if_false, and_true, n0]⟩ ?_
  clear hA0 n0 g00 d0
  rintro A ⟨nA, dA, p2, p3, p4, p13⟩
  -- the loop
  generalize hr0 : (⟨.ready, none, 32, A.tmps, A.n, #[14, 15], asg32, bod32, g.next + 4⟩ : LoopR) = r0
  have fr0 : r0.state = .ready ∧ r0.pending = none := by rw [← hr0]; exact ⟨rfl, rfl⟩
  generalize hh6 : h5.new (.defd false) = h6
  have a6 : Ahd h5 h6 := by rw [← hh6]; exact Ahd.new0 a5.fit rfl
  have b6 : h6.blk (g.next + 4) = some (.defd false) := by rw [← hh6, ← n5]; exact new_blk_new rfl
  have n6 : h6.next = g.next + 5 := by rw [← hh6]; show h5.next + 1 = _; rw [n5]
  generalize hh7 : h6.new (.loop r0) = h7
  have a7 : Ahd h6 h7 := by rw [← hh7]; exact Ahd.new0 a6.fit rfl
  have b7 : h7.blk (g.next + 5) = some (.loop r0) := by rw [← hh7, ← n6]; exact new_blk_new rfl
  have n7 : h7.next = g.next + 6 := by rw [← hh7]; show h6.next + 1 = _; rw [n6]
  have a57 := a6.trans a7
  have a07 := a05.trans a57
  have m7 : h7.mark = g.mark := a07.mark
  have S7 : St32 h7 (g.next + 1) (g.next + 2) (g.next + 5) r0 (0, 0) h7 :=
    ⟨a7.fit, a07.log.trans hl0, rfl, Keep.refl _ _, a57.grows _ _ (a5.grows _ _ c2), a57.grows _ _ (a5.grows _ _ c3), b7⟩
  have hround := @round32 E I h7 (g.next + 1) (g.next + 2) (g.next + 5) (g.next + 4) (by omega) (by omega) (by rw [m7]; omega) A nA p2 p3
  rw [hr0] at hround
  have V : Vis E I stepW g (g.next + 5) h7.next (h7.next + 1) (fun k => k = g.next + 1 ∨ k = g.next + 2 ∨ k = g.next + 5)
      (fun _ s g' => St32 h7 (g.next + 1) (g.next + 2) (g.next + 5) r0 s g' ∧ (g'.blk h7.next = some (.cells [.func (.yield (g.next + 5)) ⟨[]⟩ ⟨[]⟩] 163 none) ∧ g'.blk (h7.next + 1) = some (.cells [.func (.func 110) ⟨[]⟩ ⟨[.pointer (some (own h7.next)), .pointer (some (own (h7.next + 1)))]⟩] 163 none))) := by
    have hM : ∀ k, h7.next ≤ k → ¬ (k = g.next + 1 ∨ k = g.next + 2 ∨ k = g.next + 5) := fun k hk => by rw [n7] at hk; omega
    refine ⟨fun S => S.1.fit, fun S k B hb => ?_, fun S => S.2.1, fun S => S.2.2, fun S a => ⟨S.1.ahd a, ⟨a.grows _ _ S.2.1, a.grows _ _ S.2.2⟩⟩, fun S k hk => hM k (Nat.le_trans S.1.keep.next hk), ?_⟩
    · have hlt := hfit.lt hb
      exact S.1.keep.blk k B (by omega) (a07.grows _ _ hb)
    · intro s g' lv t xv S hlv hlv2 hr
      obtain ⟨n, v, g'', e1, e2, e3, e4⟩ := hround S.1 (lv := lv) (t := t) (xv := xv)
      exact ⟨n, v, g'', e1, e2, ⟨e3, ⟨e4.blk _ _ (hM _ (Nat.le_refl _)) S.2.1, e4.blk _ _ (hM _ (Nat.le_succ _)) S.2.2⟩⟩, e4⟩
  obtain ⟨nc, vc, g8, hc109, rfl, ⟨S8, _⟩, kp⟩ := call109 (fun f args h hf => hI f args h (by rcases hf with h | h <;> simp [h])) V a7.fit (.mk k m tx ks) rfl (a57.grows _ _ b5) hrg hz (0, 0) (fun g' a q1 q2 => ⟨S7.ahd a, ⟨q1, q2⟩⟩)
  have hvis : (visit stepW 1 (.mk k m tx ks) (0, 0)).1 = ((chkI (.mk k m tx ks) 0 1).1, lvlI (.mk k m tx ks)) := by
    rw [visitW _ _ _ _ (Int.le_refl _) (by omega), visitS, hsz]
    have := lvlI_bound (.mk k m tx ks)
    simp only [Prod.mk.injEq]
    refine ⟨trivial, by omega⟩
  rw [hvis] at S8
  have hacall : acall (ev tab E I nc) (.func (.func 109) ⟨[]⟩ ⟨[.pointer (some (own (g.next + 3)))]⟩) [.func (.yield (h5.next + 1)) #[] #[]] ((h5.new (.defd false)).new (.loop ⟨.ready, none, 32, A.tmps, A.n, #[14, 15], asg32, bod32, h5.next⟩)) = some (.tuple #[], g8) := by
    rw [n5, hr0, hh6, hh7]
    exact hc109
  have hopv : opv A (.tmp 13) = some (.func (.func 109) ⟨[]⟩ ⟨[.pointer (some (own (g.next + 3)))]⟩) := by simp only [opv, p13]
  have m8 : g8.mark ≤ g.next := by rw [S8.mark, m7]; exact hmk
  have d8 : g8.blk (g.next + 4) = some (.defd false) := kp.blk _ _ (by omega) (a7.grows _ _ b6)
  have x8 : g.next + 6 ≤ g8.next := by rw [← n7]; exact kp.next
  have bl8 := S8.bl
  refine Wc.range nc hopv hacall (r := r0) (by rw [n5]; exact bl8) (by rw [fr0.1]; decide) ?_
  simp only [fr0.2]
  rw [turn_above (by rw [n5]; omega), n5]
  generalize hh9 : g8.setb (g.next + 4 + 1) (.loop { r0 with state := .exhausted, pending := none }) = g9
  have A9 : g9.blk (g.next + 1) = some (.cells [.int .i64 (chkI (.mk k m tx ks) 0 1).1] 3 none) := by rw [← hh9, setb_ne (by omega)]; exact S8.bA
  have B9 : g9.blk (g.next + 2) = some (.cells [.int .i64 (lvlI (.mk k m tx ks))] 3 none) := by rw [← hh9, setb_ne (by omega)]; exact S8.bB
  have D9 : g9.blk (g.next + 4) = some (.defd false) := by rw [← hh9, setb_ne (by omega)]; exact d8
  have m9 : g9.mark ≤ g.next := by rw [← hh9]; exact m8
  have l9 : g9.log = [] := by rw [← hh9]; exact S8.log
  have q2 : ∀ ds i, (⟨A.tmps, A.n, ds⟩ : Ac).get i = A.get i := fun _ _ => rfl
  refine Wc.ret ?_
  refine done_cct (h2 := g9.setb (g.next + 4) (.defd true)) (a := own (g.next + 1)) (b := own (g.next + 2)) (.inr rfl) ?_ rfl ((q2 _ _).trans p2) ((q2 _ _).trans p3) ((q2 _ _).trans p4) (by rw [ld3]; exact blk_cell0 (by rw [setb_ne (by omega)]; exact A9) rfl) (by rw [ld3]; exact blk_cell0 (by rw [setb_ne (by omega)]; exact B9) rfl) ⟨by rw [e1], l9⟩
  show takeAll ((g.next + 4) :: A.defers) g9 = _
  rw [dA]
  exact take_one D9 (by omega)
end Go.Proofs.YtofijpbmbmbnhaaDoor
/- Small functions that compare. -/
set_option maxRecDepth 100000
set_option maxHeartbeats 4000000
namespace Go.Proofs.YtofijpbmbmbnhaaDoor
open Go Go.Hs Go.Proofs
variable {E : Env} {I : Known}

theorem fn104 : tab.fn.get 104 = some Tryd.f104 := by kernel_rfl
theorem fn105 : tab.fn.get 105 = some Tryd.f105 := by kernel_rfl
theorem fn106 : tab.fn.get 106 = some Tryd.f106 := by kernel_rfl
theorem fn125 : tab.fn.get 125 = some Tryd.f125 := by kernel_rfl
theorem fn126 : tab.fn.get 126 = some Tryd.f126 := by kernel_rfl

theorem same {D : Tab} {E : Env} {I : Known} {f : FuncId} {args : List Value} {h : H} {x : Value} (w : ∃ n v h', (ev D E I n).call f args h = some (v, h') ∧ (v = x ∧ h' = h)) : ∃ n, (ev D E I n).call f args h = some (x, h) := by
  obtain ⟨n, v, h', h1, rfl, rfl⟩ := w
  exact ⟨n, h1⟩

theorem call125 (hI : ∀ args h, I 125 args h = none) (a : Int) (h : H) : ∃ n, (ev tab E I n).call 125 [.int .i64 a] h = some (.bool false, h) := by
  apply same
  refine Wc.call (hI _ _) fn125 rfl ?_
  generalize hA0 : (⟨T.ofList [.int .i64 a] 0 .nil, max ([.int .i64 a] : List Value).length Tryd.f125.ntmps, []⟩ : Ac) = A0
  have n0 : A0.n = 6 := by rw [← hA0]; rfl
  have g00 : A0.get 0 = .int .i64 a := by rw [← hA0]; rfl
  have d0 : A0.defers = [] := by rw [← hA0]
  repeat' (first
    | (with_reducible apply Wc.seq)
    | (refine Wc.ops (by repeat' (first
      | with_reducible exact RO.nil
      | ((with_reducible apply RO.run (awant_none rfl)); (focus ((first | simp (config := {decide := true}) only [awant, ayield_get, oper1, aop, opv, opvs, opvo, opvp, abuiltin, Ac.get_put, Ac.put_n, Ac.put_defers, if_true, if_false, and_true, decide_true, abin, isShift, aint, roV, pair, bind, Option.bind, acall, List.nil_append, List.append_nil, List.toList_toArray, List.getElem?_cons_zero, List.getElem?_cons_succ, Bool.not_true, Bool.not_false, n0, d0, g00] | skip); with_reducible rfl))))) ?_)
    | (refine Wc.cond2 (by simp (config := {decide := true}) only [awant, ayield_get, oper1, aop, opv, opvs, opvo, opvp, abuiltin, Ac.get_put, Ac.put_n, Ac.put_defers, if_true, if_false, and_true, decide_true, abin, isShift, aint, roV, pair, bind, Option.bind, acall, List.nil_append, List.append_nil, List.toList_toArray, List.getElem?_cons_zero, List.getElem?_cons_succ, Bool.not_true, Bool.not_false, n0, d0, g00]; try with_reducible rfl) (fun hb => ?_) (fun hb => ?_) <;> try contradiction)
    | refine Wc.skip ?_
    | refine Wc.ret ?_
    | refine Wc.exit ?_
    | refine Wc.block ?_)
  exact done_q (v := .bool false) (.inr rfl) (by simp (config := {decide := true}) only [Ac.get_put, Ac.put_n, Ac.put_defers, if_true, if_false, and_true, d0]) rfl (by simp (config := {decide := true}) only [Ac.get_put, Ac.put_n, Ac.put_defers, if_true, if_false, and_true, n0]) ⟨rfl, rfl⟩

theorem call105 (hI : ∀ f args h, (f = 125 ∨ f = 105) → I f args h = none) (a b : Int) (h : H) : ∃ n, (ev tab E I n).call 105 [.int .i64 a, .int .i64 b] h = some (.int .i64 (cmpN a b), h) := by
  apply same
  obtain ⟨na, ca⟩ := call125 (E := E) (I := I) (fun args h => hI _ args h (.inl rfl)) a h
  obtain ⟨nb, cb⟩ := call125 (E := E) (I := I) (fun args h => hI _ args h (.inl rfl)) b h
  have ca := (ev_mono I (Nat.le_max_left na nb)).call ca
  have cb := (ev_mono I (Nat.le_max_right na nb)).call cb
  generalize max na nb = nf at ca cb
  refine Wc.call (hI _ _ _ (.inr rfl)) fn105 rfl ?_
  generalize hA0 : (⟨T.ofList [.int .i64 a, .int .i64 b] 0 .nil, max ([.int .i64 a, .int .i64 b] : List Value).length Tryd.f105.ntmps, []⟩ : Ac) = A0
  have n0 : A0.n = 20 := by rw [← hA0]; rfl
  have g00 : A0.get 0 = .int .i64 a := by rw [← hA0]; rfl
  have g01 : A0.get 1 = .int .i64 b := by rw [← hA0]; rfl
  have d0 : A0.defers = [] := by rw [← hA0]
  by_cases q1 : a < b
  · have d1 : decide (a < b) = true := by simpa using q1
    have e : cmpN a b = -1 := by unfold cmpN; rw [if_pos q1]
    repeat' (first
    | (with_reducible apply Wc.seq)
    | (refine Wc.opsN nf (by repeat' (first
      | with_reducible exact RO.nil
      | ((with_reducible apply RO.run (awant_none rfl)); (focus ((first | simp (config := {decide := true}) only [awant, ayield_get, oper1, aop, opv, opvs, opvo, opvp, abuiltin, Ac.get_put, Ac.put_n, Ac.put_defers, if_true, if_false, and_true, decide_true, abin, isShift, aint, roV, pair, bind, Option.bind, acall, List.nil_append, List.append_nil, List.toList_toArray, List.getElem?_cons_zero, List.getElem?_cons_succ, Bool.not_true, Bool.not_false, n0, d0, g00, g01, ca, cb, d1] | skip); with_reducible rfl))))) ?_)
    | (refine Wc.cond2 (by simp (config := {decide := true}) only [awant, ayield_get, oper1, aop, opv, opvs, opvo, opvp, abuiltin, Ac.get_put, Ac.put_n, Ac.put_defers, if_true, if_false, and_true, decide_true, abin, isShift, aint, roV, pair, bind, Option.bind, acall, List.nil_append, List.append_nil, List.toList_toArray, List.getElem?_cons_zero, List.getElem?_cons_succ, Bool.not_true, Bool.not_false, n0, d0, g00, g01, ca, cb, d1]; try with_reducible rfl) (fun hb => ?_) (fun hb => ?_) <;> try contradiction)
    | refine Wc.skip ?_
    | refine Wc.ret ?_
    | refine Wc.exit ?_
    | refine Wc.block ?_)
    exact done_q (v := .int .i64 (-1)) (.inr rfl) (by simp (config := {decide := true}) only [Ac.get_put, Ac.put_n, Ac.put_defers, if_true, if_false, and_true, d0]) rfl (by simp (config := {decide := true}) only [Ac.get_put, Ac.put_n, Ac.put_defers, if_true, if_false, and_true, n0]) ⟨by rw [e], rfl⟩
  · have d1 : decide (a < b) = false := by simpa using q1
    by_cases q2 : a > b
    · have d2 : decide (a > b) = true := by simpa using q2
      have e : cmpN a b = 1 := by unfold cmpN; rw [if_neg q1, if_pos q2]
      repeat' (first
    | (with_reducible apply Wc.seq)
    | (refine Wc.opsN nf (by repeat' (first
      | with_reducible exact RO.nil
      | ((with_reducible apply RO.run (awant_none rfl)); (focus ((first | simp (config := {decide := true}) only [awant, ayield_get, oper1, aop, opv, opvs, opvo, opvp, abuiltin, Ac.get_put, Ac.put_n, Ac.put_defers, if_true, if_false, and_true, decide_true, abin, isShift, aint, roV, pair, bind, Option.bind, acall, List.nil_append, List.append_nil, List.toList_toArray, List.getElem?_cons_zero, List.getElem?_cons_succ, Bool.not_true, Bool.not_false, n0, d0, g00, g01, ca, cb, d1, d2] | skip); with_reducible rfl))))) ?_)
    | (refine Wc.cond2 (by simp (config := {decide := true}) only [awant, ayield_get, oper1, aop, opv, opvs, opvo, opvp, abuiltin, Ac.get_put, Ac.put_n, Ac.put_defers, if_true, if_false, and_true, decide_true, abin, isShift, aint, roV, pair, bind, Option.bind, acall, List.nil_append, List.append_nil, List.toList_toArray, List.getElem?_cons_zero, List.getElem?_cons_succ, Bool.not_true, Bool.not_false, n0, d0, g00, g01, ca, cb, d1, d2]; try with_reducible rfl) (fun hb => ?_) (fun hb => ?_) <;> try contradiction)
    | refine Wc.skip ?_
    | refine Wc.ret ?_
    | refine Wc.exit ?_
    | refine Wc.block ?_)
      exact done_q (v := .int .i64 1) (.inr rfl) (by simp (config := {decide := true}) only [Ac.get_put, Ac.put_n, Ac.put_defers, if_true, if_false, and_true, d0]) rfl (by simp (config := {decide := true}) only [Ac.get_put, Ac.put_n, Ac.put_defers, if_true, if_false, and_true, n0]) ⟨by rw [e], rfl⟩
    · have d2 : decide (a > b) = false := by simpa using q2
      have e : cmpN a b = 0 := by unfold cmpN; rw [if_neg q1, if_neg q2]
      repeat' (first
    | (with_reducible apply Wc.seq)
    | (refine Wc.opsN nf (by repeat' (first
      | with_reducible exact RO.nil
      | ((with_reducible apply RO.run (awant_none rfl)); (focus ((first | simp (config := {decide := true}) only [awant, ayield_get, oper1, aop, opv, opvs, opvo, opvp, abuiltin, Ac.get_put, Ac.put_n, Ac.put_defers, if_true, if_false, and_true, decide_true, abin, isShift, aint, roV, pair, bind, Option.bind, acall, List.nil_append, List.append_nil, List.toList_toArray, List.getElem?_cons_zero, List.getElem?_cons_succ, Bool.not_true, Bool.not_false, n0, d0, g00, g01, ca, cb, d1, d2] | skip); with_reducible rfl))))) ?_)
    | (refine Wc.cond2 (by simp (config := {decide := true}) only [awant, ayield_get, oper1, aop, opv, opvs, opvo, opvp, abuiltin, Ac.get_put, Ac.put_n, Ac.put_defers, if_true, if_false, and_true, decide_true, abin, isShift, aint, roV, pair, bind, Option.bind, acall, List.nil_append, List.append_nil, List.toList_toArray, List.getElem?_cons_zero, List.getElem?_cons_succ, Bool.not_true, Bool.not_false, n0, d0, g00, g01, ca, cb, d1, d2]; try with_reducible rfl) (fun hb => ?_) (fun hb => ?_) <;> try contradiction)
    | refine Wc.skip ?_
    | refine Wc.ret ?_
    | refine Wc.exit ?_
    | refine Wc.block ?_)
      exact done_q (v := .int .i64 0) (.inr rfl) (by simp (config := {decide := true}) only [Ac.get_put, Ac.put_n, Ac.put_defers, if_true, if_false, and_true, d0]) rfl (by simp (config := {decide := true}) only [Ac.get_put, Ac.put_n, Ac.put_defers, if_true, if_false, and_true, n0]) ⟨by rw [e], rfl⟩

theorem call126 (hI : ∀ args h, I 126 args h = none) (h130 : ∀ a b h, I 130 [.string a, .string b] h = some (some (.int .i64 (cmpL a.data.toList b.data.toList), h))) (a b : ByteArray) (h : H) : ∃ n, (ev tab E I n).call 126 [.string a, .string b] h = some (.int .i64 (cmpL a.data.toList b.data.toList), h) := by
  apply same
  refine Wc.call (hI _ _) fn126 rfl ?_
  generalize hA0 : (⟨T.ofList [.string a, .string b] 0 .nil, max ([.string a, .string b] : List Value).length Tryd.f126.ntmps, []⟩ : Ac) = A0
  have n0 : A0.n = 8 := by rw [← hA0]; rfl
  have g00 : A0.get 0 = .string a := by rw [← hA0]; rfl
  have g01 : A0.get 1 = .string b := by rw [← hA0]; rfl
  have d0 : A0.defers = [] := by rw [← hA0]
  have c130 : (ev tab E I 1).call 130 [.string a, .string b] h = some (.int .i64 (cmpL a.data.toList b.data.toList), h) := ev_known (h130 a b h)
  repeat' (first
    | (with_reducible apply Wc.seq)
    | (refine Wc.opsN 1 (by repeat' (first
      | with_reducible exact RO.nil
      | ((with_reducible apply RO.run (awant_none rfl)); (focus ((first | simp (config := {decide := true}) only [awant, ayield_get, oper1, aop, opv, opvs, opvo, opvp, abuiltin, Ac.get_put, Ac.put_n, Ac.put_defers, if_true, if_false, and_true, decide_true, abin, isShift, aint, roV, pair, bind, Option.bind, acall, List.nil_append, List.append_nil, List.toList_toArray, List.getElem?_cons_zero, List.getElem?_cons_succ, Bool.not_true, Bool.not_false, n0, d0, g00, g01, c130] | skip); with_reducible rfl))))) ?_)
    | (refine Wc.cond2 (by simp (config := {decide := true}) only [awant, ayield_get, oper1, aop, opv, opvs, opvo, opvp, abuiltin, Ac.get_put, Ac.put_n, Ac.put_defers, if_true, if_false, and_true, decide_true, abin, isShift, aint, roV, pair, bind, Option.bind, acall, List.nil_append, List.append_nil, List.toList_toArray, List.getElem?_cons_zero, List.getElem?_cons_succ, Bool.not_true, Bool.not_false, n0, d0, g00, g01, c130]; try with_reducible rfl) (fun hb => ?_) (fun hb => ?_) <;> try contradiction)
    | refine Wc.skip ?_
    | refine Wc.ret ?_
    | refine Wc.exit ?_
    | refine Wc.block ?_)
  exact done_q (v := .int .i64 (cmpL a.data.toList b.data.toList)) (.inr rfl) (by simp (config := {decide := true}) only [Ac.get_put, Ac.put_n, Ac.put_defers, if_true, if_false, and_true, d0]) rfl (by simp (config := {decide := true}) only [Ac.get_put, Ac.put_n, Ac.put_defers, if_true, if_false, and_true, n0]) ⟨rfl, rfl⟩

theorem call106 (hI : ∀ f args h, (f = 106 ∨ f = 126) → I f args h = none) (h130 : ∀ a b h, I 130 [.string a, .string b] h = some (some (.int .i64 (cmpL a.data.toList b.data.toList), h))) (a b : ByteArray) (h : H) : ∃ n, (ev tab E I n).call 106 [.string a, .string b] h = some (.int .i64 (cmpL a.data.toList b.data.toList), h) := by
  apply same
  obtain ⟨nf, c126⟩ := call126 (E := E) (I := I) (fun args h => hI _ args h (.inr rfl)) h130 a b h
  refine Wc.call (hI _ _ _ (.inl rfl)) fn106 rfl ?_
  generalize hA0 : (⟨T.ofList [.string a, .string b] 0 .nil, max ([.string a, .string b] : List Value).length Tryd.f106.ntmps, []⟩ : Ac) = A0
  have n0 : A0.n = 8 := by rw [← hA0]; rfl
  have g00 : A0.get 0 = .string a := by rw [← hA0]; rfl
  have g01 : A0.get 1 = .string b := by rw [← hA0]; rfl
  have d0 : A0.defers = [] := by rw [← hA0]
  repeat' (first
    | (with_reducible apply Wc.seq)
    | (refine Wc.opsN nf (by repeat' (first
      | with_reducible exact RO.nil
      | ((with_reducible apply RO.run (awant_none rfl)); (focus ((first | simp (config := {decide := true}) only [awant, ayield_get, oper1, aop, opv, opvs, opvo, opvp, abuiltin, Ac.get_put, Ac.put_n, Ac.put_defers, if_true, if_false, and_true, decide_true, abin, isShift, aint, roV, pair, bind, Option.bind, acall, List.nil_append, List.append_nil, List.toList_toArray, List.getElem?_cons_zero, List.getElem?_cons_succ, Bool.not_true, Bool.not_false, n0, d0, g00, g01, c126] | skip); with_reducible rfl))))) ?_)
    | (refine Wc.cond2 (by simp (config := {decide := true}) only [awant, ayield_get, oper1, aop, opv, opvs, opvo, opvp, abuiltin, Ac.get_put, Ac.put_n, Ac.put_defers, if_true, if_false, and_true, decide_true, abin, isShift, aint, roV, pair, bind, Option.bind, acall, List.nil_append, List.append_nil, List.toList_toArray, List.getElem?_cons_zero, List.getElem?_cons_succ, Bool.not_true, Bool.not_false, n0, d0, g00, g01, c126]; try with_reducible rfl) (fun hb => ?_) (fun hb => ?_) <;> try contradiction)
    | refine Wc.skip ?_
    | refine Wc.ret ?_
    | refine Wc.exit ?_
    | refine Wc.block ?_)
  exact done_q (v := .int .i64 (cmpL a.data.toList b.data.toList)) (.inr rfl) (by simp (config := {decide := true}) only [Ac.get_put, Ac.put_n, Ac.put_defers, if_true, if_false, and_true, d0]) rfl (by simp (config := {decide := true}) only [Ac.get_put, Ac.put_n, Ac.put_defers, if_true, if_false, and_true, n0]) ⟨rfl, rfl⟩

noncomputable def loop104 : Code := loopOf Tryd.f104
theorem call104 (hI : ∀ args h, I 104 args h = none) (l : List Int) (hl : l.length ≤ 1000) {k : Nat} {rt : Option (Nat × Nat)} {h : H} (hb : h.blk k = some (.cells (l.map (Value.int .i64)) 3 rt)) : ∃ n, (ev tab E I n).call 104 [.slice (some (own k)) l.length l.length] h = some (.int .i64 (orL l), h) := by
  apply same
  refine Wc.call (hI _ _) fn104 rfl ?_
  generalize hA0 : (⟨T.ofList [.slice (some (own k)) l.length l.length] 0 .nil, max ([.slice (some (own k)) l.length l.length] : List Value).length Tryd.f104.ntmps, []⟩ : Ac) = A0
  have n0 : A0.n = 18 := by rw [← hA0]; rfl
  have g00 : A0.get 0 = .slice (some (own k)) l.length l.length := by rw [← hA0]; rfl
  have d0 : A0.defers = [] := by rw [← hA0]
  have key : ∀ (r i : Nat) (A : Ac), r = l.length - i → i ≤ l.length → A.n = 18 → A.defers = [] → A.get 3 = .int .i64 0 → A.get 6 = .slice (some (own k)) l.length l.length → A.get 7 = .int .i64 (l.length : Nat) → A.get 8 = .int .i64 (i : Nat) →
      Wc tab E I ⟨104, none⟩ (.loop loop104) A h (fun ex A' h' => h' = h ∧ A'.n = 18 ∧ A'.defers = [] ∧ ((ex = .exit 0 ∧ A'.get 3 = .int .i64 0 ∧ orL (l.drop i) = 0) ∨ (ex = .ret ∧ A'.get 2 = .int .i64 (orL (l.drop i))))) := by
    intro r
    induction r with
    | zero =>
      intro i A hr' hi nA dA p3 p6 p7 p8
      have hil : i = l.length := by omega
      have hlt : decide ((i : Int) < (l.length : Int)) = false := by simp; omega
      apply Wc.loop
      simp only [loop104, loopOf, firstLoop, Option.getD, Tryd.f104]
      repeat' (first
    | (with_reducible apply Wc.seq)
    | (refine Wc.ops (by repeat' (first
      | with_reducible exact RO.nil
      | ((with_reducible apply RO.run (awant_none rfl)); (focus ((first | simp (config := {decide := true}) only [awant, ayield_get, oper1, aop, opv, opvs, opvo, opvp, abuiltin, Ac.get_put, Ac.put_n, Ac.put_defers, if_true, if_false, and_true, decide_true, abin, isShift, aint, roV, pair, bind, Option.bind, acall, List.nil_append, List.append_nil, List.toList_toArray, List.getElem?_cons_zero, List.getElem?_cons_succ, Bool.not_true, Bool.not_false, nA, p3, p6, p7, p8, hlt] | skip); with_reducible rfl))))) ?_)
    | (refine Wc.cond2 (by simp (config := {decide := true}) only [awant, ayield_get, oper1, aop, opv, opvs, opvo, opvp, abuiltin, Ac.get_put, Ac.put_n, Ac.put_defers, if_true, if_false, and_true, decide_true, abin, isShift, aint, roV, pair, bind, Option.bind, acall, List.nil_append, List.append_nil, List.toList_toArray, List.getElem?_cons_zero, List.getElem?_cons_succ, Bool.not_true, Bool.not_false, nA, p3, p6, p7, p8, hlt]; try with_reducible rfl) (fun hb => ?_) (fun hb => ?_) <;> try contradiction)
    | refine Wc.skip ?_
    | refine Wc.ret ?_
    | refine Wc.exit ?_
    | refine Wc.block ?_)
      refine ⟨rfl, by simp (config := {decide := true}) only [Ac.get_put, Ac.put_n, Ac.put_defers, if_true, if_false, and_true, nA], by simp (config := {decide := true}) only [Ac.get_put, Ac.put_n, Ac.put_defers, if_true, if_false, and_true, dA], .inl ⟨rfl, by simp (config := {decide := true}) only [Ac.get_put, Ac.put_n, Ac.put_defers, if_true, if_false, and_true, nA, p3], ?_⟩⟩
      rw [hil, List.drop_length, orL]
    | succ r ih =>
      intro i A hr' hi nA dA p3 p6 p7 p8
      have hil : i < l.length := by omega
      have hlt : decide ((i : Int) < (l.length : Int)) = true := by simp; omega
      have hd : l.drop i = l[i] :: l.drop (i + 1) := List.drop_eq_getElem_cons hil
      have w3 : IntKind.i64.wrap ((i : Int) + 1) = (i : Int) + 1 := wrap64 (by omega) (by omega)
      have hir : inRange (i : Int) l.length = true := by
        show Nat.blt i l.length = true
        rw [Nat.blt_eq]; exact hil
      have hc : h.cell E (aadd (own k) (i * 1)) = some (.int .i64 l[i]) := blk_cell hb (by rw [Nat.mul_one, List.getElem?_map, List.getElem?_eq_getElem hil]; rfl) rfl
      by_cases q : l[i] = 0
      · have dq : (!decide (l[i] = 0)) = false := by simp [q]
        apply Wc.loop
        simp only [loop104, loopOf, firstLoop, Option.getD, Tryd.f104]
        repeat' (first
    | (with_reducible apply Wc.seq)
    | (refine Wc.ops (by repeat' (first
      | with_reducible exact RO.nil
      | ((with_reducible apply RO.run (awant_none rfl)); (focus ((first | simp (config := {decide := true}) only [awant, ayield_get, oper1, aop, opv, opvs, opvo, opvp, abuiltin, Ac.get_put, Ac.put_n, Ac.put_defers, if_true, if_false, and_true, decide_true, abin, isShift, aint, roV, pair, bind, Option.bind, acall, List.nil_append, List.append_nil, List.toList_toArray, List.getElem?_cons_zero, List.getElem?_cons_succ, Bool.not_true, Bool.not_false, nA, p3, p6, p7, p8, hlt, ia53 _ _ _ _ hir, Int.toNat_natCast, ld3, hc, dq, w3] | skip); with_reducible rfl))))) ?_)
    | (refine Wc.cond2 (by simp (config := {decide := true}) only [awant, ayield_get, oper1, aop, opv, opvs, opvo, opvp, abuiltin, Ac.get_put, Ac.put_n, Ac.put_defers, if_true, if_false, and_true, decide_true, abin, isShift, aint, roV, pair, bind, Option.bind, acall, List.nil_append, List.append_nil, List.toList_toArray, List.getElem?_cons_zero, List.getElem?_cons_succ, Bool.not_true, Bool.not_false, nA, p3, p6, p7, p8, hlt, ia53 _ _ _ _ hir, Int.toNat_natCast, ld3, hc, dq, w3]; try with_reducible rfl) (fun hb => ?_) (fun hb => ?_) <;> try contradiction)
    | refine Wc.skip ?_
    | refine Wc.ret ?_
    | refine Wc.exit ?_
    | refine Wc.block ?_)
        refine (ih (i + 1) _ (by omega) (by omega) ?_ ?_ ?_ ?_ ?_ ?_).mono ?_
        · simp (config := {decide := true}) only [Ac.get_put, Ac.put_n, Ac.put_defers, if_true, if_false, and_true, nA]
        · simp (config := {decide := true}) only [Ac.get_put, Ac.put_n, Ac.put_defers, if_true, if_false, and_true, dA]
        · simp (config := {decide := true}) only [Ac.get_put, Ac.put_n, Ac.put_defers, if_true, if_false, and_true, nA, p3]
        · simp (config := {decide := true}) only [Ac.get_put, Ac.put_n, Ac.put_defers, if_true, if_false, and_true, nA, p6]
        · simp (config := {decide := true}) only [Ac.get_put, Ac.put_n, Ac.put_defers, if_true, if_false, and_true, nA, p7]
        · simp (config := {decide := true}) only [Ac.get_put, Ac.put_n, Ac.put_defers, if_true, if_false, and_true, nA]
          rfl
        · rintro ex A' h' ⟨rfl, e1, e2, ⟨rfl, e3, e4⟩ | ⟨rfl, e3⟩⟩
          · exact ⟨rfl, e1, e2, .inl ⟨rfl, e3, by rw [hd, orL, if_neg (by simpa using q)]; exact e4⟩⟩
          · exact ⟨rfl, e1, e2, .inr ⟨rfl, by rw [hd, orL, if_neg (by simpa using q)]; exact e3⟩⟩
      · have dq : (!decide (l[i] = 0)) = true := by simp [q]
        apply Wc.loop
        simp only [loop104, loopOf, firstLoop, Option.getD, Tryd.f104]
        repeat' (first
    | (with_reducible apply Wc.seq)
    | (refine Wc.ops (by repeat' (first
      | with_reducible exact RO.nil
      | ((with_reducible apply RO.run (awant_none rfl)); (focus ((first | simp (config := {decide := true}) only [awant, ayield_get, oper1, aop, opv, opvs, opvo, opvp, abuiltin, Ac.get_put, Ac.put_n, Ac.put_defers, if_true, if_false, and_true, decide_true, abin, isShift, aint, roV, pair, bind, Option.bind, acall, List.nil_append, List.append_nil, List.toList_toArray, List.getElem?_cons_zero, List.getElem?_cons_succ, Bool.not_true, Bool.not_false, nA, p3, p6, p7, p8, hlt, ia53 _ _ _ _ hir, Int.toNat_natCast, ld3, hc, dq, w3] | skip); with_reducible rfl))))) ?_)
    | (refine Wc.cond2 (by simp (config := {decide := true}) only [awant, ayield_get, oper1, aop, opv, opvs, opvo, opvp, abuiltin, Ac.get_put, Ac.put_n, Ac.put_defers, if_true, if_false, and_true, decide_true, abin, isShift, aint, roV, pair, bind, Option.bind, acall, List.nil_append, List.append_nil, List.toList_toArray, List.getElem?_cons_zero, List.getElem?_cons_succ, Bool.not_true, Bool.not_false, nA, p3, p6, p7, p8, hlt, ia53 _ _ _ _ hir, Int.toNat_natCast, ld3, hc, dq, w3]; try with_reducible rfl) (fun hb => ?_) (fun hb => ?_) <;> try contradiction)
    | refine Wc.skip ?_
    | refine Wc.ret ?_
    | refine Wc.exit ?_
    | refine Wc.block ?_)
        refine ⟨rfl, by simp (config := {decide := true}) only [Ac.get_put, Ac.put_n, Ac.put_defers, if_true, if_false, and_true, nA], by simp (config := {decide := true}) only [Ac.get_put, Ac.put_n, Ac.put_defers, if_true, if_false, and_true, dA], .inr ⟨rfl, ?_⟩⟩
        rw [hd, orL, if_pos (by simpa using q)]
        simp (config := {decide := true}) only [Ac.get_put, Ac.put_n, Ac.put_defers, if_true, if_false, and_true, nA]
  repeat' (first
    | (with_reducible apply Wc.seq)
    | (refine Wc.ops (by repeat' (first
      | with_reducible exact RO.nil
      | ((with_reducible apply RO.run (awant_none rfl)); (focus ((first | simp (config := {decide := true}) only [awant, ayield_get, oper1, aop, opv, opvs, opvo, opvp, abuiltin, Ac.get_put, Ac.put_n, Ac.put_defers, if_true, if_false, and_true, decide_true, abin, isShift, aint, roV, pair, bind, Option.bind, acall, List.nil_append, List.append_nil, List.toList_toArray, List.getElem?_cons_zero, List.getElem?_cons_succ, Bool.not_true, Bool.not_false, n0, d0, g00, len53] | skip); with_reducible rfl))))) ?_)
    | (refine Wc.cond2 (by simp (config := {decide := true}) only [awant, ayield_get, oper1, aop, opv, opvs, opvo, opvp, abuiltin, Ac.get_put, Ac.put_n, Ac.put_defers, if_true, if_false, and_true, decide_true, abin, isShift, aint, roV, pair, bind, Option.bind, acall, List.nil_append, List.append_nil, List.toList_toArray, List.getElem?_cons_zero, List.getElem?_cons_succ, Bool.not_true, Bool.not_false, n0, d0, g00, len53]; try with_reducible rfl) (fun hb => ?_) (fun hb => ?_) <;> try contradiction)
    | refine Wc.skip ?_
    | refine Wc.ret ?_
    | refine Wc.exit ?_
    | refine Wc.block ?_)
  refine (key l.length 0 _ rfl (Nat.zero_le _) ?_ ?_ ?_ ?_ ?_ ?_).mono ?_
  · simp (config := {decide := true}) only [Ac.get_put, Ac.put_n, Ac.put_defers, if_true, if_false, and_true, n0]
  · simp (config := {decide := true}) only [Ac.get_put, Ac.put_n, Ac.put_defers, if_true, if_false, and_true, d0]
  · simp (config := {decide := true}) only [Ac.get_put, Ac.put_n, Ac.put_defers, if_true, if_false, and_true, n0]
  · simp (config := {decide := true}) only [Ac.get_put, Ac.put_n, Ac.put_defers, if_true, if_false, and_true, n0]
  · simp (config := {decide := true}) only [Ac.get_put, Ac.put_n, Ac.put_defers, if_true, if_false, and_true, n0]
  · simp (config := {decide := true}) only [Ac.get_put, Ac.put_n, Ac.put_defers, if_true, if_false, and_true, n0]
    rfl
  · rw [List.drop_zero]
    rintro ex A' h' ⟨rfl, e1, e2, ⟨rfl, e3, e4⟩ | ⟨rfl, e3⟩⟩
    · simp only [if_true]
      repeat' (first
    | (with_reducible apply Wc.seq)
    | (refine Wc.ops (by repeat' (first
      | with_reducible exact RO.nil
      | ((with_reducible apply RO.run (awant_none rfl)); (focus ((first | simp (config := {decide := true}) only [awant, ayield_get, oper1, aop, opv, opvs, opvo, opvp, abuiltin, Ac.get_put, Ac.put_n, Ac.put_defers, if_true, if_false, and_true, decide_true, abin, isShift, aint, roV, pair, bind, Option.bind, acall, List.nil_append, List.append_nil, List.toList_toArray, List.getElem?_cons_zero, List.getElem?_cons_succ, Bool.not_true, Bool.not_false, e1, e3] | skip); with_reducible rfl))))) ?_)
    | (refine Wc.cond2 (by simp (config := {decide := true}) only [awant, ayield_get, oper1, aop, opv, opvs, opvo, opvp, abuiltin, Ac.get_put, Ac.put_n, Ac.put_defers, if_true, if_false, and_true, decide_true, abin, isShift, aint, roV, pair, bind, Option.bind, acall, List.nil_append, List.append_nil, List.toList_toArray, List.getElem?_cons_zero, List.getElem?_cons_succ, Bool.not_true, Bool.not_false, e1, e3]; try with_reducible rfl) (fun hb => ?_) (fun hb => ?_) <;> try contradiction)
    | refine Wc.skip ?_
    | refine Wc.ret ?_
    | refine Wc.exit ?_
    | refine Wc.block ?_)
      exact done_q (v := .int .i64 0) (.inr rfl) (by simp (config := {decide := true}) only [Ac.get_put, Ac.put_n, Ac.put_defers, if_true, if_false, and_true, e2]) rfl (by simp (config := {decide := true}) only [Ac.get_put, Ac.put_n, Ac.put_defers, if_true, if_false, and_true, e1]) ⟨by rw [e4], rfl⟩
    · exact done_q (.inr rfl) e2 rfl e3 ⟨rfl, rfl⟩
end Go.Proofs.YtofijpbmbmbnhaaDoor
