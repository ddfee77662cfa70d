/- The program's reader: the item of bytes. -/
import Derived.Test.YtofijpbmbmbnhaaDoorHsap
set_option linter.unusedSimpArgs false
set_option linter.unusedVariables false
set_option maxRecDepth 100000
set_option maxHeartbeats 16000000
namespace Go.Proofs.YtofijpbmbmbnhaaDoor
open Go Go.Hs Go.Proofs
variable {E : Env} {I : Known}
theorem qcv31_9 {h : H} {v : Value} {bs : List UInt8} (b : Byt E h v bs) : aconvert tab E 31 9 v h = some (.string ⟨⟨bs⟩⟩, h) := by
  unfold aconvert
  rcases b with ⟨rfl, rfl⟩ | ⟨a, c, rfl, _, hc⟩
  · simp only [qty31, qty9, qty5]
  · simp only [qty31, qty9, qty5, hc, allBytes_bytesV]
theorem qbu84 (s : Value) (h : s.cells.toList = [s]) : abuild tab 84 [(0, s)] = some (.agg ⟨[s, .int .i64 0, .int .i64 0]⟩) := by
  unfold abuild
  simp only [qty84, afill, h]
  rfl
theorem qbu86 (a b c : Value) : abuild tab 86 [(0, .agg ⟨[a, b, c]⟩)] = some (.agg ⟨[a, b, c, .int .i64 0]⟩) := by unfold abuild; simp only [qty86]; rfl
end Go.Proofs.YtofijpbmbmbnhaaDoor
/- The program's reader: the item of bytes, as a whole. -/
set_option maxRecDepth 100000
set_option maxHeartbeats 16000000
namespace Go.Proofs.YtofijpbmbmbnhaaDoor
open Go Go.Hs Go.Proofs
variable {E : Env} {I : Known}
end Go.Proofs.YtofijpbmbmbnhaaDoor
/- The program's reader: the items of bytes. -/
set_option maxRecDepth 100000
set_option maxHeartbeats 16000000
namespace Go.Proofs.YtofijpbmbmbnhaaDoor
open Go Go.Hs Go.Proofs
variable {E : Env} {I : Known}
theorem fn18 : tab.fn.get 18 = some Tryd.f18 := by kernel_rfl
noncomputable def loop18 : Code := loopOf Tryd.f18
theorem done_tmp3q {D : Tab} {E : Env} {fn : Func} {A : Ac} {h : H} {t u s : Tmp} {v x y : Value} {ex : Ex} {Q : Value → H → Prop} (hex : ex = .normal ∨ ex = .ret) (hd : A.defers = []) (hr : fn.results = #[.tmp t, .tmp u, .tmp s]) (hv : A.get t = v) (hx : A.get u = x) (hy : A.get s = y) (hq : Q (.tuple #[v, x, y]) h) :
    (ex = .normal ∨ ex = .ret) ∧ ∃ h2 v', takeAll A.defers h = some h2 ∧ ares D E fn A h2 = some v' ∧ Q v' h2 := by
  refine ⟨hex, h, _, ?_, ?_, hq⟩
  · rw [hd]; rfl
  · unfold ares
    rw [hr]
    simp only [aresL, ares1, hv, hx, hy]
def SplQ (E : Env) (r : Rd (List Hs.Item)) (v : Value) (g : H) : Prop := match r with
  | .ok l _ _ => ∃ sl, v = .tuple #[sl, .int .i64 0, .int .i64 0] ∧ repK E g l sl
  | .bad p e => v = .tuple #[.slice none 0 0, .int .i64 (p : Nat), .int .i64 e]
theorem split18 (hI : ∀ f args h, (f = 18 ∨ f = 56 ∨ f = 120 ∨ f = 119 ∨ f = 118 ∨ f = 117 ∨ f = 90 ∨ f = 82 ∨ f = 81) → I f args h = none) {g : H} {v : Value} {bs : List UInt8} (f : Fit g) (hb : Byt E g v bs) (hl : bs.length ≤ 1000000) :
    ∃ n x g', (ev tab E I n).call 18 [v] g = some (x, g') ∧ (Mod (fun _ => False) g g' ∧ SplQ E (splR bs) x g') := by
  obtain ⟨va, vc, hv⟩ := hb.slice
  have ln : ∀ h, alen tab 31 v h = some (.int .i64 (bs.length : Nat)) := fun h => by rw [hv]; exact qlen31 _ _ _
  refine Wc.call (hI _ _ _ (.inl rfl)) fn18 rfl ?_
  generalize hA0 : (⟨T.ofList [v] 0 .nil, max ([v] : List Value).length Tryd.f18.ntmps, []⟩ : Ac) = A0
  have n0 : A0.n = 42 := by rw [← hA0]; rfl
  have q0 : A0.get 0 = v := by rw [← hA0]; rfl
  have d0 : A0.defers = [] := by rw [← hA0]
  clear hA0
  unfold splR
  by_cases hlong : 65536 < bs.length
  · have e1 : decide ((bs.length : Int) > 65536) = true := by simp; omega
    repeat' (first | (with_reducible apply Wc.seq) | (apply Wc.ops; (focus ((repeat' (first | with_reducible exact RO.nil | ((with_reducible apply RO.run (awant_none rfl)); (focus ((first | simp +decide only [awant, ayield_get, oper1, aop, opv, opvs, opvo, opvp, abuiltin, aun, Gx, abin, isShift, aint, roV, pair, bind, Option.bind, acall, Sx, n0, q0, ln, e1] | skip); with_reducible rfl))))); done))) | (refine Wc.cond2 (by simp +decide only [opv, Gx, Sx, n0, q0, ln, e1]; try with_reducible rfl) (fun hb => ?_) (fun hb => ?_) <;> try contradiction) | refine Wc.skip ?_ | refine Wc.ret ?_ | refine Wc.exit ?_ | refine Wc.block ?_)
    rw [if_pos hlong]
    exact done_tmp3q (v := .slice none 0 0) (x := .int .i64 0) (y := .int .i64 11) (.inr rfl) (by simp +decide only [Gx, Sx, d0]) rfl (by simp +decide only [Gx, Sx, n0]) (by simp +decide only [Gx, Sx, n0]) (by simp +decide only [Gx, Sx, n0]) ⟨Mod.refl f, rfl⟩
  have e1 : decide ((bs.length : Int) > 65536) = false := by simp; omega
  rw [if_neg hlong]
  have cv := qcv31_9 hb
  have bu := qbu84 (.string ⟨⟨bs⟩⟩) rfl
  generalize hh1 : g.new (.cells (Value.agg #[.string ⟨#[]⟩, .int .i64 0, .int .i64 0]).cells.toList 84 none) = h1
  have t1 : Ahd g h1 := by rw [← hh1]; exact Ahd.new0 f rfl
  have b5 : h1.blk g.next = some (.cells [.string ⟨#[]⟩, .int .i64 0, .int .i64 0] 84 none) := by rw [← hh1]; exact new_blk_new rfl
  have s5 : astore tab 84 (own g.next) (.agg ⟨[.string ⟨⟨bs⟩⟩, .int .i64 0, .int .i64 0]⟩) h1 = some (h1.setl g.next (.cells [.string ⟨⟨bs⟩⟩, .int .i64 0, .int .i64 0] 84 none)) := astore_all qty84 b5 rfl rfl rfl (by simp)
  have t2 : Ahd g (h1.setl g.next (.cells [.string ⟨⟨bs⟩⟩, .int .i64 0, .int .i64 0] 84 none)) := t1.setl rfl (Nat.le_refl _) (t1.fit.lt b5) f
  have b5 := setl_same (h := h1) (k := g.next) (B := .cells [.string ⟨⟨bs⟩⟩, .int .i64 0, .int .i64 0] 84 none) rfl
  generalize h1.setl g.next (.cells [.string ⟨⟨bs⟩⟩, .int .i64 0, .int .i64 0] 84 none) = h2 at s5 t2 b5
  have rok := rdItem_ok bs 250
  have key : ∀ (r p : Nat) (acc : List Hs.Item) (sl : Value) (A0 : Ac) (h : H), bs.length - p ≤ r → p ≤ bs.length → acc.length ≤ p → A0.n = 42 → A0.defers = [] → A0.get 0 = v → A0.get 5 = .pointer (some (own g.next)) → A0.get 6 = sl →
      Mod (fun j => g.next ≤ j) g h → h.blk g.next = some (.cells [.string ⟨⟨bs⟩⟩, .int .i64 (p : Nat), .int .i64 0] 84 none) → Kol E 25 g.next h.next h sl acc → splL bs bs.length 0 [] = splL bs r p acc →
      Wc tab E I ⟨18, none⟩ (.loop loop18) A0 h (fun ex A' h' => A'.n = 42 ∧ A'.defers = [] ∧ Mod (fun j => g.next ≤ j) g h' ∧ ((ex = .exit 0 ∧ ∃ l p it sl, A'.get 6 = sl ∧ splL bs bs.length 0 [] = .ok l p it ∧ l.length ≤ bs.length ∧ Kol E 25 g.next h'.next h' sl l) ∨ (ex = .ret ∧ SplQ E (splL bs bs.length 0 []) (.tuple #[A'.get 2, A'.get 3, A'.get 4]) h'))) := by
    intro r
    induction r with
    | zero =>
      intro p acc sl A0 h hr hp hacc n0 d0 q0 q5 q6 M b K he
      have e1 : decide ((p : Int) < (bs.length : Int)) = false := by simp; omega
      have c1 := cell_blk (E := E) b 1
      apply Wc.loop
      simp only [loop18, loopOf, firstLoop, Option.getD, Tryd.f18]
      repeat' (first | (with_reducible apply Wc.seq) | (apply Wc.ops; (focus ((repeat' (first | with_reducible exact RO.nil | ((with_reducible apply RO.run (awant_none rfl)); (focus ((first | simp +decide only [awant, ayield_get, oper1, aop, opv, opvs, opvo, opvp, abuiltin, aun, Gx, abin, isShift, aint, roV, pair, bind, Option.bind, acall, Sx, n0, q0, q5, Qx, Hx, c1, ln, e1] | skip); with_reducible rfl))))); done))) | (refine Wc.cond2 (by simp +decide only [opv, Gx, Sx, n0, q0, q5, Qx, Hx, c1, ln, e1]; try with_reducible rfl) (fun hb => ?_) (fun hb => ?_) <;> try contradiction) | refine Wc.skip ?_ | refine Wc.ret ?_ | refine Wc.exit ?_ | refine Wc.block ?_)
      exact ⟨by simp +decide only [Gx, Sx, n0], by simp +decide only [Gx, Sx, d0], M, .inl ⟨rfl, acc, p, 0, sl, by simp +decide only [Gx, Sx, n0, q6], by rw [he, splL], by omega, K⟩⟩
    | succ r ih =>
      intro p acc sl A0 h hr hp hacc n0 d0 q0 q5 q6 M b K he
      have c1 := cell_blk (E := E) b 1
      apply Wc.loop
      simp only [loop18, loopOf, firstLoop, Option.getD, Tryd.f18]
      by_cases hlt : p < bs.length
      rotate_left
      · have e1 : decide ((p : Int) < (bs.length : Int)) = false := by simp; omega
        rw [splL, if_neg hlt] at he
        repeat' (first | (with_reducible apply Wc.seq) | (apply Wc.ops; (focus ((repeat' (first | with_reducible exact RO.nil | ((with_reducible apply RO.run (awant_none rfl)); (focus ((first | simp +decide only [awant, ayield_get, oper1, aop, opv, opvs, opvo, opvp, abuiltin, aun, Gx, abin, isShift, aint, roV, pair, bind, Option.bind, acall, Sx, n0, q0, q5, Qx, Hx, c1, ln, e1] | skip); with_reducible rfl))))); done))) | (refine Wc.cond2 (by simp +decide only [opv, Gx, Sx, n0, q0, q5, Qx, Hx, c1, ln, e1]; try with_reducible rfl) (fun hb => ?_) (fun hb => ?_) <;> try contradiction) | refine Wc.skip ?_ | refine Wc.ret ?_ | refine Wc.exit ?_ | refine Wc.block ?_)
        exact ⟨by simp +decide only [Gx, Sx, n0], by simp +decide only [Gx, Sx, d0], M, .inl ⟨rfl, acc, p, 0, sl, by simp +decide only [Gx, Sx, n0, q6], he, by omega, K⟩⟩
      rw [splL, if_pos hlt] at he
      have e1 : decide ((p : Int) < (bs.length : Int)) = true := by simp; omega
      have l5 : h.cells E (own g.next) 3 = some [.string ⟨⟨bs⟩⟩, .int .i64 (p : Nat), .int .i64 0] := blk_cells b rfl rfl
      have bv := qbu86 (.string ⟨⟨bs⟩⟩) (.int .i64 (p : Nat)) (.int .i64 0)
      have fh := M.fit
      have lgn := fh.lt b
      generalize hh3 : h.new (.cells (Value.agg #[.string ⟨#[]⟩, .int .i64 0, .int .i64 0, .int .i64 0]).cells.toList 86 none) = h3
      have t3 : Ahd h h3 := by rw [← hh3]; exact Ahd.new0 fh rfl
      have b7 : h3.blk h.next = some (.cells [.string ⟨#[]⟩, .int .i64 0, .int .i64 0, .int .i64 0] 86 none) := by rw [← hh3]; exact new_blk_new rfl
      have s7 : astore tab 86 (own h.next) (.agg ⟨[.string ⟨⟨bs⟩⟩, .int .i64 (p : Nat), .int .i64 0, .int .i64 0]⟩) h3 = some (h3.setl h.next (.cells [.string ⟨⟨bs⟩⟩, .int .i64 (p : Nat), .int .i64 0, .int .i64 0] 86 none)) := astore_all qty86 b7 rfl rfl rfl (by simp)
      have t4 : Ahd h (h3.setl h.next (.cells [.string ⟨⟨bs⟩⟩, .int .i64 (p : Nat), .int .i64 0, .int .i64 0] 86 none)) := t3.setl rfl (Nat.le_refl _) (t3.fit.lt b7) fh
      have b7 : Src h.next bs p 0 0 (h3.setl h.next (.cells [.string ⟨⟨bs⟩⟩, .int .i64 (p : Nat), .int .i64 0, .int .i64 0] 86 none)) := setl_same rfl
      generalize h3.setl h.next (.cells [.string ⟨⟨bs⟩⟩, .int .i64 (p : Nat), .int .i64 0, .int .i64 0] 86 none) = h4 at s7 t4 b7
      have b54 := t4.grows _ _ b
      have K4 := K.mod fh (t4.mod (M := fun _ => False)) (fun _ _ h => h.elim)
      obtain ⟨nf, v1, h5, c5, l, z, rfl, m5, hq⟩ := item56 (E := E) (I := I) (fun f args h hf => hI f args h (.inr hf)) hl 250 (Nat.le_refl _) h4 p 0 t4.fit b7 (by omega) (by decide)
      have c5' : (ev tab E I nf).call 56 [.pointer (some (own h.next)), .int .i64 1] h4 = some (.tuple #[.agg ⟨l⟩, z], h5) := c5
      have hl4 : l.length = 4 ∧ l.all isOne = true := by
        unfold ItemQ at hq
        split at hq
        · obtain ⟨_, _, _, _, rfl, h⟩ := item_four hq.2.2
          exact ⟨rfl, h⟩
        · rw [hq.2.1]; exact ⟨rfl, rfl⟩
      have b55 := m5.blk _ _ (by omega) b54
      have K5 := K4.mod t4.fit m5 (fun j B hj hB => by
        subst hj
        rw [show h4.blk h.next = _ from b7] at hB; cases hB; rfl)
      generalize hh6 : h5.new (.cells (Value.agg #[.int .i64 0, .int .i64 0, .string ⟨#[]⟩, .slice none 0 0]).cells.toList 25 none) = h6
      have t6 : Ahd h5 h6 := by rw [← hh6]; exact Ahd.new0 m5.fit rfl
      have b8 : h6.blk h5.next = some (.cells zeroL 25 none) := by rw [← hh6]; exact new_blk_new rfl
      have s8 : astore tab 25 (own h5.next) (.agg ⟨l⟩) h6 = some (h6.setl h5.next (.cells l 25 none)) := astore_all qty25 b8 (by rw [hl4.1]) (by rw [hl4.1]; rfl) hl4.2 (by intro e; rw [e] at hl4; simp at hl4)
      have t7 : Ahd h5 (h6.setl h5.next (.cells l 25 none)) := t6.setl rfl (Nat.le_refl _) (t6.fit.lt b8) m5.fit
      have b8 := setl_same (h := h6) (k := h5.next) (B := .cells l 25 none) rfl
      generalize h6.setl h5.next (.cells l 25 none) = h7 at s8 t7 b8
      have b57 := t7.grows _ _ b55
      have K7 := K5.mod m5.fit (t7.mod (M := fun _ => False)) (fun _ _ h => h.elim)
      have n4 := t4.next
      have n5 := m5.next
      have n7 := t7.next
      have nM := M.next
      have M7 : Mod (fun j => g.next ≤ j) g h7 := ((M.trans t4.mod).trans (m5.sub fun j hj => by omega)).trans t7.mod
      generalize hri : rdItem bs 250 p 0 = ri at hq he
      cases ri with
      | bad p' e =>
        obtain ⟨rfl, _, it', b'⟩ := hq
        obtain ⟨_, d1, d2, _⟩ := (b'.mod (t7.mod (M := fun _ => False)) (fun h => h)).at (E := E)
        repeat' (first | (with_reducible apply Wc.seq) | (apply Wc.opsN nf; (focus ((repeat' (first | with_reducible exact RO.nil | ((with_reducible apply RO.run (awant_none rfl)); (focus ((first | simp +decide only [awant, ayield_get, oper1, aop, opv, opvs, opvo, opvp, abuiltin, aun, Gx, abin, isShift, aint, roV, pair, bind, Option.bind, acall, Sx, n0, q0, q5, q6, Qx, Hx, c1, ln, e1, l5, bv, qtz86, hh3, s7, c5', qtz25, hh6, s8] | skip); with_reducible rfl))))); done))) | (refine Wc.cond2 (by simp +decide only [opv, Gx, Sx, n0, q0, q5, q6, Qx, Hx, c1, ln, e1, l5, bv, qtz86, hh3, s7, c5', qtz25, hh6, s8]; try with_reducible rfl) (fun hb => ?_) (fun hb => ?_) <;> try contradiction) | refine Wc.skip ?_ | refine Wc.ret ?_ | refine Wc.exit ?_ | refine Wc.block ?_)
        refine Wc.drawC 1 (by kernel_rfl) ?_
        (iterate 9 (first | ((apply FC.pure rfl rfl); (focus ((first | simp +decide only [awant, ayield_get, oper1, aop, opv, opvs, opvo, opvp, abuiltin, aun, Gx, abin, isShift, aint, roV, pair, bind, Option.bind, acall, Sx, n0, Qx, Hx, d1, d2] | skip); with_reducible rfl))) | ((apply FC.new rfl rfl); (focus ((first | simp +decide only [awant, ayield_get, oper1, aop, opv, opvs, opvo, opvp, abuiltin, aun, Gx, abin, isShift, aint, roV, pair, bind, Option.bind, acall, Sx, n0, Qx, Hx, d1, d2] | skip); with_reducible rfl)))))
        refine FC.nil ?_
        refine Wc.ret ?_
        refine ⟨by simp +decide only [Gx, Sx, n0], by simp +decide only [Gx, Sx, d0], M7, .inr ⟨rfl, ?_⟩⟩
        rw [he]
        show Value.tuple #[_, _, _] = _
        simp +decide only [Gx, Sx, n0]
      | ok t p' it' =>
        obtain ⟨rfl, b', hrt⟩ := hq
        obtain ⟨va, vb, vc, vd, rfl, hone⟩ := item_four hrt
        obtain ⟨o1, o2, o3, o4, o5, o6⟩ := rok.1 _ _ _ _ _ hri
        have b' := b'.mod (t7.mod (M := fun _ => False)) (fun h => h)
        have R7 := rep_grow (only_ahd (q := fun r => Nat.ble h4.next r) m5.fit t7 (fun _ h => h)) hrt
        have l8 : h7.cells E (own h5.next) 4 = some [va, vb, vc, vd] := blk_cells b8 rfl hone
        generalize hZ : (Blk.cells [va, vb, vc, vd] 25 none) = Z
        have hbs := qbs23 hone (h := h7)
        rw [hZ] at hbs
        generalize hh8 : h7.new Z = h8 at hbs
        have t8 : Ahd h7 h8 := by rw [← hh8, ← hZ]; exact Ahd.new0 t7.fit rfl
        have bz : h8.blk h7.next = some (.cells [va, vb, vc, vd] 25 none) := by rw [← hh8, ← hZ]; exact new_blk_new rfl
        have K8 := K7.mod t7.fit (t8.mod (M := fun _ => False)) (fun _ _ h => h.elim)
        have R8 := rep_grow (only_ahd (q := fun r => Nat.ble h4.next r) t7.fit t8 (fun _ h => h)) R7
        have M8 := M7.ahd t8
        obtain ⟨sl', h9, happ, K9, AP, n9⟩ := kol_step (D := tab) (E := E) (t := 23) (t2 := 23) (by_ := 56) (kx := h7.next) (c := 1) (lo := h4.next) t8.fit M8.next K8 (by omega) (by omega) qty23 qtz25 rfl (qza23 _ _ _) R8 (blk_cells bz rfl hone) hone (by
          unfold roomy
          simp only [Bool.and_eq_true, Nat.ble_eq]; omega)
        have M9 := AP.mod f (Nat.le_refl _) M8
        have b59 := AP.keep (t8.grows _ _ b57)
        have b9 : Src h.next bs p' 0 it' h9 := AP.keep (t8.grows _ _ b')
        have l9 : h9.cells E (own h.next) 3 = some [.string ⟨⟨bs⟩⟩, .int .i64 (p' : Nat), .int .i64 0] := by
          have := cells_sub (blk_cells (E := E) b9 rfl rfl) (m := 0) (l := 3) (by simp)
          exact this
        have s9 : astore tab 84 (own g.next) (.agg ⟨[.string ⟨⟨bs⟩⟩, .int .i64 (p' : Nat), .int .i64 0]⟩) h9 = some (h9.setl g.next (.cells [.string ⟨⟨bs⟩⟩, .int .i64 (p' : Nat), .int .i64 0] 84 none)) := astore_all qty84 b59 rfl rfl rfl (by simp)
        have m10 := (Mod.refl (M := fun j => j = g.next) M9.fit).setl (B := .cells [.string ⟨⟨bs⟩⟩, .int .i64 (p' : Nat), .int .i64 0] 84 none) rfl rfl (M9.fit.lt b59)
        have K10 := (K9.mod M9.fit m10 (fun j B hj hB => by
          subst hj
          rw [b59] at hB; cases hB; rfl)).up (top' := (h9.setl g.next (.cells [.string ⟨⟨bs⟩⟩, .int .i64 (p' : Nat), .int .i64 0] 84 none)).next) (by rw [setl_next]; exact Nat.le_refl _)
        repeat' (first | (with_reducible apply Wc.seq) | (apply Wc.opsN nf; (focus ((repeat' (first | with_reducible exact RO.nil | ((with_reducible apply RO.run (awant_none rfl)); (focus ((first | simp +decide only [awant, ayield_get, oper1, aop, opv, opvs, opvo, opvp, abuiltin, aun, Gx, abin, isShift, aint, roV, pair, bind, Option.bind, acall, Sx, n0, q0, q5, q6, Qx, Hx, c1, ln, e1, l5, bv, qtz86, hh3, s7, c5', qtz25, hh6, s8, l8, hbs, happ, l9, s9] | skip); with_reducible rfl))))); done))) | (refine Wc.cond2 (by simp +decide only [opv, Gx, Sx, n0, q0, q5, q6, Qx, Hx, c1, ln, e1, l5, bv, qtz86, hh3, s7, c5', qtz25, hh6, s8, l8, hbs, happ, l9, s9]; try with_reducible rfl) (fun hb => ?_) (fun hb => ?_) <;> try contradiction) | refine Wc.skip ?_ | refine Wc.ret ?_ | refine Wc.exit ?_ | refine Wc.block ?_)
        refine (ih p' (acc ++ [t]) sl' _ _ (by omega) o2 (by rw [List.length_append, List.length_singleton]; omega) ?_ ?_ ?_ ?_ ?_ (M9.trans (m10.sub fun j hj => by omega)) (setl_same rfl) K10 he)
        · simp +decide only [Gx, Sx, n0]
        · simp +decide only [Gx, Sx, d0]
        · simp +decide only [Gx, Sx, n0, q0]
        · simp +decide only [Gx, Sx, n0, q5]
        · simp +decide only [Gx, Sx, n0]
  repeat' (first | (with_reducible apply Wc.seq) | (apply Wc.ops; (focus ((repeat' (first | with_reducible exact RO.nil | ((with_reducible apply RO.run (awant_none rfl)); (focus ((first | simp +decide only [awant, ayield_get, oper1, aop, opv, opvs, opvo, opvp, abuiltin, aun, Gx, abin, isShift, aint, roV, pair, bind, Option.bind, acall, Sx, n0, q0, ln, e1, cv, bu, qtz84, hh1, s5] | skip); with_reducible rfl))))); done))) | (refine Wc.cond2 (by simp +decide only [opv, Gx, Sx, n0, q0, ln, e1, cv, bu, qtz84, hh1, s5]; try with_reducible rfl) (fun hb => ?_) (fun hb => ?_) <;> try contradiction) | refine Wc.skip ?_ | refine Wc.ret ?_ | refine Wc.exit ?_ | refine Wc.block ?_)
  refine (key bs.length 0 [] (.slice none 0 0) _ h2 (by omega) (Nat.zero_le _) (Nat.zero_le _) ?_ ?_ ?_ ?_ ?_ (t2.mod) b5 (Kol.nil _ _ _) rfl).mono ?_
  · simp +decide only [Gx, Sx, n0]
  · simp +decide only [Gx, Sx, d0]
  · simp +decide only [Gx, Sx, n0, q0]
  · simp +decide only [Gx, Sx, n0]
  · simp +decide only [Gx, Sx, n0]
  · rintro ex A0 h ⟨n0, d0, M, ⟨rfl, l, p, it, sl, q6, he, hll, K⟩ | ⟨rfl, hq⟩⟩
    · simp only [if_true]
      repeat' (first | (with_reducible apply Wc.seq) | (apply Wc.ops; (focus ((repeat' (first | with_reducible exact RO.nil | ((with_reducible apply RO.run (awant_none rfl)); (focus ((first | simp +decide only [awant, ayield_get, oper1, aop, opv, opvs, opvo, opvp, abuiltin, aun, Gx, abin, isShift, aint, roV, pair, bind, Option.bind, acall, Sx, n0, q6] | skip); with_reducible rfl))))); done))) | (refine Wc.cond2 (by simp +decide only [opv, Gx, Sx, n0, q6]; try with_reducible rfl) (fun hb => ?_) (fun hb => ?_) <;> try contradiction) | refine Wc.skip ?_ | refine Wc.ret ?_ | refine Wc.exit ?_ | refine Wc.block ?_)
      refine done_tmp3q (v := sl) (x := .int .i64 0) (y := .int .i64 0) (.inr rfl) (by simp +decide only [Gx, Sx, d0]) rfl (by simp +decide only [Gx, Sx, n0]) (by simp +decide only [Gx, Sx, n0]) (by simp +decide only [Gx, Sx, n0]) ⟨Mod.low f M (fun j hj => .inr hj), ?_⟩
      rw [he]
      exact ⟨sl, rfl, rep_grow (only_grows M.fit) (K.rep M.fit (by omega) 0 0 ⟨#[]⟩ (Nat.le_refl _))⟩
    · exact done_tmp3q (.inr rfl) d0 rfl rfl rfl rfl ⟨Mod.low f M (fun j hj => .inr hj), hq⟩
end Go.Proofs.YtofijpbmbmbnhaaDoor
