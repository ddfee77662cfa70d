/- The program's reader: items. -/
import Derived.Test.YtofijpbmbmbnhaaDoorHsao
set_option linter.unusedSimpArgs false
set_option linter.unusedVariables false
set_option maxRecDepth 100000
set_option maxHeartbeats 16000000
namespace Go.Proofs.YtofijpbmbmbnhaaDoor
open Go Go.Hs Go.Proofs
variable {E : Env} {I : Known}
theorem fn90 : tab.fn.get 90 = some Tryd.f90 := by kernel_rfl
noncomputable def loop56 : Code := loopOf Tryd.f56
abbrev fnV (f : Nat) : Value := .func (.func f) #[] #[]
def partsL : List Value := [.int .u8 0, fnV 117, .int .u8 64, fnV 119, .int .u8 128, fnV 120]
theorem qbu141 (n : Int) (f : Nat) : abuild tab 141 [(0, .int .u8 n), (1, fnV f)] = some (.agg ⟨[.int .u8 n, fnV f]⟩) := by unfold abuild; simp only [qty141]; rfl
theorem qbu142 (a b c d e f : Value) : abuild tab 142 [(0, .agg ⟨[a, b]⟩), (1, .agg ⟨[c, d]⟩), (2, .agg ⟨[e, f]⟩)] = some (.agg ⟨[a, b, c, d, e, f]⟩) := by unfold abuild; simp only [qty142]; rfl
theorem qbu25z : abuild tab 25 [] = some (.agg ⟨zeroL⟩) := by unfold abuild; simp only [qty25]; rfl
theorem qbu25k (n : Int) : abuild tab 25 [(0, .int .i64 n)] = some (.agg ⟨[.int .i64 n, .int .i64 0, .string ⟨#[]⟩, .slice none 0 0]⟩) := by unfold abuild; simp only [qty25]; rfl
theorem qix142_0 : aindex tab 142 (.agg ⟨partsL⟩) (.int .i64 0) = some (.agg ⟨[.int .u8 0, fnV 117]⟩) := by unfold aindex; simp only [qty142]; unfold apart; simp only [qty141]; rfl
theorem qix142_1 : aindex tab 142 (.agg ⟨partsL⟩) (.int .i64 1) = some (.agg ⟨[.int .u8 64, fnV 119]⟩) := by unfold aindex; simp only [qty142]; unfold apart; simp only [qty141]; rfl
theorem qix142_2 : aindex tab 142 (.agg ⟨partsL⟩) (.int .i64 2) = some (.agg ⟨[.int .u8 128, fnV 120]⟩) := by unfold aindex; simp only [qty142]; unfold apart; simp only [qty141]; rfl
theorem parts90 (hI : ∀ args h, I 90 args h = none) {g : H} (f : Fit g) : ∃ n g', (ev tab E I n).call 90 [] g = some (.agg ⟨partsL⟩, g') ∧ Ahd g g' := by
  suffices hw : ∃ n v g', (ev tab E I n).call 90 [] g = some (v, g') ∧ (v = .agg ⟨partsL⟩ ∧ Ahd g g') by
    obtain ⟨n, v, g', h1, rfl, h2⟩ := hw
    exact ⟨n, g', h1, h2⟩
  refine Wc.call (hI _ _) fn90 rfl ?_
  generalize hA0 : (⟨T.ofList [] 0 .nil, max ([] : List Value).length Tryd.f90.ntmps, []⟩ : Ac) = A0
  have n0 : A0.n = 5 := by rw [← hA0]; rfl
  have d0 : A0.defers = [] := by rw [← hA0]
  clear hA0
  generalize hZ : (Value.agg #[.int .u8 0, .nilFunc, .int .u8 0, .nilFunc, .int .u8 0, .nilFunc]).cells.toList = Z
  generalize hh1 : g.new (.cells Z 142 none) = h1
  have a1 : Ahd g h1 := by rw [← hh1]; exact Ahd.new0 f rfl
  have b1 : h1.blk g.next = some (.cells [.int .u8 0, .nilFunc, .int .u8 0, .nilFunc, .int .u8 0, .nilFunc] 142 none) := by rw [← hh1, ← hZ]; exact new_blk_new rfl
  have s1 : astore tab 142 (own g.next) (.agg ⟨partsL⟩) h1 = some (h1.setl g.next (.cells partsL 142 none)) := astore_all qty142 b1 rfl rfl rfl (by simp [partsL])
  have a2 : Ahd g (h1.setl g.next (.cells partsL 142 none)) := a1.setl rfl (Nat.le_refl _) (a1.fit.lt b1) f
  have l2 : (h1.setl g.next (.cells partsL 142 none)).cells E (own g.next) 6 = some partsL := blk_cells (setl_same rfl) rfl rfl
  have e1 := qbu141 0 117
  have e2 := qbu141 64 119
  have e3 := qbu141 128 120
  unfold fnV at e1 e2 e3
  have e4 : abuild tab 142 [(0, .agg ⟨[.int .u8 0, .func (.func 117) #[] #[]]⟩), (1, .agg ⟨[.int .u8 64, .func (.func 119) #[] #[]]⟩), (2, .agg ⟨[.int .u8 128, .func (.func 120) #[] #[]]⟩)] = some (.agg ⟨partsL⟩) := qbu142 _ _ _ _ _ _
  repeat' (first | (with_reducible apply Wc.seq) | (apply Wc.ops; (focus ((repeat' (first | with_reducible exact RO.nil | ((with_reducible apply RO.run (awant_none rfl)); (focus ((first | simp +decide only [awant, ayield_get, oper1, aop, opv, opvs, opvo, opvp, abuiltin, aun, Gx, abin, isShift, aint, roV, pair, bind, Option.bind, acall, Sx, n0, qtz142, hZ, hh1, e1, e2, e3, e4, s1, roL] | skip); with_reducible rfl))))); done))) | (refine Wc.cond2 (by simp +decide only [opv, Gx, Sx, n0, qtz142, hZ, hh1, e1, e2, e3, e4, s1, roL]; try with_reducible rfl) (fun hb => ?_) (fun hb => ?_) <;> try contradiction) | refine Wc.skip ?_ | refine Wc.ret ?_ | refine Wc.exit ?_ | refine Wc.block ?_)
  exact done_cell (.inr rfl) (by simp +decide only [Gx, Sx, d0]) rfl (show _ = Value.pointer (some (own g.next)) by simp +decide only [Gx, Sx, n0]) (by rw [qld142, l2]) ⟨rfl, a2⟩
theorem rdKidsN_ok {bs : List UInt8} {f : Nat} {rec : Nat → Nat → Rd Hs.Item} (R : RdOk bs f rec) {pos items : Nat} {ks : List Hs.Item} {p it : Nat} (h : rdKidsN bs rec pos items = .ok ks p it) (hi : items ≤ 5000) : p ≤ bs.length ∧ it ≤ 5000 ∧ ks.length ≤ 5000 := by
  rw [rdKidsN] at h
  split at h
  · cases h
  · next m q i' hm =>
    obtain ⟨c1, c2, c3, c4, c5⟩ := rdN_ok hm
    obtain ⟨d1, d2, d3, d4, d5, d6, d7⟩ := rdKids_ok R _ _ _ _ _ _ _ h c2 (by omega) (by rw [goodL]; trivial) (by rw [lvlL]; omega)
    exact ⟨d2, d4, by rw [d7]; simpa using c3⟩
theorem item56 (hI : ∀ f args h, (f = 56 ∨ f = 120 ∨ f = 119 ∨ f = 118 ∨ f = 117 ∨ f = 90 ∨ f = 82 ∨ f = 81) → I f args h = none) {k : Nat} {bs : List UInt8} (hl : bs.length ≤ 1000000) : ∀ fu, fu ≤ 250 → Item56 E I k bs fu := by
  intro fu
  induction fu with
  | zero =>
    intro _ g pos items f b hp hi
    have hI81 : ∀ args h, I 81 args h = none := fun args h => hI _ args h (by simp)
    have hI82 : ∀ f args h, (f = 82 ∨ f = 81) → I f args h = none := fun f args h hf => hI f args h (by rcases hf with h | h <;> simp [h])
    show ∃ n v g', (ev tab E I n).call 56 [.pointer (some (own k)), .int .i64 (251 : Nat)] g = some (v, g') ∧ _
    refine Wc.call (hI _ _ _ (.inl rfl)) fn56 rfl ?_
    generalize hA0 : (⟨T.ofList [.pointer (some (own k)), .int .i64 (251 : Nat)] 0 .nil, max ([.pointer (some (own k)), .int .i64 (251 : Nat)] : List Value).length Tryd.f56.ntmps, []⟩ : Ac) = A0
    have n0 : A0.n = 99 := by rw [← hA0]; rfl
    have q0 : A0.get 0 = .pointer (some (own k)) := by rw [← hA0]; rfl
    have q1 : A0.get 1 = .int .i64 (251 : Nat) := by rw [← hA0]; rfl
    have d0 : A0.defers = [] := by rw [← hA0]
    clear hA0
    generalize hh1 : g.new (.cells (Value.agg #[.int .i64 0, .int .i64 0, .string ⟨#[]⟩, .slice none 0 0]).cells.toList 25 none) = h1
    have t1 : Ahd g h1 := by rw [← hh1]; exact Ahd.new0 f rfl
    have b4 : h1.blk g.next = some (.cells zeroL 25 none) := by rw [← hh1]; exact new_blk_new rfl
    have n1 : h1.next = g.next + 1 := by rw [← hh1]; rfl
    have kl : k < g.next := f.lt b
    have b1 := b.mod (t1.mod (M := fun _ => False)) (fun h => h)
    obtain ⟨c0, c1, c2, c3⟩ := b1.at (E := E)
    have st4 : ∀ {h : H}, h.blk g.next = some (.cells zeroL 25 none) → astore tab 25 (own g.next) (.agg ⟨zeroL⟩) h = some (h.setl g.next (.cells zeroL 25 none)) := fun hb => astore_all qty25 hb rfl rfl rfl (by simp [zeroL])
    have low : ∀ {h : H}, Mod (fun j => j = k ∨ g.next ≤ j) g h → Mod (fun j => j = k) g h := fun m => m.low f (fun _ h => h)
    have up : ∀ {h h' : H}, Mod (fun j => j = k) h h' → Mod (fun j => j = k ∨ g.next ≤ j) h h' := fun m => m.sub (fun _ h => .inl h)
    have fin : ∀ {h : H} {p it : Nat} {e : Int} {A0 : Ac}, A0.defers = [] → A0.get 4 = .pointer (some (own g.next)) → A0.get 5 = .bool false → Mod (fun j => j = k ∨ g.next ≤ j) g h → h.blk g.next = some (.cells zeroL 25 none) → Src k bs p e it h → rdItem bs 0 pos items = .bad p e →
        (Ex.ret = .normal ∨ Ex.ret = .ret) ∧ ∃ h2 v', takeAll A0.defers h = some h2 ∧ ares tab E Tryd.f56 A0 h2 = some v' ∧ (∃ l z, v' = .tuple #[.agg ⟨l⟩, z] ∧ Mod (fun j => j = k) g h2 ∧ ItemQ E k bs (rdItem bs 0 pos items) g.next l z h2) := by
      intro h p it e A0 d0 q4 q5 m hb bb he
      refine ⟨.inr rfl, h, .tuple #[.agg ⟨zeroL⟩, .bool false], by rw [d0]; rfl, ?_, zeroL, .bool false, rfl, low m, ?_⟩
      · have hc : h.cells E (own g.next) 4 = some zeroL := blk_cells hb rfl rfl
        unfold ares
        rw [show Tryd.f56.results = #[.cell 4 25, .tmp 5] from rfl]
        simp only [aresL, ares1, q4, q5, qld25, hc]
      · rw [he]
        exact ⟨rfl, rfl, it, bb⟩
    by_cases h1e : pos = bs.length
    · -- the bytes end
      have e2 : decide ((pos : Int) = (bs.length : Int)) = true := by simp; omega
      have hn : bs[pos]? = none := by rw [List.getElem?_eq_none_iff]; omega
      have he : rdItem bs 0 pos items = .bad pos 4 := by rw [rdItem, hn]
      obtain ⟨nf, g', ck, m, b'⟩ := fail81 (E := E) (I := I) hI81 t1.fit.fresh (show Src k bs pos 0 items (fresh h1) from b1) 4 pos
      obtain ⟨m', _, hn', _⟩ := Mod.back t1.fit m
      have b4' := m'.blk _ _ (by omega) b4
      have b'' : Src k bs pos 4 items (back h1 g') := b'.back
      generalize hh2 : back h1 g' = h2 at m' b4' b'' hn'
      have s1 := st4 (h := fresh h2) b4'
      have m2 := (Mod.refl (M := fun j => j = g.next) m'.fit).setl (B := .cells zeroL 25 none) rfl rfl (m'.fit.lt b4')
      repeat' (first | (with_reducible apply Wc.seq) | (apply Wc.ops; (focus ((repeat' (first | with_reducible exact RO.nil | ((with_reducible apply RO.run (awant_none rfl)); (focus ((first | simp +decide only [awant, ayield_get, oper1, aop, opv, opvs, opvo, opvp, abuiltin, aun, Gx, abin, isShift, aint, roV, pair, bind, Option.bind, acall, Sx, n0, qtz25, hh1] | skip); with_reducible rfl))))); done))) | (refine Wc.cond2 (by simp +decide only [opv, Gx, Sx, n0, qtz25, hh1]; try with_reducible rfl) (fun hb => ?_) (fun hb => ?_) <;> try contradiction) | refine Wc.skip ?_ | refine Wc.ret ?_ | refine Wc.exit ?_ | refine Wc.block ?_)
      refine Wc.drawC 1 (by kernel_rfl) ?_
      (iterate 12 (first | ((apply FC.pure rfl rfl); (focus ((first | simp +decide only [awant, ayield_get, oper1, aop, opv, opvs, opvo, opvp, abuiltin, aun, Gx, abin, isShift, aint, roV, pair, bind, Option.bind, acall, Sx, n0, q0, Qx, Hx, c0, c1, e2] | skip); with_reducible rfl))) | ((apply FC.new rfl rfl); (focus ((first | simp +decide only [awant, ayield_get, oper1, aop, opv, opvs, opvo, opvp, abuiltin, aun, Gx, abin, isShift, aint, roV, pair, bind, Option.bind, acall, Sx, n0, q0, Qx, Hx, c0, c1, e2] | skip); with_reducible rfl)))))
      refine FC.nil ?_
      repeat' (first | (with_reducible apply Wc.seq) | (apply Wc.ops; (focus ((repeat' (first | with_reducible exact RO.nil | ((with_reducible apply RO.run (awant_none rfl)); (focus ((first | simp +decide only [awant, ayield_get, oper1, aop, opv, opvs, opvo, opvp, abuiltin, aun, Gx, abin, isShift, aint, roV, pair, bind, Option.bind, acall, Sx, n0] | skip); with_reducible rfl))))); done))) | (refine Wc.cond2 (by simp +decide only [opv, Gx, Sx, n0]; try with_reducible rfl) (fun hb => ?_) (fun hb => ?_) <;> try contradiction) | refine Wc.skip ?_ | refine Wc.ret ?_ | refine Wc.exit ?_ | refine Wc.block ?_)
      refine Wc.drawQ nf (by kernel_rfl) ?_
      (iterate 9 (first | ((apply FQ.pure rfl rfl); (focus ((first | simp +decide only [awant, ayield_get, oper1, aop, opv, opvs, opvo, opvp, abuiltin, aun, Gx, abin, isShift, aint, roV, pair, bind, Option.bind, acall, Sx, n0, q0, Qx, Hx, c1, qbu25z] | skip); with_reducible rfl))) | ((apply FQ.new rfl rfl); (focus ((first | simp +decide only [awant, ayield_get, oper1, aop, opv, opvs, opvo, opvp, abuiltin, aun, Gx, abin, isShift, aint, roV, pair, bind, Option.bind, acall, Sx, n0, q0, Qx, Hx, c1, qbu25z] | skip); with_reducible rfl)))))
      refine FQ.mod (h1 := g') (x := .bool false) rfl rfl (by simp +decide only [awant, ayield_get, oper1, aop, opv, opvs, opvo, opvp, abuiltin, aun, Gx, abin, isShift, aint, roV, pair, bind, Option.bind, acall, Sx, n0, q0, Qx, Hx, ck]) ?_
      rw [hh2]
      refine FQ.setl (k := g.next) rfl rfl (m'.fit.lt b4') (by simp +decide only [awant, ayield_get, oper1, aop, opv, opvs, opvo, opvp, abuiltin, aun, Gx, abin, isShift, aint, roV, pair, bind, Option.bind, acall, Sx, n0, s1]; with_reducible rfl) ?_
      (iterate 1 (first | ((apply FQ.pure rfl rfl); (focus ((first | simp +decide only [awant, ayield_get, oper1, aop, opv, opvs, opvo, opvp, abuiltin, aun, Gx, abin, isShift, aint, roV, pair, bind, Option.bind, acall, Sx, n0, q0] | skip); with_reducible rfl))) | ((apply FQ.new rfl rfl); (focus ((first | simp +decide only [awant, ayield_get, oper1, aop, opv, opvs, opvo, opvp, abuiltin, aun, Gx, abin, isShift, aint, roV, pair, bind, Option.bind, acall, Sx, n0, q0] | skip); with_reducible rfl)))))
      refine FQ.nil ⟨?_, ?_⟩
      · exact allMeet_but [9, 10] 12 [(0, 9)] rfl rfl (by kernel_rfl) (fun _ _ _ _ hU e1 e2 => by simp only [List.mem_cons, Prod.mk.injEq, List.not_mem_nil, or_false] at hU; rcases hU with ⟨rfl, rfl⟩ <;> (cases e1; cases e2; exact meets_right (l := []) rfl rfl (fun _ _ => List.not_mem_nil) rfl (fun j _ => Nat.lt_or_ge _ _)))
      refine Wc.ret ?_
      exact fin (by simp +decide only [Gx, Sx, d0]) (by simp +decide only [Gx, Sx, n0]) (by simp +decide only [Gx, Sx, n0]) ((up m').sub (fun _ h => h) |> fun x => (t1.mod.trans (up m')).trans (m2.sub fun j hj => .inr (by omega))) (setl_same rfl) (b''.mod m2 (by omega)) he
    have hlt : pos < bs.length := by omega
    obtain ⟨hd, hc⟩ : ∃ c, bs[pos]? = some c := ⟨bs[pos], List.getElem?_eq_getElem hlt⟩
    have e2 : decide ((pos : Int) = (bs.length : Int)) = false := by simp; omega
    have he : rdItem bs 0 pos items = .bad pos 11 := by rw [rdItem, hc]
    obtain ⟨nb, vb, h2, cb, mb, hb⟩ := begins82 (E := E) (I := I) hI82 t1.fit b1 hi 251
    have b42 := mb.blk _ _ (by omega) b4
    have M2 : Mod (fun j => j = k ∨ g.next ≤ j) g h2 := t1.mod.trans (up mb)
    have s1 := st4 b42
    have m3 := (Mod.refl (M := fun j => j = g.next) mb.fit).setl (B := .cells zeroL 25 none) rfl rfl (mb.fit.lt b42)
    rcases hb with ⟨_, rfl, bb⟩ | ⟨hb, _⟩ | ⟨hb, _⟩
    · repeat' (first | (with_reducible apply Wc.seq) | (apply Wc.ops; (focus ((repeat' (first | with_reducible exact RO.nil | ((with_reducible apply RO.run (awant_none rfl)); (focus ((first | simp +decide only [awant, ayield_get, oper1, aop, opv, opvs, opvo, opvp, abuiltin, aun, Gx, abin, isShift, aint, roV, pair, bind, Option.bind, acall, Sx, n0, qtz25, hh1] | skip); with_reducible rfl))))); done))) | (refine Wc.cond2 (by simp +decide only [opv, Gx, Sx, n0, qtz25, hh1]; try with_reducible rfl) (fun hb => ?_) (fun hb => ?_) <;> try contradiction) | refine Wc.skip ?_ | refine Wc.ret ?_ | refine Wc.exit ?_ | refine Wc.block ?_)
      refine Wc.drawC 1 (by kernel_rfl) ?_
      (iterate 12 (first | ((apply FC.pure rfl rfl); (focus ((first | simp +decide only [awant, ayield_get, oper1, aop, opv, opvs, opvo, opvp, abuiltin, aun, Gx, abin, isShift, aint, roV, pair, bind, Option.bind, acall, Sx, n0, q0, Qx, Hx, c0, c1, e2] | skip); with_reducible rfl))) | ((apply FC.new rfl rfl); (focus ((first | simp +decide only [awant, ayield_get, oper1, aop, opv, opvs, opvo, opvp, abuiltin, aun, Gx, abin, isShift, aint, roV, pair, bind, Option.bind, acall, Sx, n0, q0, Qx, Hx, c0, c1, e2] | skip); with_reducible rfl)))))
      refine FC.nil ?_
      repeat' (first | (with_reducible apply Wc.seq) | (apply Wc.opsN nb; (focus ((repeat' (first | with_reducible exact RO.nil | ((with_reducible apply RO.run (awant_none rfl)); (focus ((first | simp +decide only [awant, ayield_get, oper1, aop, opv, opvs, opvo, opvp, abuiltin, aun, Gx, abin, isShift, aint, roV, pair, bind, Option.bind, acall, Sx, n0, q0, q1, Qx, Hx, cb, qbu25z, s1] | skip); with_reducible rfl))))); done))) | (refine Wc.cond2 (by simp +decide only [opv, Gx, Sx, n0, q0, q1, Qx, Hx, cb, qbu25z, s1]; try with_reducible rfl) (fun hb => ?_) (fun hb => ?_) <;> try contradiction) | refine Wc.skip ?_ | refine Wc.ret ?_ | refine Wc.exit ?_ | refine Wc.block ?_)
      exact fin (by simp +decide only [Gx, Sx, d0]) (by simp +decide only [Gx, Sx, n0]) (by simp +decide only [Gx, Sx, n0]) (M2.trans (m3.sub fun j hj => .inr (by omega))) (setl_same rfl) (bb.mod m3 (by omega)) he
    · omega
    · omega
  | succ fu IH =>
  intro hfu g pos items f b hp hi
  have hI81 : ∀ args h, I 81 args h = none := fun args h => hI _ args h (by simp)
  have hI82 : ∀ f args h, (f = 82 ∨ f = 81) → I f args h = none := fun f args h hf => hI f args h (by rcases hf with h | h <;> simp [h])
  have hI117 : ∀ f args h, (f = 117 ∨ f = 118 ∨ f = 81) → I f args h = none := fun f args h hf => hI f args h (by rcases hf with h | h | h <;> simp [h])
  have hI119 : ∀ f args h, (f = 119 ∨ f = 118 ∨ f = 81) → I f args h = none := fun f args h hf => hI f args h (by rcases hf with h | h | h <;> simp [h])
  have hI120 : ∀ f args h, (f = 120 ∨ f = 118 ∨ f = 81) → I f args h = none := fun f args h hf => hI f args h (by rcases hf with h | h | h <;> simp [h])
  have RI := IH (by omega)
  have hlv : ((251 - (fu + 1) : Nat) : Int) = ((250 - fu : Nat) : Int) := by omega
  rw [show 251 - (fu + 1) = 250 - fu by omega]
  refine Wc.call (hI _ _ _ (.inl rfl)) fn56 rfl ?_
  generalize hA0 : (⟨T.ofList [.pointer (some (own k)), .int .i64 (250 - fu : Nat)] 0 .nil, max ([.pointer (some (own k)), .int .i64 (250 - fu : Nat)] : List Value).length Tryd.f56.ntmps, []⟩ : Ac) = A0
  have n0 : A0.n = 99 := by rw [← hA0]; rfl
  have q0 : A0.get 0 = .pointer (some (own k)) := by rw [← hA0]; rfl
  have q1 : A0.get 1 = .int .i64 (250 - fu : Nat) := by rw [← hA0]; rfl
  have d0 : A0.defers = [] := by rw [← hA0]
  clear hA0
  generalize hh1 : g.new (.cells (Value.agg #[.int .i64 0, .int .i64 0, .string ⟨#[]⟩, .slice none 0 0]).cells.toList 25 none) = h1
  have t1 : Ahd g h1 := by rw [← hh1]; exact Ahd.new0 f rfl
  have b4 : h1.blk g.next = some (.cells zeroL 25 none) := by rw [← hh1]; exact new_blk_new rfl
  have n1 : h1.next = g.next + 1 := by rw [← hh1]; rfl
  have kl : k < g.next := f.lt b
  have b1 := b.mod (t1.mod (M := fun _ => False)) (fun h => h)
  obtain ⟨c0, c1, c2, c3⟩ := b1.at (E := E)
  have st4 : ∀ {h : H}, h.blk g.next = some (.cells zeroL 25 none) → astore tab 25 (own g.next) (.agg ⟨zeroL⟩) h = some (h.setl g.next (.cells zeroL 25 none)) := fun hb => astore_all qty25 hb rfl rfl rfl (by simp [zeroL])
  have low : ∀ {h : H}, Mod (fun j => j = k ∨ g.next ≤ j) g h → Mod (fun j => j = k) g h := fun m => m.low f (fun _ h => h)
  have up : ∀ {h h' : H}, Mod (fun j => j = k) h h' → Mod (fun j => j = k ∨ g.next ≤ j) h h' := fun m => m.sub (fun _ h => .inl h)
  have fin : ∀ {h : H} {p it : Nat} {e : Int} {A0 : Ac}, A0.defers = [] → A0.get 4 = .pointer (some (own g.next)) → A0.get 5 = .bool false → Mod (fun j => j = k ∨ g.next ≤ j) g h → h.blk g.next = some (.cells zeroL 25 none) → Src k bs p e it h → rdItem bs (fu + 1) pos items = .bad p e →
      (Ex.ret = .normal ∨ Ex.ret = .ret) ∧ ∃ h2 v', takeAll A0.defers h = some h2 ∧ ares tab E Tryd.f56 A0 h2 = some v' ∧ (∃ l z, v' = .tuple #[.agg ⟨l⟩, z] ∧ Mod (fun j => j = k) g h2 ∧ ItemQ E k bs (rdItem bs (fu + 1) pos items) g.next l z h2) := by
    intro h p it e A0 d0 q4 q5 m hb bb he
    refine ⟨.inr rfl, h, .tuple #[.agg ⟨zeroL⟩, .bool false], by rw [d0]; rfl, ?_, zeroL, .bool false, rfl, low m, ?_⟩
    · have hc : h.cells E (own g.next) 4 = some zeroL := blk_cells hb rfl rfl
      unfold ares
      rw [show Tryd.f56.results = #[.cell 4 25, .tmp 5] from rfl]
      simp only [aresL, ares1, q4, q5, qld25, hc]
    · rw [he]
      exact ⟨rfl, rfl, it, bb⟩
  by_cases h1e : pos = bs.length
  · -- the bytes end
    have e2 : decide ((pos : Int) = (bs.length : Int)) = true := by simp; omega
    have hn : bs[pos]? = none := by rw [List.getElem?_eq_none_iff]; omega
    have he : rdItem bs (fu + 1) pos items = .bad pos 4 := by rw [rdItem, hn]
    obtain ⟨nf, g', ck, m, b'⟩ := fail81 (E := E) (I := I) hI81 t1.fit.fresh (show Src k bs pos 0 items (fresh h1) from b1) 4 pos
    obtain ⟨m', _, hn', _⟩ := Mod.back t1.fit m
    have b4' := m'.blk _ _ (by omega) b4
    have b'' : Src k bs pos 4 items (back h1 g') := b'.back
    generalize hh2 : back h1 g' = h2 at m' b4' b'' hn'
    have s1 := st4 (h := fresh h2) b4'
    have m2 := (Mod.refl (M := fun j => j = g.next) m'.fit).setl (B := .cells zeroL 25 none) rfl rfl (m'.fit.lt b4')
    repeat' (first | (with_reducible apply Wc.seq) | (apply Wc.ops; (focus ((repeat' (first | with_reducible exact RO.nil | ((with_reducible apply RO.run (awant_none rfl)); (focus ((first | simp +decide only [awant, ayield_get, oper1, aop, opv, opvs, opvo, opvp, abuiltin, aun, Gx, abin, isShift, aint, roV, pair, bind, Option.bind, acall, Sx, n0, qtz25, hh1] | skip); with_reducible rfl))))); done))) | (refine Wc.cond2 (by simp +decide only [opv, Gx, Sx, n0, qtz25, hh1]; try with_reducible rfl) (fun hb => ?_) (fun hb => ?_) <;> try contradiction) | refine Wc.skip ?_ | refine Wc.ret ?_ | refine Wc.exit ?_ | refine Wc.block ?_)
    refine Wc.drawC 1 (by kernel_rfl) ?_
    (iterate 12 (first | ((apply FC.pure rfl rfl); (focus ((first | simp +decide only [awant, ayield_get, oper1, aop, opv, opvs, opvo, opvp, abuiltin, aun, Gx, abin, isShift, aint, roV, pair, bind, Option.bind, acall, Sx, n0, q0, Qx, Hx, c0, c1, e2] | skip); with_reducible rfl))) | ((apply FC.new rfl rfl); (focus ((first | simp +decide only [awant, ayield_get, oper1, aop, opv, opvs, opvo, opvp, abuiltin, aun, Gx, abin, isShift, aint, roV, pair, bind, Option.bind, acall, Sx, n0, q0, Qx, Hx, c0, c1, e2] | skip); with_reducible rfl)))))
    refine FC.nil ?_
    repeat' (first | (with_reducible apply Wc.seq) | (apply Wc.ops; (focus ((repeat' (first | with_reducible exact RO.nil | ((with_reducible apply RO.run (awant_none rfl)); (focus ((first | simp +decide only [awant, ayield_get, oper1, aop, opv, opvs, opvo, opvp, abuiltin, aun, Gx, abin, isShift, aint, roV, pair, bind, Option.bind, acall, Sx, n0] | skip); with_reducible rfl))))); done))) | (refine Wc.cond2 (by simp +decide only [opv, Gx, Sx, n0]; try with_reducible rfl) (fun hb => ?_) (fun hb => ?_) <;> try contradiction) | refine Wc.skip ?_ | refine Wc.ret ?_ | refine Wc.exit ?_ | refine Wc.block ?_)
    refine Wc.drawQ nf (by kernel_rfl) ?_
    (iterate 9 (first | ((apply FQ.pure rfl rfl); (focus ((first | simp +decide only [awant, ayield_get, oper1, aop, opv, opvs, opvo, opvp, abuiltin, aun, Gx, abin, isShift, aint, roV, pair, bind, Option.bind, acall, Sx, n0, q0, Qx, Hx, c1, qbu25z] | skip); with_reducible rfl))) | ((apply FQ.new rfl rfl); (focus ((first | simp +decide only [awant, ayield_get, oper1, aop, opv, opvs, opvo, opvp, abuiltin, aun, Gx, abin, isShift, aint, roV, pair, bind, Option.bind, acall, Sx, n0, q0, Qx, Hx, c1, qbu25z] | skip); with_reducible rfl)))))
    refine FQ.mod (h1 := g') (x := .bool false) rfl rfl (by simp +decide only [awant, ayield_get, oper1, aop, opv, opvs, opvo, opvp, abuiltin, aun, Gx, abin, isShift, aint, roV, pair, bind, Option.bind, acall, Sx, n0, q0, Qx, Hx, ck]) ?_
    rw [hh2]
    refine FQ.setl (k := g.next) rfl rfl (m'.fit.lt b4') (by simp +decide only [awant, ayield_get, oper1, aop, opv, opvs, opvo, opvp, abuiltin, aun, Gx, abin, isShift, aint, roV, pair, bind, Option.bind, acall, Sx, n0, s1]; with_reducible rfl) ?_
    (iterate 1 (first | ((apply FQ.pure rfl rfl); (focus ((first | simp +decide only [awant, ayield_get, oper1, aop, opv, opvs, opvo, opvp, abuiltin, aun, Gx, abin, isShift, aint, roV, pair, bind, Option.bind, acall, Sx, n0, q0] | skip); with_reducible rfl))) | ((apply FQ.new rfl rfl); (focus ((first | simp +decide only [awant, ayield_get, oper1, aop, opv, opvs, opvo, opvp, abuiltin, aun, Gx, abin, isShift, aint, roV, pair, bind, Option.bind, acall, Sx, n0, q0] | skip); with_reducible rfl)))))
    refine FQ.nil ⟨?_, ?_⟩
    · exact allMeet_but [9, 10] 12 [(0, 9)] rfl rfl (by kernel_rfl) (fun _ _ _ _ hU e1 e2 => by simp only [List.mem_cons, Prod.mk.injEq, List.not_mem_nil, or_false] at hU; rcases hU with ⟨rfl, rfl⟩ <;> (cases e1; cases e2; exact meets_right (l := []) rfl rfl (fun _ _ => List.not_mem_nil) rfl (fun j _ => Nat.lt_or_ge _ _)))
    refine Wc.ret ?_
    exact fin (by simp +decide only [Gx, Sx, d0]) (by simp +decide only [Gx, Sx, n0]) (by simp +decide only [Gx, Sx, n0]) ((up m').sub (fun _ h => h) |> fun x => (t1.mod.trans (up m')).trans (m2.sub fun j hj => .inr (by omega))) (setl_same rfl) (b''.mod m2 (by omega)) he
  have hlt : pos < bs.length := by omega
  obtain ⟨hd, hc⟩ : ∃ c, bs[pos]? = some c := ⟨bs[pos], List.getElem?_eq_getElem hlt⟩
  have hc8 : hd.toNat < 256 := hd.toNat_lt
  have e2 : decide ((pos : Int) = (bs.length : Int)) = false := by simp; omega
  have eR : rdItem bs (fu + 1) pos items = (if 5000 ≤ items then .bad pos 2
      else if hd.toNat % 64 = 0 then .bad pos 4
      else match rdN bs 0 1099511627776 (pos + 1) (items + 1) with
        | .bad p e => .bad p e
        | .ok n p items => match (if hd.toNat / 64 % 2 = 1 then rdText bs p items else .ok ⟨⟨[]⟩⟩ p items) with
          | .bad p e => .bad p e
          | .ok tx p items => match (if 128 ≤ hd.toNat then rdKidsN bs (rdItem bs fu) p items else .ok [] p items) with
            | .bad p e => .bad p e
            | .ok ks p items => .ok (.mk (hd.toNat % 64 : Nat) (n : Nat) tx ks) p items) := by rw [rdItem, hc]; rfl
  generalize rdItem bs (fu + 1) pos items = R at eR fin ⊢
  obtain ⟨nb, vb, h2, cb, mb, hb⟩ := begins82 (E := E) (I := I) hI82 t1.fit b1 hi (250 - fu)
  have b42 := mb.blk _ _ (by omega) b4
  have M2 : Mod (fun j => j = k ∨ g.next ≤ j) g h2 := t1.mod.trans (up mb)
  repeat' (first | (with_reducible apply Wc.seq) | (apply Wc.ops; (focus ((repeat' (first | with_reducible exact RO.nil | ((with_reducible apply RO.run (awant_none rfl)); (focus ((first | simp +decide only [awant, ayield_get, oper1, aop, opv, opvs, opvo, opvp, abuiltin, aun, Gx, abin, isShift, aint, roV, pair, bind, Option.bind, acall, Sx, n0, qtz25, hh1] | skip); with_reducible rfl))))); done))) | (refine Wc.cond2 (by simp +decide only [opv, Gx, Sx, n0, qtz25, hh1]; try with_reducible rfl) (fun hb => ?_) (fun hb => ?_) <;> try contradiction) | refine Wc.skip ?_ | refine Wc.ret ?_ | refine Wc.exit ?_ | refine Wc.block ?_)
  refine Wc.drawC 1 (by kernel_rfl) ?_
  (iterate 12 (first | ((apply FC.pure rfl rfl); (focus ((first | simp +decide only [awant, ayield_get, oper1, aop, opv, opvs, opvo, opvp, abuiltin, aun, Gx, abin, isShift, aint, roV, pair, bind, Option.bind, acall, Sx, n0, q0, Qx, Hx, c0, c1, e2] | skip); with_reducible rfl))) | ((apply FC.new rfl rfl); (focus ((first | simp +decide only [awant, ayield_get, oper1, aop, opv, opvs, opvo, opvp, abuiltin, aun, Gx, abin, isShift, aint, roV, pair, bind, Option.bind, acall, Sx, n0, q0, Qx, Hx, c0, c1, e2] | skip); with_reducible rfl)))))
  refine FC.nil ?_
  rcases hb with ⟨hb, _⟩ | ⟨_, h5, rfl, bb⟩ | ⟨_, h5, rfl, bb⟩
  · omega
  · -- too many
    have s1 := st4 b42
    have m3 := (Mod.refl (M := fun j => j = g.next) mb.fit).setl (B := .cells zeroL 25 none) rfl rfl (mb.fit.lt b42)
    rw [if_pos (by omega)] at eR
    repeat' (first | (with_reducible apply Wc.seq) | (apply Wc.opsN nb; (focus ((repeat' (first | with_reducible exact RO.nil | ((with_reducible apply RO.run (awant_none rfl)); (focus ((first | simp +decide only [awant, ayield_get, oper1, aop, opv, opvs, opvo, opvp, abuiltin, aun, Gx, abin, isShift, aint, roV, pair, bind, Option.bind, acall, Sx, n0, q0, q1, Qx, Hx, cb, qbu25z, s1] | skip); with_reducible rfl))))); done))) | (refine Wc.cond2 (by simp +decide only [opv, Gx, Sx, n0, q0, q1, Qx, Hx, cb, qbu25z, s1]; try with_reducible rfl) (fun hb => ?_) (fun hb => ?_) <;> try contradiction) | refine Wc.skip ?_ | refine Wc.ret ?_ | refine Wc.exit ?_ | refine Wc.block ?_)
    exact fin (by simp +decide only [Gx, Sx, d0]) (by simp +decide only [Gx, Sx, n0]) (by simp +decide only [Gx, Sx, n0]) (M2.trans (m3.sub fun j hj => .inr (by omega))) (setl_same rfl) (bb.mod m3 (by omega)) eR
  rw [if_neg (by omega)] at eR
  obtain ⟨c0, c1, c2, c3⟩ := bb.at (E := E)
  have ix := qix9 hc
  have a1 := and63 hd.toNat hc8
  have w0 : IntKind.i64.wrap ((hd.toNat % 64 : Nat) : Int) = ((hd.toNat % 64 : Nat) : Int) := wrapN (by omega)
  have bk := qbu25k ((hd.toNat % 64 : Nat) : Int)
  generalize hh3 : h2.new (.cells (Value.agg #[.int .i64 0, .int .i64 0, .string ⟨#[]⟩, .slice none 0 0]).cells.toList 25 none) = h3
  have t3 : Ahd h2 h3 := by rw [← hh3]; exact Ahd.new0 mb.fit rfl
  have b7 : h3.blk h2.next = some (.cells zeroL 25 none) := by rw [← hh3]; exact new_blk_new rfl
  have s7 : astore tab 25 (own h2.next) (.agg ⟨[.int .i64 (hd.toNat % 64 : Nat), .int .i64 0, .string ⟨#[]⟩, .slice none 0 0]⟩) h3 = some (h3.setl h2.next (.cells [.int .i64 (hd.toNat % 64 : Nat), .int .i64 0, .string ⟨#[]⟩, .slice none 0 0] 25 none)) := astore_all qty25 b7 rfl rfl rfl (by simp)
  have t4 : Ahd h2 (h3.setl h2.next (.cells [.int .i64 (hd.toNat % 64 : Nat), .int .i64 0, .string ⟨#[]⟩, .slice none 0 0] 25 none)) := t3.setl rfl (Nat.le_refl _) (t3.fit.lt b7) mb.fit
  have b7 := setl_same (h := h3) (k := h2.next) (B := .cells [.int .i64 (hd.toNat % 64 : Nat), .int .i64 0, .string ⟨#[]⟩, .slice none 0 0] 25 none) rfl
  generalize h3.setl h2.next (.cells [.int .i64 (hd.toNat % 64 : Nat), .int .i64 0, .string ⟨#[]⟩, .slice none 0 0] 25 none) = h4 at s7 t4 b7
  have hk7 : g.next < h2.next := mb.fit.lt b42
  generalize hk7e : h2.next = k7 at *
  have b44 := t4.grows _ _ b42
  have M4 := M2.ahd t4
  have b5 := bb.mod (t4.mod (M := fun _ => False)) (fun h => h)
  have kd0 := cell_blk0 (E := E) b7
  repeat' (first | (with_reducible apply Wc.seq) | (apply Wc.opsN nb; (focus ((repeat' (first | with_reducible exact RO.nil | ((with_reducible apply RO.run (awant_none rfl)); (focus ((first | simp +decide only [awant, ayield_get, oper1, aop, opv, opvs, opvo, opvp, abuiltin, aun, Gx, abin, isShift, aint, roV, pair, bind, Option.bind, acall, Sx, n0, q0, q1, Qx, Hx, cb] | skip); with_reducible rfl))))); done))) | (refine Wc.cond2 (by simp +decide only [opv, Gx, Sx, n0, q0, q1, Qx, Hx, cb]; try with_reducible rfl) (fun hb => ?_) (fun hb => ?_) <;> try contradiction) | refine Wc.skip ?_ | refine Wc.ret ?_ | refine Wc.exit ?_ | refine Wc.block ?_)
  refine Wc.drawC 1 (by kernel_rfl) ?_
  (iterate 12 (first | ((apply FC.pure rfl rfl); (focus ((first | simp +decide only [awant, ayield_get, oper1, aop, opv, opvs, opvo, opvp, abuiltin, aun, Gx, abin, isShift, aint, roV, pair, bind, Option.bind, acall, Sx, n0, q0, Qx, Hx, c0, c1, ix] | skip); with_reducible rfl))) | ((apply FC.new rfl rfl); (focus ((first | simp +decide only [awant, ayield_get, oper1, aop, opv, opvs, opvo, opvp, abuiltin, aun, Gx, abin, isShift, aint, roV, pair, bind, Option.bind, acall, Sx, n0, q0, Qx, Hx, c0, c1, ix] | skip); with_reducible rfl)))))
  refine FC.nil ?_
  repeat' (first | (with_reducible apply Wc.seq) | (apply Wc.ops; (focus ((repeat' (first | with_reducible exact RO.nil | ((with_reducible apply RO.run (awant_none rfl)); (focus ((first | simp +decide only [awant, ayield_get, oper1, aop, opv, opvs, opvo, opvp, abuiltin, aun, Gx, abin, isShift, aint, roV, pair, bind, Option.bind, acall, Sx, n0, a1, qcv5_3, w0, bk, qtz25, hh3, hk7e, s7] | skip); with_reducible rfl))))); done))) | (refine Wc.cond2 (by simp +decide only [opv, Gx, Sx, n0, a1, qcv5_3, w0, bk, qtz25, hh3, hk7e, s7]; try with_reducible rfl) (fun hb => ?_) (fun hb => ?_) <;> try contradiction) | refine Wc.skip ?_ | refine Wc.ret ?_ | refine Wc.exit ?_ | refine Wc.block ?_)
  refine Wc.forget (fun A => A.n = 99 ∧ A.defers = [] ∧ A.get 0 = .pointer (some (own k)) ∧ A.get 1 = .int .i64 (250 - fu : Nat) ∧ A.get 4 = .pointer (some (own g.next)) ∧ A.get 6 = .int .u8 (hd.toNat : Nat) ∧ A.get 7 = .pointer (some (own k7))) ⟨by simp +decide only [Gx, Sx, n0], by simp +decide only [Gx, Sx, d0], by first | (simp +decide only [Gx, Sx, n0, q0, q1]; done) | (simp +decide only [Gx, Sx, n0, q0, q1]; rfl), by first | (simp +decide only [Gx, Sx, n0, q0, q1]; done) | (simp +decide only [Gx, Sx, n0, q0, q1]; rfl), by first | (simp +decide only [Gx, Sx, n0, q0, q1]; done) | (simp +decide only [Gx, Sx, n0, q0, q1]; rfl), by first | (simp +decide only [Gx, Sx, n0, q0, q1]; done) | (simp +decide only [Gx, Sx, n0, q0, q1]; rfl), by first | (simp +decide only [Gx, Sx, n0, q0, q1]; done) | (simp +decide only [Gx, Sx, n0, q0, q1]; rfl)⟩ ?_
  rintro A0 ⟨n0, d0, q0, q1, q4, q6, q7⟩
  by_cases hk0 : hd.toNat % 64 = 0
  · have e3 : decide (((hd.toNat % 64 : Nat) : Int) = 0) = true := by simp; omega
    rw [if_pos hk0] at eR
    obtain ⟨nf, g', ck, m, b'⟩ := fail81 (E := E) (I := I) hI81 t4.fit.fresh (show Src k bs pos 0 (items + 1) (fresh h4) from b5) 4 pos
    obtain ⟨m', _, hn', _⟩ := Mod.back t4.fit m
    have b4' := m'.blk _ _ (by omega) b44
    have b'' : Src k bs pos 4 (items + 1) (back h4 g') := b'.back
    generalize hh5 : back h4 g' = h5 at m' b4' b'' hn'
    have s1 := st4 (h := fresh h5) b4'
    have m5 := (Mod.refl (M := fun j => j = g.next) m'.fit).setl (B := .cells zeroL 25 none) rfl rfl (m'.fit.lt b4')
    obtain ⟨_, c1, _, _⟩ := b5.at (E := E)
    repeat' (first | (with_reducible apply Wc.seq) | (apply Wc.ops; (focus ((repeat' (first | with_reducible exact RO.nil | ((with_reducible apply RO.run (awant_none rfl)); (focus ((first | simp +decide only [awant, ayield_get, oper1, aop, opv, opvs, opvo, opvp, abuiltin, aun, Gx, abin, isShift, aint, roV, pair, bind, Option.bind, acall, Sx, n0, q7, Qx, Hx, kd0, e3] | skip); with_reducible rfl))))); done))) | (refine Wc.cond2 (by simp +decide only [opv, Gx, Sx, n0, q7, Qx, Hx, kd0, e3]; try with_reducible rfl) (fun hb => ?_) (fun hb => ?_) <;> try contradiction) | refine Wc.skip ?_ | refine Wc.ret ?_ | refine Wc.exit ?_ | refine Wc.block ?_)
    refine Wc.drawQ nf (by kernel_rfl) ?_
    (iterate 9 (first | ((apply FQ.pure rfl rfl); (focus ((first | simp +decide only [awant, ayield_get, oper1, aop, opv, opvs, opvo, opvp, abuiltin, aun, Gx, abin, isShift, aint, roV, pair, bind, Option.bind, acall, Sx, n0, q0, Qx, Hx, c1, qbu25z] | skip); with_reducible rfl))) | ((apply FQ.new rfl rfl); (focus ((first | simp +decide only [awant, ayield_get, oper1, aop, opv, opvs, opvo, opvp, abuiltin, aun, Gx, abin, isShift, aint, roV, pair, bind, Option.bind, acall, Sx, n0, q0, Qx, Hx, c1, qbu25z] | skip); with_reducible rfl)))))
    refine FQ.mod (h1 := g') (x := .bool false) rfl rfl (by simp +decide only [awant, ayield_get, oper1, aop, opv, opvs, opvo, opvp, abuiltin, aun, Gx, abin, isShift, aint, roV, pair, bind, Option.bind, acall, Sx, n0, q0, Qx, Hx, ck]) ?_
    rw [hh5]
    refine FQ.setl (k := g.next) rfl rfl (m'.fit.lt b4') (by simp +decide only [awant, ayield_get, oper1, aop, opv, opvs, opvo, opvp, abuiltin, aun, Gx, abin, isShift, aint, roV, pair, bind, Option.bind, acall, Sx, n0, q4, s1]; with_reducible rfl) ?_
    (iterate 1 (first | ((apply FQ.pure rfl rfl); (focus ((first | simp +decide only [awant, ayield_get, oper1, aop, opv, opvs, opvo, opvp, abuiltin, aun, Gx, abin, isShift, aint, roV, pair, bind, Option.bind, acall, Sx, n0, q0] | skip); with_reducible rfl))) | ((apply FQ.new rfl rfl); (focus ((first | simp +decide only [awant, ayield_get, oper1, aop, opv, opvs, opvo, opvp, abuiltin, aun, Gx, abin, isShift, aint, roV, pair, bind, Option.bind, acall, Sx, n0, q0] | skip); with_reducible rfl)))))
    refine FQ.nil ⟨?_, ?_⟩
    · exact allMeet_but [9, 10] 12 [(0, 9)] rfl rfl (by kernel_rfl) (fun _ _ _ _ hU e1 e2 => by simp only [List.mem_cons, Prod.mk.injEq, List.not_mem_nil, or_false] at hU; rcases hU with ⟨rfl, rfl⟩ <;> (cases e1; cases e2; exact meets_right (l := []) rfl rfl (fun _ _ => List.not_mem_nil) rfl (fun j _ => Nat.lt_or_ge _ _)))
    refine Wc.ret ?_
    exact fin (by simp +decide only [Gx, Sx, d0]) (by simp +decide only [Gx, Sx, n0, q4]) (by simp +decide only [Gx, Sx, n0]) ((M4.trans (up m')).trans (m5.sub fun j hj => .inr (by omega))) (setl_same rfl) (b''.mod m5 (by omega)) eR
  have e3 : decide (((hd.toNat % 64 : Nat) : Int) = 0) = false := by simp; omega
  rw [if_neg hk0] at eR
  obtain ⟨_, c1, _, _⟩ := b5.at (E := E)
  have w1 : IntKind.i64.wrap ((pos : Int) + 1) = ((pos + 1 : Nat) : Int) := by rw [wrap64 (by omega) (by omega)]; omega
  obtain ⟨s5, b5'⟩ := b5.pos (pos + 1)
  have m5 := (Mod.refl (M := fun j => j = k) t4.fit).setl (B := .cells [.string ⟨⟨bs⟩⟩, .int .i64 (pos + 1 : Nat), .int .i64 0, .int .i64 (items + 1 : Nat)] 86 none) rfl rfl (t4.fit.lt b5)
  generalize h4.setl k (.cells [.string ⟨⟨bs⟩⟩, .int .i64 (pos + 1 : Nat), .int .i64 0, .int .i64 (items + 1 : Nat)] 86 none) = h5 at s5 b5' m5
  have b45 := m5.blk _ _ (by omega) b44
  have b75 := m5.blk _ _ (by omega) b7
  have M5 := M4.trans (up m5)
  obtain ⟨n9, h6, c9, t6⟩ := parts90 (E := E) (I := I) (fun args h => hI _ args h (by simp)) m5.fit
  have b46 := t6.grows _ _ b45
  have b76 := t6.grows _ _ b75
  have b6 := b5'.mod (t6.mod (M := fun _ => False)) (fun h => h)
  have M6 := M5.ahd t6
  repeat' (first | (with_reducible apply Wc.seq) | (apply Wc.opsN n9; (focus ((repeat' (first | with_reducible exact RO.nil | ((with_reducible apply RO.run (awant_none rfl)); (focus ((first | simp +decide only [awant, ayield_get, oper1, aop, opv, opvs, opvo, opvp, abuiltin, aun, Gx, abin, isShift, aint, roV, pair, bind, Option.bind, acall, Sx, n0, q0, q1, q4, q6, q7, Qx, Hx, kd0, e3, c1, w1, s5, c9] | skip); with_reducible rfl))))); done))) | (refine Wc.cond2 (by simp +decide only [opv, Gx, Sx, n0, q0, q1, q4, q6, q7, Qx, Hx, kd0, e3, c1, w1, s5, c9]; try with_reducible rfl) (fun hb => ?_) (fun hb => ?_) <;> try contradiction) | refine Wc.skip ?_ | refine Wc.ret ?_ | refine Wc.exit ?_ | refine Wc.block ?_)
  refine Wc.forget (fun A => A.n = 99 ∧ A.defers = [] ∧ A.get 0 = .pointer (some (own k)) ∧ A.get 1 = .int .i64 (250 - fu : Nat) ∧ A.get 4 = .pointer (some (own g.next)) ∧ A.get 6 = .int .u8 (hd.toNat : Nat) ∧ A.get 7 = .pointer (some (own k7)) ∧ A.get 74 = .agg ⟨partsL⟩ ∧ A.get 75 = .int .i64 0) ⟨by simp +decide only [Gx, Sx, n0], by simp +decide only [Gx, Sx, d0], by first | (simp +decide only [Gx, Sx, n0, q0, q1, q4, q6, q7]; done) | (simp +decide only [Gx, Sx, n0, q0, q1, q4, q6, q7]; rfl), by first | (simp +decide only [Gx, Sx, n0, q0, q1, q4, q6, q7]; done) | (simp +decide only [Gx, Sx, n0, q0, q1, q4, q6, q7]; rfl), by first | (simp +decide only [Gx, Sx, n0, q0, q1, q4, q6, q7]; done) | (simp +decide only [Gx, Sx, n0, q0, q1, q4, q6, q7]; rfl), by first | (simp +decide only [Gx, Sx, n0, q0, q1, q4, q6, q7]; done) | (simp +decide only [Gx, Sx, n0, q0, q1, q4, q6, q7]; rfl), by first | (simp +decide only [Gx, Sx, n0, q0, q1, q4, q6, q7]; done) | (simp +decide only [Gx, Sx, n0, q0, q1, q4, q6, q7]; rfl), by first | (simp +decide only [Gx, Sx, n0, q0, q1, q4, q6, q7]; done) | (simp +decide only [Gx, Sx, n0, q0, q1, q4, q6, q7]; rfl), by first | (simp +decide only [Gx, Sx, n0, q0, q1, q4, q6, q7]; done) | (simp +decide only [Gx, Sx, n0, q0, q1, q4, q6, q7]; rfl)⟩ ?_
  rintro A0 ⟨n0, d0, q0, q1, q4, q6, q7, q74, q75⟩
  have mk9 : ∀ (h : H) (x y : Value), isOne x = true → isOne y = true → Fit h → ∃ hn h', h.new (.cells (Value.agg #[.int .u8 0, .nilFunc]).cells.toList 141 none) = hn ∧ astore tab 141 (own h.next) (.agg ⟨[x, y]⟩) hn = some h' ∧ Ahd h h' ∧ h'.blk h.next = some (.cells [x, y] 141 none) := by
    intro h x y ox oy fh
    have t : Ahd h (h.new (.cells (Value.agg #[.int .u8 0, .nilFunc]).cells.toList 141 none)) := Ahd.new0 fh rfl
    have bb : (h.new (.cells (Value.agg #[.int .u8 0, .nilFunc]).cells.toList 141 none)).blk h.next = some (.cells [.int .u8 0, .nilFunc] 141 none) := new_blk_new rfl
    exact ⟨_, _, rfl, astore_all qty141 bb rfl rfl (by simp [ox, oy]) (by simp), t.setl rfl (Nat.le_refl _) (t.fit.lt bb) fh, setl_same rfl⟩
  have w75 : ∀ i : Nat, i ≤ 10 → IntKind.i64.wrap ((i : Int) + 1) = ((i + 1 : Nat) : Int) := fun i hi => by rw [wrap64 (by omega) (by omega)]; omega
  have L3 : ∀ (A0 : Ac) (h : H) (p it nm base : Nat) (tx : ByteArray) (ks : List Hs.Item) (sl : Value), A0.n = 99 → A0.defers = [] → A0.get 0 = .pointer (some (own k)) → A0.get 1 = .int .i64 (250 - fu : Nat) → A0.get 4 = .pointer (some (own g.next)) → A0.get 6 = .int .u8 (hd.toNat : Nat) → A0.get 7 = .pointer (some (own k7)) → A0.get 74 = .agg ⟨partsL⟩ → A0.get 75 = .int .i64 3 → Mod (fun j => j = k ∨ g.next ≤ j) g h → h.blk g.next = some (.cells zeroL 25 none) → Src k bs p 0 it h → p ≤ bs.length → it ≤ 5000 → g.next ≤ base → ks.length < 1000000000 → R = .ok (.mk (hd.toNat % 64 : Nat) (nm : Nat) tx ks) p it → h.blk k7 = some (.cells [.int .i64 (hd.toNat % 64 : Nat), .int .i64 (nm : Nat), .string tx, sl] 25 none) → Kol E 25 base h.next h sl ks →
      Wc tab E I ⟨56, none⟩ (.loop loop56) A0 h (fun ex A' h' => A'.n = 99 ∧ A'.defers = [] ∧ A'.get 4 = .pointer (some (own g.next)) ∧ Mod (fun j => j = k ∨ g.next ≤ j) g h' ∧ h'.blk g.next = some (.cells zeroL 25 none) ∧ ((ex = .exit 0 ∧ A'.get 7 = .pointer (some (own k7)) ∧ ∃ (nm : Nat) (tx : ByteArray) (ks : List Hs.Item) (sl : Value) (p it base : Nat), g.next ≤ base ∧ ks.length < 1000000000 ∧ R = .ok (.mk (hd.toNat % 64 : Nat) (nm : Nat) tx ks) p it ∧ Src k bs p 0 it h' ∧ h'.blk k7 = some (.cells [.int .i64 (hd.toNat % 64 : Nat), .int .i64 (nm : Nat), .string tx, sl] 25 none) ∧ Kol E 25 base h'.next h' sl ks) ∨ (ex = .ret ∧ A'.get 5 = .bool false ∧ ∃ p e it, R = .bad p e ∧ Src k bs p e it h'))) := by
    intro A0 h p it nm base tx ks sl n0 d0 q0 q1 q4 q6 q7 q74 q75 M b4 b hp hit hbs hks hR b7 K
    apply Wc.loop
    simp only [loop56, loopOf, firstLoop, Option.getD, Tryd.f56]
    repeat' (first | (with_reducible apply Wc.seq) | (apply Wc.ops; (focus ((repeat' (first | with_reducible exact RO.nil | ((with_reducible apply RO.run (awant_none rfl)); (focus ((first | simp +decide only [awant, ayield_get, oper1, aop, opv, opvs, opvo, opvp, abuiltin, aun, Gx, abin, isShift, aint, roV, pair, bind, Option.bind, acall, Sx, n0, q75] | skip); with_reducible rfl))))); done))) | (refine Wc.cond2 (by simp +decide only [opv, Gx, Sx, n0, q75]; try with_reducible rfl) (fun hb => ?_) (fun hb => ?_) <;> try contradiction) | refine Wc.skip ?_ | refine Wc.ret ?_ | refine Wc.exit ?_ | refine Wc.block ?_)
    exact ⟨by simp +decide only [Gx, Sx, n0], by simp +decide only [Gx, Sx, d0], by simp +decide only [Gx, Sx, n0, q4], M, b4, .inl ⟨rfl, by simp +decide only [Gx, Sx, n0, q7], nm, tx, ks, sl, p, it, base, hbs, hks, hR, b, b7, K⟩⟩
  have L2 : ∀ (A0 : Ac) (h : H) (p it nm : Nat) (tx : ByteArray), A0.n = 99 → A0.defers = [] → A0.get 0 = .pointer (some (own k)) → A0.get 1 = .int .i64 (250 - fu : Nat) → A0.get 4 = .pointer (some (own g.next)) → A0.get 6 = .int .u8 (hd.toNat : Nat) → A0.get 7 = .pointer (some (own k7)) → A0.get 74 = .agg ⟨partsL⟩ → A0.get 75 = .int .i64 2 → Mod (fun j => j = k ∨ g.next ≤ j) g h → h.blk g.next = some (.cells zeroL 25 none) → Src k bs p 0 it h → p ≤ bs.length → it ≤ 5000 → R = (match (if 128 ≤ hd.toNat then rdKidsN bs (rdItem bs fu) p it else .ok [] p it) with
            | .bad p e => .bad p e
            | .ok ks p items => .ok (.mk (hd.toNat % 64 : Nat) (nm : Nat) tx ks) p items) → h.blk k7 = some (.cells [.int .i64 (hd.toNat % 64 : Nat), .int .i64 (nm : Nat), .string tx, .slice none 0 0] 25 none) →
      Wc tab E I ⟨56, none⟩ (.loop loop56) A0 h (fun ex A' h' => A'.n = 99 ∧ A'.defers = [] ∧ A'.get 4 = .pointer (some (own g.next)) ∧ Mod (fun j => j = k ∨ g.next ≤ j) g h' ∧ h'.blk g.next = some (.cells zeroL 25 none) ∧ ((ex = .exit 0 ∧ A'.get 7 = .pointer (some (own k7)) ∧ ∃ (nm : Nat) (tx : ByteArray) (ks : List Hs.Item) (sl : Value) (p it base : Nat), g.next ≤ base ∧ ks.length < 1000000000 ∧ R = .ok (.mk (hd.toNat % 64 : Nat) (nm : Nat) tx ks) p it ∧ Src k bs p 0 it h' ∧ h'.blk k7 = some (.cells [.int .i64 (hd.toNat % 64 : Nat), .int .i64 (nm : Nat), .string tx, sl] 25 none) ∧ Kol E 25 base h'.next h' sl ks) ∨ (ex = .ret ∧ A'.get 5 = .bool false ∧ ∃ p e it, R = .bad p e ∧ Src k bs p e it h'))) := by
    intro A0 h p it nm tx n0 d0 q0 q1 q4 q6 q7 q74 q75 M b4 b hp hit hR b7
    have fh := M.fit
    obtain ⟨hn, h9, hh9, s9, t9, b9⟩ := mk9 h (.int .u8 128) (fnV 120) rfl rfl fh
    have ix := qix142_2
    have l90 := cell_blk0 (E := E) b9
    have l91 := cell_blk (E := E) b9 1
    have a2 := and128 hd.toNat hc8
    have w2 : IntKind.i64.wrap (2 + 1) = 3 := by rw [wrap64 (by omega) (by omega)]; rfl
    have M9 := M.ahd t9
    have b49 := t9.grows _ _ b4
    have b79 := t9.grows _ _ b7
    have bs9 := b.mod (t9.mod (M := fun _ => False)) (fun h => h)
    apply Wc.loop
    simp only [loop56, loopOf, firstLoop, Option.getD, Tryd.f56]
    by_cases ho : 128 ≤ hd.toNat
    · rw [if_pos ho] at hR
      have e5 : decide (((128 * (hd.toNat / 128) : Nat) : Int) = 0) = false := by simp; omega
      obtain ⟨nf, v, hz, cp, mz, hq⟩ := part120 (E := E) (I := I) hI120 (by omega) RI t9.fit bs9 b79 (by omega) hp hit hl
      have Mz := M9.trans (mz.sub (N := fun j => j = k ∨ g.next ≤ j) fun j hj => hj.imp id (fun e => by omega))
      have b4z := mz.blk _ _ (by omega) b49
      generalize hr : rdKidsN bs (rdItem bs fu) p it = r at hq hR
      cases r with
      | bad p' e =>
        obtain ⟨rfl, it', bz⟩ := hq
        have s4 := st4 b4z
        have m5 := (Mod.refl (M := fun j => j = g.next) Mz.fit).setl (B := .cells zeroL 25 none) rfl rfl (Mz.fit.lt b4z)
        repeat' (first | (with_reducible apply Wc.seq) | (apply Wc.opsN nf; (focus ((repeat' (first | with_reducible exact RO.nil | ((with_reducible apply RO.run (awant_none rfl)); (focus ((first | simp +decide only [awant, ayield_get, oper1, aop, opv, opvs, opvo, opvp, abuiltin, aun, Gx, abin, isShift, aint, roV, pair, bind, Option.bind, acall, Sx, n0, q0, q1, q4, q6, q7, q74, q75, Qx, Hx, ix, qtz141, hh9, s9, l90, l91, a2, e5, cp, qbu25z, s4] | skip); with_reducible rfl))) | ((with_reducible apply RO.runG); (focus rfl); (focus rfl); (focus (simp +decide only [Gx, Sx, decide_true, decide_false, n0, q0, q1, q4, q6, q7, q74, q75, Qx, Hx, ix, qtz141, hh9, s9, l90, l91, a2, e5, cp, qbu25z, s4]; done)); (focus ((first | simp +decide only [awant, ayield_get, oper1, aop, opv, opvs, opvo, opvp, abuiltin, aun, Gx, abin, isShift, aint, roV, pair, bind, Option.bind, acall, Sx, n0, q0, q1, q4, q6, q7, q74, q75, Qx, Hx, ix, qtz141, hh9, s9, l90, l91, a2, e5, cp, qbu25z, s4] | skip); with_reducible rfl))) | ((with_reducible apply RO.skipG); (focus rfl); (focus rfl); (focus (simp +decide only [Gx, Sx, decide_true, decide_false, n0, q0, q1, q4, q6, q7, q74, q75, Qx, Hx, ix, qtz141, hh9, s9, l90, l91, a2, e5, cp, qbu25z, s4]; done))))); done))) | (refine Wc.quiet (by kernel_rfl) (by repeat' (first | with_reducible exact QO.nil | ((with_reducible apply QO.cons rfl rfl); (focus ((first | simp +decide only [awant, ayield_get, oper1, aop, opv, opvs, opvo, opvp, abuiltin, aun, Gx, abin, isShift, aint, roV, pair, bind, Option.bind, acall, Sx, n0, q0, q1, q4, q6, q7, q74, q75, Qx, Hx, ix, qtz141, hh9, s9, l90, l91, a2, e5, cp, qbu25z, s4] | skip); with_reducible rfl))))) ?_) | (refine Wc.cond2 (by simp +decide only [opv, Gx, Sx, n0, q0, q1, q4, q6, q7, q74, q75, Qx, Hx, ix, qtz141, hh9, s9, l90, l91, a2, e5, cp, qbu25z, s4]; try with_reducible rfl) (fun hb => ?_) (fun hb => ?_) <;> try contradiction) | refine Wc.skip ?_ | refine Wc.ret ?_ | refine Wc.exit ?_ | refine Wc.block ?_)
        exact ⟨by simp +decide only [Gx, Sx, n0], by simp +decide only [Gx, Sx, d0], by simp +decide only [Gx, Sx, n0, q4], Mz.trans (m5.sub fun j hj => .inr (by omega)), setl_same rfl, .inr ⟨rfl, by simp +decide only [Gx, Sx, n0], _, _, _, hR, bz.mod m5 (by omega)⟩⟩
      | ok ks p' it' =>
        obtain ⟨rfl, bz, sl, b7z, K⟩ := hq
        obtain ⟨ok1, ok2, ok3⟩ := rdKidsN_ok (rdItem_ok bs fu) hr hit
        repeat' (first | (with_reducible apply Wc.seq) | (apply Wc.opsN nf; (focus ((repeat' (first | with_reducible exact RO.nil | ((with_reducible apply RO.run (awant_none rfl)); (focus ((first | simp +decide only [awant, ayield_get, oper1, aop, opv, opvs, opvo, opvp, abuiltin, aun, Gx, abin, isShift, aint, roV, pair, bind, Option.bind, acall, Sx, n0, q0, q1, q4, q6, q7, q74, q75, Qx, Hx, ix, qtz141, hh9, s9, l90, l91, a2, e5, cp, w2] | skip); with_reducible rfl))) | ((with_reducible apply RO.runG); (focus rfl); (focus rfl); (focus (simp +decide only [Gx, Sx, decide_true, decide_false, n0, q0, q1, q4, q6, q7, q74, q75, Qx, Hx, ix, qtz141, hh9, s9, l90, l91, a2, e5, cp, w2]; done)); (focus ((first | simp +decide only [awant, ayield_get, oper1, aop, opv, opvs, opvo, opvp, abuiltin, aun, Gx, abin, isShift, aint, roV, pair, bind, Option.bind, acall, Sx, n0, q0, q1, q4, q6, q7, q74, q75, Qx, Hx, ix, qtz141, hh9, s9, l90, l91, a2, e5, cp, w2] | skip); with_reducible rfl))) | ((with_reducible apply RO.skipG); (focus rfl); (focus rfl); (focus (simp +decide only [Gx, Sx, decide_true, decide_false, n0, q0, q1, q4, q6, q7, q74, q75, Qx, Hx, ix, qtz141, hh9, s9, l90, l91, a2, e5, cp, w2]; done))))); done))) | (refine Wc.quiet (by kernel_rfl) (by repeat' (first | with_reducible exact QO.nil | ((with_reducible apply QO.cons rfl rfl); (focus ((first | simp +decide only [awant, ayield_get, oper1, aop, opv, opvs, opvo, opvp, abuiltin, aun, Gx, abin, isShift, aint, roV, pair, bind, Option.bind, acall, Sx, n0, q0, q1, q4, q6, q7, q74, q75, Qx, Hx, ix, qtz141, hh9, s9, l90, l91, a2, e5, cp, w2] | skip); with_reducible rfl))))) ?_) | (refine Wc.cond2 (by simp +decide only [opv, Gx, Sx, n0, q0, q1, q4, q6, q7, q74, q75, Qx, Hx, ix, qtz141, hh9, s9, l90, l91, a2, e5, cp, w2]; try with_reducible rfl) (fun hb => ?_) (fun hb => ?_) <;> try contradiction) | refine Wc.skip ?_ | refine Wc.ret ?_ | refine Wc.exit ?_ | refine Wc.block ?_)
        refine L3 _ hz p' it' nm h9.next tx ks sl ?_ ?_ ?_ ?_ ?_ ?_ ?_ ?_ ?_ Mz b4z bz ?_ ?_ ?_ ?_ hR b7z K
        · simp +decide only [Gx, Sx, n0]
        · simp +decide only [Gx, Sx, d0]
        · simp +decide only [Gx, Sx, n0, q0]
        · simp +decide only [Gx, Sx, n0, q1]
        · simp +decide only [Gx, Sx, n0, q4]
        · simp +decide only [Gx, Sx, n0, q6]
        · simp +decide only [Gx, Sx, n0, q7]
        · simp +decide only [Gx, Sx, n0, q74]
        · simp +decide only [Gx, Sx, n0]
        · exact ok1
        · exact ok2
        · exact Nat.le_trans M.next t9.next
        · omega
    · rw [if_neg ho] at hR
      have e5 : decide (((128 * (hd.toNat / 128) : Nat) : Int) = 0) = true := by simp; omega
      repeat' (first | (with_reducible apply Wc.seq) | (apply Wc.ops; (focus ((repeat' (first | with_reducible exact RO.nil | ((with_reducible apply RO.run (awant_none rfl)); (focus ((first | simp +decide only [awant, ayield_get, oper1, aop, opv, opvs, opvo, opvp, abuiltin, aun, Gx, abin, isShift, aint, roV, pair, bind, Option.bind, acall, Sx, n0, q0, q1, q4, q6, q7, q74, q75, Qx, Hx, ix, qtz141, hh9, s9, l90, l91, a2, e5, w2] | skip); with_reducible rfl))) | ((with_reducible apply RO.runG); (focus rfl); (focus rfl); (focus (simp +decide only [Gx, Sx, decide_true, decide_false, n0, q0, q1, q4, q6, q7, q74, q75, Qx, Hx, ix, qtz141, hh9, s9, l90, l91, a2, e5, w2]; done)); (focus ((first | simp +decide only [awant, ayield_get, oper1, aop, opv, opvs, opvo, opvp, abuiltin, aun, Gx, abin, isShift, aint, roV, pair, bind, Option.bind, acall, Sx, n0, q0, q1, q4, q6, q7, q74, q75, Qx, Hx, ix, qtz141, hh9, s9, l90, l91, a2, e5, w2] | skip); with_reducible rfl))) | ((with_reducible apply RO.skipG); (focus rfl); (focus rfl); (focus (simp +decide only [Gx, Sx, decide_true, decide_false, n0, q0, q1, q4, q6, q7, q74, q75, Qx, Hx, ix, qtz141, hh9, s9, l90, l91, a2, e5, w2]; done))))); done))) | (refine Wc.quiet (by kernel_rfl) (by repeat' (first | with_reducible exact QO.nil | ((with_reducible apply QO.cons rfl rfl); (focus ((first | simp +decide only [awant, ayield_get, oper1, aop, opv, opvs, opvo, opvp, abuiltin, aun, Gx, abin, isShift, aint, roV, pair, bind, Option.bind, acall, Sx, n0, q0, q1, q4, q6, q7, q74, q75, Qx, Hx, ix, qtz141, hh9, s9, l90, l91, a2, e5, w2] | skip); with_reducible rfl))))) ?_) | (refine Wc.cond2 (by simp +decide only [opv, Gx, Sx, n0, q0, q1, q4, q6, q7, q74, q75, Qx, Hx, ix, qtz141, hh9, s9, l90, l91, a2, e5, w2]; try with_reducible rfl) (fun hb => ?_) (fun hb => ?_) <;> try contradiction) | refine Wc.skip ?_ | refine Wc.ret ?_ | refine Wc.exit ?_ | refine Wc.block ?_)
      refine L3 _ h9 p it nm h9.next tx [] (.slice none 0 0) ?_ ?_ ?_ ?_ ?_ ?_ ?_ ?_ ?_ M9 b49 bs9 hp hit ?_ (by decide) hR b79 (Kol.nil _ _ _)
      · simp +decide only [Gx, Sx, n0]
      · simp +decide only [Gx, Sx, d0]
      · simp +decide only [Gx, Sx, n0, q0]
      · simp +decide only [Gx, Sx, n0, q1]
      · simp +decide only [Gx, Sx, n0, q4]
      · simp +decide only [Gx, Sx, n0, q6]
      · simp +decide only [Gx, Sx, n0, q7]
      · simp +decide only [Gx, Sx, n0, q74]
      · simp +decide only [Gx, Sx, n0]
      · exact Nat.le_trans M.next t9.next
  have L1 : ∀ (A0 : Ac) (h : H) (p it nm : Nat), A0.n = 99 → A0.defers = [] → A0.get 0 = .pointer (some (own k)) → A0.get 1 = .int .i64 (250 - fu : Nat) → A0.get 4 = .pointer (some (own g.next)) → A0.get 6 = .int .u8 (hd.toNat : Nat) → A0.get 7 = .pointer (some (own k7)) → A0.get 74 = .agg ⟨partsL⟩ → A0.get 75 = .int .i64 1 → Mod (fun j => j = k ∨ g.next ≤ j) g h → h.blk g.next = some (.cells zeroL 25 none) → Src k bs p 0 it h → p ≤ bs.length → it ≤ 5000 → R = (match (if hd.toNat / 64 % 2 = 1 then rdText bs p it else .ok ⟨⟨[]⟩⟩ p it) with
          | .bad p e => .bad p e
          | .ok tx p items => match (if 128 ≤ hd.toNat then rdKidsN bs (rdItem bs fu) p items else .ok [] p items) with
            | .bad p e => .bad p e
            | .ok ks p items => .ok (.mk (hd.toNat % 64 : Nat) (nm : Nat) tx ks) p items) → h.blk k7 = some (.cells [.int .i64 (hd.toNat % 64 : Nat), .int .i64 (nm : Nat), .string ⟨#[]⟩, .slice none 0 0] 25 none) →
      Wc tab E I ⟨56, none⟩ (.loop loop56) A0 h (fun ex A' h' => A'.n = 99 ∧ A'.defers = [] ∧ A'.get 4 = .pointer (some (own g.next)) ∧ Mod (fun j => j = k ∨ g.next ≤ j) g h' ∧ h'.blk g.next = some (.cells zeroL 25 none) ∧ ((ex = .exit 0 ∧ A'.get 7 = .pointer (some (own k7)) ∧ ∃ (nm : Nat) (tx : ByteArray) (ks : List Hs.Item) (sl : Value) (p it base : Nat), g.next ≤ base ∧ ks.length < 1000000000 ∧ R = .ok (.mk (hd.toNat % 64 : Nat) (nm : Nat) tx ks) p it ∧ Src k bs p 0 it h' ∧ h'.blk k7 = some (.cells [.int .i64 (hd.toNat % 64 : Nat), .int .i64 (nm : Nat), .string tx, sl] 25 none) ∧ Kol E 25 base h'.next h' sl ks) ∨ (ex = .ret ∧ A'.get 5 = .bool false ∧ ∃ p e it, R = .bad p e ∧ Src k bs p e it h'))) := by
    intro A0 h p it nm n0 d0 q0 q1 q4 q6 q7 q74 q75 M b4 b hp hit hR b7
    have fh := M.fit
    obtain ⟨hn, h9, hh9, s9, t9, b9⟩ := mk9 h (.int .u8 64) (fnV 119) rfl rfl fh
    have ix := qix142_1
    have l90 := cell_blk0 (E := E) b9
    have l91 := cell_blk (E := E) b9 1
    have a2 := and64 hd.toNat hc8
    have w2 : IntKind.i64.wrap (1 + 1) = 2 := by rw [wrap64 (by omega) (by omega)]; rfl
    have M9 := M.ahd t9
    have b49 := t9.grows _ _ b4
    have b79 := t9.grows _ _ b7
    have bs9 := b.mod (t9.mod (M := fun _ => False)) (fun h => h)
    apply Wc.loop
    simp only [loop56, loopOf, firstLoop, Option.getD, Tryd.f56]
    by_cases ho : hd.toNat / 64 % 2 = 1
    · rw [if_pos ho] at hR
      have e5 : decide (((64 * (hd.toNat / 64 % 2) : Nat) : Int) = 0) = false := by rw [ho]; decide
      obtain ⟨nf, v, hz, cp, mz, hq⟩ := part119 (E := E) (I := I) hI119 t9.fit bs9 b79 (by omega) hp hl (.int .i64 (250 - fu : Nat))
      have Mz := M9.trans (mz.sub (N := fun j => j = k ∨ g.next ≤ j) fun j hj => hj.imp id (fun e => by omega))
      have b4z := mz.blk _ _ (by omega) b49
      generalize hr : rdText bs p it = r at hq hR
      cases r with
      | bad p' e =>
        obtain ⟨rfl, it', bz⟩ := hq
        have s4 := st4 b4z
        have m5 := (Mod.refl (M := fun j => j = g.next) Mz.fit).setl (B := .cells zeroL 25 none) rfl rfl (Mz.fit.lt b4z)
        repeat' (first | (with_reducible apply Wc.seq) | (apply Wc.opsN nf; (focus ((repeat' (first | with_reducible exact RO.nil | ((with_reducible apply RO.run (awant_none rfl)); (focus ((first | simp +decide only [awant, ayield_get, oper1, aop, opv, opvs, opvo, opvp, abuiltin, aun, Gx, abin, isShift, aint, roV, pair, bind, Option.bind, acall, Sx, n0, q0, q1, q4, q6, q7, q74, q75, Qx, Hx, ix, qtz141, hh9, s9, l90, l91, a2, e5, cp, qbu25z, s4] | skip); with_reducible rfl))) | ((with_reducible apply RO.runG); (focus rfl); (focus rfl); (focus (simp +decide only [Gx, Sx, decide_true, decide_false, n0, q0, q1, q4, q6, q7, q74, q75, Qx, Hx, ix, qtz141, hh9, s9, l90, l91, a2, e5, cp, qbu25z, s4]; done)); (focus ((first | simp +decide only [awant, ayield_get, oper1, aop, opv, opvs, opvo, opvp, abuiltin, aun, Gx, abin, isShift, aint, roV, pair, bind, Option.bind, acall, Sx, n0, q0, q1, q4, q6, q7, q74, q75, Qx, Hx, ix, qtz141, hh9, s9, l90, l91, a2, e5, cp, qbu25z, s4] | skip); with_reducible rfl))) | ((with_reducible apply RO.skipG); (focus rfl); (focus rfl); (focus (simp +decide only [Gx, Sx, decide_true, decide_false, n0, q0, q1, q4, q6, q7, q74, q75, Qx, Hx, ix, qtz141, hh9, s9, l90, l91, a2, e5, cp, qbu25z, s4]; done))))); done))) | (refine Wc.quiet (by kernel_rfl) (by repeat' (first | with_reducible exact QO.nil | ((with_reducible apply QO.cons rfl rfl); (focus ((first | simp +decide only [awant, ayield_get, oper1, aop, opv, opvs, opvo, opvp, abuiltin, aun, Gx, abin, isShift, aint, roV, pair, bind, Option.bind, acall, Sx, n0, q0, q1, q4, q6, q7, q74, q75, Qx, Hx, ix, qtz141, hh9, s9, l90, l91, a2, e5, cp, qbu25z, s4] | skip); with_reducible rfl))))) ?_) | (refine Wc.cond2 (by simp +decide only [opv, Gx, Sx, n0, q0, q1, q4, q6, q7, q74, q75, Qx, Hx, ix, qtz141, hh9, s9, l90, l91, a2, e5, cp, qbu25z, s4]; try with_reducible rfl) (fun hb => ?_) (fun hb => ?_) <;> try contradiction) | refine Wc.skip ?_ | refine Wc.ret ?_ | refine Wc.exit ?_ | refine Wc.block ?_)
        exact ⟨by simp +decide only [Gx, Sx, n0], by simp +decide only [Gx, Sx, d0], by simp +decide only [Gx, Sx, n0, q4], Mz.trans (m5.sub fun j hj => .inr (by omega)), setl_same rfl, .inr ⟨rfl, by simp +decide only [Gx, Sx, n0], _, _, _, hR, bz.mod m5 (by omega)⟩⟩
      | ok tx p' it' =>
        obtain ⟨rfl, bz, b7z⟩ := hq
        obtain ⟨_, ok1, _, _, ok2⟩ := rdText_ok hr
        repeat' (first | (with_reducible apply Wc.seq) | (apply Wc.opsN nf; (focus ((repeat' (first | with_reducible exact RO.nil | ((with_reducible apply RO.run (awant_none rfl)); (focus ((first | simp +decide only [awant, ayield_get, oper1, aop, opv, opvs, opvo, opvp, abuiltin, aun, Gx, abin, isShift, aint, roV, pair, bind, Option.bind, acall, Sx, n0, q0, q1, q4, q6, q7, q74, q75, Qx, Hx, ix, qtz141, hh9, s9, l90, l91, a2, e5, cp, w2] | skip); with_reducible rfl))) | ((with_reducible apply RO.runG); (focus rfl); (focus rfl); (focus (simp +decide only [Gx, Sx, decide_true, decide_false, n0, q0, q1, q4, q6, q7, q74, q75, Qx, Hx, ix, qtz141, hh9, s9, l90, l91, a2, e5, cp, w2]; done)); (focus ((first | simp +decide only [awant, ayield_get, oper1, aop, opv, opvs, opvo, opvp, abuiltin, aun, Gx, abin, isShift, aint, roV, pair, bind, Option.bind, acall, Sx, n0, q0, q1, q4, q6, q7, q74, q75, Qx, Hx, ix, qtz141, hh9, s9, l90, l91, a2, e5, cp, w2] | skip); with_reducible rfl))) | ((with_reducible apply RO.skipG); (focus rfl); (focus rfl); (focus (simp +decide only [Gx, Sx, decide_true, decide_false, n0, q0, q1, q4, q6, q7, q74, q75, Qx, Hx, ix, qtz141, hh9, s9, l90, l91, a2, e5, cp, w2]; done))))); done))) | (refine Wc.quiet (by kernel_rfl) (by repeat' (first | with_reducible exact QO.nil | ((with_reducible apply QO.cons rfl rfl); (focus ((first | simp +decide only [awant, ayield_get, oper1, aop, opv, opvs, opvo, opvp, abuiltin, aun, Gx, abin, isShift, aint, roV, pair, bind, Option.bind, acall, Sx, n0, q0, q1, q4, q6, q7, q74, q75, Qx, Hx, ix, qtz141, hh9, s9, l90, l91, a2, e5, cp, w2] | skip); with_reducible rfl))))) ?_) | (refine Wc.cond2 (by simp +decide only [opv, Gx, Sx, n0, q0, q1, q4, q6, q7, q74, q75, Qx, Hx, ix, qtz141, hh9, s9, l90, l91, a2, e5, cp, w2]; try with_reducible rfl) (fun hb => ?_) (fun hb => ?_) <;> try contradiction) | refine Wc.skip ?_ | refine Wc.ret ?_ | refine Wc.exit ?_ | refine Wc.block ?_)
        refine L2 _ hz p' it' nm tx ?_ ?_ ?_ ?_ ?_ ?_ ?_ ?_ ?_ Mz b4z bz ok1 (by omega) hR b7z
        · simp +decide only [Gx, Sx, n0]
        · simp +decide only [Gx, Sx, d0]
        · simp +decide only [Gx, Sx, n0, q0]
        · simp +decide only [Gx, Sx, n0, q1]
        · simp +decide only [Gx, Sx, n0, q4]
        · simp +decide only [Gx, Sx, n0, q6]
        · simp +decide only [Gx, Sx, n0, q7]
        · simp +decide only [Gx, Sx, n0, q74]
        · simp +decide only [Gx, Sx, n0]
    · rw [if_neg ho] at hR
      have e5 : decide (((64 * (hd.toNat / 64 % 2) : Nat) : Int) = 0) = true := by
        rw [show hd.toNat / 64 % 2 = 0 by omega]; decide
      repeat' (first | (with_reducible apply Wc.seq) | (apply Wc.ops; (focus ((repeat' (first | with_reducible exact RO.nil | ((with_reducible apply RO.run (awant_none rfl)); (focus ((first | simp +decide only [awant, ayield_get, oper1, aop, opv, opvs, opvo, opvp, abuiltin, aun, Gx, abin, isShift, aint, roV, pair, bind, Option.bind, acall, Sx, n0, q0, q1, q4, q6, q7, q74, q75, Qx, Hx, ix, qtz141, hh9, s9, l90, l91, a2, e5, w2] | skip); with_reducible rfl))) | ((with_reducible apply RO.runG); (focus rfl); (focus rfl); (focus (simp +decide only [Gx, Sx, decide_true, decide_false, n0, q0, q1, q4, q6, q7, q74, q75, Qx, Hx, ix, qtz141, hh9, s9, l90, l91, a2, e5, w2]; done)); (focus ((first | simp +decide only [awant, ayield_get, oper1, aop, opv, opvs, opvo, opvp, abuiltin, aun, Gx, abin, isShift, aint, roV, pair, bind, Option.bind, acall, Sx, n0, q0, q1, q4, q6, q7, q74, q75, Qx, Hx, ix, qtz141, hh9, s9, l90, l91, a2, e5, w2] | skip); with_reducible rfl))) | ((with_reducible apply RO.skipG); (focus rfl); (focus rfl); (focus (simp +decide only [Gx, Sx, decide_true, decide_false, n0, q0, q1, q4, q6, q7, q74, q75, Qx, Hx, ix, qtz141, hh9, s9, l90, l91, a2, e5, w2]; done))))); done))) | (refine Wc.quiet (by kernel_rfl) (by repeat' (first | with_reducible exact QO.nil | ((with_reducible apply QO.cons rfl rfl); (focus ((first | simp +decide only [awant, ayield_get, oper1, aop, opv, opvs, opvo, opvp, abuiltin, aun, Gx, abin, isShift, aint, roV, pair, bind, Option.bind, acall, Sx, n0, q0, q1, q4, q6, q7, q74, q75, Qx, Hx, ix, qtz141, hh9, s9, l90, l91, a2, e5, w2] | skip); with_reducible rfl))))) ?_) | (refine Wc.cond2 (by simp +decide only [opv, Gx, Sx, n0, q0, q1, q4, q6, q7, q74, q75, Qx, Hx, ix, qtz141, hh9, s9, l90, l91, a2, e5, w2]; try with_reducible rfl) (fun hb => ?_) (fun hb => ?_) <;> try contradiction) | refine Wc.skip ?_ | refine Wc.ret ?_ | refine Wc.exit ?_ | refine Wc.block ?_)
      refine L2 _ h9 p it nm ⟨⟨[]⟩⟩ ?_ ?_ ?_ ?_ ?_ ?_ ?_ ?_ ?_ M9 b49 bs9 hp hit hR b79
      · simp +decide only [Gx, Sx, n0]
      · simp +decide only [Gx, Sx, d0]
      · simp +decide only [Gx, Sx, n0, q0]
      · simp +decide only [Gx, Sx, n0, q1]
      · simp +decide only [Gx, Sx, n0, q4]
      · simp +decide only [Gx, Sx, n0, q6]
      · simp +decide only [Gx, Sx, n0, q7]
      · simp +decide only [Gx, Sx, n0, q74]
      · simp +decide only [Gx, Sx, n0]
  have L0 : ∀ (A0 : Ac) (h : H) (p it : Nat), A0.n = 99 → A0.defers = [] → A0.get 0 = .pointer (some (own k)) → A0.get 1 = .int .i64 (250 - fu : Nat) → A0.get 4 = .pointer (some (own g.next)) → A0.get 6 = .int .u8 (hd.toNat : Nat) → A0.get 7 = .pointer (some (own k7)) → A0.get 74 = .agg ⟨partsL⟩ → A0.get 75 = .int .i64 0 → Mod (fun j => j = k ∨ g.next ≤ j) g h → h.blk g.next = some (.cells zeroL 25 none) → Src k bs p 0 it h → p ≤ bs.length → it ≤ 5000 → R = (match rdN bs 0 1099511627776 p it with
        | .bad p e => .bad p e
        | .ok n p items => match (if hd.toNat / 64 % 2 = 1 then rdText bs p items else .ok ⟨⟨[]⟩⟩ p items) with
          | .bad p e => .bad p e
          | .ok tx p items => match (if 128 ≤ hd.toNat then rdKidsN bs (rdItem bs fu) p items else .ok [] p items) with
            | .bad p e => .bad p e
            | .ok ks p items => .ok (.mk (hd.toNat % 64 : Nat) (n : Nat) tx ks) p items) → h.blk k7 = some (.cells [.int .i64 (hd.toNat % 64 : Nat), .int .i64 0, .string ⟨#[]⟩, .slice none 0 0] 25 none) →
      Wc tab E I ⟨56, none⟩ (.loop loop56) A0 h (fun ex A' h' => A'.n = 99 ∧ A'.defers = [] ∧ A'.get 4 = .pointer (some (own g.next)) ∧ Mod (fun j => j = k ∨ g.next ≤ j) g h' ∧ h'.blk g.next = some (.cells zeroL 25 none) ∧ ((ex = .exit 0 ∧ A'.get 7 = .pointer (some (own k7)) ∧ ∃ (nm : Nat) (tx : ByteArray) (ks : List Hs.Item) (sl : Value) (p it base : Nat), g.next ≤ base ∧ ks.length < 1000000000 ∧ R = .ok (.mk (hd.toNat % 64 : Nat) (nm : Nat) tx ks) p it ∧ Src k bs p 0 it h' ∧ h'.blk k7 = some (.cells [.int .i64 (hd.toNat % 64 : Nat), .int .i64 (nm : Nat), .string tx, sl] 25 none) ∧ Kol E 25 base h'.next h' sl ks) ∨ (ex = .ret ∧ A'.get 5 = .bool false ∧ ∃ p e it, R = .bad p e ∧ Src k bs p e it h'))) := by
    intro A0 h p it n0 d0 q0 q1 q4 q6 q7 q74 q75 M b4 b hp hit hR b7
    have fh := M.fit
    obtain ⟨hn, h9, hh9, s9, t9, b9⟩ := mk9 h (.int .u8 0) (fnV 117) rfl rfl fh
    have ix := qix142_0
    have l90 := cell_blk0 (E := E) b9
    have l91 := cell_blk (E := E) b9 1
    have w2 : IntKind.i64.wrap (0 + 1) = 1 := by rw [wrap64 (by omega) (by omega)]; rfl
    have M9 := M.ahd t9
    have b49 := t9.grows _ _ b4
    have b79 := t9.grows _ _ b7
    have bs9 := b.mod (t9.mod (M := fun _ => False)) (fun h => h)
    apply Wc.loop
    simp only [loop56, loopOf, firstLoop, Option.getD, Tryd.f56]
    obtain ⟨nf, v, hz, cp, mz, hq⟩ := part117 (E := E) (I := I) hI117 t9.fit bs9 b79 (by omega) hp hl (.int .i64 (250 - fu : Nat))
    have Mz := M9.trans (mz.sub (N := fun j => j = k ∨ g.next ≤ j) fun j hj => hj.imp id (fun e => by omega))
    have b4z := mz.blk _ _ (by omega) b49
    generalize hr : rdN bs 0 1099511627776 p it = r at hq hR
    cases r with
    | bad p' e =>
      obtain ⟨rfl, it', bz⟩ := hq
      have s4 := st4 b4z
      have m5 := (Mod.refl (M := fun j => j = g.next) Mz.fit).setl (B := .cells zeroL 25 none) rfl rfl (Mz.fit.lt b4z)
      repeat' (first | (with_reducible apply Wc.seq) | (apply Wc.opsN nf; (focus ((repeat' (first | with_reducible exact RO.nil | ((with_reducible apply RO.run (awant_none rfl)); (focus ((first | simp +decide only [awant, ayield_get, oper1, aop, opv, opvs, opvo, opvp, abuiltin, aun, Gx, abin, isShift, aint, roV, pair, bind, Option.bind, acall, Sx, n0, q0, q1, q4, q6, q7, q74, q75, Qx, Hx, ix, qtz141, hh9, s9, l90, l91, cp, qbu25z, s4] | skip); with_reducible rfl))) | ((with_reducible apply RO.runG); (focus rfl); (focus rfl); (focus (simp +decide only [Gx, Sx, decide_true, decide_false, n0, q0, q1, q4, q6, q7, q74, q75, Qx, Hx, ix, qtz141, hh9, s9, l90, l91, cp, qbu25z, s4]; done)); (focus ((first | simp +decide only [awant, ayield_get, oper1, aop, opv, opvs, opvo, opvp, abuiltin, aun, Gx, abin, isShift, aint, roV, pair, bind, Option.bind, acall, Sx, n0, q0, q1, q4, q6, q7, q74, q75, Qx, Hx, ix, qtz141, hh9, s9, l90, l91, cp, qbu25z, s4] | skip); with_reducible rfl))) | ((with_reducible apply RO.skipG); (focus rfl); (focus rfl); (focus (simp +decide only [Gx, Sx, decide_true, decide_false, n0, q0, q1, q4, q6, q7, q74, q75, Qx, Hx, ix, qtz141, hh9, s9, l90, l91, cp, qbu25z, s4]; done))))); done))) | (refine Wc.quiet (by kernel_rfl) (by repeat' (first | with_reducible exact QO.nil | ((with_reducible apply QO.cons rfl rfl); (focus ((first | simp +decide only [awant, ayield_get, oper1, aop, opv, opvs, opvo, opvp, abuiltin, aun, Gx, abin, isShift, aint, roV, pair, bind, Option.bind, acall, Sx, n0, q0, q1, q4, q6, q7, q74, q75, Qx, Hx, ix, qtz141, hh9, s9, l90, l91, cp, qbu25z, s4] | skip); with_reducible rfl))))) ?_) | (refine Wc.cond2 (by simp +decide only [opv, Gx, Sx, n0, q0, q1, q4, q6, q7, q74, q75, Qx, Hx, ix, qtz141, hh9, s9, l90, l91, cp, qbu25z, s4]; try with_reducible rfl) (fun hb => ?_) (fun hb => ?_) <;> try contradiction) | refine Wc.skip ?_ | refine Wc.ret ?_ | refine Wc.exit ?_ | refine Wc.block ?_)
      exact ⟨by simp +decide only [Gx, Sx, n0], by simp +decide only [Gx, Sx, d0], by simp +decide only [Gx, Sx, n0, q4], Mz.trans (m5.sub fun j hj => .inr (by omega)), setl_same rfl, .inr ⟨rfl, by simp +decide only [Gx, Sx, n0], _, _, _, hR, bz.mod m5 (by omega)⟩⟩
    | ok nm p' it' =>
      obtain ⟨rfl, bz, b7z⟩ := hq
      obtain ⟨_, ok1, _, _, ok2⟩ := rdN_ok hr
      repeat' (first | (with_reducible apply Wc.seq) | (apply Wc.opsN nf; (focus ((repeat' (first | with_reducible exact RO.nil | ((with_reducible apply RO.run (awant_none rfl)); (focus ((first | simp +decide only [awant, ayield_get, oper1, aop, opv, opvs, opvo, opvp, abuiltin, aun, Gx, abin, isShift, aint, roV, pair, bind, Option.bind, acall, Sx, n0, q0, q1, q4, q6, q7, q74, q75, Qx, Hx, ix, qtz141, hh9, s9, l90, l91, cp, w2] | skip); with_reducible rfl))) | ((with_reducible apply RO.runG); (focus rfl); (focus rfl); (focus (simp +decide only [Gx, Sx, decide_true, decide_false, n0, q0, q1, q4, q6, q7, q74, q75, Qx, Hx, ix, qtz141, hh9, s9, l90, l91, cp, w2]; done)); (focus ((first | simp +decide only [awant, ayield_get, oper1, aop, opv, opvs, opvo, opvp, abuiltin, aun, Gx, abin, isShift, aint, roV, pair, bind, Option.bind, acall, Sx, n0, q0, q1, q4, q6, q7, q74, q75, Qx, Hx, ix, qtz141, hh9, s9, l90, l91, cp, w2] | skip); with_reducible rfl))) | ((with_reducible apply RO.skipG); (focus rfl); (focus rfl); (focus (simp +decide only [Gx, Sx, decide_true, decide_false, n0, q0, q1, q4, q6, q7, q74, q75, Qx, Hx, ix, qtz141, hh9, s9, l90, l91, cp, w2]; done))))); done))) | (refine Wc.quiet (by kernel_rfl) (by repeat' (first | with_reducible exact QO.nil | ((with_reducible apply QO.cons rfl rfl); (focus ((first | simp +decide only [awant, ayield_get, oper1, aop, opv, opvs, opvo, opvp, abuiltin, aun, Gx, abin, isShift, aint, roV, pair, bind, Option.bind, acall, Sx, n0, q0, q1, q4, q6, q7, q74, q75, Qx, Hx, ix, qtz141, hh9, s9, l90, l91, cp, w2] | skip); with_reducible rfl))))) ?_) | (refine Wc.cond2 (by simp +decide only [opv, Gx, Sx, n0, q0, q1, q4, q6, q7, q74, q75, Qx, Hx, ix, qtz141, hh9, s9, l90, l91, cp, w2]; try with_reducible rfl) (fun hb => ?_) (fun hb => ?_) <;> try contradiction) | refine Wc.skip ?_ | refine Wc.ret ?_ | refine Wc.exit ?_ | refine Wc.block ?_)
      refine L1 _ hz p' it' nm ?_ ?_ ?_ ?_ ?_ ?_ ?_ ?_ ?_ Mz b4z bz ok1 (by omega) hR b7z
      · simp +decide only [Gx, Sx, n0]
      · simp +decide only [Gx, Sx, d0]
      · simp +decide only [Gx, Sx, n0, q0]
      · simp +decide only [Gx, Sx, n0, q1]
      · simp +decide only [Gx, Sx, n0, q4]
      · simp +decide only [Gx, Sx, n0, q6]
      · simp +decide only [Gx, Sx, n0, q7]
      · simp +decide only [Gx, Sx, n0, q74]
      · simp +decide only [Gx, Sx, n0]
  refine (L0 _ h6 (pos + 1) (items + 1) n0 d0 q0 q1 q4 q6 q7 q74 q75 M6 b46 b6 (by omega) (by omega) eR b76).mono ?_
  rintro ex A0 h ⟨n0, d0, q4, M, b4, ⟨rfl, q7, nm, tx, ks, sl, p, it, base, hbs, hks, hR, bz, b7, K⟩ | ⟨rfl, q5, p, e, it, hR, bz⟩⟩
  · simp only [if_true]
    obtain ⟨sb, hsl⟩ := K.slice
    have hone : [Value.int .i64 (hd.toNat % 64 : Nat), .int .i64 (nm : Nat), .string tx, sl].all isOne = true := by rw [hsl]; rfl
    have l7 : h.cells E (own k7) 4 = some [.int .i64 (hd.toNat % 64 : Nat), .int .i64 (nm : Nat), .string tx, sl] := blk_cells b7 rfl hone
    have s4 : astore tab 25 (own g.next) (.agg ⟨[.int .i64 (hd.toNat % 64 : Nat), .int .i64 (nm : Nat), .string tx, sl]⟩) h = some (h.setl g.next (.cells [.int .i64 (hd.toNat % 64 : Nat), .int .i64 (nm : Nat), .string tx, sl] 25 none)) := astore_all qty25 b4 rfl rfl hone (by simp)
    have m5 := (Mod.refl (M := fun j => j = g.next) M.fit).setl (B := .cells [.int .i64 (hd.toNat % 64 : Nat), .int .i64 (nm : Nat), .string tx, sl] 25 none) rfl rfl (M.fit.lt b4)
    have lz : (h.setl g.next (.cells [.int .i64 (hd.toNat % 64 : Nat), .int .i64 (nm : Nat), .string tx, sl] 25 none)).cells E (own g.next) 4 = some [.int .i64 (hd.toNat % 64 : Nat), .int .i64 (nm : Nat), .string tx, sl] := blk_cells (setl_same rfl) rfl hone
    have K5 := K.mod M.fit m5 (fun j B hj hB => by
      subst hj
      rw [b4] at hB; cases hB; rfl)
    have bz5 := bz.mod m5 (by omega)
    have M5 := M.trans (m5.sub (N := fun j => j = k ∨ g.next ≤ j) fun j hj => .inr (by omega))
    generalize h.setl g.next (.cells [.int .i64 (hd.toNat % 64 : Nat), .int .i64 (nm : Nat), .string tx, sl] 25 none) = h9 at s4 m5 lz K5 bz5 M5
    repeat' (first | (with_reducible apply Wc.seq) | (apply Wc.ops; (focus ((repeat' (first | with_reducible exact RO.nil | ((with_reducible apply RO.run (awant_none rfl)); (focus ((first | simp +decide only [awant, ayield_get, oper1, aop, opv, opvs, opvo, opvp, abuiltin, aun, Gx, abin, isShift, aint, roV, pair, bind, Option.bind, acall, Sx, n0, q4, q7, Qx, Hx, l7, s4] | skip); with_reducible rfl))))); done))) | (refine Wc.cond2 (by simp +decide only [opv, Gx, Sx, n0, q4, q7, Qx, Hx, l7, s4]; try with_reducible rfl) (fun hb => ?_) (fun hb => ?_) <;> try contradiction) | refine Wc.skip ?_ | refine Wc.ret ?_ | refine Wc.exit ?_ | refine Wc.block ?_)
    refine ⟨.inr rfl, h9, .tuple #[.agg ⟨[.int .i64 (hd.toNat % 64 : Nat), .int .i64 (nm : Nat), .string tx, sl]⟩, .bool true], by simp +decide only [Gx, Sx, d0]; rfl, ?_, _, _, rfl, low M5, ?_⟩
    · have g4 : ∀ A : Ac, A.get 4 = .pointer (some (own g.next)) → A.get 5 = .bool true → ares tab E Tryd.f56 A h9 = some (.tuple #[.agg ⟨[.int .i64 (hd.toNat % 64 : Nat), .int .i64 (nm : Nat), .string tx, sl]⟩, .bool true]) := by
        intro A a4 a5
        unfold ares
        rw [show Tryd.f56.results = #[.cell 4 25, .tmp 5] from rfl]
        simp only [aresL, ares1, a4, a5, qld25, lz]
      exact g4 _ (by simp +decide only [Gx, Sx, n0, q4]) (by simp +decide only [Gx, Sx, n0])
    · rw [hR]
      exact ⟨rfl, bz5, K5.rep M5.fit hks _ _ _ hbs⟩
  · exact fin d0 q4 q5 M b4 bz hR
end Go.Proofs.YtofijpbmbmbnhaaDoor
