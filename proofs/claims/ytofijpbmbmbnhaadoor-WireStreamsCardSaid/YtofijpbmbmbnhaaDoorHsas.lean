/- Items as bytes. -/
import Derived.Test.YtofijpbmbmbnhaaDoorHsar
set_option linter.unusedSimpArgs false
set_option linter.unusedVariables false
set_option maxRecDepth 100000
set_option maxHeartbeats 16000000
namespace Go.Proofs.YtofijpbmbmbnhaaDoor
open Go Go.Hs Go.Proofs
variable {E : Env} {I : Known}
theorem fn61 : tab.fn.get 61 = some Tryd.f61 := by kernel_rfl
noncomputable def loop61 : Code := loopOf Tryd.f61
theorem qbs176_2 {a b : Value} (h1 : [a, b].all isOne = true) (h2 : a.cells.toList = [a]) (h3 : b.cells.toList = [b]) {h : H} : abuildSlice tab 176 2 [(0, a), (1, b)] h = some (.slice (some (own h.next)) 2 2, h.new (.cells [a, b] 31 none)) := by
  unfold abuildSlice
  simp only [ty176, qtz31, afill, h2, h3]
  rfl
theorem qbs176_4 {a b c d : Value} (h2 : a.cells.toList = [a]) (h3 : b.cells.toList = [b]) (h4 : c.cells.toList = [c]) (h5 : d.cells.toList = [d]) {h : H} : abuildSlice tab 176 4 [(0, a), (1, b), (2, c), (3, d)] h = some (.slice (some (own h.next)) 4 4, h.new (.cells [a, b, c, d] 31 none)) := by
  unfold abuildSlice
  simp only [ty176, qtz31, afill, h2, h3, h4, h5]
  rfl
theorem qcv9_31 (s : ByteArray) {h : H} : aconvert tab E 9 31 (.string s) h = some (.slice (some (own h.next)) s.data.toList.length s.data.toList.length, h.newOpen (bytesV s.data.toList) 5) := by
  unfold aconvert
  simp only [qty9, qty31, qty5]
theorem byt_one {g : H} {v : Value} {bs : List UInt8} (b : Byt E g v bs) : isOne v = true ∧ v.cells.toList = [v] := by
  obtain ⟨a, c, rfl⟩ := b.slice
  exact ⟨rfl, rfl⟩
def txtB (tx : ByteArray) : List UInt8 := if tx.data.toList = [] then [] else numB tx.data.toList.length ++ tx.data.toList
def kidB (ks : List Hs.Item) : List UInt8 := if ks.length = 0 then [] else numB ks.length ++ encL ks
theorem encI_eq (k n : Int) (tx : ByteArray) (ks : List Hs.Item) : encI (.mk k n tx ks) = UInt8.ofNat (k.toNat + (if tx.data.toList = [] then 0 else 64) + (if ks.length = 0 then 0 else 128)) :: (numB n.toNat ++ (txtB tx ++ kidB ks)) := by
  rw [encI]; rfl
theorem encL_take : ∀ {ks : List Hs.Item} {i : Nat} (hi : i < ks.length), encL (ks.take (i + 1)) = encL (ks.take i) ++ encI ks[i]
  | [], i, hi => by simp at hi
  | x :: xs, 0, _ => by simp [encL]
  | x :: xs, i + 1, hi => by
    rw [List.take_succ_cons, List.take_succ_cons, encL, encL, encL_take (by simpa using hi), List.append_assoc]
    rfl
theorem encL_le : ∀ (ks : List Hs.Item) (i : Nat), (encL (ks.take i)).length ≤ (encL ks).length
  | [], i => by simp
  | x :: xs, 0 => by simp [encL]
  | x :: xs, i + 1 => by
    rw [List.take_succ_cons, encL, encL, List.length_append, List.length_append]
    have := encL_le xs i
    omega
theorem _root_.Go.Hs.Con.bytO {tb : TypeId} {base n lo : Nat} {g : H} {sl : Value} {bs : List UInt8} (K : Con tb base n g sl bs) (f : Fit g) (hlo : lo ≤ base) : Byt E (only (fun r => Nat.ble lo r) g) sl bs := by
  obtain ⟨k, rest, rfl, hb, hn, ho, _, hk⟩ := K
  have hb' : (only (fun r => Nat.ble lo r) g).blk k = some (.cells (bytesV bs ++ rest) tb (some (k, 0))) := (only_blk f).2 ⟨hb, _, _, _, _, rfl, by rw [Nat.ble_eq]; omega⟩
  refine .inr ⟨own k, n, rfl, by omega, ?_⟩
  have h1 := blk_cells (E := E) hb' rfl (by rw [List.all_append, bytesV_one, ho]; rfl)
  have h2 := cells_sub h1 (m := 0) (l := bs.length) (by rw [List.length_append, bytesV_length]; omega)
  rw [aadd_zero, List.drop_zero] at h2
  rw [h2]
  congr 1
  rw [← bytesV_length bs, List.take_left]
theorem enc61 (hI : ∀ f args h, (f = 61 ∨ f = 96 ∨ f = 97 ∨ f = 122 ∨ f = 127) → I f args h = none) : ∀ (z : Nat) (t : Hs.Item) (xv : Value) (h : H), isz t ≤ z → rep E h t xv → Fit h → goodI t → isz t ≤ 5000 → (encI t).length ≤ 1000000 →
    ∃ n v h', (ev tab E I n).call 61 [xv] h = some (v, h') ∧ (Mod (fun _ => False) h h' ∧ Byt E (only (fun r => Nat.ble h.next r) h') v (encI t)) := by
  have hI97 : ∀ args h, I 97 args h = none := fun args h => hI _ args h (by simp)
  have hI96 : ∀ f args h, (f = 96 ∨ f = 122 ∨ f = 127) → I f args h = none := fun f args h hf => hI f args h (by rcases hf with h | h | h <;> simp [h])
  intro z
  induction z with
  | zero =>
    intro t xv h hz
    have : 1 ≤ isz t := by obtain ⟨_, _, _, _⟩ := t; rw [isz]; omega
    omega
  | succ z IH =>
  intro t xv h hz hr f hg h5 hlen
  obtain ⟨k, n, tx, ks⟩ := t
  rw [encI_eq, List.length_cons, List.length_append, List.length_append] at hlen
  rw [isz] at hz h5
  rw [goodI] at hg
  obtain ⟨g1, g2, g3, g4, g5, g6⟩ := hg
  obtain ⟨sb, sc, rfl, hsk⟩ := rep_slice hr
  have hkl := len_iszE ks
  refine Wc.call (hI _ _ _ (.inl rfl)) fn61 rfl ?_
  generalize hA0 : (⟨T.ofList [.agg ⟨[.int .i64 k, .int .i64 n, .string tx, .slice sb ks.length sc]⟩] 0 .nil, max ([.agg ⟨[.int .i64 k, .int .i64 n, .string tx, .slice sb ks.length sc]⟩] : List Value).length Tryd.f61.ntmps, []⟩ : Ac) = A0
  have n0 : A0.n = 56 := by rw [← hA0]; rfl
  have q0 : A0.get 0 = .agg ⟨[.int .i64 k, .int .i64 n, .string tx, .slice sb ks.length sc]⟩ := by rw [← hA0]; rfl
  have d0 : A0.defers = [] := by rw [← hA0]
  clear hA0
  generalize hh1 : h.new (.cells (Value.agg ⟨[.int .i64 k, .int .i64 n, .string tx, .slice sb ks.length sc]⟩).cells.toList 25 none) = h1
  have t1 : Ahd h h1 := by rw [← hh1]; exact Ahd.new0 f rfl
  have b1 : h1.blk h.next = some (.cells [.int .i64 k, .int .i64 n, .string tx, .slice sb ks.length sc] 25 none) := by rw [← hh1]; exact new_blk_new rfl
  have M1 : Mod (fun _ => False) h h1 := t1.mod
  have cel : ∀ {g : H}, Mod (fun _ => False) h1 g → g.cell E (own h.next) = some (.int .i64 k) ∧ g.cell E (aadd (own h.next) 1) = some (.int .i64 n) ∧ g.cell E (aadd (own h.next) 2) = some (.string tx) ∧ g.cell E (aadd (own h.next) 3) = some (.slice sb ks.length sc) := fun m => by
    have b := m.gof2 _ _ b1
    exact ⟨cell_blk0 b, cell_blk b 1, cell_blk b 2, cell_blk b 3⟩
  obtain ⟨c0, c1, c2, c3⟩ := cel (Mod.refl t1.fit)
  obtain ⟨kn, hkn⟩ : ∃ m : Nat, k = (m : Int) := ⟨k.toNat, by omega⟩
  obtain ⟨nn, hnn⟩ : ∃ m : Nat, n = (m : Int) := ⟨n.toNat, by omega⟩
  subst hkn hnn
  rw [Int.toNat_natCast] at hlen
  have w1 : IntKind.u8.wrap ((kn : Nat) : Int) = ((kn : Nat) : Int) := wrapU8 (by omega)
  have w2 : IntKind.u8.wrap ((kn : Int) + 64) = ((kn + 64 : Nat) : Int) := by rw [show ((kn : Int) + 64) = ((kn + 64 : Nat) : Int) by omega]; exact wrapU8 (by omega)
  have en : astr .neq tx.data.toList [] = some (.bool (!(tx.data.toList == []))) := rfl
  generalize hh0 : (if tx.data.toList = [] then 0 else 64 : Nat) = ht at hlen ⊢
  (repeat' (with_reducible apply Wc.seq)); (apply Wc.opsN 1; (focus ((repeat' (first | with_reducible exact RO.nil | ((with_reducible apply RO.run (awant_none rfl)); (focus ((first | simp +decide only [awant, ayield_get, oper1, aop, opv, opvs, opvo, opvp, abuiltin, aun, Ac.get_put, abin, isShift, aint, roV, pair, bind, Option.bind, acall, Sx, n0, q0, hh1] | skip); with_reducible rfl))))); done)))
  (repeat' (with_reducible apply Wc.seq)); (apply Wc.opsN 1; (focus ((repeat' (first | with_reducible exact RO.nil | ((with_reducible apply RO.run (awant_none rfl)); (focus ((first | simp +decide only [awant, ayield_get, oper1, aop, opv, opvs, opvo, opvp, abuiltin, aun, Ac.get_put, abin, isShift, aint, roV, pair, bind, Option.bind, acall, Sx, n0, Qx, Hx, c0, qcv3_5, w1] | skip); with_reducible rfl))))); done)))
  (repeat' (with_reducible apply Wc.seq)); (apply Wc.opsN 1; (focus ((repeat' (first | with_reducible exact RO.nil | ((with_reducible apply RO.run (awant_none rfl)); (focus ((first | simp +decide only [awant, ayield_get, oper1, aop, opv, opvs, opvo, opvp, abuiltin, aun, Ac.get_put, abin, isShift, aint, roV, pair, bind, Option.bind, acall, Sx, n0] | skip); with_reducible rfl))))); done)))
  (repeat' (with_reducible apply Wc.seq)); (apply Wc.opsN 1; (focus ((repeat' (first | with_reducible exact RO.nil | ((with_reducible apply RO.run (awant_none rfl)); (focus ((first | simp +decide only [awant, ayield_get, oper1, aop, opv, opvs, opvo, opvp, abuiltin, aun, Ac.get_put, abin, isShift, aint, roV, pair, bind, Option.bind, acall, Sx, n0, Qx, Hx, c2, en] | skip); with_reducible rfl))))); done)))
  refine Wc.forget (fun A => A.n = 56 ∧ A.defers = [] ∧ A.get 1 = .pointer (some (own h.next)) ∧ A.get 3 = .int .u8 (kn : Nat) ∧ A.get 4 = .slice none 0 0 ∧ A.get 5 = .slice none 0 0 ∧ A.get 13 = .bool (!(tx.data.toList == []))) ⟨by simp +decide only [Ac.get_put, Sx, n0], by simp +decide only [Ac.get_put, Sx, d0], by first | (simp +decide only [Ac.get_put, Sx, n0]; done) | (simp +decide only [Ac.get_put, Sx, n0]; rfl), by first | (simp +decide only [Ac.get_put, Sx, n0]; done) | (simp +decide only [Ac.get_put, Sx, n0]; rfl), by first | (simp +decide only [Ac.get_put, Sx, n0]; done) | (simp +decide only [Ac.get_put, Sx, n0]; rfl), by first | (simp +decide only [Ac.get_put, Sx, n0]; done) | (simp +decide only [Ac.get_put, Sx, n0]; rfl), by first | (simp +decide only [Ac.get_put, Sx, n0]; done) | (simp +decide only [Ac.get_put, Sx, n0]; rfl)⟩ ?_
  rintro A0 ⟨n0, d0, q1, q3, q4, q5, q13⟩
  refine Wc.mono (Q := fun ex A g => ex = .normal ∧ A.n = 56 ∧ A.defers = [] ∧ A.get 1 = .pointer (some (own h.next)) ∧ A.get 3 = .int .u8 (kn + (if tx.data.toList = [] then 0 else 64) : Nat) ∧ A.get 5 = .slice none 0 0 ∧ ∃ v4, A.get 4 = v4 ∧ Mod (fun _ => False) h1 g ∧ Byt E g v4 (txtB tx)) ?_ ?_
  · by_cases htx : tx.data.toList = []
    · have eb : (tx.data.toList == ([] : List UInt8)) = true := by rw [htx]; rfl
      repeat' (first | (with_reducible apply Wc.seq) | (apply Wc.ops; (focus ((repeat' (first | with_reducible exact RO.nil | ((with_reducible apply RO.run (awant_none rfl)); (focus ((first | simp +decide only [awant, ayield_get, oper1, aop, opv, opvs, opvo, opvp, abuiltin, aun, Ac.get_put, abin, isShift, aint, roV, pair, bind, Option.bind, acall, Sx, n0, q13, eb] | skip); with_reducible rfl))))); done))) | (refine Wc.cond2 (by simp +decide only [opv, Ac.get_put, Sx, n0, q13, eb]; try with_reducible rfl) (fun hb => ?_) (fun hb => ?_) <;> try contradiction) | refine Wc.skip ?_ | refine Wc.ret ?_ | refine Wc.exit ?_ | refine Wc.block ?_)
      exact ⟨rfl, by simp +decide only [Ac.get_put, Sx, n0], by simp +decide only [Ac.get_put, Sx, d0], by simp +decide only [Ac.get_put, Sx, n0, q1], by rw [if_pos htx, Nat.add_zero]; simp +decide only [Ac.get_put, Sx, n0, q3], by simp +decide only [Ac.get_put, Sx, n0, q5], _, by simp +decide only [Ac.get_put, Sx, n0, q4], Mod.refl t1.fit, .inl ⟨rfl, by rw [txtB, if_pos htx]⟩⟩
    · have eb : (tx.data.toList == ([] : List UInt8)) = false := by simpa using htx
      have hpos := List.length_pos_iff.2 htx
      obtain ⟨n7, v7, qa, c7, m7, K7⟩ := numB97 (E := E) (I := I) hI97 t1.fit.fresh tx.data.toList.length (by omega)
      obtain ⟨ma, ba, na, _⟩ := Mod.back t1.fit m7
      have B7 : Byt E (back h1 qa) v7 (numB tx.data.toList.length) := (K7.byt (E := E)).grow (fun k B hB => by rw [back_blk]; exact hB)
      generalize hh2 : back h1 qa = h2 at ma B7
      obtain ⟨_, _, c2', _⟩ := cel ma
      have tO := Ahd.newOpen ma.fit.fresh (bytesV tx.data.toList) 5
      obtain ⟨t3, b3, n3, _⟩ := Ahd.back ma.fit tO
      have bO : (back h2 ((fresh h2).newOpen (bytesV tx.data.toList) 5)).blk h2.next = some (.cells (bytesV tx.data.toList) 5 (some (h2.next, 0))) := by rw [back_blk]; exact newOpen_new (h := fresh h2)
      generalize hh3 : back h2 ((fresh h2).newOpen (bytesV tx.data.toList) 5) = h3 at t3 bO
      have B6 : Byt E h3 (.slice (some (own h2.next)) tx.data.toList.length tx.data.toList.length) tx.data.toList := .inr ⟨own h2.next, _, rfl, Nat.le_refl _, blk_cells bO (bytesV_length _) (bytesV_one _)⟩
      have B73 := B7.grow t3.grows
      obtain ⟨o7, e7⟩ := byt_one B7
      have hbs := qbs176_2 (a := v7) (b := .slice (some (own h2.next)) tx.data.toList.length tx.data.toList.length) (by rw [List.all_cons, o7]; rfl) e7 rfl (h := fresh h3)
      generalize hZ : (Blk.cells [v7, .slice (some (own h2.next)) tx.data.toList.length tx.data.toList.length] 31 none) = Z at hbs
      generalize hh4 : h3.new Z = h4
      have t4 : Ahd h3 h4 := by rw [← hh4, ← hZ]; exact Ahd.new0 t3.fit rfl
      have b4 : h4.blk h3.next = some (.cells [v7, .slice (some (own h2.next)) tx.data.toList.length tx.data.toList.length] 31 none) := by rw [← hh4, ← hZ]; exact new_blk_new rfl
      have hall : allB [(v7, numB tx.data.toList.length), (.slice (some (own h2.next)) tx.data.toList.length tx.data.toList.length, tx.data.toList)] = txtB tx := by
        rw [txtB, if_neg htx]
        simp [allB]
      have htl : (txtB tx).length ≤ 1000000 := by omega
      have htp : 0 < (txtB tx).length := by rw [txtB, if_neg htx, List.length_append]; omega
      obtain ⟨n8, v8, qb, c8, m8, nn8, K8⟩ := join96 (E := E) (I := I) hI96 (L := [(v7, numB tx.data.toList.length), (.slice (some (own h2.next)) tx.data.toList.length tx.data.toList.length, tx.data.toList)]) (kp := h3.next) (c := 2) t4.fit.fresh b4 (fun x hx => by
        simp only [List.mem_cons, List.not_mem_nil, or_false] at hx
        rcases hx with rfl | rfl
        · exact (B73.grow t4.grows).grow (g := Hs.fresh h4) (fun _ _ hB => hB)
        · exact (B6.grow t4.grows).grow (g := Hs.fresh h4) (fun _ _ hB => hB)) (by rw [hall]; exact htp) (by rw [hall]; exact htl) (by simp)
      rw [hall] at K8
      have c8 : (ev tab E I n8).call 96 [.slice (some (own h3.next)) 2 2] (fresh h4) = some (v8, qb) := c8
      obtain ⟨mb, bb, nb, _⟩ := Mod.back t4.fit m8
      have B8 : Byt E (back h4 qb) v8 (txtB tx) := (K8.byt (E := E)).grow (fun k B hB => by rw [back_blk]; exact hB)
      have c7f := (ev_mono (D := tab) (E := E) I (Nat.le_max_left n7 n8)).call c7
      have c8f := (ev_mono (D := tab) (E := E) I (Nat.le_max_right n7 n8)).call c8
      repeat' (first | (with_reducible apply Wc.seq) | (apply Wc.ops; (focus ((repeat' (first | with_reducible exact RO.nil | ((with_reducible apply RO.run (awant_none rfl)); (focus ((first | simp +decide only [awant, ayield_get, oper1, aop, opv, opvs, opvo, opvp, abuiltin, aun, Ac.get_put, abin, isShift, aint, roV, pair, bind, Option.bind, acall, Sx, n0, q3, q13, eb, w2] | skip); with_reducible rfl))))); done))) | (refine Wc.cond2 (by simp +decide only [opv, Ac.get_put, Sx, n0, q3, q13, eb, w2]; try with_reducible rfl) (fun hb => ?_) (fun hb => ?_) <;> try contradiction) | refine Wc.skip ?_ | refine Wc.ret ?_ | refine Wc.exit ?_ | refine Wc.block ?_)
      refine Wc.drawC (max n7 n8) (by kernel_rfl) ?_
      (iterate 3 (first | ((apply FC.pure rfl rfl); (focus ((first | simp +decide only [awant, ayield_get, oper1, aop, opv, opvs, opvo, opvp, abuiltin, aun, Ac.get_put, abin, isShift, aint, roV, pair, bind, Option.bind, acall, Sx, n0, q1, Qx, Hx, c2] | skip); with_reducible rfl))) | ((apply FC.new rfl rfl); (focus ((first | simp +decide only [awant, ayield_get, oper1, aop, opv, opvs, opvo, opvp, abuiltin, aun, Ac.get_put, abin, isShift, aint, roV, pair, bind, Option.bind, acall, Sx, n0, q1, Qx, Hx, c2] | skip); with_reducible rfl)))))
      refine FC.call (h1 := qa) (x := v7) rfl rfl (by simp +decide only [awant, ayield_get, oper1, aop, opv, opvs, opvo, opvp, abuiltin, aun, Ac.get_put, abin, isShift, aint, roV, pair, bind, Option.bind, acall, Sx, n0, c7f]) m7.quiet ?_
      rw [hh2]
      (iterate 2 (first | ((apply FC.pure rfl rfl); (focus ((first | simp +decide only [awant, ayield_get, oper1, aop, opv, opvs, opvo, opvp, abuiltin, aun, Ac.get_put, abin, isShift, aint, roV, pair, bind, Option.bind, acall, Sx, n0, q1, Qx, Hx, c2'] | skip); with_reducible rfl))) | ((apply FC.new rfl rfl); (focus ((first | simp +decide only [awant, ayield_get, oper1, aop, opv, opvs, opvo, opvp, abuiltin, aun, Ac.get_put, abin, isShift, aint, roV, pair, bind, Option.bind, acall, Sx, n0, q1, Qx, Hx, c2'] | skip); with_reducible rfl)))))
      refine FC.call (h1 := (fresh h2).newOpen (bytesV tx.data.toList) 5) (x := .slice (some (own h2.next)) tx.data.toList.length tx.data.toList.length) rfl rfl (by simp +decide only [awant, ayield_get, oper1, aop, opv, opvs, opvo, opvp, abuiltin, aun, Ac.get_put, abin, isShift, aint, roV, pair, bind, Option.bind, acall, Sx, n0, qcv9_31, Hx]) rfl ?_
      rw [hh3]
      refine FC.new (x := .slice (some (own h3.next)) 2 2) (B := Z) rfl rfl (by simp +decide only [awant, ayield_get, oper1, aop, opv, opvs, opvo, opvp, abuiltin, aun, Ac.get_put, abin, isShift, aint, roV, pair, bind, Option.bind, acall, Sx, n0, hbs, Hx]) ?_
      rw [hh4]
      refine FC.call (h1 := qb) (x := v8) rfl rfl (by simp +decide only [awant, ayield_get, oper1, aop, opv, opvs, opvo, opvp, abuiltin, aun, Ac.get_put, abin, isShift, aint, roV, pair, bind, Option.bind, acall, Sx, n0, c8f]) m8.quiet ?_
      (iterate 1 (first | ((apply FC.pure rfl rfl); (focus ((first | simp +decide only [awant, ayield_get, oper1, aop, opv, opvs, opvo, opvp, abuiltin, aun, Ac.get_put, abin, isShift, aint, roV, pair, bind, Option.bind, acall, Sx, n0] | skip); with_reducible rfl))) | ((apply FC.new rfl rfl); (focus ((first | simp +decide only [awant, ayield_get, oper1, aop, opv, opvs, opvo, opvp, abuiltin, aun, Ac.get_put, abin, isShift, aint, roV, pair, bind, Option.bind, acall, Sx, n0] | skip); with_reducible rfl)))))
      refine FC.nil ?_
      exact ⟨rfl, by simp +decide only [Ac.get_put, Sx, n0], by simp +decide only [Ac.get_put, Sx, d0], by simp +decide only [Ac.get_put, Sx, n0, q1], by rw [if_neg htx]; simp +decide only [Ac.get_put, Sx, n0], by simp +decide only [Ac.get_put, Sx, n0, q5], _, by simp +decide only [Ac.get_put, Sx, n0], (ma.trans t3.mod).trans (t4.mod.trans mb), B8⟩
  rintro ex A0 g ⟨rfl, n0, d0, q1, q3, q5, v4, q4, M, B4⟩
  simp only []
  rw [hh0] at q3
  obtain ⟨c0, c1, _, c3⟩ := cel M
  have hht : ht ≤ 64 := by rw [← hh0]; split <;> omega
  have w3 : IntKind.u8.wrap (((kn + ht : Nat) : Int) + 128) = ((kn + ht + 128 : Nat) : Int) := by rw [show (((kn + ht : Nat) : Int) + 128) = ((kn + ht + 128 : Nat) : Int) by omega]; exact wrapU8 (by omega)
  have e1 : decide ((ks.length : Int) > 0) = decide (ks.length ≠ 0) := by
    by_cases h : ks.length = 0
    · rw [decide_eq_false (by omega), decide_eq_false (by omega)]
    · rw [decide_eq_true (by omega), decide_eq_true h]
  (repeat' (with_reducible apply Wc.seq)); (apply Wc.opsN 1; (focus ((repeat' (first | with_reducible exact RO.nil | ((with_reducible apply RO.run (awant_none rfl)); (focus ((first | simp +decide only [awant, ayield_get, oper1, aop, opv, opvs, opvo, opvp, abuiltin, aun, Ac.get_put, abin, isShift, aint, roV, pair, bind, Option.bind, acall, Sx, n0, q1, Qx, Hx, c3, e1] | skip); with_reducible rfl))))); done)))
  refine Wc.forget (fun A => A.n = 56 ∧ A.defers = [] ∧ A.get 1 = .pointer (some (own h.next)) ∧ A.get 3 = .int .u8 (kn + ht : Nat) ∧ A.get 4 = v4 ∧ A.get 5 = .slice none 0 0 ∧ A.get 28 = .bool (decide (ks.length ≠ 0))) ⟨by simp +decide only [Ac.get_put, Sx, n0], by simp +decide only [Ac.get_put, Sx, d0], by first | (simp +decide only [Ac.get_put, Sx, n0, q1, q3, q4, q5]; done) | (simp +decide only [Ac.get_put, Sx, n0, q1, q3, q4, q5]; rfl), by first | (simp +decide only [Ac.get_put, Sx, n0, q1, q3, q4, q5]; done) | (simp +decide only [Ac.get_put, Sx, n0, q1, q3, q4, q5]; rfl), by first | (simp +decide only [Ac.get_put, Sx, n0, q1, q3, q4, q5]; done) | (simp +decide only [Ac.get_put, Sx, n0, q1, q3, q4, q5]; rfl), by first | (simp +decide only [Ac.get_put, Sx, n0, q1, q3, q4, q5]; done) | (simp +decide only [Ac.get_put, Sx, n0, q1, q3, q4, q5]; rfl), by first | (simp +decide only [Ac.get_put, Sx, n0, q1, q3, q4, q5]; done) | (simp +decide only [Ac.get_put, Sx, n0, q1, q3, q4, q5]; rfl)⟩ ?_
  rintro A0 ⟨n0, d0, q1, q3, q4, q5, q28⟩
  refine Wc.mono (Q := fun ex A g' => ex = .normal ∧ A.n = 56 ∧ A.defers = [] ∧ A.get 1 = .pointer (some (own h.next)) ∧ A.get 3 = .int .u8 (kn + ht + (if ks.length = 0 then 0 else 128) : Nat) ∧ A.get 4 = v4 ∧ ∃ v5, A.get 5 = v5 ∧ Mod (fun _ => False) g g' ∧ Byt E g' v5 (kidB ks)) ?_ ?_
  · by_cases hks : ks.length = 0
    · have eb : decide (ks.length ≠ 0) = false := decide_eq_false (fun h => h hks)
      repeat' (first | (with_reducible apply Wc.seq) | (apply Wc.ops; (focus ((repeat' (first | with_reducible exact RO.nil | ((with_reducible apply RO.run (awant_none rfl)); (focus ((first | simp +decide only [awant, ayield_get, oper1, aop, opv, opvs, opvo, opvp, abuiltin, aun, Ac.get_put, abin, isShift, aint, roV, pair, bind, Option.bind, acall, Sx, n0, q28, eb] | skip); with_reducible rfl))))); done))) | (refine Wc.cond2 (by simp +decide only [opv, Ac.get_put, Sx, n0, q28, eb]; try with_reducible rfl) (fun hb => ?_) (fun hb => ?_) <;> try contradiction) | refine Wc.skip ?_ | refine Wc.ret ?_ | refine Wc.exit ?_ | refine Wc.block ?_)
      exact ⟨rfl, by simp +decide only [Ac.get_put, Sx, n0], by simp +decide only [Ac.get_put, Sx, d0], by simp +decide only [Ac.get_put, Sx, n0, q1], by rw [if_pos hks, Nat.add_zero]; simp +decide only [Ac.get_put, Sx, n0, q3], by simp +decide only [Ac.get_put, Sx, n0, q4], _, by simp +decide only [Ac.get_put, Sx, n0, q5], Mod.refl M.fit, .inl ⟨rfl, by rw [kidB, if_pos hks]⟩⟩
    have eb : decide (ks.length ≠ 0) = true := decide_eq_true hks
    rcases hsk with hk0 | ⟨a, cs, rfl, hcap, hcs, hrl⟩
    · rw [hk0] at hks; simp at hks
    have hkB : kidB ks = numB ks.length ++ encL ks := by rw [kidB, if_neg hks]
    rw [hkB] at hlen
    rw [List.length_append] at hlen
    obtain ⟨n7, v7, g7, c7, m7, K7⟩ := numB97 (E := E) (I := I) hI97 M.fit ks.length (by omega)
    obtain ⟨_, _, _, c3'⟩ := cel (M.trans m7)
    have key : ∀ (r i : Nat) (sl : Value) (A0 : Ac) (h2 : H), r = ks.length - i → i ≤ ks.length → A0.n = 56 → A0.defers = [] → A0.get 1 = .pointer (some (own h.next)) → A0.get 3 = .int .u8 (kn + ht + 128 : Nat) → A0.get 4 = v4 → A0.get 5 = sl → A0.get 36 = .slice (some a) ks.length sc → A0.get 37 = .int .i64 (ks.length : Nat) → A0.get 38 = .int .i64 (i : Nat) → Mod (fun _ => False) g h2 → Bol 5 g.next h2.next h2 sl (numB ks.length ++ encL (ks.take i)) →
        Wc tab E I ⟨61, none⟩ (.loop loop61) A0 h2 (fun ex A' h' => ex = .exit 0 ∧ A'.n = 56 ∧ A'.defers = [] ∧ A'.get 1 = .pointer (some (own h.next)) ∧ A'.get 3 = .int .u8 (kn + ht + 128 : Nat) ∧ A'.get 4 = v4 ∧ ∃ sl, A'.get 5 = sl ∧ Mod (fun _ => False) g h' ∧ Bol 5 g.next h'.next h' sl (numB ks.length ++ encL ks)) := by
      intro r
      induction r with
      | zero =>
        intro i sl A0 h2 hr hi n0 d0 q1 q3 q4 q5 q36 q37 q38 M2 K
        obtain rfl : i = ks.length := by omega
        have e1 : decide ((ks.length : Int) < (ks.length : Int)) = false := by simp
        rw [List.take_length] at K
        apply Wc.loop
        simp only [loop61, loopOf, firstLoop, Option.getD, Tryd.f61]
        repeat' (first | (with_reducible apply Wc.seq) | (apply Wc.ops; (focus ((repeat' (first | with_reducible exact RO.nil | ((with_reducible apply RO.run (awant_none rfl)); (focus ((first | simp +decide only [awant, ayield_get, oper1, aop, opv, opvs, opvo, opvp, abuiltin, aun, Ac.get_put, abin, isShift, aint, roV, pair, bind, Option.bind, acall, Sx, n0, q37, q38, e1] | skip); with_reducible rfl))))); done))) | (refine Wc.cond2 (by simp +decide only [opv, Ac.get_put, Sx, n0, q37, q38, e1]; try with_reducible rfl) (fun hb => ?_) (fun hb => ?_) <;> try contradiction) | refine Wc.skip ?_ | refine Wc.ret ?_ | refine Wc.exit ?_ | refine Wc.block ?_)
        exact ⟨rfl, by simp +decide only [Ac.get_put, Sx, n0], by simp +decide only [Ac.get_put, Sx, d0], by simp +decide only [Ac.get_put, Sx, n0, q1], by simp +decide only [Ac.get_put, Sx, n0, q3], by simp +decide only [Ac.get_put, Sx, n0, q4], sl, by simp +decide only [Ac.get_put, Sx, n0, q5], M2, K⟩
      | succ r ih =>
        intro i sl A0 h2 hr hi n0 d0 q1 q3 q4 q5 q36 q37 q38 M2 K
        have hil : i < ks.length := by omega
        have e1 : decide ((i : Int) < (ks.length : Int)) = true := by simp; omega
        have hir : inRange (i : Int) ks.length = true := by
          show Nat.blt i ks.length = true
          rw [Nat.blt_eq]; exact hil
        have w4 : IntKind.i64.wrap ((i : Int) + 1) = ((i + 1 : Nat) : Int) := wrap64 (by omega) (by omega)
        have MM := (M1.trans M).trans M2
        obtain ⟨hl4, hrk⟩ := repL_get i hrl (List.getElem?_eq_getElem hil)
        have hsub := cells_sub (cells_grow MM.gof2 hcs) (m := i * 4) (l := 4) (by omega)
        obtain ⟨l0, l1, l2, l3, hq, ol⟩ := item_four hrk
        rw [hq] at hsub hrk
        have hmem : ks[i] ∈ ks := List.getElem_mem hil
        have hsz := isz_mem hmem
        have hel := encL_take hil
        have hle := encL_le ks (i + 1)
        have hle0 := encL_le ks i
        rw [hel, List.length_append] at hle
        have t3 : Ahd h2 (h2.new (.cells (Value.agg #[.int .i64 0, .int .i64 0, .string ⟨#[]⟩, .slice none 0 0]).cells.toList 25 none)) := Ahd.new0 M2.fit rfl
        have b3 : (h2.new (.cells (Value.agg #[.int .i64 0, .int .i64 0, .string ⟨#[]⟩, .slice none 0 0]).cells.toList 25 none)).blk h2.next = some (.cells zeroL 25 none) := new_blk_new rfl
        have s3 := astore_all (ys := [l0, l1, l2, l3]) qty25 b3 rfl rfl ol (by simp)
        have t4 := t3.setl (k := h2.next) (B := .cells [l0, l1, l2, l3] 25 none) rfl (Nat.le_refl _) (t3.fit.lt b3) M2.fit
        have b4 := setl_same (h := h2.new (.cells (Value.agg #[.int .i64 0, .int .i64 0, .string ⟨#[]⟩, .slice none 0 0]).cells.toList 25 none)) (k := h2.next) (B := .cells [l0, l1, l2, l3] 25 none) rfl
        generalize hh3 : h2.new (.cells (Value.agg #[.int .i64 0, .int .i64 0, .string ⟨#[]⟩, .slice none 0 0]).cells.toList 25 none) = h3 at s3 t4 b4
        generalize h3.setl h2.next (.cells [l0, l1, l2, l3] 25 none) = h4 at s3 t4 b4
        have x4 : h4.cells E (own h2.next) 4 = some [l0, l1, l2, l3] := blk_cells b4 rfl ol
        obtain ⟨nf, v, h5, ck, m5, BK⟩ := IH ks[i] _ h4 (by omega) (rep_grow (MM.gof2.trans t4.grows) hrk) t4.fit (goodL_mem g6 hmem) (by omega) (by omega)
        have BK := BK.grow (only_grows m5.fit)
        have K5 := (K.mod (t4.mod (M := fun _ => False)) (fun _ _ h => h.elim)).mod m5 (fun _ _ h => h.elim)
        have M5 := (M2.trans t4.mod).trans m5
        obtain ⟨bv, cv, hv⟩ := BK.slice
        obtain ⟨sl', q, happ, K6, AP⟩ := bol_step (D := tab) (E := E) (t := 31) (t2 := 31) (by_ := 1) m5.fit M5.next (Nat.le_trans t4.next m5.next) K5 qty31 qtz5 rfl (by rw [hv]; exact qza31 _ _ _) BK (by
          unfold roomy
          simp only [Bool.and_eq_true, Nat.ble_eq, List.length_append]; omega)
        have M6 := AP.mod M.fit (Nat.le_refl _) M5
        rw [List.append_assoc, ← hel] at K6
        apply Wc.loop
        simp only [loop61, loopOf, firstLoop, Option.getD, Tryd.f61]
        repeat' (first | (with_reducible apply Wc.seq) | (apply Wc.opsN nf; (focus ((repeat' (first | with_reducible exact RO.nil | ((with_reducible apply RO.run (awant_none rfl)); (focus ((first | simp +decide only [awant, ayield_get, oper1, aop, opv, opvs, opvo, opvp, abuiltin, aun, Ac.get_put, abin, isShift, aint, roV, pair, bind, Option.bind, acall, Sx, n0, q5, q36, q37, q38, e1, qia23 _ _ _ _ hir, Int.toNat_natCast, Qx, Hx, hsub, qtz25, hh3, s3, x4, ck, happ, w4] | skip); with_reducible rfl))))); done))) | (refine Wc.cond2 (by simp +decide only [opv, Ac.get_put, Sx, n0, q5, q36, q37, q38, e1, qia23 _ _ _ _ hir, Int.toNat_natCast, Qx, Hx, hsub, qtz25, hh3, s3, x4, ck, happ, w4]; try with_reducible rfl) (fun hb => ?_) (fun hb => ?_) <;> try contradiction) | refine Wc.skip ?_ | refine Wc.ret ?_ | refine Wc.exit ?_ | refine Wc.block ?_)
        refine ih (i + 1) sl' _ q (by omega) (by omega) ?_ ?_ ?_ ?_ ?_ ?_ ?_ ?_ ?_ M6 K6
        · simp +decide only [Ac.get_put, Sx, n0]
        · simp +decide only [Ac.get_put, Sx, d0]
        · simp +decide only [Ac.get_put, Sx, n0, q1]
        · simp +decide only [Ac.get_put, Sx, n0, q3]
        · simp +decide only [Ac.get_put, Sx, n0, q4]
        · simp +decide only [Ac.get_put, Sx, n0]
        · simp +decide only [Ac.get_put, Sx, n0, q36]
        · simp +decide only [Ac.get_put, Sx, n0, q37]
        · simp +decide only [Ac.get_put, Sx, n0]
    repeat' (first | (with_reducible apply Wc.seq) | (apply Wc.opsN n7; (focus ((repeat' (first | with_reducible exact RO.nil | ((with_reducible apply RO.run (awant_none rfl)); (focus ((first | simp +decide only [awant, ayield_get, oper1, aop, opv, opvs, opvo, opvp, abuiltin, aun, Ac.get_put, abin, isShift, aint, roV, pair, bind, Option.bind, acall, Sx, n0, q1, q3, q28, eb, w3, Qx, Hx, c3, c7, c3'] | skip); with_reducible rfl))))); done))) | (refine Wc.cond2 (by simp +decide only [opv, Ac.get_put, Sx, n0, q1, q3, q28, eb, w3, Qx, Hx, c3, c7, c3']; try with_reducible rfl) (fun hb => ?_) (fun hb => ?_) <;> try contradiction) | refine Wc.skip ?_ | refine Wc.ret ?_ | refine Wc.exit ?_ | refine Wc.block ?_)
    refine (key ks.length 0 v7 _ g7 rfl (Nat.zero_le _) ?_ ?_ ?_ ?_ ?_ ?_ ?_ ?_ ?_ m7 (by rw [List.take_zero, encL, List.append_nil]; exact K7)).mono ?_
    · simp +decide only [Ac.get_put, Sx, n0]
    · simp +decide only [Ac.get_put, Sx, d0]
    · simp +decide only [Ac.get_put, Sx, n0, q1]
    · simp +decide only [Ac.get_put, Sx, n0]
    · simp +decide only [Ac.get_put, Sx, n0, q4]
    · simp +decide only [Ac.get_put, Sx, n0]
    · simp +decide only [Ac.get_put, Sx, n0]
    · simp +decide only [Ac.get_put, Sx, n0]
    · simp +decide only [Ac.get_put, Sx, n0]
      rfl
    · rintro ex A' h' ⟨rfl, a1, a2, a3, a4, a5, sl, a6, a7, a8⟩
      simp only [if_true]
      exact ⟨trivial, a1, a2, a3, by rw [if_neg hks]; exact a4, a5, sl, a6, a7, by rw [hkB]; exact a8.byt⟩
  rintro ex A0 g' ⟨rfl, n0, d0, q1, q3, q4, v5, q5, M', B5⟩
  simp only []
  generalize hh5 : (if ks.length = 0 then 0 else 128 : Nat) = hk at q3
  have hhk : hk ≤ 128 := by rw [← hh5]; split <;> omega
  obtain ⟨_, c1, _, _⟩ := cel (M.trans M')
  have hbs := qbs31 ((kn + ht + hk : Nat) : Int) (h := g')
  obtain ⟨g2, t2, hh2, hby⟩ := one_byte (E := E) M'.fit (kn + ht + hk) (by omega)
  rw [hh2] at hbs
  obtain ⟨_, c1, _, _⟩ := cel ((M.trans M').trans t2.mod)
  obtain ⟨n7, v7, g3, c7, m7, K7⟩ := numB97 (E := E) (I := I) hI97 t2.fit nn (by omega)
  have B4' := B4.grow ((M'.gof2.trans t2.grows).trans m7.gof2)
  have B5' := B5.grow (t2.grows.trans m7.gof2)
  have B1' := hby.grow m7.gof2
  have B7' := K7.byt (E := E)
  obtain ⟨o4, e4⟩ := byt_one B4'
  obtain ⟨o5, e5⟩ := byt_one B5'
  obtain ⟨o7, e7⟩ := byt_one B7'
  have hbs4 := qbs176_4 (a := .slice (some (own g'.next)) 1 1) (b := v7) (c := v4) (d := v5) rfl e7 e4 e5 (h := g3)
  generalize hZ : (Blk.cells [.slice (some (own g'.next)) 1 1, v7, v4, v5] 31 none) = Z at hbs4
  have t4 : Ahd g3 (g3.new Z) := by rw [← hZ]; exact Ahd.new0 m7.fit rfl
  have b4 : (g3.new Z).blk g3.next = some (.cells [.slice (some (own g'.next)) 1 1, v7, v4, v5] 31 none) := by rw [← hZ]; exact new_blk_new rfl
  generalize g3.new Z = g4 at hbs4 t4 b4
  have hall : allB [(Value.slice (some (own g'.next)) 1 1, [UInt8.ofNat (kn + ht + hk)]), (v7, numB nn), (v4, txtB tx), (v5, kidB ks)] = UInt8.ofNat (kn + ht + hk) :: (numB nn ++ (txtB tx ++ kidB ks)) := by simp [allB]
  obtain ⟨n8, v8, g5, c8, m8, nn8, K8⟩ := join96 (E := E) (I := I) hI96 (L := [(Value.slice (some (own g'.next)) 1 1, [UInt8.ofNat (kn + ht + hk)]), (v7, numB nn), (v4, txtB tx), (v5, kidB ks)]) (kp := g3.next) (c := 4) t4.fit b4 (fun x hx => by
    simp only [List.mem_cons, List.not_mem_nil, or_false] at hx
    rcases hx with rfl | rfl | rfl | rfl
    · exact B1'.grow t4.grows
    · exact B7'.grow t4.grows
    · exact B4'.grow t4.grows
    · exact B5'.grow t4.grows) (by rw [hall]; simp) (by rw [hall, List.length_cons, List.length_append, List.length_append]; omega) (by simp)
  rw [hall] at K8
  have c8 : (ev tab E I n8).call 96 [.slice (some (own g3.next)) 4 4] g4 = some (v8, g5) := c8
  have c7f := (ev_mono (D := tab) (E := E) I (Nat.le_max_left n7 n8)).call c7
  have c8f := (ev_mono (D := tab) (E := E) I (Nat.le_max_right n7 n8)).call c8
  repeat' (first | (with_reducible apply Wc.seq) | (apply Wc.opsN (max n7 n8); (focus ((repeat' (first | with_reducible exact RO.nil | ((with_reducible apply RO.run (awant_none rfl)); (focus ((first | simp +decide only [awant, ayield_get, oper1, aop, opv, opvs, opvo, opvp, abuiltin, aun, Ac.get_put, abin, isShift, aint, roV, pair, bind, Option.bind, acall, Sx, n0, q1, q3, q4, q5, hbs, Qx, Hx, c1, c7f, hbs4, c8f] | skip); with_reducible rfl))))); done))) | (refine Wc.cond2 (by simp +decide only [opv, Ac.get_put, Sx, n0, q1, q3, q4, q5, hbs, Qx, Hx, c1, c7f, hbs4, c8f]; try with_reducible rfl) (fun hb => ?_) (fun hb => ?_) <;> try contradiction) | refine Wc.skip ?_ | refine Wc.ret ?_ | refine Wc.exit ?_ | refine Wc.block ?_)
  refine done_q (v := v8) (.inr rfl) (by simp +decide only [Ac.get_put, Sx, d0]) rfl (by simp +decide only [Ac.get_put, Sx, n0]) ⟨((((M1.trans M).trans M').trans t2.mod).trans m7).trans (t4.mod.trans m8), ?_⟩
  rw [encI_eq, Int.toNat_natCast, Int.toNat_natCast, hh0, hh5]
  exact K8.bytO m8.fit (((((M1.trans M).trans M').trans t2.mod).trans m7).trans t4.mod).next
end Go.Proofs.YtofijpbmbmbnhaaDoor
/- Items are written: Encode, Join. -/
set_option maxRecDepth 100000
set_option maxHeartbeats 16000000
namespace Go.Proofs.YtofijpbmbmbnhaaDoor
open Go Go.Hs Go.Proofs
variable {E : Env} {I : Known}
theorem fn60 : tab.fn.get 60 = some Tryd.f60 := by kernel_rfl
theorem fn25 : tab.fn.get 25 = some Tryd.f25 := by kernel_rfl
theorem fn37 : tab.fn.get 37 = some Tryd.f37 := by kernel_rfl
noncomputable def loop37 : Code := loopOf Tryd.f37
def Chk (E : Env) (K : Known) : Prop := (∀ t xv h, rep E h t xv → isz t ≤ 1000000 → K 35 [xv] h = some (some (.int .i64 (chkI t 0 1).2, h))) ∧ ∀ ks sl h, repK E h ks sl → iszL ks ≤ 1000000 → K 65 [sl] h = some (some (.int .i64 (chkAll ks), h))
theorem chkI_fine {t : Hs.Item} (h : goodI t ∧ lvlI t ≤ 250 ∧ isz t ≤ 5000) : (chkI t 0 1).2 = 0 := chkI_good t 0 1 h.1 (by omega) (by omega) (by omega)
theorem chkAll_fine : ∀ {ks : List Hs.Item}, fineL ks → chkAll ks = 0
  | [], _ => by rw [chkAll]
  | x :: xs, h => by
    rw [chkAll, chkI_fine (h x (by simp)), if_neg (by simp)]
    exact chkAll_fine fun t ht => h t (by simp [ht])
theorem short60 (hI : ∀ args h, I 60 args h = none) {g : H} {v : Value} {bs : List UInt8} (hb : Byt E g v bs) (hl : bs.length ≤ 65536) :
    ∃ k x g', (ev tab E I k).call 60 [v] g = some (x, g') ∧ (x = .tuple #[v, .int .i64 0] ∧ g' = g) := by
  obtain ⟨va, vc, hv⟩ := hb.slice
  have ln : ∀ h, alen tab 31 v h = some (.int .i64 (bs.length : Nat)) := fun h => by rw [hv]; exact qlen31 _ _ _
  have e1 : decide ((bs.length : Int) > 65536) = false := decide_eq_false (by omega)
  refine Wc.call (hI _ _) fn60 rfl ?_
  generalize hA0 : (⟨T.ofList [v] 0 .nil, max ([v] : List Value).length Tryd.f60.ntmps, []⟩ : Ac) = A0
  have n0 : A0.n = 10 := by rw [← hA0]; rfl
  have q0 : A0.get 0 = v := by rw [← hA0]; rfl
  have d0 : A0.defers = [] := by rw [← hA0]
  clear hA0
  repeat' (first | (with_reducible apply Wc.seq) | (apply Wc.ops; (focus ((repeat' (first | with_reducible exact RO.nil | ((with_reducible apply RO.run (awant_none rfl)); (focus ((first | simp +decide only [awant, ayield_get, oper1, aop, opv, opvs, opvo, opvp, abuiltin, aun, Gx, abin, isShift, aint, roV, pair, bind, Option.bind, acall, Sx, n0, q0, ln, e1] | skip); with_reducible rfl))))); done))) | (refine Wc.cond2 (by simp +decide only [opv, Gx, Sx, n0, q0, ln, e1]; try with_reducible rfl) (fun hb => ?_) (fun hb => ?_) <;> try contradiction) | refine Wc.skip ?_ | refine Wc.ret ?_ | refine Wc.exit ?_ | refine Wc.block ?_)
  exact done_r2 (v := v) (x := .int .i64 0) (.inr rfl) (by simp +decide only [Gx, Sx, d0]) rfl (by simp +decide only [Gx, Sx, n0, q0]) (by simp +decide only [Gx, Sx, n0]) ⟨rfl, rfl⟩
theorem encode25 (hI : ∀ f args h, (f = 25 ∨ f = 60 ∨ f = 61 ∨ f = 96 ∨ f = 97 ∨ f = 122 ∨ f = 127) → I f args h = none) (kc : Chk E I) {g : H} {t : Hs.Item} {xv : Value} (f : Fit g) (hr : rep E g t xv) (hf : goodI t ∧ lvlI t ≤ 250 ∧ isz t ≤ 5000) (hl : (encI t).length ≤ 65536) :
    ∃ k x g', (ev tab E I k).call 25 [xv] g = some (x, g') ∧ (∃ v, x = .tuple #[v, .int .i64 0] ∧ Mod (fun _ => False) g g' ∧ Byt E (only (fun r => Nat.ble g.next r) g') v (encI t)) := by
  obtain ⟨la, rfl⟩ : ∃ l, xv = .agg ⟨l⟩ := by
    obtain ⟨k', m', tx', ks'⟩ := t
    obtain ⟨sb', sc', rfl, _⟩ := rep_slice hr
    exact ⟨_, rfl⟩
  obtain ⟨l0, l1, l2, l3, rfl, ol⟩ := item_four hr
  generalize hh1 : g.new (.cells (Value.agg ⟨[l0, l1, l2, l3]⟩).cells.toList 25 none) = g1
  have t1 : Ahd g g1 := by rw [← hh1]; exact Ahd.new0 f rfl
  have b1 : g1.blk g.next = some (.cells [l0, l1, l2, l3] 25 none) := by rw [← hh1]; exact new_blk_new rfl
  have x1 : g1.cells E (own g.next) 4 = some [l0, l1, l2, l3] := blk_cells b1 rfl ol
  have r1 := rep_grow t1.grows hr
  have c35 := ev_known (D := tab) (E := E) (kc.1 t _ g1 r1 (by omega))
  rw [chkI_fine hf] at c35
  obtain ⟨nf, v, g2, ck, m2, B2⟩ := enc61 (E := E) (I := I) (fun f args h hf => hI f args h (by rcases hf with h | h | h | h | h <;> simp [h])) (isz t) t _ g1 (Nat.le_refl _) r1 t1.fit hf.1 hf.2.2 (by omega)
  obtain ⟨ns, _, _, cs, rfl, rfl⟩ := short60 (E := E) (I := I) (fun args h => hI _ _ _ (by simp)) (B2.grow (only_grows m2.fit)) hl
  have c1 := (ev_mono (D := tab) (E := E) I (show 1 ≤ nf + ns + 1 by omega)).call c35
  have c2 := (ev_mono (D := tab) (E := E) I (show nf ≤ nf + ns + 1 by omega)).call ck
  have c3 := (ev_mono (D := tab) (E := E) I (show ns ≤ nf + ns + 1 by omega)).call cs
  refine Wc.call (hI _ _ _ (by simp)) fn25 rfl ?_
  generalize hA0 : (⟨T.ofList [.agg ⟨[l0, l1, l2, l3]⟩] 0 .nil, max ([.agg ⟨[l0, l1, l2, l3]⟩] : List Value).length Tryd.f25.ntmps, []⟩ : Ac) = A0
  have n0 : A0.n = 15 := by rw [← hA0]; rfl
  have q0 : A0.get 0 = .agg ⟨[l0, l1, l2, l3]⟩ := by rw [← hA0]; rfl
  have d0 : A0.defers = [] := by rw [← hA0]
  clear hA0
  repeat' (first | (with_reducible apply Wc.seq) | (apply Wc.opsN (nf + ns + 1); (focus ((repeat' (first | with_reducible exact RO.nil | ((with_reducible apply RO.run (awant_none rfl)); (focus ((first | simp +decide only [awant, ayield_get, oper1, aop, opv, opvs, opvo, opvp, abuiltin, aun, Gx, abin, isShift, aint, roV, pair, bind, Option.bind, acall, Sx, n0, q0, hh1, Qx, Hx, x1, c1, c2, c3] | skip); with_reducible rfl))))); done))) | (refine Wc.cond2 (by simp +decide only [opv, Gx, Sx, n0, q0, hh1, Qx, Hx, x1, c1, c2, c3]; try with_reducible rfl) (fun hb => ?_) (fun hb => ?_) <;> try contradiction) | refine Wc.skip ?_ | refine Wc.ret ?_ | refine Wc.exit ?_ | refine Wc.block ?_)
  exact done_r2 (v := v) (x := .int .i64 0) (.inr rfl) (by simp +decide only [Gx, Sx, d0]) rfl (by simp +decide only [Gx, Sx, n0]) (by simp +decide only [Gx, Sx, n0]) ⟨v, rfl, t1.mod.trans m2, B2.grow (only_sub m2.fit (fun r hr => by rw [Nat.ble_eq] at hr ⊢; have := t1.next; omega))⟩
theorem join37 (hI : ∀ f args h, (f = 37 ∨ f = 60 ∨ f = 61 ∨ f = 96 ∨ f = 97 ∨ f = 122 ∨ f = 127) → I f args h = none) (kc : Chk E I) {g : H} {ks : List Hs.Item} {sl : Value} (f : Fit g) (hr : repK E g ks sl) (hf : fineL ks) (hz : iszL ks ≤ 5000) (hl : (encL ks).length ≤ 65536) :
    ∃ k x g', (ev tab E I k).call 37 [sl] g = some (x, g') ∧ (∃ v, x = .tuple #[v, .int .i64 0] ∧ Mod (fun _ => False) g g' ∧ Byt E g' v (encL ks) ∧ (ks.length = 0 → v = .slice none 0 0)) := by
  obtain ⟨b, c, rfl, _, hs⟩ := repK_slice hr
  have hkl := len_iszE ks
  have c65 := ev_known (D := tab) (E := E) (kc.2 ks _ g hr (by omega))
  rw [chkAll_fine hf] at c65
  have key : ∀ (r i : Nat) (sl : Value) (A0 : Ac) (h2 : H), r = ks.length - i → i ≤ ks.length → A0.n = 28 → A0.defers = [] → A0.get 5 = sl → A0.get 13 = .slice b ks.length c → A0.get 14 = .int .i64 (ks.length : Nat) → A0.get 15 = .int .i64 (i : Nat) → Mod (fun _ => False) g h2 → Bol 5 g.next h2.next h2 sl (encL (ks.take i)) → (i = 0 → sl = .slice none 0 0) →
      Wc tab E I ⟨37, none⟩ (.loop loop37) A0 h2 (fun ex A' h' => ex = .exit 0 ∧ A'.n = 28 ∧ A'.defers = [] ∧ ∃ sl, A'.get 5 = sl ∧ Mod (fun _ => False) g h' ∧ Bol 5 g.next h'.next h' sl (encL ks) ∧ (ks.length = 0 → sl = .slice none 0 0)) := by
    intro r
    induction r with
    | zero =>
      intro i sl A0 h2 hr hi n0 d0 q5 q13 q14 q15 M2 K hs0
      obtain rfl : i = ks.length := by omega
      have e1 : decide ((ks.length : Int) < (ks.length : Int)) = false := by simp
      rw [List.take_length] at K
      apply Wc.loop
      simp only [loop37, loopOf, firstLoop, Option.getD, Tryd.f37]
      repeat' (first | (with_reducible apply Wc.seq) | (apply Wc.ops; (focus ((repeat' (first | with_reducible exact RO.nil | ((with_reducible apply RO.run (awant_none rfl)); (focus ((first | simp +decide only [awant, ayield_get, oper1, aop, opv, opvs, opvo, opvp, abuiltin, aun, Gx, abin, isShift, aint, roV, pair, bind, Option.bind, acall, Sx, n0, q14, q15, e1] | skip); with_reducible rfl))))); done))) | (refine Wc.cond2 (by simp +decide only [opv, Gx, Sx, n0, q14, q15, e1]; try with_reducible rfl) (fun hb => ?_) (fun hb => ?_) <;> try contradiction) | refine Wc.skip ?_ | refine Wc.ret ?_ | refine Wc.exit ?_ | refine Wc.block ?_)
      exact ⟨rfl, by simp +decide only [Gx, Sx, n0], by simp +decide only [Gx, Sx, d0], sl, by simp +decide only [Gx, Sx, n0, q5], M2, K, hs0⟩
    | succ r ih =>
      intro i sl A0 h2 hr hi n0 d0 q5 q13 q14 q15 MM K hs0
      have hil : i < ks.length := by omega
      rcases hs with hk0 | ⟨a, cs, rfl, hcs, hrl⟩
      · rw [hk0] at hil; simp at hil
      have e1 : decide ((i : Int) < (ks.length : Int)) = true := by simp; omega
      have hir : inRange (i : Int) ks.length = true := by
        show Nat.blt i ks.length = true
        rw [Nat.blt_eq]; exact hil
      have w4 : IntKind.i64.wrap ((i : Int) + 1) = ((i + 1 : Nat) : Int) := wrap64 (by omega) (by omega)
      obtain ⟨hl4, hrk⟩ := repL_get i hrl (List.getElem?_eq_getElem hil)
      have hsub := cells_sub (cells_grow MM.gof2 hcs) (m := i * 4) (l := 4) (by omega)
      obtain ⟨l0, l1, l2, l3, hq, ol⟩ := item_four hrk
      rw [hq] at hsub hrk
      have hmem : ks[i] ∈ ks := List.getElem_mem hil
      obtain ⟨f1, f2, f3⟩ := hf _ hmem
      have hel := encL_take hil
      have hle := encL_le ks (i + 1)
      have hle0 := encL_le ks i
      rw [hel, List.length_append] at hle
      have t3 : Ahd h2 (h2.new (.cells (Value.agg #[.int .i64 0, .int .i64 0, .string ⟨#[]⟩, .slice none 0 0]).cells.toList 25 none)) := Ahd.new0 MM.fit rfl
      have b3 : (h2.new (.cells (Value.agg #[.int .i64 0, .int .i64 0, .string ⟨#[]⟩, .slice none 0 0]).cells.toList 25 none)).blk h2.next = some (.cells zeroL 25 none) := new_blk_new rfl
      have s3 := astore_all (ys := [l0, l1, l2, l3]) qty25 b3 rfl rfl ol (by simp)
      have t4 := t3.setl (k := h2.next) (B := .cells [l0, l1, l2, l3] 25 none) rfl (Nat.le_refl _) (t3.fit.lt b3) MM.fit
      have b4 := setl_same (h := h2.new (.cells (Value.agg #[.int .i64 0, .int .i64 0, .string ⟨#[]⟩, .slice none 0 0]).cells.toList 25 none)) (k := h2.next) (B := .cells [l0, l1, l2, l3] 25 none) rfl
      generalize hh3 : h2.new (.cells (Value.agg #[.int .i64 0, .int .i64 0, .string ⟨#[]⟩, .slice none 0 0]).cells.toList 25 none) = h3 at s3 t4 b4
      generalize h3.setl h2.next (.cells [l0, l1, l2, l3] 25 none) = h4 at s3 t4 b4
      have x4 : h4.cells E (own h2.next) 4 = some [l0, l1, l2, l3] := blk_cells b4 rfl ol
      obtain ⟨nf, v, h5, ck, m5, BK⟩ := enc61 (E := E) (I := I) (fun f args h hf => hI f args h (by rcases hf with h | h | h | h | h <;> simp [h])) (isz ks[i]) ks[i] _ h4 (Nat.le_refl _) (rep_grow (MM.gof2.trans t4.grows) hrk) t4.fit f1 f3 (by omega)
      have BK := BK.grow (only_grows m5.fit)
      have K5 := (K.mod (t4.mod (M := fun _ => False)) (fun _ _ h => h.elim)).mod m5 (fun _ _ h => h.elim)
      have M5 := (MM.trans t4.mod).trans m5
      obtain ⟨bv, cv, hv⟩ := BK.slice
      obtain ⟨sl', q, happ, K6, AP⟩ := bol_step (D := tab) (E := E) (t := 31) (t2 := 31) (by_ := 1) m5.fit M5.next (Nat.le_trans t4.next m5.next) K5 qty31 qtz5 rfl (by rw [hv]; exact qza31 _ _ _) BK (by
        unfold roomy
        simp only [Bool.and_eq_true, Nat.ble_eq]; omega)
      have M6 := AP.mod f (Nat.le_refl _) M5
      rw [← hel] at K6
      apply Wc.loop
      simp only [loop37, loopOf, firstLoop, Option.getD, Tryd.f37]
      repeat' (first | (with_reducible apply Wc.seq) | (apply Wc.opsN nf; (focus ((repeat' (first | with_reducible exact RO.nil | ((with_reducible apply RO.run (awant_none rfl)); (focus ((first | simp +decide only [awant, ayield_get, oper1, aop, opv, opvs, opvo, opvp, abuiltin, aun, Gx, abin, isShift, aint, roV, pair, bind, Option.bind, acall, Sx, n0, q5, q13, q14, q15, e1, qia23 _ _ _ _ hir, Int.toNat_natCast, Qx, Hx, hsub, qtz25, hh3, s3, x4, ck, happ, w4] | skip); with_reducible rfl))))); done))) | (refine Wc.cond2 (by simp +decide only [opv, Gx, Sx, n0, q5, q13, q14, q15, e1, qia23 _ _ _ _ hir, Int.toNat_natCast, Qx, Hx, hsub, qtz25, hh3, s3, x4, ck, happ, w4]; try with_reducible rfl) (fun hb => ?_) (fun hb => ?_) <;> try contradiction) | refine Wc.skip ?_ | refine Wc.ret ?_ | refine Wc.exit ?_ | refine Wc.block ?_)
      refine ih (i + 1) sl' _ q (by omega) (by omega) ?_ ?_ ?_ ?_ ?_ ?_ M6 K6 (fun h => by omega)
      · simp +decide only [Gx, Sx, n0]
      · simp +decide only [Gx, Sx, d0]
      · simp +decide only [Gx, Sx, n0]
      · simp +decide only [Gx, Sx, n0, q13]
      · simp +decide only [Gx, Sx, n0, q14]
      · simp +decide only [Gx, Sx, n0]
  refine Wc.call (hI _ _ _ (.inl rfl)) fn37 rfl ?_
  generalize hA0 : (⟨T.ofList [.slice b ks.length c] 0 .nil, max ([.slice b ks.length c] : List Value).length Tryd.f37.ntmps, []⟩ : Ac) = A0
  have n0 : A0.n = 28 := by rw [← hA0]; rfl
  have q0 : A0.get 0 = .slice b ks.length c := by rw [← hA0]; rfl
  have d0 : A0.defers = [] := by rw [← hA0]
  clear hA0
  repeat' (first | (with_reducible apply Wc.seq) | (apply Wc.opsN 1; (focus ((repeat' (first | with_reducible exact RO.nil | ((with_reducible apply RO.run (awant_none rfl)); (focus ((first | simp +decide only [awant, ayield_get, oper1, aop, opv, opvs, opvo, opvp, abuiltin, aun, Gx, abin, isShift, aint, roV, pair, bind, Option.bind, acall, Sx, n0, q0, c65, Qx] | skip); with_reducible rfl))))); done))) | (refine Wc.cond2 (by simp +decide only [opv, Gx, Sx, n0, q0, c65, Qx]; try with_reducible rfl) (fun hb => ?_) (fun hb => ?_) <;> try contradiction) | refine Wc.skip ?_ | refine Wc.ret ?_ | refine Wc.exit ?_ | refine Wc.block ?_)
  refine (key ks.length 0 (.slice none 0 0) _ g rfl (Nat.zero_le _) ?_ ?_ ?_ ?_ ?_ ?_ (Mod.refl f) (by rw [List.take_zero, encL]; exact Bol.nil _ _ _) (fun _ => rfl)).mono ?_
  · simp +decide only [Gx, Sx, n0]
  · simp +decide only [Gx, Sx, d0]
  · simp +decide only [Gx, Sx, n0]
  · simp +decide only [Gx, Sx, n0]
  · simp +decide only [Gx, Sx, n0]
  · simp +decide only [Gx, Sx, n0]
    rfl
  · rintro ex A0 h' ⟨rfl, n0, d0, sl, q5, M, K, hs0⟩
    simp only [if_true]
    have B := K.byt (E := E)
    obtain ⟨ns, _, _, cs, rfl, rfl⟩ := short60 (E := E) (I := I) (fun args h => hI _ _ _ (by simp)) B hl
    repeat' (first | (with_reducible apply Wc.seq) | (apply Wc.opsN ns; (focus ((repeat' (first | with_reducible exact RO.nil | ((with_reducible apply RO.run (awant_none rfl)); (focus ((first | simp +decide only [awant, ayield_get, oper1, aop, opv, opvs, opvo, opvp, abuiltin, aun, Gx, abin, isShift, aint, roV, pair, bind, Option.bind, acall, Sx, n0, q5, cs] | skip); with_reducible rfl))))); done))) | (refine Wc.cond2 (by simp +decide only [opv, Gx, Sx, n0, q5, cs]; try with_reducible rfl) (fun hb => ?_) (fun hb => ?_) <;> try contradiction) | refine Wc.skip ?_ | refine Wc.ret ?_ | refine Wc.exit ?_ | refine Wc.block ?_)
    exact done_r2 (v := sl) (x := .int .i64 0) (.inr rfl) (by simp +decide only [Gx, Sx, d0]) rfl (by simp +decide only [Gx, Sx, n0]) (by simp +decide only [Gx, Sx, n0]) ⟨sl, rfl, M, B, hs0⟩
end Go.Proofs.YtofijpbmbmbnhaaDoor
/- Numbers are looked for; items compared by the law's closure. -/
set_option maxRecDepth 100000
set_option maxHeartbeats 16000000
namespace Go.Proofs.YtofijpbmbmbnhaaDoor
open Go Go.Hs Go.Proofs
variable {E : Env} {I : Known}
theorem fn40 : tab.fn.get 40 = some Tryd.f40 := by kernel_rfl
theorem fn39 : tab.fn.get 39 = some Tryd.f39 := by kernel_rfl
theorem fn38 : tab.fn.get 38 = some Tryd.f38 := by kernel_rfl
noncomputable def loop40 : Code := loopOf Tryd.f40
theorem same38 (hI : ∀ args h, I 38 args h = none) (k14 : Alk E I) {g : H} {t : Hs.Item} {l m : List Value} (f : Fit g) (h1 : rep E g t (.agg ⟨l⟩)) (h2 : rep E g t (.agg ⟨m⟩)) (hl : lvlI t ≤ 400) (hz : isz t ≤ 1000000) :
    ∃ n x g', (ev tab E I n).call 38 [.agg ⟨l⟩, .agg ⟨m⟩] g = some (x, g') ∧ (x = .bool true ∧ Ahd g g') := by
  obtain ⟨l0, l1, l2, l3, rfl, ol⟩ := item_four h1
  obtain ⟨m0, m1, m2, m3, rfl, om⟩ := item_four h2
  refine Wc.call (hI _ _) fn38 rfl ?_
  generalize hA0 : (⟨T.ofList [.agg ⟨[l0, l1, l2, l3]⟩, .agg ⟨[m0, m1, m2, m3]⟩] 0 .nil, max ([.agg ⟨[l0, l1, l2, l3]⟩, .agg ⟨[m0, m1, m2, m3]⟩] : List Value).length Tryd.f38.ntmps, []⟩ : Ac) = A0
  have n0 : A0.n = 8 := by rw [← hA0]; rfl
  have q0 : A0.get 0 = .agg ⟨[l0, l1, l2, l3]⟩ := by rw [← hA0]; rfl
  have q1 : A0.get 1 = .agg ⟨[m0, m1, m2, m3]⟩ := by rw [← hA0]; rfl
  have d0 : A0.defers = [] := by rw [← hA0]
  clear hA0
  generalize hh1 : g.new (.cells (Value.agg ⟨[l0, l1, l2, l3]⟩).cells.toList 25 none) = g1
  have t1 : Ahd g g1 := by rw [← hh1]; exact Ahd.new0 f rfl
  have b1 : g1.blk g.next = some (.cells [l0, l1, l2, l3] 25 none) := by rw [← hh1]; exact new_blk_new rfl
  generalize hh2 : g1.new (.cells (Value.agg ⟨[m0, m1, m2, m3]⟩).cells.toList 25 none) = g2
  have t2 : Ahd g1 g2 := by rw [← hh2]; exact Ahd.new0 t1.fit rfl
  have b2 : g2.blk g1.next = some (.cells [m0, m1, m2, m3] 25 none) := by rw [← hh2]; exact new_blk_new rfl
  have x1 : g2.cells E (own g.next) 4 = some [l0, l1, l2, l3] := blk_cells (t2.grows _ _ b1) rfl ol
  have x2 : g2.cells E (own g1.next) 4 = some [m0, m1, m2, m3] := blk_cells b2 rfl om
  have t12 := t1.trans t2
  have c := ev_known (D := tab) (E := E) (k14 t _ _ g2 (rep_grow t12.grows h1) (rep_grow t12.grows h2) hl hz)
  repeat' (first | (with_reducible apply Wc.seq) | (apply Wc.opsN 1; (focus ((repeat' (first | with_reducible exact RO.nil | ((with_reducible apply RO.run (awant_none rfl)); (focus ((first | simp +decide only [awant, ayield_get, oper1, aop, opv, opvs, opvo, opvp, abuiltin, aun, Gx, abin, isShift, aint, roV, pair, bind, Option.bind, acall, Sx, n0, q0, q1, hh1, hh2, Qx, Hx, x1, x2, c] | skip); with_reducible rfl))))); done))) | (refine Wc.cond2 (by simp +decide only [opv, Gx, Sx, n0, q0, q1, hh1, hh2, Qx, Hx, x1, x2, c]; try with_reducible rfl) (fun hb => ?_) (fun hb => ?_) <;> try contradiction) | refine Wc.skip ?_ | refine Wc.ret ?_ | refine Wc.exit ?_ | refine Wc.block ?_)
  exact done_q (v := .bool true) (.inr rfl) (by simp +decide only [Gx, Sx, d0]) rfl (by simp +decide only [Gx, Sx, n0]) ⟨rfl, t12⟩
theorem equal20s (hI : ∀ f args h, (f = 20 ∨ f = 38) → I f args h = none) (k14 : Alk E I) {g : H} {ks : List Hs.Item} {sl su : Value} (f : Fit g) (h1 : repK E g ks sl) (h2 : repK E g ks su) (hk : ∀ t ∈ ks, lvlI t ≤ 400 ∧ isz t ≤ 1000000) (hn : ks.length ≤ 1000000) :
    ∃ n x g', (ev tab E I n).call 20 [sl, su, fnV 38] g = some (x, g') ∧ (x = .bool true ∧ Ahd g g') :=
  equal20g (fun args h => hI _ _ _ (.inl rfl)) (fun _ _ _ _ f h1 h2 hl hz => same38 (fun args h => hI _ args h (.inr rfl)) k14 f h1 h2 hl hz) f h1 h2 hk hn
theorem index40 (hI : ∀ args h, I 40 args h = none) {g : H} {v : Value} {ns : List Nat} (hv : Nms E g v ns) (hn : ns.length ≤ 1000000) (c : Nat) :
    ∃ k x g', (ev tab E I k).call 40 [v, .int .i64 (c : Nat)] g = some (x, g') ∧ (x = .int .i64 (idxN c ns 0) ∧ g' = g) := by
  have ln : ∀ h, alen tab 53 v h = some (.int .i64 (ns.length : Nat)) := fun h => by
    rcases hv with ⟨rfl, rfl⟩ | ⟨k, rfl, _⟩
    · exact qlen53 _ _ _
    · exact qlen53 _ _ _
  have key : ∀ (r i : Nat) (A0 : Ac), r = ns.length - i → i ≤ ns.length → idxN c ns 0 = idxN c (ns.drop i) i → A0.n = 19 → A0.defers = [] → A0.get 0 = v → A0.get 1 = .int .i64 (c : Nat) → A0.get 7 = .int .i64 (ns.length : Nat) → A0.get 8 = .int .i64 (i : Nat) →
      Wc tab E I ⟨40, none⟩ (.loop loop40) A0 g (fun ex A' h' => A'.n = 19 ∧ A'.defers = [] ∧ h' = g ∧ ((ex = .exit 0 ∧ idxN c ns 0 = -1) ∨ (ex = .ret ∧ A'.get 4 = .int .i64 (idxN c ns 0)))) := by
    intro r
    induction r with
    | zero =>
      intro i A0 hr hi he n0 d0 q0 q1 q7 q8
      obtain rfl : i = ns.length := by omega
      have e1 : decide ((ns.length : Int) < (ns.length : Int)) = false := by simp
      rw [List.drop_length, idxN] at he
      apply Wc.loop
      simp only [loop40, loopOf, firstLoop, Option.getD, Tryd.f40]
      repeat' (first | (with_reducible apply Wc.seq) | (apply Wc.ops; (focus ((repeat' (first | with_reducible exact RO.nil | ((with_reducible apply RO.run (awant_none rfl)); (focus ((first | simp +decide only [awant, ayield_get, oper1, aop, opv, opvs, opvo, opvp, abuiltin, aun, Gx, abin, isShift, aint, roV, pair, bind, Option.bind, acall, Sx, n0, q7, q8, e1] | skip); with_reducible rfl))))); done))) | (refine Wc.cond2 (by simp +decide only [opv, Gx, Sx, n0, q7, q8, e1]; try with_reducible rfl) (fun hb => ?_) (fun hb => ?_) <;> try contradiction) | refine Wc.skip ?_ | refine Wc.ret ?_ | refine Wc.exit ?_ | refine Wc.block ?_)
      exact ⟨by simp +decide only [Gx, Sx, n0], by simp +decide only [Gx, Sx, d0], rfl, .inl ⟨rfl, he⟩⟩
    | succ r ih =>
      intro i A0 hr hi he n0 d0 q0 q1 q7 q8
      have hil : i < ns.length := by omega
      rcases hv with ⟨_, rfl⟩ | ⟨k, rfl, hc⟩
      · simp at hil
      have e1 : decide ((i : Int) < (ns.length : Int)) = true := by simp; omega
      have hir : inRange (i : Int) ns.length = true := by
        show Nat.blt i ns.length = true
        rw [Nat.blt_eq]; exact hil
      have w4 : IntKind.i64.wrap ((i : Int) + 1) = ((i + 1 : Nat) : Int) := wrap64 (by omega) (by omega)
      have cl : g.cell E (aadd (own k) (i * 1)) = some (.int .i64 (ns[i] : Nat)) := by
        rw [Nat.mul_one]
        exact cells_cell hc hil (by unfold natsV; rw [List.getElem?_map, List.getElem?_eq_getElem hil]; rfl)
      rw [List.drop_eq_getElem_cons hil, idxN] at he
      apply Wc.loop
      simp only [loop40, loopOf, firstLoop, Option.getD, Tryd.f40]
      by_cases hc : c = ns[i]
      · have e2 : decide ((c : Int) = ((ns[i] : Nat) : Int)) = true := decide_eq_true (by omega)
        rw [if_pos hc] at he
        repeat' (first | (with_reducible apply Wc.seq) | (apply Wc.ops; (focus ((repeat' (first | with_reducible exact RO.nil | ((with_reducible apply RO.run (awant_none rfl)); (focus ((first | simp +decide only [awant, ayield_get, oper1, aop, opv, opvs, opvo, opvp, abuiltin, aun, Gx, abin, isShift, aint, roV, pair, bind, Option.bind, acall, Sx, n0, q0, q1, q7, q8, e1, qia53 _ _ _ _ hir, Int.toNat_natCast, Qx, Hx, cl, e2] | skip); with_reducible rfl))))); done))) | (refine Wc.cond2 (by simp +decide only [opv, Gx, Sx, n0, q0, q1, q7, q8, e1, qia53 _ _ _ _ hir, Int.toNat_natCast, Qx, Hx, cl, e2]; try with_reducible rfl) (fun hb => ?_) (fun hb => ?_) <;> try contradiction) | refine Wc.skip ?_ | refine Wc.ret ?_ | refine Wc.exit ?_ | refine Wc.block ?_)
        exact ⟨by simp +decide only [Gx, Sx, n0], by simp +decide only [Gx, Sx, d0], rfl, .inr ⟨rfl, by rw [he]; simp +decide only [Gx, Sx, n0]⟩⟩
      · have e2 : decide ((c : Int) = ((ns[i] : Nat) : Int)) = false := decide_eq_false (by omega)
        rw [if_neg hc] at he
        repeat' (first | (with_reducible apply Wc.seq) | (apply Wc.ops; (focus ((repeat' (first | with_reducible exact RO.nil | ((with_reducible apply RO.run (awant_none rfl)); (focus ((first | simp +decide only [awant, ayield_get, oper1, aop, opv, opvs, opvo, opvp, abuiltin, aun, Gx, abin, isShift, aint, roV, pair, bind, Option.bind, acall, Sx, n0, q0, q1, q7, q8, e1, qia53 _ _ _ _ hir, Int.toNat_natCast, Qx, Hx, cl, e2, w4] | skip); with_reducible rfl))))); done))) | (refine Wc.cond2 (by simp +decide only [opv, Gx, Sx, n0, q0, q1, q7, q8, e1, qia53 _ _ _ _ hir, Int.toNat_natCast, Qx, Hx, cl, e2, w4]; try with_reducible rfl) (fun hb => ?_) (fun hb => ?_) <;> try contradiction) | refine Wc.skip ?_ | refine Wc.ret ?_ | refine Wc.exit ?_ | refine Wc.block ?_)
        refine ih (i + 1) _ (by omega) (by omega) he ?_ ?_ ?_ ?_ ?_ ?_
        · simp +decide only [Gx, Sx, n0]
        · simp +decide only [Gx, Sx, d0]
        · simp +decide only [Gx, Sx, n0, q0]
        · simp +decide only [Gx, Sx, n0, q1]
        · simp +decide only [Gx, Sx, n0, q7]
        · simp +decide only [Gx, Sx, n0]
  refine Wc.call (hI _ _) fn40 rfl ?_
  generalize hA0 : (⟨T.ofList [v, .int .i64 (c : Nat)] 0 .nil, max ([v, .int .i64 (c : Nat)] : List Value).length Tryd.f40.ntmps, []⟩ : Ac) = A0
  have n0 : A0.n = 19 := by rw [← hA0]; rfl
  have q0 : A0.get 0 = v := by rw [← hA0]; rfl
  have q1 : A0.get 1 = .int .i64 (c : Nat) := by rw [← hA0]; rfl
  have d0 : A0.defers = [] := by rw [← hA0]
  clear hA0
  repeat' (first | (with_reducible apply Wc.seq) | (apply Wc.ops; (focus ((repeat' (first | with_reducible exact RO.nil | ((with_reducible apply RO.run (awant_none rfl)); (focus ((first | simp +decide only [awant, ayield_get, oper1, aop, opv, opvs, opvo, opvp, abuiltin, aun, Gx, abin, isShift, aint, roV, pair, bind, Option.bind, acall, Sx, n0, q0, q1, ln] | skip); with_reducible rfl))))); done))) | (refine Wc.cond2 (by simp +decide only [opv, Gx, Sx, n0, q0, q1, ln]; try with_reducible rfl) (fun hb => ?_) (fun hb => ?_) <;> try contradiction) | refine Wc.skip ?_ | refine Wc.ret ?_ | refine Wc.exit ?_ | refine Wc.block ?_)
  refine (key ns.length 0 _ rfl (Nat.zero_le _) rfl ?_ ?_ ?_ ?_ ?_ ?_).mono ?_
  · simp +decide only [Gx, Sx, n0]
  · simp +decide only [Gx, Sx, d0]
  · simp +decide only [Gx, Sx, n0, q0]
  · simp +decide only [Gx, Sx, n0, q1]
  · simp +decide only [Gx, Sx, n0]
  · simp +decide only [Gx, Sx, n0]
    rfl
  · rintro ex A0 h' ⟨n0, d0, rfl, ⟨rfl, he⟩ | ⟨rfl, q4⟩⟩
    · simp only [if_true]
      repeat' (first | (with_reducible apply Wc.seq) | (apply Wc.ops; (focus ((repeat' (first | with_reducible exact RO.nil | ((with_reducible apply RO.run (awant_none rfl)); (focus ((first | simp +decide only [awant, ayield_get, oper1, aop, opv, opvs, opvo, opvp, abuiltin, aun, Gx, abin, isShift, aint, roV, pair, bind, Option.bind, acall, Sx, n0] | skip); with_reducible rfl))))); done))) | (refine Wc.cond2 (by simp +decide only [opv, Gx, Sx, n0]; try with_reducible rfl) (fun hb => ?_) (fun hb => ?_) <;> try contradiction) | refine Wc.skip ?_ | refine Wc.ret ?_ | refine Wc.exit ?_ | refine Wc.block ?_)
      exact done_q (v := .int .i64 (-1)) (.inr rfl) (by simp +decide only [Gx, Sx, d0]) rfl (by simp +decide only [Gx, Sx, n0]) ⟨by rw [he], rfl⟩
    · exact done_q (v := .int .i64 (idxN c ns 0)) (.inr rfl) d0 rfl q4 ⟨rfl, rfl⟩
theorem contains39 (hI : ∀ f args h, (f = 39 ∨ f = 40) → I f args h = none) {g : H} {v : Value} {ns : List Nat} (hv : Nms E g v ns) (hn : ns.length ≤ 1000000) (c : Nat) :
    ∃ k x g', (ev tab E I k).call 39 [v, .int .i64 (c : Nat)] g = some (x, g') ∧ (x = .bool (decide (idxN c ns 0 ≥ 0)) ∧ g' = g) := by
  obtain ⟨k, _, _, ck, rfl, rfl⟩ := index40 (I := I) (fun args h => hI _ args h (.inr rfl)) hv hn c
  refine Wc.call (hI _ _ _ (.inl rfl)) fn39 rfl ?_
  generalize hA0 : (⟨T.ofList [v, .int .i64 (c : Nat)] 0 .nil, max ([v, .int .i64 (c : Nat)] : List Value).length Tryd.f39.ntmps, []⟩ : Ac) = A0
  have n0 : A0.n = 9 := by rw [← hA0]; rfl
  have q0 : A0.get 0 = v := by rw [← hA0]; rfl
  have q1 : A0.get 1 = .int .i64 (c : Nat) := by rw [← hA0]; rfl
  have d0 : A0.defers = [] := by rw [← hA0]
  clear hA0
  repeat' (first | (with_reducible apply Wc.seq) | (apply Wc.opsN k; (focus ((repeat' (first | with_reducible exact RO.nil | ((with_reducible apply RO.run (awant_none rfl)); (focus ((first | simp +decide only [awant, ayield_get, oper1, aop, opv, opvs, opvo, opvp, abuiltin, aun, Gx, abin, isShift, aint, roV, pair, bind, Option.bind, acall, Sx, n0, q0, q1, ck] | skip); with_reducible rfl))))); done))) | (refine Wc.cond2 (by simp +decide only [opv, Gx, Sx, n0, q0, q1, ck]; try with_reducible rfl) (fun hb => ?_) (fun hb => ?_) <;> try contradiction) | refine Wc.skip ?_ | refine Wc.ret ?_ | refine Wc.exit ?_ | refine Wc.block ?_)
  exact done_q (v := .bool (decide (idxN c ns 0 ≥ 0))) (.inr rfl) (by simp +decide only [Gx, Sx, d0]) rfl (by simp +decide only [Gx, Sx, n0]) ⟨rfl, rfl⟩
end Go.Proofs.YtofijpbmbmbnhaaDoor
