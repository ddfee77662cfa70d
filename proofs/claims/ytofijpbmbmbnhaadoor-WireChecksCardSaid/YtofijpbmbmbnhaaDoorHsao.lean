/- Which item comes first, as the program tells it. -/
import Derived.Test.YtofijpbmbmbnhaaDoorHsan
set_option linter.unusedSimpArgs false
set_option linter.unusedVariables false
set_option maxRecDepth 100000
set_option maxHeartbeats 4000000
namespace Go.Proofs.YtofijpbmbmbnhaaDoor
open Go Go.Hs Go.Proofs
variable {E : Env} {I : Known}

theorem fn66 : tab.fn.get 66 = some Tryd.f66 := by kernel_rfl
theorem fn107 : tab.fn.get 107 = some Tryd.f107 := by kernel_rfl
theorem bs53_4 (a b c d : Int) {h : H} : abuildSlice tab 53 4 [(0, .int .i64 a), (1, .int .i64 b), (2, .int .i64 c), (3, .int .i64 d)] h = some (.slice (some (own h.next)) 4 4, h.new (.cells [.int .i64 a, .int .i64 b, .int .i64 c, .int .i64 d] 3 none)) := by
  unfold abuildSlice
  simp only [ty53, tz3]
  rfl

def says66 (E : Env) : Says := fun s f args h v =>
  (f = 66 ∧ ∃ t xv u yv, args = [xv, yv] ∧ rep E h t xv ∧ rep E h u yv ∧ isz t ≤ 1000000 ∧ s = 2 * isz t + 1 ∧ v = .int .i64 (ordI t u)) ∨
  (f = 107 ∧ ∃ ks sl ks' sl', args = [sl, sl', .func (.func 66) ⟨[]⟩ ⟨[]⟩] ∧ repK E h ks sl ∧ repK E h ks' sl' ∧ iszL ks ≤ 1000000 ∧ s = 2 * iszL ks + 2 ∧ v = .int .i64 (ordL ks ks'))
theorem one66 (E : Env) : One (says66 E) := by
  rintro s s' f args h v v' (⟨rfl, t, xv, u, yv, rfl, h1, h2, _, _, rfl⟩ | ⟨rfl, ks, sl, ks', sl', rfl, h1, h2, _, _, rfl⟩) (⟨e, t1, xv1, u1, yv1, he, h3, h4, _, _, rfl⟩ | ⟨e, ks1, sl1, ks1', sl1', he, h3, h4, _, _, rfl⟩)
  · cases he; rw [rep_one h1 h3, rep_one h2 h4]
  · exact absurd e (by decide)
  · exact absurd e (by decide)
  · cases he; rw [repK_one h1 h3, repK_one h2 h4]
theorem rank66 {E : Env} {s s' : Nat} {f : FuncId} {args : List Value} {h : H} {v v' : Value} (h1 : says66 E s f args h v) (h2 : says66 E s' f args h v') : s = s' := by
  rcases h1 with ⟨rfl, t, xv, u, yv, rfl, h1, _, _, rfl, _⟩ | ⟨rfl, ks, sl, ks', sl', rfl, h1, _, _, rfl, _⟩ <;>
    rcases h2 with ⟨e, t1, xv1, u1, yv1, he, h3, _, _, rfl, _⟩ | ⟨e, ks1, sl1, ks1', sl1', he, h3, _, _, rfl, _⟩
  · cases he; rw [rep_one h1 h3]
  · exact absurd e (by decide)
  · exact absurd e (by decide)
  · cases he; rw [repK_one h1 h3]
theorem says66_back {E : Env} {s : Nat} {f : FuncId} {args : List Value} {h : H} {v : Value} (h1 : says66 E s f args (fresh h) v) : says66 E s f args h v := by
  have g : Grows (fresh h) h := fun _ _ hb => hb
  rcases h1 with ⟨e, t, xv, u, yv, ea, r1, r2, q⟩ | ⟨e, ks, sl, ks', sl', ea, r1, r2, q⟩
  · exact .inl ⟨e, t, xv, u, yv, ea, rep_grow g r1, rep_grow g r2, q⟩
  · exact .inr ⟨e, ks, sl, ks', sl', ea, repK_grow g r1, repK_grow g r2, q⟩

noncomputable def loop107 : Code := loopOf Tryd.f107

theorem shown66 (hI : ∀ f args h, (f = 66 ∨ f = 107) → I f args h = none) (h105 : ∀ a b h, I 105 [.int .i64 a, .int .i64 b] h = some (some (.int .i64 (cmpN a b), h))) (h106 : ∀ a b h, I 106 [.string a, .string b] h = some (some (.int .i64 (cmpL a.data.toList b.data.toList), h)))
    (h104 : ∀ (l : List Int) k rt h, l.length ≤ 1000 → h.blk k = some (.cells (l.map (Value.int .i64)) 3 rt) → I 104 [.slice (some (own k)) l.length l.length] h = some (some (.int .i64 (orL l), h))) : ShownF tab E I (says66 E) := by
  intro m f args h v hs hfit
  have hnone : upTo (says66 E) I m f args (fresh h) = none := by
    rw [upTo_none]
    · rcases hs with ⟨rfl, _⟩ | ⟨rfl, _⟩
      · exact hI _ _ _ (.inl rfl)
      · exact hI _ _ _ (.inr rfl)
    · intro v' s' hlt h2
      have := rank66 hs (says66_back h2)
      omega
  have hJk : ∀ {s f args g v}, says66 E s f args g v → s < m → upTo (says66 E) I m f args g = some (some (v, g)) := fun h1 h2 => upTo_eq (one66 E) h1 h2
  have hJo : ∀ f args h, f ≠ 66 → f ≠ 107 → upTo (says66 E) I m f args h = I f args h := by
    intro f args h n1 n2
    rw [upTo_none]
    rintro v s _ (⟨e, _⟩ | ⟨e, _⟩)
    · exact n1 e
    · exact n2 e
  have j105 : ∀ a b h, upTo (says66 E) I m 105 [.int .i64 a, .int .i64 b] h = some (some (.int .i64 (cmpN a b), h)) := fun a b h => (hJo _ _ _ (by decide) (by decide)).trans (h105 a b h)
  have j106 : ∀ a b h, upTo (says66 E) I m 106 [.string a, .string b] h = some (some (.int .i64 (cmpL a.data.toList b.data.toList), h)) := fun a b h => (hJo _ _ _ (by decide) (by decide)).trans (h106 a b h)
  have j104 : ∀ (l : List Int) k rt h, l.length ≤ 1000 → h.blk k = some (.cells (l.map (Value.int .i64)) 3 rt) → upTo (says66 E) I m 104 [.slice (some (own k)) l.length l.length] h = some (some (.int .i64 (orL l), h)) := fun l k rt h a b => (hJo _ _ _ (by decide) (by decide)).trans (h104 l k rt h a b)
  have hgf : Grows h (fresh h) := fun _ _ hb => hb
  have hl0 : (fresh h).log = [] := rfl
  rcases hs with ⟨rfl, t, xv, u, yv, rfl, hr, hr', hz, rfl, rfl⟩ | ⟨rfl, ks, sl, ks', sl', rfl, hr, hr', hz, rfl, rfl⟩
  · refine ⟨rfl, ?_⟩
    obtain ⟨k, m, tx, ks⟩ := t
    obtain ⟨k', m', tx', ks'⟩ := u
    have hrg := rep_grow hgf hr
    have hrg' := rep_grow hgf hr'
    obtain ⟨sb, sc, rfl, hs⟩ := rep_slice hr
    obtain ⟨sb', sc', rfl, hs'⟩ := rep_slice hr'
    generalize hJ : upTo (says66 E) I (2 * isz (.mk k m tx ks) + 1) = J at hnone hJk j104 j105 j106 ⊢
    suffices hw : ∃ n v h', (ev tab E J n).call 66 [.agg ⟨[.int .i64 k, .int .i64 m, .string tx, .slice sb ks.length sc]⟩, .agg ⟨[.int .i64 k', .int .i64 m', .string tx', .slice sb' ks'.length sc']⟩] (fresh h) = some (v, h') ∧ (v = .int .i64 (ordI (.mk k m tx ks) (.mk k' m' tx' ks')) ∧ h'.log = []) by
      obtain ⟨n, v, h', h1, rfl, h3⟩ := hw
      exact ⟨n, h', h1, h3⟩
    refine Wc.call hnone fn66 rfl ?_
    generalize hA0 : (⟨T.ofList [.agg ⟨[.int .i64 k, .int .i64 m, .string tx, .slice sb ks.length sc]⟩, .agg ⟨[.int .i64 k', .int .i64 m', .string tx', .slice sb' ks'.length sc']⟩] 0 .nil, max ([.agg ⟨[.int .i64 k, .int .i64 m, .string tx, .slice sb ks.length sc]⟩, .agg ⟨[.int .i64 k', .int .i64 m', .string tx', .slice sb' ks'.length sc']⟩] : List Value).length Tryd.f66.ntmps, []⟩ : Ac) = A0
    have n0 : A0.n = 27 := by rw [← hA0]; rfl
    have g00 : A0.get 0 = .agg ⟨[.int .i64 k, .int .i64 m, .string tx, .slice sb ks.length sc]⟩ := by rw [← hA0]; rfl
    have g01 : A0.get 1 = .agg ⟨[.int .i64 k', .int .i64 m', .string tx', .slice sb' ks'.length sc']⟩ := by rw [← hA0]; rfl
    have d0 : A0.defers = [] := by rw [← hA0]
    generalize hg : fresh h = g at hfit hl0 hgf hrg hrg'
    apply Wc.seq
    refine Wc.ops (by repeat' (first
      | with_reducible exact RO.nil
      | ((with_reducible apply RO.run (awant_none rfl)); (focus ((first | simp (config := {decide := true}) only [awant, ayield_get, oper1, aop, opv, opvs, opvo, opvp, abuiltin, Ac.get_put, Ac.put_n, Ac.put_defers, if_true, if_false, and_true, decide_true, abin, isShift, aint, roV, pair, bind, Option.bind, acall, List.nil_append, List.append_nil, List.toList_toArray, List.getElem?_cons_zero, List.getElem?_cons_succ, Bool.not_true, Bool.not_false, n0, g00, g01] | skip); with_reducible rfl))))) ?_
    generalize hh1 : g.new (.cells (Value.agg ⟨[.int .i64 k, .int .i64 m, .string tx, .slice sb ks.length sc]⟩).cells.toList 25 none) = h1
    have a1 : Ahd g h1 := by rw [← hh1]; exact Ahd.new0 hfit rfl
    have b1 : h1.blk g.next = some (.cells [.int .i64 k, .int .i64 m, .string tx, .slice sb ks.length sc] 25 none) := by rw [← hh1]; exact new_blk_new rfl
    generalize hh2 : h1.new (.cells (Value.agg ⟨[.int .i64 k', .int .i64 m', .string tx', .slice sb' ks'.length sc']⟩).cells.toList 25 none) = h2
    have a2 : Ahd h1 h2 := by rw [← hh2]; exact Ahd.new0 a1.fit rfl
    have b2 : h2.blk h1.next = some (.cells [.int .i64 k', .int .i64 m', .string tx', .slice sb' ks'.length sc'] 25 none) := by rw [← hh2]; exact new_blk_new rfl
    have b1' := a2.grows _ _ b1
    have ag := a1.trans a2
    clear hh1 hh2
    have hff : Grows g (fresh h2) := fun k B hb => ag.grows k B hb
    have x0 : (fresh h2).cell E (aadd (own g.next) 0) = some (.int .i64 k) := blk_cell (h := fresh h2) (i := 0) b1' rfl rfl
    have x1 : (fresh h2).cell E (aadd (own g.next) 1) = some (.int .i64 m) := blk_cell (h := fresh h2) (i := 1) b1' rfl rfl
    have x2 : (fresh h2).cell E (aadd (own g.next) 2) = some (.string tx) := blk_cell (h := fresh h2) (i := 2) b1' rfl rfl
    have x3 : (fresh h2).cell E (aadd (own g.next) 3) = some (.slice sb ks.length sc) := blk_cell (h := fresh h2) (i := 3) b1' rfl rfl
    have y0 : (fresh h2).cell E (aadd (own h1.next) 0) = some (.int .i64 k') := blk_cell (h := fresh h2) (i := 0) b2 rfl rfl
    have y1 : (fresh h2).cell E (aadd (own h1.next) 1) = some (.int .i64 m') := blk_cell (h := fresh h2) (i := 1) b2 rfl rfl
    have y2 : (fresh h2).cell E (aadd (own h1.next) 2) = some (.string tx') := blk_cell (h := fresh h2) (i := 2) b2 rfl rfl
    have y3 : (fresh h2).cell E (aadd (own h1.next) 3) = some (.slice sb' ks'.length sc') := blk_cell (h := fresh h2) (i := 3) b2 rfl rfl
    have c1 : (ev tab E J 1).call 105 [.int .i64 k, .int .i64 k'] (fresh h2) = some (.int .i64 (cmpN k k'), fresh h2) := ev_known (j105 _ _ _)
    have c2 : (ev tab E J 1).call 105 [.int .i64 m, .int .i64 m'] (fresh h2) = some (.int .i64 (cmpN m m'), fresh h2) := ev_known (j105 _ _ _)
    have c3 : (ev tab E J 1).call 106 [.string tx, .string tx'] (fresh h2) = some (.int .i64 (cmpL tx.data.toList tx'.data.toList), fresh h2) := ev_known (j106 _ _ _)
    have c4 : (ev tab E J 1).call 107 [.slice sb ks.length sc, .slice sb' ks'.length sc', .func (.func 66) #[] #[]] (fresh h2) = some (.int .i64 (ordL ks ks'), fresh h2) := by
      apply ev_known
      refine hJk (.inr ⟨rfl, ks, _, ks', _, rfl, repK_of (rep_grow hff hrg), repK_of (rep_grow hff hrg'), by rw [isz] at hz; omega, rfl, rfl⟩) (by rw [isz]; omega)
    have hfn : (fresh h2).next = h2.next := rfl
    generalize hB : (Blk.cells [.int .i64 (cmpN k k'), .int .i64 (cmpN m m'), .int .i64 (cmpL tx.data.toList tx'.data.toList), .int .i64 (ordL ks ks')] 3 none) = B
    have b5 : (fresh (h2.new B)).blk h2.next = some B := by
      show (h2.new B).blk h2.next = _
      rw [← hB]; exact new_blk_new rfl
    have c5 : (ev tab E J 1).call 104 [.slice (some (own h2.next)) 4 4] (fresh (h2.new B)) = some (.int .i64 (ordI (.mk k m tx ks) (.mk k' m' tx' ks')), fresh (h2.new B)) := by
      apply ev_known
      rw [ordI_or]
      exact j104 [cmpN k k', cmpN m m', cmpL tx.data.toList tx'.data.toList, ordL ks ks'] _ none _ (by simp) (by rw [b5, ← hB]; rfl)
    refine Wc.forget (fun A => A.n = 27 ∧ A.defers = [] ∧ A.get 2 = .pointer (some (own g.next)) ∧ A.get 3 = .pointer (some (own h1.next))) ⟨by simp (config := {decide := true}) only [Ac.get_put, Ac.put_n, Ac.put_defers, if_true, if_false, and_true, n0], by simp (config := {decide := true}) only [Ac.get_put, Ac.put_n, Ac.put_defers, if_true, if_false, and_true, d0], by simp (config := {decide := true}) only [Ac.get_put, Ac.put_n, Ac.put_defers, if_true, if_false, and_true, n0], by simp (config := {decide := true}) only [Ac.get_put, Ac.put_n, Ac.put_defers, if_true, if_false, and_true, n0]⟩ ?_
    clear hA0 n0 g00 g01 d0
    rintro A0 ⟨n0, d0, g2, g3⟩
    apply Wc.seq
    refine Wc.drawC 1 (by kernel_rfl) ?_
    (iterate 5 (first
      | ((apply FC.pure rfl rfl); (focus ((first | simp (config := {decide := true}) only [awant, ayield_get, oper1, aop, opv, opvs, opvo, opvp, abuiltin, Ac.get_put, Ac.put_n, Ac.put_defers, if_true, if_false, and_true, decide_true, abin, isShift, aint, roV, pair, bind, Option.bind, acall, List.nil_append, List.append_nil, List.toList_toArray, List.getElem?_cons_zero, List.getElem?_cons_succ, Bool.not_true, Bool.not_false, n0, g2, g3, fa25_0, ld3, x0, y0, c1] | skip); with_reducible rfl)))
      | ((apply FC.new rfl rfl); (focus ((first | simp (config := {decide := true}) only [awant, ayield_get, oper1, aop, opv, opvs, opvo, opvp, abuiltin, Ac.get_put, Ac.put_n, Ac.put_defers, if_true, if_false, and_true, decide_true, abin, isShift, aint, roV, pair, bind, Option.bind, acall, List.nil_append, List.append_nil, List.toList_toArray, List.getElem?_cons_zero, List.getElem?_cons_succ, Bool.not_true, Bool.not_false, n0, g2, g3, fa25_0, ld3, x0, y0, c1] | skip); with_reducible rfl)))))
    refine FC.forget (fun A => A.n = 27 ∧ A.defers = [] ∧ A.get 2 = .pointer (some (own g.next)) ∧ A.get 3 = .pointer (some (own h1.next)) ∧ A.get 9 = .int .i64 (cmpN k k')) ⟨by simp (config := {decide := true}) only [Ac.get_put, Ac.put_n, Ac.put_defers, if_true, if_false, and_true, n0], by simp (config := {decide := true}) only [Ac.get_put, Ac.put_n, Ac.put_defers, if_true, if_false, and_true, d0], by simp (config := {decide := true}) only [Ac.get_put, Ac.put_n, Ac.put_defers, if_true, if_false, and_true, n0, g2], by simp (config := {decide := true}) only [Ac.get_put, Ac.put_n, Ac.put_defers, if_true, if_false, and_true, n0, g3], by simp (config := {decide := true}) only [Ac.get_put, Ac.put_n, Ac.put_defers, if_true, if_false, and_true, n0]⟩ ?_
    clear n0 d0 g2 g3
    rintro A0 ⟨n0, d0, g2, g3, g9⟩
    (iterate 5 (first
      | ((apply FC.pure rfl rfl); (focus ((first | simp (config := {decide := true}) only [awant, ayield_get, oper1, aop, opv, opvs, opvo, opvp, abuiltin, Ac.get_put, Ac.put_n, Ac.put_defers, if_true, if_false, and_true, decide_true, abin, isShift, aint, roV, pair, bind, Option.bind, acall, List.nil_append, List.append_nil, List.toList_toArray, List.getElem?_cons_zero, List.getElem?_cons_succ, Bool.not_true, Bool.not_false, n0, g2, g3, fa25_1, ld3, x1, y1, c2] | skip); with_reducible rfl)))
      | ((apply FC.new rfl rfl); (focus ((first | simp (config := {decide := true}) only [awant, ayield_get, oper1, aop, opv, opvs, opvo, opvp, abuiltin, Ac.get_put, Ac.put_n, Ac.put_defers, if_true, if_false, and_true, decide_true, abin, isShift, aint, roV, pair, bind, Option.bind, acall, List.nil_append, List.append_nil, List.toList_toArray, List.getElem?_cons_zero, List.getElem?_cons_succ, Bool.not_true, Bool.not_false, n0, g2, g3, fa25_1, ld3, x1, y1, c2] | skip); with_reducible rfl)))))
    refine FC.forget (fun A => A.n = 27 ∧ A.defers = [] ∧ A.get 2 = .pointer (some (own g.next)) ∧ A.get 3 = .pointer (some (own h1.next)) ∧ A.get 9 = .int .i64 (cmpN k k') ∧ A.get 14 = .int .i64 (cmpN m m')) ⟨by simp (config := {decide := true}) only [Ac.get_put, Ac.put_n, Ac.put_defers, if_true, if_false, and_true, n0], by simp (config := {decide := true}) only [Ac.get_put, Ac.put_n, Ac.put_defers, if_true, if_false, and_true, d0], by simp (config := {decide := true}) only [Ac.get_put, Ac.put_n, Ac.put_defers, if_true, if_false, and_true, n0, g2], by simp (config := {decide := true}) only [Ac.get_put, Ac.put_n, Ac.put_defers, if_true, if_false, and_true, n0, g3], by simp (config := {decide := true}) only [Ac.get_put, Ac.put_n, Ac.put_defers, if_true, if_false, and_true, n0, g9], by simp (config := {decide := true}) only [Ac.get_put, Ac.put_n, Ac.put_defers, if_true, if_false, and_true, n0]⟩ ?_
    clear n0 d0 g2 g3 g9
    rintro A0 ⟨n0, d0, g2, g3, g9, g14⟩
    (iterate 5 (first
      | ((apply FC.pure rfl rfl); (focus ((first | simp (config := {decide := true}) only [awant, ayield_get, oper1, aop, opv, opvs, opvo, opvp, abuiltin, Ac.get_put, Ac.put_n, Ac.put_defers, if_true, if_false, and_true, decide_true, abin, isShift, aint, roV, pair, bind, Option.bind, acall, List.nil_append, List.append_nil, List.toList_toArray, List.getElem?_cons_zero, List.getElem?_cons_succ, Bool.not_true, Bool.not_false, n0, g2, g3, fa25_2, ld9, x2, y2, c3] | skip); with_reducible rfl)))
      | ((apply FC.new rfl rfl); (focus ((first | simp (config := {decide := true}) only [awant, ayield_get, oper1, aop, opv, opvs, opvo, opvp, abuiltin, Ac.get_put, Ac.put_n, Ac.put_defers, if_true, if_false, and_true, decide_true, abin, isShift, aint, roV, pair, bind, Option.bind, acall, List.nil_append, List.append_nil, List.toList_toArray, List.getElem?_cons_zero, List.getElem?_cons_succ, Bool.not_true, Bool.not_false, n0, g2, g3, fa25_2, ld9, x2, y2, c3] | skip); with_reducible rfl)))))
    refine FC.forget (fun A => A.n = 27 ∧ A.defers = [] ∧ A.get 2 = .pointer (some (own g.next)) ∧ A.get 3 = .pointer (some (own h1.next)) ∧ A.get 9 = .int .i64 (cmpN k k') ∧ A.get 14 = .int .i64 (cmpN m m') ∧ A.get 19 = .int .i64 (cmpL tx.data.toList tx'.data.toList)) ⟨by simp (config := {decide := true}) only [Ac.get_put, Ac.put_n, Ac.put_defers, if_true, if_false, and_true, n0], by simp (config := {decide := true}) only [Ac.get_put, Ac.put_n, Ac.put_defers, if_true, if_false, and_true, d0], by simp (config := {decide := true}) only [Ac.get_put, Ac.put_n, Ac.put_defers, if_true, if_false, and_true, n0, g2], by simp (config := {decide := true}) only [Ac.get_put, Ac.put_n, Ac.put_defers, if_true, if_false, and_true, n0, g3], by simp (config := {decide := true}) only [Ac.get_put, Ac.put_n, Ac.put_defers, if_true, if_false, and_true, n0, g9], by simp (config := {decide := true}) only [Ac.get_put, Ac.put_n, Ac.put_defers, if_true, if_false, and_true, n0, g14], by simp (config := {decide := true}) only [Ac.get_put, Ac.put_n, Ac.put_defers, if_true, if_false, and_true, n0]⟩ ?_
    clear n0 d0 g2 g3 g9 g14
    rintro A0 ⟨n0, d0, g2, g3, g9, g14, g19⟩
    (iterate 5 (first
      | ((apply FC.pure rfl rfl); (focus ((first | simp (config := {decide := true}) only [awant, ayield_get, oper1, aop, opv, opvs, opvo, opvp, abuiltin, Ac.get_put, Ac.put_n, Ac.put_defers, if_true, if_false, and_true, decide_true, abin, isShift, aint, roV, pair, bind, Option.bind, acall, List.nil_append, List.append_nil, List.toList_toArray, List.getElem?_cons_zero, List.getElem?_cons_succ, Bool.not_true, Bool.not_false, n0, g2, g3, fa25_3, ld23, x3, y3, c4] | skip); with_reducible rfl)))
      | ((apply FC.new rfl rfl); (focus ((first | simp (config := {decide := true}) only [awant, ayield_get, oper1, aop, opv, opvs, opvo, opvp, abuiltin, Ac.get_put, Ac.put_n, Ac.put_defers, if_true, if_false, and_true, decide_true, abin, isShift, aint, roV, pair, bind, Option.bind, acall, List.nil_append, List.append_nil, List.toList_toArray, List.getElem?_cons_zero, List.getElem?_cons_succ, Bool.not_true, Bool.not_false, n0, g2, g3, fa25_3, ld23, x3, y3, c4] | skip); with_reducible rfl)))))
    refine FC.forget (fun A => A.n = 27 ∧ A.defers = [] ∧ A.get 9 = .int .i64 (cmpN k k') ∧ A.get 14 = .int .i64 (cmpN m m') ∧ A.get 19 = .int .i64 (cmpL tx.data.toList tx'.data.toList) ∧ A.get 24 = .int .i64 (ordL ks ks')) ⟨by simp (config := {decide := true}) only [Ac.get_put, Ac.put_n, Ac.put_defers, if_true, if_false, and_true, n0], by simp (config := {decide := true}) only [Ac.get_put, Ac.put_n, Ac.put_defers, if_true, if_false, and_true, d0], by simp (config := {decide := true}) only [Ac.get_put, Ac.put_n, Ac.put_defers, if_true, if_false, and_true, n0, g9], by simp (config := {decide := true}) only [Ac.get_put, Ac.put_n, Ac.put_defers, if_true, if_false, and_true, n0, g14], by simp (config := {decide := true}) only [Ac.get_put, Ac.put_n, Ac.put_defers, if_true, if_false, and_true, n0, g19], by simp (config := {decide := true}) only [Ac.get_put, Ac.put_n, Ac.put_defers, if_true, if_false, and_true, n0]⟩ ?_
    clear n0 d0 g2 g3 g9 g14 g19
    rintro A0 ⟨n0, d0, g9, g14, g19, g24⟩
    (iterate 3 (first
      | ((apply FC.pure rfl rfl); (focus ((first | simp (config := {decide := true}) only [awant, ayield_get, oper1, aop, opv, opvs, opvo, opvp, abuiltin, Ac.get_put, Ac.put_n, Ac.put_defers, if_true, if_false, and_true, decide_true, abin, isShift, aint, roV, pair, bind, Option.bind, acall, List.nil_append, List.append_nil, List.toList_toArray, List.getElem?_cons_zero, List.getElem?_cons_succ, Bool.not_true, Bool.not_false, n0, g9, g14, g19, g24, bs53_4, hfn, hB, c5] | skip); with_reducible rfl)))
      | ((apply FC.new rfl rfl); (focus ((first | simp (config := {decide := true}) only [awant, ayield_get, oper1, aop, opv, opvs, opvo, opvp, abuiltin, Ac.get_put, Ac.put_n, Ac.put_defers, if_true, if_false, and_true, decide_true, abin, isShift, aint, roV, pair, bind, Option.bind, acall, List.nil_append, List.append_nil, List.toList_toArray, List.getElem?_cons_zero, List.getElem?_cons_succ, Bool.not_true, Bool.not_false, n0, g9, g14, g19, g24, bs53_4, hfn, hB, c5] | skip); with_reducible rfl)))))
    refine FC.nil ?_
    refine Wc.ret ?_
    refine done_tmp (.inr rfl) (by simp (config := {decide := true}) only [Ac.get_put, Ac.put_n, Ac.put_defers, if_true, if_false, and_true, d0]) rfl ?_ (ag.log.trans hl0)
    simp (config := {decide := true}) only [Ac.get_put, Ac.put_n, Ac.put_defers, if_true, if_false, and_true, n0]
  · refine ⟨rfl, ?_⟩
    have hrg := repK_grow hgf hr
    have hrg' := repK_grow hgf hr'
    obtain ⟨sb, sc, rfl, hlen, hs⟩ := repK_slice hrg
    obtain ⟨sb', sc', rfl, hlen', hs'⟩ := repK_slice hrg'
    generalize hJ : upTo (says66 E) I (2 * iszL ks + 2) = J at hnone hJk j104 j105 j106 ⊢
    suffices hw : ∃ n v h', (ev tab E J n).call 107 [.slice sb ks.length sc, .slice sb' ks'.length sc', .func (.func 66) ⟨[]⟩ ⟨[]⟩] (fresh h) = some (v, h') ∧ (v = .int .i64 (ordL ks ks') ∧ h'.log = []) by
      obtain ⟨n, v, h', h1, rfl, h3⟩ := hw
      exact ⟨n, h', h1, h3⟩
    refine Wc.call hnone fn107 rfl ?_
    generalize hA0 : (⟨T.ofList [.slice sb ks.length sc, .slice sb' ks'.length sc', .func (.func 66) ⟨[]⟩ ⟨[]⟩] 0 .nil, max ([.slice sb ks.length sc, .slice sb' ks'.length sc', .func (.func 66) ⟨[]⟩ ⟨[]⟩] : List Value).length Tryd.f107.ntmps, []⟩ : Ac) = A0
    have n0 : A0.n = 39 := by rw [← hA0]; rfl
    have g00 : A0.get 0 = .slice sb ks.length sc := by rw [← hA0]; rfl
    have g01 : A0.get 1 = .slice sb' ks'.length sc' := by rw [← hA0]; rfl
    have g02 : A0.get 2 = .func (.func 66) ⟨[]⟩ ⟨[]⟩ := by rw [← hA0]; rfl
    have d0 : A0.defers = [] := by rw [← hA0]
    generalize hg : fresh h = g at hfit hl0 hgf hrg hrg' hs hs'
    have key : ∀ (r i : Nat) (A : Ac) (g' : H), r = ks.length - i → i ≤ ks.length → i ≤ ks'.length → A.n = 39 → A.defers = [] → A.get 0 = .slice sb ks.length sc → A.get 1 = .slice sb' ks'.length sc' → A.get 2 = .func (.func 66) ⟨[]⟩ ⟨[]⟩ → A.get 11 = .slice sb ks.length sc → A.get 12 = .int .i64 (ks.length : Nat) → A.get 13 = .int .i64 (i : Nat) →
        Ahd g g' → ordL ks ks' = ordL (ks.drop i) (ks'.drop i) →
        Wc tab E J ⟨107, none⟩ (.loop loop107) A g' (fun ex A' g'' => A'.n = 39 ∧ A'.defers = [] ∧ A'.get 0 = .slice sb ks.length sc ∧ A'.get 1 = .slice sb' ks'.length sc' ∧ Ahd g g'' ∧ ((ex = .exit 0 ∧ ordL ks ks' = if ks.length < ks'.length then -1 else 0) ∨ (ex = .ret ∧ A'.get 6 = .int .i64 (ordL ks ks')))) := by
      intro r
      induction r with
      | zero =>
        intro i A g' hr' hi hi' nA dA p0 p1 p2 p11 p12 p13 ah ho
        have hil : i = ks.length := by omega
        have hlt : decide ((i : Int) < (ks.length : Int)) = false := by simp; omega
        apply Wc.loop
        simp only [loop107, loopOf, firstLoop, Option.getD, Tryd.f107]
        repeat' (first
    | (with_reducible apply Wc.seq)
    | (refine Wc.ops (by repeat' (first
      | with_reducible exact RO.nil
      | ((with_reducible apply RO.run (awant_none rfl)); (focus ((first | simp (config := {decide := true}) only [awant, ayield_get, oper1, aop, opv, opvs, opvo, opvp, abuiltin, Ac.get_put, Ac.put_n, Ac.put_defers, if_true, if_false, and_true, decide_true, abin, isShift, aint, roV, pair, bind, Option.bind, acall, List.nil_append, List.append_nil, List.toList_toArray, List.getElem?_cons_zero, List.getElem?_cons_succ, Bool.not_true, Bool.not_false, nA, p0, p1, p2, p11, p12, p13, hlt] | skip); with_reducible rfl))))) ?_)
    | (refine Wc.cond2 (by simp (config := {decide := true}) only [awant, ayield_get, oper1, aop, opv, opvs, opvo, opvp, abuiltin, Ac.get_put, Ac.put_n, Ac.put_defers, if_true, if_false, and_true, decide_true, abin, isShift, aint, roV, pair, bind, Option.bind, acall, List.nil_append, List.append_nil, List.toList_toArray, List.getElem?_cons_zero, List.getElem?_cons_succ, Bool.not_true, Bool.not_false, nA, p0, p1, p2, p11, p12, p13, hlt]; try with_reducible rfl) (fun hb => ?_) (fun hb => ?_) <;> try contradiction)
    | refine Wc.skip ?_
    | refine Wc.ret ?_
    | refine Wc.exit ?_
    | refine Wc.block ?_)
        refine ⟨by simp (config := {decide := true}) only [Ac.get_put, Ac.put_n, Ac.put_defers, if_true, if_false, and_true, nA], by simp (config := {decide := true}) only [Ac.get_put, Ac.put_n, Ac.put_defers, if_true, if_false, and_true, dA], by simp (config := {decide := true}) only [Ac.get_put, Ac.put_n, Ac.put_defers, if_true, if_false, and_true, nA, p0], by simp (config := {decide := true}) only [Ac.get_put, Ac.put_n, Ac.put_defers, if_true, if_false, and_true, nA, p1], ah, .inl ⟨rfl, ?_⟩⟩
        rw [ho, hil, List.drop_length]
        by_cases q : ks.length < ks'.length
        · rw [if_pos q, List.drop_eq_getElem_cons q, ordL]
        · rw [if_neg q, List.drop_of_length_le (by omega), ordL]
      | succ r ih =>
        intro i A g' hr' hi hi' nA dA p0 p1 p2 p11 p12 p13 ah ho
        have hil : i < ks.length := by omega
        have hlt : decide ((i : Int) < (ks.length : Int)) = true := by simp; omega
        have hks : ks.drop i = ks[i] :: ks.drop (i + 1) := List.drop_eq_getElem_cons hil
        rcases hs with hk0 | ⟨a, cs, he, hcs, hrl⟩
        · rw [hk0] at hil; simp at hil
        subst he
        have hfit' := ah.fit
        have hcs1 := cells_grow ah.grows hcs
        obtain ⟨hl4, hrk⟩ := repL_get i hrl (List.getElem?_eq_getElem hil)
        have hsub := cells_sub hcs1 (m := i * 4) (l := 4) (by omega)
        have hmem : ks[i] ∈ ks := List.getElem_mem hil
        have hkz := isz_mem hmem
        have hq : ∃ q0 q1 q2 q3, (cs.drop (i * 4)).take 4 = [q0, q1, q2, q3] ∧ [q0, q1, q2, q3].all isOne = true := by
          generalize hki : ks[i] = ki at hrk
          obtain ⟨k', m', tx', ks'⟩ := ki
          obtain ⟨sb', sc', e, _⟩ := rep_slice hrk
          simp only [Value.agg.injEq, Array.mk.injEq] at e
          exact ⟨_, _, _, _, e, rfl⟩
        obtain ⟨q0, q1, q2, q3, hq, hone⟩ := hq
        rw [hq] at hsub hrk
        have hir : inRange (i : Int) ks.length = true := by
          show Nat.blt i ks.length = true
          rw [Nat.blt_eq]; exact hil
        have w3 : IntKind.i64.wrap ((i : Int) + 1) = (i : Int) + 1 := wrap64 (by omega) (by omega)
        generalize hh3 : g'.new (.cells (Value.agg #[.int .i64 0, .int .i64 0, .string ⟨#[]⟩, .slice none 0 0]).cells.toList 25 none) = h3
        have a3 : Ahd g' h3 := by rw [← hh3]; exact Ahd.new0 hfit' rfl
        have c3 : h3.blk g'.next = some (.cells [.int .i64 0, .int .i64 0, .string ⟨#[]⟩, .slice none 0 0] 25 none) := by rw [← hh3]; exact new_blk_new rfl
        have hn3 : h3.next = g'.next + 1 := by rw [← hh3]; rfl
        have hst3 := st25 (a := q0) (b := q1) (c := q2) (d := q3) c3 hone (by rw [a3.mark]; exact hfit'.ok.2)
        generalize hh4 : h3.setb g'.next (.cells [q0, q1, q2, q3] 25 none) = h4 at hst3
        have a4 : Ahd g' h4 := by rw [← hh4]; exact a3.setb rfl (Nat.le_refl _) (by omega) hfit'
        have c4 : h4.blk g'.next = some (.cells [q0, q1, q2, q3] 25 none) := by rw [← hh4]; exact setb_same rfl
        by_cases hge : i ≥ ks'.length
        · have dge : decide ((i : Int) ≥ (ks'.length : Int)) = true := by simp; omega
          have e1 : ordL ks ks' = 1 := by rw [ho, hks, List.drop_of_length_le hge, ordL]
          apply Wc.loop
          simp only [loop107, loopOf, firstLoop, Option.getD, Tryd.f107]
          repeat' (first
    | (with_reducible apply Wc.seq)
    | (refine Wc.ops (by repeat' (first
      | with_reducible exact RO.nil
      | ((with_reducible apply RO.run (awant_none rfl)); (focus ((first | simp (config := {decide := true}) only [awant, ayield_get, oper1, aop, opv, opvs, opvo, opvp, abuiltin, Ac.get_put, Ac.put_n, Ac.put_defers, if_true, if_false, and_true, decide_true, abin, isShift, aint, roV, pair, bind, Option.bind, acall, List.nil_append, List.append_nil, List.toList_toArray, List.getElem?_cons_zero, List.getElem?_cons_succ, Bool.not_true, Bool.not_false, nA, p0, p1, p2, p11, p12, p13, hlt, ia23 _ _ _ _ hir, Int.toNat_natCast, ld25, hsub, tz25, hh3, hst3, len23, dge] | skip); with_reducible rfl))))) ?_)
    | (refine Wc.cond2 (by simp (config := {decide := true}) only [awant, ayield_get, oper1, aop, opv, opvs, opvo, opvp, abuiltin, Ac.get_put, Ac.put_n, Ac.put_defers, if_true, if_false, and_true, decide_true, abin, isShift, aint, roV, pair, bind, Option.bind, acall, List.nil_append, List.append_nil, List.toList_toArray, List.getElem?_cons_zero, List.getElem?_cons_succ, Bool.not_true, Bool.not_false, nA, p0, p1, p2, p11, p12, p13, hlt, ia23 _ _ _ _ hir, Int.toNat_natCast, ld25, hsub, tz25, hh3, hst3, len23, dge]; try with_reducible rfl) (fun hb => ?_) (fun hb => ?_) <;> try contradiction)
    | refine Wc.skip ?_
    | refine Wc.ret ?_
    | refine Wc.exit ?_
    | refine Wc.block ?_)
          refine ⟨by simp (config := {decide := true}) only [Ac.get_put, Ac.put_n, Ac.put_defers, if_true, if_false, and_true, nA], by simp (config := {decide := true}) only [Ac.get_put, Ac.put_n, Ac.put_defers, if_true, if_false, and_true, dA], by simp (config := {decide := true}) only [Ac.get_put, Ac.put_n, Ac.put_defers, if_true, if_false, and_true, nA, p0], by simp (config := {decide := true}) only [Ac.get_put, Ac.put_n, Ac.put_defers, if_true, if_false, and_true, nA, p1], ah.trans a4, .inr ⟨rfl, ?_⟩⟩
          rw [e1]
          simp (config := {decide := true}) only [Ac.get_put, Ac.put_n, Ac.put_defers, if_true, if_false, and_true, nA]
        have hil' : i < ks'.length := by omega
        have dge : decide ((i : Int) ≥ (ks'.length : Int)) = false := by simp; omega
        have hks' : ks'.drop i = ks'[i] :: ks'.drop (i + 1) := List.drop_eq_getElem_cons hil'
        rcases hs' with hk0 | ⟨a', cs', he, hcs', hrl'⟩
        · rw [hk0] at hil'; simp at hil'
        subst he
        have ah4 := ah.trans a4
        have hcs1' := cells_grow ah4.grows hcs'
        obtain ⟨hl4', hrk'⟩ := repL_get i hrl' (List.getElem?_eq_getElem hil')
        have hsub' := cells_sub hcs1' (m := i * 4) (l := 4) (by omega)
        have hq' : ∃ q0 q1 q2 q3, (cs'.drop (i * 4)).take 4 = [q0, q1, q2, q3] ∧ [q0, q1, q2, q3].all isOne = true := by
          generalize hki : ks'[i] = ki at hrk'
          obtain ⟨k', m', tx', ks'⟩ := ki
          obtain ⟨sb', sc', e, _⟩ := rep_slice hrk'
          simp only [Value.agg.injEq, Array.mk.injEq] at e
          exact ⟨_, _, _, _, e, rfl⟩
        obtain ⟨u0, u1, u2, u3, hq', hone'⟩ := hq'
        rw [hq'] at hsub' hrk'
        have hir' : inRange (i : Int) ks'.length = true := by
          show Nat.blt i ks'.length = true
          rw [Nat.blt_eq]; exact hil'
        generalize hh5 : h4.new (.cells (Value.agg #[.int .i64 0, .int .i64 0, .string ⟨#[]⟩, .slice none 0 0]).cells.toList 25 none) = h5
        have a5 : Ahd h4 h5 := by rw [← hh5]; exact Ahd.new0 a4.fit rfl
        have c5 : h5.blk h4.next = some (.cells [.int .i64 0, .int .i64 0, .string ⟨#[]⟩, .slice none 0 0] 25 none) := by rw [← hh5]; exact new_blk_new rfl
        have hn5 : h5.next = h4.next + 1 := by rw [← hh5]; rfl
        have hst5 := st25 (a := u0) (b := u1) (c := u2) (d := u3) c5 hone' (by rw [a5.mark]; exact a4.fit.ok.2)
        generalize hh6 : h5.setb h4.next (.cells [u0, u1, u2, u3] 25 none) = h6 at hst5
        have a6 : Ahd h4 h6 := by rw [← hh6]; exact a5.setb rfl (Nat.le_refl _) (by omega) a4.fit
        have c6 : h6.blk h4.next = some (.cells [u0, u1, u2, u3] 25 none) := by rw [← hh6]; exact setb_same rfl
        have c6' : h6.blk g'.next = some (.cells [q0, q1, q2, q3] 25 none) := a6.grows _ _ c4
        have ah6 := ah4.trans a6
        have cl1 : h6.cells E (own g'.next) 4 = some [q0, q1, q2, q3] := blk_cells c6' rfl hone
        have cl2 : h6.cells E (own h4.next) 4 = some [u0, u1, u2, u3] := blk_cells c6 rfl hone'
        have hcall : (ev tab E J 1).call 66 [.agg ⟨[q0, q1, q2, q3]⟩, .agg ⟨[u0, u1, u2, u3]⟩] h6 = some (.int .i64 (ordI ks[i] ks'[i]), h6) := by
          apply ev_known
          exact hJk (.inl ⟨rfl, ks[i], _, ks'[i], _, rfl, rep_grow ah6.grows hrk, rep_grow ah6.grows hrk', by omega, rfl, rfl⟩) (by omega)
        by_cases q : ordI ks[i] ks'[i] = 0
        · have dq : (!decide (ordI ks[i] ks'[i] = 0)) = false := by simp [q]
          apply Wc.loop
          simp only [loop107, loopOf, firstLoop, Option.getD, Tryd.f107]
          repeat' (first
    | (with_reducible apply Wc.seq)
    | (refine Wc.ops (by repeat' (first
      | with_reducible exact RO.nil
      | ((with_reducible apply RO.run (awant_none rfl)); (focus ((first | simp (config := {decide := true}) only [awant, ayield_get, oper1, aop, opv, opvs, opvo, opvp, abuiltin, Ac.get_put, Ac.put_n, Ac.put_defers, if_true, if_false, and_true, decide_true, abin, isShift, aint, roV, pair, bind, Option.bind, acall, List.nil_append, List.append_nil, List.toList_toArray, List.getElem?_cons_zero, List.getElem?_cons_succ, Bool.not_true, Bool.not_false, nA, p0, p1, p2, p11, p12, p13, hlt, ia23 _ _ _ _ hir, ia23 _ _ _ _ hir', Int.toNat_natCast, ld25, hsub, hsub', tz25, hh3, hst3, hh5, hst5, len23, dge, cl1, cl2, hcall, dq, w3] | skip); with_reducible rfl))))) ?_)
    | (refine Wc.cond2 (by simp (config := {decide := true}) only [awant, ayield_get, oper1, aop, opv, opvs, opvo, opvp, abuiltin, Ac.get_put, Ac.put_n, Ac.put_defers, if_true, if_false, and_true, decide_true, abin, isShift, aint, roV, pair, bind, Option.bind, acall, List.nil_append, List.append_nil, List.toList_toArray, List.getElem?_cons_zero, List.getElem?_cons_succ, Bool.not_true, Bool.not_false, nA, p0, p1, p2, p11, p12, p13, hlt, ia23 _ _ _ _ hir, ia23 _ _ _ _ hir', Int.toNat_natCast, ld25, hsub, hsub', tz25, hh3, hst3, hh5, hst5, len23, dge, cl1, cl2, hcall, dq, w3]; try with_reducible rfl) (fun hb => ?_) (fun hb => ?_) <;> try contradiction)
    | refine Wc.skip ?_
    | refine Wc.ret ?_
    | refine Wc.exit ?_
    | refine Wc.block ?_)
          refine (ih (i + 1) _ h6 (by omega) (by omega) (by omega) ?_ ?_ ?_ ?_ ?_ ?_ ?_ ?_ ah6 ?_).mono ?_
          · simp (config := {decide := true}) only [Ac.get_put, Ac.put_n, Ac.put_defers, if_true, if_false, and_true, nA]
          · simp (config := {decide := true}) only [Ac.get_put, Ac.put_n, Ac.put_defers, if_true, if_false, and_true, dA]
          · simp (config := {decide := true}) only [Ac.get_put, Ac.put_n, Ac.put_defers, if_true, if_false, and_true, nA, p0]
          · simp (config := {decide := true}) only [Ac.get_put, Ac.put_n, Ac.put_defers, if_true, if_false, and_true, nA, p1]
          · simp (config := {decide := true}) only [Ac.get_put, Ac.put_n, Ac.put_defers, if_true, if_false, and_true, nA, p2]
          · simp (config := {decide := true}) only [Ac.get_put, Ac.put_n, Ac.put_defers, if_true, if_false, and_true, nA, p11]
          · simp (config := {decide := true}) only [Ac.get_put, Ac.put_n, Ac.put_defers, if_true, if_false, and_true, nA, p12]
          · simp (config := {decide := true}) only [Ac.get_put, Ac.put_n, Ac.put_defers, if_true, if_false, and_true, nA]
            rfl
          · rw [ho, hks, hks', ordL, if_neg (by simpa using q)]
          · rintro ex A' h' ⟨e1, e2, e3, e4, e5, ⟨rfl, e6⟩ | ⟨rfl, e6⟩⟩
            · exact ⟨e1, e2, e3, e4, e5, .inl ⟨rfl, e6⟩⟩
            · exact ⟨e1, e2, e3, e4, e5, .inr ⟨rfl, e6⟩⟩
        · have dq : (!decide (ordI ks[i] ks'[i] = 0)) = true := by simp [q]
          have e1 : ordL ks ks' = ordI ks[i] ks'[i] := by rw [ho, hks, hks', ordL, if_pos (by simpa using q)]
          apply Wc.loop
          simp only [loop107, loopOf, firstLoop, Option.getD, Tryd.f107]
          repeat' (first
    | (with_reducible apply Wc.seq)
    | (refine Wc.ops (by repeat' (first
      | with_reducible exact RO.nil
      | ((with_reducible apply RO.run (awant_none rfl)); (focus ((first | simp (config := {decide := true}) only [awant, ayield_get, oper1, aop, opv, opvs, opvo, opvp, abuiltin, Ac.get_put, Ac.put_n, Ac.put_defers, if_true, if_false, and_true, decide_true, abin, isShift, aint, roV, pair, bind, Option.bind, acall, List.nil_append, List.append_nil, List.toList_toArray, List.getElem?_cons_zero, List.getElem?_cons_succ, Bool.not_true, Bool.not_false, nA, p0, p1, p2, p11, p12, p13, hlt, ia23 _ _ _ _ hir, ia23 _ _ _ _ hir', Int.toNat_natCast, ld25, hsub, hsub', tz25, hh3, hst3, hh5, hst5, len23, dge, cl1, cl2, hcall, dq, w3] | skip); with_reducible rfl))))) ?_)
    | (refine Wc.cond2 (by simp (config := {decide := true}) only [awant, ayield_get, oper1, aop, opv, opvs, opvo, opvp, abuiltin, Ac.get_put, Ac.put_n, Ac.put_defers, if_true, if_false, and_true, decide_true, abin, isShift, aint, roV, pair, bind, Option.bind, acall, List.nil_append, List.append_nil, List.toList_toArray, List.getElem?_cons_zero, List.getElem?_cons_succ, Bool.not_true, Bool.not_false, nA, p0, p1, p2, p11, p12, p13, hlt, ia23 _ _ _ _ hir, ia23 _ _ _ _ hir', Int.toNat_natCast, ld25, hsub, hsub', tz25, hh3, hst3, hh5, hst5, len23, dge, cl1, cl2, hcall, dq, w3]; try with_reducible rfl) (fun hb => ?_) (fun hb => ?_) <;> try contradiction)
    | refine Wc.skip ?_
    | refine Wc.ret ?_
    | refine Wc.exit ?_
    | refine Wc.block ?_)
          refine ⟨by simp (config := {decide := true}) only [Ac.get_put, Ac.put_n, Ac.put_defers, if_true, if_false, and_true, nA], by simp (config := {decide := true}) only [Ac.get_put, Ac.put_n, Ac.put_defers, if_true, if_false, and_true, dA], by simp (config := {decide := true}) only [Ac.get_put, Ac.put_n, Ac.put_defers, if_true, if_false, and_true, nA, p0], by simp (config := {decide := true}) only [Ac.get_put, Ac.put_n, Ac.put_defers, if_true, if_false, and_true, nA, p1], ah6, .inr ⟨rfl, ?_⟩⟩
          rw [e1]
          simp (config := {decide := true}) only [Ac.get_put, Ac.put_n, Ac.put_defers, if_true, if_false, and_true, nA]
    repeat' (first
    | (with_reducible apply Wc.seq)
    | (refine Wc.ops (by repeat' (first
      | with_reducible exact RO.nil
      | ((with_reducible apply RO.run (awant_none rfl)); (focus ((first | simp (config := {decide := true}) only [awant, ayield_get, oper1, aop, opv, opvs, opvo, opvp, abuiltin, Ac.get_put, Ac.put_n, Ac.put_defers, if_true, if_false, and_true, decide_true, abin, isShift, aint, roV, pair, bind, Option.bind, acall, List.nil_append, List.append_nil, List.toList_toArray, List.getElem?_cons_zero, List.getElem?_cons_succ, Bool.not_true, Bool.not_false, n0, d0, g00, g01, g02, len23] | skip); with_reducible rfl))))) ?_)
    | (refine Wc.cond2 (by simp (config := {decide := true}) only [awant, ayield_get, oper1, aop, opv, opvs, opvo, opvp, abuiltin, Ac.get_put, Ac.put_n, Ac.put_defers, if_true, if_false, and_true, decide_true, abin, isShift, aint, roV, pair, bind, Option.bind, acall, List.nil_append, List.append_nil, List.toList_toArray, List.getElem?_cons_zero, List.getElem?_cons_succ, Bool.not_true, Bool.not_false, n0, d0, g00, g01, g02, len23]; try with_reducible rfl) (fun hb => ?_) (fun hb => ?_) <;> try contradiction)
    | refine Wc.skip ?_
    | refine Wc.ret ?_
    | refine Wc.exit ?_
    | refine Wc.block ?_)
    refine (key ks.length 0 _ g rfl (Nat.zero_le _) (Nat.zero_le _) ?_ ?_ ?_ ?_ ?_ ?_ ?_ ?_ (Ahd.refl hfit) (by rw [List.drop_zero, List.drop_zero])).mono ?_
    · simp (config := {decide := true}) only [Ac.get_put, Ac.put_n, Ac.put_defers, if_true, if_false, and_true, n0]
    · simp (config := {decide := true}) only [Ac.get_put, Ac.put_n, Ac.put_defers, if_true, if_false, and_true, d0]
    · simp (config := {decide := true}) only [Ac.get_put, Ac.put_n, Ac.put_defers, if_true, if_false, and_true, n0, g00]
    · simp (config := {decide := true}) only [Ac.get_put, Ac.put_n, Ac.put_defers, if_true, if_false, and_true, n0, g01]
    · simp (config := {decide := true}) only [Ac.get_put, Ac.put_n, Ac.put_defers, if_true, if_false, and_true, n0, g02]
    · simp (config := {decide := true}) only [Ac.get_put, Ac.put_n, Ac.put_defers, if_true, if_false, and_true, n0]
    · simp (config := {decide := true}) only [Ac.get_put, Ac.put_n, Ac.put_defers, if_true, if_false, and_true, n0]
    · simp (config := {decide := true}) only [Ac.get_put, Ac.put_n, Ac.put_defers, if_true, if_false, and_true, n0]
      rfl
    · rintro ex A' g' ⟨e1, e2, e3, e4, e5, ⟨rfl, e6⟩ | ⟨rfl, e6⟩⟩
      · simp only [if_true]
        by_cases q : ks.length < ks'.length
        · rw [if_pos q] at e6
          have dq : decide ((ks.length : Int) < (ks'.length : Int)) = true := by simp; omega
          repeat' (first
    | (with_reducible apply Wc.seq)
    | (refine Wc.ops (by repeat' (first
      | with_reducible exact RO.nil
      | ((with_reducible apply RO.run (awant_none rfl)); (focus ((first | simp (config := {decide := true}) only [awant, ayield_get, oper1, aop, opv, opvs, opvo, opvp, abuiltin, Ac.get_put, Ac.put_n, Ac.put_defers, if_true, if_false, and_true, decide_true, abin, isShift, aint, roV, pair, bind, Option.bind, acall, List.nil_append, List.append_nil, List.toList_toArray, List.getElem?_cons_zero, List.getElem?_cons_succ, Bool.not_true, Bool.not_false, e1, e3, e4, len23, dq] | skip); with_reducible rfl))))) ?_)
    | (refine Wc.cond2 (by simp (config := {decide := true}) only [awant, ayield_get, oper1, aop, opv, opvs, opvo, opvp, abuiltin, Ac.get_put, Ac.put_n, Ac.put_defers, if_true, if_false, and_true, decide_true, abin, isShift, aint, roV, pair, bind, Option.bind, acall, List.nil_append, List.append_nil, List.toList_toArray, List.getElem?_cons_zero, List.getElem?_cons_succ, Bool.not_true, Bool.not_false, e1, e3, e4, len23, dq]; try with_reducible rfl) (fun hb => ?_) (fun hb => ?_) <;> try contradiction)
    | refine Wc.skip ?_
    | refine Wc.ret ?_
    | refine Wc.exit ?_
    | refine Wc.block ?_)
          refine done_tmp (.inr rfl) (by simp (config := {decide := true}) only [Ac.get_put, Ac.put_n, Ac.put_defers, if_true, if_false, and_true, e2]) rfl ?_ (e5.log.trans hl0)
          rw [e6]
          simp (config := {decide := true}) only [Ac.get_put, Ac.put_n, Ac.put_defers, if_true, if_false, and_true, e1]
        · rw [if_neg q] at e6
          have dq : decide ((ks.length : Int) < (ks'.length : Int)) = false := by simp; omega
          repeat' (first
    | (with_reducible apply Wc.seq)
    | (refine Wc.ops (by repeat' (first
      | with_reducible exact RO.nil
      | ((with_reducible apply RO.run (awant_none rfl)); (focus ((first | simp (config := {decide := true}) only [awant, ayield_get, oper1, aop, opv, opvs, opvo, opvp, abuiltin, Ac.get_put, Ac.put_n, Ac.put_defers, if_true, if_false, and_true, decide_true, abin, isShift, aint, roV, pair, bind, Option.bind, acall, List.nil_append, List.append_nil, List.toList_toArray, List.getElem?_cons_zero, List.getElem?_cons_succ, Bool.not_true, Bool.not_false, e1, e3, e4, len23, dq] | skip); with_reducible rfl))))) ?_)
    | (refine Wc.cond2 (by simp (config := {decide := true}) only [awant, ayield_get, oper1, aop, opv, opvs, opvo, opvp, abuiltin, Ac.get_put, Ac.put_n, Ac.put_defers, if_true, if_false, and_true, decide_true, abin, isShift, aint, roV, pair, bind, Option.bind, acall, List.nil_append, List.append_nil, List.toList_toArray, List.getElem?_cons_zero, List.getElem?_cons_succ, Bool.not_true, Bool.not_false, e1, e3, e4, len23, dq]; try with_reducible rfl) (fun hb => ?_) (fun hb => ?_) <;> try contradiction)
    | refine Wc.skip ?_
    | refine Wc.ret ?_
    | refine Wc.exit ?_
    | refine Wc.block ?_)
          refine done_tmp (.inr rfl) (by simp (config := {decide := true}) only [Ac.get_put, Ac.put_n, Ac.put_defers, if_true, if_false, and_true, e2]) rfl ?_ (e5.log.trans hl0)
          rw [e6]
          simp (config := {decide := true}) only [Ac.get_put, Ac.put_n, Ac.put_defers, if_true, if_false, and_true, e1]
      · exact done_tmp (.inr rfl) e2 rfl e6 (e5.log.trans hl0)
end Go.Proofs.YtofijpbmbmbnhaaDoor
