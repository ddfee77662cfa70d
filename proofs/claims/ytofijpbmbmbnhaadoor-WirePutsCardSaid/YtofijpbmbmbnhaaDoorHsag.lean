/- The paths of all items in an item; those at which an item is found. -/
import Derived.Test.YtofijpbmbmbnhaaDoorHsaf
set_option linter.unusedSimpArgs false
set_option linter.unusedVariables false
namespace Go.Hs
mutual
/-- The paths of all items, in order. -/
def allP : Item → List (List Nat)
 | .mk _ _ _ ks => [] :: allPL ks 0
def allPL : List Item → Nat → List (List Nat)
 | [], _ => []
 | x :: xs, i => (allP x).map (i :: ·) ++ allPL xs (i + 1)
end
mutual
theorem allP_length : ∀ t : Item, (allP t).length = isz t
 | .mk k m tx ks => by rw [allP, isz, List.length_cons, allPL_length ks 0]
theorem allPL_length : ∀ (ks : List Item) (i : Nat), (allPL ks i).length = iszL ks
 | [], i => by rw [allPL, iszL]; rfl
 | x :: xs, i => by rw [allPL, iszL, List.length_append, List.length_map, allP_length x, allPL_length xs (i + 1)]
end
mutual
theorem allP_at : ∀ (t : Item) (p : List Nat), p ∈ allP t → ∃ y, atN t p = some y
 | .mk k m tx ks, p, h => by
  rw [allP] at h
  rcases List.mem_cons.1 h with rfl | h
  ·exact ⟨_, by rw [atN]⟩
  ·obtain ⟨n, q, x, y, rfl, h1, h2⟩ := allPL_at ks 0 p h
   exact ⟨y, by rw [atN, Nat.zero_add, h1]; exact h2⟩
theorem allPL_at : ∀ (ks : List Item) (i : Nat) (p : List Nat), p ∈ allPL ks i → ∃ (n : Nat) (q : List Nat) (x y : Item), p = (i + n) :: q ∧ ks[n]? = some x ∧ atN x q = some y
 | [], i, p, h => by rw [allPL] at h; cases h
 | x :: xs, i, p, h => by
  rw [allPL] at h
  rcases List.mem_append.1 h with h | h
  ·obtain ⟨q, hq, rfl⟩ := List.mem_map.1 h
   obtain ⟨y, hy⟩ := allP_at x q hq
   exact ⟨0, q, x, y, rfl, rfl, hy⟩
  ·obtain ⟨n, q, x', y, rfl, h1, h2⟩ := allPL_at xs (i + 1) p h
   exact ⟨n + 1, q, x', y, by congr 1; omega, by rw [List.getElem?_cons_succ]; exact h1, h2⟩
end
def mxl : List (List Nat) → Int → Int
 | [], m => m
 | q :: qs, m => mxl qs (if (q.length : Int) + 1 > m then (q.length : Int) + 1 else m)
theorem mxl_append : ∀ (a b : List (List Nat)) (m : Int), mxl (a ++ b) m = mxl b (mxl a m)
 | [], b, m => by rw [List.nil_append, mxl]
 | q :: a, b, m => by rw [List.cons_append, mxl, mxl, mxl_append a b]
theorem mxl_map (i : Nat) : ∀ (l : List (List Nat)) (m : Int), mxl (l.map (i :: ·)) (m + 1) = mxl l m + 1
 | [], m => by rw [List.map_nil, mxl, mxl]
 | q :: l, m => by
  rw [List.map_cons, mxl, mxl, ← mxl_map i l]
  congr 1
  rw [List.length_cons]
  push_cast
  split <;> split <;> omega
mutual
theorem mxl_all : ∀ (t : Item) (m : Int), 0 ≤ m → mxl (allP t) m = max m (lvlI t)
 | .mk k n tx ks, m, hm => by
  rw [allP, mxl, lvlI, mxl_allL ks 0 _ (by split <;> simp at * <;> omega)]
  have := lvlL_bound ks 0 (Int.le_refl _)
  simp only [List.length_nil]
  split <;> simp at * <;> omega
theorem mxl_allL : ∀ (ks : List Item) (i : Nat) (m : Int), 1 ≤ m → mxl (allPL ks i) m = max m (lvlL ks 0 + 1)
 | [], i, m, hm => by rw [allPL, mxl, lvlL]; omega
 | x :: xs, i, m, hm => by
  have h1 := lvlI_bound x
  rw [allPL, mxl_append, lvlL, if_pos (by omega), lvlL_max xs (lvlI x) (by omega), show m = (m - 1) + 1 by omega, mxl_map, mxl_all x (m - 1) (by omega), mxl_allL xs (i + 1) _ (by omega)]
  omega
end
theorem mxl_lvl (t : Item) : mxl (allP t) 0 = lvlI t := by
 rw [mxl_all t 0 (Int.le_refl _)]
 have := lvlI_bound t
 omega
mutual
theorem allP_len : ∀ (t : Item) (p : List Nat), p ∈ allP t → p.length < isz t ∧ ∀ i ∈ p, i < isz t
 | .mk k m tx ks, p, h => by
  rw [allP] at h
  rw [isz]
  rcases List.mem_cons.1 h with rfl | h
  ·exact ⟨Nat.succ_pos _, fun i hi => by cases hi⟩
  ·obtain ⟨h1, h2⟩ := allPL_len ks 0 p h
   exact ⟨by omega, fun i hi => by have := h2 i hi; omega⟩
theorem allPL_len : ∀ (ks : List Item) (i : Nat) (p : List Nat), p ∈ allPL ks i → p.length ≤ iszL ks ∧ ∀ j ∈ p, j < i + iszL ks
 | [], i, p, h => by rw [allPL] at h; cases h
 | x :: xs, i, p, h => by
  rw [allPL] at h
  rw [iszL]
  have := isz_pos x
  rcases List.mem_append.1 h with h | h
  ·obtain ⟨q, hq, rfl⟩ := List.mem_map.1 h
   obtain ⟨h1, h2⟩ := allP_len x q hq
   refine ⟨by rw [List.length_cons]; omega, fun j hj => ?_⟩
   rcases List.mem_cons.1 hj with rfl | hj
   ·omega
   ·have := h2 j hj; omega
  ·obtain ⟨h1, h2⟩ := allPL_len xs (i + 1) p h
   exact ⟨by omega, fun j hj => by have := h2 j hj; omega⟩
end
mutual
/-- Where an item is found. -/
def fndI (y : Item) : Item → List (List Nat)
 | .mk k m tx ks => (if ordI (.mk k m tx ks) y = 0 then [[]] else []) ++ fndL y ks 0
def fndL (y : Item) : List Item → Nat → List (List Nat)
 | [], _ => []
 | x :: xs, i => (fndI y x).map (i :: ·) ++ fndL y xs (i + 1)
end
def isAt (t y : Item) (p : List Nat) : Bool := match atN t p with
 | some z => alkI z y
 | none => false
theorem alkI_ord (t y : Item) : alkI t y = decide (ordI t y = 0) := by
 by_cases h : ordI t y = 0
 ·rw [decide_eq_true h, alkI_iff]; exact ordI_zero _ _ h
 ·rw [decide_eq_false h]
  cases ha : alkI t y with
  | false => rfl
  | true =>
   rw [alkI_iff] at ha
   subst ha
   exact absurd (ordI_self t) h
mutual
theorem fndI_all (y : Item) : ∀ t : Item, fndI y t = (allP t).filter (isAt t y)
 | .mk k m tx ks => by
  have hL := fndL_all y ks k m tx 0 ks (by simp)
  rw [fndI, allP, List.filter_cons, hL]
  have e : isAt (.mk k m tx ks) y [] = decide (ordI (.mk k m tx ks) y = 0) := by
   unfold isAt
   rw [atN]
   exact alkI_ord _ _
  rw [e]
  by_cases h : ordI (.mk k m tx ks) y = 0
  ·simp only [h, if_true, decide_true]; rfl
  ·simp only [h, if_false, decide_false]; rfl
theorem fndL_all (y : Item) : ∀ (xs : List Item) (k m : Int) (tx : ByteArray) (i : Nat) (ks : List Item), xs = ks.drop i → fndL y xs i = (allPL xs i).filter (isAt (.mk k m tx ks) y)
 | [], k, m, tx, i, ks, h => by rw [fndL, allPL]; rfl
 | x :: xs, k, m, tx, i, ks, h => by
  have hx : ks[i]? = some x := by
   have := congrArg (·[0]?) h
   simpa using this.symm
  have hxs : xs = ks.drop (i + 1) := by
   have := congrArg List.tail h
   simpa using this
  rw [fndL, allPL, List.filter_append, fndI_all y x, fndL_all y xs k m tx (i + 1) ks hxs, List.filter_map]
  congr 2
  refine List.filter_congr fun q _ => ?_
  unfold isAt
  simp only [Function.comp, atN, hx]
end
theorem fndI_len (y t : Item) : (fndI y t).length ≤ isz t := by
 rw [fndI_all, ← allP_length t]
 exact List.length_filter_le _ _
theorem fndL_drop (y : Item) {ks : List Item} {i : Nat} (h : i < ks.length) : fndL y (ks.drop i) i = (fndI y ks[i]).map (i :: ·) ++ fndL y (ks.drop (i + 1)) (i + 1) := by
 rw [List.drop_eq_getElem_cons h, fndL]
theorem allPL_drop {ks : List Item} {i : Nat} (h : i < ks.length) : allPL (ks.drop i) i = (allP ks[i]).map (i :: ·) ++ allPL (ks.drop (i + 1)) (i + 1) := by
 rw [List.drop_eq_getElem_cons h, allPL]
end Go.Hs
/- A slice that is appended to from several places, beside a variable that is written. -/
namespace Go.Hs
structure Xo (b : Nat) (e : TypeId) (kO : Nat) (rt : Option Nat) (h g : H) : Prop where
 fit : Fit g
 keep : ∀ k B, k ≠ kO → h.blk k = some B → g.blk k = some B
 log : ∀ j ∈ g.log, j ∈ h.log ∨ (j = kO ∧ kO < h.mark)
 mark : g.mark = h.mark
 next : h.next ≤ g.next
 chain : ∀ r, r < b → g.chain r = h.chain r
 ok : ∀ r, rt = some r → ∀ P, ChainOk b e h r P → ChainOk b e g r (fun j l => P j l ∨ h.next ≤ j)
variable {b : Nat} {e : TypeId} {kO : Nat} {rt rt' : Option Nat} {h g f : H}
theorem Ahd.xo (a : Ahd h g) (hb : b ≤ h.next) (hr : ∀ r, rt = some r → r < h.next) : Xo b e kO rt h g :=
 ⟨a.fit, fun k B _ hB => a.grows k B hB, fun j hj => .inl (by rw [← a.log]; exact hj), a.mark, a.next, fun r h1 => a.chain r (by omega), fun r h1 P hP => (a.chainOk (hr r h1) hP).mono fun _ _ h => .inl h⟩
theorem Xo.trans (x : Xo b e kO rt h g) (y : Xo b e kO rt' g f) (h1 : rt = none ∨ rt' = rt) : Xo b e kO rt h f :=
 ⟨y.fit, fun k B hk hB => y.keep k B hk (x.keep k B hk hB), fun j hj => by
  rcases y.log j hj with h2 | ⟨h2, h3⟩
  ·exact x.log j h2
  ·exact .inr ⟨h2, by rw [← x.mark]; exact h3⟩, y.mark.trans x.mark, Nat.le_trans x.next y.next, fun r hr => (y.chain r hr).trans (x.chain r hr), fun r hr P hP => by
  have hc : rt' = some r := by
   rcases h1 with h1 | h1
   ·rw [h1] at hr; cases hr
   ·rw [h1]; exact hr
  refine (y.ok r hc _ (x.ok r hr P hP)).mono ?_
  rintro j l ((h3 | h3) | h3)
  ·exact .inl h3
  ·exact .inr h3
  ·exact .inr (Nat.le_trans x.next h3)⟩
theorem Xo.ahead (x : Xo b e kO rt h g) (y : Ahd g f) (hb : b ≤ h.next) (hr : ∀ r, rt = some r → r < g.next) : Xo b e kO rt h f := x.trans (y.xo (Nat.le_trans hb x.next) hr) (.inr rfl)
theorem Xo.back {h1 : H} (fh : Fit h) (x : Xo b e kO rt (fresh h) h1) : Xo b e kO rt h (Hs.back h h1) ∧ ∀ j ∈ h1.log, j = kO ∧ kO < h.next := by
 have hl : ∀ j ∈ h1.log, j = kO ∧ kO < h.next := fun j hj => by
  rcases x.log j hj with h2 | h2
  ·cases h2
  ·exact h2
 refine ⟨⟨back_fit fh x.fit x.next, fun k B hk hb => by rw [back_blk]; exact x.keep k B hk hb, fun j hj => ?_, back_mark _ _, by rw [back_next]; exact x.next, fun r hr => by rw [back_chain]; exact x.chain r hr, fun r hr P hP j hj => ?_⟩, hl⟩
 ·unfold Hs.back at hj
  rcases note_log hj with h2 | ⟨h2, h3⟩
  ·exact .inl h2
  ·exact .inr ⟨(hl j h2).1, by rw [← (hl j h2).1]; exact h3⟩
 ·rw [back_chain] at hj
  obtain ⟨q1, ys, q2, q3⟩ := x.ok r hr P hP j hj
  exact ⟨q1, ys, by rw [back_dyn]; exact q2, q3⟩
theorem Xo.setl (x : Xo b e kO rt h g) {xs ys : List Value} {ty : TypeId} (hb : g.blk kO = some (.cells xs ty none)) (hm : kO < h.mark ∨ h.mark ≤ kO) : Xo b e kO rt h (g.setl kO (.cells ys ty none)) := by
 have hlt := x.fit.lt hb
 refine ⟨x.fit.setl rfl hlt, fun k B hk hB => by rw [setl_ne hk]; exact x.keep k B hk hB, fun j hj => ?_, (setl_mark _ _ _).trans x.mark, by rw [setl_next]; exact x.next, fun r hr => by rw [setl_chain]; exact x.chain r hr, fun r hr P hP j hj => ?_⟩
 ·rcases setl_log hj with h2 | ⟨h2, h3⟩
  ·exact x.log j h2
  ·subst h2
   exact .inr ⟨rfl, by rw [← x.mark]; exact h3⟩
 ·rw [setl_chain] at hj
  obtain ⟨q1, zs, q2, q3⟩ := x.ok r hr P hP j hj
  refine ⟨q1, zs, ?_, q3⟩
  have hne : j ≠ kO := fun e => by
   rw [e, H.blk_dyn hb] at q2
   cases q2
  rw [setl_dyn, T.get_set_ne _ _ _ _ hne]; exact q2
theorem pthO_step {D : Tab} {E : Env} {hN : H} {t t2 : TypeId} {by_ kx c i6 i7 : Nat} {i8 : Option Value} {i9 : Bool} {sp ze x : Value} {p : List Value} (X : Xo b e kO rt hN g) (P : Pth e g sp p rt) (fN : Fit hN) (hb : b ≤ hN.next) (ok : ∀ r, rt = some r → b ≤ r ∧ ChainOk b e g r (fun j l => l ≤ p.length ∨ hN.next ≤ j))
  (ht : D.ty.get t = some ⟨.slice e 1 by_, i6, i7, i8, i9⟩) (hz : tzero D e = some ze) (hzz : (Nat.beq ze.cells.toList.length 1 && Nat.blt 0 1 && ze.cells.toList.all isOne) = true) (hzt : zeroArg D t2 (.slice (some (own kx)) 1 c) = some false)
  (hx : g.cells E (own kx) 1 = some [x]) (hc1 : isOne x = true) (hrm : roomy (p.length + 1) by_ = true) :
  ∃ s' q rt', aappend D E t t2 sp (.slice (some (own kx)) 1 c) (fresh g) = some (s', q) ∧ Xo b e kO rt hN (back g q) ∧ Pth e (back g q) s' (p ++ [x]) rt' ∧ (∀ r, rt' = some r → b ≤ r ∧ ChainOk b e (back g q) r (fun _ l => l ≤ p.length + 1)) ∧ (rt = none ∧ rt' = some g.next ∨ rt' = rt) ∧
   (∀ k B, g.blk k = some B → rootsNot rt B → (back g q).blk k = some B) ∧ (∀ r', r' < g.next → rt ≠ some r' → (back g q).chain r' = g.chain r') ∧ (∀ j ∈ q.log, b ≤ j ∧ ∃ ys r, g.dyn.get j = some (.cells ys e (some (r, 0)))) ∧ g.next ≤ q.next := by
 obtain ⟨k, rfl, hbk⟩ := P.get
 have f := X.fit
 have hx' : (fresh g).cells E (own kx) 1 = some [x] := hx
 have hel : aelems E 1 ze.cells.toList (.slice (some (own kx)) 1 c) (fresh g) = some (1, [x]) := by
  simp only [aelems, Nat.one_mul, hx']
 have hbl : Nat.beq ([x] : List Value).length (1 * 1) = true := rfl
 have hkn := f.lt hbk
 have hbg : b ≤ g.next := Nat.le_trans hb X.next
 cases rt with
 | none =>
  obtain rfl := P.nil rfl
  have hbk' : (fresh g).blk (own k).block = some (.cells [] e none) := hbk
  have e4 : Nat.ble (([] : List Value).length + 1) ([] : List Value).length = false := rfl
  have hsp : (own k).spot = some 0 := rfl
  have hap : aappend D E t t2 (.slice (some (own k)) ([] : List Value).length ([] : List Value).length) (.slice (some (own kx)) 1 c) (fresh g) = some (.slice (some (own g.next)) 1 1, (fresh g).newOpen [x] e) := by
   unfold aappend
   rw [ht]
   simp only [hz, hzt, hzz, hel, hbl, hrm, hsp, hbk', e4]
   rfl
  obtain ⟨a1, a2, a3, a4⟩ := Ahd.back f (Ahd.newOpen f.fresh [x] e)
  have hbn : (back g ((fresh g).newOpen [x] e)).blk g.next = some (.cells [x] e (some (g.next, 0))) := by rw [a2]; exact newOpen_new
  have hch : (back g ((fresh g).newOpen [x] e)).chain g.next = [g.next] := by
   rw [back_chain]
   simp only [H.chain, H.newOpen, fresh, T.get_set_same, Option.getD]
  refine ⟨_, _, some g.next, hap, X.ahead a1 hb (fun r hr => by cases hr), ⟨⟨g.next, rfl, hbn⟩, by simp [hc1], fun h => by cases h⟩, fun r hr => ?_, .inl ⟨rfl, rfl⟩, fun k B hk _ => a1.grows _ _ hk, fun r' hr' _ => a1.chain r' hr', fun j hj => ?_, Nat.le_succ _⟩
  ·cases hr
   refine ⟨hbg, fun j hj => ?_⟩
   rw [hch] at hj
   obtain rfl := List.mem_singleton.1 hj
   exact ⟨hbg, [x], H.blk_dyn hbn, Nat.le_refl _⟩
  ·cases hj
 | some r =>
  obtain ⟨hbr, hck⟩ := ok r rfl
  have hrn := P.lt f r rfl
  have hbk' : (fresh g).blk (own k).block = some (.cells p e (some (r, 0))) := hbk
  have hsp : (own k).spot = some 0 := rfl
  have e4 : Nat.ble (p.length + 1) p.length = false := by
   cases hq : Nat.ble (p.length + 1) p.length
   ·rfl
   ·rw [Nat.ble_eq] at hq; omega
  have e5 : (Nat.beq p.length p.length && Nat.beq ((own k).off + p.length * 1) p.length && Nat.beq e e && (p.drop (own k).off).all isOne && Nat.ble (own k).off p.length) = true := by
   have : (own k).off = 0 := rfl
   rw [this, Nat.zero_add, Nat.mul_one, List.drop_zero, P.one, Nat.beq_refl, Nat.beq_refl]
   simp [Nat.ble]
  have hap : aappend D E t t2 (.slice (some (own k)) p.length p.length) (.slice (some (own kx)) 1 c) (fresh g) = some (.slice (some (own g.next)) (p.length + 1) (p.length + 1), (fresh g).grow e r 0 p.length k p [x]) := by
   unfold aappend
   rw [ht]
   simp only [hz, hzt, hzz, hel, hbl, hrm, hsp, hbk', Option.map, e4]
   simp only [e5]
   simp only [own, Nat.add_zero, List.drop_zero, Nat.mul_one]
   rfl
  generalize hq : (fresh g).grow e r 0 p.length k p [x] = q at hap
  have hits_of : ∀ j, j ∈ g.chain r → g.hits k p.length (p.length + 1) j = false → ∃ ys, g.dyn.get j = some (.cells ys e (some (r, 0))) ∧ ys.length ≤ p.length := by
   intro j hj hh
   obtain ⟨_, ys, h1, _⟩ := hck j hj
   refine ⟨ys, h1, ?_⟩
   unfold H.hits at hh
   split at hh
   ·next hjk =>
    obtain rfl := Nat.eq_of_beq_eq_true hjk
    have := H.blk_dyn hbk
    rw [h1] at this
    simp only [Option.map, Option.some.injEq, Blk.cells.injEq] at this
    rw [this.1]; exact Nat.le_refl _
   ·rw [h1] at hh
    simp only [Bool.and_eq_false_iff] at hh
    rcases hh with (hh | hh) | hh
    ·have : ¬ p.length < 0 + ys.length := fun hc => by
      rw [← Nat.blt_eq] at hc; rw [hc] at hh; cases hh
     omega
    ·have : ¬ 0 < p.length + 1 := fun hc => by
      rw [← Nat.blt_eq] at hc; rw [hc] at hh; cases hh
     omega
    ·have : ¬ 0 < ys.length := fun hc => by
      rw [← Nat.blt_eq] at hc; rw [hc] at hh; cases hh
     omega
  have stays : ∀ j ys, j ∈ g.chain r → g.dyn.get j = some (.cells ys e (some (r, 0))) → ys.length ≤ p.length → g.hits k p.length (p.length + 1) j = false := by
   intro j ys hj hd hle
   unfold H.hits
   split
   ·rfl
   ·rw [hd]
    have : Nat.blt p.length (0 + ys.length) = false := by
     cases q : Nat.blt p.length (0 + ys.length)
     ·rfl
     ·rw [Nat.blt_eq] at q; omega
    simp only [this, Bool.false_and]
  have hqn : q.next = g.next + 1 := by rw [← hq]; unfold H.grow; rw [H.note_next]; rfl
  have hqd : q.dyn = g.dyn.set g.next (.cells (p ++ [x]) e (some (r, 0))) := by rw [← hq]; unfold H.grow; rw [H.note_dyn]; rfl
  have hqc : q.chains = g.chains.set r (g.next :: g.spare r k (0 + p.length) (0 + p.length + 1)) := by rw [← hq]; unfold H.grow; rw [note_chains]; rfl
  have hql : ∀ j ∈ q.log, j ∈ g.chain r ∧ g.hits k p.length (p.length + 1) j = true := by
   intro j hj
   rw [← hq] at hj
   unfold H.grow at hj
   rcases note_log hj with h1 | ⟨h1, _⟩
   ·cases h1
   ·have := mem_gone.1 h1
    rw [Nat.zero_add] at this
    exact this
  have hqN : ∀ j ∈ q.log, hN.next ≤ j := by
   intro j hj
   obtain ⟨h1, h2⟩ := hql j hj
   obtain ⟨_, ys, h3, h4⟩ := hck j h1
   rcases h4 with h4 | h4
   ·rw [stays j ys h1 h3 h4] at h2; cases h2
   ·exact h4
  have hfq : Fit q := by
   refine ⟨fun j hj => ?_, ⟨fun j ys ty r' p' hd' => ?_, ?_⟩⟩
   ·rw [hqn] at hj
    rw [hqd, T.get_set_ne _ _ _ _ (by omega)]; exact f.free j (by omega)
   ·rw [hqn]
    rw [hqd] at hd'
    by_cases hj : j = g.next
    ·subst hj
     rw [T.get_set_same] at hd'
     cases hd'; omega
    ·rw [T.get_set_ne _ _ _ _ hj] at hd'
     have := f.ok.1 _ _ _ _ _ hd'; omega
   ·have : q.mark = g.next := by rw [← hq]; unfold H.grow; rw [note_mark]; rfl
    rw [this, hqn]; omega
  have hcr : q.chain r = g.next :: g.spare r k p.length (p.length + 1) := by
   simp only [H.chain, hqc, T.get_set_same, Option.getD, Nat.zero_add]
  have hcn : ∀ r', r' ≠ r → q.chain r' = g.chain r' := by
   intro r' hr'
   simp only [H.chain, hqc]; rw [T.get_set_ne _ _ _ _ hr']
  have keep : ∀ j B, g.blk j = some B → (∀ ys u p', B = .cells ys u (some (r, p')) → j ∈ q.chain r) → q.blk j = some B := by
   intro j B hB hj
   have hjn := f.lt hB
   have hd := H.blk_dyn hB
   have hd2 : q.dyn.get j = some B := by rw [hqd, T.get_set_ne _ _ _ _ (by omega)]; exact hd
   unfold H.blk at hB ⊢
   rw [hd2]
   rw [hd] at hB
   cases B with
   | cells ys u rt' => cases rt' with
    | none => rfl
    | some rp =>
     obtain ⟨r', p'⟩ := rp
     by_cases hr : r' = r
     ·subst hr
      simp only
      rw [show (q.chain r').contains j = true from by simpa using hj _ _ _ rfl]
     ·simp only [hcn r' hr]
      exact hB
   | _ => rfl
  have hnew : q.blk g.next = some (.cells (p ++ [x]) e (some (r, 0))) := by
   have hdd : q.dyn.get g.next = some (.cells (p ++ [x]) e (some (r, 0))) := by rw [hqd]; exact T.get_set_same _ _ _
   unfold H.blk
   rw [hdd]
   simp only [hcr, List.contains_cons, beq_self_eq_true, Bool.true_or]
  have hback : ∀ j ∈ (back g q).log, j ∈ g.log := by
   intro j hj
   unfold back at hj
   rcases note_log hj with h1 | ⟨h1, h2⟩
   ·exact h1
   ·have h3 := hqN j h1
    have h4 : j < g.mark := h2
    rw [X.mark] at h4
    have := fN.ok.2
    omega
  have dynOf : ∀ j ∈ q.chain r, b ≤ j ∧ ∃ ys, q.dyn.get j = some (.cells ys e (some (r, 0))) ∧ ys.length ≤ p.length + 1 ∧ (j = g.next ∨ j ∈ g.chain r ∧ g.dyn.get j = some (.cells ys e (some (r, 0)))) := by
   intro j hj
   rw [hcr] at hj
   rcases List.mem_cons.1 hj with rfl | hj
   ·exact ⟨hbg, _, H.blk_dyn hnew, by simp, .inl rfl⟩
   ·obtain ⟨h1, h2⟩ := mem_spare.1 hj
    obtain ⟨ys, h3, h4⟩ := hits_of j h1 h2
    refine ⟨(hck j h1).1, ys, ?_, by omega, .inr ⟨h1, h3⟩⟩
    have hjn : j ≠ g.next := by
     intro e
     subst e
     rw [f.free _ (Nat.le_refl _)] at h3; cases h3
    rw [hqd, T.get_set_ne _ _ _ _ hjn]; exact h3
  refine ⟨_, q, some r, hap, ⟨back_fit f hfq (by rw [hqn]; omega), fun j B hjk hB => ?_, fun j hj => X.log j (hback j hj), (back_mark _ _).trans X.mark, by rw [back_next, hqn]; have := X.next; omega, fun r' hr' => ?_, fun r' hr' P' hP' j hj => ?_⟩, ⟨⟨g.next, ?_, by rw [back_blk]; exact hnew⟩, by rw [List.all_append, P.one]; simp [hc1], fun h => by cases h⟩, fun r' hr' => ?_, .inr rfl, fun j B hB hro => ?_, fun r' _ hne => by rw [back_chain]; exact hcn r' (fun e => hne (by rw [e])), fun j hj => ?_, by rw [hqn]; omega⟩
  ·rw [back_blk]
   have hB' := X.keep _ _ hjk hB
   refine keep j B hB' (fun ys u p' he => ?_)
   subst he
   have hj : j ∈ g.chain r := by
    unfold H.blk at hB'
    rw [H.blk_dyn (h := g) (k := j) (B := .cells ys u (some (r, p'))) (by unfold H.blk; exact hB')] at hB'
    simp only at hB'
    split at hB'
    ·next hc => simpa using hc
    ·cases hB'
   obtain ⟨_, ys', h1, h2⟩ := hck j hj
   rw [hcr]
   refine List.mem_cons_of_mem _ (mem_spare.2 ⟨hj, ?_⟩)
   rcases h2 with h2 | h2
   ·exact stays j ys' hj h1 h2
   ·have := fN.lt hB; omega
  ·rw [back_chain, hcn r' (by omega)]
   exact X.chain r' hr'
  ·cases hr'
   rw [back_chain] at hj
   obtain ⟨h1, ys, h2, h3, h4⟩ := dynOf j hj
   refine ⟨h1, ys, by rw [back_dyn]; exact h2, ?_⟩
   rcases h4 with rfl | ⟨h4, h5⟩
   ·exact .inr X.next
   ·obtain ⟨_, ys', q2, q3⟩ := X.ok r rfl P' hP' j h4
    rw [h5] at q2
    cases q2
    exact q3
  ·rw [List.length_append]; rfl
  ·cases hr'
   refine ⟨hbr, fun j hj => ?_⟩
   rw [back_chain] at hj
   obtain ⟨h1, ys, h2, h3, _⟩ := dynOf j hj
   exact ⟨h1, ys, by rw [back_dyn]; exact h2, h3⟩
  ·rw [back_blk]
   exact keep j B hB (fun ys u p' he => absurd rfl (hro ys u r p' he))
  ·obtain ⟨h1, _⟩ := hql j hj
   obtain ⟨h2, ys, h3, _⟩ := hck j h1
   exact ⟨h2, ys, r, h3⟩
/-! ### Paths that are collected in a variable -/
def NumsK (rt : Option Nat) (g : H) (v : Value) (q : List Nat) : Prop := (q = [] ∧ ∃ b c, v = .slice b 0 c) ∨ ∃ k c r, v = .slice (some (own k)) q.length c ∧ g.blk k = some (.cells (natsV q) 3 (some (r, 0))) ∧ rt ≠ some r
def NumsLK (rt : Option Nat) (g : H) : List (List Nat) → List Value → Prop
 | [], vs => vs = []
 | p :: ps, vs => ∃ v l, vs = v :: l ∧ NumsK rt g v p ∧ NumsLK rt g ps l
theorem NumsK.nums {E : Env} {v : Value} {q : List Nat} (n : NumsK rt g v q) : Nums E g v q := by
 rcases n with ⟨rfl, b, c, rfl⟩ | ⟨k, c, r, rfl, h2, _⟩
 ·exact ⟨b, c, rfl, .inl rfl⟩
 ·exact ⟨_, c, rfl, .inr ⟨own k, rfl, blk_cells h2 (natsV_length q) (natsV_one q)⟩⟩
theorem NumsK.keep {v : Value} {q : List Nat} (n : NumsK rt g v q) (hk : ∀ k xs r, g.blk k = some (.cells xs 3 (some (r, 0))) → rt ≠ some r → f.blk k = some (.cells xs 3 (some (r, 0)))) (hr : ∀ r, r < g.next → rt ≠ some r → rt' ≠ some r) (fg : Fit g) : NumsK rt' f v q := by
 rcases n with n | ⟨k, c, r, h1, h2, h3⟩
 ·exact .inl n
 ·exact .inr ⟨k, c, r, h1, hk _ _ _ h2 h3, hr r (fg.ok.1 _ _ _ _ _ (H.blk_dyn h2)) h3⟩
theorem NumsLK.keep : ∀ {ps : List (List Nat)} {vs : List Value}, NumsLK rt g ps vs → (∀ k xs r, g.blk k = some (.cells xs 3 (some (r, 0))) → rt ≠ some r → f.blk k = some (.cells xs 3 (some (r, 0)))) → (∀ r, r < g.next → rt ≠ some r → rt' ≠ some r) → Fit g → NumsLK rt' f ps vs
 | [], _, n, _, _, _ => n
 | _ :: _, _, ⟨v, l, e, n, m⟩, hk, hr, fg => ⟨v, l, e, n.keep hk hr fg, NumsLK.keep m hk hr fg⟩
theorem NumsLK.numsL {E : Env} : ∀ {ps : List (List Nat)} {vs : List Value}, NumsLK rt g ps vs → NumsL E g ps vs
 | [], _, n => n
 | _ :: _, _, ⟨v, l, e, n, m⟩ => ⟨v, l, e, n.nums, NumsLK.numsL m⟩
theorem NumsLK.snoc : ∀ {ps : List (List Nat)} {vs : List Value} {v : Value} {q : List Nat}, NumsLK rt g ps vs → NumsK rt g v q → NumsLK rt g (ps ++ [q]) (vs ++ [v])
 | [], _, v, q, n, m => by rw [show _ = _ from n]; exact ⟨v, [], rfl, m, rfl⟩
 | _ :: _, _, _, _, ⟨v, l, e, n, m⟩, k => ⟨v, l ++ _, by rw [e]; rfl, n, NumsLK.snoc m k⟩
def Fo (b kO : Nat) (rt : Option Nat) (g : H) (ps : List (List Nat)) : Prop := ∃ s ro vs, g.blk kO = some (.cells [s] 68 none) ∧ Ap3 g b 53 1 s ps.length vs ro ∧ (∀ r, ro = some r → rt ≠ some r) ∧ NumsLK rt g ps vs
theorem Fo.ahd {ps : List (List Nat)} (o : Fo b kO rt g ps) (fg : Fit g) (a : Ahd g f) : Fo b kO rt f ps := by
 obtain ⟨s, ro, vs, h1, h2, h3, h4⟩ := o
 exact ⟨s, ro, vs, a.grows _ _ h1, h2.grow fg a, h3, h4.keep (fun k _ _ hB _ => a.grows k _ hB) (fun _ _ h => h) fg⟩
theorem Fo.fresh {ps : List (List Nat)} (o : Fo b kO rt g ps) (fg : Fit g) : Fo b kO rt (Hs.fresh g) ps := by
 obtain ⟨s, ro, vs, h1, h2, h3, h4⟩ := o
 exact ⟨s, ro, vs, h1, h2.fresh, h3, h4.keep (fun _ _ _ hB _ => hB) (fun _ _ h => h) fg⟩
theorem Fo.back {h1 : H} {ps : List (List Nat)} (o : Fo b kO rt h1 ps) (f1 : Fit h1) : Fo b kO rt (Hs.back g h1) ps := by
 obtain ⟨s, ro, vs, e1, h2, h3, h4⟩ := o
 exact ⟨s, ro, vs, by rw [back_blk]; exact e1, h2.back, h3, h4.keep (fun _ _ _ hB _ => by rw [back_blk]; exact hB) (fun _ _ h => h) f1⟩
theorem Fo.step {ps : List (List Nat)} (o : Fo b kO rt g ps) (fg : Fit g) (hn : g.next ≤ f.next) (hk : ∀ k B, g.blk k = some B → rootsNot rt B → f.blk k = some B) (hc : ∀ r, r < g.next → rt ≠ some r → f.chain r = g.chain r) (hr : rt = none ∧ rt' = some g.next ∨ rt' = rt) : Fo b kO rt' f ps := by
 obtain ⟨s, ro, vs, e1, h2, h3, h4⟩ := o
 have hrr : ∀ r, r < g.next → rt ≠ some r → rt' ≠ some r := fun r h5 h6 => by
  rcases hr with ⟨_, rfl⟩ | rfl
  ·intro e
   cases e; omega
  ·exact h6
 refine ⟨s, ro, vs, hk _ _ e1 (fun _ _ _ _ he => by cases he), ?_, fun r h5 => hrr r (h2.root r h5).2 (h3 r h5), h4.keep (fun k xs r hB hr => hk k _ hB (fun _ _ _ _ he => by cases he; exact hr)) hrr fg⟩
 rcases h2 with (h2 | ⟨k, r, q1, q2, q3, q4, q5, q6, q7, q8⟩) | ⟨k, q1, q2, q3⟩
 ·exact .inl (.inl h2)
 ·have hro := h3 r q8
  refine .inl (.inr ⟨k, r, q1, hk _ _ q2 (fun _ _ _ _ he => by cases he; exact hro), q3, q4, q5, by omega, fun j hj => ?_, q8⟩)
  rw [hc r q6 hro] at hj
  obtain ⟨ys, ty, p, d1, d2⟩ := q7 j hj
  exact ⟨ys, ty, p, H.blk_dyn (hk _ _ (chain_blk hj d1) (fun _ _ _ _ he => by cases he; exact hro)), d2⟩
 ·exact .inr ⟨k, q1, hk _ _ q2 (fun _ _ _ _ he => by cases he), q3⟩
theorem Fo.none {ps : List (List Nat)} (o : Fo b kO rt g ps) (fg : Fit g) : Fo b kO Option.none g ps := by
 obtain ⟨s, ro, vs, e1, h2, h3, h4⟩ := o
 exact ⟨s, ro, vs, e1, h2, fun _ _ => by simp, h4.keep (fun _ _ _ hB _ => hB) (fun _ _ _ => by simp) fg⟩
theorem Fo.put {ps : List (List Nat)} {s0 s : Value} {ro : Option Nat} {vs : List Value} (fg : Fit g) (hb : g.blk kO = some (.cells [s0] 68 Option.none)) (h2 : Ap3 g b 53 1 s ps.length vs ro) (h3 : ∀ r, ro = some r → rt ≠ some r) (h4 : NumsLK rt g ps vs) (hs : isOne s = true) : Fo b kO rt (g.setl kO (.cells [s] 68 Option.none)) ps := by
 have m : Mod (fun k => k = kO) g (g.setl kO (.cells [s] 68 Option.none)) := (Mod.refl fg).setl rfl rfl (fg.lt hb)
 refine ⟨s, ro, vs, setl_same rfl, ?_, h3, h4.keep (fun k xs r hB _ => ?_) (fun _ _ h => h) fg⟩
 ·rcases h2 with h2 | ⟨k, q1, q2, q3⟩
  ·exact .inl (h2.mod m (fun k B hk hB => by subst hk; rw [hb] at hB; cases hB; rfl))
  ·refine .inr ⟨k, q1, m.blk k _ (fun e => ?_) q2, q3⟩
   rw [e, hb] at q2
   cases q2
 ·refine m.blk k _ (fun e => ?_) hB
  rw [e, hb] at hB
  cases hB
theorem Pth.xo {sp : Value} {p : List Value} (P : Pth 3 h sp p rt') (X : Xo b 3 kO rt h g) {s : Value} (hb : h.blk kO = some (.cells [s] 68 Option.none)) : Pth 3 g sp p rt' := by
 obtain ⟨k, h1, h2⟩ := P.get
 refine ⟨⟨k, h1, X.keep k _ (fun e => ?_) h2⟩, P.one, P.nil⟩
 rw [e, hb] at h2
 cases h2
theorem Pth.nums {E : Env} {sp : Value} {p : List Nat} (P : Pth 3 h sp (natsV p) rt) : Nums E h sp p := by
 obtain ⟨k, h1, h2⟩ := P.get
 rw [natsV_length] at h1
 exact ⟨_, _, h1, .inr ⟨own k, rfl, blk_cells h2 (natsV_length p) (natsV_one p)⟩⟩
end Go.Hs
