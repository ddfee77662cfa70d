/- Kids that are collected. -/
import Derived.Test.YtofijpbmbmbnhaaDoorHsaf
set_option linter.unusedSimpArgs false
set_option linter.unusedVariables false
namespace Go.Hs
theorem ap3_step {D : Tab} {E : Env} {h : H} {base : Nat} {t t2 e : TypeId} {sz by_ n kx c i6 i7 : Nat} {i8 : Option Value} {i9 : Bool} {s ze : Value} {xs cs : List Value} {ro : Option Nat} (f : Fit h) (hbn : base ≤ h.next) (ap : Ap2 h base e sz s n xs ro)
  (ht : D.ty.get t = some ⟨.slice e sz by_, i6, i7, i8, i9⟩) (hz : tzero D e = some ze) (hzz : (Nat.beq ze.cells.toList.length sz && Nat.blt 0 sz && ze.cells.toList.all isOne) = true) (hzt : zeroArg D t2 (.slice (some (own kx)) 1 c) = some false)
  (hx : h.cells E (own kx) sz = some cs) (hcl : cs.length = sz) (hc1 : cs.all isOne = true) (hrm : roomy (n + 1) by_ = true) :
  ∃ s' h' ro', aappend D E t t2 s (.slice (some (own kx)) 1 c) h = some (s', h') ∧ Ap2 h' base e sz s' (n + 1) (xs ++ cs) ro' ∧ Grew base ro h h' ∧ (ro = none ∧ ro' = some h.next ∨ ro ≠ none ∧ ro' = ro) ∧ s' = .slice (some (own h.next)) (n + 1) (n + 1) ∧ h'.next = h.next + 1 ∧ (∀ j ∈ h'.chain (ro'.getD 0), j = h.next ∨ ∃ ys ty p, h'.dyn.get j = some (.cells ys ty (some (ro'.getD 0, p))) ∧ p + ys.length ≤ n * sz) := by
 have hel : aelems E sz ze.cells.toList (.slice (some (own kx)) 1 c) h = some (1, cs) := by
  simp only [aelems, Nat.one_mul, hx]
 have hbl : Nat.beq cs.length (1 * sz) = true := by rw [Nat.one_mul, hcl]; exact Nat.beq_refl sz
 have hsz : 0 < sz := by
  simp only [Bool.and_eq_true, Nat.blt_eq] at hzz
  exact hzz.1.2
 rcases ap with ⟨rfl, rfl, rfl, rfl⟩ | ⟨k, r, rfl, hb, hl, h1, hbr, hrx, hch, rfl⟩
 ·refine ⟨.slice (some (own h.next)) 1 1, h.newOpen cs e, some h.next, ?_, .inr ⟨h.next, h.next, rfl, ?_, ?_, ?_, hbn, Nat.lt_succ_self _, ?_, rfl⟩, ⟨newOpen_fit f, fun k B hb _ => newOpen_old f hb, rfl, rfl, Nat.le_succ _, fun r hr => ?_⟩, .inl ⟨rfl, rfl⟩, rfl, rfl, fun j hj => .inl (by simpa only [H.chain, H.newOpen, T.get_set_same, Option.getD, List.mem_singleton] using hj)⟩
  ·unfold aappend
   rw [ht]
   simp only [hz, hzt, hzz, hel, hbl, hrm]
  ·exact newOpen_new
  ·rw [List.nil_append]; simp [hcl]
  ·rw [List.nil_append]; exact hc1
  ·intro j hj
   simp only [H.chain, H.newOpen, T.get_set_same, Option.getD, List.mem_singleton] at hj
   subst hj
   exact ⟨cs, e, 0, T.get_set_same _ _ _, by simp [hcl]⟩
  ·simp only [H.chain, H.newOpen]
   rw [T.get_set_ne _ _ _ _ (by omega)]
 ·have hkn := f.lt hb
  have hd := H.blk_dyn hb
  have hrn := f.ok.1 _ _ _ _ _ hd
  have hgr : h.grow e r (0 + (own k).off) (n * sz) (own k).block (xs.drop (own k).off) cs = { h with next := h.next + 1, dyn := h.dyn.set h.next (.cells (xs ++ cs) e (some (r, 0))), chains := h.chains.set r (h.next :: h.spare r k (0 + n * sz) (0 + n * sz + cs.length)) } := by
   unfold H.grow
   simp only [own, Nat.add_zero, List.drop_zero]
   have hgone : h.gone r k (0 + n * sz) (0 + n * sz + cs.length) = [] := by
    rw [List.eq_nil_iff_forall_not_mem]
    intro j hj
    obtain ⟨hj1, hj2⟩ := mem_gone.1 hj
    obtain ⟨ys, ty, p, hd, hle⟩ := hch j hj1
    unfold H.hits at hj2
    split at hj2
    ·cases hj2
    ·rw [hd] at hj2
     simp only [Bool.and_eq_true, Nat.blt_eq] at hj2
     omega
   rw [hgone]
   exact note_nil _
  generalize hg : ({ h with next := h.next + 1, dyn := h.dyn.set h.next (.cells (xs ++ cs) e (some (r, 0))), chains := h.chains.set r (h.next :: h.spare r k (0 + n * sz) (0 + n * sz + cs.length)) } : H) = g at hgr
  have hcr : g.chain r = h.next :: h.spare r k (0 + n * sz) (0 + n * sz + cs.length) := by
   rw [← hg]; simp only [H.chain, T.get_set_same, Option.getD]
  have hcn : ∀ r', r' ≠ r → g.chain r' = h.chain r' := by
   intro r' hr'
   rw [← hg]; simp only [H.chain]; rw [T.get_set_ne _ _ _ _ hr']
  have hgn : g.next = h.next + 1 := by rw [← hg]
  have hnew : g.blk h.next = some (.cells (xs ++ cs) e (some (r, 0))) := by
   have hdd : g.dyn.get h.next = some (.cells (xs ++ cs) e (some (r, 0))) := by rw [← hg]; exact T.get_set_same _ _ _
   unfold H.blk
   rw [hdd]
   simp only [hcr, List.contains_cons, beq_self_eq_true, Bool.true_or]
  have hold : ∀ j, j ≠ h.next → g.dyn.get j = h.dyn.get j := by
   intro j hj
   rw [← hg]; exact T.get_set_ne _ _ _ _ hj
  refine ⟨.slice (some (own h.next)) (n + 1) (n + 1), g, some r, ?_, .inr ⟨h.next, r, rfl, hnew, ?_, ?_, hbr, by rw [hgn]; omega, ?_, rfl⟩, ⟨⟨fun j hj => ?_, fun j ys ty r' p hd' => ?_, ?_⟩, ?_, ?_, ?_, ?_, ?_⟩, .inr ⟨by simp, rfl⟩, rfl, hgn, fun j hj => ?_⟩
  ·unfold aappend
   rw [ht]
   simp only [hz, hzt, hzz, hel, hbl, hrm]
   have e1 : (own k).spot = some 0 := rfl
   have e2 : (own k).block = k := rfl
   have e3 : (own k).off = 0 := rfl
   have e4 : Nat.ble (n + 1) n = false := by
    cases hq : Nat.ble (n + 1) n
    ·rfl
    ·rw [Nat.ble_eq] at hq; omega
   simp only [e1, e2, hb, e4]
   have e5 : (Nat.beq n n && Nat.beq ((own k).off + n * sz) xs.length && Nat.beq e e && (xs.drop (own k).off).all isOne && Nat.ble (own k).off xs.length) = true := by
    rw [e3, Nat.zero_add, hl, List.drop_zero, h1, Nat.beq_refl, Nat.beq_refl, Nat.beq_refl]
    simp [Nat.ble]
   simp only [e5]
   rw [← hgr]; rfl
  ·rw [List.length_append, hl, hcl]; rw [Nat.add_mul, Nat.one_mul]
  ·rw [List.all_append, h1, hc1]; rfl
  ·intro j hj
   rw [hcr] at hj
   rcases List.mem_cons.1 hj with rfl | hj
   ·exact ⟨xs ++ cs, e, 0, H.blk_dyn hnew, by rw [List.length_append, hl, hcl, Nat.add_mul, Nat.one_mul]; omega⟩
   ·obtain ⟨ys, ty, p, hd, hle⟩ := hch j (mem_spare.1 hj).1
    have hjn : j ≠ h.next := by
     intro e
     subst e
     rw [f.free _ (Nat.le_refl _)] at hd; cases hd
    refine ⟨ys, ty, p, by rw [hold j hjn]; exact hd, ?_⟩
    rw [Nat.add_mul]; omega
  ·rw [hgn] at hj
   rw [hold j (by omega)]; exact f.free j (by omega)
  ·rw [hgn]
   by_cases hj : j = h.next
   ·subst hj
    have := H.blk_dyn hnew
    rw [this] at hd'; cases hd'; omega
   ·rw [hold j hj] at hd'
    have := f.ok.1 _ _ _ _ _ hd'; omega
  ·rw [hgn]
   have := f.ok.2
   rw [← hg]; exact Nat.le_succ_of_le this
  ·intro j B hbj hro
   have hjn := f.lt hbj
   rw [← hbj]
   refine blk_congr (hold j (by omega)) (fun ys u r' q hd' => ?_)
   have : B = .cells ys u (some (r', q)) := by
    have := H.blk_dyn hbj
    rw [hd'] at this; cases this; rfl
   have hne := hro _ _ _ _ this
   rw [hcn r' (fun h => hne (by rw [h]))]
  ·rw [← hg]
  ·rw [← hg]
  ·rw [hgn]; omega
  ·intro r' hr'
   exact hcn r' (by omega)
  ·simp only [Option.getD] at hj ⊢
   rw [hcr] at hj
   rcases List.mem_cons.1 hj with rfl | hj
   ·exact .inl rfl
   ·obtain ⟨ys, ty, p, hd, hle⟩ := hch j (mem_spare.1 hj).1
    have hjn : j ≠ h.next := by
     intro e
     subst e
     rw [f.free _ (Nat.le_refl _)] at hd; cases hd
    exact .inr ⟨ys, ty, p, by rw [hold j hjn]; exact hd, hle⟩
theorem put_chain {g : H} {k r0 o : Nat} {vs xs : List Value} {e : TypeId} (f : Fit g) (hb : g.blk k = some (.cells xs e (some (r0, 0)))) (hch : ∀ j ∈ g.chain r0, j = k ∨ ∃ ys ty p, g.dyn.get j = some (.cells ys ty (some (r0, p))) ∧ p + ys.length ≤ o) (hv : vs ≠ []) (hl : o + vs.length ≤ xs.length) (h1 : vs.all isOne = true) :
  ∃ q, (fresh g).put (aadd (own k) o) vs = some q ∧ q.log = [k] ∧ q.next = g.next ∧ Fit (back g q) ∧ (back g q).blk k = some (.cells (xs.take o ++ vs ++ xs.drop (o + vs.length)) e (some (r0, 0))) ∧ (∀ j, j ≠ k → (back g q).blk j = g.blk j) ∧ (∀ r, (back g q).chain r = g.chain r) ∧ (g.mark ≤ k → (back g q).log = g.log) := by
 have hkn := f.lt hb
 have hkc : (g.chain r0).contains k = true := by
  have hd := H.blk_dyn hb
  unfold H.blk at hb
  rw [hd] at hb
  simp only at hb
  split at hb
  ·assumption
  ·cases hb
 have hnh : ∀ j ∈ g.chain r0, g.hits k (0 + o) (0 + o + vs.length) j = false := by
  intro j hj
  rcases hch j hj with rfl | ⟨ys, ty, p, hd, hle⟩
  ·unfold H.hits
   rw [Nat.beq_refl]
  ·unfold H.hits
   split
   ·rfl
   ·rw [hd]
    simp only
    have : Nat.blt (0 + o) (p + ys.length) = false := by
     cases q : Nat.blt (0 + o) (p + ys.length)
     ·rfl
     ·rw [Nat.blt_eq] at q; omega
    rw [this]; rfl
 have hsp : g.spare r0 k (0 + o) (0 + o + vs.length) = g.chain r0 := by
  unfold H.spare
  rw [List.filter_eq_self]
  intro j hj
  rw [hnh j hj]; rfl
 have hgn : g.gone r0 k (0 + o) (0 + o + vs.length) = [] := by
  unfold H.gone
  rw [List.filter_eq_nil_iff]
  intro j hj
  rw [hnh j hj]; simp
 have hput : (fresh g).put (aadd (own k) o) vs = some (({ fresh g with dyn := g.dyn.set k (.cells (xs.take o ++ vs ++ xs.drop (o + vs.length)) e (some (r0, 0))), chains := g.chains.set r0 (g.chain r0) } : H).note [k]) := by
  have hb' : (fresh g).blk k = some (.cells xs e (some (r0, 0))) := hb
  have hsp' : (fresh g).spare r0 k (0 + o) (0 + o + vs.length) = g.chain r0 := hsp
  have hgn' : (fresh g).gone r0 k (0 + o) (0 + o + vs.length) = [] := hgn
  unfold H.put
  cases vs with
  | nil => exact absurd rfl hv
  | cons v vs =>
   simp only [aadd, own, Nat.zero_add, hb'] at hsp' hgn' ⊢
   rw [h1, show Nat.ble (o + (v :: vs).length) xs.length = true from by rw [Nat.ble_eq]; exact hl]
   simp only [Bool.and_self, hsp', hgn']
   rfl
 obtain ⟨m, hm1, hm2⟩ : ∃ m, g.next = m + 1 ∧ k ≤ m := by cases hn : g.next with | zero => omega | succ m => exact ⟨m, rfl, by omega⟩
 have hble : Nat.ble k m = true := by rw [Nat.ble_eq]; exact hm2
 generalize hB : (Blk.cells (xs.take o ++ vs ++ xs.drop (o + vs.length)) e (some (r0, 0))) = B at hput
 have hq : (({ fresh g with dyn := g.dyn.set k B, chains := g.chains.set r0 (g.chain r0) } : H).note [k]) = { g with dyn := g.dyn.set k B, chains := g.chains.set r0 (g.chain r0), mark := g.next, log := [k] } := by
  unfold H.note
  have : ({ fresh g with dyn := g.dyn.set k B, chains := g.chains.set r0 (g.chain r0) } : H).mark = m + 1 := hm1
  rw [this]
  simp only [List.filter_cons, hble, if_true, List.filter_nil]
  rw [← hm1]
  rfl
 rw [hq] at hput
 generalize hqq : ({ g with dyn := g.dyn.set k B, chains := g.chains.set r0 (g.chain r0), mark := g.next, log := [k] } : H) = q at hput
 have hqn : q.next = g.next := by rw [← hqq]
 have hql : q.log = [k] := by rw [← hqq]
 have hqd : q.dyn = g.dyn.set k B := by rw [← hqq]
 have hqc : ∀ r, q.chain r = g.chain r := by
  intro r
  rw [← hqq]
  simp only [H.chain, T.get_set]
  split
  ·next h => subst h; rfl
  ·rfl
 have hfq : Fit q := by
  refine ⟨fun j hj => ?_, ⟨fun j ys ty r p hd => ?_, ?_⟩⟩
  ·rw [hqn] at hj
   rw [hqd, T.get_set_ne _ _ _ _ (by omega)]; exact f.free j hj
  ·rw [hqn]
   rw [hqd] at hd
   by_cases hj : j = k
   ·subst hj
    rw [T.get_set_same, ← hB] at hd
    cases hd; exact f.ok.1 _ _ _ _ _ (H.blk_dyn hb)
   ·rw [T.get_set_ne _ _ _ _ hj] at hd
    exact f.ok.1 _ _ _ _ _ hd
  ·rw [← hqq]; exact Nat.le_refl _
 refine ⟨q, hput, hql, hqn, back_fit f hfq (by rw [hqn]; exact Nat.le_refl _), ?_, fun j hj => ?_, fun r => by rw [back_chain]; exact hqc r, fun hm => ?_⟩
 ·rw [back_blk]
  have hdd : q.dyn.get k = some B := by rw [hqd]; exact T.get_set_same _ _ _
  unfold H.blk
  rw [hdd, ← hB]
  simp only [hqc]
  rw [hkc]
 ·rw [back_blk]
  refine blk_congr (by rw [hqd, T.get_set_ne _ _ _ _ hj]) (fun _ _ r _ _ => by rw [hqc])
 ·unfold back
  rw [note_above]
  intro j hj
  rw [hql] at hj
  obtain rfl := List.mem_singleton.1 hj
  exact hm
theorem Mod.grew {M : Nat → Prop} {h g q : H} {base : Nat} {ro : Option Nat} (f : Fit h) (m : Mod M h g) (hb : h.next ≤ base) (hro : ∀ r, ro = some r → base ≤ r) (t : Grew base ro g q) : Mod M h q :=
 ⟨t.fit, fun k B hk hB => t.keep k B (m.blk k B hk hB) (fun xs ty r p he hr => by
  subst he
  have h1 := f.ok.1 _ _ _ _ _ (H.blk_dyn hB)
  have := hro r hr
  omega), t.mark.trans m.mark, Nat.le_trans m.next t.next, fun r hr => (t.chain r (by omega)).trans (m.chain r hr), fun j hj => by rw [t.log] at hj; exact m.log j hj⟩
section
variable {D : Tab} {E : Env} {ti : TypeId}
def Kol (E : Env) (ti : TypeId) (base top : Nat) (g : H) (sl : Value) (ks : List Item) : Prop :=
 ∃ xs ro, Ap2 g base ti 4 sl ks.length xs ro ∧ repL E (only (fun r => Nat.ble base r && !(ro == some r)) g) ks xs ∧ ∀ r, ro = some r → base ≤ r ∧ r < top
theorem Kol.nil (base top : Nat) (g : H) : Kol E ti base top g (.slice none 0 0) [] := ⟨[], none, .inl ⟨rfl, rfl, rfl, rfl⟩, by rw [repL], fun _ h => by cases h⟩
theorem Kol.mod {M : Nat → Prop} {base top : Nat} {g g' : H} {sl : Value} {ks : List Item} (K : Kol E ti base top g sl ks) (f : Fit g) (m : Mod M g g') (hp : ∀ k B, M k → g.blk k = some B → B.plain = true) : Kol E ti base top g' sl ks := by
 obtain ⟨xs, ro, h1, h2, h3⟩ := K
 exact ⟨xs, ro, h1.mod m hp, repL_grow (only_mod f m hp (fun r h => h)) h2, h3⟩
theorem Kol.slice {base top : Nat} {g : H} {sl : Value} {ks : List Item} (K : Kol E ti base top g sl ks) : ∃ b, sl = .slice b ks.length ks.length := by
 obtain ⟨xs, ro, h1, _⟩ := K
 rcases h1 with ⟨e, _, rfl, _⟩ | ⟨k, r, rfl, _⟩
 ·exact ⟨none, by rw [e]⟩
 ·exact ⟨_, rfl⟩
theorem Kol.up {base top top' : Nat} {g : H} {sl : Value} {ks : List Item} (K : Kol E ti base top g sl ks) (h : top ≤ top') : Kol E ti base top' g sl ks := by
 obtain ⟨xs, ro, h1, h2, h3⟩ := K
 exact ⟨xs, ro, h1, h2, fun r hr => ⟨(h3 r hr).1, Nat.lt_of_lt_of_le (h3 r hr).2 h⟩⟩
theorem Kol.rep {base top : Nat} {g : H} {sl : Value} {ks : List Item} (K : Kol E ti base top g sl ks) (f : Fit g) (hz : ks.length < 1000000000) (k m : Int) (tx : ByteArray) {lo : Nat} (hlo : lo ≤ base) : Hs.rep E (only (fun r => Nat.ble lo r) g) (.mk k m tx ks) (.agg ⟨[.int .i64 k, .int .i64 m, .string tx, sl]⟩) := by
 obtain ⟨xs, ro, h1, h2, h3⟩ := K
 rw [Hs.rep]
 refine ⟨sl, rfl, ?_⟩
 rcases h1 with ⟨e1, _, e2, _⟩ | ⟨kk, r, q1, q2, q3, q4, q5, q6, q7, q8⟩
 ·exact .inl ⟨List.length_eq_zero_iff.1 e1, e2⟩
 ·refine .inr ⟨own kk, ks.length, xs, q1, ⟨Nat.le_refl _, by omega⟩, ?_, ?_⟩
  ·exact blk_cells ((only_blk f).2 ⟨q2, _, _, _, _, rfl, by rw [Nat.ble_eq]; omega⟩) q3 q4
  ·refine repL_grow (only_sub f (fun r hh => ?_)) h2
   simp only [Bool.and_eq_true, Nat.ble_eq] at hh
   rw [Nat.ble_eq]; omega
def Aps (base : Nat) (g q : H) : Prop := ∃ ro, (∀ r, ro = some r → base ≤ r) ∧ Grew base ro g q
theorem Aps.fit {base : Nat} {g q : H} (a : Aps base g q) : Fit q := by obtain ⟨_, _, t⟩ := a; exact t.fit
theorem Aps.log {base : Nat} {g q : H} (a : Aps base g q) : q.log = g.log := by obtain ⟨_, _, t⟩ := a; exact t.log
theorem Aps.next {base : Nat} {g q : H} (a : Aps base g q) : g.next ≤ q.next := by obtain ⟨_, _, t⟩ := a; exact t.next
theorem Aps.keep {base : Nat} {g q : H} (a : Aps base g q) {k : Nat} {xs : List Value} {ty : TypeId} (hk : g.blk k = some (.cells xs ty none)) : q.blk k = some (.cells xs ty none) := by
 obtain ⟨_, _, t⟩ := a
 exact t.keep k _ hk (fun _ _ _ _ he => by cases he)
theorem Aps.mod {base : Nat} {g q : H} (a : Aps base g q) {M : Nat → Prop} {h : H} (f : Fit h) (hb : h.next ≤ base) (m : Mod M h g) : Mod M h q := by
 obtain ⟨_, hr, t⟩ := a
 exact m.grew f hb hr t
theorem Aps.back {base : Nat} {g q : H} (f : Fit g) (a : Aps base (fresh g) q) : Aps base g (Hs.back g q) := by
 obtain ⟨ro, hr, t⟩ := a
 have hl : q.log = [] := t.log
 exact ⟨ro, hr, back_fit f t.fit t.next, fun k B hB hro => by rw [back_blk]; exact t.keep k B hB hro, back_log hl, back_mark _ _, by rw [back_next]; exact t.next, fun r hr => by rw [back_chain]; exact t.chain r hr⟩
theorem Kol.fresh {base top : Nat} {g : H} {sl : Value} {ks : List Item} (K : Kol E ti base top g sl ks) : Kol E ti base top (Hs.fresh g) sl ks := by
 obtain ⟨xs, ro, h1, h2, h3⟩ := K
 exact ⟨xs, ro, h1, repL_grow (show Grows (only _ g) (only _ (Hs.fresh g)) from fun _ _ h => h) h2, h3⟩
theorem rep_fresh {p : Nat → Bool} {g : H} {t : Item} {v : Value} (h : Hs.rep E (only p g) t v) : Hs.rep E (only p (Hs.fresh g)) t v := rep_grow (show Grows (only p g) (only p (Hs.fresh g)) from fun _ _ h => h) h
theorem meets_two {s t : Tch} {a b : Nat} (h1 : s.writes = [a]) (h2 : t.writes = [b]) (hne : a ≠ b) (r1 : s.reads = some []) (r2 : t.reads = some []) (ht : t.rooted = false) (hb : b < s.lo) : meets s t = true := by
 unfold meets
 rw [h1, h2, r1, r2, ht]
 have e1 : Nat.beq a b = false := by
  cases q : Nat.beq a b
  ·rfl
  ·exact absurd (Nat.eq_of_beq_eq_true q) hne
 have e2 : Nat.blt b s.lo = true := by rw [Nat.blt_eq]; exact hb
 simp [apart?, e1, e2]
theorem kol_step {t t2 by_ kx c i6 i7 : Nat} {i8 : Option Value} {i9 : Bool} {ze : Value} {base top lo : Nat} {g : H} {sl : Value} {ks : List Item} {x : Item} {va vb vc vd : Value} (f : Fit g) (hbn : base ≤ g.next) (K : Kol E ti base top g sl ks) (htop : top ≤ lo) (hblo : base ≤ lo)
  (ht : D.ty.get t = some ⟨.slice ti 4 by_, i6, i7, i8, i9⟩) (hz : tzero D ti = some ze) (hzz : (Nat.beq ze.cells.toList.length 4 && Nat.blt 0 4 && ze.cells.toList.all isOne) = true) (hzt : zeroArg D t2 (.slice (some (own kx)) 1 c) = some false)
  (hr : Hs.rep E (only (fun r => Nat.ble lo r) g) x (.agg ⟨[va, vb, vc, vd]⟩)) (hx : g.cells E (own kx) 4 = some [va, vb, vc, vd]) (hone : [va, vb, vc, vd].all isOne = true) (hrm : roomy (ks.length + 1) by_ = true) :
  ∃ sl' q, aappend D E t t2 sl (.slice (some (own kx)) 1 c) g = some (sl', q) ∧ Kol E ti base q.next q sl' (ks ++ [x]) ∧ Aps base g q ∧ q.next = g.next + 1 := by
 obtain ⟨xs, ro, h1, h2, h3⟩ := K
 obtain ⟨s', q, ro', happ, ap4, gw, hroo, hs', hqn, _⟩ := ap3_step f hbn h1 ht hz hzz hzt hx rfl hone hrm
 have hro' : ∀ r, r < g.next → (ro == some r) = false → (ro' == some r) = false := by
  intro r a b
  rcases hroo with ⟨e1, e2⟩ | ⟨e1, e2⟩
  ·rw [e2]
   have : g.next ≠ r := by omega
   simpa using this
  ·rw [e2]; exact b
 have grow4 : ∀ (p : Nat → Bool), (∀ r, p r = true → Nat.ble base r = true ∧ (ro == some r) = false) → Grows (only p g) (only (fun r => Nat.ble base r && !(ro' == some r)) q) := by
  intro p hp kx B hb
  obtain ⟨e1, ys, ty, r, o, rfl, e2⟩ := (only_blk f).1 hb
  have hrl := f.ok.1 _ _ _ _ _ (H.blk_dyn e1)
  obtain ⟨e3, e4⟩ := hp r e2
  refine (only_blk gw.fit).2 ⟨gw.keep kx (.cells ys ty (some (r, o))) e1 ?_, ys, ty, r, o, rfl, ?_⟩
  ·rintro _ _ _ _ he hr
   cases he
   rw [hr] at e4; simp at e4
  ·simp only [Bool.and_eq_true, Bool.not_eq_true']
   exact ⟨e3, hro' r hrl e4⟩
 refine ⟨s', q, happ, ⟨xs ++ [va, vb, vc, vd], ro', by rw [List.length_append]; exact ap4, ?_, fun r hr => ?_⟩, ⟨ro, fun r hr => (h3 r hr).1, gw⟩, hqn⟩
 ·refine repL_append (repL_grow (grow4 _ (fun r hr => by simpa using hr)) h2) (rep_grow (grow4 _ (fun r hr => ?_)) hr)
  rw [Nat.ble_eq] at hr
  refine ⟨by rw [Nat.ble_eq]; omega, ?_⟩
  cases hh : ro with
  | none => rfl
  | some r0 =>
   have := (h3 r0 hh).2
   have hne : r0 ≠ r := by omega
   simpa using hne
 ·rcases hroo with ⟨e1, e2⟩ | ⟨e1, e2⟩
  ·rw [e2] at hr; cases hr; exact ⟨hbn, by omega⟩
  ·rw [e2] at hr
   rcases h1 with ⟨_, _, _, e3⟩ | ⟨_, rr, _, _, _, _, e5, e6, _, e8⟩
   ·exact absurd e3 e1
   ·rw [e8] at hr; cases hr; exact ⟨e5, by omega⟩
def Room (E : Env) (ti : TypeId) (base lo nx : Nat) (g : H) (sl : Value) (ks : List Item) : Prop :=
 ∃ k r xs zs, sl = .slice (some (own k)) (ks.length + 1) (ks.length + 1) ∧ g.blk k = some (.cells (xs ++ zs) ti (some (r, 0))) ∧ xs.length = ks.length * 4 ∧ zs.length = 4 ∧ xs.all isOne = true ∧ base ≤ r ∧ r < g.next ∧ base ≤ k ∧ (∀ j ∈ g.chain r, j = k ∨ ∃ ys ty p, g.dyn.get j = some (.cells ys ty (some (r, p))) ∧ p + ys.length ≤ ks.length * 4) ∧ repL E (only (fun r' => Nat.ble base r' && !(some r == some r')) g) ks xs ∧ ∀ r', lo ≤ r' → r' < nx → r' ≠ r
theorem kol_room {t t2 by_ kx c i6 i7 : Nat} {i8 : Option Value} {i9 : Bool} {ze : Value} {base top lo : Nat} {g : H} {sl : Value} {ks : List Item} {zs : List Value} (f : Fit g) (hbn : base ≤ g.next) (K : Kol E ti base top g sl ks) (htop : top ≤ lo)
  (ht : D.ty.get t = some ⟨.slice ti 4 by_, i6, i7, i8, i9⟩) (hz : tzero D ti = some ze) (hzz : (Nat.beq ze.cells.toList.length 4 && Nat.blt 0 4 && ze.cells.toList.all isOne) = true) (hzt : zeroArg D t2 (.slice (some (own kx)) 1 c) = some false)
  (hx : g.cells E (own kx) 4 = some zs) (hlen : zs.length = 4) (hone : zs.all isOne = true) (hrm : roomy (ks.length + 1) by_ = true) :
  ∃ sl' q, aappend D E t t2 sl (.slice (some (own kx)) 1 c) g = some (sl', q) ∧ Room E ti base lo g.next q sl' ks ∧ Aps base g q ∧ q.next = g.next + 1 ∧ sl' = .slice (some (own g.next)) (ks.length + 1) (ks.length + 1) ∧ ∀ x v, Hs.rep E (only (fun r => Nat.ble lo r) g) x v → Hs.rep E (only (fun r => Nat.ble lo r && Nat.blt r g.next) q) x v := by
 obtain ⟨xs, ro, h1, h2, h3⟩ := K
 obtain ⟨s', q, ro', happ, ap4, gw, hroo, hs', hqn, hch⟩ := ap3_step f hbn h1 ht hz hzz hzt hx hlen hone hrm
 have hxl : xs.length = ks.length * 4 ∧ xs.all isOne = true := by
  rcases h1 with ⟨e1, e2, _⟩ | ⟨_, _, _, _, e3, e4, _⟩
  ·rw [e1, e2]; exact ⟨rfl, rfl⟩
  ·exact ⟨e3, e4⟩
 have hro' : ∀ r, r < g.next → (ro == some r) = false → (ro' == some r) = false := by
  intro r a b
  rcases hroo with ⟨e1, e2⟩ | ⟨e1, e2⟩
  ·rw [e2]
   have : g.next ≠ r := by omega
   simpa using this
  ·rw [e2]; exact b
 have grow4 : Grows (only (fun r => Nat.ble base r && !(ro == some r)) g) (only (fun r => Nat.ble base r && !(ro' == some r)) q) := by
  intro kx B hb
  obtain ⟨e1, ys, ty, r, o, rfl, e2⟩ := (only_blk f).1 hb
  have hrl := f.ok.1 _ _ _ _ _ (H.blk_dyn e1)
  simp only [Bool.and_eq_true, Bool.not_eq_true'] at e2
  obtain ⟨e3, e4⟩ := e2
  refine (only_blk gw.fit).2 ⟨gw.keep kx (.cells ys ty (some (r, o))) e1 ?_, ys, ty, r, o, rfl, ?_⟩
  ·rintro _ _ _ _ he hr
   cases he
   rw [hr] at e4; simp at e4
  ·simp only [Bool.and_eq_true, Bool.not_eq_true']
   exact ⟨e3, hro' r hrl e4⟩
 subst hs'
 rcases ap4 with ⟨e1, _⟩ | ⟨kk, r, q1, q2, q3, q4, q5, q6, q7, q8⟩
 ·omega
 have hkk : kk = g.next := by
  simp only [Value.slice.injEq, Option.some.injEq, own, Addr.mk.injEq] at q1
  exact q1.1.1.symm
 subst hkk
 subst q8
 refine ⟨_, q, happ, ⟨g.next, r, xs, zs, rfl, q2, hxl.1, hlen, hxl.2, q5, q6, hbn, hch, repL_grow grow4 h2, fun r' a b e => ?_⟩, ⟨ro, fun r hr => (h3 r hr).1, gw⟩, hqn, rfl, fun x v hr => rep_grow (fun j B hj => ?_) hr⟩
 ·subst e
  rcases hroo with ⟨_, e2⟩ | ⟨_, e2⟩
  ·cases e2; omega
  ·have := (h3 _ e2.symm).2
   omega
 ·obtain ⟨e1, ys, ty, r', o, rfl, e2⟩ := (only_blk f).1 hj
  have hrl := f.ok.1 _ _ _ _ _ (H.blk_dyn e1)
  rw [Nat.ble_eq] at e2
  refine (only_blk gw.fit).2 ⟨gw.keep j _ e1 (fun _ _ _ _ he hr => ?_), ys, ty, r', o, rfl, by rw [Bool.and_eq_true, Nat.ble_eq, Nat.blt_eq]; exact ⟨e2, hrl⟩⟩
  cases he
  have := (h3 _ hr).2
  omega
theorem Room.back {base lo nx : Nat} {g q : H} {sl : Value} {ks : List Item} (R : Room E ti base lo nx q sl ks) (f : Fit g) (fq : Fit q) (hn : g.next ≤ q.next) : Room E ti base lo nx (Hs.back g q) sl ks := by
 obtain ⟨k, r, xs, zs, e1, hb, hxl, hzl, hx1, hbr, hrn, hbk, hch, hrp, hne⟩ := R
 exact ⟨k, r, xs, zs, e1, by rw [back_blk]; exact hb, hxl, hzl, hx1, hbr, by rw [back_next]; exact hrn, hbk, fun j hj => by
  rw [back_chain] at hj
  rw [back_dyn]; exact hch j hj, repL_grow (back_only f fq hn _) hrp, hne⟩
theorem kol_fill {base lo nx : Nat} {g : H} {sl : Value} {ks : List Item} {x : Item} {va vb vc vd : Value} (f : Fit g) (R : Room E ti base lo nx g sl ks) (hblo : base ≤ lo) (hr : Hs.rep E (only (fun r => Nat.ble lo r && Nat.blt r nx) g) x (.agg ⟨[va, vb, vc, vd]⟩)) (hone : [va, vb, vc, vd].all isOne = true) :
  ∃ k q, sl = .slice (some (own k)) (ks.length + 1) (ks.length + 1) ∧ (fresh g).put (aadd (own k) (ks.length * 4)) [va, vb, vc, vd] = some q ∧ q.log = [k] ∧ q.next = g.next ∧ base ≤ k ∧ k < g.next ∧ Kol E ti base g.next (back g q) sl (ks ++ [x]) ∧ Fit (back g q) ∧ (∀ j, j ≠ k → (back g q).blk j = g.blk j) ∧ ∀ M h, Fit h → h.next ≤ base → Mod M h g → Mod M h (back g q) := by
 obtain ⟨k, r, xs, zs, rfl, hb, hxl, hzl, hx1, hbr, hrn, hbk, hch, hrp, hne⟩ := R
 have hkn := f.lt hb
 obtain ⟨q, hput, hql, hqn, hqf, hqb, hqo, hqc, hqlog⟩ := put_chain (o := ks.length * 4) (vs := [va, vb, vc, vd]) f hb hch (by simp) (by rw [List.length_append, hxl, hzl]; exact Nat.le_refl _) hone
 have hys : (xs ++ zs).take (ks.length * 4) ++ [va, vb, vc, vd] ++ (xs ++ zs).drop (ks.length * 4 + [va, vb, vc, vd].length) = xs ++ [va, vb, vc, vd] := by
  rw [← hxl, List.take_left, List.drop_of_length_le (by rw [List.length_append, hzl]; exact Nat.le_refl _), List.append_nil]
 rw [hys] at hqb
 have hyl : (xs ++ [va, vb, vc, vd]).length = (ks.length + 1) * 4 := by
  rw [List.length_append, hxl, Nat.add_mul]; rfl
 have hdyn : ∀ j, j ≠ k → (back g q).dyn.get j = g.dyn.get j := by
  intro j hj
  rw [back_dyn]
  unfold H.put at hput
  simp only [aadd, own, Nat.zero_add] at hput
  rw [show (fresh g).blk k = some (.cells (xs ++ zs) ti (some (r, 0))) from hb] at hput
  simp only at hput
  split at hput
  ·cases hput
   rw [H.note_dyn]
   exact T.get_set_ne _ _ _ _ hj
  ·cases hput
 have grow : ∀ (p p' : Nat → Bool), (∀ r', p r' = true → p' r' = true) → (∀ j B, (only p g).blk j = some B → ∃ ys ty r' o, B = .cells ys ty (some (r', o)) ∧ r' ≠ r) → Grows (only p g) (only p' (back g q)) := by
  intro p p' hp hne j B hj
  obtain ⟨ys, ty, r', o, rfl, hrr⟩ := hne j B hj
  obtain ⟨e1, _, _, _, _, he, e2⟩ := (only_blk f).1 hj
  cases he
  refine (only_blk hqf).2 ⟨?_, ys, ty, r', o, rfl, hp _ e2⟩
  rw [hqo j ?_]
  ·exact e1
  ·intro e
   subst e
   rw [hb] at e1
   cases e1
   exact hrr rfl
 have gsub : ∀ j B, (only (fun r' => Nat.ble base r' && !(some r == some r')) g).blk j = some B → ∃ ys ty r' o, B = .cells ys ty (some (r', o)) ∧ r' ≠ r := by
  intro j B hj
  obtain ⟨_, ys, ty, r', o, rfl, e2⟩ := (only_blk f).1 hj
  refine ⟨ys, ty, r', o, rfl, fun e => ?_⟩
  subst e
  simp at e2
 refine ⟨k, q, rfl, hput, hql, hqn, hbk, hkn, ⟨xs ++ [va, vb, vc, vd], some r, ?_, ?_, fun r' hr' => by cases hr'; exact ⟨hbr, hrn⟩⟩, hqf, hqo, fun M h fh hhb m => ?_⟩
 ·rw [List.length_append]
  refine .inr ⟨k, r, rfl, hqb, hyl, by rw [List.all_append, hx1, hone]; rfl, hbr, by rw [back_next, hqn]; exact hrn, fun j hj => ?_, rfl⟩
  rw [hqc] at hj
  by_cases hjk : j = k
  ·subst hjk
   exact ⟨_, ti, 0, H.blk_dyn hqb, by rw [Nat.zero_add, hyl]; exact Nat.le_refl _⟩
  ·rcases hch j hj with h | ⟨ys, ty, p, hd, hle⟩
   ·exact absurd h hjk
   ·refine ⟨ys, ty, p, by rw [hdyn j hjk]; exact hd, ?_⟩
    simp only [List.length_singleton]
    omega
 ·refine repL_append (repL_grow (grow _ _ (fun r' h => h) gsub) hrp) (rep_grow ?_ hr)
  intro j B hj
  obtain ⟨e1, ys, ty, r', o, rfl, e2⟩ := (only_blk f).1 hj
  have hrr : r' ≠ r := by
   rw [Bool.and_eq_true, Nat.ble_eq, Nat.blt_eq] at e2
   exact hne r' e2.1 e2.2
  refine (only_blk hqf).2 ⟨?_, ys, ty, r', o, rfl, ?_⟩
  ·rw [hqo j ?_]
   ·exact e1
   ·intro e
    subst e
    rw [hb] at e1
    cases e1
    exact hrr rfl
  ·simp only [Bool.and_eq_true, Nat.ble_eq, Nat.blt_eq, Bool.not_eq_true'] at e2 ⊢
   refine ⟨by omega, ?_⟩
   have : r ≠ r' := fun e => hrr e.symm
   simpa using this
 ·refine ⟨hqf, fun j B hj hB => ?_, (back_mark _ _).trans m.mark, by rw [back_next, hqn]; exact m.next, fun r' hr' => (hqc r').trans (m.chain r' hr'), fun j hj => ?_⟩
  ·by_cases hjk : j = k
   ·subst hjk
    have h1 := m.blk _ _ hj hB
    rw [hb] at h1
    cases h1
    have := fh.ok.1 _ _ _ _ _ (H.blk_dyn hB)
    omega
   ·rw [hqo j hjk]; exact m.blk _ _ hj hB
  ·rw [hqlog (by rw [m.mark]; have := fh.ok.2; omega)] at hj
   exact m.log j hj
theorem FQ.pureJ {v : Ev} {ops : Array Oper} {j : Nat} {o : Oper} {rest : List Oper} {A : Ac} {h : H} {x : Value} {Q : Ac → H → List Tch → Prop} (hg : o.guard = none) (ho : oper1 D E v A o (fresh h) = some (x, fresh h))
  (r : FQ D E v ops (j + 1) rest (A.put o.dst x) h (fun A' h' ts => Q A' h' (⟨reads D A o, [], h.next, h.next, rootedStore A h o.op⟩ :: ts))) : FQ D E v ops j (o :: rest) A h Q := by
 obtain ⟨A', h', ts, h2, hq⟩ := r
 refine ⟨A', h', _, ?_, hq⟩
 have ho' : oper1 D E v A o { h with mark := h.next, log := [] } = some (x, fresh h) := ho
 have hn : Nat.beq (fresh h).next h.next = true := Nat.beq_refl _
 simp only [runFree, awant_none hg, ho', hn, Bool.or_true, Bool.true_or]
 have h2' : runFree D E v ops (j + 1) rest (A.put o.dst x) ({ (fresh h) with mark := h.mark, log := h.log }.note (fresh h).log) = some (A', h', ts) := by
  have e : ({ (fresh h) with mark := h.mark, log := h.log } : H).note (fresh h).log = h := back_fresh h
  rw [e]; exact h2
 rw [h2']
 rfl
end
end Go.Hs
/- Bytes in memory; operations of drawn regions that are left out. -/
namespace Go.Hs
section
variable {D : Tab} {E : Env}
def Byt (E : Env) (h : H) (v : Value) (bs : List UInt8) : Prop := (v = .slice none 0 0 ∧ bs = []) ∨ ∃ a c, v = .slice (some a) bs.length c ∧ bs.length ≤ c ∧ h.cells E a bs.length = some (bytesV bs)
theorem Byt.grow {h g : H} {v : Value} {bs : List UInt8} (b : Byt E h v bs) (hg : Grows h g) : Byt E g v bs := by
 rcases b with b | ⟨a, c, h1, h2, h3⟩
 ·exact .inl b
 ·exact .inr ⟨a, c, h1, h2, cells_grow hg h3⟩
theorem Byt.slice {h : H} {v : Value} {bs : List UInt8} (b : Byt E h v bs) : ∃ a c, v = .slice a bs.length c := by
 rcases b with ⟨rfl, rfl⟩ | ⟨a, c, h1, _, _⟩
 ·exact ⟨none, 0, rfl⟩
 ·exact ⟨some a, c, h1⟩
theorem bytesV_length (bs : List UInt8) : (bytesV bs).length = bs.length := by simp [bytesV]
theorem bytesV_one (bs : List UInt8) : (bytesV bs).all isOne = true := by
 rw [List.all_eq_true]
 intro v hv
 simp only [bytesV, List.mem_map] at hv
 obtain ⟨b, _, rfl⟩ := hv
 rfl
theorem allBytes_bytesV : ∀ bs : List UInt8, allBytes (bytesV bs) = some bs
 | [] => rfl
 | b :: bs => by
  have e : bytesV (b :: bs) = .int .u8 (b.toNat : Nat) :: bytesV bs := rfl
  rw [e, allBytes, allBytes_bytesV bs]
  simp
theorem bytesV_sub (bs : List UInt8) (p n : Nat) : ((bytesV bs).drop p).take n = bytesV ((bs.drop p).take n) := by
 simp only [bytesV, List.map_drop, List.map_take]
theorem cells_cell {h : H} {a : Addr} {n i : Nat} {cs : List Value} {v : Value} (hc : h.cells E a n = some cs) (hi : i < n) (hv : cs[i]? = some v) : h.cell E (aadd a i) = some v := by
 have h1 := cells_sub hc (m := i) (l := 1) (by omega)
 have hl : i < cs.length := (List.getElem?_eq_some_iff.1 hv).1
 have e : (cs.drop i).take 1 = [v] := by
  rw [List.drop_eq_getElem_cons hl, List.take_succ_cons, List.take_zero, (List.getElem?_eq_some_iff.1 hv).2]
 rw [e] at h1
 generalize aadd a i = b at h1
 obtain ⟨k, o, sp⟩ := b
 match sp, h1 with
 | none, h1 =>
  have h1 : (match one? (E k o) with | some v => (match some [] with | some vs => some (v :: vs) | none => none) | none => none : Option (List Value)) = some [v] := h1
  show one? (E k o) = some v
  split at h1
  ·next w hw =>
   cases h1
   rw [hw]
  ·cases h1
 | some (_ + 1), h1 => cases h1
 | some 0, h1 =>
  have h1 : (match h.blk k with | some (.cells xs _ _) => (match Nat.ble (o + 1) xs.length && ((xs.drop o).take 1).all isOne with | true => some ((xs.drop o).take 1) | false => none) | _ => none : Option (List Value)) = some [v] := h1
  show (match h.blk k with | some (.cells xs _ _) => one? xs[o]? | _ => none) = some v
  cases hb : h.blk k with
  | none => rw [hb] at h1; cases h1
  | some B => cases B with
   | cells xs ty rt =>
    rw [hb] at h1
    simp only at h1 ⊢
    split at h1
    ·next hh =>
     have h1 := Option.some.inj h1
     simp only [Bool.and_eq_true, Nat.ble_eq] at hh
     have hlt : o < xs.length := by omega
     rw [List.drop_eq_getElem_cons hlt, List.take_succ_cons, List.take_zero] at h1 hh
     simp only [List.cons.injEq, and_true] at h1
     rw [List.getElem?_eq_getElem hlt, h1]
     rw [h1] at hh
     simp only [List.all_cons, List.all_nil, Bool.and_true] at hh
     simp only [one?, hh.2]
    ·cases h1
   | _ => rw [hb] at h1; cases h1
end
end Go.Hs
/- Bytes that are collected. -/
namespace Go.Hs
theorem apn_step {D : Tab} {E : Env} {h : H} {base : Nat} {t t2 e : TypeId} {sz by_ n m c i6 i7 : Nat} {ax : Addr} {i8 : Option Value} {i9 : Bool} {s ze : Value} {xs cs : List Value} {ro : Option Nat} (f : Fit h) (hbn : base ≤ h.next) (ap : Ap2 h base e sz s n xs ro)
  (ht : D.ty.get t = some ⟨.slice e sz by_, i6, i7, i8, i9⟩) (hz : tzero D e = some ze) (hzz : (Nat.beq ze.cells.toList.length sz && Nat.blt 0 sz && ze.cells.toList.all isOne) = true) (hzt : zeroArg D t2 (.slice (some ax) (m + 1) c) = some false)
  (hx : h.cells E ax ((m + 1) * sz) = some cs) (hcl : cs.length = (m + 1) * sz) (hc1 : cs.all isOne = true) (hrm : roomy (n + (m + 1)) by_ = true) :
  ∃ s' h' ro', aappend D E t t2 s (.slice (some ax) (m + 1) c) h = some (s', h') ∧ Ap2 h' base e sz s' (n + (m + 1)) (xs ++ cs) ro' ∧ Grew base ro h h' ∧ (ro = none ∧ ro' = some h.next ∨ ro ≠ none ∧ ro' = ro) ∧ ∀ r', r' < h.next → ro ≠ some r' → h'.chain r' = h.chain r' := by
 have hel : aelems E sz ze.cells.toList (.slice (some ax) (m + 1) c) h = some (m + 1, cs) := by
  simp only [aelems, hx]
 have hbl : Nat.beq cs.length ((m + 1) * sz) = true := by rw [hcl]; exact Nat.beq_refl _
 have hsz : 0 < sz := by
  simp only [Bool.and_eq_true, Nat.blt_eq] at hzz
  exact hzz.1.2
 rcases ap with ⟨rfl, rfl, rfl, rfl⟩ | ⟨k, r, rfl, hb, hl, h1, hbr, hrx, hch, rfl⟩
 ·rw [Nat.zero_add] at hrm ⊢
  refine ⟨.slice (some (own h.next)) (m + 1) (m + 1), h.newOpen cs e, some h.next, ?_, .inr ⟨h.next, h.next, rfl, ?_, ?_, ?_, hbn, Nat.lt_succ_self _, ?_, rfl⟩, ⟨newOpen_fit f, fun k B hb _ => newOpen_old f hb, rfl, rfl, Nat.le_succ _, fun r hr => ?_⟩, .inl ⟨rfl, rfl⟩, fun r' hr' _ => by simp only [H.chain, H.newOpen]; rw [T.get_set_ne _ _ _ _ (by omega)]⟩
  ·unfold aappend
   rw [ht]
   simp only [hz, hzt, hzz, hel, hbl, hrm]
  ·exact newOpen_new
  ·rw [List.nil_append]; exact hcl
  ·rw [List.nil_append]; exact hc1
  ·intro j hj
   simp only [H.chain, H.newOpen, T.get_set_same, Option.getD, List.mem_singleton] at hj
   subst hj
   exact ⟨cs, e, 0, T.get_set_same _ _ _, by rw [Nat.zero_add, hcl]; exact Nat.le_refl _⟩
  ·simp only [H.chain, H.newOpen]
   rw [T.get_set_ne _ _ _ _ (by omega)]
 ·have hkn := f.lt hb
  have hd := H.blk_dyn hb
  have hrn := f.ok.1 _ _ _ _ _ hd
  have hgr : h.grow e r (0 + (own k).off) (n * sz) (own k).block (xs.drop (own k).off) cs = { h with next := h.next + 1, dyn := h.dyn.set h.next (.cells (xs ++ cs) e (some (r, 0))), chains := h.chains.set r (h.next :: h.spare r k (0 + n * sz) (0 + n * sz + cs.length)) } := by
   unfold H.grow
   simp only [own, Nat.add_zero, List.drop_zero]
   have hgone : h.gone r k (0 + n * sz) (0 + n * sz + cs.length) = [] := by
    rw [List.eq_nil_iff_forall_not_mem]
    intro j hj
    obtain ⟨hj1, hj2⟩ := mem_gone.1 hj
    obtain ⟨ys, ty, p, hd, hle⟩ := hch j hj1
    unfold H.hits at hj2
    split at hj2
    ·cases hj2
    ·rw [hd] at hj2
     simp only [Bool.and_eq_true, Nat.blt_eq] at hj2
     omega
   rw [hgone]
   exact note_nil _
  generalize hg : ({ h with next := h.next + 1, dyn := h.dyn.set h.next (.cells (xs ++ cs) e (some (r, 0))), chains := h.chains.set r (h.next :: h.spare r k (0 + n * sz) (0 + n * sz + cs.length)) } : H) = g at hgr
  have hcr : g.chain r = h.next :: h.spare r k (0 + n * sz) (0 + n * sz + cs.length) := by
   rw [← hg]; simp only [H.chain, T.get_set_same, Option.getD]
  have hcn : ∀ r', r' ≠ r → g.chain r' = h.chain r' := by
   intro r' hr'
   rw [← hg]; simp only [H.chain]; rw [T.get_set_ne _ _ _ _ hr']
  have hgn : g.next = h.next + 1 := by rw [← hg]
  have hnew : g.blk h.next = some (.cells (xs ++ cs) e (some (r, 0))) := by
   have hdd : g.dyn.get h.next = some (.cells (xs ++ cs) e (some (r, 0))) := by rw [← hg]; exact T.get_set_same _ _ _
   unfold H.blk
   rw [hdd]
   simp only [hcr, List.contains_cons, beq_self_eq_true, Bool.true_or]
  have hold : ∀ j, j ≠ h.next → g.dyn.get j = h.dyn.get j := by
   intro j hj
   rw [← hg]; exact T.get_set_ne _ _ _ _ hj
  refine ⟨.slice (some (own h.next)) (n + (m + 1)) (n + (m + 1)), g, some r, ?_, .inr ⟨h.next, r, rfl, hnew, ?_, ?_, hbr, by rw [hgn]; omega, ?_, rfl⟩, ⟨⟨fun j hj => ?_, fun j ys ty r' p hd' => ?_, ?_⟩, ?_, ?_, ?_, ?_, ?_⟩, .inr ⟨by simp, rfl⟩, fun r' _ hr' => hcn r' (fun e => hr' (by rw [e]))⟩
  ·unfold aappend
   rw [ht]
   simp only [hz, hzt, hzz, hel, hbl, hrm]
   have e1 : (own k).spot = some 0 := rfl
   have e2 : (own k).block = k := rfl
   have e3 : (own k).off = 0 := rfl
   have e4 : Nat.ble (n + (m + 1)) n = false := by
    cases hq : Nat.ble (n + (m + 1)) n
    ·rfl
    ·rw [Nat.ble_eq] at hq; omega
   simp only [e1, e2, hb, e4]
   have e5 : (Nat.beq n n && Nat.beq ((own k).off + n * sz) xs.length && Nat.beq e e && (xs.drop (own k).off).all isOne && Nat.ble (own k).off xs.length) = true := by
    rw [e3, Nat.zero_add, hl, List.drop_zero, h1, Nat.beq_refl, Nat.beq_refl, Nat.beq_refl]
    simp [Nat.ble]
   simp only [e5]
   rw [← hgr]; rfl
  ·rw [List.length_append, hl, hcl, ← Nat.add_mul]
  ·rw [List.all_append, h1, hc1]; rfl
  ·intro j hj
   rw [hcr] at hj
   rcases List.mem_cons.1 hj with rfl | hj
   ·exact ⟨xs ++ cs, e, 0, H.blk_dyn hnew, by rw [List.length_append, hl, hcl, Nat.add_mul n]; omega⟩
   ·obtain ⟨ys, ty, p, hd, hle⟩ := hch j (mem_spare.1 hj).1
    have hjn : j ≠ h.next := by
     intro e
     subst e
     rw [f.free _ (Nat.le_refl _)] at hd; cases hd
    refine ⟨ys, ty, p, by rw [hold j hjn]; exact hd, ?_⟩
    rw [Nat.add_mul n]; omega
  ·rw [hgn] at hj
   rw [hold j (by omega)]; exact f.free j (by omega)
  ·rw [hgn]
   by_cases hj : j = h.next
   ·subst hj
    have := H.blk_dyn hnew
    rw [this] at hd'; cases hd'; omega
   ·rw [hold j hj] at hd'
    have := f.ok.1 _ _ _ _ _ hd'; omega
  ·rw [hgn]
   have := f.ok.2
   rw [← hg]; exact Nat.le_succ_of_le this
  ·intro j B hbj hro
   have hjn := f.lt hbj
   rw [← hbj]
   refine blk_congr (hold j (by omega)) (fun ys u r' q hd' => ?_)
   have : B = .cells ys u (some (r', q)) := by
    have := H.blk_dyn hbj
    rw [hd'] at this; cases this; rfl
   have hne := hro _ _ _ _ this
   rw [hcn r' (fun h => hne (by rw [h]))]
  ·rw [← hg]
  ·rw [← hg]
  ·rw [hgn]; omega
  ·intro r' hr'
   exact hcn r' (by omega)
section
variable {D : Tab} {E : Env} {tb : TypeId}
def Bol (tb : TypeId) (base top : Nat) (g : H) (sl : Value) (bs : List UInt8) : Prop := ∃ ro, Ap2 g base tb 1 sl bs.length (bytesV bs) ro ∧ ∀ r, ro = some r → base ≤ r ∧ r < top
theorem Bol.nil (base top : Nat) (g : H) : Bol tb base top g (.slice none 0 0) [] := ⟨none, .inl ⟨rfl, rfl, rfl, rfl⟩, fun _ h => by cases h⟩
theorem Bol.mod {M : Nat → Prop} {base top : Nat} {g g' : H} {sl : Value} {bs : List UInt8} (K : Bol tb base top g sl bs) (m : Mod M g g') (hp : ∀ k B, M k → g.blk k = some B → B.plain = true) : Bol tb base top g' sl bs := by
 obtain ⟨ro, h1, h3⟩ := K
 exact ⟨ro, h1.mod m hp, h3⟩
theorem Bol.up {base top top' : Nat} {g : H} {sl : Value} {bs : List UInt8} (K : Bol tb base top g sl bs) (h : top ≤ top') : Bol tb base top' g sl bs := by
 obtain ⟨ro, h1, h3⟩ := K
 exact ⟨ro, h1, fun r hr => ⟨(h3 r hr).1, Nat.lt_of_lt_of_le (h3 r hr).2 h⟩⟩
theorem Bol.slice {base top : Nat} {g : H} {sl : Value} {bs : List UInt8} (K : Bol tb base top g sl bs) : ∃ b, sl = .slice b bs.length bs.length := by
 obtain ⟨ro, h1, _⟩ := K
 rcases h1 with ⟨e, _, rfl, _⟩ | ⟨k, r, rfl, _⟩
 ·exact ⟨none, by rw [e]⟩
 ·exact ⟨_, rfl⟩
theorem Bol.byt {base top : Nat} {g : H} {sl : Value} {bs : List UInt8} (K : Bol tb base top g sl bs) : Byt E g sl bs := by
 obtain ⟨ro, h1, _⟩ := K
 rcases h1 with ⟨e, _, rfl, _⟩ | ⟨k, r, rfl, hb, hl, ho, _⟩
 ·exact .inl ⟨rfl, List.length_eq_zero_iff.1 e⟩
 ·exact .inr ⟨own k, _, rfl, Nat.le_refl _, blk_cells hb (bytesV_length bs) ho⟩
theorem bytesV_append (a b : List UInt8) : bytesV (a ++ b) = bytesV a ++ bytesV b := by simp [bytesV]
theorem bol_step {t t2 by_ i6 i7 : Nat} {i8 : Option Value} {i9 : Bool} {ze : Value} {base top : Nat} {g : H} {sl x : Value} {bs cs : List UInt8} (f : Fit g) (hbn : base ≤ g.next) (htop : top ≤ g.next) (K : Bol tb base top g sl bs)
  (ht : D.ty.get t = some ⟨.slice tb 1 by_, i6, i7, i8, i9⟩) (hz : tzero D tb = some ze) (hzz : (Nat.beq ze.cells.toList.length 1 && Nat.blt 0 1 && ze.cells.toList.all isOne) = true) (hzt : zeroArg D t2 x = some false)
  (hx : Byt E g x cs) (hrm : roomy (bs.length + cs.length) by_ = true) :
  ∃ sl' q, aappend D E t t2 sl x g = some (sl', q) ∧ Bol tb base q.next q sl' (bs ++ cs) ∧ Aps base g q := by
 have zero : cs.length = 0 → aelems E 1 ze.cells.toList x g = some (0, []) → ∃ sl' q, aappend D E t t2 sl x g = some (sl', q) ∧ Bol tb base q.next q sl' (bs ++ cs) ∧ Aps base g q := by
  intro h0 hel
  obtain rfl := List.length_eq_zero_iff.1 h0
  refine ⟨sl, g, ?_, by rw [List.append_nil]; exact K.up htop, none, (fun _ h => by cases h), ⟨f, fun _ _ h _ => h, rfl, rfl, Nat.le_refl _, fun _ _ => rfl⟩⟩
  obtain ⟨b, rfl⟩ := K.slice
  obtain ⟨ro, h1, _⟩ := K
  unfold aappend
  rw [ht]
  have hb0 : Nat.beq ([] : List Value).length (0 * 1) = true := rfl
  simp only [hz, hzt, hzz, hel, hb0]
  rcases h1 with ⟨e, _, e2, _⟩ | ⟨k, r, e2, _⟩
  ·rw [e2]; rfl
  ·rw [e2]
   simp only [Nat.ble_self_eq_true]
 rcases hx with ⟨rfl, rfl⟩ | ⟨a, c, rfl, hc, hcs⟩
 ·exact zero rfl rfl
 obtain ⟨l, hn⟩ : ∃ l, cs.length = l := ⟨_, rfl⟩
 cases l with
 | zero =>
  refine zero hn ?_
  simp only [aelems, hn, Nat.zero_mul, H.cells]
 | succ m =>
  rw [hn] at hcs hrm hzt ⊢
  obtain ⟨ro, h1, h3⟩ := K
  obtain ⟨s', q, ro', happ, ap4, gw, hroo⟩ := apn_step f hbn h1 ht hz hzz hzt (by rw [Nat.mul_one]; exact hcs) (by rw [Nat.mul_one, bytesV_length, hn]) (bytesV_one cs) hrm
  refine ⟨s', q, happ, ⟨ro', ?_, fun r hr => ?_⟩, ro, fun r hr => (h3 r hr).1, gw⟩
  ·rw [List.length_append, hn, bytesV_append]; exact ap4
  ·rcases ap4 with ⟨_, _, _, e3⟩ | ⟨_, rr, _, _, _, _, e5, e6, _, e8⟩
   ·rw [e3] at hr; cases hr
   ·rw [e8] at hr; cases hr; exact ⟨e5, e6⟩
end
end Go.Hs
/- Bytes that are put into room that was made for them. -/
namespace Go.Hs
theorem put_in {g : H} {k o : Nat} {vs xs : List Value} {e : TypeId} (f : Fit g) (hb : g.blk k = some (.cells xs e (some (k, 0)))) (hc : g.chain k = [k]) (hm : g.mark ≤ k) (hv : vs ≠ []) (hl : o + vs.length ≤ xs.length) (h1 : vs.all isOne = true) :
  ∃ q, g.put (aadd (own k) o) vs = some q ∧ Fit q ∧ q.blk k = some (.cells (xs.take o ++ vs ++ xs.drop (o + vs.length)) e (some (k, 0))) ∧ (∀ j, j ≠ k → q.blk j = g.blk j) ∧ (∀ r, q.chain r = g.chain r) ∧ q.next = g.next ∧ q.log = g.log ∧ q.mark = g.mark := by
 have hkn := f.lt hb
 have hsp : g.spare k k (0 + o) (0 + o + vs.length) = [k] := by
  unfold H.spare
  rw [hc]
  have : g.hits k (0 + o) (0 + o + vs.length) k = false := by
   unfold H.hits
   rw [Nat.beq_refl]
  simp only [List.filter_cons, this, Bool.not_false, if_true, List.filter_nil]
 have hgn : g.gone k k (0 + o) (0 + o + vs.length) = [] := by
  unfold H.gone
  rw [hc]
  have : g.hits k (0 + o) (0 + o + vs.length) k = false := by
   unfold H.hits
   rw [Nat.beq_refl]
  simp only [List.filter_cons, this, List.filter_nil]
  rfl
 generalize hB : (Blk.cells (xs.take o ++ vs ++ xs.drop (o + vs.length)) e (some (k, 0))) = B
 have hput : g.put (aadd (own k) o) vs = some ({ g with dyn := g.dyn.set k B, chains := g.chains.set k [k] } : H) := by
  rw [← hB]
  unfold H.put
  cases vs with
  | nil => exact absurd rfl hv
  | cons v vs =>
   simp only [aadd, own, Nat.zero_add, hb] at hsp hgn ⊢
   rw [h1, show Nat.ble (o + (v :: vs).length) xs.length = true from by rw [Nat.ble_eq]; exact hl]
   simp only [Bool.and_self, hsp, hgn]
   congr 1
   exact note_above (h := { g with dyn := _, chains := _ }) (fun j hj => by simp at hj; subst hj; exact hm)
 generalize hq : ({ g with dyn := g.dyn.set k B, chains := g.chains.set k [k] } : H) = q at hput
 have hqd : q.dyn = g.dyn.set k B := by rw [← hq]
 have hqn : q.next = g.next := by rw [← hq]
 have hqc : ∀ r, q.chain r = g.chain r := by
  intro r
  rw [← hq]
  simp only [H.chain, T.get_set]
  split
  ·next h => subst h; simpa [H.chain, Option.getD] using hc.symm
  ·rfl
 refine ⟨q, hput, ⟨fun j hj => ?_, ⟨fun j ys ty r p hd => ?_, ?_⟩⟩, ?_, fun j hj => ?_, hqc, hqn, by rw [← hq], by rw [← hq]⟩
 ·rw [hqn] at hj
  rw [hqd, T.get_set_ne _ _ _ _ (by omega)]; exact f.free j hj
 ·rw [hqn]
  rw [hqd] at hd
  by_cases hj : j = k
  ·subst hj
   rw [T.get_set_same, ← hB] at hd
   cases hd; exact hkn
  ·rw [T.get_set_ne _ _ _ _ hj] at hd
   exact f.ok.1 _ _ _ _ _ hd
 ·rw [← hq]; exact f.ok.2
 ·have hdd : q.dyn.get k = some B := by rw [hqd]; exact T.get_set_same _ _ _
  unfold H.blk
  rw [hdd, ← hB]
  simp only [hqc, hc, List.contains_cons, beq_self_eq_true, Bool.true_or]
 ·exact blk_congr (by rw [hqd, T.get_set_ne _ _ _ _ hj]) (fun _ _ r _ _ => by rw [hqc])
section
variable {D : Tab} {E : Env} {tb : TypeId}
theorem FC.call {v : Ev} {ops : Array Oper} {j : Nat} {o : Oper} {rest : List Oper} {A : Ac} {h h1 : H} {x : Value} {Q : Ac → H → Prop} (hg : o.guard = none) (hm : (mayJoin o.op || isStore o.op) = false) (ho : oper1 D E v A o (fresh h) = some (x, h1)) (hl : h1.log = []) (r : FC D E v ops (j + 1) rest (A.put o.dst x) (back h h1) Q) : FC D E v ops j (o :: rest) A h Q := by
 rw [Bool.or_eq_false_iff] at hm
 exact FQ.call hg hm.1 ho hl (r.mono fun _ _ _ ⟨a, b⟩ => ⟨calm_cons hm.2 a, b⟩)
theorem Mod.quiet {g h : H} (m : Mod (fun _ => False) (fresh g) h) : h.log = [] := by
 refine List.eq_nil_iff_forall_not_mem.2 fun j hj => ?_
 rcases m.log j hj with h1 | ⟨h1, _⟩
 ·cases h1
 ·exact h1
def Con (tb : TypeId) (base n : Nat) (g : H) (sl : Value) (bs : List UInt8) : Prop := ∃ k rest, sl = .slice (some (own k)) bs.length n ∧ g.blk k = some (.cells (bytesV bs ++ rest) tb (some (k, 0))) ∧ bs.length + rest.length = n ∧ rest.all isOne = true ∧ g.chain k = [k] ∧ base ≤ k
theorem Con.byt {base n : Nat} {g : H} {sl : Value} {bs : List UInt8} (K : Con tb base n g sl bs) : Byt E g sl bs := by
 obtain ⟨k, rest, rfl, hb, hn, ho, _, _⟩ := K
 refine .inr ⟨own k, n, rfl, by omega, ?_⟩
 have h1 := blk_cells (E := E) hb rfl (by rw [List.all_append, bytesV_one, ho]; rfl)
 have h2 := cells_sub h1 (m := 0) (l := bs.length) (by rw [List.length_append, bytesV_length]; omega)
 rw [aadd_zero, List.drop_zero] at h2
 rw [h2]
 congr 1
 rw [← bytesV_length bs, List.take_left]
theorem con_start {t t2 by_ i6 i7 : Nat} {i8 : Option Value} {i9 : Bool} {ze : Value} {g : H} {n : Nat} (f : Fit g) (hn : 0 < n)
  (ht : D.ty.get t = some ⟨.slice tb 1 by_, i6, i7, i8, i9⟩) (hz : tzero D tb = some ze) (hz1 : ze.cells.toList = [.int .u8 0]) (hzt : zeroArg D t2 (.int .i64 (n : Nat)) = some true) (hrm : roomy n by_ = true) :
  ∃ sl' q, aappend D E t t2 (.slice none 0 0) (.int .i64 (n : Nat)) g = some (.slice (some (own g.next)) n n, q) ∧ (∀ h, aslice D t (.slice (some (own g.next)) n n) none (some (.int .i64 0)) none h = some (sl', h)) ∧ Con tb g.next n q sl' [] ∧ Ahd g q := by
 have zr : ∀ n, zeroRow [Value.int .u8 0] n = List.replicate n (.int .u8 0) := by
  intro n
  induction n with
  | zero => rfl
  | succ n ih => rw [zeroRow, ih]; rfl
 refine ⟨.slice (some (own g.next)) 0 n, g.newOpen (List.replicate n (.int .u8 0)) tb, ?_, fun h => ?_, ⟨g.next, List.replicate n (.int .u8 0), rfl, newOpen_new, by simp, by simp [isOne], by simp only [H.chain, H.newOpen, T.get_set_same, Option.getD], Nat.le_refl _⟩, Ahd.newOpen f _ _⟩
 ·unfold aappend
  rw [ht]
  have hel : aelems E 1 ze.cells.toList (.int .i64 ((n : Nat) : Int)) g = some (n, List.replicate n (.int .u8 0)) := by
   rw [hz1, ← zr]; rfl
  have hzz : (Nat.beq ze.cells.toList.length 1 && Nat.blt 0 1 && ze.cells.toList.all isOne) = true := by rw [hz1]; rfl
  have hb : Nat.beq (List.replicate n (Value.int .u8 0)).length (n * 1) = true := by rw [List.length_replicate, Nat.mul_one]; exact Nat.beq_refl n
  simp only [hz, hzt, hzz, hel, hb]
  cases n with
  | zero => omega
  | succ n => simp only [hrm]
 ·have e1 : Nat.ble n n = true := by rw [Nat.ble_eq]; exact Nat.le_refl _
  have e2 : Nat.beq n 0 = false := by
   cases q : Nat.beq n 0
   ·rfl
   ·have := Nat.eq_of_beq_eq_true q; omega
  have e3 : inRange 0 (n + 1) = true := by
   show Nat.blt 0 (n + 1) = true
   rw [Nat.blt_eq]; omega
  unfold aslice
  rw [ht]
  simp only [e1, asliceS, abound, e3, Int.toNat_zero, e2, Nat.zero_mul, Nat.sub_zero]
  rfl
theorem con_step {t t2 by_ i6 i7 : Nat} {i8 : Option Value} {i9 : Bool} {ze : Value} {base n : Nat} {g : H} {sl x : Value} {bs cs : List UInt8} (f : Fit g) (hm : g.mark ≤ base) (K : Con tb base n g sl bs)
  (ht : D.ty.get t = some ⟨.slice tb 1 by_, i6, i7, i8, i9⟩) (hz : tzero D tb = some ze) (hzz : (Nat.beq ze.cells.toList.length 1 && Nat.blt 0 1 && ze.cells.toList.all isOne) = true) (hzt : zeroArg D t2 x = some false)
  (hx : Byt E g x cs) (hle : bs.length + cs.length ≤ n) (hrm : roomy (bs.length + cs.length) by_ = true) :
  ∃ sl' q, aappend D E t t2 sl x g = some (sl', q) ∧ Con tb base n q sl' (bs ++ cs) ∧ (∀ M h, Fit h → h.next ≤ base → Mod M h g → Mod M h q) := by
 obtain ⟨k, rest, rfl, hb, hn, ho, hc, hk⟩ := K
 have zero : cs.length = 0 → aelems E 1 ze.cells.toList x g = some (0, []) → ∃ sl' q, aappend D E t t2 (.slice (some (own k)) bs.length n) x g = some (sl', q) ∧ Con tb base n q sl' (bs ++ cs) ∧ (∀ M h, Fit h → h.next ≤ base → Mod M h g → Mod M h q) := by
  intro h0 hel
  obtain rfl := List.length_eq_zero_iff.1 h0
  refine ⟨_, g, ?_, by rw [List.append_nil]; exact ⟨k, rest, rfl, hb, hn, ho, hc, hk⟩, fun _ _ _ _ m => m⟩
  unfold aappend
  rw [ht]
  have hb0 : Nat.beq ([] : List Value).length (0 * 1) = true := rfl
  have e1 : Nat.ble bs.length n = true := by rw [Nat.ble_eq]; omega
  simp only [hz, hzt, hzz, hel, hb0, e1]
 rcases hx with ⟨rfl, rfl⟩ | ⟨a, c, rfl, hcc, hcs⟩
 ·exact zero rfl rfl
 obtain ⟨l, hl⟩ : ∃ l, cs.length = l := ⟨_, rfl⟩
 cases l with
 | zero =>
  refine zero hl ?_
  simp only [aelems, hl, Nat.zero_mul, H.cells]
 | succ m =>
  obtain ⟨q, hput, fq, hqb, hqo, hqc, hqn, hql, hqm⟩ := put_in (o := bs.length) (vs := bytesV cs) f hb hc (Nat.le_trans hm hk) (by intro e; have := bytesV_length cs; rw [e, hl] at this; simp at this) (by rw [List.length_append, bytesV_length, bytesV_length]; omega) (bytesV_one cs)
  refine ⟨.slice (some (own k)) (bs.length + cs.length) n, q, ?_, ⟨k, rest.drop cs.length, by rw [List.length_append], ?_, by rw [List.length_append, List.length_drop]; omega, ?_, by rw [hqc]; exact hc, hk⟩, fun M h fh hhb mm => ?_⟩
  ·unfold aappend
   rw [ht]
   have hel : aelems E 1 ze.cells.toList (.slice (some a) cs.length c) g = some (cs.length, bytesV cs) := by simp only [aelems, Nat.mul_one, hcs]
   have hbl : Nat.beq (bytesV cs).length (cs.length * 1) = true := by rw [bytesV_length, Nat.mul_one]; exact Nat.beq_refl _
   have e1 : Nat.ble (bs.length + cs.length) n = true := by rw [Nat.ble_eq]; omega
   have hb' : g.blk (own k).block = some (.cells (bytesV bs ++ rest) tb (some (k, 0))) := hb
   have hsp : (own k).spot = some 0 := rfl
   simp only [hz, hzt, hzz, hel, hbl]
   rw [hl] at hrm e1 ⊢
   simp only [hrm, hsp, hb', e1, Nat.mul_one, hput]
  ·rw [hqb]
   congr 2
   have e1 : (bytesV bs ++ rest).take bs.length = bytesV bs := by rw [← bytesV_length bs, List.take_left]
   rw [e1, bytesV_append, bytesV_length]
   congr 1
   rw [← List.drop_drop, ← bytesV_length bs, List.drop_left]
  ·rw [List.all_eq_true] at ho ⊢
   exact fun v hv => ho v (List.mem_of_mem_drop hv)
  ·refine ⟨fq, fun j B hj hB => ?_, hqm.trans mm.mark, by rw [hqn]; exact mm.next, fun r hr => (hqc r).trans (mm.chain r hr), fun j hj => by rw [hql] at hj; exact mm.log j hj⟩
   rw [hqo j (by have := fh.lt hB; omega)]
   exact mm.blk j B hj hB
end
end Go.Hs
/- Three slices that are appended to in turn: items, their bytes, where those end. -/
namespace Go.Hs
structure Gw (ro : Option Nat) (h g : H) : Prop where
 fit : Fit g
 keep : ∀ k B, h.blk k = some B → rootsNot ro B → g.blk k = some B
 log : g.log = h.log
 mark : g.mark = h.mark
 next : h.next ≤ g.next
 chain : ∀ r, r < h.next → ro ≠ some r → g.chain r = h.chain r
theorem Gw.grew {base : Nat} {ro : Option Nat} {h g : H} (t : Gw ro h g) (hb : base ≤ h.next) (hro : ∀ r, ro = some r → base ≤ r) : Grew base ro h g :=
 ⟨t.fit, t.keep, t.log, t.mark, t.next, fun r hr => t.chain r (by omega) (fun e => by have := hro r e; omega)⟩
theorem Ap2.gw {h g : H} {base : Nat} {e : TypeId} {sz : Nat} {s : Value} {n : Nat} {xs : List Value} {r1 ro : Option Nat} (a : Ap2 h base e sz s n xs r1) (t : Gw ro h g) (hd : ∀ r, r1 = some r → ro ≠ some r) : Ap2 g base e sz s n xs r1 := by
 rcases a with a | ⟨k, r, e1, e2, e3, e4, e5, e6, e7, e8⟩
 ·exact .inl a
 ·have keep : ∀ j ys ty p, h.blk j = some (.cells ys ty (some (r, p))) → g.blk j = some (.cells ys ty (some (r, p))) := fun j ys ty p hb => t.keep _ _ hb (fun _ _ r' q he => by cases he; exact hd r e8)
  refine .inr ⟨k, r, e1, keep _ _ _ _ e2, e3, e4, e5, Nat.lt_of_lt_of_le e6 t.next, fun j hj => ?_, e8⟩
  rw [t.chain r e6 (hd r e8)] at hj
  obtain ⟨ys, ty, p, hdy, hle⟩ := e7 j hj
  have hb : h.blk j = some (.cells ys ty (some (r, p))) := by
   unfold H.blk
   rw [hdy]
   simp only
   rw [show (h.chain r).contains j = true from by simpa using hj]
  exact ⟨ys, ty, p, H.blk_dyn (keep _ _ _ _ hb), hle⟩
theorem only_gw {p q : Nat → Bool} {ro : Option Nat} {h g : H} (f : Fit h) (t : Gw ro h g) (hp : ∀ r, r < h.next → p r = true → q r = true ∧ ro ≠ some r) : Grows (only p h) (only q g) := by
 intro kx B hb
 obtain ⟨e1, ys, ty, r, o, rfl, e2⟩ := (only_blk f).1 hb
 have hrl := f.ok.1 _ _ _ _ _ (H.blk_dyn e1)
 obtain ⟨e3, e4⟩ := hp r hrl e2
 exact (only_blk t.fit).2 ⟨t.keep kx _ e1 (fun _ _ _ _ he => by cases he; exact e4), ys, ty, r, o, rfl, e3⟩
section
variable {D : Tab} {E : Env}
theorem apg_step {h : H} {base : Nat} {t t2 e : TypeId} {sz by_ n m c i6 i7 : Nat} {ax : Addr} {i8 : Option Value} {i9 : Bool} {s ze : Value} {xs cs : List Value} {ro : Option Nat} (f : Fit h) (hbn : base ≤ h.next) (ap : Ap2 h base e sz s n xs ro)
  (ht : D.ty.get t = some ⟨.slice e sz by_, i6, i7, i8, i9⟩) (hz : tzero D e = some ze) (hzz : (Nat.beq ze.cells.toList.length sz && Nat.blt 0 sz && ze.cells.toList.all isOne) = true) (hzt : zeroArg D t2 (.slice (some ax) (m + 1) c) = some false)
  (hx : h.cells E ax ((m + 1) * sz) = some cs) (hcl : cs.length = (m + 1) * sz) (hc1 : cs.all isOne = true) (hrm : roomy (n + (m + 1)) by_ = true) :
  ∃ s' h' ro', aappend D E t t2 s (.slice (some ax) (m + 1) c) h = some (s', h') ∧ Ap2 h' base e sz s' (n + (m + 1)) (xs ++ cs) ro' ∧ Gw ro h h' ∧ (ro = none ∧ ro' = some h.next ∨ ro ≠ none ∧ ro' = ro) := by
 obtain ⟨s', q, ro', happ, ap4, gw, hroo, hch⟩ := apn_step f hbn ap ht hz hzz hzt hx hcl hc1 hrm
 exact ⟨s', q, ro', happ, ap4, ⟨gw.fit, gw.keep, gw.log, gw.mark, gw.next, hch⟩, hroo⟩
def rts (b : Nat) (r1 r2 r3 : Option Nat) (r : Nat) : Bool := Nat.ble b r && !(r1 == some r) && !(r2 == some r) && !(r3 == some r)
theorem rts_iff {b : Nat} {r1 r2 r3 : Option Nat} {r : Nat} : rts b r1 r2 r3 r = true ↔ b ≤ r ∧ r1 ≠ some r ∧ r2 ≠ some r ∧ r3 ≠ some r := by
 simp only [rts, Bool.and_eq_true, Nat.ble_eq, Bool.not_eq_true', beq_eq_false_iff_ne, ne_eq, and_assoc]
def Dis (a b : Option Nat) : Prop := ∀ r, a = some r → b ≠ some r
theorem Dis.symm {a b : Option Nat} (d : Dis a b) : Dis b a := fun r h h' => d r h' h
def Lo (b top : Nat) (a : Option Nat) : Prop := ∀ r, a = some r → b ≤ r ∧ r < top
def natsV (ns : List Nat) : List Value := ns.map fun n => .int .i64 (n : Nat)
def Tri (E : Env) (b top : Nat) (h : H) (s1 : Value) (ts : List Item) (s2 : Value) (bs : List UInt8) (s3 : Value) (ns : List Nat) : Prop :=
 ∃ r1 r2 r3 xs, Ap2 h b 25 4 s1 ts.length xs r1 ∧ repL E (only (rts b r1 r2 r3) h) ts xs ∧ Ap2 h b 5 1 s2 bs.length (bytesV bs) r2 ∧ Ap2 h b 3 1 s3 ns.length (natsV ns) r3 ∧ Dis r1 r2 ∧ Dis r1 r3 ∧ Dis r2 r3 ∧ Lo b top r1 ∧ Lo b top r2 ∧ Lo b top r3
theorem Tri.nil (b top : Nat) (h : H) : Tri E b top h (.slice none 0 0) [] (.slice none 0 0) [] (.slice none 0 0) [] :=
 ⟨none, none, none, [], .inl ⟨rfl, rfl, rfl, rfl⟩, by rw [repL], .inl ⟨rfl, rfl, rfl, rfl⟩, .inl ⟨rfl, rfl, rfl, rfl⟩, (fun _ h => by cases h), (fun _ h => by cases h), (fun _ h => by cases h), (fun _ h => by cases h), (fun _ h => by cases h), (fun _ h => by cases h)⟩
variable {b top : Nat} {h g : H} {s1 s2 s3 : Value} {ts : List Item} {bs : List UInt8} {ns : List Nat}
theorem Tri.mod {M : Nat → Prop} (T : Tri E b top h s1 ts s2 bs s3 ns) (f : Fit h) (m : Mod M h g) (hp : ∀ k B, M k → h.blk k = some B → B.plain = true) : Tri E b top g s1 ts s2 bs s3 ns := by
 obtain ⟨r1, r2, r3, xs, a1, rl, a2, a3, d⟩ := T
 exact ⟨r1, r2, r3, xs, a1.mod m hp, repL_grow (only_mod f m hp (fun r h => h)) rl, a2.mod m hp, a3.mod m hp, d⟩
theorem Tri.byt (T : Tri E b top h s1 ts s2 bs s3 ns) : Byt E h s2 bs := by
 obtain ⟨r1, r2, r3, xs, a1, rl, h1, a3, d⟩ := T
 rcases h1 with ⟨e, _, rfl, _⟩ | ⟨k, r, rfl, hb, hl, ho, _⟩
 ·exact .inl ⟨rfl, List.length_eq_zero_iff.1 e⟩
 ·exact .inr ⟨own k, _, rfl, Nat.le_refl _, blk_cells hb (bytesV_length bs) ho⟩
theorem Tri.kol (T : Tri E b top h s1 ts s2 bs s3 ns) (f : Fit h) : Kol E 25 b top h s1 ts := by
 obtain ⟨r1, r2, r3, xs, a1, rl, a2, a3, d1, d2, d3, l1, l2, l3⟩ := T
 refine ⟨xs, r1, a1, repL_grow (only_sub f (fun r hr => ?_)) rl, l1⟩
 obtain ⟨e1, e2, _⟩ := rts_iff.1 hr
 simp only [Bool.and_eq_true, Nat.ble_eq, Bool.not_eq_true', beq_eq_false_iff_ne, ne_eq]
 exact ⟨e1, e2⟩
theorem Tri.len (T : Tri E b top h s1 ts s2 bs s3 ns) : ∃ c, s2 = .slice c bs.length bs.length := by
 obtain ⟨r1, r2, r3, xs, a1, rl, h1, _⟩ := T
 rcases h1 with ⟨e, _, rfl, _⟩ | ⟨k, r, rfl, _⟩
 ·exact ⟨none, by rw [e]⟩
 ·exact ⟨_, rfl⟩
def Nms (E : Env) (h : H) (v : Value) (ns : List Nat) : Prop := (v = .slice none 0 0 ∧ ns = []) ∨ ∃ k, v = .slice (some (own k)) ns.length ns.length ∧ h.cells E (own k) ns.length = some (natsV ns)
theorem Nms.grow {v : Value} (n : Nms E h v ns) (hg : Grows h g) : Nms E g v ns := by
 rcases n with e | ⟨k, e1, e2⟩
 ·exact .inl e
 ·exact .inr ⟨k, e1, cells_grow hg e2⟩
theorem Tri.nms (T : Tri E b top h s1 ts s2 bs s3 ns) : Nms E h s3 ns := by
 obtain ⟨r1, r2, r3, xs, a1, rl, a2, h1, d⟩ := T
 rcases h1 with ⟨e, _, rfl, _⟩ | ⟨k, r, rfl, hb, hl, ho, _⟩
 ·exact .inl ⟨rfl, List.length_eq_zero_iff.1 e⟩
 ·exact .inr ⟨k, rfl, blk_cells hb (by simp [natsV]) ho⟩
theorem ap2_root {h : H} {base : Nat} {e : TypeId} {sz : Nat} {s : Value} {n : Nat} {xs : List Value} {ro : Option Nat} (a : Ap2 h base e sz s n xs ro) : ∀ r, ro = some r → base ≤ r ∧ r < h.next := fun r hr => by
 rcases a with ⟨_, _, _, e3⟩ | ⟨_, rr, _, _, _, _, e5, e6, _, e8⟩
 ·rw [e3] at hr; cases hr
 ·rw [e8] at hr; cases hr; exact ⟨e5, e6⟩
theorem dis_new {a ro ro' : Option Nat} {nx : Nat} (d : Dis a ro) (la : ∀ r, a = some r → r < nx) (h : ro = none ∧ ro' = some nx ∨ ro ≠ none ∧ ro' = ro) : Dis a ro' := by
 rcases h with ⟨_, e⟩ | ⟨_, e⟩
 ·rw [e]
  intro r hr he
  cases he
  have := la _ hr
  omega
 ·rw [e]; exact d
theorem tri_items {t t2 by_ kx c i6 i7 lo : Nat} {i8 : Option Value} {i9 : Bool} {ze : Value} {x : Item} {va vb vc vd : Value} (f : Fit h) (hbn : b ≤ h.next) (T : Tri E b top h s1 ts s2 bs s3 ns) (htop : top ≤ lo) (hblo : b ≤ lo)
  (ht : D.ty.get t = some ⟨.slice 25 4 by_, i6, i7, i8, i9⟩) (hz : tzero D 25 = some ze) (hzz : (Nat.beq ze.cells.toList.length 4 && Nat.blt 0 4 && ze.cells.toList.all isOne) = true) (hzt : zeroArg D t2 (.slice (some (own kx)) 1 c) = some false)
  (hr : rep E (only (fun r => Nat.ble lo r) h) x (.agg ⟨[va, vb, vc, vd]⟩)) (hx : h.cells E (own kx) 4 = some [va, vb, vc, vd]) (hone : [va, vb, vc, vd].all isOne = true) (hrm : roomy (ts.length + 1) by_ = true) :
  ∃ sl' q, aappend D E t t2 s1 (.slice (some (own kx)) 1 c) h = some (sl', q) ∧ Tri E b q.next q sl' (ts ++ [x]) s2 bs s3 ns ∧ Aps b h q ∧ ∀ lo', top ≤ lo' → Grows (only (fun r => Nat.ble lo' r) h) (only (fun r => Nat.ble lo' r) q) := by
 obtain ⟨r1, r2, r3, xs, a1, rl, a2, a3, d1, d2, d3, l1, l2, l3⟩ := T
 obtain ⟨s', q, ro', happ, ap4, gw, hroo⟩ := apg_step (m := 0) f hbn a1 ht hz hzz hzt hx rfl hone hrm
 have gt : ∀ (p : Nat → Bool), (∀ r, p r = true → b ≤ r ∧ r1 ≠ some r ∧ r2 ≠ some r ∧ r3 ≠ some r) → Grows (only p h) (only (rts b ro' r2 r3) q) := fun p hp => only_gw f gw fun r hrn hpr => by
  obtain ⟨e1, e2, e3, e4⟩ := hp r hpr
  refine ⟨rts_iff.2 ⟨e1, ?_, e3, e4⟩, e2⟩
  rcases hroo with ⟨_, e⟩ | ⟨_, e⟩
  ·rw [e]; intro h; cases h; omega
  ·rw [e]; exact e2
 have hn : ∀ {a : Option Nat}, Lo b top a → ∀ r, lo ≤ r → a ≠ some r := fun l r hr e => by have := (l r e).2; omega
 refine ⟨s', q, happ, ⟨ro', r2, r3, xs ++ [va, vb, vc, vd], by rw [List.length_append]; exact ap4, ?_, a2.gw gw d1.symm, a3.gw gw d2.symm, ?_, ?_, d3, ap2_root ap4, ?_, ?_⟩, ⟨r1, fun r e => (l1 r e).1, gw.grew hbn (fun r e => (l1 r e).1)⟩, fun lo' hl => only_gw f gw (fun r _ hr => ⟨hr, by rw [Nat.ble_eq] at hr; intro e; have := (l1 r e).2; omega⟩)⟩
 ·exact repL_append (repL_grow (gt _ (fun r hr => rts_iff.1 hr)) rl) (rep_grow (gt _ (fun r hr => by
   rw [Nat.ble_eq] at hr
   exact ⟨by omega, hn l1 r hr, hn l2 r hr, hn l3 r hr⟩)) hr)
 ·exact (dis_new d1.symm (fun r e => (ap2_root a2 r e).2) hroo).symm
 ·exact (dis_new d2.symm (fun r e => (ap2_root a3 r e).2) hroo).symm
 ·exact fun r e => ⟨(l2 r e).1, Nat.lt_of_lt_of_le (ap2_root a2 r e).2 gw.next⟩
 ·exact fun r e => ⟨(l3 r e).1, Nat.lt_of_lt_of_le (ap2_root a3 r e).2 gw.next⟩
theorem tri_bytes {t t2 by_ i6 i7 : Nat} {i8 : Option Value} {i9 : Bool} {ze x : Value} {cs : List UInt8} (f : Fit h) (hbn : b ≤ h.next) (T : Tri E b top h s1 ts s2 bs s3 ns)
  (ht : D.ty.get t = some ⟨.slice 5 1 by_, i6, i7, i8, i9⟩) (hz : tzero D 5 = some ze) (hzz : (Nat.beq ze.cells.toList.length 1 && Nat.blt 0 1 && ze.cells.toList.all isOne) = true) (hzt : zeroArg D t2 x = some false)
  (hx : Byt E h x cs) (hpos : 1 ≤ cs.length) (hrm : roomy (bs.length + cs.length) by_ = true) :
  ∃ sl' q, aappend D E t t2 s2 x h = some (sl', q) ∧ Tri E b q.next q s1 ts sl' (bs ++ cs) s3 ns ∧ Aps b h q := by
 obtain ⟨r1, r2, r3, xs, a1, rl, a2, a3, d1, d2, d3, l1, l2, l3⟩ := T
 rcases hx with ⟨_, rfl⟩ | ⟨a, c, rfl, hc, hcs⟩
 ·simp at hpos
 obtain ⟨m, hm⟩ : ∃ m, cs.length = m + 1 := ⟨cs.length - 1, by omega⟩
 rw [hm] at hrm hzt hcs
 obtain ⟨s', q, ro', happ, ap4, gw, hroo⟩ := apg_step (m := m) f hbn a2 ht hz hzz hzt (by rw [Nat.mul_one]; exact hcs) (by rw [Nat.mul_one, bytesV_length]; exact hm) (bytesV_one _) hrm
 have gt : Grows (only (rts b r1 r2 r3) h) (only (rts b r1 ro' r3) q) := only_gw f gw fun r hrn hpr => by
  obtain ⟨e1, e2, e3, e4⟩ := rts_iff.1 hpr
  refine ⟨rts_iff.2 ⟨e1, e2, ?_, e4⟩, e3⟩
  rcases hroo with ⟨_, e⟩ | ⟨_, e⟩
  ·rw [e]; intro h; cases h; omega
  ·rw [e]; exact e3
 rw [hm]
 refine ⟨s', q, happ, ⟨r1, ro', r3, xs, a1.gw gw d1, repL_grow gt rl, ?_, a3.gw gw d3.symm, ?_, d2, ?_, ?_, ap2_root ap4, ?_⟩, r2, fun r e => (l2 r e).1, gw.grew hbn (fun r e => (l2 r e).1)⟩
 ·rw [List.length_append, bytesV_append, hm]; exact ap4
 ·exact dis_new d1 (fun r e => (ap2_root a1 r e).2) hroo
 ·exact (dis_new d3.symm (fun r e => (ap2_root a3 r e).2) hroo).symm
 ·exact fun r e => ⟨(l1 r e).1, Nat.lt_of_lt_of_le (ap2_root a1 r e).2 gw.next⟩
 ·exact fun r e => ⟨(l3 r e).1, Nat.lt_of_lt_of_le (ap2_root a3 r e).2 gw.next⟩
theorem tri_num {t t2 by_ kx c i6 i7 : Nat} {i8 : Option Value} {i9 : Bool} {ze : Value} {x : Nat} (f : Fit h) (hbn : b ≤ h.next) (T : Tri E b top h s1 ts s2 bs s3 ns)
  (ht : D.ty.get t = some ⟨.slice 3 1 by_, i6, i7, i8, i9⟩) (hz : tzero D 3 = some ze) (hzz : (Nat.beq ze.cells.toList.length 1 && Nat.blt 0 1 && ze.cells.toList.all isOne) = true) (hzt : zeroArg D t2 (.slice (some (own kx)) 1 c) = some false)
  (hx : h.cells E (own kx) 1 = some [.int .i64 (x : Nat)]) (hrm : roomy (ns.length + 1) by_ = true) :
  ∃ sl' q, aappend D E t t2 s3 (.slice (some (own kx)) 1 c) h = some (sl', q) ∧ Tri E b q.next q s1 ts s2 bs sl' (ns ++ [x]) ∧ Aps b h q := by
 obtain ⟨r1, r2, r3, xs, a1, rl, a2, a3, d1, d2, d3, l1, l2, l3⟩ := T
 obtain ⟨s', q, ro', happ, ap4, gw, hroo⟩ := apg_step (m := 0) f hbn a3 ht hz hzz hzt hx rfl rfl hrm
 have gt : Grows (only (rts b r1 r2 r3) h) (only (rts b r1 r2 ro') q) := only_gw f gw fun r hrn hpr => by
  obtain ⟨e1, e2, e3, e4⟩ := rts_iff.1 hpr
  refine ⟨rts_iff.2 ⟨e1, e2, e3, ?_⟩, e4⟩
  rcases hroo with ⟨_, e⟩ | ⟨_, e⟩
  ·rw [e]; intro h; cases h; omega
  ·rw [e]; exact e4
 refine ⟨s', q, happ, ⟨r1, r2, ro', xs, a1.gw gw d2, repL_grow gt rl, a2.gw gw d3, ?_, d1, ?_, ?_, ?_, ?_, ap2_root ap4⟩, r3, fun r e => (l3 r e).1, gw.grew hbn (fun r e => (l3 r e).1)⟩
 ·rw [List.length_append]
  unfold natsV
  rw [List.map_append]
  exact ap4
 ·exact dis_new d2 (fun r e => (ap2_root a1 r e).2) hroo
 ·exact dis_new d3 (fun r e => (ap2_root a2 r e).2) hroo
 ·exact fun r e => ⟨(l1 r e).1, Nat.lt_of_lt_of_le (ap2_root a1 r e).2 gw.next⟩
 ·exact fun r e => ⟨(l2 r e).1, Nat.lt_of_lt_of_le (ap2_root a2 r e).2 gw.next⟩
end
end Go.Hs
