/- Bits of numbers, reckoned. -/
import Derived.Test.YtofijpbmbmbnhaaDoorHsaf
set_option linter.unusedSimpArgs false
set_option linter.unusedVariables false
namespace Go.Hs

theorem wrapU8 {x : Nat} (h : x < 256) : IntKind.u8.wrap (x : Nat) = (x : Nat) := by
  simp only [IntKind.wrap, IntKind.bits, IntKind.signed]
  simp
  omega
theorem wrapN {x : Nat} (h : x < 9223372036854775808) : IntKind.i64.wrap (x : Nat) = (x : Nat) := wrap64 (by omega) (by omega)
theorem and_u8 (c m : Nat) (h : c < 256) (hm : m < 256) : IntKind.u8.wrap (((BitVec.ofInt IntKind.u8.bits (c : Int) &&& BitVec.ofInt IntKind.u8.bits (m : Int)).toNat : Nat) : Int) = ((c &&& m : Nat) : Int) := by
  have e : (BitVec.ofInt IntKind.u8.bits (c : Int) &&& BitVec.ofInt IntKind.u8.bits (m : Int)).toNat = c &&& m := by
    rw [BitVec.ofInt_natCast, BitVec.ofInt_natCast, BitVec.toNat_and, BitVec.toNat_ofNat, BitVec.toNat_ofNat]
    rw [show 2 ^ IntKind.u8.bits = 256 from rfl, Nat.mod_eq_of_lt h, Nat.mod_eq_of_lt hm]
  rw [e]
  exact wrapU8 (Nat.lt_of_le_of_lt Nat.and_le_left h)
theorem and127 (c : Nat) (h : c < 256) : IntKind.u8.wrap (((BitVec.ofInt IntKind.u8.bits (c : Int) &&& BitVec.ofInt IntKind.u8.bits 127).toNat : Nat) : Int) = ((c % 128 : Nat) : Int) := by
  have := and_u8 c 127 h (by omega)
  rw [show c &&& 127 = c % 128 from Nat.and_two_pow_sub_one_eq_mod c 7] at this
  exact this
theorem and63 (c : Nat) (h : c < 256) : IntKind.u8.wrap (((BitVec.ofInt IntKind.u8.bits (c : Int) &&& BitVec.ofInt IntKind.u8.bits 63).toNat : Nat) : Int) = ((c % 64 : Nat) : Int) := by
  have := and_u8 c 63 h (by omega)
  rw [show c &&& 63 = c % 64 from Nat.and_two_pow_sub_one_eq_mod c 6] at this
  exact this
theorem and_64 : ∀ c : Nat, c < 256 → c &&& 64 = 64 * (c / 64 % 2) := by decide +kernel
theorem and_128 : ∀ c : Nat, c < 256 → c &&& 128 = 128 * (c / 128) := by decide +kernel
theorem and64 (c : Nat) (h : c < 256) : IntKind.u8.wrap (((BitVec.ofInt IntKind.u8.bits (c : Int) &&& BitVec.ofInt IntKind.u8.bits 64).toNat : Nat) : Int) = ((64 * (c / 64 % 2) : Nat) : Int) := by
  have := and_u8 c 64 h (by omega)
  rw [and_64 c h] at this
  exact this
theorem and128 (c : Nat) (h : c < 256) : IntKind.u8.wrap (((BitVec.ofInt IntKind.u8.bits (c : Int) &&& BitVec.ofInt IntKind.u8.bits 128).toNat : Nat) : Int) = ((128 * (c / 128) : Nat) : Int) := by
  have := and_u8 c 128 h (by omega)
  rw [and_128 c h] at this
  exact this
theorem pow128 (i : Nat) : 128 ^ i = 2 ^ (7 * i) := by rw [Nat.pow_mul]
theorem pow128_le {i j : Nat} (h : i ≤ j) : 128 ^ i ≤ 128 ^ j := Nat.pow_le_pow_right (by decide) h
theorem shl7 (m i : Nat) (hm : m < 128) (hi : i ≤ 5) : ashift .shl .i64 (m : Nat) ((7 * i : Nat) : Int) = some (.int .i64 ((m * 128 ^ i : Nat) : Int)) := by
  show some (Value.int .i64 (IntKind.i64.wrap ((m : Int) * 2 ^ min (7 * i) IntKind.i64.bits))) = _
  have e : min (7 * i) IntKind.i64.bits = 7 * i := by
    show min (7 * i) 64 = 7 * i
    omega
  rw [e]
  have e2 : (m : Int) * 2 ^ (7 * i) = ((m * 128 ^ i : Nat) : Int) := by
    rw [pow128]; push_cast; rfl
  have h1 := pow128_le hi
  have h2 : m * 128 ^ i ≤ 127 * 128 ^ 5 := Nat.mul_le_mul (by omega) h1
  rw [e2, wrapN (by omega)]
theorem or7 (x m i : Nat) (hx : x < 128 ^ i) (hm : m < 128) (hi : i ≤ 5) : IntKind.i64.wrap (((BitVec.ofInt IntKind.i64.bits (x : Int) ||| BitVec.ofInt IntKind.i64.bits ((m * 128 ^ i : Nat) : Int)).toNat : Nat) : Int) = ((x + m * 128 ^ i : Nat) : Int) := by
  have h1 := pow128_le hi
  have h2 : m * 128 ^ i ≤ 127 * 128 ^ 5 := Nat.mul_le_mul (by omega) h1
  have e : (BitVec.ofInt IntKind.i64.bits (x : Int) ||| BitVec.ofInt IntKind.i64.bits ((m * 128 ^ i : Nat) : Int)).toNat = x + m * 128 ^ i := by
    rw [BitVec.ofInt_natCast, BitVec.ofInt_natCast, BitVec.toNat_or, BitVec.toNat_ofNat, BitVec.toNat_ofNat]
    rw [show 2 ^ IntKind.i64.bits = 18446744073709551616 from rfl, Nat.mod_eq_of_lt (by omega), Nat.mod_eq_of_lt (by omega), Nat.or_comm]
    rw [pow128] at hx ⊢
    rw [Nat.mul_comm m, ← Nat.two_pow_add_eq_or_of_lt hx m, Nat.add_comm]
  rw [e, wrapN (by omega)]

/-- Of each operation is told that it is calm, but of some. -/
def calmBut (S : List Nat) : Nat → List Tch → Bool
  | _, [] => true
  | i, t :: ts => (S.contains i || calm t) && calmBut S (i + 1) ts
theorem calmBut_get {S : List Nat} : ∀ (ts : List Tch) (o i : Nat) (e : Tch), calmBut S o ts = true → ts[i]? = some e → S.contains (o + i) = false → calm e = true
  | [], _, _, _, _, h, _ => by simp at h
  | t :: ts, o, 0, e, hc, h, hs => by
    simp at h
    subst h
    simp only [calmBut, Bool.and_eq_true] at hc
    rw [Nat.add_zero] at hs
    rw [hs, Bool.false_or] at hc
    exact hc.1
  | t :: ts, o, i + 1, e, hc, h, hs => by
    simp only [calmBut, Bool.and_eq_true] at hc
    rw [List.getElem?_cons_succ] at h
    exact calmBut_get ts (o + 1) i e hc.2 h (by rw [show o + 1 + i = o + (i + 1) by omega]; exact hs)
/-- Some operations are not calm; each is ordered against all that are not told. -/
theorem allMeet_but {b : Array Nat} {ts : List Tch} (S : List Nat) (n : Nat) (U : List (Nat × Nat)) (hn : ts.length = n) (hc : calmBut S 0 ts = true) (hp : ((List.range n).all fun i => (List.range n).all fun j => !(Nat.blt i j) || !(S.contains i || S.contains j) || ordered b i j || U.contains (i, j)) = true)
    (hU : ∀ i j s t, (i, j) ∈ U → ts[i]? = some s → ts[j]? = some t → meets s t = true) : allMeet b ts = true := by
  refine allMeet_by S (fun i e hi hs => calmBut_get ts 0 i e hc hi (by rw [Nat.zero_add]; exact hs)) (fun i j s t hij hs w1 w2 ho => ?_)
  have hj : j < n := by rw [← hn]; exact (List.getElem?_eq_some_iff.1 w2).1
  exact hU i j s t (pairs_of hp hij hj hs ho) w1 w2
theorem allMeet_but0 {b : Array Nat} {ts : List Tch} (S : List Nat) (n : Nat) (hn : ts.length = n) (hc : calmBut S 0 ts = true) (hp : ((List.range n).all fun i => (List.range n).all fun j => !(Nat.blt i j) || !(S.contains i || S.contains j) || ordered b i j || ([] : List (Nat × Nat)).contains (i, j)) = true) : allMeet b ts = true :=
  allMeet_but S n [] hn hc hp (fun _ _ _ _ h => by cases h)
end Go.Hs
/- Kids that are collected. -/
namespace Go.Hs

theorem ap3_step {D : Tab} {E : Env} {h : H} {base : Nat} {t t2 e : TypeId} {sz by_ n kx c i6 i7 : Nat} {i8 : Option Value} {i9 : Bool} {s ze : Value} {xs cs : List Value} {ro : Option Nat} (f : Fit h) (hbn : base ≤ h.next) (ap : Ap2 h base e sz s n xs ro)
    (ht : D.ty.get t = some ⟨.slice e sz by_, i6, i7, i8, i9⟩) (hz : tzero D e = some ze) (hzz : (Nat.beq ze.cells.toList.length sz && Nat.blt 0 sz && ze.cells.toList.all isOne) = true) (hzt : zeroArg D t2 (.slice (some (own kx)) 1 c) = some false)
    (hx : h.cells E (own kx) sz = some cs) (hcl : cs.length = sz) (hc1 : cs.all isOne = true) (hrm : roomy (n + 1) by_ = true) :
    ∃ s' h' ro', aappend D E t t2 s (.slice (some (own kx)) 1 c) h = some (s', h') ∧ Ap2 h' base e sz s' (n + 1) (xs ++ cs) ro' ∧ Grew base ro h h' ∧ (ro = none ∧ ro' = some h.next ∨ ro ≠ none ∧ ro' = ro) ∧ s' = .slice (some (own h.next)) (n + 1) (n + 1) ∧ h'.next = h.next + 1 ∧ (∀ j ∈ h'.chain (ro'.getD 0), j = h.next ∨ ∃ ys ty p, h'.dyn.get j = some (.cells ys ty (some (ro'.getD 0, p))) ∧ p + ys.length ≤ n * sz) := by
  have hel : aelems E sz ze.cells.toList (.slice (some (own kx)) 1 c) h = some (1, cs) := by
    simp only [aelems, Nat.one_mul, hx]
  have hbl : Nat.beq cs.length (1 * sz) = true := by rw [Nat.one_mul, hcl]; exact Nat.beq_refl sz
  have hsz : 0 < sz := by
    simp only [Bool.and_eq_true, Nat.blt_eq] at hzz
    exact hzz.1.2
  rcases ap with ⟨rfl, rfl, rfl, rfl⟩ | ⟨k, r, rfl, hb, hl, h1, hbr, hrx, hch, rfl⟩
  · refine ⟨.slice (some (own h.next)) 1 1, h.newOpen cs e, some h.next, ?_, .inr ⟨h.next, h.next, rfl, ?_, ?_, ?_, hbn, Nat.lt_succ_self _, ?_, rfl⟩, ⟨newOpen_fit f, fun k B hb _ => newOpen_old f hb, rfl, rfl, Nat.le_succ _, fun r hr => ?_⟩, .inl ⟨rfl, rfl⟩, rfl, rfl, fun j hj => .inl (by simpa only [H.chain, H.newOpen, T.get_set_same, Option.getD, List.mem_singleton] using hj)⟩
    · unfold aappend
      rw [ht]
      simp only [hz, hzt, hzz, hel, hbl, hrm]
    · exact newOpen_new
    · rw [List.nil_append]; simp [hcl]
    · rw [List.nil_append]; exact hc1
    · intro j hj
      simp only [H.chain, H.newOpen, T.get_set_same, Option.getD, List.mem_singleton] at hj
      subst hj
      exact ⟨cs, e, 0, T.get_set_same _ _ _, by simp [hcl]⟩
    · simp only [H.chain, H.newOpen]
      rw [T.get_set_ne _ _ _ _ (by omega)]
  · have hkn := f.lt hb
    have hd := H.blk_dyn hb
    have hrn := f.ok.1 _ _ _ _ _ hd
    have hgr : h.grow e r (0 + (own k).off) (n * sz) (own k).block (xs.drop (own k).off) cs = { h with next := h.next + 1, dyn := h.dyn.set h.next (.cells (xs ++ cs) e (some (r, 0))), chains := h.chains.set r (h.next :: h.spare r k (0 + n * sz) (0 + n * sz + cs.length)) } := by
      unfold H.grow
      simp only [own, Nat.add_zero, List.drop_zero]
      have hgone : h.gone r k (0 + n * sz) (0 + n * sz + cs.length) = [] := by
        rw [List.eq_nil_iff_forall_not_mem]
        intro j hj
        obtain ⟨hj1, hj2⟩ := mem_gone.1 hj
        obtain ⟨ys, ty, p, hd, hle⟩ := hch j hj1
        unfold H.hits at hj2
        split at hj2
        · cases hj2
        · rw [hd] at hj2
          simp only [Bool.and_eq_true, Nat.blt_eq] at hj2
          omega
      rw [hgone]
      exact note_nil _
    generalize hg : ({ h with next := h.next + 1, dyn := h.dyn.set h.next (.cells (xs ++ cs) e (some (r, 0))), chains := h.chains.set r (h.next :: h.spare r k (0 + n * sz) (0 + n * sz + cs.length)) } : H) = g at hgr
    have hcr : g.chain r = h.next :: h.spare r k (0 + n * sz) (0 + n * sz + cs.length) := by
      rw [← hg]; simp only [H.chain, T.get_set_same, Option.getD]
    have hcn : ∀ r', r' ≠ r → g.chain r' = h.chain r' := by
      intro r' hr'
      rw [← hg]; simp only [H.chain]; rw [T.get_set_ne _ _ _ _ hr']
    have hgn : g.next = h.next + 1 := by rw [← hg]
    have hnew : g.blk h.next = some (.cells (xs ++ cs) e (some (r, 0))) := by
      have hdd : g.dyn.get h.next = some (.cells (xs ++ cs) e (some (r, 0))) := by rw [← hg]; exact T.get_set_same _ _ _
      unfold H.blk
      rw [hdd]
      simp only [hcr, List.contains_cons, beq_self_eq_true, Bool.true_or]
    have hold : ∀ j, j ≠ h.next → g.dyn.get j = h.dyn.get j := by
      intro j hj
      rw [← hg]; exact T.get_set_ne _ _ _ _ hj
    refine ⟨.slice (some (own h.next)) (n + 1) (n + 1), g, some r, ?_, .inr ⟨h.next, r, rfl, hnew, ?_, ?_, hbr, by rw [hgn]; omega, ?_, rfl⟩, ⟨⟨fun j hj => ?_, fun j ys ty r' p hd' => ?_, ?_⟩, ?_, ?_, ?_, ?_, ?_⟩, .inr ⟨by simp, rfl⟩, rfl, hgn, fun j hj => ?_⟩
    · unfold aappend
      rw [ht]
      simp only [hz, hzt, hzz, hel, hbl, hrm]
      have e1 : (own k).spot = some 0 := rfl
      have e2 : (own k).block = k := rfl
      have e3 : (own k).off = 0 := rfl
      have e4 : Nat.ble (n + 1) n = false := by
        cases hq : Nat.ble (n + 1) n
        · rfl
        · rw [Nat.ble_eq] at hq; omega
      simp only [e1, e2, hb, e4]
      have e5 : (Nat.beq n n && Nat.beq ((own k).off + n * sz) xs.length && Nat.beq e e && (xs.drop (own k).off).all isOne && Nat.ble (own k).off xs.length) = true := by
        rw [e3, Nat.zero_add, hl, List.drop_zero, h1, Nat.beq_refl, Nat.beq_refl, Nat.beq_refl]
        simp [Nat.ble]
      simp only [e5]
      rw [← hgr]; rfl
    · rw [List.length_append, hl, hcl]; rw [Nat.add_mul, Nat.one_mul]
    · rw [List.all_append, h1, hc1]; rfl
    · intro j hj
      rw [hcr] at hj
      rcases List.mem_cons.1 hj with rfl | hj
      · exact ⟨xs ++ cs, e, 0, H.blk_dyn hnew, by rw [List.length_append, hl, hcl, Nat.add_mul, Nat.one_mul]; omega⟩
      · obtain ⟨ys, ty, p, hd, hle⟩ := hch j (mem_spare.1 hj).1
        have hjn : j ≠ h.next := by
          intro e
          subst e
          rw [f.free _ (Nat.le_refl _)] at hd; cases hd
        refine ⟨ys, ty, p, by rw [hold j hjn]; exact hd, ?_⟩
        rw [Nat.add_mul]; omega
    · rw [hgn] at hj
      rw [hold j (by omega)]; exact f.free j (by omega)
    · rw [hgn]
      by_cases hj : j = h.next
      · subst hj
        have := H.blk_dyn hnew
        rw [this] at hd'; cases hd'; omega
      · rw [hold j hj] at hd'
        have := f.ok.1 _ _ _ _ _ hd'; omega
    · rw [hgn]
      have := f.ok.2
      rw [← hg]; exact Nat.le_succ_of_le this
    · intro j B hbj hro
      have hjn := f.lt hbj
      rw [← hbj]
      refine blk_congr (hold j (by omega)) (fun ys u r' q hd' => ?_)
      have : B = .cells ys u (some (r', q)) := by
        have := H.blk_dyn hbj
        rw [hd'] at this; cases this; rfl
      have hne := hro _ _ _ _ this
      rw [hcn r' (fun h => hne (by rw [h]))]
    · rw [← hg]
    · rw [← hg]
    · rw [hgn]; omega
    · intro r' hr'
      exact hcn r' (by omega)
    · simp only [Option.getD] at hj ⊢
      rw [hcr] at hj
      rcases List.mem_cons.1 hj with rfl | hj
      · exact .inl rfl
      · obtain ⟨ys, ty, p, hd, hle⟩ := hch j (mem_spare.1 hj).1
        have hjn : j ≠ h.next := by
          intro e
          subst e
          rw [f.free _ (Nat.le_refl _)] at hd; cases hd
        exact .inr ⟨ys, ty, p, by rw [hold j hjn]; exact hd, hle⟩

theorem put_chain {g : H} {k r0 o : Nat} {vs xs : List Value} {e : TypeId} (f : Fit g) (hb : g.blk k = some (.cells xs e (some (r0, 0)))) (hch : ∀ j ∈ g.chain r0, j = k ∨ ∃ ys ty p, g.dyn.get j = some (.cells ys ty (some (r0, p))) ∧ p + ys.length ≤ o) (hv : vs ≠ []) (hl : o + vs.length ≤ xs.length) (h1 : vs.all isOne = true) :
    ∃ q, (fresh g).put (aadd (own k) o) vs = some q ∧ q.log = [k] ∧ q.next = g.next ∧ Fit (back g q) ∧ (back g q).blk k = some (.cells (xs.take o ++ vs ++ xs.drop (o + vs.length)) e (some (r0, 0))) ∧ (∀ j, j ≠ k → (back g q).blk j = g.blk j) ∧ (∀ r, (back g q).chain r = g.chain r) ∧ (g.mark ≤ k → (back g q).log = g.log) := by
  have hkn := f.lt hb
  have hkc : (g.chain r0).contains k = true := by
    have hd := H.blk_dyn hb
    unfold H.blk at hb
    rw [hd] at hb
    simp only at hb
    split at hb
    · assumption
    · cases hb
  have hnh : ∀ j ∈ g.chain r0, g.hits k (0 + o) (0 + o + vs.length) j = false := by
    intro j hj
    rcases hch j hj with rfl | ⟨ys, ty, p, hd, hle⟩
    · unfold H.hits
      rw [Nat.beq_refl]
    · unfold H.hits
      split
      · rfl
      · rw [hd]
        simp only
        have : Nat.blt (0 + o) (p + ys.length) = false := by
          cases q : Nat.blt (0 + o) (p + ys.length)
          · rfl
          · rw [Nat.blt_eq] at q; omega
        rw [this]; rfl
  have hsp : g.spare r0 k (0 + o) (0 + o + vs.length) = g.chain r0 := by
    unfold H.spare
    rw [List.filter_eq_self]
    intro j hj
    rw [hnh j hj]; rfl
  have hgn : g.gone r0 k (0 + o) (0 + o + vs.length) = [] := by
    unfold H.gone
    rw [List.filter_eq_nil_iff]
    intro j hj
    rw [hnh j hj]; simp
  have hput : (fresh g).put (aadd (own k) o) vs = some (({ fresh g with dyn := g.dyn.set k (.cells (xs.take o ++ vs ++ xs.drop (o + vs.length)) e (some (r0, 0))), chains := g.chains.set r0 (g.chain r0) } : H).note [k]) := by
    have hb' : (fresh g).blk k = some (.cells xs e (some (r0, 0))) := hb
    have hsp' : (fresh g).spare r0 k (0 + o) (0 + o + vs.length) = g.chain r0 := hsp
    have hgn' : (fresh g).gone r0 k (0 + o) (0 + o + vs.length) = [] := hgn
    unfold H.put
    cases vs with
    | nil => exact absurd rfl hv
    | cons v vs =>
      simp only [aadd, own, Nat.zero_add, hb'] at hsp' hgn' ⊢
      rw [h1, show Nat.ble (o + (v :: vs).length) xs.length = true from by rw [Nat.ble_eq]; exact hl]
      simp only [Bool.and_self, hsp', hgn']
      rfl
  obtain ⟨m, hm1, hm2⟩ : ∃ m, g.next = m + 1 ∧ k ≤ m := by cases hn : g.next with | zero => omega | succ m => exact ⟨m, rfl, by omega⟩
  have hble : Nat.ble k m = true := by rw [Nat.ble_eq]; exact hm2
  generalize hB : (Blk.cells (xs.take o ++ vs ++ xs.drop (o + vs.length)) e (some (r0, 0))) = B at hput
  have hq : (({ fresh g with dyn := g.dyn.set k B, chains := g.chains.set r0 (g.chain r0) } : H).note [k]) = { g with dyn := g.dyn.set k B, chains := g.chains.set r0 (g.chain r0), mark := g.next, log := [k] } := by
    unfold H.note
    have : ({ fresh g with dyn := g.dyn.set k B, chains := g.chains.set r0 (g.chain r0) } : H).mark = m + 1 := hm1
    rw [this]
    simp only [List.filter_cons, hble, if_true, List.filter_nil]
    rw [← hm1]
    rfl
  rw [hq] at hput
  generalize hqq : ({ g with dyn := g.dyn.set k B, chains := g.chains.set r0 (g.chain r0), mark := g.next, log := [k] } : H) = q at hput
  have hqn : q.next = g.next := by rw [← hqq]
  have hql : q.log = [k] := by rw [← hqq]
  have hqd : q.dyn = g.dyn.set k B := by rw [← hqq]
  have hqc : ∀ r, q.chain r = g.chain r := by
    intro r
    rw [← hqq]
    simp only [H.chain, T.get_set]
    split
    · next h => subst h; rfl
    · rfl
  have hfq : Fit q := by
    refine ⟨fun j hj => ?_, ⟨fun j ys ty r p hd => ?_, ?_⟩⟩
    · rw [hqn] at hj
      rw [hqd, T.get_set_ne _ _ _ _ (by omega)]; exact f.free j hj
    · rw [hqn]
      rw [hqd] at hd
      by_cases hj : j = k
      · subst hj
        rw [T.get_set_same, ← hB] at hd
        cases hd; exact f.ok.1 _ _ _ _ _ (H.blk_dyn hb)
      · rw [T.get_set_ne _ _ _ _ hj] at hd
        exact f.ok.1 _ _ _ _ _ hd
    · rw [← hqq]; exact Nat.le_refl _
  refine ⟨q, hput, hql, hqn, back_fit f hfq (by rw [hqn]; exact Nat.le_refl _), ?_, fun j hj => ?_, fun r => by rw [back_chain]; exact hqc r, fun hm => ?_⟩
  · rw [back_blk]
    have hdd : q.dyn.get k = some B := by rw [hqd]; exact T.get_set_same _ _ _
    unfold H.blk
    rw [hdd, ← hB]
    simp only [hqc]
    rw [hkc]
  · rw [back_blk]
    refine blk_congr (by rw [hqd, T.get_set_ne _ _ _ _ hj]) (fun _ _ r _ _ => by rw [hqc])
  · unfold back
    rw [note_above]
    intro j hj
    rw [hql] at hj
    obtain rfl := List.mem_singleton.1 hj
    exact hm

/-- Behind an append, a heap that is ahead of another but for some blocks stays it. -/
theorem Mod.grew {M : Nat → Prop} {h g q : H} {base : Nat} {ro : Option Nat} (f : Fit h) (m : Mod M h g) (hb : h.next ≤ base) (hro : ∀ r, ro = some r → base ≤ r) (t : Grew base ro g q) : Mod M h q :=
  ⟨t.fit, fun k B hk hB => t.keep k B (m.blk k B hk hB) (fun xs ty r p he hr => by
    subst he
    have h1 := f.ok.1 _ _ _ _ _ (H.blk_dyn hB)
    have := hro r hr
    omega), t.mark.trans m.mark, Nat.le_trans m.next t.next, fun r hr => (t.chain r (by omega)).trans (m.chain r hr), fun j hj => by rw [t.log] at hj; exact m.log j hj⟩

section
variable {D : Tab} {E : Env} {ti : TypeId}

/-- Kids that were collected from some heap on. -/
def Kol (E : Env) (ti : TypeId) (base top : Nat) (g : H) (sl : Value) (ks : List Item) : Prop :=
  ∃ xs ro, Ap2 g base ti 4 sl ks.length xs ro ∧ repL E (only (fun r => Nat.ble base r && !(ro == some r)) g) ks xs ∧ ∀ r, ro = some r → base ≤ r ∧ r < top

theorem Kol.nil (base top : Nat) (g : H) : Kol E ti base top g (.slice none 0 0) [] := ⟨[], none, .inl ⟨rfl, rfl, rfl, rfl⟩, by rw [repL], fun _ h => by cases h⟩
theorem Kol.mod {M : Nat → Prop} {base top : Nat} {g g' : H} {sl : Value} {ks : List Item} (K : Kol E ti base top g sl ks) (f : Fit g) (m : Mod M g g') (hp : ∀ k B, M k → g.blk k = some B → B.plain = true) : Kol E ti base top g' sl ks := by
  obtain ⟨xs, ro, h1, h2, h3⟩ := K
  exact ⟨xs, ro, h1.mod m hp, repL_grow (only_mod f m hp (fun r h => h)) h2, h3⟩
theorem Kol.slice {base top : Nat} {g : H} {sl : Value} {ks : List Item} (K : Kol E ti base top g sl ks) : ∃ b, sl = .slice b ks.length ks.length := by
  obtain ⟨xs, ro, h1, _⟩ := K
  rcases h1 with ⟨e, _, rfl, _⟩ | ⟨k, r, rfl, _⟩
  · exact ⟨none, by rw [e]⟩
  · exact ⟨_, rfl⟩
theorem Kol.up {base top top' : Nat} {g : H} {sl : Value} {ks : List Item} (K : Kol E ti base top g sl ks) (h : top ≤ top') : Kol E ti base top' g sl ks := by
  obtain ⟨xs, ro, h1, h2, h3⟩ := K
  exact ⟨xs, ro, h1, h2, fun r hr => ⟨(h3 r hr).1, Nat.lt_of_lt_of_le (h3 r hr).2 h⟩⟩
theorem len_iszR : ∀ ks : List Item, ks.length ≤ iszL ks
  | [] => Nat.zero_le _
  | x :: xs => by
    have := len_iszR xs
    have h1 : 1 ≤ isz x := by obtain ⟨_, _, _, _⟩ := x; rw [isz]; omega
    rw [iszL, List.length_cons]; omega
/-- Kids that were collected, as those of an item. -/
theorem Kol.rep {base top : Nat} {g : H} {sl : Value} {ks : List Item} (K : Kol E ti base top g sl ks) (f : Fit g) (hz : ks.length < 1000000000) (k m : Int) (tx : ByteArray) {lo : Nat} (hlo : lo ≤ base) : Hs.rep E (only (fun r => Nat.ble lo r) g) (.mk k m tx ks) (.agg ⟨[.int .i64 k, .int .i64 m, .string tx, sl]⟩) := by
  obtain ⟨xs, ro, h1, h2, h3⟩ := K
  rw [Hs.rep]
  refine ⟨sl, rfl, ?_⟩
  rcases h1 with ⟨e1, _, e2, _⟩ | ⟨kk, r, q1, q2, q3, q4, q5, q6, q7, q8⟩
  · exact .inl ⟨List.length_eq_zero_iff.1 e1, e2⟩
  · refine .inr ⟨own kk, ks.length, xs, q1, ⟨Nat.le_refl _, by omega⟩, ?_, ?_⟩
    · exact blk_cells ((only_blk f).2 ⟨q2, _, _, _, _, rfl, by rw [Nat.ble_eq]; omega⟩) q3 q4
    · refine repL_grow (only_sub f (fun r hh => ?_)) h2
      simp only [Bool.and_eq_true, Nat.ble_eq] at hh
      rw [Nat.ble_eq]; omega

/-- What holds behind an append of one of the Kids, or of room for it. -/
def Aps (base : Nat) (g q : H) : Prop := ∃ ro, (∀ r, ro = some r → base ≤ r) ∧ Grew base ro g q
theorem Aps.fit {base : Nat} {g q : H} (a : Aps base g q) : Fit q := by obtain ⟨_, _, t⟩ := a; exact t.fit
theorem Aps.log {base : Nat} {g q : H} (a : Aps base g q) : q.log = g.log := by obtain ⟨_, _, t⟩ := a; exact t.log
theorem Aps.next {base : Nat} {g q : H} (a : Aps base g q) : g.next ≤ q.next := by obtain ⟨_, _, t⟩ := a; exact t.next
theorem Aps.keep {base : Nat} {g q : H} (a : Aps base g q) {k : Nat} {xs : List Value} {ty : TypeId} (hk : g.blk k = some (.cells xs ty none)) : q.blk k = some (.cells xs ty none) := by
  obtain ⟨_, _, t⟩ := a
  exact t.keep k _ hk (fun _ _ _ _ he => by cases he)
theorem Aps.mod {base : Nat} {g q : H} (a : Aps base g q) {M : Nat → Prop} {h : H} (f : Fit h) (hb : h.next ≤ base) (m : Mod M h g) : Mod M h q := by
  obtain ⟨_, hr, t⟩ := a
  exact m.grew f hb hr t
theorem Aps.back {base : Nat} {g q : H} (f : Fit g) (a : Aps base (fresh g) q) : Aps base g (Hs.back g q) := by
  obtain ⟨ro, hr, t⟩ := a
  have hl : q.log = [] := t.log
  exact ⟨ro, hr, back_fit f t.fit t.next, fun k B hB hro => by rw [back_blk]; exact t.keep k B hB hro, back_log hl, back_mark _ _, by rw [back_next]; exact t.next, fun r hr => by rw [back_chain]; exact t.chain r hr⟩
theorem Kol.fresh {base top : Nat} {g : H} {sl : Value} {ks : List Item} (K : Kol E ti base top g sl ks) : Kol E ti base top (Hs.fresh g) sl ks := by
  obtain ⟨xs, ro, h1, h2, h3⟩ := K
  exact ⟨xs, ro, h1, repL_grow (show Grows (only _ g) (only _ (Hs.fresh g)) from fun _ _ h => h) h2, h3⟩
theorem Kol.back {base top : Nat} {g q : H} {sl : Value} {ks : List Item} (K : Kol E ti base top q sl ks) (f : Fit g) (fq : Fit q) (hn : g.next ≤ q.next) : Kol E ti base top (Hs.back g q) sl ks := by
  obtain ⟨xs, ro, h1, h2, h3⟩ := K
  exact ⟨xs, ro, h1.back, repL_grow (back_only f fq hn _) h2, h3⟩
theorem rep_fresh {p : Nat → Bool} {g : H} {t : Item} {v : Value} (h : Hs.rep E (only p g) t v) : Hs.rep E (only p (Hs.fresh g)) t v := rep_grow (show Grows (only p g) (only p (Hs.fresh g)) from fun _ _ h => h) h
theorem meets_two {s t : Tch} {a b : Nat} (h1 : s.writes = [a]) (h2 : t.writes = [b]) (hne : a ≠ b) (r1 : s.reads = some []) (r2 : t.reads = some []) (ht : t.rooted = false) (hb : b < s.lo) : meets s t = true := by
  unfold meets
  rw [h1, h2, r1, r2, ht]
  have e1 : Nat.beq a b = false := by
    cases q : Nat.beq a b
    · rfl
    · exact absurd (Nat.eq_of_beq_eq_true q) hne
  have e2 : Nat.blt b s.lo = true := by rw [Nat.blt_eq]; exact hb
  simp [apart?, e1, e2]

/-- One of the Kids is appended. -/
theorem kol_step {t t2 by_ kx c i6 i7 : Nat} {i8 : Option Value} {i9 : Bool} {ze : Value} {base top lo : Nat} {g : H} {sl : Value} {ks : List Item} {x : Item} {va vb vc vd : Value} (f : Fit g) (hbn : base ≤ g.next) (K : Kol E ti base top g sl ks) (htop : top ≤ lo) (hblo : base ≤ lo)
    (ht : D.ty.get t = some ⟨.slice ti 4 by_, i6, i7, i8, i9⟩) (hz : tzero D ti = some ze) (hzz : (Nat.beq ze.cells.toList.length 4 && Nat.blt 0 4 && ze.cells.toList.all isOne) = true) (hzt : zeroArg D t2 (.slice (some (own kx)) 1 c) = some false)
    (hr : Hs.rep E (only (fun r => Nat.ble lo r) g) x (.agg ⟨[va, vb, vc, vd]⟩)) (hx : g.cells E (own kx) 4 = some [va, vb, vc, vd]) (hone : [va, vb, vc, vd].all isOne = true) (hrm : roomy (ks.length + 1) by_ = true) :
    ∃ sl' q, aappend D E t t2 sl (.slice (some (own kx)) 1 c) g = some (sl', q) ∧ Kol E ti base q.next q sl' (ks ++ [x]) ∧ Aps base g q ∧ q.next = g.next + 1 := by
  obtain ⟨xs, ro, h1, h2, h3⟩ := K
  obtain ⟨s', q, ro', happ, ap4, gw, hroo, hs', hqn, _⟩ := ap3_step f hbn h1 ht hz hzz hzt hx rfl hone hrm
  have hro' : ∀ r, r < g.next → (ro == some r) = false → (ro' == some r) = false := by
    intro r a b
    rcases hroo with ⟨e1, e2⟩ | ⟨e1, e2⟩
    · rw [e2]
      have : g.next ≠ r := by omega
      simpa using this
    · rw [e2]; exact b
  have grow4 : ∀ (p : Nat → Bool), (∀ r, p r = true → Nat.ble base r = true ∧ (ro == some r) = false) → Grows (only p g) (only (fun r => Nat.ble base r && !(ro' == some r)) q) := by
    intro p hp kx B hb
    obtain ⟨e1, ys, ty, r, o, rfl, e2⟩ := (only_blk f).1 hb
    have hrl := f.ok.1 _ _ _ _ _ (H.blk_dyn e1)
    obtain ⟨e3, e4⟩ := hp r e2
    refine (only_blk gw.fit).2 ⟨gw.keep kx (.cells ys ty (some (r, o))) e1 ?_, ys, ty, r, o, rfl, ?_⟩
    · rintro _ _ _ _ he hr
      cases he
      rw [hr] at e4; simp at e4
    · simp only [Bool.and_eq_true, Bool.not_eq_true']
      exact ⟨e3, hro' r hrl e4⟩
  refine ⟨s', q, happ, ⟨xs ++ [va, vb, vc, vd], ro', by rw [List.length_append]; exact ap4, ?_, fun r hr => ?_⟩, ⟨ro, fun r hr => (h3 r hr).1, gw⟩, hqn⟩
  · refine repL_append (repL_grow (grow4 _ (fun r hr => by simpa using hr)) h2) (rep_grow (grow4 _ (fun r hr => ?_)) hr)
    rw [Nat.ble_eq] at hr
    refine ⟨by rw [Nat.ble_eq]; omega, ?_⟩
    cases hh : ro with
    | none => rfl
    | some r0 =>
      have := (h3 r0 hh).2
      have hne : r0 ≠ r := by omega
      simpa using hne
  · rcases hroo with ⟨e1, e2⟩ | ⟨e1, e2⟩
    · rw [e2] at hr; cases hr; exact ⟨hbn, by omega⟩
    · rw [e2] at hr
      rcases h1 with ⟨_, _, _, e3⟩ | ⟨_, rr, _, _, _, _, e5, e6, _, e8⟩
      · exact absurd e3 e1
      · rw [e8] at hr; cases hr; exact ⟨e5, by omega⟩

/-- Room for one of the Kids was appended. -/
def Room (E : Env) (ti : TypeId) (base lo nx : Nat) (g : H) (sl : Value) (ks : List Item) : Prop :=
  ∃ k r xs zs, sl = .slice (some (own k)) (ks.length + 1) (ks.length + 1) ∧ g.blk k = some (.cells (xs ++ zs) ti (some (r, 0))) ∧ xs.length = ks.length * 4 ∧ zs.length = 4 ∧ xs.all isOne = true ∧ base ≤ r ∧ r < g.next ∧ base ≤ k ∧ (∀ j ∈ g.chain r, j = k ∨ ∃ ys ty p, g.dyn.get j = some (.cells ys ty (some (r, p))) ∧ p + ys.length ≤ ks.length * 4) ∧ repL E (only (fun r' => Nat.ble base r' && !(some r == some r')) g) ks xs ∧ ∀ r', lo ≤ r' → r' < nx → r' ≠ r

theorem kol_room {t t2 by_ kx c i6 i7 : Nat} {i8 : Option Value} {i9 : Bool} {ze : Value} {base top lo : Nat} {g : H} {sl : Value} {ks : List Item} {zs : List Value} (f : Fit g) (hbn : base ≤ g.next) (K : Kol E ti base top g sl ks) (htop : top ≤ lo)
    (ht : D.ty.get t = some ⟨.slice ti 4 by_, i6, i7, i8, i9⟩) (hz : tzero D ti = some ze) (hzz : (Nat.beq ze.cells.toList.length 4 && Nat.blt 0 4 && ze.cells.toList.all isOne) = true) (hzt : zeroArg D t2 (.slice (some (own kx)) 1 c) = some false)
    (hx : g.cells E (own kx) 4 = some zs) (hlen : zs.length = 4) (hone : zs.all isOne = true) (hrm : roomy (ks.length + 1) by_ = true) :
    ∃ sl' q, aappend D E t t2 sl (.slice (some (own kx)) 1 c) g = some (sl', q) ∧ Room E ti base lo g.next q sl' ks ∧ Aps base g q ∧ q.next = g.next + 1 ∧ sl' = .slice (some (own g.next)) (ks.length + 1) (ks.length + 1) ∧ ∀ x v, Hs.rep E (only (fun r => Nat.ble lo r) g) x v → Hs.rep E (only (fun r => Nat.ble lo r && Nat.blt r g.next) q) x v := by
  obtain ⟨xs, ro, h1, h2, h3⟩ := K
  obtain ⟨s', q, ro', happ, ap4, gw, hroo, hs', hqn, hch⟩ := ap3_step f hbn h1 ht hz hzz hzt hx hlen hone hrm
  have hxl : xs.length = ks.length * 4 ∧ xs.all isOne = true := by
    rcases h1 with ⟨e1, e2, _⟩ | ⟨_, _, _, _, e3, e4, _⟩
    · rw [e1, e2]; exact ⟨rfl, rfl⟩
    · exact ⟨e3, e4⟩
  have hro' : ∀ r, r < g.next → (ro == some r) = false → (ro' == some r) = false := by
    intro r a b
    rcases hroo with ⟨e1, e2⟩ | ⟨e1, e2⟩
    · rw [e2]
      have : g.next ≠ r := by omega
      simpa using this
    · rw [e2]; exact b
  have grow4 : Grows (only (fun r => Nat.ble base r && !(ro == some r)) g) (only (fun r => Nat.ble base r && !(ro' == some r)) q) := by
    intro kx B hb
    obtain ⟨e1, ys, ty, r, o, rfl, e2⟩ := (only_blk f).1 hb
    have hrl := f.ok.1 _ _ _ _ _ (H.blk_dyn e1)
    simp only [Bool.and_eq_true, Bool.not_eq_true'] at e2
    obtain ⟨e3, e4⟩ := e2
    refine (only_blk gw.fit).2 ⟨gw.keep kx (.cells ys ty (some (r, o))) e1 ?_, ys, ty, r, o, rfl, ?_⟩
    · rintro _ _ _ _ he hr
      cases he
      rw [hr] at e4; simp at e4
    · simp only [Bool.and_eq_true, Bool.not_eq_true']
      exact ⟨e3, hro' r hrl e4⟩
  subst hs'
  rcases ap4 with ⟨e1, _⟩ | ⟨kk, r, q1, q2, q3, q4, q5, q6, q7, q8⟩
  · omega
  have hkk : kk = g.next := by
    simp only [Value.slice.injEq, Option.some.injEq, own, Addr.mk.injEq] at q1
    exact q1.1.1.symm
  subst hkk
  subst q8
  refine ⟨_, q, happ, ⟨g.next, r, xs, zs, rfl, q2, hxl.1, hlen, hxl.2, q5, q6, hbn, hch, repL_grow grow4 h2, fun r' a b e => ?_⟩, ⟨ro, fun r hr => (h3 r hr).1, gw⟩, hqn, rfl, fun x v hr => rep_grow (fun j B hj => ?_) hr⟩
  · subst e
    rcases hroo with ⟨_, e2⟩ | ⟨_, e2⟩
    · cases e2; omega
    · have := (h3 _ e2.symm).2
      omega
  · obtain ⟨e1, ys, ty, r', o, rfl, e2⟩ := (only_blk f).1 hj
    have hrl := f.ok.1 _ _ _ _ _ (H.blk_dyn e1)
    rw [Nat.ble_eq] at e2
    refine (only_blk gw.fit).2 ⟨gw.keep j _ e1 (fun _ _ _ _ he hr => ?_), ys, ty, r', o, rfl, by rw [Bool.and_eq_true, Nat.ble_eq, Nat.blt_eq]; exact ⟨e2, hrl⟩⟩
    cases he
    have := (h3 _ hr).2
    omega

/-- The room is filled. -/
theorem Room.back {base lo nx : Nat} {g q : H} {sl : Value} {ks : List Item} (R : Room E ti base lo nx q sl ks) (f : Fit g) (fq : Fit q) (hn : g.next ≤ q.next) : Room E ti base lo nx (Hs.back g q) sl ks := by
  obtain ⟨k, r, xs, zs, e1, hb, hxl, hzl, hx1, hbr, hrn, hbk, hch, hrp, hne⟩ := R
  exact ⟨k, r, xs, zs, e1, by rw [back_blk]; exact hb, hxl, hzl, hx1, hbr, by rw [back_next]; exact hrn, hbk, fun j hj => by
    rw [back_chain] at hj
    rw [back_dyn]; exact hch j hj, repL_grow (back_only f fq hn _) hrp, hne⟩
theorem kol_fill {base lo nx : Nat} {g : H} {sl : Value} {ks : List Item} {x : Item} {va vb vc vd : Value} (f : Fit g) (R : Room E ti base lo nx g sl ks) (hblo : base ≤ lo) (hr : Hs.rep E (only (fun r => Nat.ble lo r && Nat.blt r nx) g) x (.agg ⟨[va, vb, vc, vd]⟩)) (hone : [va, vb, vc, vd].all isOne = true) :
    ∃ k q, sl = .slice (some (own k)) (ks.length + 1) (ks.length + 1) ∧ (fresh g).put (aadd (own k) (ks.length * 4)) [va, vb, vc, vd] = some q ∧ q.log = [k] ∧ q.next = g.next ∧ base ≤ k ∧ k < g.next ∧ Kol E ti base g.next (back g q) sl (ks ++ [x]) ∧ Fit (back g q) ∧ (∀ j, j ≠ k → (back g q).blk j = g.blk j) ∧ ∀ M h, Fit h → h.next ≤ base → Mod M h g → Mod M h (back g q) := by
  obtain ⟨k, r, xs, zs, rfl, hb, hxl, hzl, hx1, hbr, hrn, hbk, hch, hrp, hne⟩ := R
  have hkn := f.lt hb
  obtain ⟨q, hput, hql, hqn, hqf, hqb, hqo, hqc, hqlog⟩ := put_chain (o := ks.length * 4) (vs := [va, vb, vc, vd]) f hb hch (by simp) (by rw [List.length_append, hxl, hzl]; exact Nat.le_refl _) hone
  have hys : (xs ++ zs).take (ks.length * 4) ++ [va, vb, vc, vd] ++ (xs ++ zs).drop (ks.length * 4 + [va, vb, vc, vd].length) = xs ++ [va, vb, vc, vd] := by
    rw [← hxl, List.take_left, List.drop_of_length_le (by rw [List.length_append, hzl]; exact Nat.le_refl _), List.append_nil]
  rw [hys] at hqb
  have hyl : (xs ++ [va, vb, vc, vd]).length = (ks.length + 1) * 4 := by
    rw [List.length_append, hxl, Nat.add_mul]; rfl
  have hdyn : ∀ j, j ≠ k → (back g q).dyn.get j = g.dyn.get j := by
    intro j hj
    rw [back_dyn]
    unfold H.put at hput
    simp only [aadd, own, Nat.zero_add] at hput
    rw [show (fresh g).blk k = some (.cells (xs ++ zs) ti (some (r, 0))) from hb] at hput
    simp only at hput
    split at hput
    · cases hput
      rw [H.note_dyn]
      exact T.get_set_ne _ _ _ _ hj
    · cases hput
  have grow : ∀ (p p' : Nat → Bool), (∀ r', p r' = true → p' r' = true) → (∀ j B, (only p g).blk j = some B → ∃ ys ty r' o, B = .cells ys ty (some (r', o)) ∧ r' ≠ r) → Grows (only p g) (only p' (back g q)) := by
    intro p p' hp hne j B hj
    obtain ⟨ys, ty, r', o, rfl, hrr⟩ := hne j B hj
    obtain ⟨e1, _, _, _, _, he, e2⟩ := (only_blk f).1 hj
    cases he
    refine (only_blk hqf).2 ⟨?_, ys, ty, r', o, rfl, hp _ e2⟩
    rw [hqo j ?_]
    · exact e1
    · intro e
      subst e
      rw [hb] at e1
      cases e1
      exact hrr rfl
  have gsub : ∀ j B, (only (fun r' => Nat.ble base r' && !(some r == some r')) g).blk j = some B → ∃ ys ty r' o, B = .cells ys ty (some (r', o)) ∧ r' ≠ r := by
    intro j B hj
    obtain ⟨_, ys, ty, r', o, rfl, e2⟩ := (only_blk f).1 hj
    refine ⟨ys, ty, r', o, rfl, fun e => ?_⟩
    subst e
    simp at e2
  refine ⟨k, q, rfl, hput, hql, hqn, hbk, hkn, ⟨xs ++ [va, vb, vc, vd], some r, ?_, ?_, fun r' hr' => by cases hr'; exact ⟨hbr, hrn⟩⟩, hqf, hqo, fun M h fh hhb m => ?_⟩
  · rw [List.length_append]
    refine .inr ⟨k, r, rfl, hqb, hyl, by rw [List.all_append, hx1, hone]; rfl, hbr, by rw [back_next, hqn]; exact hrn, fun j hj => ?_, rfl⟩
    rw [hqc] at hj
    by_cases hjk : j = k
    · subst hjk
      exact ⟨_, ti, 0, H.blk_dyn hqb, by rw [Nat.zero_add, hyl]; exact Nat.le_refl _⟩
    · rcases hch j hj with h | ⟨ys, ty, p, hd, hle⟩
      · exact absurd h hjk
      · refine ⟨ys, ty, p, by rw [hdyn j hjk]; exact hd, ?_⟩
        simp only [List.length_singleton]
        omega
  · refine repL_append (repL_grow (grow _ _ (fun r' h => h) gsub) hrp) (rep_grow ?_ hr)
    intro j B hj
    obtain ⟨e1, ys, ty, r', o, rfl, e2⟩ := (only_blk f).1 hj
    have hrr : r' ≠ r := by
      rw [Bool.and_eq_true, Nat.ble_eq, Nat.blt_eq] at e2
      exact hne r' e2.1 e2.2
    refine (only_blk hqf).2 ⟨?_, ys, ty, r', o, rfl, ?_⟩
    · rw [hqo j ?_]
      · exact e1
      · intro e
        subst e
        rw [hb] at e1
        cases e1
        exact hrr rfl
    · simp only [Bool.and_eq_true, Nat.ble_eq, Nat.blt_eq, Bool.not_eq_true'] at e2 ⊢
      refine ⟨by omega, ?_⟩
      have : r ≠ r' := fun e => hrr e.symm
      simpa using this
  · refine ⟨hqf, fun j B hj hB => ?_, (back_mark _ _).trans m.mark, by rw [back_next, hqn]; exact m.next, fun r' hr' => (hqc r').trans (m.chain r' hr'), fun j hj => ?_⟩
    · by_cases hjk : j = k
      · subst hjk
        have h1 := m.blk _ _ hj hB
        rw [hb] at h1
        cases h1
        have := fh.ok.1 _ _ _ _ _ (H.blk_dyn hB)
        omega
      · rw [hqo j hjk]; exact m.blk _ _ hj hB
    · rw [hqlog (by rw [m.mark]; have := fh.ok.2; omega)] at hj
      exact m.log j hj

/-- A part of a text: no memory is made. -/
theorem FQ.pureJ {v : Ev} {ops : Array Oper} {j : Nat} {o : Oper} {rest : List Oper} {A : Ac} {h : H} {x : Value} {Q : Ac → H → List Tch → Prop} (hg : o.guard = none) (ho : oper1 D E v A o (fresh h) = some (x, fresh h))
    (r : FQ D E v ops (j + 1) rest (A.put o.dst x) h (fun A' h' ts => Q A' h' (⟨reads D A o, [], h.next, h.next, rootedStore A h o.op⟩ :: ts))) : FQ D E v ops j (o :: rest) A h Q := by
  obtain ⟨A', h', ts, h2, hq⟩ := r
  refine ⟨A', h', _, ?_, hq⟩
  have ho' : oper1 D E v A o { h with mark := h.next, log := [] } = some (x, fresh h) := ho
  have hn : Nat.beq (fresh h).next h.next = true := Nat.beq_refl _
  simp only [runFree, awant_none hg, ho', hn, Bool.or_true, Bool.true_or]
  have h2' : runFree D E v ops (j + 1) rest (A.put o.dst x) ({ (fresh h) with mark := h.mark, log := h.log }.note (fresh h).log) = some (A', h', ts) := by
    have e : ({ (fresh h) with mark := h.mark, log := h.log } : H).note (fresh h).log = h := back_fresh h
    rw [e]; exact h2
  rw [h2']
  rfl
end
end Go.Hs
/- Bytes in memory; operations of drawn regions that are left out. -/
namespace Go.Hs
section
variable {D : Tab} {E : Env}

theorem FQ.skipG {v : Ev} {ops : Array Oper} {j : Nat} {o : Oper} {rest : List Oper} {A : Ac} {h : H} {Q : Ac → H → List Tch → Prop} {i : Nat} {w : Bool} {d : Tmp} (hg : o.guard = some (i, w)) (hd : (ops[i]?).bind (·.dst) = some d) (hv : A.get d = .bool (!w))
    (r : FQ D E v ops (j + 1) rest (A.put o.dst undef) h (fun A' h' ts => Q A' h' (⟨some [], [], h.next, h.next, false⟩ :: ts))) : FQ D E v ops j (o :: rest) A h Q := by
  obtain ⟨A', h', ts, h2, hq⟩ := r
  refine ⟨A', h', _, ?_, hq⟩
  have hw : awant ops A o = false := by
    unfold awant
    rw [hg]
    simp only [ayield_get, hd, hv]
    cases w <;> rfl
  simp only [runFree, hw, h2]
theorem FC.skipG {v : Ev} {ops : Array Oper} {j : Nat} {o : Oper} {rest : List Oper} {A : Ac} {h : H} {Q : Ac → H → Prop} {i : Nat} {w : Bool} {d : Tmp} (hg : o.guard = some (i, w)) (hd : (ops[i]?).bind (·.dst) = some d) (hv : A.get d = .bool (!w))
    (r : FC D E v ops (j + 1) rest (A.put o.dst undef) h Q) : FC D E v ops j (o :: rest) A h Q :=
  FQ.skipG hg hd hv (r.mono fun _ _ _ ⟨a, b⟩ => ⟨by rw [List.all_cons, a]; rfl, b⟩)

/-- Bytes in memory. -/
def Byt (E : Env) (h : H) (v : Value) (bs : List UInt8) : Prop := (v = .slice none 0 0 ∧ bs = []) ∨ ∃ a c, v = .slice (some a) bs.length c ∧ bs.length ≤ c ∧ h.cells E a bs.length = some (bytesV bs)
theorem Byt.grow {h g : H} {v : Value} {bs : List UInt8} (b : Byt E h v bs) (hg : Grows h g) : Byt E g v bs := by
  rcases b with b | ⟨a, c, h1, h2, h3⟩
  · exact .inl b
  · exact .inr ⟨a, c, h1, h2, cells_grow hg h3⟩
theorem Byt.slice {h : H} {v : Value} {bs : List UInt8} (b : Byt E h v bs) : ∃ a c, v = .slice a bs.length c := by
  rcases b with ⟨rfl, rfl⟩ | ⟨a, c, h1, _, _⟩
  · exact ⟨none, 0, rfl⟩
  · exact ⟨some a, c, h1⟩
theorem bytesV_length (bs : List UInt8) : (bytesV bs).length = bs.length := by simp [bytesV]
theorem bytesV_one (bs : List UInt8) : (bytesV bs).all isOne = true := by
  rw [List.all_eq_true]
  intro v hv
  simp only [bytesV, List.mem_map] at hv
  obtain ⟨b, _, rfl⟩ := hv
  rfl
theorem allBytes_bytesV : ∀ bs : List UInt8, allBytes (bytesV bs) = some bs
  | [] => rfl
  | b :: bs => by
    have e : bytesV (b :: bs) = .int .u8 (b.toNat : Nat) :: bytesV bs := rfl
    rw [e, allBytes, allBytes_bytesV bs]
    simp
theorem bytesV_get {bs : List UInt8} {i : Nat} {c : UInt8} (h : bs[i]? = some c) : (bytesV bs)[i]? = some (.int .u8 (c.toNat : Nat)) := by
  simp only [bytesV, List.getElem?_map, h, Option.map_some]
theorem bytesV_sub (bs : List UInt8) (p n : Nat) : ((bytesV bs).drop p).take n = bytesV ((bs.drop p).take n) := by
  simp only [bytesV, List.map_drop, List.map_take]

/-- One of several cells. -/
theorem cells_cell {h : H} {a : Addr} {n i : Nat} {cs : List Value} {v : Value} (hc : h.cells E a n = some cs) (hi : i < n) (hv : cs[i]? = some v) : h.cell E (aadd a i) = some v := by
  have h1 := cells_sub hc (m := i) (l := 1) (by omega)
  have hl : i < cs.length := (List.getElem?_eq_some_iff.1 hv).1
  have e : (cs.drop i).take 1 = [v] := by
    rw [List.drop_eq_getElem_cons hl, List.take_succ_cons, List.take_zero, (List.getElem?_eq_some_iff.1 hv).2]
  rw [e] at h1
  generalize aadd a i = b at h1
  obtain ⟨k, o, sp⟩ := b
  match sp, h1 with
  | none, h1 =>
    have h1 : (match one? (E k o) with | some v => (match some [] with | some vs => some (v :: vs) | none => none) | none => none : Option (List Value)) = some [v] := h1
    show one? (E k o) = some v
    split at h1
    · next w hw =>
      cases h1
      rw [hw]
    · cases h1
  | some (_ + 1), h1 => cases h1
  | some 0, h1 =>
    have h1 : (match h.blk k with | some (.cells xs _ _) => (match Nat.ble (o + 1) xs.length && ((xs.drop o).take 1).all isOne with | true => some ((xs.drop o).take 1) | false => none) | _ => none : Option (List Value)) = some [v] := h1
    show (match h.blk k with | some (.cells xs _ _) => one? xs[o]? | _ => none) = some v
    cases hb : h.blk k with
    | none => rw [hb] at h1; cases h1
    | some B => cases B with
      | cells xs ty rt =>
        rw [hb] at h1
        simp only at h1 ⊢
        split at h1
        · next hh =>
          have h1 := Option.some.inj h1
          simp only [Bool.and_eq_true, Nat.ble_eq] at hh
          have hlt : o < xs.length := by omega
          rw [List.drop_eq_getElem_cons hlt, List.take_succ_cons, List.take_zero] at h1 hh
          simp only [List.cons.injEq, and_true] at h1
          rw [List.getElem?_eq_getElem hlt, h1]
          rw [h1] at hh
          simp only [List.all_cons, List.all_nil, Bool.and_true] at hh
          simp only [one?, hh.2]
        · cases h1
      | _ => rw [hb] at h1; cases h1
end
end Go.Hs
/- Data that is handed in, as bytes that are read whatever the memory. -/
namespace Go.Hs
section
variable {H0 : Type} {enc : TypeId × Value → H0} {P : Program} {w : World} {sp : Nat → Bool} {held : Bool} {ts te : TypeId}

theorem byt_of_trod (hs : P.underlying ts = some (.slice te)) (he : P.underlying te = some (.int .u8)) (hc : P.cellsOf te = 1) {fuel : Nat} {cs : List Value} {x : DataW H0 × List MemPlace} (hx : DataW.trod enc P w 0 sp held fuel ts cs = some x) :
    ∃ c0, cs = [c0] ∧ foV (dec c0) = true ∧ ∃ bs : List UInt8, ∀ h, Byt (envOf w) h (dec c0) bs := by
  rcases DataW.trod_slice hs hx with ⟨rfl, _⟩ | ⟨a, len, cap, elems, rest, n', hn, rfl, _, _, hlc, hcap, hel, hele, _⟩
  · exact ⟨_, rfl, rfl, [], fun h => .inl ⟨rfl, rfl⟩⟩
  · have hd : ∃ a', dec (.slice (some a) len cap) = .slice (some a') len cap ∧ foV (.slice (some a') len cap) = true ∧ (a.spot = none → a' = a) := by
      unfold dec
      cases hsp : a.spot with
      | none => exact ⟨a, by simp only [hsp], by simp only [foV, hsp], fun _ => rfl⟩
      | some s => exact ⟨⟨a.block, a.off, some (s + 1)⟩, by simp only [hsp], rfl, (fun h => by cases h)⟩
    obtain ⟨a', hda, hfa, haa⟩ := hd
    refine ⟨_, rfl, by rw [hda]; exact hfa, ?_⟩
    have each : ∀ i, i < len → a.spot = none ∧ ∃ k : UInt8, envOf w a.block (a.off + i) = some (.int .u8 (k.toNat : Nat)) := by
      intro i hi
      have hb := hele i hi
      rw [hc, Nat.mul_one, List.getElem?_eq_getElem (by omega), Option.bind_eq_some_iff] at hb
      obtain ⟨ci, h1, h2⟩ := hb
      obtain ⟨d0, rfl, q0⟩ := cells1 h1
      obtain ⟨k, k1, _, kw⟩ := DataW.trod_int he h2
      replace k1 : d0 = .int .u8 k := by simpa using k1
      subst k1
      have kr : 0 ≤ k ∧ k ≤ 255 := by
        simp only [Lit.wf, Bool.and_eq_true, decide_eq_true_eq] at kw
        exact kw
      have hsp : a.spot = none := by
        by_cases hi0 : i = 0
        · rw [hi0] at q0
          simp only [Addr.add, if_true, World.cell?] at q0
          split at q0
          · split at q0
            · cases q0
            · next hh => simpa using hh
          · cases q0
        · have := hele 0 (by omega)
          rw [hc, List.getElem?_eq_getElem (by omega), Option.bind_eq_some_iff] at this
          obtain ⟨c0, g1, _⟩ := this
          obtain ⟨_, _, q0⟩ := cells1 g1
          simp only [Nat.zero_mul, Addr.add, if_true, World.cell?] at q0
          split at q0
          · split at q0
            · cases q0
            · next hh => simpa using hh
          · cases q0
      refine ⟨hsp, UInt8.ofNat k.toNat, ?_⟩
      have ha : a = ⟨a.block, a.off, none⟩ := by cases a; simp_all
      rw [ha] at q0
      simp only [Addr.add_plain] at q0
      have e : ((UInt8.ofNat k.toNat).toNat : Int) = k := by
        rw [UInt8.toNat_ofNat', Nat.mod_eq_of_lt (by omega)]
        omega
      rw [e]
      exact envOf_at q0 rfl
    have build : ∀ j, j ≤ len → ∃ bs : List UInt8, bs.length = j ∧ roCells (envOf w) a.block a.off j = some (bytesV bs) := by
      intro j
      induction j with
      | zero => intro _; exact ⟨[], rfl, rfl⟩
      | succ j ihj =>
        intro hj
        obtain ⟨bs, g1, g3⟩ := ihj (by omega)
        obtain ⟨_, k, g5⟩ := each j (by omega)
        refine ⟨bs ++ [k], by simp [g1], ?_⟩
        rw [show bytesV (bs ++ [k]) = bytesV bs ++ [.int .u8 (k.toNat : Nat)] by simp [bytesV]]
        refine roCells_append _ _ _ _ _ _ g3 ?_
        simp only [roCells, g5, one?, isOne]
    obtain ⟨bs, g1, g3⟩ := build len (Nat.le_refl _)
    refine ⟨bs, fun h => .inr ⟨a', cap, by rw [hda, g1], by omega, ?_⟩⟩
    cases hle : len with
    | zero =>
      subst hle
      obtain rfl := List.length_eq_zero_iff.1 g1
      rfl
    | succ m =>
      obtain ⟨hsp, _⟩ := each 0 (by omega)
      rw [haa hsp, g1, hle]
      unfold H.cells
      simp only [hsp]
      rw [← hle]; exact g3
end
end Go.Hs
