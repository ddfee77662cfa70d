/- A region whose order is open: stores, new blocks, and operations that may do what they like. -/
import Derived.Test.YtofijpbmbmbnhaaDoorHsad
import Derived.Lib.Bytealg
import Derived.Laws.Externs
set_option linter.unusedSimpArgs false
set_option linter.unusedVariables false
namespace Go.Hs
theorem put_log_exact {h g : H} {a : Addr} {vs : List Value} (hp : h.put a vs = some g) (hl : h.log = []) {k : Nat} (hk : k ∈ g.log) (hr : ∀ xs ty rp, h.blk a.block ≠ some (.cells xs ty (some rp))) : k = a.block ∧ ∃ xs ty, h.blk a.block = some (.cells xs ty none) := by
 unfold H.put at hp
 split at hp
 ·cases hp; rw [hl] at hk; cases hk
 ·split at hp
  ·split at hp
   ·next xs ty root hb =>
    split at hp
    ·simp only at hp
     split at hp
     ·cases hp
      refine ⟨?_, xs, ty, hb⟩
      unfold H.note at hk
      split at hk
      ·simp only [hl] at hk; cases hk
      ·simp only [hl, List.append_nil, List.mem_filter, List.mem_singleton] at hk
       exact hk.1
     ·exact absurd hb (hr _ _ _)
    ·cases hp
   ·cases hp
  ·cases hp
section
variable {P : Program} {D : Tab} {E : Env} {n0 : Nat} {ev : Ev} {ops : Array Oper} {φ0 : Ph} {hs : Nat → H} {As : Nat → Ac} {tc : Nat → Tch} {w0 : World} {d0 : List Deferred}
 {X : Nat → Prop} {h : H} {φ : Ph} {A : Ac} {a : Act} {w : World} {j : Nat} {o : Oper}
theorem store_parts {t : TypeId} {x y : Operand} {v : Value} {h g : H} (hp : aop D E A (.store t x y) h = some (v, g)) :
  v = undef ∧ ∃ a u vs, opv A x = some (.pointer (some a)) ∧ opv A y = some u ∧ h.put a vs = some g ∧ ∀ h2 g2 : H, h2.put a vs = some g2 → aop D E A (.store t x y) h2 = some (undef, g2) := by
 simp only [aop] at hp
 split at hp
 ·next a u hx hy =>
  split at hp
  ·next g' hst =>
   cases hp
   refine ⟨rfl, a, u, u.cells.toList, hx, hy, ?_, fun h2 g2 h3 => ?_⟩
   ·unfold astore at hst
    split at hst
    ·split at hst
     ·exact hst
     ·cases hst
    ·cases hst
   ·simp only [aop, hx, hy]
    unfold astore at hst ⊢
    split at hst
    ·split at hst
     ·next hd _ hb => (try simp only [hb]); rw [h3]
     ·cases hst
    ·cases hst
  ·cases hp
 ·cases hp
theorem Text.store_exact (K : Text D E n0 ev ops φ0 hs As tc) {i k : Nat} {p : Oper} (hp : ops[i]? = some p) (hw : awant ops (As i) p = true) (hst : isStore p.op = true) (hr : (tc i).rooted = false) (hk : k ∈ (tc i).writes) : ∃ xs ty, (hs i).blk k = some (.cells xs ty none) := by
 rcases K.step i p hp with ⟨h0, _⟩ | ⟨_, x, g, h1, _, h3, _, h2⟩
 ·rw [hw] at h0; cases h0
 ·rw [h2] at hk hr
  simp only at hk hr
  obtain ⟨dst, op, type, pos, after, guard⟩ := p
  cases op <;> first | (cases hst; done) | skip
  next t x y =>
  unfold oper1 at h1
  simp only at h1 hr
  obtain ⟨_, a, u, vs, e1, e2, e3, _⟩ := store_parts h1
  have hno : ∀ xs ty rp, (fresh (hs i)).blk a.block ≠ some (.cells xs ty (some rp)) := by
   intro xs ty rp he
   rw [fresh_blk] at he
   simp only [rootedStore, e1, he] at hr
   cases hr
  obtain ⟨h4, xs, ty, h5⟩ := put_log_exact e3 rfl hk hno
  subst h4
  exact ⟨xs, ty, h5⟩
theorem St.sim (T : D.Of P) (hv : EvOk P D E n0 ev) (S : St D E n0 ops φ0 hs As tc w0 d0 X h φ A a w) (ho : ops[j]? = some o) (hw : awant ops A o = true) {v : Value} {g : H} (hn : g.next = h.next) (h1 : oper1 D E ev A o h = some (v, g)) (b : Frame) (rest : List Nat) (k : List Item) (cs : List Frame) :
  ∃ w', okV φ v ∧ Tie D E n0 All φ g w' ∧ Kept φ w w' ∧ Steps P (lone (fput b a (.inRegion ops (j :: rest) :: k)) cs w) (lone (fput b (a.put o.dst (ren φ v)) (.inRegion ops rest :: k)) cs w') := by
 rw [← wanted_eq S.act] at hw
 obtain ⟨φ', w', g1, g2, g3, g4, g5⟩ := sim_step (P := P) (b := b) (k := k) (cs := cs) (rest := rest) ho (noDefer_of h1) hw (oper1_sim T hv S.tie S.act h1)
 have hφ : φ' = φ := by
  funext k
  rcases Nat.lt_or_ge k h.next with hlt | hge
  ·exact g3.1 k hlt
  ·rw [S.tie.next_none hge]
   exact g2.next_none (by omega)
 subst hφ
 exact ⟨w', g1, g2, g4, g5⟩
theorem St.store (T : D.Of P) (hv : EvOk P D E n0 ev) (K : Text D E n0 ev ops φ0 hs As tc) (S : St D E n0 ops φ0 hs As tc w0 d0 X h φ A a w) (ho : ops[j]? = some o) (hX : ¬ X j) (hD : Down ops X) (hp : ∀ i, ((Region.before ops).getD j 0).testBit i = true → X i)
  (hw : awant ops (As j) o = true) (hst : isStore o.op = true) (b : Frame) (rest : List Nat) (k : List Item) (cs : List Frame) :
  ∃ h' φ' A' a' w', St D E n0 ops φ0 hs As tc w0 d0 (fun i => X i ∨ i = j) h' φ' A' a' w' ∧ Steps P (lone (fput b a (.inRegion ops (j :: rest) :: k)) cs w) (lone (fput b a' (.inRegion ops rest :: k)) cs w') := by
 have hj := lt_of_op ho
 have hwA : awant ops A o = true := by rw [S.want_eq K ho hX hD hp]; exact hw
 obtain ⟨_, hop⟩ := S.opv_eq K ho hX hD hp
 rcases K.step j o ho with ⟨h0, _⟩ | ⟨_, x, g, h1, _, hback, hAs, htc⟩
 ·rw [hw] at h0; cases h0
 have hone : ∀ hh, oper1 D E ev (As j) o hh = aop D E A o.op hh := by
  intro hh
  rw [← oper1_congr hop]
  unfold oper1
  split
  ·next he => rw [he] at hst; cases hst
  ·rfl
 have hone' : ∀ hh, oper1 D E ev A o hh = aop D E A o.op hh := fun hh => by rw [oper1_congr hop]; exact hone hh
 rw [hone] at h1
 have hstore : ∃ t xo yo, o.op = .store t xo yo := by
  cases he : o.op <;> rw [he] at hst <;> first | exact ⟨_, _, _, rfl⟩ | cases hst
 obtain ⟨t, xo, yo, hoe⟩ := hstore
 have h1' := h1
 rw [hoe] at h1'
 obtain ⟨rfl, ad, u, vs, e1, e2, e3, e4⟩ := store_parts h1'
 have hnx : (hs (j + 1)).next = (hs j).next := by rw [hback, back_next, put_next e3]; rfl
 rcases put_spec e3 with ⟨rfl, rfl⟩ | ⟨xs, ty, root, xs', lo, hi, s1, s2, s3, s4, s5⟩
 ·-- nothing is stored
  have hw0 : (tc j).writes = [] := by rw [htc]; rfl
  have h2 : oper1 D E ev A o h = some (undef, h) := by
   rw [hone', hoe]
   exact e4 h h (by simp [H.put])
  obtain ⟨w', g1, g2, g3, g4⟩ := S.sim T hv ho hwA rfl h2 b rest k cs
  exact ⟨_, _, _, _, _, S.same K ho hX hD hp hAs g1 hnx hw0 g2 g3, g4⟩
 ·obtain ⟨ψ, w2, a2, R2, AT2, _⟩ := K.tie j (Nat.le_of_lt hj)
  have hk0 : (hs j).blk ad.block = some (.cells xs ty root) := s2
  have hlt0 : ad.block < (hs j).next := R2.blk_lt hk0
  have hin : ad.block ∈ (tc j).writes := by rw [htc]; exact s4 rfl hlt0
  have hφ0 : (φ ad.block).isSome = true := by
   have ok := (opv_run S.act e1).2
   rcases (show okA φ ad from ok) with h3 | h3 | ⟨_, h3⟩
   ·rw [s1] at h3; cases h3
   ·exact h3.2
   ·rw [s1] at h3; cases h3
  have ordW : ∀ {k i : Nat}, k ∈ (tc j).writes → i < ops.size → i ≠ j → k ∈ (tc i).writes → (X i ↔ i < j) := by
   intro k i hkj hi hne hki
   cases hor : ordered (Region.before ops) i j with
   | true => exact ordX hD hX hp hne hor
   | false => exact absurd hkj (K.unordW hi hj hne hor k hki)
  have condJ : ∀ {k : Nat}, k ∈ (tc j).writes → ∀ i, i < ops.size → k ∈ (tc i).writes → (X i ↔ i < j) := by
   intro k hkj i hi hki
   by_cases e : i = j
   ·subst e; exact ⟨fun h => absurd h hX, fun h => absurd h (Nat.lt_irrefl _)⟩
   ·exact ordW hkj hi e hki
  have hblk0 : h.blk ad.block = (hs j).blk ad.block := S.agree _ j (Nat.le_of_lt hj) hlt0 hφ0 (condJ hin)
  obtain ⟨g2, p1, p2, p3, p4⟩ := s5 h (by rw [fresh_blk]; exact hblk0)
  obtain ⟨g', q1, q2, q3, q4⟩ := s5 (fresh (hs j)) rfl
  rw [e3] at q1; cases q1
  have h2 : oper1 D E ev A o h = some (undef, g2) := by rw [hone', hoe]; exact e4 h g2 p1
  obtain ⟨w', g1, R', K', st⟩ := S.sim T hv ho hwA p2 h2 b rest k cs
  have hroot : ∀ r p, root = some (r, p) → (tc j).rooted = true := by
   intro r p hr
   rw [htc]
   subst hr
   have hx : opv (As j) xo = some (.pointer (some ad)) := by rw [← hop xo (by rw [hoe]; simp [Op.operands])]; exact e1
   simp only [rootedStore, hoe, hx, hk0]
  have hdyn1 : ∀ k, (hs (j + 1)).dyn.get k = if k = ad.block then some (.cells xs' ty root) else (hs j).dyn.get k := by
   intro k; rw [hback, back_dyn]; exact q3 k
  have hblk1 : ∀ k, (hs (j + 1)).blk k = if k = ad.block then some (.cells xs' ty root) else wipe root lo hi ((hs j).blk k) := by
   intro k; rw [hback, back_blk]; exact q4 k
  have sameJ : ∀ {k j' : Nat}, k ∈ (tc j).writes → j' ≤ ops.size → k < (hs j').next → (∀ i, i < ops.size → k ∈ (tc i).writes → ((X i ∨ i = j) ↔ i < j')) → (hs j').blk k = (hs (j + 1)).blk k := by
   intro k j' hkj hj' hk' hc
   refine K.same_at hj hj' (by rw [hnx]; exact K.w_lt hj hkj) hk' (fun i hi hki => ?_)
   rw [← hc i hi hki]
   by_cases e : i = j
   ·subst e; exact ⟨fun _ => .inr rfl, fun _ => by omega⟩
   ·have := ordW hkj hi e hki
    constructor
    ·intro h; exact .inl (this.2 (by omega))
    ·rintro (h | h)
     ·have := this.1 h; omega
     ·exact absurd h e
  refine ⟨g2, φ, A.put o.dst undef, a.put o.dst (ren φ undef), w', ?_, st⟩
  have hhd0 : h.dyn.get ad.block = some (.cells xs ty root) := H.blk_dyn (hblk0.trans hk0)
  refine ⟨R', by rw [p2]; exact S.next, S.act.put _ g1, by rw [Ac.put_n]; exact S.n, S.tmps_step K ho hX hD hp hAs, by rw [Ac.put_defers]; exact S.dfr, by rw [put_defers]; exact S.adfr, ?_, ?_, S.base, ?_, ?_, ?_, ?_, S.kept.on K' S.img, S.img⟩
  ·exact fun k hk => (S.dom k hk).imp id fun ⟨i, h1, h2⟩ => ⟨i, .inl h1, h2⟩
  ·intro i k hi hlt h1 h2
   rcases hi with hi | rfl
   ·exact S.tot i k hi hlt h1 h2
   ·omega
  ·-- agree
   intro k j' hj' hk' hks hc
   by_cases ek : k = ad.block
   ·subst ek
    rw [p4, if_pos rfl, sameJ hin hj' hk' hc, hblk1, if_pos rfl]
   ·rw [p4, if_neg ek]
    by_cases hkj : k ∈ (tc j).writes
    ·have hkn := K.w_lt hj hkj
     rw [S.agree k j (Nat.le_of_lt hj) hkn hks (condJ hkj), sameJ hkj hj' hk' hc, hblk1, if_neg ek]
    ·have hcX : ∀ i, i < ops.size → k ∈ (tc i).writes → (X i ↔ i < j') := by
      intro i hi hki
      rw [← hc i hi hki]
      refine ⟨.inl, fun h => h.resolve_right ?_⟩
      rintro rfl; exact hkj hki
     have hag := S.agree k j' hj' hk' hks hcX
     rw [← hag]
     cases root with
     | none => rfl
     | some rp =>
      obtain ⟨r, p⟩ := rp
      cases hb : h.blk k with
      | none => rfl
      | some B =>
       cases B with
       | cells ys u' rt =>
        cases rt with
        | none => rfl
        | some rq =>
         obtain ⟨r', p'⟩ := rq
         simp only [wipe]
         by_cases hit : r' = r ∧ lo < p' + ys.length ∧ p' < hi ∧ 0 < ys.length
         ·exfalso
          obtain ⟨er, hit'⟩ := hit
          subst er
          have hrj := hroot r' p rfl
          have hkd := H.blk_dyn hb
          have hkn : k < (hs j).next := by
           rcases S.lowr k _ _ _ _ hkd with (h3 | ⟨i, h3, h4, h5, h6⟩) | h3
           ·exact Nat.lt_of_lt_of_le h3 (K.mono (Nat.zero_le _) (Nat.le_of_lt hj))
           ·have hne : i ≠ j := fun e => hX (e ▸ h3)
            have hor : ordered (Region.before ops) i j = true := by
             cases hq : ordered (Region.before ops) i j
             ·exact absurd h5 (K.unordS ho hst h4 hne hq)
             ·rfl
            have := (ordX hD hX hp hne hor).1 h3
            exact Nat.lt_of_lt_of_le h6 (K.mono (by omega) (Nat.le_of_lt hj))
           ·rw [← h3]
            exact R2.root _ _ _ _ _ (H.blk_dyn hk0)
          have hsh := S.shape k j (Nat.le_of_lt hj) hkn hks
          have hcJ : ∀ i, i < ops.size → k ∈ (tc i).writes → (X i ↔ i < j) := by
           intro i hi hki
           have hne : i ≠ j := fun e => hkj (e ▸ hki)
           cases hor : ordered (Region.before ops) i j with
           | true => exact ordX hD hX hp hne hor
           | false =>
            exfalso
            have hnr : (tc i).rooted = false := by
             cases hq : (tc i).rooted
             ·rfl
             ·exact absurd ⟨hq, hrj⟩ (K.unordRoot hi hj hne hor)
            have hwi : awant ops (As i) ops[i] = true := by
             cases hq : awant ops (As i) ops[i]
             ·rw [(K.skip_writes (op_at hi) hq).1] at hki; cases hki
             ·rfl
            have hsi : isStore ops[i].op = true := by
             cases hq : isStore ops[i].op
             ·exfalso
              by_cases hqi : Quiet ops hs As i
              ·rw [K.quiet_writes hqi] at hki; cases hki
              ·refine K.unordS ho hst hi hne hor ⟨_, op_at hi, hwi, hq, fun hh => hqi ⟨_, op_at hi, hwi, hh⟩⟩
             ·rfl
            obtain ⟨zs, tz, hz⟩ := K.store_exact (op_at hi) hwi hsi hnr hki
            have h7 := K.shape_at (p := i) (q := j) (Nat.le_of_lt hi) (Nat.le_of_lt hj) (K.w_lt hi hki) hkn
            rw [H.blk_dyn hz, ← hsh, hkd] at h7
            simp [shapeOf] at h7
          have hagJ := S.agree k j (Nat.le_of_lt hj) hkn hks hcJ
          have h8 := K.keep hj hkn hkj
          rw [hblk1, if_neg ek, ← hagJ, hb] at h8
          simp only [wipe] at h8
          rw [if_pos ⟨trivial, hit'⟩] at h8
          cases h8
         ·rw [if_neg hit]
       | _ => rfl
  ·-- shapes
   intro k j' hj' hk' hks
   rw [p3]
   split
   ·next ek =>
    subst ek
    rw [K.shape_at (p := j) (Nat.le_of_lt hj) hj' hlt0 hk', H.blk_dyn hk0]
    simp only [shapeOf, s3]
   ·exact S.shape k j' hj' hk' hks
  ·exact fun k c b e hk => (S.low k c b e hk).imp Low.or id
  ·intro k ys u' r p hd
   rw [p3] at hd
   split at hd
   ·next ek =>
    subst ek
    cases hd
    exact (S.lowr _ _ _ _ _ hhd0).imp Low.or id
   ·exact (S.lowr _ _ _ _ _ hd).imp Low.or id
end
end Go.Hs
/- A region whose order is open: new blocks, and operations that may do what they like; the region. -/
namespace Go.Hs
def bare (r : Nat) : H := ⟨r, .nil, .nil, 0, []⟩
def newAt (h : H) (r : Nat) (B : Blk) : H := { h with dyn := h.dyn.set r B, chains := h.chains.set r (r :: h.chain r) }
theorem newAt_dyn (h : H) (r : Nat) (B : Blk) (k : Nat) : (newAt h r B).dyn.get k = if k = r then some B else h.dyn.get k := T.get_set _ _ _ _
theorem newAt_chain (h : H) (r : Nat) (B : Blk) (r' : Nat) : (newAt h r B).chain r' = if r' = r then r :: h.chain r else h.chain r' := by
 show ((h.chains.set r _).get r').getD [] = _
 rw [T.get_set]
 split <;> rfl
theorem newAt_blk (h : H) (r : Nat) (B : Blk) (hB : ∀ xs ty rr p, B = .cells xs ty (some (rr, p)) → rr = r) (k : Nat) : (newAt h r B).blk k = if k = r then some B else h.blk k := by
 by_cases e : k = r
 ·subst e
  rw [if_pos rfl]
  have hd : (newAt h k B).dyn.get k = some B := by rw [newAt_dyn, if_pos rfl]
  cases B with
  | cells xs ty rt =>
   cases rt with
   | none => exact blk_none_root hd
   | some rp =>
    obtain ⟨rr, p⟩ := rp
    have := hB xs ty rr p rfl
    subst this
    rw [blk_of hd, if_pos]
    rw [newAt_chain, if_pos rfl]
    simp
  | _ => unfold H.blk; rw [hd]
 ·rw [if_neg e]
  refine blk_congr (by rw [newAt_dyn, if_neg e]) (fun xs ty r' p hd => ?_)
  rw [newAt_chain]
  split
  ·next er =>
   subst er
   simp [e]
  ·exact Iff.rfl
section
variable {P : Program} {D : Tab} {E : Env} {n0 : Nat} {ev : Ev} {ops : Array Oper} {φ0 : Ph} {hs : Nat → H} {As : Nat → Ac} {tc : Nat → Tch} {w0 : World} {d0 : List Deferred}
 {X : Nat → Prop} {h : H} {φ : Ph} {A : Ac} {a : Act} {w : World} {j : Nat} {o : Oper}
theorem Tie.bare (R : Tie D E n0 All φ h w) (r : Nat) : Tie D E n0 All (cut φ r) (Hs.bare r) w := by
 refine ⟨R.ro, R.size, ?_, ?_, ?_, ?_, ?_, ?_⟩
 ·intro k c b e hk
  obtain ⟨h1, h2⟩ := cut_some hk
  exact ⟨h1, (R.dom _ _ _ _ h2).2⟩
 ·intro k B c b e _ hB _
  simp [H.blk, Hs.bare, T.get_nil] at hB
 ·intro j k B B' c b e b' e' _ hB
  simp [H.blk, Hs.bare, T.get_nil] at hB
 ·intro k xs ty c b e hd
  simp [Hs.bare, T.get_nil] at hd
 ·intro k _; simp [Hs.bare, T.get_nil]
 ·intro k xs ty r p hd
  simp [Hs.bare, T.get_nil] at hd
theorem Tie.newAt {w' : World} {φ1 : Ph} {h1 : H} {B : Blk} {r e : Nat} (R : Tie D E n0 All φ h w) (hr : r < h.next) (hn : φ r = none) (hφ : φ1 = upd (cut φ r) r (w.heap.size, 0, e)) (S : Tie D E n0 All φ1 h1 w') (hB : h1.blk r = some B) (hroot : ∀ xs ty rr p, B = .cells xs ty (some (rr, p)) → rr = r)
  (hsz : w.heap.size ≤ w'.heap.size) (hold : ∀ c, c < w.heap.size → w'.heap[c]? = w.heap[c]?) : Tie D E n0 All (upd φ r (w.heap.size, 0, e)) (Hs.newAt h r B) w' ∧ Le φ1 (upd φ r (w.heap.size, 0, e)) := by
 subst hφ
 have hle1 : Le (upd (cut φ r) r (w.heap.size, 0, e)) (upd φ r (w.heap.size, 0, e)) := by
  intro k x hk
  by_cases ek : k = r
  ·subst ek; rw [upd_same] at hk ⊢; exact hk
  ·rw [upd_ne _ _ ek] at hk ⊢; exact (cut_some hk).2
 have hle : Le φ (upd φ r (w.heap.size, 0, e)) := upd_le hn
 have hsr := S.dom r _ _ _ (upd_same _ _ _)
 refine ⟨⟨S.ro, S.size, ?_, ?_, ?_, ?_, ?_, ?_⟩, hle1⟩
 ·intro k c b e' hk
  by_cases ek : k = r
  ·subst ek; rw [upd_same] at hk; cases hk
   exact ⟨hr, hsr.2⟩
  ·rw [upd_ne _ _ ek] at hk
   obtain ⟨a1, a2, a3⟩ := R.dom _ _ _ _ hk
   exact ⟨a1, a2, Nat.lt_of_lt_of_le a3 hsz⟩
 ·intro k B' c b e' _ hB' hk
  rw [newAt_blk h r B hroot] at hB'
  by_cases ek : k = r
  ·subst ek
   rw [if_pos rfl] at hB'; cases hB'
   rw [upd_same] at hk; cases hk
   exact (S.blk k B _ _ _ trivial hB (upd_same _ _ _)).le hle1 rfl
  ·rw [if_neg ek] at hB'
   rw [upd_ne _ _ ek] at hk
   exact (R.blk k B' c b e' trivial hB' hk).le hle (hold c (R.dom _ _ _ _ hk).2.2)
 ·intro i k B1 B2 c b e1 b' e2 hik h1' h2' n1 n2 hi hk
  rw [newAt_blk h r B hroot] at h1' h2'
  by_cases ei : i = r
  ·subst ei
   rw [upd_same] at hi; cases hi
   by_cases ek : k = i
   ·exact absurd ek.symm hik
   ·rw [upd_ne _ _ ek] at hk
    have := (R.dom _ _ _ _ hk).2.2
    omega
  ·rw [if_neg ei] at h1'
   rw [upd_ne _ _ ei] at hi
   by_cases ek : k = r
   ·subst ek
    rw [upd_same] at hk; cases hk
    have := (R.dom _ _ _ _ hi).2.2
    omega
   ·rw [if_neg ek] at h2'
    rw [upd_ne _ _ ek] at hk
    exact R.apart _ _ _ _ _ _ _ _ _ hik h1' h2' n1 n2 hi hk
 ·intro k xs ty c b e' hd hk
  rw [newAt_dyn] at hd
  by_cases ek : k = r
  ·subst ek
   rw [if_pos rfl] at hd; cases hd
   rw [upd_same] at hk; cases hk
   exact S.exact k xs ty _ _ _ (H.blk_dyn hB) (upd_same _ _ _)
  ·rw [if_neg ek] at hd
   rw [upd_ne _ _ ek] at hk
   exact R.exact _ _ _ _ _ _ hd hk
 ·intro k hk
  have hk : h.next ≤ k := hk
  rw [newAt_dyn, if_neg (by omega)]
  exact R.fresh k hk
 ·intro k xs ty rr p hd
  show rr < h.next
  rw [newAt_dyn] at hd
  split at hd
  ·cases hd
   have := hroot _ _ _ _ rfl
   omega
  ·exact R.root _ _ _ _ _ hd
theorem St.act_cut (K : Text D E n0 ev ops φ0 hs As tc) (S : St D E n0 ops φ0 hs As tc w0 d0 X h φ A a w) (ho : ops[j]? = some o) (hX : ¬ X j) (hD : Down ops X) (hp : ∀ i, ((Region.before ops).getD j 0).testBit i = true → X i) :
  ATie (cut φ (hs j).next) (A.keep (seenOf o.op)) (a.keep (seenOf o.op)) := by
 obtain ⟨ψ, w2, a2, R2, AT2, _⟩ := K.tie j (Nat.le_of_lt (lt_of_op ho))
 refine S.act.keep (fun t ht => ?_)
 have h1 := (S.opv_eq K ho hX hD hp).1 t ht
 have ok2 := (AT2.tmps t).1
 rw [← h1] at ok2
 exact okV.both (fun k x hk => by
  obtain ⟨c, b, e⟩ := x
  exact cut_lt (R2.dom _ _ _ _ hk).1) (S.act.tmps t).1 ok2
theorem value_step {b : Frame} {k : List Item} {cs : List Frame} {rest : List Nat} {v : Value} {w' : World} (ho : ops[j]? = some o) (hd : noDefer o.op = true) (hw : Region.wanted o (yielded ops a.tmps) = true) (hr : (execOp a.eval o).run P w = .ok (.value v) w') :
  Steps P (lone (fput b a (.inRegion ops (j :: rest) :: k)) cs w) (lone (fput b (a.put o.dst v) (.inRegion ops rest :: k)) cs w') := by
 have hg := f_op (P := P) (b := b) (k := k) (cs := cs) (w := w) (rest := rest) ho hd hw
 have hfin : (fput b a (.inRegion ops (j :: rest) :: k)).finish v = fput b (a.put o.dst v) (.inRegion ops rest :: k) := by
  rw [f_finish, ho]; rfl
 refine .one (step_lone_go ?_)
 rw [hg, ← hfin]; simp [stepG.apply, hr]
theorem St.make (T : D.Of P) (K : Text D E n0 ev ops φ0 hs As tc) (S : St D E n0 ops φ0 hs As tc w0 d0 X h φ A a w) (ho : ops[j]? = some o) (hX : ¬ X j) (hD : Down ops X) (hp : ∀ i, ((Region.before ops).getD j 0).testBit i = true → X i)
  (hw : awant ops (As j) o = true) (hq : eff o.op = false) (hi : isNew o.op = true) (hnx : (hs (j + 1)).next ≠ (hs j).next) (b : Frame) (rest : List Nat) (k : List Item) (cs : List Frame) :
  ∃ h' φ' A' a' w', St D E n0 ops φ0 hs As tc w0 d0 (fun i => X i ∨ i = j) h' φ' A' a' w' ∧ Steps P (lone (fput b a (.inRegion ops (j :: rest) :: k)) cs w) (lone (fput b a' (.inRegion ops rest :: k)) cs w') := by
 have hj := lt_of_op ho
 have hwA : awant ops A o = true := by rw [S.want_eq K ho hX hD hp]; exact hw
 obtain ⟨_, hop⟩ := S.opv_eq K ho hX hD hp
 have hmj : mayJoin o.op = false := by cases he : o.op <;> rw [he] at hi <;> first | rfl | cases hi
 have hquiet : Quiet ops hs As j := ⟨o, ho, hw, hq, fun hm => by rw [hmj] at hm; cases hm⟩
 have hw0 := K.quiet_writes hquiet
 rcases K.step j o ho with ⟨h0, _⟩ | ⟨_, x, g, h1, _, hback, hAs, htc⟩
 ·rw [hw] at h0; cases h0
 have hsel := noSelect_of h1
 have hnd := noDefer_of h1
 rw [oper1_quiet hq] at h1
 have hgn : g.next ≠ (fresh (hs j)).next := by rw [hback, back_next] at hnx; exact hnx
 have key : ∃ B h1' , aop D E (As j) o.op (bare (hs j).next) = some (x, h1') ∧ h1'.next ≠ (bare (hs j).next).next ∧ h1'.blk (hs j).next = some B ∧ g.blk (hs j).next = some B ∧ g.next = (hs j).next + 1 ∧ (∀ xs ty rr p, B = .cells xs ty (some (rr, p)) → rr = (hs j).next) := by
  rcases new_at hi hgn h1 with ⟨B, e1, e2, e3⟩ | ⟨xs, ty, e2, e3⟩
  ·refine ⟨B, _, e3 (bare (hs j).next) rfl, Nat.succ_ne_self _, ?_, ?_, by rw [e2]; rfl, ?_⟩
   ·have hd : ((bare (hs j).next).new B).dyn.get (hs j).next = some B := Hs.T.get_set_same _ _ _
    cases B with
    | cells xs ty rt => cases rt with
     | none => exact blk_none_root hd
     | some _ => cases e1
    | _ => unfold H.blk; rw [hd]
   ·rw [e2]
    have hd : ((fresh (hs j)).new B).dyn.get (hs j).next = some B := Hs.T.get_set_same _ _ _
    cases B with
    | cells xs ty rt => cases rt with
     | none => exact blk_none_root hd
     | some _ => cases e1
    | _ => unfold H.blk; rw [hd]
   ·intro xs ty rr p hB; rw [hB] at e1; cases e1
  ·refine ⟨.cells xs ty (some ((hs j).next, 0)), _, e3 (bare (hs j).next) rfl, Nat.succ_ne_self _, ?_, ?_, by rw [e2]; rfl, fun _ _ _ _ hB => by cases hB; rfl⟩
   ·have hd : ((bare (hs j).next).newOpen xs ty).dyn.get (hs j).next = some (.cells xs ty (some ((hs j).next, 0))) := Hs.T.get_set_same _ _ _
    rw [blk_of hd, if_pos]
    simp [H.chain, H.newOpen, Hs.T.get_set_same, Hs.bare]
   ·rw [e2]
    have hd : ((fresh (hs j)).newOpen xs ty).dyn.get (hs j).next = some (.cells xs ty (some ((hs j).next, 0))) := Hs.T.get_set_same _ _ _
    rw [blk_of hd, if_pos]
    simp [H.chain, H.newOpen, Hs.T.get_set_same, fresh]
 obtain ⟨B, hb, k1, k2, k3, k4, k5, k6⟩ := key
 have AT' := S.act_cut K ho hX hD hp
 have k1' : aop D E (A.keep (seenOf o.op)) o.op (bare (hs j).next) = some (x, hb) := by
  rw [← k1]
  exact aop_congr (fun y hy => by rw [opv_keep hy]; exact hop y hy)
 obtain ⟨s, hs1, e, w', r1, r2, r3, r4, r5, r6⟩ := new_run T (S.tie.bare (hs j).next) AT' hi k2 k1'
 have hnext1 : (hs (j + 1)).next = (hs j).next + 1 := by rw [hback, back_next, k5]
 have hrM : (hs j).next < h.next := by
  rw [S.next]
  have := K.mono (show j + 1 ≤ ops.size by omega) (Nat.le_refl _)
  omega
 have hnone : φ (hs j).next = none := by
  cases hq : φ (hs j).next with
  | none => rfl
  | some y =>
   exfalso
   rcases S.dom _ (by rw [hq]; rfl) with h3 | ⟨i, h3, h4, h5, h6⟩
   ·have := K.mono (Nat.zero_le j) (Nat.le_of_lt hj); omega
   ·rcases Nat.lt_trichotomy i j with h7 | h7 | h7
    ·have := K.mono (show i + 1 ≤ j by omega) (Nat.le_of_lt hj); omega
    ·exact hX (h7 ▸ h3)
    ·have := K.mono (show j + 1 ≤ i by omega) (Nat.le_of_lt h4); omega
 obtain ⟨R', hle1⟩ := S.tie.newAt hrM hnone rfl r3 k3 k6 r4.size r5
 have hle : Le φ (upd φ (hs j).next (w.heap.size, 0, e)) := upd_le hnone
 have hok := okV.le hle1 r2
 have hrun : (execOp a.eval o).run P w = .ok (.value (ren (upd φ (hs j).next (w.heap.size, 0, e)) x)) w' := by
  have r1 : s.run P w = .ok (ren (upd (cut φ (hs j).next) (hs j).next (w.heap.size, 0, e)) x) w' := r1
  rw [← exec_keep hsel, hs1, Sem.run_bind, r1, hok.2]
  rfl
 have hblk1 : (hs (j + 1)).blk (hs j).next = some B := by rw [hback, back_blk]; exact k4
 have hdyn1 : (hs (j + 1)).dyn.get (hs j).next = some B := H.blk_dyn hblk1
 refine ⟨newAt h (hs j).next B, upd φ (hs j).next (w.heap.size, 0, e), A.put o.dst x, _, w', ?_, value_step ho hnd (by rw [wanted_eq S.act]; exact hwA) hrun⟩
 refine ⟨R', S.next, (S.act.le hle).put _ hok.1, by rw [Ac.put_n]; exact S.n, S.tmps_step K ho hX hD hp hAs, by rw [Ac.put_defers]; exact S.dfr, by rw [put_defers]; exact S.adfr, ?_, ?_, ?_, ?_, ?_, ?_, ?_, ?_, ?_⟩
 ·-- dom
  intro k hk
  by_cases ek : k = (hs j).next
  ·exact .inr ⟨j, .inr rfl, hj, by omega, by omega⟩
  ·rw [upd_ne _ _ ek] at hk
   exact (S.dom k hk).imp id fun ⟨i, h1, h2⟩ => ⟨i, .inl h1, h2⟩
 ·-- tot
  intro i k hi' hlt h1 h2
  by_cases ek : k = (hs j).next
  ·rw [ek, upd_same]; rfl
  ·rw [upd_ne _ _ ek]
   rcases hi' with hi' | rfl
   ·exact S.tot i k hi' hlt h1 h2
   ·omega
 ·-- base
  intro k hk
  have := K.mono (Nat.zero_le j) (Nat.le_of_lt hj)
  rw [upd_ne _ _ (by omega)]
  exact S.base k hk
 ·-- agree
  intro k j' hj' hk' hks hc
  rw [newAt_blk _ _ _ k6]
  by_cases ek : k = (hs j).next
  ·subst ek
   rw [if_pos rfl, ← hblk1]
   refine (K.same_at (p := j + 1) (q := j') hj hj' (by omega) hk' (fun i hi' hki => ?_)).symm
   rw [← hc i hi' hki]
   have hlt := K.w_lt hi' hki
   have hgt : j < i := by
    rcases Nat.lt_or_ge j i with h | h
    ·exact h
    ·have := K.mono h (Nat.le_of_lt hj); omega
   have hor : ordered (Region.before ops) j i = true := by
    cases hq : ordered (Region.before ops) j i
    ·have := (K.meet j i hgt hi' hq).new _ hki
     rw [(K.lo hj).1, (K.lo hj).2] at this
     omega
    ·rfl
   rw [ord_comm (by omega)] at hor
   have := ordX hD hX hp (by omega) hor
   constructor
   ·intro h; omega
   ·rintro (h | h)
    ·have := this.1 h; omega
    ·omega
  ·rw [if_neg ek]
   rw [upd_ne _ _ ek] at hks
   refine S.agree k j' hj' hk' hks (fun i hi' hki => ?_)
   rw [← hc i hi' hki]
   refine ⟨.inl, fun h => h.resolve_right ?_⟩
   rintro rfl
   rw [hw0] at hki; cases hki
 ·-- shapes
  intro k j' hj' hk' hks
  rw [newAt_dyn]
  by_cases ek : k = (hs j).next
  ·subst ek
   rw [if_pos rfl, ← hdyn1]
   exact (K.shape_at (p := j + 1) (q := j') hj hj' (by omega) hk').symm
  ·rw [if_neg ek]
   rw [upd_ne _ _ ek] at hks
   exact S.shape k j' hj' hk' hks
 ·-- low
  intro k c bb e' hk
  by_cases ek : k = (hs j).next
  ·subst ek
   rw [upd_same] at hk; cases hk
   refine .inr (fun k' b' e2 hne hk' => ?_)
   rw [upd_ne _ _ hne] at hk'
   have := (S.tie.dom _ _ _ _ hk').2.2
   omega
  ·rw [upd_ne _ _ ek] at hk
   refine (S.low k c bb e' hk).imp Low.or (fun hh k' b' e2 hne hk' => ?_)
   by_cases ek' : k' = (hs j).next
   ·subst ek'
    rw [upd_same] at hk'; cases hk'
    have := (S.tie.dom _ _ _ _ hk).2.2
    omega
   ·rw [upd_ne _ _ ek'] at hk'
    exact hh k' b' e2 hne hk'
 ·-- lowr
  intro k xs ty r p hd
  rw [newAt_dyn] at hd
  split at hd
  ·next ek =>
   cases hd
   exact .inr ((k6 _ _ _ _ rfl).trans ek.symm)
  ·exact (S.lowr k xs ty r p hd).imp Low.or id
 ·exact S.kept.on (r4.weaken (cut_le _ _)) S.img
 ·intro k c bb e' hk
  by_cases ek : k = (hs j).next
  ·subst ek
   rw [upd_same] at hk; cases hk
   exact .inl S.kept.size
  ·rw [upd_ne _ _ ek] at hk
   exact S.img k c bb e' hk
theorem St.loud (T : D.Of P) (hv : EvOk P D E n0 ev) (hn : EvNext ev) (K : Text D E n0 ev ops φ0 hs As tc) (S : St D E n0 ops φ0 hs As tc w0 d0 X h φ A a w) (ho : ops[j]? = some o) (hX : ¬ X j) (hD : Down ops X) (hp : ∀ i, ((Region.before ops).getD j 0).testBit i = true → X i)
  (hL : Loud ops hs As j) (b : Frame) (rest : List Nat) (k : List Item) (cs : List Frame) :
  ∃ h' φ' A' a' w', St D E n0 ops φ0 hs As tc w0 d0 (fun i => X i ∨ i = j) h' φ' A' a' w' ∧ Steps P (lone (fput b a (.inRegion ops (j :: rest) :: k)) cs w) (lone (fput b a' (.inRegion ops rest :: k)) cs w') := by
 have hj := lt_of_op ho
 have hw : awant ops (As j) o = true := by
  obtain ⟨o', ho', hw', _⟩ := hL
  rw [ho] at ho'; cases ho'; exact hw'
 have hwA : awant ops A o = true := by rw [S.want_eq K ho hX hD hp]; exact hw
 obtain ⟨_, hop⟩ := S.opv_eq K ho hX hD hp
 rcases K.step j o ho with ⟨h0, _⟩ | ⟨_, x, g, h1, _, hback, hAs, htc⟩
 ·rw [hw] at h0; cases h0
 have hsel := noSelect_of h1
 have hnd := noDefer_of h1
 have hgn : (hs (j + 1)).next = g.next := by rw [hback, back_next]
 have hge : (hs j).next ≤ g.next := by rw [← hgn]; exact K.next_le hj
 have ordN : ∀ {k i : Nat}, i < ops.size → i ≠ j → k ∈ (tc i).writes → (X i ↔ i < j) := by
  intro k i hi hne hki
  cases hor : ordered (Region.before ops) i j with
  | true => exact ordX hD hX hp hne hor
  | false => rw [(K.unordN hL hi hne hor).1] at hki; cases hki
 have condJ : ∀ k i, i < ops.size → k ∈ (tc i).writes → (X i ↔ i < j) := by
  intro k i hi hki
  by_cases e : i = j
  ·subst e; exact ⟨fun h => absurd h hX, fun h => absurd h (Nat.lt_irrefl _)⟩
  ·exact ordN hi e hki
 have ordL : ∀ {i : Nat}, i < ops.size → X i → Loud ops hs As i → i < j := by
  intro i hi hx hLi
  have hne : i ≠ j := fun e => hX (e ▸ hx)
  cases hor : ordered (Region.before ops) i j with
  | true => exact (ordX hD hX hp hne hor).1 hx
  | false =>
   exfalso
   obtain ⟨_, h3⟩ := K.unordN hL hi hne hor
   obtain ⟨p, hp1, hp2, hp3, hp4⟩ := hLi
   rcases h3 with h3 | ⟨p', q1, q2, q3, q4⟩
   ·obtain ⟨_, h4⟩ := K.unordN ⟨p, hp1, hp2, hp3, hp4⟩ hj (fun e => hne e.symm) (by rw [ord_comm (fun e => hne e.symm)]; exact hor)
    by_cases hej : eff p.op = true
    ·rcases h4 with h4 | ⟨o', q1, q2, q3, q4⟩
     ·obtain ⟨o', r1, r2, r3, r4⟩ := hL
      rw [ho] at r1; cases r1
      have heo : eff o.op = true := by
       cases he : eff o.op
       ·exact absurd ⟨he, fun _ => h4⟩ r4
       ·rfl
      rcases K.dok.effs i j o p ho hp1 hne heo hej with ⟨h5, _⟩ | h5
      ·rw [r3] at h5; cases h5
      ·rw [hor] at h5; cases h5
     ·obtain ⟨o2, r1, r2, r3, r4⟩ := hL
      rw [ho] at r1 q1; cases r1; cases q1
      exact r4 ⟨q3, q4⟩
    ·exact hp4 ⟨by simpa using hej, fun _ => h3⟩
   ·rw [hp1] at q1; cases q1
    exact hp4 ⟨q3, q4⟩
 have notLow : ∀ {k : Nat}, (hs j).next ≤ k → ¬ Low ops hs As X k := by
  intro k hk hl
  rcases hl with h3 | ⟨i, h3, h4, h5, h6⟩
  ·have := K.mono (Nat.zero_le j) (Nat.le_of_lt hj); omega
  ·have h7 := ordL h4 h3 h5
   have := K.mono (show i + 1 ≤ j by omega) (Nat.le_of_lt hj)
   omega
 obtain ⟨ψ, w2, a2, R2, AT2, hbase, htot⟩ := K.tie j (Nat.le_of_lt hj)
 have Rc := S.tie.cutTo R2
  (fun k hk hs' => by
   rcases Nat.lt_or_ge k (hs 0).next with h3 | h3
   ·rw [hbase k h3, ← S.base k h3]; exact hs'
   ·exact htot k h3 hk)
  (fun k B hk hs' hB => by rw [S.agree k j (Nat.le_of_lt hj) hk hs' (condJ k)]; exact hB)
 have AT' := S.act_cut K ho hX hD hp
 have h1' : oper1 D E ev (A.keep (seenOf o.op)) o (fresh (hs j)) = some (x, g) := by
  rw [← h1]
  exact oper1_congr (fun y hy => by rw [opv_keep hy]; exact hop y hy)
 have hsim := oper1_sim T hv (Rc.marked (hs j).next []) AT' h1'
 rw [exec_keep hsel] at hsim
 obtain ⟨φ'', w', q1, q2, q3, q4, q5⟩ := sim_step (P := P) (b := b) (k := k) (cs := cs) (rest := rest) ho hnd (by rw [wanted_eq S.act]; exact hwA) hsim
 have q3' : Ext (cut φ (hs j).next) φ'' (hs j).next g.next w := q3
 have hM : g.next ≤ h.next := by
  rw [S.next, ← hgn]; exact K.mono (show j + 1 ≤ ops.size by omega) (Nat.le_refl _)
 obtain ⟨R', hblk, hLe⟩ := S.tie.glue (n := (hs j).next) q2 hM hge
  (fun k hk => by rw [q3'.1 k hk, cut_lt hk])
  (fun k h3 h4 => by
   cases hq : φ k with
   | none => rfl
   | some y =>
    exfalso
    rcases S.dom k (by rw [hq]; rfl) with h5 | ⟨i, h5, h6, h7, h8⟩
    ·have := K.mono (Nat.zero_le j) (Nat.le_of_lt hj); omega
    ·rcases Nat.lt_trichotomy i j with h9 | h9 | h9
     ·have := K.mono (show i + 1 ≤ j by omega) (Nat.le_of_lt hj); omega
     ·exact hX (h9 ▸ h5)
     ·have := K.mono (show j + 1 ≤ i by omega) (Nat.le_of_lt h6); omega)
  q4 q3'.2.1
  (fun k c bb e hk hφ => (S.low k c bb e hφ).resolve_left (notLow hk))
  (fun k xs ty r p hk hd => by
   rcases S.lowr k xs ty r p hd with h3 | h3
   ·exact absurd h3 (notLow (Nat.le_trans hge hk))
   ·omega)
 have hLe' : Le φ'' (glueP φ'' φ g.next) := by
  intro k y hk
  obtain ⟨c, bb, e⟩ := y
  show (if k < g.next then φ'' k else φ k) = _
  rw [if_pos (q2.dom _ _ _ _ hk).1]; exact hk
 have hok := okV.le hLe' q1
 rw [← hok.2] at q5
 have lowJ : ∀ {k : Nat}, k < g.next → Low ops hs As (fun i => X i ∨ i = j) k := fun hk => .inr ⟨j, .inr rfl, hj, hL, by rw [hgn]; exact hk⟩
 have hglow : ∀ {k : Nat}, k < g.next → glueP φ'' φ g.next k = φ'' k := fun hk => if_pos hk
 have hghigh : ∀ {k : Nat}, g.next ≤ k → glueP φ'' φ g.next k = φ k := fun hk => if_neg (by omega)
 have hdyn : ∀ k, (glueH g h g.next).dyn.get k = if k < g.next then g.dyn.get k else h.dyn.get k := fun k => glue_dyn q2.fresh S.tie.fresh rfl hM
 refine ⟨glueH g h g.next, glueP φ'' φ g.next, A.put o.dst x, _, w', ?_, q5⟩
 refine ⟨R', S.next, (S.act.le hLe).put _ hok.1, by rw [Ac.put_n]; exact S.n, S.tmps_step K ho hX hD hp hAs, by rw [Ac.put_defers]; exact S.dfr, by rw [put_defers]; exact S.adfr, ?_, ?_, ?_, ?_, ?_, ?_, ?_, ?_, ?_⟩
 ·-- dom
  intro k hk
  rcases Nat.lt_or_ge k g.next with h3 | h3
  ·rcases Nat.lt_or_ge k (hs j).next with h4 | h4
   ·rw [hglow h3, q3'.1 k h4, cut_lt h4] at hk
    exact (S.dom k hk).imp id fun ⟨i, h1, h2⟩ => ⟨i, .inl h1, h2⟩
   ·exact .inr ⟨j, .inr rfl, hj, h4, by rw [hgn]; exact h3⟩
  ·rw [hghigh h3] at hk
   exact (S.dom k hk).imp id fun ⟨i, h1, h2⟩ => ⟨i, .inl h1, h2⟩
 ·-- tot
  intro i k hi' hlt h3 h4
  rcases hi' with hi' | rfl
  ·obtain ⟨y, hy⟩ := Option.isSome_iff_exists.1 (S.tot i k hi' hlt h3 h4)
   rw [hLe _ _ hy]; rfl
  ·rw [hgn] at h4
   rw [hglow h4]
   exact q3'.2.2 k h3 h4
 ·-- base
  intro k hk
  have := K.mono (Nat.zero_le j) (Nat.le_of_lt hj)
  rw [hglow (by omega), q3'.1 k (by omega), cut_lt (by omega)]
  exact S.base k hk
 ·-- agree
  intro k j' hj' hk' hks hc
  rw [hblk]
  rcases Nat.lt_or_ge k g.next with h3 | h3
  ·rw [if_pos h3]
   have : g.blk k = (hs (j + 1)).blk k := by rw [hback, back_blk]
   rw [this]
   refine (K.same_at (p := j + 1) (q := j') hj hj' (by rw [hgn]; exact h3) hk' (fun i hi' hki => ?_)).symm
   rw [← hc i hi' hki]
   by_cases e : i = j
   ·subst e; exact ⟨fun _ => .inr rfl, fun _ => by omega⟩
   ·have := ordN hi' e hki
    constructor
    ·intro h; exact .inl (this.2 (by omega))
    ·rintro (h | h)
     ·have := this.1 h; omega
     ·exact absurd h e
  ·rw [if_neg (by omega)]
   rw [hghigh h3] at hks
   refine S.agree k j' hj' hk' hks (fun i hi' hki => ?_)
   rw [← hc i hi' hki]
   refine ⟨.inl, fun h => h.resolve_right ?_⟩
   rintro rfl
   have := K.w_lt hi' hki
   omega
 ·-- shapes
  intro k j' hj' hk' hks
  rw [hdyn]
  rcases Nat.lt_or_ge k g.next with h3 | h3
  ·rw [if_pos h3]
   have : g.dyn.get k = (hs (j + 1)).dyn.get k := by rw [hback, back_dyn]
   rw [this]
   exact (K.shape_at (p := j + 1) (q := j') hj hj' (by rw [hgn]; exact h3) hk').symm
  ·rw [if_neg (by omega)]
   rw [hghigh h3] at hks
   exact S.shape k j' hj' hk' hks
 ·-- low
  intro k c bb e hk
  rcases Nat.lt_or_ge k g.next with h3 | h3
  ·exact .inl (lowJ h3)
  ·rw [hghigh h3] at hk
   refine .inr (fun k' b' e' hne hk' => ?_)
   have hdist := (S.low k c bb e hk).resolve_left (notLow (Nat.le_trans hge h3))
   rcases Nat.lt_or_ge k' g.next with h4 | h4
   ·rw [hglow h4] at hk'
    rcases q3'.2.1 _ _ _ _ hk' with h5 | ⟨i, b2, e2, h5⟩
    ·have := (S.tie.dom _ _ _ _ hk).2.2; omega
    ·obtain ⟨h6, h7⟩ := cut_some h5
     exact hdist i b2 e2 (by omega) h7
   ·rw [hghigh h4] at hk'
    exact hdist k' b' e' hne hk'
 ·-- lowr
  intro k xs ty r p hd
  rw [hdyn] at hd
  rcases Nat.lt_or_ge k g.next with h3 | h3
  ·exact .inl (lowJ h3)
  ·rw [if_neg (by omega)] at hd
   exact (S.lowr k xs ty r p hd).imp Low.or id
 ·exact S.kept.on (q4.weaken (cut_le _ _)) S.img
 ·-- img
  intro k c bb e hk
  rcases Nat.lt_or_ge k g.next with h3 | h3
  ·rw [hglow h3] at hk
   rcases q3'.2.1 _ _ _ _ hk with h5 | ⟨i, b2, e2, h5⟩
   ·exact .inl (Nat.le_trans S.kept.size h5)
   ·exact S.img i c b2 e2 (cut_some h5).2
  ·rw [hghigh h3] at hk
   exact S.img k c bb e hk
end
end Go.Hs
/- A region, whatever its order. -/
namespace Go.Hs
section
variable {P : Program} {D : Tab} {E : Env} {n0 : Nat} {ev : Ev} {ops : Array Oper} {φ0 : Ph} {hs : Nat → H} {As : Nat → Ac} {tc : Nat → Tch} {w0 : World} {d0 : List Deferred}
 {X : Nat → Prop} {h : H} {φ : Ph} {A : Ac} {a : Act} {w : World} {j : Nat} {o : Oper}
theorem St.one (T : D.Of P) (hv : EvOk P D E n0 ev) (hn : EvNext ev) (K : Text D E n0 ev ops φ0 hs As tc) (S : St D E n0 ops φ0 hs As tc w0 d0 X h φ A a w) (ho : ops[j]? = some o) (hX : ¬ X j) (hD : Down ops X) (hp : ∀ i, ((Region.before ops).getD j 0).testBit i = true → X i)
  (b : Frame) (rest : List Nat) (k : List Item) (cs : List Frame) :
  ∃ h' φ' A' a' w', St D E n0 ops φ0 hs As tc w0 d0 (fun i => X i ∨ i = j) h' φ' A' a' w' ∧ Steps P (lone (fput b a (.inRegion ops (j :: rest) :: k)) cs w) (lone (fput b a' (.inRegion ops rest :: k)) cs w') := by
 have hj := lt_of_op ho
 have hwe := S.want_eq K ho hX hD hp
 cases hw : awant ops (As j) o with
 | false =>
  have hAs : As (j + 1) = (As j).put o.dst undef := by
   rcases K.step j o ho with ⟨_, _, h1, _⟩ | ⟨h0, _⟩
   ·exact h1
   ·rw [hw] at h0; cases h0
  obtain ⟨h1, h2⟩ := K.skip_writes ho hw
  have hs' := f_op_skip (P := P) (b := b) (a := a) (k := k) (cs := cs) (w := w) (ops := ops) (i := j) (rest := rest) (by simp [ho, wanted_eq S.act, hwe, hw])
  rw [ho] at hs'
  refine ⟨_, _, _, _, _, S.same K ho hX hD hp hAs (okV_undef φ) h2 h1 S.tie (Kept.refl _ _), .one ?_⟩
  rw [ren_undef]
  exact hs'
 | true =>
  by_cases hst : isStore o.op = true
  ·exact S.store T hv K ho hX hD hp hw hst b rest k cs
  by_cases hq : eff o.op = false ∧ (mayJoin o.op = true → (hs (j + 1)).next = (hs j).next)
  ·obtain ⟨hq, hmj⟩ := hq
   have hquiet : Quiet ops hs As j := ⟨o, ho, hw, hq, hmj⟩
   have hw0 := K.quiet_writes hquiet
   rcases K.step j o ho with ⟨h0, _⟩ | ⟨_, x, g, h1, _, hback, hAs, htc⟩
   ·rw [hw] at h0; cases h0
   have h1q := h1
   rw [oper1_quiet hq] at h1q
   have hgn : (hs (j + 1)).next = g.next := by rw [hback, back_next]
   rcases quiet_cases hq (fun hm => by rw [← hgn]; exact hmj hm) h1q with hg | ⟨hi, hne⟩
   ·subst hg
    have hnx : (hs (j + 1)).next = (hs j).next := hgn
    obtain ⟨_, hop⟩ := S.opv_eq K ho hX hD hp
    have hr : (tc j).reads = reads D (As j) o := by rw [htc]
    have hag : ∀ k', (φ k').isSome = true → k' < (hs j).next → (∀ i, i < ops.size → i ≠ j → ordered (Region.before ops) i j = false → k' ∉ (tc i).writes) → h.blk k' = (fresh (hs j)).blk k' := by
     intro k' h3 h4 h5
     rw [fresh_blk]
     refine S.agree k' j (Nat.le_of_lt hj) h4 h3 (fun i hi hki => ?_)
     by_cases e : i = j
     ·subst e; rw [hw0] at hki; cases hki
     ·cases hor : ordered (Region.before ops) i j with
      | true => exact ordX hD hX hp e hor
      | false => exact absurd hki (h5 i hi e hor)
    have h2 : aop D E (As j) o.op h = some (x, h) := by
     refine read_same hq h1q (fun l hl k' hk' y hy u hu hku => ?_) (fun hl y hy u hu k' hku => ?_)
     ·obtain ⟨h3, h4⟩ := S.top K ho hX hD hp hy hu hku
      exact hag k' h3 h4 (fun i hi e hor hki => (K.unordR hi hj e hor).2 l (hr.trans hl) k' hki hk')
     ·obtain ⟨h3, h4⟩ := S.top K ho hX hD hp hy hu hku
      exact hag k' h3 h4 (fun i hi e hor hki => by rw [(K.unordR hi hj e hor).1 (hr.trans hl)] at hki; cases hki)
    have h3 : oper1 D E ev A o h = some (x, h) := by
     rw [oper1_quiet hq, aop_congr hop]; exact h2
    obtain ⟨w', g1, g2, g3, g4⟩ := S.sim T hv ho (by rw [hwe]; exact hw) rfl h3 b rest k cs
    exact ⟨_, _, _, _, _, S.same K ho hX hD hp hAs g1 hnx hw0 g2 g3, g4⟩
   ·exact S.make T K ho hX hD hp hw hq hi (by rw [hgn]; exact hne) b rest k cs
  ·exact S.loud T hv hn K ho hX hD hp ⟨o, ho, hw, by simpa using hst, hq⟩ b rest k cs
theorem St.all (T : D.Of P) (hv : EvOk P D E n0 ev) (hn : EvNext ev) (K : Text D E n0 ev ops φ0 hs As tc) (b : Frame) (k : List Item) (cs : List Frame) : ∀ (l : List Nat) (X : Nat → Prop) (h : H) (φ : Ph) (A : Ac) (a : Act) (w : World),
  Good ops X l → Down ops X → St D E n0 ops φ0 hs As tc w0 d0 X h φ A a w →
  ∃ X' h' φ' A' a' w', (∀ i, i < ops.size → X' i) ∧ St D E n0 ops φ0 hs As tc w0 d0 X' h' φ' A' a' w' ∧ Steps P (lone (fput b a (.inRegion ops l :: k)) cs w) (lone (fput b a' k) cs w') := by
 intro l
 induction l with
 | nil =>
  intro X h φ A a w hG hD S
  exact ⟨X, h, φ, A, a, w, hG, S, .one f_region_end⟩
 | cons j l ih =>
  intro X h φ A a w hG hD S
  obtain ⟨h1, h2, h3, h4⟩ := hG
  obtain ⟨h', φ', A', a', w', S', st⟩ := S.one T hv hn K (op_at h1) h2 hD h3 b l k cs
  obtain ⟨X2, h2, φ2, A2, a2, w2, g1, g2, g3⟩ := ih _ h' φ' A' a' w' h4 (by
   intro i hi k hk
   rcases hi with hi | rfl
   ·exact .inl (hD i hi k hk)
   ·exact .inl (h3 k hk)) S'
  exact ⟨X2, h2, φ2, A2, a2, w2, g1, g2, st.trans g3⟩
theorem text_of (T : D.Of P) (hv : EvOk P D E n0 ev) (hl : EvLg ev) {A' : Ac} {h' : H} {ts : List Tch} (hdk : drawOk ops = true) (hr : runFree D E ev ops 0 ops.toList A h = some (A', h', ts)) (hm : allMeet (Region.before ops) ts = true)
  (R : Tie D E n0 All φ h w) (AT : ATie φ A a) : ∃ hs As tc, Text D E n0 ev ops φ hs As tc ∧ hs 0 = h ∧ As 0 = A ∧ hs ops.size = h' ∧ As ops.size = A' := by
 obtain ⟨hs, As, e1, e2, e3, e4, e5, e6⟩ := runFree_trace (by rfl) hr
 simp only [Nat.zero_add, Array.length_toList] at e3 e4 e5
 let tc : Nat → Tch := fun i => (ts[i]?).getD ⟨none, [], 0, 0, false⟩
 have hstep : ∀ i o, ops[i]? = some o → TSkip ops o (As i) (hs i) (As (i + 1)) (hs (i + 1)) (tc i) ∨ TRun D E ev ops i o (As i) (hs i) (As (i + 1)) (hs (i + 1)) (tc i) := by
  intro i o ho
  obtain ⟨t, h1, h2⟩ := e6 i o (Nat.zero_le _) ho
  have : tc i = t := by simp only [tc]; rw [Nat.sub_zero] at h1; rw [h1]; rfl
  rw [this]; exact h2
 have htie : ∀ i, i ≤ ops.size → ∃ ψ w2 a2, Tie D E n0 All ψ (hs i) w2 ∧ ATie ψ (As i) a2 ∧ Ext φ ψ (hs 0).next (hs i).next w ∧ w.heap.size ≤ w2.heap.size ∧ (hs 0).next ≤ (hs i).next := by
  intro i
  induction i with
  | zero => intro _; exact ⟨φ, w, a, by rw [e1]; exact R, by rw [e2]; exact AT, Ext.refl _ _ _, Nat.le_refl _, Nat.le_refl _⟩
  | succ i ih =>
   intro hi
   obtain ⟨ψ, w2, a2, R2, AT2, X2, s2, n2⟩ := ih (by omega)
   rcases hstep i _ (op_at (show i < ops.size by omega)) with ⟨_, g1, g2, _⟩ | ⟨_, x, g, g1, _, g3, g4, _⟩
   ·have hA : ATie ψ (As (i + 1)) (a2.put ops[i].dst (ren ψ undef)) := by
     rw [g2]
     exact AT2.put _ (okV_undef ψ)
    have hR : Tie D E n0 All ψ (hs (i + 1)) w2 := by rw [g1]; exact R2
    have hXx : Ext φ ψ (hs 0).next (hs (i + 1)).next w := by rw [g1]; exact X2
    have hN : (hs 0).next ≤ (hs (i + 1)).next := by rw [g1]; exact n2
    exact ⟨ψ, w2, _, hR, hA, hXx, s2, hN⟩
   ·obtain ⟨nx, w1, _, hc⟩ := oper1_sim T hv (R2.marked (hs i).next []) AT2 g1
    obtain ⟨ψ', w', q1, q2, q3, q4, _⟩ := hc (Frame.enter P 0 #[] .normal) []
    have q3' : Ext ψ ψ' (hs i).next g.next w2 := q3
    have hle := q3'.le (fun k c b e hk => (R2.dom k c b e hk).1)
    have hgn : (hs (i + 1)).next = g.next := by rw [g3, back_next]
    have o2 : (hs i).Wf := R2.root
    have hgl := (oper1_lg (ok_marked o2 (hs i).next (Nat.le_refl _) []) hl g1).next
    have hgl : (hs i).next ≤ g.next := hgl
    refine ⟨ψ', w', a2.put ops[i].dst (ren ψ' x), ?_, ?_, ?_, Nat.le_trans s2 q4.size, by rw [hgn]; omega⟩
    ·rw [g3]
     exact (q2.marked (hs i).mark (hs i).log).note g.log
    ·rw [g4]
     exact (AT2.le hle).put _ q1
    ·rw [hgn]
     exact X2.trans q3' n2 s2
 refine ⟨hs, As, tc, ⟨drawOk_of hdk, hstep, ?_, ?_, ?_⟩, e1, e2, e3, e4⟩
 ·intro i j hij hj hor
  have hi' : i < ts.length := by omega
  have hj' : j < ts.length := by omega
  refine meets_of (allMeet_of hm (i := i) (j := j) ?_ ?_ hij hor)
  ·simp only [tc]; rw [List.getElem?_eq_getElem hi']; rfl
  ·simp only [tc]; rw [List.getElem?_eq_getElem hj']; rfl
 ·intro i hi
  obtain ⟨ψ, w2, a2, R2, AT2, X2, _⟩ := htie i hi
  exact ⟨ψ, w2, a2, R2, AT2, X2.1, X2.2.2⟩
 ·intro i o x g ho hg
  obtain ⟨ψ, w2, a2, R2, _⟩ := htie i (Nat.le_of_lt (lt_of_op ho))
  exact oper1_lg (ok_marked R2.root (hs i).next (Nat.le_refl _) []) hl hg
theorem made_by (K : Text D E n0 ev ops φ0 hs As tc) {k : Nat} : ∀ {n : Nat}, n ≤ ops.size → (hs 0).next ≤ k → k < (hs n).next → ∃ i, i < n ∧ (hs i).next ≤ k ∧ k < (hs (i + 1)).next := by
 intro n
 induction n with
 | zero => intro _ h1 h2; omega
 | succ n ih =>
  intro hn h1 h2
  rcases Nat.lt_or_ge k (hs n).next with h | h
  ·obtain ⟨i, h3, h4⟩ := ih (by omega) h1 h
   exact ⟨i, by omega, h4⟩
  ·exact ⟨n, by omega, h, h2⟩
theorem region_ok (T : D.Of P) (hv : EvOk P D E n0 ev) (hn : EvNext ev) (hl : EvLg ev) : RegionOk P D E n0 ev := by
 intro id ops draw A h A' h' φ w a b k cs hr R AT DT
 unfold runRegion at hr
 cases draw with
 | false =>
  simp only at hr
  obtain ⟨φ', w', a', r1, r2⟩ := runOps_sim (b := b) (k := k) (cs := cs) T hv hn ops ops.toList 0 A h A' h' φ w a rfl hr R AT DT
  refine ⟨φ', w', a', r1, .head f_region ?_⟩
  rw [List.range_eq_range']
  simpa using r2
 | true =>
  simp only at hr
  split at hr
  ·cases hr
  ·next hdk =>
   split at hr
   ·next A1 h1 ts hfree =>
    split at hr
    ·next hmeet =>
     cases hr
     have R0 : Tie D E n0 All φ h { w with drawn := w.drawn + 1 } := R.of_heap rfl
     obtain ⟨hs, As, tc, K, e1, e2, e3, e4⟩ := text_of T hv hl hdk hfree hmeet R0 AT
     have hmono := K.mono (Nat.zero_le ops.size) (Nat.le_refl _)
     rw [e1] at hmono
     have S0 : St D E n0 ops φ hs As tc w a.defers (fun _ => False) { h with next := (hs ops.size).next } φ A a { w with drawn := w.drawn + 1 } := by
      refine ⟨⟨R0.ro, R0.size, ?_, R0.blk, R0.apart, R0.exact, ?_, ?_⟩, rfl, AT, by rw [e2], ?_, by rw [e2], rfl, ?_, fun i _ hi => hi.elim, fun _ _ => rfl, ?_, ?_, ?_, ?_, ⟨rfl, rfl, rfl, Nat.le_refl _, fun _ _ _ => rfl⟩, fun k c b e hk => .inr ⟨k, b, e, hk⟩⟩
      ·intro k c b e hk
       obtain ⟨a1, a2, a3⟩ := R0.dom _ _ _ _ hk
       exact ⟨Nat.lt_of_lt_of_le a1 hmono, a2, a3⟩
      ·intro k hk
       exact R0.fresh k (Nat.le_trans hmono hk)
      ·intro k xs ty r p hd
       exact Nat.lt_of_lt_of_le (R0.root _ _ _ _ _ hd) hmono
      ·intro t j hj hc
       rw [← e2]
       refine (K.tmp_between (Nat.zero_le j) hj (fun i o h1 h2 ho hd => ?_)).symm
       exact ((hc i o ho hd).2 h2)
      ·intro k hk
       obtain ⟨⟨c, b', e⟩, hx⟩ := Option.isSome_iff_exists.1 hk
       left; rw [e1]; exact (R0.dom _ _ _ _ hx).1
      ·intro k j hj hk hs' hc
       obtain ⟨⟨c, b', e⟩, hx⟩ := Option.isSome_iff_exists.1 hs'
       have h0 : k < (hs 0).next := by rw [e1]; exact (R0.dom _ _ _ _ hx).1
       rw [K.between (Nat.zero_le j) hj h0 (fun i _ h2 hki => (hc i (by omega) hki).2 h2), e1]
       exact blk_congr rfl (fun _ _ _ _ _ => Iff.rfl)
      ·intro k j hj hk hs'
       obtain ⟨⟨c, b', e⟩, hx⟩ := Option.isSome_iff_exists.1 hs'
       have h0 : k < (hs 0).next := by rw [e1]; exact (R0.dom _ _ _ _ hx).1
       rw [K.shape (Nat.zero_le j) hj h0, e1]
      ·intro k c b' e hk
       left; left; rw [e1]; exact (R0.dom _ _ _ _ hk).1
      ·intro k xs ty r p hd
       left; left
       rw [e1]
       have hd : h.dyn.get k = some (.cells xs ty (some (r, p))) := hd
       rcases Nat.lt_or_ge k h.next with h3 | h3
       ·exact h3
       ·rw [R0.fresh k h3] at hd; cases hd
     obtain ⟨X, hF, φ', AF, a', w', hX, S, st⟩ := St.all T hv hn K b k cs _ _ _ _ _ _ _ (schedule_good (drawOk_of hdk).orders (P.follows .mixedOrders) (w.tape w.drawn (.order b.fn id))) (fun _ h => h.elim) S0
     refine ⟨φ', w', a', ?_, .head f_region_draw st⟩
     obtain ⟨ψ, w2, a2, R2, _, hbase, htot⟩ := K.tie ops.size (Nat.le_refl _)
     have hsome : ∀ k, (φ' k).isSome = true → k < (hs ops.size).next := by
      intro k hk
      obtain ⟨⟨c, b', e⟩, hx⟩ := Option.isSome_iff_exists.1 hk
      rw [← S.next]; exact (S.tie.dom _ _ _ _ hx).1
     have hcut : cut φ' (hs ops.size).next = φ' := by
      funext k
      unfold cut
      split
      ·rfl
      ·next hge =>
       cases hq : φ' k with
       | none => rfl
       | some y => exact absurd (hsome k (by rw [hq]; rfl)) hge
     have Rn := S.tie.cutTo R2
      (fun k hk hs' => by
       rcases Nat.lt_or_ge k (hs 0).next with h3 | h3
       ·rw [hbase k h3, ← S.base k h3]; exact hs'
       ·exact htot k h3 hk)
      (fun k B hk hs' hB => by
       rw [S.agree k ops.size (Nat.le_refl _) hk hs' (fun i hi _ => ⟨fun _ => hi, fun _ => hX i hi⟩)]; exact hB)
     rw [hcut, e3] at Rn
     have hLe : Le φ φ' := by
      intro k x hk
      obtain ⟨c, b', e⟩ := x
      rw [S.base k (by rw [e1]; exact (R0.dom _ _ _ _ hk).1)]; exact hk
     refine ⟨Rn, ⟨?_, fun t => ?_⟩, ?_, ⟨fun k hk => S.base k (by rw [e1]; exact hk), S.img, fun k h3 h4 => ?_⟩, S.kept⟩
     ·rw [S.act.size, S.n, ← e4, K.n_at (Nat.le_refl _)]
     ·have ht := S.tmps t ops.size (Nat.le_refl _) (fun i p hp _ => ⟨fun _ => lt_of_op hp, fun _ => hX i (lt_of_op hp)⟩)
      rw [← e4, ← ht]
      exact S.act.tmps t
     ·rw [← e4, K.dfr_at (Nat.le_refl _), e2, S.adfr]
      exact DT.le hLe
     ·obtain ⟨i, h5, h6, h7⟩ := made_by K (Nat.le_refl _) (by rw [e1]; exact h3) (by rw [e3]; exact h4)
      exact S.tot i k (hX i h5) h5 h6 h7
    ·cases hr
   ·cases hr
end
structure KnownGood (P : Program) (D : Tab) (E : Env) (n0 : Nat) (I : Known) : Prop where
 sim : KnownOk P D E n0 I
 lg : ∀ f args h r h', I f args h = some (some (r, h')) → h.Ok → Lg h h'
 next : ∀ f args h r h', I f args h = some (some (r, h')) → h.next ≤ h'.next
theorem ev_ok {P : Program} {D : Tab} {E : Env} {n0 : Nat} {I : Known} (T : D.Of P) (hN : NoNum P) (hI : KnownGood P D E n0 I) : ∀ n, EvOk P D E n0 (ev D E I n)
 | 0 => ⟨fun _ _ _ _ _ h => (by cases h), fun _ _ _ _ _ h => (by cases h), fun _ _ _ _ _ _ _ h => (by cases h)⟩
 | n + 1 => by
  have hv := ev_ok T hN hI n
  have hn : EvNext (ev D E I n) := ev_next hI.next n
  have hl : EvLg (ev D E I n) := ev_lg hI.lg n
  exact ⟨doCall_sim T hN hI.sim hv, doRound_sim hv hn, doCode_sim hv hn (region_ok T hv hn hl) (range_ok hv hn)⟩
end Go.Hs
/- What the evaluator reckons, as a statement on calls; closed calls as known functions; more fuel. -/
namespace Go.Hs
section
variable {P : Program} {D : Tab} {E : Env} {n0 : Nat} {φ : Ph} {h h' : H} {w : World}
theorem doCall_calls (TT : D.Of P) {I : Known} {ev : Ev} (hv : EvOk P D E n0 ev) {f : FuncId} {args : List Value} {r : Value} (hI : I f args h = none) (hc : doCall D E I ev f args h = some (r, h')) (R : Tie D E n0 All φ h w) (hok : ∀ x ∈ args, okV φ x) :
  Calls P f (args.map (ren φ)).toArray w fun e w' => ∃ φ', e = .returned (ren φ' r) ∧ okV φ' r ∧ Tie D E n0 All φ' h' w' ∧ Ext φ φ' h.next h'.next w ∧ Kept φ w w' := by
 intro cs
 unfold doCall at hc
 rw [hI] at hc
 simp only at hc
 split at hc
 ·cases hc
 ·next fn hfn =>
  have hf := TT.fn _ _ hfn
  split at hc
  ·cases hc
  ·next body hbody =>
   have hent := enter_act (φ := φ) P f fn hf body hbody args
   have hFT : FTie φ ⟨f, none⟩ (Frame.enter P f (args.map (ren φ)).toArray .normal) := ⟨rfl, rfl, rfl⟩
   have hAT := enter_tie fn hok
   have fin : ∀ A1 h1 ex, (ex = .normal ∨ ex = .ret) → ev.code ⟨f, none⟩ body ⟨T.ofList args 0 .nil, max args.length fn.ntmps, []⟩ h = some (ex, A1, h1) →
     (match takeAll A1.defers h1 with
      | some h => (ares D E fn A1 h).map fun r => (r, h)
      | none => none) = some (r, h') →
     ∃ e w' fr, (∃ φ', e = .returned (ren φ' r) ∧ okV φ' r ∧ Tie D E n0 All φ' h' w' ∧ Ext φ φ' h.next h'.next w ∧ Kept φ w w') ∧ Comes P (lone (Frame.enter P f (args.map (ren φ)).toArray .normal) cs w) (lone fr cs w') e ∧ fr.fn = f ∧ fr.leaving P w' e := by
    intro A1 h1 ex hex hcode hres
    obtain ⟨φ1, w1, a1, r1, e1⟩ := hv.code _ _ _ _ _ _ _ hcode φ w (Frame.enter P f (args.map (ren φ)).toArray .normal) _ [] cs R hAT .nil hFT
    rw [← hent] at e1
    split at hres
    ·next h2 ht =>
     simp only [Option.map_eq_some_iff] at hres
     obtain ⟨r', hr', he⟩ := hres
     cases he
     have hret : ∃ k, Steps P (lone (Frame.enter P f (args.map (ren φ)).toArray .normal) cs w) (lone (rput (Frame.enter P f (args.map (ren φ)).toArray .normal) a1 k a1.defers) cs w1) := by
      rcases hex with rfl | rfl
      ·exact ⟨[], Steps.trans e1 (.one (f_end rfl))⟩
      ·obtain ⟨k0, e2⟩ := e1
       exact ⟨_, e2.trans (.one (f_ret rfl))⟩
     obtain ⟨k, hret⟩ := hret
     obtain ⟨w2, q1, q2, q3⟩ := takeAll_sim (P := P) a1 (Frame.enter P f (args.map (ren φ)).toArray .normal) k cs r1.defers ht r1.tie
     obtain ⟨p1, p2⟩ := ares_run TT q1 r1.act hr'
     exact ⟨.returned (ren φ1 r), w2, rput (Frame.enter P f (args.map (ren φ)).toArray .normal) a1 k [], ⟨φ1, rfl, p2, q1, r1.ext.of_next (takeAll_next ht), r1.kept.trans q2 r1.ext⟩, hret.trans q3, rfl, rfl, rfl, rfl, fn, hf, p1⟩
    ·cases hres
   split at hc
   ·next hcode => exact fin _ _ _ (.inl rfl) hcode hc
   ·next hcode => exact fin _ _ _ (.inr rfl) hcode hc
   ·cases hc
theorem Tie.start (hro : ∀ b o v, E b o = some v → b < n0 ∧ w.cell? ⟨b, o, none⟩ = some (ren (fun _ => none) v) ∧ foV v = true) (hn : n0 ≤ w.heap.size) : Tie D E n0 All (fun _ => none) H.empty w :=
 ⟨hro, hn, fun _ _ _ _ hk => (by cases hk), fun _ _ _ _ _ _ _ hk => (by cases hk), fun _ _ _ _ _ _ _ _ _ _ _ _ _ _ hk => (by cases hk), fun _ _ _ _ _ _ _ hk => (by cases hk),
  fun _ _ => T.get_nil _, fun _ _ _ _ _ hd => by rw [show H.empty.dyn = T.nil from rfl, T.get_nil] at hd; cases hd⟩
theorem Tie.kept0 {w' : World} (R : Tie D E n0 All φ h w) (K : Kept (fun _ => none) w w') : Tie D E n0 All φ h w' := by
 have hb : ∀ c, c < w.heap.size → w'.heap[c]? = w.heap[c]? := fun c hc => K.block c hc (fun _ _ _ hk => by cases hk)
 refine ⟨fun b o v hv => ?_, Nat.le_trans R.size K.size, fun k c b e hk => ?_, fun k B c b e hV hB hk => ?_, R.apart, R.exact, R.fresh, R.root⟩
 ·obtain ⟨h1, h2, h3⟩ := R.ro b o v hv
  refine ⟨h1, ?_, h3⟩
  rw [← h2]
  simp only [World.cell?, hb b (Nat.lt_of_lt_of_le h1 R.size)]
 ·obtain ⟨a1, a2, a3⟩ := R.dom k c b e hk
  exact ⟨a1, a2, Nat.lt_of_lt_of_le a3 K.size⟩
 ·exact (R.blk k B c b e hV hB hk).le (Le.refl _) (hb c (R.dom _ _ _ _ hk).2.2)
theorem closed_sim (TT : D.Of P) (hN : NoNum P) {E0 : Env} {I0 : Known} (hI : ∀ n0, KnownGood P D E0 n0 I0) (hE : ∀ b o v, E0 b o = some v → E b o = some v) {n : Nat} {f : FuncId} {args : List Value} {r : Value} {h0 : H}
  (hev : (ev D E0 I0 n).call f args H.empty = some (r, h0)) (hr : roV r = true) (ha : ∀ x ∈ args, roV x = true) (R : Tie D E n0 All φ h w) : Sim P D E n0 (callFunc f (args.map (ren φ)).toArray) φ h w r h := by
 have R0 : Tie D E0 w.heap.size All (fun _ => none) H.empty w := Tie.start (fun b o v hv => by
  obtain ⟨h1, h2, h3⟩ := R.ro b o v (hE b o v hv)
  exact ⟨Nat.lt_of_lt_of_le h1 R.size, h2, h3⟩) (Nat.le_refl _)
 have hargs : args.map (ren φ) = args.map (ren fun _ => none) := List.map_congr_left fun x hx => by rw [(roV.ok φ (ha x hx)).2, (roV.ok _ (ha x hx)).2]
 obtain ⟨nx, w1, h1, h2⟩ := (ev_ok TT hN (hI w.heap.size) n).call _ _ _ _ _ hev _ w R0 (fun x hx => (roV.ok _ (ha x hx)).1)
 rw [← hargs] at h1
 refine ⟨nx, w1, h1, fun c cs => ?_⟩
 obtain ⟨φ', w', g1, g2, g3, g4, g5⟩ := h2 c cs
 have e1 : ren φ' r = ren φ r := by rw [(roV.ok φ' hr).2, (roV.ok φ hr).2]
 refine ⟨φ, w', (roV.ok φ hr).1, R.kept0 g4, Ext.refl _ _ _, ⟨g4.os, g4.tape, g4.output, g4.size, fun c hc _ => g4.block c hc (fun _ _ _ hk => by cases hk)⟩, ?_⟩
 rw [e1] at g5
 exact g5
end
/-! ## More fuel -/
structure EvLe (v v' : Ev) : Prop where
 call : ∀ {f args h r}, v.call f args h = some r → v'.call f args h = some r
 round : ∀ {l args h r}, v.round l args h = some r → v'.round l args h = some r
 code : ∀ {F c A h r}, v.code F c A h = some r → v'.code F c A h = some r
section
variable {D : Tab} {E : Env} {v v' : Ev}
theorem acall_mono (hv : EvLe v v') {f : Value} {args : List Value} {h : H} {r : Value × H} (hp : acall v f args h = some r) : acall v' f args h = some r := by
 unfold acall at hp ⊢
 split at hp
 ·exact hv.call hp
 ·exact hv.round hp
 ·cases hp
theorem oper1_mono (hv : EvLe v v') {A : Ac} {o : Oper} {h : H} {r : Value × H} (hp : oper1 D E v A o h = some r) : oper1 D E v' A o h = some r := by
 unfold oper1 at hp ⊢
 split at hp
 ·simp only [bind, Option.bind_eq_some_iff] at hp ⊢
  obtain ⟨x, h1, y, h2, h3⟩ := hp
  exact ⟨x, h1, y, h2, acall_mono hv h3⟩
 ·exact hp
theorem runOps_mono (hv : EvLe v v') {ops : Array Oper} : ∀ {l : List Oper} {A : Ac} {h : H} {r : Ac × H}, runOps D E v ops l A h = some r → runOps D E v' ops l A h = some r := by
 intro l
 induction l with
 | nil => intro A h r hp; exact hp
 | cons o l ih =>
  intro A h r hp
  simp only [runOps] at hp ⊢
  split at hp
  ·next hw =>
   cases ho : oper1 D E v A o h with
   | none => rw [ho] at hp; cases hp
   | some x =>
    rw [ho] at hp
    rw [oper1_mono hv ho]
    exact ih hp
  ·exact ih hp
theorem runFree_mono (hv : EvLe v v') {ops : Array Oper} : ∀ {l : List Oper} {j : Nat} {A : Ac} {h : H} {r : Ac × H × List Tch}, runFree D E v ops j l A h = some r → runFree D E v' ops j l A h = some r := by
 intro l
 induction l with
 | nil => intro j A h r hp; exact hp
 | cons o l ih =>
  intro j A h r hp
  simp only [runFree] at hp ⊢
  split at hp
  ·cases ho : oper1 D E v A o { h with mark := h.next, log := [] } with
   | none => rw [ho] at hp; cases hp
   | some x =>
    obtain ⟨x, g⟩ := x
    rw [ho] at hp
    rw [oper1_mono hv ho]
    simp only at hp ⊢
    split at hp
    ·cases hr : runFree D E v ops (j + 1) l (A.put o.dst x) ({ g with mark := h.mark, log := h.log }.note g.log) with
     | none => rw [hr] at hp; cases hp
     | some y => rw [hr] at hp; rw [ih hr]; exact hp
    ·cases hp
  ·cases hr : runFree D E v ops (j + 1) l (A.put o.dst undef) h with
   | none => rw [hr] at hp; cases hp
   | some y => rw [hr] at hp; rw [ih hr]; exact hp
theorem runRegion_mono (hv : EvLe v v') {ops : Array Oper} {draw : Bool} {A : Ac} {h : H} {r : Ac × H} (hp : runRegion D E v ops draw A h = some r) : runRegion D E v' ops draw A h = some r := by
 unfold runRegion at hp ⊢
 split at hp
 ·exact runOps_mono hv hp
 ·split at hp
  ·cases hp
  ·cases hr : runFree D E v ops 0 ops.toList A h with
   | none => rw [hr] at hp; cases hp
   | some y => rw [hr] at hp; rw [runFree_mono hv hr]; exact hp
theorem EvLe.step (hv : EvLe v v') (I : Known) : EvLe (stepEv D E I v) (stepEv D E I v') where
 call := by
  intro f args h r hp
  simp only [stepEv, doCall] at hp ⊢
  split at hp
  ·exact hp
  ·split at hp
   ·cases hp
   ·next fn hfn =>
    split at hp
    ·cases hp
    ·next body hb =>
     cases hc : v.code ⟨f, none⟩ body ⟨T.ofList args 0 .nil, max args.length fn.ntmps, []⟩ h with
     | none => rw [hc] at hp; cases hp
     | some x => rw [hc] at hp; rw [hv.code hc]; exact hp
 round := by
  intro l args h r hp
  simp only [stepEv, doRound] at hp ⊢
  split at hp
  ·next r0 hb =>
   split at hp
   ·cases hp
   ·next A hA =>
    cases hc : v.code ⟨r0.fn, some l⟩ r0.assign A h with
    | none => rw [hc] at hp; cases hp
    | some x =>
     rw [hc] at hp
     rw [hv.code hc]
     obtain ⟨ex, A1, h1⟩ := x
     cases ex with
     | normal =>
      simp only at hp ⊢
      split at hp
      ·next r1 hb1 =>
       split at hp
       ·cases hc2 : v.code ⟨r0.fn, some l⟩ r0.body A1 (h1.turn l (.loop { r1 with state := .busy })) with
        | none => rw [hc2] at hp; cases hp
        | some y => rw [hc2] at hp; rw [hv.code hc2]; exact hp
       ·cases hp
      ·cases hp
     | _ => exact hp
  ·cases hp
 code := by
  intro F c A h r hp
  simp only [stepEv] at hp ⊢
  cases c with
  | skip => exact hp
  | region id ops draw =>
   simp only [doCode, Option.map_eq_some_iff] at hp ⊢
   obtain ⟨x, h1, h2⟩ := hp
   exact ⟨x, runRegion_mono hv h1, h2⟩
  | seq a b =>
   simp only [doCode] at hp ⊢
   cases hc : v.code F a A h with
   | none => rw [hc] at hp; cases hp
   | some x =>
    rw [hc] at hp
    rw [hv.code hc]
    obtain ⟨ex, A1, h1⟩ := x
    cases ex with
    | normal => exact hv.code hp
    | _ => exact hp
  | cond c t e =>
   simp only [doCode] at hp ⊢
   split at hp
   ·exact hv.code hp
   ·exact hv.code hp
   ·cases hp
  | block id body =>
   simp only [doCode] at hp ⊢
   cases hc : v.code F body A h with
   | none => rw [hc] at hp; cases hp
   | some x => rw [hc] at hp; rw [hv.code hc]; exact hp
  | loop body =>
   simp only [doCode] at hp ⊢
   cases hc : v.code F body A h with
   | none => rw [hc] at hp; cases hp
   | some x =>
    rw [hc] at hp
    rw [hv.code hc]
    obtain ⟨ex, A1, h1⟩ := x
    cases ex with
    | normal => exact hv.code hp
    | _ => exact hp
  | scope body =>
   simp only [doCode] at hp ⊢
   cases hc : v.code F body A h with
   | none => rw [hc] at hp; cases hp
   | some x => rw [hc] at hp; rw [hv.code hc]; exact hp
  | label l => exact hp
  | exit id => exact hp
  | ret => exact hp
  | goto l => exact hp
  | refuse s => exact hp
  | rangeFunc f ps as bd =>
   simp only [doCode] at hp ⊢
   split at hp
   ·cases hp
   ·next fv hf =>
    split at hp
    ·cases hp
    ·next A1 h1 d hs =>
     cases hc : acall v fv [.func (.yield h1.next) #[] #[]] (h1.new (.loop ⟨.ready, none, F.fn, A.tmps, A.n, ps, as, bd, d⟩)) with
     | none => rw [hc] at hp; cases hp
     | some x =>
      rw [hc] at hp
      rw [acall_mono hv hc]
      simp only at hp ⊢
      split at hp
      ·next r0 hb =>
       split at hp
       ·cases hp
       ·cases hpe : r0.pending with
        | none => rw [hpe] at hp; exact hp
        | some c =>
         rw [hpe] at hp
         exact hv.code hp
      ·cases hp
theorem ev_le (I : Known) : ∀ n, EvLe (ev D E I n) (ev D E I (n + 1))
 | 0 => ⟨fun h => (by cases h), fun h => (by cases h), fun h => (by cases h)⟩
 | n + 1 => EvLe.step (ev_le I n) I
theorem EvLe.trans {v v' v'' : Ev} (h : EvLe v v') (h' : EvLe v' v'') : EvLe v v'' := ⟨fun x => h'.call (h.call x), fun x => h'.round (h.round x), fun x => h'.code (h.code x)⟩
theorem ev_mono (I : Known) {n m : Nat} (h : n ≤ m) : EvLe (ev D E I n) (ev D E I m) := by
 induction m with
 | zero => rw [show n = 0 by omega]; exact ⟨id, id, id⟩
 | succ m ih =>
  by_cases e : n = m + 1
  ·subst e; exact ⟨id, id, id⟩
  ·exact (ih (by omega)).trans (ev_le I m)
end
end Go.Hs
/- Functions of the library that are known. -/
namespace Go.Hs
section
variable {P : Program} {D : Tab} {E : Env} {n0 : Nat} {φ : Ph} {h h' : H} {w : World}
theorem Calls.steps {f : FuncId} {args : Array Value} {R : Ending → World → Prop} (hc : Calls P f args w R) {v : Value} {w1 : World} (hR : ∀ e w', R e w' → e = .returned v ∧ w' = w1) (c : Frame) (cs : List Frame) :
  Steps P (lone (Frame.enter P f args .normal) (c :: cs) w) (lone (c.finish v) cs w1) := by
 obtain ⟨e, w', fr, h1, h2, h3, h4⟩ := hc (c :: cs)
 obtain ⟨rfl, rfl⟩ := hR e w' h1
 exact Steps.trans h2 (.one (step_leave_returned h4))
theorem run_callFunc_enter (hN : NoNum P) {f : FuncId} {fn : Func} {body : Code} (hf : P.funcs[f]? = some fn) (hb : fn.body = some body) (args : Array Value) : (callFunc f args).run P w = .ok (.enter f args) w := by
 have hnm : fn.name ≠ "runtime.NumGoroutine" := by
  intro e
  have := hN f fn hf
  rw [e] at this; cases this
 simp [callFunc, hf, hnm, hb]
structure CopyCheck (P : Program) (f : FuncId) (bt : TypeId) : Prop where
 body : ∃ fn, P.funcs[f]? = some fn ∧ fn.body.isSome = true
 used : ∀ (b : Nat) (w : World), w.cell? ⟨b, 0, none⟩ = some (.pointer (some ⟨b, 0, none⟩)) →
  Calls P f #[.pointer (some ⟨b, 0, none⟩)] w fun e w' => e = .returned (.tuple #[]) ∧ w' = w
 fresh : ∀ (b : Nat) (w : World), w.cell? ⟨b, 0, none⟩ = some (.pointer none) → w.shape? b = some (bt, 2) → w.frozen? ⟨b, 0, none⟩ = false →
  Calls P f #[.pointer (some ⟨b, 0, none⟩)] w fun e w' => e = .returned (.tuple #[]) ∧ w' = w.setCell ⟨b, 0, none⟩ (.pointer (some ⟨b, 0, none⟩))
theorem okV_unit (φ : Ph) : okV φ (.tuple #[]) := by simp [okV, okL]
theorem ren_unit' (φ : Ph) : ren φ (.tuple #[]) = .tuple #[] := ren_undef φ
theorem kCheck_sim (hN : NoNum P) {f : FuncId} {bt : TypeId} (C : CopyCheck P f bt) (hbt : bt ≠ noTy) {args : List Value} {r : Value} (hk : kCheck bt args h = some (r, h')) (R : Tie D E n0 All φ h w) (hok : ∀ x ∈ args, okV φ x) :
  Sim P D E n0 (callFunc f (args.map (ren φ)).toArray) φ h w r h' := by
 obtain ⟨fn, hf, hb'⟩ := C.body
 obtain ⟨body, hb⟩ := Option.isSome_iff_exists.1 hb'
 unfold kCheck at hk
 split at hk
 ·next a =>
  split at hk
  ·next p p1 ty hs ho hbk =>
   have ho := Nat.eq_of_beq_eq_true ho
   have hA : okA φ a := (hok (.pointer (some a)) (by simp) : okV φ (.pointer (some a)))
   have hφ : (φ a.block).isSome = true := by
    rcases hA with hA | hA | ⟨_, hA⟩
    ·rw [hs] at hA; cases hA
    ·exact hA.2
    ·rw [hs] at hA; cases hA
   obtain ⟨⟨c, b, e⟩, hkk⟩ := Option.isSome_iff_exists.1 hφ
   rcases R.blk _ _ _ _ _ trivial hbk hkk with ⟨hx0, _⟩ | ⟨mcs, u, fz, L⟩
   ·cases hx0
   have hcn := (R.dom _ _ _ _ hkk).2.2
   have hren : renA φ a = ⟨c, b, none⟩ := by simp only [renA, hs, hkk, ho, Nat.add_zero]
   have hargs : (([.pointer (some a)] : List Value).map (ren φ)).toArray = #[.pointer (some ⟨c, b, none⟩)] := by
    simp only [List.map_cons, List.map_nil, ren_pointer, hren]
   rw [hargs]
   split at hk
   ·next hty =>
    have hty := Nat.eq_of_beq_eq_true hty
    subst hty
    obtain ⟨hu, hb0, hsz⟩ := L.whole rfl hbt
    subst hu hb0
    obtain ⟨y, hy, ht⟩ := L.cell 0 (.pointer none) rfl
    obtain ⟨_, rfl⟩ := ht rfl
    have hcell : w.cell? ⟨c, 0, none⟩ = some (.pointer none) := by
     rw [cell?_at L.block]
     simpa [ren] using hy
    have hfr : w.frozen? ⟨c, 0, none⟩ = false := by
     have := L.opn
     simp only [World.frozen?, L.block]
     rcases this with h | h
     ·simp; omega
     ·simp; rw [hsz] at h; simp at h; omega
    have hsh : w.shape? c = some (u, 2) := by simp [World.shape?, L.block, hsz]
    obtain ⟨h1, hput, he⟩ := Option.map_eq_some_iff.1 hk
    cases he
    obtain ⟨w', p2, p3, p4⟩ := R.put P hA (fun _ => trivial) hput (by intro v hv; simp at hv; subst hv; exact hA)
    have hw' : w' = w.setCell ⟨c, 0, none⟩ (.pointer (some ⟨c, 0, none⟩)) := by
     rw [hren] at p2
     simp only [List.map_cons, List.map_nil, ren_pointer, hren, storeCells, Sem.run_bind] at p2
     rw [Addr.add_plain, run_store P w _ _ _ rfl] at p2
     simp only [Nat.add_zero, hcell, hfr] at p2
     simp [Result.andThen] at p2
     exact p2.symm
    subst hw'
    refine ⟨_, w, run_callFunc_enter hN hf hb _, fun cc cs => ⟨φ, _, okV_unit φ, p3, Ext.same (put_next hput), p4, ?_⟩⟩
    rw [ren_unit']
    exact Calls.steps (C.fresh c w hcell hsh hfr) (fun e w' h => h) cc cs
   ·next bb hty =>
    have hty := Nat.eq_of_beq_eq_true hty
    subst hty
    split at hk
    ·next hbb =>
     cases hk
     simp only [Bool.and_eq_true, beq_iff_eq] at hbb
     obtain ⟨⟨e1, e2⟩, e3⟩ := hbb
     have e1 := Nat.eq_of_beq_eq_true e1
     have e2 := Nat.eq_of_beq_eq_true e2
     obtain ⟨hu, hb0, hsz⟩ := L.whole rfl hbt
     subst hu hb0
     obtain ⟨y, hy, ht⟩ := L.cell 0 (.pointer (some bb)) rfl
     obtain ⟨_, rfl⟩ := ht rfl
     have hrb : renA φ bb = ⟨c, 0, none⟩ := by simp only [renA, e3, ← e1, hkk, e2, Nat.add_zero]
     have hcell : w.cell? ⟨c, 0, none⟩ = some (.pointer (some ⟨c, 0, none⟩)) := by
      rw [cell?_at L.block]
      rw [Nat.add_zero] at hy
      rw [hy, ren_pointer, hrb]
     refine ⟨_, w, run_callFunc_enter hN hf hb _, fun cc cs => ⟨φ, _, okV_unit φ, R, Ext.refl _ _ _, Kept.refl _ _, ?_⟩⟩
     rw [ren_unit']
     exact Calls.steps (C.used c w hcell) (fun e w' h => h) cc cs
    ·cases hk
   ·cases hk
  ·cases hk
 ·cases hk
theorem kCheck_lg {bt : TypeId} {args : List Value} {r : Value} (hk : kCheck bt args h = some (r, h')) (o : h.Ok) : Lg h h' := by
 unfold kCheck at hk
 repeat' split at hk
 all_goals first
  | (cases hk; done)
  | (cases hk; exact Lg.refl o)
  | (obtain ⟨h1, hput, he⟩ := Option.map_eq_some_iff.1 hk; cases he; exact Lg.put o hput)
/-! ### Texts compared -/
theorem cmpL_eq : ∀ (a b : List UInt8), Lib.compareBytes a b = cmpL a b := by
 intro a
 induction a with
 | nil => intro b; cases b <;> rfl
 | cons x a ih =>
  intro b
  cases b with
  | nil => rfl
  | cons y b =>
   simp only [Lib.compareBytes, cmpL, UInt8.lt_iff_toNat_lt, ih]
   by_cases h1 : x.toNat < y.toNat
   ·have hb1 : x.toNat.blt y.toNat = true := by rw [Nat.blt_eq]; exact h1
    rw [if_pos h1, hb1]
   ·have hb1 : x.toNat.blt y.toNat = false := by
     cases hq : x.toNat.blt y.toNat
     ·rfl
     ·rw [Nat.blt_eq] at hq; exact absurd hq h1
    rw [if_neg h1, hb1]
    by_cases h2 : y.toNat < x.toNat
    ·have hb2 : y.toNat.blt x.toNat = true := by rw [Nat.blt_eq]; exact h2
     rw [if_pos h2]
     simp only [hb2]
    ·have hb2 : y.toNat.blt x.toNat = false := by
      cases hq : y.toNat.blt x.toNat
      ·rfl
      ·rw [Nat.blt_eq] at hq; exact absurd hq h2
     rw [if_neg h2]
     simp only [hb2]
theorem kCmp_sim {f : FuncId} {fn : Func} (hf : P.funcs[f]? = some fn) (hname : (fn.name == "runtime.NumGoroutine") = false) (hb : fn.body.isNone = true) (hn : Extern.findNext fn = none) (he : Extern.find fn = some Extern.BytealgCompare.compare)
  {args : List Value} {r : Value} (hk : kCmp args h = some (r, h')) (R : Tie D E n0 All φ h w) : Sim P D E n0 (callFunc f (args.map (ren φ)).toArray) φ h w r h' := by
 unfold kCmp at hk
 split at hk
 ·next a b =>
  cases hk
  refine ⟨.value (.int .i64 (cmpL a.data.toList b.data.toList)), w, ?_, fun c cs => ⟨φ, w, trivial, R, Ext.refl _ _ _, Kept.refl _ _, by rw [ren_int], rfl⟩⟩
  have : (([.string a, .string b] : List Value).map (ren φ)).toArray = #[.string a, .string b] := by simp [ren]
  rw [this, run_callFunc_extern hf hname hb hn he, Lib.run_compareString, cmpL_eq]
  rfl
 ·cases hk
theorem kCmp_same {args : List Value} {r : Value} (hk : kCmp args h = some (r, h')) : h' = h := by
 unfold kCmp at hk
 split at hk
 ·cases hk; rfl
 ·cases hk
end
end Go.Hs
/- Code, as what holds behind it. -/
namespace Go.Hs
section
variable {D : Tab} {E : Env} {I : Known}
def Wc (D : Tab) (E : Env) (I : Known) (F : Fx) (c : Code) (A : Ac) (h : H) (Q : Ex → Ac → H → Prop) : Prop :=
 ∃ n ex A' h', (ev D E I n).code F c A h = some (ex, A', h') ∧ Q ex A' h'
def WR (r : Option (Ac × H)) (Q : Ac → H → Prop) : Prop :=
 match r with
 | some (A, h) => Q A h
 | none => False
theorem Wc.mono {F : Fx} {c : Code} {A : Ac} {h : H} {Q Q' : Ex → Ac → H → Prop} (w : Wc D E I F c A h Q) (hq : ∀ ex A h, Q ex A h → Q' ex A h) : Wc D E I F c A h Q' := by
 obtain ⟨n, ex, A', h', h1, h2⟩ := w
 exact ⟨n, ex, A', h', h1, hq _ _ _ h2⟩
theorem Wc.forget {F : Fx} {c : Code} {A : Ac} {h : H} {Q : Ex → Ac → H → Prop} (P : Ac → Prop) (hP : P A) (w : ∀ A', P A' → Wc D E I F c A' h Q) : Wc D E I F c A h Q := w A hP
theorem Wc.seq {F : Fx} {a b : Code} {A : Ac} {h : H} {Q : Ex → Ac → H → Prop} (w : Wc D E I F a A h fun ex A h => match ex with | .normal => Wc D E I F b A h Q | ex => Q ex A h) : Wc D E I F (.seq a b) A h Q := by
 obtain ⟨n, ex, A1, h1, h2, h3⟩ := w
 cases ex with
 | normal =>
  obtain ⟨m, ex2, A2, h4, h5, h6⟩ := h3
  refine ⟨max n m + 1, ex2, A2, h4, ?_, h6⟩
  show doCode D E (ev D E I (max n m)) F (.seq a b) A h = _
  simp only [doCode]
  rw [(ev_mono I (Nat.le_max_left n m)).code h2]
  exact (ev_mono I (Nat.le_max_right n m)).code h5
 | _ =>
  refine ⟨n + 1, _, A1, h1, ?_, h3⟩
  show doCode D E (ev D E I n) F (.seq a b) A h = _
  simp only [doCode]
  rw [h2]
theorem Wc.skip {F : Fx} {A : Ac} {h : H} {Q : Ex → Ac → H → Prop} (hq : Q .normal A h) : Wc D E I F .skip A h Q := ⟨1, _, A, h, rfl, hq⟩
theorem Wc.exit {F : Fx} {id : Nat} {A : Ac} {h : H} {Q : Ex → Ac → H → Prop} (hq : Q (.exit id) A h) : Wc D E I F (.exit id) A h Q := ⟨1, _, A, h, rfl, hq⟩
theorem Wc.ret {F : Fx} {A : Ac} {h : H} {Q : Ex → Ac → H → Prop} (hq : Q .ret A h) : Wc D E I F .ret A h Q := ⟨1, _, A, h, rfl, hq⟩
theorem Wc.region {F : Fx} {id : Nat} {ops : Array Oper} {draw : Bool} {A : Ac} {h : H} {Q : Ex → Ac → H → Prop} (w : WR (runRegion D E (ev D E I 1) ops draw A h) (Q .normal)) : Wc D E I F (.region id ops draw) A h Q := by
 unfold WR at w
 split at w
 ·next A' h' he =>
  refine ⟨2, .normal, A', h', ?_, w⟩
  show doCode D E (ev D E I 1) F (.region id ops draw) A h = _
  simp only [doCode, he]; rfl
 ·exact w.elim
theorem Wc.region_eq {F : Fx} {id : Nat} {ops : Array Oper} {draw : Bool} {A A' : Ac} {h h' : H} {Q : Ex → Ac → H → Prop} (he : runRegion D E (ev D E I 1) ops draw A h = some (A', h')) (hq : Q .normal A' h') : Wc D E I F (.region id ops draw) A h Q :=
 Wc.region (by rw [he]; exact hq)
/-! Operations, one by one. -/
theorem RO.run {v : Ev} {ops : Array Oper} {o : Oper} {rest : List Oper} {A : Ac} {h h' : H} {x : Value} {res : Option (Ac × H)} (hw : awant ops A o = true) (ho : oper1 D E v A o h = some (x, h')) (r : runOps D E v ops rest (A.put o.dst x) h' = res) : runOps D E v ops (o :: rest) A h = res := by
 simp only [runOps, hw, ho]; exact r
theorem RO.skip {v : Ev} {ops : Array Oper} {o : Oper} {rest : List Oper} {A : Ac} {h : H} {res : Option (Ac × H)} (hw : awant ops A o = false) (r : runOps D E v ops rest (A.put o.dst undef) h = res) : runOps D E v ops (o :: rest) A h = res := by
 simp only [runOps, hw]; exact r
theorem RO.nil {v : Ev} {ops : Array Oper} {A : Ac} {h : H} : runOps D E v ops [] A h = some (A, h) := rfl
theorem Wc.ops {F : Fx} {id : Nat} {l : List Oper} {A A' : Ac} {h h' : H} {Q : Ex → Ac → H → Prop} (he : runOps D E (ev D E I 1) l.toArray l A h = some (A', h')) (hq : Q .normal A' h') : Wc D E I F (.region id l.toArray false) A h Q :=
 Wc.region_eq he hq
theorem RO.runG {v : Ev} {ops : Array Oper} {o : Oper} {rest : List Oper} {A : Ac} {h h' : H} {x : Value} {res : Option (Ac × H)} {j : Nat} {w : Bool} {d : Tmp} (hg : o.guard = some (j, w)) (hd : (ops[j]?).bind (·.dst) = some d) (hv : A.get d = .bool w) (ho : oper1 D E v A o h = some (x, h')) (r : runOps D E v ops rest (A.put o.dst x) h' = res) : runOps D E v ops (o :: rest) A h = res := by
 refine RO.run ?_ ho r
 unfold awant
 rw [hg]
 simp only [ayield_get, hd, hv]
 cases w <;> rfl
theorem RO.skipG {v : Ev} {ops : Array Oper} {o : Oper} {rest : List Oper} {A : Ac} {h : H} {res : Option (Ac × H)} {j : Nat} {w : Bool} {d : Tmp} (hg : o.guard = some (j, w)) (hd : (ops[j]?).bind (·.dst) = some d) (hv : A.get d = .bool (!w)) (r : runOps D E v ops rest (A.put o.dst undef) h = res) : runOps D E v ops (o :: rest) A h = res := by
 refine RO.skip ?_ r
 unfold awant
 rw [hg]
 simp only [ayield_get, hd, hv]
 cases w <;> rfl
theorem awant_none {ops : Array Oper} {A : Ac} {o : Oper} (h : o.guard = none) : awant ops A o = true := by unfold awant; rw [h]
theorem Wc.cond {F : Fx} {c : Operand} {t e : Code} {A : Ac} {h : H} {Q : Ex → Ac → H → Prop} {b : Bool} (hc : opv A c = some (.bool b)) (w : Wc D E I F (if b then t else e) A h Q) : Wc D E I F (.cond c t e) A h Q := by
 obtain ⟨n, ex, A', h', h1, h2⟩ := w
 refine ⟨n + 1, ex, A', h', ?_, h2⟩
 show doCode D E (ev D E I n) F (.cond c t e) A h = _
 simp only [doCode, hc]
 cases b <;> exact h1
theorem Wc.cond2 {F : Fx} {c : Operand} {t e : Code} {A : Ac} {h : H} {Q : Ex → Ac → H → Prop} {b : Bool} (hc : opv A c = some (.bool b)) (w1 : b = true → Wc D E I F t A h Q) (w2 : b = false → Wc D E I F e A h Q) : Wc D E I F (.cond c t e) A h Q := by
 refine Wc.cond hc ?_
 cases b with
 | true => exact w1 rfl
 | false => exact w2 rfl
theorem Wc.block {F : Fx} {id : Nat} {c : Code} {A : Ac} {h : H} {Q : Ex → Ac → H → Prop} (w : Wc D E I F c A h fun ex A h => match ex with | .exit j => if j = id then Q .normal A h else Q (.exit j) A h | .goto _ => False | ex => Q ex A h) : Wc D E I F (.block id c) A h Q := by
 obtain ⟨n, ex, A', h', h1, h2⟩ := w
 cases ex with
 | exit j =>
  by_cases e : j = id
  ·subst e
   simp only [if_pos] at h2
   refine ⟨n + 1, .normal, A', h', ?_, h2⟩
   show doCode D E (ev D E I n) F (.block j c) A h = _
   simp only [doCode, h1, show Nat.beq j j = true from Nat.beq_refl j]
  ·simp only [e, if_false] at h2
   refine ⟨n + 1, .exit j, A', h', ?_, h2⟩
   show doCode D E (ev D E I n) F (.block id c) A h = _
   have : Nat.beq j id = false := by
    cases hq : Nat.beq j id
    ·rfl
    ·exact absurd (Nat.eq_of_beq_eq_true hq) e
   simp only [doCode, h1, this]
 | goto l => exact h2.elim
 | normal =>
  refine ⟨n + 1, _, A', h', ?_, h2⟩
  show doCode D E (ev D E I n) F (.block id c) A h = _
  simp only [doCode, h1]
 | ret =>
  refine ⟨n + 1, _, A', h', ?_, h2⟩
  show doCode D E (ev D E I n) F (.block id c) A h = _
  simp only [doCode, h1]
theorem Wc.loop {F : Fx} {c : Code} {A : Ac} {h : H} {Q : Ex → Ac → H → Prop} (w : Wc D E I F c A h fun ex A h => match ex with | .normal => Wc D E I F (.loop c) A h Q | .goto _ => False | ex => Q ex A h) : Wc D E I F (.loop c) A h Q := by
 obtain ⟨n, ex, A1, h1, h2, h3⟩ := w
 cases ex with
 | normal =>
  obtain ⟨m, ex2, A2, h4, h5, h6⟩ := h3
  refine ⟨max n m + 1, ex2, A2, h4, ?_, h6⟩
  show doCode D E (ev D E I (max n m)) F (.loop c) A h = _
  simp only [doCode]
  rw [(ev_mono I (Nat.le_max_left n m)).code h2]
  exact (ev_mono I (Nat.le_max_right n m)).code h5
 | goto l => exact h3.elim
 | exit j =>
  refine ⟨n + 1, _, A1, h1, ?_, h3⟩
  show doCode D E (ev D E I n) F (.loop c) A h = _
  simp only [doCode]
  rw [h2]
 | ret =>
  refine ⟨n + 1, _, A1, h1, ?_, h3⟩
  show doCode D E (ev D E I n) F (.loop c) A h = _
  simp only [doCode]
  rw [h2]
theorem ev_known {f : FuncId} {args : List Value} {h : H} {r : Value × H} (hI : I f args h = some (some r)) : (ev D E I 1).call f args h = some r := by
 show doCall D E I (ev D E I 0) f args h = _
 simp only [doCall, hI]
theorem Wc.call {f : FuncId} {fn : Func} {body : Code} {args : List Value} {h : H} {Q : Value → H → Prop} (hI : I f args h = none) (hf : D.fn.get f = some fn) (hb : fn.body = some body)
  (w : Wc D E I ⟨f, none⟩ body ⟨T.ofList args 0 .nil, max args.length fn.ntmps, []⟩ h fun ex A h => (ex = .normal ∨ ex = .ret) ∧ ∃ h2 v, takeAll A.defers h = some h2 ∧ ares D E fn A h2 = some v ∧ Q v h2) :
  ∃ n v h', (ev D E I n).call f args h = some (v, h') ∧ Q v h' := by
 obtain ⟨n, ex, A, h1, h2, h3, h4, v, h5, h6, h7⟩ := w
 refine ⟨n + 1, v, h4, ?_, h7⟩
 show doCall D E I (ev D E I n) f args h = _
 simp only [doCall, hI, hf, hb, h2]
 rcases h3 with rfl | rfl <;> simp only [h5, h6, Option.map_some]
theorem done_tmp {fn : Func} {A : Ac} {h : H} {t : Tmp} {v : Value} {ex : Ex} (hex : ex = .normal ∨ ex = .ret) (hd : A.defers = []) (hr : fn.results = #[.tmp t]) (hv : A.get t = v) (hl : h.log = []) :
  (ex = .normal ∨ ex = .ret) ∧ ∃ h2 v', takeAll A.defers h = some h2 ∧ ares D E fn A h2 = some v' ∧ (v' = v ∧ h2.log = []) := by
 refine ⟨hex, h, v, ?_, ?_, rfl, hl⟩
 ·rw [hd]; rfl
 ·unfold ares
  rw [hr]
  simp only [aresL, ares1, hv]
end
end Go.Hs
/- Trees of items in memory. -/
namespace Go.Hs
inductive Item where
 | mk (kind num : Int) (text : ByteArray) (kids : List Item)
def Item.kind : Item → Int | .mk k _ _ _ => k
def Item.kids : Item → List Item | .mk _ _ _ ks => ks
mutual
/-- A value reads as an item. -/
def rep (E : Env) (h : H) : Item → Value → Prop
 | .mk k n t ks, v => ∃ s, v = .agg ⟨[.int .i64 k, .int .i64 n, .string t, s]⟩ ∧ ((ks = [] ∧ s = .slice none 0 0) ∨ ∃ a c cs, s = .slice (some a) ks.length c ∧ (ks.length ≤ c ∧ c < 9223372036854775808) ∧ h.cells E a (ks.length * 4) = some cs ∧ repL E h ks cs)
def repL (E : Env) (h : H) : List Item → List Value → Prop
 | [], cs => cs = []
 | x :: xs, cs => ∃ a b c d l, cs = a :: b :: c :: d :: l ∧ rep E h x (.agg ⟨[a, b, c, d]⟩) ∧ repL E h xs l
end
theorem repL_length {E : Env} {h : H} : ∀ {ks : List Item} {cs : List Value}, repL E h ks cs → cs.length = ks.length * 4
 | [], cs, hr => by rw [repL] at hr; subst hr; rfl
 | x :: xs, cs, hr => by
  rw [repL] at hr
  obtain ⟨a, b, c, d, l, rfl, _, h2⟩ := hr
  simp only [List.length_cons, repL_length h2]
  omega
theorem repL_get {E : Env} {h : H} : ∀ {ks : List Item} {cs : List Value} (i : Nat) {x : Item}, repL E h ks cs → ks[i]? = some x → ((cs.drop (i * 4)).take 4).length = 4 ∧ rep E h x (.agg ⟨(cs.drop (i * 4)).take 4⟩)
 | [], cs, i, x, hr, hx => by simp at hx
 | y :: ks, cs, 0, x, hr, hx => by
  rw [repL] at hr
  obtain ⟨a, b, c, d, l, rfl, h1, _⟩ := hr
  simp at hx; subst hx
  exact ⟨rfl, h1⟩
 | y :: ks, cs, i + 1, x, hr, hx => by
  rw [repL] at hr
  obtain ⟨a, b, c, d, l, rfl, _, h2⟩ := hr
  rw [List.getElem?_cons_succ] at hx
  have := repL_get i h2 hx
  have e : (a :: b :: c :: d :: l).drop ((i + 1) * 4) = l.drop (i * 4) := by
   rw [show (i + 1) * 4 = i * 4 + 1 + 1 + 1 + 1 by omega]
   simp only [List.drop_succ_cons]
  rw [e]; exact this
theorem roCells_sub {E : Env} : ∀ (n b o m l : Nat) (cs : List Value), roCells E b o n = some cs → m + l ≤ n → roCells E b (o + m) l = some ((cs.drop m).take l) := by
 intro n b o m l
 induction l generalizing m with
 | zero => intro cs h hl; simp [roCells]
 | succ l ih =>
  intro cs h hl
  obtain ⟨h1, h2⟩ := roCells_get _ _ _ _ h
  have hm : m < cs.length := by omega
  have h3 := h2 m cs[m] (List.getElem?_eq_getElem hm)
  simp only [roCells]
  rw [h3]
  have := ih (m + 1) cs h (by omega)
  rw [show o + (m + 1) = o + m + 1 by omega] at this
  rw [this]
  simp only
  rw [List.drop_eq_getElem_cons hm, List.take_succ_cons]
theorem cells_sub {E : Env} {h : H} {a : Addr} {n m l : Nat} {cs : List Value} (hc : h.cells E a n = some cs) (hl : m + l ≤ n) : h.cells E (aadd a m) l = some ((cs.drop m).take l) := by
 cases l with
 | zero => simp [H.cells]
 | succ l =>
  cases n with
  | zero => omega
  | succ n =>
   unfold H.cells at hc ⊢
   simp only at hc ⊢
   split at hc
   ·next hs => (try simp only [aadd, hs]); exact roCells_sub _ _ _ _ _ _ hc hl
   ·next hs =>
    try simp only [aadd, hs]
    split at hc
    ·next xs ty root hb =>
     try simp only [hb]
     split at hc
     ·next hle =>
      cases hc
      simp only [Bool.and_eq_true, Nat.ble_eq, List.all_eq_true] at hle
      have e : (((xs.drop a.off).take (n + 1)).drop m).take (l + 1) = (xs.drop (a.off + m)).take (l + 1) := by
       rw [List.drop_take, List.take_take, List.drop_drop]
       congr 1
       omega
      rw [e]
      have hq : (Nat.ble (a.off + m + (l + 1)) xs.length && ((xs.drop (a.off + m)).take (l + 1)).all isOne) = true := by
       simp only [Bool.and_eq_true, Nat.ble_eq, List.all_eq_true]
       refine ⟨by omega, fun v hv => ?_⟩
       apply hle.2
       rw [← e] at hv
       exact List.mem_of_mem_drop (List.mem_of_mem_take hv)
      rw [hq]
     ·cases hc
    ·cases hc
   ·cases hc
end Go.Hs
/- Functions that leave the memory that is there as it is, as known functions. -/
namespace Go.Hs
section
variable {P : Program} {D : Tab} {E : Env} {n0 : Nat} {φ φ' : Ph} {h h' : H} {w w' : World}
theorem Tie.forget (R : Tie D E n0 All φ h w) (R' : Tie D E n0 All φ' h' w') (hφ : ∀ k, k < h.next → φ' k = φ k) (hb : ∀ k, k < h.next → h'.blk k = h.blk k) (hsz : w.heap.size ≤ w'.heap.size) : Tie D E n0 All φ h w' := by
 have hle : Le φ φ' := fun k x hk => by
  obtain ⟨c, b, e⟩ := x
  rw [hφ k (R.dom _ _ _ _ hk).1]; exact hk
 refine ⟨R'.ro, Nat.le_trans R.size hsz, fun k c b e hk => ?_, fun k B c b e hV hB hk => ?_, R.apart, R.exact, R.fresh, R.root⟩
 ·obtain ⟨a1, a2, a3⟩ := R.dom k c b e hk
  exact ⟨a1, a2, Nat.lt_of_lt_of_le a3 hsz⟩
 ·have hlt := (R.dom _ _ _ _ hk).1
  have h1 := R'.blk k B c b e trivial (by rw [hb k hlt]; exact hB) (hle _ _ hk)
  exact h1.both (ψ := φ) (χ := φ) (fun k x hk => (hle k x hk ▸ hk)) (R.blk k B c b e trivial hB hk)
theorem forget_sim {s : Sem Next} {v : Value} (R : Tie D E n0 All φ h w) (hs : Sim P D E n0 s φ (fresh h) w v h') (hv : roV v = true) (hb : ∀ k, k < h.next → h'.blk k = h.blk k) : Sim P D E n0 s φ h w v h := by
 obtain ⟨nx, w1, h1, h2⟩ := hs
 refine ⟨nx, w1, h1, fun c cs => ?_⟩
 obtain ⟨φ', w', g1, g2, g3, g4, g5⟩ := h2 c cs
 have e1 : ren φ' v = ren φ v := by rw [(roV.ok φ' hv).2, (roV.ok φ hv).2]
 refine ⟨φ, w', (roV.ok φ hv).1, R.forget g2 g3.1 hb g4.size, Ext.refl _ _ _, g4, ?_⟩
 rw [e1] at g5
 exact g5
abbrev Says := Nat → FuncId → List Value → H → Value → Prop
open Classical in
noncomputable def upTo (S : Says) (I : Known) (m : Nat) : Known := fun f args h =>
 if c : ∃ v s, s < m ∧ S s f args h v then some (some (c.choose, h)) else I f args h
open Classical in
noncomputable def saidBy (S : Says) (I : Known) : Known := fun f args h =>
 if c : ∃ v s, S s f args h v then some (some (c.choose, h)) else I f args h
def One (S : Says) : Prop := ∀ s s' f args h v v', S s f args h v → S s' f args h v' → v = v'
theorem upTo_eq {S : Says} {I : Known} (hu : One S) {m s : Nat} {f : FuncId} {args : List Value} {h : H} {v : Value} (hs : S s f args h v) (hm : s < m) : upTo S I m f args h = some (some (v, h)) := by
 have c : ∃ v s, s < m ∧ S s f args h v := ⟨v, s, hm, hs⟩
 unfold upTo
 rw [dif_pos c]
 obtain ⟨s', _, h2⟩ := c.choose_spec
 rw [hu _ _ _ _ _ _ _ h2 hs]
theorem saidBy_eq {S : Says} {I : Known} (hu : One S) {s : Nat} {f : FuncId} {args : List Value} {h : H} {v : Value} (hs : S s f args h v) : saidBy S I f args h = some (some (v, h)) := by
 have c : ∃ v s, S s f args h v := ⟨v, s, hs⟩
 unfold saidBy
 rw [dif_pos c]
 obtain ⟨s', h2⟩ := c.choose_spec
 rw [hu _ _ _ _ _ _ _ h2 hs]
theorem upTo_none {S : Says} {I : Known} {m : Nat} {f : FuncId} {args : List Value} {h : H} (hn : ∀ v s, s < m → ¬ S s f args h v) : upTo S I m f args h = I f args h := by
 unfold upTo
 rw [dif_neg]
 rintro ⟨v, s, h1, h2⟩
 exact hn v s h1 h2
end
end Go.Hs
/- Items: how many there are, as the law counts. -/
namespace Go.Hs
mutual
def isz : Item → Nat
 | .mk _ _ _ ks => iszL ks + 1
def iszL : List Item → Nat
 | [] => 0
 | x :: xs => isz x + iszL xs
end
theorem isz_mem : ∀ {ks : List Item} {x : Item}, x ∈ ks → isz x ≤ iszL ks
 | [], x, h => by cases h
 | y :: ks, x, h => by
  rw [iszL]
  rcases List.mem_cons.1 h with rfl | h
  ·omega
  ·have := isz_mem h; omega
theorem isz_kid {k n : Int} {t : ByteArray} {ks : List Item} {x : Item} (h : x ∈ ks) : isz x < isz (.mk k n t ks) := by
 have := isz_mem h
 rw [isz]; omega
mutual
theorem rep_one {E : Env} {h : H} : ∀ {t t' : Item} {v : Value}, rep E h t v → rep E h t' v → t = t'
 | .mk k n tx ks, .mk k' n' tx' ks', v, h1, h2 => by
  rw [rep] at h1 h2
  obtain ⟨s, rfl, h1⟩ := h1
  obtain ⟨s', he, h2⟩ := h2
  cases he
  have : ks = ks' := by
   rcases h1 with ⟨rfl, rfl⟩ | ⟨a, c, cs, rfl, _, h3, h4⟩
   ·rcases h2 with ⟨rfl, _⟩ | ⟨a, c, cs, he, _⟩
    ·rfl
    ·cases he
   ·rcases h2 with ⟨_, he⟩ | ⟨a', c', cs', he, _, h5, h6⟩
    ·cases he
    ·simp only [Value.slice.injEq, Option.some.injEq] at he
     obtain ⟨rfl, hl, rfl⟩ := he
     rw [← hl, h3] at h5
     cases h5
     exact repL_one hl h4 h6
  rw [this]
theorem repL_one {E : Env} {h : H} : ∀ {ks ks' : List Item} {cs : List Value}, ks.length = ks'.length → repL E h ks cs → repL E h ks' cs → ks = ks'
 | [], [], _, _, _, _ => rfl
 | [], _ :: _, _, hl, _, _ => by cases hl
 | _ :: _, [], _, hl, _, _ => by cases hl
 | x :: xs, y :: ys, cs, hl, h1, h2 => by
  rw [repL] at h1 h2
  obtain ⟨a, b, c, d, l, rfl, h3, h4⟩ := h1
  obtain ⟨a', b', c', d', l', he, h5, h6⟩ := h2
  cases he
  rw [rep_one h3 h5, repL_one (by simpa using hl) h4 h6]
end
theorem wrap64 {x : Int} (h1 : -9223372036854775808 ≤ x) (h2 : x < 9223372036854775808) : IntKind.i64.wrap x = x := by
 simp only [IntKind.wrap, IntKind.bits, IntKind.signed]
 simp
 omega
/-! ### A heap that grows keeps what reads -/
theorem new_blk_old {h : H} {B : Blk} {k : Nat} (hk : k ≠ h.next) : (h.new B).blk k = h.blk k :=
 blk_congr (by simp only [H.new]; rw [T.get_set_ne _ _ _ _ hk]) (fun _ _ _ _ _ => Iff.rfl)
theorem new_blk_new {h : H} {B : Blk} (hB : B.plain = true) : (h.new B).blk h.next = some B := by
 have hd : (h.new B).dyn.get h.next = some B := T.get_set_same _ _ _
 cases B with
 | cells xs ty rt => cases rt with
  | none => exact blk_none_root hd
  | some _ => cases hB
 | _ => unfold H.blk; rw [hd]
theorem box_cells {E : Env} {h : H} {xs : List Value} {ty : TypeId} {n : Nat} (hn : xs.length = n) (h1 : xs.all isOne = true) : (h.new (.cells xs ty none)).cells E (own h.next) n = some xs := by
 subst hn
 cases xs with
 | nil => rfl
 | cons x xs =>
  unfold H.cells
  simp only [List.length_cons, own, new_blk_new (h := h) (B := .cells (x :: xs) ty none) rfl, List.drop_zero, Nat.zero_add]
  rw [show (x :: xs).take (xs.length + 1) = x :: xs from List.take_of_length_le (by simp)]
  rw [h1, show Nat.ble (xs.length + 1) (xs.length + 1) = true from by rw [Nat.ble_eq]; exact Nat.le_refl _]
  rfl
theorem rep_slice {E : Env} {h : H} {k m : Int} {tx : ByteArray} {ks : List Item} {v : Value} (hr : rep E h (.mk k m tx ks) v) : ∃ b c, v = .agg ⟨[.int .i64 k, .int .i64 m, .string tx, .slice b ks.length c]⟩ ∧
  (ks = [] ∨ ∃ a cs, b = some a ∧ ks.length < 9223372036854775808 ∧ h.cells E a (ks.length * 4) = some cs ∧ repL E h ks cs) := by
 rw [rep] at hr
 obtain ⟨s, rfl, hs⟩ := hr
 rcases hs with ⟨rfl, rfl⟩ | ⟨a, c, cs, rfl, h1, h2, h3⟩
 ·exact ⟨none, 0, rfl, .inl rfl⟩
 ·exact ⟨some a, c, rfl, .inr ⟨a, cs, rfl, by omega, h2, h3⟩⟩
def Grows (h h' : H) : Prop := ∀ k B, h.blk k = some B → h'.blk k = some B
theorem cells_grow {E : Env} {h h' : H} (g : Grows h h') {a : Addr} {n : Nat} {cs : List Value} (hc : h.cells E a n = some cs) : h'.cells E a n = some cs := by
 cases n with
 | zero => simpa [H.cells] using hc
 | succ n =>
  unfold H.cells at hc ⊢
  simp only at hc ⊢
  cases hs : a.spot with
  | none => rw [hs] at hc; exact hc
  | some s =>
   rw [hs] at hc
   cases s with
   | zero =>
    simp only at hc ⊢
    cases hb : h.blk a.block with
    | none => rw [hb] at hc; cases hc
    | some B => rw [g _ _ hb]; rw [hb] at hc; exact hc
   | succ s => cases hc
mutual
theorem rep_grow {E : Env} {h h' : H} (g : Grows h h') : ∀ {t : Item} {v : Value}, rep E h t v → rep E h' t v
 | .mk k n tx ks, v, hr => by
  rw [rep] at hr ⊢
  obtain ⟨s, h1, h2⟩ := hr
  refine ⟨s, h1, ?_⟩
  rcases h2 with h2 | ⟨a, c, cs, h3, h4, h5, h6⟩
  ·exact .inl h2
  ·exact .inr ⟨a, c, cs, h3, h4, cells_grow g h5, repL_grow g h6⟩
theorem repL_grow {E : Env} {h h' : H} (g : Grows h h') : ∀ {ks : List Item} {cs : List Value}, repL E h ks cs → repL E h' ks cs
 | [], cs, hr => by rw [repL] at hr ⊢; exact hr
 | x :: xs, cs, hr => by
  rw [repL] at hr ⊢
  obtain ⟨a, b, c, d, l, h1, h2, h3⟩ := hr
  exact ⟨a, b, c, d, l, h1, rep_grow g h2, repL_grow g h3⟩
end
theorem new_fresh {h : H} (hf : ∀ k, h.next ≤ k → h.dyn.get k = none) (B : Blk) : ∀ k, (h.new B).next ≤ k → (h.new B).dyn.get k = none := by
 intro k hk
 have hk : h.next + 1 ≤ k := hk
 simp only [H.new]
 rw [T.get_set_ne _ _ _ _ (by omega)]
 exact hf k (by omega)
theorem Grows.trans {h h' h'' : H} (g : Grows h h') (g' : Grows h' h'') : Grows h h'' := fun k B hb => g' k B (g k B hb)
theorem grows_new {h : H} (hf : ∀ k, h.next ≤ k → h.dyn.get k = none) (B : Blk) : Grows h (h.new B) := by
 intro k B' hb
 rw [new_blk_old]
 ·exact hb
 ·intro e
  subst e
  have := H.blk_dyn hb
  rw [hf _ (Nat.le_refl _)] at this; cases this
end Go.Hs
/- What the functions on items reckon. -/
namespace Go.Hs
def firstLoop : Code → Option Code
 | .seq a b => match firstLoop a with
  | some c => some c
  | none => firstLoop b
 | .cond _ a b => match firstLoop a with
  | some c => some c
  | none => firstLoop b
 | .block _ c => firstLoop c
 | .scope c => firstLoop c
 | .loop c => some c
 | _ => none
def loopOf (f : Func) : Code := match f.body with
 | some c => (firstLoop c).getD .skip
 | none => .skip
/-! ### Is an item right? -/
mutual
def chkI : Item → Int → Int → Int × Int
 | .mk k n tx ks, b, l => if l > 250 then (b, 11) else if b ≥ 5000 then (b, 2) else if k < 1 ∨ k > 63 ∨ n < 0 ∨ n > 1099511627776 then (b, 3) else if (tx.data.toList.length : Int) > 4096 then (b, 11) else chkL ks (b + 1) (l + 1)
def chkL : List Item → Int → Int → Int × Int
 | [], b, _ => (b, 0)
 | x :: xs, b, l => if (chkI x b l).2 ≠ 0 then chkI x b l else chkL xs (chkI x b l).1 l
end
mutual
theorem chkI_bound : ∀ (t : Item) (b l : Int), 0 ≤ b → b ≤ 5000 → 0 ≤ (chkI t b l).1 ∧ (chkI t b l).1 ≤ 5000
 | .mk k n tx ks, b, l, h1, h2 => by
  rw [chkI]
  split
  ·exact ⟨h1, h2⟩
  ·split
   ·exact ⟨h1, h2⟩
   ·split
    ·exact ⟨h1, h2⟩
    ·split
     ·exact ⟨h1, h2⟩
     ·exact chkL_bound ks (b + 1) (l + 1) (by omega) (by omega)
theorem chkL_bound : ∀ (ks : List Item) (b l : Int), 0 ≤ b → b ≤ 5000 → 0 ≤ (chkL ks b l).1 ∧ (chkL ks b l).1 ≤ 5000
 | [], b, l, h1, h2 => by rw [chkL]; exact ⟨h1, h2⟩
 | x :: xs, b, l, h1, h2 => by
  rw [chkL]
  have := chkI_bound x b l h1 h2
  split
  ·exact this
  ·exact chkL_bound xs _ l this.1 this.2
end
mutual
/-- A right item has as many items as are counted. -/
theorem chkI_size : ∀ (t : Item) (b l : Int), (chkI t b l).2 = 0 → (chkI t b l).1 = b + isz t
 | .mk k n tx ks, b, l, h => by
  rw [chkI] at h ⊢
  split at h
  ·cases h
  ·split at h
   ·cases h
   ·split at h
    ·cases h
    ·split at h
     ·cases h
     ·next h1 h2 h3 h4 =>
      rw [if_neg h1, if_neg h2, if_neg h3, if_neg h4, chkL_size ks _ _ h, isz]
      push_cast; omega
theorem chkL_size : ∀ (ks : List Item) (b l : Int), (chkL ks b l).2 = 0 → (chkL ks b l).1 = b + iszL ks
 | [], b, l, _ => by rw [chkL, iszL]; simp
 | x :: xs, b, l, h => by
  rw [chkL] at h ⊢
  split at h
  ·next hne => exact absurd h hne
  ·next hne =>
   rw [if_neg hne]
   have h0 : (chkI x b l).2 = 0 := Classical.not_not.1 hne
   rw [chkL_size xs _ l h, chkI_size x b l h0, iszL]
   push_cast; omega
end
/-! ### The greatest level -/
mutual
def lvlI : Item → Int
 | .mk _ _ _ ks => lvlL ks 0 + 1
def lvlL : List Item → Int → Int
 | [], m => m
 | x :: xs, m => lvlL xs (if lvlI x > m then lvlI x else m)
end
mutual
theorem lvlI_bound : ∀ (t : Item), 1 ≤ lvlI t ∧ lvlI t ≤ isz t
 | .mk k n tx ks => by
  rw [lvlI, isz]
  have := lvlL_bound ks 0 (Int.le_refl _)
  push_cast; omega
theorem lvlL_bound : ∀ (ks : List Item) (m : Int), 0 ≤ m → m ≤ lvlL ks m ∧ lvlL ks m ≤ m + iszL ks
 | [], m, h => by rw [lvlL, iszL]; simp
 | x :: xs, m, h => by
  rw [lvlL, iszL]
  have h1 := lvlI_bound x
  split
  ·have := lvlL_bound xs (lvlI x) (by omega)
   push_cast; omega
  ·have := lvlL_bound xs m h
   push_cast; omega
end
/-! ### Which comes first -/
mutual
def ordI : Item → Item → Int
 | .mk k n t ks, .mk k' n' t' ks' =>
  if k ≠ k' then (if k < k' then -1 else 1)
  else if n ≠ n' then (if n < n' then -1 else 1)
  else if (t.data.toList == t'.data.toList) = false then (if Op.bytesLess t.data.toList t'.data.toList then -1 else 1)
  else ordL ks ks'
def ordL : List Item → List Item → Int
 | [], [] => 0
 | [], _ :: _ => -1
 | _ :: _, [] => 1
 | x :: xs, y :: ys => if ordI x y ≠ 0 then ordI x y else ordL xs ys
end
def szI (t : Item) : Int × Int × Int := if (chkI t 0 1).2 ≠ 0 then (0, 0, (chkI t 0 1).2) else ((chkI t 0 1).1, lvlI t, 0)
theorem allMeet_quiet {b : Array Nat} {ts : List Tch} (h : ts.all (fun t => t.writes.isEmpty && !t.rooted) = true) : allMeet b ts = true := by
 rw [List.all_eq_true] at h
 unfold allMeet
 simp only [List.all_eq_true]
 rintro ⟨s, i⟩ hs ⟨t, j⟩ ht
 have h1 := h s (List.mem_of_getElem? (List.mem_zipIdx_iff_getElem?.1 hs))
 have h2 := h t (List.mem_of_getElem? (List.mem_zipIdx_iff_getElem?.1 ht))
 simp only [Bool.and_eq_true, Bool.not_eq_true', List.isEmpty_iff] at h1 h2
 have : meets s t = true := by
  unfold meets
  rw [h1.1, h2.1, h1.2, h2.2]
  simp [apart?]
 rw [this, Bool.or_true]
theorem Wc.draw {D : Tab} {E : Env} {I : Known} {F : Fx} {id : Nat} {ops : Array Oper} {A A' : Ac} {h h' : H} {ts : List Tch} {Q : Ex → Ac → H → Prop} (hd : drawOk ops = true) (hf : runFree D E (ev D E I 1) ops 0 ops.toList A h = some (A', h', ts))
  (hw : ts.all (fun t => t.writes.isEmpty && !t.rooted) = true) (hq : Q .normal A' h') : Wc D E I F (.region id ops true) A h Q := by
 refine Wc.region_eq (A' := A') (h' := h') ?_ hq
 simp only [runRegion, hd, hf, allMeet_quiet hw]
inductive QO (D : Tab) (E : Env) (v : Ev) (ops : Array Oper) : List Oper → Ac → H → Ac → Prop
 | nil {A : Ac} {h : H} : QO D E v ops [] A h A
 | cons {o : Oper} {rest : List Oper} {A A' : Ac} {h : H} {x : Value} (hg : o.guard = none) (hs : isStore o.op = false) (ho : oper1 D E v A o (fresh h) = some (x, fresh h)) (r : QO D E v ops rest (A.put o.dst x) h A') : QO D E v ops (o :: rest) A h A'
theorem back_fresh (h : H) : back h (fresh h) = h := note_nil h
theorem QO.free {D : Tab} {E : Env} {v : Ev} {ops : Array Oper} : ∀ {l : List Oper} {A A' : Ac} {h : H} (j : Nat), QO D E v ops l A h A' → ∃ ts, runFree D E v ops j l A h = some (A', h, ts) ∧ ts.all (fun t => t.writes.isEmpty && !t.rooted) = true := by
 intro l
 induction l with
 | nil => intro A A' h j q; cases q; exact ⟨[], rfl, rfl⟩
 | cons o l ih =>
  intro A A' h j q
  cases q with
  | cons hg hs ho r =>
   obtain ⟨ts, h1, h2⟩ := ih (j + 1) r
   refine ⟨⟨reads D A o, [], h.next, h.next, rootedStore A h o.op⟩ :: ts, ?_, ?_⟩
   ·have ho' : oper1 D E v A o { h with mark := h.next, log := [] } = some (_, fresh h) := ho
    simp only [runFree, awant_none hg, ho']
    have hc : (!(mayJoin o.op) || Nat.beq (fresh h).next h.next || slimOf ops j) = true := by
     rw [show Nat.beq (fresh h).next h.next = true from Nat.beq_refl h.next]; simp
    rw [hc]
    have hb : ({ (fresh h) with mark := h.mark, log := h.log } : H).note (fresh h).log = h := back_fresh h
    simp only [hb, h1]
    rfl
   ·rw [List.all_cons, h2]
    have : rootedStore A h o.op = false := by
     cases hop : o.op <;> first | rfl | (rw [hop] at hs; cases hs)
    simp [this]
theorem Wc.quiet {D : Tab} {E : Env} {I : Known} {F : Fx} {id : Nat} {l : List Oper} {A A' : Ac} {h : H} {Q : Ex → Ac → H → Prop} (hd : drawOk l.toArray = true) (hq : QO D E (ev D E I 1) l.toArray l A h A') (w : Q .normal A' h) : Wc D E I F (.region id l.toArray true) A h Q := by
 obtain ⟨ts, h1, h2⟩ := hq.free 0
 exact Wc.draw hd h1 h2 w
end Go.Hs
/- Functions that make memory: what stays, slices that are appended to, calls that are reckoned as known. -/
namespace Go.Hs
structure Fit (h : H) : Prop where
 free : ∀ k, h.next ≤ k → h.dyn.get k = none
 ok : h.Ok
structure Ahd (h g : H) : Prop where
 fit : Fit g
 grows : Grows h g
 log : g.log = h.log
 mark : g.mark = h.mark
 next : h.next ≤ g.next
 chain : ∀ r, r < h.next → g.chain r = h.chain r
theorem Ahd.refl {h : H} (f : Fit h) : Ahd h h := ⟨f, fun _ _ h => h, rfl, rfl, Nat.le_refl _, fun _ _ => rfl⟩
theorem Ahd.trans {h g f : H} (s : Ahd h g) (t : Ahd g f) : Ahd h f :=
 ⟨t.fit, s.grows.trans t.grows, t.log.trans s.log, t.mark.trans s.mark, Nat.le_trans s.next t.next, fun r hr => (t.chain r (Nat.lt_of_lt_of_le hr s.next)).trans (s.chain r hr)⟩
theorem Fit.fresh {h : H} (f : Fit h) : Fit (fresh h) := ⟨f.free, f.ok.1, Nat.le_refl _⟩
theorem Fit.none {h : H} (f : Fit h) {k : Nat} {B : Blk} (hb : h.dyn.get k = some B) : k < h.next := by
 apply Classical.byContradiction
 intro hk
 rw [f.free k (by omega)] at hb; cases hb
theorem Fit.lt {h : H} (f : Fit h) {k : Nat} {B : Blk} (hb : h.blk k = some B) : k < h.next := f.none (H.blk_dyn hb)
theorem Fit.new {h : H} (f : Fit h) {B : Blk} (hB : B.plain = true) : Fit (h.new B) := ⟨new_fresh f.free B, (Lg.new f.ok B hB).ok f.ok⟩
theorem Ahd.new0 {h : H} (f : Fit h) {B : Blk} (hB : B.plain = true) : Ahd h (h.new B) :=
 ⟨f.new hB, grows_new f.free B, rfl, rfl, Nat.le_succ _, fun _ _ => rfl⟩
/-! ### A plain block that is written -/
def H.setb (h : H) (k : Nat) (B : Blk) : H := { h with dyn := h.dyn.set k B }
theorem note_above {h : H} {ks : List Nat} (hk : ∀ k ∈ ks, h.mark ≤ k) : h.note ks = h := by
 unfold H.note
 split
 ·rfl
 ·next m hm =>
  have : ks.filter (fun k => Nat.ble k m) = [] := by
   rw [List.filter_eq_nil_iff]
   intro k hkk
   have := hk k hkk
   rw [hm] at this
   simp only [Nat.ble_eq]; omega
  rw [this]
  rfl
theorem setb_same {h : H} {k : Nat} {B : Blk} (hB : B.plain = true) : (h.setb k B).blk k = some B := by
 have hd : (h.setb k B).dyn.get k = some B := T.get_set_same _ _ _
 cases B with
 | cells xs ty rt => cases rt with
  | none => exact blk_none_root hd
  | some _ => cases hB
 | _ => unfold H.blk; rw [hd]
theorem setb_ne {h : H} {k j : Nat} {B : Blk} (hk : j ≠ k) : (h.setb k B).blk j = h.blk j :=
 blk_congr (by simp only [H.setb]; rw [T.get_set_ne _ _ _ _ hk]) (fun _ _ _ _ _ => Iff.rfl)
theorem Fit.setb {h : H} (f : Fit h) {k : Nat} {B : Blk} (hB : B.plain = true) (hk : k < h.next) : Fit (h.setb k B) := by
 refine ⟨fun j hj => ?_, fun j xs ty r p hd => ?_, f.ok.2⟩
 ·have hj : h.next ≤ j := hj
  simp only [H.setb]; rw [T.get_set_ne _ _ _ _ (by omega)]; exact f.free j hj
 ·simp only [H.setb, T.get_set] at hd ⊢
  split at hd
  ·cases hd; simp [Blk.plain] at hB
  ·exact f.ok.1 _ _ _ _ _ hd
theorem put_plain {h : H} {k o : Nat} {vs xs : List Value} {ty : TypeId} (hb : h.blk k = some (.cells xs ty none)) (hv : vs ≠ []) (hl : o + vs.length ≤ xs.length) (h1 : vs.all isOne = true) (hm : h.mark ≤ k) :
  h.put (aadd (own k) o) vs = some (h.setb k (.cells (xs.take o ++ vs ++ xs.drop (o + vs.length)) ty none)) := by
 unfold H.put
 cases vs with
 | nil => exact absurd rfl hv
 | cons v vs =>
  simp only [aadd, own, Nat.zero_add, hb]
  rw [h1, show Nat.ble (o + (v :: vs).length) xs.length = true from by rw [Nat.ble_eq]; exact hl]
  simp only [Bool.and_self]
  congr 1
  exact note_above (h := { h with dyn := _ }) (fun j hj => by simp at hj; subst hj; exact hm)
theorem put_own {h : H} {k : Nat} {vs xs : List Value} {ty : TypeId} (hb : h.blk k = some (.cells xs ty none)) (hv : vs ≠ []) (hl : vs.length = xs.length) (h1 : vs.all isOne = true) (hm : h.mark ≤ k) :
  h.put (own k) vs = some (h.setb k (.cells vs ty none)) := by
 have := put_plain (o := 0) hb hv (by omega) h1 hm
 rw [show aadd (own k) 0 = own k from rfl, List.take_zero, List.nil_append, List.drop_of_length_le (by omega), List.append_nil] at this
 exact this
theorem turn_above {h : H} {k : Nat} {B : Blk} (hm : h.mark ≤ k) : h.turn k B = h.setb k B :=
 note_above (h := { h with dyn := _ }) (fun j hj => by simp at hj; subst hj; exact hm)
theorem blk_cells {E : Env} {h : H} {k n : Nat} {xs : List Value} {ty : TypeId} {rt : Option (Nat × Nat)} (hb : h.blk k = some (.cells xs ty rt)) (hn : xs.length = n) (h1 : xs.all isOne = true) : h.cells E (own k) n = some xs := by
 subst hn
 cases xs with
 | nil => rfl
 | cons x xs =>
  unfold H.cells
  simp only [List.length_cons, own, hb, List.drop_zero, Nat.zero_add]
  rw [show (x :: xs).take (xs.length + 1) = x :: xs from List.take_of_length_le (by simp)]
  rw [h1, show Nat.ble (xs.length + 1) (xs.length + 1) = true from by rw [Nat.ble_eq]; exact Nat.le_refl _]
  rfl
theorem blk_cell {E : Env} {h : H} {k i : Nat} {xs : List Value} {ty : TypeId} {rt : Option (Nat × Nat)} {x : Value} (hb : h.blk k = some (.cells xs ty rt)) (hx : xs[i]? = some x) (h1 : isOne x = true) : h.cell E (aadd (own k) i) = some x := by
 simp only [H.cell, aadd, own, hb, Nat.zero_add, hx, one?, h1]
theorem blk_cell0 {E : Env} {h : H} {k : Nat} {xs : List Value} {ty : TypeId} {rt : Option (Nat × Nat)} {x : Value} (hb : h.blk k = some (.cells (x :: xs) ty rt)) (h1 : isOne x = true) : h.cell E (own k) = some x :=
 blk_cell (i := 0) hb rfl h1
/-! ### What lies in new chains alone -/
def seen (p : Nat → Bool) : Option Blk → Option Blk
 | some (.cells xs ty (some (r, q))) => match p r with
  | true => some (.cells xs ty (some (r, q)))
  | false => none
 | _ => none
def only (p : Nat → Bool) (h : H) : H := ⟨h.next, T.ofOpts ((List.range h.next).map fun k => seen p (h.blk k)) 0 .nil, h.chains, h.mark, h.log⟩
theorem only_dyn (p : Nat → Bool) (h : H) (k : Nat) : (only p h).dyn.get k = if k < h.next then seen p (h.blk k) else none := by
 have := T.get_ofOpts ((List.range h.next).map fun k => seen p (h.blk k)) 0 .nil k (fun k _ => T.get_nil k)
 simp only [only]
 rw [this, if_pos (Nat.zero_le _), Nat.sub_zero, List.getElem?_map]
 by_cases hk : k < h.next
 ·rw [List.getElem?_range hk, if_pos hk]; rfl
 ·rw [List.getElem?_eq_none (by simpa using hk), if_neg hk]; rfl
theorem only_blk {p : Nat → Bool} {h : H} (f : Fit h) {k : Nat} {B : Blk} : (only p h).blk k = some B ↔ h.blk k = some B ∧ ∃ xs ty r q, B = .cells xs ty (some (r, q)) ∧ p r = true := by
 constructor
 ·intro hb
  have hd := H.blk_dyn hb
  rw [only_dyn] at hd
  split at hd
  ·next hk =>
   unfold seen at hd
   split at hd
   ·next xs ty r q hh =>
    split at hd
    ·next hp => cases hd; exact ⟨hh, xs, ty, r, q, rfl, hp⟩
    ·cases hd
   ·cases hd
  ·cases hd
 ·rintro ⟨hb, xs, ty, r, q, rfl, hp⟩
  have hk := f.lt hb
  have hd : (only p h).dyn.get k = some (.cells xs ty (some (r, q))) := by
   rw [only_dyn, if_pos hk, hb]
   simp only [seen, hp]
  unfold H.blk
  rw [hd]
  simp only
  have hc : (only p h).chain r = h.chain r := rfl
  rw [hc]
  unfold H.blk at hb
  rw [H.blk_dyn (h := h) (k := k) (B := .cells xs ty (some (r, q))) (by unfold H.blk; exact hb)] at hb
  exact hb
theorem only_grows {p : Nat → Bool} {h : H} (f : Fit h) : Grows (only p h) h := fun _ _ hb => ((only_blk f).1 hb).1
def Ap (h : H) (base : Nat) (e : TypeId) (sz : Nat) (s : Value) (n : Nat) (xs : List Value) (ro : Option Nat) : Prop :=
 (n = 0 ∧ xs = [] ∧ s = .slice none 0 0 ∧ ro = none) ∨
 ∃ k r, s = .slice (some (own k)) n n ∧ h.blk k = some (.cells xs e (some (r, 0))) ∧ xs.length = n * sz ∧ xs.all isOne = true ∧ base ≤ r ∧ (∀ j ∈ h.chain r, base ≤ j) ∧ ro = some r
def rootsNot (ro : Option Nat) (B : Blk) : Prop := ∀ xs ty r q, B = .cells xs ty (some (r, q)) → ro ≠ some r
theorem newOpen_new {h : H} {xs : List Value} {ty : TypeId} : (h.newOpen xs ty).blk h.next = some (.cells xs ty (some (h.next, 0))) := by
 have hd : (h.newOpen xs ty).dyn.get h.next = some (.cells xs ty (some (h.next, 0))) := T.get_set_same _ _ _
 have hc : (h.newOpen xs ty).chain h.next = [h.next] := by simp only [H.chain, H.newOpen, T.get_set_same, Option.getD]
 unfold H.blk
 rw [hd]
 simp only [hc, List.contains_cons, beq_self_eq_true, Bool.true_or]
theorem newOpen_old {h : H} (f : Fit h) {xs : List Value} {ty : TypeId} {k : Nat} {B : Blk} (hb : h.blk k = some B) : (h.newOpen xs ty).blk k = some B := by
 have hk := f.lt hb
 rw [← hb]
 refine blk_congr (by simp only [H.newOpen]; rw [T.get_set_ne _ _ _ _ (by omega)]) (fun ys u r q hd => ?_)
 have := f.ok.1 _ _ _ _ _ hd
 simp only [H.newOpen, H.chain]
 rw [T.get_set_ne _ _ _ _ (by omega)]
theorem newOpen_fit {h : H} (f : Fit h) {xs : List Value} {ty : TypeId} : Fit (h.newOpen xs ty) := by
 refine ⟨fun k hk => ?_, (Lg.newOpen f.ok xs ty).ok f.ok⟩
 have hk : h.next + 1 ≤ k := hk
 simp only [H.newOpen]
 rw [T.get_set_ne _ _ _ _ (by omega)]
 exact f.free k (by omega)
structure Grew (base : Nat) (ro : Option Nat) (h g : H) : Prop where
 fit : Fit g
 keep : ∀ k B, h.blk k = some B → rootsNot ro B → g.blk k = some B
 log : g.log = h.log
 mark : g.mark = h.mark
 next : h.next ≤ g.next
 chain : ∀ r, r < base → g.chain r = h.chain r
theorem ap_step {D : Tab} {E : Env} {h : H} {base : Nat} {t t2 e : TypeId} {sz by_ n kx c i6 i7 : Nat} {i8 : Option Value} {i9 : Bool} {s ze : Value} {xs cs : List Value} {ro : Option Nat} (f : Fit h) (hbm : h.mark ≤ base) (hbn : base ≤ h.next) (ap : Ap h base e sz s n xs ro)
  (ht : D.ty.get t = some ⟨.slice e sz by_, i6, i7, i8, i9⟩) (hz : tzero D e = some ze) (hzz : (Nat.beq ze.cells.toList.length sz && Nat.blt 0 sz && ze.cells.toList.all isOne) = true) (hzt : zeroArg D t2 (.slice (some (own kx)) 1 c) = some false)
  (hx : h.cells E (own kx) sz = some cs) (hcl : cs.length = sz) (hc1 : cs.all isOne = true) (hrm : roomy (n + 1) by_ = true) :
  ∃ s' h' ro', aappend D E t t2 s (.slice (some (own kx)) 1 c) h = some (s', h') ∧ Ap h' base e sz s' (n + 1) (xs ++ cs) ro' ∧ Grew base ro h h' ∧ (ro = none ∧ ro' = some h.next ∨ ro ≠ none ∧ ro' = ro) := by
 have hel : aelems E sz ze.cells.toList (.slice (some (own kx)) 1 c) h = some (1, cs) := by
  simp only [aelems, Nat.one_mul, hx]
 have hbl : Nat.beq cs.length (1 * sz) = true := by rw [Nat.one_mul, hcl]; exact Nat.beq_refl sz
 have hsz : 0 < sz := by
  simp only [Bool.and_eq_true, Nat.blt_eq] at hzz
  exact hzz.1.2
 rcases ap with ⟨rfl, rfl, rfl, rfl⟩ | ⟨k, r, rfl, hb, hl, h1, hbr, hch, rfl⟩
 ·refine ⟨.slice (some (own h.next)) 1 1, h.newOpen cs e, some h.next, ?_, .inr ⟨h.next, h.next, rfl, ?_, ?_, ?_, hbn, ?_, rfl⟩, ⟨newOpen_fit f, fun k B hb _ => newOpen_old f hb, rfl, rfl, Nat.le_succ _, fun r hr => ?_⟩, .inl ⟨rfl, rfl⟩⟩
  ·unfold aappend
   rw [ht]
   simp only [hz, hzt, hzz, hel, hbl, hrm]
  ·exact newOpen_new
  ·rw [List.nil_append]; simp [hcl]
  ·rw [List.nil_append]; exact hc1
  ·intro j hj
   simp only [H.chain, H.newOpen, T.get_set_same, Option.getD, List.mem_singleton] at hj
   omega
  ·simp only [H.chain, H.newOpen]
   rw [T.get_set_ne _ _ _ _ (by omega)]
 ·have hkn := f.lt hb
  have hd := H.blk_dyn hb
  have hrn := f.ok.1 _ _ _ _ _ hd
  have hgr : h.grow e r (0 + (own k).off) (n * sz) (own k).block (xs.drop (own k).off) cs = { h with next := h.next + 1, dyn := h.dyn.set h.next (.cells (xs ++ cs) e (some (r, 0))), chains := h.chains.set r (h.next :: h.spare r k (0 + n * sz) (0 + n * sz + cs.length)) } := by
   unfold H.grow
   simp only [own, Nat.add_zero, List.drop_zero]
   exact note_above (fun j hj => Nat.le_trans hbm (hch j (mem_gone.1 hj).1))
  generalize hg : ({ h with next := h.next + 1, dyn := h.dyn.set h.next (.cells (xs ++ cs) e (some (r, 0))), chains := h.chains.set r (h.next :: h.spare r k (0 + n * sz) (0 + n * sz + cs.length)) } : H) = g at hgr
  have hcr : g.chain r = h.next :: h.spare r k (0 + n * sz) (0 + n * sz + cs.length) := by
   rw [← hg]; simp only [H.chain, T.get_set_same, Option.getD]
  have hcn : ∀ r', r' ≠ r → g.chain r' = h.chain r' := by
   intro r' hr'
   rw [← hg]; simp only [H.chain]; rw [T.get_set_ne _ _ _ _ hr']
  have hgn : g.next = h.next + 1 := by rw [← hg]
  have hnew : g.blk h.next = some (.cells (xs ++ cs) e (some (r, 0))) := by
   have hdd : g.dyn.get h.next = some (.cells (xs ++ cs) e (some (r, 0))) := by rw [← hg]; exact T.get_set_same _ _ _
   unfold H.blk
   rw [hdd]
   simp only [hcr, List.contains_cons, beq_self_eq_true, Bool.true_or]
  have hold : ∀ j, j ≠ h.next → g.dyn.get j = h.dyn.get j := by
   intro j hj
   rw [← hg]; exact T.get_set_ne _ _ _ _ hj
  refine ⟨.slice (some (own h.next)) (n + 1) (n + 1), g, some r, ?_, .inr ⟨h.next, r, rfl, hnew, ?_, ?_, hbr, ?_, rfl⟩, ⟨⟨fun j hj => ?_, fun j ys ty r' p hd' => ?_, ?_⟩, ?_, ?_, ?_, ?_, ?_⟩, .inr ⟨by simp, rfl⟩⟩
  ·unfold aappend
   rw [ht]
   simp only [hz, hzt, hzz, hel, hbl, hrm]
   have e1 : (own k).spot = some 0 := rfl
   have e2 : (own k).block = k := rfl
   have e3 : (own k).off = 0 := rfl
   have e4 : Nat.ble (n + 1) n = false := by
    cases hq : Nat.ble (n + 1) n
    ·rfl
    ·rw [Nat.ble_eq] at hq; omega
   simp only [e1, e2, hb, e4]
   have e5 : (Nat.beq n n && Nat.beq ((own k).off + n * sz) xs.length && Nat.beq e e && (xs.drop (own k).off).all isOne && Nat.ble (own k).off xs.length) = true := by
    rw [e3, Nat.zero_add, hl, List.drop_zero, h1, Nat.beq_refl, Nat.beq_refl, Nat.beq_refl]
    simp [Nat.ble]
   simp only [e5]
   rw [← hgr]; rfl
  ·rw [List.length_append, hl, hcl]; rw [Nat.add_mul, Nat.one_mul]
  ·rw [List.all_append, h1, hc1]; rfl
  ·intro j hj
   rw [hcr] at hj
   rcases List.mem_cons.1 hj with rfl | hj
   ·exact hbn
   ·exact hch j (mem_spare.1 hj).1
  ·rw [hgn] at hj
   rw [hold j (by omega)]; exact f.free j (by omega)
  ·rw [hgn]
   by_cases hj : j = h.next
   ·subst hj
    have := H.blk_dyn hnew
    rw [this] at hd'; cases hd'; omega
   ·rw [hold j hj] at hd'
    have := f.ok.1 _ _ _ _ _ hd'; omega
  ·rw [hgn]
   have := f.ok.2
   rw [← hg]; exact Nat.le_succ_of_le this
  ·intro j B hbj hro
   have hjn := f.lt hbj
   rw [← hbj]
   refine blk_congr (hold j (by omega)) (fun ys u r' q hd' => ?_)
   have : B = .cells ys u (some (r', q)) := by
    have := H.blk_dyn hbj
    rw [hd'] at this; cases this; rfl
   have hne := hro _ _ _ _ this
   rw [hcn r' (fun h => hne (by rw [h]))]
  ·rw [← hg]
  ·rw [← hg]
  ·rw [hgn]; omega
  ·intro r' hr'
   exact hcn r' (by omega)
theorem only_mono {p q : Nat → Bool} {h g : H} (f : Fit h) (f' : Fit g) (hg : ∀ k B, h.blk k = some B → (∃ xs ty r o, B = .cells xs ty (some (r, o)) ∧ p r = true) → g.blk k = some B) (hp : ∀ r, p r = true → q r = true) : Grows (only p h) (only q g) := by
 intro k B hb
 obtain ⟨h1, xs, ty, r, o, rfl, h2⟩ := (only_blk f).1 hb
 exact (only_blk f').2 ⟨hg _ _ h1 ⟨xs, ty, r, o, rfl, h2⟩, xs, ty, r, o, rfl, hp _ h2⟩
theorem only_ahd {p q : Nat → Bool} {h g : H} (f : Fit h) (s : Ahd h g) (hp : ∀ r, p r = true → q r = true) : Grows (only p h) (only q g) := only_mono f s.fit (fun _ _ hb _ => s.grows _ _ hb) hp
theorem Ahd.setb {h g : H} (s : Ahd h g) {k : Nat} {B : Blk} (hB : B.plain = true) (hk : h.next ≤ k) (hg : k < g.next) (f : Fit h) : Ahd h (g.setb k B) :=
 ⟨s.fit.setb hB hg, fun j B' hb => by
  have := f.lt hb
  rw [setb_ne (by omega)]; exact s.grows _ _ hb, s.log, s.mark, s.next, s.chain⟩
theorem Ahd.grew {h g g' : H} (f : Fit h) (s : Ahd h g) {ro : Option Nat} (hro : ∀ r, ro = some r → h.next ≤ r) (t : Grew h.next ro g g') : Ahd h g' :=
 ⟨t.fit, fun k B hb => t.keep _ _ (s.grows _ _ hb) (fun xs ty r q he hr => by
  subst he
  have h1 := f.ok.1 _ _ _ _ _ (H.blk_dyn hb)
  have := hro _ hr
  omega), t.log.trans s.log, t.mark.trans s.mark, Nat.le_trans s.next t.next, fun r hr => (t.chain r hr).trans (s.chain r hr)⟩
theorem repL_append {E : Env} {h : H} : ∀ {ks : List Item} {cs : List Value} {x : Item} {l : List Value}, repL E h ks cs → rep E h x (.agg ⟨l⟩) → repL E h (ks ++ [x]) (cs ++ l)
 | [], cs, x, l, h1, h2 => by
  rw [repL] at h1; subst h1
  obtain ⟨k, m, tx, ks'⟩ := x
  have h3 := h2
  rw [rep] at h3
  obtain ⟨s, he, _⟩ := h3
  cases he
  rw [List.nil_append, List.nil_append, repL]
  exact ⟨_, _, _, _, [], rfl, h2, by rw [repL]⟩
 | y :: ks, cs, x, l, h1, h2 => by
  rw [repL] at h1
  obtain ⟨a, b, c, d, l', rfl, h3, h4⟩ := h1
  rw [List.cons_append, repL]
  exact ⟨a, b, c, d, l' ++ l, rfl, h3, repL_append h4 h2⟩
theorem done_cell {D : Tab} {E : Env} {fn : Func} {A : Ac} {h : H} {t : Tmp} {ty : TypeId} {v : Value} {a : Addr} {ex : Ex} {Q : Value → H → Prop} (hex : ex = .normal ∨ ex = .ret) (hd : A.defers = []) (hr : fn.results = #[.cell t ty]) (hv : A.get t = .pointer (some a)) (hl : aload D E ty a h = some v) (hq : Q v h) :
  (ex = .normal ∨ ex = .ret) ∧ ∃ h2 v', takeAll A.defers h = some h2 ∧ ares D E fn A h2 = some v' ∧ Q v' h2 := by
 refine ⟨hex, h, v, ?_, ?_, hq⟩
 ·rw [hd]; rfl
 ·unfold ares
  rw [hr]
  simp only [aresL, ares1, hv, hl]
theorem done_q {D : Tab} {E : Env} {fn : Func} {A : Ac} {h : H} {t : Tmp} {v : Value} {ex : Ex} {Q : Value → H → Prop} (hex : ex = .normal ∨ ex = .ret) (hd : A.defers = []) (hr : fn.results = #[.tmp t]) (hv : A.get t = v) (hq : Q v h) :
  (ex = .normal ∨ ex = .ret) ∧ ∃ h2 v', takeAll A.defers h = some h2 ∧ ares D E fn A h2 = some v' ∧ Q v' h2 := by
 refine ⟨hex, h, v, ?_, ?_, hq⟩
 ·rw [hd]; rfl
 ·unfold ares
  rw [hr]
  simp only [aresL, ares1, hv]
/-! ### Calls that are reckoned -/
section
variable {P : Program} {D : Tab} {E : Env} {n0 : Nat}
open Classical in
noncomputable def evBy (D : Tab) (E : Env) (I : Known) : Known := fun f args h =>
 if c : ∃ r n, (ev D E I n).call f args h = some r then some (some c.choose) else none
theorem evBy_eq {I : Known} {n : Nat} {f : FuncId} {args : List Value} {h : H} {r : Value × H} (hc : (ev D E I n).call f args h = some r) : evBy D E I f args h = some (some r) := by
 have c : ∃ r n, (ev D E I n).call f args h = some r := ⟨r, n, hc⟩
 unfold evBy
 rw [dif_pos c]
 obtain ⟨m, hm⟩ := c.choose_spec
 have h1 := (ev_mono I (Nat.le_max_left n m)).call hc
 have h2 := (ev_mono I (Nat.le_max_right n m)).call hm
 rw [h1] at h2
 rw [Option.some.inj h2]
theorem evBy_good (T : D.Of P) (hN : NoNum P) {I : Known} (hI : KnownGood P D E n0 I) : KnownGood P D E n0 (evBy D E I) := by
 have key : ∀ {f args h r h'}, evBy D E I f args h = some (some (r, h')) → ∃ n, (ev D E I n).call f args h = some (r, h') := by
  intro f args h r h' hi
  unfold evBy at hi
  split at hi
  ·next c =>
   obtain ⟨n, hn⟩ := c.choose_spec
   rw [Option.some.inj (Option.some.inj hi)] at hn
   exact ⟨n, hn⟩
  ·cases hi
 refine ⟨fun f args h r h' hi φ w R hok => ?_, fun f args h r h' hi o => ?_, fun f args h r h' hi => ?_⟩
 ·obtain ⟨n, hn⟩ := key hi
  exact (ev_ok T hN hI n).call _ _ _ _ _ hn φ w R hok
 ·obtain ⟨n, hn⟩ := key hi
  exact (ev_lg hI.lg n).call hn o
 ·obtain ⟨n, hn⟩ := key hi
  exact (ev_next hI.next n).call hn
def ShownF (D : Tab) (E : Env) (I : Known) (S : Says) : Prop :=
 ∀ m f args h v, S m f args h v → Fit (fresh h) → roV v = true ∧ ∃ n h', (ev D E (upTo S I m) n).call f args (fresh h) = some (v, h') ∧ h'.log = []
theorem upToF_good (T : D.Of P) (hN : NoNum P) {I : Known} (hI : KnownGood P D E n0 I) {S : Says} (hS : ShownF D E I S) : ∀ m, KnownGood P D E n0 (upTo S I m) := by
 have key : ∀ m, KnownGood P D E n0 (upTo S I m) → ∀ {f args h v φ w}, S m f args h v → Tie D E n0 All φ h w → (∀ x ∈ args, okV φ x) → Sim P D E n0 (callFunc f (args.map (ren φ)).toArray) φ h w v h := by
  intro m hm f args h v φ w hs R hok
  obtain ⟨hro, n, h', h1, h2⟩ := hS m f args h v hs ⟨R.fresh, R.root, Nat.le_refl _⟩
  have hev := ev_ok T hN hm n
  have hlg := (ev_lg hm.lg n).call h1 ⟨R.root, Nat.le_refl _⟩
  obtain ⟨L, l1, _, l3⟩ := hlg.log
  have hL : L = [] := by
   rw [h2] at l1
   have : L ++ (fresh h).log = [] := l1.symm
   exact (List.append_eq_nil_iff.1 this).1
  exact forget_sim R (hev.call _ _ _ _ _ h1 φ w (R.marked _ _) hok) hro (fun k hk => l3 k hk (by rw [hL]; simp))
 intro m
 induction m using Nat.strongRecOn with
 | ind m ih =>
  refine ⟨fun f args h r h' hi φ w R hok => ?_, fun f args h r h' hi o => ?_, fun f args h r h' hi => ?_⟩
  ·unfold upTo at hi
   split at hi
   ·next c =>
    cases hi
    obtain ⟨s, h1, h2⟩ := c.choose_spec
    exact key s (ih s h1) h2 R hok
   ·exact hI.sim _ _ _ _ _ hi φ w R hok
  ·unfold upTo at hi
   split at hi
   ·cases hi; exact Lg.refl o
   ·exact hI.lg _ _ _ _ _ hi o
  ·unfold upTo at hi
   split at hi
   ·cases hi; exact Nat.le_refl _
   ·exact hI.next _ _ _ _ _ hi
theorem saidByF_good (T : D.Of P) (hN : NoNum P) {I : Known} (hI : KnownGood P D E n0 I) {S : Says} (hS : ShownF D E I S) : KnownGood P D E n0 (saidBy S I) := by
 have hm := upToF_good T hN hI hS
 refine ⟨fun f args h r h' hi φ w R hok => ?_, fun f args h r h' hi o => ?_, fun f args h r h' hi => ?_⟩
 ·unfold saidBy at hi
  split at hi
  ·next c =>
   cases hi
   obtain ⟨s, h2⟩ := c.choose_spec
   obtain ⟨hro, n, h', h3, h4⟩ := hS s f args h _ h2 ⟨R.fresh, R.root, Nat.le_refl _⟩
   have hev := ev_ok T hN (hm s) n
   have hlg := (ev_lg (hm s).lg n).call h3 ⟨R.root, Nat.le_refl _⟩
   obtain ⟨L, l1, _, l3⟩ := hlg.log
   have hL : L = [] := by
    rw [h4] at l1
    have : L ++ (fresh h).log = [] := l1.symm
    exact (List.append_eq_nil_iff.1 this).1
   exact forget_sim R (hev.call _ _ _ _ _ h3 φ w (R.marked _ _) hok) hro (fun k hk => l3 k hk (by rw [hL]; simp))
  ·exact hI.sim _ _ _ _ _ hi φ w R hok
 ·unfold saidBy at hi
  split at hi
  ·cases hi; exact Lg.refl o
  ·exact hI.lg _ _ _ _ _ hi o
 ·unfold saidBy at hi
  split at hi
  ·cases hi; exact Nat.le_refl _
  ·exact hI.next _ _ _ _ _ hi
theorem Wc.opsN {I : Known} {F : Fx} {id : Nat} {l : List Oper} {A A' : Ac} {h h' : H} {Q : Ex → Ac → H → Prop} (n : Nat) (he : runOps D E (ev D E I n) l.toArray l A h = some (A', h')) (hq : Q .normal A' h') : Wc D E I F (.region id l.toArray false) A h Q := by
 refine ⟨n + 1, .normal, A', h', ?_, hq⟩
 show doCode D E (ev D E I n) F (.region id l.toArray false) A h = _
 simp only [doCode, runRegion, he]; rfl
def RQ (D : Tab) (E : Env) (v : Ev) (ops : Array Oper) (l : List Oper) (A : Ac) (h : H) (Q : Ac → H → Prop) : Prop := ∃ A' h', runOps D E v ops l A h = some (A', h') ∧ Q A' h'
theorem RQ.run {v : Ev} {ops : Array Oper} {o : Oper} {rest : List Oper} {A : Ac} {h h' : H} {x : Value} {Q : Ac → H → Prop} (hw : awant ops A o = true) (ho : oper1 D E v A o h = some (x, h')) (r : RQ D E v ops rest (A.put o.dst x) h' Q) : RQ D E v ops (o :: rest) A h Q := by
 obtain ⟨A', h2, h3, h4⟩ := r
 exact ⟨A', h2, RO.run hw ho h3, h4⟩
theorem RQ.runG {v : Ev} {ops : Array Oper} {o : Oper} {rest : List Oper} {A : Ac} {h h' : H} {x : Value} {Q : Ac → H → Prop} {j : Nat} {w : Bool} {d : Tmp} (hg : o.guard = some (j, w)) (hd : (ops[j]?).bind (·.dst) = some d) (hv : A.get d = .bool w) (ho : oper1 D E v A o h = some (x, h')) (r : RQ D E v ops rest (A.put o.dst x) h' Q) : RQ D E v ops (o :: rest) A h Q := by
 obtain ⟨A', h2, h3, h4⟩ := r
 exact ⟨A', h2, RO.runG hg hd hv ho h3, h4⟩
theorem RQ.skipG {v : Ev} {ops : Array Oper} {o : Oper} {rest : List Oper} {A : Ac} {h : H} {Q : Ac → H → Prop} {j : Nat} {w : Bool} {d : Tmp} (hg : o.guard = some (j, w)) (hd : (ops[j]?).bind (·.dst) = some d) (hv : A.get d = .bool (!w)) (r : RQ D E v ops rest (A.put o.dst undef) h Q) : RQ D E v ops (o :: rest) A h Q := by
 obtain ⟨A', h2, h3, h4⟩ := r
 exact ⟨A', h2, RO.skipG hg hd hv h3, h4⟩
theorem RQ.nil {v : Ev} {ops : Array Oper} {A : Ac} {h : H} {Q : Ac → H → Prop} (hq : Q A h) : RQ D E v ops [] A h Q := ⟨A, h, rfl, hq⟩
theorem RQ.forget {v : Ev} {ops : Array Oper} {l : List Oper} {A : Ac} {h : H} {Q : Ac → H → Prop} (P : Ac → Prop) (hP : P A) (w : ∀ A', P A' → RQ D E v ops l A' h Q) : RQ D E v ops l A h Q := w A hP
theorem Wc.opsQ {I : Known} {F : Fx} {id : Nat} {l : List Oper} {A : Ac} {h : H} {Q : Ex → Ac → H → Prop} (n : Nat) (r : RQ D E (ev D E I n) l.toArray l A h (Q .normal)) : Wc D E I F (.region id l.toArray false) A h Q := by
 obtain ⟨A', h', h1, h2⟩ := r
 exact Wc.opsN n h1 h2
end
end Go.Hs
