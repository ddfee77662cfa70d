/- What is written is told: blocks that were there, and of which nothing is told, stay. -/
import Derived.Test.YtofijpbmbmbnhaaDoorHsac
import Derived.Orders
set_option linter.unusedSimpArgs false
set_option linter.unusedVariables false
namespace Go.Hs
def H.Wf (h : H) : Prop := ∀ k xs ty r p, h.dyn.get k = some (.cells xs ty (some (r, p))) → r < h.next
def H.Ok (h : H) : Prop := h.Wf ∧ h.mark ≤ h.next
def shapeOf : Option Blk → Option (Option (Nat × TypeId × Option (Nat × Nat)))
 | some (.cells xs ty rt) => some (some (xs.length, ty, rt))
 | some _ => some none
 | none => none
def Blk.noCells : Blk → Bool
 | .cells _ _ _ => false
 | _ => true
theorem shape_noCells {B : Blk} (h : B.noCells = true) : shapeOf (some B) = some none := by
 cases B <;> first | rfl | cases h
theorem plain_noCells {B : Blk} (h : B.noCells = true) : B.plain = true := by
 cases B <;> first | rfl | cases h
structure Lg (h h' : H) : Prop where
 wf : h'.Wf
 shape : ∀ k, k < h.next → shapeOf (h'.dyn.get k) = shapeOf (h.dyn.get k)
 next : h.next ≤ h'.next
 mark : h'.mark = h.mark
 log : ∃ L, h'.log = L ++ h.log ∧ (∀ k ∈ L, k < h.mark) ∧ ∀ k, k < h.mark → k ∉ L → h'.blk k = h.blk k
theorem Lg.ok {h h' : H} (g : Lg h h') (o : h.Ok) : h'.Ok := ⟨g.wf, by rw [g.mark]; exact Nat.le_trans o.2 g.next⟩
theorem Lg.refl {h : H} (o : h.Ok) : Lg h h := ⟨o.1, fun _ _ => rfl, Nat.le_refl _, rfl, [], rfl, by simp, fun _ _ _ => rfl⟩
theorem Lg.trans {h h' h'' : H} (g : Lg h h') (g' : Lg h' h'') : Lg h h'' := by
 obtain ⟨L, h1, h2, h3⟩ := g.log
 obtain ⟨L', h4, h5, h6⟩ := g'.log
 rw [g.mark] at h5 h6
 refine ⟨g'.wf, fun k hk => (g'.shape k (Nat.lt_of_lt_of_le hk g.next)).trans (g.shape k hk), Nat.le_trans g.next g'.next, g'.mark.trans g.mark, L' ++ L, by rw [h4, h1, List.append_assoc], ?_, ?_⟩
 ·intro k hk
  rcases List.mem_append.1 hk with hk | hk
  ·exact h5 k hk
  ·exact h2 k hk
 ·intro k hk hn
  rw [h6 k hk (fun h => hn (List.mem_append_left _ h)), h3 k hk (fun h => hn (List.mem_append_right _ h))]
theorem Lg.of_note {h h1 : H} (ks : List Nat) (hw : h1.Wf) (hs : ∀ k, k < h.next → shapeOf (h1.dyn.get k) = shapeOf (h.dyn.get k)) (hn : h.next ≤ h1.next) (hm : h1.mark = h.mark) (hl : h1.log = h.log) (hb : ∀ k, k < h.mark → k ∉ ks → h1.blk k = h.blk k) : Lg h (h1.note ks) := by
 refine ⟨?_, fun k hk => by rw [H.note_dyn]; exact hs k hk, ?_, ?_, ?_⟩
 ·intro k xs ty r p hd
  rw [H.note_dyn] at hd
  rw [H.note_next]
  exact hw k xs ty r p hd
 ·rw [H.note_next]; exact hn
 ·rw [← hm]; unfold H.note; split <;> rfl
 ·cases hk : h1.mark with
  | zero =>
   refine ⟨[], ?_, by simp, fun k hk' => ?_⟩
   ·unfold H.note; rw [hk]; exact hl
   ·rw [← hm, hk] at hk'; omega
  | succ m =>
   refine ⟨ks.filter (fun k => Nat.ble k m), ?_, ?_, ?_⟩
   ·unfold H.note; rw [hk]; simp only [hl]
   ·intro k hk'
    simp only [List.mem_filter, Nat.ble_eq] at hk'
    rw [← hm, hk]; omega
   ·intro k hk' hn'
    rw [H.note_blk]
    apply hb k hk'
    intro hin
    apply hn'
    simp only [List.mem_filter, Nat.ble_eq]
    exact ⟨hin, by rw [← hm, hk] at hk'; omega⟩
theorem Lg.of_plain {h h1 : H} (hw : h1.Wf) (hs : ∀ k, k < h.next → shapeOf (h1.dyn.get k) = shapeOf (h.dyn.get k)) (hn : h.next ≤ h1.next) (hm : h1.mark = h.mark) (hl : h1.log = h.log) (hb : ∀ k, k < h.mark → h1.blk k = h.blk k) : Lg h h1 :=
 ⟨hw, hs, hn, hm, [], by simpa using hl, by simp, fun k hk _ => hb k hk⟩
theorem blk_congr {h h1 : H} {k : Nat} (hd : h1.dyn.get k = h.dyn.get k) (hc : ∀ xs ty r p, h.dyn.get k = some (.cells xs ty (some (r, p))) → (k ∈ h1.chain r ↔ k ∈ h.chain r)) : h1.blk k = h.blk k := by
 unfold H.blk
 rw [hd]
 cases hg : h.dyn.get k with
 | none => rfl
 | some B =>
  cases B with
  | cells xs ty root =>
   cases root with
   | none => rfl
   | some rp =>
    obtain ⟨r, p⟩ := rp
    have := hc xs ty r p hg
    simp only
    by_cases hm : k ∈ h.chain r
    ·have h1 := this.2 hm
     simp [hm, h1]
    ·have h1 : k ∉ h1.chain r := fun h => hm (this.1 h)
     simp [hm, h1]
  | _ => rfl
section
variable {D : Tab} {E : Env} {h h' : H}
theorem Lg.new (o : h.Ok) (B : Blk) (hB : B.plain = true) : Lg h (h.new B) := by
 refine .of_plain ?_ (fun k hk => by simp only [H.new]; rw [T.get_set_ne _ _ _ _ (by omega)]) (Nat.le_succ _) rfl rfl ?_
 ·intro k xs ty r p hd
  simp only [H.new, T.get_set] at hd ⊢
  split at hd
  ·cases hd; simp [Blk.plain] at hB
  ·have := o.1 _ _ _ _ _ hd; omega
 ·intro k hk
  have := o.2
  exact blk_congr (by simp only [H.new]; rw [T.get_set_ne _ _ _ _ (by omega)]) (fun _ _ _ _ _ => Iff.rfl)
theorem Lg.join_note (o : h.Ok) (ys : List Value) (ty : TypeId) (r p : Nat) (l ks : List Nat) (hr : r ≤ h.next) (hl : ∀ k, k ∉ ks → r ≠ h.next → (k ∈ l ↔ k ∈ h.chain r)) : Lg h ((h.join ys ty r p l).note ks) := by
 refine .of_note ks ?_ (fun k hk => by simp only [H.join]; rw [T.get_set_ne _ _ _ _ (by omega)]) (Nat.le_succ _) rfl rfl ?_
 ·intro k xs u r' p' hd
  simp only [H.join, T.get_set] at hd ⊢
  split at hd
  ·cases hd; omega
  ·have := o.1 _ _ _ _ _ hd; omega
 ·intro k hk hn
  have := o.2
  refine blk_congr (by simp only [H.join]; rw [T.get_set_ne _ _ _ _ (by omega)]) (fun xs u r' p' hd => ?_)
  have hlt := o.1 _ _ _ _ _ hd
  simp only [H.join, H.chain, T.get_set]
  split
  ·next e =>
   subst e
   simp only [Option.getD_some, List.mem_cons]
   have := hl k hn (by omega)
   simp only [H.chain] at this
   rw [← this]
   constructor
   ·rintro (h | h)
    ·omega
    ·exact h
   ·exact .inr
  ·rfl
theorem note_nil (h : H) : h.note [] = h := by
 unfold H.note
 split
 ·rfl
 ·simp
theorem Lg.join (o : h.Ok) (ys : List Value) (ty : TypeId) (r p : Nat) (l : List Nat) (hr : r ≤ h.next) (hl : ∀ k, r ≠ h.next → (k ∈ l ↔ k ∈ h.chain r)) : Lg h (h.join ys ty r p l) := by
 have := Lg.join_note o ys ty r p l [] hr (fun k _ hk => hl k hk)
 rwa [note_nil] at this
theorem Lg.newOpen (o : h.Ok) (xs : List Value) (ty : TypeId) : Lg h (h.newOpen xs ty) :=
 Lg.join o xs ty h.next 0 [] (Nat.le_refl _) (fun _ hn => absurd rfl hn)
theorem mem_spare {r self lo hi k : Nat} : k ∈ h.spare r self lo hi ↔ k ∈ h.chain r ∧ h.hits self lo hi k = false := by
 simp [H.spare]
theorem mem_gone {r self lo hi k : Nat} : k ∈ h.gone r self lo hi ↔ k ∈ h.chain r ∧ h.hits self lo hi k = true := by
 simp [H.gone]
theorem spare_iff {r self lo hi k : Nat} (hk : k ∉ h.gone r self lo hi) : k ∈ h.spare r self lo hi ↔ k ∈ h.chain r := by
 rw [mem_spare]
 rw [mem_gone] at hk
 constructor
 ·exact fun h => h.1
 ·intro hc
  refine ⟨hc, ?_⟩
  cases hh : h.hits self lo hi k
  ·rfl
  ·exact absurd ⟨hc, hh⟩ hk
theorem Lg.grow (o : h.Ok) {e : TypeId} {r p len self : Nat} {xs cs : List Value} (hr : r < h.next) : Lg h (h.grow e r p len self xs cs) :=
 Lg.join_note o (xs ++ cs) e r p _ _ (by omega) (fun k hk _ => spare_iff hk)
theorem Lg.turn (o : h.Ok) (k : Nat) (B : Blk) {B0 : Blk} (hb : h.blk k = some B0) (hB0 : B0.noCells = true) (hB' : B.noCells = true) : Lg h (h.turn k B) := by
 have hB := plain_noCells hB'
 refine Lg.of_note [k] ?_ ?_ (Nat.le_refl _) rfl rfl ?_
 rotate_left
 ·intro j hj
  simp only [T.get_set]
  split
  ·next e => subst e; rw [H.blk_dyn hb, shape_noCells hB0, shape_noCells hB']
  ·rfl
 rotate_left
 ·intro j xs ty r p hd
  simp only [T.get_set] at hd ⊢
  split at hd
  ·cases hd; simp [Blk.plain] at hB
  ·exact o.1 _ _ _ _ _ hd
 ·intro j hj hn
  exact blk_congr (by simp only; rw [T.get_set_ne _ _ _ _ (by simpa using hn)]) (fun _ _ _ _ _ => Iff.rfl)
theorem Lg.put (o : h.Ok) {a : Addr} {vs : List Value} (hp : h.put a vs = some h') : Lg h h' := by
 unfold H.put at hp
 split at hp
 ·cases hp; exact Lg.refl o
 ·split at hp
  ·split at hp
   ·next xs ty root hb =>
    have hbd := H.blk_dyn hb
    split at hp
    ·next hle =>
     simp only [Bool.and_eq_true, Nat.ble_eq] at hle
     have hlen : (xs.take a.off ++ vs ++ xs.drop (a.off + vs.length)).length = xs.length := by
      simp only [List.length_append, List.length_take, List.length_drop]; omega
     have hsh : ∀ j, shapeOf ((h.dyn.set a.block (.cells (xs.take a.off ++ vs ++ xs.drop (a.off + vs.length)) ty root)).get j) = shapeOf (h.dyn.get j) := by
      intro j
      rw [T.get_set]
      split
      ·next e => subst e; rw [hbd]; simp only [shapeOf, hlen]
      ·rfl
     simp only at hp
     split at hp
     ·cases hp
      refine Lg.of_note _ ?_ (fun j _ => hsh j) (Nat.le_refl _) rfl rfl ?_
      ·intro j xs ty r p hd
       simp only [T.get_set] at hd ⊢
       split at hd
       ·cases hd
       ·exact o.1 _ _ _ _ _ hd
      ·intro j hj hn
       exact blk_congr (by simp only; rw [T.get_set_ne _ _ _ _ (by simpa using hn)]) (fun _ _ _ _ _ => Iff.rfl)
     ·next r p =>
      cases hp
      refine Lg.of_note _ ?_ (fun j _ => hsh j) (Nat.le_refl _) rfl rfl ?_
      ·intro j xs ty r p hd
       simp only [T.get_set] at hd ⊢
       split at hd
       ·cases hd; exact o.1 _ _ _ _ _ hbd
       ·exact o.1 _ _ _ _ _ hd
      ·intro j hj hn
       simp only [List.mem_cons, not_or] at hn
       refine blk_congr (by simp only; rw [T.get_set_ne _ _ _ _ hn.1]) (fun xs' u r' p' hd => ?_)
       rw [show ∀ (d : T Blk) (c : T (List Nat)), ({ h with dyn := d, chains := c } : H).chain r' = (c.get r').getD [] from fun _ _ => rfl, T.get_set]
       split
       ·next e => subst e; exact spare_iff hn.2
       ·exact Iff.rfl
    ·cases hp
   ·cases hp
  ·cases hp
theorem asliceS_lg (o : h.Ok) {e : Nat} {a : Addr} {len cap : Nat} {lo hi mx : Option Value} {v : Value} (hp : asliceS e a len cap lo hi mx h = some (v, h')) : Lg h h' := by
 unfold asliceS at hp
 repeat' split at hp
 all_goals first
  | (cases hp; done)
  | (cases hp; exact Lg.refl o)
  | (cases hp; exact Lg.new o _ rfl)
  | skip
 ·cases hp
  refine Lg.join o _ _ _ _ _ (Nat.le_of_lt ?_) (fun _ _ => Iff.rfl)
  apply o.1
  apply H.blk_dyn
  assumption
 ·next r _ hb _ =>
  cases hp
  refine Lg.of_note _ ?_ (fun k hk => by simp only; rw [T.get_set_ne _ _ _ _ (by omega)]) (Nat.le_succ _) rfl rfl ?_
  ·intro j xs ty r p hd
   simp only [T.get_set] at hd ⊢
   split at hd
   ·cases hd
   ·have := o.1 _ _ _ _ _ hd; omega
  ·intro j hj hn
   have := o.2
   refine blk_congr (by simp only; rw [T.get_set_ne _ _ _ _ (by omega)]) (fun xs' u r' p' hd => ?_)
   rw [show ∀ (d : T Blk) (c : T (List Nat)) (n : Nat), ({ h with next := n, dyn := d, chains := c } : H).chain r' = (c.get r').getD [] from fun _ _ _ => rfl, T.get_set]
   split
   ·next e => subst e; simp [hn]
   ·exact Iff.rfl
theorem aappend_lg (o : h.Ok) {t t2 : TypeId} {s x : Value} {v : Value} (hp : aappend D E t t2 s x h = some (v, h')) : Lg h h' := by
 unfold aappend at hp
 repeat' split at hp
 all_goals first
  | (cases hp; done)
  | (cases hp; exact Lg.refl o)
  | (cases hp; exact Lg.newOpen o _ _)
  | (cases hp; exact Lg.put o (by assumption))
  | skip
 ·cases hp
  refine Lg.grow o ?_
  apply o.1
  apply H.blk_dyn
  assumption
theorem acopy_lg (o : h.Ok) {t : TypeId} {s x : Value} {v : Value} (hp : acopy D E t s x h = some (v, h')) : Lg h h' := by
 unfold acopy at hp
 repeat' split at hp
 all_goals first
  | (cases hp; done)
  | (cases hp; exact Lg.refl o)
  | (cases hp; exact Lg.put o (by assumption))
theorem aclear_lg (o : h.Ok) {t : TypeId} {x : Value} {v : Value} (hp : aclear D t x h = some (v, h')) : Lg h h' := by
 unfold aclear at hp
 repeat' split at hp
 all_goals first
  | (cases hp; done)
  | (cases hp; exact Lg.refl o)
  | (cases hp; exact Lg.put o (by assumption))
  | (cases hp; exact Lg.turn o _ _ (by assumption) rfl rfl)
theorem adelete_lg (o : h.Ok) {t : TypeId} {m k : Value} {v : Value} (hp : adelete D t m k h = some (v, h')) : Lg h h' := by
 unfold adelete at hp
 repeat' split at hp
 all_goals first
  | (cases hp; done)
  | (cases hp; exact Lg.refl o)
  | (cases hp; exact Lg.turn o _ _ (by assumption) rfl rfl)
theorem amapUpdate_lg (o : h.Ok) {t : TypeId} {m k x : Value} {v : Value} (hp : amapUpdate D t m k x h = some (v, h')) : Lg h h' := by
 unfold amapUpdate at hp
 repeat' split at hp
 all_goals first
  | (cases hp; done)
  | (cases hp; exact Lg.turn o _ _ (by assumption) rfl rfl)
theorem arange_lg (o : h.Ok) {t : TypeId} {x : Value} {v : Value} (hp : arange D t x h = some (v, h')) : Lg h h' := by
 unfold arange at hp
 repeat' split at hp
 all_goals first
  | (cases hp; done)
  | (cases hp; exact Lg.new o _ rfl)
theorem anext_lg (o : h.Ok) {x : Value} {b : Bool} {v : Value} (hp : anext x b h = some (v, h')) : Lg h h' := by
 unfold anext at hp
 repeat' split at hp
 all_goals first
  | (cases hp; done)
  | (cases hp; exact Lg.refl o)
  | (cases hp; exact Lg.turn o _ _ (by assumption) rfl rfl)
theorem aconvert_lg (o : h.Ok) {s d : TypeId} {x : Value} {v : Value} (hp : aconvert D E s d x h = some (v, h')) : Lg h h' := by
 unfold aconvert at hp
 repeat' split at hp
 all_goals first
  | (cases hp; done)
  | (cases hp; exact Lg.refl o)
  | (cases hp; exact Lg.newOpen o _ _)
theorem abuildSlice_lg (o : h.Ok) {t : TypeId} {n : Nat} {ps : List (Nat × Value)} {v : Value} (hp : abuildSlice D t n ps h = some (v, h')) : Lg h h' := by
 unfold abuildSlice at hp
 repeat' split at hp
 all_goals first
  | (cases hp; done)
  | (cases hp; exact Lg.new o _ rfl)
theorem amakeSlice_lg (o : h.Ok) {t : TypeId} {l c : Value} {v : Value} (hp : amakeSlice D t l c h = some (v, h')) : Lg h h' := by
 unfold amakeSlice at hp
 repeat' split at hp
 all_goals first
  | (cases hp; done)
  | (cases hp; exact Lg.new o _ rfl)
theorem aslice_lg (o : h.Ok) {t : TypeId} {x : Value} {lo hi mx : Option Value} {v : Value} (hp : aslice D t x lo hi mx h = some (v, h')) : Lg h h' := by
 unfold aslice at hp
 repeat' split at hp
 all_goals first
  | (cases hp; done)
  | (cases hp; exact Lg.refl o)
  | exact asliceS_lg o hp
theorem astore_lg (o : h.Ok) {t : TypeId} {a : Addr} {v : Value} (hp : astore D t a v h = some h') : Lg h h' := by
 unfold astore at hp
 repeat' split at hp
 all_goals first
  | (cases hp; done)
  | exact Lg.put o hp
theorem aunsafeS_lg (o : h.Ok) {pt : TypeId} {p n v : Value} (hp : aunsafeS D E pt p n h = some (v, h')) : Lg h h' := by
 unfold aunsafeS at hp
 repeat' split at hp
 all_goals first
  | (cases hp; done)
  | (cases hp; exact Lg.refl o)
  | skip
 cases hp
 refine Lg.of_note _ o.1 (fun _ _ => rfl) (Nat.le_refl _) rfl rfl ?_
 intro j hj hn
 refine blk_congr rfl (fun xs' u r' p' hd => ?_)
 rw [show ∀ (c : T (List Nat)), ({ h with chains := c } : H).chain r' = (c.get r').getD [] from fun _ => rfl, T.get_set]
 split
 ·next e => subst e; simp [hn]
 ·exact Iff.rfl
theorem abuiltin_lg (o : h.Ok) {b : Builtin} {ts : List TypeId} {args : List Value} {v : Value} (hp : abuiltin D E b ts args h = some (v, h')) : Lg h h' := by
 unfold abuiltin at hp
 split at hp
 case h_3 => exact aappend_lg o hp
 case h_4 => exact acopy_lg o hp
 case h_5 => exact aclear_lg o hp
 case h_6 => exact adelete_lg o hp
 case h_10 => exact aunsafeS_lg o hp
 all_goals (repeat' split at hp)
 all_goals first
  | (cases hp; done)
  | (cases hp; exact Lg.refl o)
theorem pair_lg (o : h.Ok) {x : Option Value} {v : Value} (hp : pair h x = some (v, h')) : Lg h h' := by
 unfold pair at hp
 split at hp
 ·cases hp; exact Lg.refl o
 ·cases hp
theorem aop_lg (o : h.Ok) {A : Ac} {op : Op} {v : Value} (hp : aop D E A op h = some (v, h')) : Lg h h' := by
 cases op <;> simp only [aop] at hp
 all_goals (repeat' split at hp)
 all_goals first
  | (cases hp; done)
  | exact pair_lg o hp
  | exact aslice_lg o hp
  | exact abuiltin_lg o hp
  | exact aconvert_lg o hp
  | exact abuildSlice_lg o hp
  | exact amakeSlice_lg o hp
  | exact amapUpdate_lg o hp
  | exact arange_lg o hp
  | exact anext_lg o hp
  | (cases hp; exact astore_lg o (by assumption))
  | (cases hp; exact Lg.refl o)
  | (cases hp; exact Lg.new o _ rfl)
structure EvLg (v : Ev) : Prop where
 call : ∀ {f args h r h'}, v.call f args h = some (r, h') → h.Ok → Lg h h'
 round : ∀ {l args h r h'}, v.round l args h = some (r, h') → h.Ok → Lg h h'
 code : ∀ {F c A h ex A' h'}, v.code F c A h = some (ex, A', h') → h.Ok → Lg h h'
theorem acall_lg (o : h.Ok) {ev : Ev} (hv : EvLg ev) {f : Value} {args : List Value} {r : Value} (hp : acall ev f args h = some (r, h')) : Lg h h' := by
 unfold acall at hp
 split at hp
 ·exact hv.call hp o
 ·exact hv.round hp o
 ·cases hp
theorem oper1_lg (o : h.Ok) {ev : Ev} (hv : EvLg ev) {A : Ac} {op : Oper} {r : Value} (hp : oper1 D E ev A op h = some (r, h')) : Lg h h' := by
 unfold oper1 at hp
 split at hp
 ·simp only [bind, Option.bind_eq_some_iff] at hp
  obtain ⟨_, _, _, _, hc⟩ := hp
  exact acall_lg o hv hc
 ·exact aop_lg o hp
theorem runOps_lg {ev : Ev} (hv : EvLg ev) {ops : Array Oper} : ∀ {l : List Oper} {A : Ac} {h : H} {A' : Ac} {h' : H}, runOps D E ev ops l A h = some (A', h') → h.Ok → Lg h h' := by
 intro l
 induction l with
 | nil => intro A h A' h' hp o; simp only [runOps] at hp; cases hp; exact Lg.refl o
 | cons x l ih =>
  intro A h A' h' hp o
  simp only [runOps] at hp
  split at hp
  ·split at hp
   ·next ho =>
    have g := oper1_lg o hv ho
    exact g.trans (ih hp (g.ok o))
   ·cases hp
  ·exact ih hp o
theorem ok_marked (o : h.Wf) (m : Nat) (hm : m ≤ h.next) (l : List Nat) : ({ h with mark := m, log := l } : H).Ok := ⟨o, hm⟩
theorem step_lg (o : h.Ok) {g : H} (hg : Lg { h with mark := h.next, log := [] } g) : Lg h ({ g with mark := h.mark, log := h.log }.note g.log) := by
 obtain ⟨L, h1, h2, h3⟩ := hg.log
 have hL : g.log = L := by rw [h1]; simp
 refine Lg.of_note _ hg.wf hg.shape hg.next rfl rfl ?_
 intro k hk hn
 rw [hL] at hn
 exact h3 k (Nat.lt_of_lt_of_le hk o.2) hn
theorem runFree_lg {ev : Ev} (hv : EvLg ev) {ops : Array Oper} : ∀ {l : List Oper} {j : Nat} {A : Ac} {h : H} {A' : Ac} {h' : H} {ts : List Tch}, runFree D E ev ops j l A h = some (A', h', ts) → h.Ok → Lg h h' := by
 intro l
 induction l with
 | nil => intro j A h A' h' ts hp o; simp only [runFree] at hp; cases hp; exact Lg.refl o
 | cons x l ih =>
  intro j A h A' h' ts hp o
  simp only [runFree] at hp
  split at hp
  ·split at hp
   ·next ho =>
    split at hp
    ·split at hp
     ·next hr =>
      cases hp
      have g := step_lg o (oper1_lg (ok_marked o.1 h.next (Nat.le_refl _) []) hv ho)
      exact g.trans (ih hr (g.ok o))
     ·cases hp
    ·cases hp
   ·cases hp
  ·split at hp
   ·next hr => cases hp; exact ih hr o
   ·cases hp
theorem takeAll_lg : ∀ {ds : List Nat} {h h' : H}, takeAll ds h = some h' → h.Ok → Lg h h' := by
 intro ds
 induction ds with
 | nil => intro h h' hp o; simp only [takeAll] at hp; cases hp; exact Lg.refl o
 | cons d ds ih =>
  intro h h' hp o
  simp only [takeAll] at hp
  split at hp
  ·have g := Lg.turn o d (.defd true) (by assumption) rfl rfl
   exact g.trans (ih hp (g.ok o))
  ·cases hp
theorem runRegion_lg {ev : Ev} (hv : EvLg ev) {ops : Array Oper} {draw : Bool} {A : Ac} {A' : Ac} (hp : runRegion D E ev ops draw A h = some (A', h')) (o : h.Ok) : Lg h h' := by
 unfold runRegion at hp
 split at hp
 ·exact runOps_lg hv hp o
 ·split at hp
  ·cases hp
  ·split at hp
   ·next hr =>
    split at hp
    ·cases hp; exact runFree_lg hv hr o
    ·cases hp
   ·cases hp
theorem EvLg.step {I : Known} (hI : ∀ f args h r h', I f args h = some (some (r, h')) → h.Ok → Lg h h') {ev : Ev} (hv : EvLg ev) : EvLg (stepEv D E I ev) where
 call := by
  intro f args h r h' hp o
  simp only [stepEv, doCall] at hp
  split at hp
  ·next hI' => subst hp; exact hI _ _ _ _ _ hI' o
  ·split at hp
   ·cases hp
   ·split at hp
    ·cases hp
    ·split at hp
     ·next hc =>
      split at hp
      ·next ht =>
       simp only [Option.map_eq_some_iff] at hp
       obtain ⟨_, _, he⟩ := hp
       cases he
       have g := hv.code hc o
       exact g.trans (takeAll_lg ht (g.ok o))
      ·cases hp
     ·next hc =>
      split at hp
      ·next ht =>
       simp only [Option.map_eq_some_iff] at hp
       obtain ⟨_, _, he⟩ := hp
       cases he
       have g := hv.code hc o
       exact g.trans (takeAll_lg ht (g.ok o))
      ·cases hp
     ·cases hp
 round := by
  intro l args h r h' hp o
  simp only [stepEv, doRound] at hp
  split at hp
  ·split at hp
   ·cases hp
   ·split at hp
    ·next hc1 =>
     split at hp
     ·split at hp
      ·split at hp
       ·cases hp
       ·next hc2 =>
        have g1 := hv.code hc1 o
        have g3 := hv.code hc2 ((Lg.turn (g1.ok o) l (.loop _) (by assumption) rfl rfl).ok (g1.ok o))
        have g2 := (g1.trans (Lg.turn (g1.ok o) l (.loop _) (by assumption) rfl rfl)).trans g3
        split at hp
        ·split at hp <;> first
          | (cases hp; done)
          | (cases hp; exact g2.trans (Lg.turn (g2.ok o) l _ (by assumption) rfl rfl))
        ·cases hp
      ·cases hp
     ·cases hp
    ·cases hp
  ·cases hp
 code := by
  intro F c A h ex A' h' hp o
  simp only [stepEv] at hp
  unfold doCode at hp
  split at hp
  ·cases hp; exact Lg.refl o
  ·simp only [Option.map_eq_some_iff] at hp
   obtain ⟨⟨A1, h1⟩, hr, he⟩ := hp
   cases he
   exact runRegion_lg hv hr o
  ·split at hp
   ·next h1 =>
    have g := hv.code h1 o
    exact g.trans (hv.code hp (g.ok o))
   ·exact hv.code hp o
  ·split at hp
   ·exact hv.code hp o
   ·exact hv.code hp o
   ·cases hp
  ·split at hp
   ·next h1 => split at hp <;> (cases hp; exact hv.code h1 o)
   ·cases hp
   ·exact hv.code hp o
  ·split at hp
   ·next h1 =>
    have g := hv.code h1 o
    exact g.trans (hv.code hp (g.ok o))
   ·cases hp
   ·exact hv.code hp o
  ·split at hp
   ·cases hp
   ·exact hv.code hp o
  ·cases hp; exact Lg.refl o
  ·cases hp; exact Lg.refl o
  ·cases hp; exact Lg.refl o
  ·cases hp
  ·cases hp
  ·split at hp
   ·cases hp
   ·next fv hf =>
    simp only at hp
    split at hp
    ·cases hp
    ·next A1 h1 d hs =>
     have hs1 : Lg h h1 := by
      split at hs
      ·cases hs; exact Lg.new o _ rfl
      ·split at hs
       ·cases hs; exact Lg.refl o
       ·cases hs
     split at hp
     ·cases hp
     ·next h2 hc =>
      have hs3 := acall_lg ((Lg.new (hs1.ok o) (.loop _) rfl).ok (hs1.ok o)) hv hc
      have hs2 := (hs1.trans (Lg.new (hs1.ok o) (.loop _) rfl)).trans hs3
      split at hp
      ·split at hp
       ·cases hp
       ·split at hp
        ·cases hp; exact hs2.trans (Lg.turn (hs2.ok o) _ _ (by assumption) rfl rfl)
        ·have g3 := hv.code hp ((Lg.turn (hs2.ok o) _ (.loop _) (by assumption) rfl rfl).ok (hs2.ok o))
         exact (hs2.trans (Lg.turn (hs2.ok o) _ (.loop _) (by assumption) rfl rfl)).trans g3
      ·cases hp
theorem ev_lg {I : Known} (hI : ∀ f args h r h', I f args h = some (some (r, h')) → h.Ok → Lg h h') : ∀ n, EvLg (ev D E I n)
 | 0 => ⟨fun h => (by cases h), fun h => (by cases h), fun h => (by cases h)⟩
 | n + 1 => EvLg.step hI (ev_lg hI n)
end
end Go.Hs
/- Two ties of the same block tell which own blocks it names; part of a tie, and two ties put together. -/
namespace Go.Hs
/-! ## What two ties agree upon -/
section both
variable {φ ψ χ : Ph}
theorem okA.both (H : ∀ k x, ψ k = some x → χ k = φ k) {a : Addr} (h1 : okA φ a) (h2 : okA ψ a) : okA χ a ∧ renA χ a = renA φ a ∧ extA χ a = extA φ a := by
 rcases h1 with h1 | ⟨h1, k1⟩ | ⟨s, h1⟩
 ·exact ⟨.inl h1, by simp [renA, h1], by simp [extA, h1]⟩
 ·rcases h2 with h2 | ⟨_, k2⟩ | ⟨_, h2⟩
  ·rw [h1] at h2; cases h2
  ·obtain ⟨x, hx⟩ := Option.isSome_iff_exists.1 k2
   have e := H _ _ hx
   exact ⟨.inr (.inl ⟨h1, by rw [e]; exact k1⟩), by simp [renA, h1, e], by simp [extA, h1, e]⟩
  ·rw [h1] at h2; cases h2
 ·exact ⟨.inr (.inr ⟨s, h1⟩), by simp [renA, h1], by simp [extA, h1]⟩
theorem okF.both (H : ∀ k x, ψ k = some x → χ k = φ k) {f : Fn} (h1 : okF φ f) (h2 : okF ψ f) : okF χ f ∧ renF χ f = renF φ f := by
 cases f with
 | yield l =>
  obtain ⟨x, hx⟩ := Option.isSome_iff_exists.1 (show (ψ l).isSome = true from h2)
  have e := H _ _ hx
  exact ⟨by simp only [okF, e]; exact h1, by simp [renF, renN, e]⟩
 | _ => exact ⟨trivial, rfl⟩
mutual
theorem okV.both (H : ∀ k x, ψ k = some x → χ k = φ k) : ∀ {v : Value}, okV φ v → okV ψ v → okV χ v ∧ ren χ v = ren φ v
 | .pointer (some a), h1, h2 => by
  have := okA.both H (show okA φ a from h1) (show okA ψ a from h2)
  exact ⟨this.1, by simp only [ren, this.2.1]⟩
 | .slice (some a) n c, h1, h2 => by
  have := okA.both H (show okA φ a from h1) (show okA ψ a from h2)
  exact ⟨this.1, by simp only [ren, this.2.1, this.2.2]⟩
 | .map (some r), h1, h2 => by
  obtain ⟨x, hx⟩ := Option.isSome_iff_exists.1 (show (ψ r).isSome = true from h2)
  have e := H _ _ hx
  exact ⟨by simp only [okV, e]; exact h1, by simp [ren, renN, e]⟩
 | .func f ⟨xs⟩ ⟨ys⟩, h1, h2 => by
  obtain ⟨a1, b1, c1⟩ := (show okF φ f ∧ okL φ xs ∧ okL φ ys from h1)
  obtain ⟨a2, b2, c2⟩ := (show okF ψ f ∧ okL ψ xs ∧ okL ψ ys from h2)
  have a := okF.both H a1 a2
  have b := okL.both H b1 b2
  have c := okL.both H c1 c2
  exact ⟨⟨a.1, b.1, c.1⟩, by simp only [ren, a.2, b.2, c.2]⟩
 | .agg ⟨xs⟩, h1, h2 => by
  have a := okL.both H (show okL φ xs from h1) (show okL ψ xs from h2)
  exact ⟨a.1, by simp only [ren, a.2]⟩
 | .tuple ⟨xs⟩, h1, h2 => by
  have a := okL.both H (show okL φ xs from h1) (show okL ψ xs from h2)
  exact ⟨a.1, by simp only [ren, a.2]⟩
 | .iface t v, h1, h2 => by
  have a := okV.both H (show okV φ v from h1) (show okV ψ v from h2)
  exact ⟨a.1, by simp only [ren, a.2]⟩
 | .pointer none, _, _ => ⟨trivial, rfl⟩
 | .slice none _ _, _, _ => ⟨trivial, rfl⟩
 | .map none, _, _ => ⟨trivial, rfl⟩
 | .bool _, _, _ => ⟨trivial, rfl⟩
 | .int _ _, _, _ => ⟨trivial, rfl⟩
 | .float _ _, _, _ => ⟨trivial, rfl⟩
 | .complex _ _ _, _, _ => ⟨trivial, rfl⟩
 | .string _, _, _ => ⟨trivial, rfl⟩
 | .chan _, _, _ => ⟨trivial, rfl⟩
 | .nilFunc, _, _ => ⟨trivial, rfl⟩
 | .nilIface, _, _ => ⟨trivial, rfl⟩
theorem okL.both (H : ∀ k x, ψ k = some x → χ k = φ k) : ∀ {l : List Value}, okL φ l → okL ψ l → okL χ l ∧ renL χ l = renL φ l
 | [], _, _ => ⟨trivial, rfl⟩
 | v :: l, h1, h2 => by
  have a := okV.both H h1.1 h2.1
  have b := okL.both H h1.2 h2.2
  exact ⟨⟨a.1, b.1⟩, by simp only [renL, a.2, b.2]⟩
end
theorem BlkTie.both {D : Tab} {w w2 : World} {c b e c2 b2 e2 : Nat} {B : Blk} (H : ∀ k x, ψ k = some x → χ k = φ k) (h1 : BlkTie D φ w c b e B) (h2 : BlkTie D ψ w2 c2 b2 e2 B) : BlkTie D χ w c b e B := by
 cases B with
 | cells xs ty root =>
  rcases h1 with h1 | ⟨cs, u, fz, L⟩
  ·exact .inl h1
  ·refine .inr ⟨cs, u, fz, L.block, L.opn, fun i x hx => ?_, L.room, L.whole⟩
   obtain ⟨y, hy, ht⟩ := L.cell i x hx
   refine ⟨y, hy, fun h1 => ?_⟩
   obtain ⟨ok, rfl⟩ := ht h1
   rcases h2 with ⟨rfl, _⟩ | ⟨cs2, u2, fz2, L2⟩
   ·simp at hx
   ·obtain ⟨y2, hy2, ht2⟩ := L2.cell i x hx
    have := okV.both H ok (ht2 h1).1
    exact ⟨this.1, this.2.symm⟩
 | map es cl =>
  obtain ⟨g1, g2⟩ := h1
  obtain ⟨_, g3⟩ := h2
  have key : ∀ x ∈ es, renE χ x = renE φ x := fun x hx => by
   simp only [renE, (okV.both H (g2 x hx).1 (g3 x hx).1).2, (okV.both H (g2 x hx).2 (g3 x hx).2).2]
  exact ⟨by rw [g1, List.map_congr_left key], fun x hx => ⟨(okV.both H (g2 x hx).1 (g3 x hx).1).1, (okV.both H (g2 x hx).2 (g3 x hx).2).1⟩⟩
 | siter s p => exact h1
 | defd t => cases t with
  | false => exact h1
  | true => exact h1
 | loop r =>
  obtain ⟨l, g1, g2⟩ := h1
  obtain ⟨l2, _, g3⟩ := h2
  refine ⟨l, g1, g2.state, g2.pending, g2.fn, g2.size, fun t => ?_, g2.params, g2.assign, g2.body, ?_⟩
  ·obtain ⟨ok, he⟩ := g2.tmps t
   have := okV.both H ok (g3.tmps t).1
   exact ⟨this.1, by rw [he, this.2]⟩
  ·obtain ⟨x, hx, hd⟩ := g2.defers
   obtain ⟨x2, hx2, _⟩ := g3.defers
   exact ⟨x, by rw [H _ _ hx2]; exact hx, hd⟩
end both
def cut (φ : Ph) (n : Nat) : Ph := fun k => if k < n then φ k else none
theorem cut_lt {φ : Ph} {n k : Nat} (h : k < n) : cut φ n k = φ k := if_pos h
theorem cut_some {φ : Ph} {n k : Nat} {x : Nat × Nat × Nat} (h : cut φ n k = some x) : k < n ∧ φ k = some x := by
 unfold cut at h
 split at h
 ·exact ⟨by assumption, h⟩
 ·cases h
theorem cut_le (φ : Ph) (n : Nat) : Le (cut φ n) φ := fun _ _ h => (cut_some h).2
section
variable {D : Tab} {E : Env} {n0 : Nat} {φ ψ : Ph} {h g : H} {w w2 : World}
theorem blk_none_root {h : H} {k : Nat} {xs : List Value} {ty : TypeId} (hd : h.dyn.get k = some (.cells xs ty none)) : h.blk k = some (.cells xs ty none) := by
 unfold H.blk; rw [hd]
theorem Tie.cutTo (R : Tie D E n0 All φ h w) (S : Tie D E n0 All ψ g w2) (hd : ∀ k, k < g.next → (φ k).isSome = true → (ψ k).isSome = true)
  (hb : ∀ k B, k < g.next → (φ k).isSome = true → g.blk k = some B → h.blk k = some B) : Tie D E n0 All (cut φ g.next) g w := by
 have HH : ∀ k x, ψ k = some x → cut φ g.next k = φ k := fun k x hk => by
  obtain ⟨c, b, e⟩ := x
  exact cut_lt (S.dom _ _ _ _ hk).1
 refine ⟨R.ro, R.size, ?_, ?_, ?_, ?_, S.fresh, S.root⟩
 ·intro k c b e hk
  obtain ⟨h1, h2⟩ := cut_some hk
  obtain ⟨_, h3, h4⟩ := R.dom _ _ _ _ h2
  exact ⟨h1, h3, h4⟩
 ·intro k B c b e _ hB hk
  obtain ⟨h1, h2⟩ := cut_some hk
  have h3 := R.blk k B c b e trivial (hb k B h1 (by rw [h2]; rfl) hB) h2
  obtain ⟨⟨c2, b2, e2⟩, h4⟩ := Option.isSome_iff_exists.1 (hd k h1 (by rw [h2]; rfl))
  exact h3.both HH (S.blk k B c2 b2 e2 trivial hB h4)
 ·intro j k B B' c b e b' e' hjk hB hB' n1 n2 hj hk
  obtain ⟨h1, h2⟩ := cut_some hj
  obtain ⟨h3, h4⟩ := cut_some hk
  exact R.apart j k B B' c b e b' e' hjk (hb j B h1 (by rw [h2]; rfl) hB) (hb k B' h3 (by rw [h4]; rfl) hB') n1 n2 h2 h4
 ·intro k xs ty c b e hdk hk
  obtain ⟨h1, h2⟩ := cut_some hk
  have := hb k _ h1 (by rw [h2]; rfl) (blk_none_root hdk)
  exact R.exact k xs ty c b e (H.blk_dyn this) h2
def glueH (g h : H) (n : Nat) : H :=
 { next := h.next, dyn := T.ofOpts ((List.range h.next).map fun k => if k < n then g.dyn.get k else h.dyn.get k) 0 .nil, chains := T.ofOpts ((List.range h.next).map fun k => if k < n then g.chains.get k else h.chains.get k) 0 .nil, mark := 0, log := [] }
def glueP (φ ψ : Ph) (n : Nat) : Ph := fun k => if k < n then φ k else ψ k
theorem ofOpts_range {α : Type} (f : Nat → Option α) (n k : Nat) : (T.ofOpts ((List.range n).map f) 0 .nil).get k = if k < n then f k else none := by
 rw [T.get_ofOpts _ _ _ _ (fun k _ => T.get_nil k), if_pos (Nat.zero_le _), Nat.sub_zero, List.getElem?_map]
 by_cases hk : k < n
 ·rw [List.getElem?_range hk, if_pos hk]; simp
 ·rw [if_neg hk, List.getElem?_eq_none (by simpa using hk)]; rfl
theorem glue_dyn {g h : H} {n k : Nat} (hg : ∀ k, g.next ≤ k → g.dyn.get k = none) (hh : ∀ k, h.next ≤ k → h.dyn.get k = none) (hn : g.next = n) (hle : n ≤ h.next) : (glueH g h n).dyn.get k = if k < n then g.dyn.get k else h.dyn.get k := by
 show (T.ofOpts _ _ _).get k = _
 rw [ofOpts_range]
 by_cases hk : k < h.next
 ·rw [if_pos hk]
 ·rw [if_neg hk, if_neg (by omega), hh k (by omega)]
theorem glue_chain {g h : H} {n r : Nat} (hr : r < h.next) : (glueH g h n).chain r = if r < n then g.chain r else h.chain r := by
 show ((T.ofOpts _ _ _).get r).getD [] = _
 rw [ofOpts_range, if_pos hr]
 split <;> rfl
theorem blk_same {h h1 : H} {k : Nat} (hd : h1.dyn.get k = h.dyn.get k) (hc : ∀ xs ty r p, h.dyn.get k = some (.cells xs ty (some (r, p))) → h1.chain r = h.chain r) : h1.blk k = h.blk k :=
 blk_congr hd (fun xs ty r p hq => by rw [hc xs ty r p hq])
theorem Tie.glue {w' : World} {φ' : Ph} {n : Nat} (R : Tie D E n0 All φ h w) (S : Tie D E n0 All φ' g w') (hle : g.next ≤ h.next) (hnn : n ≤ g.next) (hlow : ∀ k, k < n → φ' k = φ k) (hmid : ∀ k, n ≤ k → k < g.next → φ k = none)
  (hK : Kept (cut φ n) w w') (hX : ∀ k c b e, φ' k = some (c, b, e) → w.heap.size ≤ c ∨ ∃ j b' e', cut φ n j = some (c, b', e'))
  (hsep : ∀ k c b e, n ≤ k → φ k = some (c, b, e) → ∀ k' b' e', k' ≠ k → φ k' ≠ some (c, b', e'))
  (hroot : ∀ k xs ty r p, g.next ≤ k → h.dyn.get k = some (.cells xs ty (some (r, p))) → g.next ≤ r) :
  Tie D E n0 All (glueP φ' φ g.next) (glueH g h g.next) w' ∧ (∀ k, (glueH g h g.next).blk k = if k < g.next then g.blk k else h.blk k) ∧ Le φ (glueP φ' φ g.next) := by
 have hdyn : ∀ k, (glueH g h g.next).dyn.get k = if k < g.next then g.dyn.get k else h.dyn.get k := fun k => glue_dyn S.fresh R.fresh rfl hle
 have hblk : ∀ k, (glueH g h g.next).blk k = if k < g.next then g.blk k else h.blk k := by
  intro k
  by_cases hk : k < g.next
  ·rw [if_pos hk]
   refine blk_same (by rw [hdyn, if_pos hk]) (fun xs ty r p hq => ?_)
   have := S.root _ _ _ _ _ hq
   rw [glue_chain (by omega), if_pos this]
  ·rw [if_neg hk]
   refine blk_same (by rw [hdyn, if_neg hk]) (fun xs ty r p hq => ?_)
   have h1 := R.root _ _ _ _ _ hq
   have h2 := hroot k xs ty r p (by omega) hq
   rw [glue_chain h1, if_neg (by omega)]
 have hLe : Le φ (glueP φ' φ g.next) := by
  intro k x hk
  show (if k < g.next then φ' k else φ k) = some x
  split
  ·next hlt =>
   rcases Nat.lt_or_ge k n with hkn | hkn
   ·rw [hlow k hkn]; exact hk
   ·rw [hmid k hkn hlt] at hk; cases hk
  ·exact hk
 have hLe' : Le φ' (glueP φ' φ g.next) := by
  intro k x hk
  obtain ⟨c, b, e⟩ := x
  show (if k < g.next then φ' k else φ k) = _
  rw [if_pos (S.dom _ _ _ _ hk).1]; exact hk
 have hcase : ∀ k c b e, glueP φ' φ g.next k = some (c, b, e) → (k < g.next ∧ φ' k = some (c, b, e)) ∨ (g.next ≤ k ∧ φ k = some (c, b, e)) := by
  intro k c b e hk
  simp only [glueP] at hk
  split at hk
  ·exact .inl ⟨by assumption, hk⟩
  ·exact .inr ⟨by omega, hk⟩
 have hfar : ∀ k c b e, g.next ≤ k → φ k = some (c, b, e) → ∀ j b' e', φ' j ≠ some (c, b', e') := by
  intro k c b e hk hφ j b' e' hj
  have hc := (R.dom _ _ _ _ hφ).2.2
  rcases hX _ _ _ _ hj with h1 | ⟨i, b2, e2, hi⟩
  ·omega
  ·obtain ⟨h2, h3⟩ := cut_some hi
   exact hsep k c b e (by omega) hφ i b2 e2 (by omega) h3
 refine ⟨⟨S.ro, S.size, ?_, ?_, ?_, ?_, ?_, ?_⟩, hblk, hLe⟩
 ·intro k c b e hk
  rcases hcase _ _ _ _ hk with ⟨h1, h2⟩ | ⟨h1, h2⟩
  ·obtain ⟨a1, a2, a3⟩ := S.dom _ _ _ _ h2
   exact ⟨Nat.lt_of_lt_of_le a1 hle, a2, a3⟩
  ·obtain ⟨a1, a2, a3⟩ := R.dom _ _ _ _ h2
   exact ⟨a1, a2, Nat.lt_of_lt_of_le a3 hK.size⟩
 ·intro k B c b e _ hB hk
  rw [hblk] at hB
  rcases hcase _ _ _ _ hk with ⟨h1, h2⟩ | ⟨h1, h2⟩
  ·rw [if_pos h1] at hB
   exact (S.blk k B c b e trivial hB h2).le hLe' rfl
  ·rw [if_neg (by omega)] at hB
   refine (R.blk k B c b e trivial hB h2).le hLe (hK.block c (R.dom _ _ _ _ h2).2.2 ?_)
   intro j b' e' hj
   obtain ⟨h3, h4⟩ := cut_some hj
   exact hsep k c b e (by omega) h2 j b' e' (by omega) h4
 ·intro j k B B' c b e b' e' hjk hB hB' n1 n2 hj hk
  rw [hblk] at hB hB'
  rcases hcase _ _ _ _ hj with ⟨h1, h2⟩ | ⟨h1, h2⟩
  ·rw [if_pos h1] at hB
   rcases hcase _ _ _ _ hk with ⟨h3, h4⟩ | ⟨h3, h4⟩
   ·rw [if_pos h3] at hB'
    exact S.apart j k B B' c b e b' e' hjk hB hB' n1 n2 h2 h4
   ·exact absurd h2 (hfar k c b' e' h3 h4 j b e)
  ·rcases hcase _ _ _ _ hk with ⟨h3, h4⟩ | ⟨h3, h4⟩
   ·exact absurd h4 (hfar j c b e h1 h2 k b' e')
   ·exact absurd h4 (hsep j c b e (by omega) h2 k b' e' (fun ee => hjk ee.symm))
 ·intro k xs ty c b e hdk hk
  rw [hdyn] at hdk
  rcases hcase _ _ _ _ hk with ⟨h1, h2⟩ | ⟨h1, h2⟩
  ·rw [if_pos h1] at hdk; exact S.exact k xs ty c b e hdk h2
  ·rw [if_neg (by omega)] at hdk; exact R.exact k xs ty c b e hdk h2
 ·intro k hk
  have hk : h.next ≤ k := hk
  rw [hdyn, if_neg (by omega)]; exact R.fresh k hk
 ·intro k xs ty r p hd
  show r < h.next
  rw [hdyn] at hd
  split at hd
  ·have := S.root _ _ _ _ _ hd; omega
  ·exact R.root _ _ _ _ _ hd
end
end Go.Hs
/- The order of a region: each order that the machine may draw lists every operation, behind those that it is ordered after. -/
namespace Go.Hs
open Region
/-! ## What stands before an operation -/
def bF (acc : Array Nat) (o : Oper) : Nat := o.after.foldl (fun s e => if binds .any e then s ||| 2 ^ e.on ||| acc.getD e.on 0 else s) 0
theorem before_eq (ops : Array Oper) : before ops = ops.toList.foldl (fun acc o => acc.push (bF acc o)) #[] := by
 unfold before
 rw [← Array.foldl_toList]
 rfl
theorem bfold_spec : ∀ (l : List Oper) (acc : Array Nat),
  (∀ k, k < acc.size → (l.foldl (fun acc o => acc.push (bF acc o)) acc).getD k 0 = acc.getD k 0) ∧
  ∀ m o, l[m]? = some o → ∃ acc' : Array Nat, (l.foldl (fun acc o => acc.push (bF acc o)) acc).getD (acc.size + m) 0 = bF acc' o ∧
   ∀ k, acc'.getD k 0 = (l.foldl (fun acc o => acc.push (bF acc o)) acc).getD k 0 ∨ acc'.getD k 0 = 0 := by
 intro l
 induction l with
 | nil => intro acc; exact ⟨fun _ _ => rfl, fun m o h => by simp at h⟩
 | cons x l ih =>
  intro acc
  obtain ⟨h1, h2⟩ := ih (acc.push (bF acc x))
  simp only [List.foldl_cons]
  have h3 : ∀ k, k < acc.size → (l.foldl (fun acc o => acc.push (bF acc o)) (acc.push (bF acc x))).getD k 0 = acc.getD k 0 := by
   intro k hk
   rw [h1 k (by simp; omega)]
   simp [Array.getD_eq_getD_getElem?, Array.getElem?_push, show k ≠ acc.size by omega]
  refine ⟨h3, fun m o hm => ?_⟩
  cases m with
  | zero =>
   simp only [List.getElem?_cons_zero, Option.some.injEq] at hm
   subst hm
   refine ⟨acc, ?_, fun k => ?_⟩
   ·rw [Nat.add_zero, h1 acc.size (by simp)]
    simp [Array.getD_eq_getD_getElem?]
   ·rcases Nat.lt_or_ge k acc.size with hk | hk
    ·exact .inl (h3 k hk).symm
    ·exact .inr (by simp [Array.getD_eq_getD_getElem?, hk])
  | succ m =>
   rw [List.getElem?_cons_succ] at hm
   obtain ⟨acc', h4, h5⟩ := h2 m o hm
   exact ⟨acc', by rw [← h4]; simp only [Array.size_push]; congr 1; omega, h5⟩
theorem bF_bit {acc : Array Nat} {o : Oper} {i : Nat} (h : (bF acc o).testBit i = true) : ∃ e ∈ o.after, binds .any e = true ∧ (i = e.on ∨ (acc.getD e.on 0).testBit i = true) := by
 unfold bF at h
 rw [← Array.foldl_toList] at h
 have : ∀ (l : List Edge) (s : Nat), (l.foldl (fun s e => if binds .any e then s ||| 2 ^ e.on ||| acc.getD e.on 0 else s) s).testBit i = true →
   s.testBit i = true ∨ ∃ e ∈ l, binds .any e = true ∧ (i = e.on ∨ (acc.getD e.on 0).testBit i = true) := by
  intro l
  induction l with
  | nil => intro s hs; exact .inl hs
  | cons x l ih =>
   intro s hs
   rw [List.foldl_cons] at hs
   rcases ih _ hs with h1 | ⟨e, he, h2⟩
   ·split at h1
    ·next hb =>
     simp only [Nat.testBit_or, Bool.or_eq_true, Nat.testBit_two_pow, decide_eq_true_eq] at h1
     rcases h1 with (h1 | h1) | h1
     ·exact .inl h1
     ·exact .inr ⟨x, by simp, hb, .inl h1.symm⟩
     ·exact .inr ⟨x, by simp, hb, .inr h1⟩
    ·exact .inl h1
   ·exact .inr ⟨e, by simp [he], h2⟩
 rcases this _ _ h with h1 | ⟨e, he, h2⟩
 ·simp at h1
 ·exact ⟨e, by simpa using he, h2⟩
variable {ops : Array Oper} {md : Region.Mode}
theorem before_bit {j : Nat} {o : Oper} (ho : ops[j]? = some o) {i : Nat} (h : ((before ops).getD j 0).testBit i = true) :
  ∃ e ∈ o.after, binds .any e = true ∧ (i = e.on ∨ ((before ops).getD e.on 0).testBit i = true) := by
 rw [before_eq] at h ⊢
 obtain ⟨acc', h1, h2⟩ := (bfold_spec ops.toList #[]).2 j o (by simpa using ho)
 simp only [List.size_toArray, List.length_nil, Nat.zero_add] at h1
 rw [h1] at h
 obtain ⟨e, he, hb, h3⟩ := bF_bit h
 refine ⟨e, he, hb, ?_⟩
 rcases h3 with h3 | h3
 ·exact .inl h3
 ·rcases h2 e.on with h4 | h4
  ·rw [h4] at h3; exact .inr h3
  ·rw [h4] at h3; simp at h3
/-! ## Orders -/
def Good (ops : Array Oper) : (Nat → Prop) → List Nat → Prop
 | X, [] => ∀ i, i < ops.size → X i
 | X, j :: l => j < ops.size ∧ ¬ X j ∧ (∀ i, ((before ops).getD j 0).testBit i = true → X i) ∧ Good ops (fun i => X i ∨ i = j) l
def Down (ops : Array Oper) (X : Nat → Prop) : Prop := ∀ j, X j → ∀ i, ((before ops).getD j 0).testBit i = true → X i
def GoodM (md : Region.Mode) (ops : Array Oper) : (Nat → Prop) → List Nat → Prop
 | X, [] => ∀ i, i < ops.size → X i
 | X, j :: l => j < ops.size ∧ ¬ X j ∧ (∀ o, ops[j]? = some o → ∀ e ∈ o.after, binds md e = true → X e.on) ∧ GoodM md ops (fun i => X i ∨ i = j) l
theorem binds_any {e : Edge} (h : binds .any e = true) : binds md e = true := by
 unfold binds at *
 cases hg : e.ground <;> rw [hg] at h <;> first | rfl | (simp at h; done) | cases h
theorem GoodM.good : ∀ {l : List Nat} {X : Nat → Prop}, Down ops X → GoodM md ops X l → Good ops X l := by
 intro l
 induction l with
 | nil => intro X _ h; exact h
 | cons j l ih =>
  intro X hD h
  obtain ⟨h1, h2, h3, h4⟩ := h
  have hj : ops[j]? = some ops[j] := by simp [h1]
  have hp : ∀ i, ((before ops).getD j 0).testBit i = true → X i := by
   intro i hi
   obtain ⟨e, he, hb, h5⟩ := before_bit hj hi
   have hx := h3 _ hj e he (binds_any hb)
   rcases h5 with rfl | h5
   ·exact hx
   ·exact hD _ hx _ h5
  refine ⟨h1, h2, hp, ih ?_ h4⟩
  intro k hk i hi
  rcases hk with hk | rfl
  ·exact .inl (hD k hk i hi)
  ·exact .inl (hp i hi)
def cnt (f : Nat → Bool) : Nat → Nat
 | 0 => 0
 | n + 1 => (if f n then 1 else 0) + cnt f n
theorem cnt_zero {f : Nat → Bool} : ∀ {n : Nat}, cnt f n = 0 → ∀ i, i < n → f i = false := by
 intro n
 induction n with
 | zero => intro _ i h; omega
 | succ n ih =>
  intro h i hi
  simp only [cnt] at h
  by_cases e : i = n
  ·subst e
   cases hf : f i
   ·rfl
   ·rw [hf] at h; simp at h
  ·exact ih (by omega) i (by omega)
theorem cnt_pos {f : Nat → Bool} : ∀ {n i : Nat}, i < n → f i = true → 0 < cnt f n := by
 intro n
 induction n with
 | zero => intro i h; omega
 | succ n ih =>
  intro i hi hf
  simp only [cnt]
  by_cases e : i = n
  ·subst e; rw [hf]; simp; omega
  ·have := ih (i := i) (by omega) hf; omega
theorem cnt_congr {f g : Nat → Bool} : ∀ {n : Nat}, (∀ i, i < n → f i = g i) → cnt f n = cnt g n := by
 intro n
 induction n with
 | zero => intro _; rfl
 | succ n ih => intro h; simp only [cnt]; rw [h n (by omega), ih (fun i hi => h i (by omega))]
theorem cnt_set {f g : Nat → Bool} {k : Nat} : ∀ {n : Nat}, k < n → f k = true → g k = false → (∀ i, i ≠ k → g i = f i) → cnt f n = cnt g n + 1 := by
 intro n
 induction n with
 | zero => intro h; omega
 | succ n ih =>
  intro hk h1 h2 h3
  simp only [cnt]
  by_cases e : k = n
  ·subst e
   rw [h1, h2, cnt_congr (f := f) (g := g) (fun i hi => (h3 i (by omega)).symm)]
   simp; omega
  ·rw [h3 n (fun h => e h.symm), ih (by omega) h1 h2 h3]; omega
structure Lists (ops : Array Oper) (listed : Array Bool) (X : Nat → Prop) : Prop where
 size : listed.size = ops.size
 iff : ∀ i, i < ops.size → (listed.getD i true = true ↔ X i)
 lt : ∀ i, X i → i < ops.size
theorem Lists.unlisted {listed : Array Bool} {X : Nat → Prop} (L : Lists ops listed X) {i : Nat} (h : listed.getD i true = false) : i < ops.size ∧ ¬ X i := by
 have hi : i < ops.size := by
  rcases Nat.lt_or_ge i listed.size with hlt | hge
  ·rw [← L.size]; exact hlt
  ·rw [Array.getD_eq_getD_getElem?, Array.getElem?_eq_none hge] at h; simp at h
 exact ⟨hi, fun hx => by rw [(L.iff i hi).2 hx] at h; cases h⟩
theorem Lists.listed {listed : Array Bool} {X : Nat → Prop} (L : Lists ops listed X) {i : Nat} : listed.getD i false = true ↔ X i := by
 constructor
 ·intro h
  have hi : i < ops.size := by
   rcases Nat.lt_or_ge i listed.size with hlt | hge
   ·rw [← L.size]; exact hlt
   ·rw [Array.getD_eq_getD_getElem?, Array.getElem?_eq_none hge] at h; simp at h
  apply (L.iff i hi).1
  have hs : i < listed.size := by rw [L.size]; exact hi
  simp only [Array.getD_eq_getD_getElem?, Array.getElem?_eq_getElem hs, Option.getD_some] at h ⊢
  exact h
 ·intro hx
  have hi := L.lt i hx
  have h := (L.iff i hi).2 hx
  have hs : i < listed.size := by rw [L.size]; exact hi
  simp only [Array.getD_eq_getD_getElem?, Array.getElem?_eq_getElem hs, Option.getD_some] at h ⊢
  exact h
theorem Lists.set {listed : Array Bool} {X : Nat → Prop} (L : Lists ops listed X) {k : Nat} (hk : k < ops.size) : Lists ops (listed.setIfInBounds k true) (fun i => X i ∨ i = k) := by
 refine ⟨by simp [L.size], fun i hi => ?_, ?_⟩
 ·by_cases e : k = i
  ·subst e
   have hs : k < listed.size := by rw [L.size]; exact hk
   simp [Array.getD_eq_getD_getElem?, hs]
  ·rw [getD_set_ne true e, L.iff i hi]
   constructor
   ·exact .inl
   ·rintro (h | h)
    ·exact h
    ·exact absurd h.symm e
 ·rintro i (h | rfl)
  ·exact L.lt i h
  ·exact hk
theorem go_succ (fuel t : Nat) (listed : Array Bool) : linearise.go md ops (fuel + 1) t listed [] =
  match (ready md ops listed)[t % (ready md ops listed).length]? with
  | some i => i :: linearise.go md ops fuel (t / (ready md ops listed).length) (listed.setIfInBounds i true) []
  | none => [] := by
 simp only [linearise.go]
 change (match (Region.ready md ops listed)[t % (Region.ready md ops listed).length]? with
   | some i => Region.linearise.go md ops fuel (t / (Region.ready md ops listed).length) (listed.setIfInBounds i true) [i]
   | none => [].reverse) = _
 cases (ready md ops listed)[t % (ready md ops listed).length]? with
 | some i => simp only; rw [linearise_go_acc]; simp
 | none => rfl
theorem ready_step {listed : Array Bool} {X : Nat → Prop} (L : Lists ops listed X) {i : Nat} (hi : i ∈ ready md ops listed) :
  i < ops.size ∧ ¬ X i ∧ ∀ o, ops[i]? = some o → ∀ e ∈ o.after, binds md e = true → X e.on := by
 obtain ⟨h1, o, h2, h3⟩ := mem_ready.1 hi
 obtain ⟨h4, h5⟩ := L.unlisted h1
 refine ⟨h4, h5, fun o' ho' e he hb => ?_⟩
 rw [h2] at ho'; cases ho'
 exact L.listed.1 (h3 e he hb)
theorem cnt_listed {listed : Array Bool} {X : Nat → Prop} (L : Lists ops listed X) {i : Nat} (hi : i < ops.size) (hx : ¬ X i) :
  cnt (fun k => !listed.getD k true) ops.size = cnt (fun k => !(listed.setIfInBounds i true).getD k true) ops.size + 1 := by
 refine cnt_set hi ?_ ?_ ?_
 ·cases h : listed.getD i true
  ·rfl
  ·exact absurd ((L.iff i hi).1 h) hx
 ·have hs : i < listed.size := by rw [L.size]; exact hi
  simp [Array.getD_eq_getD_getElem?, hs]
 ·intro k hk
  rw [getD_set_ne true (fun e => hk e.symm)]
theorem all_listed {listed : Array Bool} {X : Nat → Prop} (L : Lists ops listed X) (h : cnt (fun k => !listed.getD k true) ops.size = 0) : ∀ i, i < ops.size → X i := by
 intro i hi
 have := cnt_zero h i hi
 exact (L.iff i hi).1 (by simpa using this)
theorem go_full : ∀ (fuel t : Nat) (listed : Array Bool) (X : Nat → Prop), Lists ops listed X → cnt (fun k => !listed.getD k true) ops.size = fuel → (linearise.go md ops fuel t listed []).length = fuel →
  GoodM md ops X (linearise.go md ops fuel t listed []) := by
 intro fuel
 induction fuel with
 | zero =>
  intro t listed X L hc _
  simp only [linearise.go, List.reverse_nil]
  exact all_listed L hc
 | succ fuel ih =>
  intro t listed X L hc hl
  rw [go_succ] at hl ⊢
  split at hl
  ·next i hi =>
   obtain ⟨h1, h2, h3⟩ := ready_step L (List.mem_of_getElem? hi)
   have := cnt_listed L h1 h2
   exact ⟨h1, h2, h3, ih _ _ _ (L.set h1) (by omega) (by simpa using hl)⟩
  ·simp at hl
def Ranked (md : Region.Mode) (ops : Array Oper) (r : Nat → Nat) : Prop := ∀ j o, ops[j]? = some o → ∀ e ∈ o.after, binds md e = true → e.on < ops.size ∧ r e.on < r j
theorem ready_ne {listed : Array Bool} {X : Nat → Prop} {r : Nat → Nat} (hr : Ranked md ops r) (L : Lists ops listed X) : ∀ (m j : Nat), r j = m → j < ops.size → ¬ X j → ready md ops listed ≠ [] := by
 intro m
 induction m using Nat.strongRecOn with
 | ind m ih =>
  intro j hm hj hx
  by_cases h : ∀ e ∈ (ops[j]).after, binds md e = true → X e.on
  ·intro hnil
   have : j ∈ ready md ops listed := by
    refine mem_ready.2 ⟨?_, ops[j], by simp [hj], fun e he hb => L.listed.2 (h e he hb)⟩
    cases hq : listed.getD j true
    ·rfl
    ·exact absurd ((L.iff j hj).1 hq) hx
   rw [hnil] at this; cases this
  ·simp only [Classical.not_forall] at h
   obtain ⟨e, he, hb, hxe⟩ := h
   obtain ⟨h1, h2⟩ := hr j _ (by simp [hj]) e he hb
   exact ih (r e.on) (by omega) e.on rfl h1 hxe
theorem go_ranked {r : Nat → Nat} (hr : Ranked md ops r) : ∀ (fuel t : Nat) (listed : Array Bool) (X : Nat → Prop), Lists ops listed X → cnt (fun k => !listed.getD k true) ops.size = fuel →
  GoodM md ops X (linearise.go md ops fuel t listed []) := by
 intro fuel
 induction fuel with
 | zero =>
  intro t listed X L hc
  simp only [linearise.go, List.reverse_nil]
  exact all_listed L hc
 | succ fuel ih =>
  intro t listed X L hc
  rw [go_succ]
  have hne : ready md ops listed ≠ [] := by
   by_cases h : ∃ j, j < ops.size ∧ ¬ X j
   ·obtain ⟨j, h1, h2⟩ := h
    exact ready_ne hr L _ j rfl h1 h2
   ·exfalso
    have : ∀ i, i < ops.size → (fun k => !listed.getD k true) i = (fun _ => false) i := by
     intro i hi
     have hx : X i := Classical.byContradiction fun hx => h ⟨i, hi, hx⟩
     simp only [(L.iff i hi).2 hx]; rfl
    rw [cnt_congr this] at hc
    have h0 : ∀ n, cnt (fun _ => false) n = 0 := by
     intro n
     induction n with
     | zero => rfl
     | succ n ih => simp [cnt, ih]
    rw [h0] at hc; omega
  split
  ·next i hi =>
   obtain ⟨h1, h2, h3⟩ := ready_step L (List.mem_of_getElem? hi)
   have := cnt_listed L h1 h2
   exact ⟨h1, h2, h3, ih _ _ _ (L.set h1) (by omega)⟩
  ·next hi =>
   exfalso
   have hlt : t % (ready md ops listed).length < (ready md ops listed).length := Nat.mod_lt _ (List.length_pos_iff.2 hne)
   rw [List.getElem?_eq_getElem hlt] at hi
   cases hi
theorem idxOf_ne {a b : Nat} {l : List Nat} (h : b ≠ a) : (b :: l).idxOf a = l.idxOf a + 1 := by
 rw [List.idxOf_cons]
 have : (b == a) = false := by simpa using h
 rw [this]; rfl
theorem GoodM.rank : ∀ {l : List Nat} {X : Nat → Prop}, (∀ i, X i → i < ops.size) → GoodM md ops X l → ∀ j o, ops[j]? = some o → ∀ e ∈ o.after, binds md e = true → X j ∨ X e.on ∨ (e.on < ops.size ∧ l.idxOf e.on < l.idxOf j) := by
 intro l
 induction l with
 | nil =>
  intro X hX h j o ho e he hb
  exact .inl (h j (Array.getElem?_eq_some_iff.1 ho).1)
 | cons k l ih =>
  intro X hX h j o ho e he hb
  obtain ⟨h1, h2, h3, h4⟩ := h
  by_cases ej : j = k
  ·subst ej
   exact .inr (.inl (h3 o ho e he hb))
  ·have hX' : ∀ i, (X i ∨ i = k) → i < ops.size := by
    rintro i (h | rfl)
    ·exact hX i h
    ·exact h1
   rcases ih hX' h4 j o ho e he hb with (h | h) | (h | h) | ⟨h, h'⟩
   ·exact .inl h
   ·exact absurd h ej
   ·exact .inr (.inl h)
   ·refine .inr (.inr ⟨by rw [h]; exact h1, ?_⟩)
    rw [h, List.idxOf_cons_self]
    rw [idxOf_ne (fun e => ej e.symm)]
    omega
   ·by_cases ee : e.on = k
    ·refine .inr (.inr ⟨h, ?_⟩)
     rw [ee, List.idxOf_cons_self, idxOf_ne (fun e => ej e.symm)]
     omega
    ·refine .inr (.inr ⟨h, ?_⟩)
     rw [idxOf_ne (fun e => ej e.symm), idxOf_ne (fun e => ee e.symm)]
     omega
theorem lists_none (ops : Array Oper) : Lists ops (Array.replicate ops.size false) (fun _ => False) := by
 refine ⟨by simp, fun i hi => ?_, fun _ h => h.elim⟩
 simp [Array.getD_eq_getD_getElem?, hi]
theorem cnt_none (ops : Array Oper) : cnt (fun k => !(Array.replicate ops.size false).getD k true) ops.size = ops.size := by
 have : ∀ n, n ≤ ops.size → cnt (fun k => !(Array.replicate ops.size false).getD k true) n = n := by
  intro n
  induction n with
  | zero => intro _; rfl
  | succ n ih =>
   intro hn
   simp only [cnt]
   rw [ih (by omega)]
   simp [Array.getD_eq_getD_getElem?, show n < ops.size by omega]; omega
 exact this _ (Nat.le_refl _)
structure Orders (ops : Array Oper) : Prop where
 gc : Region.departs ops = true → (Region.linearise .gc ops 0).length = ops.size
 back : ∀ j o, ops[j]? = some o → ∀ e ∈ o.after, binds .any e = true ∨ binds .text e = true → e.on < j
theorem schedule_good (O : Orders ops) (mixed : Bool) (t : Nat) : Good ops (fun _ => False) (Region.schedule mixed ops t) := by
 have hD : Down ops (fun _ => False) := fun _ h => h.elim
 have back : ∀ md : Region.Mode, (md = .any ∨ md = .text) → Ranked md ops id := by
  intro md hmd j o ho e he hb
  have h1 := (Array.getElem?_eq_some_iff.1 ho).1
  have : e.on < j := O.back j o ho e he (by rcases hmd with rfl | rfl <;> simp [hb])
  exact ⟨by omega, this⟩
 have main : ∀ (md : Region.Mode) (r : Nat → Nat) (t : Nat), Ranked md ops r → Good ops (fun _ => False) (Region.linearise md ops t) := by
  intro md r t hr
  exact GoodM.good hD (go_ranked hr _ t _ _ (lists_none ops) (cnt_none ops))
 unfold Region.schedule
 split
 ·exact main .any id t (back _ (.inl rfl))
 ·next hm =>
  simp only [Bool.or_eq_true, Bool.not_eq_true', not_or, Bool.not_eq_false] at hm
  split
  ·exact main .text id _ (back _ (.inr rfl))
  ·have hfull := go_full (md := .gc) ops.size 0 _ _ (lists_none ops) (cnt_none ops) (O.gc hm.2)
   have hr := GoodM.rank (fun _ h => h.elim) hfull
   refine main .gc (fun i => (Region.linearise .gc ops 0).idxOf i) _ ?_
   intro j o ho e he hb
   rcases hr j o ho e he hb with h | h | h
   ·exact h.elim
   ·exact h.elim
   ·exact h
end Go.Hs
/- Operations look at their operands alone; what those do that are no effects. -/
namespace Go.Hs
section congr
variable {D : Tab} {E : Env} {A A' : Ac} {h h' : H}
theorem opvs_congr : ∀ {xs : List Operand}, (∀ x ∈ xs, opv A x = opv A' x) → opvs A xs = opvs A' xs := by
 intro xs
 induction xs with
 | nil => intro _; rfl
 | cons x xs ih => intro hx; simp only [opvs, hx x (by simp), ih fun y hy => hx y (by simp [hy])]
theorem opvp_congr : ∀ {xs : List (Nat × Operand)}, (∀ x ∈ xs.map (·.2), opv A x = opv A' x) → opvp A xs = opvp A' xs := by
 intro xs
 induction xs with
 | nil => intro _; rfl
 | cons x xs ih =>
  intro hx
  obtain ⟨i, x⟩ := x
  simp only [opvp, hx x (by simp), ih fun y hy => hx y (by simp only [List.map_cons, List.mem_cons]; exact .inr hy)]
theorem opvo_congr {x : Option Operand} (hx : ∀ y ∈ x.toList, opv A y = opv A' y) : opvo A x = opvo A' x := by
 cases x with
 | none => rfl
 | some x => simp only [opvo, hx x (by simp)]
theorem aop_congr {op : Op} (hx : ∀ x ∈ op.operands, opv A x = opv A' x) : aop D E A op h = aop D E A' op h := by
 cases op
 all_goals simp only [Op.operands] at hx
 case build t ps =>
  have : opvp A ps.toList = opvp A' ps.toList := opvp_congr fun x hm => hx x (by simpa using hm)
  simp only [aop, this]
 case buildSlice t n ps =>
  have : opvp A ps.toList = opvp A' ps.toList := opvp_congr fun x hm => hx x (by simpa using hm)
  simp only [aop, this]
 case makeFunc fn xs ys =>
  have h1 : opvs A xs.toList = opvs A' xs.toList := opvs_congr fun x hm => hx x (by simp at hm ⊢; exact .inl hm)
  have h2 : opvs A ys.toList = opvs A' ys.toList := opvs_congr fun x hm => hx x (by simp at hm ⊢; exact .inr hm)
  simp only [aop, h1, h2]
 case makeMap t r =>
  have h1 : opvo A r = opvo A' r := opvo_congr fun x hm => hx x (by simpa using hm)
  simp only [aop, h1]
 case slice t x l hh m =>
  have h1 : opvo A l = opvo A' l := opvo_congr fun x hm => hx x (by simp at hm; simp [hm])
  have h2 : opvo A hh = opvo A' hh := opvo_congr fun x hm => hx x (by simp at hm; simp [hm])
  have h3 : opvo A m = opvo A' m := opvo_congr fun x hm => hx x (by simp at hm; simp [hm])
  simp only [aop, hx x (by simp), h1, h2, h3]
 case call c =>
  have h1 : opvs A c.args.toList = opvs A' c.args.toList := opvs_congr fun x hm => hx x (by simp only [Call.operands, Array.mem_append]; exact .inr (by simpa using hm))
  simp only [aop, h1]
 all_goals first
  | rfl
  | (simp at hx; simp only [aop, hx]; done)
theorem oper1_congr {ev : Ev} {o : Oper} (hx : ∀ x ∈ o.op.operands, opv A x = opv A' x) : oper1 D E ev A o h = oper1 D E ev A' o h := by
 unfold oper1
 split
 ·next f args at_ hop =>
  rw [hop] at hx
  have h1 : opvs A args.toList = opvs A' args.toList := opvs_congr fun x hm => hx x (by simp only [Op.operands, Call.operands, Array.mem_append]; exact .inr (by simpa using hm))
  have h2 : opv A f = opv A' f := hx f (by simp [Op.operands, Call.operands])
  simp only [h1, h2]
 ·exact aop_congr hx
/-! ### Some of the temporaries -/
def Ac.keep (A : Ac) (l : List Tmp) : Ac := { A with tmps := l.foldl (fun T t => T.set t (A.get t)) .nil }
def _root_.Go.Act.keep (a : Act) (l : List Tmp) : Act := { a with tmps := a.tmps.mapIdx fun i v => if l.contains i then v else undef }
theorem keep_fold (A : Ac) : ∀ (l : List Tmp) (T0 : T Value) (t : Nat), ((l.foldl (fun T t => T.set t (A.get t)) T0).get t).getD undef = if t ∈ l then A.get t else (T0.get t).getD undef := by
 intro l
 induction l with
 | nil => intro T0 t; simp
 | cons x l ih =>
  intro T0 t
  rw [List.foldl_cons, ih]
  by_cases hl : t ∈ l
  ·rw [if_pos hl, if_pos (by simp [hl])]
  ·rw [if_neg hl, T.get_set]
   by_cases e : t = x
   ·subst e; rw [if_pos rfl, if_pos (by simp)]; rfl
   ·rw [if_neg e, if_neg (by simp [hl, e])]
theorem Ac.keep_get (A : Ac) (l : List Tmp) (t : Nat) : (A.keep l).get t = if t ∈ l then A.get t else undef := by
 have := keep_fold A l .nil t
 rw [T.get_nil] at this
 exact this
theorem keep_getD (a : Act) (l : List Tmp) (t : Nat) : (a.keep l).tmps.getD t undef = if t ∈ l then a.tmps.getD t undef else undef := by
 simp only [Act.keep, Array.getD_eq_getD_getElem?, Array.getElem?_mapIdx]
 cases h : a.tmps[t]? with
 | none => simp
 | some v =>
  simp only [Option.map_some, Option.getD_some]
  by_cases hl : t ∈ l
  ·simp [hl]
  ·simp [hl]
theorem ATie.keep {φ χ : Ph} {a : Act} (AT : ATie φ A a) {l : List Tmp} (hl : ∀ t ∈ l, okV χ (A.get t) ∧ ren χ (A.get t) = ren φ (A.get t)) : ATie χ (A.keep l) (a.keep l) := by
 refine ⟨by simp [Act.keep, Ac.keep, AT.size], fun t => ?_⟩
 rw [Ac.keep_get, keep_getD]
 by_cases ht : t ∈ l
 ·rw [if_pos ht, if_pos ht]
  obtain ⟨h1, h2⟩ := hl t ht
  exact ⟨h1, by rw [h2]; exact (AT.tmps t).2⟩
 ·rw [if_neg ht, if_neg ht]
  exact ⟨okV_undef χ, (ren_undef χ).symm⟩
def seenOf (op : Op) : List Tmp := op.operands.toList.flatMap tmpOf
theorem seen_mem {op : Op} {t : Tmp} (h : Operand.tmp t ∈ op.operands) : t ∈ seenOf op := by
 simp only [seenOf, List.mem_flatMap]
 exact ⟨.tmp t, by simpa using h, by simp [tmpOf]⟩
theorem opv_keep {op : Op} {x : Operand} (hx : x ∈ op.operands) : opv (A.keep (seenOf op)) x = opv A x := by
 cases x with
 | tmp t => simp only [opv, Ac.keep_get, if_pos (seen_mem hx)]
 | _ => rfl
theorem eval_keep {a : Act} {op : Op} {x : Operand} (hx : x ∈ op.operands) : (a.keep (seenOf op)).eval x = a.eval x := by
 cases x with
 | tmp t => simp only [Act.eval, keep_getD, if_pos (seen_mem hx)]
 | _ => rfl
theorem exec_keep {a : Act} {o : Oper} (hs : ∀ cs b, o.op ≠ .select cs b) : execOp (a.keep (seenOf o.op)).eval o = execOp a.eval o :=
 execOp_congr o hs fun _ hx => eval_keep hx
theorem opv_eq {op : Op} (hA : ∀ t ∈ seenOf op, A.get t = A'.get t) {x : Operand} (hx : x ∈ op.operands) : opv A x = opv A' x := by
 cases x with
 | tmp t => simp only [opv, hA t (seen_mem hx)]
 | _ => rfl
theorem noSelect_of {ev : Ev} {o : Oper} {x : Value × H} (ho : oper1 D E ev A o h = some x) : ∀ cs b, o.op ≠ .select cs b := by
 intro cs b he
 unfold oper1 at ho
 rw [he] at ho
 simp [aop] at ho
end congr
/-! ### Operations that are no effects -/
section quiet
variable {D : Tab} {E : Env} {A : Ac} {h h' h2 : H}
theorem oper1_quiet {ev : Ev} {o : Oper} (hq : eff o.op = false) : oper1 D E ev A o h = aop D E A o.op h := by
 unfold oper1
 split
 ·next hop => rw [hop] at hq; simp [eff] at hq
 ·rfl
theorem pair_same {o : Option Value} {v : Value} (hp : pair h o = some (v, h')) : h' = h := (pair_some hp).2
theorem asliceS_same {e : Nat} {a : Addr} {len cap : Nat} {lo hi mx : Option Value} {v : Value} (hp : asliceS e a len cap lo hi mx h = some (v, h')) (hn : h'.next = h.next) : h' = h := by
 unfold asliceS at hp
 repeat' split at hp
 all_goals first
  | (cases hp; done)
  | (cases hp; rfl)
  | (cases hp; exact absurd hn (Nat.succ_ne_self _))
  | (cases hp; rw [H.note_next] at hn; exact absurd hn (Nat.succ_ne_self _))
theorem aslice_same {t : TypeId} {x : Value} {lo hi mx : Option Value} {v : Value} (hp : aslice D t x lo hi mx h = some (v, h')) (hn : h'.next = h.next) : h' = h := by
 unfold aslice at hp
 repeat' split at hp
 all_goals first
  | (cases hp; done)
  | (cases hp; rfl)
  | exact asliceS_same hp hn
theorem quiet_same {op : Op} {v : Value} (hq : eff op = false) (hn : isNew op = false) (hj : mayJoin op = true → h'.next = h.next) (hp : aop D E A op h = some (v, h')) : h' = h := by
 cases op
 case slice =>
  simp only [aop] at hp
  split at hp
  ·exact aslice_same hp (hj rfl)
  ·cases hp
 case range =>
  simp only [aop] at hp
  split at hp
  ·unfold arange at hp
   split at hp
   ·cases hp; exact absurd (hj rfl) (Nat.succ_ne_self _)
   ·cases hp
  ·cases hp
 case call c =>
  simp only [aop] at hp
  split at hp
  ·next b vs hb hvs =>
   obtain ⟨callee, args, tys⟩ := c
   simp only at hb
   subst hb
   simp only [eff] at hq
   unfold abuiltin at hp
   repeat' split at hp
   all_goals first
    | (cases hp; done)
    | (cases hp; rfl)
    | (simp [effB] at hq; done)
  ·cases hp
 all_goals first
  | (simp [isNew] at hn; done)
  | (simp [eff] at hq; done)
  | (simp only [aop] at hp; repeat' split at hp)
 all_goals first
  | (cases hp; done)
  | exact pair_same hp
  | (cases hp; rfl)
theorem pure_at {op : Op} {v : Value} (hq : pureOp D op = true) (hp : aop D E A op h = some (v, h')) : h' = h ∧ ∀ h2, aop D E A op h2 = some (v, h2) := by
 cases op
 case convert s d x =>
  simp only [pureOp] at hq
  split at hq
  ·next k _ _ _ _ hd =>
   cases hx : opv A x with
   | none => simp only [aop, hx] at hp; cases hp
   | some xv =>
    simp only [aop, hx] at hp ⊢
    cases hs : D.ty.get s with
    | none => simp only [aconvert, hs] at hp; cases hp
    | some i =>
     obtain ⟨td, a1, a2, a3, a4⟩ := i
     simp only [aconvert, hs, hd] at hp ⊢
     cases td <;> cases xv <;> first
      | (cases hp; exact ⟨rfl, fun _ => rfl⟩)
      | cases hp
  ·cases hq
 case call c =>
  simp only [aop] at hp ⊢
  obtain ⟨callee, args, tys⟩ := c
  split at hp
  ·next b vs hb hvs =>
   simp only at hb
   subst hb
   cases b <;> first | (simp [pureOp] at hq; done) | skip
   simp only [pureOp] at hq
   split at hq
   ·next t' hts =>
    have hts : tys.toList = [t'] := hts
    have ha : ∀ x hh, alen D t' x hh = alen D t' x h := by
     intro x hh
     unfold alen
     split at hq
     ·next hd => rw [hd]
     ·next hd => rw [hd]
     ·next hd => rw [hd]
     ·cases hq
    have hp : abuiltin D E .len tys.toList vs h = some (v, h') := hp
    suffices hh : h' = h ∧ ∀ h2, abuiltin D E .len tys.toList vs h2 = some (v, h2) by
     refine ⟨hh.1, fun h2 => ?_⟩
     simp only [hvs]
     exact hh.2 h2
    rw [hts] at hp ⊢
    cases vs with
    | nil => cases hp
    | cons x l => cases l with
     | cons y l => cases hp
     | nil =>
      have hp : (match alen D t' x h with | some v => some (v, h) | none => none) = some (v, h') := hp
      show h' = h ∧ ∀ h2, (match alen D t' x h2 with | some v => some (v, h2) | none => none) = some (v, h2)
      cases hq2 : alen D t' x h with
      | none => rw [hq2] at hp; cases hp
      | some u =>
       rw [hq2] at hp
       cases hp
       exact ⟨rfl, fun h2 => by rw [ha, hq2]⟩
   ·cases hq
  ·cases hp
 all_goals first
  | (simp [pureOp] at hq; done)
  | skip
 all_goals (simp only [aop] at hp ⊢; repeat' split at hp)
 all_goals first
  | (cases hp; done)
  | (obtain ⟨h1, rfl⟩ := pair_some hp; exact ⟨rfl, fun h2 => by simp only [*, pair]⟩)
  | (cases hp; exact ⟨rfl, fun h2 => by simp only [*]⟩)
end quiet
end Go.Hs
/- Operations at another heap: those that read, that store, that make a block. -/
namespace Go.Hs
section quiet
variable {D : Tab} {E : Env} {A : Ac} {h h' h2 : H}
def topV : Value → List Nat
 | .pointer (some a) | .slice (some a) _ _ => match a.spot with
  | some 0 => [a.block]
  | _ => []
 | .map (some r) => [r]
 | _ => []
theorem cell_congr {a : Addr} (hb : a.spot = some 0 → h2.blk a.block = h.blk a.block) : h2.cell E a = h.cell E a := by
 unfold H.cell
 cases hs : a.spot with
 | none => rfl
 | some s => cases s with
  | zero => rw [hb hs]
  | succ s => rfl
theorem cells_congr {a : Addr} {n : Nat} (hb : a.spot = some 0 → h2.blk a.block = h.blk a.block) : h2.cells E a n = h.cells E a n := by
 unfold H.cells
 cases hs : a.spot with
 | none => rfl
 | some s => cases s with
  | zero => rw [hb hs]
  | succ s => rfl
theorem aload_congr {t : TypeId} {a : Addr} (hb : a.spot = some 0 → h2.blk a.block = h.blk a.block) : aload D E t a h2 = aload D E t a h := by
 unfold aload
 simp only [cell_congr (E := E) hb, cells_congr (E := E) hb]
theorem top_ptr {a : Addr} (hb : ∀ k ∈ topV (.pointer (some a)), h2.blk k = h.blk k) : a.spot = some 0 → h2.blk a.block = h.blk a.block := by
 intro hs
 apply hb
 simp [topV, hs]
theorem top_slice {a : Addr} {n c : Nat} (hb : ∀ k ∈ topV (.slice (some a) n c), h2.blk k = h.blk k) : a.spot = some 0 → h2.blk a.block = h.blk a.block := by
 intro hs
 apply hb
 simp [topV, hs]
theorem load_at {t : TypeId} {x : Operand} {v xv : Value} (hx : opv A x = some xv) (hb : ∀ k ∈ topV xv, h2.blk k = h.blk k) (hp : aop D E A (.load t x) h = some (v, h')) : h' = h ∧ aop D E A (.load t x) h2 = some (v, h2) := by
 simp only [aop, hx] at hp ⊢
 split at hp
 ·next a he =>
  cases he
  obtain ⟨h1, rfl⟩ := pair_some hp
  simp only [aload_congr (D := D) (E := E) (t := t) (top_ptr hb), h1, pair]
  exact ⟨trivial, trivial⟩
 ·cases hp
theorem asliceS_at {e : Nat} {a : Addr} {len cap : Nat} {lo hi mx : Option Value} {v : Value} (hb : a.spot = some 0 → h2.blk a.block = h.blk a.block) (hn : h'.next = h.next) (hp : asliceS e a len cap lo hi mx h = some (v, h')) : asliceS e a len cap lo hi mx h2 = some (v, h2) := by
 unfold asliceS at hp ⊢
 cases hs : a.spot with
 | none =>
  simp only [hs] at hp ⊢
  repeat' split at hp
  all_goals first
   | (cases hp; done)
   | (cases hp; simp only [*]; done)
 | some s => cases s with
  | succ s =>
   simp only [hs] at hp ⊢
   repeat' split at hp
   all_goals first
    | (cases hp; done)
    | (cases hp; simp only [*]; done)
  | zero =>
  simp only [hs, hb hs] at hp ⊢
  repeat' split at hp
  all_goals first
   | (cases hp; done)
   | (cases hp; exact absurd hn (Nat.succ_ne_self _))
   | (cases hp; rw [H.note_next] at hn; exact absurd hn (Nat.succ_ne_self _))
   | (cases hp; simp only [*]; done)
theorem aslice_at {t : TypeId} {x : Value} {lo hi mx : Option Value} {v : Value} (hb : ∀ k ∈ topV x, h2.blk k = h.blk k) (hn : h'.next = h.next) (hp : aslice D t x lo hi mx h = some (v, h')) : aslice D t x lo hi mx h2 = some (v, h2) := by
 unfold aslice at hp ⊢
 split at hp
 ·next hd =>
  try simp only [hd]
  split at hp
  ·next a =>
   try simp only
   cases hs : a.spot with
   | none =>
    simp only [hs] at hp ⊢
    repeat' split at hp
    all_goals first
     | (cases hp; done)
     | (cases hp; simp only [*]; done)
   | some s => cases s with
    | succ s =>
     simp only [hs] at hp ⊢
     repeat' split at hp
     all_goals first
      | (cases hp; done)
      | (cases hp; simp only [*]; done)
    | zero =>
    simp only [hs, top_ptr hb hs] at hp ⊢
    repeat' split at hp
    all_goals first
     | (cases hp; done)
     | (cases hp; simp only [*]; done)
  ·cases hp
 ·next hd =>
  try simp only [hd]
  repeat' split at hp
  all_goals first
   | (cases hp; done)
   | (cases hp; simp only [*]; done)
 ·next hd =>
  try simp only [hd]
  split at hp
  ·split at hp
   ·next he => cases hp; simp only [he]
   ·cases hp
  ·next hle =>
   split at hp
   ·next he =>
    try simp only [he]
    exact asliceS_at (top_slice hb) hn hp
   ·cases hp
  ·cases hp
 ·cases hp
theorem slice_at {t : TypeId} {x : Operand} {lo hi mx : Option Operand} {v xv : Value} (hx : opv A x = some xv) (hb : ∀ k ∈ topV xv, h2.blk k = h.blk k) (hn : h'.next = h.next) (hp : aop D E A (.slice t x lo hi mx) h = some (v, h')) : aop D E A (.slice t x lo hi mx) h2 = some (v, h2) := by
 simp only [aop, hx] at hp ⊢
 split at hp
 ·next e1 e2 e3 e4 =>
  cases e1
  try simp only [e2, e3, e4]
  exact aslice_at hb hn hp
 ·cases hp
theorem aconvert_at {s d : TypeId} {x : Value} {v : Value} (hb : ∀ k ∈ topV x, h2.blk k = h.blk k) (hn : h'.next = h.next) (hp : aconvert D E s d x h = some (v, h')) : h' = h ∧ aconvert D E s d x h2 = some (v, h2) := by
 unfold aconvert at hp ⊢
 split at hp
 ·next i j hi hj =>
  try simp only [hi, hj]
  split at hp
  ·cases hp; simp only [*]; exact ⟨trivial, trivial⟩
  ·cases hp; simp only [*]; exact ⟨trivial, trivial⟩
  ·repeat' split at hp
   all_goals first
    | (cases hp; done)
    | (cases hp; exact absurd hn (Nat.succ_ne_self _))
  ·next b n _ _ _ =>
   try simp only [*]
   split at hp
   ·next he =>
    try simp only [he]
    split at hp
    ·cases hp; exact ⟨rfl, rfl⟩
    ·next a =>
     simp only [cells_congr (E := E) (n := n) (top_slice hb)]
     repeat' split at hp
     all_goals first
      | (cases hp; done)
      | (cases hp; simp only [*]; exact ⟨trivial, trivial⟩)
   ·cases hp
  ·cases hp
 ·cases hp
theorem read_at {op : Op} {v : Value} (hq : eff op = false) (hs : ∀ t x l hh m, op ≠ .slice t x l hh m) (hn : h'.next = h.next) (hb : ∀ x ∈ op.operands, ∀ u, opv A x = some u → ∀ k ∈ topV u, h2.blk k = h.blk k) (hp : aop D E A op h = some (v, h')) : h' = h ∧ aop D E A op h2 = some (v, h2) := by
 by_cases hpu : pureOp D op = true
 ·obtain ⟨h1, h3⟩ := pure_at hpu hp
  exact ⟨h1, h3 h2⟩
 cases op
 case load t x =>
  cases hx : opv A x with
  | none => simp only [aop, hx] at hp; cases hp
  | some xv => exact load_at hx (hb x (by simp [Op.operands]) xv hx) hp
 case slice t x l hh m => exact absurd rfl (hs t x l hh m)
 case convert s d x =>
  cases hx : opv A x with
  | none => simp only [aop, hx] at hp; cases hp
  | some xv =>
   simp only [aop, hx] at hp ⊢
   exact aconvert_at (hb x (by simp [Op.operands]) xv hx) hn hp
 case lookup t m k ok =>
  simp only [aop] at hp ⊢
  split at hp
  ·next mv kv hm hk =>
   try simp only [hm, hk]
   obtain ⟨h1, rfl⟩ := pair_some hp
   have hent : aentries mv h2 = aentries mv h' := by
    unfold aentries
    split
    ·rfl
    ·next r => rw [hb m (by simp [Op.operands]) _ hm r (by simp [topV])]
    ·rfl
   have : alookup D t mv kv ok h2 = alookup D t mv kv ok h' := by unfold alookup; simp only [hent]
   rw [this, h1]
   exact ⟨rfl, rfl⟩
  ·cases hp
 case sliceToArrayPointer t x =>
  simp only [aop] at hp ⊢
  repeat' split at hp
  all_goals first
   | (cases hp; done)
   | (cases hp; simp only [*]; exact ⟨trivial, trivial⟩)
 case range t x =>
  simp only [aop] at hp
  split at hp
  ·unfold arange at hp
   split at hp
   ·cases hp; exact absurd hn (Nat.succ_ne_self _)
   ·cases hp
  ·cases hp
 case alloc e =>
  simp only [aop] at hp
  split at hp
  ·cases hp; exact absurd hn (Nat.succ_ne_self _)
  ·cases hp
 case box e x =>
  simp only [aop] at hp
  split at hp
  ·cases hp; exact absurd hn (Nat.succ_ne_self _)
  ·cases hp
 case buildSlice t n ps =>
  simp only [aop] at hp
  split at hp
  ·unfold abuildSlice at hp
   repeat' split at hp
   all_goals first
    | (cases hp; done)
    | (cases hp; exact absurd hn (Nat.succ_ne_self _))
  ·cases hp
 case makeSlice t l c =>
  simp only [aop] at hp
  split at hp
  ·unfold amakeSlice at hp
   repeat' split at hp
   all_goals first
    | (cases hp; done)
    | (cases hp; exact absurd hn (Nat.succ_ne_self _))
  ·cases hp
 case makeMap t r =>
  simp only [aop] at hp
  repeat' split at hp
  all_goals first
   | (cases hp; done)
   | (cases hp; exact absurd hn (Nat.succ_ne_self _))
 case call c =>
  simp only [aop] at hp ⊢
  split at hp
  ·next b vs hcb hvs =>
   obtain ⟨callee, args, tys⟩ := c
   simp only at hcb
   subst hcb
   simp only [hvs]
   simp only [eff] at hq
   have hmem : ∀ u ∈ vs, ∀ k ∈ topV u, h2.blk k = h.blk k := by
    have : ∀ (xs : List Operand) (us : List Value), (∀ x ∈ xs, x ∈ args.toList) → opvs A xs = some us → ∀ u ∈ us, ∀ k ∈ topV u, h2.blk k = h.blk k := by
     intro xs
     induction xs with
     | nil => intro us _ hu u hm; simp only [opvs] at hu; cases hu; cases hm
     | cons x xs ih =>
      intro us hsub hu u hm
      simp only [opvs] at hu
      split at hu
      ·next y hy =>
       split at hu
       ·next ys hys =>
        cases hu
        rcases List.mem_cons.1 hm with rfl | hm
        ·exact hb x (by simp only [Op.operands, Call.operands, Array.mem_append]; exact .inr (by simpa using hsub x (by simp))) _ hy
        ·exact ih _ (fun z hz => hsub z (by simp [hz])) hys u hm
       ·cases hu
      ·cases hu
    exact this _ _ (fun _ hx => hx) hvs
   have hlen : ∀ t x, x ∈ vs → alen D t x h2 = alen D t x h := by
    intro t x hx
    unfold alen
    split
    ·rfl
    ·rfl
    ·rfl
    ·split
     ·rfl
     ·next r => rw [hmem _ hx r (by simp [topV])]
     ·rfl
    ·rfl
   have hcap : ∀ t x, x ∈ vs → acap D t x h2 = acap D t x h := by
    intro t x hx
    unfold acap
    split
    ·split
     ·rfl
     ·next a _ _ =>
      cases hs2 : a.spot with
      | none => rfl
      | some s => cases s with
       | zero => simp only [top_slice (hmem _ hx) hs2]
       | succ s => rfl
     ·rfl
    ·rfl
   unfold abuiltin at hp ⊢
   split at hp
   ·next t x _ e2 =>
    have e2 : tys.toList = [x] := e2
    simp only [e2]
    rw [hlen _ _ (by simp)]
    split at hp
    ·cases hp; exact ⟨rfl, rfl⟩
    ·cases hp
   ·next t x _ e2 =>
    have e2 : tys.toList = [x] := e2
    simp only [e2]
    rw [hcap _ _ (by simp)]
    split at hp
    ·cases hp; exact ⟨rfl, rfl⟩
    ·cases hp
   all_goals first
    | (simp [effB] at hq; done)
    | skip
   ·split at hp
    ·next he => cases hp; simp only [he]; exact ⟨trivial, trivial⟩
    ·cases hp
   ·split at hp
    ·next he => cases hp; simp only [he]; exact ⟨trivial, trivial⟩
    ·cases hp
   ·split at hp
    ·next he => cases hp; simp only [he]; exact ⟨trivial, trivial⟩
    ·cases hp
   ·cases hp
  ·cases hp
 all_goals first
  | (simp [eff] at hq; done)
  | (simp [pureOp] at hpu; done)
  | (simp [aop] at hp; done)
theorem new_at {op : Op} {v : Value} (hi : isNew op = true) (hn : h'.next ≠ h.next) (hp : aop D E A op h = some (v, h')) :
  (∃ B, B.plain = true ∧ h' = h.new B ∧ ∀ h2 : H, h2.next = h.next → aop D E A op h2 = some (v, h2.new B)) ∨
  (∃ xs ty, h' = h.newOpen xs ty ∧ ∀ h2 : H, h2.next = h.next → aop D E A op h2 = some (v, h2.newOpen xs ty)) := by
 cases op
 case alloc e =>
  simp only [aop] at hp ⊢
  split at hp
  ·next z hz => cases hp; exact .inl ⟨_, rfl, rfl, fun h2 h3 => by rw [h3]⟩
  ·cases hp
 case box e x =>
  simp only [aop] at hp ⊢
  split at hp
  ·next z hz => cases hp; exact .inl ⟨_, rfl, rfl, fun h2 h3 => by rw [h3]⟩
  ·cases hp
 case buildSlice t n ps =>
  simp only [aop] at hp ⊢
  split at hp
  ·next vs hvs =>
   try simp only [hvs]
   unfold abuildSlice at hp ⊢
   repeat' split at hp
   all_goals first
    | (cases hp; done)
    | (cases hp; exact .inl ⟨_, rfl, rfl, fun h2 h3 => by simp only [*]⟩)
  ·cases hp
 case makeSlice t l c =>
  simp only [aop] at hp ⊢
  split at hp
  ·next lv cv hl hc =>
   try simp only [hl, hc]
   unfold amakeSlice at hp ⊢
   repeat' split at hp
   all_goals first
    | (cases hp; done)
    | (cases hp; exact .inl ⟨_, rfl, rfl, fun h2 h3 => by simp only [*]⟩)
  ·cases hp
 case makeMap t r =>
  simp only [aop] at hp ⊢
  repeat' split at hp
  all_goals first
   | (cases hp; done)
   | (cases hp; exact .inl ⟨_, rfl, rfl, fun h2 h3 => by simp only [*]⟩)
 case convert s d x =>
  simp only [aop] at hp ⊢
  split at hp
  ·next xv hx =>
   try simp only [hx]
   unfold aconvert at hp ⊢
   repeat' split at hp
   all_goals first
    | (cases hp; done)
    | (cases hp; exact absurd rfl hn)
    | (cases hp; exact .inr ⟨_, _, rfl, fun h2 h3 => by simp only [*]⟩)
  ·cases hp
 all_goals cases hi
/-! ### Storing -/
def wipe (root : Option (Nat × Nat)) (lo hi : Nat) (b : Option Blk) : Option Blk :=
 match root, b with
 | some (r, _), some (.cells ys u (some (r', p'))) => if r' = r ∧ lo < p' + ys.length ∧ p' < hi ∧ 0 < ys.length then none else some (.cells ys u (some (r', p')))
 | _, b => b
theorem put_spec {a : Addr} {vs : List Value} {g : H} (hp : h.put a vs = some g) :
  (vs = [] ∧ g = h) ∨ ∃ xs ty root xs' lo hi, a.spot = some 0 ∧ h.blk a.block = some (.cells xs ty root) ∧ xs'.length = xs.length ∧ (h.mark = h.next → a.block < h.next → a.block ∈ g.log) ∧
   ∀ h2 : H, h2.blk a.block = h.blk a.block → ∃ g2, h2.put a vs = some g2 ∧ g2.next = h2.next ∧ (∀ k, g2.dyn.get k = if k = a.block then some (.cells xs' ty root) else h2.dyn.get k) ∧
    ∀ k, g2.blk k = if k = a.block then some (.cells xs' ty root) else wipe root lo hi (h2.blk k) := by
 cases vs with
 | nil => simp only [H.put] at hp; cases hp; exact .inl ⟨rfl, rfl⟩
 | cons v vs =>
  right
  cases hs : a.spot with
  | none => simp only [H.put, hs] at hp; cases hp
  | some s =>
   cases s with
   | succ s => simp only [H.put, hs] at hp; cases hp
   | zero =>
    cases hb : h.blk a.block with
    | none => simp only [H.put, hs, hb] at hp; cases hp
    | some B =>
     cases B with
     | cells xs ty root =>
      cases hc : (Nat.ble (a.off + (v :: vs).length) xs.length && (v :: vs).all isOne) with
      | false => simp only [H.put, hs, hb, hc] at hp; cases hp
      | true =>
       have hle := hc
       simp only [Bool.and_eq_true, Nat.ble_eq] at hle
       let ys := xs.take a.off ++ (v :: vs) ++ xs.drop (a.off + (v :: vs).length)
       have hlen : ys.length = xs.length := by
        simp only [ys, List.length_append, List.length_take, List.length_drop]; omega
       cases root with
       | none =>
        have hput : ∀ h2 : H, h2.blk a.block = some (.cells xs ty none) → h2.put a (v :: vs) = some ({ h2 with dyn := h2.dyn.set a.block (.cells ys ty none) }.note [a.block]) := by
         intro h2 hb2
         simp only [H.put, hs, hb2, hc]
         rfl
        refine ⟨xs, ty, none, ys, 0, 0, rfl, rfl, hlen, ?_, fun h2 hb2 => ⟨_, hput h2 hb2, ?_, ?_, ?_⟩⟩
        ·intro hm hlt
         rw [hput h hb] at hp
         cases hp
         unfold H.note
         simp only
         cases hmk : h.mark with
         | zero => omega
         | succ m => simp [show a.block ≤ m by omega]
        ·rw [H.note_next]
        ·intro k; rw [H.note_dyn]; exact T.get_set _ _ _ _
        ·intro k
         rw [H.note_blk]
         by_cases e : k = a.block
         ·subst e
          rw [if_pos rfl]
          exact blk_none_root (T.get_set_same _ _ _)
         ·rw [if_neg e]
          exact blk_congr (T.get_set_ne _ _ _ _ e) (fun _ _ _ _ _ => Iff.rfl)
       | some rp =>
        obtain ⟨r, p⟩ := rp
        have hput : ∀ h2 : H, h2.blk a.block = some (.cells xs ty (some (r, p))) → h2.put a (v :: vs) = some ({ h2 with dyn := h2.dyn.set a.block (.cells ys ty (some (r, p))), chains := h2.chains.set r (h2.spare r a.block (p + a.off) (p + a.off + (v :: vs).length)) }.note (a.block :: h2.gone r a.block (p + a.off) (p + a.off + (v :: vs).length))) := by
         intro h2 hb2
         simp only [H.put, hs, hb2, hc]
         rfl
        refine ⟨xs, ty, some (r, p), ys, p + a.off, p + a.off + (v :: vs).length, rfl, rfl, hlen, ?_, fun h2 hb2 => ⟨_, hput h2 (hb2), ?_, ?_, ?_⟩⟩
        ·intro hm hlt
         rw [hput h hb] at hp
         cases hp
         unfold H.note
         simp only
         cases hmk : h.mark with
         | zero => omega
         | succ m => simp [show a.block ≤ m by omega]
        ·rw [H.note_next]
        ·intro k; rw [H.note_dyn]; exact T.get_set _ _ _ _
        ·intro k
         rw [H.note_blk]
         have hb2' := hb2
         have hself : a.block ∈ h2.chain r := blk_root hb2'
         have hhit : h2.hits a.block (p + a.off) (p + a.off + (v :: vs).length) a.block = false := by
          unfold H.hits
          rw [show Nat.beq a.block a.block = true from Nat.beq_refl _]
         have hch : ∀ (d : T Blk) r', ({ h2 with dyn := d, chains := h2.chains.set r (h2.spare r a.block (p + a.off) (p + a.off + (v :: vs).length)) } : H).chain r' = if r' = r then h2.spare r a.block (p + a.off) (p + a.off + (v :: vs).length) else h2.chain r' := by
          intro d r'
          show ((h2.chains.set r _).get r').getD [] = _
          rw [T.get_set]
          split <;> rfl
         by_cases e : k = a.block
         ·subst e
          rw [if_pos rfl, blk_of (T.get_set_same _ _ _), if_pos]
          rw [hch, if_pos rfl, List.contains_iff_mem, mem_spare]
          exact ⟨hself, hhit⟩
         ·rw [if_neg e]
          have hd : (({ h2 with dyn := h2.dyn.set a.block (.cells ys ty (some (r, p))), chains := h2.chains.set r (h2.spare r a.block (p + a.off) (p + a.off + (v :: vs).length)) } : H)).dyn.get k = h2.dyn.get k := T.get_set_ne _ _ _ _ e
          cases hdk : h2.dyn.get k with
          | none =>
           have h1 : h2.blk k = none := by unfold H.blk; rw [hdk]
           rw [h1]
           show _ = none
           unfold H.blk; rw [hd, hdk]
          | some B =>
           cases B with
           | cells zs u rt =>
            cases rt with
            | none =>
             rw [blk_none_root (hd.trans hdk), blk_none_root hdk]
             rfl
            | some rq =>
             obtain ⟨r', q⟩ := rq
             rw [blk_of (hd.trans hdk), blk_of hdk, hch]
             by_cases er : r' = r
             ·subst er
              rw [if_pos rfl]
              have hkf : Nat.beq k a.block = false := by
               cases hq : Nat.beq k a.block
               ·rfl
               ·exact absurd (Nat.eq_of_beq_eq_true hq) e
              have hhv : h2.hits a.block (p + a.off) (p + a.off + (v :: vs).length) k = (Nat.blt (p + a.off) (q + zs.length) && Nat.blt q (p + a.off + (v :: vs).length) && Nat.blt 0 zs.length) := by
               unfold H.hits
               simp only [hkf, hdk]
              by_cases hm : k ∈ h2.chain r'
              ·have hmb : ((h2.chain r').contains k) = true := by simpa using hm
               simp only [hmb, if_true, wipe]
               by_cases hw : p + a.off < q + zs.length ∧ q < p + a.off + (v :: vs).length ∧ 0 < zs.length
               ·have hsb : ¬ ((h2.spare r' a.block (p + a.off) (p + a.off + (v :: vs).length)).contains k = true) := by
                 rw [List.contains_iff_mem, mem_spare]
                 rintro ⟨_, hh⟩
                 rw [hhv] at hh
                 have : (Nat.blt (p + a.off) (q + zs.length) && Nat.blt q (p + a.off + (v :: vs).length) && Nat.blt 0 zs.length) = true := by
                  simp only [Bool.and_eq_true, Nat.blt_eq]; exact ⟨⟨hw.1, hw.2.1⟩, hw.2.2⟩
                 rw [this] at hh; cases hh
                rw [if_neg hsb, if_pos ⟨trivial, hw⟩]
               ·have hsb : (h2.spare r' a.block (p + a.off) (p + a.off + (v :: vs).length)).contains k = true := by
                 rw [List.contains_iff_mem, mem_spare]
                 refine ⟨hm, ?_⟩
                 rw [hhv, Bool.eq_false_iff]
                 intro hh
                 simp only [Bool.and_eq_true, Nat.blt_eq] at hh
                 exact hw ⟨hh.1.1, hh.1.2, hh.2⟩
                rw [if_pos hsb, if_neg (fun hh => hw hh.2)]
              ·have hmb : ((h2.chain r').contains k) = false := by
                rw [Bool.eq_false_iff]; intro hh; exact hm (by simpa using hh)
               have hsb : ¬ ((h2.spare r' a.block (p + a.off) (p + a.off + (v :: vs).length)).contains k = true) := by
                rw [List.contains_iff_mem, mem_spare]; exact fun hh => hm hh.1
               simp only [hmb, wipe]
               rw [if_neg hsb]
               rfl
             ·rw [if_neg er]
              by_cases hm : k ∈ h2.chain r'
              ·have hmb : ((h2.chain r').contains k) = true := by simpa using hm
               simp only [hmb, if_true, wipe]
               rw [if_neg (fun hh => er hh.1)]
              ·have hmb : ((h2.chain r').contains k) = false := by
                rw [Bool.eq_false_iff]; intro hh; exact hm (by simpa using hh)
               simp only [hmb, wipe]
               rfl
           | _ =>
            have h1 : h2.blk k = h2.dyn.get k := by unfold H.blk; rw [hdk]
            rw [h1, hdk]
            show _ = some _
            unfold H.blk; rw [hd, hdk]
     | _ => simp only [H.put, hs, hb] at hp; cases hp
end quiet
/-! ### Making -/
section make
variable {P : Program} {D : Tab} {E : Env} {n0 : Nat} {φ : Ph} {h h' : H} {w : World} {A : Ac} {a : Act}
theorem new_run (T : D.Of P) (R : Tie D E n0 All φ h w) (AT : ATie φ A a) {o : Oper} {v : Value} (hi : isNew o.op = true) (hn : h'.next ≠ h.next) (ho : aop D E A o.op h = some (v, h')) :
  ∃ s : Sem Value, execOp a.eval o = (do pure (Next.value (← s)) : Sem Next) ∧ GivesF D E n0 All φ h w (s.run P w) v h' := by
 obtain ⟨dst, op, type, pos, after, guard⟩ := o
 cases op <;> simp only [aop] at ho <;> first | (cases hi; done) | skip
 case alloc e =>
  split at ho
  ·next z hz => cases ho; exact ⟨_, rfl, alloc_runF T R hz⟩
  ·cases ho
 case box e x =>
  split at ho
  ·next y hy =>
   cases ho
   obtain ⟨g1, g2⟩ := opv_run AT hy
   simp only [execOp, g1]
   exact ⟨_, rfl, box_runF (P := P) R g2⟩
  ·cases ho
 case buildSlice t n ps =>
  split at ho
  ·next vs hvs =>
   obtain ⟨g1, g2⟩ := opvp_run AT hvs
   have he : ps.map (fun (i, x) => (i, a.eval x)) = (vs.map fun p => (p.1, ren φ p.2)).toArray := by
    apply Array.ext'; simpa using g1
   simp only [execOp]
   rw [he]
   exact ⟨_, rfl, abuildSlice_runF (P := P) T R g2 ho⟩
  ·cases ho
 case convert s d x =>
  split at ho
  ·next xv hx =>
   obtain ⟨g1, g2⟩ := opv_run AT hx
   simp only [execOp, g1]
   refine ⟨_, rfl, ?_⟩
   unfold aconvert at ho
   split at ho
   ·next i j hi hj =>
    obtain ⟨f, td, h1, h2, h3, h4, _⟩ := T.get hi
    obtain ⟨f', td', g1, g2, g3, g4, _⟩ := T.get hj
    split at ho
    ·cases ho; exact absurd rfl hn
    ·cases ho; exact absurd rfl hn
    ·next e sz by_ s e1 e2 =>
     rw [h3] at e1; rw [g3] at e2
     have := tdOf_string e1; subst this
     obtain ⟨rfl, fe, k1, rfl, rfl⟩ := tdOf_slice e2
     split at ho
     ·next sz1 _ _ _ he =>
      obtain ⟨f'', td'', q1, q2, q3, q4, _⟩ := T.get he
      have := tdOf_int q3.symm; subst this
      split at ho
      ·next hs1 =>
       have hs1 := beq_true hs1
       subst hs1
       cases ho
       exact abytes_runF R h2 g2 q2 he
      ·cases ho
     ·cases ho
    ·repeat' split at ho
     all_goals first
      | (cases ho; done)
      | (cases ho; exact absurd rfl hn)
    ·cases ho
   ·cases ho
  ·cases ho
 case makeMap t r =>
  split at ho
  ·next hr =>
   cases ho
   obtain ⟨g1, _⟩ := opvo_run AT hr
   simp only [execOp, g1]
   refine ⟨_, rfl, ?_⟩
   have := makeMap_runF (D := D) (E := E) (V := All) R
   simpa [Instr.makeMap, wpush] using this
  ·next k n i hr hi =>
   cases ho
   obtain ⟨g1, _⟩ := opvo_run AT hr
   obtain ⟨f, td, h1, h2, h3, h4, _⟩ := T.get hi
   have := tdOf_map h3.symm; subst this
   simp only [execOp, g1, Option.map_some, ren_int]
   refine ⟨_, rfl, ?_⟩
   have := makeMap_runF (D := D) (E := E) (V := All) R
   simpa [Instr.makeMap, wpush, run_underlying h2, asInt, asIntOf] using this
  ·cases ho
 case makeSlice t l c =>
  split at ho
  ·next lv cv hl hc =>
   obtain ⟨g1, g2⟩ := opv_run AT hl
   obtain ⟨g3, g4⟩ := opv_run AT hc
   simp only [execOp, g1, g3]
   exact ⟨_, rfl, amakeSlice_runF (P := P) T R ho⟩
  ·cases ho
end make
end Go.Hs
/- A region whose order is open: what the evaluator's run in the text's order tells. -/
namespace Go.Hs
def fresh (h : H) : H := { h with mark := h.next, log := [] }
def back (h g : H) : H := { g with mark := h.mark, log := h.log }.note g.log
theorem fresh_blk (h : H) (k : Nat) : (fresh h).blk k = h.blk k := rfl
theorem back_blk (h g : H) (k : Nat) : (back h g).blk k = g.blk k := by unfold back; rw [H.note_blk]; rfl
theorem back_dyn (h g : H) : (back h g).dyn = g.dyn := by unfold back; rw [H.note_dyn]
theorem back_next (h g : H) : (back h g).next = g.next := by unfold back; rw [H.note_next]
def TSkip (ops : Array Oper) (o : Oper) (A : Ac) (h : H) (A' : Ac) (h' : H) (t : Tch) : Prop :=
 awant ops A o = false ∧ h' = h ∧ A' = A.put o.dst undef ∧ t = ⟨some [], [], h.next, h.next, false⟩
def TRun (D : Tab) (E : Env) (ev : Ev) (ops : Array Oper) (i : Nat) (o : Oper) (A : Ac) (h : H) (A' : Ac) (h' : H) (t : Tch) : Prop :=
 awant ops A o = true ∧ ∃ x g, oper1 D E ev A o (fresh h) = some (x, g) ∧ (mayJoin o.op = true → g.next = h.next ∨ slimOf ops i = true) ∧ h' = back h g ∧ A' = A.put o.dst x ∧
  t = ⟨reads D A o, g.log, h.next, g.next, rootedStore A h o.op⟩
theorem runFree_trace {D : Tab} {E : Env} {ev : Ev} {ops : Array Oper} : ∀ {l : List Oper} {j : Nat} {A : Ac} {h : H} {A' : Ac} {h' : H} {ts : List Tch}, ops.toList.drop j = l → runFree D E ev ops j l A h = some (A', h', ts) →
  ∃ (hs : Nat → H) (As : Nat → Ac), hs j = h ∧ As j = A ∧ hs (j + l.length) = h' ∧ As (j + l.length) = A' ∧ ts.length = l.length ∧
   ∀ i o, j ≤ i → ops[i]? = some o → ∃ t, ts[i - j]? = some t ∧ (TSkip ops o (As i) (hs i) (As (i + 1)) (hs (i + 1)) t ∨ TRun D E ev ops i o (As i) (hs i) (As (i + 1)) (hs (i + 1)) t) := by
 intro l
 induction l with
 | nil =>
  intro j A h A' h' ts hl hr
  simp only [runFree] at hr
  cases hr
  refine ⟨fun _ => h, fun _ => A, rfl, rfl, rfl, rfl, rfl, fun i o hi ho => ?_⟩
  exfalso
  have h1 : ops.toList[i]? = some o := by rw [Array.getElem?_toList]; exact ho
  have : (ops.toList.drop j)[i - j]? = some o := by rw [List.getElem?_drop, show j + (i - j) = i by omega]; exact h1
  rw [hl] at this; simp at this
 | cons o l ih =>
  intro j A h A' h' ts hl hr
  have hj : ops[j]? = some o := by
   have := congrArg (·[0]?) hl
   simp only [List.getElem?_drop, Nat.add_zero, List.getElem?_cons_zero] at this
   rw [← Array.getElem?_toList]; exact this
  have hl' : ops.toList.drop (j + 1) = l := by rw [← List.drop_drop, hl]; rfl
  have put : ∀ (A1 : Ac) (h1 : H) (t : Tch) (ts1 : List Tch) (A2 : Ac) (h2 : H), runFree D E ev ops (j + 1) l A1 h1 = some (A2, h2, ts1) →
    (TSkip ops o A h A1 h1 t ∨ TRun D E ev ops j o A h A1 h1 t) → A2 = A' → h2 = h' → ts = t :: ts1 →
    ∃ (hs : Nat → H) (As : Nat → Ac), hs j = h ∧ As j = A ∧ hs (j + (o :: l).length) = h' ∧ As (j + (o :: l).length) = A' ∧ ts.length = (o :: l).length ∧
     ∀ i o, j ≤ i → ops[i]? = some o → ∃ t, ts[i - j]? = some t ∧ (TSkip ops o (As i) (hs i) (As (i + 1)) (hs (i + 1)) t ∨ TRun D E ev ops i o (As i) (hs i) (As (i + 1)) (hs (i + 1)) t) := by
   intro A1 h1 t ts1 A2 h2 hr1 hst hA hh hts
   subst hA hh hts
   obtain ⟨hs, As, e1, e2, e3, e4, e5, e6⟩ := ih hl' hr1
   have ne : ∀ i, j + 1 ≤ i → i ≠ j := fun i hi => by omega
   refine ⟨fun i => if i = j then h else hs i, fun i => if i = j then A else As i, if_pos rfl, if_pos rfl, ?_, ?_, by simp [e5], fun i o' hi ho' => ?_⟩
   ·show (if j + (l.length + 1) = j then h else hs (j + (l.length + 1))) = _
    rw [if_neg (by omega), ← e3]; congr 1; omega
   ·show (if j + (l.length + 1) = j then A else As (j + (l.length + 1))) = _
    rw [if_neg (by omega), ← e4]; congr 1; omega
   ·by_cases ei : i = j
    ·subst ei
     rw [hj] at ho'; cases ho'
     refine ⟨t, by simp, ?_⟩
     have n1 : ¬ (i + 1 = i) := by omega
     simp only [if_pos, n1, if_false, e1, e2]
     exact hst
    ·obtain ⟨t', h3, h4⟩ := e6 i o' (by omega) ho'
     refine ⟨t', ?_, ?_⟩
     ·rw [show i - j = (i - (j + 1)) + 1 by omega, List.getElem?_cons_succ]; exact h3
     ·have n1 : ¬ (i + 1 = j) := by omega
      simp only [ei, n1, if_false]
      exact h4
  simp only [runFree] at hr
  split at hr
  ·next hw =>
   split at hr
   ·next x g ho =>
    split at hr
    ·next hc =>
     split at hr
     ·next A2 h2 ts1 hr1 =>
      cases hr
      refine put _ _ _ ts1 _ _ hr1 (.inr ⟨hw, x, g, ho, fun hm => ?_, rfl, rfl, rfl⟩) rfl rfl rfl
      rw [hm] at hc
      simp only [Bool.not_true, Bool.false_or, Bool.or_eq_true] at hc
      exact hc.imp Nat.eq_of_beq_eq_true id
     ·cases hr
    ·cases hr
   ·cases hr
  ·next hw =>
   split at hr
   ·next A2 h2 ts1 hr1 =>
    cases hr
    exact put _ _ _ ts1 _ _ hr1 (.inl ⟨hw, rfl, rfl, rfl⟩) rfl rfl rfl
   ·cases hr
/-! ## What was asked of the region -/
theorem ord_lt {b : Array Nat} {i j : Nat} (h : i < j) : ordered b i j = (b.getD j 0).testBit i := by
 unfold ordered
 rw [show Nat.blt i j = true from by rw [Nat.blt_eq]; exact h]
theorem ord_ge {b : Array Nat} {i j : Nat} (h : j ≤ i) : ordered b i j = (b.getD i 0).testBit j := by
 unfold ordered
 rw [show Nat.blt i j = false from by
  cases hq : Nat.blt i j
  ·rfl
  ·rw [Nat.blt_eq] at hq; omega]
theorem ord_comm {b : Array Nat} {i j : Nat} (h : i ≠ j) : ordered b i j = ordered b j i := by
 rcases Nat.lt_or_gt_of_ne h with h | h
 ·rw [ord_lt h, ord_ge (Nat.le_of_lt h)]
 ·rw [ord_ge (Nat.le_of_lt h), ord_lt h]
structure DrawOk (ops : Array Oper) : Prop where
 orders : Orders ops
 guard : ∀ j o g c, ops[j]? = some o → o.guard = some (g, c) → g < j ∧ ((Region.before ops).getD j 0).testBit g = true
 tmps : ∀ i j o p d, ops[j]? = some o → ops[i]? = some p → i ≠ j → p.dst = some d →
  (d ∈ namesOf o ∨ ∃ g c, o.guard = some (g, c) ∧ (ops[g]?).bind (·.dst) = some d) → ordered (Region.before ops) i j = true
 effs : ∀ i j o p, ops[j]? = some o → ops[i]? = some p → i ≠ j → eff o.op = true → eff p.op = true → (isStore o.op = true ∧ isStore p.op = true) ∨ ordered (Region.before ops) i j = true
theorem drawOk_of {ops : Array Oper} (h : drawOk ops = true) : DrawOk ops := by
 unfold drawOk at h
 simp only [Bool.and_eq_true, List.all_eq_true] at h
 obtain ⟨h0, h⟩ := h
 have key : ∀ j o, ops[j]? = some o → (o, j) ∈ ops.toList.zipIdx := by
  intro j o ho
  rw [List.mem_zipIdx_iff_getElem?]
  simpa using ho
 refine ⟨⟨fun hd => ?_, fun j o ho e he hb => ?_⟩, fun j o g c ho hg => ?_, fun i j o p d ho hp hne hd hs => ?_, fun i j o p ho hp hne h1 h2 => ?_⟩
 ·rw [hd] at h0
  simp only [Bool.not_true, Bool.false_or] at h0
  exact Nat.eq_of_beq_eq_true h0
 ·have := ((h _ (key j o ho)).1.2) e (by simpa using he)
  simp only [Bool.or_eq_true, Bool.and_eq_true, Bool.not_eq_true', Nat.blt_eq] at this
  rcases this with ⟨h1, h2⟩ | h1
  ·rcases hb with hb | hb
   ·rw [h1] at hb; cases hb
   ·rw [h2] at hb; cases hb
  ·exact h1
 ·have := (h _ (key j o ho)).1.1
  simp only [hg, Bool.and_eq_true, Nat.blt_eq] at this
  exact this
 ·have := (h _ (key j o ho)).2 _ (key i p hp)
  simp only [Bool.or_eq_true, Bool.and_eq_true] at this
  rcases this with h1 | ⟨h1, _⟩
  ·exact absurd (Nat.eq_of_beq_eq_true h1) hne
  ·rw [hd] at h1
   simp only [Bool.or_eq_true, Bool.and_eq_true, Bool.not_eq_true'] at h1
   rcases h1 with ⟨h1, h2⟩ | h1
   ·exfalso
    rcases hs with hs | ⟨g, c, hg, hs⟩
    ·rw [show (namesOf o).contains d = true from by simpa using hs] at h1; cases h1
    ·rw [hg] at h2
     simp only [hs, Option.toList_some] at h2
     simp at h2
   ·exact h1
 ·have := (h _ (key j o ho)).2 _ (key i p hp)
  simp only [Bool.or_eq_true, Bool.and_eq_true] at this
  rcases this with h3 | ⟨_, h3⟩
  ·exact absurd (Nat.eq_of_beq_eq_true h3) hne
  ·rcases h3 with h3 | h3
   ·left
    rw [h1, h2] at h3
    simp only [Bool.true_and, Bool.not_eq_true', Bool.not_eq_false', Bool.and_eq_true] at h3
    simpa using h3
   ·exact .inr h3
theorem slim_of {ops : Array Oper} {j : Nat} (h : slimOf ops j = true) : ∀ i p, ops[i]? = some p → i ≠ j → ordered (Region.before ops) i j = true ∨ (eff p.op = false ∧ mayJoin p.op = false) := by
 intro i p hp hne
 unfold slimOf at h
 simp only [List.all_eq_true] at h
 have := h (p, i) (by rw [List.mem_zipIdx_iff_getElem?]; simpa using hp)
 simp only [Bool.or_eq_true, Bool.not_eq_true', Bool.or_eq_false_iff] at this
 rcases this with (h1 | h1) | h1
 ·exact absurd (Nat.eq_of_beq_eq_true h1) hne
 ·exact .inl h1
 ·exact .inr h1
theorem allMeet_of {b : Array Nat} {ts : List Tch} (h : allMeet b ts = true) {i j : Nat} {s t : Tch} (hi : ts[i]? = some s) (hj : ts[j]? = some t) (hlt : i < j) (ho : ordered b i j = false) : meets s t = true := by
 unfold allMeet at h
 simp only [List.all_eq_true] at h
 have := h (s, i) (by rw [List.mem_zipIdx_iff_getElem?]; exact hi) (t, j) (by rw [List.mem_zipIdx_iff_getElem?]; exact hj)
 simp only [Bool.or_eq_true, Bool.not_eq_true'] at this
 rcases this with (h1 | h1) | h1
 ·rw [show Nat.blt i j = true from by rw [Nat.blt_eq]; exact hlt] at h1; cases h1
 ·rw [ho] at h1; cases h1
 ·exact h1
theorem apart_of {w : List Nat} {r : Option (List Nat)} (h : apart? w r = true) : (r = none → w = []) ∧ ∀ l, r = some l → ∀ k ∈ w, k ∉ l := by
 unfold apart? at h
 split at h
 ·exact ⟨fun _ => rfl, fun _ _ k hk => by cases hk⟩
 ·cases h
 ·next hne _ r =>
  refine ⟨fun hr => (by cases hr), fun l hl k hk hin => ?_⟩
  cases hl
  simp only [List.all_eq_true, Bool.not_eq_true'] at h
  have := h k hk
  rw [List.any_eq_false] at this
  exact this k hin (Nat.beq_refl k)
structure Meets (s t : Tch) : Prop where
 r1 : (t.reads = none → s.writes = []) ∧ ∀ l, t.reads = some l → ∀ k ∈ s.writes, k ∉ l
 r2 : (s.reads = none → t.writes = []) ∧ ∀ l, s.reads = some l → ∀ k ∈ t.writes, k ∉ l
 w : ∀ k ∈ s.writes, k ∉ t.writes
 root : ¬ (s.rooted = true ∧ t.rooted = true)
 new : ∀ k ∈ t.writes, k < s.lo ∨ s.hi ≤ k
theorem meets_of {s t : Tch} (h : meets s t = true) : Meets s t := by
 unfold meets at h
 simp only [Bool.and_eq_true, Bool.not_eq_true', List.all_eq_true, Bool.or_eq_true, Nat.blt_eq, Nat.ble_eq] at h
 obtain ⟨⟨⟨⟨h1, h2⟩, h3⟩, h4⟩, h5⟩ := h
 refine ⟨apart_of h1, apart_of h2, (apart_of h3).2 _ rfl, ?_, h5⟩
 intro h6
 simp [h6.1, h6.2] at h4
end Go.Hs
/- A region whose order is open: the run in the text's order, its parts named. -/
namespace Go.Hs
structure Text (D : Tab) (E : Env) (n0 : Nat) (ev : Ev) (ops : Array Oper) (φ0 : Ph) (hs : Nat → H) (As : Nat → Ac) (tc : Nat → Tch) : Prop where
 dok : DrawOk ops
 step : ∀ i o, ops[i]? = some o → TSkip ops o (As i) (hs i) (As (i + 1)) (hs (i + 1)) (tc i) ∨ TRun D E ev ops i o (As i) (hs i) (As (i + 1)) (hs (i + 1)) (tc i)
 meet : ∀ i j, i < j → j < ops.size → ordered (Region.before ops) i j = false → Meets (tc i) (tc j)
 tie : ∀ i, i ≤ ops.size → ∃ ψ w a, Tie D E n0 All ψ (hs i) w ∧ ATie ψ (As i) a ∧ (∀ k, k < (hs 0).next → ψ k = φ0 k) ∧ ∀ k, (hs 0).next ≤ k → k < (hs i).next → (ψ k).isSome = true
 lgs : ∀ i o x g, ops[i]? = some o → oper1 D E ev (As i) o (fresh (hs i)) = some (x, g) → Lg (fresh (hs i)) g
def Quiet (ops : Array Oper) (hs : Nat → H) (As : Nat → Ac) (i : Nat) : Prop :=
 ∃ o, ops[i]? = some o ∧ awant ops (As i) o = true ∧ eff o.op = false ∧ (mayJoin o.op = true → (hs (i + 1)).next = (hs i).next)
def Loud (ops : Array Oper) (hs : Nat → H) (As : Nat → Ac) (i : Nat) : Prop :=
 ∃ o, ops[i]? = some o ∧ awant ops (As i) o = true ∧ isStore o.op = false ∧ ¬ (eff o.op = false ∧ (mayJoin o.op = true → (hs (i + 1)).next = (hs i).next))
section
variable {D : Tab} {E : Env} {n0 : Nat} {ev : Ev} {ops : Array Oper} {φ0 : Ph} {hs : Nat → H} {As : Nat → Ac} {tc : Nat → Tch}
theorem op_at {i : Nat} (h : i < ops.size) : ops[i]? = some ops[i] := by simp [h]
theorem lt_of_op {i : Nat} {o : Oper} (h : ops[i]? = some o) : i < ops.size := (Array.getElem?_eq_some_iff.1 h).1
theorem Text.next_le (K : Text D E n0 ev ops φ0 hs As tc) {i : Nat} (hi : i < ops.size) : (hs i).next ≤ (hs (i + 1)).next := by
 rcases K.step i _ (op_at hi) with ⟨_, h1, _⟩ | ⟨_, x, g, h1, _, h2, _⟩
 ·rw [h1]; exact Nat.le_refl _
 ·rw [h2, back_next]; exact (K.lgs i _ x g (op_at hi) h1).next
theorem Text.mono (K : Text D E n0 ev ops φ0 hs As tc) : ∀ {j i : Nat}, i ≤ j → j ≤ ops.size → (hs i).next ≤ (hs j).next := by
 intro j
 induction j with
 | zero => intro i h _; rw [show i = 0 by omega]; exact Nat.le_refl _
 | succ j ih =>
  intro i h hj
  by_cases e : i = j + 1
  ·subst e; exact Nat.le_refl _
  ·exact Nat.le_trans (ih (by omega) (by omega)) (K.next_le (by omega))
theorem Text.lo (K : Text D E n0 ev ops φ0 hs As tc) {i : Nat} (hi : i < ops.size) : (tc i).lo = (hs i).next ∧ (tc i).hi = (hs (i + 1)).next := by
 rcases K.step i _ (op_at hi) with ⟨_, h1, _, h2⟩ | ⟨_, x, g, _, _, h1, _, h2⟩
 ·rw [h2, h1]; exact ⟨rfl, rfl⟩
 ·rw [h2, h1, back_next]; exact ⟨rfl, rfl⟩
theorem Text.w_lt (K : Text D E n0 ev ops φ0 hs As tc) {i k : Nat} (hi : i < ops.size) (hk : k ∈ (tc i).writes) : k < (hs i).next := by
 rcases K.step i _ (op_at hi) with ⟨_, _, _, h2⟩ | ⟨_, x, g, h1, _, _, _, h2⟩
 ·rw [h2] at hk; cases hk
 ·rw [h2] at hk
  obtain ⟨L, l1, l2, _⟩ := (K.lgs i _ x g (op_at hi) h1).log
  rw [show g.log = L by rw [l1]; exact List.append_nil L] at hk
  exact l2 k hk
theorem Text.keep (K : Text D E n0 ev ops φ0 hs As tc) {i k : Nat} (hi : i < ops.size) (hlt : k < (hs i).next) (hk : k ∉ (tc i).writes) : (hs (i + 1)).blk k = (hs i).blk k := by
 rcases K.step i _ (op_at hi) with ⟨_, h1, _, h2⟩ | ⟨_, x, g, h1, _, h3, _, h2⟩
 ·rw [h1]
 ·rw [h2] at hk
  obtain ⟨L, l1, _, l3⟩ := (K.lgs i _ x g (op_at hi) h1).log
  rw [show g.log = L by rw [l1]; exact List.append_nil L] at hk
  rw [h3, back_blk]
  exact l3 k hlt hk
theorem Text.shape1 (K : Text D E n0 ev ops φ0 hs As tc) {i k : Nat} (hi : i < ops.size) (hlt : k < (hs i).next) : shapeOf ((hs (i + 1)).dyn.get k) = shapeOf ((hs i).dyn.get k) := by
 rcases K.step i _ (op_at hi) with ⟨_, h1, _, h2⟩ | ⟨_, x, g, h1, _, h3, _, h2⟩
 ·rw [h1]
 ·rw [h3, back_dyn]
  exact (K.lgs i _ x g (op_at hi) h1).shape k hlt
theorem Text.shape (K : Text D E n0 ev ops φ0 hs As tc) {k : Nat} : ∀ {q p : Nat}, p ≤ q → q ≤ ops.size → k < (hs p).next → shapeOf ((hs q).dyn.get k) = shapeOf ((hs p).dyn.get k) := by
 intro q
 induction q with
 | zero => intro p h _ _; rw [show p = 0 by omega]
 | succ q ih =>
  intro p h hq hk
  by_cases e : p = q + 1
  ·subst e; rfl
  ·rw [K.shape1 (by omega) (Nat.lt_of_lt_of_le hk (K.mono (by omega) (by omega))), ih (by omega) (by omega) hk]
theorem Text.between (K : Text D E n0 ev ops φ0 hs As tc) {k : Nat} : ∀ {q p : Nat}, p ≤ q → q ≤ ops.size → k < (hs p).next → (∀ i, p ≤ i → i < q → k ∉ (tc i).writes) → (hs q).blk k = (hs p).blk k := by
 intro q
 induction q with
 | zero => intro p h _ _ _; rw [show p = 0 by omega]
 | succ q ih =>
  intro p h hq hk hw
  by_cases e : p = q + 1
  ·subst e; rfl
  ·rw [K.keep (by omega) (Nat.lt_of_lt_of_le hk (K.mono (by omega) (by omega))) (hw q (by omega) (by omega)), ih (by omega) (by omega) hk (fun i h1 h2 => hw i h1 (by omega))]
theorem Text.same_at (K : Text D E n0 ev ops φ0 hs As tc) {k p q : Nat} (hp : p ≤ ops.size) (hq : q ≤ ops.size) (kp : k < (hs p).next) (kq : k < (hs q).next) (hw : ∀ i, i < ops.size → k ∈ (tc i).writes → (i < p ↔ i < q)) : (hs q).blk k = (hs p).blk k := by
 rcases Nat.le_total p q with h | h
 ·refine K.between h hq kp (fun i h1 h2 hk => ?_)
  have := (hw i (by omega) hk).2 h2
  omega
 ·refine (K.between h hp kq (fun i h1 h2 hk => ?_)).symm
  have := (hw i (by omega) hk).1 h2
  omega
theorem Text.shape_at (K : Text D E n0 ev ops φ0 hs As tc) {k p q : Nat} (hp : p ≤ ops.size) (hq : q ≤ ops.size) (kp : k < (hs p).next) (kq : k < (hs q).next) : shapeOf ((hs q).dyn.get k) = shapeOf ((hs p).dyn.get k) := by
 rcases Nat.le_total p q with h | h
 ·exact K.shape h hq kp
 ·exact (K.shape h hp kq).symm
theorem quiet_cases {A : Ac} {h g : H} {op : Op} {v : Value} (hq : eff op = false) (hj : mayJoin op = true → g.next = h.next) (hp : aop D E A op h = some (v, g)) : g = h ∨ (isNew op = true ∧ g.next ≠ h.next) := by
 cases hi : isNew op with
 | false => exact .inl (quiet_same hq hi hj hp)
 | true =>
  by_cases hn : g.next = h.next
  ·left
   exact (read_at (h2 := h) hq (fun t x l hh m e => by rw [e] at hi; cases hi) hn (fun _ _ _ _ _ _ => rfl) hp).1
  ·exact .inr ⟨rfl, hn⟩
theorem Text.quiet_writes (K : Text D E n0 ev ops φ0 hs As tc) {i : Nat} (hq : Quiet ops hs As i) : (tc i).writes = [] := by
 obtain ⟨o, ho, hw, he, hj⟩ := hq
 rcases K.step i o ho with ⟨h0, _⟩ | ⟨_, x, g, h1, _, h3, _, h2⟩
 ·rw [hw] at h0; cases h0
 ·rw [h2]
  rw [oper1_quiet he] at h1
  have hj' : mayJoin o.op = true → g.next = (fresh (hs i)).next := fun hm => by
   have := hj hm
   rw [h3, back_next] at this; exact this
  show g.log = []
  rcases quiet_cases he hj' h1 with h4 | ⟨h4, h5⟩
  ·rw [h4]; rfl
  ·rcases new_at h4 h5 h1 with ⟨B, _, h6, _⟩ | ⟨xs, ty, h6, _⟩
   ·rw [h6]; rfl
   ·rw [h6]; rfl
theorem Text.skip_writes (K : Text D E n0 ev ops φ0 hs As tc) {i : Nat} {o : Oper} (ho : ops[i]? = some o) (hw : awant ops (As i) o = false) : (tc i).writes = [] ∧ (hs (i + 1)).next = (hs i).next := by
 rcases K.step i o ho with ⟨_, h1, _, h2⟩ | ⟨h0, _⟩
 ·rw [h2, h1]; exact ⟨rfl, rfl⟩
 ·rw [hw] at h0; cases h0
theorem Text.unordN (K : Text D E n0 ev ops φ0 hs As tc) {i j : Nat} (hj : Loud ops hs As j) (hi : i < ops.size) (hne : i ≠ j) (ho : ordered (Region.before ops) i j = false) :
  (tc i).writes = [] ∧ ((hs (i + 1)).next = (hs i).next ∨ Quiet ops hs As i) := by
 obtain ⟨o, hoj, hwj, hst, hnq⟩ := hj
 cases hwi : awant ops (As i) ops[i] with
 | false =>
  obtain ⟨h1, h2⟩ := K.skip_writes (op_at hi) hwi
  exact ⟨h1, .inl h2⟩
 | true =>
  have hq : Quiet ops hs As i := by
   have hslimI : mayJoin ops[i].op = true → (hs (i + 1)).next = (hs i).next ∨ slimOf ops i = true := by
    intro hm
    rcases K.step i _ (op_at hi) with ⟨h0, _⟩ | ⟨_, x, g, _, h1, h3, _⟩
    ·rw [hwi] at h0; cases h0
    ·rw [h3, back_next]; exact h1 hm
   have hslimJ : mayJoin o.op = true → (hs (j + 1)).next = (hs j).next ∨ slimOf ops j = true := by
    intro hm
    rcases K.step j o hoj with ⟨h0, _⟩ | ⟨_, x, g, _, h1, h3, _⟩
    ·rw [hwj] at h0; cases h0
    ·rw [h3, back_next]; exact h1 hm
   by_cases hslim : slimOf ops j = true
   ·rcases slim_of hslim i _ (op_at hi) hne with h1 | ⟨h1, h2⟩
    ·rw [h1] at ho; cases ho
    ·exact ⟨_, op_at hi, hwi, h1, fun hm => by rw [h2] at hm; cases hm⟩
   ·have hej : eff o.op = true := by
     cases he : eff o.op
     ·exact absurd ⟨he, fun hm => (hslimJ hm).resolve_right hslim⟩ hnq
     ·rfl
    have hei : eff ops[i].op = false := by
     cases he : eff ops[i].op
     ·rfl
     ·rcases K.dok.effs i j o _ hoj (op_at hi) hne hej he with ⟨h1, _⟩ | h1
      ·rw [hst] at h1; cases h1
      ·rw [ho] at h1; cases h1
    refine ⟨_, op_at hi, hwi, hei, fun hm => ?_⟩
    rcases hslimI hm with h1 | h1
    ·exact h1
    ·exfalso
     rcases slim_of h1 j o hoj (fun e => hne e.symm) with h2 | ⟨h2, _⟩
     ·rw [ord_comm hne, h2] at ho; cases ho
     ·rw [hej] at h2; cases h2
  exact ⟨K.quiet_writes hq, .inr hq⟩
theorem Text.unordS (K : Text D E n0 ev ops φ0 hs As tc) {i j : Nat} {o : Oper} (hoj : ops[j]? = some o) (hst : isStore o.op = true) (hi : i < ops.size) (hne : i ≠ j) (ho : ordered (Region.before ops) i j = false) :
  ¬ Loud ops hs As i := by
 intro hL
 obtain ⟨p, hp, hwi, hsi, hnq⟩ := hL
 have hej : eff o.op = true := by
  cases hop : o.op <;> rw [hop] at hst <;> first | rfl | cases hst
 have hei : eff p.op = false := by
  cases he : eff p.op
  ·rfl
  ·rcases K.dok.effs i j o _ hoj hp hne hej he with ⟨_, h1⟩ | h1
   ·rw [hsi] at h1; cases h1
   ·rw [ho] at h1; cases h1
 apply hnq
 refine ⟨hei, fun hm => ?_⟩
 rcases K.step i p hp with ⟨h0, _⟩ | ⟨_, x, g, _, h1, h3, _⟩
 ·rw [hwi] at h0; cases h0
 ·rw [h3, back_next]
  rcases h1 hm with h1 | h1
  ·exact h1
  ·exfalso
   rcases slim_of h1 j o hoj (fun e => hne e.symm) with h2 | ⟨h2, _⟩
   ·rw [ord_comm hne, h2] at ho; cases ho
   ·rw [hej] at h2; cases h2
theorem ordX {X : Nat → Prop} {i j : Nat} (hD : Down ops X) (hX : ¬ X j) (hp : ∀ i, ((Region.before ops).getD j 0).testBit i = true → X i) (hne : i ≠ j) (ho : ordered (Region.before ops) i j = true) : X i ↔ i < j := by
 rcases Nat.lt_or_gt_of_ne hne with h | h
 ·rw [ord_lt h] at ho
  exact ⟨fun _ => h, fun _ => hp i ho⟩
 ·rw [ord_ge (Nat.le_of_lt h)] at ho
  exact ⟨fun hx => absurd (hD i hx j ho) hX, fun h2 => by omega⟩
end
end Go.Hs
/- A region whose order is open: the state on the way; operations that are passed over, or read. -/
namespace Go.Hs
theorem Kept.weaken {χ φ : Ph} {w w' : World} (hle : Le χ φ) (h : Kept χ w w') : Kept φ w w' :=
 ⟨h.os, h.tape, h.output, h.size, fun c hc hn => h.block c hc (fun k b e hk => hn k b e (hle _ _ hk))⟩
theorem Kept.on {φ0 φ : Ph} {w0 w w' : World} (h : Kept φ0 w0 w) (h' : Kept φ w w') (hi : ∀ k c b e, φ k = some (c, b, e) → w0.heap.size ≤ c ∨ ∃ j b' e', φ0 j = some (c, b', e')) : Kept φ0 w0 w' :=
 ⟨h'.os.trans h.os, h'.tape.trans h.tape, h'.output.trans h.output, Nat.le_trans h.size h'.size, fun c hc hn => by
  rw [h'.block c (Nat.lt_of_lt_of_le hc h.size) ?_, h.block c hc hn]
  intro k b e hk
  rcases hi k c b e hk with hs | ⟨j, b', e', hj⟩
  ·omega
  ·exact hn j b' e' hj⟩
def Low (ops : Array Oper) (hs : Nat → H) (As : Nat → Ac) (X : Nat → Prop) (k : Nat) : Prop :=
 k < (hs 0).next ∨ ∃ i, X i ∧ i < ops.size ∧ Loud ops hs As i ∧ k < (hs (i + 1)).next
structure St (D : Tab) (E : Env) (n0 : Nat) (ops : Array Oper) (φ0 : Ph) (hs : Nat → H) (As : Nat → Ac) (tc : Nat → Tch) (w0 : World) (d0 : List Deferred) (X : Nat → Prop) (h : H) (φ : Ph) (A : Ac) (a : Act) (w : World) : Prop where
 tie : Tie D E n0 All φ h w
 next : h.next = (hs ops.size).next
 act : ATie φ A a
 n : A.n = (As 0).n
 tmps : ∀ t j, j ≤ ops.size → (∀ i p, ops[i]? = some p → p.dst = some t → (X i ↔ i < j)) → A.get t = (As j).get t
 dfr : A.defers = (As 0).defers
 adfr : a.defers = d0
 dom : ∀ k, (φ k).isSome = true → k < (hs 0).next ∨ ∃ i, X i ∧ i < ops.size ∧ (hs i).next ≤ k ∧ k < (hs (i + 1)).next
 tot : ∀ i k, X i → i < ops.size → (hs i).next ≤ k → k < (hs (i + 1)).next → (φ k).isSome = true
 base : ∀ k, k < (hs 0).next → φ k = φ0 k
 agree : ∀ k j, j ≤ ops.size → k < (hs j).next → (φ k).isSome = true → (∀ i, i < ops.size → k ∈ (tc i).writes → (X i ↔ i < j)) → h.blk k = (hs j).blk k
 shape : ∀ k j, j ≤ ops.size → k < (hs j).next → (φ k).isSome = true → shapeOf (h.dyn.get k) = shapeOf ((hs j).dyn.get k)
 low : ∀ k c b e, φ k = some (c, b, e) → Low ops hs As X k ∨ ∀ k' b' e', k' ≠ k → φ k' ≠ some (c, b', e')
 lowr : ∀ k xs ty r p, h.dyn.get k = some (.cells xs ty (some (r, p))) → Low ops hs As X k ∨ r = k
 kept : Kept φ0 w0 w
 img : ∀ k c b e, φ k = some (c, b, e) → w0.heap.size ≤ c ∨ ∃ j b' e', φ0 j = some (c, b', e')
section
variable {P : Program} {D : Tab} {E : Env} {n0 : Nat} {ev : Ev} {ops : Array Oper} {φ0 : Ph} {hs : Nat → H} {As : Nat → Ac} {tc : Nat → Tch} {w0 : World} {d0 : List Deferred}
 {X : Nat → Prop} {h : H} {φ : Ph} {A : Ac} {a : Act} {w : World} {j : Nat} {o : Oper}
theorem Low.or {k : Nat} (hl : Low ops hs As X k) : Low ops hs As (fun i => X i ∨ i = j) k := by
 rcases hl with h | ⟨i, h1, h2⟩
 ·exact .inl h
 ·exact .inr ⟨i, .inl h1, h2⟩
theorem Text.put_at (K : Text D E n0 ev ops φ0 hs As tc) (ho : ops[j]? = some o) : ∃ v, As (j + 1) = (As j).put o.dst v := by
 rcases K.step j o ho with ⟨_, _, h1, _⟩ | ⟨_, x, g, _, _, _, h1, _⟩
 ·exact ⟨_, h1⟩
 ·exact ⟨_, h1⟩
theorem Text.n_at (K : Text D E n0 ev ops φ0 hs As tc) : ∀ {i : Nat}, i ≤ ops.size → (As i).n = (As 0).n := by
 intro i
 induction i with
 | zero => intro _; rfl
 | succ i ih =>
  intro hi
  obtain ⟨v, hv⟩ := K.put_at (op_at (show i < ops.size by omega))
  rw [hv, Ac.put_n, ih (by omega)]
theorem Text.dfr_at (K : Text D E n0 ev ops φ0 hs As tc) : ∀ {i : Nat}, i ≤ ops.size → (As i).defers = (As 0).defers := by
 intro i
 induction i with
 | zero => intro _; rfl
 | succ i ih =>
  intro hi
  obtain ⟨v, hv⟩ := K.put_at (op_at (show i < ops.size by omega))
  rw [hv, Ac.put_defers, ih (by omega)]
theorem Text.tmp_between (K : Text D E n0 ev ops φ0 hs As tc) {t : Tmp} : ∀ {q p : Nat}, p ≤ q → q ≤ ops.size → (∀ i o, p ≤ i → i < q → ops[i]? = some o → o.dst ≠ some t) → (As q).get t = (As p).get t := by
 intro q
 induction q with
 | zero => intro p h _ _; rw [show p = 0 by omega]
 | succ q ih =>
  intro p h hq hw
  by_cases e : p = q + 1
  ·subst e; rfl
  ·have hop := op_at (show q < ops.size by omega)
   obtain ⟨v, hv⟩ := K.put_at hop
   have hne := hw q _ (by omega) (by omega) hop
   rw [hv, Ac.get_put, ← ih (by omega) (by omega) (fun i o h1 h2 => hw i o h1 (by omega))]
   cases hd : (ops[q]).dst with
   | none => rfl
   | some d =>
    simp only
    rw [if_neg]
    rintro ⟨e1, _⟩
    exact hne (by rw [hd, e1])
theorem St.tmp_eq (K : Text D E n0 ev ops φ0 hs As tc) (S : St D E n0 ops φ0 hs As tc w0 d0 X h φ A a w) (ho : ops[j]? = some o) (hX : ¬ X j) (hD : Down ops X) (hp : ∀ i, ((Region.before ops).getD j 0).testBit i = true → X i) {t : Tmp}
  (ht : t ∈ namesOf o ∨ ∃ g c, o.guard = some (g, c) ∧ (ops[g]?).bind (·.dst) = some t) : A.get t = (As j).get t := by
 refine S.tmps t j (Nat.le_of_lt (lt_of_op ho)) (fun i p hpi hd => ?_)
 by_cases e : i = j
 ·subst e
  exact ⟨fun h => absurd h hX, fun h => absurd h (Nat.lt_irrefl _)⟩
 ·exact ordX hD hX hp e (K.dok.tmps i j o p t ho hpi e hd ht)
theorem St.opv_eq (K : Text D E n0 ev ops φ0 hs As tc) (S : St D E n0 ops φ0 hs As tc w0 d0 X h φ A a w) (ho : ops[j]? = some o) (hX : ¬ X j) (hD : Down ops X) (hp : ∀ i, ((Region.before ops).getD j 0).testBit i = true → X i) :
  (∀ t ∈ seenOf o.op, A.get t = (As j).get t) ∧ ∀ x ∈ o.op.operands, opv A x = opv (As j) x := by
 have h1 : ∀ t ∈ seenOf o.op, A.get t = (As j).get t := fun t ht => S.tmp_eq K ho hX hD hp (.inl (List.mem_append_right _ ht))
 exact ⟨h1, fun x hx => Hs.opv_eq h1 hx⟩
theorem ayield_get (A : Ac) (g : Nat) : ayield ops A g = match (ops[g]?).bind (·.dst) with
  | some d => match A.get d with
   | .bool b => some b
   | _ => none
  | none => none := by
 unfold ayield
 cases (ops[g]?).bind (·.dst) with
 | none => rfl
 | some d =>
  simp only
  unfold Ac.get
  cases A.tmps.get d with
  | none => rfl
  | some v => cases v <;> rfl
theorem St.want_eq (K : Text D E n0 ev ops φ0 hs As tc) (S : St D E n0 ops φ0 hs As tc w0 d0 X h φ A a w) (ho : ops[j]? = some o) (hX : ¬ X j) (hD : Down ops X) (hp : ∀ i, ((Region.before ops).getD j 0).testBit i = true → X i) :
  awant ops A o = awant ops (As j) o := by
 unfold awant
 cases hg : o.guard with
 | none => rfl
 | some gc =>
  obtain ⟨g, c⟩ := gc
  simp only
  have : ayield ops A g = ayield ops (As j) g := by
   rw [ayield_get, ayield_get]
   cases hd : (ops[g]?).bind (·.dst) with
   | none => rfl
   | some d =>
    simp only
    rw [S.tmp_eq K ho hX hD hp (.inr ⟨g, c, hg, hd⟩)]
  rw [this]
theorem St.tmps_step (K : Text D E n0 ev ops φ0 hs As tc) (S : St D E n0 ops φ0 hs As tc w0 d0 X h φ A a w) (ho : ops[j]? = some o) (hX : ¬ X j) (hD : Down ops X) (hp : ∀ i, ((Region.before ops).getD j 0).testBit i = true → X i) {v : Value}
  (hv : As (j + 1) = (As j).put o.dst v) : ∀ t j', j' ≤ ops.size → (∀ i p, ops[i]? = some p → p.dst = some t → ((X i ∨ i = j) ↔ i < j')) → (A.put o.dst v).get t = (As j').get t := by
 intro t j' hj' hc
 have hj := lt_of_op ho
 by_cases hd : o.dst = some t
 ·have h1 : A.get t = (As j).get t := S.tmp_eq K ho hX hD hp (.inl (List.mem_append_left _ (by rw [hd]; simp)))
  have h2 : (A.put o.dst v).get t = (As (j + 1)).get t := by
   rw [hv, Ac.get_put, Ac.get_put, hd]
   simp only
   rw [S.n, K.n_at (Nat.le_of_lt hj), h1]
  rw [h2]
  have hjj : j < j' := (hc j o ho hd).1 (.inr rfl)
  refine (K.tmp_between (by omega) hj' (fun i p h3 h4 hpi hpd => ?_)).symm
  have h5 : ordered (Region.before ops) i j = true := K.dok.tmps i j o p t ho hpi (by omega) hpd (.inl (List.mem_append_left _ (by rw [hd]; simp)))
  have h6 := ordX hD hX hp (by omega) h5
  rcases (hc i p hpi hpd).2 h4 with h7 | h7
  ·have := h6.1 h7; omega
  ·omega
 ·have h1 : (A.put o.dst v).get t = A.get t := by
   rw [Ac.get_put]
   cases hdd : o.dst with
   | none => rfl
   | some d =>
    simp only
    rw [if_neg]
    rintro ⟨e, _⟩
    exact hd (by rw [hdd, e])
  rw [h1]
  refine S.tmps t j' hj' (fun i p hpi hpd => ?_)
  have := hc i p hpi hpd
  have hne : i ≠ j := by
   rintro rfl
   rw [ho] at hpi; cases hpi
   exact hd hpd
  rw [← this]
  exact ⟨.inl, fun h => h.resolve_right hne⟩
theorem St.same (K : Text D E n0 ev ops φ0 hs As tc) (S : St D E n0 ops φ0 hs As tc w0 d0 X h φ A a w) (ho : ops[j]? = some o) (hX : ¬ X j) (hD : Down ops X) (hp : ∀ i, ((Region.before ops).getD j 0).testBit i = true → X i) {v : Value} {w' : World}
  (hv : As (j + 1) = (As j).put o.dst v) (hok : okV φ v) (hn : (hs (j + 1)).next = (hs j).next) (hw : (tc j).writes = []) (R : Tie D E n0 All φ h w') (hK : Kept φ w w') :
  St D E n0 ops φ0 hs As tc w0 d0 (fun i => X i ∨ i = j) h φ (A.put o.dst v) (a.put o.dst (ren φ v)) w' where
 tie := R
 next := S.next
 act := S.act.put _ hok
 n := by rw [Ac.put_n]; exact S.n
 tmps := S.tmps_step K ho hX hD hp hv
 dfr := by rw [Ac.put_defers]; exact S.dfr
 adfr := by rw [put_defers]; exact S.adfr
 dom := fun k hk => (S.dom k hk).imp id fun ⟨i, h1, h2⟩ => ⟨i, .inl h1, h2⟩
 tot := fun i k hi hlt h1 h2 => by
  rcases hi with hi | rfl
  ·exact S.tot i k hi hlt h1 h2
  ·omega
 base := S.base
 agree := fun k j' hj' hk hs' hc => S.agree k j' hj' hk hs' (fun i hi hm => by
  rw [← hc i hi hm]
  refine ⟨.inl, fun h => h.resolve_right ?_⟩
  rintro rfl
  rw [hw] at hm; cases hm)
 shape := S.shape
 low := fun k c b e hk => (S.low k c b e hk).imp Low.or id
 lowr := fun k xs ty r p hd => (S.lowr k xs ty r p hd).imp Low.or id
 kept := S.kept.on hK S.img
 img := S.img
theorem Text.unordR (K : Text D E n0 ev ops φ0 hs As tc) {i : Nat} (hi : i < ops.size) (hj : j < ops.size) (hne : i ≠ j) (ho : ordered (Region.before ops) i j = false) :
  ((tc j).reads = none → (tc i).writes = []) ∧ ∀ l, (tc j).reads = some l → ∀ k ∈ (tc i).writes, k ∉ l := by
 rcases Nat.lt_or_gt_of_ne hne with h | h
 ·exact (K.meet i j h hj ho).r1
 ·rw [ord_comm hne] at ho
  exact (K.meet j i h hi ho).r2
theorem Text.unordW (K : Text D E n0 ev ops φ0 hs As tc) {i : Nat} (hi : i < ops.size) (hj : j < ops.size) (hne : i ≠ j) (ho : ordered (Region.before ops) i j = false) : ∀ k ∈ (tc i).writes, k ∉ (tc j).writes := by
 rcases Nat.lt_or_gt_of_ne hne with h | h
 ·exact (K.meet i j h hj ho).w
 ·rw [ord_comm hne] at ho
  exact fun k hk hk' => (K.meet j i h hi ho).w k hk' hk
theorem Text.unordRoot (K : Text D E n0 ev ops φ0 hs As tc) {i : Nat} (hi : i < ops.size) (hj : j < ops.size) (hne : i ≠ j) (ho : ordered (Region.before ops) i j = false) : ¬ ((tc i).rooted = true ∧ (tc j).rooted = true) := by
 rcases Nat.lt_or_gt_of_ne hne with h | h
 ·exact (K.meet i j h hj ho).root
 ·rw [ord_comm hne] at ho
  exact fun hh => (K.meet j i h hi ho).root ⟨hh.2, hh.1⟩
theorem St.top (K : Text D E n0 ev ops φ0 hs As tc) (S : St D E n0 ops φ0 hs As tc w0 d0 X h φ A a w) (ho : ops[j]? = some o) (hX : ¬ X j) (hD : Down ops X) (hp : ∀ i, ((Region.before ops).getD j 0).testBit i = true → X i)
  {x : Operand} {u : Value} (hx : x ∈ o.op.operands) (hu : opv (As j) x = some u) {k : Nat} (hk : k ∈ topV u) : (φ k).isSome = true ∧ k < (hs j).next := by
 have h1 := (S.opv_eq K ho hX hD hp).2 x hx
 rw [hu] at h1
 have ok1 := (opv_run S.act h1).2
 obtain ⟨ψ, w2, a2, R2, AT2, _⟩ := K.tie j (Nat.le_of_lt (lt_of_op ho))
 have ok2 := (opv_run AT2 hu).2
 have key : ∀ {χ : Ph}, okV χ u → (χ k).isSome = true := by
  intro χ hok
  unfold topV at hk
  split at hk
  ·next a' =>
   cases hs' : a'.spot with
   | none => simp [hs'] at hk
   | some s => cases s with
    | succ s => simp [hs'] at hk
    | zero =>
    simp only [hs', List.mem_singleton] at hk
    subst hk
    rcases (show okA χ a' from hok) with h3 | h3 | ⟨_, h3⟩
    ·rw [hs'] at h3; cases h3
    ·exact h3.2
    ·rw [hs'] at h3; cases h3
  ·next a' n' c' =>
   cases hs' : a'.spot with
   | none => simp [hs'] at hk
   | some s => cases s with
    | succ s => simp [hs'] at hk
    | zero =>
    simp only [hs', List.mem_singleton] at hk
    subst hk
    rcases (show okA χ a' from hok) with h3 | h3 | ⟨_, h3⟩
    ·rw [hs'] at h3; cases h3
    ·exact h3.2
    ·rw [hs'] at h3; cases h3
  ·simp only [List.mem_singleton] at hk
   subst hk
   exact hok
  ·cases hk
 refine ⟨key ok1, ?_⟩
 obtain ⟨⟨c, b, e⟩, hx2⟩ := Option.isSome_iff_exists.1 (key ok2)
 exact (R2.dom _ _ _ _ hx2).1
theorem new5_next {op : Op} {v : Value} {h g : H} (hi : match op with | .alloc _ | .box _ _ | .buildSlice _ _ _ | .makeSlice _ _ _ | .makeMap _ _ => True | _ => False) (hp : aop D E A op h = some (v, g)) : g.next ≠ h.next := by
 cases op <;> first | (exact hi.elim) | skip
 all_goals simp only [aop] at hp
 case buildSlice =>
  split at hp
  ·unfold abuildSlice at hp
   repeat' split at hp
   all_goals first
    | (cases hp; done)
    | (cases hp; exact Nat.succ_ne_self _)
  ·cases hp
 case makeSlice =>
  split at hp
  ·unfold amakeSlice at hp
   repeat' split at hp
   all_goals first
    | (cases hp; done)
    | (cases hp; exact Nat.succ_ne_self _)
  ·cases hp
 all_goals repeat' split at hp
 all_goals first
  | (cases hp; done)
  | (cases hp; exact Nat.succ_ne_self _)
theorem slice_map {t : TypeId} {r : Option Nat} {lo hi mx : Option Value} {x : Value × H} {h : H} (hp : aslice D t (.map r) lo hi mx h = some x) : False := by
 unfold aslice at hp
 repeat' split at hp
 all_goals first
  | contradiction
  | (cases hp; done)
theorem read_same {h g : H} {v : Value} (hq : eff o.op = false) (hpp : aop D E A o.op g = some (v, g)) (h1 : ∀ l, reads D A o = some l → ∀ k ∈ l, ∀ x ∈ o.op.operands, ∀ u, opv A x = some u → k ∈ topV u → h.blk k = g.blk k)
  (h2 : reads D A o = none → ∀ x ∈ o.op.operands, ∀ u, opv A x = some u → ∀ k ∈ topV u, h.blk k = g.blk k) : aop D E A o.op h = some (v, h) := by
 by_cases hpu : pureOp D o.op = true
 ·exact (pure_at hpu hpp).2 h
 have hpu' : pureOp D o.op = false := by simpa using hpu
 obtain ⟨dst, op, type, pos, after, guard⟩ := o
 simp only at *
 have atTop : ∀ u, ∀ k ∈ topV u, (∃ r, u = .map r) ∨ k ∈ atV u := by
  intro u k hk
  cases u with
  | pointer a => cases a <;> first | exact .inr hk | (simp [topV] at hk)
  | slice a n c => cases a <;> first | exact .inr hk | (simp [topV] at hk)
  | map r => exact .inl ⟨r, rfl⟩
  | _ => simp [topV] at hk
 cases op
 case load t x =>
  cases hx : opv A x with
  | none => simp only [aop, hx] at hpp; cases hpp
  | some u =>
   refine (load_at hx (fun k hk => ?_) hpp).2
   rcases atTop u k hk with ⟨r, rfl⟩ | hat
   ·simp only [aop, hx] at hpp; cases hpp
   ·exact h1 (atV u) (by simp only [reads, hpu', hx]) k hat x (by simp [Op.operands]) u hx hk
 case slice t x lo hi mx =>
  cases hx : opv A x with
  | none => simp only [aop, hx] at hpp; cases hpp
  | some u =>
   refine slice_at hx (fun k hk => ?_) rfl hpp
   rcases atTop u k hk with ⟨r, rfl⟩ | hat
   ·simp only [aop, hx] at hpp
    split at hpp
    ·next e1 _ _ _ => cases e1; exact (slice_map hpp).elim
    ·cases hpp
   ·exact h1 (atV u) (by simp only [reads, hpu', hx]) k hat x (by simp [Op.operands]) u hx hk
 case alloc => exact absurd rfl (new5_next trivial hpp)
 case box => exact absurd rfl (new5_next trivial hpp)
 case buildSlice => exact absurd rfl (new5_next trivial hpp)
 case makeSlice => exact absurd rfl (new5_next trivial hpp)
 case makeMap => exact absurd rfl (new5_next trivial hpp)
 case store => simp [eff] at hq
 all_goals exact (read_at hq (fun t x l hh m e => by cases e) rfl (h2 (by simp only [reads, hpu'])) hpp).2
end
end Go.Hs
