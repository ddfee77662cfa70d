/- The evaluator: a deterministic evaluator of the loaded code over a heap of its own. No theorem on the machine here: definitions, and the heap's plain laws. -/
import Derived.Calls
import Derived.Laws.Sem
import Derived.Laws.Cells
import Derived.Laws.Append
set_option linter.unusedSimpArgs false
set_option linter.unusedVariables false
namespace Go.Hs
theorem C0:type_of% (@Nat.le_refl):=@Nat.le_refl
theorem D0.{u}:type_of% (@List.length_append.{u}):=@List.length_append.{u}
theorem K0:type_of% (@Bool.and_eq_true):=@Bool.and_eq_true
theorem M0:type_of% (@Int.toNat_natCast):=@Int.toNat_natCast
theorem O0.{u}:type_of% (@List.getElem?_eq_some_iff.{u}):=@List.getElem?_eq_some_iff.{u}
theorem P0:type_of% (@Nat.blt_eq):=@Nat.blt_eq
theorem Q0.{u}:type_of% (@List.getElem?_eq_getElem.{u}):=@List.getElem?_eq_getElem.{u}
theorem U0:type_of% (@Nat.eq_of_beq_eq_true):=@Nat.eq_of_beq_eq_true
theorem V0.{u}:type_of% (@List.nil_append.{u}):=@List.nil_append.{u}
theorem W0.{u}:type_of% (@List.cons_append.{u}):=@List.cons_append.{u}
theorem X0.{u}:type_of% (@List.append_nil.{u}):=@List.append_nil.{u}
theorem Y0:type_of% (@Nat.le_trans):=@Nat.le_trans
theorem Z0:type_of% (@Nat.ble_eq):=@Nat.ble_eq
theorem C1.{u}:type_of% (@List.not_mem_nil.{u}):=@List.not_mem_nil.{u}
theorem E1.{u}:type_of% (@List.append_assoc.{u}):=@List.append_assoc.{u}
theorem H1.{u}:type_of% (@List.mem_singleton.{u}):=@List.mem_singleton.{u}
theorem I1.{u}:type_of% (@List.length_cons.{u}):=@List.length_cons.{u}
theorem J1.{u}:type_of% (@Option.isSome_iff_exists.{u}):=@Option.isSome_iff_exists.{u}
theorem O1.{u}:type_of% (@List.mem_cons.{u}):=@List.mem_cons.{u}
theorem P1:type_of% (@Nat.lt_or_ge):=@Nat.lt_or_ge
theorem Q1:type_of% (@Nat.lt_of_lt_of_le):=@Nat.lt_of_lt_of_le
theorem U1:type_of% (@Nat.le_succ):=@Nat.le_succ
theorem V1:type_of% (@Nat.beq_refl):=@Nat.beq_refl
theorem W1.{u}:type_of% (@List.length_singleton.{u}):=@List.length_singleton.{u}
theorem Y1:type_of% (@Nat.le_of_lt):=@Nat.le_of_lt
theorem Z1:type_of% (@Nat.zero_add):=@Nat.zero_add
theorem C2:type_of% (@Nat.zero_le):=@Nat.zero_le
theorem D2.{u}:type_of% (@Array.getD_eq_getD_getElem?.{u}):=@Array.getD_eq_getD_getElem?.{u}
theorem E2.{u}:type_of% (@List.getElem?_cons_succ.{u}):=@List.getElem?_cons_succ.{u}
theorem F2.{u}:type_of% (@List.drop_zero.{u}):=@List.drop_zero.{u}
theorem H2.{u}:type_of% (@List.drop_eq_getElem_cons.{u}):=@List.drop_eq_getElem_cons.{u}
theorem I2.{u,v}:type_of% (@Option.map_eq_some_iff.{u,v}):=@Option.map_eq_some_iff.{u,v}
theorem N2.{u}:type_of% (@List.getElem?_cons_zero.{u}):=@List.getElem?_cons_zero.{u}
theorem O2.{u}:type_of% (@List.all_eq_true.{u}):=@List.all_eq_true.{u}
theorem Q2.{u}:type_of% (@List.getD_cons_zero.{u}):=@List.getD_cons_zero.{u}
theorem U2.{u}:type_of% (@List.getD_cons_succ.{u}):=@List.getD_cons_succ.{u}
theorem V2:type_of% (@Nat.mul_one):=@Nat.mul_one
theorem Y2:type_of% (@Bool.or_eq_false_iff):=@Bool.or_eq_false_iff
theorem C3:type_of% (@Bool.not_eq_true'):=@Bool.not_eq_true'
theorem E3:type_of% (@Nat.add_zero):=@Nat.add_zero
theorem F3.{u}:type_of% (@List.toList_toArray.{u}):=@List.toList_toArray.{u}
theorem H3.{u}:type_of% (@List.mem_of_getElem?.{u}):=@List.mem_of_getElem?.{u}
theorem I3.{u,v}:type_of% (@List.map_cons.{u,v}):=@List.map_cons.{u,v}
theorem J3.{u,v}:type_of% (@List.getElem?_map.{u,v}):=@List.getElem?_map.{u,v}
theorem N3:type_of% (@Nat.succ_ne_self):=@Nat.succ_ne_self
theorem O3.{u}:type_of% (@List.length_eq_zero_iff.{u}):=@List.length_eq_zero_iff.{u}
theorem Q3.{u}:type_of% (@Array.getElem?_setIfInBounds.{u}):=@Array.getElem?_setIfInBounds.{u}
theorem U3:type_of% (@Nat.add_mul):=@Nat.add_mul
theorem V3.{u}:type_of% (@List.all_cons.{u}):=@List.all_cons.{u}
theorem Y3.{u}:type_of% (@List.length_drop.{u}):=@List.length_drop.{u}
theorem C4:type_of% (@Nat.le_max_right):=@Nat.le_max_right
theorem D4:type_of% (@Int.fdiv_eq_ediv_of_nonneg):=@Int.fdiv_eq_ediv_of_nonneg
theorem E4:type_of% (@Nat.le_max_left):=@Nat.le_max_left
theorem F4.{u}:type_of% (@List.mem_zipIdx_iff_getElem?.{u}):=@List.mem_zipIdx_iff_getElem?.{u}
theorem H4.{u}:type_of% (@List.length_nil.{u}):=@List.length_nil.{u}
theorem I4.{u}:type_of% (@List.length_replicate.{u}):=@List.length_replicate.{u}
theorem J4.{u}:type_of% (@List.all_append.{u}):=@List.all_append.{u}
theorem L4:type_of% (@Nat.mod_eq_of_lt):=@Nat.mod_eq_of_lt
theorem N4:type_of% (@Nat.le_of_eq):=@Nat.le_of_eq
theorem O4.{u}:type_of% (@List.getElem?_append_left.{u}):=@List.getElem?_append_left.{u}
theorem Q4.{u}:type_of% (@Array.length_toList.{u}):=@Array.length_toList.{u}
theorem U4:type_of% (@BitVec.eq_of_toNat_eq):=@BitVec.eq_of_toNat_eq
theorem V4.{u}:type_of% (@Array.size_setIfInBounds.{u}):=@Array.size_setIfInBounds.{u}
theorem Y4.{u}:type_of% (@List.mem_append.{u}):=@List.mem_append.{u}
theorem C5.{u}:type_of% (@List.length_take.{u}):=@List.length_take.{u}
theorem D5:type_of% (@Classical.not_not):=@Classical.not_not
theorem E5.{u}:type_of% (@List.any_append.{u}):=@List.any_append.{u}
theorem F5:type_of% (@Bool.or_eq_true):=@Bool.or_eq_true
theorem H5.{u}:type_of% (@Option.getD_some.{u}):=@Option.getD_some.{u}
theorem I5:type_of% (@Nat.lt_succ_self):=@Nat.lt_succ_self
theorem J5.{u}:type_of% (@List.eq_nil_iff_forall_not_mem.{u}):=@List.eq_nil_iff_forall_not_mem.{u}
theorem L5.{u}:type_of% (@Array.ext'.{u}):=@Array.ext'.{u}
theorem N5.{u,v}:type_of% (@Option.bind_eq_some_iff.{u,v}):=@Option.bind_eq_some_iff.{u,v}
theorem O5.{u}:type_of% (@List.mem_filter.{u}):=@List.mem_filter.{u}
theorem P5.{u}:type_of% (@List.drop_of_length_le.{u}):=@List.drop_of_length_le.{u}
theorem Q5.{u}:type_of% (@List.getElem_mem.{u}):=@List.getElem_mem.{u}
theorem S5.{u}:type_of% (@List.getElem?_eq_none_iff.{u}):=@List.getElem?_eq_none_iff.{u}
theorem T5.{u,v}:type_of% (@List.length_map.{u,v}):=@List.length_map.{u,v}
theorem U5:type_of% (@Nat.zero_mul):=@Nat.zero_mul
theorem V5.{u}:type_of% (@List.mem_append_left.{u}):=@List.mem_append_left.{u}
theorem Y5:type_of% (@BitVec.ofInt_natCast):=@BitVec.ofInt_natCast
theorem C6:type_of% (@Nat.one_mul):=@Nat.one_mul
theorem D6.{u}:type_of% (@List.getElem?_drop.{u}):=@List.getElem?_drop.{u}
theorem E6.{u}:type_of% (@List.contains_cons.{u}):=@List.contains_cons.{u}
theorem F6:type_of% (@BitVec.toNat_ofNat):=@BitVec.toNat_ofNat
theorem H6.{u,v}:type_of% (@Option.map_some.{u,v}):=@Option.map_some.{u,v}
theorem I6:type_of% (@Nat.not_lt_zero):=@Nat.not_lt_zero
theorem J6.{u}:type_of% (@List.length_set.{u}):=@List.length_set.{u}
theorem L6.{u,v}:type_of% (@List.foldl_cons.{u,v}):=@List.foldl_cons.{u,v}
theorem N6.{u}:type_of% (@List.mem_append_right.{u}):=@List.mem_append_right.{u}
theorem O6:type_of% (@Nat.le_succ_of_le):=@Nat.le_succ_of_le
theorem P6.{u}:type_of% (@List.getElem?_append_right.{u}):=@List.getElem?_append_right.{u}
theorem Q6.{u}:type_of% (@Array.getElem?_eq_some_iff.{u}):=@Array.getElem?_eq_some_iff.{u}
theorem T6.{u}:type_of% (@List.drop_length.{u}):=@List.drop_length.{u}
theorem U6.{u}:type_of% (@List.take_succ_cons.{u}):=@List.take_succ_cons.{u}
theorem V6.{u}:type_of% (@List.length_pos_iff.{u}):=@List.length_pos_iff.{u}
theorem Y6.{u}:type_of% (@Array.getElem?_push_size.{u}):=@Array.getElem?_push_size.{u}
theorem C7.{u}:type_of% (@List.getElem?_eq_none.{u}):=@List.getElem?_eq_none.{u}
theorem D7.{u}:type_of% (@Array.getElem?_toList.{u}):=@Array.getElem?_toList.{u}
theorem E7.{u}:type_of% (@Array.getElem?_modify.{u}):=@Array.getElem?_modify.{u}
theorem F7:type_of% (@Nat.and_two_pow_sub_one_eq_mod):=@Nat.and_two_pow_sub_one_eq_mod
/-! ## A map from numbers, as a binary tree -/
inductive T (α:Type) where
 | nil
 | node (l:T α) (v:Option α) (r:T α)
instance {α:Type}:Inhabited (T α):=⟨.nil⟩
namespace T
variable {α:Type}
def get:T α->Nat->Option α
 | .nil,_=>none
 | .node l v r,k=>
  match k with
  | 0=>v
  | k+1=>match Nat.beq (k % 2) 0 with
   | true=>l.get (k / 2)
   | false=>r.get (k / 2)
def lft:T α->T α
 | .nil=>.nil
 | .node l _ _=>l
def rgt:T α->T α
 | .nil=>.nil
 | .node _ _ r=>r
def val:T α->Option α
 | .nil=>none
 | .node _ v _=>v
def VG:Nat->T α->Nat->Option α->T α
 | 0,t,_,_=>t
 | f+1,t,k,v=>
  match k with
  | 0=>.node t.lft v t.rgt
  | k+1=>match Nat.beq (k % 2) 0 with
   | true=>.node (VG f t.lft (k / 2) v) t.val t.rgt
   | false=>.node t.lft t.val (VG f t.rgt (k / 2) v)
def set (t:T α) (k:Nat) (v:α):T α:=VG (k+1) t k (some v)
theorem get_nil (k:Nat):(T.nil:T α).get k=none:=by cases k<;>rfl
theorem Ps (t:T α):t.get 0=t.val:=by cases t<;>rfl
theorem GY (l:T α) (v:Option α) (r:T α):(T.node l v r).get 0=v:=rfl
theorem get_node_succ (l:T α) (v:Option α) (r:T α) (k:Nat):(T.node l v r).get (k+1)=match Nat.beq (k % 2) 0 with|true=>l.get (k / 2)|false=>r.get (k / 2):=rfl
theorem LF (t:T α) (k:Nat):t.get (k+1)=match Nat.beq (k % 2) 0 with|true=>t.lft.get (k / 2)|false=>t.rgt.get (k / 2):=by
 cases t with
 | nil=>
  show none=_;split
  ·exact (get_nil _).symm
  ·exact (get_nil _).symm
 | node l v r=>rfl
theorem Wb (f:Nat):∀ (t:T α) (k j:Nat) (v:Option α),k<f->(VG f t k v).get j=if j=k then v else t.get j:=by
 induction f with
 | zero=>intro t k j v h;omega
 | succ f ih=>
  intro t k j v h;cases k with
  | zero=>
   cases j with
   | zero=>rfl
   | succ j=>rw[if_neg (by omega),LF t];rfl
  | succ k=>
   have hk:k / 2<f:=by omega
   cases hb:Nat.beq (k % 2) 0 with
   | true=>
    have hk2:k % 2=0:=U0 hb;have hp:VG (f+1) t (k+1) v=.node (VG f t.lft (k / 2) v) t.val t.rgt:=by simp only[VG,hb]
    rw[hp];cases j with
    | zero=>rw[if_neg (by omega),GY,Ps]
    | succ j=>
     rw[LF t,get_node_succ];cases hc:Nat.beq (j % 2) 0 with
     | true=>
      have hj2:j % 2=0:=U0 hc;simp only[ih _ _ _ _ hk];by_cases h:j / 2=k / 2
      ·rw[if_pos h,if_pos (by omega)]
      ·rw[if_neg h,if_neg (by omega)]
     | false=>
      have hj2:¬ j % 2=0:=fun h=>by rw[h] at hc;exact absurd hc (by decide)
      rw[if_neg (by omega)]
   | false=>
    have hk2:¬ k % 2=0:=fun h=>by rw[h] at hb;exact absurd hb (by decide)
    have hp:VG (f+1) t (k+1) v=.node t.lft t.val (VG f t.rgt (k / 2) v):=by simp only[VG,hb]
    rw[hp];cases j with
    | zero=>rw[if_neg (by omega),GY,Ps]
    | succ j=>
     rw[LF t,get_node_succ];cases hc:Nat.beq (j % 2) 0 with
     | false=>
      have hj2:¬ j % 2=0:=fun h=>by rw[h] at hc;exact absurd hc (by decide)
      simp only[ih _ _ _ _ hk];by_cases h:j / 2=k / 2
      ·rw[if_pos h,if_pos (by omega)]
      ·rw[if_neg h,if_neg (by omega)]
     | true=>
      have hj2:j % 2=0:=U0 hc;rw[if_neg (by omega)]
theorem get_set (t:T α) (k j:Nat) (v:α):(t.set k v).get j=if j=k then some v else t.get j:=Wb _ _ _ _ _ (by omega)
theorem get_set_same (t:T α) (k:Nat) (v:α):(t.set k v).get k=some v:=by rw[get_set,if_pos rfl]
theorem get_set_ne (t:T α) (k j:Nat) (v:α) (h:j≠k):(t.set k v).get j=t.get j:=by rw[get_set,if_neg h]
def ofList (l:List α):Nat->T α->T α
 | i,t=>match l with
  | []=>t
  | x::l=>ofList l (i+1) (t.set i x)
theorem get_ofList (l:List α):∀ (i:Nat) (t:T α) (j:Nat),(ofList l i t).get j=if i<=j/\j<i+l.length then l[j-i]? else t.get j:=by
 induction l with
 | nil=>intro i t j;simp only[ofList,H4];rw[if_neg (by omega)]
 | cons x l ih=>
  intro i t j;simp only[ofList,I1,ih,get_set];by_cases h:i+1<=j/\j<i+1+l.length
  ·rw[if_pos h,if_pos (by omega)];have:j-i=(j-(i+1))+1:=by omega
   rw[this,E2]
  ·rw[if_neg h];by_cases h2:j=i
   ·subst h2;rw[if_pos rfl,if_pos (by omega)];simp
   ·rw[if_neg h2,if_neg (by omega)]
def ofOpts (l:List (Option α)):Nat->T α->T α
 | i,t=>match l with
  | []=>t
  | some x::l=>ofOpts l (i+1) (t.set i x)
  | none::l=>ofOpts l (i+1) t
theorem get_ofOpts (l:List (Option α)):∀ (i:Nat) (t:T α) (j:Nat),(∀ k,i<=k->t.get k=none)->(ofOpts l i t).get j=if i<=j then (l[j-i]?).join else t.get j:=by
 induction l with
 | nil=>
  intro i t j h;simp only[ofOpts];by_cases hj:i<=j
  ·rw[if_pos hj,h j hj];rfl
  ·rw[if_neg hj]
 | cons x l ih=>
  intro i t j h;have key:∀ t':T α,(∀ k,i+1<=k->t'.get k=none)->(∀ k,k<i->t'.get k=t.get k)->t'.get i=x->(ofOpts l (i+1) t').get j=if i<=j then ((x::l)[j-i]?).join else t.get j:=by
   intro t' h1 h2 h3;rw[ih (i+1) t' j h1];by_cases hj:i+1<=j
   ·rw[if_pos hj,if_pos (by omega)];have:j-i=(j-(i+1))+1:=by omega
    rw[this,E2]
   ·rw[if_neg hj];by_cases hi:j=i
    ·subst hi;rw[if_pos (C0 _),h3];simp
    ·rw[if_neg (by omega),h2 j (by omega)]
  cases x with
  | none=>exact key t (fun k hk=>h k (by omega)) (fun k _=>rfl) (h i (C0 _))
  | some x=>exact key (t.set i x) (fun k hk=>by rw[get_set_ne _ _ _ _ (by omega)];exact h k (by omega)) (fun k hk=>get_set_ne _ _ _ _ (by omega)) (get_set_same _ _ _)
end T
/-! ## Values and their renaming -/
abbrev Ph:=Nat->Option (Nat×Nat×Nat)
def renA (φ:Ph) (a:Addr):Addr:=
 match a.spot with
 | none=>a
 | some 0=>match φ a.block with
  | some (c,b,_)=>⟨c,b+a.off,none⟩
  | none=>a
 | some (s+1)=>⟨a.block,a.off,some s⟩
def extA (φ:Ph) (a:Addr):Nat:=
 match a.spot with
 | none=>0
 | some 0=>match φ a.block with
  | some (_,_,e)=>e
  | none=>0
 | some (_+1)=>0
def renN (φ:Ph) (k:Nat):Nat:=
 match φ k with
 | some (c,_,_)=>c
 | none=>k
def renF (φ:Ph):Fn->Fn
 | .yield l=>.yield (renN φ l)
 | f=>f
mutual
def ren (φ:Ph):Value->Value
 | .pointer (some a)=>.pointer (some (renA φ a))
 | .slice (some a) n c=>.slice (some (renA φ a)) n (c+extA φ a)
 | .map (some r)=>.map (some (renN φ r))
 | .func f ⟨xs⟩ ⟨ys⟩=>.func (renF φ f) ⟨renL φ xs⟩ ⟨renL φ ys⟩
 | .agg ⟨xs⟩=>.agg ⟨renL φ xs⟩
 | .tuple ⟨xs⟩=>.tuple ⟨renL φ xs⟩
 | .iface t v=>.iface t (ren φ v)
 | .pointer none=>.pointer none
 | .slice none n c=>.slice none n c
 | .map none=>.map none
 | .bool b=>.bool b
 | .int k n=>.int k n
 | .float k n=>.float k n
 | .complex k a b=>.complex k a b
 | .string s=>.string s
 | .chan r=>.chan r
 | .nilFunc=>.nilFunc
 | .nilIface=>.nilIface
def renL (φ:Ph):List Value->List Value
 | []=>[]
 | v::vs=>ren φ v::renL φ vs
end
def okA (φ:Ph) (a:Addr):Prop:=a.spot=none\/(a.spot=some 0/\(φ a.block).isSome=true)\/∃ s,a.spot=some (s+1)
def okF (φ:Ph):Fn->Prop
 | .yield l=>(φ l).isSome=true
 | _=>True
mutual
def okV (φ:Ph):Value->Prop
 | .pointer (some a)=>okA φ a
 | .slice (some a) _ _=>okA φ a
 | .map (some r)=>(φ r).isSome=true
 | .func f ⟨xs⟩ ⟨ys⟩=>okF φ f/\okL φ xs/\okL φ ys
 | .agg ⟨xs⟩=>okL φ xs
 | .tuple ⟨xs⟩=>okL φ xs
 | .iface _ v=>okV φ v
 | .pointer none|.slice none _ _|.map none|.bool _|.int _ _|.float _ _|.complex _ _ _|.string _|.chan _|.nilFunc|.nilIface=>True
def okL (φ:Ph):List Value->Prop
 | []=>True
 | v::vs=>okV φ v/\okL φ vs
end
def roF:Fn->Bool
 | .yield _=>false
 | _=>true
mutual
def roV:Value->Bool
 | .pointer (some a)=>a.spot.isNone
 | .slice (some a) _ _=>a.spot.isNone
 | .map (some _)=>false
 | .func f ⟨xs⟩ ⟨ys⟩=>roF f&&roL xs&&roL ys
 | .agg ⟨xs⟩=>roL xs
 | .tuple ⟨xs⟩=>roL xs
 | .iface _ v=>roV v
 | .pointer none|.slice none _ _|.map none|.bool _|.int _ _|.float _ _|.complex _ _ _|.string _|.chan _|.nilFunc|.nilIface=>true
def roL:List Value->Bool
 | []=>true
 | v::vs=>roV v&&roL vs
end
def foV:Value->Bool
 | .slice (some a) n c=>match a.spot with
  | some 0=>false
  | _=>true
 | v=>roV v
theorem Gy (φ:Ph) (l:List Value):renL φ l=l.map (ren φ):=by
 induction l with
 | nil=>rfl
 | cons v l ih=>simp only[renL,I3,ih]
theorem HF (φ:Ph) (l:List Value):okL φ l↔∀ v∈l,okV φ v:=by
 induction l with
 | nil=>simp[okL]
 | cons v l ih=>simp[okL,ih]
theorem ZR (l:List Value):roL l=true↔∀ v∈l,roV v=true:=by
 induction l with
 | nil=>simp[roL]
 | cons v l ih=>simp[roL,ih]
/-! ## Pure computations -/
/-! ## The heap -/
structure EO where
 state:LoopState
 pending:Option Code
 fn:FuncId
 tmps:T Value
 n:Nat
 params:Array Tmp
 assign:Code
 body:Code
 defers:Nat
structure Ent where
 key:Value
 val:Value
 born:Nat
inductive Blk where
 | cells (xs:List Value) (ty:TypeId) (root:Option (Nat×Nat))
 | map (es:List Ent) (clock:Nat)
 | siter (s:ByteArray) (pos:Nat)
 | defd (taken:Bool)
 | loop (r:EO)
structure H where
 next:Nat
 dyn:T Blk
 chains:T (List Nat)
 mark:Nat
 log:List Nat
def H.empty:H:=⟨0,.nil,.nil,0,[]⟩
def H.note (h:H) (ks:List Nat):H:=
 match h.mark with
 | 0=>h
 | m+1=>{ h with log:=ks.filter (fun k=>Nat.ble k m)++h.log }
abbrev Env:=Nat->Nat->Option Value
def H.chain (h:H) (r:Nat):List Nat:=(h.chains.get r).getD []
def H.blk (h:H) (k:Nat):Option Blk:=
 match h.dyn.get k with
 | some (.cells xs ty (some (r,p)))=>match (h.chain r).contains k with
  | true=>some (.cells xs ty (some (r,p)))
  | false=>none
 | x=>x
def ACi:TypeId:=1000000000
def own (k:Nat):Addr:=⟨k,0,some 0⟩
def aadd (a:Addr) (n:Nat):Addr:=
 match a.spot,n with
 | some (_+1),0=>a
 | some (_+1),n+1=>⟨a.block,a.off+(n+1),none⟩
 | _,n=>{ a with off:=a.off+n }
def H.new (h:H) (b:Blk):H:={ h with next:=h.next+1,dyn:=h.dyn.set h.next b }
def H.af (h:H) (xs:List Value) (ty:TypeId):H:=
 { h with next:=h.next+1,dyn:=h.dyn.set h.next (.cells xs ty (some (h.next,0))),chains:=h.chains.set h.next [h.next] }
def isOne:Value->Bool
 | .agg _|.tuple _=>false
 | _=>true
def one? (v:Option Value):Option Value:=
 match v with
 | some v=>match isOne v with
  | true=>some v
  | false=>none
 | none=>none
def H.cell (E:Env) (h:H) (a:Addr):Option Value:=
 match a.spot with
 | none=>one? (E a.block a.off)
 | some 0=>match h.blk a.block with
  | some (.cells xs _ _)=>one? xs[a.off]?
  | _=>none
 | some _=>none
def Bm (E:Env) (b o:Nat):Nat->Option (List Value)
 | 0=>some []
 | n+1=>match one? (E b o) with
  | some v=>match Bm E b (o+1) n with
   | some vs=>some (v::vs)
   | none=>none
  | none=>none
def H.cells (E:Env) (h:H) (a:Addr) (n:Nat):Option (List Value):=
 match n with
 | 0=>some []
 | _=>match a.spot with
  | none=>Bm E a.block a.off n
  | some 0=>match h.blk a.block with
   | some (.cells xs _ _)=>match Nat.ble (a.off+n) xs.length&&((xs.drop a.off).take n).all isOne with
    | true=>some ((xs.drop a.off).take n)
    | false=>none
   | _=>none
  | some _=>none
def H.ay (h:H) (self lo hi j:Nat):Bool:=
 match Nat.beq j self with
 | true=>false
 | false=>match h.dyn.get j with
  | some (.cells ys _ (some (_,p)))=>Nat.blt lo (p+ys.length)&&Nat.blt p hi&&Nat.blt 0 ys.length
  | _=>true
def H.spare (h:H) (r self lo hi:Nat):List Nat:=(h.chain r).filter fun j => !(h.ay self lo hi j)
def H.gone (h:H) (r self lo hi:Nat):List Nat:=(h.chain r).filter (h.ay self lo hi)
def H.put (h:H) (a:Addr) (vs:List Value):Option H:=
 match vs with
 | []=>some h
 | _=>match a.spot with
  | some 0=>match h.blk a.block with
   | some (.cells xs ty root)=>
    match Nat.ble (a.off+vs.length) xs.length&&vs.all isOne with
    | true=>
     let d:=h.dyn.set a.block (.cells (xs.take a.off++vs++xs.drop (a.off+vs.length)) ty root)
     match root with
     | none=>some ({ h with dyn:=d }.note [a.block])
     | some (r,p)=>some ({ h with dyn:=d,chains:=h.chains.set r (h.spare r a.block (p+a.off) (p+a.off+vs.length)) }.note (a.block::h.gone r a.block (p+a.off) (p+a.off+vs.length)))
    | false=>none
   | _=>none
  | _=>none
def H.aq (h:H) (k:Nat) (b:Blk):H:={ h with dyn:=h.dyn.set k b }.note [k]
/-! ## Frames -/
structure Ac where
 tmps:T Value
 n:Nat
 defers:List Nat
def Ac.get (A:Ac) (t:Nat):Value:=(A.tmps.get t).getD undef
def Ac.put (A:Ac) (d:Option Tmp) (v:Value):Ac:=
 match d with
 | none=>A
 | some d=>match Nat.blt d A.n with
  | true=>{ A with tmps:=A.tmps.set d v }
  | false=>A
def opv (A:Ac):Operand->Option Value
 | .tmp t=>some (A.get t)
 | .const v=>match roV v with
  | true=>some v
  | false=>none
 | .global g=>some (.pointer (some ⟨g,0,none⟩))
 | .func f=>some (.func (.func f) #[] #[])
def HZ (A:Ac):List Operand->Option (List Value)
 | []=>some []
 | x::xs=>match opv A x with
  | some v=>match HZ A xs with
   | some vs=>some (v::vs)
   | none=>none
  | none=>none
def JO (A:Ac):Option Operand->Option (Option Value)
 | none=>some none
 | some x=>match opv A x with
  | some v=>some (some v)
  | none=>none
def MQ (A:Ac):List (Nat×Operand)->Option (List (Nat×Value))
 | []=>some []
 | (i,x)::xs=>match opv A x with
  | some v=>match MQ A xs with
   | some vs=>some ((i,v)::vs)
   | none=>none
  | none=>none
/-! ## Types -/
inductive TD where
 | int (k:IntKind)
 | bool
 | string
 | slice (e:TypeId) (sz bytes:Nat)
 | array (n:Nat) (e:TypeId) (sz:Nat)
 | struct (fs:List (Nat×TypeId×Nat))
 | pointer (e:TypeId)
 | map (k e:TypeId)
 | func
 | other
structure TI where
 td:TD
 size:Nat
 bytes:Nat
 zero:Option Value
 eqok:Bool
structure Tab where
 ty:T TI
 fn:T Func
def isZ:Option Value->Option Value
 | some v=>match roV v with
  | true=>some v
  | false=>none
 | none=>none
def fieldsOf (P:Program):List Field->Option (List (Nat×TypeId×Nat))
 | []=>some []
 | f::fs=>match P.info? f.type,fieldsOf P fs with
  | some i,some l=>match f.name == "_" with
   | true=>none
   | false=>some ((f.offset,f.type,i.size)::l)
  | _,_=>none
def Hh (P:Program):TypeDesc->TD
 | .int k=>.int k
 | .bool=>.bool
 | .string=>.string
 | .slice e=>match P.info? e with
  | some i=>.slice e i.size i.bytes
  | none=>.other
 | .array n e=>match P.info? e with
  | some i=>.array n e i.size
  | none=>.other
 | .struct fs=>match fieldsOf P fs.toList with
  | some l=>.struct l
  | none=>.other
 | .pointer e=>.pointer e
 | .map k e=>.map k e
 | .func _ _ _=>.func
 | _=>.other
def AC1 (P:Program) (t:TypeId):Option TI:=
 match P.info? t,P.underlying t with
 | some i,some d=>some ⟨Hh P d,i.size,i.bytes,isZ i.zero,!(P.stoodInHeld t) && !(P.eqGuardType P.depth t)⟩
 | _,_=>none
structure Tab.Of (D:Tab) (P:Program):Prop where
 ty:∀ t i,D.ty.get t=some i->AC1 P t=some i
 fn:∀ f x,D.fn.get f=some x->P.funcs[f]? = some x
def TD.agg:TD->Bool
 | .struct _|.array _ _ _=>true
 | _=>false
def Ak (D:Tab) (t:TypeId):Option Value:=match D.ty.get t with
 | some i=>i.zero
 | none=>none
/-! ## The operations -/
def AI (D:Tab) (E:Env) (t:TypeId) (a:Addr) (h:H):Option Value:=
 match D.ty.get t with
 | some i=>match i.td.agg with
  | true=>match h.cells E a i.size with
   | some cs=>some (.agg ⟨cs⟩)
   | none=>none
  | false=>match i.td with
   | .other=>none
   | _=>h.cell E a
 | none=>none
def AO (D:Tab) (t:TypeId) (a:Addr) (v:Value) (h:H):Option H:=
 match D.ty.get t with
 | some i=>match Nat.beq v.cells.toList.length i.size with
  | true=>h.put a v.cells.toList
  | false=>none
 | none=>none
def AC (D:Tab) (s:TypeId) (x:Value) (f:Nat):Option Value:=
 match D.ty.get s with
 | some ⟨.struct fs,_,_,_,_⟩=>match fs[f]?,x with
  | some (o,_,_+1),.pointer (some a)=>some (.pointer (some (aadd a o)))
  | _,_=>none
 | _=>none
def apart (D:Tab) (t:TypeId) (cs:List Value) (off:Nat):Option Value:=
 match D.ty.get t with
 | some i=>match i.td.agg with
  | true=>some (.agg ⟨(cs.drop off).take i.size⟩)
  | false=>match i.td with
   | .other=>none
   | _=>cs[off]?
 | none=>none
def Ut (D:Tab) (t:TypeId) (x:Value) (f:Nat):Option Value:=
 match D.ty.get t with
 | some ⟨.struct fs,_,_,_,_⟩=>match fs[f]?,x with
  | some (o,u,_),.agg cs=>apart D u cs.toList o
  | _,_=>none
 | _=>none
def AN (i:Int) (n:Nat):Bool:=
 match i with
 | .ofNat i=>Nat.blt i n
 | .negSucc _=>false
def AL (D:Tab) (t:TypeId) (x i:Value):Option Value:=
 match i with
 | .int _ i=>match D.ty.get t with
  | some ⟨.array len _ n,_,_,_,_⟩=>match x,AN i len with
   | .pointer (some a),true=>some (.pointer (some (aadd a (i.toNat*n))))
   | _,_=>none
  | some ⟨.slice _ n _,_,_,_,_⟩=>match x with
   | .slice (some a) len _=>match AN i len with
    | true=>some (.pointer (some (aadd a (i.toNat*n))))
    | false=>none
   | _=>none
  | _=>none
 | _=>none
def CP (D:Tab) (t:TypeId) (x i:Value):Option Value:=
 match i with
 | .int _ i=>match D.ty.get t with
  | some ⟨.array len e n,_,_,_,_⟩=>match x,AN i len with
   | .agg cs,true=>apart D e cs.toList (i.toNat*n)
   | _,_=>none
  | some ⟨.string,_,_,_,_⟩=>match x with
   | .string s=>match AN i s.data.toList.length with
    | true=>match s.data.toList[i.toNat]? with
     | some b=>some (.int .u8 b.toNat)
     | none=>none
    | false=>none
   | _=>none
  | _=>none
 | _=>none
def D8 (D:Tab) (f:Value->Value->Option Bool) (e:TypeId) (sz:Nat):(n k:Nat)->List Value->List Value->Option Bool
 | 0,_,_,_=>some true
 | n+1,k,xs,ys=>match apart D e xs (k*sz),apart D e ys (k*sz) with
  | some a,some b=>match f a b with
   | some true=>D8 D f e sz n (k+1) xs ys
   | r=>r
  | _,_=>none
def eqFields (D:Tab) (f:TypeId->Value->Value->Option Bool):List (Nat×TypeId×Nat)->List Value->List Value->Option Bool
 | [],_,_=>some true
 | (o,u,_)::fs,xs,ys=>match apart D u xs o,apart D u ys o with
  | some a,some b=>match f u a b with
   | some true=>eqFields D f fs xs ys
   | r=>r
  | _,_=>none
def aeq (D:Tab):(depth:Nat)->TypeId->Value->Value->Option Bool
 | 0,_,_,_=>none
 | d+1,t,x,y=>
  match D.ty.get t with
  | none=>none
  | some i=>match i.td,x,y with
   | .bool,.bool a,.bool b=>some (a == b)
   | .int _,.int k a,.int k' b=>match decide (k=k') with
    | true=>some (a == b)
    | false=>none
   | .string,.string a,.string b=>some (a == b)
   | .array n e sz,.agg xs,.agg ys=>match i.eqok with
    | true=>D8 D (aeq D d e) e sz n 0 xs.toList ys.toList
    | false=>none
   | .struct fs,.agg xs,.agg ys=>match i.eqok with
    | true=>eqFields D (aeq D d) fs xs.toList ys.toList
    | false=>none
   | _,_,_=>none
def abound (x:Option Value) (y d:Nat):Option Nat:=
 match x with
 | none=>some d
 | some (.int _ i)=>match AN i (y+1) with
  | true=>some i.toNat
  | false=>none
 | some _=>none
def asliceS (e:Nat) (a:Addr) (len cap:Nat) (lo hi mx:Option Value) (h:H):Option (Value×H):=
 match mx with
 | none=>match abound hi cap len with
  | none=>none
  | some hh=>match abound lo hh 0 with
   | none=>none
   | some l=>match Nat.beq cap l with
    | false=>some (.slice (some (aadd a (l*e))) (hh-l) (cap-l),h)
    | true=>match a.spot with
     | none=>some (.slice (some a) 0 0,h)
     | some (_+1)=>some (.slice (some a) 0 0,h)
     | some 0=>match h.blk a.block with
      | some (.cells _ _ none)=>some (.slice (some a) 0 0,h)
      | some (.cells xs ty (some (r,p)))=>
       match Nat.beq (a.off+cap*e) xs.length with
       | true=>some (.slice (some (own h.next)) 0 0,{ h with next:=h.next+1,dyn:=h.dyn.set h.next (.cells [] ty (some (r,p+xs.length))),chains:=h.chains.set r (h.next::h.chain r) })
       | false=>none
      | _=>none
 | some _=>match abound mx cap cap with
  | none=>none
  | some m=>match abound hi m m with
   | none=>none
   | some hh=>match hi,abound lo hh 0 with
    | some _,some l=>match a.spot with
     | none=>some (.slice (some (match Nat.beq m l with|true=>a|false=>aadd a (l*e))) (hh-l) (m-l),h)
     | some (_+1)=>some (.slice (some (match Nat.beq m l with|true=>a|false=>aadd a (l*e))) (hh-l) (m-l),h)
     | some 0=>match Nat.beq m l with
      | true=>match h.blk a.block with
       | some (.cells _ ty _)=>some (.slice (some (own h.next)) 0 0,h.new (.cells [] ty none))
       | _=>none
      | false=>match h.blk a.block with
       | some (.cells _ _ none)=>some (.slice (some (aadd a (l*e))) (hh-l) (m-l),h)
       | some (.cells xs _ (some (r,_)))=>match Nat.ble (a.off+cap*e) xs.length with
        | true=>some (.slice (some (own h.next)) (hh-l) (m-l),
          { h with next:=h.next+1,dyn:=h.dyn.set h.next (.cells ((xs.drop (a.off+l*e)).take ((m-l)*e)) ACi none),chains:=h.chains.set r [] }.note (h.chain r))
        | false=>none
       | _=>none
    | _,_=>none
def isZero:Option Value->Bool
 | none=>true
 | some (.int _ (.ofNat 0))=>true
 | _=>false
def Av (D:Tab) (t:TypeId) (x:Value) (lo hi mx:Option Value) (h:H):Option (Value×H):=
 match D.ty.get t with
 | some ⟨.array n _ sz,_,_,_,_⟩=>match x,mx with
  | .pointer (some a),none=>match abound hi n n with
   | some hh=>match abound lo hh 0 with
    | some l=>match a.spot with
     | none=>some (.slice (some (match Nat.beq n l with|true=>a|false=>aadd a (l*sz))) (hh-l) (n-l),h)
     | some (_+1)=>none
     | some 0=>match h.blk a.block with
      | some (.cells _ _ none)=>some (.slice (some (match Nat.beq n l with|true=>a|false=>aadd a (l*sz))) (hh-l) (n-l),h)
      | _=>none
    | none=>none
   | none=>none
  | _,_=>none
 | some ⟨.string,_,_,_,_⟩=>match x,mx with
  | .string s,none=>match abound hi s.data.toList.length s.data.toList.length with
   | some hh=>match abound lo hh 0 with
    | some l=>some (.string ⟨⟨(s.data.toList.drop l).take (hh-l)⟩⟩,h)
    | none=>none
   | none=>none
  | _,_=>none
 | some ⟨.slice _ sz _,_,_,_,_⟩=>match x with
  | .slice none 0 0=>match isZero lo&&isZero hi&&mx.isNone with
   | true=>some (.slice none 0 0,h)
   | false=>none
  | .slice (some a) len cap=>match Nat.ble len cap with
   | true=>asliceS sz a len cap lo hi mx h
   | false=>none
  | _=>none
 | _=>none
def BB (z:List Value):Nat->List Value
 | 0=>[]
 | n+1=>z++BB z n
def bytesV (l:List UInt8):List Value:=l.map fun b=>.int .u8 b.toNat
def BO (E:Env) (sz:Nat) (z:List Value) (x:Value) (h:H):Option (Nat×List Value):=
 match x with
 | .slice none 0 _=>some (0,[])
 | .slice (some a) n _=>match h.cells E a (n*sz) with
  | some cs=>some (n,cs)
  | none=>none
 | .string s=>some (s.data.toList.length,bytesV s.data.toList)
 | .int .i64 (.ofNat n)=>some (n,BB z n)
 | _=>none
def roomy (n bytes:Nat):Bool:=Nat.ble (n*bytes) 70368744177664&&Nat.ble n 70368744177664
def Ax (D:Tab) (t:TypeId) (x:Value):Option Bool:=
 match D.ty.get t with
 | some i=>match i.td,x with
  | .int _,.int .i64 (.ofNat n)=>match Nat.ble n 70368744177664 with
   | true=>some true
   | false=>none
  | .slice _ _ _,.slice _ _ _=>some false
  | .string,.string _=>some false
  | _,_=>none
 | none=>none
def H.grow (h:H) (e:TypeId) (r p len:Nat) (self:Nat) (xs cs:List Value):H:=
 { h with next:=h.next+1,dyn:=h.dyn.set h.next (.cells (xs++cs) e (some (r,p))),chains:=h.chains.set r (h.next::h.spare r self (p+len) (p+len+cs.length)) }.note (h.gone r self (p+len) (p+len+cs.length))
def Ab (D:Tab) (E:Env) (t t2:TypeId) (s x:Value) (h:H):Option (Value×H):=
 match D.ty.get t with
 | some ⟨.slice e sz by_,_,_,_,_⟩=>
  match Ak D e,Ax D t2 x with
  | some ze,some _=>
   match Nat.beq ze.cells.toList.length sz&&Nat.blt 0 sz&&ze.cells.toList.all isOne,BO E sz ze.cells.toList x h with
   | true,some (n,cs)=>
    match Nat.beq cs.length (n*sz) with
    | false=>none
    | true=>
     match s with
     | .slice none 0 0=>
      match n with
      | 0=>some (.slice none 0 0,h)
      | _=>match roomy n by_ with
       | true=>some (.slice (some (own h.next)) n n,h.af cs e)
       | false=>none
     | .slice (some a) len cap=>
      match n with
      | 0=>match Nat.ble len cap with
       | true=>some (s,h)
       | false=>none
      | _=>match roomy (len+n) by_ with
       | false=>none
       | true=>
        match a.spot with
        | none=>match Nat.ble (len+n) cap,h.cells E a (len*sz) with
         | false,some old=>some (.slice (some (own h.next)) (len+n) (len+n),h.af (old++cs) e)
         | _,_=>none
        | some (_+1)=>none
        | some 0=>match h.blk a.block with
         | some (.cells xs ty root)=>match Nat.ble (len+n) cap with
          | true=>match h.put (aadd a (len*sz)) cs with
           | some h=>some (.slice (some a) (len+n) cap,h)
           | none=>none
          | false=>match root with
           | none=>match h.cells E a (len*sz) with
            | some old=>some (.slice (some (own h.next)) (len+n) (len+n),h.af (old++cs) e)
            | none=>none
           | some (r,p)=>
            match Nat.beq len cap&&Nat.beq (a.off+len*sz) xs.length&&Nat.beq ty e&&(xs.drop a.off).all isOne&&Nat.ble a.off xs.length with
            | true=>some (.slice (some (own h.next)) (len+n) (len+n),h.grow e r (p+a.off) (len*sz) a.block (xs.drop a.off) cs)
            | false=>none
         | _=>none
     | _=>none
   | _,_=>none
  | _,_=>none
 | _=>none
def LY (D:Tab) (E:Env) (t:TypeId) (d x:Value) (h:H):Option (Value×H):=
 match D.ty.get t with
 | some ⟨.slice _ sz _,_,_,_,_⟩=>match d with
  | .slice none 0 _=>match x with
   | .slice _ _ _|.string _=>some (.int .i64 0,h)
   | _=>none
  | .slice (some a) len _=>match x with
   | .slice (some b) m _=>match h.cells E b (Nat.min m len*sz) with
    | some cs=>match h.put a cs with
     | some h=>some (.int .i64 (Nat.min m len:Nat),h)
     | none=>none
    | none=>none
   | .slice none 0 _=>some (.int .i64 0,h)
   | .string s=>match h.put a ((bytesV s.data.toList).take (Nat.min s.data.toList.length len)) with
    | some h=>some (.int .i64 (Nat.min s.data.toList.length len:Nat),h)
    | none=>none
   | _=>none
  | _=>none
 | _=>none
def JK (D:Tab) (t:TypeId) (x:Value) (h:H):Option (Value×H):=
 match D.ty.get t with
 | some ⟨.slice e _ _,_,_,_,_⟩=>match x with
  | .slice none _ _=>some (.tuple #[],h)
  | .slice (some _) 0 _=>some (.tuple #[],h)
  | .slice (some a) (n+1) _=>match Ak D e with
   | some z=>match h.put a (BB z.cells.toList (n+1)) with
    | some h=>some (.tuple #[],h)
    | none=>none
   | none=>none
  | _=>none
 | some ⟨.map _ _,_,_,_,_⟩=>match x with
  | .map none=>some (.tuple #[],h)
  | .map (some r)=>match h.blk r with
   | some (.map _ c)=>some (.tuple #[],h.aq r (.map [] c))
   | _=>none
  | _=>none
 | _=>none
def Cp (D:Tab) (t:TypeId) (x:Value) (h:H):Option Value:=
 match D.ty.get t with
 | some ⟨.string,_,_,_,_⟩=>match x with
  | .string s=>some (.int .i64 (s.data.toList.length:Nat))
  | _=>none
 | some ⟨.array n _ _,_,_,_,_⟩=>some (.int .i64 n)
 | some ⟨.slice _ _ _,_,_,_,_⟩=>match x with
  | .slice _ n _=>some (.int .i64 n)
  | _=>none
 | some ⟨.map _ _,_,_,_,_⟩=>match x with
  | .map none=>some (.int .i64 0)
  | .map (some r)=>match h.blk r with
   | some (.map es _)=>some (.int .i64 es.length)
   | _=>none
  | _=>none
 | _=>none
def XR (D:Tab) (t:TypeId) (x:Value) (h:H):Option Value:=
 match D.ty.get t with
 | some ⟨.slice _ _ _,_,_,_,_⟩=>match x with
  | .slice none _ c=>some (.int .i64 c)
  | .slice (some a) _ c=>match a.spot with
   | none=>some (.int .i64 c)
   | some (_+1)=>some (.int .i64 c)
   | some 0=>match h.blk a.block with
    | some (.cells _ _ none)=>some (.int .i64 c)
    | _=>none
  | _=>none
 | _=>none
def NK (f:Int->Int->Int) (k:IntKind):Int->List Value->Option Value
 | x,[]=>some (.int k x)
 | x,v::rest=>match v with
  | .int k' y=>match decide (k=k') with
   | true=>NK f k (f x y) rest
   | false=>none
  | _=>none
def Uq (f:Int->Int->Int):List Value->Option Value
 | .int k x::rest=>NK f k x rest
 | _=>none
/-! ### Maps -/
def sameKey:Value->Value->Bool
 | .int j a,.int k b=>decide (j=k)&&a == b
 | .bool a,.bool b=>a == b
 | .string a,.string b=>a == b
 | _,_=>false
def FW:List Value->List Value->Bool
 | [],[]=>true
 | a::as,b::bs=>sameKey a b&&FW as bs
 | _,_=>false
def LD (D:Tab) (kt:TypeId) (k:Value):Bool:=
 match D.ty.get kt with
 | some i=>match i.td,k with
  | .int _,.int _ _=>true
  | .string,.string _=>true
  | .bool,.bool _=>true
  | .array n e sz,.agg cs=>match D.ty.get e with
   | some ⟨.int _,_,_,_,_⟩=>Nat.beq sz 1&&Nat.ble n cs.toList.length
   | _=>false
  | _,_=>false
 | none=>false
def Dk (D:Tab) (kt:TypeId) (k:Value):List Ent->Nat->Option (Option (Nat×Value))
 | [],_=>some none
 | e::es,i=>match aeq D 10000 kt k e.key with
  | some true=>some (some (i,e.val))
  | some false=>Dk D kt k es (i+1)
  | none=>none
def stays:Value->Value->Bool
 | .agg a,.agg b=>FW a.toList b.toList
 | a,b=>sameKey a b
def Fi (m:Value) (h:H):Option (List Ent):=
 match m with
 | .map none=>some []
 | .map (some r)=>match h.blk r with
  | some (.map es _)=>some es
  | _=>none
 | _=>none
def GG (ok:Bool) (v:Value) (b:Bool):Value:=match ok with
 | true=>.tuple #[v,.bool b]
 | false=>v
def FN (D:Tab) (t:TypeId) (m k:Value) (ok:Bool) (h:H):Option Value:=
 match D.ty.get t with
 | some ⟨.map kt el,_,_,_,_⟩=>match Fi m h,LD D kt k with
  | some es,true=>match Dk D kt k es 0 with
   | some (some (_,v))=>some (GG ok v true)
   | some none=>match Ak D el with
    | some z=>some (GG ok z false)
    | none=>none
   | none=>none
  | _,_=>none
 | _=>none
def SN (k v:Value):Nat->List Ent->List Ent
 | _,[]=>[]
 | 0,e::es=>{ e with key:=k,val:=v }::es
 | i+1,e::es=>e::SN k v i es
def BY (D:Tab) (t:TypeId) (m k v:Value) (h:H):Option (Value×H):=
 match D.ty.get t,m with
 | some ⟨.map kt _,_,_,_,_⟩,.map (some r)=>match h.blk r,LD D kt k with
  | some (.map es c),true=>match Dk D kt k es 0 with
   | some (some (i,_))=>match es[i]? with
    | some e=>match stays e.key k with
     | true=>some (undef,h.aq r (.map (SN k v i es) c))
     | false=>none
    | none=>none
   | some none=>some (undef,h.aq r (.map (es++[⟨k,v,c⟩]) (c+1)))
   | none=>none
  | _,_=>none
 | _,_=>none
def F9 (D:Tab) (t:TypeId) (m k:Value) (h:H):Option (Value×H):=
 match D.ty.get t with
 | some ⟨.map kt _,_,_,_,_⟩=>match m,LD D kt k with
  | .map none,true=>some (.tuple #[],h)
  | .map (some r),true=>match h.blk r with
   | some (.map es c)=>match Dk D kt k es 0 with
    | some (some (i,_))=>some (.tuple #[],h.aq r (.map (es.eraseIdx i) c))
    | some none=>some (.tuple #[],h.aq r (.map es c))
    | none=>none
   | _=>none
  | _,_=>none
 | _=>none
def FL (D:Tab) (t:TypeId) (x:Value) (h:H):Option (Value×H):=
 match D.ty.get t,x with
 | some ⟨.string,_,_,_,_⟩,.string s=>some (.pointer (some (own h.next)),h.new (.siter s 0))
 | _,_=>none
def LS (x:Value) (isS:Bool) (h:H):Option (Value×H):=
 match x,isS with
 | .pointer (some ⟨r,0,some 0⟩),true=>match h.blk r with
  | some (.siter s pos)=>match Nat.blt pos s.data.toList.length with
   | true=>some (.tuple #[.bool true,.int .i64 pos,.int .i32 (Utf8.decode s pos).1],h.aq r (.siter s (pos+(Utf8.decode s pos).2)))
   | false=>some (.tuple #[.bool false],h)
  | _=>none
 | _,_=>none
def RP (D:Tab) (t:TypeId) (x y:Value):Option Bool:=
 match D.ty.get t with
 | some i=>match i.td,x,y with
  | .slice _ _ _,.slice none _ _,.slice b _ _=>some b.isNone
  | .slice _ _ _,.slice (some _) _ _,.slice none _ _=>some false
  | .map _ _,.map none,.map b=>some b.isNone
  | .map _ _,.map (some _),.map none=>some false
  | .func,.nilFunc,.nilFunc=>some true
  | .func,.nilFunc,.func _ _ _=>some false
  | .func,.func _ _ _,.nilFunc=>some false
  | .pointer _,.pointer none,.pointer b=>some b.isNone
  | .pointer _,.pointer (some _),.pointer none=>some false
  | _,_,_=>none
 | none=>none
def Bk (op:BinOp) (k:IntKind) (a b:Int):Option Value:=
 match op with
 | .add=>some (.int k (k.wrap (a+b)))
 | .sub=>some (.int k (k.wrap (a-b)))
 | .mul=>some (.int k (k.wrap (a*b)))
 | .quo=>match b with
  | .ofNat 0=>none
  | b=>some (.int k (k.wrap (a.tdiv b)))
 | .rem=>match b with
  | .ofNat 0=>none
  | b=>some (.int k (a.tmod b))
 | .and=>some (.int k (k.wrap (BitVec.ofInt k.bits a &&& BitVec.ofInt k.bits b).toNat))
 | .or=>some (.int k (k.wrap (BitVec.ofInt k.bits a ||| BitVec.ofInt k.bits b).toNat))
 | .xor=>some (.int k (k.wrap (BitVec.ofInt k.bits a ^^^ BitVec.ofInt k.bits b).toNat))
 | .andNot=>some (.int k (k.wrap (BitVec.ofInt k.bits a &&& ~~~BitVec.ofInt k.bits b).toNat))
 | .eql=>some (.bool (decide (a=b)))
 | .neq=>some (.bool (!decide (a=b)))
 | .lss=>some (.bool (decide (a<b)))
 | .leq=>some (.bool (decide (a<=b)))
 | .gtr=>some (.bool (decide (a>b)))
 | .geq=>some (.bool (decide (a>=b)))
 | _=>none
def DF (op:BinOp) (k:IntKind) (a:Int) (b:Int):Option Value:=
 match b with
 | .ofNat n=>match op with
  | .shl=>some (.int k (k.wrap (a*2 ^ min n k.bits)))
  | .shr=>some (.int k (a.fdiv (2 ^ min n k.bits)))
  | _=>none
 | .negSucc _=>none
def EX:BinOp->Bool
 | .shl|.shr=>true
 | _=>false
def astr (op:BinOp) (a b:List UInt8):Option Value:=
 match op with
 | .add=>match Nat.ble (a.length+b.length) 70368744177664 with
  | true=>some (.string ⟨⟨a++b⟩⟩)
  | false=>none
 | .eql=>some (.bool (a == b))
 | .neq=>some (.bool !(a == b))
 | .lss=>some (.bool (Op.bytesLess a b))
 | .leq=>some (.bool (Op.bytesLess a b||a == b))
 | .gtr=>some (.bool !(Op.bytesLess a b||a == b))
 | .geq=>some (.bool !(Op.bytesLess a b))
 | _=>none
def Jd (D:Tab) (op:BinOp) (t:TypeId) (x y:Value):Option Value:=
 match x,y with
 | .int k a,.int k' b=>match EX op with
  | true=>DF op k a b
  | false=>match decide (k=k') with
   | true=>Bk op k a b
   | false=>none
 | .string a,.string b=>astr op a.data.toList b.data.toList
 | x,y=>match op with
  | .eql=>match (match x with|.agg _|.bool _=>aeq D 10000 t x y|_=>RP D t x y) with
   | some b=>some (.bool b)
   | none=>none
  | .neq=>match (match x with|.agg _|.bool _=>aeq D 10000 t x y|_=>RP D t x y) with
   | some b=>some (.bool !b)
   | none=>none
  | _=>none
def aun (op:UnOp) (x:Value):Option Value:=
 match op,x with
 | .neg,.int k n=>some (.int k (k.wrap (0-n)))
 | .xor,.int k n=>Bk .xor k (match k.signed with|true => -1|false=>k.max) n
 | .not,.bool b=>some (.bool !b)
 | _,_=>none
def allBytes:List Value->Option (List UInt8)
 | []=>some []
 | .int .u8 n::l=>match allBytes l with
  | some bs=>some (UInt8.ofNat n.toNat::bs)
  | none=>none
 | _=>none
def AQ (D:Tab) (E:Env) (s d:TypeId) (x:Value) (h:H):Option (Value×H):=
 match D.ty.get s,D.ty.get d with
 | some i,some j=>match i.td,j.td,x with
  | .int _,.int k,.int _ n=>some (.int k (k.wrap n),h)
  | .string,.string,.string s=>some (.string s,h)
  | .string,.slice e _ _,.string s=>match D.ty.get e with
   | some ⟨.int .u8,sz,_,_,_⟩=>match Nat.beq sz 1 with
    | true=>some (.slice (some (own h.next)) s.data.toList.length s.data.toList.length,h.af (bytesV s.data.toList) e)
    | false=>none
   | _=>none
  | .slice e _ _,.string,.slice b n _=>match D.ty.get e with
   | some ⟨.int .u8,_,_,_,_⟩=>match b with
    | none=>some (.string ⟨⟨[]⟩⟩,h)
    | some b=>match h.cells E b n with
     | some cs=>match allBytes cs with
      | some bs=>some (.string ⟨⟨bs⟩⟩,h)
      | none=>none
     | none=>none
   | _=>none
  | .slice e _ _,.slice _ _ _,.slice (some a) n c=>match Nat.beq s d,D.ty.get e,a.spot,h.blk a.block with
   | true,some ⟨.int .u8,_,_,_,_⟩,some 0,some (.cells (_::_) _ _)=>some (.slice (some a) n c,h)
   | _,_,_,_=>none
  | _,_,_=>none
 | _,_=>none
def afill (place:Nat->Option (Nat×Nat)) (cells:List Value):List (Nat×Value)->Option (List Value)
 | []=>some cells
 | (i,v)::rest=>match place i with
  | none=>none
  | some (off,size)=>match Nat.beq v.cells.toList.length size&&Nat.ble (off+size) cells.length with
   | true=>afill place (cells.take off++v.cells.toList++cells.drop (off+size)) rest
   | false=>none
def BX (D:Tab) (t:TypeId) (ps:List (Nat×Value)):Option Value:=
 match D.ty.get t with
 | some ⟨.struct fs,_,_,some z,_⟩=>match afill (fun i=>match fs[i]? with|some (o,_,n)=>some (o,n)|none=>none) z.cells.toList ps with
  | some cs=>some (.agg ⟨cs⟩)
  | none=>none
 | some ⟨.array _ _ sz,_,_,some z,_⟩=>match afill (fun i=>some (i*sz,sz)) z.cells.toList ps with
  | some cs=>some (.agg ⟨cs⟩)
  | none=>none
 | _=>none
def AH (D:Tab) (t:TypeId) (len:Nat) (ps:List (Nat×Value)) (h:H):Option (Value×H):=
 match D.ty.get t with
 | some ⟨.slice e sz _,_,_,_,_⟩=>match Ak D e,Nat.ble (len*sz) 16777216&&Nat.blt 0 sz with
  | some z,true=>match Nat.beq z.cells.toList.length sz,afill (fun i=>some (i*sz,sz)) (BB z.cells.toList len) ps with
   | true,some cs=>some (.slice (some (own h.next)) len len,h.new (.cells cs e none))
   | _,_=>none
  | _,_=>none
 | _=>none
def Bj (D:Tab) (t:TypeId) (l c:Value) (h:H):Option (Value×H):=
 match D.ty.get t,l,c with
 | some ⟨.slice e sz by_,_,_,_,_⟩,.int .i64 (.ofNat l),.int .i64 (.ofNat c)=>match Ak D e,Nat.ble l c&&roomy c by_&&Nat.blt 0 sz with
  | some z,true=>match Nat.beq z.cells.toList.length sz with
   | true=>some (.slice (some (own h.next)) l c,h.new (.cells (BB z.cells.toList c) e none))
   | false=>none
  | _,_=>none
 | _,_,_=>none
def Ct (D:Tab) (E:Env) (pt:TypeId) (p n:Value) (h:H):Option (Value×H):=
 match p,n with
 | .pointer _,.int .i64 (.ofNat 0)=>some (.string ⟨⟨[]⟩⟩,h)
 | .pointer (some a),.int .i64 (.ofNat (n+1))=>match D.ty.get pt,a.spot,h.blk a.block with
  | some ⟨.pointer e,_,_,_,_⟩,some 0,some (.cells _ ty (some (r,_)))=>match D.ty.get e,Nat.beq ty e,h.cells E a (n+1),Nat.ble n 70368744177664 with
   | some ⟨_,1,_,_,_⟩,true,some cs,true=>match allBytes cs with
    | some bs=>some (.string ⟨⟨bs⟩⟩,{ h with chains:=h.chains.set r [] }.note (h.chain r))
    | none=>none
   | _,_,_,_=>none
  | _,_,_=>none
 | _,_=>none
def Fg (x:Value):Option Value:=
 match x with
 | .slice none _ _=>some (.pointer none)
 | .slice (some a) _ (_+1)=>some (.pointer (some a))
 | _=>none
def Af (D:Tab) (E:Env) (b:Builtin) (ts:List TypeId) (args:List Value) (h:H):Option (Value×H):=
 match b,ts,args with
 | .len,[t],[x]=>match Cp D t x h with
  | some v=>some (v,h)
  | none=>none
 | .cap,[t],[x]=>match XR D t x h with
  | some v=>some (v,h)
  | none=>none
 | .append,[t,t2],[s,x]=>Ab D E t t2 s x h
 | .copy,t::_,[d,x]=>LY D E t d x h
 | .clear,[t],[x]=>JK D t x h
 | .delete,t::_,[m,k]=>F9 D t m k h
 | .min,_,l=>match Uq (fun x y=>if y<x then y else x) l with
  | some v=>some (v,h)
  | none=>none
 | .max,_,l=>match Uq (fun x y=>if y>x then y else x) l with
  | some v=>some (v,h)
  | none=>none
 | .unsafeSliceData,_,[x]=>match Fg x with
  | some v=>some (v,h)
  | none=>none
 | .unsafeString,[pt,_],[p,n]=>Ct D E pt p n h
 | _,_,_=>none
def pair (h:H):Option Value->Option (Value×H)
 | some v=>some (v,h)
 | none=>none
def aop (D:Tab) (E:Env) (A:Ac) (op:Op) (h:H):Option (Value×H):=
 match op with
 | .move x=>pair h (opv A x)
 | .assign x=>pair h (opv A x)
 | .pick c a b=>match opv A c with
  | some (.bool true)=>pair h (opv A a)
  | some (.bool false)=>pair h (opv A b)
  | _=>none
 | .alloc e=>match Ak D e with
  | some z=>some (.pointer (some (own h.next)),h.new (.cells z.cells.toList e none))
  | none=>none
 | .box e x=>match opv A x with
  | some v=>some (.pointer (some (own h.next)),h.new (.cells v.cells.toList e none))
  | none=>none
 | .build t ps=>match MQ A ps.toList with
  | some vs=>pair h (BX D t vs)
  | none=>none
 | .buildSlice t len ps=>match MQ A ps.toList with
  | some vs=>AH D t len vs h
  | none=>none
 | .load t x=>match opv A x with
  | some (.pointer (some a))=>pair h (AI D E t a h)
  | _=>none
 | .store t x y=>match opv A x,opv A y with
  | some (.pointer (some a)),some y=>match AO D t a y h with
   | some h=>some (undef,h)
   | none=>none
  | _,_=>none
 | .nilCheck x=>match opv A x with
  | some (.pointer (some a))=>some (.pointer (some a),h)
  | some (.func (.func f) xs ys)=>some (.func (.func f) xs ys,h)
  | some (.func (.yield l) xs ys)=>some (.func (.yield l) xs ys,h)
  | _=>none
 | .binOp op t x y _=>match opv A x,opv A y with
  | some a,some b=>pair h (Jd D op t a b)
  | _,_=>none
 | .unOp op _ x=>match opv A x with
  | some a=>pair h (aun op a)
  | none=>none
 | .convert s d x=>match opv A x with
  | some a=>AQ D E s d a h
  | none=>none
 | .sliceToArrayPointer t x=>match opv A x,D.ty.get t with
  | some (.slice (some a) len _),some ⟨.array n _ _,_,_,_,_⟩=>match Nat.ble n len with
   | true=>some (.pointer (some a),h)
   | false=>none
  | _,_=>none
 | .makeFunc fn xs ys=>match HZ A xs.toList,HZ A ys.toList,roF fn with
  | some xs,some ys,true=>some (.func fn ⟨xs⟩ ⟨ys⟩,h)
  | _,_,_=>none
 | .makeMap t r=>match JO A r,D.ty.get t with
  | some none,_=>some (.map (some h.next),h.new (.map [] 0))
  | some (some (.int _ _)),some ⟨.map _ _,_,_,_,_⟩=>some (.map (some h.next),h.new (.map [] 0))
  | _,_=>none
 | .makeSlice t l c=>match opv A l,opv A c with
  | some l,some c=>Bj D t l c h
  | _,_=>none
 | .slice t x lo hi mx=>match opv A x,JO A lo,JO A hi,JO A mx with
  | some v,some lo,some hi,some mx=>Av D t v lo hi mx h
  | _,_,_,_=>none
 | .fieldAddr s x f=>match opv A x with
  | some a=>pair h (AC D s a f)
  | none=>none
 | .field t x f=>match opv A x with
  | some a=>pair h (Ut D t a f)
  | none=>none
 | .indexAddr t x i=>match opv A x,opv A i with
  | some a,some i=>pair h (AL D t a i)
  | _,_=>none
 | .index t x i=>match opv A x,opv A i with
  | some a,some i=>pair h (CP D t a i)
  | _,_=>none
 | .lookup t m k ok=>match opv A m,opv A k with
  | some m,some k=>pair h (FN D t m k ok h)
  | _,_=>none
 | .mapUpdate t m k v=>match opv A m,opv A k,opv A v with
  | some m,some k,some v=>BY D t m k v h
  | _,_,_=>none
 | .insert t m k v=>match opv A m,opv A k,opv A v with
  | some m,some k,some v=>BY D t m k v h
  | _,_,_=>none
 | .range t x=>match opv A x with
  | some a=>FL D t a h
  | none=>none
 | .next x isS=>match opv A x with
  | some a=>LS a isS h
  | none=>none
 | .extract x i=>match opv A x with
  | some (.tuple vs)=>pair h vs.toList[i]?
  | _=>none
 | .call c=>match c.callee,HZ A c.args.toList with
  | .builtin b,some vs=>Af D E b c.argTypes.toList vs h
  | _,_=>none
 | _=>none
inductive Ex where
 | normal
 | exit (id:Nat)
 | goto (l:Nat)
 | ret
structure Fx where
 fn:FuncId
 round:Option Nat
structure Ev where
 call:FuncId->List Value->H->Option (Value×H)
 round:Nat->List Value->H->Option (Value×H)
 code:Fx->Code->Ac->H->Option (Ex×Ac×H)
def Ev.none:Ev:=⟨fun _ _ _=>Option.none,fun _ _ _=>Option.none,fun _ _ _ _=>Option.none⟩
abbrev Aa:=FuncId->List Value->H->Option (Option (Value×H))
def Dm (v:Ev) (f:Value) (args:List Value) (h:H):Option (Value×H):=
 match f with
 | .func (.func g) xs ys=>v.call g (xs.toList++args++ys.toList) h
 | .func (.yield l) xs _=>v.round l (xs.toList++args) h
 | _=>none
def BC (D:Tab) (E:Env) (v:Ev) (A:Ac) (o:Oper) (h:H):Option (Value×H):=
 match o.op with
 | .call { callee:=.value f,args,.. }=>do
  let f <- opv A f;let vs <- HZ A args.toList
  Dm v f vs h
 | _=>aop D E A o.op h
def Hg (ops:Array Oper) (A:Ac) (j:Nat):Option Bool:=
 match (ops[j]?).bind (·.dst) with
 | some d=>match A.tmps.get d with
  | some (.bool b)=>some b
  | _=>none
 | none=>none
def Bo (ops:Array Oper) (A:Ac) (o:Oper):Bool:=
 match o.guard with
 | none=>true
 | some (j,want)=>match Hg ops A j,want with
  | some true,true=>true
  | some false,false=>true
  | _,_=>false
def BP (D:Tab) (E:Env) (v:Ev) (ops:Array Oper):List Oper->Ac->H->Option (Ac×H)
 | [],A,h=>some (A,h)
 | o::rest,A,h=>
  match Bo ops A o with
  | true=>match BC D E v A o h with
   | some (x,h)=>BP D E v ops rest (A.put o.dst x) h
   | none=>none
  | false=>BP D E v ops rest (A.put o.dst undef) h
/-! ### A region whose order is open -/
def AEX:Builtin->Bool
 | .len|.cap|.min|.max|.unsafeSliceData=>false
 | _=>true
def eff:Op->Bool
 | .store _ _ _|.mapUpdate _ _ _ _|.insert _ _ _ _|.next _ _=>true
 | .call { callee:=.builtin b,.. }=>AEX b
 | .call _=>true
 | _=>false
def pureOp (D:Tab):Op->Bool
 | .move _|.assign _|.pick _ _ _|.binOp _ _ _ _ _|.unOp _ _ _|.field _ _ _|.extract _ _|.index _ _ _|.fieldAddr _ _ _|.indexAddr _ _ _|.makeFunc _ _ _|.nilCheck _|.build _ _=>true
 | .convert _ d _=>match D.ty.get d with
  | some ⟨.int _,_,_,_,_⟩=>true
  | _=>false
 | .call { callee:=.builtin .len,argTypes,.. }=>match argTypes.toList with
  | [t]=>match D.ty.get t with
   | some ⟨.slice _ _ _,_,_,_,_⟩|some ⟨.string,_,_,_,_⟩|some ⟨.array _ _ _,_,_,_,_⟩=>true
   | _=>false
  | _=>false
 | _=>false
def Y9:Operand->List Tmp
 | .tmp t=>[t]
 | _=>[]
def Ko (o:Oper):List Tmp:=o.dst.toList++o.op.operands.toList.flatMap Y9
def ordered (b:Array Nat) (i j:Nat):Bool:=match Nat.blt i j with
 | true=>(b.getD j 0).testBit i
 | false=>(b.getD i 0).testBit j
def Bi:Op->Bool
 | .store _ _ _=>true
 | _=>false
def Hf (ops:Array Oper):Bool:=
 let b:=Region.before ops;let l:=ops.toList.zipIdx
 (!Region.departs ops||Nat.beq (Region.linearise .gc ops 0).length ops.size)&&l.all fun (o,j)=>
  (match o.guard with
   | none=>true
   | some (g,_)=>Nat.blt g j&&(b.getD j 0).testBit g)&&
  o.after.toList.all (fun e => !Region.binds .any e && !Region.binds .text e||Nat.blt e.on j)&&
  l.all fun (p,i)=>Nat.beq i j||
   ((match p.dst with
    | none=>true
    | some d => !((Ko o).contains d) && !((match o.guard with|some (g,_)=>((ops[g]?).bind (·.dst)).toList|none=>[]).contains d)||ordered b i j)&&
    (!(eff o.op&&eff p.op && !(Bi o.op&&Bi p.op))||ordered b i j))
structure Tch where
 reads:Option (List Nat)
 writes:List Nat
 lo:Nat
 hi:Nat
 rooted:Bool
def atV:Value->List Nat
 | .pointer (some a)|.slice (some a) _ _=>match a.spot with
  | some 0=>[a.block]
  | _=>[]
 | _=>[]
def reads (D:Tab) (A:Ac) (o:Oper):Option (List Nat):=
 match pureOp D o.op with
 | true=>some []
 | false=>match o.op with
  | .alloc _|.box _ _|.buildSlice _ _ _|.makeSlice _ _ _|.makeMap _ _|.store _ _ _=>some []
  | .load _ x|.slice _ x _ _ _=>match opv A x with
   | some v=>some (atV v)
   | _=>none
  | _=>none
def apart? (w:List Nat) (r:Option (List Nat)):Bool:=
 match w,r with
 | [],_=>true
 | _,none=>false
 | w,some r=>w.all fun k => !(r.any (Nat.beq k))
def meets (s t:Tch):Bool:=apart? s.writes t.reads&&apart? t.writes s.reads&&apart? s.writes (some t.writes) && !(s.rooted&&t.rooted)&&t.writes.all fun k=>Nat.blt k s.lo||Nat.ble s.hi k
def OI:Op->Bool
 | .alloc _|.box _ _|.buildSlice _ _ _|.makeSlice _ _ _|.makeMap _ _|.convert _ _ _=>true
 | _=>false
def BG:Op->Bool
 | .slice _ _ _ _ _|.range _ _=>true
 | _=>false
def GN (ops:Array Oper) (j:Nat):Bool:=
 let b:=Region.before ops
 ops.toList.zipIdx.all fun (p,i)=>Nat.beq i j||ordered b i j || !(eff p.op||BG p.op)
def rootedStore (A:Ac) (h:H):Op->Bool
 | .store _ x _=>match opv A x with
  | some (.pointer (some a))=>match h.blk a.block with
   | some (.cells _ _ (some _))=>true
   | _=>false
  | _=>false
 | _=>false
def BA (D:Tab) (E:Env) (v:Ev) (ops:Array Oper):Nat->List Oper->Ac->H->Option (Ac×H×List Tch)
 | _,[],A,h=>some (A,h,[])
 | j,o::rest,A,h=>
  match Bo ops A o with
  | true=>match BC D E v A o { h with mark:=h.next,log:=[] } with
   | some (x,h')=>
    match !(BG o.op)||Nat.beq h'.next h.next||GN ops j with
    | true=>match BA D E v ops (j+1) rest (A.put o.dst x) ({ h' with mark:=h.mark,log:=h.log }.note h'.log) with
     | some (A',h'',ts)=>some (A',h'',⟨reads D A o,h'.log,h.next,h'.next,rootedStore A h o.op⟩::ts)
     | none=>none
    | false=>none
   | none=>none
  | false=>match BA D E v ops (j+1) rest (A.put o.dst undef) h with
   | some (A',h'',ts)=>some (A',h'',⟨some [],[],h.next,h.next,false⟩::ts)
   | none=>none
def DB (b:Array Nat) (ts:List Tch):Bool:=
 let l:=ts.zipIdx
 l.all fun (s,i)=>l.all fun (t,j) => !(Nat.blt i j)||ordered b i j||meets s t
def runRegion (D:Tab) (E:Env) (v:Ev) (ops:Array Oper) (draw:Bool) (A:Ac) (h:H):Option (Ac×H):=
 match draw with
 | false=>BP D E v ops ops.toList A h
 | true=>match Hf ops with
  | false=>none
  | true=>match BA D E v ops 0 ops.toList A h with
   | some (A,h,ts)=>match DB (Region.before ops) ts with
    | true=>some (A,h)
    | false=>none
   | none=>none
/-! ### Results -/
def ares1 (D:Tab) (E:Env) (A:Ac) (h:H):ResultVar->Option Value
 | .tmp t=>some (A.get t)
 | .cell a t=>match A.get a with
  | .pointer (some a)=>AI D E t a h
  | _=>none
def Dl (D:Tab) (E:Env) (A:Ac) (h:H):List ResultVar->Option (List Value)
 | []=>some []
 | r::rs=>match ares1 D E A h r with
  | some v=>match Dl D E A h rs with
   | some vs=>some (v::vs)
   | none=>none
  | none=>none
def ED (D:Tab) (E:Env) (fn:Func) (A:Ac) (h:H):Option Value:=
 match Dl D E A h fn.results.toList with
 | some [v]=>some v
 | some vs=>some (.tuple vs.toArray)
 | none=>none
def Ay:List Nat->H->Option H
 | [],h=>some h
 | d::ds,h=>match h.blk d with
  | some (.defd false)=>Ay ds (h.aq d (.defd true))
  | _=>none
def Cw:List Tmp->List Value->Ac->Option Ac
 | [],[],A=>some A
 | t::ts,v::vs,A=>Cw ts vs (A.put (some t) v)
 | _,_,_=>none
def Dh (D:Tab) (E:Env) (I:Aa) (v:Ev) (f:FuncId) (args:List Value) (h:H):Option (Value×H):=
 match I f args h with
 | some r=>r
 | none=>match D.fn.get f with
  | none=>none
  | some fn=>match fn.body with
   | none=>none
   | some body=>
    match v.code ⟨f,none⟩ body ⟨T.ofList args 0 .nil,max args.length fn.ntmps,[]⟩ h with
    | some (.normal,A,h)|some (.ret,A,h)=>match Ay A.defers h with
     | some h=>(ED D E fn A h).map fun r=>(r,h)
     | none=>none
    | _=>none
def EB (v:Ev) (l:Nat) (args:List Value) (h:H):Option (Value×H):=
 match h.blk l with
 | some (.loop r)=>
  match Cw r.params.toList args ⟨r.tmps,r.n,[]⟩ with
  | none=>none
  | some A=>
   match v.code ⟨r.fn,some l⟩ r.assign A h with
   | some (.normal,A,h)=>
    match h.blk l with
    | some (.loop r1)=>
     match r1.state with
     | .ready=>
      match v.code ⟨r.fn,some l⟩ r.body A (h.aq l (.loop { r1 with state:=.busy })) with
      | none=>none
      | some (ex,_,h)=>
       match h.blk l with
       | some (.loop r2)=>
        match ex with
        | .normal=>some (.bool true,h.aq l (.loop { r2 with state:=.ready,pending:=none }))
        | .ret=>some (.bool false,h.aq l (.loop { r2 with state:=.done,pending:=some .ret }))
        | .exit id=>some (.bool false,h.aq l (.loop { r2 with state:=.done,pending:=some (.exit id) }))
        | .goto _=>none
       | _=>none
     | _=>none
    | _=>none
   | _=>none
 | _=>none
def Ae (D:Tab) (E:Env) (v:Ev) (F:Fx) (c:Code) (A:Ac) (h:H):Option (Ex×Ac×H):=
 match c with
 | .skip=>some (.normal,A,h)
 | .region _ ops draw=>(runRegion D E v ops draw A h).map fun (A,h)=>(.normal,A,h)
 | .seq a b=>match v.code F a A h with
  | some (.normal,A,h)=>v.code F b A h
  | r=>r
 | .cond c t e=>match opv A c with
  | some (.bool true)=>v.code F t A h
  | some (.bool false)=>v.code F e A h
  | _=>none
 | .block id body=>match v.code F body A h with
  | some (.exit j,A,h)=>match Nat.beq j id with
   | true=>some (.normal,A,h)
   | false=>some (.exit j,A,h)
  | some (.goto _,_,_)=>none
  | r=>r
 | .loop body=>match v.code F body A h with
  | some (.normal,A,h)=>v.code F (.loop body) A h
  | some (.goto _,_,_)=>none
  | r=>r
 | .scope body=>match v.code F body A h with
  | some (.goto _,_,_)=>none
  | r=>r
 | .label _=>some (.normal,A,h)
 | .exit id=>some (.exit id,A,h)
 | .ret=>some (.ret,A,h)
 | .goto _=>none
 | .refuse _=>none
 | .rangeFunc f params assign body=>
  match opv A f with
  | none=>none
  | some fv=>
   let s:Option (Ac×H×Nat):=match F.round with
    | none=>some ({ A with defers:=h.next::A.defers },h.new (.defd false),h.next)
    | some l=>match h.blk l with
     | some (.loop r)=>some (A,h,r.defers)
     | _=>none
   match s with
   | none=>none
   | some (A1,h1,d)=>
    match Dm v fv [.func (.yield h1.next) #[] #[]] (h1.new (.loop ⟨.ready,none,F.fn,A.tmps,A.n,params,assign,body,d⟩)) with
    | none=>none
    | some (_,h2)=>
     match h2.blk h1.next with
     | some (.loop r)=>
      match r.state with
      | .busy=>none
      | _=>
       let h3:=h2.aq h1.next (.loop { r with state:=.exhausted })
       match r.pending with
       | none=>some (.normal,A1,h3)
       | some c=>v.code F c A1 h3
     | _=>none
def Dq (D:Tab) (E:Env) (I:Aa) (v:Ev):Ev:=
 ⟨Dh D E I v,EB v,Ae D E v⟩
def ev (D:Tab) (E:Env) (I:Aa):Nat->Ev
 | 0=>Ev.none
 | n+1=>Dq D E I (ev D E I n)
def Dx (bt:TypeId) (args:List Value) (h:H):Option (Value×H):=
 match args with
 | [.pointer (some a)]=>match a.spot,Nat.beq a.off 0,h.blk a.block with
  | some 0,true,some (.cells [p,_] ty none)=>match Nat.beq ty bt,p with
   | true,.pointer none=>(h.put a [.pointer (some a)]).map fun h=>(.tuple #[],h)
   | true,.pointer (some b)=>match Nat.beq a.block b.block&&Nat.beq b.off 0&&b.spot == some 0 with
    | true=>some (.tuple #[],h)
    | false=>none
   | _,_=>none
  | _,_,_=>none
 | _=>none
def cmpL:List UInt8->List UInt8->Int
 | [],[]=>0
 | [],_::_ => -1
 | _::_,[]=>1
 | a::as,b::bs=>match a.toNat.blt b.toNat with
  | true => -1
  | false=>match b.toNat.blt a.toNat with
   | true=>1
   | false=>cmpL as bs
def AAX (args:List Value) (h:H):Option (Value×H):=
 match args with
 | [.string a,.string b]=>some (.int .i64 (cmpL a.data.toList b.data.toList),h)
 | _=>none
/-! ## Renaming -/
def Le (φ φ':Ph):Prop:=∀ k x,φ k=some x->φ' k=some x
theorem Le.refl (φ:Ph):Le φ φ:=fun _ _ h=>h
theorem okA.le {φ φ':Ph} (h:Le φ φ') {a:Addr} (ha:okA φ a):okA φ' a/\renA φ' a=renA φ a/\extA φ' a=extA φ a:=by
 rcases ha with ha|⟨ha,hk⟩|⟨s,ha⟩
 ·exact⟨.inl ha,by simp[renA,ha],by simp[extA,ha]⟩
 ·obtain⟨x,hx⟩:=J1.1 hk;have hx':=h _ _ hx;exact⟨.inr (.inl ⟨ha,by rw[hx'];rfl⟩),by simp[renA,ha,hx,hx'],by simp[extA,ha,hx,hx']⟩
 ·exact⟨.inr (.inr ⟨s,ha⟩),by simp[renA,ha],by simp[extA,ha]⟩
theorem okF.le {φ φ':Ph} (h:Le φ φ') {f:Fn} (hf:okF φ f):okF φ' f/\renF φ' f=renF φ f:=by
 cases f with
 | yield l=>
  obtain⟨x,hx⟩:=J1.1 (show (φ l).isSome=true from hf);have hx':=h _ _ hx;exact⟨by simp[okF,hx'],by simp[renF,renN,hx,hx']⟩
 | _=>exact⟨trivial,rfl⟩
mutual
theorem okV.le {φ φ':Ph} (h:Le φ φ'):∀ {v:Value},okV φ v->okV φ' v/\ren φ' v=ren φ v
 | .pointer (some a),hv=>by
  have:=okA.le h (show okA φ a from hv);exact⟨this.1,by simp only[ren,this.2.1]⟩
 | .slice (some a) n c,hv=>by
  have:=okA.le h (show okA φ a from hv);exact⟨this.1,by simp only[ren,this.2.1,this.2.2]⟩
 | .map (some r),hv=>by
  obtain⟨x,hx⟩:=J1.1 (show (φ r).isSome=true from hv);have hx':=h _ _ hx;exact⟨by simp[okV,hx'],by simp[ren,renN,hx,hx']⟩
 | .func f ⟨xs⟩ ⟨ys⟩,hv=>by
  obtain⟨h1,h2,h3⟩:=(show okF φ f/\okL φ xs/\okL φ ys from hv);have a:=okF.le h h1;have b:=okL.le h h2;have c:=okL.le h h3;exact⟨⟨a.1,b.1,c.1⟩,by simp only[ren,a.2,b.2,c.2]⟩
 | .agg ⟨xs⟩,hv=>by
  have a:=okL.le h (show okL φ xs from hv);exact⟨a.1,by simp only[ren,a.2]⟩
 | .tuple ⟨xs⟩,hv=>by
  have a:=okL.le h (show okL φ xs from hv);exact⟨a.1,by simp only[ren,a.2]⟩
 | .iface t v,hv=>by
  have a:=okV.le h (show okV φ v from hv);exact⟨a.1,by simp only[ren,a.2]⟩
 | .pointer none,_=>⟨trivial,rfl⟩
 | .slice none _ _,_=>⟨trivial,rfl⟩
 | .map none,_=>⟨trivial,rfl⟩
 | .bool _,_=>⟨trivial,rfl⟩
 | .int _ _,_=>⟨trivial,rfl⟩
 | .float _ _,_=>⟨trivial,rfl⟩
 | .complex _ _ _,_=>⟨trivial,rfl⟩
 | .string _,_=>⟨trivial,rfl⟩
 | .chan _,_=>⟨trivial,rfl⟩
 | .nilFunc,_=>⟨trivial,rfl⟩
 | .nilIface,_=>⟨trivial,rfl⟩
theorem okL.le {φ φ':Ph} (h:Le φ φ'):∀ {l:List Value},okL φ l->okL φ' l/\renL φ' l=renL φ l
 | [],_=>⟨trivial,rfl⟩
 | v::l,hv=>by
  have a:=okV.le h hv.1;have b:=okL.le h hv.2;exact⟨⟨a.1,b.1⟩,by simp only[renL,a.2,b.2]⟩
end
mutual
theorem roV.ok (φ:Ph):∀ {v:Value},roV v=true->okV φ v/\ren φ v=v
 | .pointer (some a),hv=>by
  have h:a.spot=none:=by simpa [roV] using hv
  exact⟨.inl h,by simp[ren,renA,h]⟩
 | .slice (some a) n c,hv=>by
  have h:a.spot=none:=by simpa [roV] using hv
  exact⟨.inl h,by simp[ren,renA,extA,h]⟩
 | .map (some r),hv=>by simp[roV] at hv
 | .func f ⟨xs⟩ ⟨ys⟩,hv=>by
  simp only[roV,K0] at hv;have b:=roL.ok φ hv.1.2;have c:=roL.ok φ hv.2;have a:okF φ f/\renF φ f=f:=by cases f<;>simp_all [roF,okF,renF]
  exact⟨⟨a.1,b.1,c.1⟩,by simp only[ren,a.2,b.2,c.2]⟩
 | .agg ⟨xs⟩,hv=>by
  have a:=roL.ok φ (show roL xs=true from hv);exact⟨a.1,by simp only[ren,a.2]⟩
 | .tuple ⟨xs⟩,hv=>by
  have a:=roL.ok φ (show roL xs=true from hv);exact⟨a.1,by simp only[ren,a.2]⟩
 | .iface t v,hv=>by
  have a:=roV.ok φ (show roV v=true from hv);exact⟨a.1,by simp only[ren,a.2]⟩
 | .pointer none,_=>⟨trivial,rfl⟩
 | .slice none _ _,_=>⟨trivial,rfl⟩
 | .map none,_=>⟨trivial,rfl⟩
 | .bool _,_=>⟨trivial,rfl⟩
 | .int _ _,_=>⟨trivial,rfl⟩
 | .float _ _,_=>⟨trivial,rfl⟩
 | .complex _ _ _,_=>⟨trivial,rfl⟩
 | .string _,_=>⟨trivial,rfl⟩
 | .chan _,_=>⟨trivial,rfl⟩
 | .nilFunc,_=>⟨trivial,rfl⟩
 | .nilIface,_=>⟨trivial,rfl⟩
theorem roL.ok (φ:Ph):∀ {l:List Value},roL l=true->okL φ l/\renL φ l=l
 | [],_=>⟨trivial,rfl⟩
 | v::l,hv=>by
  simp only[roL,K0] at hv;have a:=roV.ok φ hv.1;have b:=roL.ok φ hv.2;exact⟨⟨a.1,b.1⟩,by simp only[renL,a.2,b.2]⟩
end
theorem foV.ok (φ:Ph) {v:Value} (h:foV v=true):okV φ v/\ren φ v=ren (fun _=>none) v:=by
 have fin:∀ {v:Value},roV v=true->okV φ v/\ren φ v=ren (fun _=>none) v:=fun h=>⟨(roV.ok φ h).1,by rw[(roV.ok φ h).2,(roV.ok _ h).2]⟩;unfold foV at h;split at h
 ·next a n c=>
  cases hs:a.spot with
  | none=>exact⟨.inl hs,by simp[ren,renA,extA,hs]⟩
  | some s=>cases s with
   | zero=>simp[hs] at h
   | succ s=>exact⟨.inr (.inr ⟨s,hs⟩),by simp[ren,renA,extA,hs]⟩
 ·exact fin h
theorem MV (φ:Ph) (v:Value):isOne (ren φ v)=isOne v:=by
 cases v with
 | pointer a=>cases a<;>simp[ren,isOne]
 | slice a n c=>cases a<;>simp[ren,isOne]
 | map r=>cases r<;>simp[ren,isOne]
 | func f xs ys=>cases xs;cases ys;simp[ren,isOne]
 | agg xs=>cases xs;simp[ren,isOne]
 | tuple xs=>cases xs;simp[ren,isOne]
 | _=>simp[ren,isOne]
theorem OH {v:Value} (h:isOne v=true):v.cells=#[v]:=by cases v<;>simp_all [isOne,Value.cells]
theorem Ju {v:Value} (h:isOne v=true):v.oneCell'=true:=by cases v<;>simp_all [isOne,Value.oneCell']
theorem Ck (φ:Ph) (l:List Value):ren φ (.agg ⟨l⟩)=.agg ⟨l.map (ren φ)⟩:=by simp only[ren,Gy]
theorem GP (φ:Ph) (l:List Value):ren φ (.tuple ⟨l⟩)=.tuple ⟨l.map (ren φ)⟩:=by simp only[ren,Gy]
theorem DY (φ:Ph) (l:List Value):okV φ (.agg ⟨l⟩)↔∀ v∈l,okV φ v:=by simp only[okV,HF]
theorem Bh (φ:Ph) (l:List Value):okV φ (.tuple ⟨l⟩)↔∀ v∈l,okV φ v:=by simp only[okV,HF]
theorem FH (φ:Ph) (v:Value):(ren φ v).cells.toList=v.cells.toList.map (ren φ):=by
 cases v with
 | pointer a=>cases a<;>simp[ren,Value.cells]
 | slice a n c=>cases a<;>simp[ren,Value.cells]
 | map r=>cases r<;>simp[ren,Value.cells]
 | func f xs ys=>cases xs;cases ys;simp[ren,Value.cells]
 | agg xs=>cases xs;simp[ren,Value.cells,Gy]
 | tuple xs=>cases xs;simp[ren,Value.cells]
 | _=>simp[ren,Value.cells]
theorem Ih {φ:Ph} {v:Value} (h:okV φ v):∀ c∈v.cells.toList,okV φ c:=by
 cases v with
 | agg xs=>cases xs;intro c hc;exact (DY φ _).1 h c (by simpa [Value.cells] using hc)
 | _=>intro c hc;simp[Value.cells] at hc;subst hc;exact h
theorem CM {φ:Ph} {a:Addr} (h:okA φ a) (n:Nat):renA φ (aadd a n)=(renA φ a).add n/\okA φ (aadd a n)/\extA φ (aadd a n)=extA φ a:=by
 rcases h with h|⟨h,hk⟩|⟨s,h⟩
 ·refine⟨?_,.inl (by simp[aadd,h]),by simp[extA,aadd,h]⟩;simp only[renA,aadd,h];unfold Addr.add;split
  ·next h0=>subst h0;cases a;simp_all
  ·cases a;simp_all
 ·obtain⟨⟨c,b,e⟩,hx⟩:=J1.1 hk;refine⟨?_,.inr (.inl ⟨by simp[aadd,h],by simpa [aadd,h] using hk⟩),by simp[extA,aadd,h]⟩;simp only[renA,aadd,h,hx];unfold Addr.add;split
  ·next h0=>subst h0;rfl
  ·simp[Nat.add_assoc]
 ·cases n with
  | zero=>
   refine⟨?_,.inr (.inr ⟨s,by simp[aadd,h]⟩),by simp[extA,aadd,h]⟩;simp[renA,aadd,h,Addr.add]
  | succ n=>
   refine⟨?_,.inl (by simp[aadd,h]),by simp[extA,aadd,h]⟩;simp[renA,aadd,h,Addr.add]
/-! ## The tie -/
def Open (n:Nat) (fz:Nat×Nat):Prop:=fz.1=fz.2\/n<=fz.1
def U8 (φ:Ph) (x y:Value):Prop:=isOne x=true->okV φ x/\y=ren φ x
structure ACW (D:Tab) (φ:Ph) (w:World) (c b e:Nat) (xs:List Value) (ty:TypeId) (root:Option (Nat×Nat)) (cs:Array Value) (u:TypeId) (fz:Nat×Nat):Prop where
 block:w.heap[c]? = some (.cells cs u fz)
 opn:Open cs.size fz
 cell:∀ i x,xs[i]? = some x->∃ y,cs[b+i]? = some y/\U8 φ x y
 room:root.isSome=true->u=ty/\∃ i,D.ty.get ty=some i/\cs.size=b+xs.length+e*i.size
 whole:root=none->ty≠ACi->u=ty/\b=0/\cs.size=xs.length
def renE (φ:Ph) (x:Ent):MapEntry:=⟨ren φ x.key,ren φ x.val,x.born⟩
structure Ed (φ:Ph) (r:EO) (l:Loop):Prop where
 state:l.state=r.state
 pending:l.pending=r.pending
 fn:l.fn=r.fn
 size:l.tmps.size=r.n
 tmps:∀ t,okV φ ((r.tmps.get t).getD undef)/\l.tmps.getD t undef=ren φ ((r.tmps.get t).getD undef)
 params:l.params=r.params
 assign:l.assign=r.assign
 body:l.body=r.body
 defers:∃ x,φ r.defers=some x/\l.defers=x.1
def Blk.hollow (e:Nat):Blk->Bool
 | .cells [] _ none=>true
 | .cells [] _ (some _)=>Nat.beq e 0
 | _=>false
def CV (D:Tab) (φ:Ph) (w:World) (c b e:Nat):Blk->Prop
 | .cells xs ty root=>(xs=[]/\(root=none\/e=0))\/∃ cs u fz,ACW D φ w c b e xs ty root cs u fz
 | .map es cl=>w.heap[c]? = some (.map (es.map (renE φ)).toArray cl)/\∀ x∈es,okV φ x.key/\okV φ x.val
 | .siter s p=>w.heap[c]? = some (.stringIter s p)/\b=0
 | .defd false=>w.heap[c]? = some (.deferred (some []))
 | .defd true=>∃ o,w.heap[c]? = some (.deferred o)
 | .loop r=>∃ l,w.heap[c]? = some (.loop l)/\Ed φ r l
theorem CV.bp {D:Tab} {φ:Ph} {w:World} {c b e:Nat} {B:Blk} (h:B.hollow e=true):CV D φ w c b e B:=by
 cases B with
 | cells ys uy rt=>cases ys with
  | nil=>cases rt with
   | none=>exact .inl ⟨rfl,.inl rfl⟩
   | some _=>exact .inl ⟨rfl,.inr (U0 h)⟩
  | cons _ _=>simp[Blk.hollow] at h
 | _=>simp[Blk.hollow] at h
structure Tie (D:Tab) (E:Env) (n0:Nat) (V:Nat->Prop) (φ:Ph) (h:H) (w:World):Prop where
 ro:∀ b o v,E b o=some v->b<n0/\w.cell? ⟨b,o,none⟩=some (ren (fun _=>none) v)/\foV v=true
 size:n0<=w.heap.size
 dom:∀ k c b e,φ k=some (c,b,e)->k<h.next/\n0<=c/\c<w.heap.size
 blk:∀ k B c b e,V k->h.blk k=some B->φ k=some (c,b,e)->CV D φ w c b e B
 apart:∀ j k B B' c b e b' e',j≠k->h.blk j=some B->h.blk k=some B'->B.hollow e=false->B'.hollow e'=false->φ j=some (c,b,e)->φ k=some (c,b',e')->
  ∃ xs ty r p xs' ty' p',B=.cells xs ty (some (r,p))/\B'=.cells xs' ty' (some (r,p'))/\b+p'=b'+p
 exact:∀ k xs ty c b e,h.dyn.get k=some (.cells xs ty none)->φ k=some (c,b,e)->e=0
 fresh:∀ k,h.next<=k->h.dyn.get k=none
 root:∀ k xs ty r p,h.dyn.get k=some (.cells xs ty (some (r,p)))->r<h.next
section read
variable {D:Tab} {E:Env} {n0:Nat} {V:Nat->Prop} {φ:Ph} {h:H} {w:World}
theorem one?_some {v:Option Value} {x:Value} (hx:one? v=some x):v=some x/\isOne x=true:=by
 unfold one? at hx;split at hx
 ·split at hx
  ·cases hx;exact⟨rfl,by assumption⟩
  ·cases hx
 ·cases hx
theorem cell?_at {w:World} {c o:Nat} {cs:Array Value} {u:TypeId} {fz:Nat×Nat} (hb:w.heap[c]? = some (.cells cs u fz)):w.cell? ⟨c,o,none⟩=cs[o]? := by
 simp[World.cell?,hb]
theorem Tie.cellAt (R:Tie D E n0 V φ h w) {a:Addr} {v:Value} (ha:okA φ a) (hV:a.spot=some 0->V a.block) (hc:h.cell E a=some v) :
  w.cell? (renA φ a)=some (ren φ v)/\okV φ v/\isOne v=true:=by
 unfold H.cell at hc;split at hc
 ·next hs=>
  obtain⟨he,h1⟩:=one?_some hc;obtain⟨_,hw,hr⟩:=R.ro _ _ _ he;obtain⟨ok,hren⟩:=foV.ok φ hr;refine⟨?_,ok,h1⟩;have:renA φ a=⟨a.block,a.off,none⟩:=by simp only[renA,hs];cases a;simp_all
  rw[this,hren];exact hw
 ·next hs=>
  split at hc
  ·next xs ty root hb=>
   obtain⟨hx,h1⟩:=one?_some hc;rcases ha with ha|⟨_,hk⟩|⟨_,ha⟩
   ·rw[hs] at ha;cases ha
   ·obtain⟨⟨c,b,e⟩,hk⟩:=J1.1 hk;rcases R.blk _ _ _ _ _ (hV hs) hb hk with⟨rfl,_⟩|⟨cs,u,fz,L⟩
    ·simp at hx
    ·obtain⟨y,hy,ht⟩:=L.cell _ _ hx;obtain⟨ok,rfl⟩:=ht h1;have:renA φ a=⟨c,b+a.off,none⟩:=by simp only[renA,hs,hk]
     exact⟨by rw[this,cell?_at L.block];exact hy,ok,h1⟩
   ·rw[hs] at ha;cases ha
  ·cases hc
 ·cases hc
theorem IV {E:Env}:∀ (n b o:Nat) (vs:List Value),Bm E b o n=some vs->vs.length=n/\∀ i v,vs[i]? = some v->one? (E b (o+i))=some v:=by
 intro n;induction n with
 | zero=>intro b o vs hv;simp[Bm] at hv;subst hv;simp
 | succ n ih=>
  intro b o vs hv;simp only[Bm] at hv;split at hv
  ·next v hv1=>
   split at hv
   ·next vs' hv2=>
    cases hv;obtain⟨h1,h2⟩:=ih b (o+1) vs' hv2;refine⟨by simp[h1],?_⟩;intro i x hx;cases i with
    | zero=>simp at hx;subst hx;exact hv1
    | succ i=>rw[E2] at hx;rw[<- h2 i x hx];congr 1;rw[Nat.add_assoc,Nat.add_comm 1 i]
   ·cases hv
  ·cases hv
theorem Tie.bh (R:Tie D E n0 V φ h w) {a:Addr} {n:Nat} {vs:List Value} (ha:okA φ a) (hV:a.spot=some 0->V a.block) (hc:h.cells E a n=some vs) :
  vs.length=n/\∀ i v,vs[i]? = some v->w.cell? ((renA φ a).add i)=some (ren φ v)/\okV φ v/\isOne v=true:=by
 unfold H.cells at hc;split at hc
 ·cases hc;simp
 ·split at hc
  ·next hs=>
   obtain⟨h1,h2⟩:=IV _ _ _ _ hc;refine⟨h1,fun i v hv => ?_⟩;obtain⟨he,h1⟩:=one?_some (h2 i v hv);obtain⟨_,hw,hr⟩:=R.ro _ _ _ he;obtain⟨ok,hren⟩:=foV.ok φ hr;refine⟨?_,ok,h1⟩;have:(renA φ a).add i=⟨a.block,a.off+i,none⟩:=by
    rw[<- (CM ha i).1];simp only[renA,aadd,hs]
   rw[this,hren];exact hw
  ·next hs=>
   split at hc
   ·next xs ty root hb=>
    split at hc
    ·next hle=>
     simp only[K0,Z0,O2] at hle;cases hc;refine⟨by simp;omega,fun i v hv => ?_⟩;have h1:isOne v=true:=hle.2 v (H3 hv);rw[List.getElem?_take] at hv;split at hv
     ·rw[D6] at hv;have:=R.cellAt (a:=aadd a i) (v:=v) (CM ha i).2.1 (by simpa [aadd,hs] using hV) (by simp only[H.cell,aadd,hs,hb,hv,one?,h1]);rw[(CM ha i).1] at this;exact this
     ·cases hv
    ·cases hc
   ·cases hc
  ·cases hc
theorem Ci (P:Program) (R:Tie D E n0 V φ h w) {a:Addr} {n:Nat} {vs:List Value} (ha:okA φ a) (hV:a.spot=some 0->V a.block) (hc:h.cells E a n=some vs) :
  (loadCells (renA φ a) n).run P w=.ok (vs.map (ren φ)).toArray w:=by
 obtain⟨hn,hv⟩:=R.bh ha hV hc;subst hn
 have:=run_loadCells_list (P:=P) (w:=w) (renA φ a) (vs.map (ren φ)) (fun j v hj=>by
  rw[J3] at hj;cases hx:vs[j]? with
  | none=>rw[hx] at hj;cases hj
  | some x=>rw[hx] at hj;cases hj;exact (hv j x hx).1)
 simpa using this
end read
structure Kept (φ:Ph) (w w':World):Prop where
 os:w'.os=w.os
 tape:w'.tape=w.tape
 output:w'.output=w.output
 size:w.heap.size<=w'.heap.size
 block:∀ c,c<w.heap.size->(∀ k b e,φ k≠some (c,b,e))->w'.heap[c]? = w.heap[c]?
theorem Kept.refl (φ:Ph) (w:World):Kept φ w w:=⟨rfl,rfl,rfl,C0 _,fun _ _ _=>rfl⟩
def Ext (φ φ':Ph) (next next':Nat) (w:World):Prop:=
 (∀ k,k<next->φ' k=φ k)/\(∀ k c b e,φ' k=some (c,b,e)->w.heap.size<=c\/∃ j b' e',φ j=some (c,b',e'))/\∀ k,next<=k->k<next'->(φ' k).isSome=true
theorem Ext.refl (φ:Ph) (next:Nat) (w:World):Ext φ φ next next w:=⟨fun _ _=>rfl,fun k _ b e h=>.inr ⟨k,b,e,h⟩,fun k h1 h2=>absurd h2 (Nat.not_lt.2 h1)⟩
theorem Ext.same {φ:Ph} {n n':Nat} {w:World} (h:n'=n):Ext φ φ n n' w:=by subst h;exact Ext.refl _ _ _
theorem Ext.of_next {φ φ':Ph} {n n' n'':Nat} {w:World} (h:Ext φ φ' n n' w) (e:n''=n'):Ext φ φ' n n'' w:=by subst e;exact h
theorem Ext.le {φ φ':Ph} {next next':Nat} {w:World} (h:Ext φ φ' next next' w) (hd:∀ k c b e,φ k=some (c,b,e)->k<next):Le φ φ':=fun k x hk=>by
 obtain⟨c,b,e⟩:=x;rw[h.1 k (hd _ _ _ _ hk)];exact hk
theorem Kept.trans {φ φ':Ph} {next next':Nat} {w w' w'':World} (h:Kept φ w w') (h':Kept φ' w' w'') (he:Ext φ φ' next next' w):Kept φ w w'':=
 ⟨h'.os.trans h.os,h'.tape.trans h.tape,h'.output.trans h.output,Y0 h.size h'.size,fun c hc hn=>by
  rw[h'.block c (Q1 hc h.size) ?_,h.block c hc hn];intro k b e hk;rcases he.2.1 k c b e hk with hs|⟨j,b',e',hj⟩
  ·omega
  ·exact hn j b' e' hj⟩
theorem Ext.trans {φ φ' φ'':Ph} {n n' n'':Nat} {w w':World} (h:Ext φ φ' n n' w) (h':Ext φ' φ'' n' n'' w') (hn:n<=n') (hw:w.heap.size<=w'.heap.size):Ext φ φ'' n n'' w:=
 ⟨fun k hk=>(h'.1 k (Q1 hk hn)).trans (h.1 k hk),fun k c b e hk=>by
  rcases h'.2.1 k c b e hk with hs|⟨j,b',e',hj⟩
  ·exact .inl (Y0 hw hs)
  ·exact h.2.1 j c b' e' hj,fun k h1 h2=>by
  rcases P1 k n' with h3|h3
  ·rw[h'.1 k h3];exact h.2.2 k h1 h3
  ·exact h'.2.2 k h3 h2⟩
def upd (φ:Ph) (k:Nat) (x:Nat×Nat×Nat):Ph:=fun j=>if j=k then some x else φ j
theorem AR (φ:Ph) (k:Nat) (x:Nat×Nat×Nat):upd φ k x k=some x:=by simp[upd]
theorem BH (φ:Ph) {j k:Nat} (x:Nat×Nat×Nat) (h:j≠k):upd φ k x j=φ j:=by simp[upd,h]
theorem Dn {φ:Ph} {k:Nat} {x:Nat×Nat×Nat} (h:φ k=none):Le φ (upd φ k x):=fun j y hj=>by
 by_cases e:j=k
 ·subst e;rw[h] at hj;cases hj
 ·rw[BH _ _ e];exact hj
theorem DQ {φ:Ph} {k:Nat} {c b e:Nat} {w:World} (h:w.heap.size<=c\/∃ j b' e',φ j=some (c,b',e')):Ext φ (upd φ k (c,b,e)) k (k+1) w:=
 ⟨fun j hj=>BH _ _ (by omega),fun j c' b' e' hj=>by
  by_cases ej:j=k
  ·subst ej;rw[AR] at hj;cases hj;exact h
  ·rw[BH _ _ ej] at hj;exact .inr ⟨j,b',e',hj⟩,fun j h1 h2=>by
  have:j=k:=by omega
  subst this;rw[AR];rfl⟩
section
variable {D:Tab} {E:Env} {n0:Nat} {V:Nat->Prop} {φ φ':Ph} {h h':H} {w w':World}
theorem ACW.le {c b e:Nat} {xs:List Value} {ty:TypeId} {root:Option (Nat×Nat)} {cs:Array Value} {u:TypeId} {fz:Nat×Nat} (L:ACW D φ w c b e xs ty root cs u fz) (hl:Le φ φ') (hw:w'.heap[c]? = w.heap[c]?) :
  ACW D φ' w' c b e xs ty root cs u fz:=
 ⟨by rw[hw];exact L.block,L.opn,fun i x hx=>by
  obtain⟨y,hy,ht⟩:=L.cell i x hx
  exact⟨y,hy,fun h1=>by
   obtain⟨ok,rfl⟩:=ht h1;have:=okV.le hl ok;exact⟨this.1,this.2.symm⟩⟩,L.room,L.whole⟩
theorem Ed.le {r:EO} {l:Loop} (L:Ed φ r l) (hl:Le φ φ'):Ed φ' r l:=
 ⟨L.state,L.pending,L.fn,L.size,fun t=>by
  obtain⟨ok,he⟩:=L.tmps t;have:=okV.le hl ok;exact⟨this.1,by rw[he,this.2]⟩,L.params,L.assign,L.body,by
  obtain⟨x,hx,hd⟩:=L.defers;exact⟨x,hl _ _ hx,hd⟩⟩
theorem ZS {es:List Ent} (hl:Le φ φ') (h:∀ x∈es,okV φ x.key/\okV φ x.val):es.map (renE φ')=es.map (renE φ)/\∀ x∈es,okV φ' x.key/\okV φ' x.val:=by
 constructor
 ·apply List.map_congr_left;intro x hx;simp only[renE,(okV.le hl (h x hx).1).2,(okV.le hl (h x hx).2).2]
 ·intro x hx;exact⟨(okV.le hl (h x hx).1).1,(okV.le hl (h x hx).2).1⟩
theorem CV.le {c b e:Nat} {B:Blk} (T:CV D φ w c b e B) (hl:Le φ φ') (hw:w'.heap[c]? = w.heap[c]?):CV D φ' w' c b e B:=by
 cases B with
 | cells xs ty root=>
  rcases T with T|⟨cs,u,fz,L⟩
  ·exact .inl T
  ·exact .inr ⟨cs,u,fz,L.le hl hw⟩
 | map es cl=>
  obtain⟨h1,h2⟩:=T;obtain⟨h3,h4⟩:=ZS hl h2;exact⟨by rw[hw,h1,h3],h4⟩
 | siter s p=>exact⟨hw.trans T.1,T.2⟩
 | defd t=>cases t with
  | false=>exact hw.trans T
  | true=>obtain⟨o,ho⟩:=T;exact⟨o,hw.trans ho⟩
 | loop r=>obtain⟨l,h1,h2⟩:=T;exact⟨l,hw.trans h1,h2.le hl⟩
theorem Tie.of_heap (R:Tie D E n0 V φ h w) (hw:w'.heap=w.heap):Tie D E n0 V φ h w':=
 ⟨fun b o v hv=>by
  obtain⟨h1,h2,h3⟩:=R.ro b o v hv;exact⟨h1,by rw[<- h2];simp[World.cell?,hw],h3⟩,by rw[hw];exact R.size,by rw[hw];exact R.dom,
  fun k B c b e hV hB hk=>(R.blk k B c b e hV hB hk).le (Le.refl _) (by rw[hw]),R.apart,R.exact,R.fresh,R.root⟩
theorem CH (w:World) (o:Obj) {c:Nat} (hc:c<w.heap.size):(w.heap.push o)[c]? = w.heap[c]? := by
 rw[Array.getElem?_push,if_neg (by omega)]
theorem Tie.ar (R:Tie D E n0 V φ h w) {k:Nat} (hk:h.next<=k):φ k=none:=by
 cases hx:φ k with
 | none=>rfl
 | some x=>
  obtain⟨c,b,e⟩:=x;have:=(R.dom _ _ _ _ hx).1;omega
theorem H.ae {h:H} {k:Nat} {B:Blk} (hb:h.blk k=some B):h.dyn.get k=some B:=by
 unfold H.blk at hb;split at hb
 ·next hd=>
  split at hb
  ·cases hb;exact hd
  ·cases hb
 ·exact hb
theorem Tie.fj (R:Tie D E n0 V φ h w) {k:Nat} {B:Blk} (hb:h.blk k=some B):k<h.next:=by
 have:=H.ae hb;rcases P1 k h.next with hk|hk
 ·exact hk
 ·rw[R.fresh k hk] at this;cases this
def Blk.plain:Blk->Bool
 | .cells _ _ (some _)=>false
 | _=>true
theorem Uc (R:Tie D E n0 V φ h w) {B:Blk} (hB:B.plain=true) (k:Nat):(h.new B).blk k=if k=h.next then some B else h.blk k:=by
 unfold H.blk H.new;by_cases hk:k=h.next
 ·subst hk;rw[if_pos rfl];simp only[T.get_set_same];cases B with
  | cells xs ty root=>cases root<;>simp_all [Blk.plain]
  | _=>rfl
 ·rw[if_neg hk];simp only[T.get_set_ne _ _ _ _ hk];rfl
theorem Tie.new (R:Tie D E n0 V φ h w) {B:Blk} (hB:B.plain=true) (o:Obj) (hw:w'.heap=w.heap.push o) (hT:CV D (upd φ h.next (w.heap.size,0,0)) w' w.heap.size 0 0 B) :
  Tie D E n0 V (upd φ h.next (w.heap.size,0,0)) (h.new B) w':=by
 have hnone:=R.ar (C0 h.next);have hle:Le φ (upd φ h.next (w.heap.size,0,0)):=Dn hnone;have hold:∀ c,c<w.heap.size->w'.heap[c]? = w.heap[c]? := fun c hc=>by rw[hw];exact CH w o hc
 have hsz:w'.heap.size=w.heap.size+1:=by rw[hw];simp
 have hbk:=Uc R hB;refine⟨?_,?_,?_,?_,?_,?_,?_,?_⟩
 ·intro b o v hv;obtain⟨h1,h2,h3⟩:=R.ro b o v hv;refine⟨h1,?_,h3⟩;rw[<- h2];simp only[World.cell?,hold b (Q1 h1 R.size)]
 ·have:=R.size;omega
 ·intro k c b e hk;by_cases ek:k=h.next
  ·subst ek;rw[AR] at hk;cases hk;have:=R.size;exact⟨by simp[H.new],by omega,by omega⟩
  ·rw[BH _ _ ek] at hk;obtain⟨a,b',c'⟩:=R.dom _ _ _ _ hk;exact⟨by simp[H.new];omega,b',by omega⟩
 ·intro k B' c b e hV hb hk;rw[hbk] at hb;by_cases ek:k=h.next
  ·subst ek;rw[if_pos rfl] at hb;cases hb;rw[AR] at hk;cases hk;exact hT
  ·rw[if_neg ek] at hb;rw[BH _ _ ek] at hk;exact (R.blk _ _ _ _ _ hV hb hk).le hle (hold c (R.dom _ _ _ _ hk).2.2)
 ·intro j k B1 B2 c b e b' e' hjk h1 h2 n1 n2 hj hk;rw[hbk] at h1 h2;by_cases ej:j=h.next
  ·subst ej;rw[AR] at hj;cases hj;by_cases ek:k=h.next
   ·exact absurd ek.symm hjk
   ·rw[BH _ _ ek] at hk;have:=(R.dom _ _ _ _ hk).2.2;omega
  ·rw[if_neg ej] at h1;rw[BH _ _ ej] at hj;by_cases ek:k=h.next
   ·subst ek;rw[AR] at hk;cases hk;have:=(R.dom _ _ _ _ hj).2.2;omega
   ·rw[if_neg ek] at h2;rw[BH _ _ ek] at hk;exact R.apart _ _ _ _ _ _ _ _ _ hjk h1 h2 n1 n2 hj hk
 ·intro k xs ty c b e hd hk;by_cases ek:k=h.next
  ·subst ek;rw[AR] at hk;cases hk;rfl
  ·rw[BH _ _ ek] at hk;simp only[H.new,T.get_set_ne _ _ _ _ ek] at hd;exact R.exact _ _ _ _ _ _ hd hk
 ·intro k hk;simp only[H.new] at hk ⊢;rw[T.get_set_ne _ _ _ _ (by omega)];exact R.fresh k (by omega)
 ·intro k xs ty r p hd;simp only[H.new] at hd ⊢;by_cases ek:k=h.next
  ·subst ek;rw[T.get_set_same] at hd;cases hd;simp[Blk.plain] at hB
  ·rw[T.get_set_ne _ _ _ _ ek] at hd;have:=R.root _ _ _ _ _ hd;omega
theorem Kept.push (φ:Ph) {w w':World} (o:Obj) (hw:w'.heap=w.heap.push o) (h1:w'.os=w.os) (h2:w'.tape=w.tape) (h3:w'.output=w.output):Kept φ w w':=
 ⟨h1,h2,h3,by rw[hw];simp,fun c hc _=>by rw[hw];exact CH w o hc⟩
theorem Tie.dm (R:Tie D E n0 V φ h w) (xs:List Value) (ty:TypeId) (hx:∀ x∈xs,okV φ x) (hw:w'.heap=w.heap.push (.cells (xs.map (ren φ)).toArray ty (0,0))) :
  Tie D E n0 V (upd φ h.next (w.heap.size,0,0)) (h.new (.cells xs ty none)) w':=by
 have hle:Le φ (upd φ h.next (w.heap.size,0,0)):=Dn (R.ar (C0 h.next));refine R.new rfl _ hw (.inr ⟨(xs.map (ren φ)).toArray,ty,(0,0),by rw[hw];simp,.inl rfl,?_,by simp,fun _ _=>⟨rfl,rfl,by simp⟩⟩);intro i x hi;have hok:=hx x (H3 hi);refine⟨ren φ x,by simp[hi],fun _ => ?_⟩;have:=okV.le hle hok;exact⟨this.1,this.2.symm⟩
end
theorem Addr.add_plain (c off i:Nat):(⟨c,off,none⟩:Addr).add i=⟨c,off+i,none⟩:=by
 unfold Addr.add
 split<;>simp_all
theorem DD (P:Program) (c off:Nat) (u:TypeId) (fz:Nat×Nat):∀ (vs:List Value) (i:Nat) (cs:Array Value) (w:World),w.heap[c]? = some (.cells cs u fz)->off+i+vs.length<=cs.size->Open cs.size fz->
  (∀ v∈vs,v.oneCell'=true)->∃ w' cs',(storeCells ⟨c,off,none⟩ vs i).run P w=.ok () w'/\w'.heap[c]? = some (.cells cs' u fz)/\(∀ d,d≠c->w'.heap[d]? = w.heap[d]?)/\w'.heap.size=w.heap.size/\cs'.size=cs.size/\
   (∀ j,cs'[j]? = if off+i<=j/\j<off+i+vs.length then vs[j-(off+i)]? else cs[j]?)/\w'.os=w.os/\w'.tape=w.tape/\w'.output=w.output:=by
 intro vs;induction vs with
 | nil=>
  intro i cs w hb hs ho hv;refine⟨w,cs,by simp[storeCells],hb,fun _ _=>rfl,rfl,rfl,fun j => ?_,rfl,rfl,rfl⟩;rw[if_neg (by simp)]
 | cons v vs ih=>
  intro i cs w hb hs ho hv;simp only[I1] at hs;have hc:w.cell? ⟨c,off+i,none⟩=some (cs[off+i]'(by omega)):=by simp[World.cell?,hb]
  have hf:w.frozen? ⟨c,off+i,none⟩=false:=by
   simp only[World.frozen?,hb];rcases ho with ho|ho
   ·simp;omega
   ·simp;omega
  have hst:(store ((⟨c,off,none⟩:Addr).add i) v).run P w=.ok () (w.setCell ⟨c,off+i,none⟩ v):=by
   rw[Addr.add_plain,run_store P w _ v _ (hv v (by simp))];simp only[hc,hf];rfl
  have hb':(w.setCell ⟨c,off+i,none⟩ v).heap[c]? = some (.cells (cs.setIfInBounds (off+i) v) u fz):=by
   simp only[World.setCell,E7,if_pos,hb];simp
  obtain⟨w',cs',h1,h2,h3,h4,h5,h6,h7,h8,h9⟩:=ih (i+1) (cs.setIfInBounds (off+i) v) (w.setCell ⟨c,off+i,none⟩ v) hb' (by simp;omega) (by simpa using ho) (fun x hx=>hv x (by simp[hx]));refine⟨w',cs',?_,h2,?_,?_,?_,?_,h7,h8,h9⟩
  ·rw[storeCells,Sem.run_bind,hst];exact h1
  ·intro d hd;rw[h3 d hd];simp only[World.setCell,E7];rw[if_neg (by omega)]
  ·rw[h4];simp[World.setCell]
  ·rw[h5];simp
  ·intro j;rw[h6 j];by_cases hj:off+(i+1)<=j/\j<off+(i+1)+vs.length
   ·rw[if_pos hj,if_pos (by simp;omega)];have:j-(off+i)=(j-(off+(i+1)))+1:=by omega
    rw[this,E2]
   ·rw[if_neg hj];by_cases hj2:j=off+i
    ·subst hj2;rw[if_pos (by simp)];simp[Q3,show off+i<cs.size by omega]
    ·rw[if_neg (by simp;omega)];rw[Q3,if_neg (fun h=>hj2 h.symm)]
section
variable {D:Tab} {E:Env} {n0:Nat} {V:Nat->Prop} {φ φ':Ph} {h h':H} {w w':World}
theorem H.bc (h:H) (ks:List Nat) (k:Nat):(h.note ks).blk k=h.blk k:=by
 unfold H.note;split<;>rfl
theorem H.au (h:H) (ks:List Nat):(h.note ks).dyn=h.dyn:=by
 unfold H.note;split<;>rfl
theorem H.ai (h:H) (ks:List Nat):(h.note ks).next=h.next:=by
 unfold H.note;split<;>rfl
theorem Tie.note (R:Tie D E n0 V φ h w) (ks:List Nat):Tie D E n0 V φ (h.note ks) w:=
 ⟨R.ro,R.size,fun k c b e hk=>by rw[H.ai];exact R.dom k c b e hk,fun k B c b e hV hB hk=>R.blk k B c b e hV (by rw[H.bc] at hB;exact hB) hk,
  fun j k B B' c b e b' e' hjk h1 h2=>R.apart j k B B' c b e b' e' hjk (by rw[H.bc] at h1;exact h1) (by rw[H.bc] at h2;exact h2),
  fun k xs ty c b e hd=>R.exact k xs ty c b e (by rw[H.au] at hd;exact hd),fun k hk=>by rw[H.au];rw[H.ai] at hk;exact R.fresh k hk,
  fun k xs ty r p hd=>by rw[H.ai];rw[H.au] at hd;exact R.root k xs ty r p hd⟩
theorem Tie.marked (R:Tie D E n0 V φ h w) (m:Nat) (l:List Nat):Tie D E n0 V φ { h with mark:=m,log:=l } w:=
 ⟨R.ro,R.size,R.dom,R.blk,R.apart,R.exact,R.fresh,R.root⟩
theorem Dj {h:H} {k:Nat} {xs:List Value} {ty:TypeId} {r p:Nat} (hd:h.dyn.get k=some (.cells xs ty (some (r,p)))):h.blk k=if (h.chain r).contains k then some (.cells xs ty (some (r,p))) else none:=by
 unfold H.blk;simp only[hd];split
 ·next hc=>rw[if_pos hc]
 ·next hc=>rw[if_neg (by rw[hc];exact Bool.false_ne_true)]
theorem Ec {h:H} {k:Nat} {xs:List Value} {ty:TypeId} {r p:Nat} (hb:h.blk k=some (.cells xs ty (some (r,p)))):k∈h.chain r:=by
 have hd:=H.ae hb;rw[Dj hd] at hb;split at hb
 ·simpa using (by assumption:(h.chain r).contains k=true)
 ·cases hb
theorem JB (h:H) (r r':Nat) (l:List Nat):({ h with chains:=h.chains.set r l }:H).chain r'=if r'=r then l else h.chain r':=by
 unfold H.chain;simp only[T.get_set]
 split<;>rfl
def GM (xs:List Value) (off:Nat) (vs:List Value):List Value:=xs.take off++vs++xs.drop (off+vs.length)
theorem GL {xs:List Value} {off:Nat} {vs:List Value} (hl:off+vs.length<=xs.length):(GM xs off vs).length=xs.length:=by
 simp[GM];omega
theorem Jj {xs:List Value} {off:Nat} {vs:List Value} (hl:off+vs.length<=xs.length) (i:Nat):(GM xs off vs)[i]? = if off<=i/\i<off+vs.length then vs[i-off]? else xs[i]? := by
 unfold GM;by_cases h1:i<off
 ·rw[if_neg (by omega),O4 (by simp;omega),O4 (by simp;omega),List.getElem?_take,if_pos h1]
 ·by_cases h2:i<off+vs.length
  ·rw[if_pos ⟨by omega,h2⟩,O4 (by simp;omega),P6 (by simp;omega)];congr 1;simp;omega
  ·rw[if_neg (by omega),P6 (by simp;omega),D6];congr 1;simp;omega
def H.wrote (h:H) (k:Nat) (B:Blk) (root:Option (Nat×Nat)) (l:List Nat):H:=
 match root with
 | none=>{ h with dyn:=h.dyn.set k B }
 | some (r,_)=>{ h with dyn:=h.dyn.set k B,chains:=h.chains.set r l }
theorem Gn (h:H) (k:Nat) (B:Blk) (root:Option (Nat×Nat)) (l:List Nat):(h.wrote k B root l).next=h.next:=by unfold H.wrote;split<;>rfl
theorem Ep (h:H) (k:Nat) (B:Blk) (root:Option (Nat×Nat)) (l:List Nat):(h.wrote k B root l).dyn=h.dyn.set k B:=by unfold H.wrote;split<;>rfl
theorem Lo {h:H} {k:Nat} {xs':List Value} {ty:TypeId} {root:Option (Nat×Nat)} {l:List Nat} (hl:∀ r p,root=some (r,p)->k∈l/\∀ j∈l,j∈h.chain r) {j:Nat} {B:Blk}
  (hj:(h.wrote k (.cells xs' ty root) root l).blk j=some B):(j=k/\B=.cells xs' ty root)\/(j≠k/\h.blk j=some B/\∀ r p ys u q,root=some (r,p)->B=.cells ys u (some (r,q))->j∈l):=by
 by_cases ej:j=k
 ·subst ej;left;have:=H.ae hj;rw[Ep,T.get_set_same] at this;cases this;exact⟨rfl,rfl⟩
 ·right;refine⟨ej,?_⟩;have hd:=H.ae hj;rw[Ep,T.get_set_ne _ _ _ _ ej] at hd;cases B with
  | cells ys u rt=>
   cases rt with
   | none=>exact⟨by unfold H.blk;rw[hd],fun _ _ _ _ _ _ he=>by cases he⟩
   | some rq=>
    obtain⟨r',q⟩:=rq;have hm:j∈(h.wrote k (.cells xs' ty root) root l).chain r':=Ec hj;cases root with
    | none=>exact⟨by rw[Dj hd,if_pos (by simpa [H.wrote,H.chain] using hm)],fun _ _ _ _ _ he _=>by cases he⟩
    | some rp=>
     obtain⟨r,p⟩:=rp;simp only[H.wrote] at hm;have hm':j∈(if r'=r then l else h.chain r'):=by
      simp only[H.chain,T.get_set] at hm ⊢;split
      ·next e=>rw[if_pos e] at hm;exact hm
      ·next e=>rw[if_neg e] at hm;exact hm
     split at hm'
     ·next e=>subst e;exact⟨by rw[Dj hd,if_pos (by simpa using (hl r' p rfl).2 j hm')],fun _ _ _ _ _ he he'=>by cases he;cases he'; exact hm'⟩
     ·next e=>exact⟨by rw[Dj hd,if_pos (by simpa using hm')],fun _ _ _ _ _ he he'=>by cases he;cases he'; exact absurd rfl e⟩
  | map es c=>exact⟨by unfold H.blk;rw[hd],fun _ _ _ _ _ _ he=>by cases he⟩
  | siter s p=>exact⟨by unfold H.blk;rw[hd],fun _ _ _ _ _ _ he=>by cases he⟩
  | defd t=>exact⟨by unfold H.blk;rw[hd],fun _ _ _ _ _ _ he=>by cases he⟩
  | loop r=>exact⟨by unfold H.blk;rw[hd],fun _ _ _ _ _ _ he=>by cases he⟩
def H.left (h:H) (k off n:Nat):Option (Nat×Nat)->List Nat
 | none=>[]
 | some (r,p)=>h.spare r k (p+off) (p+off+n)
theorem QQ (h:H) (a:Addr) (xs vs:List Value) (ty:TypeId) (root:Option (Nat×Nat)) :
  (match root with
   | none=>some ({ h with dyn:=h.dyn.set a.block (.cells (xs.take a.off++vs++xs.drop (a.off+vs.length)) ty root) }.note [a.block])
   | some (r,p)=>some ({ h with dyn:=h.dyn.set a.block (.cells (xs.take a.off++vs++xs.drop (a.off+vs.length)) ty root),chains:=h.chains.set r (h.spare r a.block (p+a.off) (p+a.off+vs.length)) }.note (a.block::h.gone r a.block (p+a.off) (p+a.off+vs.length))))=
  some ((h.wrote a.block (.cells (GM xs a.off vs) ty root) root (h.left a.block a.off vs.length root)).note (match root with|none=>[a.block]|some (r,p)=>a.block::h.gone r a.block (p+a.off) (p+a.off+vs.length))):=by
 cases root with
 | none=>rfl
 | some rp=>obtain⟨r,p⟩:=rp;rfl
theorem Tie.wrote (R:Tie D E n0 V φ h w) {k c b e off:Nat} {xs vs:List Value} {ty:TypeId} {root:Option (Nat×Nat)} {cs cs':Array Value} {u:TypeId} {fz:Nat×Nat}
  (hb:h.blk k=some (.cells xs ty root)) (hk:φ k=some (c,b,e)) (L:V k->ACW D φ w c b e xs ty root cs u fz) (hbl:w.heap[c]? = some (.cells cs u fz))
  (hl:off+vs.length<=xs.length) (h0:0<vs.length) (hv:∀ v∈vs,okV φ v)
  (hw1:w'.heap[c]? = some (.cells cs' u fz)) (hw2:∀ d,d≠c->w'.heap[d]? = w.heap[d]?) (hw3:w'.heap.size=w.heap.size) (hs:cs'.size=cs.size)
  (hg:∀ j,cs'[j]? = if b+off<=j/\j<b+off+vs.length then (vs.map (ren φ))[j-(b+off)]? else cs[j]?) :
  Tie D E n0 V φ (h.wrote k (.cells (GM xs off vs) ty root) root (h.left k off vs.length root)) w':=by
 have hchain:∀ r p,root=some (r,p)->k∈(h.left k off vs.length root)/\∀ j∈(h.left k off vs.length root),j∈h.chain r:=by
  intro r p he;subst he;refine⟨?_,?_⟩
  ·simp only[H.left,H.spare,O5];exact⟨Ec hb,by simp[H.ay]⟩
  ·intro j hj;simp only[H.left,H.spare,O5] at hj;exact hj.1
 have hcn:n0<=c:=(R.dom _ _ _ _ hk).2.1;have hkn:k<h.next:=(R.dom _ _ _ _ hk).1;refine⟨?_,?_,?_,?_,?_,?_,?_,?_⟩
 ·intro b' o v he;obtain⟨a1,a2,a3⟩:=R.ro b' o v he;refine⟨a1,?_,a3⟩;rw[<- a2];simp only[World.cell?,hw2 b' (by omega)]
 ·rw[hw3];exact R.size
 ·intro j c' b' e' hj;rw[Gn,hw3];exact R.dom _ _ _ _ hj
 ·intro j B c' b' e' hVj hj hφ;rcases Lo hchain hj with⟨rfl,rfl⟩|⟨hne,hbj,hin⟩
  ·rw[hk] at hφ;cases hφ;have L:=L hVj
   refine .inr ⟨cs',u,fz,hw1,by rw[hs];exact L.opn,?_,?_,fun h1 h2=>by
    obtain⟨g1,g2,g3⟩:=L.whole h1 h2;exact⟨g1,g2,by rw[hs,GL hl,g3]⟩⟩
   ·intro i x hx;rw[Jj hl] at hx;rw[hg];by_cases hi:off<=i/\i<off+vs.length
    ·rw[if_pos hi] at hx;rw[if_pos (by omega)];have:b+i-(b+off)=i-off:=by omega
     rw[this,J3,hx];exact⟨ren φ x,rfl,fun _=>⟨hv x (H3 hx),rfl⟩⟩
    ·rw[if_neg hi] at hx;rw[if_neg (by omega)];exact L.cell i x hx
   ·intro hr;obtain⟨h1,i,h2,h3⟩:=L.room hr;exact⟨h1,i,h2,by rw[hs,GL hl,h3]⟩
  ·have T:=R.blk _ _ _ _ _ hVj hbj hφ;by_cases ec:c'=c
   ·subst ec;by_cases hh:B.hollow e'=true
    ·exact CV.bp hh
    ·have hxs:xs≠[]:=by intro h0'; subst h0'; exact absurd hl (by simp only[H4];omega)
     have hk':(Blk.cells xs ty root).hollow e=false:=by cases xs with|nil=>exact absurd rfl hxs|cons _ _=>rfl
     obtain⟨ys,uy,r,q,xs1,ty1,p,rfl,hB',hpq⟩:=R.apart j k B (.cells xs ty root) _ _ _ _ _ hne hbj hb (by simpa using hh) hk' hφ hk;cases hB';have hsp:=hin r p ys uy q rfl rfl;simp only[H.left,H.spare,O5] at hsp;have hnh:h.ay k (p+off) (p+off+vs.length) j=false:=by simpa using hsp.2
     simp only[H.ay,H.ae hbj] at hnh;have hjk:Nat.beq j k=false:=by cases hb2:Nat.beq j k with|false=>rfl|true=>exact absurd (U0 hb2) hne
     rw[hjk] at hnh;simp only[Bool.and_eq_false_iff] at hnh;rcases T with⟨hy,hr⟩|⟨cs1,u1,fz1,L1⟩
     ·subst hy;rcases hr with hr|rfl
      ·cases hr
      ·exact absurd rfl hh
     ·have e1:cs1=cs/\u1=u/\fz1=fz:=by
       have:=L1.block;rw[hbl] at this;cases this;exact⟨rfl,rfl,rfl⟩
      obtain⟨rfl,rfl,rfl⟩:=e1;refine .inr ⟨cs',u1,fz1,hw1,by rw[hs];exact L1.opn,?_,?_,fun h1 _=>by cases h1⟩
      ·intro i x hx;have hi:i<ys.length:=(O0.1 hx).1;rw[hg,if_neg]
       ·exact L1.cell i x hx
       ·rintro⟨g1,g2⟩;rcases hnh with (hnh|hnh)|hnh
        ·have:¬ (p+off<q+ys.length):=fun hlt=>by rw[show Nat.blt _ _=true from by rw[P0];exact hlt] at hnh;cases hnh
         omega
        ·have:¬ (q<p+off+vs.length):=fun hlt=>by rw[show Nat.blt _ _=true from by rw[P0];exact hlt] at hnh;cases hnh
         omega
        ·have:¬ (0<ys.length):=fun hlt=>by rw[show Nat.blt _ _=true from by rw[P0];exact hlt] at hnh;cases hnh
         omega
      ·intro hr;obtain⟨g1,i,g2,g3⟩:=L1.room hr;exact⟨g1,i,g2,by rw[hs];exact g3⟩
   ·exact T.le (Le.refl _) (hw2 c' ec)
 ·intro j j' B B' c' b1 e1 b2 e2 hjj h1 h2 n1 n2 hj hj';have conv:∀ {i e:Nat} {B:Blk},(h.wrote k (.cells (GM xs off vs) ty root) root (h.left k off vs.length root)).blk i=some B->B.hollow e=false->
    ∃ B0,h.blk i=some B0/\B0.hollow e=false/\(∀ ys u r p,B0=.cells ys u (some (r,p))->∃ ys',B=.cells ys' u (some (r,p)))/\(i≠k->B0=B):=by
   intro i e B hi hn;rcases Lo hchain hi with⟨rfl,rfl⟩|⟨hne,hbi,_⟩
   ·refine⟨Blk.cells xs ty root,hb,?_,fun ys u r p he=>⟨GM xs off vs,by cases he;rfl⟩,fun hne=>absurd rfl hne⟩;cases xs with
    | nil=>exact absurd hl (by simp only[H4];omega)
    | cons _ _=>rfl
   ·exact⟨B,hbi,hn,fun ys u r p he=>⟨ys,he⟩,fun _=>rfl⟩
  obtain⟨B0,g1,g2,g3,_⟩:=conv h1 n1
  obtain⟨B0',g1',g2',g3',_⟩:=conv h2 n2
  obtain⟨ys,u1,r,p,ys',u2,p',rfl,rfl,hpp⟩:=R.apart _ _ _ _ _ _ _ _ _ hjj g1 g1' g2 g2' hj hj';obtain⟨z,rfl⟩:=g3 _ _ _ _ rfl;obtain⟨z',rfl⟩:=g3' _ _ _ _ rfl;exact⟨_,_,_,_,_,_,_,rfl,rfl,hpp⟩
 ·intro j ys u1 c' b' e' hd hj;rw[Ep,T.get_set] at hd;split at hd
  ·next ej=>subst ej;cases hd;exact R.exact _ _ _ _ _ _ (H.ae hb) hj
  ·exact R.exact _ _ _ _ _ _ hd hj
 ·intro j hj;rw[Gn] at hj;rw[Ep,T.get_set_ne _ _ _ _ (by omega)];exact R.fresh j hj
 ·intro j ys u1 r p hd;rw[Gn];rw[Ep,T.get_set] at hd;split at hd
  ·next ej=>cases hd;exact R.root _ _ _ _ _ (H.ae hb)
  ·exact R.root _ _ _ _ _ hd
theorem Tie.put (P:Program) (R:Tie D E n0 V φ h w) {a:Addr} {vs:List Value} (ha:okA φ a) (hV:a.spot=some 0->V a.block) (hp:h.put a vs=some h') (hv:∀ v∈vs,okV φ v) :
  ∃ w',(storeCells (renA φ a) (vs.map (ren φ))).run P w=.ok () w'/\Tie D E n0 V φ h' w'/\Kept φ w w':=by
 unfold H.put at hp;split at hp
 ·cases hp;exact⟨w,by simp[storeCells],R,Kept.refl _ _⟩
 ·next hne=>
  split at hp
  ·next hs=>
   split at hp
   ·next xs ty root hb=>
    split at hp
    ·next hle=>
     simp only[K0,Z0,O2] at hle;have hp:=(QQ h a xs vs ty root).symm.trans hp;cases hp;have h0:0<vs.length:=by cases vs with|nil=>exact absurd rfl hne|cons _ _=>simp
     rcases ha with ha|⟨_,hk⟩|⟨_,ha⟩
     ·rw[hs] at ha;cases ha
     rotate_left
     ·rw[hs] at ha;cases ha
     obtain⟨⟨c,b,e⟩,hk⟩:=J1.1 hk;rcases R.blk _ _ _ _ _ (hV hs) hb hk with⟨rfl,_⟩|⟨cs,u,fz,L⟩
     ·exact absurd hle.1 (by simp only[H4];omega)
     have hren:renA φ a=⟨c,b+a.off,none⟩:=by simp only[renA,hs,hk]
     have hsz:b+a.off+vs.length<=cs.size:=by
      obtain⟨y,hy,_⟩:=L.cell (a.off+vs.length-1) (xs[a.off+vs.length-1]'(by omega)) (Q0 (by omega));have:=(Q6.1 hy).1;omega
     obtain⟨w',cs',r1,r2,r3,r4,r5,r6,r7,r8,r9⟩:=DD P c (b+a.off) u fz (vs.map (ren φ)) 0 cs w L.block (by simpa using hsz) L.opn (by
      intro v hv';obtain⟨x,hx,rfl⟩:=List.mem_map.1 hv';exact Ju (by rw[MV];exact hle.2 x hx))
     refine⟨w',by rw[hren];exact r1,?_,⟨r7,r8,r9,by omega,?_⟩⟩
     ·exact (R.wrote hb hk (fun _=>L) L.block hle.1 h0 hv r2 r3 r4 r5 (fun j=>by rw[r6 j];simp only[E3,T5])).note _
     ·intro d hd hn;exact r3 d (fun e=>hn a.block b _ (by rw[e];exact hk))
    ·cases hp
   ·cases hp
  ·cases hp
theorem Bf {a:Addr} {vs:List Value} (hp:h.put a vs=some h'):h'.next=h.next:=by
 unfold H.put at hp;split at hp
 ·cases hp;rfl
 ·split at hp
  ·split at hp
   ·split at hp
    ·split at hp<;>(cases hp;rw[H.ai])
    ·cases hp
   ·cases hp
  ·cases hp
theorem Ag (h:H) (k:Nat) (b:Blk):(h.aq k b).next=h.next:=by rw[H.aq,H.ai]
theorem Bz (h:H) (e:TypeId) (r p len self:Nat) (xs cs:List Value):(h.grow e r p len self xs cs).next=h.next+1:=by rw[H.grow,H.ai]
end
def H.join (h:H) (ys:List Value) (ty:TypeId) (r p:Nat) (l:List Nat):H:=
 { h with next:=h.next+1,dyn:=h.dyn.set h.next (.cells ys ty (some (r,p))),chains:=h.chains.set r (h.next::l) }
section
variable {D:Tab} {E:Env} {n0:Nat} {V:Nat->Prop} {φ φ':Ph} {h h':H} {w w':World}
theorem Hu {ys:List Value} {ty:TypeId} {r p:Nat} {l:List Nat} (hl:∀ j∈l,j∈h.chain r) {j:Nat} {B:Blk} (hj:(h.join ys ty r p l).blk j=some B) :
  (j=h.next/\B=.cells ys ty (some (r,p)))\/(j≠h.next/\h.blk j=some B/\∀ xs u q,B=.cells xs u (some (r,q))->j∈l):=by
 by_cases ej:j=h.next
 ·subst ej;have:=H.ae hj;simp only[H.join,T.get_set_same] at this;cases this;exact .inl ⟨rfl,rfl⟩
 ·right;refine⟨ej,?_⟩;have hd:=H.ae hj;simp only[H.join,T.get_set_ne _ _ _ _ ej] at hd;cases B with
  | cells xs u rt=>
   cases rt with
   | none=>exact⟨by unfold H.blk;rw[hd],fun _ _ _ he=>by cases he⟩
   | some rq=>
    obtain⟨r',q⟩:=rq;have hm:j∈(h.join ys ty r p l).chain r':=Ec hj;have hm':j∈(if r'=r then h.next::l else h.chain r'):=by
     simp only[H.chain,H.join,T.get_set] at hm ⊢;split
     ·next e=>rw[if_pos e] at hm;exact hm
     ·next e=>rw[if_neg e] at hm;exact hm
    split at hm'
    ·next e=>
     subst e;have hjl:j∈l:=by
      rcases O1.1 hm' with h1|h1
      ·exact absurd h1 ej
      ·exact h1
     exact⟨by rw[Dj hd,if_pos (by simpa using hl j hjl)],fun _ _ _ he=>by cases he;exact hjl⟩
    ·next e=>exact⟨by rw[Dj hd,if_pos (by simpa using hm')],fun _ _ _ he=>by cases he;exact absurd rfl e⟩
  | map es c=>exact⟨by unfold H.blk;rw[hd],fun _ _ _ he=>by cases he⟩
  | siter s p=>exact⟨by unfold H.blk;rw[hd],fun _ _ _ he=>by cases he⟩
  | defd t=>exact⟨by unfold H.blk;rw[hd],fun _ _ _ he=>by cases he⟩
  | loop r=>exact⟨by unfold H.blk;rw[hd],fun _ _ _ he=>by cases he⟩
theorem Tie.join (R:Tie D E n0 V φ h w) {ys:List Value} {ty:TypeId} {r p c b e:Nat} {l:List Nat} (hr:r<=h.next) (hl:∀ j∈l,j∈h.chain r) (hn:n0<=c) (hc:c<w'.heap.size) (hs:w.heap.size<=w'.heap.size)
  (hw:∀ d,d<w.heap.size->d≠c->w'.heap[d]? = w.heap[d]?) (hT:V h.next->CV D (upd φ h.next (c,b,e)) w' c b e (.cells ys ty (some (r,p))))
  (hold:∀ k B b' e',V k->h.blk k=some B->(∀ xs u q,B=.cells xs u (some (r,q))->k∈l)->φ k=some (c,b',e')->CV D (upd φ h.next (c,b,e)) w' c b' e' B)
  (hap:∀ k B b' e',(Blk.cells ys ty (some (r,p))).hollow e=false->h.blk k=some B->B.hollow e'=false->φ k=some (c,b',e')->∃ xs u q,B=.cells xs u (some (r,q))/\b+q=b'+p) :
  Tie D E n0 V (upd φ h.next (c,b,e)) (h.join ys ty r p l) w':=by
 have hle:Le φ (upd φ h.next (c,b,e)):=Dn (R.ar (C0 _));refine⟨?_,?_,?_,?_,?_,?_,?_,?_⟩
 ·intro b' o v hv;obtain⟨h1,h2,h3⟩:=R.ro b' o v hv;refine⟨h1,?_,h3⟩;rw[<- h2];simp only[World.cell?,hw b' (Q1 h1 R.size) (by omega)]
 ·exact Y0 R.size hs
 ·intro k c' b' e' hk;by_cases ek:k=h.next
  ·subst ek;rw[AR] at hk;cases hk;exact⟨by simp[H.join],hn,hc⟩
  ·rw[BH _ _ ek] at hk;obtain⟨g1,g2,g3⟩:=R.dom _ _ _ _ hk;exact⟨by simp[H.join];omega,g2,by omega⟩
 ·intro k B c' b' e' hV hk hφ;rcases Hu hl hk with⟨rfl,rfl⟩|⟨ek,hb,hin⟩
  ·rw[AR] at hφ;cases hφ;exact hT hV
  ·rw[BH _ _ ek] at hφ;by_cases ec:c'=c
   ·subst ec;exact hold _ _ _ _ hV hb hin hφ
   ·exact (R.blk _ _ _ _ _ hV hb hφ).le hle (hw c' (R.dom _ _ _ _ hφ).2.2 ec)
 ·intro j k B B' c' b1 e1 b2 e2 hjk h1 h2 n1 n2 hj hk;rcases Hu hl h1 with⟨rfl,rfl⟩|⟨ej,hb1,_⟩
  ·rw[AR] at hj;cases hj;rcases Hu hl h2 with⟨rfl,rfl⟩|⟨ek,hb2,_⟩
   ·exact absurd rfl hjk
   ·rw[BH _ _ ek] at hk;obtain⟨xs,u,q,rfl,hq⟩:=hap _ _ _ _ n1 hb2 n2 hk;exact⟨_,_,_,_,_,_,_,rfl,rfl,hq⟩
  ·rw[BH _ _ ej] at hj;rcases Hu hl h2 with⟨rfl,rfl⟩|⟨ek,hb2,_⟩
   ·rw[AR] at hk;cases hk;obtain⟨xs,u,q,rfl,hq⟩:=hap _ _ _ _ n2 hb1 n1 hj;exact⟨_,_,_,_,_,_,_,rfl,rfl,hq.symm⟩
   ·rw[BH _ _ ek] at hk;exact R.apart _ _ _ _ _ _ _ _ _ hjk hb1 hb2 n1 n2 hj hk
 ·intro k xs u c' b' e' hd hk;by_cases ek:k=h.next
  ·subst ek;simp only[H.join,T.get_set_same] at hd;cases hd
  ·rw[BH _ _ ek] at hk;simp only[H.join,T.get_set_ne _ _ _ _ ek] at hd;exact R.exact _ _ _ _ _ _ hd hk
 ·intro k hk;simp only[H.join] at hk ⊢;rw[T.get_set_ne _ _ _ _ (by omega)];exact R.fresh k (by omega)
 ·intro k xs u r' q hd;simp only[H.join] at hd ⊢;by_cases ek:k=h.next
  ·subst ek;rw[T.get_set_same] at hd;cases hd;omega
  ·rw[T.get_set_ne _ _ _ _ ek] at hd;have:=R.root _ _ _ _ _ hd;omega
theorem Tie.af (R:Tie D E n0 V φ h w) {xs:List Value} {ty:TypeId} {i:TI} {cs:Array Value} {fz:Nat×Nat} {e:Nat} (hi:D.ty.get ty=some i) (hw:w'.heap=w.heap.push (.cells cs ty fz)) (ho:Open cs.size fz)
  (hc:∀ (j:Nat) (x:Value),xs[j]? = some x->∃ y,cs[j]? = some y/\U8 φ x y) (hs:cs.size=xs.length+e*i.size) :
  Tie D E n0 V (upd φ h.next (w.heap.size,0,e)) (h.af xs ty) w':=by
 have hle:Le φ (upd φ h.next (w.heap.size,0,e)):=Dn (R.ar (C0 _));refine R.join (r:=h.next) (p:=0) (l:=[]) (C0 _) (by simp) R.size (by rw[hw];simp) (by rw[hw];simp) (fun d hd _=>by rw[hw];exact CH w _ hd) ?_ ?_ ?_
 ·intro _;refine .inr ⟨cs,ty,fz,by rw[hw];simp,ho,fun j x hx => ?_,fun _=>⟨rfl,i,hi,by omega⟩,fun h1 _=>by cases h1⟩;obtain⟨y,hy,ht⟩:=hc j x hx;refine⟨y,by simpa using hy,fun h1 => ?_⟩;obtain⟨ok,rfl⟩:=ht h1;have:=okV.le hle ok;exact⟨this.1,this.2.symm⟩
 ·intro k B b' e' _ _ _ hk;have:=(R.dom _ _ _ _ hk).2.2;omega
 ·intro k B b' e' _ _ _ hk;have:=(R.dom _ _ _ _ hk).2.2;omega
theorem Tie.aq (R:Tie D E n0 V φ h w) {k c b e:Nat} {B0 B:Blk} (hb:h.blk k=some B0) (hc0:∀ xs ty rt,B0≠.cells xs ty rt) (hcB:∀ xs ty rt,B≠.cells xs ty rt) (hk:φ k=some (c,b,e)) {o:Obj}
  (hw:w'.heap=w.heap.setIfInBounds c o) (hT:V k->CV D φ w' c b e B):Tie D E n0 V φ (h.aq k B) w':=by
 have hother:∀ d,d≠c->w'.heap[d]? = w.heap[d]? := fun d hd=>by rw[hw,Q3,if_neg (fun h=>hd h.symm)]
 have hsz:w'.heap.size=w.heap.size:=by rw[hw];simp
 have hblk:∀ j,({ h with dyn:=h.dyn.set k B }:H).blk j=if j=k then some B else h.blk j:=by
  intro j;by_cases ej:j=k
  ·subst ej;rw[if_pos rfl];unfold H.blk;simp only[T.get_set_same];cases B with
   | cells xs ty rt=>exact absurd rfl (hcB xs ty rt)
   | _=>rfl
  ·rw[if_neg ej];unfold H.blk;simp only[T.get_set_ne _ _ _ _ ej];rfl
 have hn:∀ {e:Nat},B0.hollow e=false:=by
  intro e;cases B0 with|cells xs ty rt=>exact absurd rfl (hc0 xs ty rt)|_=>rfl
 refine Tie.note (h:={ h with dyn:=h.dyn.set k B }) ⟨?_,?_,?_,?_,?_,?_,?_,?_⟩ _
 ·intro b' o' v hv;obtain⟨h1,h2,h3⟩:=R.ro b' o' v hv;refine⟨h1,?_,h3⟩;rw[<- h2];have:=(R.dom _ _ _ _ hk).2.1;simp only[World.cell?,hother b' (by omega)]
 ·rw[hsz];exact R.size
 ·intro j c' b' e' hj;rw[hsz];exact R.dom _ _ _ _ hj
 ·intro j B' c' b' e' hV hj hφ;rw[hblk] at hj;by_cases ej:j=k
  ·subst ej;rw[if_pos rfl] at hj;cases hj;rw[hk] at hφ;cases hφ;exact hT hV
  ·rw[if_neg ej] at hj;have T:=R.blk _ _ _ _ _ hV hj hφ;by_cases ec:c'=c
   ·subst ec;by_cases hh:B'.hollow e'=true
    ·exact CV.bp hh
    ·obtain⟨_,_,_,_,_,_,_,_,hB,_⟩:=R.apart _ _ _ _ _ _ _ _ _ ej hj hb (by simpa using hh) hn hφ hk;exact absurd hB (hc0 _ _ _)
   ·exact T.le (Le.refl _) (hother c' ec)
 ·intro j j' B1 B2 c' b1 e1 b2 e2 hjj h1 h2 n1 n2 hj hj';rw[hblk] at h1 h2;by_cases ej:j=k
  ·subst ej;rw[if_pos rfl] at h1;rw[if_neg (fun h=>hjj h.symm)] at h2;obtain⟨_,_,_,_,_,_,_,hB,_⟩:=R.apart _ _ _ _ _ _ _ _ _ hjj hb h2 hn n2 hj hj';exact absurd hB (hc0 _ _ _)
  ·rw[if_neg ej] at h1;by_cases ek:j'=k
   ·subst ek;obtain⟨_,_,_,_,_,_,_,_,hB,_⟩:=R.apart _ _ _ _ _ _ _ _ _ hjj h1 hb n1 hn hj hj';exact absurd hB (hc0 _ _ _)
   ·rw[if_neg ek] at h2;exact R.apart _ _ _ _ _ _ _ _ _ hjj h1 h2 n1 n2 hj hj'
 ·intro j xs ty c' b' e' hd hj;simp only[T.get_set] at hd;split at hd
  ·cases hd;exact absurd rfl (hcB _ _ _)
  ·exact R.exact _ _ _ _ _ _ hd hj
 ·intro j hj;have:=(R.dom _ _ _ _ hk).1;show (h.dyn.set k B).get j=none;rw[T.get_set_ne _ _ _ _ (by have:h.next<=j:=hj;omega)];exact R.fresh j hj
 ·intro j xs ty r p hd;simp only[T.get_set] at hd;split at hd
  ·cases hd;exact absurd rfl (hcB _ _ _)
  ·exact R.root _ _ _ _ _ hd
theorem Tie.drop (R:Tie D E n0 V φ h w) (r:Nat) (l:List Nat) (hl:∀ j∈l,j∈h.chain r):Tie D E n0 V φ { h with chains:=h.chains.set r l } w:=by
 have hblk:∀ j B,({ h with chains:=h.chains.set r l }:H).blk j=some B->h.blk j=some B:=by
  intro j B hj;have hd:h.dyn.get j=some B:=H.ae (h:={ h with chains:=h.chains.set r l }) hj;cases B with
  | cells xs u rt=>
   cases rt with
   | none=>unfold H.blk;rw[hd]
   | some rq=>
    obtain⟨r',q⟩:=rq;have hm:=Ec hj;rw[JB] at hm;rw[Dj hd,if_pos];split at hm
    ·next e=>subst e;simpa using hl j hm
    ·simpa using hm
  | map es c=>unfold H.blk;rw[hd]
  | siter s p=>unfold H.blk;rw[hd]
  | defd t=>unfold H.blk;rw[hd]
  | loop r=>unfold H.blk;rw[hd]
 exact⟨R.ro,R.size,R.dom,fun k B c b e hV hB hk=>R.blk k B c b e hV (hblk _ _ hB) hk,fun j k B B' c b e b' e' hjk h1 h2=>R.apart j k B B' c b e b' e' hjk (hblk _ _ h1) (hblk _ _ h2),R.exact,R.fresh,R.root⟩
end
/-! ## Types -/
theorem Tab.Of.get {D:Tab} {P:Program} (T:D.Of P) {t:TypeId} {i:TI} (h:D.ty.get t=some i) :
  ∃ f d,P.info? t=some f/\P.underlying t=some d/\i.td=Hh P d/\i.size=f.size/\i.bytes=f.bytes/\i.zero=isZ f.zero/\i.eqok=(!(P.stoodInHeld t) && !(P.eqGuardType P.depth t)):=by
 have:=T.ty _ _ h;unfold AC1 at this;split at this
 ·next f d hf hd=>cases this;exact⟨f,d,hf,hd,rfl,rfl,rfl,rfl,rfl⟩
 ·cases this
def AEh:TypeDesc->Bool
 | .struct _|.array _ _=>true
 | _=>false
section td
variable {P:Program} {d:TypeDesc}
theorem BE {e:TypeId} {sz by_:Nat} (h:Hh P d=.slice e sz by_):d=.slice e/\∃ f,P.info? e=some f/\f.size=sz/\f.bytes=by_:=by
 cases d<;>simp only[Hh] at h<;>(try cases h)
 ·split at h
  ·next f hf=>cases h;exact⟨rfl,f,hf,rfl,rfl⟩
  ·cases h
 ·split at h<;>cases h
 ·split at h<;>cases h
theorem CE {n:Nat} {e:TypeId} {sz:Nat} (h:Hh P d=.array n e sz):d=.array n e/\∃ f,P.info? e=some f/\f.size=sz:=by
 cases d<;>simp only[Hh] at h<;>(try cases h)
 ·split at h<;>cases h
 ·split at h
  ·next f hf=>cases h;exact⟨rfl,f,hf,rfl⟩
  ·cases h
 ·split at h<;>cases h
theorem DR {fs:List (Nat×TypeId×Nat)} (h:Hh P d=.struct fs):∃ F,d=.struct F/\fieldsOf P F.toList=some fs:=by
 cases d<;>simp only[Hh] at h<;>(try cases h)
 ·split at h<;>cases h
 ·split at h<;>cases h
 ·next F=>
  split at h
  ·next l hl=>cases h;exact⟨F,rfl,hl⟩
  ·cases h
theorem CD {k:IntKind} (h:Hh P d=.int k):d=.int k:=by
 cases d<;>simp only[Hh] at h<;>(try cases h)<;>(try rfl)<;>(split at h<;>cases h)
theorem IL (h:Hh P d=.bool):d=.bool:=by
 cases d<;>simp only[Hh] at h<;>(try cases h)<;>(try rfl)<;>(split at h<;>cases h)
theorem BM (h:Hh P d=.string):d=.string:=by
 cases d<;>simp only[Hh] at h<;>(try cases h)<;>(try rfl)<;>(split at h<;>cases h)
theorem Er {e:TypeId} (h:Hh P d=.pointer e):d=.pointer e:=by
 cases d<;>simp only[Hh] at h<;>(try cases h)<;>(try rfl)<;>(split at h<;>cases h)
theorem DG {k e:TypeId} (h:Hh P d=.map k e):d=.map k e:=by
 cases d<;>simp only[Hh] at h<;>(try cases h)<;>(try rfl)<;>(split at h<;>cases h)
theorem IK (h:Hh P d=.func):∃ a b c,d=.func a b c:=by
 cases d<;>simp only[Hh] at h<;>(try cases h)<;>(try exact⟨_,_,_,rfl⟩)<;>(split at h<;>cases h)
theorem PF (h:(Hh P d).agg=true):(AEh d)=true:=by
 cases d<;>(try rfl)<;>(simp only[Hh] at h;first|(simp[TD.agg] at h;done)|(split at h<;>simp[TD.agg] at h))
theorem Lp (h:(Hh P d).agg=false) (h':Hh P d≠.other):(AEh d)=false:=by
 cases d<;>(try rfl)<;>(simp only[Hh] at h h'; split at h<;>simp_all [TD.agg])
theorem Hd {P:Program}:∀ {l:List Field} {fs:List (Nat×TypeId×Nat)},fieldsOf P l=some fs->fs.length=l.length/\∀ (k o u n:Nat),fs[k]? = some (o,u,n)->∃ f i,l[k]? = some f/\f.offset=o/\f.type=u/\P.info? u=some i/\i.size=n/\f.name ≠ "_" := by
 intro l;induction l with
 | nil=>intro fs h;simp only[fieldsOf] at h;cases h;exact⟨rfl,fun k o u n hk=>by simp at hk⟩
 | cons f l ih=>
  intro fs h;simp only[fieldsOf] at h;split at h
  ·next i l' hi hl=>
   split at h
   ·cases h
   ·next hnm=>
    cases h;obtain⟨g1,g2⟩:=ih hl;refine⟨by simp[g1],fun k o u n hk => ?_⟩;cases k with
    | zero=>
     simp only[N2,Option.some.injEq,Prod.mk.injEq] at hk;obtain⟨rfl,rfl,rfl⟩:=hk;exact⟨f,i,rfl,rfl,rfl,hi,rfl,by simpa using hnm⟩
    | succ k=>simpa using g2 k o u n (by simpa using hk)
  ·cases h
end td
section runs
variable {P:Program} {w:World} {t:TypeId} {f:TypeInfo} {d:TypeDesc}
theorem PW (h:P.info? t=some f):(typeInfo t).run P w=.ok f w:=by simp[typeInfo,h]
theorem EI (h:P.underlying t=some d):(underlying t).run P w=.ok d w:=by simp[underlying,h]
theorem DV (h:P.info? t=some f):(sizeOf t).run P w=.ok f.size w:=by simp[sizeOf,PW h]
theorem Vr (h:P.underlying t=some d):(isAgg t).run P w=.ok (AEh d) w:=by
 simp only[isAgg,Sem.run_bind,EI h,Result.andThen_ok];cases d<;>rfl
theorem Si (h:P.info? t=some f) {v:Value} (hz:f.zero=some v):(zeroValue t).run P w=.ok v w:=by simp[zeroValue,PW h,hz]
end runs
theorem LE {o:Option Value} {v:Value} (h:isZ o=some v):o=some v/\roV v=true:=by
 unfold isZ at h;split at h
 ·split at h
  ·cases h;exact⟨rfl,by assumption⟩
  ·cases h
 ·cases h
theorem Tab.Of.zero {D:Tab} {P:Program} (T:D.Of P) {t:TypeId} {v:Value} (h:Ak D t=some v):∃ f,P.info? t=some f/\f.zero=some v/\roV v=true:=by
 unfold Ak at h;split at h
 ·next i hi=>
  obtain⟨f,d,h1,h2,h3,h4,h5,h6,h7⟩:=T.get hi;rw[h6] at h;obtain⟨g1,g2⟩:=LE h;exact⟨f,h1,g1,g2⟩
 ·cases h
/-! ## What an operation gives -/
def FS (D:Tab) (E:Env) (n0:Nat) (V:Nat->Prop) (φ:Ph) (h:H) (w:World) (r:Result Value) (v:Value) (h':H):Prop:=
 ∃ e w',r=.ok (ren (upd φ h.next (w.heap.size,0,e)) v) w'/\okV (upd φ h.next (w.heap.size,0,e)) v/\Tie D E n0 V (upd φ h.next (w.heap.size,0,e)) h' w'/\Kept φ w w'/\
  (∀ c,c<w.heap.size->w'.heap[c]? = w.heap[c]?)/\h'.next=h.next+1
def AZ (D:Tab) (E:Env) (n0:Nat) (V:Nat->Prop) (φ:Ph) (h:H) (w:World) (r:Result Value) (v:Value) (h':H):Prop:=
 ∃ φ' w',r=.ok (ren φ' v) w'/\okV φ' v/\Tie D E n0 V φ' h' w'/\Ext φ φ' h.next h'.next w/\Kept φ w w'
theorem FS.gives {D:Tab} {E:Env} {n0:Nat} {V:Nat->Prop} {φ:Ph} {h h':H} {w:World} {r:Result Value} {v:Value} (g:FS D E n0 V φ h w r v h'):AZ D E n0 V φ h w r v h':=by
 obtain⟨e,w',h1,h2,h3,h4,_,h5⟩:=g;exact⟨_,w',h1,h2,h3,(DQ (.inl (C0 _))).of_next h5,h4⟩
section ops
variable {P:Program} {D:Tab} {E:Env} {n0:Nat} {V:Nat->Prop} {φ:Ph} {h h':H} {w:World}
theorem AZ.same (R:Tie D E n0 V φ h w) {r:Result Value} {v:Value} (hr:r=.ok (ren φ v) w) (hv:okV φ v):AZ D E n0 V φ h w r v h:=
 ⟨φ,w,hr,hv,R,Ext.refl _ _ _,Kept.refl _ _⟩
theorem Am (φ:Ph) (a:Addr):ren φ (.pointer (some a))=.pointer (some (renA φ a)):=by simp only[ren]
theorem Ad (φ:Ph) (a:Addr) (n c:Nat):ren φ (.slice (some a) n c)=.slice (some (renA φ a)) n (c+extA φ a):=by simp only[ren]
theorem NL (T:D.Of P) (R:Tie D E n0 V φ h w) {t:TypeId} {a:Addr} {v:Value} (ha:okA φ a) (hV:a.spot=some 0->V a.block) (hl:AI D E t a h=some v) :
  (loadVar t (renA φ a)).run P w=.ok (ren φ v) w/\okV φ v:=by
 unfold AI at hl;split at hl
 ·next i hi=>
  obtain⟨f,d,h1,h2,h3,h4,_⟩:=T.get hi;split at hl
  ·next hag=>
   rw[h3] at hag;split at hl
   ·next cs hcs=>
    cases hl;have hr:=Ci P R ha hV hcs;have hv:=(R.bh ha hV hcs).2;refine⟨?_,(DY φ cs).2 fun x hx => ?_⟩
    ·simp only[loadVar,Sem.run_bind,Vr h2,Result.andThen_ok,PF hag,if_true,DV h1,<- h4,hr,Sem.run_pure,Ck]
    ·obtain⟨j,hj⟩:=List.getElem?_of_mem hx;exact (hv j x hj).2.1
   ·cases hl
  ·next hag=>
   rw[h3] at hag hl;split at hl
   ·cases hl
   ·next hno=>
    obtain⟨g1,g2,_⟩:=R.cellAt ha hV hl;refine⟨?_,g2⟩;have:=Lp hag hno;simp only[loadVar,Sem.run_bind,Vr h2,Result.andThen_ok,this,Bool.false_eq_true,if_false,run_load,g1]
 ·cases hl
theorem RF (T:D.Of P) (R:Tie D E n0 V φ h w) {t:TypeId} {a:Addr} {v:Value} (ha:okA φ a) (hV:a.spot=some 0->V a.block) (hv:okV φ v) (hs:AO D t a v h=some h') :
  ∃ w',(storeVar t (renA φ a) (ren φ v)).run P w=.ok () w'/\Tie D E n0 V φ h' w'/\Kept φ w w':=by
 unfold AO at hs;split at hs
 ·next i hi=>
  obtain⟨f,d,h1,h2,h3,h4,_⟩:=T.get hi;split at hs
  ·next hl=>
   have hl:=U0 hl;obtain⟨w',g1,g2,g3⟩:=R.put P ha hV hs (Ih hv);refine⟨w',?_,g2,g3⟩;have hsz:(ren φ v).cells.size=f.size:=by
    rw[<- Q4,FH,T5,hl,h4]
   simp only[storeVar,Sem.run_bind,DV h1,Result.andThen_ok,hsz,ne_eq,not_true_eq_false,if_false,Sem.run_pure,FH,g1]
  ·cases hs
 ·cases hs
theorem EN (T:D.Of P) {t:TypeId} {cs:List Value} {off:Nat} {v:Value} (hc:∀ x∈cs,okV φ x) (hp:apart D t cs off=some v) :
  (part t (cs.map (ren φ)).toArray off).run P w=.ok (ren φ v) w/\okV φ v:=by
 unfold apart at hp;split at hp
 ·next i hi=>
  obtain⟨f,d,h1,h2,h3,h4,_⟩:=T.get hi;split at hp
  ·next hag=>
   rw[h3] at hag;cases hp;refine⟨?_,(DY φ _).2 fun x hx=>hc x (List.mem_of_mem_drop (List.mem_of_mem_take hx))⟩;simp only[part,Sem.run_bind,Vr h2,Result.andThen_ok,PF hag,if_true,DV h1,Sem.run_pure,Ck];congr 2;apply L5;simp[List.extract_eq_take_drop,List.map_take,List.map_drop,h4]
  ·next hag=>
   rw[h3] at hag hp;split at hp
   ·cases hp
   ·next hno=>
    refine⟨?_,hc v (H3 hp)⟩;simp only[part,Sem.run_bind,Vr h2,Result.andThen_ok,Lp hag hno,Bool.false_eq_true,if_false];simp[hp]
 ·cases hp
theorem Jb (T:D.Of P) {s:TypeId} {x:Value} {k:Nat} {v:Value} (hx:okV φ x) (hf:AC D s x k=some v) :
  (Instr.fieldAt s (ren φ x) k).run P w=.ok (ren φ v) w/\okV φ v:=by
 unfold AC at hf;split at hf
 ·next fs _ _ _ _ hi=>
  obtain⟨f,d,h1,h2,h3,h4,_⟩:=T.get hi;obtain⟨F,rfl,hF⟩:=DR h3.symm;split at hf
  ·next o u n a hk=>
   cases hf;obtain⟨fd,i,g1,g2,g3,g4,g5,_⟩:=(Hd hF).2 _ _ _ _ hk;have ha:okA φ a:=hx;have hA:=CM ha o;refine⟨?_,hA.2.1⟩;have g1':F[k]? = some fd:=by simpa using g1
   simp only[Instr.fieldAt,Sem.run_bind,EI h2,Result.andThen_ok,g1',Am,Instr.sureAddr,Sem.run_pure,fieldPlace,g3,DV g4,g5,Nat.add_one_ne_zero,if_false,g2,hA.1]
  ·cases hf
 ·cases hf
theorem RU (T:D.Of P) {t:TypeId} {x:Value} {k:Nat} {v:Value} (hx:okV φ x) (hf:Ut D t x k=some v) :
  (Instr.field t (ren φ x) k).run P w=.ok (ren φ v) w/\okV φ v:=by
 unfold Ut at hf;split at hf
 ·next fs _ _ _ _ hi=>
  obtain⟨f,d,h1,h2,h3,h4,_⟩:=T.get hi;obtain⟨F,rfl,hF⟩:=DR h3.symm;split at hf
  ·next o u n cs hk=>
   obtain⟨fd,i,g1,g2,g3,g4,g5,_⟩:=(Hd hF).2 _ _ _ _ hk;obtain⟨l⟩:=cs;have hl:=(DY φ l).1 hx;obtain⟨r1,r2⟩:=EN (w:=w) T hl hf;refine⟨?_,r2⟩;have g1':F[k]? = some fd:=by simpa using g1
   simp only[Instr.field,Sem.run_bind,EI h2,Result.andThen_ok,g1',Ck,asAgg,Sem.run_pure,g3,g2];exact r1
  ·cases hf
 ·cases hf
theorem Cn {i:Int} {n:Nat} (h:AN i n=true):0<=i/\i<n:=by
 unfold AN at h;split at h
 ·next i=>rw[P0] at h;exact⟨Int.natCast_nonneg i,by show (i:Int)<n;omega⟩
 ·cases h
theorem Bt (φ:Ph) (k:IntKind) (n:Int):ren φ (.int k n)=.int k n:=by simp only[ren]
theorem CS (φ:Ph) (s:ByteArray):ren φ (.string s)=.string s:=by simp only[ren]
theorem DI (φ:Ph) (b:Bool):ren φ (.bool b)=.bool b:=by simp only[ren]
theorem Ja (T:D.Of P) {t:TypeId} {x y:Value} {v:Value} (hx:okV φ x) (hf:AL D t x y=some v) :
  (Instr.indexAt t (ren φ x) (ren φ y)).run P w=.ok (ren φ v) w/\okV φ v:=by
 unfold AL at hf;split at hf
 ·next q i=>
  split at hf
  ·next len e n _ _ _ _ hi=>
   obtain⟨f,d,h1,h2,h3,h4,_⟩:=T.get hi;obtain⟨rfl,fe,k1,k2⟩:=CE h3.symm;split at hf
   ·next a hr=>
    cases hf;obtain⟨r1,r2⟩:=Cn hr;have ha:okA φ a:=hx;have hA:=CM ha (i.toNat*n);refine⟨?_,hA.2.1⟩;simp only[Instr.indexAt,Bt,Am,asIntOf,Sem.run_bind,Sem.run_pure,Result.andThen_ok,EI h2,Instr.sureAddr,r1,r2,and_self,if_true,DV k1,k2,hA.1]
   ·cases hf
  ·next e n _ _ _ _ _ hi=>
   obtain⟨f,d,h1,h2,h3,h4,_⟩:=T.get hi;obtain⟨rfl,fe,k1,k2,k3⟩:=BE h3.symm;split at hf
   ·next a len cap=>
    split at hf
    ·next hr=>
     cases hf;obtain⟨r1,r2⟩:=Cn hr;have ha:okA φ a:=hx;have hA:=CM ha (i.toNat*n);refine⟨?_,hA.2.1⟩;simp only[Instr.indexAt,Bt,Ad,Am,asIntOf,Sem.run_bind,Sem.run_pure,Result.andThen_ok,EI h2,r1,r2,and_self,if_true,DV k1,k2,hA.1]
    ·cases hf
   ·cases hf
  ·cases hf
 ·cases hf
theorem RT (T:D.Of P) {t:TypeId} {x y:Value} {v:Value} (hx:okV φ x) (hf:CP D t x y=some v) :
  (Instr.index t (ren φ x) (ren φ y)).run P w=.ok (ren φ v) w/\okV φ v:=by
 unfold CP at hf;split at hf
 ·next q i=>
  split at hf
  ·next len e n _ _ _ _ hi=>
   obtain⟨f,d,h1,h2,h3,h4,_⟩:=T.get hi;obtain⟨rfl,fe,k1,k2⟩:=CE h3.symm;split at hf
   ·next cs hr=>
    obtain⟨l⟩:=cs;obtain⟨r1,r2⟩:=Cn hr;obtain⟨g1,g2⟩:=EN (w:=w) T ((DY φ l).1 hx) hf;refine⟨?_,g2⟩;simp only[Instr.index,Bt,Ck,asIntOf,Sem.run_bind,Sem.run_pure,Result.andThen_ok,EI h2,r1,r2,and_self,if_true,DV k1,k2];exact g1
   ·cases hf
  ·next _ _ _ _ hi=>
   obtain⟨f,d,h1,h2,h3,h4,_⟩:=T.get hi;have hd:=BM h3.symm;subst hd;split at hf
   ·next s=>
    split at hf
    ·next hr=>
     obtain⟨r1,r2⟩:=Cn hr;split at hf
     ·next b hb=>
      cases hf;refine⟨?_,trivial⟩;have hb':s[i.toNat]? = some b:=by
       have hlt:i.toNat<s.size:=by
        have h9:s.data.toList.length=s.size:=Q4;omega
       rw[getElem?_pos s i.toNat hlt];have:=(O0.1 hb).2;simpa [ByteArray.getElem_eq_getElem_data] using this
      simp only[Instr.index,Bt,CS,asIntOf,Sem.run_bind,Sem.run_pure,Result.andThen_ok,EI h2,r1,if_true,hb']
     ·cases hf
    ·cases hf
   ·cases hf
  ·cases hf
 ·cases hf
end ops
/-! ## Rows of zero values -/
theorem JP (z:List Value) (n:Nat):(BB z n).length=n*z.length:=by
 induction n with
 | zero=>simp[BB]
 | succ n ih=>simp only[BB,D0,ih,Nat.succ_mul];omega
theorem NZ (z:List Value):∀ (n j:Nat),j<n*z.length->(BB z n)[j]? = z[j % z.length]? := by
 intro n;induction n with
 | zero=>intro j h;simp at h
 | succ n ih=>
  intro j h;simp only[BB];by_cases hj:j<z.length
  ·rw[O4 hj,L4 hj]
  ·rw[P6 (by omega),ih (j-z.length) (by rw[Nat.succ_mul] at h;omega)];congr 1;exact (Nat.mod_eq_sub_mod (by omega)).symm
theorem ER (z:Array Value) (n:Nat) (hz:0<z.size):(Array.range (n*z.size)).map (fun i=>z[i % z.size]!)=(BB z.toList n).toArray:=by
 apply L5;simp only[F3];apply List.ext_getElem?;intro j;by_cases hj:j<n*z.size
 ·rw[NZ z.toList n j (by simpa using hj)];have hm:j % z.size<z.size:=Nat.mod_lt _ hz;simp[hj,Array.getElem!_eq_getD,Array.getD,hm]
 ·rw[C7 (by simpa using hj),C7 (by rw[JP];simpa using hj)]
theorem ES (z:Array Value) (n:Nat) (hz:0<z.size):Builtin.zeroCells z n=(BB z.toList n).toArray:=ER z n hz
theorem Bv {z:List Value} {n:Nat} {v:Value} (h:v∈BB z n):v∈z:=by
 induction n with
 | zero=>simp[BB] at h
 | succ n ih=>
  simp only[BB,Y4] at h;rcases h with h|h
  ·exact h
  ·exact ih h
theorem EH {v:Value} (h:roV v=true):∀ c∈v.cells.toList,roV c=true:=by
 cases v with
 | agg xs=>obtain⟨l⟩:=xs;intro c hc;exact (ZR l).1 h c (by simpa [Value.cells] using hc)
 | _=>intro c hc;simp[Value.cells] at hc;subst hc;exact h
theorem CF {φ:Ph} {l:List Value} (h:∀ c∈l,roV c=true):l.map (ren φ)=l:=by
 induction l with
 | nil=>rfl
 | cons v l ih=>simp only[I3,(roV.ok φ (h v (by simp))).2,ih (fun c hc=>h c (by simp[hc]))]
section ops
variable {P:Program} {D:Tab} {E:Env} {n0:Nat} {V:Nat->Prop} {φ:Ph} {h h':H} {w:World}
theorem Be {φ:Ph} {k c b e:Nat} (hk:φ k=some (c,b,e)):renA φ (own k)=⟨c,b,none⟩/\okA φ (own k)/\extA φ (own k)=e:=by
 refine⟨by simp[renA,own,hk],.inr (.inl ⟨rfl,by simp[own,hk]⟩),by simp[extA,own,hk]⟩
def wpush (w:World) (o:Obj):World:={ w with heap:=w.heap.push o }
theorem II {w:World} {o:Obj}:∀ c,c<w.heap.size->(wpush w o).heap[c]? = w.heap[c]? := fun c hc=>CH w o hc
theorem Ez (R:Tie D E n0 V φ h w) (xs:List Value) (ty:TypeId) (hx:∀ x∈xs,okV φ x) :
  FS D E n0 V φ h w (.ok (.pointer (some ⟨w.heap.size,0,none⟩)) (wpush w (.cells (xs.map (ren φ)).toArray ty (0,0)))) (.pointer (some (own h.next))) (h.new (.cells xs ty none)):=by
 obtain⟨g1,g2,g3⟩:=Be (AR φ h.next (w.heap.size,0,0));exact⟨0,wpush w (.cells (xs.map (ren φ)).toArray ty (0,0)),by rw[Am,g1],g2,R.dm xs ty hx rfl,Kept.push φ _ rfl rfl rfl rfl,II,rfl⟩
theorem Ey (R:Tie D E n0 V φ h w) (xs:List Value) (ty:TypeId) (n c:Nat) (hx:∀ x∈xs,okV φ x) :
  FS D E n0 V φ h w (.ok (.slice (some ⟨w.heap.size,0,none⟩) n c) (wpush w (.cells (xs.map (ren φ)).toArray ty (0,0)))) (.slice (some (own h.next)) n c) (h.new (.cells xs ty none)):=by
 obtain⟨g1,g2,g3⟩:=Be (AR φ h.next (w.heap.size,0,0));exact⟨0,wpush w (.cells (xs.map (ren φ)).toArray ty (0,0)),by rw[Ad,g1,g3];rfl,g2,R.dm xs ty hx rfl,Kept.push φ _ rfl rfl rfl rfl,II,rfl⟩
theorem KI (T:D.Of P) (R:Tie D E n0 V φ h w) {e:TypeId} {z:Value} (hz:Ak D e=some z) :
  FS D E n0 V φ h w ((Instr.alloc e true (.tuple #[])).run P w) (.pointer (some (own h.next))) (h.new (.cells z.cells.toList e none)):=by
 obtain⟨f,h1,h2,h3⟩:=T.zero hz;have hro:=EH h3;have:=Ez R z.cells.toList e (fun x hx=>(roV.ok φ (hro x hx)).1);rw[CF hro] at this;simpa [Instr.alloc,Si h1 h2,newVar,newRow,wpush] using this
theorem Ur (T:D.Of P) (R:Tie D E n0 V φ h w) {e:TypeId} {z:Value} (hz:Ak D e=some z) :
  AZ D E n0 V φ h w ((Instr.alloc e true (.tuple #[])).run P w) (.pointer (some (own h.next))) (h.new (.cells z.cells.toList e none)):=(KI T R hz).gives
theorem Pz (R:Tie D E n0 V φ h w) {e:TypeId} {v:Value} (hv:okV φ v) :
  FS D E n0 V φ h w ((Instr.box e (ren φ v)).run P w) (.pointer (some (own h.next))) (h.new (.cells v.cells.toList e none)):=by
 have:=Ez R v.cells.toList e (Ih hv);rw[<- FH] at this;simpa [Instr.box,newVar,newRow,wpush] using this
theorem AAL (R:Tie D E n0 V φ h w) {e:TypeId} {v:Value} (hv:okV φ v) :
  AZ D E n0 V φ h w ((Instr.box e (ren φ v)).run P w) (.pointer (some (own h.next))) (h.new (.cells v.cells.toList e none)):=(Pz R hv).gives
/-! ### Parts put into cells -/
theorem UC (off:Nat):∀ (l:List Value) (i:Nat) (cells:Array Value),((l.zipIdx i).foldl (fun (cs:Array Value) (x:Value×Nat)=>cs.setIfInBounds (off+x.2) x.1) cells).size=cells.size/\
  ∀ j,((l.zipIdx i).foldl (fun (cs:Array Value) (x:Value×Nat)=>cs.setIfInBounds (off+x.2) x.1) cells)[j]? = if off+i<=j/\j<off+i+l.length/\j<cells.size then l[j-(off+i)]? else cells[j]? := by
 intro l;induction l with
 | nil=>intro i cells;refine⟨rfl,fun j => ?_⟩;rw[if_neg (by simp;omega)];rfl
 | cons v l ih=>
  intro i cells;simp only[List.zipIdx_cons,L6,I1];obtain⟨h1,h2⟩:=ih (i+1) (cells.setIfInBounds (off+i) v);refine⟨by rw[h1];simp,fun j => ?_⟩;rw[h2 j];simp only[V4];by_cases hj:off+(i+1)<=j/\j<off+(i+1)+l.length/\j<cells.size
  ·rw[if_pos hj,if_pos (by omega)];have:j-(off+i)=(j-(off+(i+1)))+1:=by omega
   rw[this,E2]
  ·rw[if_neg hj,Q3];by_cases hj2:off+i=j
   ·subst hj2;rw[if_pos rfl];by_cases hs:off+i<cells.size
    ·rw[if_pos hs,if_pos (by omega)];simp
    ·rw[if_neg hs,if_neg (by omega)];simp[hs]
   ·rw[if_neg hj2,if_neg (by omega)]
theorem OK {cells v:Array Value} {off:Nat} (h:off+v.size<=cells.size) :
  v.zipIdx.foldl (fun (cs:Array Value) (x:Value×Nat)=>cs.setIfInBounds (off+x.2) x.1) cells=(cells.toList.take off++v.toList++cells.toList.drop (off+v.size)).toArray:=by
 rw[<- Array.foldl_toList,Array.toList_zipIdx];obtain⟨h1,h2⟩:=UC off v.toList 0 cells;apply Array.ext_getElem?;intro j;rw[h2 j];have hs:=Jj (xs:=cells.toList) (off:=off) (vs:=v.toList) (by simpa using h) j;simp only[GM,Q4] at hs;simp only[List.getElem?_toArray,hs,Q4,E3];by_cases hj:off<=j/\j<off+v.size
 ·rw[if_pos ⟨hj.1,hj.2,by omega⟩,if_pos hj]
 ·rw[if_neg (fun hh=>hj ⟨hh.1,hh.2.1⟩),if_neg hj];simp
theorem Pu {place:Nat->Option (Nat×Nat)}:∀ (ps:List (Nat×Value)) (cells res:List Value),(∀ p∈ps,okV φ p.2)->(∀ x∈cells,okV φ x)->afill place cells ps=some res->
  Instr.fill place (cells.map (ren φ)).toArray (ps.map fun p=>(p.1,ren φ p.2))=some (res.map (ren φ)).toArray/\∀ x∈res,okV φ x:=by
 intro ps;induction ps with
 | nil=>intro cells res hp hc hf;simp only[afill] at hf;cases hf;exact⟨rfl,hc⟩
 | cons p ps ih=>
  intro cells res hp hc hf;obtain⟨i,v⟩:=p;simp only[afill] at hf;split at hf
  ·cases hf
  ·next off size hpl=>
   split at hf
   ·next hle=>
    simp only[K0,Z0] at hle;have hs:=U0 hle.1;have hv:okV φ v:=hp (i,v) (by simp)
    obtain⟨g1,g2⟩:=ih _ res (fun p hp'=>hp p (by simp[hp'])) (by
     intro x hx;simp only[Y4] at hx;rcases hx with (hx|hx)|hx
     ·exact hc x (List.mem_of_mem_take hx)
     ·exact Ih hv x hx
     ·exact hc x (List.mem_of_mem_drop hx)) hf
    refine⟨?_,g2⟩;have hsz:(ren φ v).cells.size=size:=by rw[<- Q4,FH,T5,hs]
    simp only[I3,Instr.fill,hpl,hsz];have hcond:(decide (size≠size)||decide (off+size>(cells.map (ren φ)).toArray.size))=false:=by simp;omega
    rw[if_neg (by simpa using hcond)];have:=OK (cells:=(cells.map (ren φ)).toArray) (v:=(ren φ v).cells) (off:=off) (by simp only[List.size_toArray,T5,hsz];exact hle.2);rw[this,hsz,FH];simp only[F3,<- List.map_take,<- List.map_drop,<- List.map_append];exact g1
   ·cases hf
end ops
end Go.Hs
