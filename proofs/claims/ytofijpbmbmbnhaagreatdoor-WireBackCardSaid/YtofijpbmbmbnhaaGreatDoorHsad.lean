/- The order of a region: each order that the machine may draw lists every operation, behind those that it is ordered after. -/
import Derived.Test.YtofijpbmbmbnhaaGreatDoorHsac
import Derived.Orders
set_option linter.unusedSimpArgs false
set_option linter.unusedVariables false
namespace Go.Hs
open Region
/-! ## What stands before an operation -/
def bF (acc:Array Nat) (o:Oper):Nat:=o.after.foldl (fun s e=>if binds .any e then s ||| 2 ^ e.on ||| acc.getD e.on 0 else s) 0
theorem Ue (ops:Array Oper):before ops=ops.toList.foldl (fun acc o=>acc.push (bF acc o)) #[]:=by
 unfold before;rw[<- Array.foldl_toList];rfl
theorem Q8:∀ (l:List Oper) (acc:Array Nat),
  (∀ k,k<acc.size->(l.foldl (fun acc o=>acc.push (bF acc o)) acc).getD k 0=acc.getD k 0)/\
  ∀ m o,l[m]? = some o->∃ acc':Array Nat,(l.foldl (fun acc o=>acc.push (bF acc o)) acc).getD (acc.size+m) 0=bF acc' o/\
   ∀ k,acc'.getD k 0=(l.foldl (fun acc o=>acc.push (bF acc o)) acc).getD k 0\/acc'.getD k 0=0:=by
 intro l;induction l with
 | nil=>intro acc;exact⟨fun _ _=>rfl,fun m o h=>by simp at h⟩
 | cons x l ih=>
  intro acc;obtain⟨h1,h2⟩:=ih (acc.push (bF acc x));simp only[L6];have h3:∀ k,k<acc.size->(l.foldl (fun acc o=>acc.push (bF acc o)) (acc.push (bF acc x))).getD k 0=acc.getD k 0:=by
   intro k hk;rw[h1 k (by simp;omega)];simp[D2,Array.getElem?_push,show k≠acc.size by omega]
  refine⟨h3,fun m o hm => ?_⟩;cases m with
  | zero=>
   simp only[N2,Option.some.injEq] at hm;subst hm;refine⟨acc,?_,fun k => ?_⟩
   ·rw[E3,h1 acc.size (by simp)];simp[D2]
   ·rcases P1 k acc.size with hk|hk
    ·exact .inl (h3 k hk).symm
    ·exact .inr (by simp[D2,hk])
  | succ m=>
   rw[E2] at hm;obtain⟨acc',h4,h5⟩:=h2 m o hm;exact⟨acc',by rw[<- h4];simp only[Array.size_push];congr 1;omega,h5⟩
theorem ACI {acc:Array Nat} {o:Oper} {i:Nat} (h:(bF acc o).testBit i=true):∃ e∈o.after,binds .any e=true/\(i=e.on\/(acc.getD e.on 0).testBit i=true):=by
 unfold bF at h;rw[<- Array.foldl_toList] at h;have:∀ (l:List Edge) (s:Nat),(l.foldl (fun s e=>if binds .any e then s ||| 2 ^ e.on ||| acc.getD e.on 0 else s) s).testBit i=true->
   s.testBit i=true\/∃ e∈l,binds .any e=true/\(i=e.on\/(acc.getD e.on 0).testBit i=true):=by
  intro l;induction l with
  | nil=>intro s hs;exact .inl hs
  | cons x l ih=>
   intro s hs;rw[L6] at hs;rcases ih _ hs with h1|⟨e,he,h2⟩
   ·split at h1
    ·next hb=>
     simp only[Nat.testBit_or,F5,Nat.testBit_two_pow,decide_eq_true_eq] at h1;rcases h1 with (h1|h1)|h1
     ·exact .inl h1
     ·exact .inr ⟨x,by simp,hb,.inl h1.symm⟩
     ·exact .inr ⟨x,by simp,hb,.inr h1⟩
    ·exact .inl h1
   ·exact .inr ⟨e,by simp[he],h2⟩
 rcases this _ _ h with h1|⟨e,he,h2⟩
 ·simp at h1
 ·exact⟨e,by simpa using he,h2⟩
variable {ops:Array Oper} {md:Region.Mode}
theorem Q9 {j:Nat} {o:Oper} (ho:ops[j]? = some o) {i:Nat} (h:((before ops).getD j 0).testBit i=true) :
  ∃ e∈o.after,binds .any e=true/\(i=e.on\/((before ops).getD e.on 0).testBit i=true):=by
 rw[Ue] at h ⊢;obtain⟨acc',h1,h2⟩:=(Q8 ops.toList #[]).2 j o (by simpa using ho);simp only[List.size_toArray,H4,Z1] at h1;rw[h1] at h;obtain⟨e,he,hb,h3⟩:=ACI h;refine⟨e,he,hb,?_⟩;rcases h3 with h3|h3
 ·exact .inl h3
 ·rcases h2 e.on with h4|h4
  ·rw[h4] at h3;exact .inr h3
  ·rw[h4] at h3;simp at h3
/-! ## Orders -/
def Good (ops:Array Oper):(Nat->Prop)->List Nat->Prop
 | X,[]=>∀ i,i<ops.size->X i
 | X,j::l=>j<ops.size/\¬ X j/\(∀ i,((before ops).getD j 0).testBit i=true->X i)/\Good ops (fun i=>X i\/i=j) l
def Down (ops:Array Oper) (X:Nat->Prop):Prop:=∀ j,X j->∀ i,((before ops).getD j 0).testBit i=true->X i
def Lc (md:Region.Mode) (ops:Array Oper):(Nat->Prop)->List Nat->Prop
 | X,[]=>∀ i,i<ops.size->X i
 | X,j::l=>j<ops.size/\¬ X j/\(∀ o,ops[j]? = some o->∀ e∈o.after,binds md e=true->X e.on)/\Lc md ops (fun i=>X i\/i=j) l
theorem Ud {e:Edge} (h:binds .any e=true):binds md e=true:=by
 unfold binds at*;cases hg:e.ground<;>rw[hg] at h<;>first|rfl|(simp at h;done)|cases h
theorem Lc.dk:∀ {l:List Nat} {X:Nat->Prop},Down ops X->Lc md ops X l->Good ops X l:=by
 intro l;induction l with
 | nil=>intro X _ h;exact h
 | cons j l ih=>
  intro X hD h;obtain⟨h1,h2,h3,h4⟩:=h;have hj:ops[j]? = some ops[j]:=by simp[h1]
  have hp:∀ i,((before ops).getD j 0).testBit i=true->X i:=by
   intro i hi;obtain⟨e,he,hb,h5⟩:=Q9 hj hi;have hx:=h3 _ hj e he (Ud hb);rcases h5 with rfl|h5
   ·exact hx
   ·exact hD _ hx _ h5
  refine⟨h1,h2,hp,ih ?_ h4⟩;intro k hk i hi;rcases hk with hk|rfl
  ·exact .inl (hD k hk i hi)
  ·exact .inl (hp i hi)
def cnt (f:Nat->Bool):Nat->Nat
 | 0=>0
 | n+1=>(if f n then 1 else 0)+cnt f n
theorem Wv {f:Nat->Bool}:∀ {n:Nat},cnt f n=0->∀ i,i<n->f i=false:=by
 intro n;induction n with
 | zero=>intro _ i h;omega
 | succ n ih=>
  intro h i hi;simp only[cnt] at h;by_cases e:i=n
  ·subst e;cases hf:f i
   ·rfl
   ·rw[hf] at h;simp at h
  ·exact ih (by omega) i (by omega)
theorem AEb {f:Nat->Bool}:∀ {n i:Nat},i<n->f i=true->0<cnt f n:=by
 intro n;induction n with
 | zero=>intro i h;omega
 | succ n ih=>
  intro i hi hf;simp only[cnt];by_cases e:i=n
  ·subst e;rw[hf];simp;omega
  ·have:=ih (i:=i) (by omega) hf;omega
theorem Mr {f g:Nat->Bool}:∀ {n:Nat},(∀ i,i<n->f i=g i)->cnt f n=cnt g n:=by
 intro n;induction n with
 | zero=>intro _;rfl
 | succ n ih=>intro h;simp only[cnt];rw[h n (by omega),ih (fun i hi=>h i (by omega))]
theorem AAG {f g:Nat->Bool} {k:Nat}:∀ {n:Nat},k<n->f k=true->g k=false->(∀ i,i≠k->g i=f i)->cnt f n=cnt g n+1:=by
 intro n;induction n with
 | zero=>intro h;omega
 | succ n ih=>
  intro hk h1 h2 h3;simp only[cnt];by_cases e:k=n
  ·subst e;rw[h1,h2,Mr (f:=f) (g:=g) (fun i hi=>(h3 i (by omega)).symm)];simp;omega
  ·rw[h3 n (fun h=>e h.symm),ih (by omega) h1 h2 h3];omega
structure GA (ops:Array Oper) (listed:Array Bool) (X:Nat->Prop):Prop where
 size:listed.size=ops.size
 iff:∀ i,i<ops.size->(listed.getD i true=true↔X i)
 lt:∀ i,X i->i<ops.size
theorem GA.ep {listed:Array Bool} {X:Nat->Prop} (L:GA ops listed X) {i:Nat} (h:listed.getD i true=false):i<ops.size/\¬ X i:=by
 have hi:i<ops.size:=by
  rcases P1 i listed.size with hlt|hge
  ·rw[<- L.size];exact hlt
  ·rw[D2,Array.getElem?_eq_none hge] at h;simp at h
 exact⟨hi,fun hx=>by rw[(L.iff i hi).2 hx] at h;cases h⟩
theorem GA.listed {listed:Array Bool} {X:Nat->Prop} (L:GA ops listed X) {i:Nat}:listed.getD i false=true↔X i:=by
 constructor
 ·intro h;have hi:i<ops.size:=by
   rcases P1 i listed.size with hlt|hge
   ·rw[<- L.size];exact hlt
   ·rw[D2,Array.getElem?_eq_none hge] at h;simp at h
  apply (L.iff i hi).1;have hs:i<listed.size:=by rw[L.size];exact hi
  simp only[D2,Array.getElem?_eq_getElem hs,H5] at h ⊢;exact h
 ·intro hx;have hi:=L.lt i hx;have h:=(L.iff i hi).2 hx;have hs:i<listed.size:=by rw[L.size];exact hi
  simp only[D2,Array.getElem?_eq_getElem hs,H5] at h ⊢;exact h
theorem GA.set {listed:Array Bool} {X:Nat->Prop} (L:GA ops listed X) {k:Nat} (hk:k<ops.size):GA ops (listed.setIfInBounds k true) (fun i=>X i\/i=k):=by
 refine⟨by simp[L.size],fun i hi => ?_,?_⟩
 ·by_cases e:k=i
  ·subst e;have hs:k<listed.size:=by rw[L.size];exact hk
   simp[D2,hs]
  ·rw[getD_set_ne true e,L.iff i hi];constructor
   ·exact .inl
   ·rintro (h|h)
    ·exact h
    ·exact absurd h.symm e
 ·rintro i (h|rfl)
  ·exact L.lt i h
  ·exact hk
theorem go_succ (fuel t:Nat) (listed:Array Bool):linearise.go md ops (fuel+1) t listed []=
  match (ready md ops listed)[t % (ready md ops listed).length]? with
  | some i=>i::linearise.go md ops fuel (t / (ready md ops listed).length) (listed.setIfInBounds i true) []
  | none=>[]:=by
 simp only[linearise.go]
 change (match (Region.ready md ops listed)[t % (Region.ready md ops listed).length]? with
   | some i=>Region.linearise.go md ops fuel (t / (Region.ready md ops listed).length) (listed.setIfInBounds i true) [i]
   | none=>[].reverse)=_
 cases (ready md ops listed)[t % (ready md ops listed).length]? with
 | some i=>simp only;rw[linearise_go_acc];simp
 | none=>rfl
theorem Jo {listed:Array Bool} {X:Nat->Prop} (L:GA ops listed X) {i:Nat} (hi:i∈ready md ops listed) :
  i<ops.size/\¬ X i/\∀ o,ops[i]? = some o->∀ e∈o.after,binds md e=true->X e.on:=by
 obtain⟨h1,o,h2,h3⟩:=mem_ready.1 hi;obtain⟨h4,h5⟩:=L.ep h1;refine⟨h4,h5,fun o' ho' e he hb => ?_⟩;rw[h2] at ho'; cases ho';exact L.listed.1 (h3 e he hb)
theorem KD {listed:Array Bool} {X:Nat->Prop} (L:GA ops listed X) {i:Nat} (hi:i<ops.size) (hx:¬ X i) :
  cnt (fun k => !listed.getD k true) ops.size=cnt (fun k => !(listed.setIfInBounds i true).getD k true) ops.size+1:=by
 refine AAG hi ?_ ?_ ?_
 ·cases h:listed.getD i true
  ·rfl
  ·exact absurd ((L.iff i hi).1 h) hx
 ·have hs:i<listed.size:=by rw[L.size];exact hi
  simp[D2,hs]
 ·intro k hk;rw[getD_set_ne true (fun e=>hk e.symm)]
theorem KJ {listed:Array Bool} {X:Nat->Prop} (L:GA ops listed X) (h:cnt (fun k => !listed.getD k true) ops.size=0):∀ i,i<ops.size->X i:=by
 intro i hi;have:=Wv h i hi;exact (L.iff i hi).1 (by simpa using this)
theorem Zu:∀ (fuel t:Nat) (listed:Array Bool) (X:Nat->Prop),GA ops listed X->cnt (fun k => !listed.getD k true) ops.size=fuel->(linearise.go md ops fuel t listed []).length=fuel->
  Lc md ops X (linearise.go md ops fuel t listed []):=by
 intro fuel;induction fuel with
 | zero=>
  intro t listed X L hc _;simp only[linearise.go,List.reverse_nil];exact KJ L hc
 | succ fuel ih=>
  intro t listed X L hc hl;rw[go_succ] at hl ⊢;split at hl
  ·next i hi=>
   obtain⟨h1,h2,h3⟩:=Jo L (H3 hi);have:=KD L h1 h2;exact⟨h1,h2,h3,ih _ _ _ (L.set h1) (by omega) (by simpa using hl)⟩
  ·simp at hl
def QG (md:Region.Mode) (ops:Array Oper) (r:Nat->Nat):Prop:=∀ j o,ops[j]? = some o->∀ e∈o.after,binds md e=true->e.on<ops.size/\r e.on<r j
theorem Vm {listed:Array Bool} {X:Nat->Prop} {r:Nat->Nat} (hr:QG md ops r) (L:GA ops listed X):∀ (m j:Nat),r j=m->j<ops.size->¬ X j->ready md ops listed≠[]:=by
 intro m;induction m using Nat.strongRecOn with
 | ind m ih=>
  intro j hm hj hx;by_cases h:∀ e∈(ops[j]).after,binds md e=true->X e.on
  ·intro hnil;have:j∈ready md ops listed:=by
    refine mem_ready.2 ⟨?_,ops[j],by simp[hj],fun e he hb=>L.listed.2 (h e he hb)⟩;cases hq:listed.getD j true
    ·rfl
    ·exact absurd ((L.iff j hj).1 hq) hx
   rw[hnil] at this;cases this
  ·simp only[Classical.not_forall] at h;obtain⟨e,he,hb,hxe⟩:=h;obtain⟨h1,h2⟩:=hr j _ (by simp[hj]) e he hb;exact ih (r e.on) (by omega) e.on rfl h1 hxe
theorem Tw {r:Nat->Nat} (hr:QG md ops r):∀ (fuel t:Nat) (listed:Array Bool) (X:Nat->Prop),GA ops listed X->cnt (fun k => !listed.getD k true) ops.size=fuel->
  Lc md ops X (linearise.go md ops fuel t listed []):=by
 intro fuel;induction fuel with
 | zero=>
  intro t listed X L hc;simp only[linearise.go,List.reverse_nil];exact KJ L hc
 | succ fuel ih=>
  intro t listed X L hc;rw[go_succ];have hne:ready md ops listed≠[]:=by
   by_cases h:∃ j,j<ops.size/\¬ X j
   ·obtain⟨j,h1,h2⟩:=h;exact Vm hr L _ j rfl h1 h2
   ·exfalso;have:∀ i,i<ops.size->(fun k => !listed.getD k true) i=(fun _=>false) i:=by
     intro i hi;have hx:X i:=Classical.byContradiction fun hx=>h ⟨i,hi,hx⟩;simp only[(L.iff i hi).2 hx];rfl
    rw[Mr this] at hc;have h0:∀ n,cnt (fun _=>false) n=0:=by
     intro n;induction n with
     | zero=>rfl
     | succ n ih=>simp[cnt,ih]
    rw[h0] at hc;omega
  split
  ·next i hi=>
   obtain⟨h1,h2,h3⟩:=Jo L (H3 hi);have:=KD L h1 h2;exact⟨h1,h2,h3,ih _ _ _ (L.set h1) (by omega)⟩
  ·next hi=>
   exfalso;have hlt:t % (ready md ops listed).length<(ready md ops listed).length:=Nat.mod_lt _ (V6.2 hne);rw[Q0 hlt] at hi;cases hi
theorem Hv {a b:Nat} {l:List Nat} (h:b≠a):(b::l).idxOf a=l.idxOf a+1:=by
 rw[List.idxOf_cons];have:(b == a)=false:=by simpa using h
 rw[this];rfl
theorem Lc.rank:∀ {l:List Nat} {X:Nat->Prop},(∀ i,X i->i<ops.size)->Lc md ops X l->∀ j o,ops[j]? = some o->∀ e∈o.after,binds md e=true->X j\/X e.on\/(e.on<ops.size/\l.idxOf e.on<l.idxOf j):=by
 intro l;induction l with
 | nil=>
  intro X hX h j o ho e he hb;exact .inl (h j (Q6.1 ho).1)
 | cons k l ih=>
  intro X hX h j o ho e he hb;obtain⟨h1,h2,h3,h4⟩:=h;by_cases ej:j=k
  ·subst ej;exact .inr (.inl (h3 o ho e he hb))
  ·have hX':∀ i,(X i\/i=k)->i<ops.size:=by
    rintro i (h|rfl)
    ·exact hX i h
    ·exact h1
   rcases ih hX' h4 j o ho e he hb with (h|h)|(h|h)|⟨h,h'⟩
   ·exact .inl h
   ·exact absurd h ej
   ·exact .inr (.inl h)
   ·refine .inr (.inr ⟨by rw[h];exact h1,?_⟩);rw[h,List.idxOf_cons_self];rw[Hv (fun e=>ej e.symm)];omega
   ·by_cases ee:e.on=k
    ·refine .inr (.inr ⟨h,?_⟩);rw[ee,List.idxOf_cons_self,Hv (fun e=>ej e.symm)];omega
    ·refine .inr (.inr ⟨h,?_⟩);rw[Hv (fun e=>ej e.symm),Hv (fun e=>ee e.symm)];omega
theorem Jx (ops:Array Oper):GA ops (Array.replicate ops.size false) (fun _=>False):=by
 refine⟨by simp,fun i hi => ?_,fun _ h=>h.elim⟩;simp[D2,hi]
theorem Px (ops:Array Oper):cnt (fun k => !(Array.replicate ops.size false).getD k true) ops.size=ops.size:=by
 have:∀ n,n<=ops.size->cnt (fun k => !(Array.replicate ops.size false).getD k true) n=n:=by
  intro n;induction n with
  | zero=>intro _;rfl
  | succ n ih=>
   intro hn;simp only[cnt];rw[ih (by omega)];simp[D2,show n<ops.size by omega];omega
 exact this _ (C0 _)
structure Orders (ops:Array Oper):Prop where
 gc:Region.departs ops=true->(Region.linearise .gc ops 0).length=ops.size
 back:∀ j o,ops[j]? = some o->∀ e∈o.after,binds .any e=true\/binds .text e=true->e.on<j
theorem KV (O:Orders ops) (mixed:Bool) (t:Nat):Good ops (fun _=>False) (Region.schedule mixed ops t):=by
 have hD:Down ops (fun _=>False):=fun _ h=>h.elim;have back:∀ md:Region.Mode,(md=.any\/md=.text)->QG md ops id:=by
  intro md hmd j o ho e he hb;have h1:=(Q6.1 ho).1;have:e.on<j:=O.back j o ho e he (by rcases hmd with rfl|rfl<;>simp[hb]);exact⟨by omega,this⟩
 have main:∀ (md:Region.Mode) (r:Nat->Nat) (t:Nat),QG md ops r->Good ops (fun _=>False) (Region.linearise md ops t):=by
  intro md r t hr;exact Lc.dk hD (Tw hr _ t _ _ (Jx ops) (Px ops))
 unfold Region.schedule;split
 ·exact main .any id t (back _ (.inl rfl))
 ·next hm=>
  simp only[F5,C3,not_or,Bool.not_eq_false] at hm;split
  ·exact main .text id _ (back _ (.inr rfl))
  ·have hfull:=Zu (md:=.gc) ops.size 0 _ _ (Jx ops) (Px ops) (O.gc hm.2);have hr:=Lc.rank (fun _ h=>h.elim) hfull;refine main .gc (fun i=>(Region.linearise .gc ops 0).idxOf i) _ ?_;intro j o ho e he hb;rcases hr j o ho e he hb with h|h|h
   ·exact h.elim
   ·exact h.elim
   ·exact h
section congr
variable {D:Tab} {E:Env} {A A':Ac} {h h':H}
theorem FZ:∀ {xs:List Operand},(∀ x∈xs,opv A x=opv A' x)->HZ A xs=HZ A' xs:=by
 intro xs;induction xs with
 | nil=>intro _;rfl
 | cons x xs ih=>intro hx;simp only[HZ,hx x (by simp),ih fun y hy=>hx y (by simp[hy])]
theorem Js:∀ {xs:List (Nat×Operand)},(∀ x∈xs.map (·.2),opv A x=opv A' x)->MQ A xs=MQ A' xs:=by
 intro xs;induction xs with
 | nil=>intro _;rfl
 | cons x xs ih=>
  intro hx;obtain⟨i,x⟩:=x;simp only[MQ,hx x (by simp),ih fun y hy=>hx y (by simp only[I3,O1];exact .inr hy)]
theorem Fa {x:Option Operand} (hx:∀ y∈x.toList,opv A y=opv A' y):JO A x=JO A' x:=by
 cases x with
 | none=>rfl
 | some x=>simp only[JO,hx x (by simp)]
theorem JG {op:Op} (hx:∀ x∈op.operands,opv A x=opv A' x):aop D E A op h=aop D E A' op h:=by
 cases op
 all_goals simp only[Op.operands] at hx
 case build t ps=>
  have:MQ A ps.toList=MQ A' ps.toList:=Js fun x hm=>hx x (by simpa using hm);simp only[aop,this]
 case buildSlice t n ps=>
  have:MQ A ps.toList=MQ A' ps.toList:=Js fun x hm=>hx x (by simpa using hm);simp only[aop,this]
 case makeFunc fn xs ys=>
  have h1:HZ A xs.toList=HZ A' xs.toList:=FZ fun x hm=>hx x (by simp at hm ⊢; exact .inl hm);have h2:HZ A ys.toList=HZ A' ys.toList:=FZ fun x hm=>hx x (by simp at hm ⊢; exact .inr hm);simp only[aop,h1,h2]
 case makeMap t r=>
  have h1:JO A r=JO A' r:=Fa fun x hm=>hx x (by simpa using hm);simp only[aop,h1]
 case slice t x l hh m=>
  have h1:JO A l=JO A' l:=Fa fun x hm=>hx x (by simp at hm;simp[hm]);have h2:JO A hh=JO A' hh:=Fa fun x hm=>hx x (by simp at hm;simp[hm]);have h3:JO A m=JO A' m:=Fa fun x hm=>hx x (by simp at hm;simp[hm]);simp only[aop,hx x (by simp),h1,h2,h3]
 case call c=>
  have h1:HZ A c.args.toList=HZ A' c.args.toList:=FZ fun x hm=>hx x (by simp only[Call.operands,Array.mem_append];exact .inr (by simpa using hm));simp only[aop,h1]
 all_goals first
  | rfl
  | (simp at hx;simp only[aop,hx];done)
theorem Fy {ev:Ev} {o:Oper} (hx:∀ x∈o.op.operands,opv A x=opv A' x):BC D E ev A o h=BC D E ev A' o h:=by
 unfold BC;split
 ·next f args at_ hop=>
  rw[hop] at hx;have h1:HZ A args.toList=HZ A' args.toList:=FZ fun x hm=>hx x (by simp only[Op.operands,Call.operands,Array.mem_append];exact .inr (by simpa using hm));have h2:opv A f=opv A' f:=hx f (by simp[Op.operands,Call.operands]);simp only[h1,h2]
 ·exact JG hx
/-! ### Some of the temporaries -/
def Ac.keep (A:Ac) (l:List Tmp):Ac:={ A with tmps:=l.foldl (fun T t=>T.set t (A.get t)) .nil }
def _root_.Go.Act.keep (a:Act) (l:List Tmp):Act:={ a with tmps:=a.tmps.mapIdx fun i v=>if l.contains i then v else undef }
theorem Tk (A:Ac):∀ (l:List Tmp) (T0:T Value) (t:Nat),((l.foldl (fun T t=>T.set t (A.get t)) T0).get t).getD undef=if t∈l then A.get t else (T0.get t).getD undef:=by
 intro l;induction l with
 | nil=>intro T0 t;simp
 | cons x l ih=>
  intro T0 t;rw[L6,ih];by_cases hl:t∈l
  ·rw[if_pos hl,if_pos (by simp[hl])]
  ·rw[if_neg hl,T.get_set];by_cases e:t=x
   ·subst e;rw[if_pos rfl,if_pos (by simp)];rfl
   ·rw[if_neg e,if_neg (by simp[hl,e])]
theorem Ac.di (A:Ac) (l:List Tmp) (t:Nat):(A.keep l).get t=if t∈l then A.get t else undef:=by
 have:=Tk A l .nil t;rw[T.get_nil] at this;exact this
theorem MT (a:Act) (l:List Tmp) (t:Nat):(a.keep l).tmps.getD t undef=if t∈l then a.tmps.getD t undef else undef:=by
 simp only[Act.keep,D2,Array.getElem?_mapIdx];cases h:a.tmps[t]? with
 | none=>simp
 | some v=>
  simp only[H6,H5];by_cases hl:t∈l
  ·simp[hl]
  ·simp[hl]
theorem El.keep {φ χ:Ph} {a:Act} (AT:El φ A a) {l:List Tmp} (hl:∀ t∈l,okV χ (A.get t)/\ren χ (A.get t)=ren φ (A.get t)):El χ (A.keep l) (a.keep l):=by
 refine⟨by simp[Act.keep,Ac.keep,AT.size],fun t => ?_⟩;rw[Ac.di,MT];by_cases ht:t∈l
 ·rw[if_pos ht,if_pos ht];obtain⟨h1,h2⟩:=hl t ht;exact⟨h1,by rw[h2];exact (AT.tmps t).2⟩
 ·rw[if_neg ht,if_neg ht];exact⟨C8 χ,(DU χ).symm⟩
def Eg (op:Op):List Tmp:=op.operands.toList.flatMap Y9
theorem KU {op:Op} {t:Tmp} (h:Operand.tmp t∈op.operands):t∈Eg op:=by
 simp only[Eg,List.mem_flatMap];exact⟨.tmp t,by simpa using h,by simp[Y9]⟩
theorem Pg {op:Op} {x:Operand} (hx:x∈op.operands):opv (A.keep (Eg op)) x=opv A x:=by
 cases x with
 | tmp t=>simp only[opv,Ac.di,if_pos (KU hx)]
 | _=>rfl
theorem UI {a:Act} {op:Op} {x:Operand} (hx:x∈op.operands):(a.keep (Eg op)).eval x=a.eval x:=by
 cases x with
 | tmp t=>simp only[Act.eval,MT,if_pos (KU hx)]
 | _=>rfl
theorem Mf {a:Act} {o:Oper} (hs:∀ cs b,o.op≠.select cs b):execOp (a.keep (Eg o.op)).eval o=execOp a.eval o:=
 execOp_congr o hs fun _ hx=>UI hx
theorem opv_eq {op:Op} (hA:∀ t∈Eg op,A.get t=A'.get t) {x:Operand} (hx:x∈op.operands):opv A x=opv A' x:=by
 cases x with
 | tmp t=>simp only[opv,hA t (KU hx)]
 | _=>rfl
theorem Ii {ev:Ev} {o:Oper} {x:Value×H} (ho:BC D E ev A o h=some x):∀ cs b,o.op≠.select cs b:=by
 intro cs b he;unfold BC at ho;rw[he] at ho;simp[aop] at ho
end congr
/-! ### Operations that are no effects -/
section quiet
variable {D:Tab} {E:Env} {A:Ac} {h h' h2:H}
theorem EW {ev:Ev} {o:Oper} (hq:eff o.op=false):BC D E ev A o h=aop D E A o.op h:=by
 unfold BC;split
 ·next hop=>rw[hop] at hq;simp[eff] at hq
 ·rfl
theorem TK {o:Option Value} {v:Value} (hp:pair h o=some (v,h')):h'=h:=(BI hp).2
theorem NF {e:Nat} {a:Addr} {len cap:Nat} {lo hi mx:Option Value} {v:Value} (hp:asliceS e a len cap lo hi mx h=some (v,h')) (hn:h'.next=h.next):h'=h:=by
 unfold asliceS at hp
 repeat' split at hp
 all_goals first
  | (cases hp;done)
  | (cases hp;rfl)
  | (cases hp;exact absurd hn (N3 _))
  | (cases hp;rw[H.ai] at hn;exact absurd hn (N3 _))
theorem OV {t:TypeId} {x:Value} {lo hi mx:Option Value} {v:Value} (hp:Av D t x lo hi mx h=some (v,h')) (hn:h'.next=h.next):h'=h:=by
 unfold Av at hp
 repeat' split at hp
 all_goals first
  | (cases hp;done)
  | (cases hp;rfl)
  | exact NF hp hn
theorem Qf {op:Op} {v:Value} (hq:eff op=false) (hn:OI op=false) (hj:BG op=true->h'.next=h.next) (hp:aop D E A op h=some (v,h')):h'=h:=by
 cases op
 case slice=>
  simp only[aop] at hp;split at hp
  ·exact OV hp (hj rfl)
  ·cases hp
 case range=>
  simp only[aop] at hp;split at hp
  ·unfold FL at hp;split at hp
   ·cases hp;exact absurd (hj rfl) (N3 _)
   ·cases hp
  ·cases hp
 case call c=>
  simp only[aop] at hp;split at hp
  ·next b vs hb hvs=>
   obtain⟨callee,args,tys⟩:=c;simp only at hb;subst hb;simp only[eff] at hq;unfold Af at hp
   repeat' split at hp
   all_goals first
    | (cases hp;done)
    | (cases hp;rfl)
    | (simp[AEX] at hq;done)
  ·cases hp
 all_goals first
  | (simp[OI] at hn;done)
  | (simp[eff] at hq;done)
  | (simp only[aop] at hp;repeat' split at hp)
 all_goals first
  | (cases hp;done)
  | exact TK hp
  | (cases hp;rfl)
theorem TE {op:Op} {v:Value} (hq:pureOp D op=true) (hp:aop D E A op h=some (v,h')):h'=h/\∀ h2,aop D E A op h2=some (v,h2):=by
 cases op
 case convert s d x=>
  simp only[pureOp] at hq;split at hq
  ·next k _ _ _ _ hd=>
   cases hx:opv A x with
   | none=>simp only[aop,hx] at hp;cases hp
   | some xv=>
    simp only[aop,hx] at hp ⊢;cases hs:D.ty.get s with
    | none=>simp only[AQ,hs] at hp;cases hp
    | some i=>
     obtain⟨td,a1,a2,a3,a4⟩:=i;simp only[AQ,hs,hd] at hp ⊢;cases td<;>cases xv<;>first
      | (cases hp;exact⟨rfl,fun _=>rfl⟩)
      | cases hp
  ·cases hq
 case call c=>
  simp only[aop] at hp ⊢;obtain⟨callee,args,tys⟩:=c;split at hp
  ·next b vs hb hvs=>
   simp only at hb;subst hb;cases b<;>first|(simp[pureOp] at hq;done)|skip
   simp only[pureOp] at hq;split at hq
   ·next t' hts=>
    have hts:tys.toList=[t']:=hts;have ha:∀ x hh,Cp D t' x hh=Cp D t' x h:=by
     intro x hh;unfold Cp;split at hq
     ·next hd=>rw[hd]
     ·next hd=>rw[hd]
     ·next hd=>rw[hd]
     ·cases hq
    have hp:Af D E .len tys.toList vs h=some (v,h'):=hp;suffices hh:h'=h/\∀ h2,Af D E .len tys.toList vs h2=some (v,h2) by
     refine⟨hh.1,fun h2 => ?_⟩;simp only[hvs];exact hh.2 h2
    rw[hts] at hp ⊢;cases vs with
    | nil=>cases hp
    | cons x l=>cases l with
     | cons y l=>cases hp
     | nil=>
      have hp:(match Cp D t' x h with|some v=>some (v,h)|none=>none)=some (v,h'):=hp;show h'=h/\∀ h2,(match Cp D t' x h2 with|some v=>some (v,h2)|none=>none)=some (v,h2);cases hq2:Cp D t' x h with
      | none=>rw[hq2] at hp;cases hp
      | some u=>
       rw[hq2] at hp;cases hp;exact⟨rfl,fun h2=>by rw[ha,hq2]⟩
   ·cases hq
  ·cases hp
 all_goals first
  | (simp[pureOp] at hq;done)
  | skip
 all_goals (simp only[aop] at hp ⊢; repeat' split at hp)
 all_goals first
  | (cases hp;done)
  | (obtain⟨h1,rfl⟩:=BI hp;exact⟨rfl,fun h2=>by simp only[*,pair]⟩)
  | (cases hp;exact⟨rfl,fun h2=>by simp only[*]⟩)
end quiet
section quiet
variable {D:Tab} {E:Env} {A:Ac} {h h' h2:H}
def JS:Value->List Nat
 | .pointer (some a)|.slice (some a) _ _=>match a.spot with
  | some 0=>[a.block]
  | _=>[]
 | .map (some r)=>[r]
 | _=>[]
theorem Q7 {a:Addr} (hb:a.spot=some 0->h2.blk a.block=h.blk a.block):h2.cell E a=h.cell E a:=by
 unfold H.cell;cases hs:a.spot with
 | none=>rfl
 | some s=>cases s with
  | zero=>rw[hb hs]
  | succ s=>rfl
theorem JC {a:Addr} {n:Nat} (hb:a.spot=some 0->h2.blk a.block=h.blk a.block):h2.cells E a n=h.cells E a n:=by
 unfold H.cells;cases hs:a.spot with
 | none=>rfl
 | some s=>cases s with
  | zero=>rw[hb hs]
  | succ s=>rfl
theorem Oa {t:TypeId} {a:Addr} (hb:a.spot=some 0->h2.blk a.block=h.blk a.block):AI D E t a h2=AI D E t a h:=by
 unfold AI;simp only[Q7 (E:=E) hb,JC (E:=E) hb]
theorem SH {a:Addr} (hb:∀ k∈JS (.pointer (some a)),h2.blk k=h.blk k):a.spot=some 0->h2.blk a.block=h.blk a.block:=by
 intro hs;apply hb;simp[JS,hs]
theorem GI {a:Addr} {n c:Nat} (hb:∀ k∈JS (.slice (some a) n c),h2.blk k=h.blk k):a.spot=some 0->h2.blk a.block=h.blk a.block:=by
 intro hs;apply hb;simp[JS,hs]
theorem Th {t:TypeId} {x:Operand} {v xv:Value} (hx:opv A x=some xv) (hb:∀ k∈JS xv,h2.blk k=h.blk k) (hp:aop D E A (.load t x) h=some (v,h')):h'=h/\aop D E A (.load t x) h2=some (v,h2):=by
 simp only[aop,hx] at hp ⊢;split at hp
 ·next a he=>
  cases he;obtain⟨h1,rfl⟩:=BI hp;simp only[Oa (D:=D) (E:=E) (t:=t) (SH hb),h1,pair];exact⟨trivial,trivial⟩
 ·cases hp
theorem RJ {e:Nat} {a:Addr} {len cap:Nat} {lo hi mx:Option Value} {v:Value} (hb:a.spot=some 0->h2.blk a.block=h.blk a.block) (hn:h'.next=h.next) (hp:asliceS e a len cap lo hi mx h=some (v,h')):asliceS e a len cap lo hi mx h2=some (v,h2):=by
 unfold asliceS at hp ⊢;cases hs:a.spot with
 | none=>
  simp only[hs] at hp ⊢
  repeat' split at hp
  all_goals first
   | (cases hp;done)
   | (cases hp;simp only[*];done)
 | some s=>cases s with
  | succ s=>
   simp only[hs] at hp ⊢
   repeat' split at hp
   all_goals first
    | (cases hp;done)
    | (cases hp;simp only[*];done)
  | zero=>
  simp only[hs,hb hs] at hp ⊢
  repeat' split at hp
  all_goals first
   | (cases hp;done)
   | (cases hp;exact absurd hn (N3 _))
   | (cases hp;rw[H.ai] at hn;exact absurd hn (N3 _))
   | (cases hp;simp only[*];done)
theorem Ul {t:TypeId} {x:Value} {lo hi mx:Option Value} {v:Value} (hb:∀ k∈JS x,h2.blk k=h.blk k) (hn:h'.next=h.next) (hp:Av D t x lo hi mx h=some (v,h')):Av D t x lo hi mx h2=some (v,h2):=by
 unfold Av at hp ⊢;split at hp
 ·next hd=>
  try simp only[hd]
  split at hp
  ·next a=>
   try simp only
   cases hs:a.spot with
   | none=>
    simp only[hs] at hp ⊢
    repeat' split at hp
    all_goals first
     | (cases hp;done)
     | (cases hp;simp only[*];done)
   | some s=>cases s with
    | succ s=>
     simp only[hs] at hp ⊢
     repeat' split at hp
     all_goals first
      | (cases hp;done)
      | (cases hp;simp only[*];done)
    | zero=>
    simp only[hs,SH hb hs] at hp ⊢
    repeat' split at hp
    all_goals first
     | (cases hp;done)
     | (cases hp;simp only[*];done)
  ·cases hp
 ·next hd=>
  try simp only[hd]
  repeat' split at hp
  all_goals first
   | (cases hp;done)
   | (cases hp;simp only[*];done)
 ·next hd=>
  try simp only[hd]
  split at hp
  ·split at hp
   ·next he=>cases hp;simp only[he]
   ·cases hp
  ·next hle=>
   split at hp
   ·next he=>
    try simp only[he]
    exact RJ (GI hb) hn hp
   ·cases hp
  ·cases hp
 ·cases hp
theorem Vf {t:TypeId} {x:Operand} {lo hi mx:Option Operand} {v xv:Value} (hx:opv A x=some xv) (hb:∀ k∈JS xv,h2.blk k=h.blk k) (hn:h'.next=h.next) (hp:aop D E A (.slice t x lo hi mx) h=some (v,h')):aop D E A (.slice t x lo hi mx) h2=some (v,h2):=by
 simp only[aop,hx] at hp ⊢;split at hp
 ·next e1 e2 e3 e4=>
  cases e1
  try simp only[e2,e3,e4]
  exact Ul hb hn hp
 ·cases hp
theorem Oe {s d:TypeId} {x:Value} {v:Value} (hb:∀ k∈JS x,h2.blk k=h.blk k) (hn:h'.next=h.next) (hp:AQ D E s d x h=some (v,h')):h'=h/\AQ D E s d x h2=some (v,h2):=by
 unfold AQ at hp ⊢;split at hp
 ·next i j hi hj=>
  try simp only[hi,hj]
  split at hp
  ·cases hp;simp only[*];exact⟨trivial,trivial⟩
  ·cases hp;simp only[*];exact⟨trivial,trivial⟩
  ·repeat' split at hp
   all_goals first
    | (cases hp;done)
    | (cases hp;exact absurd hn (N3 _))
  ·next b n _ _ _=>
   try simp only[*]
   split at hp
   ·next he=>
    try simp only[he]
    split at hp
    ·cases hp;exact⟨rfl,rfl⟩
    ·next a=>
     simp only[JC (E:=E) (n:=n) (GI hb)]
     repeat' split at hp
     all_goals first
      | (cases hp;done)
      | (cases hp;simp only[*];exact⟨trivial,trivial⟩)
   ·cases hp
  ·next a n c _ _=>
   try simp only[*]
   split at hp
   ·next x0 xs0 ty0 rt0 hbq he hsp hbk=>
    have h2b:h2.blk a.block=some (.cells (x0::xs0) ty0 rt0):=(GI hb hsp).trans hbk;cases hp;simp only[*];exact⟨trivial,trivial⟩
   ·cases hp
  ·cases hp
 ·cases hp
theorem SZ {op:Op} {v:Value} (hq:eff op=false) (hs:∀ t x l hh m,op≠.slice t x l hh m) (hn:h'.next=h.next) (hb:∀ x∈op.operands,∀ u,opv A x=some u->∀ k∈JS u,h2.blk k=h.blk k) (hp:aop D E A op h=some (v,h')):h'=h/\aop D E A op h2=some (v,h2):=by
 by_cases hpu:pureOp D op=true
 ·obtain⟨h1,h3⟩:=TE hpu hp;exact⟨h1,h3 h2⟩
 cases op
 case load t x=>
  cases hx:opv A x with
  | none=>simp only[aop,hx] at hp;cases hp
  | some xv=>exact Th hx (hb x (by simp[Op.operands]) xv hx) hp
 case slice t x l hh m=>exact absurd rfl (hs t x l hh m)
 case convert s d x=>
  cases hx:opv A x with
  | none=>simp only[aop,hx] at hp;cases hp
  | some xv=>
   simp only[aop,hx] at hp ⊢;exact Oe (hb x (by simp[Op.operands]) xv hx) hn hp
 case lookup t m k ok=>
  simp only[aop] at hp ⊢;split at hp
  ·next mv kv hm hk=>
   try simp only[hm,hk]
   obtain⟨h1,rfl⟩:=BI hp;have hent:Fi mv h2=Fi mv h':=by
    unfold Fi;split
    ·rfl
    ·next r=>rw[hb m (by simp[Op.operands]) _ hm r (by simp[JS])]
    ·rfl
   have:FN D t mv kv ok h2=FN D t mv kv ok h':=by unfold FN;simp only[hent]
   rw[this,h1];exact⟨rfl,rfl⟩
  ·cases hp
 case sliceToArrayPointer t x=>
  simp only[aop] at hp ⊢
  repeat' split at hp
  all_goals first
   | (cases hp;done)
   | (cases hp;simp only[*];exact⟨trivial,trivial⟩)
 case range t x=>
  simp only[aop] at hp;split at hp
  ·unfold FL at hp;split at hp
   ·cases hp;exact absurd hn (N3 _)
   ·cases hp
  ·cases hp
 case alloc e=>
  simp only[aop] at hp;split at hp
  ·cases hp;exact absurd hn (N3 _)
  ·cases hp
 case box e x=>
  simp only[aop] at hp;split at hp
  ·cases hp;exact absurd hn (N3 _)
  ·cases hp
 case buildSlice t n ps=>
  simp only[aop] at hp;split at hp
  ·unfold AH at hp
   repeat' split at hp
   all_goals first
    | (cases hp;done)
    | (cases hp;exact absurd hn (N3 _))
  ·cases hp
 case makeSlice t l c=>
  simp only[aop] at hp;split at hp
  ·unfold Bj at hp
   repeat' split at hp
   all_goals first
    | (cases hp;done)
    | (cases hp;exact absurd hn (N3 _))
  ·cases hp
 case makeMap t r=>
  simp only[aop] at hp
  repeat' split at hp
  all_goals first
   | (cases hp;done)
   | (cases hp;exact absurd hn (N3 _))
 case call c=>
  simp only[aop] at hp ⊢;split at hp
  ·next b vs hcb hvs=>
   obtain⟨callee,args,tys⟩:=c;simp only at hcb;subst hcb;simp only[hvs];simp only[eff] at hq;have hmem:∀ u∈vs,∀ k∈JS u,h2.blk k=h.blk k:=by
    have:∀ (xs:List Operand) (us:List Value),(∀ x∈xs,x∈args.toList)->HZ A xs=some us->∀ u∈us,∀ k∈JS u,h2.blk k=h.blk k:=by
     intro xs;induction xs with
     | nil=>intro us _ hu u hm;simp only[HZ] at hu;cases hu;cases hm
     | cons x xs ih=>
      intro us hsub hu u hm;simp only[HZ] at hu;split at hu
      ·next y hy=>
       split at hu
       ·next ys hys=>
        cases hu;rcases O1.1 hm with rfl|hm
        ·exact hb x (by simp only[Op.operands,Call.operands,Array.mem_append];exact .inr (by simpa using hsub x (by simp))) _ hy
        ·exact ih _ (fun z hz=>hsub z (by simp[hz])) hys u hm
       ·cases hu
      ·cases hu
    exact this _ _ (fun _ hx=>hx) hvs
   have hlen:∀ t x,x∈vs->Cp D t x h2=Cp D t x h:=by
    intro t x hx;unfold Cp;split
    ·rfl
    ·rfl
    ·rfl
    ·split
     ·rfl
     ·next r=>rw[hmem _ hx r (by simp[JS])]
     ·rfl
    ·rfl
   have hcap:∀ t x,x∈vs->XR D t x h2=XR D t x h:=by
    intro t x hx;unfold XR;split
    ·split
     ·rfl
     ·next a _ _=>
      cases hs2:a.spot with
      | none=>rfl
      | some s=>cases s with
       | zero=>simp only[GI (hmem _ hx) hs2]
       | succ s=>rfl
     ·rfl
    ·rfl
   unfold Af at hp ⊢;split at hp
   ·next t x _ e2=>
    have e2:tys.toList=[x]:=e2;simp only[e2];rw[hlen _ _ (by simp)];split at hp
    ·cases hp;exact⟨rfl,rfl⟩
    ·cases hp
   ·next t x _ e2=>
    have e2:tys.toList=[x]:=e2;simp only[e2];rw[hcap _ _ (by simp)];split at hp
    ·cases hp;exact⟨rfl,rfl⟩
    ·cases hp
   all_goals first
    | (simp[AEX] at hq;done)
    | skip
   ·split at hp
    ·next he=>cases hp;simp only[he];exact⟨trivial,trivial⟩
    ·cases hp
   ·split at hp
    ·next he=>cases hp;simp only[he];exact⟨trivial,trivial⟩
    ·cases hp
   ·split at hp
    ·next he=>cases hp;simp only[he];exact⟨trivial,trivial⟩
    ·cases hp
   ·cases hp
  ·cases hp
 all_goals first
  | (simp[eff] at hq;done)
  | (simp[pureOp] at hpu;done)
  | (simp[aop] at hp;done)
theorem YZ {op:Op} {v:Value} (hi:OI op=true) (hn:h'.next≠h.next) (hp:aop D E A op h=some (v,h')) :
  (∃ B,B.plain=true/\h'=h.new B/\∀ h2:H,h2.next=h.next->aop D E A op h2=some (v,h2.new B))\/
  (∃ xs ty,h'=h.af xs ty/\∀ h2:H,h2.next=h.next->aop D E A op h2=some (v,h2.af xs ty)):=by
 cases op
 case alloc e=>
  simp only[aop] at hp ⊢;split at hp
  ·next z hz=>cases hp;exact .inl ⟨_,rfl,rfl,fun h2 h3=>by rw[h3]⟩
  ·cases hp
 case box e x=>
  simp only[aop] at hp ⊢;split at hp
  ·next z hz=>cases hp;exact .inl ⟨_,rfl,rfl,fun h2 h3=>by rw[h3]⟩
  ·cases hp
 case buildSlice t n ps=>
  simp only[aop] at hp ⊢;split at hp
  ·next vs hvs=>
   try simp only[hvs]
   unfold AH at hp ⊢
   repeat' split at hp
   all_goals first
    | (cases hp;done)
    | (cases hp;exact .inl ⟨_,rfl,rfl,fun h2 h3=>by simp only[*]⟩)
  ·cases hp
 case makeSlice t l c=>
  simp only[aop] at hp ⊢;split at hp
  ·next lv cv hl hc=>
   try simp only[hl,hc]
   unfold Bj at hp ⊢
   repeat' split at hp
   all_goals first
    | (cases hp;done)
    | (cases hp;exact .inl ⟨_,rfl,rfl,fun h2 h3=>by simp only[*]⟩)
  ·cases hp
 case makeMap t r=>
  simp only[aop] at hp ⊢
  repeat' split at hp
  all_goals first
   | (cases hp;done)
   | (cases hp;exact .inl ⟨_,rfl,rfl,fun h2 h3=>by simp only[*]⟩)
 case convert s d x=>
  simp only[aop] at hp ⊢;split at hp
  ·next xv hx=>
   try simp only[hx]
   unfold AQ at hp ⊢
   repeat' split at hp
   all_goals first
    | (cases hp;done)
    | (cases hp;exact absurd rfl hn)
    | (cases hp;exact .inr ⟨_,_,rfl,fun h2 h3=>by simp only[*]⟩)
  ·cases hp
 all_goals cases hi
/-! ### Storing -/
def Xw (root:Option (Nat×Nat)) (lo hi:Nat) (b:Option Blk):Option Blk:=
 match root,b with
 | some (r,_),some (.cells ys u (some (r',p')))=>if r'=r/\lo<p'+ys.length/\p'<hi/\0<ys.length then none else some (.cells ys u (some (r',p')))
 | _,b=>b
theorem V9 {a:Addr} {vs:List Value} {g:H} (hp:h.put a vs=some g) :
  (vs=[]/\g=h)\/∃ xs ty root xs' lo hi,a.spot=some 0/\h.blk a.block=some (.cells xs ty root)/\xs'.length=xs.length/\(h.mark=h.next->a.block<h.next->a.block∈g.log)/\
   ∀ h2:H,h2.blk a.block=h.blk a.block->∃ g2,h2.put a vs=some g2/\g2.next=h2.next/\(∀ k,g2.dyn.get k=if k=a.block then some (.cells xs' ty root) else h2.dyn.get k)/\
    ∀ k,g2.blk k=if k=a.block then some (.cells xs' ty root) else Xw root lo hi (h2.blk k):=by
 cases vs with
 | nil=>simp only[H.put] at hp;cases hp;exact .inl ⟨rfl,rfl⟩
 | cons v vs=>
  right;cases hs:a.spot with
  | none=>simp only[H.put,hs] at hp;cases hp
  | some s=>
   cases s with
   | succ s=>simp only[H.put,hs] at hp;cases hp
   | zero=>
    cases hb:h.blk a.block with
    | none=>simp only[H.put,hs,hb] at hp;cases hp
    | some B=>
     cases B with
     | cells xs ty root=>
      cases hc:(Nat.ble (a.off+(v::vs).length) xs.length&&(v::vs).all isOne) with
      | false=>simp only[H.put,hs,hb,hc] at hp;cases hp
      | true=>
       have hle:=hc;simp only[K0,Z0] at hle;let ys:=xs.take a.off++(v::vs)++xs.drop (a.off+(v::vs).length);have hlen:ys.length=xs.length:=by
        simp only[ys,D0,C5,Y3];omega
       cases root with
       | none=>
        have hput:∀ h2:H,h2.blk a.block=some (.cells xs ty none)->h2.put a (v::vs)=some ({ h2 with dyn:=h2.dyn.set a.block (.cells ys ty none) }.note [a.block]):=by
         intro h2 hb2;simp only[H.put,hs,hb2,hc];rfl
        refine⟨xs,ty,none,ys,0,0,rfl,rfl,hlen,?_,fun h2 hb2=>⟨_,hput h2 hb2,?_,?_,?_⟩⟩
        ·intro hm hlt;rw[hput h hb] at hp;cases hp;unfold H.note;simp only;cases hmk:h.mark with
         | zero=>omega
         | succ m=>simp[show a.block<=m by omega]
        ·rw[H.ai]
        ·intro k;rw[H.au];exact T.get_set _ _ _ _
        ·intro k;rw[H.bc];by_cases e:k=a.block
         ·subst e;rw[if_pos rfl];exact BW (T.get_set_same _ _ _)
         ·rw[if_neg e];exact Ar (T.get_set_ne _ _ _ _ e) (fun _ _ _ _ _=>Iff.rfl)
       | some rp=>
        obtain⟨r,p⟩:=rp;have hput:∀ h2:H,h2.blk a.block=some (.cells xs ty (some (r,p)))->h2.put a (v::vs)=some ({ h2 with dyn:=h2.dyn.set a.block (.cells ys ty (some (r,p))),chains:=h2.chains.set r (h2.spare r a.block (p+a.off) (p+a.off+(v::vs).length)) }.note (a.block::h2.gone r a.block (p+a.off) (p+a.off+(v::vs).length))):=by
         intro h2 hb2;simp only[H.put,hs,hb2,hc];rfl
        refine⟨xs,ty,some (r,p),ys,p+a.off,p+a.off+(v::vs).length,rfl,rfl,hlen,?_,fun h2 hb2=>⟨_,hput h2 (hb2),?_,?_,?_⟩⟩
        ·intro hm hlt;rw[hput h hb] at hp;cases hp;unfold H.note;simp only;cases hmk:h.mark with
         | zero=>omega
         | succ m=>simp[show a.block<=m by omega]
        ·rw[H.ai]
        ·intro k;rw[H.au];exact T.get_set _ _ _ _
        ·intro k;rw[H.bc];have hb2':=hb2;have hself:a.block∈h2.chain r:=Ec hb2';have hhit:h2.ay a.block (p+a.off) (p+a.off+(v::vs).length) a.block=false:=by
          unfold H.ay;rw[show Nat.beq a.block a.block=true from V1 _]
         have hch:∀ (d:T Blk) r',({ h2 with dyn:=d,chains:=h2.chains.set r (h2.spare r a.block (p+a.off) (p+a.off+(v::vs).length)) }:H).chain r'=if r'=r then h2.spare r a.block (p+a.off) (p+a.off+(v::vs).length) else h2.chain r':=by
          intro d r';show ((h2.chains.set r _).get r').getD []=_;rw[T.get_set]
          split<;>rfl
         by_cases e:k=a.block
         ·subst e;rw[if_pos rfl,Dj (T.get_set_same _ _ _),if_pos];rw[hch,if_pos rfl,List.contains_iff_mem,BS];exact⟨hself,hhit⟩
         ·rw[if_neg e];have hd:(({ h2 with dyn:=h2.dyn.set a.block (.cells ys ty (some (r,p))),chains:=h2.chains.set r (h2.spare r a.block (p+a.off) (p+a.off+(v::vs).length)) }:H)).dyn.get k=h2.dyn.get k:=T.get_set_ne _ _ _ _ e;cases hdk:h2.dyn.get k with
          | none=>
           have h1:h2.blk k=none:=by unfold H.blk;rw[hdk]
           rw[h1];show _=none;unfold H.blk;rw[hd,hdk]
          | some B=>
           cases B with
           | cells zs u rt=>
            cases rt with
            | none=>
             rw[BW (hd.trans hdk),BW hdk];rfl
            | some rq=>
             obtain⟨r',q⟩:=rq;rw[Dj (hd.trans hdk),Dj hdk,hch];by_cases er:r'=r
             ·subst er;rw[if_pos rfl];have hkf:Nat.beq k a.block=false:=by
               cases hq:Nat.beq k a.block
               ·rfl
               ·exact absurd (U0 hq) e
              have hhv:h2.ay a.block (p+a.off) (p+a.off+(v::vs).length) k=(Nat.blt (p+a.off) (q+zs.length)&&Nat.blt q (p+a.off+(v::vs).length)&&Nat.blt 0 zs.length):=by
               unfold H.ay;simp only[hkf,hdk]
              by_cases hm:k∈h2.chain r'
              ·have hmb:((h2.chain r').contains k)=true:=by simpa using hm
               simp only[hmb,if_true,Xw];by_cases hw:p+a.off<q+zs.length/\q<p+a.off+(v::vs).length/\0<zs.length
               ·have hsb:¬ ((h2.spare r' a.block (p+a.off) (p+a.off+(v::vs).length)).contains k=true):=by
                 rw[List.contains_iff_mem,BS];rintro⟨_,hh⟩;rw[hhv] at hh;have:(Nat.blt (p+a.off) (q+zs.length)&&Nat.blt q (p+a.off+(v::vs).length)&&Nat.blt 0 zs.length)=true:=by
                  simp only[K0,P0];exact⟨⟨hw.1,hw.2.1⟩,hw.2.2⟩
                 rw[this] at hh;cases hh
                rw[if_neg hsb,if_pos ⟨trivial,hw⟩]
               ·have hsb:(h2.spare r' a.block (p+a.off) (p+a.off+(v::vs).length)).contains k=true:=by
                 rw[List.contains_iff_mem,BS];refine⟨hm,?_⟩;rw[hhv,Bool.eq_false_iff];intro hh;simp only[K0,P0] at hh;exact hw ⟨hh.1.1,hh.1.2,hh.2⟩
                rw[if_pos hsb,if_neg (fun hh=>hw hh.2)]
              ·have hmb:((h2.chain r').contains k)=false:=by
                rw[Bool.eq_false_iff];intro hh;exact hm (by simpa using hh)
               have hsb:¬ ((h2.spare r' a.block (p+a.off) (p+a.off+(v::vs).length)).contains k=true):=by
                rw[List.contains_iff_mem,BS];exact fun hh=>hm hh.1
               simp only[hmb,Xw];rw[if_neg hsb];rfl
             ·rw[if_neg er];by_cases hm:k∈h2.chain r'
              ·have hmb:((h2.chain r').contains k)=true:=by simpa using hm
               simp only[hmb,if_true,Xw];rw[if_neg (fun hh=>er hh.1)]
              ·have hmb:((h2.chain r').contains k)=false:=by
                rw[Bool.eq_false_iff];intro hh;exact hm (by simpa using hh)
               simp only[hmb,Xw];rfl
           | _=>
            have h1:h2.blk k=h2.dyn.get k:=by unfold H.blk;rw[hdk]
            rw[h1,hdk];show _=some _;unfold H.blk;rw[hd,hdk]
     | _=>simp only[H.put,hs,hb] at hp;cases hp
end quiet
/-! ### Making -/
section make
variable {P:Program} {D:Tab} {E:Env} {n0:Nat} {φ:Ph} {h h':H} {w:World} {A:Ac} {a:Act}
theorem Zk (T:D.Of P) (R:Tie D E n0 All φ h w) (AT:El φ A a) {o:Oper} {v:Value} (hi:OI o.op=true) (hn:h'.next≠h.next) (ho:aop D E A o.op h=some (v,h')) :
  ∃ s:Sem Value,execOp a.eval o=(do pure (Next.value (<- s)):Sem Next)/\FS D E n0 All φ h w (s.run P w) v h':=by
 obtain⟨dst,op,type,pos,after,guard⟩:=o;cases op<;>simp only[aop] at ho<;>first|(cases hi;done)|skip
 case alloc e=>
  split at ho
  ·next z hz=>cases ho;exact⟨_,rfl,KI T R hz⟩
  ·cases ho
 case box e x=>
  split at ho
  ·next y hy=>
   cases ho;obtain⟨g1,g2⟩:=AY AT hy;simp only[execOp,g1];exact⟨_,rfl,Pz (P:=P) R g2⟩
  ·cases ho
 case buildSlice t n ps=>
  split at ho
  ·next vs hvs=>
   obtain⟨g1,g2⟩:=Kn AT hvs;have he:ps.map (fun (i,x)=>(i,a.eval x))=(vs.map fun p=>(p.1,ren φ p.2)).toArray:=by
    apply L5; simpa using g1
   simp only[execOp];rw[he];exact⟨_,rfl,Ek (P:=P) T R g2 ho⟩
  ·cases ho
 case convert s d x=>
  split at ho
  ·next xv hx=>
   obtain⟨g1,g2⟩:=AY AT hx;simp only[execOp,g1];refine⟨_,rfl,?_⟩;unfold AQ at ho;split at ho
   ·next i j hi hj=>
    obtain⟨f,td,h1,h2,h3,h4,_⟩:=T.get hi;obtain⟨f',td',g1,g2,g3,g4,_⟩:=T.get hj;split at ho
    ·cases ho;exact absurd rfl hn
    ·cases ho;exact absurd rfl hn
    ·next e sz by_ s e1 e2=>
     rw[h3] at e1;rw[g3] at e2;have:=BM e1;subst this;obtain⟨rfl,fe,k1,rfl,rfl⟩:=BE e2;split at ho
     ·next sz1 _ _ _ he=>
      obtain⟨f'',td'',q1,q2,q3,q4,_⟩:=T.get he;have:=CD q3.symm;subst this;split at ho
      ·next hs1=>
       have hs1:=beq_true hs1;subst hs1;cases ho;exact JL R h2 g2 q2 he
      ·cases ho
     ·cases ho
    ·repeat' split at ho
     all_goals first
      | (cases ho;done)
      | (cases ho;exact absurd rfl hn)
    ·repeat' split at ho
     all_goals first
      | (cases ho;done)
      | (cases ho;exact absurd rfl hn)
    ·cases ho
   ·cases ho
  ·cases ho
 case makeMap t r=>
  split at ho
  ·next hr=>
   cases ho;obtain⟨g1,_⟩:=EV AT hr;simp only[execOp,g1];refine⟨_,rfl,?_⟩;have:=E9 (D:=D) (E:=E) (V:=All) R;simpa [Instr.makeMap,wpush] using this
  ·next k n i hr hi=>
   cases ho;obtain⟨g1,_⟩:=EV AT hr;obtain⟨f,td,h1,h2,h3,h4,_⟩:=T.get hi;have:=DG h3.symm;subst this;simp only[execOp,g1,H6,Bt];refine⟨_,rfl,?_⟩;have:=E9 (D:=D) (E:=E) (V:=All) R;simpa [Instr.makeMap,wpush,run_underlying h2,asInt,asIntOf] using this
  ·cases ho
 case makeSlice t l c=>
  split at ho
  ·next lv cv hl hc=>
   obtain⟨g1,g2⟩:=AY AT hl;obtain⟨g3,g4⟩:=AY AT hc;simp only[execOp,g1,g3];exact⟨_,rfl,FM (P:=P) T R ho⟩
  ·cases ho
end make
def fresh (h:H):H:={ h with mark:=h.next,log:=[] }
def back (h g:H):H:={ g with mark:=h.mark,log:=h.log }.note g.log
theorem Iw (h:H) (k:Nat):(fresh h).blk k=h.blk k:=rfl
theorem BQ (h g:H) (k:Nat):(back h g).blk k=g.blk k:=by unfold back;rw[H.bc];rfl
theorem Cs (h g:H):(back h g).dyn=g.dyn:=by unfold back;rw[H.au]
theorem Au (h g:H):(back h g).next=g.next:=by unfold back;rw[H.ai]
def Uw (ops:Array Oper) (o:Oper) (A:Ac) (h:H) (A':Ac) (h':H) (t:Tch):Prop:=
 Bo ops A o=false/\h'=h/\A'=A.put o.dst undef/\t=⟨some [],[],h.next,h.next,false⟩
def ACP (D:Tab) (E:Env) (ev:Ev) (ops:Array Oper) (i:Nat) (o:Oper) (A:Ac) (h:H) (A':Ac) (h':H) (t:Tch):Prop:=
 Bo ops A o=true/\∃ x g,BC D E ev A o (fresh h)=some (x,g)/\(BG o.op=true->g.next=h.next\/GN ops i=true)/\h'=back h g/\A'=A.put o.dst x/\
  t=⟨reads D A o,g.log,h.next,g.next,rootedStore A h o.op⟩
theorem Ka {D:Tab} {E:Env} {ev:Ev} {ops:Array Oper}:∀ {l:List Oper} {j:Nat} {A:Ac} {h:H} {A':Ac} {h':H} {ts:List Tch},ops.toList.drop j=l->BA D E ev ops j l A h=some (A',h',ts)->
  ∃ (hs:Nat->H) (As:Nat->Ac),hs j=h/\As j=A/\hs (j+l.length)=h'/\As (j+l.length)=A'/\ts.length=l.length/\
   ∀ i o,j<=i->ops[i]? = some o->∃ t,ts[i-j]? = some t/\(Uw ops o (As i) (hs i) (As (i+1)) (hs (i+1)) t\/ACP D E ev ops i o (As i) (hs i) (As (i+1)) (hs (i+1)) t):=by
 intro l;induction l with
 | nil=>
  intro j A h A' h' ts hl hr;simp only[BA] at hr;cases hr;refine⟨fun _=>h,fun _=>A,rfl,rfl,rfl,rfl,rfl,fun i o hi ho => ?_⟩;exfalso;have h1:ops.toList[i]? = some o:=by rw[D7];exact ho
  have:(ops.toList.drop j)[i-j]? = some o:=by rw[D6,show j+(i-j)=i by omega];exact h1
  rw[hl] at this;simp at this
 | cons o l ih=>
  intro j A h A' h' ts hl hr;have hj:ops[j]? = some o:=by
   have:=congrArg (·[0]?) hl;simp only[D6,E3,N2] at this;rw[<- D7];exact this
  have hl':ops.toList.drop (j+1)=l:=by rw[<- List.drop_drop,hl];rfl
  have put:∀ (A1:Ac) (h1:H) (t:Tch) (ts1:List Tch) (A2:Ac) (h2:H),BA D E ev ops (j+1) l A1 h1=some (A2,h2,ts1)->
    (Uw ops o A h A1 h1 t\/ACP D E ev ops j o A h A1 h1 t)->A2=A'->h2=h'->ts=t::ts1->
    ∃ (hs:Nat->H) (As:Nat->Ac),hs j=h/\As j=A/\hs (j+(o::l).length)=h'/\As (j+(o::l).length)=A'/\ts.length=(o::l).length/\
     ∀ i o,j<=i->ops[i]? = some o->∃ t,ts[i-j]? = some t/\(Uw ops o (As i) (hs i) (As (i+1)) (hs (i+1)) t\/ACP D E ev ops i o (As i) (hs i) (As (i+1)) (hs (i+1)) t):=by
   intro A1 h1 t ts1 A2 h2 hr1 hst hA hh hts;subst hA hh hts;obtain⟨hs,As,e1,e2,e3,e4,e5,e6⟩:=ih hl' hr1;have ne:∀ i,j+1<=i->i≠j:=fun i hi=>by omega
   refine⟨fun i=>if i=j then h else hs i,fun i=>if i=j then A else As i,if_pos rfl,if_pos rfl,?_,?_,by simp[e5],fun i o' hi ho' => ?_⟩
   ·show (if j+(l.length+1)=j then h else hs (j+(l.length+1)))=_;rw[if_neg (by omega),<- e3];congr 1;omega
   ·show (if j+(l.length+1)=j then A else As (j+(l.length+1)))=_;rw[if_neg (by omega),<- e4];congr 1;omega
   ·by_cases ei:i=j
    ·subst ei;rw[hj] at ho'; cases ho';refine⟨t,by simp,?_⟩;have n1:¬ (i+1=i):=by omega
     simp only[if_pos,n1,if_false,e1,e2];exact hst
    ·obtain⟨t',h3,h4⟩:=e6 i o' (by omega) ho';refine⟨t',?_,?_⟩
     ·rw[show i-j=(i-(j+1))+1 by omega,E2];exact h3
     ·have n1:¬ (i+1=j):=by omega
      simp only[ei,n1,if_false];exact h4
  simp only[BA] at hr;split at hr
  ·next hw=>
   split at hr
   ·next x g ho=>
    split at hr
    ·next hc=>
     split at hr
     ·next A2 h2 ts1 hr1=>
      cases hr;refine put _ _ _ ts1 _ _ hr1 (.inr ⟨hw,x,g,ho,fun hm => ?_,rfl,rfl,rfl⟩) rfl rfl rfl;rw[hm] at hc;simp only[Bool.not_true,Bool.false_or,F5] at hc;exact hc.imp U0 id
     ·cases hr
    ·cases hr
   ·cases hr
  ·next hw=>
   split at hr
   ·next A2 h2 ts1 hr1=>
    cases hr;exact put _ _ _ ts1 _ _ hr1 (.inl ⟨hw,rfl,rfl,rfl⟩) rfl rfl rfl
   ·cases hr
/-! ## What was asked of the region -/
theorem TQ {b:Array Nat} {i j:Nat} (h:i<j):ordered b i j=(b.getD j 0).testBit i:=by
 unfold ordered;rw[show Nat.blt i j=true from by rw[P0];exact h]
theorem TR {b:Array Nat} {i j:Nat} (h:j<=i):ordered b i j=(b.getD i 0).testBit j:=by
 unfold ordered
 rw[show Nat.blt i j=false from by
  cases hq:Nat.blt i j
  ·rfl
  ·rw[P0] at hq;omega]
theorem EU {b:Array Nat} {i j:Nat} (h:i≠j):ordered b i j=ordered b j i:=by
 rcases Nat.lt_or_gt_of_ne h with h|h
 ·rw[TQ h,TR (Y1 h)]
 ·rw[TR (Y1 h),TQ h]
structure Yt (ops:Array Oper):Prop where
 orders:Orders ops
 guard:∀ j o g c,ops[j]? = some o->o.guard=some (g,c)->g<j/\((Region.before ops).getD j 0).testBit g=true
 tmps:∀ i j o p d,ops[j]? = some o->ops[i]? = some p->i≠j->p.dst=some d->
  (d∈Ko o\/∃ g c,o.guard=some (g,c)/\(ops[g]?).bind (·.dst)=some d)->ordered (Region.before ops) i j=true
 effs:∀ i j o p,ops[j]? = some o->ops[i]? = some p->i≠j->eff o.op=true->eff p.op=true->(Bi o.op=true/\Bi p.op=true)\/ordered (Region.before ops) i j=true
theorem Mk {ops:Array Oper} (h:Hf ops=true):Yt ops:=by
 unfold Hf at h;simp only[K0,O2] at h;obtain⟨h0,h⟩:=h;have key:∀ j o,ops[j]? = some o->(o,j)∈ops.toList.zipIdx:=by
  intro j o ho;rw[F4];simpa using ho
 refine⟨⟨fun hd => ?_,fun j o ho e he hb => ?_⟩,fun j o g c ho hg => ?_,fun i j o p d ho hp hne hd hs => ?_,fun i j o p ho hp hne h1 h2 => ?_⟩
 ·rw[hd] at h0;simp only[Bool.not_true,Bool.false_or] at h0;exact U0 h0
 ·have:=((h _ (key j o ho)).1.2) e (by simpa using he);simp only[F5,K0,C3,P0] at this;rcases this with⟨h1,h2⟩|h1
  ·rcases hb with hb|hb
   ·rw[h1] at hb;cases hb
   ·rw[h2] at hb;cases hb
  ·exact h1
 ·have:=(h _ (key j o ho)).1.1;simp only[hg,K0,P0] at this;exact this
 ·have:=(h _ (key j o ho)).2 _ (key i p hp);simp only[F5,K0] at this;rcases this with h1|⟨h1,_⟩
  ·exact absurd (U0 h1) hne
  ·rw[hd] at h1;simp only[F5,K0,C3] at h1;rcases h1 with⟨h1,h2⟩|h1
   ·exfalso;rcases hs with hs|⟨g,c,hg,hs⟩
    ·rw[show (Ko o).contains d=true from by simpa using hs] at h1;cases h1
    ·rw[hg] at h2;simp only[hs,Option.toList_some] at h2;simp at h2
   ·exact h1
 ·have:=(h _ (key j o ho)).2 _ (key i p hp);simp only[F5,K0] at this;rcases this with h3|⟨_,h3⟩
  ·exact absurd (U0 h3) hne
  ·rcases h3 with h3|h3
   ·left;rw[h1,h2] at h3;simp only[Bool.true_and,C3,Bool.not_eq_false',K0] at h3;simpa using h3
   ·exact .inr h3
theorem Nf {ops:Array Oper} {j:Nat} (h:GN ops j=true):∀ i p,ops[i]? = some p->i≠j->ordered (Region.before ops) i j=true\/(eff p.op=false/\BG p.op=false):=by
 intro i p hp hne;unfold GN at h;simp only[O2] at h;have:=h (p,i) (by rw[F4];simpa using hp);simp only[F5,C3,Y2] at this;rcases this with (h1|h1)|h1
 ·exact absurd (U0 h1) hne
 ·exact .inl h1
 ·exact .inr h1
theorem RS {b:Array Nat} {ts:List Tch} (h:DB b ts=true) {i j:Nat} {s t:Tch} (hi:ts[i]? = some s) (hj:ts[j]? = some t) (hlt:i<j) (ho:ordered b i j=false):meets s t=true:=by
 unfold DB at h;simp only[O2] at h;have:=h (s,i) (by rw[F4];exact hi) (t,j) (by rw[F4];exact hj);simp only[F5,C3] at this;rcases this with (h1|h1)|h1
 ·rw[show Nat.blt i j=true from by rw[P0];exact hlt] at h1;cases h1
 ·rw[ho] at h1;cases h1
 ·exact h1
theorem LR {w:List Nat} {r:Option (List Nat)} (h:apart? w r=true):(r=none->w=[])/\∀ l,r=some l->∀ k∈w,k ∉ l:=by
 unfold apart? at h;split at h
 ·exact⟨fun _=>rfl,fun _ _ k hk=>by cases hk⟩
 ·cases h
 ·next hne _ r=>
  refine⟨fun hr=>(by cases hr),fun l hl k hk hin => ?_⟩;cases hl;simp only[O2,C3] at h;have:=h k hk;rw[List.any_eq_false] at this;exact this k hin (V1 k)
structure ACU (s t:Tch):Prop where
 r1:(t.reads=none->s.writes=[])/\∀ l,t.reads=some l->∀ k∈s.writes,k ∉ l
 r2:(s.reads=none->t.writes=[])/\∀ l,s.reads=some l->∀ k∈t.writes,k ∉ l
 w:∀ k∈s.writes,k ∉ t.writes
 root:¬ (s.rooted=true/\t.rooted=true)
 new:∀ k∈t.writes,k<s.lo\/s.hi<=k
theorem WQ {s t:Tch} (h:meets s t=true):ACU s t:=by
 unfold meets at h;simp only[K0,C3,O2,F5,P0,Z0] at h;obtain⟨⟨⟨⟨h1,h2⟩,h3⟩,h4⟩,h5⟩:=h;refine⟨LR h1,LR h2,(LR h3).2 _ rfl,?_,h5⟩;intro h6;simp[h6.1,h6.2] at h4
structure Text (D:Tab) (E:Env) (n0:Nat) (ev:Ev) (ops:Array Oper) (φ0:Ph) (hs:Nat->H) (As:Nat->Ac) (tc:Nat->Tch):Prop where
 dok:Yt ops
 step:∀ i o,ops[i]? = some o->Uw ops o (As i) (hs i) (As (i+1)) (hs (i+1)) (tc i)\/ACP D E ev ops i o (As i) (hs i) (As (i+1)) (hs (i+1)) (tc i)
 meet:∀ i j,i<j->j<ops.size->ordered (Region.before ops) i j=false->ACU (tc i) (tc j)
 tie:∀ i,i<=ops.size->∃ ψ w a,Tie D E n0 All ψ (hs i) w/\El ψ (As i) a/\(∀ k,k<(hs 0).next->ψ k=φ0 k)/\∀ k,(hs 0).next<=k->k<(hs i).next->(ψ k).isSome=true
 lgs:∀ i o x g,ops[i]? = some o->BC D E ev (As i) o (fresh (hs i))=some (x,g)->Lg (fresh (hs i)) g
def Rf (ops:Array Oper) (hs:Nat->H) (As:Nat->Ac) (i:Nat):Prop:=
 ∃ o,ops[i]? = some o/\Bo ops (As i) o=true/\eff o.op=false/\(BG o.op=true->(hs (i+1)).next=(hs i).next)
def ACV (ops:Array Oper) (hs:Nat->H) (As:Nat->Ac) (i:Nat):Prop:=
 ∃ o,ops[i]? = some o/\Bo ops (As i) o=true/\Bi o.op=false/\¬ (eff o.op=false/\(BG o.op=true->(hs (i+1)).next=(hs i).next))
section
variable {D:Tab} {E:Env} {n0:Nat} {ev:Ev} {ops:Array Oper} {φ0:Ph} {hs:Nat->H} {As:Nat->Ac} {tc:Nat->Tch}
theorem DJ {i:Nat} (h:i<ops.size):ops[i]? = some ops[i]:=by simp[h]
theorem CY {i:Nat} {o:Oper} (h:ops[i]? = some o):i<ops.size:=(Q6.1 h).1
theorem Text.dw (K:Text D E n0 ev ops φ0 hs As tc) {i:Nat} (hi:i<ops.size):(hs i).next<=(hs (i+1)).next:=by
 rcases K.step i _ (DJ hi) with⟨_,h1,_⟩|⟨_,x,g,h1,_,h2,_⟩
 ·rw[h1];exact C0 _
 ·rw[h2,Au];exact (K.lgs i _ x g (DJ hi) h1).next
theorem Text.mono (K:Text D E n0 ev ops φ0 hs As tc):∀ {j i:Nat},i<=j->j<=ops.size->(hs i).next<=(hs j).next:=by
 intro j;induction j with
 | zero=>intro i h _;rw[show i=0 by omega];exact C0 _
 | succ j ih=>
  intro i h hj;by_cases e:i=j+1
  ·subst e;exact C0 _
  ·exact Y0 (ih (by omega) (by omega)) (K.dw (by omega))
theorem Text.lo (K:Text D E n0 ev ops φ0 hs As tc) {i:Nat} (hi:i<ops.size):(tc i).lo=(hs i).next/\(tc i).hi=(hs (i+1)).next:=by
 rcases K.step i _ (DJ hi) with⟨_,h1,_,h2⟩|⟨_,x,g,_,_,h1,_,h2⟩
 ·rw[h2,h1];exact⟨rfl,rfl⟩
 ·rw[h2,h1,Au];exact⟨rfl,rfl⟩
theorem Text.et (K:Text D E n0 ev ops φ0 hs As tc) {i k:Nat} (hi:i<ops.size) (hk:k∈(tc i).writes):k<(hs i).next:=by
 rcases K.step i _ (DJ hi) with⟨_,_,_,h2⟩|⟨_,x,g,h1,_,_,_,h2⟩
 ·rw[h2] at hk;cases hk
 ·rw[h2] at hk;obtain⟨L,l1,l2,_⟩:=(K.lgs i _ x g (DJ hi) h1).log;rw[show g.log=L by rw[l1];exact X0 L] at hk;exact l2 k hk
theorem Text.keep (K:Text D E n0 ev ops φ0 hs As tc) {i k:Nat} (hi:i<ops.size) (hlt:k<(hs i).next) (hk:k ∉ (tc i).writes):(hs (i+1)).blk k=(hs i).blk k:=by
 rcases K.step i _ (DJ hi) with⟨_,h1,_,h2⟩|⟨_,x,g,h1,_,h3,_,h2⟩
 ·rw[h1]
 ·rw[h2] at hk;obtain⟨L,l1,_,l3⟩:=(K.lgs i _ x g (DJ hi) h1).log;rw[show g.log=L by rw[l1];exact X0 L] at hk;rw[h3,BQ];exact l3 k hlt hk
theorem Text.fi (K:Text D E n0 ev ops φ0 hs As tc) {i k:Nat} (hi:i<ops.size) (hlt:k<(hs i).next):shapeOf ((hs (i+1)).dyn.get k)=shapeOf ((hs i).dyn.get k):=by
 rcases K.step i _ (DJ hi) with⟨_,h1,_,h2⟩|⟨_,x,g,h1,_,h3,_,h2⟩
 ·rw[h1]
 ·rw[h3,Cs];exact (K.lgs i _ x g (DJ hi) h1).shape k hlt
theorem Text.shape (K:Text D E n0 ev ops φ0 hs As tc) {k:Nat}:∀ {q p:Nat},p<=q->q<=ops.size->k<(hs p).next->shapeOf ((hs q).dyn.get k)=shapeOf ((hs p).dyn.get k):=by
 intro q;induction q with
 | zero=>intro p h _ _;rw[show p=0 by omega]
 | succ q ih=>
  intro p h hq hk;by_cases e:p=q+1
  ·subst e;rfl
  ·rw[K.fi (by omega) (Q1 hk (K.mono (by omega) (by omega))),ih (by omega) (by omega) hk]
theorem Text.dh (K:Text D E n0 ev ops φ0 hs As tc) {k:Nat}:∀ {q p:Nat},p<=q->q<=ops.size->k<(hs p).next->(∀ i,p<=i->i<q->k ∉ (tc i).writes)->(hs q).blk k=(hs p).blk k:=by
 intro q;induction q with
 | zero=>intro p h _ _ _;rw[show p=0 by omega]
 | succ q ih=>
  intro p h hq hk hw;by_cases e:p=q+1
  ·subst e;rfl
  ·rw[K.keep (by omega) (Q1 hk (K.mono (by omega) (by omega))) (hw q (by omega) (by omega)),ih (by omega) (by omega) hk (fun i h1 h2=>hw i h1 (by omega))]
theorem Text.cz (K:Text D E n0 ev ops φ0 hs As tc) {k p q:Nat} (hp:p<=ops.size) (hq:q<=ops.size) (kp:k<(hs p).next) (kq:k<(hs q).next) (hw:∀ i,i<ops.size->k∈(tc i).writes->(i<p↔i<q)):(hs q).blk k=(hs p).blk k:=by
 rcases Nat.le_total p q with h|h
 ·refine K.dh h hq kp (fun i h1 h2 hk => ?_);have:=(hw i (by omega) hk).2 h2;omega
 ·refine (K.dh h hp kq (fun i h1 h2 hk => ?_)).symm;have:=(hw i (by omega) hk).1 h2;omega
theorem Text.br (K:Text D E n0 ev ops φ0 hs As tc) {k p q:Nat} (hp:p<=ops.size) (hq:q<=ops.size) (kp:k<(hs p).next) (kq:k<(hs q).next):shapeOf ((hs q).dyn.get k)=shapeOf ((hs p).dyn.get k):=by
 rcases Nat.le_total p q with h|h
 ·exact K.shape h hq kp
 ·exact (K.shape h hp kq).symm
theorem Ia {A:Ac} {h g:H} {op:Op} {v:Value} (hq:eff op=false) (hj:BG op=true->g.next=h.next) (hp:aop D E A op h=some (v,g)):g=h\/(OI op=true/\g.next≠h.next):=by
 cases hi:OI op with
 | false=>exact .inl (Qf hq hi hj hp)
 | true=>
  by_cases hn:g.next=h.next
  ·left;exact (SZ (h2:=h) hq (fun t x l hh m e=>by rw[e] at hi;cases hi) hn (fun _ _ _ _ _ _=>rfl) hp).1
  ·exact .inr ⟨rfl,hn⟩
theorem Text.bf (K:Text D E n0 ev ops φ0 hs As tc) {i:Nat} (hq:Rf ops hs As i):(tc i).writes=[]:=by
 obtain⟨o,ho,hw,he,hj⟩:=hq;rcases K.step i o ho with⟨h0,_⟩|⟨_,x,g,h1,_,h3,_,h2⟩
 ·rw[hw] at h0;cases h0
 ·rw[h2];rw[EW he] at h1;have hj':BG o.op=true->g.next=(fresh (hs i)).next:=fun hm=>by
   have:=hj hm;rw[h3,Au] at this;exact this
  show g.log=[];rcases Ia he hj' h1 with h4|⟨h4,h5⟩
  ·rw[h4];rfl
  ·rcases YZ h4 h5 h1 with⟨B,_,h6,_⟩|⟨xs,ty,h6,_⟩
   ·rw[h6];rfl
   ·rw[h6];rfl
theorem Text.bm (K:Text D E n0 ev ops φ0 hs As tc) {i:Nat} {o:Oper} (ho:ops[i]? = some o) (hw:Bo ops (As i) o=false):(tc i).writes=[]/\(hs (i+1)).next=(hs i).next:=by
 rcases K.step i o ho with⟨_,h1,_,h2⟩|⟨h0,_⟩
 ·rw[h2,h1];exact⟨rfl,rfl⟩
 ·rw[hw] at h0;cases h0
theorem Text.dn (K:Text D E n0 ev ops φ0 hs As tc) {i j:Nat} (hj:ACV ops hs As j) (hi:i<ops.size) (hne:i≠j) (ho:ordered (Region.before ops) i j=false) :
  (tc i).writes=[]/\((hs (i+1)).next=(hs i).next\/Rf ops hs As i):=by
 obtain⟨o,hoj,hwj,hst,hnq⟩:=hj;cases hwi:Bo ops (As i) ops[i] with
 | false=>
  obtain⟨h1,h2⟩:=K.bm (DJ hi) hwi;exact⟨h1,.inl h2⟩
 | true=>
  have hq:Rf ops hs As i:=by
   have hslimI:BG ops[i].op=true->(hs (i+1)).next=(hs i).next\/GN ops i=true:=by
    intro hm;rcases K.step i _ (DJ hi) with⟨h0,_⟩|⟨_,x,g,_,h1,h3,_⟩
    ·rw[hwi] at h0;cases h0
    ·rw[h3,Au];exact h1 hm
   have hslimJ:BG o.op=true->(hs (j+1)).next=(hs j).next\/GN ops j=true:=by
    intro hm;rcases K.step j o hoj with⟨h0,_⟩|⟨_,x,g,_,h1,h3,_⟩
    ·rw[hwj] at h0;cases h0
    ·rw[h3,Au];exact h1 hm
   by_cases hslim:GN ops j=true
   ·rcases Nf hslim i _ (DJ hi) hne with h1|⟨h1,h2⟩
    ·rw[h1] at ho;cases ho
    ·exact⟨_,DJ hi,hwi,h1,fun hm=>by rw[h2] at hm;cases hm⟩
   ·have hej:eff o.op=true:=by
     cases he:eff o.op
     ·exact absurd ⟨he,fun hm=>(hslimJ hm).resolve_right hslim⟩ hnq
     ·rfl
    have hei:eff ops[i].op=false:=by
     cases he:eff ops[i].op
     ·rfl
     ·rcases K.dok.effs i j o _ hoj (DJ hi) hne hej he with⟨h1,_⟩|h1
      ·rw[hst] at h1;cases h1
      ·rw[ho] at h1;cases h1
    refine⟨_,DJ hi,hwi,hei,fun hm => ?_⟩;rcases hslimI hm with h1|h1
    ·exact h1
    ·exfalso;rcases Nf h1 j o hoj (fun e=>hne e.symm) with h2|⟨h2,_⟩
     ·rw[EU hne,h2] at ho;cases ho
     ·rw[hej] at h2;cases h2
  exact⟨K.bf hq,.inr hq⟩
theorem Text.dz (K:Text D E n0 ev ops φ0 hs As tc) {i j:Nat} {o:Oper} (hoj:ops[j]? = some o) (hst:Bi o.op=true) (hi:i<ops.size) (hne:i≠j) (ho:ordered (Region.before ops) i j=false) :
  ¬ ACV ops hs As i:=by
 intro hL;obtain⟨p,hp,hwi,hsi,hnq⟩:=hL;have hej:eff o.op=true:=by
  cases hop:o.op<;>rw[hop] at hst<;>first|rfl|cases hst
 have hei:eff p.op=false:=by
  cases he:eff p.op
  ·rfl
  ·rcases K.dok.effs i j o _ hoj hp hne hej he with⟨_,h1⟩|h1
   ·rw[hsi] at h1;cases h1
   ·rw[ho] at h1;cases h1
 apply hnq;refine⟨hei,fun hm => ?_⟩;rcases K.step i p hp with⟨h0,_⟩|⟨_,x,g,_,h1,h3,_⟩
 ·rw[hwi] at h0;cases h0
 ·rw[h3,Au];rcases h1 hm with h1|h1
  ·exact h1
  ·exfalso;rcases Nf h1 j o hoj (fun e=>hne e.symm) with h2|⟨h2,_⟩
   ·rw[EU hne,h2] at ho;cases ho
   ·rw[hej] at h2;cases h2
theorem WI {X:Nat->Prop} {i j:Nat} (hD:Down ops X) (hX:¬ X j) (hp:∀ i,((Region.before ops).getD j 0).testBit i=true->X i) (hne:i≠j) (ho:ordered (Region.before ops) i j=true):X i↔i<j:=by
 rcases Nat.lt_or_gt_of_ne hne with h|h
 ·rw[TQ h] at ho;exact⟨fun _=>h,fun _=>hp i ho⟩
 ·rw[TR (Y1 h)] at ho;exact⟨fun hx=>absurd (hD i hx j ho) hX,fun h2=>by omega⟩
end
theorem Kept.weaken {χ φ:Ph} {w w':World} (hle:Le χ φ) (h:Kept χ w w'):Kept φ w w':=
 ⟨h.os,h.tape,h.output,h.size,fun c hc hn=>h.block c hc (fun k b e hk=>hn k b e (hle _ _ hk))⟩
theorem Kept.on {φ0 φ:Ph} {w0 w w':World} (h:Kept φ0 w0 w) (h':Kept φ w w') (hi:∀ k c b e,φ k=some (c,b,e)->w0.heap.size<=c\/∃ j b' e',φ0 j=some (c,b',e')):Kept φ0 w0 w':=
 ⟨h'.os.trans h.os,h'.tape.trans h.tape,h'.output.trans h.output,Y0 h.size h'.size,fun c hc hn=>by
  rw[h'.block c (Q1 hc h.size) ?_,h.block c hc hn];intro k b e hk;rcases hi k c b e hk with hs|⟨j,b',e',hj⟩
  ·omega
  ·exact hn j b' e' hj⟩
def Low (ops:Array Oper) (hs:Nat->H) (As:Nat->Ac) (X:Nat->Prop) (k:Nat):Prop:=
 k<(hs 0).next\/∃ i,X i/\i<ops.size/\ACV ops hs As i/\k<(hs (i+1)).next
structure St (D:Tab) (E:Env) (n0:Nat) (ops:Array Oper) (φ0:Ph) (hs:Nat->H) (As:Nat->Ac) (tc:Nat->Tch) (w0:World) (d0:List Deferred) (X:Nat->Prop) (h:H) (φ:Ph) (A:Ac) (a:Act) (w:World):Prop where
 tie:Tie D E n0 All φ h w
 next:h.next=(hs ops.size).next
 act:El φ A a
 n:A.n=(As 0).n
 tmps:∀ t j,j<=ops.size->(∀ i p,ops[i]? = some p->p.dst=some t->(X i↔i<j))->A.get t=(As j).get t
 dfr:A.defers=(As 0).defers
 adfr:a.defers=d0
 dom:∀ k,(φ k).isSome=true->k<(hs 0).next\/∃ i,X i/\i<ops.size/\(hs i).next<=k/\k<(hs (i+1)).next
 tot:∀ i k,X i->i<ops.size->(hs i).next<=k->k<(hs (i+1)).next->(φ k).isSome=true
 base:∀ k,k<(hs 0).next->φ k=φ0 k
 agree:∀ k j,j<=ops.size->k<(hs j).next->(φ k).isSome=true->(∀ i,i<ops.size->k∈(tc i).writes->(X i↔i<j))->h.blk k=(hs j).blk k
 shape:∀ k j,j<=ops.size->k<(hs j).next->(φ k).isSome=true->shapeOf (h.dyn.get k)=shapeOf ((hs j).dyn.get k)
 low:∀ k c b e,φ k=some (c,b,e)->Low ops hs As X k\/∀ k' b' e',k'≠k->φ k'≠some (c,b',e')
 lowr:∀ k xs ty r p,h.dyn.get k=some (.cells xs ty (some (r,p)))->Low ops hs As X k\/r=k
 kept:Kept φ0 w0 w
 img:∀ k c b e,φ k=some (c,b,e)->w0.heap.size<=c\/∃ j b' e',φ0 j=some (c,b',e')
section
variable {P:Program} {D:Tab} {E:Env} {n0:Nat} {ev:Ev} {ops:Array Oper} {φ0:Ph} {hs:Nat->H} {As:Nat->Ac} {tc:Nat->Tch} {w0:World} {d0:List Deferred}
 {X:Nat->Prop} {h:H} {φ:Ph} {A:Ac} {a:Act} {w:World} {j:Nat} {o:Oper}
theorem Low.or {k:Nat} (hl:Low ops hs As X k):Low ops hs As (fun i=>X i\/i=j) k:=by
 rcases hl with h|⟨i,h1,h2⟩
 ·exact .inl h
 ·exact .inr ⟨i,.inl h1,h2⟩
theorem Text.du (K:Text D E n0 ev ops φ0 hs As tc) (ho:ops[j]? = some o):∃ v,As (j+1)=(As j).put o.dst v:=by
 rcases K.step j o ho with⟨_,_,h1,_⟩|⟨_,x,g,_,_,_,h1,_⟩
 ·exact⟨_,h1⟩
 ·exact⟨_,h1⟩
theorem Text.fp (K:Text D E n0 ev ops φ0 hs As tc):∀ {i:Nat},i<=ops.size->(As i).n=(As 0).n:=by
 intro i;induction i with
 | zero=>intro _;rfl
 | succ i ih=>
  intro hi;obtain⟨v,hv⟩:=K.du (DJ (show i<ops.size by omega));rw[hv,Ac.cm,ih (by omega)]
theorem Text.fk (K:Text D E n0 ev ops φ0 hs As tc):∀ {i:Nat},i<=ops.size->(As i).defers=(As 0).defers:=by
 intro i;induction i with
 | zero=>intro _;rfl
 | succ i ih=>
  intro hi;obtain⟨v,hv⟩:=K.du (DJ (show i<ops.size by omega));rw[hv,Ac.put_defers,ih (by omega)]
theorem Text.bw (K:Text D E n0 ev ops φ0 hs As tc) {t:Tmp}:∀ {q p:Nat},p<=q->q<=ops.size->(∀ i o,p<=i->i<q->ops[i]? = some o->o.dst≠some t)->(As q).get t=(As p).get t:=by
 intro q;induction q with
 | zero=>intro p h _ _;rw[show p=0 by omega]
 | succ q ih=>
  intro p h hq hw;by_cases e:p=q+1
  ·subst e;rfl
  ·have hop:=DJ (show q<ops.size by omega);obtain⟨v,hv⟩:=K.du hop;have hne:=hw q _ (by omega) (by omega) hop;rw[hv,Ac.az,<- ih (by omega) (by omega) (fun i o h1 h2=>hw i o h1 (by omega))];cases hd:(ops[q]).dst with
   | none=>rfl
   | some d=>
    simp only;rw[if_neg];rintro⟨e1,_⟩;exact hne (by rw[hd,e1])
theorem St.dp (K:Text D E n0 ev ops φ0 hs As tc) (S:St D E n0 ops φ0 hs As tc w0 d0 X h φ A a w) (ho:ops[j]? = some o) (hX:¬ X j) (hD:Down ops X) (hp:∀ i,((Region.before ops).getD j 0).testBit i=true->X i) {t:Tmp}
  (ht:t∈Ko o\/∃ g c,o.guard=some (g,c)/\(ops[g]?).bind (·.dst)=some t):A.get t=(As j).get t:=by
 refine S.tmps t j (Y1 (CY ho)) (fun i p hpi hd => ?_);by_cases e:i=j
 ·subst e;exact⟨fun h=>absurd h hX,fun h=>absurd h (Nat.lt_irrefl _)⟩
 ·exact WI hD hX hp e (K.dok.tmps i j o p t ho hpi e hd ht)
theorem St.opv_eq (K:Text D E n0 ev ops φ0 hs As tc) (S:St D E n0 ops φ0 hs As tc w0 d0 X h φ A a w) (ho:ops[j]? = some o) (hX:¬ X j) (hD:Down ops X) (hp:∀ i,((Region.before ops).getD j 0).testBit i=true->X i) :
  (∀ t∈Eg o.op,A.get t=(As j).get t)/\∀ x∈o.op.operands,opv A x=opv (As j) x:=by
 have h1:∀ t∈Eg o.op,A.get t=(As j).get t:=fun t ht=>S.dp K ho hX hD hp (.inl (N6 _ ht));exact⟨h1,fun x hx=>Hs.opv_eq h1 hx⟩
theorem Br (A:Ac) (g:Nat):Hg ops A g=match (ops[g]?).bind (·.dst) with
  | some d=>match A.get d with
   | .bool b=>some b
   | _=>none
  | none=>none:=by
 unfold Hg;cases (ops[g]?).bind (·.dst) with
 | none=>rfl
 | some d=>
  simp only;unfold Ac.get;cases A.tmps.get d with
  | none=>rfl
  | some v=>cases v<;>rfl
theorem St.cj (K:Text D E n0 ev ops φ0 hs As tc) (S:St D E n0 ops φ0 hs As tc w0 d0 X h φ A a w) (ho:ops[j]? = some o) (hX:¬ X j) (hD:Down ops X) (hp:∀ i,((Region.before ops).getD j 0).testBit i=true->X i) :
  Bo ops A o=Bo ops (As j) o:=by
 unfold Bo;cases hg:o.guard with
 | none=>rfl
 | some gc=>
  obtain⟨g,c⟩:=gc;simp only;have:Hg ops A g=Hg ops (As j) g:=by
   rw[Br,Br];cases hd:(ops[g]?).bind (·.dst) with
   | none=>rfl
   | some d=>
    simp only;rw[S.dp K ho hX hD hp (.inr ⟨g,c,hg,hd⟩)]
  rw[this]
theorem St.bo (K:Text D E n0 ev ops φ0 hs As tc) (S:St D E n0 ops φ0 hs As tc w0 d0 X h φ A a w) (ho:ops[j]? = some o) (hX:¬ X j) (hD:Down ops X) (hp:∀ i,((Region.before ops).getD j 0).testBit i=true->X i) {v:Value}
  (hv:As (j+1)=(As j).put o.dst v):∀ t j',j'<=ops.size->(∀ i p,ops[i]? = some p->p.dst=some t->((X i\/i=j)↔i<j'))->(A.put o.dst v).get t=(As j').get t:=by
 intro t j' hj' hc;have hj:=CY ho;by_cases hd:o.dst=some t
 ·have h1:A.get t=(As j).get t:=S.dp K ho hX hD hp (.inl (V5 _ (by rw[hd];simp)));have h2:(A.put o.dst v).get t=(As (j+1)).get t:=by
   rw[hv,Ac.az,Ac.az,hd];simp only;rw[S.n,K.fp (Y1 hj),h1]
  rw[h2];have hjj:j<j':=(hc j o ho hd).1 (.inr rfl);refine (K.bw (by omega) hj' (fun i p h3 h4 hpi hpd => ?_)).symm;have h5:ordered (Region.before ops) i j=true:=K.dok.tmps i j o p t ho hpi (by omega) hpd (.inl (V5 _ (by rw[hd];simp)));have h6:=WI hD hX hp (by omega) h5;rcases (hc i p hpi hpd).2 h4 with h7|h7
  ·have:=h6.1 h7;omega
  ·omega
 ·have h1:(A.put o.dst v).get t=A.get t:=by
   rw[Ac.az];cases hdd:o.dst with
   | none=>rfl
   | some d=>
    simp only;rw[if_neg];rintro⟨e,_⟩;exact hd (by rw[hdd,e])
  rw[h1];refine S.tmps t j' hj' (fun i p hpi hpd => ?_);have:=hc i p hpi hpd;have hne:i≠j:=by
   rintro rfl;rw[ho] at hpi;cases hpi;exact hd hpd
  rw[<- this];exact⟨.inl,fun h=>h.resolve_right hne⟩
theorem St.same (K:Text D E n0 ev ops φ0 hs As tc) (S:St D E n0 ops φ0 hs As tc w0 d0 X h φ A a w) (ho:ops[j]? = some o) (hX:¬ X j) (hD:Down ops X) (hp:∀ i,((Region.before ops).getD j 0).testBit i=true->X i) {v:Value} {w':World}
  (hv:As (j+1)=(As j).put o.dst v) (hok:okV φ v) (hn:(hs (j+1)).next=(hs j).next) (hw:(tc j).writes=[]) (R:Tie D E n0 All φ h w') (hK:Kept φ w w') :
  St D E n0 ops φ0 hs As tc w0 d0 (fun i=>X i\/i=j) h φ (A.put o.dst v) (a.put o.dst (ren φ v)) w' where
 tie:=R
 next:=S.next
 act:=S.act.put _ hok
 n:=by rw[Ac.cm];exact S.n
 tmps:=S.bo K ho hX hD hp hv
 dfr:=by rw[Ac.put_defers];exact S.dfr
 adfr:=by rw[put_defers];exact S.adfr
 dom:=fun k hk=>(S.dom k hk).imp id fun ⟨i,h1,h2⟩=>⟨i,.inl h1,h2⟩
 tot:=fun i k hi hlt h1 h2=>by
  rcases hi with hi|rfl
  ·exact S.tot i k hi hlt h1 h2
  ·omega
 base:=S.base
 agree:=fun k j' hj' hk hs' hc=>S.agree k j' hj' hk hs' (fun i hi hm=>by
  rw[<- hc i hi hm];refine⟨.inl,fun h=>h.resolve_right ?_⟩;rintro rfl;rw[hw] at hm;cases hm)
 shape:=S.shape
 low:=fun k c b e hk=>(S.low k c b e hk).imp Low.or id
 lowr:=fun k xs ty r p hd=>(S.lowr k xs ty r p hd).imp Low.or id
 kept:=S.kept.on hK S.img
 img:=S.img
theorem Text.eh (K:Text D E n0 ev ops φ0 hs As tc) {i:Nat} (hi:i<ops.size) (hj:j<ops.size) (hne:i≠j) (ho:ordered (Region.before ops) i j=false) :
  ((tc j).reads=none->(tc i).writes=[])/\∀ l,(tc j).reads=some l->∀ k∈(tc i).writes,k ∉ l:=by
 rcases Nat.lt_or_gt_of_ne hne with h|h
 ·exact (K.meet i j h hj ho).r1
 ·rw[EU hne] at ho;exact (K.meet j i h hi ho).r2
theorem Text.ff (K:Text D E n0 ev ops φ0 hs As tc) {i:Nat} (hi:i<ops.size) (hj:j<ops.size) (hne:i≠j) (ho:ordered (Region.before ops) i j=false):∀ k∈(tc i).writes,k ∉ (tc j).writes:=by
 rcases Nat.lt_or_gt_of_ne hne with h|h
 ·exact (K.meet i j h hj ho).w
 ·rw[EU hne] at ho;exact fun k hk hk'=>(K.meet j i h hi ho).w k hk' hk
theorem Text.dx (K:Text D E n0 ev ops φ0 hs As tc) {i:Nat} (hi:i<ops.size) (hj:j<ops.size) (hne:i≠j) (ho:ordered (Region.before ops) i j=false):¬ ((tc i).rooted=true/\(tc j).rooted=true):=by
 rcases Nat.lt_or_gt_of_ne hne with h|h
 ·exact (K.meet i j h hj ho).root
 ·rw[EU hne] at ho;exact fun hh=>(K.meet j i h hi ho).root ⟨hh.2,hh.1⟩
theorem St.top (K:Text D E n0 ev ops φ0 hs As tc) (S:St D E n0 ops φ0 hs As tc w0 d0 X h φ A a w) (ho:ops[j]? = some o) (hX:¬ X j) (hD:Down ops X) (hp:∀ i,((Region.before ops).getD j 0).testBit i=true->X i)
  {x:Operand} {u:Value} (hx:x∈o.op.operands) (hu:opv (As j) x=some u) {k:Nat} (hk:k∈JS u):(φ k).isSome=true/\k<(hs j).next:=by
 have h1:=(S.opv_eq K ho hX hD hp).2 x hx;rw[hu] at h1;have ok1:=(AY S.act h1).2;obtain⟨ψ,w2,a2,R2,AT2,_⟩:=K.tie j (Y1 (CY ho));have ok2:=(AY AT2 hu).2;have key:∀ {χ:Ph},okV χ u->(χ k).isSome=true:=by
  intro χ hok;unfold JS at hk;split at hk
  ·next a'=>
   cases hs':a'.spot with
   | none=>simp[hs'] at hk
   | some s=>cases s with
    | succ s=>simp[hs'] at hk
    | zero=>
    simp only[hs',H1] at hk;subst hk;rcases (show okA χ a' from hok) with h3|h3|⟨_,h3⟩
    ·rw[hs'] at h3;cases h3
    ·exact h3.2
    ·rw[hs'] at h3;cases h3
  ·next a' n' c'=>
   cases hs':a'.spot with
   | none=>simp[hs'] at hk
   | some s=>cases s with
    | succ s=>simp[hs'] at hk
    | zero=>
    simp only[hs',H1] at hk;subst hk;rcases (show okA χ a' from hok) with h3|h3|⟨_,h3⟩
    ·rw[hs'] at h3;cases h3
    ·exact h3.2
    ·rw[hs'] at h3;cases h3
  ·simp only[H1] at hk;subst hk;exact hok
  ·cases hk
 refine⟨key ok1,?_⟩;obtain⟨⟨c,b,e⟩,hx2⟩:=J1.1 (key ok2);exact (R2.dom _ _ _ _ hx2).1
theorem E8 {op:Op} {v:Value} {h g:H} (hi:match op with|.alloc _|.box _ _|.buildSlice _ _ _|.makeSlice _ _ _|.makeMap _ _=>True|_=>False) (hp:aop D E A op h=some (v,g)):g.next≠h.next:=by
 cases op<;>first|(exact hi.elim)|skip
 all_goals simp only[aop] at hp
 case buildSlice=>
  split at hp
  ·unfold AH at hp
   repeat' split at hp
   all_goals first
    | (cases hp;done)
    | (cases hp;exact N3 _)
  ·cases hp
 case makeSlice=>
  split at hp
  ·unfold Bj at hp
   repeat' split at hp
   all_goals first
    | (cases hp;done)
    | (cases hp;exact N3 _)
  ·cases hp
 all_goals repeat' split at hp
 all_goals first
  | (cases hp;done)
  | (cases hp;exact N3 _)
theorem SL {t:TypeId} {r:Option Nat} {lo hi mx:Option Value} {x:Value×H} {h:H} (hp:Av D t (.map r) lo hi mx h=some x):False:=by
 unfold Av at hp
 repeat' split at hp
 all_goals first
  | contradiction
  | (cases hp;done)
theorem SY {h g:H} {v:Value} (hq:eff o.op=false) (hpp:aop D E A o.op g=some (v,g)) (h1:∀ l,reads D A o=some l->∀ k∈l,∀ x∈o.op.operands,∀ u,opv A x=some u->k∈JS u->h.blk k=g.blk k)
  (h2:reads D A o=none->∀ x∈o.op.operands,∀ u,opv A x=some u->∀ k∈JS u,h.blk k=g.blk k):aop D E A o.op h=some (v,h):=by
 by_cases hpu:pureOp D o.op=true
 ·exact (TE hpu hpp).2 h
 have hpu':pureOp D o.op=false:=by simpa using hpu
 obtain⟨dst,op,type,pos,after,guard⟩:=o;simp only at*;have atTop:∀ u,∀ k∈JS u,(∃ r,u=.map r)\/k∈atV u:=by
  intro u k hk;cases u with
  | pointer a=>cases a<;>first|exact .inr hk|(simp[JS] at hk)
  | slice a n c=>cases a<;>first|exact .inr hk|(simp[JS] at hk)
  | map r=>exact .inl ⟨r,rfl⟩
  | _=>simp[JS] at hk
 cases op
 case load t x=>
  cases hx:opv A x with
  | none=>simp only[aop,hx] at hpp;cases hpp
  | some u=>
   refine (Th hx (fun k hk => ?_) hpp).2;rcases atTop u k hk with⟨r,rfl⟩|hat
   ·simp only[aop,hx] at hpp;cases hpp
   ·exact h1 (atV u) (by simp only[reads,hpu',hx]) k hat x (by simp[Op.operands]) u hx hk
 case slice t x lo hi mx=>
  cases hx:opv A x with
  | none=>simp only[aop,hx] at hpp;cases hpp
  | some u=>
   refine Vf hx (fun k hk => ?_) rfl hpp;rcases atTop u k hk with⟨r,rfl⟩|hat
   ·simp only[aop,hx] at hpp;split at hpp
    ·next e1 _ _ _=>cases e1;exact (SL hpp).elim
    ·cases hpp
   ·exact h1 (atV u) (by simp only[reads,hpu',hx]) k hat x (by simp[Op.operands]) u hx hk
 case alloc=>exact absurd rfl (E8 trivial hpp)
 case box=>exact absurd rfl (E8 trivial hpp)
 case buildSlice=>exact absurd rfl (E8 trivial hpp)
 case makeSlice=>exact absurd rfl (E8 trivial hpp)
 case makeMap=>exact absurd rfl (E8 trivial hpp)
 case store=>simp[eff] at hq
 all_goals exact (SZ hq (fun t x l hh m e=>by cases e) rfl (h2 (by simp only[reads,hpu'])) hpp).2
end
theorem Kk {h g:H} {a:Addr} {vs:List Value} (hp:h.put a vs=some g) (hl:h.log=[]) {k:Nat} (hk:k∈g.log) (hr:∀ xs ty rp,h.blk a.block≠some (.cells xs ty (some rp))):k=a.block/\∃ xs ty,h.blk a.block=some (.cells xs ty none):=by
 unfold H.put at hp;split at hp
 ·cases hp;rw[hl] at hk;cases hk
 ·split at hp
  ·split at hp
   ·next xs ty root hb=>
    split at hp
    ·simp only at hp;split at hp
     ·cases hp;refine⟨?_,xs,ty,hb⟩;unfold H.note at hk;split at hk
      ·simp only[hl] at hk;cases hk
      ·simp only[hl,X0,O5,H1] at hk;exact hk.1
     ·exact absurd hb (hr _ _ _)
    ·cases hp
   ·cases hp
  ·cases hp
section
variable {P:Program} {D:Tab} {E:Env} {n0:Nat} {ev:Ev} {ops:Array Oper} {φ0:Ph} {hs:Nat->H} {As:Nat->Ac} {tc:Nat->Tch} {w0:World} {d0:List Deferred}
 {X:Nat->Prop} {h:H} {φ:Ph} {A:Ac} {a:Act} {w:World} {j:Nat} {o:Oper}
theorem IP {t:TypeId} {x y:Operand} {v:Value} {h g:H} (hp:aop D E A (.store t x y) h=some (v,g)) :
  v=undef/\∃ a u vs,opv A x=some (.pointer (some a))/\opv A y=some u/\h.put a vs=some g/\∀ h2 g2:H,h2.put a vs=some g2->aop D E A (.store t x y) h2=some (undef,g2):=by
 simp only[aop] at hp;split at hp
 ·next a u hx hy=>
  split at hp
  ·next g' hst=>
   cases hp;refine⟨rfl,a,u,u.cells.toList,hx,hy,?_,fun h2 g2 h3 => ?_⟩
   ·unfold AO at hst;split at hst
    ·split at hst
     ·exact hst
     ·cases hst
    ·cases hst
   ·simp only[aop,hx,hy];unfold AO at hst ⊢;split at hst
    ·split at hst
     ·next hd _ hb=>(try simp only[hb]);rw[h3]
     ·cases hst
    ·cases hst
  ·cases hp
 ·cases hp
theorem Text.dj (K:Text D E n0 ev ops φ0 hs As tc) {i k:Nat} {p:Oper} (hp:ops[i]? = some p) (hw:Bo ops (As i) p=true) (hst:Bi p.op=true) (hr:(tc i).rooted=false) (hk:k∈(tc i).writes):∃ xs ty,(hs i).blk k=some (.cells xs ty none):=by
 rcases K.step i p hp with⟨h0,_⟩|⟨_,x,g,h1,_,h3,_,h2⟩
 ·rw[hw] at h0;cases h0
 ·rw[h2] at hk hr;simp only at hk hr;obtain⟨dst,op,type,pos,after,guard⟩:=p;cases op<;>first|(cases hst;done)|skip
  next t x y=>
  unfold BC at h1;simp only at h1 hr;obtain⟨_,a,u,vs,e1,e2,e3,_⟩:=IP h1;have hno:∀ xs ty rp,(fresh (hs i)).blk a.block≠some (.cells xs ty (some rp)):=by
   intro xs ty rp he;rw[Iw] at he;simp only[rootedStore,e1,he] at hr;cases hr
  obtain⟨h4,xs,ty,h5⟩:=Kk e3 rfl hk hno;subst h4;exact⟨xs,ty,h5⟩
theorem St.sim (T:D.Of P) (hv:NX P D E n0 ev) (S:St D E n0 ops φ0 hs As tc w0 d0 X h φ A a w) (ho:ops[j]? = some o) (hw:Bo ops A o=true) {v:Value} {g:H} (hn:g.next=h.next) (h1:BC D E ev A o h=some (v,g)) (b:Frame) (rest:List Nat) (k:List Item) (cs:List Frame) :
  ∃ w',okV φ v/\Tie D E n0 All φ g w'/\Kept φ w w'/\Steps P (lone (fput b a (.inRegion ops (j::rest)::k)) cs w) (lone (fput b (a.put o.dst (ren φ v)) (.inRegion ops rest::k)) cs w'):=by
 rw[<- EE S.act] at hw;obtain⟨φ',w',g1,g2,g3,g4,g5⟩:=KP (P:=P) (b:=b) (k:=k) (cs:=cs) (rest:=rest) ho (Fc h1) hw (GU T hv S.tie S.act h1);have hφ:φ'=φ:=by
  funext k
  rcases P1 k h.next with hlt|hge
  ·exact g3.1 k hlt
  ·rw[S.tie.ar hge];exact g2.ar (by omega)
 subst hφ;exact⟨w',g1,g2,g4,g5⟩
theorem St.store (T:D.Of P) (hv:NX P D E n0 ev) (K:Text D E n0 ev ops φ0 hs As tc) (S:St D E n0 ops φ0 hs As tc w0 d0 X h φ A a w) (ho:ops[j]? = some o) (hX:¬ X j) (hD:Down ops X) (hp:∀ i,((Region.before ops).getD j 0).testBit i=true->X i)
  (hw:Bo ops (As j) o=true) (hst:Bi o.op=true) (b:Frame) (rest:List Nat) (k:List Item) (cs:List Frame) :
  ∃ h' φ' A' a' w',St D E n0 ops φ0 hs As tc w0 d0 (fun i=>X i\/i=j) h' φ' A' a' w'/\Steps P (lone (fput b a (.inRegion ops (j::rest)::k)) cs w) (lone (fput b a' (.inRegion ops rest::k)) cs w'):=by
 have hj:=CY ho;have hwA:Bo ops A o=true:=by rw[S.cj K ho hX hD hp];exact hw
 obtain⟨_,hop⟩:=S.opv_eq K ho hX hD hp;rcases K.step j o ho with⟨h0,_⟩|⟨_,x,g,h1,_,hback,hAs,htc⟩
 ·rw[hw] at h0;cases h0
 have hone:∀ hh,BC D E ev (As j) o hh=aop D E A o.op hh:=by
  intro hh;rw[<- Fy hop];unfold BC;split
  ·next he=>rw[he] at hst;cases hst
  ·rfl
 have hone':∀ hh,BC D E ev A o hh=aop D E A o.op hh:=fun hh=>by rw[Fy hop];exact hone hh
 rw[hone] at h1;have hstore:∃ t xo yo,o.op=.store t xo yo:=by
  cases he:o.op<;>rw[he] at hst<;>first|exact⟨_,_,_,rfl⟩|cases hst
 obtain⟨t,xo,yo,hoe⟩:=hstore;have h1':=h1;rw[hoe] at h1';obtain⟨rfl,ad,u,vs,e1,e2,e3,e4⟩:=IP h1';have hnx:(hs (j+1)).next=(hs j).next:=by rw[hback,Au,Bf e3];rfl
 rcases V9 e3 with⟨rfl,rfl⟩|⟨xs,ty,root,xs',lo,hi,s1,s2,s3,s4,s5⟩
 ·-- nothing is stored
  have hw0:(tc j).writes=[]:=by rw[htc];rfl
  have h2:BC D E ev A o h=some (undef,h):=by
   rw[hone',hoe];exact e4 h h (by simp[H.put])
  obtain⟨w',g1,g2,g3,g4⟩:=S.sim T hv ho hwA rfl h2 b rest k cs;exact⟨_,_,_,_,_,S.same K ho hX hD hp hAs g1 hnx hw0 g2 g3,g4⟩
 ·obtain⟨ψ,w2,a2,R2,AT2,_⟩:=K.tie j (Y1 hj);have hk0:(hs j).blk ad.block=some (.cells xs ty root):=s2;have hlt0:ad.block<(hs j).next:=R2.fj hk0;have hin:ad.block∈(tc j).writes:=by rw[htc];exact s4 rfl hlt0
  have hφ0:(φ ad.block).isSome=true:=by
   have ok:=(AY S.act e1).2;rcases (show okA φ ad from ok) with h3|h3|⟨_,h3⟩
   ·rw[s1] at h3;cases h3
   ·exact h3.2
   ·rw[s1] at h3;cases h3
  have ordW:∀ {k i:Nat},k∈(tc j).writes->i<ops.size->i≠j->k∈(tc i).writes->(X i↔i<j):=by
   intro k i hkj hi hne hki;cases hor:ordered (Region.before ops) i j with
   | true=>exact WI hD hX hp hne hor
   | false=>exact absurd hkj (K.ff hi hj hne hor k hki)
  have condJ:∀ {k:Nat},k∈(tc j).writes->∀ i,i<ops.size->k∈(tc i).writes->(X i↔i<j):=by
   intro k hkj i hi hki;by_cases e:i=j
   ·subst e;exact⟨fun h=>absurd h hX,fun h=>absurd h (Nat.lt_irrefl _)⟩
   ·exact ordW hkj hi e hki
  have hblk0:h.blk ad.block=(hs j).blk ad.block:=S.agree _ j (Y1 hj) hlt0 hφ0 (condJ hin);obtain⟨g2,p1,p2,p3,p4⟩:=s5 h (by rw[Iw];exact hblk0);obtain⟨g',q1,q2,q3,q4⟩:=s5 (fresh (hs j)) rfl;rw[e3] at q1;cases q1;have h2:BC D E ev A o h=some (undef,g2):=by rw[hone',hoe];exact e4 h g2 p1
  obtain⟨w',g1,R',K',st⟩:=S.sim T hv ho hwA p2 h2 b rest k cs;have hroot:∀ r p,root=some (r,p)->(tc j).rooted=true:=by
   intro r p hr;rw[htc];subst hr;have hx:opv (As j) xo=some (.pointer (some ad)):=by rw[<- hop xo (by rw[hoe];simp[Op.operands])];exact e1
   simp only[rootedStore,hoe,hx,hk0]
  have hdyn1:∀ k,(hs (j+1)).dyn.get k=if k=ad.block then some (.cells xs' ty root) else (hs j).dyn.get k:=by
   intro k;rw[hback,Cs];exact q3 k
  have hblk1:∀ k,(hs (j+1)).blk k=if k=ad.block then some (.cells xs' ty root) else Xw root lo hi ((hs j).blk k):=by
   intro k;rw[hback,BQ];exact q4 k
  have sameJ:∀ {k j':Nat},k∈(tc j).writes->j'<=ops.size->k<(hs j').next->(∀ i,i<ops.size->k∈(tc i).writes->((X i\/i=j)↔i<j'))->(hs j').blk k=(hs (j+1)).blk k:=by
   intro k j' hkj hj' hk' hc;refine K.cz hj hj' (by rw[hnx];exact K.et hj hkj) hk' (fun i hi hki => ?_);rw[<- hc i hi hki];by_cases e:i=j
   ·subst e;exact⟨fun _=>.inr rfl,fun _=>by omega⟩
   ·have:=ordW hkj hi e hki;constructor
    ·intro h;exact .inl (this.2 (by omega))
    ·rintro (h|h)
     ·have:=this.1 h;omega
     ·exact absurd h e
  refine⟨g2,φ,A.put o.dst undef,a.put o.dst (ren φ undef),w',?_,st⟩;have hhd0:h.dyn.get ad.block=some (.cells xs ty root):=H.ae (hblk0.trans hk0);refine⟨R',by rw[p2];exact S.next,S.act.put _ g1,by rw[Ac.cm];exact S.n,S.bo K ho hX hD hp hAs,by rw[Ac.put_defers];exact S.dfr,by rw[put_defers];exact S.adfr,?_,?_,S.base,?_,?_,?_,?_,S.kept.on K' S.img,S.img⟩
  ·exact fun k hk=>(S.dom k hk).imp id fun ⟨i,h1,h2⟩=>⟨i,.inl h1,h2⟩
  ·intro i k hi hlt h1 h2;rcases hi with hi|rfl
   ·exact S.tot i k hi hlt h1 h2
   ·omega
  ·-- agree
   intro k j' hj' hk' hks hc;by_cases ek:k=ad.block
   ·subst ek;rw[p4,if_pos rfl,sameJ hin hj' hk' hc,hblk1,if_pos rfl]
   ·rw[p4,if_neg ek];by_cases hkj:k∈(tc j).writes
    ·have hkn:=K.et hj hkj;rw[S.agree k j (Y1 hj) hkn hks (condJ hkj),sameJ hkj hj' hk' hc,hblk1,if_neg ek]
    ·have hcX:∀ i,i<ops.size->k∈(tc i).writes->(X i↔i<j'):=by
      intro i hi hki;rw[<- hc i hi hki];refine⟨.inl,fun h=>h.resolve_right ?_⟩;rintro rfl;exact hkj hki
     have hag:=S.agree k j' hj' hk' hks hcX;rw[<- hag];cases root with
     | none=>rfl
     | some rp=>
      obtain⟨r,p⟩:=rp;cases hb:h.blk k with
      | none=>rfl
      | some B=>
       cases B with
       | cells ys u' rt=>
        cases rt with
        | none=>rfl
        | some rq=>
         obtain⟨r',p'⟩:=rq;simp only[Xw];by_cases hit:r'=r/\lo<p'+ys.length/\p'<hi/\0<ys.length
         ·exfalso;obtain⟨er,hit'⟩:=hit;subst er;have hrj:=hroot r' p rfl;have hkd:=H.ae hb;have hkn:k<(hs j).next:=by
           rcases S.lowr k _ _ _ _ hkd with (h3|⟨i,h3,h4,h5,h6⟩)|h3
           ·exact Q1 h3 (K.mono (C2 _) (Y1 hj))
           ·have hne:i≠j:=fun e=>hX (e▸h3);have hor:ordered (Region.before ops) i j=true:=by
             cases hq:ordered (Region.before ops) i j
             ·exact absurd h5 (K.dz ho hst h4 hne hq)
             ·rfl
            have:=(WI hD hX hp hne hor).1 h3;exact Q1 h6 (K.mono (by omega) (Y1 hj))
           ·rw[<- h3];exact R2.root _ _ _ _ _ (H.ae hk0)
          have hsh:=S.shape k j (Y1 hj) hkn hks;have hcJ:∀ i,i<ops.size->k∈(tc i).writes->(X i↔i<j):=by
           intro i hi hki;have hne:i≠j:=fun e=>hkj (e▸hki);cases hor:ordered (Region.before ops) i j with
           | true=>exact WI hD hX hp hne hor
           | false=>
            exfalso;have hnr:(tc i).rooted=false:=by
             cases hq:(tc i).rooted
             ·rfl
             ·exact absurd ⟨hq,hrj⟩ (K.dx hi hj hne hor)
            have hwi:Bo ops (As i) ops[i]=true:=by
             cases hq:Bo ops (As i) ops[i]
             ·rw[(K.bm (DJ hi) hq).1] at hki;cases hki
             ·rfl
            have hsi:Bi ops[i].op=true:=by
             cases hq:Bi ops[i].op
             ·exfalso;by_cases hqi:Rf ops hs As i
              ·rw[K.bf hqi] at hki;cases hki
              ·refine K.dz ho hst hi hne hor ⟨_,DJ hi,hwi,hq,fun hh=>hqi ⟨_,DJ hi,hwi,hh⟩⟩
             ·rfl
            obtain⟨zs,tz,hz⟩:=K.dj (DJ hi) hwi hsi hnr hki;have h7:=K.br (p:=i) (q:=j) (Y1 hi) (Y1 hj) (K.et hi hki) hkn;rw[H.ae hz,<- hsh,hkd] at h7;simp[shapeOf] at h7
          have hagJ:=S.agree k j (Y1 hj) hkn hks hcJ;have h8:=K.keep hj hkn hkj;rw[hblk1,if_neg ek,<- hagJ,hb] at h8;simp only[Xw] at h8;rw[if_pos ⟨trivial,hit'⟩] at h8;cases h8
         ·rw[if_neg hit]
       | _=>rfl
  ·-- shapes
   intro k j' hj' hk' hks;rw[p3];split
   ·next ek=>
    subst ek;rw[K.br (p:=j) (Y1 hj) hj' hlt0 hk',H.ae hk0];simp only[shapeOf,s3]
   ·exact S.shape k j' hj' hk' hks
  ·exact fun k c b e hk=>(S.low k c b e hk).imp Low.or id
  ·intro k ys u' r p hd;rw[p3] at hd;split at hd
   ·next ek=>
    subst ek;cases hd;exact (S.lowr _ _ _ _ _ hhd0).imp Low.or id
   ·exact (S.lowr _ _ _ _ _ hd).imp Low.or id
end
def bare (r:Nat):H:=⟨r,.nil,.nil,0,[]⟩
def newAt (h:H) (r:Nat) (B:Blk):H:={ h with dyn:=h.dyn.set r B,chains:=h.chains.set r (r::h.chain r) }
theorem Dc (h:H) (r:Nat) (B:Blk) (k:Nat):(newAt h r B).dyn.get k=if k=r then some B else h.dyn.get k:=T.get_set _ _ _ _
theorem Ik (h:H) (r:Nat) (B:Blk) (r':Nat):(newAt h r B).chain r'=if r'=r then r::h.chain r else h.chain r':=by
 show ((h.chains.set r _).get r').getD []=_;rw[T.get_set]
 split<;>rfl
theorem Il (h:H) (r:Nat) (B:Blk) (hB:∀ xs ty rr p,B=.cells xs ty (some (rr,p))->rr=r) (k:Nat):(newAt h r B).blk k=if k=r then some B else h.blk k:=by
 by_cases e:k=r
 ·subst e;rw[if_pos rfl];have hd:(newAt h k B).dyn.get k=some B:=by rw[Dc,if_pos rfl]
  cases B with
  | cells xs ty rt=>
   cases rt with
   | none=>exact BW hd
   | some rp=>
    obtain⟨rr,p⟩:=rp;have:=hB xs ty rr p rfl;subst this;rw[Dj hd,if_pos];rw[Ik,if_pos rfl];simp
  | _=>unfold H.blk;rw[hd]
 ·rw[if_neg e];refine Ar (by rw[Dc,if_neg e]) (fun xs ty r' p hd => ?_);rw[Ik];split
  ·next er=>
   subst er;simp[e]
  ·exact Iff.rfl
section
variable {P:Program} {D:Tab} {E:Env} {n0:Nat} {ev:Ev} {ops:Array Oper} {φ0:Ph} {hs:Nat->H} {As:Nat->Ac} {tc:Nat->Tch} {w0:World} {d0:List Deferred}
 {X:Nat->Prop} {h:H} {φ:Ph} {A:Ac} {a:Act} {w:World} {j:Nat} {o:Oper}
theorem Tie.bare (R:Tie D E n0 All φ h w) (r:Nat):Tie D E n0 All (cut φ r) (Hs.bare r) w:=by
 refine⟨R.ro,R.size,?_,?_,?_,?_,?_,?_⟩
 ·intro k c b e hk;obtain⟨h1,h2⟩:=CQ hk;exact⟨h1,(R.dom _ _ _ _ h2).2⟩
 ·intro k B c b e _ hB _;simp[H.blk,Hs.bare,T.get_nil] at hB
 ·intro j k B B' c b e b' e' _ hB;simp[H.blk,Hs.bare,T.get_nil] at hB
 ·intro k xs ty c b e hd;simp[Hs.bare,T.get_nil] at hd
 ·intro k _;simp[Hs.bare,T.get_nil]
 ·intro k xs ty r p hd;simp[Hs.bare,T.get_nil] at hd
theorem Tie.newAt {w':World} {φ1:Ph} {h1:H} {B:Blk} {r e:Nat} (R:Tie D E n0 All φ h w) (hr:r<h.next) (hn:φ r=none) (hφ:φ1=upd (cut φ r) r (w.heap.size,0,e)) (S:Tie D E n0 All φ1 h1 w') (hB:h1.blk r=some B) (hroot:∀ xs ty rr p,B=.cells xs ty (some (rr,p))->rr=r)
  (hsz:w.heap.size<=w'.heap.size) (hold:∀ c,c<w.heap.size->w'.heap[c]? = w.heap[c]?):Tie D E n0 All (upd φ r (w.heap.size,0,e)) (Hs.newAt h r B) w'/\Le φ1 (upd φ r (w.heap.size,0,e)):=by
 subst hφ;have hle1:Le (upd (cut φ r) r (w.heap.size,0,e)) (upd φ r (w.heap.size,0,e)):=by
  intro k x hk;by_cases ek:k=r
  ·subst ek;rw[AR] at hk ⊢; exact hk
  ·rw[BH _ _ ek] at hk ⊢; exact (CQ hk).2
 have hle:Le φ (upd φ r (w.heap.size,0,e)):=Dn hn;have hsr:=S.dom r _ _ _ (AR _ _ _);refine⟨⟨S.ro,S.size,?_,?_,?_,?_,?_,?_⟩,hle1⟩
 ·intro k c b e' hk;by_cases ek:k=r
  ·subst ek;rw[AR] at hk;cases hk;exact⟨hr,hsr.2⟩
  ·rw[BH _ _ ek] at hk;obtain⟨a1,a2,a3⟩:=R.dom _ _ _ _ hk;exact⟨a1,a2,Q1 a3 hsz⟩
 ·intro k B' c b e' _ hB' hk;rw[Il h r B hroot] at hB';by_cases ek:k=r
  ·subst ek;rw[if_pos rfl] at hB'; cases hB';rw[AR] at hk;cases hk;exact (S.blk k B _ _ _ trivial hB (AR _ _ _)).le hle1 rfl
  ·rw[if_neg ek] at hB';rw[BH _ _ ek] at hk;exact (R.blk k B' c b e' trivial hB' hk).le hle (hold c (R.dom _ _ _ _ hk).2.2)
 ·intro i k B1 B2 c b e1 b' e2 hik h1' h2' n1 n2 hi hk;rw[Il h r B hroot] at h1' h2';by_cases ei:i=r
  ·subst ei;rw[AR] at hi;cases hi;by_cases ek:k=i
   ·exact absurd ek.symm hik
   ·rw[BH _ _ ek] at hk;have:=(R.dom _ _ _ _ hk).2.2;omega
  ·rw[if_neg ei] at h1';rw[BH _ _ ei] at hi;by_cases ek:k=r
   ·subst ek;rw[AR] at hk;cases hk;have:=(R.dom _ _ _ _ hi).2.2;omega
   ·rw[if_neg ek] at h2';rw[BH _ _ ek] at hk;exact R.apart _ _ _ _ _ _ _ _ _ hik h1' h2' n1 n2 hi hk
 ·intro k xs ty c b e' hd hk;rw[Dc] at hd;by_cases ek:k=r
  ·subst ek;rw[if_pos rfl] at hd;cases hd;rw[AR] at hk;cases hk;exact S.exact k xs ty _ _ _ (H.ae hB) (AR _ _ _)
  ·rw[if_neg ek] at hd;rw[BH _ _ ek] at hk;exact R.exact _ _ _ _ _ _ hd hk
 ·intro k hk;have hk:h.next<=k:=hk;rw[Dc,if_neg (by omega)];exact R.fresh k hk
 ·intro k xs ty rr p hd;show rr<h.next;rw[Dc] at hd;split at hd
  ·cases hd;have:=hroot _ _ _ _ rfl;omega
  ·exact R.root _ _ _ _ _ hd
theorem St.dv (K:Text D E n0 ev ops φ0 hs As tc) (S:St D E n0 ops φ0 hs As tc w0 d0 X h φ A a w) (ho:ops[j]? = some o) (hX:¬ X j) (hD:Down ops X) (hp:∀ i,((Region.before ops).getD j 0).testBit i=true->X i) :
  El (cut φ (hs j).next) (A.keep (Eg o.op)) (a.keep (Eg o.op)):=by
 obtain⟨ψ,w2,a2,R2,AT2,_⟩:=K.tie j (Y1 (CY ho));refine S.act.keep (fun t ht => ?_);have h1:=(S.opv_eq K ho hX hD hp).1 t ht;have ok2:=(AT2.tmps t).1;rw[<- h1] at ok2
 exact okV.both (fun k x hk=>by
  obtain⟨c,b,e⟩:=x;exact Mp (R2.dom _ _ _ _ hk).1) (S.act.tmps t).1 ok2
theorem QU {b:Frame} {k:List Item} {cs:List Frame} {rest:List Nat} {v:Value} {w':World} (ho:ops[j]? = some o) (hd:Ij o.op=true) (hw:Region.wanted o (yielded ops a.tmps)=true) (hr:(execOp a.eval o).run P w=.ok (.value v) w') :
  Steps P (lone (fput b a (.inRegion ops (j::rest)::k)) cs w) (lone (fput b (a.put o.dst v) (.inRegion ops rest::k)) cs w'):=by
 have hg:=AFH (P:=P) (b:=b) (k:=k) (cs:=cs) (w:=w) (rest:=rest) ho hd hw;have hfin:(fput b a (.inRegion ops (j::rest)::k)).finish v=fput b (a.put o.dst v) (.inRegion ops rest::k):=by
  rw[LJ,ho];rfl
 refine .one (step_lone_go ?_);rw[hg,<- hfin];simp[stepG.apply,hr]
theorem St.make (T:D.Of P) (K:Text D E n0 ev ops φ0 hs As tc) (S:St D E n0 ops φ0 hs As tc w0 d0 X h φ A a w) (ho:ops[j]? = some o) (hX:¬ X j) (hD:Down ops X) (hp:∀ i,((Region.before ops).getD j 0).testBit i=true->X i)
  (hw:Bo ops (As j) o=true) (hq:eff o.op=false) (hi:OI o.op=true) (hnx:(hs (j+1)).next≠(hs j).next) (b:Frame) (rest:List Nat) (k:List Item) (cs:List Frame) :
  ∃ h' φ' A' a' w',St D E n0 ops φ0 hs As tc w0 d0 (fun i=>X i\/i=j) h' φ' A' a' w'/\Steps P (lone (fput b a (.inRegion ops (j::rest)::k)) cs w) (lone (fput b a' (.inRegion ops rest::k)) cs w'):=by
 have hj:=CY ho;have hwA:Bo ops A o=true:=by rw[S.cj K ho hX hD hp];exact hw
 obtain⟨_,hop⟩:=S.opv_eq K ho hX hD hp;have hmj:BG o.op=false:=by cases he:o.op<;>rw[he] at hi<;>first|rfl|cases hi
 have hquiet:Rf ops hs As j:=⟨o,ho,hw,hq,fun hm=>by rw[hmj] at hm;cases hm⟩;have hw0:=K.bf hquiet;rcases K.step j o ho with⟨h0,_⟩|⟨_,x,g,h1,_,hback,hAs,htc⟩
 ·rw[hw] at h0;cases h0
 have hsel:=Ii h1;have hnd:=Fc h1;rw[EW hq] at h1;have hgn:g.next≠(fresh (hs j)).next:=by rw[hback,Au] at hnx;exact hnx
 have key:∃ B h1' , aop D E (As j) o.op (bare (hs j).next)=some (x,h1')/\h1'.next≠(bare (hs j).next).next/\h1'.blk (hs j).next=some B/\g.blk (hs j).next=some B/\g.next=(hs j).next+1/\(∀ xs ty rr p,B=.cells xs ty (some (rr,p))->rr=(hs j).next):=by
  rcases YZ hi hgn h1 with⟨B,e1,e2,e3⟩|⟨xs,ty,e2,e3⟩
  ·refine⟨B,_,e3 (bare (hs j).next) rfl,N3 _,?_,?_,by rw[e2];rfl,?_⟩
   ·have hd:((bare (hs j).next).new B).dyn.get (hs j).next=some B:=Hs.T.get_set_same _ _ _;cases B with
    | cells xs ty rt=>cases rt with
     | none=>exact BW hd
     | some _=>cases e1
    | _=>unfold H.blk;rw[hd]
   ·rw[e2];have hd:((fresh (hs j)).new B).dyn.get (hs j).next=some B:=Hs.T.get_set_same _ _ _;cases B with
    | cells xs ty rt=>cases rt with
     | none=>exact BW hd
     | some _=>cases e1
    | _=>unfold H.blk;rw[hd]
   ·intro xs ty rr p hB;rw[hB] at e1;cases e1
  ·refine⟨.cells xs ty (some ((hs j).next,0)),_,e3 (bare (hs j).next) rfl,N3 _,?_,?_,by rw[e2];rfl,fun _ _ _ _ hB=>by cases hB;rfl⟩
   ·have hd:((bare (hs j).next).af xs ty).dyn.get (hs j).next=some (.cells xs ty (some ((hs j).next,0))):=Hs.T.get_set_same _ _ _;rw[Dj hd,if_pos];simp[H.chain,H.af,Hs.T.get_set_same,Hs.bare]
   ·rw[e2];have hd:((fresh (hs j)).af xs ty).dyn.get (hs j).next=some (.cells xs ty (some ((hs j).next,0))):=Hs.T.get_set_same _ _ _;rw[Dj hd,if_pos];simp[H.chain,H.af,Hs.T.get_set_same,fresh]
 obtain⟨B,hb,k1,k2,k3,k4,k5,k6⟩:=key;have AT':=S.dv K ho hX hD hp;have k1':aop D E (A.keep (Eg o.op)) o.op (bare (hs j).next)=some (x,hb):=by
  rw[<- k1];exact JG (fun y hy=>by rw[Pg hy];exact hop y hy)
 obtain⟨s,hs1,e,w',r1,r2,r3,r4,r5,r6⟩:=Zk T (S.tie.bare (hs j).next) AT' hi k2 k1';have hnext1:(hs (j+1)).next=(hs j).next+1:=by rw[hback,Au,k5]
 have hrM:(hs j).next<h.next:=by
  rw[S.next];have:=K.mono (show j+1<=ops.size by omega) (C0 _);omega
 have hnone:φ (hs j).next=none:=by
  cases hq:φ (hs j).next with
  | none=>rfl
  | some y=>
   exfalso;rcases S.dom _ (by rw[hq];rfl) with h3|⟨i,h3,h4,h5,h6⟩
   ·have:=K.mono (C2 j) (Y1 hj);omega
   ·rcases Nat.lt_trichotomy i j with h7|h7|h7
    ·have:=K.mono (show i+1<=j by omega) (Y1 hj);omega
    ·exact hX (h7▸h3)
    ·have:=K.mono (show j+1<=i by omega) (Y1 h4);omega
 obtain⟨R',hle1⟩:=S.tie.newAt hrM hnone rfl r3 k3 k6 r4.size r5;have hle:Le φ (upd φ (hs j).next (w.heap.size,0,e)):=Dn hnone;have hok:=okV.le hle1 r2;have hrun:(execOp a.eval o).run P w=.ok (.value (ren (upd φ (hs j).next (w.heap.size,0,e)) x)) w':=by
  have r1:s.run P w=.ok (ren (upd (cut φ (hs j).next) (hs j).next (w.heap.size,0,e)) x) w':=r1;rw[<- Mf hsel,hs1,Sem.run_bind,r1,hok.2];rfl
 have hblk1:(hs (j+1)).blk (hs j).next=some B:=by rw[hback,BQ];exact k4
 have hdyn1:(hs (j+1)).dyn.get (hs j).next=some B:=H.ae hblk1;refine⟨newAt h (hs j).next B,upd φ (hs j).next (w.heap.size,0,e),A.put o.dst x,_,w',?_,QU ho hnd (by rw[EE S.act];exact hwA) hrun⟩;refine⟨R',S.next,(S.act.le hle).put _ hok.1,by rw[Ac.cm];exact S.n,S.bo K ho hX hD hp hAs,by rw[Ac.put_defers];exact S.dfr,by rw[put_defers];exact S.adfr,?_,?_,?_,?_,?_,?_,?_,?_,?_⟩
 ·-- dom
  intro k hk;by_cases ek:k=(hs j).next
  ·exact .inr ⟨j,.inr rfl,hj,by omega,by omega⟩
  ·rw[BH _ _ ek] at hk;exact (S.dom k hk).imp id fun ⟨i,h1,h2⟩=>⟨i,.inl h1,h2⟩
 ·-- tot
  intro i k hi' hlt h1 h2;by_cases ek:k=(hs j).next
  ·rw[ek,AR];rfl
  ·rw[BH _ _ ek];rcases hi' with hi'|rfl
   ·exact S.tot i k hi' hlt h1 h2
   ·omega
 ·-- base
  intro k hk;have:=K.mono (C2 j) (Y1 hj);rw[BH _ _ (by omega)];exact S.base k hk
 ·-- agree
  intro k j' hj' hk' hks hc;rw[Il _ _ _ k6];by_cases ek:k=(hs j).next
  ·subst ek;rw[if_pos rfl,<- hblk1];refine (K.cz (p:=j+1) (q:=j') hj hj' (by omega) hk' (fun i hi' hki => ?_)).symm;rw[<- hc i hi' hki];have hlt:=K.et hi' hki;have hgt:j<i:=by
    rcases P1 j i with h|h
    ·exact h
    ·have:=K.mono h (Y1 hj);omega
   have hor:ordered (Region.before ops) j i=true:=by
    cases hq:ordered (Region.before ops) j i
    ·have:=(K.meet j i hgt hi' hq).new _ hki;rw[(K.lo hj).1,(K.lo hj).2] at this;omega
    ·rfl
   rw[EU (by omega)] at hor;have:=WI hD hX hp (by omega) hor;constructor
   ·intro h;omega
   ·rintro (h|h)
    ·have:=this.1 h;omega
    ·omega
  ·rw[if_neg ek];rw[BH _ _ ek] at hks;refine S.agree k j' hj' hk' hks (fun i hi' hki => ?_);rw[<- hc i hi' hki];refine⟨.inl,fun h=>h.resolve_right ?_⟩;rintro rfl;rw[hw0] at hki;cases hki
 ·-- shapes
  intro k j' hj' hk' hks;rw[Dc];by_cases ek:k=(hs j).next
  ·subst ek;rw[if_pos rfl,<- hdyn1];exact (K.br (p:=j+1) (q:=j') hj hj' (by omega) hk').symm
  ·rw[if_neg ek];rw[BH _ _ ek] at hks;exact S.shape k j' hj' hk' hks
 ·-- low
  intro k c bb e' hk;by_cases ek:k=(hs j).next
  ·subst ek;rw[AR] at hk;cases hk;refine .inr (fun k' b' e2 hne hk' => ?_);rw[BH _ _ hne] at hk';have:=(S.tie.dom _ _ _ _ hk').2.2;omega
  ·rw[BH _ _ ek] at hk;refine (S.low k c bb e' hk).imp Low.or (fun hh k' b' e2 hne hk' => ?_);by_cases ek':k'=(hs j).next
   ·subst ek';rw[AR] at hk'; cases hk';have:=(S.tie.dom _ _ _ _ hk).2.2;omega
   ·rw[BH _ _ ek'] at hk';exact hh k' b' e2 hne hk'
 ·-- lowr
  intro k xs ty r p hd;rw[Dc] at hd;split at hd
  ·next ek=>
   cases hd;exact .inr ((k6 _ _ _ _ rfl).trans ek.symm)
  ·exact (S.lowr k xs ty r p hd).imp Low.or id
 ·exact S.kept.on (r4.weaken (Ym _ _)) S.img
 ·intro k c bb e' hk;by_cases ek:k=(hs j).next
  ·subst ek;rw[AR] at hk;cases hk;exact .inl S.kept.size
  ·rw[BH _ _ ek] at hk;exact S.img k c bb e' hk
theorem St.loud (T:D.Of P) (hv:NX P D E n0 ev) (hn:Cb ev) (K:Text D E n0 ev ops φ0 hs As tc) (S:St D E n0 ops φ0 hs As tc w0 d0 X h φ A a w) (ho:ops[j]? = some o) (hX:¬ X j) (hD:Down ops X) (hp:∀ i,((Region.before ops).getD j 0).testBit i=true->X i)
  (hL:ACV ops hs As j) (b:Frame) (rest:List Nat) (k:List Item) (cs:List Frame) :
  ∃ h' φ' A' a' w',St D E n0 ops φ0 hs As tc w0 d0 (fun i=>X i\/i=j) h' φ' A' a' w'/\Steps P (lone (fput b a (.inRegion ops (j::rest)::k)) cs w) (lone (fput b a' (.inRegion ops rest::k)) cs w'):=by
 have hj:=CY ho;have hw:Bo ops (As j) o=true:=by
  obtain⟨o',ho',hw',_⟩:=hL;rw[ho] at ho'; cases ho'; exact hw'
 have hwA:Bo ops A o=true:=by rw[S.cj K ho hX hD hp];exact hw
 obtain⟨_,hop⟩:=S.opv_eq K ho hX hD hp;rcases K.step j o ho with⟨h0,_⟩|⟨_,x,g,h1,_,hback,hAs,htc⟩
 ·rw[hw] at h0;cases h0
 have hsel:=Ii h1;have hnd:=Fc h1;have hgn:(hs (j+1)).next=g.next:=by rw[hback,Au]
 have hge:(hs j).next<=g.next:=by rw[<- hgn];exact K.dw hj
 have ordN:∀ {k i:Nat},i<ops.size->i≠j->k∈(tc i).writes->(X i↔i<j):=by
  intro k i hi hne hki;cases hor:ordered (Region.before ops) i j with
  | true=>exact WI hD hX hp hne hor
  | false=>rw[(K.dn hL hi hne hor).1] at hki;cases hki
 have condJ:∀ k i,i<ops.size->k∈(tc i).writes->(X i↔i<j):=by
  intro k i hi hki;by_cases e:i=j
  ·subst e;exact⟨fun h=>absurd h hX,fun h=>absurd h (Nat.lt_irrefl _)⟩
  ·exact ordN hi e hki
 have ordL:∀ {i:Nat},i<ops.size->X i->ACV ops hs As i->i<j:=by
  intro i hi hx hLi;have hne:i≠j:=fun e=>hX (e▸hx);cases hor:ordered (Region.before ops) i j with
  | true=>exact (WI hD hX hp hne hor).1 hx
  | false=>
   exfalso;obtain⟨_,h3⟩:=K.dn hL hi hne hor;obtain⟨p,hp1,hp2,hp3,hp4⟩:=hLi;rcases h3 with h3|⟨p',q1,q2,q3,q4⟩
   ·obtain⟨_,h4⟩:=K.dn ⟨p,hp1,hp2,hp3,hp4⟩ hj (fun e=>hne e.symm) (by rw[EU (fun e=>hne e.symm)];exact hor);by_cases hej:eff p.op=true
    ·rcases h4 with h4|⟨o',q1,q2,q3,q4⟩
     ·obtain⟨o',r1,r2,r3,r4⟩:=hL;rw[ho] at r1;cases r1;have heo:eff o.op=true:=by
       cases he:eff o.op
       ·exact absurd ⟨he,fun _=>h4⟩ r4
       ·rfl
      rcases K.dok.effs i j o p ho hp1 hne heo hej with⟨h5,_⟩|h5
      ·rw[r3] at h5;cases h5
      ·rw[hor] at h5;cases h5
     ·obtain⟨o2,r1,r2,r3,r4⟩:=hL;rw[ho] at r1 q1;cases r1;cases q1;exact r4 ⟨q3,q4⟩
    ·exact hp4 ⟨by simpa using hej,fun _=>h3⟩
   ·rw[hp1] at q1;cases q1;exact hp4 ⟨q3,q4⟩
 have notLow:∀ {k:Nat},(hs j).next<=k->¬ Low ops hs As X k:=by
  intro k hk hl;rcases hl with h3|⟨i,h3,h4,h5,h6⟩
  ·have:=K.mono (C2 j) (Y1 hj);omega
  ·have h7:=ordL h4 h3 h5;have:=K.mono (show i+1<=j by omega) (Y1 hj);omega
 obtain⟨ψ,w2,a2,R2,AT2,hbase,htot⟩:=K.tie j (Y1 hj);have Rc:=S.tie.fc R2
  (fun k hk hs'=>by
   rcases P1 k (hs 0).next with h3|h3
   ·rw[hbase k h3,<- S.base k h3];exact hs'
   ·exact htot k h3 hk)
  (fun k B hk hs' hB=>by rw[S.agree k j (Y1 hj) hk hs' (condJ k)];exact hB)
 have AT':=S.dv K ho hX hD hp;have h1':BC D E ev (A.keep (Eg o.op)) o (fresh (hs j))=some (x,g):=by
  rw[<- h1];exact Fy (fun y hy=>by rw[Pg hy];exact hop y hy)
 have hsim:=GU T hv (Rc.marked (hs j).next []) AT' h1';rw[Mf hsel] at hsim;obtain⟨φ'',w',q1,q2,q3,q4,q5⟩:=KP (P:=P) (b:=b) (k:=k) (cs:=cs) (rest:=rest) ho hnd (by rw[EE S.act];exact hwA) hsim;have q3':Ext (cut φ (hs j).next) φ'' (hs j).next g.next w:=q3;have hM:g.next<=h.next:=by
  rw[S.next,<- hgn];exact K.mono (show j+1<=ops.size by omega) (C0 _)
 obtain⟨R',hblk,hLe⟩:=S.tie.glue (n:=(hs j).next) q2 hM hge
  (fun k hk=>by rw[q3'.1 k hk,Mp hk])
  (fun k h3 h4=>by
   cases hq:φ k with
   | none=>rfl
   | some y=>
    exfalso;rcases S.dom k (by rw[hq];rfl) with h5|⟨i,h5,h6,h7,h8⟩
    ·have:=K.mono (C2 j) (Y1 hj);omega
    ·rcases Nat.lt_trichotomy i j with h9|h9|h9
     ·have:=K.mono (show i+1<=j by omega) (Y1 hj);omega
     ·exact hX (h9▸h5)
     ·have:=K.mono (show j+1<=i by omega) (Y1 h6);omega)
  q4 q3'.2.1
  (fun k c bb e hk hφ=>(S.low k c bb e hφ).resolve_left (notLow hk))
  (fun k xs ty r p hk hd=>by
   rcases S.lowr k xs ty r p hd with h3|h3
   ·exact absurd h3 (notLow (Y0 hge hk))
   ·omega)
 have hLe':Le φ'' (JW φ'' φ g.next):=by
  intro k y hk;obtain⟨c,bb,e⟩:=y;show (if k<g.next then φ'' k else φ k)=_;rw[if_pos (q2.dom _ _ _ _ hk).1];exact hk
 have hok:=okV.le hLe' q1;rw[<- hok.2] at q5;have lowJ:∀ {k:Nat},k<g.next->Low ops hs As (fun i=>X i\/i=j) k:=fun hk=>.inr ⟨j,.inr rfl,hj,hL,by rw[hgn];exact hk⟩;have hglow:∀ {k:Nat},k<g.next->JW φ'' φ g.next k=φ'' k:=fun hk=>if_pos hk;have hghigh:∀ {k:Nat},g.next<=k->JW φ'' φ g.next k=φ k:=fun hk=>if_neg (by omega);have hdyn:∀ k,(MZ g h g.next).dyn.get k=if k<g.next then g.dyn.get k else h.dyn.get k:=fun k=>Pr q2.fresh S.tie.fresh rfl hM
 refine⟨MZ g h g.next,JW φ'' φ g.next,A.put o.dst x,_,w',?_,q5⟩;refine⟨R',S.next,(S.act.le hLe).put _ hok.1,by rw[Ac.cm];exact S.n,S.bo K ho hX hD hp hAs,by rw[Ac.put_defers];exact S.dfr,by rw[put_defers];exact S.adfr,?_,?_,?_,?_,?_,?_,?_,?_,?_⟩
 ·-- dom
  intro k hk;rcases P1 k g.next with h3|h3
  ·rcases P1 k (hs j).next with h4|h4
   ·rw[hglow h3,q3'.1 k h4,Mp h4] at hk;exact (S.dom k hk).imp id fun ⟨i,h1,h2⟩=>⟨i,.inl h1,h2⟩
   ·exact .inr ⟨j,.inr rfl,hj,h4,by rw[hgn];exact h3⟩
  ·rw[hghigh h3] at hk;exact (S.dom k hk).imp id fun ⟨i,h1,h2⟩=>⟨i,.inl h1,h2⟩
 ·-- tot
  intro i k hi' hlt h3 h4;rcases hi' with hi'|rfl
  ·obtain⟨y,hy⟩:=J1.1 (S.tot i k hi' hlt h3 h4);rw[hLe _ _ hy];rfl
  ·rw[hgn] at h4;rw[hglow h4];exact q3'.2.2 k h3 h4
 ·-- base
  intro k hk;have:=K.mono (C2 j) (Y1 hj);rw[hglow (by omega),q3'.1 k (by omega),Mp (by omega)];exact S.base k hk
 ·-- agree
  intro k j' hj' hk' hks hc;rw[hblk];rcases P1 k g.next with h3|h3
  ·rw[if_pos h3];have:g.blk k=(hs (j+1)).blk k:=by rw[hback,BQ]
   rw[this];refine (K.cz (p:=j+1) (q:=j') hj hj' (by rw[hgn];exact h3) hk' (fun i hi' hki => ?_)).symm;rw[<- hc i hi' hki];by_cases e:i=j
   ·subst e;exact⟨fun _=>.inr rfl,fun _=>by omega⟩
   ·have:=ordN hi' e hki;constructor
    ·intro h;exact .inl (this.2 (by omega))
    ·rintro (h|h)
     ·have:=this.1 h;omega
     ·exact absurd h e
  ·rw[if_neg (by omega)];rw[hghigh h3] at hks;refine S.agree k j' hj' hk' hks (fun i hi' hki => ?_);rw[<- hc i hi' hki];refine⟨.inl,fun h=>h.resolve_right ?_⟩;rintro rfl;have:=K.et hi' hki;omega
 ·-- shapes
  intro k j' hj' hk' hks;rw[hdyn];rcases P1 k g.next with h3|h3
  ·rw[if_pos h3];have:g.dyn.get k=(hs (j+1)).dyn.get k:=by rw[hback,Cs]
   rw[this];exact (K.br (p:=j+1) (q:=j') hj hj' (by rw[hgn];exact h3) hk').symm
  ·rw[if_neg (by omega)];rw[hghigh h3] at hks;exact S.shape k j' hj' hk' hks
 ·-- low
  intro k c bb e hk;rcases P1 k g.next with h3|h3
  ·exact .inl (lowJ h3)
  ·rw[hghigh h3] at hk;refine .inr (fun k' b' e' hne hk' => ?_);have hdist:=(S.low k c bb e hk).resolve_left (notLow (Y0 hge h3));rcases P1 k' g.next with h4|h4
   ·rw[hglow h4] at hk';rcases q3'.2.1 _ _ _ _ hk' with h5|⟨i,b2,e2,h5⟩
    ·have:=(S.tie.dom _ _ _ _ hk).2.2;omega
    ·obtain⟨h6,h7⟩:=CQ h5;exact hdist i b2 e2 (by omega) h7
   ·rw[hghigh h4] at hk';exact hdist k' b' e' hne hk'
 ·-- lowr
  intro k xs ty r p hd;rw[hdyn] at hd;rcases P1 k g.next with h3|h3
  ·exact .inl (lowJ h3)
  ·rw[if_neg (by omega)] at hd;exact (S.lowr k xs ty r p hd).imp Low.or id
 ·exact S.kept.on (q4.weaken (Ym _ _)) S.img
 ·-- img
  intro k c bb e hk;rcases P1 k g.next with h3|h3
  ·rw[hglow h3] at hk;rcases q3'.2.1 _ _ _ _ hk with h5|⟨i,b2,e2,h5⟩
   ·exact .inl (Y0 S.kept.size h5)
   ·exact S.img i c b2 e2 (CQ h5).2
  ·rw[hghigh h3] at hk;exact S.img k c bb e hk
end
section
variable {P:Program} {D:Tab} {E:Env} {n0:Nat} {ev:Ev} {ops:Array Oper} {φ0:Ph} {hs:Nat->H} {As:Nat->Ac} {tc:Nat->Tch} {w0:World} {d0:List Deferred}
 {X:Nat->Prop} {h:H} {φ:Ph} {A:Ac} {a:Act} {w:World} {j:Nat} {o:Oper}
theorem St.one (T:D.Of P) (hv:NX P D E n0 ev) (hn:Cb ev) (K:Text D E n0 ev ops φ0 hs As tc) (S:St D E n0 ops φ0 hs As tc w0 d0 X h φ A a w) (ho:ops[j]? = some o) (hX:¬ X j) (hD:Down ops X) (hp:∀ i,((Region.before ops).getD j 0).testBit i=true->X i)
  (b:Frame) (rest:List Nat) (k:List Item) (cs:List Frame) :
  ∃ h' φ' A' a' w',St D E n0 ops φ0 hs As tc w0 d0 (fun i=>X i\/i=j) h' φ' A' a' w'/\Steps P (lone (fput b a (.inRegion ops (j::rest)::k)) cs w) (lone (fput b a' (.inRegion ops rest::k)) cs w'):=by
 have hj:=CY ho;have hwe:=S.cj K ho hX hD hp;cases hw:Bo ops (As j) o with
 | false=>
  have hAs:As (j+1)=(As j).put o.dst undef:=by
   rcases K.step j o ho with⟨_,_,h1,_⟩|⟨h0,_⟩
   ·exact h1
   ·rw[hw] at h0;cases h0
  obtain⟨h1,h2⟩:=K.bm ho hw;have hs':=Mc (P:=P) (b:=b) (a:=a) (k:=k) (cs:=cs) (w:=w) (ops:=ops) (i:=j) (rest:=rest) (by simp[ho,EE S.act,hwe,hw]);rw[ho] at hs';refine⟨_,_,_,_,_,S.same K ho hX hD hp hAs (C8 φ) h2 h1 S.tie (Kept.refl _ _),.one ?_⟩;rw[DU];exact hs'
 | true=>
  by_cases hst:Bi o.op=true
  ·exact S.store T hv K ho hX hD hp hw hst b rest k cs
  by_cases hq:eff o.op=false/\(BG o.op=true->(hs (j+1)).next=(hs j).next)
  ·obtain⟨hq,hmj⟩:=hq;have hquiet:Rf ops hs As j:=⟨o,ho,hw,hq,hmj⟩;have hw0:=K.bf hquiet;rcases K.step j o ho with⟨h0,_⟩|⟨_,x,g,h1,_,hback,hAs,htc⟩
   ·rw[hw] at h0;cases h0
   have h1q:=h1;rw[EW hq] at h1q;have hgn:(hs (j+1)).next=g.next:=by rw[hback,Au]
   rcases Ia hq (fun hm=>by rw[<- hgn];exact hmj hm) h1q with hg|⟨hi,hne⟩
   ·subst hg;have hnx:(hs (j+1)).next=(hs j).next:=hgn;obtain⟨_,hop⟩:=S.opv_eq K ho hX hD hp;have hr:(tc j).reads=reads D (As j) o:=by rw[htc]
    have hag:∀ k',(φ k').isSome=true->k'<(hs j).next->(∀ i,i<ops.size->i≠j->ordered (Region.before ops) i j=false->k' ∉ (tc i).writes)->h.blk k'=(fresh (hs j)).blk k':=by
     intro k' h3 h4 h5;rw[Iw];refine S.agree k' j (Y1 hj) h4 h3 (fun i hi hki => ?_);by_cases e:i=j
     ·subst e;rw[hw0] at hki;cases hki
     ·cases hor:ordered (Region.before ops) i j with
      | true=>exact WI hD hX hp e hor
      | false=>exact absurd hki (h5 i hi e hor)
    have h2:aop D E (As j) o.op h=some (x,h):=by
     refine SY hq h1q (fun l hl k' hk' y hy u hu hku => ?_) (fun hl y hy u hu k' hku => ?_)
     ·obtain⟨h3,h4⟩:=S.top K ho hX hD hp hy hu hku;exact hag k' h3 h4 (fun i hi e hor hki=>(K.eh hi hj e hor).2 l (hr.trans hl) k' hki hk')
     ·obtain⟨h3,h4⟩:=S.top K ho hX hD hp hy hu hku;exact hag k' h3 h4 (fun i hi e hor hki=>by rw[(K.eh hi hj e hor).1 (hr.trans hl)] at hki;cases hki)
    have h3:BC D E ev A o h=some (x,h):=by
     rw[EW hq,JG hop];exact h2
    obtain⟨w',g1,g2,g3,g4⟩:=S.sim T hv ho (by rw[hwe];exact hw) rfl h3 b rest k cs;exact⟨_,_,_,_,_,S.same K ho hX hD hp hAs g1 hnx hw0 g2 g3,g4⟩
   ·exact S.make T K ho hX hD hp hw hq hi (by rw[hgn];exact hne) b rest k cs
  ·exact S.loud T hv hn K ho hX hD hp ⟨o,ho,hw,by simpa using hst,hq⟩ b rest k cs
theorem St.all (T:D.Of P) (hv:NX P D E n0 ev) (hn:Cb ev) (K:Text D E n0 ev ops φ0 hs As tc) (b:Frame) (k:List Item) (cs:List Frame):∀ (l:List Nat) (X:Nat->Prop) (h:H) (φ:Ph) (A:Ac) (a:Act) (w:World),
  Good ops X l->Down ops X->St D E n0 ops φ0 hs As tc w0 d0 X h φ A a w->
  ∃ X' h' φ' A' a' w',(∀ i,i<ops.size->X' i)/\St D E n0 ops φ0 hs As tc w0 d0 X' h' φ' A' a' w'/\Steps P (lone (fput b a (.inRegion ops l::k)) cs w) (lone (fput b a' k) cs w'):=by
 intro l;induction l with
 | nil=>
  intro X h φ A a w hG hD S;exact⟨X,h,φ,A,a,w,hG,S,.one He⟩
 | cons j l ih=>
  intro X h φ A a w hG hD S;obtain⟨h1,h2,h3,h4⟩:=hG;obtain⟨h',φ',A',a',w',S',st⟩:=S.one T hv hn K (DJ h1) h2 hD h3 b l k cs
  obtain⟨X2,h2,φ2,A2,a2,w2,g1,g2,g3⟩:=ih _ h' φ' A' a' w' h4 (by
   intro i hi k hk;rcases hi with hi|rfl
   ·exact .inl (hD i hi k hk)
   ·exact .inl (h3 k hk)) S'
  exact⟨X2,h2,φ2,A2,a2,w2,g1,g2,st.trans g3⟩
theorem ZA (T:D.Of P) (hv:NX P D E n0 ev) (hl:Rh ev) {A':Ac} {h':H} {ts:List Tch} (hdk:Hf ops=true) (hr:BA D E ev ops 0 ops.toList A h=some (A',h',ts)) (hm:DB (Region.before ops) ts=true)
  (R:Tie D E n0 All φ h w) (AT:El φ A a):∃ hs As tc,Text D E n0 ev ops φ hs As tc/\hs 0=h/\As 0=A/\hs ops.size=h'/\As ops.size=A':=by
 obtain⟨hs,As,e1,e2,e3,e4,e5,e6⟩:=Ka (by rfl) hr;simp only[Z1,Q4] at e3 e4 e5;let tc:Nat->Tch:=fun i=>(ts[i]?).getD ⟨none,[],0,0,false⟩;have hstep:∀ i o,ops[i]? = some o->Uw ops o (As i) (hs i) (As (i+1)) (hs (i+1)) (tc i)\/ACP D E ev ops i o (As i) (hs i) (As (i+1)) (hs (i+1)) (tc i):=by
  intro i o ho;obtain⟨t,h1,h2⟩:=e6 i o (C2 _) ho;have:tc i=t:=by simp only[tc];rw[Nat.sub_zero] at h1;rw[h1];rfl
  rw[this];exact h2
 have htie:∀ i,i<=ops.size->∃ ψ w2 a2,Tie D E n0 All ψ (hs i) w2/\El ψ (As i) a2/\Ext φ ψ (hs 0).next (hs i).next w/\w.heap.size<=w2.heap.size/\(hs 0).next<=(hs i).next:=by
  intro i;induction i with
  | zero=>intro _;exact⟨φ,w,a,by rw[e1];exact R,by rw[e2];exact AT,Ext.refl _ _ _,C0 _,C0 _⟩
  | succ i ih=>
   intro hi;obtain⟨ψ,w2,a2,R2,AT2,X2,s2,n2⟩:=ih (by omega);rcases hstep i _ (DJ (show i<ops.size by omega)) with⟨_,g1,g2,_⟩|⟨_,x,g,g1,_,g3,g4,_⟩
   ·have hA:El ψ (As (i+1)) (a2.put ops[i].dst (ren ψ undef)):=by
     rw[g2];exact AT2.put _ (C8 ψ)
    have hR:Tie D E n0 All ψ (hs (i+1)) w2:=by rw[g1];exact R2
    have hXx:Ext φ ψ (hs 0).next (hs (i+1)).next w:=by rw[g1];exact X2
    have hN:(hs 0).next<=(hs (i+1)).next:=by rw[g1];exact n2
    exact⟨ψ,w2,_,hR,hA,hXx,s2,hN⟩
   ·obtain⟨nx,w1,_,hc⟩:=GU T hv (R2.marked (hs i).next []) AT2 g1;obtain⟨ψ',w',q1,q2,q3,q4,_⟩:=hc (Frame.enter P 0 #[] .normal) [];have q3':Ext ψ ψ' (hs i).next g.next w2:=q3;have hle:=q3'.le (fun k c b e hk=>(R2.dom k c b e hk).1);have hgn:(hs (i+1)).next=g.next:=by rw[g3,Au]
    have o2:(hs i).Wf:=R2.root;have hgl:=(Hp (Ig o2 (hs i).next (C0 _) []) hl g1).next;have hgl:(hs i).next<=g.next:=hgl;refine⟨ψ',w',a2.put ops[i].dst (ren ψ' x),?_,?_,?_,Y0 s2 q4.size,by rw[hgn];omega⟩
    ·rw[g3];exact (q2.marked (hs i).mark (hs i).log).note g.log
    ·rw[g4];exact (AT2.le hle).put _ q1
    ·rw[hgn];exact X2.trans q3' n2 s2
 refine⟨hs,As,tc,⟨Mk hdk,hstep,?_,?_,?_⟩,e1,e2,e3,e4⟩
 ·intro i j hij hj hor;have hi':i<ts.length:=by omega
  have hj':j<ts.length:=by omega
  refine WQ (RS hm (i:=i) (j:=j) ?_ ?_ hij hor)
  ·simp only[tc];rw[Q0 hi'];rfl
  ·simp only[tc];rw[Q0 hj'];rfl
 ·intro i hi;obtain⟨ψ,w2,a2,R2,AT2,X2,_⟩:=htie i hi;exact⟨ψ,w2,a2,R2,AT2,X2.1,X2.2.2⟩
 ·intro i o x g ho hg;obtain⟨ψ,w2,a2,R2,_⟩:=htie i (Y1 (CY ho));exact Hp (Ig R2.root (hs i).next (C0 _) []) hl hg
theorem Zl (K:Text D E n0 ev ops φ0 hs As tc) {k:Nat}:∀ {n:Nat},n<=ops.size->(hs 0).next<=k->k<(hs n).next->∃ i,i<n/\(hs i).next<=k/\k<(hs (i+1)).next:=by
 intro n;induction n with
 | zero=>intro _ h1 h2;omega
 | succ n ih=>
  intro hn h1 h2;rcases P1 k (hs n).next with h|h
  ·obtain⟨i,h3,h4⟩:=ih (by omega) h1 h;exact⟨i,by omega,h4⟩
  ·exact⟨n,by omega,h,h2⟩
theorem SX (T:D.Of P) (hv:NX P D E n0 ev) (hn:Cb ev) (hl:Rh ev):QF P D E n0 ev:=by
 intro id ops draw A h A' h' φ w a b k cs hr R AT DT;unfold runRegion at hr;cases draw with
 | false=>
  simp only at hr;obtain⟨φ',w',a',r1,r2⟩:=QZ (b:=b) (k:=k) (cs:=cs) T hv hn ops ops.toList 0 A h A' h' φ w a rfl hr R AT DT;refine⟨φ',w',a',r1,.head We ?_⟩;rw[List.range_eq_range'];simpa using r2
 | true=>
  simp only at hr;split at hr
  ·cases hr
  ·next hdk=>
   split at hr
   ·next A1 h1 ts hfree=>
    split at hr
    ·next hmeet=>
     cases hr;have R0:Tie D E n0 All φ h { w with drawn:=w.drawn+1 }:=R.of_heap rfl;obtain⟨hs,As,tc,K,e1,e2,e3,e4⟩:=ZA T hv hl hdk hfree hmeet R0 AT;have hmono:=K.mono (C2 ops.size) (C0 _);rw[e1] at hmono;have S0:St D E n0 ops φ hs As tc w a.defers (fun _=>False) { h with next:=(hs ops.size).next } φ A a { w with drawn:=w.drawn+1 }:=by
      refine⟨⟨R0.ro,R0.size,?_,R0.blk,R0.apart,R0.exact,?_,?_⟩,rfl,AT,by rw[e2],?_,by rw[e2],rfl,?_,fun i _ hi=>hi.elim,fun _ _=>rfl,?_,?_,?_,?_,⟨rfl,rfl,rfl,C0 _,fun _ _ _=>rfl⟩,fun k c b e hk=>.inr ⟨k,b,e,hk⟩⟩
      ·intro k c b e hk;obtain⟨a1,a2,a3⟩:=R0.dom _ _ _ _ hk;exact⟨Q1 a1 hmono,a2,a3⟩
      ·intro k hk;exact R0.fresh k (Y0 hmono hk)
      ·intro k xs ty r p hd;exact Q1 (R0.root _ _ _ _ _ hd) hmono
      ·intro t j hj hc;rw[<- e2];refine (K.bw (C2 j) hj (fun i o h1 h2 ho hd => ?_)).symm;exact ((hc i o ho hd).2 h2)
      ·intro k hk;obtain⟨⟨c,b',e⟩,hx⟩:=J1.1 hk;left;rw[e1];exact (R0.dom _ _ _ _ hx).1
      ·intro k j hj hk hs' hc;obtain⟨⟨c,b',e⟩,hx⟩:=J1.1 hs';have h0:k<(hs 0).next:=by rw[e1];exact (R0.dom _ _ _ _ hx).1
       rw[K.dh (C2 j) hj h0 (fun i _ h2 hki=>(hc i (by omega) hki).2 h2),e1];exact Ar rfl (fun _ _ _ _ _=>Iff.rfl)
      ·intro k j hj hk hs';obtain⟨⟨c,b',e⟩,hx⟩:=J1.1 hs';have h0:k<(hs 0).next:=by rw[e1];exact (R0.dom _ _ _ _ hx).1
       rw[K.shape (C2 j) hj h0,e1]
      ·intro k c b' e hk;left;left;rw[e1];exact (R0.dom _ _ _ _ hk).1
      ·intro k xs ty r p hd;left;left;rw[e1];have hd:h.dyn.get k=some (.cells xs ty (some (r,p))):=hd;rcases P1 k h.next with h3|h3
       ·exact h3
       ·rw[R0.fresh k h3] at hd;cases hd
     obtain⟨X,hF,φ',AF,a',w',hX,S,st⟩:=St.all T hv hn K b k cs _ _ _ _ _ _ _ (KV (Mk hdk).orders (P.follows .mixedOrders) (w.tape w.drawn (.order b.fn id))) (fun _ h=>h.elim) S0;refine⟨φ',w',a',?_,.head LI st⟩;obtain⟨ψ,w2,a2,R2,_,hbase,htot⟩:=K.tie ops.size (C0 _);have hsome:∀ k,(φ' k).isSome=true->k<(hs ops.size).next:=by
      intro k hk;obtain⟨⟨c,b',e⟩,hx⟩:=J1.1 hk;rw[<- S.next];exact (S.tie.dom _ _ _ _ hx).1
     have hcut:cut φ' (hs ops.size).next=φ':=by
      funext k
      unfold cut;split
      ·rfl
      ·next hge=>
       cases hq:φ' k with
       | none=>rfl
       | some y=>exact absurd (hsome k (by rw[hq];rfl)) hge
     have Rn:=S.tie.fc R2
      (fun k hk hs'=>by
       rcases P1 k (hs 0).next with h3|h3
       ·rw[hbase k h3,<- S.base k h3];exact hs'
       ·exact htot k h3 hk)
      (fun k B hk hs' hB=>by
       rw[S.agree k ops.size (C0 _) hk hs' (fun i hi _=>⟨fun _=>hi,fun _=>hX i hi⟩)];exact hB)
     rw[hcut,e3] at Rn;have hLe:Le φ φ':=by
      intro k x hk;obtain⟨c,b',e⟩:=x;rw[S.base k (by rw[e1];exact (R0.dom _ _ _ _ hk).1)];exact hk
     refine⟨Rn,⟨?_,fun t => ?_⟩,?_,⟨fun k hk=>S.base k (by rw[e1];exact hk),S.img,fun k h3 h4 => ?_⟩,S.kept⟩
     ·rw[S.act.size,S.n,<- e4,K.fp (C0 _)]
     ·have ht:=S.tmps t ops.size (C0 _) (fun i p hp _=>⟨fun _=>CY hp,fun _=>hX i (CY hp)⟩);rw[<- e4,<- ht];exact S.act.tmps t
     ·rw[<- e4,K.fk (C0 _),e2,S.adfr];exact DT.le hLe
     ·obtain⟨i,h5,h6,h7⟩:=Zl K (C0 _) (by rw[e1];exact h3) (by rw[e3];exact h4);exact S.tot i k (hX i h5) h5 h6 h7
    ·cases hr
   ·cases hr
end
structure Aw (P:Program) (D:Tab) (E:Env) (n0:Nat) (I:Aa):Prop where
 sim:Uy P D E n0 I
 lg:∀ f args h r h',I f args h=some (some (r,h'))->h.Ok->Lg h h'
 next:∀ f args h r h',I f args h=some (some (r,h'))->h.next<=h'.next
theorem Qr {P:Program} {D:Tab} {E:Env} {n0:Nat} {I:Aa} (T:D.Of P) (hN:Je P) (hI:Aw P D E n0 I):∀ n,NX P D E n0 (ev D E I n)
 | 0=>⟨fun _ _ _ _ _ h=>(by cases h),fun _ _ _ _ _ h=>(by cases h),fun _ _ _ _ _ _ _ h=>(by cases h)⟩
 | n+1=>by
  have hv:=Qr T hN hI n;have hn:Cb (ev D E I n):=ON hI.next n;have hl:Rh (ev D E I n):=UJ hI.lg n;exact⟨Qu T hN hI.sim hv,OR hv hn,Qt hv hn (SX T hv hn hl) (Vp hv hn)⟩
end Go.Hs
