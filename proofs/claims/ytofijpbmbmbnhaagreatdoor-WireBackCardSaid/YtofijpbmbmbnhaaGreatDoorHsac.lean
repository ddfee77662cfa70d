/- The evaluator's blocks only grow in number. -/
import Derived.Test.YtofijpbmbmbnhaaGreatDoorHsab
import Derived.Calls
set_option linter.unusedSimpArgs false
set_option linter.unusedVariables false
namespace Go.Hs
section
variable {D:Tab} {E:Env} {h h':H}
theorem NG {e:Nat} {a:Addr} {len cap:Nat} {lo hi mx:Option Value} {v:Value} (hp:asliceS e a len cap lo hi mx h=some (v,h')):h.next<=h'.next:=by
 unfold asliceS at hp
 repeat' split at hp
 all_goals first
  | (cases hp;done)
  | (cases hp;exact C0 _)
  | (cases hp;exact U1 _)
  | (cases hp;rw[Ag];exact C0 _)
  | (cases hp;rw[Bz];exact U1 _)
  | (cases hp;rw[H.ai];exact U1 _)
  | (cases hp;exact N4 (Bf (by assumption)).symm)
theorem NR {t t2:TypeId} {s x:Value} {v:Value} (hp:Ab D E t t2 s x h=some (v,h')):h.next<=h'.next:=by
 unfold Ab at hp
 repeat' split at hp
 all_goals first
  | (cases hp;done)
  | (cases hp;exact C0 _)
  | (cases hp;exact U1 _)
  | (cases hp;rw[Ag];exact C0 _)
  | (cases hp;rw[Bz];exact U1 _)
  | (cases hp;rw[H.ai];exact U1 _)
  | (cases hp;exact N4 (Bf (by assumption)).symm)
theorem RX {t:TypeId} {s x:Value} {v:Value} (hp:LY D E t s x h=some (v,h')):h.next<=h'.next:=by
 unfold LY at hp
 repeat' split at hp
 all_goals first
  | (cases hp;done)
  | (cases hp;exact C0 _)
  | (cases hp;exact U1 _)
  | (cases hp;rw[Ag];exact C0 _)
  | (cases hp;rw[Bz];exact U1 _)
  | (cases hp;rw[H.ai];exact U1 _)
  | (cases hp;exact N4 (Bf (by assumption)).symm)
theorem Og {t:TypeId} {x:Value} {v:Value} (hp:JK D t x h=some (v,h')):h.next<=h'.next:=by
 unfold JK at hp
 repeat' split at hp
 all_goals first
  | (cases hp;done)
  | (cases hp;exact C0 _)
  | (cases hp;exact U1 _)
  | (cases hp;rw[Ag];exact C0 _)
  | (cases hp;rw[Bz];exact U1 _)
  | (cases hp;rw[H.ai];exact U1 _)
  | (cases hp;exact N4 (Bf (by assumption)).symm)
theorem NN {t:TypeId} {m k:Value} {v:Value} (hp:F9 D t m k h=some (v,h')):h.next<=h'.next:=by
 unfold F9 at hp
 repeat' split at hp
 all_goals first
  | (cases hp;done)
  | (cases hp;exact C0 _)
  | (cases hp;exact U1 _)
  | (cases hp;rw[Ag];exact C0 _)
  | (cases hp;rw[Bz];exact U1 _)
  | (cases hp;rw[H.ai];exact U1 _)
  | (cases hp;exact N4 (Bf (by assumption)).symm)
theorem JH {t:TypeId} {m k x:Value} {v:Value} (hp:BY D t m k x h=some (v,h')):h.next<=h'.next:=by
 unfold BY at hp
 repeat' split at hp
 all_goals first
  | (cases hp;done)
  | (cases hp;exact C0 _)
  | (cases hp;exact U1 _)
  | (cases hp;rw[Ag];exact C0 _)
  | (cases hp;rw[Bz];exact U1 _)
  | (cases hp;rw[H.ai];exact U1 _)
  | (cases hp;exact N4 (Bf (by assumption)).symm)
theorem Fs {t:TypeId} {m k x:Value} {v:Value} (hp:BY D t m k x h=some (v,h')):h'.next=h.next:=by
 unfold BY at hp
 repeat' split at hp
 all_goals first
  | (cases hp;done)
  | (cases hp;rw[Ag])
theorem OY {t:TypeId} {x:Value} {v:Value} (hp:FL D t x h=some (v,h')):h.next<=h'.next:=by
 unfold FL at hp
 repeat' split at hp
 all_goals first
  | (cases hp;done)
  | (cases hp;exact C0 _)
  | (cases hp;exact U1 _)
  | (cases hp;rw[Ag];exact C0 _)
  | (cases hp;rw[Bz];exact U1 _)
  | (cases hp;rw[H.ai];exact U1 _)
  | (cases hp;exact N4 (Bf (by assumption)).symm)
theorem RR {x:Value} {b:Bool} {v:Value} (hp:LS x b h=some (v,h')):h.next<=h'.next:=by
 unfold LS at hp
 repeat' split at hp
 all_goals first
  | (cases hp;done)
  | (cases hp;exact C0 _)
  | (cases hp;exact U1 _)
  | (cases hp;rw[Ag];exact C0 _)
  | (cases hp;rw[Bz];exact U1 _)
  | (cases hp;rw[H.ai];exact U1 _)
  | (cases hp;exact N4 (Bf (by assumption)).symm)
theorem LZ {s d:TypeId} {x:Value} {v:Value} (hp:AQ D E s d x h=some (v,h')):h.next<=h'.next:=by
 unfold AQ at hp
 repeat' split at hp
 all_goals first
  | (cases hp;done)
  | (cases hp;exact C0 _)
  | (cases hp;exact U1 _)
  | (cases hp;rw[Ag];exact C0 _)
  | (cases hp;rw[Bz];exact U1 _)
  | (cases hp;rw[H.ai];exact U1 _)
  | (cases hp;exact N4 (Bf (by assumption)).symm)
theorem Hi {t:TypeId} {n:Nat} {ps:List (Nat×Value)} {v:Value} (hp:AH D t n ps h=some (v,h')):h.next<=h'.next:=by
 unfold AH at hp
 repeat' split at hp
 all_goals first
  | (cases hp;done)
  | (cases hp;exact C0 _)
  | (cases hp;exact U1 _)
  | (cases hp;rw[Ag];exact C0 _)
  | (cases hp;rw[Bz];exact U1 _)
  | (cases hp;rw[H.ai];exact U1 _)
  | (cases hp;exact N4 (Bf (by assumption)).symm)
theorem JI {t:TypeId} {l c:Value} {v:Value} (hp:Bj D t l c h=some (v,h')):h.next<=h'.next:=by
 unfold Bj at hp
 repeat' split at hp
 all_goals first
  | (cases hp;done)
  | (cases hp;exact C0 _)
  | (cases hp;exact U1 _)
  | (cases hp;rw[Ag];exact C0 _)
  | (cases hp;rw[Bz];exact U1 _)
  | (cases hp;rw[H.ai];exact U1 _)
  | (cases hp;exact N4 (Bf (by assumption)).symm)
theorem OW {t:TypeId} {x:Value} {lo hi mx:Option Value} {v:Value} (hp:Av D t x lo hi mx h=some (v,h')):h.next<=h'.next:=by
 unfold Av at hp
 repeat' split at hp
 all_goals first
  | (cases hp;done)
  | (cases hp;exact C0 _)
  | exact NG hp
theorem JE {t:TypeId} {a:Addr} {v:Value} (hp:AO D t a v h=some h'):h'.next=h.next:=by
 unfold AO at hp
 repeat' split at hp
 all_goals first
  | (cases hp;done)
  | exact Bf hp
theorem LO {pt:TypeId} {p n:Value} {v:Value} (hp:Ct D E pt p n h=some (v,h')):h.next<=h'.next:=by
 unfold Ct at hp
 repeat' split at hp
 all_goals first
  | (cases hp;done)
  | (cases hp;exact C0 _)
  | (cases hp;rw[H.ai];exact C0 _)
theorem La {b:Builtin} {ts:List TypeId} {args:List Value} {v:Value} (hp:Af D E b ts args h=some (v,h')):h.next<=h'.next:=by
 unfold Af at hp;split at hp
 case h_3=>exact NR hp
 case h_4=>exact RX hp
 case h_5=>exact Og hp
 case h_6=>exact NN hp
 case h_10=>exact LO hp
 all_goals (repeat' split at hp)
 all_goals first
  | (cases hp;done)
  | (cases hp;exact C0 _)
theorem TL {o:Option Value} {v:Value} (hp:pair h o=some (v,h')):h.next<=h'.next:=by
 unfold pair at hp;split at hp
 ·cases hp;exact C0 _
 ·cases hp
theorem XF {A:Ac} {op:Op} {v:Value} (hp:aop D E A op h=some (v,h')):h.next<=h'.next:=by
 cases op<;>simp only[aop] at hp
 all_goals (repeat' split at hp)
 all_goals first
  | (cases hp;done)
  | exact TL hp
  | exact OW hp
  | exact La hp
  | exact LZ hp
  | exact Hi hp
  | exact JI hp
  | exact JH hp
  | exact OY hp
  | exact RR hp
  | (cases hp;exact N4 (JE (by assumption)).symm)
  | (cases hp;exact C0 _)
  | (cases hp;exact U1 _)
structure Cb (v:Ev):Prop where
 call:∀ {f args h r h'},v.call f args h=some (r,h')->h.next<=h'.next
 round:∀ {l args h r h'},v.round l args h=some (r,h')->h.next<=h'.next
 code:∀ {F c A h ex A' h'},v.code F c A h=some (ex,A',h')->h.next<=h'.next
theorem HS {ev:Ev} (hv:Cb ev) {f:Value} {args:List Value} {r:Value} (hp:Dm ev f args h=some (r,h')):h.next<=h'.next:=by
 unfold Dm at hp;split at hp
 ·exact hv.call hp
 ·exact hv.round hp
 ·cases hp
theorem HE {ev:Ev} (hv:Cb ev) {A:Ac} {o:Oper} {r:Value} (hp:BC D E ev A o h=some (r,h')):h.next<=h'.next:=by
 unfold BC at hp;split at hp
 ·simp only[bind,N5] at hp;obtain⟨_,_,_,_,hc⟩:=hp;exact HS hv hc
 ·exact XF hp
theorem Nh {ev:Ev} (hv:Cb ev) {ops:Array Oper}:∀ {l:List Oper} {A:Ac} {h:H} {A':Ac} {h':H},BP D E ev ops l A h=some (A',h')->h.next<=h'.next:=by
 intro l;induction l with
 | nil=>intro A h A' h' hp;simp only[BP] at hp;cases hp;exact C0 _
 | cons o l ih=>
  intro A h A' h' hp;simp only[BP] at hp;split at hp
  ·split at hp
   ·next ho=>exact Y0 (HE hv ho) (ih hp)
   ·cases hp
  ·exact ih hp
theorem Lx {ev:Ev} (hv:Cb ev) {ops:Array Oper}:∀ {l:List Oper} {j:Nat} {A:Ac} {h:H} {A':Ac} {h':H} {ts:List Tch},BA D E ev ops j l A h=some (A',h',ts)->h.next<=h'.next:=by
 intro l;induction l with
 | nil=>intro j A h A' h' ts hp;simp only[BA] at hp;cases hp;exact C0 _
 | cons o l ih=>
  intro j A h A' h' ts hp;simp only[BA] at hp;split at hp
  ·split at hp
   ·next ho=>
    split at hp
    ·split at hp
     ·next hr=>
      cases hp;have h1:=HE hv ho;have h2:=ih hr;rw[H.ai] at h2;exact Y0 h1 h2
     ·cases hp
    ·cases hp
   ·cases hp
  ·split at hp
   ·next hr=>cases hp;exact ih hr
   ·cases hp
theorem Dp:∀ {ds:List Nat} {h h':H},Ay ds h=some h'->h'.next=h.next:=by
 intro ds;induction ds with
 | nil=>intro h h' hp;simp only[Ay] at hp;cases hp;rfl
 | cons d ds ih=>
  intro h h' hp;simp only[Ay] at hp;split at hp
  ·rw[ih hp,Ag]
  ·cases hp
theorem JT {ev:Ev} (hv:Cb ev) {ops:Array Oper} {draw:Bool} {A:Ac} {A':Ac} (hp:runRegion D E ev ops draw A h=some (A',h')):h.next<=h'.next:=by
 unfold runRegion at hp;split at hp
 ·exact Nh hv hp
 ·split at hp
  ·cases hp
  ·split at hp
   ·next hr=>
    split at hp
    ·cases hp;exact Lx hv hr
    ·cases hp
   ·cases hp
theorem Cb.step {I:Aa} (hI:∀ f args h r h',I f args h=some (some (r,h'))->h.next<=h'.next) {ev:Ev} (hv:Cb ev):Cb (Dq D E I ev) where
 call:=by
  intro f args h r h' hp;simp only[Dq,Dh] at hp;split at hp
  ·next hI'=>subst hp;exact hI _ _ _ _ _ hI'
  ·split at hp
   ·cases hp
   ·split at hp
    ·cases hp
    ·split at hp
     ·next hc=>
      split at hp
      ·next ht=>
       simp only[I2] at hp;obtain⟨_,_,he⟩:=hp;cases he;rw[Dp ht];exact hv.code hc
      ·cases hp
     ·next hc=>
      split at hp
      ·next ht=>
       simp only[I2] at hp;obtain⟨_,_,he⟩:=hp;cases he;rw[Dp ht];exact hv.code hc
      ·cases hp
     ·cases hp
 round:=by
  intro l args h r h' hp;simp only[Dq,EB] at hp;split at hp
  ·split at hp
   ·cases hp
   ·split at hp
    ·next hc1=>
     split at hp
     ·split at hp
      ·split at hp
       ·cases hp
       ·next hc2=>
        have g1:=hv.code hc1;have g2:=hv.code hc2;rw[Ag] at g2;split at hp
        ·split at hp<;>first
          | (cases hp;done)
          | (cases hp;rw[Ag];exact Y0 g1 g2)
        ·cases hp
      ·cases hp
     ·cases hp
    ·cases hp
  ·cases hp
 code:=by
  intro F c A h ex A' h' hp;simp only[Dq] at hp;unfold Ae at hp;split at hp
  ·cases hp;exact C0 _
  ·simp only[I2] at hp;obtain⟨⟨A1,h1⟩,hr,he⟩:=hp;cases he;exact JT hv hr
  ·split at hp
   ·next h1=>exact Y0 (hv.code h1) (hv.code hp)
   ·exact hv.code hp
  ·split at hp
   ·exact hv.code hp
   ·exact hv.code hp
   ·cases hp
  ·split at hp
   ·next h1=>split at hp<;>(cases hp;exact hv.code h1)
   ·cases hp
   ·exact hv.code hp
  ·split at hp
   ·next h1=>exact Y0 (hv.code h1) (hv.code hp)
   ·cases hp
   ·exact hv.code hp
  ·split at hp
   ·cases hp
   ·exact hv.code hp
  ·cases hp;exact C0 _
  ·cases hp;exact C0 _
  ·cases hp;exact C0 _
  ·cases hp
  ·cases hp
  ·split at hp
   ·cases hp
   ·next fv hf=>
    simp only at hp;split at hp
    ·cases hp
    ·next A1 h1 d hs=>
     have hs1:h.next<=h1.next:=by
      split at hs
      ·cases hs;exact U1 _
      ·split at hs
       ·cases hs;exact C0 _
       ·cases hs
     split at hp
     ·cases hp
     ·next h2 hc=>
      have hs2:h1.next+1<=h2.next:=HS hv hc;split at hp
      ·split at hp
       ·cases hp
       ·split at hp
        ·cases hp;rw[Ag];omega
        ·have:=hv.code hp;rw[Ag] at this;omega
      ·cases hp
theorem ON {I:Aa} (hI:∀ f args h r h',I f args h=some (some (r,h'))->h.next<=h'.next):∀ n,Cb (ev D E I n)
 | 0=>⟨fun h=>(by cases h),fun h=>(by cases h),fun h=>(by cases h)⟩
 | n+1=>Cb.step hI (ON hI n)
end
structure El (φ:Ph) (A:Ac) (a:Act):Prop where
 size:a.tmps.size=A.n
 tmps:∀ t,okV φ (A.get t)/\a.tmps.getD t undef=ren φ (A.get t)
theorem El.le {φ φ':Ph} {A:Ac} {a:Act} (h:El φ A a) (hl:Le φ φ'):El φ' A a:=
 ⟨h.size,fun t=>by
  obtain⟨ok,he⟩:=h.tmps t;have:=okV.le hl ok;exact⟨this.1,by rw[he,this.2]⟩⟩
theorem DU (φ:Ph):ren φ undef=undef:=Vl φ
theorem Ac.az (A:Ac) (d:Option Tmp) (v:Value) (t:Nat):(A.put d v).get t=match d with
  | some d=>if d=t/\d<A.n then v else A.get t
  | none=>A.get t:=by
 unfold Ac.put;split
 ·rfl
 ·next d=>
  split
  ·next hlt=>
   rw[P0] at hlt;unfold Ac.get;simp only[T.get_set];by_cases e:t=d
   ·subst e;rw[if_pos rfl,if_pos ⟨rfl,hlt⟩];rfl
   ·rw[if_neg e,if_neg (fun h=>e h.1.symm)]
  ·next hlt=>
   have:¬ (d<A.n):=fun h=>by rw[show Nat.blt d A.n=true from by rw[P0];exact h] at hlt;cases hlt
   show A.get t=if d=t/\d<A.n then v else A.get t
   rw[if_neg (fun h=>this h.2)]
theorem Ac.cm (A:Ac) (d:Option Tmp) (v:Value):(A.put d v).n=A.n:=by
 unfold Ac.put;split
 ·rfl
 ·split<;>rfl
theorem Ac.put_defers (A:Ac) (d:Option Tmp) (v:Value):(A.put d v).defers=A.defers:=by
 unfold Ac.put;split
 ·rfl
 ·split<;>rfl
theorem El.put {φ:Ph} {A:Ac} {a:Act} (h:El φ A a) (d:Option Tmp) {v:Value} (hv:okV φ v):El φ (A.put d v) (a.put d (ren φ v)):=by
 refine⟨?_,fun t => ?_⟩
 ·rw[Ac.cm,<- h.size];cases d<;>simp[Act.put]
 ·rw[Ac.az];cases d with
  | none=>exact h.tmps t
  | some d=>
   simp only;by_cases hd:d=t/\d<A.n
   ·obtain⟨rfl,hd⟩:=hd;rw[if_pos ⟨rfl,hd⟩];refine⟨hv,?_⟩;have:d<a.tmps.size:=by rw[h.size];exact hd
    simp[Act.put,Array.getD,this]
   ·rw[if_neg hd];refine⟨(h.tmps t).1,?_⟩;rw[<- (h.tmps t).2];simp only[Act.put,D2];by_cases e:d=t
    ·subst e;have:¬ (d<a.tmps.size):=by rw[h.size];exact fun hh=>hd ⟨rfl,hh⟩
     simp[this]
    ·rw[Q3,if_neg e]
section ops
variable {P:Program} {D:Tab} {E:Env} {n0:Nat} {V:Nat->Prop} {φ:Ph} {h h':H} {w:World} {A:Ac} {a:Act}
theorem AY (AT:El φ A a) {x:Operand} {v:Value} (hx:opv A x=some v):a.eval x=ren φ v/\okV φ v:=by
 cases x with
 | tmp t=>simp only[opv] at hx;cases hx;exact⟨(AT.tmps t).2,(AT.tmps t).1⟩
 | const c=>
  simp only[opv] at hx;split at hx
  ·next hr=>cases hx;exact⟨(roV.ok φ hr).2.symm,(roV.ok φ hr).1⟩
  ·cases hx
 | global g=>simp only[opv] at hx;cases hx;exact⟨by simp[Act.eval,ren,renA],.inl rfl⟩
 | func f=>
  simp only[opv] at hx;cases hx;refine⟨?_,?_⟩
  ·show Value.func (.func f) ⟨[]⟩ ⟨[]⟩=ren φ (.func (.func f) ⟨[]⟩ ⟨[]⟩);simp[ren,renL,renF]
  ·show okV φ (.func (.func f) ⟨[]⟩ ⟨[]⟩);exact⟨trivial,trivial,trivial⟩
theorem Ho (AT:El φ A a):∀ {xs:List Operand} {vs:List Value},HZ A xs=some vs->xs.map a.eval=vs.map (ren φ)/\∀ v∈vs,okV φ v:=by
 intro xs;induction xs with
 | nil=>intro vs h;simp only[HZ] at h;cases h;simp
 | cons x xs ih=>
  intro vs h;simp only[HZ] at h;split at h
  ·next v hv=>
   split at h
   ·next vs' hvs=>
    cases h;obtain⟨g1,g2⟩:=AY AT hv;obtain⟨g3,g4⟩:=ih hvs;refine⟨by simp[g1,g3],fun y hy => ?_⟩;rcases O1.1 hy with rfl|hy
    ·exact g2
    ·exact g4 y hy
   ·cases h
  ·cases h
theorem EV (AT:El φ A a) {x:Option Operand} {v:Option Value} (hx:JO A x=some v):x.map a.eval=v.map (ren φ)/\∀ y,v=some y->okV φ y:=by
 cases x with
 | none=>simp only[JO] at hx;cases hx;simp
 | some x=>
  simp only[JO] at hx;split at hx
  ·next y hy=>
   cases hx;obtain⟨g1,g2⟩:=AY AT hy;exact⟨by simp[g1],fun z hz=>by cases hz;exact g2⟩
  ·cases hx
theorem Kn (AT:El φ A a):∀ {xs:List (Nat×Operand)} {vs:List (Nat×Value)},MQ A xs=some vs->xs.map (fun p=>(p.1,a.eval p.2))=vs.map (fun p=>(p.1,ren φ p.2))/\∀ p∈vs,okV φ p.2:=by
 intro xs;induction xs with
 | nil=>intro vs h;simp only[MQ] at h;cases h;simp
 | cons x xs ih=>
  intro vs h;obtain⟨i,x⟩:=x;simp only[MQ] at h;split at h
  ·next v hv=>
   split at h
   ·next vs' hvs=>
    cases h;obtain⟨g1,g2⟩:=AY AT hv;obtain⟨g3,g4⟩:=ih hvs;refine⟨by simp[g1,g3],fun y hy => ?_⟩;rcases O1.1 hy with rfl|hy
    ·exact g2
    ·exact g4 y hy
   ·cases h
  ·cases h
def AGp (V:Nat->Prop) (D:Tab) (A:Ac) (op:Op):Prop:=
 (∀ k,V k)\/pureOp D op=true\/match op with
  | .alloc _|.box _ _|.buildSlice _ _ _|.makeSlice _ _ _|.makeMap _ _=>True
  | .load _ x|.store _ x _=>∀ a,opv A x=some (.pointer (some a))->a.spot=some 0->V a.block
  | _=>False
def EP (D:Tab) (E:Env) (n0:Nat) (V:Nat->Prop) (φ:Ph) (h:H) (w:World) (r:Result Next) (v:Value) (h':H):Prop:=
 ∃ φ' w' nx,r=.ok nx w'/\(nx=.value (ren φ' v)\/(nx=.skip/\v=undef))/\okV φ' v/\Tie D E n0 V φ' h' w'/\Ext φ φ' h.next h'.next w/\Kept φ w w'
theorem AZ.next {s:Sem Value} {v:Value} (hg:AZ D E n0 V φ h w (s.run P w) v h'):EP D E n0 V φ h w ((do pure (Next.value (<- s)):Sem Next).run P w) v h':=by
 obtain⟨φ',w',h1,h2,h3,h4,h5⟩:=hg;exact⟨φ',w',_,by simp[Sem.run_bind,h1],.inl rfl,h2,h3,h4,h5⟩
theorem EP.pure (R:Tie D E n0 V φ h w) {v:Value} (hv:okV φ v):EP D E n0 V φ h w ((Pure.pure (Next.value (ren φ v)):Sem Next).run P w) v h:=
 ⟨φ,w,_,rfl,.inl rfl,hv,R,Ext.refl _ _ _,Kept.refl _ _⟩
theorem BI {o:Option Value} {v:Value} (hp:pair h o=some (v,h')):o=some v/\h'=h:=by
 unfold pair at hp;split at hp
 ·cases hp;exact⟨rfl,rfl⟩
 ·cases hp
theorem Ti {α:Type} {xs:Array α} {l:List α} (h:xs.toList=l):xs=⟨l⟩:=by cases xs;simp_all
theorem NQ (T:D.Of P) (R:Tie D E n0 V φ h w) {b:Builtin} {ts:Array TypeId} {ty:TypeId} {consts:Array Bool} {args:List Value} {v:Value} (hok:∀ x∈args,okV φ x)
  (hV:(∀ k,V k)\/∃ t i,b=.len/\ts.toList=[t]/\D.ty.get t=some i/\∀ k e,i.td≠.map k e) (hb:Af D E b ts.toList args h=some (v,h')) :
  EP D E n0 V φ h w ((builtin b ts ty consts (args.map (ren φ)).toArray).run P w) v h':=by
 unfold Af at hb;split at hb
 ·next t x hts=>
  split at hb
  ·next v' hv=>
   cases hb;have hx:=hok x (by simp);have hts':=Ti hts
   obtain⟨g1,g2⟩:=XM (P:=P) (w:=w) (ty:=ty) T R hx (fun r hr hmm=>by
    rcases hV with hV|⟨t',i,_,e1,e2,e3⟩
    ·exact hV _
    ·rw[hts] at e1;cases e1;obtain⟨i',ky,el,f1,f2⟩:=hmm;rw[e2] at f1;cases f1;exact absurd f2 (e3 _ _)) hv
   subst hts';exact AZ.next (AZ.same R g1 g2)
  ·cases hb
 all_goals first|(cases hb;done)|skip
 all_goals (rcases hV with hV|⟨t',i,hb',e1,e2,e3⟩;case inr=>cases hb')
 ·next t x hts=>
  split at hb
  ·next v' hv=>
   cases hb;have hts':=Ti hts;subst hts';obtain⟨g1,g2⟩:=XQ (P:=P) (w:=w) (ty:=ty) T R (hok x (by simp)) hv;exact AZ.next (AZ.same R g1 g2)
  ·cases hb
 ·next t t2 s x hts=>
  have hts':=Ti hts;subst hts';exact AZ.next (Oj (P:=P) T R hV (hok s (by simp)) (hok x (by simp)) hb)
 ·next t _ d x hts=>
  exact AZ.next (Uu (P:=P) (t2:=0) T R hV (ts:=ts) (by rw[<- D7,hts];rfl) (hok d (by simp)) (hok x (by simp)) hb)
 ·next t x hts=>
  have hts':=Ti hts;subst hts';exact AZ.next (RY (P:=P) T R hV (hok x (by simp)) hb)
 ·next t _ m k hts=>
  exact AZ.next (Oc (P:=P) (t2:=0) T R hV (ts:=ts) (by rw[<- D7,hts];rfl) (hok m (by simp)) (hok k (by simp)) hb)
 ·split at hb
  ·next v' hv=>
   cases hb;obtain⟨g1,g2⟩:=XK (P:=P) (φ:=φ) (w:=w) (ts:=ts) (ty:=ty) hv;exact AZ.next (AZ.same R g1 g2)
  ·cases hb
 ·split at hb
  ·next v' hv=>
   cases hb;obtain⟨g1,g2⟩:=XL (P:=P) (φ:=φ) (w:=w) (ts:=ts) (ty:=ty) hv;exact AZ.next (AZ.same R g1 g2)
  ·cases hb
 ·split at hb
  ·next v' hv=>
   cases hb;obtain⟨g1,g2⟩:=JY (P:=P) (φ:=φ) (w:=w) (ts:=ts) (ty:=ty) (hok _ (by simp)) hv;exact AZ.next (AZ.same R g1 g2)
  ·cases hb
 ·next pt it p n hts=>
  have hts':=Ti hts;subst hts';exact AZ.next (ND (P:=P) (it:=it) (ty:=ty) T R hV (hok p (by simp)) hb)
theorem AAQ (T:D.Of P) (R:Tie D E n0 V φ h w) (AT:El φ A a) {o:Oper} {v:Value} (hV:AGp V D A o.op) (ho:aop D E A o.op h=some (v,h')) :
  EP D E n0 V φ h w ((execOp a.eval o).run P w) v h':=by
 have all:(pureOp D o.op=true->False)->(∀ e,o.op≠.alloc e)->(∀ e x,o.op≠.box e x)->(∀ t n ps,o.op≠.buildSlice t n ps)->(∀ t l c,o.op≠.makeSlice t l c)->(∀ t r,o.op≠.makeMap t r)->(∀ t x,o.op≠.load t x)->(∀ t x y,o.op≠.store t x y)->∀ k,V k:=by
  intro a1 a2 a3 a4 a5 a6 a7 a8;rcases hV with hV|hV|hV
  ·exact hV
  ·exact absurd hV (fun h=>a1 h)
  ·split at hV<;>simp_all
 obtain⟨dst,op,ty,pos,after,guard⟩:=o;cases op<;>simp only[aop] at ho
 case move x=>
  obtain⟨h1,rfl⟩:=BI ho;obtain⟨g1,g2⟩:=AY AT h1;simp only[execOp,g1];exact EP.pure R g2
 case assign x=>
  obtain⟨h1,rfl⟩:=BI ho;obtain⟨g1,g2⟩:=AY AT h1;simp only[execOp,g1];exact EP.pure R g2
 case pick c x y=>
  split at ho
  ·next hc=>
   obtain⟨h1,rfl⟩:=BI ho;obtain⟨g1,g2⟩:=AY AT h1;obtain⟨c1,_⟩:=AY AT hc;rw[DI] at c1;refine⟨φ,w,.value (ren φ v),?_,.inl rfl,g2,R,Ext.refl _ _ _,Kept.refl _ _⟩;simp[execOp,c1,asBool,g1]
  ·next hc=>
   obtain⟨h1,rfl⟩:=BI ho;obtain⟨g1,g2⟩:=AY AT h1;obtain⟨c1,_⟩:=AY AT hc;rw[DI] at c1;refine⟨φ,w,.value (ren φ v),?_,.inl rfl,g2,R,Ext.refl _ _ _,Kept.refl _ _⟩;simp[execOp,c1,asBool,g1]
  ·cases ho
 case alloc e=>
  split at ho
  ·next z hz=>cases ho;exact AZ.next (Ur (P:=P) T R hz)
  ·cases ho
 case box e x=>
  split at ho
  ·next y hy=>
   cases ho;obtain⟨g1,g2⟩:=AY AT hy;simp only[execOp,g1];exact AZ.next (AAL (P:=P) R g2)
  ·cases ho
 case build t ps=>
  split at ho
  ·next vs hvs=>
   obtain⟨h1,rfl⟩:=BI ho;obtain⟨g1,g2⟩:=Kn AT hvs;obtain⟨r1,r2⟩:=RZ (w:=w) T g2 h1;have he:ps.map (fun (i,x)=>(i,a.eval x))=(vs.map fun p=>(p.1,ren φ p.2)).toArray:=by
    apply L5; simpa using g1
   simp only[execOp];rw[he];exact AZ.next (AZ.same R r1 r2)
  ·cases ho
 case buildSlice t n ps=>
  split at ho
  ·next vs hvs=>
   obtain⟨g1,g2⟩:=Kn AT hvs;have he:ps.map (fun (i,x)=>(i,a.eval x))=(vs.map fun p=>(p.1,ren φ p.2)).toArray:=by
    apply L5; simpa using g1
   simp only[execOp];rw[he];exact AZ.next (JM (P:=P) T R g2 ho)
  ·cases ho
 case load t x=>
  split at ho
  ·next p hp=>
   obtain⟨h1,rfl⟩:=BI ho;obtain⟨g1,g2⟩:=AY AT hp;have hVp:p.spot=some 0->V p.block:=by
    rcases hV with hV|hV|hV
    ·exact fun _=>hV _
    ·simp[pureOp] at hV
    ·exact hV p hp
   obtain⟨r1,r2⟩:=NL (P:=P) T R g2 hVp h1;simp only[execOp,g1];refine AZ.next (AZ.same R ?_ r2);rw[Am];simpa [Instr.loadAt,Instr.sureAddr] using r1
  ·cases ho
 case store t x y=>
  split at ho
  ·next p yv hp hy=>
   split at ho
   ·next hs=>
    cases ho;obtain⟨g1,g2⟩:=AY AT hp;obtain⟨g3,g4⟩:=AY AT hy;have hVp:p.spot=some 0->V p.block:=by
     rcases hV with hV|hV|hV
     ·exact fun _=>hV _
     ·simp[pureOp] at hV
     ·exact hV p hp
    obtain⟨w',r1,r2,r3⟩:=RF (P:=P) T R g2 hVp g4 hs;refine⟨φ,w',.skip,?_,.inr ⟨rfl,rfl⟩,C8 φ,r2,Ext.same (JE hs),r3⟩;simp only[execOp,g1,g3,Am];simp[Instr.storeAt,Instr.sureAddr,r1]
   ·cases ho
  ·cases ho
 case nilCheck x=>
  split at ho
  ·next p hp=>
   cases ho;obtain⟨g1,g2⟩:=AY AT hp;simp only[execOp,g1];have:=(EP.pure (P:=P) R g2);rw[Am] at this ⊢;exact this
  ·next f xs ys hp=>
   cases ho;obtain⟨g1,g2⟩:=AY AT hp;obtain⟨xs⟩:=xs;obtain⟨ys⟩:=ys;simp only[execOp,g1];have:=(EP.pure (P:=P) R g2);simpa [ren,renF] using this
  ·next f xs ys hp=>
   cases ho;obtain⟨g1,g2⟩:=AY AT hp;obtain⟨xs⟩:=xs;obtain⟨ys⟩:=ys;simp only[execOp,g1];have:=(EP.pure (P:=P) R g2);simpa [ren,renF] using this
  ·cases ho
 case binOp op t x y k=>
  split at ho
  ·next xv yv hx hy=>
   obtain⟨h1,rfl⟩:=BI ho;obtain⟨g1,g2⟩:=AY AT hx;obtain⟨g3,g4⟩:=AY AT hy;obtain⟨r1,r2,r3⟩:=XS (P:=P) (w:=w) T g2 g4 h1 x y;simp only[execOp,g1,g3];exact AZ.next (AZ.same R (by simp[Sem.run_bind,r1,r2]) r3)
  ·cases ho
 case unOp op t x=>
  split at ho
  ·next xv hx=>
   obtain⟨h1,rfl⟩:=BI ho;obtain⟨g1,g2⟩:=AY AT hx;obtain⟨r1,r2⟩:=AAO (P:=P) (φ:=φ) (w:=w) h1;simp only[execOp,g1];exact AZ.next (AZ.same R r1 r2)
  ·cases ho
 case convert s d x=>
  split at ho
  ·next xv hx=>
   obtain⟨g1,g2⟩:=AY AT hx;simp only[execOp,g1];rcases hV with hV|hV|hV
   ·exact AZ.next (NO (P:=P) T R hV g2 ho)
   ·-- to a number
    simp only[pureOp] at hV;split at hV
    ·next k _ _ _ _ hd=>
     unfold AQ at ho;rw[hd] at ho;split at ho
     ·next i j hi hj=>
      cases hj;obtain⟨f,td,h1,h2,h3,h4,_⟩:=T.get hi;obtain⟨f',td',q1,q2,q3,q4,_⟩:=T.get hd;split at ho
      ·next e1 e2=>
       rw[h3] at e1;have:=CD e1;subst this;cases e2;have:=CD q3.symm;subst this;cases ho;exact AZ.next (AZ.same R (by simp[convert,run_underlying h2,run_underlying q2,ren,Conv.intToInt]) trivial)
      all_goals contradiction
     ·cases ho
    ·cases hV
   ·exact hV.elim
  ·cases ho
 case sliceToArrayPointer t x=>
  split at ho
  ·next p len c n e sz _ _ _ _ hx hi=>
   split at ho
   ·next hle=>
    cases ho;rw[Z0] at hle;obtain⟨g1,g2⟩:=AY AT hx;obtain⟨f,td,h1,h2,h3,h4,_⟩:=T.get hi;obtain⟨rfl,fe,k1,rfl⟩:=CE h3.symm;have hA:okA φ p:=g2;simp only[execOp,g1];refine AZ.next (AZ.same R ?_ hA);have hn:¬ (len<n):=by omega
    simp[Instr.arrayAt,Ad,Am,run_underlying h2,hn]
   ·cases ho
  ·cases ho
 case makeFunc fn xs ys=>
  split at ho
  ·next vx vy hx hy hr=>
   cases ho;obtain⟨g1,g2⟩:=Ho AT hx;obtain⟨g3,g4⟩:=Ho AT hy;have e1:xs.map a.eval=⟨vx.map (ren φ)⟩:=by apply L5; simpa using g1
   have e2:ys.map a.eval=⟨vy.map (ren φ)⟩:=by apply L5; simpa using g3
   simp only[execOp];rw[e1,e2];refine AZ.next (AZ.same R ?_ ?_)
   ·have:renF φ fn=fn:=by cases fn<;>first|rfl|simp[roF] at hr
    simp[Instr.makeFunc,ren,Gy,this]
   ·refine⟨?_,(HF φ _).2 g2,(HF φ _).2 g4⟩;cases fn<;>first|trivial|simp[roF] at hr
  ·cases ho
 case makeMap t r=>
  split at ho
  ·next hr=>
   cases ho;obtain⟨g1,_⟩:=EV AT hr;simp only[execOp,g1];refine AZ.next ?_;have:=Im (D:=D) (E:=E) (V:=V) R;simpa [Instr.makeMap,wpush] using this
  ·next k n i hr hi=>
   cases ho;obtain⟨g1,_⟩:=EV AT hr;obtain⟨f,td,h1,h2,h3,h4,_⟩:=T.get hi;have:=DG h3.symm;subst this;simp only[execOp,g1,H6,Bt];refine AZ.next ?_;have:=Im (D:=D) (E:=E) (V:=V) R;simpa [Instr.makeMap,wpush,run_underlying h2,asInt,asIntOf] using this
  ·cases ho
 case makeSlice t l c=>
  split at ho
  ·next lv cv hl hc=>
   obtain⟨g1,g2⟩:=AY AT hl;obtain⟨g3,g4⟩:=AY AT hc;simp only[execOp,g1,g3];exact AZ.next (JZ (P:=P) T R ho)
  ·cases ho
 case slice t x lo hi mx=>
  have hV:=all (by simp[pureOp]) (by simp) (by simp) (by simp) (by simp) (by simp) (by simp) (by simp);split at ho
  ·next xv l hv m hx hl hh hm=>
   obtain⟨g1,g2⟩:=AY AT hx;obtain⟨g3,_⟩:=EV AT hl;obtain⟨g4,_⟩:=EV AT hh;obtain⟨g5,_⟩:=EV AT hm;simp only[execOp,g1,g3,g4,g5];exact AZ.next (RG (P:=P) T R hV g2 ho)
  ·cases ho
 case fieldAddr s x f=>
  split at ho
  ·next xv hx=>
   obtain⟨h1,rfl⟩:=BI ho;obtain⟨g1,g2⟩:=AY AT hx;obtain⟨r1,r2⟩:=Jb (P:=P) (w:=w) T g2 h1;simp only[execOp,g1];exact AZ.next (AZ.same R r1 r2)
  ·cases ho
 case field s x f=>
  split at ho
  ·next xv hx=>
   obtain⟨h1,rfl⟩:=BI ho;obtain⟨g1,g2⟩:=AY AT hx;obtain⟨r1,r2⟩:=RU (P:=P) (w:=w) T g2 h1;simp only[execOp,g1];exact AZ.next (AZ.same R r1 r2)
  ·cases ho
 case indexAddr t x ix=>
  split at ho
  ·next xv iv hx hi=>
   obtain⟨h1,rfl⟩:=BI ho;obtain⟨g1,g2⟩:=AY AT hx;obtain⟨g3,_⟩:=AY AT hi;obtain⟨r1,r2⟩:=Ja (P:=P) (w:=w) T g2 h1;simp only[execOp,g1,g3];exact AZ.next (AZ.same R r1 r2)
  ·cases ho
 case index t x ix=>
  split at ho
  ·next xv iv hx hi=>
   obtain⟨h1,rfl⟩:=BI ho;obtain⟨g1,g2⟩:=AY AT hx;obtain⟨g3,_⟩:=AY AT hi;obtain⟨r1,r2⟩:=RT (P:=P) (w:=w) T g2 h1;simp only[execOp,g1,g3];exact AZ.next (AZ.same R r1 r2)
  ·cases ho
 case lookup t m k ok=>
  have hV:=all (by simp[pureOp]) (by simp) (by simp) (by simp) (by simp) (by simp) (by simp) (by simp);split at ho
  ·next mv kv hm hk=>
   obtain⟨h1,rfl⟩:=BI ho;obtain⟨g1,g2⟩:=AY AT hm;obtain⟨g3,g4⟩:=AY AT hk;obtain⟨r1,r2⟩:=OZ (P:=P) (w:=w) T R hV g2 g4 h1;simp only[execOp,g1,g3];exact AZ.next (AZ.same R r1 r2)
  ·cases ho
 case mapUpdate t m k x=>
  have hV:=all (by simp[pureOp]) (by simp) (by simp) (by simp) (by simp) (by simp) (by simp) (by simp);split at ho
  ·next mv kv xv hm hk hx=>
   obtain⟨g1,g2⟩:=AY AT hm;obtain⟨g3,g4⟩:=AY AT hk;obtain⟨g5,g6⟩:=AY AT hx;obtain⟨rfl,w',r1,r2,r3⟩:=Fr (P:=P) (w:=w) T R hV g2 g4 g6 ho;refine⟨φ,w',.skip,?_,.inr ⟨rfl,rfl⟩,C8 φ,r2,Ext.same (Fs ho),r3⟩;simp[execOp,g1,g3,g5,r1]
  ·cases ho
 case insert t m k x=>
  have hV:=all (by simp[pureOp]) (by simp) (by simp) (by simp) (by simp) (by simp) (by simp) (by simp);split at ho
  ·next mv kv xv hm hk hx=>
   obtain⟨g1,g2⟩:=AY AT hm;obtain⟨g3,g4⟩:=AY AT hk;obtain⟨g5,g6⟩:=AY AT hx;obtain⟨rfl,w',r1,r2,r3⟩:=Fr (P:=P) (w:=w) T R hV g2 g4 g6 ho;refine⟨φ,w',.skip,?_,.inr ⟨rfl,rfl⟩,C8 φ,r2,Ext.same (Fs ho),r3⟩;simp[execOp,g1,g3,g5,r1]
  ·cases ho
 case range t x=>
  split at ho
  ·next xv hx=>
   obtain⟨g1,g2⟩:=AY AT hx;simp only[execOp,g1];exact AZ.next (RL (P:=P) T R ho)
  ·cases ho
 case next x isS=>
  have hV:=all (by simp[pureOp]) (by simp) (by simp) (by simp) (by simp) (by simp) (by simp) (by simp);split at ho
  ·next xv hx=>
   obtain⟨g1,g2⟩:=AY AT hx;simp only[execOp,g1];exact AZ.next (Uo (P:=P) R hV g2 ho)
  ·cases ho
 case extract x i=>
  split at ho
  ·next vs hx=>
   obtain⟨h1,rfl⟩:=BI ho;obtain⟨g1,g2⟩:=AY AT hx;obtain⟨vs⟩:=vs;simp only[execOp,g1];refine AZ.next (AZ.same R ?_ ((Bh φ vs).1 g2 v (H3 h1)));have h1:vs[i]? = some v:=h1;simp[GP,Instr.extract,h1]
  ·cases ho
 case call c=>
  split at ho
  ·next b vs hb hvs=>
   obtain⟨g1,g2⟩:=Ho AT hvs;have e1:c.args.map a.eval=(vs.map (ren φ)).toArray:=by apply L5; simpa using g1
   simp only[execOp,resolve,hb,invoke,Sem.run_bind,Sem.run_pure,Result.andThen_ok,e1];refine NQ (P:=P) T R g2 ?_ ho;rcases hV with hV|hV|hV
   ·exact .inl hV
   ·right;obtain⟨callee,args,argTypes⟩:=c;simp only at hb;subst hb;cases b<;>first|(simp[pureOp] at hV;done)|skip
    simp only[pureOp] at hV;split at hV
    ·next t hts=>
     refine⟨t,?_⟩;split at hV
     ·next hd=>exact⟨_,rfl,hts,hd,by simp⟩
     ·next hd=>exact⟨_,rfl,hts,hd,by simp⟩
     ·next hd=>exact⟨_,rfl,hts,hd,by simp⟩
     ·cases hV
    ·cases hV
   ·exact hV.elim
  ·cases ho
 all_goals (cases ho;done)
end ops
def fput (b:Frame) (a:Act) (todo:List Item):Frame:=
 { fn:=b.fn,tmps:=a.tmps,todo,defers:=a.defers,mode:=.run,kind:=b.kind,roundOf:=b.roundOf }
section moves
variable {P:Program} {b:Frame} {a:Act} {k:List Item} {cs:List Frame} {w:World}
theorem Ma (x:Operand) (todo:List Item):(fput b a todo).eval x=a.eval x:=by cases x<;>rfl
theorem Qn (todo:List Item):(fput b a todo).eval=a.eval:=funext fun x=>Ma x todo
theorem AB1:step P (lone (fput b a (.code .skip::k)) cs w)=.next (lone (fput b a k) cs w):=
 step_lone_go (by simp[stepG,stepG.exec,fput])
theorem Zy {l:Nat}:step P (lone (fput b a (.code (.label l)::k)) cs w)=.next (lone (fput b a k) cs w):=
 step_lone_go (by simp[stepG,stepG.exec,fput])
theorem UH {id:Nat}:step P (lone (fput b a (.inBlock id::k)) cs w)=.next (lone (fput b a k) cs w):=
 step_lone_go (by simp[stepG,stepG.exec,fput])
theorem UG {c:Code}:step P (lone (fput b a (.inScope c::k)) cs w)=.next (lone (fput b a k) cs w):=
 step_lone_go (by simp[stepG,stepG.exec,fput])
theorem AEU {x y:Code}:step P (lone (fput b a (.code (.seq x y)::k)) cs w)=.next (lone (fput b a (.code x::.code y::k)) cs w):=
 step_lone_go (by simp[stepG,stepG.exec,fput])
theorem Yj {c:Operand} {x y:Code} {t:Bool} (h:a.eval c=.bool t) :
  step P (lone (fput b a (.code (.cond c x y)::k)) cs w)=.next (lone (fput b a (.code (if t then x else y)::k)) cs w):=
 step_lone_go (by
  have:=Ma (b:=b) (a:=a) c (.code (.cond c x y)::k);simp only[fput] at this;simp[stepG,stepG.exec,fput,this,h])
theorem Zz {id:Nat} {c:Code}:step P (lone (fput b a (.code (.block id c)::k)) cs w)=.next (lone (fput b a (.code c::.inBlock id::k)) cs w):=
 step_lone_go (by simp[stepG,stepG.exec,fput])
theorem Yi {c:Code}:step P (lone (fput b a (.code (.loop c)::k)) cs w)=.next (lone (fput b a (.code c::.inLoop c::k)) cs w):=
 step_lone_go (by simp[stepG,stepG.exec,fput])
theorem Wg {c:Code}:step P (lone (fput b a (.inLoop c::k)) cs w)=.next (lone (fput b a (.code c::.inLoop c::k)) cs w):=
 step_lone_go (by simp[stepG,stepG.exec,fput])
theorem Zw {c:Code}:step P (lone (fput b a (.code (.scope c)::k)) cs w)=.next (lone (fput b a (.code c::.inScope c::k)) cs w):=
 step_lone_go (by simp[stepG,stepG.exec,fput])
theorem AB3 {id:Nat} {k':List Item} (h:exitTo id k=some k'):step P (lone (fput b a (.code (.exit id)::k)) cs w)=.next (lone (fput b a k') cs w):=
 step_lone_go (by simp[stepG,stepG.exec,fput,h])
theorem We {id:Nat} {ops:Array Oper}:step P (lone (fput b a (.code (.region id ops false)::k)) cs w)=.next (lone (fput b a (.inRegion ops (List.range ops.size)::k)) cs w):=
 step_lone_go (by simp[stepG,stepG.exec,fput])
theorem LI {id:Nat} {ops:Array Oper} :
  step P (lone (fput b a (.code (.region id ops true)::k)) cs w)=
   .next (lone (fput b a (.inRegion ops (Region.schedule (P.follows .mixedOrders) ops (w.tape w.drawn (.order b.fn id)))::k)) cs { w with drawn:=w.drawn+1 }):=
 step_lone_go (by simp[stepG,stepG.exec,fput,choose,Sem.run,Question.forced,Question.cut])
theorem He {ops:Array Oper}:step P (lone (fput b a (.inRegion ops []::k)) cs w)=.next (lone (fput b a k) cs w):=
 step_lone_go (by simp[stepG,stepG.exec,fput])
theorem LJ (ops:Array Oper) (i:Nat) (rest:List Nat) (v:Value) :
  (fput b a (.inRegion ops (i::rest)::k)).finish v=fput b (a.put ((ops[i]?).bind (·.dst)) v) (.inRegion ops rest::k):=by
 cases h:(ops[i]?).bind (·.dst)<;>simp[Frame.finish,fput,Act.put,h]
theorem Mc {ops:Array Oper} {i:Nat} {rest:List Nat} (h:((ops[i]?).map (Region.wanted · (yielded ops a.tmps))).getD false=false) :
  step P (lone (fput b a (.inRegion ops (i::rest)::k)) cs w)=
   .next (lone (fput b (a.put ((ops[i]?).bind (·.dst)) undef) (.inRegion ops rest::k)) cs w):=by
 rw[<- LJ]
 exact step_lone_go (by
  have h':=h;simp only[fput] at*;simp[stepG,stepG.exec,h'])
def Ij:Op->Bool
 | .defer _=>false
 | _=>true
theorem AFH {ops:Array Oper} {i:Nat} {rest:List Nat} {o:Oper} (ho:ops[i]? = some o) (hd:Ij o.op=true) (hw:Region.wanted o (yielded ops a.tmps)=true) :
  stepG P true { frame:=fput b a (.inRegion ops (i::rest)::k),callers:=cs,status:=.running,dying:=none } w=
   stepG.apply P true (fput b a (.inRegion ops (i::rest)::k)) cs none (execOp a.eval o) w:=by
 have he:=Qn (b:=b) (a:=a) (.inRegion ops (i::rest)::k);simp only[fput] at he;obtain⟨dst,op,ty,pos,after,guard⟩:=o;cases hr:b.roundOf with
 | none=>
  rw[hr] at he;simp[stepG,stepG.exec,stepG.oper,Frame.oper?,fput,ho,hw,he,hr]
 | some l=>
  rw[hr] at he;cases op<;>first|(simp[Ij] at hd;done)|simp[stepG,stepG.exec,stepG.oper,Frame.oper?,fput,ho,hw,he,hr]
end moves
def All:Nat->Prop:=fun _=>True
section sim
variable {P:Program} {D:Tab} {E:Env} {n0:Nat} {φ:Ph} {h h':H} {w:World}
def ACZ (P:Program) (D:Tab) (E:Env) (n0:Nat) (nx:Next) (w1:World) (φ:Ph) (h:H) (w:World) (v:Value) (h':H):Prop:=
 ∀ (c:Frame) (cs:List Frame),∃ φ' w',okV φ' v/\Tie D E n0 All φ' h' w'/\Ext φ φ' h.next h'.next w/\Kept φ w w'/\match nx with
  | .value x=>x=ren φ' v/\w'=w1
  | .skip=>v=undef/\w'=w1
  | .enter f args=>Steps P (lone (Frame.enter P f args .normal) (c::cs) w1) (lone (c.finish (ren φ' v)) cs w')
  | .round l f tmps as bd=>Steps P (lone (Frame.round l f tmps as bd .normal) (c::cs) w1) (lone (c.finish (ren φ' v)) cs w')
  | _=>False
def Sim (P:Program) (D:Tab) (E:Env) (n0:Nat) (s:Sem Next) (φ:Ph) (h:H) (w:World) (v:Value) (h':H):Prop:=
 ∃ nx w1,s.run P w=.ok nx w1/\ACZ P D E n0 nx w1 φ h w v h'
theorem EP.sim {s:Sem Next} {v:Value} (hg:EP D E n0 All φ h w (s.run P w) v h'):Sim P D E n0 s φ h w v h':=by
 obtain⟨φ',w',nx,h1,h2,h3,h4,h5,h6⟩:=hg;refine⟨nx,w',h1,fun c cs=>⟨φ',w',h3,h4,h5,h6,?_⟩⟩;rcases h2 with rfl|⟨rfl,rfl⟩
 ·exact⟨rfl,rfl⟩
 ·exact⟨rfl,rfl⟩
inductive Lj (φ:Ph):List Nat->List Deferred->Prop
 | nil:Lj φ [] []
 | cons {d:Nat} {c b e:Nat} {ds:List Nat} {l:List Deferred} (h:φ d=some (c,b,e)) (t:Lj φ ds l):Lj φ (d::ds) ({ target:=.collected c,args:=#[] }::l)
theorem Lj.le {φ φ':Ph} (hl:Le φ φ') {ds:List Nat} {l:List Deferred} (h:Lj φ ds l):Lj φ' ds l:=by
 induction h with
 | nil=>exact .nil
 | cons h _ ih=>exact .cons (hl _ _ h) ih
structure XX (φ:Ph) (F:Fx) (b:Frame):Prop where
 fn:b.fn=F.fn
 kind:b.kind=.normal
 round:match F.round with
  | none=>b.roundOf=none
  | some l=>∃ c x e,φ l=some (c,x,e)/\b.roundOf=some c
theorem XX.le {φ φ':Ph} (hl:Le φ φ') {F:Fx} {b:Frame} (h:XX φ F b):XX φ' F b:=by
 refine⟨h.fn,h.kind,?_⟩;have:=h.round;split
 ·next e=>rw[e] at this;exact this
 ·next l e=>
  rw[e] at this;obtain⟨c,x,e,h1,h2⟩:=this;exact⟨c,x,e,hl _ _ h1,h2⟩
def Ends (P:Program) (m:Machine) (b:Frame) (k:List Item) (cs:List Frame) (a:Act) (w:World):Ex->Prop
 | .normal=>Steps P m (lone (fput b a k) cs w)
 | .exit id=>∃ k0,exitTo id k0=exitTo id k/\Steps P m (lone (fput b a (.code (.exit id)::k0)) cs w)
 | .ret=>∃ k0,Steps P m (lone (fput b a (.code .ret::k0)) cs w)
 | .goto _=>False
theorem Ends.of_steps {m m':Machine} {b:Frame} {k:List Item} {cs:List Frame} {a:Act} {w:World} {ex:Ex} (hs:Steps P m m') (h:Ends P m' b k cs a w ex):Ends P m b k cs a w ex:=by
 cases ex with
 | normal=>exact hs.trans h
 | exit id=>obtain⟨k0,h1,h2⟩:=h;exact⟨k0,h1,hs.trans h2⟩
 | ret=>obtain⟨k0,h2⟩:=h;exact⟨k0,hs.trans h2⟩
 | goto l=>exact h
structure Run (P:Program) (D:Tab) (E:Env) (n0:Nat) (φ:Ph) (h:H) (w:World) (A':Ac) (h':H) (φ':Ph) (w':World) (a':Act):Prop where
 tie:Tie D E n0 All φ' h' w'
 act:El φ' A' a'
 defers:Lj φ' A'.defers a'.defers
 ext:Ext φ φ' h.next h'.next w
 kept:Kept φ w w'
theorem Run.le (R:Tie D E n0 All φ h w) {A':Ac} {h':H} {φ':Ph} {w':World} {a':Act} (h1:Run P D E n0 φ h w A' h' φ' w' a'):Le φ φ':=h1.ext.le (fun k c b e hk=>(R.dom k c b e hk).1)
theorem Run.trans {A' A'':Ac} {h' h'':H} {φ' φ'':Ph} {w' w'':World} {a' a'':Act} (h1:Run P D E n0 φ h w A' h' φ' w' a') (hn:h.next<=h'.next) (h2:Run P D E n0 φ' h' w' A'' h'' φ'' w'' a''):Run P D E n0 φ h w A'' h'' φ'' w'' a'':=
 ⟨h2.tie,h2.act,h2.defers,h1.ext.trans h2.ext hn h1.kept.size,h1.kept.trans h2.kept h1.ext⟩
theorem Run.same {A:Ac} {a:Act} (R:Tie D E n0 All φ h w) (AT:El φ A a) (DT:Lj φ A.defers a.defers):Run P D E n0 φ h w A h φ w a:=⟨R,AT,DT,Ext.refl _ _ _,Kept.refl _ _⟩
structure NX (P:Program) (D:Tab) (E:Env) (n0:Nat) (v:Ev):Prop where
 call:∀ f args h r h',v.call f args h=some (r,h')->∀ φ w,Tie D E n0 All φ h w->(∀ x∈args,okV φ x)->Sim P D E n0 (callFunc f (args.map (ren φ)).toArray) φ h w r h'
 round:∀ l args h r h',v.round l args h=some (r,h')->∀ φ w,Tie D E n0 All φ h w->(φ l).isSome=true->(∀ x∈args,okV φ x)->Sim P D E n0 (Instr.yield (renN φ l) (args.map (ren φ)).toArray) φ h w r h'
 code:∀ F c A h ex A' h',v.code F c A h=some (ex,A',h')->∀ φ w b a k cs,Tie D E n0 All φ h w->El φ A a->Lj φ A.defers a.defers->XX φ F b->
  ∃ φ' w' a',Run P D E n0 φ h w A' h' φ' w' a'/\Ends P (lone (fput b a (.code c::k)) cs w) b k cs a' w' ex
theorem NP {ev:Ev} (hv:NX P D E n0 ev) (R:Tie D E n0 All φ h w) {f:Value} {args:List Value} {r:Value} (hf:okV φ f) (hargs:∀ x∈args,okV φ x) (hc:Dm ev f args h=some (r,h')) :
  Sim P D E n0 (do let d <- Deferred.ofValue (ren φ f) (args.map (ren φ)).toArray;invoke d.target d.args) φ h w r h':=by
 unfold Dm at hc;split at hc
 ·next g xs ys=>
  obtain⟨xs⟩:=xs;obtain⟨ys⟩:=ys;obtain⟨_,h1,h2⟩:=hf;rw[HF] at h1 h2
  have:=hv.call _ _ _ _ _ hc φ w R (by
   intro x hx;rcases Y4.1 hx with hx|hx
   ·rcases Y4.1 hx with hx|hx
    ·exact h1 x hx
    ·exact hargs x hx
   ·exact h2 x hx)
  obtain⟨nx,w1,h3,h4⟩:=this;refine⟨nx,w1,?_,h4⟩;rw[<- h3];simp[ren,Gy,renF,Deferred.ofValue,invoke,E1]
 ·next l xs ys=>
  obtain⟨xs⟩:=xs;obtain⟨ys⟩:=ys;obtain⟨h0,h1,h2⟩:=hf;rw[HF] at h1 h2
  have:=hv.round _ _ _ _ _ hc φ w R h0 (by
   intro x hx;rcases Y4.1 hx with hx|hx
   ·exact h1 x hx
   ·exact hargs x hx)
  obtain⟨nx,w1,h3,h4⟩:=this;refine⟨nx,w1,?_,h4⟩;rw[<- h3];simp[ren,Gy,renF,Deferred.ofValue,invoke]
 ·cases hc
end sim
section sim
variable {P:Program} {D:Tab} {E:Env} {n0:Nat} {φ:Ph} {h h':H} {w:World} {A:Ac} {a:Act} {b:Frame} {k:List Item} {cs:List Frame}
theorem GU (T:D.Of P) {ev:Ev} (hv:NX P D E n0 ev) (R:Tie D E n0 All φ h w) (AT:El φ A a) {o:Oper} {r:Value} (ho:BC D E ev A o h=some (r,h')) :
  Sim P D E n0 (execOp a.eval o) φ h w r h':=by
 unfold BC at ho;split at ho
 ·next f args _ hop=>
  simp only[bind,N5] at ho;obtain⟨fv,hf,vs,hvs,hc⟩:=ho;obtain⟨g1,g2⟩:=AY AT hf;obtain⟨g3,g4⟩:=Ho AT hvs;have e1:args.map a.eval=(vs.map (ren φ)).toArray:=by apply L5; simpa using g3
  have:=NP hv R g2 g4 hc;simpa only[execOp,hop,resolve,g1,e1] using this
 ·exact EP.sim (AAQ T R AT (.inl fun _=>trivial) ho)
theorem Fc {ev:Ev} {o:Oper} {x:Value×H} (ho:BC D E ev A o h=some x):Ij o.op=true:=by
 unfold BC at ho;split at ho
 ·next hop=>rw[hop];rfl
 ·cases hop:o.op<;>first|rfl|(rw[hop] at ho;simp[aop] at ho)
theorem KP {ops:Array Oper} {i:Nat} {rest:List Nat} {o:Oper} {r:Value} (hi:ops[i]? = some o) (hd:Ij o.op=true) (hw:Region.wanted o (yielded ops a.tmps)=true) (hs:Sim P D E n0 (execOp a.eval o) φ h w r h') :
  ∃ φ' w',okV φ' r/\Tie D E n0 All φ' h' w'/\Ext φ φ' h.next h'.next w/\Kept φ w w'/\
   Steps P (lone (fput b a (.inRegion ops (i::rest)::k)) cs w) (lone (fput b (a.put o.dst (ren φ' r)) (.inRegion ops rest::k)) cs w'):=by
 obtain⟨nx,w1,hr,hc⟩:=hs;have hg:=AFH (P:=P) (b:=b) (k:=k) (cs:=cs) (w:=w) (rest:=rest) hi hd hw;have hfin:∀ v,(fput b a (.inRegion ops (i::rest)::k)).finish v=fput b (a.put o.dst v) (.inRegion ops rest::k):=by
  intro v;rw[LJ,hi];rfl
 obtain⟨φ',w',h1,h2,h3,h4,h5⟩:=hc (fput b a (.inRegion ops (i::rest)::k)) cs;refine⟨φ',w',h1,h2,h3,h4,?_⟩;cases nx with
 | value x=>
  obtain⟨rfl,rfl⟩:=h5;refine .one (step_lone_go ?_);rw[hg,<- hfin];simp[stepG.apply,hr]
 | skip=>
  obtain⟨rfl,rfl⟩:=h5;refine .one (step_lone_go ?_);rw[hg,DU,<- hfin];simp[stepG.apply,hr]
 | enter f args=>
  have henter:step P (lone (fput b a (.inRegion ops (i::rest)::k)) cs w)=
    .next (lone (Frame.enter P f args .normal) (fput b a (.inRegion ops (i::rest)::k)::cs) w1):=
   step_lone_go (by rw[hg];simp[stepG.apply,hr,fput])
  rw[<- hfin];exact .head henter h5
 | round l f tmps as bd=>
  have henter:step P (lone (fput b a (.inRegion ops (i::rest)::k)) cs w)=
    .next (lone (Frame.round l f tmps as bd .normal) (fput b a (.inRegion ops (i::rest)::k)::cs) w1):=
   step_lone_go (by rw[hg];simp[stepG.apply,hr,fput])
  rw[<- hfin];exact .head henter h5
 | _=>exact h5.elim
theorem Pt (AT:El φ A a) (d:Nat) (c:Bool):a.tmps[d]? = some (.bool c)↔A.tmps.get d=some (.bool c):=by
 have:=(AT.tmps d).2;rw[D2] at this;constructor
 ·intro h;rw[h] at this;simp only[H5] at this;unfold Ac.get at this;cases hg:A.tmps.get d with
  | none=>rw[hg] at this;simp[DU] at this;simp[undef] at this
  | some v=>
   rw[hg] at this;simp only[H5] at this;cases v with
   | bool c'=>simp[ren] at this;rw[this]
   | pointer a=>cases a<;>simp[ren] at this
   | slice a n c=>cases a<;>simp[ren] at this
   | map r=>cases r<;>simp[ren] at this
   | func f xs ys=>cases xs;cases ys;simp[ren] at this
   | agg xs=>cases xs;simp[ren] at this
   | tuple xs=>cases xs;simp[ren] at this
   | _=>simp[ren] at this
 ·intro h;unfold Ac.get at this;rw[h] at this;simp only[H5,DI] at this;cases hg:a.tmps[d]? with
  | none=>rw[hg] at this;simp[undef] at this
  | some v=>rw[hg] at this;simp at this;rw[this]
theorem EE (AT:El φ A a) (ops:Array Oper) (o:Oper):Region.wanted o (yielded ops a.tmps)=Bo ops A o:=by
 have hy:∀ j c,yielded ops a.tmps j=some c↔Hg ops A j=some c:=by
  intro j c;unfold yielded Hg;cases hd:(ops[j]?).bind (·.dst) with
  | none=>simp
  | some d=>
   simp only[Option.bind_some];constructor
   ·intro h;split at h
    ·next c' hc=>
     cases h;rw[(Pt AT d c).1 hc]
    ·cases h
   ·intro h;split at h
    ·next c' hc=>
     cases h;rw[(Pt AT d c).2 hc]
    ·cases h
 unfold Region.wanted Bo;cases o.guard with
 | none=>rfl
 | some g=>
  obtain⟨j,want⟩:=g;simp only;cases h1:Hg ops A j with
  | none=>
   have:yielded ops a.tmps j=none:=by
    cases h2:yielded ops a.tmps j with
    | none=>rfl
    | some c=>rw[(hy j c).1 h2] at h1;cases h1
   rw[this];cases want<;>rfl
  | some c=>
   rw[(hy j c).2 h1];cases c<;>cases want<;>rfl
theorem put_defers (a:Act) (d:Option Tmp) (v:Value):(a.put d v).defers=a.defers:=by cases d<;>rfl
theorem QZ (T:D.Of P) {ev:Ev} (hv:NX P D E n0 ev) (hn:Cb ev) (ops:Array Oper):∀ (l:List Oper) (j:Nat) (A:Ac) (h:H) (A':Ac) (h':H) (φ:Ph) (w:World) (a:Act),ops.toList.drop j=l->BP D E ev ops l A h=some (A',h')->
  Tie D E n0 All φ h w->El φ A a->Lj φ A.defers a.defers->
  ∃ φ' w' a',Run P D E n0 φ h w A' h' φ' w' a'/\Steps P (lone (fput b a (.inRegion ops (List.range' j l.length)::k)) cs w) (lone (fput b a' k) cs w'):=by
 intro l;induction l with
 | nil=>
  intro j A h A' h' φ w a hl hr R AT DT;simp only[BP] at hr;cases hr;exact⟨φ,w,a,Run.same R AT DT,.one He⟩
 | cons o l ih=>
  intro j A h A' h' φ w a hl hr R AT DT;have hj:ops[j]? = some o:=by
   have:=congrArg (·[0]?) hl;simp only[D6,E3,N2] at this;rw[<- D7];exact this
  have hl':ops.toList.drop (j+1)=l:=by
   rw[<- List.drop_drop,hl];rfl
  simp only[I1,List.range'_succ];simp only[BP] at hr;split at hr
  ·next hw=>
   split at hr
   ·next x h1 ho=>
    rw[<- EE AT] at hw;obtain⟨φ1,w1,q1,q2,q3,q4,q5⟩:=KP (b:=b) (k:=k) (cs:=cs) (rest:=List.range' (j+1) l.length) hj (Fc ho) hw (GU T hv R AT ho);have hle:=q3.le (fun k c b e hk=>(R.dom k c b e hk).1);have D1:Lj φ1 (A.put o.dst x).defers (a.put o.dst (ren φ1 x)).defers:=by rw[Ac.put_defers,put_defers];exact DT.le hle
    have A1:=(AT.le hle).put o.dst q1;obtain⟨φ',w',a',r1,r2⟩:=ih (j+1) (A.put o.dst x) h1 A' h' φ1 w1 _ hl' hr q2 A1 D1;exact⟨φ',w',a',Run.trans (a':=a.put o.dst (ren φ1 x)) ⟨q2,A1,D1,q3,q4⟩ (HE hn ho) r1,q5.trans r2⟩
   ·cases hr
  ·next hw=>
   rw[<- EE AT] at hw;have hs:=Mc (P:=P) (b:=b) (a:=a) (k:=k) (cs:=cs) (w:=w) (ops:=ops) (i:=j) (rest:=List.range' (j+1) l.length) (by simp[hj,hw]);rw[hj] at hs;have A1:=AT.put o.dst (C8 φ);rw[DU] at A1;have D1:Lj φ (A.put o.dst undef).defers (a.put o.dst undef).defers:=by rw[Ac.put_defers,put_defers];exact DT
   obtain⟨φ',w',a',r1,r2⟩:=ih (j+1) (A.put o.dst undef) h A' h' φ w _ hl' hr R A1 D1;exact⟨φ',w',a',r1,.head hs r2⟩
end sim
section sim
variable {P:Program} {D:Tab} {E:Env} {n0:Nat} {φ:Ph} {h h':H} {w:World} {A:Ac} {a:Act} {b:Frame} {k:List Item} {cs:List Frame}
theorem Gu {m m1 m':Machine} (hne:m≠m') (hs:step P m=step P m1) (h:Steps P m m'):Steps P m1 m':=by
 obtain⟨n,hn⟩:=h;cases n with
 | zero=>simp only[runN] at hn;cases hn;exact absurd rfl hne
 | succ n=>
  refine⟨n+1,?_⟩;simp only[runN] at hn ⊢;rw[<- hs];exact hn
theorem Ix {k k':List Item} {a a':Act} {w w':World} (h:k≠k'):lone (fput b a k) cs w≠lone (fput b a' k') cs w':=by
 intro he;simp only[lone,Machine.mk.injEq] at he;have h2:=he.2.1;simp only[fput,Array.mk.injEq,List.cons.injEq,Goroutine.mk.injEq,Frame.mk.injEq] at h2;exact h h2.1.1.2.2.1
def QF (P:Program) (D:Tab) (E:Env) (n0:Nat) (ev:Ev):Prop:=
 ∀ (id:Nat) (ops:Array Oper) (draw:Bool) (A:Ac) (h:H) (A':Ac) (h':H) (φ:Ph) (w:World) (a:Act) (b:Frame) (k:List Item) (cs:List Frame),runRegion D E ev ops draw A h=some (A',h')->
  Tie D E n0 All φ h w->El φ A a->Lj φ A.defers a.defers->
  ∃ φ' w' a',Run P D E n0 φ h w A' h' φ' w' a'/\Steps P (lone (fput b a (.code (.region id ops draw)::k)) cs w) (lone (fput b a' k) cs w')
def Ux (P:Program) (D:Tab) (E:Env) (n0:Nat) (ev:Ev):Prop:=
 ∀ F f ps as bd A h ex A' h',Ae D E ev F (.rangeFunc f ps as bd) A h=some (ex,A',h')->∀ φ w b a k cs,Tie D E n0 All φ h w->El φ A a->Lj φ A.defers a.defers->XX φ F b->
  ∃ φ' w' a',Run P D E n0 φ h w A' h' φ' w' a'/\Ends P (lone (fput b a (.code (.rangeFunc f ps as bd)::k)) cs w) b k cs a' w' ex
theorem Qt {ev:Ev} (hv:NX P D E n0 ev) (hn:Cb ev) (hreg:QF P D E n0 ev) (hrange:Ux P D E n0 ev) :
  ∀ F c A h ex A' h',Ae D E ev F c A h=some (ex,A',h')->∀ φ w b a k cs,Tie D E n0 All φ h w->El φ A a->Lj φ A.defers a.defers->XX φ F b->
  ∃ φ' w' a',Run P D E n0 φ h w A' h' φ' w' a'/\Ends P (lone (fput b a (.code c::k)) cs w) b k cs a' w' ex:=by
 intro F c A h ex A' h' hc φ w b a k cs R AT DT FT;cases c with
 | skip=>
  simp only[Ae] at hc;cases hc;exact⟨φ,w,a,Run.same R AT DT,.one AB1⟩
 | region id ops draw=>
  simp only[Ae,I2] at hc;obtain⟨⟨A1,h1⟩,hr,he⟩:=hc;cases he;exact hreg id ops draw A h _ _ φ w a b k cs hr R AT DT
 | seq x y=>
  simp only[Ae] at hc;have step1:Steps P (lone (fput b a (.code (.seq x y)::k)) cs w) (lone (fput b a (.code x::.code y::k)) cs w):=.one AEU;split at hc
  ·next A1 h1 hx=>
   obtain⟨φ1,w1,a1,r1,e1⟩:=hv.code _ _ _ _ _ _ _ hx φ w b a (.code y::k) cs R AT DT FT;obtain⟨φ2,w2,a2,r2,e2⟩:=hv.code _ _ _ _ _ _ _ hc φ1 w1 b a1 k cs r1.tie r1.act r1.defers (FT.le (r1.le R));exact⟨φ2,w2,a2,r1.trans (hn.code hx) r2,.of_steps (step1.trans e1) e2⟩
  ·next hne=>
   obtain⟨φ1,w1,a1,r1,e1⟩:=hv.code _ _ _ _ _ _ _ hc φ w b a (.code y::k) cs R AT DT FT;refine⟨φ1,w1,a1,r1,.of_steps step1 ?_⟩;cases ex with
   | normal=>exact absurd hc (by intro hh;exact hne _ _ hh)
   | exit id=>exact e1
   | ret=>exact e1
   | goto l=>exact e1
 | cond c x y=>
  simp only[Ae] at hc;split at hc
  ·next hcv=>
   obtain⟨g1,_⟩:=AY AT hcv;rw[DI] at g1;obtain⟨φ1,w1,a1,r1,e1⟩:=hv.code _ _ _ _ _ _ _ hc φ w b a k cs R AT DT FT;exact⟨φ1,w1,a1,r1,.of_steps (.one (Yj g1)) e1⟩
  ·next hcv=>
   obtain⟨g1,_⟩:=AY AT hcv;rw[DI] at g1;obtain⟨φ1,w1,a1,r1,e1⟩:=hv.code _ _ _ _ _ _ _ hc φ w b a k cs R AT DT FT;exact⟨φ1,w1,a1,r1,.of_steps (.one (Yj g1)) e1⟩
  ·cases hc
 | block id body=>
  simp only[Ae] at hc;have step1:Steps P (lone (fput b a (.code (.block id body)::k)) cs w) (lone (fput b a (.code body::.inBlock id::k)) cs w):=.one Zz;split at hc
  ·next j A1 h1 hx=>
   obtain⟨φ1,w1,a1,r1,e1⟩:=hv.code _ _ _ _ _ _ _ hx φ w b a (.inBlock id::k) cs R AT DT FT;obtain⟨k0,e2,e3⟩:=e1;split at hc
   ·next hj=>
    cases hc;have hj:=beq_true hj;subst hj;have:exitTo j k0=some k:=by rw[e2];simp[exitTo]
    exact⟨φ1,w1,a1,r1,(step1.trans e3).trans (.one (AB3 this))⟩
   ·next hj=>
    cases hc;have hne:id≠j:=fun e=>by subst e;rw[show Nat.beq id id=true from V1 id] at hj;cases hj
    refine⟨φ1,w1,a1,r1,k0,?_,step1.trans e3⟩;rw[e2];simp[exitTo,hne]
  ·cases hc
  ·next hne1 hne2=>
   obtain⟨φ1,w1,a1,r1,e1⟩:=hv.code _ _ _ _ _ _ _ hc φ w b a (.inBlock id::k) cs R AT DT FT;refine⟨φ1,w1,a1,r1,.of_steps step1 ?_⟩;cases ex with
   | normal=>exact Steps.trans e1 (.one UH)
   | exit j=>exact absurd hc (by intro hh;exact hne1 _ _ _ hh)
   | ret=>exact e1
   | goto l=>exact e1
 | loop body=>
  simp only[Ae] at hc;have step1:Steps P (lone (fput b a (.code (.loop body)::k)) cs w) (lone (fput b a (.code body::.inLoop body::k)) cs w):=.one Yi;split at hc
  ·next A1 h1 hx=>
   obtain⟨φ1,w1,a1,r1,e1⟩:=hv.code _ _ _ _ _ _ _ hx φ w b a (.inLoop body::k) cs R AT DT FT;obtain⟨φ2,w2,a2,r2,e2⟩:=hv.code _ _ _ _ _ _ _ hc φ1 w1 b a1 k cs r1.tie r1.act r1.defers (FT.le (r1.le R));refine⟨φ2,w2,a2,r1.trans (hn.code hx) r2,.of_steps (step1.trans e1) ?_⟩;have hst:step P (lone (fput b a1 (.code (.loop body)::k)) cs w1)=step P (lone (fput b a1 (.inLoop body::k)) cs w1):=by rw[Yi,Wg]
   cases ex with
   | normal=>exact Gu (Ix (fun e=>by have:=congrArg List.length e;simp at this)) hst e2
   | exit id=>
    obtain⟨k0,e3,e4⟩:=e2;exact⟨k0,e3,Gu (Ix (by simp)) hst e4⟩
   | ret=>
    obtain⟨k0,e4⟩:=e2;exact⟨k0,Gu (Ix (by simp)) hst e4⟩
   | goto l=>exact e2
  ·cases hc
  ·next hne1 hne2=>
   obtain⟨φ1,w1,a1,r1,e1⟩:=hv.code _ _ _ _ _ _ _ hc φ w b a (.inLoop body::k) cs R AT DT FT;refine⟨φ1,w1,a1,r1,.of_steps step1 ?_⟩;cases ex with
   | normal=>exact absurd hc (by intro hh;exact hne1 _ _ hh)
   | exit j=>exact e1
   | ret=>exact e1
   | goto l=>exact e1
 | scope body=>
  simp only[Ae] at hc;have step1:Steps P (lone (fput b a (.code (.scope body)::k)) cs w) (lone (fput b a (.code body::.inScope body::k)) cs w):=.one Zw;split at hc
  ·cases hc
  ·next hne=>
   obtain⟨φ1,w1,a1,r1,e1⟩:=hv.code _ _ _ _ _ _ _ hc φ w b a (.inScope body::k) cs R AT DT FT;refine⟨φ1,w1,a1,r1,.of_steps step1 ?_⟩;cases ex with
   | normal=>exact Steps.trans e1 (.one UG)
   | exit j=>exact e1
   | ret=>exact e1
   | goto l=>exact e1
 | label l=>
  simp only[Ae] at hc;cases hc;exact⟨φ,w,a,Run.same R AT DT,.one Zy⟩
 | exit id=>
  simp only[Ae] at hc;cases hc;exact⟨φ,w,a,Run.same R AT DT,k,rfl,Steps.refl _ _⟩
 | ret=>
  simp only[Ae] at hc;cases hc;exact⟨φ,w,a,Run.same R AT DT,k,Steps.refl _ _⟩
 | goto l=>simp only[Ae] at hc;cases hc
 | refuse s=>simp only[Ae] at hc;cases hc
 | rangeFunc f ps as bd=>exact hrange F f ps as bd A h ex A' h' hc φ w b a k cs R AT DT FT
end sim
def rput (b:Frame) (a:Act) (todo:List Item) (l:List Deferred):Frame:=
 { fn:=b.fn,tmps:=a.tmps,todo,defers:=l,mode:=.returning,kind:=b.kind,roundOf:=b.roundOf }
def AAW (a:Act):ResultVar->Sem Value
 | .tmp t=>pure (a.tmps.getD t undef)
 | .cell c t=>do loadVar t (<- asAddr (a.tmps.getD c undef))
theorem Jm (fn:Func) (a:Act):results fn a.tmps=(do
  let vs <- fn.results.mapM (AAW a)
  pure (if h:vs.size=1 then vs[0] else .tuple vs)):=by
 unfold results;congr 1
section sim
variable {P:Program} {D:Tab} {E:Env} {n0:Nat} {φ:Ph} {h h':H} {w w1:World} {A:Ac} {a:Act} {b:Frame} {k:List Item} {cs:List Frame}
theorem AB4 (hb:b.roundOf=none):step P (lone (fput b a []) cs w)=.next (lone (rput b a [] a.defers) cs w):=
 step_lone_go (by simp[stepG,stepG.exec,fput,rput,hb])
theorem AB2 (hb:b.roundOf=none):step P (lone (fput b a (.code .ret::k)) cs w)=.next (lone (rput b a (.code .ret::k) a.defers) cs w):=
 step_lone_go (by simp[stepG,stepG.exec,fput,rput,hb])
theorem AB0 {c:Nat} {l:List Deferred} (h:(Instr.takeDeferred c).run P w=.ok [] w1) :
  step P (lone (rput b a k ({ target:=.collected c,args:=#[] }::l)) cs w)=.next (lone (rput b a k l) cs w1):=
 step_lone_go (by simp[stepG,unwind,rput,h])
theorem IM (a:Act) (b:Frame) (k:List Item) (cs:List Frame):∀ {ds:List Nat} {l:List Deferred} {h h':H} {w:World},Lj φ ds l->Ay ds h=some h'->Tie D E n0 All φ h w->
  ∃ w',Tie D E n0 All φ h' w'/\Kept φ w w'/\Steps P (lone (rput b a k l) cs w) (lone (rput b a k []) cs w'):=by
 intro ds;induction ds with
 | nil=>
  intro l h h' w hd ht R;cases hd;simp only[Ay] at ht;cases ht;exact⟨w,R,Kept.refl _ _,Steps.refl _ _⟩
 | cons d ds ih=>
  intro l h h' w hd ht R;cases hd with
  | cons hφ hd=>
   next c x e l=>
   simp only[Ay] at ht;split at ht
   ·next hb=>
    have hT:w.heap[c]? = some (.deferred (some [])):=R.blk _ _ _ _ _ trivial hb hφ;have hcs:=(R.dom _ _ _ _ hφ).2.2;have R1:Tie D E n0 All φ (h.aq d (.defd true)) { w with heap:=w.heap.setIfInBounds c (.deferred none) }:=
     R.aq hb (by intros;simp) (by intros;simp) hφ rfl (fun _=>⟨none,by simp[hcs]⟩)
    have K1:Kept φ w { w with heap:=w.heap.setIfInBounds c (.deferred none) }:=by
     refine⟨rfl,rfl,rfl,by simp,fun d' _ hn => ?_⟩;have:c≠d':=fun ed=>hn d x e (ed▸hφ);simp[Q3,this]
    obtain⟨w',r1,r2,r3⟩:=ih hd ht R1;refine⟨w',r1,K1.trans r2 (Ext.refl _ 0 _),.head (AB0 ?_) r3⟩;simp[Instr.takeDeferred,Co hT rfl,Ch hT rfl]
   ·cases ht
theorem Um (T:D.Of P) (R:Tie D E n0 All φ h w) (AT:El φ A a) {x:ResultVar} {v:Value} (hr:ares1 D E A h x=some v) :
  (AAW a x).run P w=.ok (ren φ v) w/\okV φ v:=by
 cases x with
 | tmp t=>
  simp only[ares1] at hr;cases hr;exact⟨by simp only[AAW,Sem.run_pure,(AT.tmps t).2],(AT.tmps t).1⟩
 | cell c t=>
  simp only[ares1] at hr;split at hr
  ·next p hp=>
   have h1:=(AT.tmps c).2;have h2:=(AT.tmps c).1;rw[hp] at h1 h2;obtain⟨r1,r2⟩:=NL (P:=P) T R h2 (fun _=>trivial) hr;refine⟨?_,r2⟩;simp only[AAW,h1,Am,asAddr,Sem.run_bind,Sem.run_pure,Result.andThen_ok];exact r1
  ·cases hr
theorem P9 (T:D.Of P) (R:Tie D E n0 All φ h w) (AT:El φ A a) {fn:Func} {v:Value} (hr:ED D E fn A h=some v) :
  (results fn a.tmps).run P w=.ok (ren φ v) w/\okV φ v:=by
 have key:∀ (l:List ResultVar) (vs:List Value),Dl D E A h l=some vs->(l.mapM (AAW a)).run P w=.ok (vs.map (ren φ)) w/\∀ v∈vs,okV φ v:=by
  intro l;induction l with
  | nil=>intro vs hl;simp only[Dl] at hl;cases hl;simp
  | cons x l ih=>
   intro vs hl;simp only[Dl] at hl;split at hl
   ·next v hv=>
    split at hl
    ·next vs' hvs=>
     cases hl;obtain⟨g1,g2⟩:=Um T R AT hv;obtain⟨g3,g4⟩:=ih vs' hvs;refine⟨?_,?_⟩
     ·rw[List.mapM_cons];simp only[Sem.run_bind,g1,Result.andThen_ok,g3,Sem.run_pure,I3]
     ·intro y hy;rcases O1.1 hy with rfl|hy
      ·exact g2
      ·exact g4 y hy
    ·cases hl
   ·cases hl
 unfold ED at hr;have fin:∀ vs,Dl D E A h fn.results.toList=some vs->(fn.results.mapM (AAW a)).run P w=.ok (vs.map (ren φ)).toArray w:=by
  intro vs hvs;rw[Array.mapM_eq_mapM_toList];have:=(key _ _ hvs).1;simp[Sem.run_map,this]
 split at hr
 ·next v' hvs=>
  cases hr;refine⟨?_,(key _ _ hvs).2 v (by simp)⟩;have:=fin _ hvs;rw[Jm];simp only[Sem.run_bind];rw[this];simp
 ·next vs hne hvs=>
  cases hr;refine⟨?_,(Bh φ vs).2 (key _ _ hvs).2⟩;have:=fin _ hvs;rw[Jm];simp only[Sem.run_bind];rw[this];have hlen:¬ (vs.length=1):=by
   intro hl;obtain⟨x,rfl⟩:=List.length_eq_one_iff.1 hl;exact hne x rfl
  simp[hlen,GP]
 ·cases hr
def Uy (P:Program) (D:Tab) (E:Env) (n0:Nat) (I:Aa):Prop:=
 ∀ f args h r h',I f args h=some (some (r,h'))->∀ φ w,Tie D E n0 All φ h w->(∀ x∈args,okV φ x)->Sim P D E n0 (callFunc f (args.map (ren φ)).toArray) φ h w r h'
def Je (P:Program):Prop:=∀ (f:Nat) (fn:Func),P.funcs[f]? = some fn->(fn.name == "runtime.NumGoroutine")=false
theorem Mh (P:Program) (f:FuncId) (fn:Func) (hf:P.funcs[f]? = some fn) (body:Code) (hb:fn.body=some body) (args:List Value) :
  Frame.enter P f (args.map (ren φ)).toArray .normal=fput (Frame.enter P f (args.map (ren φ)).toArray .normal) ⟨(args.map (ren φ)).toArray++Array.replicate (fn.ntmps-args.length) undef,[]⟩ [.code body]:=by
 simp[Frame.enter,fput,hf,hb]
theorem Mg (fn:Func) {args:List Value} (hok:∀ x∈args,okV φ x) :
  El φ ⟨T.ofList args 0 .nil,max args.length fn.ntmps,[]⟩ ⟨(args.map (ren φ)).toArray++Array.replicate (fn.ntmps-args.length) undef,[]⟩:=by
 refine⟨by simp;omega,fun t => ?_⟩;have hg:(Ac.get ⟨T.ofList args 0 .nil,max args.length fn.ntmps,[]⟩ t)=(args[t]?).getD undef:=by
  unfold Ac.get;rw[T.get_ofList];by_cases ht:t<args.length
  ·rw[if_pos (by omega)];simp
  ·rw[if_neg (by omega),T.get_nil];simp[Nat.le_of_not_lt ht]
 rw[hg];by_cases ht:t<args.length
 ·have:args[t]? = some args[t]:=Q0 ht;rw[this];refine⟨hok _ (Q5 ht),?_⟩;rw[D2,Array.getElem?_append_left (by simpa using ht)];simp[this]
 ·have:args[t]? = none:=C7 (by omega);rw[this];refine⟨C8 φ,?_⟩;simp only[Option.getD_none];rw[D2,Array.getElem?_append_right (by simp;omega),DU];simp only[Array.getElem?_replicate]
  split<;>rfl
theorem Qu (TT:D.Of P) (hN:Je P) {I:Aa} (hI:Uy P D E n0 I) {ev:Ev} (hv:NX P D E n0 ev) :
  ∀ f args h r h',Dh D E I ev f args h=some (r,h')->∀ φ w,Tie D E n0 All φ h w->(∀ x∈args,okV φ x)->Sim P D E n0 (callFunc f (args.map (ren φ)).toArray) φ h w r h':=by
 intro f args h r h' hc φ w R hok;unfold Dh at hc;split at hc
 ·next hI'=>subst hc;exact hI _ _ _ _ _ hI' φ w R hok
 ·split at hc
  ·cases hc
  ·next fn hfn=>
   have hf:=TT.fn _ _ hfn;split at hc
   ·cases hc
   ·next body hbody=>
    have hcall:(callFunc f (args.map (ren φ)).toArray).run P w=.ok (.enter f (args.map (ren φ)).toArray) w:=by
     have hnm:fn.name ≠ "runtime.NumGoroutine" := by
      intro e;have:=hN f fn hf;rw[e] at this;cases this
     simp[callFunc,hf,hnm,hbody]
    refine⟨_,w,hcall,fun c cs => ?_⟩;have hent:=Mh (φ:=φ) P f fn hf body hbody args;have hFT:XX φ ⟨f,none⟩ (Frame.enter P f (args.map (ren φ)).toArray .normal):=⟨rfl,rfl,rfl⟩;have hAT:=Mg fn hok;have fin:∀ A1 h1 ex,(ex=.normal\/ex=.ret)->ev.code ⟨f,none⟩ body ⟨T.ofList args 0 .nil,max args.length fn.ntmps,[]⟩ h=some (ex,A1,h1)->
      (match Ay A1.defers h1 with
       | some h=>(ED D E fn A1 h).map fun r=>(r,h)
       | none=>none)=some (r,h')->
      ∃ φ' w',okV φ' r/\Tie D E n0 All φ' h' w'/\Ext φ φ' h.next h'.next w/\Kept φ w w'/\Steps P (lone (Frame.enter P f (args.map (ren φ)).toArray .normal) (c::cs) w) (lone (c.finish (ren φ' r)) cs w'):=by
     intro A1 h1 ex hex hcode hres;obtain⟨φ1,w1,a1,r1,e1⟩:=hv.code _ _ _ _ _ _ _ hcode φ w (Frame.enter P f (args.map (ren φ)).toArray .normal) _ [] (c::cs) R hAT .nil hFT;rw[<- hent] at e1;split at hres
     ·next h2 ht=>
      simp only[I2] at hres;obtain⟨r',hr',he⟩:=hres;cases he;have hret:∃ k,Steps P (lone (Frame.enter P f (args.map (ren φ)).toArray .normal) (c::cs) w) (lone (rput (Frame.enter P f (args.map (ren φ)).toArray .normal) a1 k a1.defers) (c::cs) w1):=by
       rcases hex with rfl|rfl
       ·exact⟨[],Steps.trans e1 (.one (AB4 rfl))⟩
       ·obtain⟨k0,e2⟩:=e1;exact⟨_,e2.trans (.one (AB2 rfl))⟩
      obtain⟨k,hret⟩:=hret;obtain⟨w2,q1,q2,q3⟩:=IM (P:=P) a1 (Frame.enter P f (args.map (ren φ)).toArray .normal) k (c::cs) r1.defers ht r1.tie;obtain⟨p1,p2⟩:=P9 TT q1 r1.act hr';refine⟨φ1,w2,p2,q1,r1.ext.of_next (Dp ht),r1.kept.trans q2 r1.ext,(hret.trans q3).trans (.one ?_)⟩;exact step_leave_returned (fr:=rput (Frame.enter P f (args.map (ren φ)).toArray .normal) a1 k []) ⟨rfl,rfl,rfl,fn,hf,p1⟩
     ·cases hres
    split at hc
    ·next hcode=>exact fin _ _ _ (.inl rfl) hcode hc
    ·next hcode=>exact fin _ _ _ (.inr rfl) hcode hc
    ·cases hc
end sim
section sim
variable {P:Program} {D:Tab} {E:Env} {n0:Nat} {φ:Ph} {h h':H} {w w1:World} {A:Ac} {a:Act} {b:Frame} {k:List Item} {cs:List Frame}
theorem Df {c:Nat} {L:Loop} (hc:w.heap[c]? = some (.loop L)):(Instr.getLoop c).run P w=.ok L w:=by
 simp[Instr.getLoop,Co hc rfl]
theorem Ip (R:Tie D E n0 All φ h w) {l:Nat} {r:EO} (hl:(φ l).isSome=true) (hb:h.blk l=some (.loop r)):∃ c x e L,φ l=some (c,x,e)/\renN φ l=c/\w.heap[c]? = some (.loop L)/\Ed φ r L:=by
 obtain⟨⟨c,x,e⟩,hk⟩:=J1.1 hl;obtain⟨L,h1,h2⟩:=R.blk _ _ _ _ _ trivial hb hk;exact⟨c,x,e,L,hk,by simp[renN,hk],h1,h2⟩
theorem Fz (R:Tie D E n0 All φ h w) {l c x e:Nat} {r r':EO} {L':Loop} (hb:h.blk l=some (.loop r)) (hk:φ l=some (c,x,e)) (LT:Ed φ r' L') :
  Tie D E n0 All φ (h.aq l (.loop r')) { w with heap:=w.heap.setIfInBounds c (.loop L') }/\Kept φ w { w with heap:=w.heap.setIfInBounds c (.loop L') }:=by
 have hcs:=(R.dom _ _ _ _ hk).2.2;refine⟨R.aq hb (by intros;simp) (by intros;simp) hk rfl (fun _=>⟨L',by simp[hcs],LT⟩),⟨rfl,rfl,rfl,by simp,fun d _ hn => ?_⟩⟩;have:c≠d:=fun ed=>hn l x e (ed▸hk);simp[Q3,this]
theorem AAA {l:Nat} (hb:b.roundOf=some l) (hr:(Instr.beginRound l).run P w=.ok () w1):step P (lone (fput b a (.beginRound::k)) cs w)=.next (lone (fput b a k) cs w1):=
 step_lone_go (by simp[stepG,stepG.exec,stepG.apply,fput,hb,hr,Frame.finish])
theorem Md {l:Nat} {c:Frame} {v:Value} (hb:b.roundOf=some l) (hk:b.kind=.normal) (hr:(Instr.endRound l none).run P w=.ok v w1):step P (lone (fput b a []) (c::cs) w)=.next (lone (c.finish v) cs w1):=
 step_lone_go (by simp[stepG,stepG.exec,fput,hb,hk,hr,doReturn])
theorem OM {l:Nat} {c:Frame} {v:Value} (hb:b.roundOf=some l) (hk:b.kind=.normal) (hr:(Instr.endRound l (some .ret)).run P w=.ok v w1):step P (lone (fput b a (.code .ret::k)) (c::cs) w)=.next (lone (c.finish v) cs w1):=
 step_lone_go (by simp[stepG,stepG.exec,fput,hb,hk,hr,doReturn])
theorem Me {l id:Nat} {c:Frame} {v:Value} (hb:b.roundOf=some l) (hk:b.kind=.normal) (he:exitTo id k=none) (hr:(Instr.endRound l (some (.exit id))).run P w=.ok v w1):step P (lone (fput b a (.code (.exit id)::k)) (c::cs) w)=.next (lone (c.finish v) cs w1):=
 step_lone_go (by simp[stepG,stepG.exec,fput,hb,hk,hr,he,doReturn])
theorem KS:∀ {ts:List Tmp} {vs:List Value} {A A':Ac} {tm:Array Value},Cw ts vs A=some A'->(∀ x∈vs,okV φ x)->El φ A ⟨tm,[]⟩->ts.length=vs.length/\A'.defers=A.defers/\
  El φ A' ⟨(ts.zip (vs.map (ren φ))).foldl (fun tmps (x:Tmp×Value)=>tmps.setIfInBounds x.1 x.2) tm,[]⟩:=by
 intro ts;induction ts with
 | nil=>
  intro vs A A' tm hs hok AT;cases vs with
  | nil=>simp only[Cw] at hs;cases hs;exact⟨rfl,rfl,AT⟩
  | cons v vs=>simp[Cw] at hs
 | cons t ts ih=>
  intro vs A A' tm hs hok AT;cases vs with
  | nil=>simp[Cw] at hs
  | cons v vs=>
   simp only[Cw] at hs;have A1:=AT.put (some t) (hok v (by simp));obtain⟨g1,g2,g3⟩:=ih hs (fun x hx=>hok x (by simp[hx])) (tm:=tm.setIfInBounds t (ren φ v)) A1;refine⟨by simp[g1],by rw[g2,Ac.put_defers],?_⟩;simpa using g3
theorem Nk (l f:Nat) (tm:Array Value) (as bd:Code):Frame.round l f tm as bd .normal=fput (Frame.round l f tm as bd .normal) ⟨tm,[]⟩ [.code as,.beginRound,.code bd]:=rfl
theorem OR {ev:Ev} (hv:NX P D E n0 ev) (hn:Cb ev) :
  ∀ l args h r h',EB ev l args h=some (r,h')->∀ φ w,Tie D E n0 All φ h w->(φ l).isSome=true->(∀ x∈args,okV φ x)->Sim P D E n0 (Instr.yield (renN φ l) (args.map (ren φ)).toArray) φ h w r h':=by
 intro l args h r h' hc φ w R hl hok;unfold EB at hc;split at hc
 ·next r0 hb0=>
  obtain⟨c0,x0,e0,L0,hk,hN,hL0,LT0⟩:=Ip R hl hb0;split at hc
  ·cases hc
  ·next A0 hset=>
   have AT00:El φ ⟨r0.tmps,r0.n,[]⟩ ⟨L0.tmps,[]⟩:=⟨LT0.size,fun t=>LT0.tmps t⟩;obtain⟨hlen,hd0,AT0⟩:=KS hset hok AT00;have hpar:L0.params=r0.params:=LT0.params;let tm:=(r0.params.toList.zip (args.map (ren φ))).foldl (fun tmps (x:Tmp×Value)=>tmps.setIfInBounds x.1 x.2) L0.tmps;have hy:(Instr.yield (renN φ l) (args.map (ren φ)).toArray).run P w=.ok (.round c0 r0.fn tm r0.assign r0.body) w:=by
    have hsz:args.length=r0.params.size:=by rw[<- hlen];simp
    simp only[Instr.yield,hN,Sem.run_bind,Df hL0,Result.andThen_ok,hpar];have:¬ ((args.map (ren φ)).toArray.size≠r0.params.size):=by simp[hsz]
    simp only[this,if_false,Sem.run_pure,LT0.fn,LT0.assign,LT0.body];congr 2;rw[<- Array.foldl_toList,Array.toList_zip]
   refine⟨_,w,hy,fun c cs => ?_⟩;have hfr:=Nk c0 r0.fn tm r0.assign r0.body;have hb:(Frame.round c0 r0.fn tm r0.assign r0.body .normal).roundOf=some c0:=rfl;have hkd:(Frame.round c0 r0.fn tm r0.assign r0.body .normal).kind=.normal:=rfl;have FT0:XX φ ⟨r0.fn,some l⟩ (Frame.round c0 r0.fn tm r0.assign r0.body .normal):=⟨rfl,rfl,c0,x0,e0,hk,rfl⟩;have hdA:A0.defers=[]:=hd0;split at hc
   ·next A1 h1 hc1=>
    obtain⟨φ1,w1,a1,r1,s1⟩:=hv.code _ _ _ _ _ _ _ hc1 φ w (Frame.round c0 r0.fn tm r0.assign r0.body .normal) ⟨tm,[]⟩ [.beginRound,.code r0.body] (c::cs) R AT0 (by rw[hdA];exact .nil) FT0;rw[<- hfr] at s1;have hle1:=r1.le R;have hk1:φ1 l=some (c0,x0,e0):=hle1 _ _ hk;split at hc
    ·next r1' hb1=>
     split at hc
     ·next hst=>
      obtain⟨c1,x1,e1,L1,hk1',hN1,hL1,LT1⟩:=Ip r1.tie (by rw[hk1];rfl) hb1;rw[hk1] at hk1'; cases hk1';have LTb:Ed φ1 { r1' with state:=.busy } { L1 with state:=.busy }:=⟨rfl,LT1.pending,LT1.fn,LT1.size,LT1.tmps,LT1.params,LT1.assign,LT1.body,LT1.defers⟩;obtain⟨Rb,Kb⟩:=Fz r1.tie hb1 hk1 LTb;have hbegin:(Instr.beginRound c0).run P w1=.ok () { w1 with heap:=w1.heap.setIfInBounds c0 (.loop { L1 with state:=.busy }) }:=by
       have:L1.state=.ready:=by rw[LT1.state,hst]
       simp[Instr.beginRound,Df hL1,Ch hL1 rfl,this]
      have run1:Run P D E n0 φ h w A1 (h1.aq l (.loop { r1' with state:=.busy })) φ1 { w1 with heap:=w1.heap.setIfInBounds c0 (.loop { L1 with state:=.busy }) } a1:=
       ⟨Rb,r1.act,r1.defers,r1.ext.of_next (Ag _ _ _),r1.kept.trans Kb r1.ext⟩
      have s2:=Steps.trans s1 (.one (AAA (k:=[.code r0.body]) hb hbegin));split at hc
      ·cases hc
      ·next ex A2 h2 hc2=>
       obtain⟨φ2,w2,a2,r2,s3⟩:=hv.code _ _ _ _ _ _ _ hc2 φ1 _ (Frame.round c0 r0.fn tm r0.assign r0.body .normal) a1 [] (c::cs) run1.tie run1.act run1.defers (FT0.le hle1);have run2:=run1.trans (by rw[Ag];exact hn.code hc1) r2;have hle2:=r2.le run1.tie;have hk2:φ2 l=some (c0,x0,e0):=hle2 _ _ hk1;split at hc
       ·next r2' hb2=>
        obtain⟨c2,x2,e2,L2,hk2',hN2,hL2,LT2⟩:=Ip r2.tie (by rw[hk2];rfl) hb2;rw[hk2] at hk2'; cases hk2';have fin:∀ (jump:Option Code) (st:LoopState) (bv:Bool),st=(if jump.isNone then .ready else .done)->bv=jump.isNone->
          h'=h2.aq l (.loop { r2' with state:=st,pending:=jump })->r=.bool bv->
          (∀ v w3,(Instr.endRound c0 jump).run P w2=.ok v w3->Steps P (lone (Frame.round c0 r0.fn tm r0.assign r0.body .normal) (c::cs) w) (lone (c.finish v) cs w3))->
          ∃ φ' w',okV φ' r/\Tie D E n0 All φ' h' w'/\Ext φ φ' h.next h'.next w/\Kept φ w w'/\Steps P (lone (Frame.round c0 r0.fn tm r0.assign r0.body .normal) (c::cs) w) (lone (c.finish (ren φ' r)) cs w'):=by
         intro jump st bv hst' hbv hh' hr' hsteps;subst hst' hbv hh' hr';have LTe:Ed φ2 { r2' with state:=(if jump.isNone then .ready else .done),pending:=jump } { L2 with state:=(if jump.isNone then .ready else .done),pending:=jump }:=⟨rfl,rfl,LT2.fn,LT2.size,LT2.tmps,LT2.params,LT2.assign,LT2.body,LT2.defers⟩;obtain⟨Re,Ke⟩:=Fz r2.tie hb2 hk2 LTe;have hend:(Instr.endRound c0 jump).run P w2=.ok (.bool jump.isNone) { w2 with heap:=w2.heap.setIfInBounds c0 (.loop { L2 with state:=(if jump.isNone then .ready else .done),pending:=jump }) }:=by
          simp[Instr.endRound,Df hL2,Ch hL2 rfl]
         refine⟨φ2,_,trivial,Re,run2.ext.of_next (Ag _ _ _),run2.kept.trans Ke run2.ext,?_⟩;rw[DI];exact hsteps _ _ hend
        split at hc
        ·cases hc;exact fin none .ready true rfl rfl rfl rfl (fun v w3 he=>(s2.trans s3).trans (.one (Md hb hkd he)))
        ·cases hc;obtain⟨k0,s4⟩:=s3;exact fin (some .ret) .done false rfl rfl rfl rfl (fun v w3 he=>(s2.trans s4).trans (.one (OM hb hkd he)))
        ·next id=>
         cases hc;obtain⟨k0,he0,s4⟩:=s3;exact fin (some (.exit id)) .done false rfl rfl rfl rfl (fun v w3 he=>(s2.trans s4).trans (.one (Me hb hkd (by rw[he0];rfl) he)))
        ·cases hc
       ·cases hc
     ·cases hc
    ·cases hc
   ·cases hc
 ·cases hc
end sim
section sim
variable {P:Program} {D:Tab} {E:Env} {n0:Nat} {φ:Ph} {h h':H} {w w1:World} {A:Ac} {a:Act} {b:Frame} {k:List Item} {cs:List Frame}
def rangeCall (a:Act) (f:Operand) (l:Nat):Sem Next:=do
 let d <- Deferred.ofValue (a.eval f) #[.func (.yield l) #[] #[]]
 invoke d.target d.args
theorem Sh {f:Operand} {ps:Array Tmp} {as bd:Code} {l:Nat} {mark:List Deferred} {r:Value}
  (he:(Instr.enterLoop b.fn a.tmps ps as bd b.roundOf).run P w=.ok (l,mark) w1) (hs:Sim P D E n0 (rangeCall a f l) φ h w1 r h') :
  ∃ φ' w',okV φ' r/\Tie D E n0 All φ' h' w'/\Ext φ φ' h.next h'.next w1/\Kept φ w1 w'/\
   Steps P (lone (fput b a (.code (.rangeFunc f ps as bd)::k)) cs w) (lone (fput b { a with defers:=mark++a.defers } (.endRangeFunc l::k)) cs w'):=by
 obtain⟨nx,w2,hr,hc⟩:=hs
 have hres:((do
   let d <- resolve (fput b { a with defers:=mark++a.defers } (.inRangeFunc l::k)).eval { callee:=.value f,args:=#[.const (.func (.yield l) #[] #[])],argTypes:=#[] } 0
   invoke d.target d.args:Sem Next))=rangeCall a f l:=by
  have:(fput b { a with defers:=mark++a.defers } (.inRangeFunc l::k)).eval f=a.eval f:=by cases f<;>rfl
  have e2:(#[Operand.const (.func (.yield l) #[] #[])]:Array Operand).map (fput b { a with defers:=mark++a.defers } (.inRangeFunc l::k)).eval=#[.func (.yield l) #[] #[]]:=by
   apply L5;simp only[List.map_toArray,I3,List.map_nil];rfl
  simp only[resolve,rangeCall,this,e2]
 have hg:stepG P true { frame:=fput b a (.code (.rangeFunc f ps as bd)::k),callers:=cs,status:=.running,dying:=none } w=
   GStep.after (seen P b.fn ((Instr.enterLoop b.fn a.tmps ps as bd b.roundOf).runT P w #[]).2) (stepG.apply P true (fput b { a with defers:=mark++a.defers } (.inRangeFunc l::k)) cs none (rangeCall a f l) w1):=by
  rw[<- hres];have hT:((Instr.enterLoop b.fn a.tmps ps as bd b.roundOf).runT P w #[]).1=.ok (l,mark) w1:=by rw[<- he];simp[Sem.runT_eq]
  simp only[stepG,stepG.exec,fput];generalize hq:(Instr.enterLoop b.fn a.tmps ps as bd b.roundOf).runT P w #[]=q at hT;obtain⟨q1,q2⟩:=q;simp only at hT;subst hT;rfl
 have hfin:∀ v,(fput b { a with defers:=mark++a.defers } (.inRangeFunc l::k)).finish v=fput b { a with defers:=mark++a.defers } (.endRangeFunc l::k):=fun v=>rfl;obtain⟨φ',w',h1,h2,h3,h4,h5⟩:=hc (fput b { a with defers:=mark++a.defers } (.inRangeFunc l::k)) cs;refine⟨φ',w',h1,h2,h3,h4,?_⟩;cases nx with
 | value x=>
  obtain⟨rfl,rfl⟩:=h5;refine .one (step_lone_go ?_);rw[hg,<- hfin (ren φ' r)];simp[stepG.apply,hr]
 | skip=>
  obtain⟨rfl,rfl⟩:=h5;refine .one (step_lone_go ?_);rw[hg,<- hfin undef];simp[stepG.apply,hr]
 | enter g args=>
  have henter:step P (lone (fput b a (.code (.rangeFunc f ps as bd)::k)) cs w)=
    .next (lone (Frame.enter P g args .normal) (fput b { a with defers:=mark++a.defers } (.inRangeFunc l::k)::cs) w2):=
   step_lone_go (by rw[hg];simp[stepG.apply,hr,fput])
  rw[<- hfin (ren φ' r)];exact .head henter h5
 | round g f' tmps as' bd'=>
  have henter:step P (lone (fput b a (.code (.rangeFunc f ps as bd)::k)) cs w)=
    .next (lone (Frame.round g f' tmps as' bd' .normal) (fput b { a with defers:=mark++a.defers } (.inRangeFunc l::k)::cs) w2):=
   step_lone_go (by rw[hg];simp[stepG.apply,hr,fput])
  rw[<- hfin (ren φ' r)];exact .head henter h5
 | _=>exact h5.elim
theorem Qq {l:Nat} {jump:Option Code} (hr:(Instr.endLoop l).run P w=.ok jump w1):step P (lone (fput b a (.endRangeFunc l::k)) cs w)=.next (lone (fput b a ((jump.map Item.code).toList++k)) cs w1):=
 step_lone_go (by simp[stepG,stepG.exec,fput,hr])
theorem Vp {ev:Ev} (hv:NX P D E n0 ev) (hn:Cb ev):Ux P D E n0 ev:=by
 intro F f ps as bd A h ex A' h' hc φ w b a k cs R AT DT FT;simp only[Ae] at hc;split at hc
 ·cases hc
 ·next fv hf=>
  obtain⟨gf,okf⟩:=AY AT hf;have main:∀ (A1:Ac) (h1:H) (d:Nat) (φ1:Ph) (w1:World) (cd:Nat) (mark:List Deferred),Tie D E n0 All φ1 h1 w1->Ext φ φ1 h.next h1.next w->Kept φ w w1->h.next<=h1.next->
    A1.tmps=A.tmps->A1.n=A.n->Lj φ1 A1.defers (mark++a.defers)->(∃ x e,φ1 d=some (cd,x,e))->
    (Instr.enterLoop b.fn a.tmps ps as bd b.roundOf).run P w=.ok (w1.heap.size,mark) (wpush w1 (.loop { state:=.ready,pending:=none,fn:=b.fn,tmps:=a.tmps,params:=ps,assign:=as,body:=bd,defers:=cd }))->
    (match Dm ev fv [.func (.yield h1.next) #[] #[]] (h1.new (.loop ⟨.ready,none,F.fn,A.tmps,A.n,ps,as,bd,d⟩)) with
     | none=>none
     | some (_,h2)=>
      match h2.blk h1.next with
      | some (.loop r)=>
       match r.state with
       | .busy=>none
       | _=>
        match r.pending with
        | none=>some (.normal,A1,h2.aq h1.next (.loop { r with state:=.exhausted }))
        | some c=>ev.code F c A1 (h2.aq h1.next (.loop { r with state:=.exhausted }))
      | _=>none)=some (ex,A',h')->
    ∃ φ' w' a',Run P D E n0 φ h w A' h' φ' w' a'/\Ends P (lone (fput b a (.code (.rangeFunc f ps as bd)::k)) cs w) b k cs a' w' ex:=by
   intro A1 h1 d φ1 w1 cd mark R1 X1 K1 hn1 ht1 ht2 D1 hd1 henter hcc;have hle1:=X1.le (fun k c b e hk=>(R.dom k c b e hk).1);have hnone:=R1.ar (C0 h1.next);let φ2:=upd φ1 h1.next (w1.heap.size,0,0);have hle2:Le φ1 φ2:=Dn hnone;have AT1:=(AT.le hle1).le hle2;have hB:CV D φ2 (wpush w1 (.loop { state:=.ready,pending:=none,fn:=b.fn,tmps:=a.tmps,params:=ps,assign:=as,body:=bd,defers:=cd })) w1.heap.size 0 0 (.loop ⟨.ready,none,F.fn,A.tmps,A.n,ps,as,bd,d⟩):=by
    obtain⟨x,e,hd⟩:=hd1;refine⟨{ state:=.ready,pending:=none,fn:=b.fn,tmps:=a.tmps,params:=ps,assign:=as,body:=bd,defers:=cd },by show (w1.heap.push _)[w1.heap.size]? = _;rw[Y6],?_⟩;exact⟨rfl,rfl,FT.fn,AT.size,fun t=>AT1.tmps t,rfl,rfl,rfl,_,hle2 _ _ hd,rfl⟩
   have R2:Tie D E n0 All φ2 (h1.new (.loop ⟨.ready,none,F.fn,A.tmps,A.n,ps,as,bd,d⟩)) (wpush w1 (.loop { state:=.ready,pending:=none,fn:=b.fn,tmps:=a.tmps,params:=ps,assign:=as,body:=bd,defers:=cd })):=
    R1.new rfl _ rfl hB
   have X2:Ext φ1 φ2 h1.next (h1.next+1) w1:=DQ (.inl (C0 _));have K2:Kept φ1 w1 (wpush w1 (.loop { state:=.ready,pending:=none,fn:=b.fn,tmps:=a.tmps,params:=ps,assign:=as,body:=bd,defers:=cd })):=Kept.push φ1 _ rfl rfl rfl rfl;have X12:=X1.trans X2 hn1 K1.size;have K12:=K1.trans K2 X1;have hN:renN φ2 h1.next=w1.heap.size:=by simp[renN,φ2,AR]
   split at hcc
   ·cases hcc
   ·next rv h2 hac=>
    have okf2:=okV.le hle2 (okV.le hle1 okf).1
    have hsim:=NP hv R2 okf2.1 (args:=[.func (.yield h1.next) #[] #[]]) (by
     intro x hx;simp at hx;subst hx;show okV φ2 (.func (.yield h1.next) ⟨[]⟩ ⟨[]⟩);exact⟨by simp[okF,φ2,AR],trivial,trivial⟩) hac
    have hcallEq:(do
      let d <- Deferred.ofValue (ren φ2 fv) (([.func (.yield h1.next) #[] #[]]:List Value).map (ren φ2)).toArray
      invoke d.target d.args:Sem Next)=rangeCall a f w1.heap.size:=by
     have e1:ren φ2 fv=a.eval f:=by rw[okf2.2,(okV.le hle1 okf).2,gf]
     have e2:ren φ2 (.func (.yield h1.next) #[] #[])=.func (.yield w1.heap.size) #[] #[]:=by
      show ren φ2 (.func (.yield h1.next) ⟨[]⟩ ⟨[]⟩)=_;simp[ren,renL,renF,hN]
     simp only[rangeCall,e1,I3,List.map_nil,e2]
    rw[hcallEq] at hsim;obtain⟨φ3,w3,q1,q2,q3,q4,q5⟩:=Sh (b:=b) (a:=a) (k:=k) (cs:=cs) (ps:=ps) (as:=as) (bd:=bd) henter hsim;have hle3:=q3.le (fun k c b e hk=>(R2.dom k c b e hk).1);have hk3:φ3 h1.next=some (w1.heap.size,0,0):=hle3 _ _ (AR _ _ _);have hnx2:h1.next+1<=h2.next:=HS hn hac;have X3:=X12.trans q3 (by show h.next<=h1.next+1;omega) (by have:=K12.size;exact this);have K3:=K12.trans q4 X12;split at hcc
    ·next r3 hb3=>
     obtain⟨c3,x3,e3,L3,hk3',hN3,hL3,LT3⟩:=Ip q2 (by rw[hk3];rfl) hb3;rw[hk3] at hk3'; cases hk3';have fin:r3.state≠.busy->
       (match r3.pending with
        | none=>some (.normal,A1,h2.aq h1.next (.loop { r3 with state:=.exhausted }))
        | some c=>ev.code F c A1 (h2.aq h1.next (.loop { r3 with state:=.exhausted })))=some (ex,A',h')->
       ∃ φ' w' a',Run P D E n0 φ h w A' h' φ' w' a'/\Ends P (lone (fput b a (.code (.rangeFunc f ps as bd)::k)) cs w) b k cs a' w' ex:=by
      intro hnb hcc;have LTe:Ed φ3 { r3 with state:=.exhausted } { L3 with state:=.exhausted }:=⟨rfl,LT3.pending,LT3.fn,LT3.size,LT3.tmps,LT3.params,LT3.assign,LT3.body,LT3.defers⟩;generalize ({ r3 with state:=LoopState.exhausted }:EO)=rr at hcc LTe;obtain⟨Re,Ke⟩:=Fz q2 hb3 hk3 LTe;have hend:(Instr.endLoop w1.heap.size).run P w3=.ok r3.pending { w3 with heap:=w3.heap.setIfInBounds w1.heap.size (.loop { L3 with state:=.exhausted }) }:=by
       have hns:L3.state≠.busy:=by rw[LT3.state];exact hnb
       have hns':(L3.state == LoopState.busy)=false:=by
        cases hq:L3.state<;>first|rfl|exact absurd hq hns
       simp[Instr.endLoop,Df hL3,Ch hL3 rfl,hns,LT3.pending]
      have s2:=q5.trans (.one (Qq (a:={ a with defers:=mark++a.defers }) (b:=b) (k:=k) (cs:=cs) hend));have AT3:El φ3 A1 { a with defers:=mark++a.defers }:=by
       have:=AT1.le hle3;exact⟨by rw[ht2];exact this.size,fun t=>by have:=this.tmps t;simp only[Ac.get,ht1] at this ⊢; exact this⟩
      have D3:Lj φ3 A1.defers (mark++a.defers):=(D1.le hle2).le hle3;have run3:Run P D E n0 φ h w A1 (h2.aq h1.next (.loop rr)) φ3 { w3 with heap:=w3.heap.setIfInBounds w1.heap.size (.loop { L3 with state:=.exhausted }) } { a with defers:=mark++a.defers }:=
       ⟨Re,AT3,D3,X3.of_next (Ag _ _ _),K3.trans Ke X3⟩
      cases hp:r3.pending with
      | none=>
       rw[hp] at hcc s2;simp only at hcc;cases hcc;exact⟨φ3,_,_,run3,s2⟩
      | some c=>
       rw[hp] at hcc s2;simp only at hcc;obtain⟨φ4,w4,a4,r4,s4⟩:=hv.code _ _ _ _ _ _ _ hcc φ3 _ b _ k cs run3.tie run3.act run3.defers (FT.le (run3.le R));exact⟨φ4,w4,a4,run3.trans (by rw[Ag];omega) r4,.of_steps s2 s4⟩
     split at hcc
     ·cases hcc
     ·next hnb=>exact fin (fun e=>hnb e) hcc
    ·cases hcc
  cases hF:F.round with
  | none=>
   have hbr:b.roundOf=none:=by have:=FT.round;rw[hF] at this;exact this
   simp only[hF] at hc;have hnone:=R.ar (C0 h.next);have hle:Le φ (upd φ h.next (w.heap.size,0,0)):=Dn hnone;refine main { A with defers:=h.next::A.defers } (h.new (.defd false)) h.next (upd φ h.next (w.heap.size,0,0)) (wpush w (.deferred (some []))) w.heap.size [{ target:=.collected w.heap.size,args:=#[] }]
    (R.new rfl (.deferred (some [])) rfl (by show (w.heap.push _)[w.heap.size]? = _;rw[Y6])) (DQ (.inl (C0 _))) (Kept.push φ _ rfl rfl rfl rfl) (U1 _) rfl rfl (.cons (AR _ _ _) (DT.le hle)) ⟨0,0,AR _ _ _⟩ ?_ hc
   rw[hbr];simp[Instr.enterLoop,wpush];rfl
  | some lo=>
   simp only[hF] at hc;have hFr:=FT.round;rw[hF] at hFr;obtain⟨c0,x0,e0,hk0,hbr⟩:=hFr;split at hc
   ·cases hc
   ·next A1 h1 d hs=>
    split at hs
    ·next r0 hb0=>
     cases hs;obtain⟨c1,x1,e1,L1,hk1,hN1,hL1,LT1⟩:=Ip R (by rw[hk0];rfl) hb0;rw[hk0] at hk1;cases hk1;obtain⟨⟨cd,xd,ed⟩,hd,hdl⟩:=LT1.defers;refine main A h r0.defers φ w cd [] R (Ext.refl _ _ _) (Kept.refl _ _) (C0 _) rfl rfl DT ⟨xd,ed,hd⟩ ?_ hc;rw[hbr];simp[Instr.enterLoop,wpush,Df hL1,hdl]
    ·cases hs
end sim
def H.Wf (h:H):Prop:=∀ k xs ty r p,h.dyn.get k=some (.cells xs ty (some (r,p)))->r<h.next
def H.Ok (h:H):Prop:=h.Wf/\h.mark<=h.next
def shapeOf:Option Blk->Option (Option (Nat×TypeId×Option (Nat×Nat)))
 | some (.cells xs ty rt)=>some (some (xs.length,ty,rt))
 | some _=>some none
 | none=>none
def Blk.cf:Blk->Bool
 | .cells _ _ _=>false
 | _=>true
theorem GO {B:Blk} (h:B.cf=true):shapeOf (some B)=some none:=by
 cases B<;>first|rfl|cases h
theorem Kl {B:Blk} (h:B.cf=true):B.plain=true:=by
 cases B<;>first|rfl|cases h
structure Lg (h h':H):Prop where
 wf:h'.Wf
 shape:∀ k,k<h.next->shapeOf (h'.dyn.get k)=shapeOf (h.dyn.get k)
 next:h.next<=h'.next
 mark:h'.mark=h.mark
 log:∃ L,h'.log=L++h.log/\(∀ k∈L,k<h.mark)/\∀ k,k<h.mark->k ∉ L->h'.blk k=h.blk k
theorem Lg.ok {h h':H} (g:Lg h h') (o:h.Ok):h'.Ok:=⟨g.wf,by rw[g.mark];exact Y0 o.2 g.next⟩
theorem Lg.refl {h:H} (o:h.Ok):Lg h h:=⟨o.1,fun _ _=>rfl,C0 _,rfl,[],rfl,by simp,fun _ _ _=>rfl⟩
theorem Lg.trans {h h' h'':H} (g:Lg h h') (g':Lg h' h''):Lg h h'':=by
 obtain⟨L,h1,h2,h3⟩:=g.log;obtain⟨L',h4,h5,h6⟩:=g'.log;rw[g.mark] at h5 h6;refine⟨g'.wf,fun k hk=>(g'.shape k (Q1 hk g.next)).trans (g.shape k hk),Y0 g.next g'.next,g'.mark.trans g.mark,L'++L,by rw[h4,h1,E1],?_,?_⟩
 ·intro k hk;rcases Y4.1 hk with hk|hk
  ·exact h5 k hk
  ·exact h2 k hk
 ·intro k hk hn;rw[h6 k hk (fun h=>hn (V5 _ h)),h3 k hk (fun h=>hn (N6 _ h))]
theorem Lg.bj {h h1:H} (ks:List Nat) (hw:h1.Wf) (hs:∀ k,k<h.next->shapeOf (h1.dyn.get k)=shapeOf (h.dyn.get k)) (hn:h.next<=h1.next) (hm:h1.mark=h.mark) (hl:h1.log=h.log) (hb:∀ k,k<h.mark->k ∉ ks->h1.blk k=h.blk k):Lg h (h1.note ks):=by
 refine⟨?_,fun k hk=>by rw[H.au];exact hs k hk,?_,?_,?_⟩
 ·intro k xs ty r p hd;rw[H.au] at hd;rw[H.ai];exact hw k xs ty r p hd
 ·rw[H.ai];exact hn
 ·rw[<- hm];unfold H.note;split<;>rfl
 ·cases hk:h1.mark with
  | zero=>
   refine⟨[],?_,by simp,fun k hk' => ?_⟩
   ·unfold H.note;rw[hk];exact hl
   ·rw[<- hm,hk] at hk'; omega
  | succ m=>
   refine⟨ks.filter (fun k=>Nat.ble k m),?_,?_,?_⟩
   ·unfold H.note;rw[hk];simp only[hl]
   ·intro k hk';simp only[O5,Z0] at hk';rw[<- hm,hk];omega
   ·intro k hk' hn';rw[H.bc];apply hb k hk';intro hin;apply hn';simp only[O5,Z0];exact⟨hin,by rw[<- hm,hk] at hk'; omega⟩
theorem Lg.ew {h h1:H} (hw:h1.Wf) (hs:∀ k,k<h.next->shapeOf (h1.dyn.get k)=shapeOf (h.dyn.get k)) (hn:h.next<=h1.next) (hm:h1.mark=h.mark) (hl:h1.log=h.log) (hb:∀ k,k<h.mark->h1.blk k=h.blk k):Lg h h1:=
 ⟨hw,hs,hn,hm,[],by simpa using hl,by simp,fun k hk _=>hb k hk⟩
theorem Ar {h h1:H} {k:Nat} (hd:h1.dyn.get k=h.dyn.get k) (hc:∀ xs ty r p,h.dyn.get k=some (.cells xs ty (some (r,p)))->(k∈h1.chain r↔k∈h.chain r)):h1.blk k=h.blk k:=by
 unfold H.blk;rw[hd];cases hg:h.dyn.get k with
 | none=>rfl
 | some B=>
  cases B with
  | cells xs ty root=>
   cases root with
   | none=>rfl
   | some rp=>
    obtain⟨r,p⟩:=rp;have:=hc xs ty r p hg;simp only;by_cases hm:k∈h.chain r
    ·have h1:=this.2 hm;simp[hm,h1]
    ·have h1:k ∉ h1.chain r:=fun h=>hm (this.1 h);simp[hm,h1]
  | _=>rfl
section
variable {D:Tab} {E:Env} {h h':H}
theorem Lg.new (o:h.Ok) (B:Blk) (hB:B.plain=true):Lg h (h.new B):=by
 refine .ew ?_ (fun k hk=>by simp only[H.new];rw[T.get_set_ne _ _ _ _ (by omega)]) (U1 _) rfl rfl ?_
 ·intro k xs ty r p hd;simp only[H.new,T.get_set] at hd ⊢;split at hd
  ·cases hd;simp[Blk.plain] at hB
  ·have:=o.1 _ _ _ _ _ hd;omega
 ·intro k hk;have:=o.2;exact Ar (by simp only[H.new];rw[T.get_set_ne _ _ _ _ (by omega)]) (fun _ _ _ _ _=>Iff.rfl)
theorem Lg.cu (o:h.Ok) (ys:List Value) (ty:TypeId) (r p:Nat) (l ks:List Nat) (hr:r<=h.next) (hl:∀ k,k ∉ ks->r≠h.next->(k∈l↔k∈h.chain r)):Lg h ((h.join ys ty r p l).note ks):=by
 refine .bj ks ?_ (fun k hk=>by simp only[H.join];rw[T.get_set_ne _ _ _ _ (by omega)]) (U1 _) rfl rfl ?_
 ·intro k xs u r' p' hd;simp only[H.join,T.get_set] at hd ⊢;split at hd
  ·cases hd;omega
  ·have:=o.1 _ _ _ _ _ hd;omega
 ·intro k hk hn;have:=o.2;refine Ar (by simp only[H.join];rw[T.get_set_ne _ _ _ _ (by omega)]) (fun xs u r' p' hd => ?_);have hlt:=o.1 _ _ _ _ _ hd;simp only[H.join,H.chain,T.get_set];split
  ·next e=>
   subst e;simp only[H5,O1];have:=hl k hn (by omega);simp only[H.chain] at this;rw[<- this];constructor
   ·rintro (h|h)
    ·omega
    ·exact h
   ·exact .inr
  ·rfl
theorem Cr (h:H):h.note []=h:=by
 unfold H.note;split
 ·rfl
 ·simp
theorem Lg.join (o:h.Ok) (ys:List Value) (ty:TypeId) (r p:Nat) (l:List Nat) (hr:r<=h.next) (hl:∀ k,r≠h.next->(k∈l↔k∈h.chain r)):Lg h (h.join ys ty r p l):=by
 have:=Lg.cu o ys ty r p l [] hr (fun k _ hk=>hl k hk)
 rwa [Cr] at this
theorem Lg.af (o:h.Ok) (xs:List Value) (ty:TypeId):Lg h (h.af xs ty):=
 Lg.join o xs ty h.next 0 [] (C0 _) (fun _ hn=>absurd rfl hn)
theorem BS {r self lo hi k:Nat}:k∈h.spare r self lo hi↔k∈h.chain r/\h.ay self lo hi k=false:=by
 simp[H.spare]
theorem Fd {r self lo hi k:Nat}:k∈h.gone r self lo hi↔k∈h.chain r/\h.ay self lo hi k=true:=by
 simp[H.gone]
theorem Ls {r self lo hi k:Nat} (hk:k ∉ h.gone r self lo hi):k∈h.spare r self lo hi↔k∈h.chain r:=by
 rw[BS];rw[Fd] at hk;constructor
 ·exact fun h=>h.1
 ·intro hc;refine⟨hc,?_⟩;cases hh:h.ay self lo hi k
  ·rfl
  ·exact absurd ⟨hc,hh⟩ hk
theorem Lg.grow (o:h.Ok) {e:TypeId} {r p len self:Nat} {xs cs:List Value} (hr:r<h.next):Lg h (h.grow e r p len self xs cs):=
 Lg.cu o (xs++cs) e r p _ _ (by omega) (fun k hk _=>Ls hk)
theorem Lg.aq (o:h.Ok) (k:Nat) (B:Blk) {B0:Blk} (hb:h.blk k=some B0) (hB0:B0.cf=true) (hB':B.cf=true):Lg h (h.aq k B):=by
 have hB:=Kl hB';refine Lg.bj [k] ?_ ?_ (C0 _) rfl rfl ?_;rotate_left
 ·intro j hj;simp only[T.get_set];split
  ·next e=>subst e;rw[H.ae hb,GO hB0,GO hB']
  ·rfl
 rotate_left
 ·intro j xs ty r p hd;simp only[T.get_set] at hd ⊢;split at hd
  ·cases hd;simp[Blk.plain] at hB
  ·exact o.1 _ _ _ _ _ hd
 ·intro j hj hn;exact Ar (by simp only;rw[T.get_set_ne _ _ _ _ (by simpa using hn)]) (fun _ _ _ _ _=>Iff.rfl)
theorem Lg.put (o:h.Ok) {a:Addr} {vs:List Value} (hp:h.put a vs=some h'):Lg h h':=by
 unfold H.put at hp;split at hp
 ·cases hp;exact Lg.refl o
 ·split at hp
  ·split at hp
   ·next xs ty root hb=>
    have hbd:=H.ae hb;split at hp
    ·next hle=>
     simp only[K0,Z0] at hle;have hlen:(xs.take a.off++vs++xs.drop (a.off+vs.length)).length=xs.length:=by
      simp only[D0,C5,Y3];omega
     have hsh:∀ j,shapeOf ((h.dyn.set a.block (.cells (xs.take a.off++vs++xs.drop (a.off+vs.length)) ty root)).get j)=shapeOf (h.dyn.get j):=by
      intro j;rw[T.get_set];split
      ·next e=>subst e;rw[hbd];simp only[shapeOf,hlen]
      ·rfl
     simp only at hp;split at hp
     ·cases hp;refine Lg.bj _ ?_ (fun j _=>hsh j) (C0 _) rfl rfl ?_
      ·intro j xs ty r p hd;simp only[T.get_set] at hd ⊢;split at hd
       ·cases hd
       ·exact o.1 _ _ _ _ _ hd
      ·intro j hj hn;exact Ar (by simp only;rw[T.get_set_ne _ _ _ _ (by simpa using hn)]) (fun _ _ _ _ _=>Iff.rfl)
     ·next r p=>
      cases hp;refine Lg.bj _ ?_ (fun j _=>hsh j) (C0 _) rfl rfl ?_
      ·intro j xs ty r p hd;simp only[T.get_set] at hd ⊢;split at hd
       ·cases hd;exact o.1 _ _ _ _ _ hbd
       ·exact o.1 _ _ _ _ _ hd
      ·intro j hj hn;simp only[O1,not_or] at hn;refine Ar (by simp only;rw[T.get_set_ne _ _ _ _ hn.1]) (fun xs' u r' p' hd => ?_);rw[show ∀ (d:T Blk) (c:T (List Nat)),({ h with dyn:=d,chains:=c }:H).chain r'=(c.get r').getD [] from fun _ _=>rfl,T.get_set];split
       ·next e=>subst e;exact Ls hn.2
       ·exact Iff.rfl
    ·cases hp
   ·cases hp
  ·cases hp
theorem RH (o:h.Ok) {e:Nat} {a:Addr} {len cap:Nat} {lo hi mx:Option Value} {v:Value} (hp:asliceS e a len cap lo hi mx h=some (v,h')):Lg h h':=by
 unfold asliceS at hp
 repeat' split at hp
 all_goals first
  | (cases hp;done)
  | (cases hp;exact Lg.refl o)
  | (cases hp;exact Lg.new o _ rfl)
  | skip
 ·cases hp;refine Lg.join o _ _ _ _ _ (Y1 ?_) (fun _ _=>Iff.rfl);apply o.1;apply H.ae;assumption
 ·next r _ hb _=>
  cases hp;refine Lg.bj _ ?_ (fun k hk=>by simp only;rw[T.get_set_ne _ _ _ _ (by omega)]) (U1 _) rfl rfl ?_
  ·intro j xs ty r p hd;simp only[T.get_set] at hd ⊢;split at hd
   ·cases hd
   ·have:=o.1 _ _ _ _ _ hd;omega
  ·intro j hj hn;have:=o.2;refine Ar (by simp only;rw[T.get_set_ne _ _ _ _ (by omega)]) (fun xs' u r' p' hd => ?_);rw[show ∀ (d:T Blk) (c:T (List Nat)) (n:Nat),({ h with next:=n,dyn:=d,chains:=c }:H).chain r'=(c.get r').getD [] from fun _ _ _=>rfl,T.get_set];split
   ·next e=>subst e;simp[hn]
   ·exact Iff.rfl
theorem Ra (o:h.Ok) {t t2:TypeId} {s x:Value} {v:Value} (hp:Ab D E t t2 s x h=some (v,h')):Lg h h':=by
 unfold Ab at hp
 repeat' split at hp
 all_goals first
  | (cases hp;done)
  | (cases hp;exact Lg.refl o)
  | (cases hp;exact Lg.af o _ _)
  | (cases hp;exact Lg.put o (by assumption))
  | skip
 ·cases hp;refine Lg.grow o ?_;apply o.1;apply H.ae;assumption
theorem XP (o:h.Ok) {t:TypeId} {s x:Value} {v:Value} (hp:LY D E t s x h=some (v,h')):Lg h h':=by
 unfold LY at hp
 repeat' split at hp
 all_goals first
  | (cases hp;done)
  | (cases hp;exact Lg.refl o)
  | (cases hp;exact Lg.put o (by assumption))
theorem Uv (o:h.Ok) {t:TypeId} {x:Value} {v:Value} (hp:JK D t x h=some (v,h')):Lg h h':=by
 unfold JK at hp
 repeat' split at hp
 all_goals first
  | (cases hp;done)
  | (cases hp;exact Lg.refl o)
  | (cases hp;exact Lg.put o (by assumption))
  | (cases hp;exact Lg.aq o _ _ (by assumption) rfl rfl)
theorem RW (o:h.Ok) {t:TypeId} {m k:Value} {v:Value} (hp:F9 D t m k h=some (v,h')):Lg h h':=by
 unfold F9 at hp
 repeat' split at hp
 all_goals first
  | (cases hp;done)
  | (cases hp;exact Lg.refl o)
  | (cases hp;exact Lg.aq o _ _ (by assumption) rfl rfl)
theorem LU (o:h.Ok) {t:TypeId} {m k x:Value} {v:Value} (hp:BY D t m k x h=some (v,h')):Lg h h':=by
 unfold BY at hp
 repeat' split at hp
 all_goals first
  | (cases hp;done)
  | (cases hp;exact Lg.aq o _ _ (by assumption) rfl rfl)
theorem Un (o:h.Ok) {t:TypeId} {x:Value} {v:Value} (hp:FL D t x h=some (v,h')):Lg h h':=by
 unfold FL at hp
 repeat' split at hp
 all_goals first
  | (cases hp;done)
  | (cases hp;exact Lg.new o _ rfl)
theorem XJ (o:h.Ok) {x:Value} {b:Bool} {v:Value} (hp:LS x b h=some (v,h')):Lg h h':=by
 unfold LS at hp
 repeat' split at hp
 all_goals first
  | (cases hp;done)
  | (cases hp;exact Lg.refl o)
  | (cases hp;exact Lg.aq o _ _ (by assumption) rfl rfl)
theorem Od (o:h.Ok) {s d:TypeId} {x:Value} {v:Value} (hp:AQ D E s d x h=some (v,h')):Lg h h':=by
 unfold AQ at hp
 repeat' split at hp
 all_goals first
  | (cases hp;done)
  | (cases hp;exact Lg.refl o)
  | (cases hp;exact Lg.af o _ _)
theorem Jc (o:h.Ok) {t:TypeId} {n:Nat} {ps:List (Nat×Value)} {v:Value} (hp:AH D t n ps h=some (v,h')):Lg h h':=by
 unfold AH at hp
 repeat' split at hp
 all_goals first
  | (cases hp;done)
  | (cases hp;exact Lg.new o _ rfl)
theorem LV (o:h.Ok) {t:TypeId} {l c:Value} {v:Value} (hp:Bj D t l c h=some (v,h')):Lg h h':=by
 unfold Bj at hp
 repeat' split at hp
 all_goals first
  | (cases hp;done)
  | (cases hp;exact Lg.new o _ rfl)
theorem Uk (o:h.Ok) {t:TypeId} {x:Value} {lo hi mx:Option Value} {v:Value} (hp:Av D t x lo hi mx h=some (v,h')):Lg h h':=by
 unfold Av at hp
 repeat' split at hp
 all_goals first
  | (cases hp;done)
  | (cases hp;exact Lg.refl o)
  | exact RH o hp
theorem Ui (o:h.Ok) {t:TypeId} {a:Addr} {v:Value} (hp:AO D t a v h=some h'):Lg h h':=by
 unfold AO at hp
 repeat' split at hp
 all_goals first
  | (cases hp;done)
  | exact Lg.put o hp
theorem OU (o:h.Ok) {pt:TypeId} {p n v:Value} (hp:Ct D E pt p n h=some (v,h')):Lg h h':=by
 unfold Ct at hp
 repeat' split at hp
 all_goals first
  | (cases hp;done)
  | (cases hp;exact Lg.refl o)
  | skip
 cases hp;refine Lg.bj _ o.1 (fun _ _=>rfl) (C0 _) rfl rfl ?_;intro j hj hn;refine Ar rfl (fun xs' u r' p' hd => ?_);rw[show ∀ (c:T (List Nat)),({ h with chains:=c }:H).chain r'=(c.get r').getD [] from fun _=>rfl,T.get_set];split
 ·next e=>subst e;simp[hn]
 ·exact Iff.rfl
theorem Oh (o:h.Ok) {b:Builtin} {ts:List TypeId} {args:List Value} {v:Value} (hp:Af D E b ts args h=some (v,h')):Lg h h':=by
 unfold Af at hp;split at hp
 case h_3=>exact Ra o hp
 case h_4=>exact XP o hp
 case h_5=>exact Uv o hp
 case h_6=>exact RW o hp
 case h_10=>exact OU o hp
 all_goals (repeat' split at hp)
 all_goals first
  | (cases hp;done)
  | (cases hp;exact Lg.refl o)
theorem Zf (o:h.Ok) {x:Option Value} {v:Value} (hp:pair h x=some (v,h')):Lg h h':=by
 unfold pair at hp;split at hp
 ·cases hp;exact Lg.refl o
 ·cases hp
theorem ACK (o:h.Ok) {A:Ac} {op:Op} {v:Value} (hp:aop D E A op h=some (v,h')):Lg h h':=by
 cases op<;>simp only[aop] at hp
 all_goals (repeat' split at hp)
 all_goals first
  | (cases hp;done)
  | exact Zf o hp
  | exact Uk o hp
  | exact Oh o hp
  | exact Od o hp
  | exact Jc o hp
  | exact LV o hp
  | exact LU o hp
  | exact Un o hp
  | exact XJ o hp
  | (cases hp;exact Ui o (by assumption))
  | (cases hp;exact Lg.refl o)
  | (cases hp;exact Lg.new o _ rfl)
structure Rh (v:Ev):Prop where
 call:∀ {f args h r h'},v.call f args h=some (r,h')->h.Ok->Lg h h'
 round:∀ {l args h r h'},v.round l args h=some (r,h')->h.Ok->Lg h h'
 code:∀ {F c A h ex A' h'},v.code F c A h=some (ex,A',h')->h.Ok->Lg h h'
theorem QD (o:h.Ok) {ev:Ev} (hv:Rh ev) {f:Value} {args:List Value} {r:Value} (hp:Dm ev f args h=some (r,h')):Lg h h':=by
 unfold Dm at hp;split at hp
 ·exact hv.call hp o
 ·exact hv.round hp o
 ·cases hp
theorem Hp (o:h.Ok) {ev:Ev} (hv:Rh ev) {A:Ac} {op:Oper} {r:Value} (hp:BC D E ev A op h=some (r,h')):Lg h h':=by
 unfold BC at hp;split at hp
 ·simp only[bind,N5] at hp;obtain⟨_,_,_,_,hc⟩:=hp;exact QD o hv hc
 ·exact ACK o hp
theorem SP {ev:Ev} (hv:Rh ev) {ops:Array Oper}:∀ {l:List Oper} {A:Ac} {h:H} {A':Ac} {h':H},BP D E ev ops l A h=some (A',h')->h.Ok->Lg h h':=by
 intro l;induction l with
 | nil=>intro A h A' h' hp o;simp only[BP] at hp;cases hp;exact Lg.refl o
 | cons x l ih=>
  intro A h A' h' hp o;simp only[BP] at hp;split at hp
  ·split at hp
   ·next ho=>
    have g:=Hp o hv ho;exact g.trans (ih hp (g.ok o))
   ·cases hp
  ·exact ih hp o
theorem Ig (o:h.Wf) (m:Nat) (hm:m<=h.next) (l:List Nat):({ h with mark:=m,log:=l }:H).Ok:=⟨o,hm⟩
theorem ZB (o:h.Ok) {g:H} (hg:Lg { h with mark:=h.next,log:=[] } g):Lg h ({ g with mark:=h.mark,log:=h.log }.note g.log):=by
 obtain⟨L,h1,h2,h3⟩:=hg.log;have hL:g.log=L:=by rw[h1];simp
 refine Lg.bj _ hg.wf hg.shape hg.next rfl rfl ?_;intro k hk hn;rw[hL] at hn;exact h3 k (Q1 hk o.2) hn
theorem Qa {ev:Ev} (hv:Rh ev) {ops:Array Oper}:∀ {l:List Oper} {j:Nat} {A:Ac} {h:H} {A':Ac} {h':H} {ts:List Tch},BA D E ev ops j l A h=some (A',h',ts)->h.Ok->Lg h h':=by
 intro l;induction l with
 | nil=>intro j A h A' h' ts hp o;simp only[BA] at hp;cases hp;exact Lg.refl o
 | cons x l ih=>
  intro j A h A' h' ts hp o;simp only[BA] at hp;split at hp
  ·split at hp
   ·next ho=>
    split at hp
    ·split at hp
     ·next hr=>
      cases hp;have g:=ZB o (Hp (Ig o.1 h.next (C0 _) []) hv ho);exact g.trans (ih hr (g.ok o))
     ·cases hp
    ·cases hp
   ·cases hp
  ·split at hp
   ·next hr=>cases hp;exact ih hr o
   ·cases hp
theorem Ji:∀ {ds:List Nat} {h h':H},Ay ds h=some h'->h.Ok->Lg h h':=by
 intro ds;induction ds with
 | nil=>intro h h' hp o;simp only[Ay] at hp;cases hp;exact Lg.refl o
 | cons d ds ih=>
  intro h h' hp o;simp only[Ay] at hp;split at hp
  ·have g:=Lg.aq o d (.defd true) (by assumption) rfl rfl;exact g.trans (ih hp (g.ok o))
  ·cases hp
theorem Lv {ev:Ev} (hv:Rh ev) {ops:Array Oper} {draw:Bool} {A:Ac} {A':Ac} (hp:runRegion D E ev ops draw A h=some (A',h')) (o:h.Ok):Lg h h':=by
 unfold runRegion at hp;split at hp
 ·exact SP hv hp o
 ·split at hp
  ·cases hp
  ·split at hp
   ·next hr=>
    split at hp
    ·cases hp;exact Qa hv hr o
    ·cases hp
   ·cases hp
theorem Rh.step {I:Aa} (hI:∀ f args h r h',I f args h=some (some (r,h'))->h.Ok->Lg h h') {ev:Ev} (hv:Rh ev):Rh (Dq D E I ev) where
 call:=by
  intro f args h r h' hp o;simp only[Dq,Dh] at hp;split at hp
  ·next hI'=>subst hp;exact hI _ _ _ _ _ hI' o
  ·split at hp
   ·cases hp
   ·split at hp
    ·cases hp
    ·split at hp
     ·next hc=>
      split at hp
      ·next ht=>
       simp only[I2] at hp;obtain⟨_,_,he⟩:=hp;cases he;have g:=hv.code hc o;exact g.trans (Ji ht (g.ok o))
      ·cases hp
     ·next hc=>
      split at hp
      ·next ht=>
       simp only[I2] at hp;obtain⟨_,_,he⟩:=hp;cases he;have g:=hv.code hc o;exact g.trans (Ji ht (g.ok o))
      ·cases hp
     ·cases hp
 round:=by
  intro l args h r h' hp o;simp only[Dq,EB] at hp;split at hp
  ·split at hp
   ·cases hp
   ·split at hp
    ·next hc1=>
     split at hp
     ·split at hp
      ·split at hp
       ·cases hp
       ·next hc2=>
        have g1:=hv.code hc1 o;have g3:=hv.code hc2 ((Lg.aq (g1.ok o) l (.loop _) (by assumption) rfl rfl).ok (g1.ok o));have g2:=(g1.trans (Lg.aq (g1.ok o) l (.loop _) (by assumption) rfl rfl)).trans g3;split at hp
        ·split at hp<;>first
          | (cases hp;done)
          | (cases hp;exact g2.trans (Lg.aq (g2.ok o) l _ (by assumption) rfl rfl))
        ·cases hp
      ·cases hp
     ·cases hp
    ·cases hp
  ·cases hp
 code:=by
  intro F c A h ex A' h' hp o;simp only[Dq] at hp;unfold Ae at hp;split at hp
  ·cases hp;exact Lg.refl o
  ·simp only[I2] at hp;obtain⟨⟨A1,h1⟩,hr,he⟩:=hp;cases he;exact Lv hv hr o
  ·split at hp
   ·next h1=>
    have g:=hv.code h1 o;exact g.trans (hv.code hp (g.ok o))
   ·exact hv.code hp o
  ·split at hp
   ·exact hv.code hp o
   ·exact hv.code hp o
   ·cases hp
  ·split at hp
   ·next h1=>split at hp<;>(cases hp;exact hv.code h1 o)
   ·cases hp
   ·exact hv.code hp o
  ·split at hp
   ·next h1=>
    have g:=hv.code h1 o;exact g.trans (hv.code hp (g.ok o))
   ·cases hp
   ·exact hv.code hp o
  ·split at hp
   ·cases hp
   ·exact hv.code hp o
  ·cases hp;exact Lg.refl o
  ·cases hp;exact Lg.refl o
  ·cases hp;exact Lg.refl o
  ·cases hp
  ·cases hp
  ·split at hp
   ·cases hp
   ·next fv hf=>
    simp only at hp;split at hp
    ·cases hp
    ·next A1 h1 d hs=>
     have hs1:Lg h h1:=by
      split at hs
      ·cases hs;exact Lg.new o _ rfl
      ·split at hs
       ·cases hs;exact Lg.refl o
       ·cases hs
     split at hp
     ·cases hp
     ·next h2 hc=>
      have hs3:=QD ((Lg.new (hs1.ok o) (.loop _) rfl).ok (hs1.ok o)) hv hc;have hs2:=(hs1.trans (Lg.new (hs1.ok o) (.loop _) rfl)).trans hs3;split at hp
      ·split at hp
       ·cases hp
       ·split at hp
        ·cases hp;exact hs2.trans (Lg.aq (hs2.ok o) _ _ (by assumption) rfl rfl)
        ·have g3:=hv.code hp ((Lg.aq (hs2.ok o) _ (.loop _) (by assumption) rfl rfl).ok (hs2.ok o));exact (hs2.trans (Lg.aq (hs2.ok o) _ (.loop _) (by assumption) rfl rfl)).trans g3
      ·cases hp
theorem UJ {I:Aa} (hI:∀ f args h r h',I f args h=some (some (r,h'))->h.Ok->Lg h h'):∀ n,Rh (ev D E I n)
 | 0=>⟨fun h=>(by cases h),fun h=>(by cases h),fun h=>(by cases h)⟩
 | n+1=>Rh.step hI (UJ hI n)
end
/-! ## What two ties agree upon -/
section both
variable {φ ψ χ:Ph}
theorem okA.both (H:∀ k x,ψ k=some x->χ k=φ k) {a:Addr} (h1:okA φ a) (h2:okA ψ a):okA χ a/\renA χ a=renA φ a/\extA χ a=extA φ a:=by
 rcases h1 with h1|⟨h1,k1⟩|⟨s,h1⟩
 ·exact⟨.inl h1,by simp[renA,h1],by simp[extA,h1]⟩
 ·rcases h2 with h2|⟨_,k2⟩|⟨_,h2⟩
  ·rw[h1] at h2;cases h2
  ·obtain⟨x,hx⟩:=J1.1 k2;have e:=H _ _ hx;exact⟨.inr (.inl ⟨h1,by rw[e];exact k1⟩),by simp[renA,h1,e],by simp[extA,h1,e]⟩
  ·rw[h1] at h2;cases h2
 ·exact⟨.inr (.inr ⟨s,h1⟩),by simp[renA,h1],by simp[extA,h1]⟩
theorem okF.both (H:∀ k x,ψ k=some x->χ k=φ k) {f:Fn} (h1:okF φ f) (h2:okF ψ f):okF χ f/\renF χ f=renF φ f:=by
 cases f with
 | yield l=>
  obtain⟨x,hx⟩:=J1.1 (show (ψ l).isSome=true from h2);have e:=H _ _ hx;exact⟨by simp only[okF,e];exact h1,by simp[renF,renN,e]⟩
 | _=>exact⟨trivial,rfl⟩
mutual
theorem okV.both (H:∀ k x,ψ k=some x->χ k=φ k):∀ {v:Value},okV φ v->okV ψ v->okV χ v/\ren χ v=ren φ v
 | .pointer (some a),h1,h2=>by
  have:=okA.both H (show okA φ a from h1) (show okA ψ a from h2);exact⟨this.1,by simp only[ren,this.2.1]⟩
 | .slice (some a) n c,h1,h2=>by
  have:=okA.both H (show okA φ a from h1) (show okA ψ a from h2);exact⟨this.1,by simp only[ren,this.2.1,this.2.2]⟩
 | .map (some r),h1,h2=>by
  obtain⟨x,hx⟩:=J1.1 (show (ψ r).isSome=true from h2);have e:=H _ _ hx;exact⟨by simp only[okV,e];exact h1,by simp[ren,renN,e]⟩
 | .func f ⟨xs⟩ ⟨ys⟩,h1,h2=>by
  obtain⟨a1,b1,c1⟩:=(show okF φ f/\okL φ xs/\okL φ ys from h1);obtain⟨a2,b2,c2⟩:=(show okF ψ f/\okL ψ xs/\okL ψ ys from h2);have a:=okF.both H a1 a2;have b:=okL.both H b1 b2;have c:=okL.both H c1 c2;exact⟨⟨a.1,b.1,c.1⟩,by simp only[ren,a.2,b.2,c.2]⟩
 | .agg ⟨xs⟩,h1,h2=>by
  have a:=okL.both H (show okL φ xs from h1) (show okL ψ xs from h2);exact⟨a.1,by simp only[ren,a.2]⟩
 | .tuple ⟨xs⟩,h1,h2=>by
  have a:=okL.both H (show okL φ xs from h1) (show okL ψ xs from h2);exact⟨a.1,by simp only[ren,a.2]⟩
 | .iface t v,h1,h2=>by
  have a:=okV.both H (show okV φ v from h1) (show okV ψ v from h2);exact⟨a.1,by simp only[ren,a.2]⟩
 | .pointer none,_,_=>⟨trivial,rfl⟩
 | .slice none _ _,_,_=>⟨trivial,rfl⟩
 | .map none,_,_=>⟨trivial,rfl⟩
 | .bool _,_,_=>⟨trivial,rfl⟩
 | .int _ _,_,_=>⟨trivial,rfl⟩
 | .float _ _,_,_=>⟨trivial,rfl⟩
 | .complex _ _ _,_,_=>⟨trivial,rfl⟩
 | .string _,_,_=>⟨trivial,rfl⟩
 | .chan _,_,_=>⟨trivial,rfl⟩
 | .nilFunc,_,_=>⟨trivial,rfl⟩
 | .nilIface,_,_=>⟨trivial,rfl⟩
theorem okL.both (H:∀ k x,ψ k=some x->χ k=φ k):∀ {l:List Value},okL φ l->okL ψ l->okL χ l/\renL χ l=renL φ l
 | [],_,_=>⟨trivial,rfl⟩
 | v::l,h1,h2=>by
  have a:=okV.both H h1.1 h2.1;have b:=okL.both H h1.2 h2.2;exact⟨⟨a.1,b.1⟩,by simp only[renL,a.2,b.2]⟩
end
theorem CV.both {D:Tab} {w w2:World} {c b e c2 b2 e2:Nat} {B:Blk} (H:∀ k x,ψ k=some x->χ k=φ k) (h1:CV D φ w c b e B) (h2:CV D ψ w2 c2 b2 e2 B):CV D χ w c b e B:=by
 cases B with
 | cells xs ty root=>
  rcases h1 with h1|⟨cs,u,fz,L⟩
  ·exact .inl h1
  ·refine .inr ⟨cs,u,fz,L.block,L.opn,fun i x hx => ?_,L.room,L.whole⟩;obtain⟨y,hy,ht⟩:=L.cell i x hx;refine⟨y,hy,fun h1 => ?_⟩;obtain⟨ok,rfl⟩:=ht h1;rcases h2 with⟨rfl,_⟩|⟨cs2,u2,fz2,L2⟩
   ·simp at hx
   ·obtain⟨y2,hy2,ht2⟩:=L2.cell i x hx;have:=okV.both H ok (ht2 h1).1;exact⟨this.1,this.2.symm⟩
 | map es cl=>
  obtain⟨g1,g2⟩:=h1;obtain⟨_,g3⟩:=h2;have key:∀ x∈es,renE χ x=renE φ x:=fun x hx=>by
   simp only[renE,(okV.both H (g2 x hx).1 (g3 x hx).1).2,(okV.both H (g2 x hx).2 (g3 x hx).2).2]
  exact⟨by rw[g1,List.map_congr_left key],fun x hx=>⟨(okV.both H (g2 x hx).1 (g3 x hx).1).1,(okV.both H (g2 x hx).2 (g3 x hx).2).1⟩⟩
 | siter s p=>exact h1
 | defd t=>cases t with
  | false=>exact h1
  | true=>exact h1
 | loop r=>
  obtain⟨l,g1,g2⟩:=h1;obtain⟨l2,_,g3⟩:=h2;refine⟨l,g1,g2.state,g2.pending,g2.fn,g2.size,fun t => ?_,g2.params,g2.assign,g2.body,?_⟩
  ·obtain⟨ok,he⟩:=g2.tmps t;have:=okV.both H ok (g3.tmps t).1;exact⟨this.1,by rw[he,this.2]⟩
  ·obtain⟨x,hx,hd⟩:=g2.defers;obtain⟨x2,hx2,_⟩:=g3.defers;exact⟨x,by rw[H _ _ hx2];exact hx,hd⟩
end both
def cut (φ:Ph) (n:Nat):Ph:=fun k=>if k<n then φ k else none
theorem Mp {φ:Ph} {n k:Nat} (h:k<n):cut φ n k=φ k:=if_pos h
theorem CQ {φ:Ph} {n k:Nat} {x:Nat×Nat×Nat} (h:cut φ n k=some x):k<n/\φ k=some x:=by
 unfold cut at h;split at h
 ·exact⟨by assumption,h⟩
 ·cases h
theorem Ym (φ:Ph) (n:Nat):Le (cut φ n) φ:=fun _ _ h=>(CQ h).2
section
variable {D:Tab} {E:Env} {n0:Nat} {φ ψ:Ph} {h g:H} {w w2:World}
theorem BW {h:H} {k:Nat} {xs:List Value} {ty:TypeId} (hd:h.dyn.get k=some (.cells xs ty none)):h.blk k=some (.cells xs ty none):=by
 unfold H.blk;rw[hd]
theorem Tie.fc (R:Tie D E n0 All φ h w) (S:Tie D E n0 All ψ g w2) (hd:∀ k,k<g.next->(φ k).isSome=true->(ψ k).isSome=true)
  (hb:∀ k B,k<g.next->(φ k).isSome=true->g.blk k=some B->h.blk k=some B):Tie D E n0 All (cut φ g.next) g w:=by
 have HH:∀ k x,ψ k=some x->cut φ g.next k=φ k:=fun k x hk=>by
  obtain⟨c,b,e⟩:=x;exact Mp (S.dom _ _ _ _ hk).1
 refine⟨R.ro,R.size,?_,?_,?_,?_,S.fresh,S.root⟩
 ·intro k c b e hk;obtain⟨h1,h2⟩:=CQ hk;obtain⟨_,h3,h4⟩:=R.dom _ _ _ _ h2;exact⟨h1,h3,h4⟩
 ·intro k B c b e _ hB hk;obtain⟨h1,h2⟩:=CQ hk;have h3:=R.blk k B c b e trivial (hb k B h1 (by rw[h2];rfl) hB) h2;obtain⟨⟨c2,b2,e2⟩,h4⟩:=J1.1 (hd k h1 (by rw[h2];rfl));exact h3.both HH (S.blk k B c2 b2 e2 trivial hB h4)
 ·intro j k B B' c b e b' e' hjk hB hB' n1 n2 hj hk;obtain⟨h1,h2⟩:=CQ hj;obtain⟨h3,h4⟩:=CQ hk;exact R.apart j k B B' c b e b' e' hjk (hb j B h1 (by rw[h2];rfl) hB) (hb k B' h3 (by rw[h4];rfl) hB') n1 n2 h2 h4
 ·intro k xs ty c b e hdk hk;obtain⟨h1,h2⟩:=CQ hk;have:=hb k _ h1 (by rw[h2];rfl) (BW hdk);exact R.exact k xs ty c b e (H.ae this) h2
def MZ (g h:H) (n:Nat):H:=
 { next:=h.next,dyn:=T.ofOpts ((List.range h.next).map fun k=>if k<n then g.dyn.get k else h.dyn.get k) 0 .nil,chains:=T.ofOpts ((List.range h.next).map fun k=>if k<n then g.chains.get k else h.chains.get k) 0 .nil,mark:=0,log:=[] }
def JW (φ ψ:Ph) (n:Nat):Ph:=fun k=>if k<n then φ k else ψ k
theorem Ha {α:Type} (f:Nat->Option α) (n k:Nat):(T.ofOpts ((List.range n).map f) 0 .nil).get k=if k<n then f k else none:=by
 rw[T.get_ofOpts _ _ _ _ (fun k _=>T.get_nil k),if_pos (C2 _),Nat.sub_zero,J3];by_cases hk:k<n
 ·rw[List.getElem?_range hk,if_pos hk];simp
 ·rw[if_neg hk,C7 (by simpa using hk)];rfl
theorem Pr {g h:H} {n k:Nat} (hg:∀ k,g.next<=k->g.dyn.get k=none) (hh:∀ k,h.next<=k->h.dyn.get k=none) (hn:g.next=n) (hle:n<=h.next):(MZ g h n).dyn.get k=if k<n then g.dyn.get k else h.dyn.get k:=by
 show (T.ofOpts _ _ _).get k=_;rw[Ha];by_cases hk:k<h.next
 ·rw[if_pos hk]
 ·rw[if_neg hk,if_neg (by omega),hh k (by omega)]
theorem J8 {g h:H} {n r:Nat} (hr:r<h.next):(MZ g h n).chain r=if r<n then g.chain r else h.chain r:=by
 show ((T.ofOpts _ _ _).get r).getD []=_;rw[Ha,if_pos hr]
 split<;>rfl
theorem P7 {h h1:H} {k:Nat} (hd:h1.dyn.get k=h.dyn.get k) (hc:∀ xs ty r p,h.dyn.get k=some (.cells xs ty (some (r,p)))->h1.chain r=h.chain r):h1.blk k=h.blk k:=
 Ar hd (fun xs ty r p hq=>by rw[hc xs ty r p hq])
theorem Tie.glue {w':World} {φ':Ph} {n:Nat} (R:Tie D E n0 All φ h w) (S:Tie D E n0 All φ' g w') (hle:g.next<=h.next) (hnn:n<=g.next) (hlow:∀ k,k<n->φ' k=φ k) (hmid:∀ k,n<=k->k<g.next->φ k=none)
  (hK:Kept (cut φ n) w w') (hX:∀ k c b e,φ' k=some (c,b,e)->w.heap.size<=c\/∃ j b' e',cut φ n j=some (c,b',e'))
  (hsep:∀ k c b e,n<=k->φ k=some (c,b,e)->∀ k' b' e',k'≠k->φ k'≠some (c,b',e'))
  (hroot:∀ k xs ty r p,g.next<=k->h.dyn.get k=some (.cells xs ty (some (r,p)))->g.next<=r) :
  Tie D E n0 All (JW φ' φ g.next) (MZ g h g.next) w'/\(∀ k,(MZ g h g.next).blk k=if k<g.next then g.blk k else h.blk k)/\Le φ (JW φ' φ g.next):=by
 have hdyn:∀ k,(MZ g h g.next).dyn.get k=if k<g.next then g.dyn.get k else h.dyn.get k:=fun k=>Pr S.fresh R.fresh rfl hle
 have hblk:∀ k,(MZ g h g.next).blk k=if k<g.next then g.blk k else h.blk k:=by
  intro k;by_cases hk:k<g.next
  ·rw[if_pos hk];refine P7 (by rw[hdyn,if_pos hk]) (fun xs ty r p hq => ?_);have:=S.root _ _ _ _ _ hq;rw[J8 (by omega),if_pos this]
  ·rw[if_neg hk];refine P7 (by rw[hdyn,if_neg hk]) (fun xs ty r p hq => ?_);have h1:=R.root _ _ _ _ _ hq;have h2:=hroot k xs ty r p (by omega) hq;rw[J8 h1,if_neg (by omega)]
 have hLe:Le φ (JW φ' φ g.next):=by
  intro k x hk;show (if k<g.next then φ' k else φ k)=some x;split
  ·next hlt=>
   rcases P1 k n with hkn|hkn
   ·rw[hlow k hkn];exact hk
   ·rw[hmid k hkn hlt] at hk;cases hk
  ·exact hk
 have hLe':Le φ' (JW φ' φ g.next):=by
  intro k x hk;obtain⟨c,b,e⟩:=x;show (if k<g.next then φ' k else φ k)=_;rw[if_pos (S.dom _ _ _ _ hk).1];exact hk
 have hcase:∀ k c b e,JW φ' φ g.next k=some (c,b,e)->(k<g.next/\φ' k=some (c,b,e))\/(g.next<=k/\φ k=some (c,b,e)):=by
  intro k c b e hk;simp only[JW] at hk;split at hk
  ·exact .inl ⟨by assumption,hk⟩
  ·exact .inr ⟨by omega,hk⟩
 have hfar:∀ k c b e,g.next<=k->φ k=some (c,b,e)->∀ j b' e',φ' j≠some (c,b',e'):=by
  intro k c b e hk hφ j b' e' hj;have hc:=(R.dom _ _ _ _ hφ).2.2;rcases hX _ _ _ _ hj with h1|⟨i,b2,e2,hi⟩
  ·omega
  ·obtain⟨h2,h3⟩:=CQ hi;exact hsep k c b e (by omega) hφ i b2 e2 (by omega) h3
 refine⟨⟨S.ro,S.size,?_,?_,?_,?_,?_,?_⟩,hblk,hLe⟩
 ·intro k c b e hk;rcases hcase _ _ _ _ hk with⟨h1,h2⟩|⟨h1,h2⟩
  ·obtain⟨a1,a2,a3⟩:=S.dom _ _ _ _ h2;exact⟨Q1 a1 hle,a2,a3⟩
  ·obtain⟨a1,a2,a3⟩:=R.dom _ _ _ _ h2;exact⟨a1,a2,Q1 a3 hK.size⟩
 ·intro k B c b e _ hB hk;rw[hblk] at hB;rcases hcase _ _ _ _ hk with⟨h1,h2⟩|⟨h1,h2⟩
  ·rw[if_pos h1] at hB;exact (S.blk k B c b e trivial hB h2).le hLe' rfl
  ·rw[if_neg (by omega)] at hB;refine (R.blk k B c b e trivial hB h2).le hLe (hK.block c (R.dom _ _ _ _ h2).2.2 ?_);intro j b' e' hj;obtain⟨h3,h4⟩:=CQ hj;exact hsep k c b e (by omega) h2 j b' e' (by omega) h4
 ·intro j k B B' c b e b' e' hjk hB hB' n1 n2 hj hk;rw[hblk] at hB hB';rcases hcase _ _ _ _ hj with⟨h1,h2⟩|⟨h1,h2⟩
  ·rw[if_pos h1] at hB;rcases hcase _ _ _ _ hk with⟨h3,h4⟩|⟨h3,h4⟩
   ·rw[if_pos h3] at hB';exact S.apart j k B B' c b e b' e' hjk hB hB' n1 n2 h2 h4
   ·exact absurd h2 (hfar k c b' e' h3 h4 j b e)
  ·rcases hcase _ _ _ _ hk with⟨h3,h4⟩|⟨h3,h4⟩
   ·exact absurd h4 (hfar j c b e h1 h2 k b' e')
   ·exact absurd h4 (hsep j c b e (by omega) h2 k b' e' (fun ee=>hjk ee.symm))
 ·intro k xs ty c b e hdk hk;rw[hdyn] at hdk;rcases hcase _ _ _ _ hk with⟨h1,h2⟩|⟨h1,h2⟩
  ·rw[if_pos h1] at hdk;exact S.exact k xs ty c b e hdk h2
  ·rw[if_neg (by omega)] at hdk;exact R.exact k xs ty c b e hdk h2
 ·intro k hk;have hk:h.next<=k:=hk;rw[hdyn,if_neg (by omega)];exact R.fresh k hk
 ·intro k xs ty r p hd;show r<h.next;rw[hdyn] at hd;split at hd
  ·have:=S.root _ _ _ _ _ hd;omega
  ·exact R.root _ _ _ _ _ hd
end
end Go.Hs
