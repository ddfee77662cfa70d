/- What the evaluator reckons, as a statement on calls; closed calls as known functions; more fuel. -/
import Derived.Test.YtofijpbmbmbnhaaGreatDoorHsad
import Derived.Lib.Bytealg
import Derived.Laws.Externs
set_option linter.unusedSimpArgs false
set_option linter.unusedVariables false
namespace Go.Hs
section
variable {P:Program} {D:Tab} {E:Env} {n0:Nat} {φ:Ph} {h h':H} {w:World}
theorem Mm (TT:D.Of P) {I:Aa} {ev:Ev} (hv:NX P D E n0 ev) {f:FuncId} {args:List Value} {r:Value} (hI:I f args h=none) (hc:Dh D E I ev f args h=some (r,h')) (R:Tie D E n0 All φ h w) (hok:∀ x∈args,okV φ x) :
  Calls P f (args.map (ren φ)).toArray w fun e w'=>∃ φ',e=.returned (ren φ' r)/\okV φ' r/\Tie D E n0 All φ' h' w'/\Ext φ φ' h.next h'.next w/\Kept φ w w':=by
 intro cs;unfold Dh at hc;rw[hI] at hc;simp only at hc;split at hc
 ·cases hc
 ·next fn hfn=>
  have hf:=TT.fn _ _ hfn;split at hc
  ·cases hc
  ·next body hbody=>
   have hent:=Mh (φ:=φ) P f fn hf body hbody args;have hFT:XX φ ⟨f,none⟩ (Frame.enter P f (args.map (ren φ)).toArray .normal):=⟨rfl,rfl,rfl⟩;have hAT:=Mg fn hok;have fin:∀ A1 h1 ex,(ex=.normal\/ex=.ret)->ev.code ⟨f,none⟩ body ⟨T.ofList args 0 .nil,max args.length fn.ntmps,[]⟩ h=some (ex,A1,h1)->
     (match Ay A1.defers h1 with
      | some h=>(ED D E fn A1 h).map fun r=>(r,h)
      | none=>none)=some (r,h')->
     ∃ e w' fr,(∃ φ',e=.returned (ren φ' r)/\okV φ' r/\Tie D E n0 All φ' h' w'/\Ext φ φ' h.next h'.next w/\Kept φ w w')/\Comes P (lone (Frame.enter P f (args.map (ren φ)).toArray .normal) cs w) (lone fr cs w') e/\fr.fn=f/\fr.leaving P w' e:=by
    intro A1 h1 ex hex hcode hres;obtain⟨φ1,w1,a1,r1,e1⟩:=hv.code _ _ _ _ _ _ _ hcode φ w (Frame.enter P f (args.map (ren φ)).toArray .normal) _ [] cs R hAT .nil hFT;rw[<- hent] at e1;split at hres
    ·next h2 ht=>
     simp only[I2] at hres;obtain⟨r',hr',he⟩:=hres;cases he;have hret:∃ k,Steps P (lone (Frame.enter P f (args.map (ren φ)).toArray .normal) cs w) (lone (rput (Frame.enter P f (args.map (ren φ)).toArray .normal) a1 k a1.defers) cs w1):=by
      rcases hex with rfl|rfl
      ·exact⟨[],Steps.trans e1 (.one (AB4 rfl))⟩
      ·obtain⟨k0,e2⟩:=e1;exact⟨_,e2.trans (.one (AB2 rfl))⟩
     obtain⟨k,hret⟩:=hret;obtain⟨w2,q1,q2,q3⟩:=IM (P:=P) a1 (Frame.enter P f (args.map (ren φ)).toArray .normal) k cs r1.defers ht r1.tie;obtain⟨p1,p2⟩:=P9 TT q1 r1.act hr';exact⟨.returned (ren φ1 r),w2,rput (Frame.enter P f (args.map (ren φ)).toArray .normal) a1 k [],⟨φ1,rfl,p2,q1,r1.ext.of_next (Dp ht),r1.kept.trans q2 r1.ext⟩,hret.trans q3,rfl,rfl,rfl,rfl,fn,hf,p1⟩
    ·cases hres
   split at hc
   ·next hcode=>exact fin _ _ _ (.inl rfl) hcode hc
   ·next hcode=>exact fin _ _ _ (.inr rfl) hcode hc
   ·cases hc
theorem Tie.start (hro:∀ b o v,E b o=some v->b<n0/\w.cell? ⟨b,o,none⟩=some (ren (fun _=>none) v)/\foV v=true) (hn:n0<=w.heap.size):Tie D E n0 All (fun _=>none) H.empty w:=
 ⟨hro,hn,fun _ _ _ _ hk=>(by cases hk),fun _ _ _ _ _ _ _ hk=>(by cases hk),fun _ _ _ _ _ _ _ _ _ _ _ _ _ _ hk=>(by cases hk),fun _ _ _ _ _ _ _ hk=>(by cases hk),
  fun _ _=>T.get_nil _,fun _ _ _ _ _ hd=>by rw[show H.empty.dyn=T.nil from rfl,T.get_nil] at hd;cases hd⟩
theorem Tie.fm {w':World} (R:Tie D E n0 All φ h w) (K:Kept (fun _=>none) w w'):Tie D E n0 All φ h w':=by
 have hb:∀ c,c<w.heap.size->w'.heap[c]? = w.heap[c]? := fun c hc=>K.block c hc (fun _ _ _ hk=>by cases hk);refine⟨fun b o v hv => ?_,Y0 R.size K.size,fun k c b e hk => ?_,fun k B c b e hV hB hk => ?_,R.apart,R.exact,R.fresh,R.root⟩
 ·obtain⟨h1,h2,h3⟩:=R.ro b o v hv;refine⟨h1,?_,h3⟩;rw[<- h2];simp only[World.cell?,hb b (Q1 h1 R.size)]
 ·obtain⟨a1,a2,a3⟩:=R.dom k c b e hk;exact⟨a1,a2,Q1 a3 K.size⟩
 ·exact (R.blk k B c b e hV hB hk).le (Le.refl _) (hb c (R.dom _ _ _ _ hk).2.2)
theorem Qw (TT:D.Of P) (hN:Je P) {E0:Env} {I0:Aa} (hI:∀ n0,Aw P D E0 n0 I0) (hE:∀ b o v,E0 b o=some v->E b o=some v) {n:Nat} {f:FuncId} {args:List Value} {r:Value} {h0:H}
  (hev:(ev D E0 I0 n).call f args H.empty=some (r,h0)) (hr:roV r=true) (ha:∀ x∈args,roV x=true) (R:Tie D E n0 All φ h w):Sim P D E n0 (callFunc f (args.map (ren φ)).toArray) φ h w r h:=by
 have R0:Tie D E0 w.heap.size All (fun _=>none) H.empty w:=Tie.start (fun b o v hv=>by
  obtain⟨h1,h2,h3⟩:=R.ro b o v (hE b o v hv);exact⟨Q1 h1 R.size,h2,h3⟩) (C0 _)
 have hargs:args.map (ren φ)=args.map (ren fun _=>none):=List.map_congr_left fun x hx=>by rw[(roV.ok φ (ha x hx)).2,(roV.ok _ (ha x hx)).2]
 obtain⟨nx,w1,h1,h2⟩:=(Qr TT hN (hI w.heap.size) n).call _ _ _ _ _ hev _ w R0 (fun x hx=>(roV.ok _ (ha x hx)).1);rw[<- hargs] at h1;refine⟨nx,w1,h1,fun c cs => ?_⟩;obtain⟨φ',w',g1,g2,g3,g4,g5⟩:=h2 c cs;have e1:ren φ' r=ren φ r:=by rw[(roV.ok φ' hr).2,(roV.ok φ hr).2]
 refine⟨φ,w',(roV.ok φ hr).1,R.fm g4,Ext.refl _ _ _,⟨g4.os,g4.tape,g4.output,g4.size,fun c hc _=>g4.block c hc (fun _ _ _ hk=>by cases hk)⟩,?_⟩;rw[e1] at g5;exact g5
end
/-! ## More fuel -/
structure Ol (v v':Ev):Prop where
 call:∀ {f args h r},v.call f args h=some r->v'.call f args h=some r
 round:∀ {l args h r},v.round l args h=some r->v'.round l args h=some r
 code:∀ {F c A h r},v.code F c A h=some r->v'.code F c A h=some r
section
variable {D:Tab} {E:Env} {v v':Ev}
theorem HT (hv:Ol v v') {f:Value} {args:List Value} {h:H} {r:Value×H} (hp:Dm v f args h=some r):Dm v' f args h=some r:=by
 unfold Dm at hp ⊢;split at hp
 ·exact hv.call hp
 ·exact hv.round hp
 ·cases hp
theorem Jt (hv:Ol v v') {A:Ac} {o:Oper} {h:H} {r:Value×H} (hp:BC D E v A o h=some r):BC D E v' A o h=some r:=by
 unfold BC at hp ⊢;split at hp
 ·simp only[bind,N5] at hp ⊢;obtain⟨x,h1,y,h2,h3⟩:=hp;exact⟨x,h1,y,h2,HT hv h3⟩
 ·exact hp
theorem Ni (hv:Ol v v') {ops:Array Oper}:∀ {l:List Oper} {A:Ac} {h:H} {r:Ac×H},BP D E v ops l A h=some r->BP D E v' ops l A h=some r:=by
 intro l;induction l with
 | nil=>intro A h r hp;exact hp
 | cons o l ih=>
  intro A h r hp;simp only[BP] at hp ⊢;split at hp
  ·next hw=>
   cases ho:BC D E v A o h with
   | none=>rw[ho] at hp;cases hp
   | some x=>
    rw[ho] at hp;rw[Jt hv ho];exact ih hp
  ·exact ih hp
theorem Ly (hv:Ol v v') {ops:Array Oper}:∀ {l:List Oper} {j:Nat} {A:Ac} {h:H} {r:Ac×H×List Tch},BA D E v ops j l A h=some r->BA D E v' ops j l A h=some r:=by
 intro l;induction l with
 | nil=>intro j A h r hp;exact hp
 | cons o l ih=>
  intro j A h r hp;simp only[BA] at hp ⊢;split at hp
  ·cases ho:BC D E v A o { h with mark:=h.next,log:=[] } with
   | none=>rw[ho] at hp;cases hp
   | some x=>
    obtain⟨x,g⟩:=x;rw[ho] at hp;rw[Jt hv ho];simp only at hp ⊢;split at hp
    ·cases hr:BA D E v ops (j+1) l (A.put o.dst x) ({ g with mark:=h.mark,log:=h.log }.note g.log) with
     | none=>rw[hr] at hp;cases hp
     | some y=>rw[hr] at hp;rw[ih hr];exact hp
    ·cases hp
  ·cases hr:BA D E v ops (j+1) l (A.put o.dst undef) h with
   | none=>rw[hr] at hp;cases hp
   | some y=>rw[hr] at hp;rw[ih hr];exact hp
theorem JU (hv:Ol v v') {ops:Array Oper} {draw:Bool} {A:Ac} {h:H} {r:Ac×H} (hp:runRegion D E v ops draw A h=some r):runRegion D E v' ops draw A h=some r:=by
 unfold runRegion at hp ⊢;split at hp
 ·exact Ni hv hp
 ·split at hp
  ·cases hp
  ·cases hr:BA D E v ops 0 ops.toList A h with
   | none=>rw[hr] at hp;cases hp
   | some y=>rw[hr] at hp;rw[Ly hv hr];exact hp
theorem Ol.step (hv:Ol v v') (I:Aa):Ol (Dq D E I v) (Dq D E I v') where
 call:=by
  intro f args h r hp;simp only[Dq,Dh] at hp ⊢;split at hp
  ·exact hp
  ·split at hp
   ·cases hp
   ·next fn hfn=>
    split at hp
    ·cases hp
    ·next body hb=>
     cases hc:v.code ⟨f,none⟩ body ⟨T.ofList args 0 .nil,max args.length fn.ntmps,[]⟩ h with
     | none=>rw[hc] at hp;cases hp
     | some x=>rw[hc] at hp;rw[hv.code hc];exact hp
 round:=by
  intro l args h r hp;simp only[Dq,EB] at hp ⊢;split at hp
  ·next r0 hb=>
   split at hp
   ·cases hp
   ·next A hA=>
    cases hc:v.code ⟨r0.fn,some l⟩ r0.assign A h with
    | none=>rw[hc] at hp;cases hp
    | some x=>
     rw[hc] at hp;rw[hv.code hc];obtain⟨ex,A1,h1⟩:=x;cases ex with
     | normal=>
      simp only at hp ⊢;split at hp
      ·next r1 hb1=>
       split at hp
       ·cases hc2:v.code ⟨r0.fn,some l⟩ r0.body A1 (h1.aq l (.loop { r1 with state:=.busy })) with
        | none=>rw[hc2] at hp;cases hp
        | some y=>rw[hc2] at hp;rw[hv.code hc2];exact hp
       ·cases hp
      ·cases hp
     | _=>exact hp
  ·cases hp
 code:=by
  intro F c A h r hp;simp only[Dq] at hp ⊢;cases c with
  | skip=>exact hp
  | region id ops draw=>
   simp only[Ae,I2] at hp ⊢;obtain⟨x,h1,h2⟩:=hp;exact⟨x,JU hv h1,h2⟩
  | seq a b=>
   simp only[Ae] at hp ⊢;cases hc:v.code F a A h with
   | none=>rw[hc] at hp;cases hp
   | some x=>
    rw[hc] at hp;rw[hv.code hc];obtain⟨ex,A1,h1⟩:=x;cases ex with
    | normal=>exact hv.code hp
    | _=>exact hp
  | cond c t e=>
   simp only[Ae] at hp ⊢;split at hp
   ·exact hv.code hp
   ·exact hv.code hp
   ·cases hp
  | block id body=>
   simp only[Ae] at hp ⊢;cases hc:v.code F body A h with
   | none=>rw[hc] at hp;cases hp
   | some x=>rw[hc] at hp;rw[hv.code hc];exact hp
  | loop body=>
   simp only[Ae] at hp ⊢;cases hc:v.code F body A h with
   | none=>rw[hc] at hp;cases hp
   | some x=>
    rw[hc] at hp;rw[hv.code hc];obtain⟨ex,A1,h1⟩:=x;cases ex with
    | normal=>exact hv.code hp
    | _=>exact hp
  | scope body=>
   simp only[Ae] at hp ⊢;cases hc:v.code F body A h with
   | none=>rw[hc] at hp;cases hp
   | some x=>rw[hc] at hp;rw[hv.code hc];exact hp
  | label l=>exact hp
  | exit id=>exact hp
  | ret=>exact hp
  | goto l=>exact hp
  | refuse s=>exact hp
  | rangeFunc f ps as bd=>
   simp only[Ae] at hp ⊢;split at hp
   ·cases hp
   ·next fv hf=>
    split at hp
    ·cases hp
    ·next A1 h1 d hs=>
     cases hc:Dm v fv [.func (.yield h1.next) #[] #[]] (h1.new (.loop ⟨.ready,none,F.fn,A.tmps,A.n,ps,as,bd,d⟩)) with
     | none=>rw[hc] at hp;cases hp
     | some x=>
      rw[hc] at hp;rw[HT hv hc];simp only at hp ⊢;split at hp
      ·next r0 hb=>
       split at hp
       ·cases hp
       ·cases hpe:r0.pending with
        | none=>rw[hpe] at hp;exact hp
        | some c=>
         rw[hpe] at hp;exact hv.code hp
      ·cases hp
theorem AB6 (I:Aa):∀ n,Ol (ev D E I n) (ev D E I (n+1))
 | 0=>⟨fun h=>(by cases h),fun h=>(by cases h),fun h=>(by cases h)⟩
 | n+1=>Ol.step (AB6 I n) I
theorem Ol.trans {v v' v'':Ev} (h:Ol v v') (h':Ol v' v''):Ol v v'':=⟨fun x=>h'.call (h.call x),fun x=>h'.round (h.round x),fun x=>h'.code (h.code x)⟩
theorem AX (I:Aa) {n m:Nat} (h:n<=m):Ol (ev D E I n) (ev D E I m):=by
 induction m with
 | zero=>rw[show n=0 by omega];exact⟨id,id,id⟩
 | succ m ih=>
  by_cases e:n=m+1
  ·subst e;exact⟨id,id,id⟩
  ·exact (ih (by omega)).trans (AB6 I m)
end
section
variable {P:Program} {D:Tab} {E:Env} {n0:Nat} {φ:Ph} {h h':H} {w:World}
theorem Calls.steps {f:FuncId} {args:Array Value} {R:Ending->World->Prop} (hc:Calls P f args w R) {v:Value} {w1:World} (hR:∀ e w',R e w'->e=.returned v/\w'=w1) (c:Frame) (cs:List Frame) :
  Steps P (lone (Frame.enter P f args .normal) (c::cs) w) (lone (c.finish v) cs w1):=by
 obtain⟨e,w',fr,h1,h2,h3,h4⟩:=hc (c::cs);obtain⟨rfl,rfl⟩:=hR e w' h1;exact Steps.trans h2 (.one (step_leave_returned h4))
theorem Dt (hN:Je P) {f:FuncId} {fn:Func} {body:Code} (hf:P.funcs[f]? = some fn) (hb:fn.body=some body) (args:Array Value):(callFunc f args).run P w=.ok (.enter f args) w:=by
 have hnm:fn.name ≠ "runtime.NumGoroutine" := by
  intro e;have:=hN f fn hf;rw[e] at this;cases this
 simp[callFunc,hf,hnm,hb]
structure NS (P:Program) (f:FuncId) (bt:TypeId):Prop where
 body:∃ fn,P.funcs[f]? = some fn/\fn.body.isSome=true
 used:∀ (b:Nat) (w:World),w.cell? ⟨b,0,none⟩=some (.pointer (some ⟨b,0,none⟩))->
  Calls P f #[.pointer (some ⟨b,0,none⟩)] w fun e w'=>e=.returned (.tuple #[])/\w'=w
 fresh:∀ (b:Nat) (w:World),w.cell? ⟨b,0,none⟩=some (.pointer none)->w.shape? b=some (bt,2)->w.frozen? ⟨b,0,none⟩=false->
  Calls P f #[.pointer (some ⟨b,0,none⟩)] w fun e w'=>e=.returned (.tuple #[])/\w'=w.setCell ⟨b,0,none⟩ (.pointer (some ⟨b,0,none⟩))
theorem Pk (φ:Ph):okV φ (.tuple #[]):=by simp[okV,okL]
theorem MF (φ:Ph):ren φ (.tuple #[])=.tuple #[]:=DU φ
theorem Qk (hN:Je P) {f:FuncId} {bt:TypeId} (C:NS P f bt) (hbt:bt≠ACi) {args:List Value} {r:Value} (hk:Dx bt args h=some (r,h')) (R:Tie D E n0 All φ h w) (hok:∀ x∈args,okV φ x) :
  Sim P D E n0 (callFunc f (args.map (ren φ)).toArray) φ h w r h':=by
 obtain⟨fn,hf,hb'⟩:=C.body;obtain⟨body,hb⟩:=J1.1 hb';unfold Dx at hk;split at hk
 ·next a=>
  split at hk
  ·next p p1 ty hs ho hbk=>
   have ho:=U0 ho;have hA:okA φ a:=(hok (.pointer (some a)) (by simp):okV φ (.pointer (some a)));have hφ:(φ a.block).isSome=true:=by
    rcases hA with hA|hA|⟨_,hA⟩
    ·rw[hs] at hA;cases hA
    ·exact hA.2
    ·rw[hs] at hA;cases hA
   obtain⟨⟨c,b,e⟩,hkk⟩:=J1.1 hφ;rcases R.blk _ _ _ _ _ trivial hbk hkk with⟨hx0,_⟩|⟨mcs,u,fz,L⟩
   ·cases hx0
   have hcn:=(R.dom _ _ _ _ hkk).2.2;have hren:renA φ a=⟨c,b,none⟩:=by simp only[renA,hs,hkk,ho,E3]
   have hargs:(([.pointer (some a)]:List Value).map (ren φ)).toArray=#[.pointer (some ⟨c,b,none⟩)]:=by
    simp only[I3,List.map_nil,Am,hren]
   rw[hargs];split at hk
   ·next hty=>
    have hty:=U0 hty;subst hty;obtain⟨hu,hb0,hsz⟩:=L.whole rfl hbt;subst hu hb0;obtain⟨y,hy,ht⟩:=L.cell 0 (.pointer none) rfl;obtain⟨_,rfl⟩:=ht rfl;have hcell:w.cell? ⟨c,0,none⟩=some (.pointer none):=by
     rw[cell?_at L.block];simpa [ren] using hy
    have hfr:w.frozen? ⟨c,0,none⟩=false:=by
     have:=L.opn;simp only[World.frozen?,L.block];rcases this with h|h
     ·simp;omega
     ·simp;rw[hsz] at h;simp at h;omega
    have hsh:w.shape? c=some (u,2):=by simp[World.shape?,L.block,hsz]
    obtain⟨h1,hput,he⟩:=I2.1 hk;cases he;obtain⟨w',p2,p3,p4⟩:=R.put P hA (fun _=>trivial) hput (by intro v hv;simp at hv;subst hv;exact hA);have hw':w'=w.setCell ⟨c,0,none⟩ (.pointer (some ⟨c,0,none⟩)):=by
     rw[hren] at p2;simp only[I3,List.map_nil,Am,hren,storeCells,Sem.run_bind] at p2;rw[Addr.add_plain,run_store P w _ _ _ rfl] at p2;simp only[E3,hcell,hfr] at p2;simp[Result.andThen] at p2;exact p2.symm
    subst hw';refine⟨_,w,Dt hN hf hb _,fun cc cs=>⟨φ,_,Pk φ,p3,Ext.same (Bf hput),p4,?_⟩⟩;rw[MF];exact Calls.steps (C.fresh c w hcell hsh hfr) (fun e w' h=>h) cc cs
   ·next bb hty=>
    have hty:=U0 hty;subst hty;split at hk
    ·next hbb=>
     cases hk;simp only[K0,beq_iff_eq] at hbb;obtain⟨⟨e1,e2⟩,e3⟩:=hbb;have e1:=U0 e1;have e2:=U0 e2;obtain⟨hu,hb0,hsz⟩:=L.whole rfl hbt;subst hu hb0;obtain⟨y,hy,ht⟩:=L.cell 0 (.pointer (some bb)) rfl;obtain⟨_,rfl⟩:=ht rfl;have hrb:renA φ bb=⟨c,0,none⟩:=by simp only[renA,e3,<- e1,hkk,e2,E3]
     have hcell:w.cell? ⟨c,0,none⟩=some (.pointer (some ⟨c,0,none⟩)):=by
      rw[cell?_at L.block];rw[E3] at hy;rw[hy,Am,hrb]
     refine⟨_,w,Dt hN hf hb _,fun cc cs=>⟨φ,_,Pk φ,R,Ext.refl _ _ _,Kept.refl _ _,?_⟩⟩;rw[MF];exact Calls.steps (C.used c w hcell) (fun e w' h=>h) cc cs
    ·cases hk
   ·cases hk
  ·cases hk
 ·cases hk
theorem Tm {bt:TypeId} {args:List Value} {r:Value} (hk:Dx bt args h=some (r,h')) (o:h.Ok):Lg h h':=by
 unfold Dx at hk
 repeat' split at hk
 all_goals first
  | (cases hk;done)
  | (cases hk;exact Lg.refl o)
  | (obtain⟨h1,hput,he⟩:=I2.1 hk;cases he;exact Lg.put o hput)
/-! ### Texts compared -/
theorem cmpL_eq:∀ (a b:List UInt8),Lib.compareBytes a b=cmpL a b:=by
 intro a;induction a with
 | nil=>intro b;cases b<;>rfl
 | cons x a ih=>
  intro b;cases b with
  | nil=>rfl
  | cons y b=>
   simp only[Lib.compareBytes,cmpL,UInt8.lt_iff_toNat_lt,ih];by_cases h1:x.toNat<y.toNat
   ·have hb1:x.toNat.blt y.toNat=true:=by rw[P0];exact h1
    rw[if_pos h1,hb1]
   ·have hb1:x.toNat.blt y.toNat=false:=by
     cases hq:x.toNat.blt y.toNat
     ·rfl
     ·rw[P0] at hq;exact absurd hq h1
    rw[if_neg h1,hb1];by_cases h2:y.toNat<x.toNat
    ·have hb2:y.toNat.blt x.toNat=true:=by rw[P0];exact h2
     rw[if_pos h2];simp only[hb2]
    ·have hb2:y.toNat.blt x.toNat=false:=by
      cases hq:y.toNat.blt x.toNat
      ·rfl
      ·rw[P0] at hq;exact absurd hq h2
     rw[if_neg h2];simp only[hb2]
theorem WY {f:FuncId} {fn:Func} (hf:P.funcs[f]? = some fn) (hname:(fn.name == "runtime.NumGoroutine")=false) (hb:fn.body.isNone=true) (hn:Extern.findNext fn=none) (he:Extern.find fn=some Extern.BytealgCompare.compare)
  {args:List Value} {r:Value} (hk:AAX args h=some (r,h')) (R:Tie D E n0 All φ h w):Sim P D E n0 (callFunc f (args.map (ren φ)).toArray) φ h w r h':=by
 unfold AAX at hk;split at hk
 ·next a b=>
  cases hk;refine⟨.value (.int .i64 (cmpL a.data.toList b.data.toList)),w,?_,fun c cs=>⟨φ,w,trivial,R,Ext.refl _ _ _,Kept.refl _ _,by rw[Bt],rfl⟩⟩;have:(([.string a,.string b]:List Value).map (ren φ)).toArray=#[.string a,.string b]:=by simp[ren]
  rw[this,run_callFunc_extern hf hname hb hn he,Lib.run_compareString,cmpL_eq];rfl
 ·cases hk
theorem MU {args:List Value} {r:Value} (hk:AAX args h=some (r,h')):h'=h:=by
 unfold AAX at hk;split at hk
 ·cases hk;rfl
 ·cases hk
end
section
variable {D:Tab} {E:Env} {I:Aa}
def Wc (D:Tab) (E:Env) (I:Aa) (F:Fx) (c:Code) (A:Ac) (h:H) (Q:Ex->Ac->H->Prop):Prop:=
 ∃ n ex A' h',(ev D E I n).code F c A h=some (ex,A',h')/\Q ex A' h'
def WR (r:Option (Ac×H)) (Q:Ac->H->Prop):Prop:=
 match r with
 | some (A,h)=>Q A h
 | none=>False
theorem Wc.mono {F:Fx} {c:Code} {A:Ac} {h:H} {Q Q':Ex->Ac->H->Prop} (w:Wc D E I F c A h Q) (hq:∀ ex A h,Q ex A h->Q' ex A h):Wc D E I F c A h Q':=by
 obtain⟨n,ex,A',h',h1,h2⟩:=w;exact⟨n,ex,A',h',h1,hq _ _ _ h2⟩
theorem Wc.forget {F:Fx} {c:Code} {A:Ac} {h:H} {Q:Ex->Ac->H->Prop} (P:Ac->Prop) (hP:P A) (w:∀ A',P A'->Wc D E I F c A' h Q):Wc D E I F c A h Q:=w A hP
theorem Wc.seq {F:Fx} {a b:Code} {A:Ac} {h:H} {Q:Ex->Ac->H->Prop} (w:Wc D E I F a A h fun ex A h=>match ex with|.normal=>Wc D E I F b A h Q|ex=>Q ex A h):Wc D E I F (.seq a b) A h Q:=by
 obtain⟨n,ex,A1,h1,h2,h3⟩:=w;cases ex with
 | normal=>
  obtain⟨m,ex2,A2,h4,h5,h6⟩:=h3;refine⟨max n m+1,ex2,A2,h4,?_,h6⟩;show Ae D E (ev D E I (max n m)) F (.seq a b) A h=_;simp only[Ae];rw[(AX I (E4 n m)).code h2];exact (AX I (C4 n m)).code h5
 | _=>
  refine⟨n+1,_,A1,h1,?_,h3⟩;show Ae D E (ev D E I n) F (.seq a b) A h=_;simp only[Ae];rw[h2]
theorem Wc.skip {F:Fx} {A:Ac} {h:H} {Q:Ex->Ac->H->Prop} (hq:Q .normal A h):Wc D E I F .skip A h Q:=⟨1,_,A,h,rfl,hq⟩
theorem Wc.exit {F:Fx} {id:Nat} {A:Ac} {h:H} {Q:Ex->Ac->H->Prop} (hq:Q (.exit id) A h):Wc D E I F (.exit id) A h Q:=⟨1,_,A,h,rfl,hq⟩
theorem Wc.ret {F:Fx} {A:Ac} {h:H} {Q:Ex->Ac->H->Prop} (hq:Q .ret A h):Wc D E I F .ret A h Q:=⟨1,_,A,h,rfl,hq⟩
theorem Wc.region {F:Fx} {id:Nat} {ops:Array Oper} {draw:Bool} {A:Ac} {h:H} {Q:Ex->Ac->H->Prop} (w:WR (runRegion D E (ev D E I 1) ops draw A h) (Q .normal)):Wc D E I F (.region id ops draw) A h Q:=by
 unfold WR at w;split at w
 ·next A' h' he=>
  refine⟨2,.normal,A',h',?_,w⟩;show Ae D E (ev D E I 1) F (.region id ops draw) A h=_;simp only[Ae,he];rfl
 ·exact w.elim
theorem Wc.cq {F:Fx} {id:Nat} {ops:Array Oper} {draw:Bool} {A A':Ac} {h h':H} {Q:Ex->Ac->H->Prop} (he:runRegion D E (ev D E I 1) ops draw A h=some (A',h')) (hq:Q .normal A' h'):Wc D E I F (.region id ops draw) A h Q:=
 Wc.region (by rw[he];exact hq)
/-! Operations, one by one. -/
theorem RO.run {v:Ev} {ops:Array Oper} {o:Oper} {rest:List Oper} {A:Ac} {h h':H} {x:Value} {res:Option (Ac×H)} (hw:Bo ops A o=true) (ho:BC D E v A o h=some (x,h')) (r:BP D E v ops rest (A.put o.dst x) h'=res):BP D E v ops (o::rest) A h=res:=by
 simp only[BP,hw,ho];exact r
theorem RO.skip {v:Ev} {ops:Array Oper} {o:Oper} {rest:List Oper} {A:Ac} {h:H} {res:Option (Ac×H)} (hw:Bo ops A o=false) (r:BP D E v ops rest (A.put o.dst undef) h=res):BP D E v ops (o::rest) A h=res:=by
 simp only[BP,hw];exact r
theorem RO.nil {v:Ev} {ops:Array Oper} {A:Ac} {h:H}:BP D E v ops [] A h=some (A,h):=rfl
theorem Wc.ops {F:Fx} {id:Nat} {l:List Oper} {A A':Ac} {h h':H} {Q:Ex->Ac->H->Prop} (he:BP D E (ev D E I 1) l.toArray l A h=some (A',h')) (hq:Q .normal A' h'):Wc D E I F (.region id l.toArray false) A h Q:=
 Wc.cq he hq
theorem RO.bq {v:Ev} {ops:Array Oper} {o:Oper} {rest:List Oper} {A:Ac} {h h':H} {x:Value} {res:Option (Ac×H)} {j:Nat} {w:Bool} {d:Tmp} (hg:o.guard=some (j,w)) (hd:(ops[j]?).bind (·.dst)=some d) (hv:A.get d=.bool w) (ho:BC D E v A o h=some (x,h')) (r:BP D E v ops rest (A.put o.dst x) h'=res):BP D E v ops (o::rest) A h=res:=by
 refine RO.run ?_ ho r;unfold Bo;rw[hg];simp only[Br,hd,hv];cases w<;>rfl
theorem RO.aw {v:Ev} {ops:Array Oper} {o:Oper} {rest:List Oper} {A:Ac} {h:H} {res:Option (Ac×H)} {j:Nat} {w:Bool} {d:Tmp} (hg:o.guard=some (j,w)) (hd:(ops[j]?).bind (·.dst)=some d) (hv:A.get d=.bool (!w)) (r:BP D E v ops rest (A.put o.dst undef) h=res):BP D E v ops (o::rest) A h=res:=by
 refine RO.skip ?_ r;unfold Bo;rw[hg];simp only[Br,hd,hv];cases w<;>rfl
theorem Ai {ops:Array Oper} {A:Ac} {o:Oper} (h:o.guard=none):Bo ops A o=true:=by unfold Bo;rw[h]
theorem Wc.cond {F:Fx} {c:Operand} {t e:Code} {A:Ac} {h:H} {Q:Ex->Ac->H->Prop} {b:Bool} (hc:opv A c=some (.bool b)) (w:Wc D E I F (if b then t else e) A h Q):Wc D E I F (.cond c t e) A h Q:=by
 obtain⟨n,ex,A',h',h1,h2⟩:=w;refine⟨n+1,ex,A',h',?_,h2⟩;show Ae D E (ev D E I n) F (.cond c t e) A h=_;simp only[Ae,hc];cases b<;>exact h1
theorem Wc.dy {F:Fx} {c:Operand} {t e:Code} {A:Ac} {h:H} {Q:Ex->Ac->H->Prop} {b:Bool} (hc:opv A c=some (.bool b)) (w1:b=true->Wc D E I F t A h Q) (w2:b=false->Wc D E I F e A h Q):Wc D E I F (.cond c t e) A h Q:=by
 refine Wc.cond hc ?_;cases b with
 | true=>exact w1 rfl
 | false=>exact w2 rfl
theorem Wc.block {F:Fx} {id:Nat} {c:Code} {A:Ac} {h:H} {Q:Ex->Ac->H->Prop} (w:Wc D E I F c A h fun ex A h=>match ex with|.exit j=>if j=id then Q .normal A h else Q (.exit j) A h|.goto _=>False|ex=>Q ex A h):Wc D E I F (.block id c) A h Q:=by
 obtain⟨n,ex,A',h',h1,h2⟩:=w;cases ex with
 | exit j=>
  by_cases e:j=id
  ·subst e;simp only[if_pos] at h2;refine⟨n+1,.normal,A',h',?_,h2⟩;show Ae D E (ev D E I n) F (.block j c) A h=_;simp only[Ae,h1,show Nat.beq j j=true from V1 j]
  ·simp only[e,if_false] at h2;refine⟨n+1,.exit j,A',h',?_,h2⟩;show Ae D E (ev D E I n) F (.block id c) A h=_;have:Nat.beq j id=false:=by
    cases hq:Nat.beq j id
    ·rfl
    ·exact absurd (U0 hq) e
   simp only[Ae,h1,this]
 | goto l=>exact h2.elim
 | normal=>
  refine⟨n+1,_,A',h',?_,h2⟩;show Ae D E (ev D E I n) F (.block id c) A h=_;simp only[Ae,h1]
 | ret=>
  refine⟨n+1,_,A',h',?_,h2⟩;show Ae D E (ev D E I n) F (.block id c) A h=_;simp only[Ae,h1]
theorem Wc.scope {F:Fx} {c:Code} {A:Ac} {h:H} {Q:Ex->Ac->H->Prop} (w:Wc D E I F c A h fun ex A h=>match ex with|.goto _=>False|ex=>Q ex A h):Wc D E I F (.scope c) A h Q:=by
 obtain⟨n,ex,A',h',h1,h2⟩:=w;refine⟨n+1,ex,A',h',?_,?_⟩
 ·show Ae D E (ev D E I n) F (.scope c) A h=_;simp only[Ae,h1];cases ex<;>first|rfl|exact h2.elim
 ·cases ex<;>first|exact h2|exact h2.elim
theorem Wc.loop {F:Fx} {c:Code} {A:Ac} {h:H} {Q:Ex->Ac->H->Prop} (w:Wc D E I F c A h fun ex A h=>match ex with|.normal=>Wc D E I F (.loop c) A h Q|.goto _=>False|ex=>Q ex A h):Wc D E I F (.loop c) A h Q:=by
 obtain⟨n,ex,A1,h1,h2,h3⟩:=w;cases ex with
 | normal=>
  obtain⟨m,ex2,A2,h4,h5,h6⟩:=h3;refine⟨max n m+1,ex2,A2,h4,?_,h6⟩;show Ae D E (ev D E I (max n m)) F (.loop c) A h=_;simp only[Ae];rw[(AX I (E4 n m)).code h2];exact (AX I (C4 n m)).code h5
 | goto l=>exact h3.elim
 | exit j=>
  refine⟨n+1,_,A1,h1,?_,h3⟩;show Ae D E (ev D E I n) F (.loop c) A h=_;simp only[Ae];rw[h2]
 | ret=>
  refine⟨n+1,_,A1,h1,?_,h3⟩;show Ae D E (ev D E I n) F (.loop c) A h=_;simp only[Ae];rw[h2]
theorem Al {f:FuncId} {args:List Value} {h:H} {r:Value×H} (hI:I f args h=some (some r)):(ev D E I 1).call f args h=some r:=by
 show Dh D E I (ev D E I 0) f args h=_;simp only[Dh,hI]
theorem Wc.call {f:FuncId} {fn:Func} {body:Code} {args:List Value} {h:H} {Q:Value->H->Prop} (hI:I f args h=none) (hf:D.fn.get f=some fn) (hb:fn.body=some body)
  (w:Wc D E I ⟨f,none⟩ body ⟨T.ofList args 0 .nil,max args.length fn.ntmps,[]⟩ h fun ex A h=>(ex=.normal\/ex=.ret)/\∃ h2 v,Ay A.defers h=some h2/\ED D E fn A h2=some v/\Q v h2) :
  ∃ n v h',(ev D E I n).call f args h=some (v,h')/\Q v h':=by
 obtain⟨n,ex,A,h1,h2,h3,h4,v,h5,h6,h7⟩:=w;refine⟨n+1,v,h4,?_,h7⟩;show Dh D E I (ev D E I n) f args h=_;simp only[Dh,hI,hf,hb,h2];rcases h3 with rfl|rfl<;>simp only[h5,h6,H6]
theorem Ml {fn:Func} {A:Ac} {h:H} {t u:Tmp} {v x:Value} {ex:Ex} (hex:ex=.normal\/ex=.ret) (hd:A.defers=[]) (hr:fn.results=#[.tmp t,.tmp u]) (hv:A.get t=v) (hx:A.get u=x) (hl:h.log=[]) :
  (ex=.normal\/ex=.ret)/\∃ h2 v',Ay A.defers h=some h2/\ED D E fn A h2=some v'/\(v'=.tuple #[v,x]/\h2.log=[]):=by
 refine⟨hex,h,.tuple #[v,x],?_,?_,rfl,hl⟩
 ·rw[hd];rfl
 ·unfold ED;rw[hr];simp only[Dl,ares1,hv,hx]
theorem Bn {fn:Func} {A:Ac} {h:H} {t:Tmp} {v:Value} {ex:Ex} (hex:ex=.normal\/ex=.ret) (hd:A.defers=[]) (hr:fn.results=#[.tmp t]) (hv:A.get t=v) (hl:h.log=[]) :
  (ex=.normal\/ex=.ret)/\∃ h2 v',Ay A.defers h=some h2/\ED D E fn A h2=some v'/\(v'=v/\h2.log=[]):=by
 refine⟨hex,h,v,?_,?_,rfl,hl⟩
 ·rw[hd];rfl
 ·unfold ED;rw[hr];simp only[Dl,ares1,hv]
end
inductive Item where
 | mk (kind num:Int) (text:ByteArray) (kids:List Item)
def Item.kind:Item->Int|.mk k _ _ _=>k
def Item.kids:Item->List Item|.mk _ _ _ ks=>ks
mutual
def rep (E:Env) (h:H):Item->Value->Prop
 | .mk k n t ks,v=>∃ s,v=.agg ⟨[.int .i64 k,.int .i64 n,.string t,s]⟩/\((ks=[]/\s=.slice none 0 0)\/∃ a c cs,s=.slice (some a) ks.length c/\(ks.length<=c/\c<9223372036854775808)/\h.cells E a (ks.length*4)=some cs/\Es E h ks cs)
def Es (E:Env) (h:H):List Item->List Value->Prop
 | [],cs=>cs=[]
 | x::xs,cs=>∃ a b c d l,cs=a::b::c::d::l/\rep E h x (.agg ⟨[a,b,c,d]⟩)/\Es E h xs l
end
theorem DH {E:Env} {h:H}:∀ {ks:List Item} {cs:List Value} (i:Nat) {x:Item},Es E h ks cs->ks[i]? = some x->((cs.drop (i*4)).take 4).length=4/\rep E h x (.agg ⟨(cs.drop (i*4)).take 4⟩)
 | [],cs,i,x,hr,hx=>by simp at hx
 | y::ks,cs,0,x,hr,hx=>by
  rw[Es] at hr;obtain⟨a,b,c,d,l,rfl,h1,_⟩:=hr;simp at hx;subst hx;exact⟨rfl,h1⟩
 | y::ks,cs,i+1,x,hr,hx=>by
  rw[Es] at hr;obtain⟨a,b,c,d,l,rfl,_,h2⟩:=hr;rw[E2] at hx;have:=DH i h2 hx;have e:(a::b::c::d::l).drop ((i+1)*4)=l.drop (i*4):=by
   rw[show (i+1)*4=i*4+1+1+1+1 by omega];simp only[List.drop_succ_cons]
  rw[e];exact this
theorem Nl {E:Env}:∀ (n b o m l:Nat) (cs:List Value),Bm E b o n=some cs->m+l<=n->Bm E b (o+m) l=some ((cs.drop m).take l):=by
 intro n b o m l;induction l generalizing m with
 | zero=>intro cs h hl;simp[Bm]
 | succ l ih=>
  intro cs h hl;obtain⟨h1,h2⟩:=IV _ _ _ _ h;have hm:m<cs.length:=by omega
  have h3:=h2 m cs[m] (Q0 hm);simp only[Bm];rw[h3];have:=ih (m+1) cs h (by omega);rw[show o+(m+1)=o+m+1 by omega] at this;rw[this];simp only;rw[H2 hm,U6]
theorem BD {E:Env} {h:H} {a:Addr} {n m l:Nat} {cs:List Value} (hc:h.cells E a n=some cs) (hl:m+l<=n):h.cells E (aadd a m) l=some ((cs.drop m).take l):=by
 cases l with
 | zero=>simp[H.cells]
 | succ l=>
  cases n with
  | zero=>omega
  | succ n=>
   unfold H.cells at hc ⊢;simp only at hc ⊢;split at hc
   ·next hs=>(try simp only[aadd,hs]);exact Nl _ _ _ _ _ _ hc hl
   ·next hs=>
    try simp only[aadd,hs]
    split at hc
    ·next xs ty root hb=>
     try simp only[hb]
     split at hc
     ·next hle=>
      cases hc;simp only[K0,Z0,O2] at hle;have e:(((xs.drop a.off).take (n+1)).drop m).take (l+1)=(xs.drop (a.off+m)).take (l+1):=by
       rw[List.drop_take,List.take_take,List.drop_drop];congr 1;omega
      rw[e];have hq:(Nat.ble (a.off+m+(l+1)) xs.length&&((xs.drop (a.off+m)).take (l+1)).all isOne)=true:=by
       simp only[K0,Z0,O2];refine⟨by omega,fun v hv => ?_⟩;apply hle.2;rw[<- e] at hv;exact List.mem_of_mem_drop (List.mem_of_mem_take hv)
      rw[hq]
     ·cases hc
    ·cases hc
   ·cases hc
section
variable {P:Program} {D:Tab} {E:Env} {n0:Nat} {φ φ':Ph} {h h':H} {w w':World}
theorem Tie.forget (R:Tie D E n0 All φ h w) (R':Tie D E n0 All φ' h' w') (hφ:∀ k,k<h.next->φ' k=φ k) (hb:∀ k,k<h.next->h'.blk k=h.blk k) (hsz:w.heap.size<=w'.heap.size):Tie D E n0 All φ h w':=by
 have hle:Le φ φ':=fun k x hk=>by
  obtain⟨c,b,e⟩:=x;rw[hφ k (R.dom _ _ _ _ hk).1];exact hk
 refine⟨R'.ro,Y0 R.size hsz,fun k c b e hk => ?_,fun k B c b e hV hB hk => ?_,R.apart,R.exact,R.fresh,R.root⟩
 ·obtain⟨a1,a2,a3⟩:=R.dom k c b e hk;exact⟨a1,a2,Q1 a3 hsz⟩
 ·have hlt:=(R.dom _ _ _ _ hk).1;have h1:=R'.blk k B c b e trivial (by rw[hb k hlt];exact hB) (hle _ _ hk);exact h1.both (ψ:=φ) (χ:=φ) (fun k x hk=>(hle k x hk▸hk)) (R.blk k B c b e trivial hB hk)
theorem J9 {s:Sem Next} {v:Value} (R:Tie D E n0 All φ h w) (hs:Sim P D E n0 s φ (fresh h) w v h') (hv:roV v=true) (hb:∀ k,k<h.next->h'.blk k=h.blk k):Sim P D E n0 s φ h w v h:=by
 obtain⟨nx,w1,h1,h2⟩:=hs;refine⟨nx,w1,h1,fun c cs => ?_⟩;obtain⟨φ',w',g1,g2,g3,g4,g5⟩:=h2 c cs;have e1:ren φ' v=ren φ v:=by rw[(roV.ok φ' hv).2,(roV.ok φ hv).2]
 refine⟨φ,w',(roV.ok φ hv).1,R.forget g2 g3.1 hb g4.size,Ext.refl _ _ _,g4,?_⟩;rw[e1] at g5;exact g5
abbrev Lb:=Nat->FuncId->List Value->H->Value->Prop
open Classical in
noncomputable def Fm (S:Lb) (I:Aa) (m:Nat):Aa:=fun f args h=>
 if c:∃ v s,s<m/\S s f args h v then some (some (c.choose,h)) else I f args h
open Classical in
noncomputable def Cy (S:Lb) (I:Aa):Aa:=fun f args h=>
 if c:∃ v s,S s f args h v then some (some (c.choose,h)) else I f args h
def One (S:Lb):Prop:=∀ s s' f args h v v',S s f args h v->S s' f args h v'->v=v'
theorem SF {S:Lb} {I:Aa} (hu:One S) {m s:Nat} {f:FuncId} {args:List Value} {h:H} {v:Value} (hs:S s f args h v) (hm:s<m):Fm S I m f args h=some (some (v,h)):=by
 have c:∃ v s,s<m/\S s f args h v:=⟨v,s,hm,hs⟩;unfold Fm;rw[dif_pos c];obtain⟨s',_,h2⟩:=c.choose_spec;rw[hu _ _ _ _ _ _ _ h2 hs]
theorem Bc {S:Lb} {I:Aa} (hu:One S) {s:Nat} {f:FuncId} {args:List Value} {h:H} {v:Value} (hs:S s f args h v):Cy S I f args h=some (some (v,h)):=by
 have c:∃ v s,S s f args h v:=⟨v,s,hs⟩;unfold Cy;rw[dif_pos c];obtain⟨s',h2⟩:=c.choose_spec;rw[hu _ _ _ _ _ _ _ h2 hs]
theorem Bw {S:Lb} {I:Aa} {m:Nat} {f:FuncId} {args:List Value} {h:H} (hn:∀ v s,s<m->¬ S s f args h v):Fm S I m f args h=I f args h:=by
 unfold Fm;rw[dif_neg];rintro⟨v,s,h1,h2⟩;exact hn v s h1 h2
end
mutual
def isz:Item->Nat
 | .mk _ _ _ ks=>iszL ks+1
def iszL:List Item->Nat
 | []=>0
 | x::xs=>isz x+iszL xs
end
theorem HL:∀ {ks:List Item} {x:Item},x∈ks->isz x<=iszL ks
 | [],x,h=>by cases h
 | y::ks,x,h=>by
  rw[iszL];rcases O1.1 h with rfl|h
  ·omega
  ·have:=HL h;omega
theorem Tn {k n:Int} {t:ByteArray} {ks:List Item} {x:Item} (h:x∈ks):isz x<isz (.mk k n t ks):=by
 have:=HL h;rw[isz];omega
mutual
theorem Cj {E:Env} {h:H}:∀ {t t':Item} {v:Value},rep E h t v->rep E h t' v->t=t'
 | .mk k n tx ks,.mk k' n' tx' ks',v,h1,h2=>by
  rw[rep] at h1 h2;obtain⟨s,rfl,h1⟩:=h1;obtain⟨s',he,h2⟩:=h2;cases he;have:ks=ks':=by
   rcases h1 with⟨rfl,rfl⟩|⟨a,c,cs,rfl,_,h3,h4⟩
   ·rcases h2 with⟨rfl,_⟩|⟨a,c,cs,he,_⟩
    ·rfl
    ·cases he
   ·rcases h2 with⟨_,he⟩|⟨a',c',cs',he,_,h5,h6⟩
    ·cases he
    ·simp only[Value.slice.injEq,Option.some.injEq] at he;obtain⟨rfl,hl,rfl⟩:=he;rw[<- hl,h3] at h5;cases h5;exact Hk hl h4 h6
  rw[this]
theorem Hk {E:Env} {h:H}:∀ {ks ks':List Item} {cs:List Value},ks.length=ks'.length->Es E h ks cs->Es E h ks' cs->ks=ks'
 | [],[],_,_,_,_=>rfl
 | [],_::_,_,hl,_,_=>by cases hl
 | _::_,[],_,hl,_,_=>by cases hl
 | x::xs,y::ys,cs,hl,h1,h2=>by
  rw[Es] at h1 h2;obtain⟨a,b,c,d,l,rfl,h3,h4⟩:=h1;obtain⟨a',b',c',d',l',he,h5,h6⟩:=h2;cases he;rw[Cj h3 h5,Hk (by simpa using hl) h4 h6]
end
theorem wrap64 {x:Int} (h1 : -9223372036854775808<=x) (h2:x<9223372036854775808):IntKind.i64.wrap x=x:=by
 simp only[IntKind.wrap,IntKind.bits,IntKind.signed];simp;omega
/-! ### A heap that grows keeps what reads -/
theorem Nu {h:H} {B:Blk} {k:Nat} (hk:k≠h.next):(h.new B).blk k=h.blk k:=
 Ar (by simp only[H.new];rw[T.get_set_ne _ _ _ _ hk]) (fun _ _ _ _ _=>Iff.rfl)
theorem AA {h:H} {B:Blk} (hB:B.plain=true):(h.new B).blk h.next=some B:=by
 have hd:(h.new B).dyn.get h.next=some B:=T.get_set_same _ _ _;cases B with
 | cells xs ty rt=>cases rt with
  | none=>exact BW hd
  | some _=>cases hB
 | _=>unfold H.blk;rw[hd]
theorem Ua {E:Env} {h:H} {xs:List Value} {ty:TypeId} {n:Nat} (hn:xs.length=n) (h1:xs.all isOne=true):(h.new (.cells xs ty none)).cells E (own h.next) n=some xs:=by
 subst hn;cases xs with
 | nil=>rfl
 | cons x xs=>
  unfold H.cells;simp only[I1,own,AA (h:=h) (B:=.cells (x::xs) ty none) rfl,F2,Z1];rw[show (x::xs).take (xs.length+1)=x::xs from List.take_of_length_le (by simp)];rw[h1,show Nat.ble (xs.length+1) (xs.length+1)=true from by rw[Z0];exact C0 _];rfl
theorem Ao {E:Env} {h:H} {k m:Int} {tx:ByteArray} {ks:List Item} {v:Value} (hr:rep E h (.mk k m tx ks) v):∃ b c,v=.agg ⟨[.int .i64 k,.int .i64 m,.string tx,.slice b ks.length c]⟩/\
  (ks=[]\/∃ a cs,b=some a/\ks.length<9223372036854775808/\h.cells E a (ks.length*4)=some cs/\Es E h ks cs):=by
 rw[rep] at hr;obtain⟨s,rfl,hs⟩:=hr;rcases hs with⟨rfl,rfl⟩|⟨a,c,cs,rfl,h1,h2,h3⟩
 ·exact⟨none,0,rfl,.inl rfl⟩
 ·exact⟨some a,c,rfl,.inr ⟨a,cs,rfl,by omega,h2,h3⟩⟩
def BL (h h':H):Prop:=∀ k B,h.blk k=some B->h'.blk k=some B
theorem AV {E:Env} {h h':H} (g:BL h h') {a:Addr} {n:Nat} {cs:List Value} (hc:h.cells E a n=some cs):h'.cells E a n=some cs:=by
 cases n with
 | zero=>simpa [H.cells] using hc
 | succ n=>
  unfold H.cells at hc ⊢;simp only at hc ⊢;cases hs:a.spot with
  | none=>rw[hs] at hc;exact hc
  | some s=>
   rw[hs] at hc;cases s with
   | zero=>
    simp only at hc ⊢;cases hb:h.blk a.block with
    | none=>rw[hb] at hc;cases hc
    | some B=>rw[g _ _ hb];rw[hb] at hc;exact hc
   | succ s=>cases hc
mutual
theorem AJ {E:Env} {h h':H} (g:BL h h'):∀ {t:Item} {v:Value},rep E h t v->rep E h' t v
 | .mk k n tx ks,v,hr=>by
  rw[rep] at hr ⊢;obtain⟨s,h1,h2⟩:=hr;refine⟨s,h1,?_⟩;rcases h2 with h2|⟨a,c,cs,h3,h4,h5,h6⟩
  ·exact .inl h2
  ·exact .inr ⟨a,c,cs,h3,h4,AV g h5,BR g h6⟩
theorem BR {E:Env} {h h':H} (g:BL h h'):∀ {ks:List Item} {cs:List Value},Es E h ks cs->Es E h' ks cs
 | [],cs,hr=>by rw[Es] at hr ⊢; exact hr
 | x::xs,cs,hr=>by
  rw[Es] at hr ⊢;obtain⟨a,b,c,d,l,h1,h2,h3⟩:=hr;exact⟨a,b,c,d,l,h1,AJ g h2,BR g h3⟩
end
theorem TZ {h:H} (hf:∀ k,h.next<=k->h.dyn.get k=none) (B:Blk):∀ k,(h.new B).next<=k->(h.new B).dyn.get k=none:=by
 intro k hk;have hk:h.next+1<=k:=hk;simp only[H.new];rw[T.get_set_ne _ _ _ _ (by omega)];exact hf k (by omega)
theorem BL.trans {h h' h'':H} (g:BL h h') (g':BL h' h''):BL h h'':=fun k B hb=>g' k B (g k B hb)
theorem Tu {h:H} (hf:∀ k,h.next<=k->h.dyn.get k=none) (B:Blk):BL h (h.new B):=by
 intro k B' hb;rw[Nu]
 ·exact hb
 ·intro e;subst e;have:=H.ae hb;rw[hf _ (C0 _)] at this;cases this
def firstLoop:Code->Option Code
 | .seq a b=>match firstLoop a with
  | some c=>some c
  | none=>firstLoop b
 | .cond _ a b=>match firstLoop a with
  | some c=>some c
  | none=>firstLoop b
 | .block _ c=>firstLoop c
 | .scope c=>firstLoop c
 | .loop c=>some c
 | _=>none
def loopOf (f:Func):Code:=match f.body with
 | some c=>(firstLoop c).getD .skip
 | none=>.skip
/-! ### Is an item right? -/
mutual
def Fl:Item->Int->Int->Int×Int
 | .mk k n tx ks,b,l=>if l>250 then (b,11) else if b>=5000 then (b,2) else if k<1\/k>63\/n<0\/n>1099511627776 then (b,3) else if (tx.data.toList.length:Int)>4096 then (b,11) else NW ks (b+1) (l+1)
def NW:List Item->Int->Int->Int×Int
 | [],b,_=>(b,0)
 | x::xs,b,l=>if (Fl x b l).2≠0 then Fl x b l else NW xs (Fl x b l).1 l
end
mutual
theorem KG:∀ (t:Item) (b l:Int),0<=b->b<=5000->0<=(Fl t b l).1/\(Fl t b l).1<=5000
 | .mk k n tx ks,b,l,h1,h2=>by
  rw[Fl];split
  ·exact⟨h1,h2⟩
  ·split
   ·exact⟨h1,h2⟩
   ·split
    ·exact⟨h1,h2⟩
    ·split
     ·exact⟨h1,h2⟩
     ·exact KF ks (b+1) (l+1) (by omega) (by omega)
theorem KF:∀ (ks:List Item) (b l:Int),0<=b->b<=5000->0<=(NW ks b l).1/\(NW ks b l).1<=5000
 | [],b,l,h1,h2=>by rw[NW];exact⟨h1,h2⟩
 | x::xs,b,l,h1,h2=>by
  rw[NW];have:=KG x b l h1 h2;split
  ·exact this
  ·exact KF xs _ l this.1 this.2
end
mutual
theorem Mw:∀ (t:Item) (b l:Int),(Fl t b l).2=0->(Fl t b l).1=b+isz t
 | .mk k n tx ks,b,l,h=>by
  rw[Fl] at h ⊢;split at h
  ·cases h
  ·split at h
   ·cases h
   ·split at h
    ·cases h
    ·split at h
     ·cases h
     ·next h1 h2 h3 h4=>
      rw[if_neg h1,if_neg h2,if_neg h3,if_neg h4,Mu ks _ _ h,isz];push_cast;omega
theorem Mu:∀ (ks:List Item) (b l:Int),(NW ks b l).2=0->(NW ks b l).1=b+iszL ks
 | [],b,l,_=>by rw[NW,iszL];simp
 | x::xs,b,l,h=>by
  rw[NW] at h ⊢;split at h
  ·next hne=>exact absurd h hne
  ·next hne=>
   rw[if_neg hne];have h0:(Fl x b l).2=0:=D5.1 hne;rw[Mu xs _ l h,Mw x b l h0,iszL];push_cast;omega
end
/-! ### The greatest level -/
mutual
def Cd:Item->Int
 | .mk _ _ _ ks=>lvlL ks 0+1
def lvlL:List Item->Int->Int
 | [],m=>m
 | x::xs,m=>lvlL xs (if Cd x>m then Cd x else m)
end
mutual
theorem CG:∀ (t:Item),1<=Cd t/\Cd t<=isz t
 | .mk k n tx ks=>by
  rw[Cd,isz];have:=DO ks 0 (Int.le_refl _);push_cast;omega
theorem DO:∀ (ks:List Item) (m:Int),0<=m->m<=lvlL ks m/\lvlL ks m<=m+iszL ks
 | [],m,h=>by rw[lvlL,iszL];simp
 | x::xs,m,h=>by
  rw[lvlL,iszL];have h1:=CG x;split
  ·have:=DO xs (Cd x) (by omega);push_cast;omega
  ·have:=DO xs m h;push_cast;omega
end
/-! ### Which comes first -/
mutual
def HD:Item->Item->Int
 | .mk k n t ks,.mk k' n' t' ks'=>
  if k≠k' then (if k<k' then -1 else 1)
  else if n≠n' then (if n<n' then -1 else 1)
  else if (t.data.toList == t'.data.toList)=false then (if Op.bytesLess t.data.toList t'.data.toList then -1 else 1)
  else ordL ks ks'
def ordL:List Item->List Item->Int
 | [],[]=>0
 | [],_::_ => -1
 | _::_,[]=>1
 | x::xs,y::ys=>if HD x y≠0 then HD x y else ordL xs ys
end
def JX (x y:Item):Int:=if (Fl x 0 1).2≠0 then (Fl x 0 1).2 else (Fl y 0 1).2
def Ro (x y:Item):Int×Int:=if JX x y≠0 then (0,JX x y) else (HD x y,0)
theorem Gi {b:Array Nat} {ts:List Tch} (h:ts.all (fun t=>t.writes.isEmpty && !t.rooted)=true):DB b ts=true:=by
 rw[O2] at h;unfold DB;simp only[O2];rintro⟨s,i⟩ hs ⟨t,j⟩ ht;have h1:=h s (H3 (F4.1 hs));have h2:=h t (H3 (F4.1 ht));simp only[K0,C3,List.isEmpty_iff] at h1 h2;have:meets s t=true:=by
  unfold meets;rw[h1.1,h2.1,h1.2,h2.2];simp[apart?]
 rw[this,Bool.or_true]
theorem Wc.draw {D:Tab} {E:Env} {I:Aa} {F:Fx} {id:Nat} {ops:Array Oper} {A A':Ac} {h h':H} {ts:List Tch} {Q:Ex->Ac->H->Prop} (hd:Hf ops=true) (hf:BA D E (ev D E I 1) ops 0 ops.toList A h=some (A',h',ts))
  (hw:ts.all (fun t=>t.writes.isEmpty && !t.rooted)=true) (hq:Q .normal A' h'):Wc D E I F (.region id ops true) A h Q:=by
 refine Wc.cq (A':=A') (h':=h') ?_ hq;simp only[runRegion,hd,hf,Gi hw]
inductive QO (D:Tab) (E:Env) (v:Ev) (ops:Array Oper):List Oper->Ac->H->Ac->Prop
 | nil {A:Ac} {h:H}:QO D E v ops [] A h A
 | cons {o:Oper} {rest:List Oper} {A A':Ac} {h:H} {x:Value} (hg:o.guard=none) (hs:Bi o.op=false) (ho:BC D E v A o (fresh h)=some (x,fresh h)) (r:QO D E v ops rest (A.put o.dst x) h A'):QO D E v ops (o::rest) A h A'
theorem Bq (h:H):back h (fresh h)=h:=Cr h
theorem QO.free {D:Tab} {E:Env} {v:Ev} {ops:Array Oper}:∀ {l:List Oper} {A A':Ac} {h:H} (j:Nat),QO D E v ops l A h A'->∃ ts,BA D E v ops j l A h=some (A',h,ts)/\ts.all (fun t=>t.writes.isEmpty && !t.rooted)=true:=by
 intro l;induction l with
 | nil=>intro A A' h j q;cases q;exact⟨[],rfl,rfl⟩
 | cons o l ih=>
  intro A A' h j q;cases q with
  | cons hg hs ho r=>
   obtain⟨ts,h1,h2⟩:=ih (j+1) r;refine⟨⟨reads D A o,[],h.next,h.next,rootedStore A h o.op⟩::ts,?_,?_⟩
   ·have ho':BC D E v A o { h with mark:=h.next,log:=[] }=some (_,fresh h):=ho;simp only[BA,Ai hg,ho'];have hc:(!(BG o.op)||Nat.beq (fresh h).next h.next||GN ops j)=true:=by
     rw[show Nat.beq (fresh h).next h.next=true from V1 h.next];simp
    rw[hc];have hb:({ (fresh h) with mark:=h.mark,log:=h.log }:H).note (fresh h).log=h:=Bq h;simp only[hb,h1];rfl
   ·rw[V3,h2];have:rootedStore A h o.op=false:=by
     cases hop:o.op<;>first|rfl|(rw[hop] at hs;cases hs)
    simp[this]
theorem Wc.quiet {D:Tab} {E:Env} {I:Aa} {F:Fx} {id:Nat} {l:List Oper} {A A':Ac} {h:H} {Q:Ex->Ac->H->Prop} (hd:Hf l.toArray=true) (hq:QO D E (ev D E I 1) l.toArray l A h A') (w:Q .normal A' h):Wc D E I F (.region id l.toArray true) A h Q:=by
 obtain⟨ts,h1,h2⟩:=hq.free 0;exact Wc.draw hd h1 h2 w
structure Fit (h:H):Prop where
 free:∀ k,h.next<=k->h.dyn.get k=none
 ok:h.Ok
structure Ahd (h g:H):Prop where
 fit:Fit g
 grows:BL h g
 log:g.log=h.log
 mark:g.mark=h.mark
 next:h.next<=g.next
 chain:∀ r,r<h.next->g.chain r=h.chain r
theorem Ahd.refl {h:H} (f:Fit h):Ahd h h:=⟨f,fun _ _ h=>h,rfl,rfl,C0 _,fun _ _=>rfl⟩
theorem Ahd.trans {h g f:H} (s:Ahd h g) (t:Ahd g f):Ahd h f:=
 ⟨t.fit,s.grows.trans t.grows,t.log.trans s.log,t.mark.trans s.mark,Y0 s.next t.next,fun r hr=>(t.chain r (Q1 hr s.next)).trans (s.chain r hr)⟩
theorem Fit.fresh {h:H} (f:Fit h):Fit (fresh h):=⟨f.free,f.ok.1,C0 _⟩
theorem Fit.none {h:H} (f:Fit h) {k:Nat} {B:Blk} (hb:h.dyn.get k=some B):k<h.next:=by
 apply Classical.byContradiction;intro hk;rw[f.free k (by omega)] at hb;cases hb
theorem Fit.lt {h:H} (f:Fit h) {k:Nat} {B:Blk} (hb:h.blk k=some B):k<h.next:=f.none (H.ae hb)
theorem Fit.new {h:H} (f:Fit h) {B:Blk} (hB:B.plain=true):Fit (h.new B):=⟨TZ f.free B,(Lg.new f.ok B hB).ok f.ok⟩
theorem Ahd.aj {h:H} (f:Fit h) {B:Blk} (hB:B.plain=true):Ahd h (h.new B):=
 ⟨f.new hB,Tu f.free B,rfl,rfl,U1 _,fun _ _=>rfl⟩
/-! ### A plain block that is written -/
def H.ak (h:H) (k:Nat) (B:Blk):H:={ h with dyn:=h.dyn.set k B }
theorem DN {h:H} {ks:List Nat} (hk:∀ k∈ks,h.mark<=k):h.note ks=h:=by
 unfold H.note;split
 ·rfl
 ·next m hm=>
  have:ks.filter (fun k=>Nat.ble k m)=[]:=by
   rw[List.filter_eq_nil_iff];intro k hkk;have:=hk k hkk;rw[hm] at this;simp only[Z0];omega
  rw[this];rfl
theorem BZ {h:H} {k:Nat} {B:Blk} (hB:B.plain=true):(h.ak k B).blk k=some B:=by
 have hd:(h.ak k B).dyn.get k=some B:=T.get_set_same _ _ _;cases B with
 | cells xs ty rt=>cases rt with
  | none=>exact BW hd
  | some _=>cases hB
 | _=>unfold H.blk;rw[hd]
theorem BV {h:H} {k j:Nat} {B:Blk} (hk:j≠k):(h.ak k B).blk j=h.blk j:=
 Ar (by simp only[H.ak];rw[T.get_set_ne _ _ _ _ hk]) (fun _ _ _ _ _=>Iff.rfl)
theorem Fit.ak {h:H} (f:Fit h) {k:Nat} {B:Blk} (hB:B.plain=true) (hk:k<h.next):Fit (h.ak k B):=by
 refine⟨fun j hj => ?_,fun j xs ty r p hd => ?_,f.ok.2⟩
 ·have hj:h.next<=j:=hj;simp only[H.ak];rw[T.get_set_ne _ _ _ _ (by omega)];exact f.free j hj
 ·simp only[H.ak,T.get_set] at hd ⊢;split at hd
  ·cases hd;simp[Blk.plain] at hB
  ·exact f.ok.1 _ _ _ _ _ hd
theorem TB {h:H} {k o:Nat} {vs xs:List Value} {ty:TypeId} (hb:h.blk k=some (.cells xs ty none)) (hv:vs≠[]) (hl:o+vs.length<=xs.length) (h1:vs.all isOne=true) (hm:h.mark<=k) :
  h.put (aadd (own k) o) vs=some (h.ak k (.cells (xs.take o++vs++xs.drop (o+vs.length)) ty none)):=by
 unfold H.put;cases vs with
 | nil=>exact absurd rfl hv
 | cons v vs=>
  simp only[aadd,own,Z1,hb];rw[h1,show Nat.ble (o+(v::vs).length) xs.length=true from by rw[Z0];exact hl];simp only[Bool.and_self];congr 1;exact DN (h:={ h with dyn:=_ }) (fun j hj=>by simp at hj;subst hj;exact hm)
theorem Kj {h:H} {k:Nat} {vs xs:List Value} {ty:TypeId} (hb:h.blk k=some (.cells xs ty none)) (hv:vs≠[]) (hl:vs.length=xs.length) (h1:vs.all isOne=true) (hm:h.mark<=k) :
  h.put (own k) vs=some (h.ak k (.cells vs ty none)):=by
 have:=TB (o:=0) hb hv (by omega) h1 hm;rw[show aadd (own k) 0=own k from rfl,List.take_zero,V0,P5 (by omega),X0] at this;exact this
theorem DM {h:H} {k:Nat} {B:Blk} (hm:h.mark<=k):h.aq k B=h.ak k B:=
 DN (h:={ h with dyn:=_ }) (fun j hj=>by simp at hj;subst hj;exact hm)
theorem AG {E:Env} {h:H} {k n:Nat} {xs:List Value} {ty:TypeId} {rt:Option (Nat×Nat)} (hb:h.blk k=some (.cells xs ty rt)) (hn:xs.length=n) (h1:xs.all isOne=true):h.cells E (own k) n=some xs:=by
 subst hn;cases xs with
 | nil=>rfl
 | cons x xs=>
  unfold H.cells;simp only[I1,own,hb,F2,Z1];rw[show (x::xs).take (xs.length+1)=x::xs from List.take_of_length_le (by simp)];rw[h1,show Nat.ble (xs.length+1) (xs.length+1)=true from by rw[Z0];exact C0 _];rfl
theorem AS {E:Env} {h:H} {k i:Nat} {xs:List Value} {ty:TypeId} {rt:Option (Nat×Nat)} {x:Value} (hb:h.blk k=some (.cells xs ty rt)) (hx:xs[i]? = some x) (h1:isOne x=true):h.cell E (aadd (own k) i)=some x:=by
 simp only[H.cell,aadd,own,hb,Z1,hx,one?,h1]
theorem Bp {E:Env} {h:H} {k:Nat} {xs:List Value} {ty:TypeId} {rt:Option (Nat×Nat)} {x:Value} (hb:h.blk k=some (.cells (x::xs) ty rt)) (h1:isOne x=true):h.cell E (own k)=some x:=
 AS (i:=0) hb rfl h1
/-! ### What lies in new chains alone -/
def seen (p:Nat->Bool):Option Blk->Option Blk
 | some (.cells xs ty (some (r,q)))=>match p r with
  | true=>some (.cells xs ty (some (r,q)))
  | false=>none
 | _=>none
def only (p:Nat->Bool) (h:H):H:=⟨h.next,T.ofOpts ((List.range h.next).map fun k=>seen p (h.blk k)) 0 .nil,h.chains,h.mark,h.log⟩
theorem Pj (p:Nat->Bool) (h:H) (k:Nat):(only p h).dyn.get k=if k<h.next then seen p (h.blk k) else none:=by
 have:=T.get_ofOpts ((List.range h.next).map fun k=>seen p (h.blk k)) 0 .nil k (fun k _=>T.get_nil k);simp only[only];rw[this,if_pos (C2 _),Nat.sub_zero,J3];by_cases hk:k<h.next
 ·rw[List.getElem?_range hk,if_pos hk];rfl
 ·rw[C7 (by simpa using hk),if_neg hk];rfl
theorem BN {p:Nat->Bool} {h:H} (f:Fit h) {k:Nat} {B:Blk}:(only p h).blk k=some B↔h.blk k=some B/\∃ xs ty r q,B=.cells xs ty (some (r,q))/\p r=true:=by
 constructor
 ·intro hb;have hd:=H.ae hb;rw[Pj] at hd;split at hd
  ·next hk=>
   unfold seen at hd;split at hd
   ·next xs ty r q hh=>
    split at hd
    ·next hp=>cases hd;exact⟨hh,xs,ty,r,q,rfl,hp⟩
    ·cases hd
   ·cases hd
  ·cases hd
 ·rintro⟨hb,xs,ty,r,q,rfl,hp⟩;have hk:=f.lt hb;have hd:(only p h).dyn.get k=some (.cells xs ty (some (r,q))):=by
   rw[Pj,if_pos hk,hb];simp only[seen,hp]
  unfold H.blk;rw[hd];simp only;have hc:(only p h).chain r=h.chain r:=rfl;rw[hc];unfold H.blk at hb;rw[H.ae (h:=h) (k:=k) (B:=.cells xs ty (some (r,q))) (by unfold H.blk;exact hb)] at hb;exact hb
theorem Cl {p:Nat->Bool} {h:H} (f:Fit h):BL (only p h) h:=fun _ _ hb=>((BN f).1 hb).1
def Ap (h:H) (base:Nat) (e:TypeId) (sz:Nat) (s:Value) (n:Nat) (xs:List Value) (ro:Option Nat):Prop:=
 (n=0/\xs=[]/\s=.slice none 0 0/\ro=none)\/
 ∃ k r,s=.slice (some (own k)) n n/\h.blk k=some (.cells xs e (some (r,0)))/\xs.length=n*sz/\xs.all isOne=true/\base<=r/\(∀ j∈h.chain r,base<=j)/\ro=some r
def PR (ro:Option Nat) (B:Blk):Prop:=∀ xs ty r q,B=.cells xs ty (some (r,q))->ro≠some r
theorem Bg {h:H} {xs:List Value} {ty:TypeId}:(h.af xs ty).blk h.next=some (.cells xs ty (some (h.next,0))):=by
 have hd:(h.af xs ty).dyn.get h.next=some (.cells xs ty (some (h.next,0))):=T.get_set_same _ _ _;have hc:(h.af xs ty).chain h.next=[h.next]:=by simp only[H.chain,H.af,T.get_set_same,Option.getD]
 unfold H.blk;rw[hd];simp only[hc,E6,beq_self_eq_true,Bool.true_or]
theorem Da {h:H} (f:Fit h) {xs:List Value} {ty:TypeId} {k:Nat} {B:Blk} (hb:h.blk k=some B):(h.af xs ty).blk k=some B:=by
 have hk:=f.lt hb;rw[<- hb];refine Ar (by simp only[H.af];rw[T.get_set_ne _ _ _ _ (by omega)]) (fun ys u r q hd => ?_);have:=f.ok.1 _ _ _ _ _ hd;simp only[H.af,H.chain];rw[T.get_set_ne _ _ _ _ (by omega)]
theorem Db {h:H} (f:Fit h) {xs:List Value} {ty:TypeId}:Fit (h.af xs ty):=by
 refine⟨fun k hk => ?_,(Lg.af f.ok xs ty).ok f.ok⟩;have hk:h.next+1<=k:=hk;simp only[H.af];rw[T.get_set_ne _ _ _ _ (by omega)];exact f.free k (by omega)
structure Ys (base:Nat) (ro:Option Nat) (h g:H):Prop where
 fit:Fit g
 keep:∀ k B,h.blk k=some B->PR ro B->g.blk k=some B
 log:g.log=h.log
 mark:g.mark=h.mark
 next:h.next<=g.next
 chain:∀ r,r<base->g.chain r=h.chain r
theorem AAP {D:Tab} {E:Env} {h:H} {base:Nat} {t t2 e:TypeId} {sz by_ n kx c i6 i7:Nat} {i8:Option Value} {i9:Bool} {s ze:Value} {xs cs:List Value} {ro:Option Nat} (f:Fit h) (hbm:h.mark<=base) (hbn:base<=h.next) (ap:Ap h base e sz s n xs ro)
  (ht:D.ty.get t=some ⟨.slice e sz by_,i6,i7,i8,i9⟩) (hz:Ak D e=some ze) (hzz:(Nat.beq ze.cells.toList.length sz&&Nat.blt 0 sz&&ze.cells.toList.all isOne)=true) (hzt:Ax D t2 (.slice (some (own kx)) 1 c)=some false)
  (hx:h.cells E (own kx) sz=some cs) (hcl:cs.length=sz) (hc1:cs.all isOne=true) (hrm:roomy (n+1) by_=true) :
  ∃ s' h' ro',Ab D E t t2 s (.slice (some (own kx)) 1 c) h=some (s',h')/\Ap h' base e sz s' (n+1) (xs++cs) ro'/\Ys base ro h h'/\(ro=none/\ro'=some h.next\/ro≠none/\ro'=ro):=by
 have hel:BO E sz ze.cells.toList (.slice (some (own kx)) 1 c) h=some (1,cs):=by
  simp only[BO,C6,hx]
 have hbl:Nat.beq cs.length (1*sz)=true:=by rw[C6,hcl];exact V1 sz
 have hsz:0<sz:=by
  simp only[K0,P0] at hzz;exact hzz.1.2
 rcases ap with⟨rfl,rfl,rfl,rfl⟩|⟨k,r,rfl,hb,hl,h1,hbr,hch,rfl⟩
 ·refine⟨.slice (some (own h.next)) 1 1,h.af cs e,some h.next,?_,.inr ⟨h.next,h.next,rfl,?_,?_,?_,hbn,?_,rfl⟩,⟨Db f,fun k B hb _=>Da f hb,rfl,rfl,U1 _,fun r hr => ?_⟩,.inl ⟨rfl,rfl⟩⟩
  ·unfold Ab;rw[ht];simp only[hz,hzt,hzz,hel,hbl,hrm]
  ·exact Bg
  ·rw[V0];simp[hcl]
  ·rw[V0];exact hc1
  ·intro j hj;simp only[H.chain,H.af,T.get_set_same,Option.getD,H1] at hj;omega
  ·simp only[H.chain,H.af];rw[T.get_set_ne _ _ _ _ (by omega)]
 ·have hkn:=f.lt hb;have hd:=H.ae hb;have hrn:=f.ok.1 _ _ _ _ _ hd;have hgr:h.grow e r (0+(own k).off) (n*sz) (own k).block (xs.drop (own k).off) cs={ h with next:=h.next+1,dyn:=h.dyn.set h.next (.cells (xs++cs) e (some (r,0))),chains:=h.chains.set r (h.next::h.spare r k (0+n*sz) (0+n*sz+cs.length)) }:=by
   unfold H.grow;simp only[own,E3,F2];exact DN (fun j hj=>Y0 hbm (hch j (Fd.1 hj).1))
  generalize hg:({ h with next:=h.next+1,dyn:=h.dyn.set h.next (.cells (xs++cs) e (some (r,0))),chains:=h.chains.set r (h.next::h.spare r k (0+n*sz) (0+n*sz+cs.length)) }:H)=g at hgr;have hcr:g.chain r=h.next::h.spare r k (0+n*sz) (0+n*sz+cs.length):=by
   rw[<- hg];simp only[H.chain,T.get_set_same,Option.getD]
  have hcn:∀ r',r'≠r->g.chain r'=h.chain r':=by
   intro r' hr';rw[<- hg];simp only[H.chain];rw[T.get_set_ne _ _ _ _ hr']
  have hgn:g.next=h.next+1:=by rw[<- hg]
  have hnew:g.blk h.next=some (.cells (xs++cs) e (some (r,0))):=by
   have hdd:g.dyn.get h.next=some (.cells (xs++cs) e (some (r,0))):=by rw[<- hg];exact T.get_set_same _ _ _
   unfold H.blk;rw[hdd];simp only[hcr,E6,beq_self_eq_true,Bool.true_or]
  have hold:∀ j,j≠h.next->g.dyn.get j=h.dyn.get j:=by
   intro j hj;rw[<- hg];exact T.get_set_ne _ _ _ _ hj
  refine⟨.slice (some (own h.next)) (n+1) (n+1),g,some r,?_,.inr ⟨h.next,r,rfl,hnew,?_,?_,hbr,?_,rfl⟩,⟨⟨fun j hj => ?_,fun j ys ty r' p hd' => ?_,?_⟩,?_,?_,?_,?_,?_⟩,.inr ⟨by simp,rfl⟩⟩
  ·unfold Ab;rw[ht];simp only[hz,hzt,hzz,hel,hbl,hrm];have e1:(own k).spot=some 0:=rfl;have e2:(own k).block=k:=rfl;have e3:(own k).off=0:=rfl;have e4:Nat.ble (n+1) n=false:=by
    cases hq:Nat.ble (n+1) n
    ·rfl
    ·rw[Z0] at hq;omega
   simp only[e1,e2,hb,e4];have e5:(Nat.beq n n&&Nat.beq ((own k).off+n*sz) xs.length&&Nat.beq e e&&(xs.drop (own k).off).all isOne&&Nat.ble (own k).off xs.length)=true:=by
    rw[e3,Z1,hl,F2,h1,V1,V1,V1];simp[Nat.ble]
   simp only[e5];rw[<- hgr];rfl
  ·rw[D0,hl,hcl];rw[U3,C6]
  ·rw[J4,h1,hc1];rfl
  ·intro j hj;rw[hcr] at hj;rcases O1.1 hj with rfl|hj
   ·exact hbn
   ·exact hch j (BS.1 hj).1
  ·rw[hgn] at hj;rw[hold j (by omega)];exact f.free j (by omega)
  ·rw[hgn];by_cases hj:j=h.next
   ·subst hj;have:=H.ae hnew;rw[this] at hd'; cases hd'; omega
   ·rw[hold j hj] at hd';have:=f.ok.1 _ _ _ _ _ hd'; omega
  ·rw[hgn];have:=f.ok.2;rw[<- hg];exact O6 this
  ·intro j B hbj hro;have hjn:=f.lt hbj;rw[<- hbj];refine Ar (hold j (by omega)) (fun ys u r' q hd' => ?_);have:B=.cells ys u (some (r',q)):=by
    have:=H.ae hbj;rw[hd'] at this;cases this;rfl
   have hne:=hro _ _ _ _ this;rw[hcn r' (fun h=>hne (by rw[h]))]
  ·rw[<- hg]
  ·rw[<- hg]
  ·rw[hgn];omega
  ·intro r' hr';exact hcn r' (by omega)
theorem Ew {p q:Nat->Bool} {h g:H} (f:Fit h) (f':Fit g) (hg:∀ k B,h.blk k=some B->(∃ xs ty r o,B=.cells xs ty (some (r,o))/\p r=true)->g.blk k=some B) (hp:∀ r,p r=true->q r=true):BL (only p h) (only q g):=by
 intro k B hb;obtain⟨h1,xs,ty,r,o,rfl,h2⟩:=(BN f).1 hb;exact (BN f').2 ⟨hg _ _ h1 ⟨xs,ty,r,o,rfl,h2⟩,xs,ty,r,o,rfl,hp _ h2⟩
theorem Pi {p q:Nat->Bool} {h:H} (f:Fit h) (hp:∀ r,p r=true->q r=true):BL (only p h) (only q h):=Ew f f (fun _ _ hb _=>hb) hp
theorem GV {p q:Nat->Bool} {h g:H} (f:Fit h) (s:Ahd h g) (hp:∀ r,p r=true->q r=true):BL (only p h) (only q g):=Ew f s.fit (fun _ _ hb _=>s.grows _ _ hb) hp
theorem Ahd.ak {h g:H} (s:Ahd h g) {k:Nat} {B:Blk} (hB:B.plain=true) (hk:h.next<=k) (hg:k<g.next) (f:Fit h):Ahd h (g.ak k B):=
 ⟨s.fit.ak hB hg,fun j B' hb=>by
  have:=f.lt hb;rw[BV (by omega)];exact s.grows _ _ hb,s.log,s.mark,s.next,s.chain⟩
theorem Ahd.df {h g g':H} (f:Fit h) (s:Ahd h g) {ro:Option Nat} (hro:∀ r,ro=some r->h.next<=r) (t:Ys h.next ro g g'):Ahd h g':=
 ⟨t.fit,fun k B hb=>t.keep _ _ (s.grows _ _ hb) (fun xs ty r q he hr=>by
  subst he;have h1:=f.ok.1 _ _ _ _ _ (H.ae hb);have:=hro _ hr
  omega),t.log.trans s.log,t.mark.trans s.mark,Y0 s.next t.next,fun r hr=>(t.chain r hr).trans (s.chain r hr)⟩
theorem ET {E:Env} {h:H}:∀ {ks:List Item} {cs:List Value} {x:Item} {l:List Value},Es E h ks cs->rep E h x (.agg ⟨l⟩)->Es E h (ks++[x]) (cs++l)
 | [],cs,x,l,h1,h2=>by
  rw[Es] at h1;subst h1;obtain⟨k,m,tx,ks'⟩:=x;have h3:=h2;rw[rep] at h3;obtain⟨s,he,_⟩:=h3;cases he;rw[V0,V0,Es];exact⟨_,_,_,_,[],rfl,h2,by rw[Es]⟩
 | y::ks,cs,x,l,h1,h2=>by
  rw[Es] at h1;obtain⟨a,b,c,d,l',rfl,h3,h4⟩:=h1;rw[W0,Es];exact⟨a,b,c,d,l'++l,rfl,h3,ET h4 h2⟩
theorem CO {D:Tab} {E:Env} {fn:Func} {A:Ac} {h:H} {t:Tmp} {ty:TypeId} {v:Value} {a:Addr} {ex:Ex} {Q:Value->H->Prop} (hex:ex=.normal\/ex=.ret) (hd:A.defers=[]) (hr:fn.results=#[.cell t ty]) (hv:A.get t=.pointer (some a)) (hl:AI D E ty a h=some v) (hq:Q v h) :
  (ex=.normal\/ex=.ret)/\∃ h2 v',Ay A.defers h=some h2/\ED D E fn A h2=some v'/\Q v' h2:=by
 refine⟨hex,h,v,?_,?_,hq⟩
 ·rw[hd];rfl
 ·unfold ED;rw[hr];simp only[Dl,ares1,hv,hl]
theorem AW {D:Tab} {E:Env} {fn:Func} {A:Ac} {h:H} {t:Tmp} {v:Value} {ex:Ex} {Q:Value->H->Prop} (hex:ex=.normal\/ex=.ret) (hd:A.defers=[]) (hr:fn.results=#[.tmp t]) (hv:A.get t=v) (hq:Q v h) :
  (ex=.normal\/ex=.ret)/\∃ h2 v',Ay A.defers h=some h2/\ED D E fn A h2=some v'/\Q v' h2:=by
 refine⟨hex,h,v,?_,?_,hq⟩
 ·rw[hd];rfl
 ·unfold ED;rw[hr];simp only[Dl,ares1,hv]
/-! ### Calls that are reckoned -/
section
variable {P:Program} {D:Tab} {E:Env} {n0:Nat}
open Classical in
noncomputable def AAD (D:Tab) (E:Env) (I:Aa):Aa:=fun f args h=>
 if c:∃ r n,(ev D E I n).call f args h=some r then some (some c.choose) else none
theorem AAC {I:Aa} {n:Nat} {f:FuncId} {args:List Value} {h:H} {r:Value×H} (hc:(ev D E I n).call f args h=some r):AAD D E I f args h=some (some r):=by
 have c:∃ r n,(ev D E I n).call f args h=some r:=⟨r,n,hc⟩;unfold AAD;rw[dif_pos c];obtain⟨m,hm⟩:=c.choose_spec;have h1:=(AX I (E4 n m)).call hc;have h2:=(AX I (C4 n m)).call hm;rw[h1] at h2;rw[Option.some.inj h2]
theorem UL (T:D.Of P) (hN:Je P) {I:Aa} (hI:Aw P D E n0 I):Aw P D E n0 (AAD D E I):=by
 have key:∀ {f args h r h'},AAD D E I f args h=some (some (r,h'))->∃ n,(ev D E I n).call f args h=some (r,h'):=by
  intro f args h r h' hi;unfold AAD at hi;split at hi
  ·next c=>
   obtain⟨n,hn⟩:=c.choose_spec;rw[Option.some.inj (Option.some.inj hi)] at hn;exact⟨n,hn⟩
  ·cases hi
 refine⟨fun f args h r h' hi φ w R hok => ?_,fun f args h r h' hi o => ?_,fun f args h r h' hi => ?_⟩
 ·obtain⟨n,hn⟩:=key hi;exact (Qr T hN hI n).call _ _ _ _ _ hn φ w R hok
 ·obtain⟨n,hn⟩:=key hi;exact (UJ hI.lg n).call hn o
 ·obtain⟨n,hn⟩:=key hi;exact (ON hI.next n).call hn
def FR (D:Tab) (E:Env) (I:Aa) (S:Lb):Prop:=
 ∀ m f args h v,S m f args h v->Fit (fresh h)->roV v=true/\∃ n h',(ev D E (Fm S I m) n).call f args (fresh h)=some (v,h')/\h'.log=[]
theorem QV (T:D.Of P) (hN:Je P) {I:Aa} (hI:Aw P D E n0 I) {S:Lb} (hS:FR D E I S):∀ m,Aw P D E n0 (Fm S I m):=by
 have key:∀ m,Aw P D E n0 (Fm S I m)->∀ {f args h v φ w},S m f args h v->Tie D E n0 All φ h w->(∀ x∈args,okV φ x)->Sim P D E n0 (callFunc f (args.map (ren φ)).toArray) φ h w v h:=by
  intro m hm f args h v φ w hs R hok;obtain⟨hro,n,h',h1,h2⟩:=hS m f args h v hs ⟨R.fresh,R.root,C0 _⟩;have hev:=Qr T hN hm n;have hlg:=(UJ hm.lg n).call h1 ⟨R.root,C0 _⟩;obtain⟨L,l1,_,l3⟩:=hlg.log;have hL:L=[]:=by
   rw[h2] at l1;have:L++(fresh h).log=[]:=l1.symm;exact (List.append_eq_nil_iff.1 this).1
  exact J9 R (hev.call _ _ _ _ _ h1 φ w (R.marked _ _) hok) hro (fun k hk=>l3 k hk (by rw[hL];simp))
 intro m;induction m using Nat.strongRecOn with
 | ind m ih=>
  refine⟨fun f args h r h' hi φ w R hok => ?_,fun f args h r h' hi o => ?_,fun f args h r h' hi => ?_⟩
  ·unfold Fm at hi;split at hi
   ·next c=>
    cases hi;obtain⟨s,h1,h2⟩:=c.choose_spec;exact key s (ih s h1) h2 R hok
   ·exact hI.sim _ _ _ _ _ hi φ w R hok
  ·unfold Fm at hi;split at hi
   ·cases hi;exact Lg.refl o
   ·exact hI.lg _ _ _ _ _ hi o
  ·unfold Fm at hi;split at hi
   ·cases hi;exact C0 _
   ·exact hI.next _ _ _ _ _ hi
theorem Bd (T:D.Of P) (hN:Je P) {I:Aa} (hI:Aw P D E n0 I) {S:Lb} (hS:FR D E I S):Aw P D E n0 (Cy S I):=by
 have hm:=QV T hN hI hS;refine⟨fun f args h r h' hi φ w R hok => ?_,fun f args h r h' hi o => ?_,fun f args h r h' hi => ?_⟩
 ·unfold Cy at hi;split at hi
  ·next c=>
   cases hi;obtain⟨s,h2⟩:=c.choose_spec;obtain⟨hro,n,h',h3,h4⟩:=hS s f args h _ h2 ⟨R.fresh,R.root,C0 _⟩;have hev:=Qr T hN (hm s) n;have hlg:=(UJ (hm s).lg n).call h3 ⟨R.root,C0 _⟩;obtain⟨L,l1,_,l3⟩:=hlg.log;have hL:L=[]:=by
    rw[h4] at l1;have:L++(fresh h).log=[]:=l1.symm;exact (List.append_eq_nil_iff.1 this).1
   exact J9 R (hev.call _ _ _ _ _ h3 φ w (R.marked _ _) hok) hro (fun k hk=>l3 k hk (by rw[hL];simp))
  ·exact hI.sim _ _ _ _ _ hi φ w R hok
 ·unfold Cy at hi;split at hi
  ·cases hi;exact Lg.refl o
  ·exact hI.lg _ _ _ _ _ hi o
 ·unfold Cy at hi;split at hi
  ·cases hi;exact C0 _
  ·exact hI.next _ _ _ _ _ hi
theorem Wc.dt {I:Aa} {F:Fx} {id:Nat} {l:List Oper} {A A':Ac} {h h':H} {Q:Ex->Ac->H->Prop} (n:Nat) (he:BP D E (ev D E I n) l.toArray l A h=some (A',h')) (hq:Q .normal A' h'):Wc D E I F (.region id l.toArray false) A h Q:=by
 refine⟨n+1,.normal,A',h',?_,hq⟩;show Ae D E (ev D E I n) F (.region id l.toArray false) A h=_;simp only[Ae,runRegion,he];rfl
def RQ (D:Tab) (E:Env) (v:Ev) (ops:Array Oper) (l:List Oper) (A:Ac) (h:H) (Q:Ac->H->Prop):Prop:=∃ A' h',BP D E v ops l A h=some (A',h')/\Q A' h'
theorem RQ.run {v:Ev} {ops:Array Oper} {o:Oper} {rest:List Oper} {A:Ac} {h h':H} {x:Value} {Q:Ac->H->Prop} (hw:Bo ops A o=true) (ho:BC D E v A o h=some (x,h')) (r:RQ D E v ops rest (A.put o.dst x) h' Q):RQ D E v ops (o::rest) A h Q:=by
 obtain⟨A',h2,h3,h4⟩:=r;exact⟨A',h2,RO.run hw ho h3,h4⟩
theorem RQ.bq {v:Ev} {ops:Array Oper} {o:Oper} {rest:List Oper} {A:Ac} {h h':H} {x:Value} {Q:Ac->H->Prop} {j:Nat} {w:Bool} {d:Tmp} (hg:o.guard=some (j,w)) (hd:(ops[j]?).bind (·.dst)=some d) (hv:A.get d=.bool w) (ho:BC D E v A o h=some (x,h')) (r:RQ D E v ops rest (A.put o.dst x) h' Q):RQ D E v ops (o::rest) A h Q:=by
 obtain⟨A',h2,h3,h4⟩:=r;exact⟨A',h2,RO.bq hg hd hv ho h3,h4⟩
theorem RQ.aw {v:Ev} {ops:Array Oper} {o:Oper} {rest:List Oper} {A:Ac} {h:H} {Q:Ac->H->Prop} {j:Nat} {w:Bool} {d:Tmp} (hg:o.guard=some (j,w)) (hd:(ops[j]?).bind (·.dst)=some d) (hv:A.get d=.bool (!w)) (r:RQ D E v ops rest (A.put o.dst undef) h Q):RQ D E v ops (o::rest) A h Q:=by
 obtain⟨A',h2,h3,h4⟩:=r;exact⟨A',h2,RO.aw hg hd hv h3,h4⟩
theorem RQ.nil {v:Ev} {ops:Array Oper} {A:Ac} {h:H} {Q:Ac->H->Prop} (hq:Q A h):RQ D E v ops [] A h Q:=⟨A,h,rfl,hq⟩
theorem RQ.forget {v:Ev} {ops:Array Oper} {l:List Oper} {A:Ac} {h:H} {Q:Ac->H->Prop} (P:Ac->Prop) (hP:P A) (w:∀ A',P A'->RQ D E v ops l A' h Q):RQ D E v ops l A h Q:=w A hP
theorem Wc.fo {I:Aa} {F:Fx} {id:Nat} {l:List Oper} {A:Ac} {h:H} {Q:Ex->Ac->H->Prop} (n:Nat) (r:RQ D E (ev D E I n) l.toArray l A h (Q .normal)):Wc D E I F (.region id l.toArray false) A h Q:=by
 obtain⟨A',h',h1,h2⟩:=r;exact Wc.dt n h1 h2
end
section
variable {D:Tab} {E:Env} {I:Aa}
theorem Wr.round {l:Nat} {args:List Value} {h:H} {r:EO} {A:Ac} {Q:Value->H->Prop} (hb:h.blk l=some (.loop r)) (hp:Cw r.params.toList args ⟨r.tmps,r.n,[]⟩=some A)
  (w:Wc D E I ⟨r.fn,some l⟩ r.assign A h fun ex A1 h1=>ex=.normal/\∃ r1,h1.blk l=some (.loop r1)/\r1.state=.ready/\Wc D E I ⟨r.fn,some l⟩ r.body A1 (h1.aq l (.loop { r1 with state:=.busy })) fun ex A2 h2=>∃ r2,h2.blk l=some (.loop r2)/\
   (ex=.normal/\Q (.bool true) (h2.aq l (.loop { r2 with state:=.ready,pending:=none }))\/ex=.ret/\Q (.bool false) (h2.aq l (.loop { r2 with state:=.done,pending:=some .ret })))) :
  ∃ n v h',(ev D E I n).round l args h=some (v,h')/\Q v h':=by
 obtain⟨n,ex,A1,h1,c1,rfl,r1,hb1,hs1,m,ex2,A2,h2,c2,r2,hb2,q⟩:=w;have c1':=(AX I (E4 n m)).code c1;have c2':=(AX I (C4 n m)).code c2;rcases q with⟨rfl,q⟩|⟨rfl,q⟩
 ·refine⟨max n m+1,_,_,?_,q⟩;show EB (ev D E I (max n m)) l args h=_;simp only[EB,hb,hp,c1',hb1,hs1,c2',hb2]
 ·refine⟨max n m+1,_,_,?_,q⟩;show EB (ev D E I (max n m)) l args h=_;simp only[EB,hb,hp,c1',hb1,hs1,c2',hb2]
theorem Wc.range {fn:FuncId} {f:Operand} {params:Array Tmp} {assign body:Code} {A:Ac} {h:H} {fv x:Value} {h2:H} {r:EO} {Q:Ex->Ac->H->Prop} (n:Nat) (hf:opv A f=some fv)
  (hc:Dm (ev D E I n) fv [.func (.yield (h.next+1)) #[] #[]] ((h.new (.defd false)).new (.loop ⟨.ready,none,fn,A.tmps,A.n,params,assign,body,h.next⟩))=some (x,h2))
  (hb:h2.blk (h.next+1)=some (.loop r)) (hr:r.state≠.busy)
  (w:match r.pending with
   | none=>Q .normal { A with defers:=h.next::A.defers } (h2.aq (h.next+1) (.loop { r with state:=.exhausted }))
   | some c=>Wc D E I ⟨fn,none⟩ c { A with defers:=h.next::A.defers } (h2.aq (h.next+1) (.loop { r with state:=.exhausted })) Q) :
  Wc D E I ⟨fn,none⟩ (.rangeFunc f params assign body) A h Q:=by
 have hn:(h.new (.defd false)).next=h.next+1:=rfl;cases hp:r.pending with
 | none=>
  rw[hp] at w;refine⟨n+1,_,_,_,?_,w⟩;show Ae D E (ev D E I n) ⟨fn,none⟩ (.rangeFunc f params assign body) A h=_;simp only[Ae,hf,hn,hc,hb,hp]
 | some c=>
  rw[hp] at w;obtain⟨m,ex,A',h',c1,q⟩:=w;have hm:=AX (D:=D) (E:=E) I (E4 n m);have c1':=(AX I (C4 n m)).code c1;refine⟨max n m+1,ex,A',h',?_,q⟩;show Ae D E (ev D E I (max n m)) ⟨fn,none⟩ (.rangeFunc f params assign body) A h=_;simp only[Ae,hf,hn,HT hm hc,hb,hp]
  first
   | exact c1'
   |
    split
    ·next hs=>exact absurd hs hr
    ·exact c1'
end
structure Gm (M:Nat->Prop) (h g:H):Prop where
 blk:∀ k B,¬ M k->h.blk k=some B->g.blk k=some B
 next:h.next<=g.next
theorem Gm.refl (M:Nat->Prop) (h:H):Gm M h h:=⟨fun _ _ _ hb=>hb,C0 _⟩
theorem Gm.trans {M:Nat->Prop} {h g f:H} (a:Gm M h g) (b:Gm M g f):Gm M h f:=⟨fun k B hk hb=>b.blk k B hk (a.blk k B hk hb),Y0 a.next b.next⟩
theorem Ahd.keep {M:Nat->Prop} {h g:H} (a:Ahd h g):Gm M h g:=⟨fun k B _ hb=>a.grows k B hb,a.next⟩
/-! ### Visits -/
section
variable {σ:Type} (step:Int->Item->σ->σ×Bool)
mutual
def visit:Int->Item->σ->σ×Bool
 | lv,.mk k n t ks,s=>if (step lv (.mk k n t ks) s).2=false then ((step lv (.mk k n t ks) s).1,false) else Cv (lv+1) ks (step lv (.mk k n t ks) s).1
def Cv:Int->List Item->σ->σ×Bool
 | _,[],s=>(s,true)
 | lv,x::xs,s=>if (visit lv x s).2=false then ((visit lv x s).1,false) else Cv lv xs (visit lv x s).1
end
variable {step:Int->Item->σ->σ×Bool}
theorem Nc {lv k n:Int} {tx:ByteArray} {ks:List Item} {s s1:σ} (h:step lv (.mk k n tx ks) s=(s1,false)):visit step lv (.mk k n tx ks) s=(s1,false):=by rw[visit];simp only[h,if_true]
theorem QT {lv k n:Int} {tx:ByteArray} {ks:List Item} {s s1:σ} (h:step lv (.mk k n tx ks) s=(s1,true)):visit step lv (.mk k n tx ks) s=Cv step (lv+1) ks s1:=by
 rw[visit];simp only[h];rw[if_neg (by simp)]
theorem HV {lv:Int} {x:Item} {xs:List Item} {s s1:σ} (h:visit step lv x s=(s1,false)):Cv step lv (x::xs) s=(s1,false):=by rw[Cv];simp only[h,if_true]
theorem IJ {lv:Int} {x:Item} {xs:List Item} {s s1:σ} (h:visit step lv x s=(s1,true)):Cv step lv (x::xs) s=Cv step lv xs s1:=by
 rw[Cv];simp only[h];rw[if_neg (by simp)]
end
def Cf:Int->Item->Int×Int->(Int×Int)×Bool
 | lv,.mk k n tx _,(c,e)=>if lv>250 then ((c,11),false) else if c=5000 then ((c,2),false) else if k<1\/k>63\/n<0\/n>1099511627776 then ((c,3),false) else if (tx.data.toList.length:Int)>4096 then ((c,11),false) else ((c+1,e),true)
def afterC (r:Int×Int):(Int×Int)×Bool:=if r.2=0 then ((r.1,0),true) else ((r.1,r.2),false)
mutual
theorem Xx:∀ (t:Item) (lv c:Int),0<=c->c<=5000->visit Cf lv t (c,0)=afterC (Fl t c lv)
 | .mk k n tx ks,lv,c,h1,h2=>by
  rw[visit,Fl];by_cases a:lv>250
  ·simp only[Cf,if_pos a,afterC];rfl
  ·by_cases b:c=5000
   ·simp only[Cf,if_neg a,if_pos b,if_pos (show c>=5000 by omega),afterC];rfl
   ·by_cases d:k<1\/k>63\/n<0\/n>1099511627776
    ·simp only[Cf,if_neg a,if_neg b,if_neg (show ¬ (c>=5000) by omega),if_pos d,afterC];rfl
    ·by_cases e:(tx.data.toList.length:Int)>4096
     ·simp only[Cf,if_neg a,if_neg b,if_neg (show ¬ (c>=5000) by omega),if_neg d,if_pos e,afterC];rfl
     ·simp only[Cf,if_neg a,if_neg b,if_neg (show ¬ (c>=5000) by omega),if_neg d,if_neg e];exact SD ks (lv+1) (c+1) (by omega) (by omega)
theorem SD:∀ (ks:List Item) (lv c:Int),0<=c->c<=5000->Cv Cf lv ks (c,0)=afterC (NW ks c lv)
 | [],lv,c,h1,h2=>by rw[Cv,NW];rfl
 | x::xs,lv,c,h1,h2=>by
  have hb:=KG x c lv h1 h2;have hv:=Xx x lv c h1 h2;rw[NW];by_cases a:(Fl x c lv).2=0
  ·rw[if_neg (fun h=>h a)];rw[afterC,if_pos a] at hv;rw[IJ hv];exact SD xs lv _ hb.1 hb.2
  ·rw[if_pos a];rw[afterC,if_neg a] at hv;rw[HV hv,afterC,if_neg a]
end
theorem GX:∀ (ks:List Item) (a:Int),0<=a->lvlL ks a=max a (lvlL ks 0)
 | [],a,ha=>by simp only[lvlL];omega
 | y::ys,a,ha=>by
  have hy:=CG y;have e0:lvlL (y::ys) 0=lvlL ys (Cd y):=by rw[lvlL,if_pos (by omega)]
  rw[e0,lvlL,GX ys (Cd y) (by omega)];by_cases q:Cd y>a
  ·rw[if_pos q,GX ys (Cd y) (by omega)];omega
  ·rw[if_neg q,GX ys a ha];omega
section
variable {D:Tab} {E:Env}
theorem take_one {h:H} {d:Nat} (hb:h.blk d=some (.defd false)) (hm:h.mark<=d):Ay [d] h=some (h.ak d (.defd true)):=by
 simp only[Ay,hb,DM hm]
theorem KB {fn:Func} {A:Ac} {h:H} {t:Tmp} {ty:TypeId} {v:Value} {a:Addr} {d:Nat} {ex:Ex} {Q:Value->H->Prop} (hex:ex=.normal\/ex=.ret) (hd:A.defers=[d]) (hb:h.blk d=some (.defd false)) (hm:h.mark<=d) (hr:fn.results=#[.cell t ty]) (hv:A.get t=.pointer (some a)) (hl:AI D E ty a (h.ak d (.defd true))=some v) (hq:Q v (h.ak d (.defd true))) :
  (ex=.normal\/ex=.ret)/\∃ h2 v',Ay A.defers h=some h2/\ED D E fn A h2=some v'/\Q v' h2:=by
 refine⟨hex,_,v,by rw[hd];exact take_one hb hm,?_,hq⟩;unfold ED;rw[hr];simp only[Dl,ares1,hv,hl]
end
theorem Gb {D:Tab} {E:Env} {fn:Func} {A:Ac} {h:H} {ex:Ex} {Q:Value->H->Prop} (hex:ex=.normal\/ex=.ret) (hd:A.defers=[]) (hr:fn.results=#[]) (hq:Q (.tuple #[]) h) :
  (ex=.normal\/ex=.ret)/\∃ h2 v',Ay A.defers h=some h2/\ED D E fn A h2=some v'/\Q v' h2:=by
 refine⟨hex,h,.tuple #[],?_,?_,hq⟩
 ·rw[hd];rfl
 ·unfold ED;rw[hr];simp only[Dl]
def firstRange:Code->Option (Code×Code)
 | .seq a b=>match firstRange a with
  | some c=>some c
  | none=>firstRange b
 | .cond _ a b=>match firstRange a with
  | some c=>some c
  | none=>firstRange b
 | .block _ c=>firstRange c
 | .scope c=>firstRange c
 | .rangeFunc _ _ a b=>some (a,b)
 | _=>none
def rangeOf (f:Func):Code×Code:=match f.body with
 | some c=>(firstRange c).getD (.skip,.skip)
 | none=>(.skip,.skip)
theorem Gm.ak {M:Nat->Prop} {h g:H} (s:Gm M h g) {k:Nat} {B:Blk} (hk:M k):Gm M h (g.ak k B):=
 ⟨fun j B' hj hb=>by
  rw[BV (by intro e;subst e;exact hj hk)];exact s.blk j B' hj hb,s.next⟩
theorem Gm.ahd {M:Nat->Prop} {h g f:H} (s:Gm M h g) (t:Ahd g f):Gm M h f:=s.trans t.keep
/-! ### Items that are not too great -/
section
variable {D:Tab} {E:Env} {v:Ev} {ops:Array Oper}
def FQ (D:Tab) (E:Env) (v:Ev) (ops:Array Oper) (j:Nat) (l:List Oper) (A:Ac) (h:H) (Q:Ac->H->List Tch->Prop):Prop:=∃ A' h' ts,BA D E v ops j l A h=some (A',h',ts)/\Q A' h' ts
theorem FQ.nil {j:Nat} {A:Ac} {h:H} {Q:Ac->H->List Tch->Prop} (hq:Q A h []):FQ D E v ops j [] A h Q:=⟨A,h,[],rfl,hq⟩
theorem FQ.step {j:Nat} {o:Oper} {rest:List Oper} {A:Ac} {h h1:H} {x:Value} {Q:Ac->H->List Tch->Prop} (hw:Bo ops A o=true) (hm:BG o.op=false) (ho:BC D E v A o (fresh h)=some (x,h1))
  (r:FQ D E v ops (j+1) rest (A.put o.dst x) (back h h1) (fun A' h' ts=>Q A' h' (⟨reads D A o,h1.log,h.next,h1.next,rootedStore A h o.op⟩::ts))):FQ D E v ops j (o::rest) A h Q:=by
 obtain⟨A',h',ts,h2,hq⟩:=r;refine⟨A',h',_,?_,hq⟩;have ho':BC D E v A o { h with mark:=h.next,log:=[] }=some (x,h1):=ho;simp only[BA,hw,ho',hm,Bool.not_false,Bool.true_or];have h2':BA D E v ops (j+1) rest (A.put o.dst x) ({ h1 with mark:=h.mark,log:=h.log }.note h1.log)=some (A',h',ts):=h2;rw[h2']
theorem FQ.pure {j:Nat} {o:Oper} {rest:List Oper} {A:Ac} {h:H} {x:Value} {Q:Ac->H->List Tch->Prop} (hg:o.guard=none) (hm:BG o.op=false) (ho:BC D E v A o (fresh h)=some (x,fresh h))
  (r:FQ D E v ops (j+1) rest (A.put o.dst x) h (fun A' h' ts=>Q A' h' (⟨reads D A o,[],h.next,h.next,rootedStore A h o.op⟩::ts))):FQ D E v ops j (o::rest) A h Q:=
 FQ.step (Ai hg) hm ho (by rw[Bq];exact r)
theorem FQ.eg {j:Nat} {o:Oper} {rest:List Oper} {A:Ac} {h:H} {x:Value} {Q:Ac->H->List Tch->Prop} {i:Nat} {w:Bool} {d:Tmp} (hg:o.guard=some (i,w)) (hd:(ops[i]?).bind (·.dst)=some d) (hv:A.get d=.bool w) (hm:BG o.op=false) (ho:BC D E v A o (fresh h)=some (x,fresh h))
  (r:FQ D E v ops (j+1) rest (A.put o.dst x) h (fun A' h' ts=>Q A' h' (⟨reads D A o,[],h.next,h.next,rootedStore A h o.op⟩::ts))):FQ D E v ops j (o::rest) A h Q:=by
 refine FQ.step ?_ hm ho (by rw[Bq];exact r);unfold Bo;rw[hg];simp only[Br,hd,hv];cases w<;>rfl
theorem FQ.new {j:Nat} {o:Oper} {rest:List Oper} {A:Ac} {h:H} {x:Value} {B:Blk} {Q:Ac->H->List Tch->Prop} (hg:o.guard=none) (hm:BG o.op=false) (ho:BC D E v A o (fresh h)=some (x,(fresh h).new B))
  (r:FQ D E v ops (j+1) rest (A.put o.dst x) (h.new B) (fun A' h' ts=>Q A' h' (⟨reads D A o,[],h.next,h.next+1,rootedStore A h o.op⟩::ts))):FQ D E v ops j (o::rest) A h Q:=by
 refine FQ.step (Ai hg) hm ho ?_;have e:back h ((fresh h).new B)=h.new B:=Cr (h.new B);rw[e];exact r
theorem Ahd.back {h h1:H} (f:Fit h) (a:Ahd (fresh h) h1):Ahd h (back h h1)/\(∀ k,(Hs.back h h1).blk k=h1.blk k)/\(Hs.back h h1).next=h1.next/\∀ p,BL (only p h1) (only p (Hs.back h h1)):=by
 have hl:h1.log=[]:=a.log;have e:Hs.back h h1={ h1 with mark:=h.mark,log:=h.log }:=by
  show ({ h1 with mark:=h.mark,log:=h.log }:H).note h1.log=_;rw[hl];exact Cr _
 rw[e];have hb:∀ k,({ h1 with mark:=h.mark,log:=h.log }:H).blk k=h1.blk k:=fun k=>rfl;have hf:Fit ({ h1 with mark:=h.mark,log:=h.log }:H):=⟨a.fit.free,a.fit.ok.1,Y0 f.ok.2 a.next⟩;refine⟨⟨hf,fun k B hk=>a.grows k B hk,rfl,rfl,a.next,a.chain⟩,hb,rfl,fun p=>Ew a.fit hf (fun _ _ h _=>h) (fun _ h=>h)⟩
theorem FQ.call {j:Nat} {o:Oper} {rest:List Oper} {A:Ac} {h h1:H} {x:Value} {Q:Ac->H->List Tch->Prop} (hg:o.guard=none) (hm:BG o.op=false) (ho:BC D E v A o (fresh h)=some (x,h1)) (hl:h1.log=[])
  (r:FQ D E v ops (j+1) rest (A.put o.dst x) (back h h1) (fun A' h' ts=>Q A' h' (⟨reads D A o,[],h.next,h1.next,rootedStore A h o.op⟩::ts))):FQ D E v ops j (o::rest) A h Q:=
 FQ.step (Ai hg) hm ho (by rw[hl];exact r)
def calm (t:Tch):Bool:=t.writes.isEmpty && !t.rooted
def FC (D:Tab) (E:Env) (v:Ev) (ops:Array Oper) (j:Nat) (l:List Oper) (A:Ac) (h:H) (Q:Ac->H->Prop):Prop:=FQ D E v ops j l A h (fun A' h' ts=>ts.all calm=true/\Q A' h')
theorem FQ.mono {j:Nat} {l:List Oper} {A:Ac} {h:H} {Q Q':Ac->H->List Tch->Prop} (r:FQ D E v ops j l A h Q) (hq:∀ A h ts,Q A h ts->Q' A h ts):FQ D E v ops j l A h Q':=by
 obtain⟨A',h',ts,h1,h2⟩:=r;exact⟨A',h',ts,h1,hq _ _ _ h2⟩
theorem Qb {A:Ac} {h:H} {op:Op} (hs:Bi op=false):rootedStore A h op=false:=by
 cases op<;>first|rfl|cases hs
theorem FC.nil {j:Nat} {A:Ac} {h:H} {Q:Ac->H->Prop} (hq:Q A h):FC D E v ops j [] A h Q:=FQ.nil ⟨rfl,hq⟩
theorem FI {r:Option (List Nat)} {lo hi:Nat} {A:Ac} {h:H} {op:Op} (hs:Bi op=false) {ts:List Tch} (ht:ts.all calm=true):(⟨r,[],lo,hi,rootedStore A h op⟩::ts:List Tch).all calm=true:=by
 rw[V3,ht,Qb hs];rfl
theorem FC.pure {j:Nat} {o:Oper} {rest:List Oper} {A:Ac} {h:H} {x:Value} {Q:Ac->H->Prop} (hg:o.guard=none) (hm:(BG o.op||Bi o.op)=false) (ho:BC D E v A o (fresh h)=some (x,fresh h)) (r:FC D E v ops (j+1) rest (A.put o.dst x) h Q):FC D E v ops j (o::rest) A h Q:=by
 rw[Y2] at hm;exact FQ.pure hg hm.1 ho (r.mono fun _ _ _ ⟨a,b⟩=>⟨FI hm.2 a,b⟩)
theorem FC.eg {j:Nat} {o:Oper} {rest:List Oper} {A:Ac} {h:H} {x:Value} {Q:Ac->H->Prop} {i:Nat} {w:Bool} {d:Tmp} (hg:o.guard=some (i,w)) (hd:(ops[i]?).bind (·.dst)=some d) (hv:A.get d=.bool w) (hm:(BG o.op||Bi o.op)=false) (ho:BC D E v A o (fresh h)=some (x,fresh h)) (r:FC D E v ops (j+1) rest (A.put o.dst x) h Q):FC D E v ops j (o::rest) A h Q:=by
 rw[Y2] at hm;exact FQ.eg hg hd hv hm.1 ho (r.mono fun _ _ _ ⟨a,b⟩=>⟨FI hm.2 a,b⟩)
theorem FC.new {j:Nat} {o:Oper} {rest:List Oper} {A:Ac} {h:H} {x:Value} {B:Blk} {Q:Ac->H->Prop} (hg:o.guard=none) (hm:(BG o.op||Bi o.op)=false) (ho:BC D E v A o (fresh h)=some (x,(fresh h).new B)) (r:FC D E v ops (j+1) rest (A.put o.dst x) (h.new B) Q):FC D E v ops j (o::rest) A h Q:=by
 rw[Y2] at hm;exact FQ.new hg hm.1 ho (r.mono fun _ _ _ ⟨a,b⟩=>⟨FI hm.2 a,b⟩)
theorem FC.forget {j:Nat} {l:List Oper} {A:Ac} {h:H} {Q:Ac->H->Prop} (P:Ac->Prop) (hP:P A) (w:∀ A',P A'->FC D E v ops j l A' h Q):FC D E v ops j l A h Q:=w A hP
theorem Wc.al {I:Aa} {F:Fx} {id:Nat} {l:List Oper} {A:Ac} {h:H} {Q:Ex->Ac->H->Prop} (n:Nat) (hd:Hf l.toArray=true) (r:FC D E (ev D E I n) l.toArray 0 l A h (Q .normal)):Wc D E I F (.region id l.toArray true) A h Q:=by
 obtain⟨A',h',ts,h1,h2,hq⟩:=r;refine⟨n+1,.normal,A',h',?_,hq⟩;show Ae D E (ev D E I n) F (.region id l.toArray true) A h=_;simp only[Ae,runRegion,hd,h1,Gi h2];rfl
theorem Wc.ao {I:Aa} {F:Fx} {id:Nat} {l:List Oper} {A:Ac} {h:H} {Q:Ex->Ac->H->Prop} (n:Nat) (hd:Hf l.toArray=true) (r:FQ D E (ev D E I n) l.toArray 0 l A h (fun A' h' ts=>DB (Region.before l.toArray) ts=true/\Q .normal A' h')):Wc D E I F (.region id l.toArray true) A h Q:=by
 obtain⟨A',h',ts,h1,h2,hq⟩:=r;refine⟨n+1,.normal,A',h',?_,hq⟩;show Ae D E (ev D E I n) F (.region id l.toArray true) A h=_;simp only[Ae,runRegion,hd,h1,h2];rfl
end
/-! ### Some functions are reckoned -/
noncomputable def Yk (D:Tab) (E:Env) (fs:List FuncId) (I:Aa):Aa:=fun f args h=>match fs.any (Nat.beq f) with
 | true=>AAD D E I f args h
 | false=>I f args h
theorem OO {D:Tab} {E:Env} {fs:List FuncId} {I:Aa} {n:Nat} {f:FuncId} {args:List Value} {h:H} {r:Value×H} (hf:fs.any (Nat.beq f)=true) (hc:(ev D E I n).call f args h=some r):Yk D E fs I f args h=some (some r):=by
 unfold Yk;rw[hf];exact AAC hc
theorem AAB {D:Tab} {E:Env} {fs:List FuncId} {I:Aa} {f:FuncId} {args:List Value} {h:H} (hf:fs.any (Nat.beq f)=false):Yk D E fs I f args h=I f args h:=by
 unfold Yk;rw[hf]
theorem UK {P:Program} {D:Tab} {E:Env} {n0:Nat} (T:D.Of P) (hN:Je P) {fs:List FuncId} {I:Aa} (hI:Aw P D E n0 I):Aw P D E n0 (Yk D E fs I):=by
 have hB:=UL T hN hI;have key:∀ {f args h r},Yk D E fs I f args h=some r->AAD D E I f args h=some r\/I f args h=some r:=by
  intro f args h r hh;unfold Yk at hh;split at hh
  ·exact .inl hh
  ·exact .inr hh
 exact⟨fun f args h r h' hi=>by rcases key hi with h1|h1;exact hB.sim _ _ _ _ _ h1;exact hI.sim _ _ _ _ _ h1,
  fun f args h r h' hi=>by rcases key hi with h1|h1;exact hB.lg _ _ _ _ _ h1;exact hI.lg _ _ _ _ _ h1,
  fun f args h r h' hi=>by rcases key hi with h1|h1;exact hB.next _ _ _ _ _ h1;exact hI.next _ _ _ _ _ h1⟩
/-! ### Kids -/
def PS (E:Env) (h:H) (ks:List Item) (sl:Value):Prop:=rep E h (.mk 0 0 ⟨#[]⟩ ks) (.agg ⟨[.int .i64 0,.int .i64 0,.string ⟨#[]⟩,sl]⟩)
theorem SW {E:Env} {h:H} {k m:Int} {tx:ByteArray} {ks:List Item} {a b c sl:Value} (hr:rep E h (.mk k m tx ks) (.agg ⟨[a,b,c,sl]⟩)):PS E h ks sl:=by
 rw[rep] at hr;obtain⟨s,he,hs⟩:=hr;cases he;unfold PS;rw[rep];exact⟨_,rfl,hs⟩
theorem Hl {E:Env} {h:H} {ks ks':List Item} {sl:Value} (h1:PS E h ks sl) (h2:PS E h ks' sl):ks=ks':=by
 have:=Cj h1 h2;simp only[Item.mk.injEq] at this;exact this.2.2.2
theorem Et {E:Env} {h h':H} (g:BL h h') {ks:List Item} {sl:Value} (h1:PS E h ks sl):PS E h' ks sl:=AJ g h1
theorem Gw {E:Env} {h:H} {ks:List Item} {sl:Value} (hr:PS E h ks sl):∃ b c,sl=.slice b ks.length c/\ks.length<9223372036854775808/\(ks=[]\/∃ a cs,b=some a/\h.cells E a (ks.length*4)=some cs/\Es E h ks cs):=by
 obtain⟨b,c,he,hs⟩:=Ao hr;simp only[Value.agg.injEq,Array.mk.injEq,List.cons.injEq,and_true,true_and] at he;refine⟨b,c,he,?_,?_⟩
 ·rcases hs with rfl|⟨a,cs,_,h1,_⟩
  ·decide
  ·exact h1
 ·rcases hs with h|⟨a,cs,h1,_,h2,h3⟩
  ·exact .inl h
  ·exact .inr ⟨a,cs,h1,h2,h3⟩
def orL:List Int->Int
 | []=>0
 | x::xs=>if x≠0 then x else orL xs
def EC (a b:Int):Int:=if a<b then -1 else if a>b then 1 else 0
theorem UV:∀ (a b:List UInt8),cmpL a b=if (a == b)=false then (if Op.bytesLess a b then -1 else 1) else 0
 | [],[]=>rfl
 | [],_::_=>rfl
 | _::_,[]=>rfl
 | a::as,b::bs=>by
  rw[cmpL,UV as bs];have h1:∀ x y:UInt8,x=y↔x.toNat=y.toNat:=fun x y=>⟨fun h=>by rw[h],fun h=>UInt8.toNat.inj h⟩;by_cases q:a.toNat<b.toNat
  ·have e1:a.toNat.blt b.toNat=true:=by rw[P0];exact q
   have ne:a≠b:=fun h=>by rw[h] at q;exact Nat.lt_irrefl _ q
   have e2:(a::as == b::bs)=false:=by simp[ne]
   have e3:Op.bytesLess (a::as) (b::bs)=true:=by
    unfold Op.bytesLess;simp[UInt8.lt_iff_toNat_lt,q,ne]
   rw[e2,e3];simp[e1]
  ·have e1:a.toNat.blt b.toNat=false:=by
    cases qq:a.toNat.blt b.toNat
    ·rfl
    ·rw[P0] at qq;exact absurd qq q
   by_cases q2:b.toNat<a.toNat
   ·have e4:b.toNat.blt a.toNat=true:=by rw[P0];exact q2
    have ne:a≠b:=fun h=>by rw[h] at q2;exact Nat.lt_irrefl _ q2
    have e2:(a::as == b::bs)=false:=by simp[ne]
    have e3:Op.bytesLess (a::as) (b::bs)=false:=by
     unfold Op.bytesLess;simp[UInt8.lt_iff_toNat_lt,q,ne]
    rw[e2,e3];simp[e1,e4]
   ·have e4:b.toNat.blt a.toNat=false:=by
     cases qq:b.toNat.blt a.toNat
     ·rfl
     ·rw[P0] at qq;exact absurd qq q2
    obtain rfl:a=b:=(h1 a b).2 (by omega);have e2:(a::as == a::bs)=(as == bs):=by simp
    have e3:Op.bytesLess (a::as) (a::bs)=Op.bytesLess as bs:=by
     rw[Op.bytesLess];simp[UInt8.lt_iff_toNat_lt]
    rw[e2,e3];simp[e1]
theorem TU (k m:Int) (tx:ByteArray) (ks:List Item) (k' m':Int) (tx':ByteArray) (ks':List Item):HD (.mk k m tx ks) (.mk k' m' tx' ks')=orL [EC k k',EC m m',cmpL tx.data.toList tx'.data.toList,ordL ks ks']:=by
 have hc:=UV tx.data.toList tx'.data.toList;have hn:∀ a b:Int,EC a b=if a≠b then (if a<b then -1 else 1) else 0:=by
  intro a b;unfold EC;by_cases h:a<b
  ·rw[if_pos h,if_pos (show a≠b by omega),if_pos h]
  ·by_cases h2:a>b
   ·rw[if_neg h,if_pos h2,if_pos (show a≠b by omega),if_neg h]
   ·rw[if_neg h,if_neg h2,if_neg (show ¬ a≠b by omega)]
 have ho:∀ (p:Prop) [Decidable p] (q:Bool) (l:List Int),orL ((if p then (if q=true then -1 else 1) else 0)::l)=if p then (if q=true then -1 else 1) else orL l:=by
  intro p _ q l;rw[orL];by_cases h:p
  ·simp only[if_pos h];cases q<;>rfl
  ·simp only[if_neg h];rfl
 have h1:orL [ordL ks ks']=ordL ks ks':=by
  simp only[orL];split
  ·rfl
  ·next h=>exact (D5.1 h).symm
 rw[HD,hc,hn k k',hn m m'];have e:=ho (k≠k') (decide (k<k')) [if m≠m' then (if m<m' then -1 else 1) else 0,if (tx.data.toList == tx'.data.toList)=false then (if Op.bytesLess tx.data.toList tx'.data.toList=true then -1 else 1) else 0,ordL ks ks'];simp only[decide_eq_true_eq] at e;rw[e];have e:=ho (m≠m') (decide (m<m')) [if (tx.data.toList == tx'.data.toList)=false then (if Op.bytesLess tx.data.toList tx'.data.toList=true then -1 else 1) else 0,ordL ks ks'];simp only[decide_eq_true_eq] at e;rw[e,ho ((tx.data.toList == tx'.data.toList)=false),h1]
def chkAll:List Item->Int
 | []=>0
 | x::xs=>if (Fl x 0 1).2≠0 then (Fl x 0 1).2 else chkAll xs
theorem Qy (x y:Item):chkAll [x,y]=JX x y:=by
 simp only[chkAll,JX];split
 ·rfl
 ·split
  ·rfl
  ·next h=>exact (D5.1 h).symm
def H.aa (h:H) (k:Nat) (B:Blk):H:=(h.ak k B).note [k]
theorem PK (h:H) (k:Nat) (B:Blk) (j:Nat):(h.aa k B).blk j=(h.ak k B).blk j:=H.bc _ _ _
theorem KR (h:H) (k:Nat) (B:Blk):(h.aa k B).dyn=h.dyn.set k B:=H.au _ _
theorem Bx (h:H) (k:Nat) (B:Blk):(h.aa k B).next=h.next:=H.ai _ _
theorem EJ (h:H) (ks:List Nat):(h.note ks).mark=h.mark:=by unfold H.note;split<;>rfl
theorem DZ (h:H) (ks:List Nat):(h.note ks).chains=h.chains:=by unfold H.note;split<;>rfl
theorem IS (h:H) (k:Nat) (B:Blk):(h.aa k B).mark=h.mark:=EJ _ _
theorem Cg (h:H) (k:Nat) (B:Blk) (r:Nat):(h.aa k B).chain r=h.chain r:=by
 unfold H.chain;show (((h.ak k B).note [k]).chains.get r).getD []=_;rw[DZ];rfl
theorem AD {h:H} {k:Nat} {B:Blk} (hB:B.plain=true):(h.aa k B).blk k=some B:=by rw[PK];exact BZ hB
theorem KQ {h:H} {k j:Nat} {B:Blk} (hk:j≠k):(h.aa k B).blk j=h.blk j:=by rw[PK];exact BV hk
theorem Hr {h:H} {ks:List Nat} {j:Nat} (hj:j∈(h.note ks).log):j∈h.log\/(j∈ks/\j<h.mark):=by
 unfold H.note at hj;split at hj
 ·exact .inl hj
 ·next m hm=>
  rcases Y4.1 hj with hj|hj
  ·obtain⟨h1,h2⟩:=O5.1 hj;rw[Z0] at h2;exact .inr ⟨h1,by omega⟩
  ·exact .inl hj
theorem PJ {h:H} {k:Nat} {B:Blk} {j:Nat} (hj:j∈(h.aa k B).log):j∈h.log\/(j=k/\j<h.mark):=by
 rcases Hr hj with h1|⟨h1,h2⟩
 ·exact .inl h1
 ·exact .inr ⟨by simpa using h1,h2⟩
theorem Fit.aa {h:H} (f:Fit h) {k:Nat} {B:Blk} (hB:B.plain=true) (hk:k<h.next):Fit (h.aa k B):=by
 have g:=f.ak hB hk;refine⟨fun j hj => ?_,⟨fun j xs ty r p hd => ?_,?_⟩⟩
 ·rw[Bx] at hj;rw[KR];exact g.free j hj
 ·rw[KR] at hd;rw[Bx];exact g.ok.1 _ _ _ _ _ hd
 ·rw[IS,Bx];exact f.ok.2
structure Mod (M:Nat->Prop) (h g:H):Prop where
 fit:Fit g
 blk:∀ k B,¬ M k->h.blk k=some B->g.blk k=some B
 mark:g.mark=h.mark
 next:h.next<=g.next
 chain:∀ r,r<h.next->g.chain r=h.chain r
 log:∀ j,j∈g.log->j∈h.log\/(M j/\j<h.mark)
theorem Mod.refl {M:Nat->Prop} {h:H} (f:Fit h):Mod M h h:=⟨f,fun _ _ _ h=>h,rfl,C0 _,fun _ _=>rfl,fun _ h=>.inl h⟩
theorem Mod.trans {M:Nat->Prop} {h g f:H} (s:Mod M h g) (t:Mod M g f):Mod M h f:=
 ⟨t.fit,fun k B hk hb=>t.blk k B hk (s.blk k B hk hb),t.mark.trans s.mark,Y0 s.next t.next,fun r hr=>(t.chain r (Q1 hr s.next)).trans (s.chain r hr),fun j hj=>by
  rcases t.log j hj with h1|⟨h1,h2⟩
  ·exact s.log j h1
  ·exact .inr ⟨h1,by rw[<- s.mark];exact h2⟩⟩
theorem Ahd.mod {M:Nat->Prop} {h g:H} (a:Ahd h g):Mod M h g:=⟨a.fit,fun k B _ hb=>a.grows k B hb,a.mark,a.next,a.chain,fun j hj=>.inl (by rw[<- a.log];exact hj)⟩
theorem Mod.ahd {M:Nat->Prop} {h g f:H} (s:Mod M h g) (t:Ahd g f):Mod M h f:=s.trans t.mod
theorem Mod.sub {M N:Nat->Prop} {h g:H} (s:Mod M h g) (hMN:∀ k,M k->N k):Mod N h g:=
 ⟨s.fit,fun k B hk hb=>s.blk k B (fun hm=>hk (hMN k hm)) hb,s.mark,s.next,s.chain,fun j hj=>(s.log j hj).imp id (fun h=>⟨hMN j h.1,h.2⟩)⟩
theorem Mod.aa {M:Nat->Prop} {h g:H} (s:Mod M h g) {k:Nat} {B:Blk} (hB:B.plain=true) (hk:M k) (hg:k<g.next):Mod M h (g.aa k B):=
 ⟨s.fit.aa hB hg,fun j B' hj hb=>by
  rw[KQ (by intro e;subst e;exact hj hk)];exact s.blk j B' hj hb,(IS _ _ _).trans s.mark,by rw[Bx];exact s.next,fun r hr=>(Cg _ _ _ _).trans (s.chain r hr),fun j hj=>by
  rcases PJ hj with h1|⟨rfl,h2⟩
  ·exact s.log j h1
  ·exact .inr ⟨hk,by rw[<- s.mark];exact h2⟩⟩
theorem Mod.low {M N:Nat->Prop} {h g:H} (f:Fit h) (s:Mod N h g) (hN:∀ k,N k->M k\/h.next<=k):Mod M h g:=
 ⟨s.fit,fun k B hk hb=>s.blk k B (fun hn=>by
  rcases hN k hn with h1|h1
  ·exact hk h1
  ·have:=f.lt hb;omega) hb,s.mark,s.next,s.chain,fun j hj=>by
  rcases s.log j hj with h1|⟨h1,h2⟩
  ·exact .inl h1
  ·rcases hN j h1 with h3|h3
   ·exact .inr ⟨h3,h2⟩
   ·have:=f.ok.2;omega⟩
theorem CX {h:H} {k o:Nat} {vs xs:List Value} {ty:TypeId} (hb:h.blk k=some (.cells xs ty none)) (hv:vs≠[]) (hl:o+vs.length<=xs.length) (h1:vs.all isOne=true) :
  h.put (aadd (own k) o) vs=some (h.aa k (.cells (xs.take o++vs++xs.drop (o+vs.length)) ty none)):=by
 unfold H.put;cases vs with
 | nil=>exact absurd rfl hv
 | cons v vs=>
  simp only[aadd,own,Z1,hb];rw[h1,show Nat.ble (o+(v::vs).length) xs.length=true from by rw[Z0];exact hl];simp only[Bool.and_self];rfl
theorem Eu {h:H} {k:Nat} {vs xs:List Value} {ty:TypeId} (hb:h.blk k=some (.cells xs ty none)) (hv:vs≠[]) (hl:vs.length=xs.length) (h1:vs.all isOne=true) :
  h.put (own k) vs=some (h.aa k (.cells vs ty none)):=by
 have:=CX (o:=0) hb hv (by omega) h1;rw[show aadd (own k) 0=own k from rfl,List.take_zero,V0,P5 (by omega),X0] at this;exact this
theorem Qm {h:H} {k:Nat} {B:Blk} (hk:k<h.next):((fresh h).aa k B).log=[k]/\back h ((fresh h).aa k B)=h.aa k B:=by
 have hd:∃ m,h.next=m+1/\k<=m:=by cases hn:h.next with|zero=>omega|succ m=>exact⟨m,rfl,by omega⟩
 obtain⟨m,hm1,hm2⟩:=hd;have hble:Nat.ble k m=true:=by rw[Z0];exact hm2
 have e:(fresh h).aa k B={ h with dyn:=h.dyn.set k B,mark:=h.next,log:=[k] }:=by
  unfold H.aa H.note;have:((fresh h).ak k B).mark=m+1:=hm1;rw[this];simp only[List.filter_cons,hble,if_true,List.filter_nil];rw[<- hm1];rfl
 rw[e];exact⟨rfl,rfl⟩
theorem Mod.back {M:Nat->Prop} {h h1:H} (f:Fit h) (a:Mod M (fresh h) h1):Mod M h (Hs.back h h1)/\(∀ k,(Hs.back h h1).blk k=h1.blk k)/\(Hs.back h h1).next=h1.next/\∀ j,j∈h1.log->M j/\j<h.next:=by
 have hb:=BQ h h1;have hn:=Au h h1;have hl:∀ j,j∈h1.log->M j/\j<h.next:=fun j hj=>by
  rcases a.log j hj with h2|h2
  ·cases h2
  ·exact h2
 refine⟨⟨⟨fun k hk => ?_,⟨fun k xs ty r p hd => ?_,?_⟩⟩,fun k B hk hB=>by rw[hb];exact a.blk k B hk hB,?_,by rw[hn];exact a.next,fun r hr => ?_,fun j hj => ?_⟩,hb,hn,hl⟩
 ·rw[hn] at hk;rw[Cs];exact a.fit.free k hk
 ·rw[Cs] at hd;rw[hn];exact a.fit.ok.1 _ _ _ _ _ hd
 ·unfold Hs.back;rw[EJ,H.ai];exact Y0 f.ok.2 a.next
 ·unfold Hs.back;rw[EJ]
 ·unfold Hs.back H.chain;rw[DZ];exact a.chain r hr
 ·rcases Hr hj with h2|⟨h2,h3⟩
  ·exact .inl h2
  ·exact .inr ⟨(hl j h2).1,h3⟩
theorem Fh {b:Array Nat} {ts:List Tch} (S:List Nat) (hc:∀ i e,ts[i]? = some e->S.contains i=false->calm e=true) (hS:∀ i j s t,i<j->(S.contains i=true\/S.contains j=true)->ts[i]? = some s->ts[j]? = some t->ordered b i j=false->meets s t=true):DB b ts=true:=by
 unfold DB;simp only[O2];rintro⟨x,i⟩ hx ⟨y,j⟩ hy;have hx:=F4.1 hx;have hy:=F4.1 hy;simp only at hx hy ⊢;by_cases hij:i<j;rotate_left
 ·have:Nat.blt i j=false:=by
   cases q:Nat.blt i j
   ·rfl
   ·rw[P0] at q;omega
  rw[this];rfl
 cases ho:ordered b i j with
 | true=>simp
 | false=>
  by_cases h1:S.contains i=true
  ·rw[hS i j x y hij (.inl h1) hx hy ho];simp
  ·by_cases h2:S.contains j=true
   ·rw[hS i j x y hij (.inr h2) hx hy ho];simp
   ·have c1:=hc i x hx (by simpa using h1);have c2:=hc j y hy (by simpa using h2);simp only[calm,K0,C3,List.isEmpty_iff] at c1 c2;have:meets x y=true:=by
     unfold meets;rw[c1.1,c2.1,c1.2,c2.2];simp[apart?]
    rw[this,Bool.or_true]
theorem Km {b:Array Nat} {S:List Nat} {n:Nat} {U:List (Nat×Nat)} (h:((List.range n).all fun i=>(List.range n).all fun j => !(Nat.blt i j) || !(S.contains i||S.contains j)||ordered b i j||U.contains (i,j))=true) {i j:Nat} (hij:i<j) (hj:j<n) (hs:S.contains i=true\/S.contains j=true) (ho:ordered b i j=false):(i,j)∈U:=by
 rw[O2] at h;have h1:=h i (List.mem_range.2 (by omega));rw[O2] at h1;have h2:=h1 j (List.mem_range.2 hj);have e1:Nat.blt i j=true:=by rw[P0];exact hij
 have e2:(S.contains i||S.contains j)=true:=by rcases hs with h|h<;>rw[h]<;>simp
 rw[e1,e2,ho] at h2;simpa using h2
theorem FO {b:Array Nat} {l:List Tch} {s:Tch} (hc:l.all calm=true) (h:((List.range l.length).all fun i=>ordered b i l.length)=true):DB b (l++[s])=true:=by
 refine Fh [l.length] (fun i e hi hs => ?_) (fun i j s' t hij hs h1 h2 ho => ?_)
 ·have hil:i<l.length:=by
   have h1:=(O0.1 hi).1;rw[D0] at h1;have h2:i≠l.length:=by
    intro e;subst e;simp at hs
   simp at h1;omega
  rw[O4 hil] at hi;rw[O2] at hc;exact hc e (H3 hi)
 ·have hj:j<l.length+1:=by
   have:=(O0.1 h2).1;simpa using this
  have hjl:j=l.length:=by
   rcases hs with hs|hs
   ·have:i=l.length:=by simpa using hs
    omega
   ·simpa using hs
  subst hjl;rw[O2] at h;rw[h i (List.mem_range.2 hij)] at ho;cases ho
theorem HI {s t:Tch} {l:List Nat} (ht:t.writes=[]) (hr:t.reads=some l) (hd:∀ k,k∈s.writes->k ∉ l) (hn:t.rooted=false):meets s t=true:=by
 unfold meets;rw[ht,hr,hn];have h1:apart? s.writes (some l)=true:=by
  cases hw:s.writes with
  | nil=>rfl
  | cons w ws=>
   simp only[apart?,O2];intro k hk;rw[C3,List.any_eq_false];intro j hj hjk;obtain rfl:=U0 hjk;exact hd k (by rw[hw];exact hk) hj
 have h2:apart? s.writes (some [])=true:=by cases hw:s.writes<;>simp[apart?]
 rw[h1,h2];simp[apart?]
theorem AK {s t:Tch} {l:List Nat} (hs:s.writes=[]) (hr:s.reads=some l) (hd:∀ k,k∈t.writes->k ∉ l) (hn:s.rooted=false) (hb:∀ k,k∈t.writes->k<s.lo\/s.hi<=k):meets s t=true:=by
 unfold meets;rw[hs,hr,hn];have h1:apart? t.writes (some l)=true:=by
  cases hw:t.writes with
  | nil=>rfl
  | cons w ws=>
   simp only[apart?,O2];intro k hk;rw[C3,List.any_eq_false];intro j hj hjk;obtain rfl:=U0 hjk;exact hd k (by rw[hw];exact hk) hj
 have h3:(t.writes.all fun k=>Nat.blt k s.lo||Nat.ble s.hi k)=true:=by
  rw[O2];intro k hk;rcases hb k hk with h|h
  ·rw[show Nat.blt k s.lo=true from by rw[P0];exact h];rfl
  ·rw[show Nat.ble s.hi k=true from by rw[Z0];exact h,Bool.or_true]
 rw[h1,h3];simp[apart?]
section
variable {D:Tab} {E:Env} {v:Ev} {ops:Array Oper}
theorem FQ.aa {j:Nat} {o:Oper} {rest:List Oper} {A:Ac} {h:H} {k:Nat} {B:Blk} {x:Value} {Q:Ac->H->List Tch->Prop} (hg:o.guard=none) (hm:BG o.op=false) (hk:k<h.next) (ho:BC D E v A o (fresh h)=some (x,(fresh h).aa k B))
  (r:FQ D E v ops (j+1) rest (A.put o.dst x) (h.aa k B) (fun A' h' ts=>Q A' h' (⟨reads D A o,[k],h.next,h.next,rootedStore A h o.op⟩::ts))):FQ D E v ops j (o::rest) A h Q:=by
 obtain⟨e1,e2⟩:=Qm (h:=h) (k:=k) (B:=B) hk;refine FQ.step (Ai hg) hm ho ?_;rw[e2,e1,Bx];exact r
theorem FQ.mod {j:Nat} {o:Oper} {rest:List Oper} {A:Ac} {h h1:H} {x:Value} {Q:Ac->H->List Tch->Prop} (hg:o.guard=none) (hm:BG o.op=false) (ho:BC D E v A o (fresh h)=some (x,h1))
  (r:FQ D E v ops (j+1) rest (A.put o.dst x) (back h h1) (fun A' h' ts=>Q A' h' (⟨reads D A o,h1.log,h.next,h1.next,rootedStore A h o.op⟩::ts))):FQ D E v ops j (o::rest) A h Q:=
 FQ.step (Ai hg) hm ho r
end
section
variable {D:Tab} {E:Env} {I:Aa}
theorem Wc.state {F:Fx} {c:Code} {A:Ac} {h:H} {Q:Ex->Ac->H->Prop} (P:Ac->H->Prop) (hP:P A h) (w:∀ A' h',P A' h'->Wc D E I F c A' h' Q):Wc D E I F c A h Q:=w A h hP
end
def Ap2 (h:H) (base:Nat) (e:TypeId) (sz:Nat) (s:Value) (n:Nat) (xs:List Value) (ro:Option Nat):Prop:=
 (n=0/\xs=[]/\s=.slice none 0 0/\ro=none)\/
 ∃ k r,s=.slice (some (own k)) n n/\h.blk k=some (.cells xs e (some (r,0)))/\xs.length=n*sz/\xs.all isOne=true/\base<=r/\r<h.next/\(∀ j∈h.chain r,∃ ys ty p,h.dyn.get j=some (.cells ys ty (some (r,p)))/\p+ys.length<=n*sz)/\ro=some r
theorem XE {D:Tab} {E:Env} {h:H} {base:Nat} {t t2 e:TypeId} {sz by_ n kx c i6 i7:Nat} {i8:Option Value} {i9:Bool} {s ze:Value} {xs cs:List Value} {ro:Option Nat} (f:Fit h) (hbn:base<=h.next) (ap:Ap2 h base e sz s n xs ro)
  (ht:D.ty.get t=some ⟨.slice e sz by_,i6,i7,i8,i9⟩) (hz:Ak D e=some ze) (hzz:(Nat.beq ze.cells.toList.length sz&&Nat.blt 0 sz&&ze.cells.toList.all isOne)=true) (hzt:Ax D t2 (.slice (some (own kx)) 1 c)=some false)
  (hx:h.cells E (own kx) sz=some cs) (hcl:cs.length=sz) (hc1:cs.all isOne=true) (hrm:roomy (n+1) by_=true) :
  ∃ s' h' ro',Ab D E t t2 s (.slice (some (own kx)) 1 c) h=some (s',h')/\Ap2 h' base e sz s' (n+1) (xs++cs) ro'/\Ys base ro h h'/\(ro=none/\ro'=some h.next\/ro≠none/\ro'=ro):=by
 have hel:BO E sz ze.cells.toList (.slice (some (own kx)) 1 c) h=some (1,cs):=by
  simp only[BO,C6,hx]
 have hbl:Nat.beq cs.length (1*sz)=true:=by rw[C6,hcl];exact V1 sz
 have hsz:0<sz:=by
  simp only[K0,P0] at hzz;exact hzz.1.2
 rcases ap with⟨rfl,rfl,rfl,rfl⟩|⟨k,r,rfl,hb,hl,h1,hbr,hrx,hch,rfl⟩
 ·refine⟨.slice (some (own h.next)) 1 1,h.af cs e,some h.next,?_,.inr ⟨h.next,h.next,rfl,?_,?_,?_,hbn,I5 _,?_,rfl⟩,⟨Db f,fun k B hb _=>Da f hb,rfl,rfl,U1 _,fun r hr => ?_⟩,.inl ⟨rfl,rfl⟩⟩
  ·unfold Ab;rw[ht];simp only[hz,hzt,hzz,hel,hbl,hrm]
  ·exact Bg
  ·rw[V0];simp[hcl]
  ·rw[V0];exact hc1
  ·intro j hj;simp only[H.chain,H.af,T.get_set_same,Option.getD,H1] at hj;subst hj;exact⟨cs,e,0,T.get_set_same _ _ _,by simp[hcl]⟩
  ·simp only[H.chain,H.af];rw[T.get_set_ne _ _ _ _ (by omega)]
 ·have hkn:=f.lt hb;have hd:=H.ae hb;have hrn:=f.ok.1 _ _ _ _ _ hd;have hgr:h.grow e r (0+(own k).off) (n*sz) (own k).block (xs.drop (own k).off) cs={ h with next:=h.next+1,dyn:=h.dyn.set h.next (.cells (xs++cs) e (some (r,0))),chains:=h.chains.set r (h.next::h.spare r k (0+n*sz) (0+n*sz+cs.length)) }:=by
   unfold H.grow;simp only[own,E3,F2];have hgone:h.gone r k (0+n*sz) (0+n*sz+cs.length)=[]:=by
    rw[J5];intro j hj;obtain⟨hj1,hj2⟩:=Fd.1 hj;obtain⟨ys,ty,p,hd,hle⟩:=hch j hj1;unfold H.ay at hj2;split at hj2
    ·cases hj2
    ·rw[hd] at hj2;simp only[K0,P0] at hj2;omega
   rw[hgone];exact Cr _
  generalize hg:({ h with next:=h.next+1,dyn:=h.dyn.set h.next (.cells (xs++cs) e (some (r,0))),chains:=h.chains.set r (h.next::h.spare r k (0+n*sz) (0+n*sz+cs.length)) }:H)=g at hgr;have hcr:g.chain r=h.next::h.spare r k (0+n*sz) (0+n*sz+cs.length):=by
   rw[<- hg];simp only[H.chain,T.get_set_same,Option.getD]
  have hcn:∀ r',r'≠r->g.chain r'=h.chain r':=by
   intro r' hr';rw[<- hg];simp only[H.chain];rw[T.get_set_ne _ _ _ _ hr']
  have hgn:g.next=h.next+1:=by rw[<- hg]
  have hnew:g.blk h.next=some (.cells (xs++cs) e (some (r,0))):=by
   have hdd:g.dyn.get h.next=some (.cells (xs++cs) e (some (r,0))):=by rw[<- hg];exact T.get_set_same _ _ _
   unfold H.blk;rw[hdd];simp only[hcr,E6,beq_self_eq_true,Bool.true_or]
  have hold:∀ j,j≠h.next->g.dyn.get j=h.dyn.get j:=by
   intro j hj;rw[<- hg];exact T.get_set_ne _ _ _ _ hj
  refine⟨.slice (some (own h.next)) (n+1) (n+1),g,some r,?_,.inr ⟨h.next,r,rfl,hnew,?_,?_,hbr,by rw[hgn];omega,?_,rfl⟩,⟨⟨fun j hj => ?_,fun j ys ty r' p hd' => ?_,?_⟩,?_,?_,?_,?_,?_⟩,.inr ⟨by simp,rfl⟩⟩
  ·unfold Ab;rw[ht];simp only[hz,hzt,hzz,hel,hbl,hrm];have e1:(own k).spot=some 0:=rfl;have e2:(own k).block=k:=rfl;have e3:(own k).off=0:=rfl;have e4:Nat.ble (n+1) n=false:=by
    cases hq:Nat.ble (n+1) n
    ·rfl
    ·rw[Z0] at hq;omega
   simp only[e1,e2,hb,e4];have e5:(Nat.beq n n&&Nat.beq ((own k).off+n*sz) xs.length&&Nat.beq e e&&(xs.drop (own k).off).all isOne&&Nat.ble (own k).off xs.length)=true:=by
    rw[e3,Z1,hl,F2,h1,V1,V1,V1];simp[Nat.ble]
   simp only[e5];rw[<- hgr];rfl
  ·rw[D0,hl,hcl];rw[U3,C6]
  ·rw[J4,h1,hc1];rfl
  ·intro j hj;rw[hcr] at hj;rcases O1.1 hj with rfl|hj
   ·exact⟨xs++cs,e,0,H.ae hnew,by rw[D0,hl,hcl,U3,C6];omega⟩
   ·obtain⟨ys,ty,p,hd,hle⟩:=hch j (BS.1 hj).1;have hjn:j≠h.next:=by
     intro e;subst e;rw[f.free _ (C0 _)] at hd;cases hd
    refine⟨ys,ty,p,by rw[hold j hjn];exact hd,?_⟩;rw[U3];omega
  ·rw[hgn] at hj;rw[hold j (by omega)];exact f.free j (by omega)
  ·rw[hgn];by_cases hj:j=h.next
   ·subst hj;have:=H.ae hnew;rw[this] at hd'; cases hd'; omega
   ·rw[hold j hj] at hd';have:=f.ok.1 _ _ _ _ _ hd'; omega
  ·rw[hgn];have:=f.ok.2;rw[<- hg];exact O6 this
  ·intro j B hbj hro;have hjn:=f.lt hbj;rw[<- hbj];refine Ar (hold j (by omega)) (fun ys u r' q hd' => ?_);have:B=.cells ys u (some (r',q)):=by
    have:=H.ae hbj;rw[hd'] at this;cases this;rfl
   have hne:=hro _ _ _ _ this;rw[hcn r' (fun h=>hne (by rw[h]))]
  ·rw[<- hg]
  ·rw[<- hg]
  ·rw[hgn];omega
  ·intro r' hr';exact hcn r' (by omega)
theorem Ap2.mod {M:Nat->Prop} {h g:H} {base:Nat} {e:TypeId} {sz:Nat} {s:Value} {n:Nat} {xs:List Value} {ro:Option Nat} (a:Ap2 h base e sz s n xs ro) (m:Mod M h g) (hp:∀ k B,M k->h.blk k=some B->B.plain=true):Ap2 g base e sz s n xs ro:=by
 rcases a with a|⟨k,r,e1,e2,e3,e4,e5,e6,e7,e8⟩
 ·exact .inl a
 ·have keep:∀ j ys ty p,h.blk j=some (.cells ys ty (some (r,p)))->g.blk j=some (.cells ys ty (some (r,p))):=fun j ys ty p hb=>m.blk _ _ (fun hM=>by
   have:=hp _ _ hM hb;cases this) hb
  refine .inr ⟨k,r,e1,keep _ _ _ _ e2,e3,e4,e5,Q1 e6 m.next,fun j hj => ?_,e8⟩;rw[m.chain r e6] at hj;obtain⟨ys,ty,p,hd,hle⟩:=e7 j hj;have hb:h.blk j=some (.cells ys ty (some (r,p))):=by
   unfold H.blk;rw[hd];simp only;rw[show (h.chain r).contains j=true from by simpa using hj]
  exact⟨ys,ty,p,H.ae (keep _ _ _ _ hb),hle⟩
theorem Dv {M:Nat->Prop} {p q:Nat->Bool} {h g:H} (f:Fit h) (m:Mod M h g) (hM:∀ k B,M k->h.blk k=some B->B.plain=true) (hp:∀ r,p r=true->q r=true):BL (only p h) (only q g):=
 Ew f m.fit (fun k B hb ⟨xs,ty,r,o,hB,_⟩=>m.blk k B (fun hk=>by
  have:=hM k B hk hb;subst hB;cases this) hb) hp
def loops:Code->List Code
 | .seq a b=>loops a++loops b
 | .cond _ a b=>loops a++loops b
 | .block _ c=>loops c
 | .scope c=>loops c
 | .loop c=>c::loops c
 | .rangeFunc _ _ a b=>loops a++loops b
 | _=>[]
def loopAt (f:Func) (n:Nat):Code:=match f.body with
 | some c=>(loops c).getD n .skip
 | none=>.skip
mutual
def Bu:Item->Prop
 | .mk k n tx ks=>1<=k/\k<=63/\0<=n/\n<=1099511627776/\tx.data.toList.length<=4096/\goodL ks
def goodL:List Item->Prop
 | []=>True
 | x::xs=>Bu x/\goodL xs
end
theorem FF:∀ {xs:List Item} {y:Item},goodL xs->Bu y->goodL (xs++[y])
 | [],y,_,hy=>by rw[V0,goodL,goodL];exact⟨hy,trivial⟩
 | x::xs,y,h,hy=>by
  rw[goodL] at h;rw[W0,goodL];exact⟨h.1,FF h.2 hy⟩
theorem De:∀ (xs:List Item) (y:Item),iszL (xs++[y])=iszL xs+isz y
 | [],y=>by simp[iszL]
 | x::xs,y=>by rw[W0,iszL,De xs y,iszL];omega
mutual
theorem Mx:∀ (t:Item) (b l:Int),Bu t->0<=b->b+isz t<=5000->l-1+Cd t<=250->(Fl t b l).2=0
 | .mk k n tx ks,b,l,hg,h0,h1,h2=>by
  rw[Bu] at hg;obtain⟨g1,g2,g3,g4,g5,g6⟩:=hg;rw[isz] at h1;rw[Cd] at h2;have hb:=DO ks 0 (Int.le_refl _);rw[Fl,if_neg (by omega),if_neg (by push_cast at h1;omega),if_neg (by omega),if_neg (by omega)];exact Mv ks (b+1) (l+1) g6 (by omega) (by push_cast at h1;omega) (by omega)
theorem Mv:∀ (ks:List Item) (b l:Int),goodL ks->0<=b->b+iszL ks<=5000->l-1+lvlL ks 0<=250->(NW ks b l).2=0
 | [],b,l,_,_,_,_=>by rw[NW]
 | x::xs,b,l,hg,h0,h1,h2=>by
  rw[goodL] at hg;rw[iszL] at h1;push_cast at h1;have hx:=CG x;rw[lvlL,if_pos (by omega)] at h2;have hm:=GX xs (Cd x) (by omega);have e:=Mx x b l hg.1 h0 (by omega) (by omega);have es:=Mw x b l e;rw[NW,if_neg (by rw[e];simp),es];exact Mv xs (b+isz x) l hg.2 (by omega) (by omega) (by omega)
end
theorem Io (xs:List Item) (y:Item):lvlL (xs++[y]) 0=max (lvlL xs 0) (Cd y):=by
 have key:∀ (xs:List Item) (m:Int),lvlL (xs++[y]) m=(if Cd y>lvlL xs m then Cd y else lvlL xs m):=by
  intro xs;induction xs with
  | nil=>intro m;simp only[V0,lvlL];rfl
  | cons x xs ih=>intro m;rw[W0,lvlL,ih,lvlL]
 rw[key]
 split<;>omega
theorem DP (h g:H) (r:Nat):(back h g).chain r=g.chain r:=by
 unfold back H.chain;rw[DZ]
theorem Gh {h q:H} (f:Fit h) (fq:Fit q) (hn:h.next<=q.next):Fit (back h q):=by
 refine⟨fun k hk => ?_,⟨fun k xs ty r p hd => ?_,?_⟩⟩
 ·rw[Au] at hk;rw[Cs];exact fq.free k hk
 ·rw[Cs] at hd;rw[Au];exact fq.ok.1 _ _ _ _ _ hd
 ·unfold back;rw[EJ,H.ai];exact Y0 f.ok.2 hn
theorem FK {h q:H} (f:Fit h) (fq:Fit q) (hn:h.next<=q.next) (p:Nat->Bool):BL (only p q) (only p (back h q)):=
 Ew fq (Gh f fq hn) (fun k B hb _=>by rw[BQ];exact hb) (fun _ h=>h)
theorem Ap2.back {h q:H} {base:Nat} {e:TypeId} {sz:Nat} {s:Value} {n:Nat} {xs:List Value} {ro:Option Nat} (a:Ap2 q base e sz s n xs ro):Ap2 (Hs.back h q) base e sz s n xs ro:=by
 rcases a with a|⟨k,r,e1,e2,e3,e4,e5,e6,e7,e8⟩
 ·exact .inl a
 ·exact .inr ⟨k,r,e1,by rw[BQ];exact e2,e3,e4,e5,by rw[Au];exact e6,fun j hj=>by
   rw[DP] at hj;obtain⟨ys,ty,p,h1,h2⟩:=e7 j hj;exact⟨ys,ty,p,by rw[Cs];exact h1,h2⟩,e8⟩
theorem Gg (h q:H):(back h q).mark=h.mark:=by unfold back;rw[EJ]
theorem P8 {h q:H} (hl:q.log=[]):(back h q).log=h.log:=by
 unfold back;rw[hl];show (H.note _ []).log=_;rw[Cr]
theorem HK (t:Item):1<=isz t:=by obtain⟨_,_,_,ks⟩:=t;rw[isz];omega
theorem LC:∀ l:List Item,l.length<=iszL l
 | []=>by simp[iszL]
 | x::l=>by rw[iszL,I1];have:=HK x;have:=LC l;omega
theorem Ahd.af {h:H} (f:Fit h) (xs:List Value) (ty:TypeId):Ahd h (h.af xs ty):=
 ⟨Db f,fun k B hb=>Da f hb,rfl,rfl,U1 _,fun r hr=>by
  simp only[H.chain,H.af];rw[T.get_set_ne _ _ _ _ (by omega)]⟩
structure Cln (h h':H) (e:TypeId) (n:Nat) (cs:List Value) (s:Value):Prop where
 ahd:Ahd h h'
 get:∃ k rt,s=.slice (some (own k)) n n/\h'.blk k=some (.cells cs e rt)/\h.next<=k/\(rt=none/\n=0\/rt=some (k,0)/\h'.chain k=[k])
theorem KE {D:Tab} {E:Env} {h:H} {t e:TypeId} {sz by_ n c i6 i7:Nat} {i8:Option Value} {i9:Bool} {ze:Value} {cs:List Value} {a:Addr} (f:Fit h)
  (ht:D.ty.get t=some ⟨.slice e sz by_,i6,i7,i8,i9⟩) (hz:Ak D e=some ze) (hzz:(Nat.beq ze.cells.toList.length sz&&Nat.blt 0 sz&&ze.cells.toList.all isOne)=true)
  (hx:h.cells E a (n*sz)=some cs) (hcl:cs.length=n*sz) (hrm:roomy n by_=true) :
  ∃ s h',Ab D E t t (.slice (some (own h.next)) 0 0) (.slice (some a) n c) (h.new (.cells [] e none))=some (s,h')/\Cln h h' e n cs s:=by
 have a1:Ahd h (h.new (.cells [] e none)):=Ahd.aj f rfl;have b1:(h.new (.cells [] e none)).blk h.next=some (.cells [] e none):=AA rfl;have hx1:(h.new (.cells [] e none)).cells E a (n*sz)=some cs:=AV a1.grows hx;generalize h.new (.cells [] e none)=h1 at a1 b1 hx1 ⊢;have hel:BO E sz ze.cells.toList (.slice (some a) n c) h1=some (n,cs):=by simp only[BO,hx1]
 have hbl:Nat.beq cs.length (n*sz)=true:=by rw[hcl];exact V1 _
 have hzt:Ax D t (.slice (some a) n c)=some false:=by unfold Ax;rw[ht]
 cases n with
 | zero=>
  refine⟨.slice (some (own h.next)) 0 0,h1,?_,a1,h.next,none,rfl,?_,C0 _,.inl ⟨rfl,rfl⟩⟩
  ·unfold Ab;rw[ht];simp only[hz,hzt,hzz,hel,hbl,Nat.ble_self_eq_true]
  ·rw[b1];have:cs=[]:=O3.1 (by rw[hcl,U5]);rw[this]
 | succ n=>
  refine⟨.slice (some (own h1.next)) (n+1) (n+1),h1.af cs e,?_,a1.trans (Ahd.af a1.fit _ _),h1.next,some (h1.next,0),rfl,Bg,a1.next,.inr ⟨rfl,by simp only[H.chain,H.af,T.get_set_same,Option.getD]⟩⟩;unfold Ab;rw[ht];have hb':h1.blk (own h.next).block=some (.cells [] e none):=b1;have hr':roomy (0+(n+1)) by_=true:=by rw[Z1];exact hrm
  have hle:Nat.ble (0+(n+1)) 0=false:=by
   cases q:Nat.ble (0+(n+1)) 0
   ·rfl
   ·rw[Z0] at q;omega
  have hsp:(own h.next).spot=some 0:=rfl;simp only[hz,hzt,hzz,hel,hbl,hr',hb',hle,hsp,H.cells,U5,V0];simp only[Z1]
theorem NE {D:Tab} {t e:TypeId} {sz by_ n c m i6 i7:Nat} {i8:Option Value} {i9:Bool} {a:Addr} {h:H} (ht:D.ty.get t=some ⟨.slice e sz by_,i6,i7,i8,i9⟩) (hmn:m<=n) (hnc:n<=c) (hs:a.spot≠some 0) :
  ∃ c',m<=c'/\Av D t (.slice (some a) n c) none (some (.int .i64 (m:Nat))) none h=some (.slice (some a) m c',h):=by
 have h1:Nat.ble n c=true:=by rw[Z0];exact hnc
 have h2:abound (some (.int .i64 (m:Nat))) c n=some m:=by
  have:AN ((m:Nat):Int) (c+1)=true:=by
   show Nat.blt m (c+1)=true;rw[P0];omega
  simp only[abound,this,M0]
 unfold Av;rw[ht];have h3:abound none m 0=some 0:=rfl;simp only[h1,asliceS,h2,h3,U5,Nat.sub_zero];obtain⟨b,o,sp⟩:=a;have ha:aadd ⟨b,o,sp⟩ 0=⟨b,o,sp⟩:=by
  match sp with
  | none=>rfl
  | some 0=>rfl
  | some (_+1)=>rfl
 cases hc:Nat.beq c 0 with
 | false=>exact⟨c,by omega,by simp only[ha]⟩
 | true=>
  have:=U0 hc;obtain rfl:m=0:=by omega
  match sp,hs with
  | none,_=>exact⟨0,C0 _,rfl⟩
  | some (_+1),_=>exact⟨0,C0 _,rfl⟩
  | some 0,hs=>exact absurd rfl hs
theorem DA (a:Addr):aadd a 0=a:=by
 obtain⟨b,o,sp⟩:=a
 match sp with
 | none=>rfl
 | some 0=>rfl
 | some (_+1)=>rfl
theorem Mod.fy {h g:H} (m:Mod (fun _=>False) h g) (hl:h.log=[]):Ahd h g:=
 ⟨m.fit,fun k B hb=>m.blk k B (fun h=>h) hb,by
  rw[hl];refine J5.2 fun j hj => ?_;rcases m.log j hj with h1|⟨h1,_⟩
  ·rw[hl] at h1;cases h1
  ·exact h1,m.mark,m.next,m.chain⟩
def GC (b:Nat) (e:TypeId) (h:H) (r:Nat) (P:Nat->Nat->Prop):Prop:=∀ j∈h.chain r,b<=j/\∃ ys,h.dyn.get j=some (.cells ys e (some (r,0)))/\P j ys.length
theorem GC.mono {b:Nat} {e:TypeId} {h:H} {r:Nat} {P Q:Nat->Nat->Prop} (c:GC b e h r P) (hP:∀ j l,P j l->Q j l):GC b e h r Q:=fun j hj=>by
 obtain⟨h1,ys,h2,h3⟩:=c j hj;exact⟨h1,ys,h2,hP _ _ h3⟩
theorem UW {h:H} {j r:Nat} {ys:List Value} {e:TypeId} {p:Nat} (hj:j∈h.chain r) (hd:h.dyn.get j=some (.cells ys e (some (r,p)))):h.blk j=some (.cells ys e (some (r,p))):=by
 unfold H.blk;rw[hd];simp only[show (h.chain r).contains j=true from by simpa using hj]
theorem Ahd.ez {b:Nat} {e:TypeId} {h g:H} {r:Nat} {P:Nat->Nat->Prop} (a:Ahd h g) (hr:r<h.next) (hP:GC b e h r P):GC b e g r P:=fun j hj=>by
 rw[a.chain r hr] at hj;obtain⟨q1,ys,q2,q3⟩:=hP j hj;exact⟨q1,ys,H.ae (a.grows _ _ (UW hj q2)),q3⟩
def T3 (x y z:Int):Prop:=(x<=0->y<=0->z<=0)/\(x<0->y<=0->z<0)/\(x<=0->y<0->z<0)/\(x=0->y=0->z=0)
theorem I9 (a b:Int):EC a b = - EC b a:=by
 unfold EC
 split<;>split<;>(try split)<;>(try split)<;>omega
theorem Gd (a b:Int):EC a b=0↔a=b:=by
 unfold EC;split
 ·omega
 ·split<;>omega
theorem JA (a:UInt8) (as:List UInt8) (b:UInt8) (bs:List UInt8):cmpL (a::as) (b::bs)=if EC (a.toNat:Int) b.toNat≠0 then EC (a.toNat:Int) b.toNat else cmpL as bs:=by
 rw[cmpL];by_cases q:a.toNat<b.toNat
 ·have e1:a.toNat.blt b.toNat=true:=by rw[P0];exact q
  have e2:EC (a.toNat:Int) b.toNat = -1:=by unfold EC;rw[if_pos (by omega)]
  rw[e1,e2];simp
 ·have e1:a.toNat.blt b.toNat=false:=by
   cases qq:a.toNat.blt b.toNat
   ·rfl
   ·rw[P0] at qq;exact absurd qq q
  by_cases q2:b.toNat<a.toNat
  ·have e3:b.toNat.blt a.toNat=true:=by rw[P0];exact q2
   have e2:EC (a.toNat:Int) b.toNat=1:=by unfold EC;rw[if_neg (by omega),if_pos (by omega)]
   rw[e1,e2,e3];simp
  ·have e3:b.toNat.blt a.toNat=false:=by
    cases qq:b.toNat.blt a.toNat
    ·rfl
    ·rw[P0] at qq;exact absurd qq q2
   have e2:EC (a.toNat:Int) b.toNat=0:=by rw[Gd];omega
   rw[e1,e2,e3];simp
theorem Mt:∀ (a b:List UInt8),cmpL a b = - cmpL b a
 | [],[]=>rfl
 | [],_::_=>rfl
 | _::_,[]=>rfl
 | a::as,b::bs=>by
  rw[JA,JA,Mt as bs,I9 a.toNat b.toNat]
  split<;>split<;>omega
theorem Ms:∀ (a b:List UInt8),cmpL a b=0↔a=b
 | [],[]=>by simp[cmpL]
 | [],_::_=>by simp[cmpL]
 | _::_,[]=>by simp[cmpL]
 | a::as,b::bs=>by
  rw[JA];have h1:=Gd a.toNat b.toNat;have h2:=Ms as bs;have h3:a=b↔a.toNat=b.toNat:=⟨fun h=>by rw[h],fun h=>UInt8.toNat.inj h⟩;simp only[List.cons.injEq];split
  ·constructor
   ·intro h;omega
   ·rintro⟨rfl,_⟩;rename_i hh;exact absurd (h1.2 rfl) hh
  ·next hh=>
   have hab:a=b:=by rw[h3];have:=h1.1 (D5.1 hh);omega
   rw[h2];exact⟨fun h=>⟨hab,h⟩,fun h=>h.2⟩
theorem Ns (k m:Int) (tx:ByteArray) (ks:List Item) (k' m':Int) (tx':ByteArray) (ks':List Item):HD (.mk k m tx ks) (.mk k' m' tx' ks')=if EC k k'≠0 then EC k k' else if EC m m'≠0 then EC m m' else if cmpL tx.data.toList tx'.data.toList≠0 then cmpL tx.data.toList tx'.data.toList else ordL ks ks':=by
 rw[TU];simp only[orL];split
 ·rfl
 ·split
  ·rfl
  ·split
   ·rfl
   ·split
    ·rfl
    ·next h=>exact (D5.1 h).symm
mutual
theorem MP:∀ (a b:Item),HD a b = - HD b a
 | .mk k m tx ks,.mk k' m' tx' ks'=>by
  rw[Ns,Ns,I9 k k',I9 m m',Mt tx.data.toList tx'.data.toList,MN ks ks']
  split<;>split<;>(try split)<;>(try split)<;>(try split)<;>(try split)<;>omega
theorem MN:∀ (a b:List Item),ordL a b = - ordL b a
 | [],[]=>by simp[ordL]
 | [],_::_=>by simp[ordL]
 | _::_,[]=>by simp[ordL]
 | a::as,b::bs=>by
  rw[ordL,ordL,MP a b,MN as bs]
  split<;>split<;>omega
end
mutual
theorem MO:∀ (a b:Item),HD a b=0->a=b
 | .mk k m tx ks,.mk k' m' tx' ks',h=>by
  rw[Ns] at h;split at h
  ·next hh=>exact absurd h hh
  ·next h1=>
   split at h
   ·next hh=>exact absurd h hh
   ·next h2=>
    split at h
    ·next hh=>exact absurd h hh
    ·next h3=>
     have e1:=(Gd _ _).1 (D5.1 h1);have e2:=(Gd _ _).1 (D5.1 h2);have e3:=(Ms _ _).1 (D5.1 h3);have e4:=ML ks ks' h;have e5:tx=tx':=by
      apply ByteArray.ext;exact L5 e3
     rw[e1,e2,e5,e4]
theorem ML:∀ (a b:List Item),ordL a b=0->a=b
 | [],[],_=>rfl
 | [],_::_,h=>by simp[ordL] at h
 | _::_,[],h=>by simp[ordL] at h
 | a::as,b::bs,h=>by
  rw[ordL] at h;split at h
  ·next hh=>exact absurd h hh
  ·next h1=>rw[MO a b (D5.1 h1),ML as bs h]
end
theorem TS (a:Item):HD a a=0:=by
 have:=MP a a;omega
theorem Sx:(∀ (A:Ac) (d:Option Tmp) (v:Value),(A.put d v).n=A.n)/\(∀ (A:Ac) (d:Option Tmp) (v:Value),(A.put d v).defers=A.defers)/\
  (∀ (α:Type) (l:List α),[]++l=l)/\(∀ (α:Type) (l:List α),l++[]=l)/\(∀ (α:Type) (l:List α),l.toArray.toList=l)/\(∀ (α:Type) (a:α) (l:List α),(a::l)[0]? = some a)/\(∀ (α:Type) (a:α) (l:List α) (i:Nat),(a::l)[i+1]? = l[i]?)/\(!true)=false/\(!false)=true/\(∀ (α:Type) (h:Decidable True) (a b:α),@ite α True h a b=a)/\(∀ (α:Type) (h:Decidable False) (a b:α),@ite α False h a b=b)/\(∀ p:Prop,(p/\True)=p)/\(∀ h:Decidable True,@decide True h=true)/\(∀ h:Decidable False,@decide False h=false):=
 ⟨fun _ _ _=>Ac.cm ..,fun _ _ _=>Ac.put_defers ..,fun _ _=>V0 _,fun _ _=>X0 _,fun _ _=>rfl,fun _ _ _=>rfl,fun _ _ _ _=>rfl,rfl,rfl,fun _ _ _ _=>if_true _ _,fun _ _ _ _=>if_false _ _,fun _=>and_true _,fun _=>decide_true _,fun _=>decide_false _⟩
theorem Ox:type_of% (And.intro @Bo.eq_1 (And.intro @BC.eq_1 (And.intro @aop.eq_1 (And.intro @aop.eq_2 (And.intro @aop.eq_3 (And.intro @aop.eq_4 (And.intro @aop.eq_5 (And.intro @aop.eq_6 (And.intro @aop.eq_7 (And.intro @aop.eq_8 (And.intro @aop.eq_9 (And.intro @aop.eq_10 (And.intro @aop.eq_11 (And.intro @aop.eq_12 (And.intro @aop.eq_13 (And.intro @aop.eq_14 (And.intro @aop.eq_15 (And.intro @aop.eq_16 (And.intro @aop.eq_17 (And.intro @aop.eq_18 (And.intro @aop.eq_19 (And.intro @aop.eq_20 (And.intro @aop.eq_21 (And.intro @aop.eq_22 (And.intro @aop.eq_23 (And.intro @aop.eq_24 (And.intro @aop.eq_25 (And.intro @aop.eq_26 (And.intro @aop.eq_27 (And.intro @aop.eq_28 (And.intro @aop.eq_29 (And.intro @aop.eq_30 (And.intro @opv.eq_1 (And.intro @opv.eq_2 (And.intro @opv.eq_3 (And.intro @opv.eq_4 (And.intro @HZ.eq_1 (And.intro @HZ.eq_2 (And.intro @JO.eq_1 (And.intro @JO.eq_2 (And.intro @MQ.eq_1 (And.intro @MQ.eq_2 (And.intro @Af.eq_1 (And.intro @Af.eq_2 (And.intro @Af.eq_3 (And.intro @Af.eq_4 (And.intro @Af.eq_5 (And.intro @Af.eq_6 (And.intro @Af.eq_7 (And.intro @Af.eq_8 (And.intro @Af.eq_9 (And.intro @Af.eq_10 (And.intro @Af.eq_11 (And.intro @aun.eq_1 (And.intro @aun.eq_2 (And.intro @aun.eq_3 (And.intro @aun.eq_4 (And.intro @Jd.eq_1 (And.intro @Jd.eq_2 (And.intro @Jd.eq_3 (And.intro @Jd.eq_4 (And.intro @Jd.eq_5 (And.intro @Jd.eq_6 (And.intro @Jd.eq_7 (And.intro @Jd.eq_8 (And.intro @Jd.eq_9 (And.intro @EX.eq_1 (And.intro @EX.eq_2 (And.intro @EX.eq_3 (And.intro @roV.eq_1 (And.intro @roV.eq_2 (And.intro @roV.eq_3 (And.intro @roV.eq_4 (And.intro @roV.eq_5 (And.intro @roV.eq_6 (And.intro @roV.eq_7 (And.intro @roV.eq_8 (And.intro @roV.eq_9 (And.intro @roV.eq_10 (And.intro @roV.eq_11 (And.intro @roV.eq_12 (And.intro @roV.eq_13 (And.intro @roV.eq_14 (And.intro @roV.eq_15 (And.intro @roV.eq_16 (And.intro @roV.eq_17 (And.intro @roV.eq_18 (And.intro @pair.eq_1 (And.intro @pair.eq_2 (And.intro @Dm.eq_1 (And.intro @Dm.eq_2 (And.intro @Dm.eq_3 (@Br))))))))))))))))))))))))))))))))))))))))))))))))))))))))))))))))))))))))))))))))))))))))))))):=And.intro @Bo.eq_1 (And.intro @BC.eq_1 (And.intro @aop.eq_1 (And.intro @aop.eq_2 (And.intro @aop.eq_3 (And.intro @aop.eq_4 (And.intro @aop.eq_5 (And.intro @aop.eq_6 (And.intro @aop.eq_7 (And.intro @aop.eq_8 (And.intro @aop.eq_9 (And.intro @aop.eq_10 (And.intro @aop.eq_11 (And.intro @aop.eq_12 (And.intro @aop.eq_13 (And.intro @aop.eq_14 (And.intro @aop.eq_15 (And.intro @aop.eq_16 (And.intro @aop.eq_17 (And.intro @aop.eq_18 (And.intro @aop.eq_19 (And.intro @aop.eq_20 (And.intro @aop.eq_21 (And.intro @aop.eq_22 (And.intro @aop.eq_23 (And.intro @aop.eq_24 (And.intro @aop.eq_25 (And.intro @aop.eq_26 (And.intro @aop.eq_27 (And.intro @aop.eq_28 (And.intro @aop.eq_29 (And.intro @aop.eq_30 (And.intro @opv.eq_1 (And.intro @opv.eq_2 (And.intro @opv.eq_3 (And.intro @opv.eq_4 (And.intro @HZ.eq_1 (And.intro @HZ.eq_2 (And.intro @JO.eq_1 (And.intro @JO.eq_2 (And.intro @MQ.eq_1 (And.intro @MQ.eq_2 (And.intro @Af.eq_1 (And.intro @Af.eq_2 (And.intro @Af.eq_3 (And.intro @Af.eq_4 (And.intro @Af.eq_5 (And.intro @Af.eq_6 (And.intro @Af.eq_7 (And.intro @Af.eq_8 (And.intro @Af.eq_9 (And.intro @Af.eq_10 (And.intro @Af.eq_11 (And.intro @aun.eq_1 (And.intro @aun.eq_2 (And.intro @aun.eq_3 (And.intro @aun.eq_4 (And.intro @Jd.eq_1 (And.intro @Jd.eq_2 (And.intro @Jd.eq_3 (And.intro @Jd.eq_4 (And.intro @Jd.eq_5 (And.intro @Jd.eq_6 (And.intro @Jd.eq_7 (And.intro @Jd.eq_8 (And.intro @Jd.eq_9 (And.intro @EX.eq_1 (And.intro @EX.eq_2 (And.intro @EX.eq_3 (And.intro @roV.eq_1 (And.intro @roV.eq_2 (And.intro @roV.eq_3 (And.intro @roV.eq_4 (And.intro @roV.eq_5 (And.intro @roV.eq_6 (And.intro @roV.eq_7 (And.intro @roV.eq_8 (And.intro @roV.eq_9 (And.intro @roV.eq_10 (And.intro @roV.eq_11 (And.intro @roV.eq_12 (And.intro @roV.eq_13 (And.intro @roV.eq_14 (And.intro @roV.eq_15 (And.intro @roV.eq_16 (And.intro @roV.eq_17 (And.intro @roV.eq_18 (And.intro @pair.eq_1 (And.intro @pair.eq_2 (And.intro @Dm.eq_1 (And.intro @Dm.eq_2 (And.intro @Dm.eq_3 (@Br))))))))))))))))))))))))))))))))))))))))))))))))))))))))))))))))))))))))))))))))))))))))))))
section
variable {D:Tab} {E:Env}
theorem Rn:type_of% (@RO.nil):=@RO.nil
theorem Rr {v:Ev} {ops:Array Oper} {o:Oper} {rest:List Oper} {A:Ac} {h h':H} {x:Value} {res:Option (Ac×H)} (hg:o.guard=none) (ho:BC D E v A o h=some (x,h')) (r:BP D E v ops rest (A.put o.dst x) h'=res):BP D E v ops (o::rest) A h=res:=RO.run (Ai hg) ho r
def ABp:Op->Bool
 | .alloc _|.box _ _|.buildSlice _ _ _|.makeMap _ _|.makeSlice _ _ _|.range _ _=>true
 | _=>false
theorem Fp {v:Ev} {ops:Array Oper} {j:Nat} {o:Oper} {rest:List Oper} {A:Ac} {h:H} {x:Value} {Q:Ac->H->Prop} (hg:o.guard=none) (hm:(BG o.op||Bi o.op)=false) (_:ABp o.op=false) (ho:BC D E v A o (fresh h)=some (x,fresh h)) (r:FC D E v ops (j+1) rest (A.put o.dst x) h Q):FC D E v ops j (o::rest) A h Q:=FC.pure hg hm ho r
theorem Qp {v:Ev} {ops:Array Oper} {j:Nat} {o:Oper} {rest:List Oper} {A:Ac} {h:H} {x:Value} {Q:Ac->H->List Tch->Prop} (hg:o.guard=none) (hm:BG o.op=false) (_:ABp o.op=false) (ho:BC D E v A o (fresh h)=some (x,fresh h))
  (r:FQ D E v ops (j+1) rest (A.put o.dst x) h (fun A' h' ts=>Q A' h' (⟨reads D A o,[],h.next,h.next,rootedStore A h o.op⟩::ts))):FQ D E v ops j (o::rest) A h Q:=FQ.pure hg hm ho r
end
end Go.Hs
