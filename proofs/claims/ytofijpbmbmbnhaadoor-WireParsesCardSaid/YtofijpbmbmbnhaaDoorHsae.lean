/- What the evaluator reckons, as a statement on calls; closed calls as known functions; more fuel. -/
import Derived.Test.YtofijpbmbmbnhaaDoorHsad
import Derived.Lib.Bytealg
import Derived.Laws.Externs
import Derived.Lib.SmallJoins
set_option linter.unusedSimpArgs false
set_option linter.unusedVariables false
namespace Go.Hs
section
variable {P:Program} {D:Tab} {E:Env} {n0:Nat} {φ:Ph} {h h':H} {w:World}
theorem doCall_calls (TT:D.Of P) {I:Known} {ev:Ev} (hv:EvOk P D E n0 ev) {f:FuncId} {args:List Value} {r:Value} (hI:I f args h=none) (hc:doCall D E I ev f args h=some (r,h')) (R:Tie D E n0 All φ h w) (hok:∀ x∈args,okV φ x) :
  Calls P f (args.map (ren φ)).toArray w fun e w'=>∃ φ',e=.returned (ren φ' r)∧okV φ' r∧Tie D E n0 All φ' h' w'∧Ext φ φ' h.next h'.next w∧Kept φ w w':=by
 intro cs
 unfold doCall at hc
 rw[hI] at hc
 simp only at hc
 split at hc
 ·cases hc
 ·next fn hfn=>
  have hf:=TT.fn _ _ hfn
  split at hc
  ·cases hc
  ·next body hbody=>
   have hent:=enter_act (φ:=φ) P f fn hf body hbody args
   have hFT:FTie φ ⟨f,none⟩ (Frame.enter P f (args.map (ren φ)).toArray .normal):=⟨rfl,rfl,rfl⟩
   have hAT:=enter_tie fn hok
   have fin:∀ A1 h1 ex,(ex=.normal∨ex=.ret)→ev.code ⟨f,none⟩ body ⟨T.ofList args 0 .nil,max args.length fn.ntmps,[]⟩ h=some (ex,A1,h1)→
     (match takeAll A1.defers h1 with
      | some h=>(ares D E fn A1 h).map fun r=>(r,h)
      | none=>none)=some (r,h')→
     ∃ e w' fr,(∃ φ',e=.returned (ren φ' r)∧okV φ' r∧Tie D E n0 All φ' h' w'∧Ext φ φ' h.next h'.next w∧Kept φ w w')∧Comes P (lone (Frame.enter P f (args.map (ren φ)).toArray .normal) cs w) (lone fr cs w') e∧fr.fn=f∧fr.leaving P w' e:=by
    intro A1 h1 ex hex hcode hres
    obtain⟨φ1,w1,a1,r1,e1⟩:=hv.code _ _ _ _ _ _ _ hcode φ w (Frame.enter P f (args.map (ren φ)).toArray .normal) _ [] cs R hAT .nil hFT
    rw[← hent] at e1
    split at hres
    ·next h2 ht=>
     simp only[Option.map_eq_some_iff] at hres
     obtain⟨r',hr',he⟩:=hres
     cases he
     have hret:∃ k,Steps P (lone (Frame.enter P f (args.map (ren φ)).toArray .normal) cs w) (lone (rput (Frame.enter P f (args.map (ren φ)).toArray .normal) a1 k a1.defers) cs w1):=by
      rcases hex with rfl|rfl
      ·exact⟨[],Steps.trans e1 (.one (f_end rfl))⟩
      ·obtain⟨k0,e2⟩:=e1
       exact⟨_,e2.trans (.one (f_ret rfl))⟩
     obtain⟨k,hret⟩:=hret
     obtain⟨w2,q1,q2,q3⟩:=takeAll_sim (P:=P) a1 (Frame.enter P f (args.map (ren φ)).toArray .normal) k cs r1.defers ht r1.tie
     obtain⟨p1,p2⟩:=ares_run TT q1 r1.act hr'
     exact⟨.returned (ren φ1 r),w2,rput (Frame.enter P f (args.map (ren φ)).toArray .normal) a1 k [],⟨φ1,rfl,p2,q1,r1.ext.of_next (takeAll_next ht),r1.kept.trans q2 r1.ext⟩,hret.trans q3,rfl,rfl,rfl,rfl,fn,hf,p1⟩
    ·cases hres
   split at hc
   ·next hcode=>exact fin _ _ _ (.inl rfl) hcode hc
   ·next hcode=>exact fin _ _ _ (.inr rfl) hcode hc
   ·cases hc
theorem Tie.start (hro:∀ b o v,E b o=some v→b<n0∧w.cell? ⟨b,o,none⟩=some (ren (fun _=>none) v)∧foV v=true) (hn:n0≤w.heap.size):Tie D E n0 All (fun _=>none) H.empty w:=
 ⟨hro,hn,fun _ _ _ _ hk=>(by cases hk),fun _ _ _ _ _ _ _ hk=>(by cases hk),fun _ _ _ _ _ _ _ _ _ _ _ _ _ _ hk=>(by cases hk),fun _ _ _ _ _ _ _ hk=>(by cases hk),
  fun _ _=>T.get_nil _,fun _ _ _ _ _ hd=>by rw[show H.empty.dyn=T.nil from rfl,T.get_nil] at hd;cases hd⟩
theorem Tie.kept0 {w':World} (R:Tie D E n0 All φ h w) (K:Kept (fun _=>none) w w'):Tie D E n0 All φ h w':=by
 have hb:∀ c,c<w.heap.size→w'.heap[c]? = w.heap[c]? := fun c hc=>K.block c hc (fun _ _ _ hk=>by cases hk)
 refine⟨fun b o v hv => ?_,Nat.le_trans R.size K.size,fun k c b e hk => ?_,fun k B c b e hV hB hk => ?_,R.apart,R.exact,R.fresh,R.root⟩
 ·obtain⟨h1,h2,h3⟩:=R.ro b o v hv
  refine⟨h1,?_,h3⟩
  rw[← h2]
  simp only[World.cell?,hb b (Nat.lt_of_lt_of_le h1 R.size)]
 ·obtain⟨a1,a2,a3⟩:=R.dom k c b e hk
  exact⟨a1,a2,Nat.lt_of_lt_of_le a3 K.size⟩
 ·exact (R.blk k B c b e hV hB hk).le (Le.refl _) (hb c (R.dom _ _ _ _ hk).2.2)
theorem closed_sim (TT:D.Of P) (hN:NoNum P) {E0:Env} {I0:Known} (hI:∀ n0,KnownGood P D E0 n0 I0) (hE:∀ b o v,E0 b o=some v→E b o=some v) {n:Nat} {f:FuncId} {args:List Value} {r:Value} {h0:H}
  (hev:(ev D E0 I0 n).call f args H.empty=some (r,h0)) (hr:roV r=true) (ha:∀ x∈args,roV x=true) (R:Tie D E n0 All φ h w):Sim P D E n0 (callFunc f (args.map (ren φ)).toArray) φ h w r h:=by
 have R0:Tie D E0 w.heap.size All (fun _=>none) H.empty w:=Tie.start (fun b o v hv=>by
  obtain⟨h1,h2,h3⟩:=R.ro b o v (hE b o v hv)
  exact⟨Nat.lt_of_lt_of_le h1 R.size,h2,h3⟩) (Nat.le_refl _)
 have hargs:args.map (ren φ)=args.map (ren fun _=>none):=List.map_congr_left fun x hx=>by rw[(roV.ok φ (ha x hx)).2,(roV.ok _ (ha x hx)).2]
 obtain⟨nx,w1,h1,h2⟩:=(ev_ok TT hN (hI w.heap.size) n).call _ _ _ _ _ hev _ w R0 (fun x hx=>(roV.ok _ (ha x hx)).1)
 rw[← hargs] at h1
 refine⟨nx,w1,h1,fun c cs => ?_⟩
 obtain⟨φ',w',g1,g2,g3,g4,g5⟩:=h2 c cs
 have e1:ren φ' r=ren φ r:=by rw[(roV.ok φ' hr).2,(roV.ok φ hr).2]
 refine⟨φ,w',(roV.ok φ hr).1,R.kept0 g4,Ext.refl _ _ _,⟨g4.os,g4.tape,g4.output,g4.size,fun c hc _=>g4.block c hc (fun _ _ _ hk=>by cases hk)⟩,?_⟩
 rw[e1] at g5
 exact g5
end
/-! ## More fuel -/
structure EvLe (v v':Ev):Prop where
 call:∀ {f args h r},v.call f args h=some r→v'.call f args h=some r
 round:∀ {l args h r},v.round l args h=some r→v'.round l args h=some r
 code:∀ {F c A h r},v.code F c A h=some r→v'.code F c A h=some r
section
variable {D:Tab} {E:Env} {v v':Ev}
theorem acall_mono (hv:EvLe v v') {f:Value} {args:List Value} {h:H} {r:Value×H} (hp:acall v f args h=some r):acall v' f args h=some r:=by
 unfold acall at hp ⊢
 split at hp
 ·exact hv.call hp
 ·exact hv.round hp
 ·cases hp
theorem oper1_mono (hv:EvLe v v') {A:Ac} {o:Oper} {h:H} {r:Value×H} (hp:oper1 D E v A o h=some r):oper1 D E v' A o h=some r:=by
 unfold oper1 at hp ⊢
 split at hp
 ·simp only[bind,Option.bind_eq_some_iff] at hp ⊢
  obtain⟨x,h1,y,h2,h3⟩:=hp
  exact⟨x,h1,y,h2,acall_mono hv h3⟩
 ·exact hp
theorem runOps_mono (hv:EvLe v v') {ops:Array Oper}:∀ {l:List Oper} {A:Ac} {h:H} {r:Ac×H},runOps D E v ops l A h=some r→runOps D E v' ops l A h=some r:=by
 intro l
 induction l with
 | nil=>intro A h r hp;exact hp
 | cons o l ih=>
  intro A h r hp
  simp only[runOps] at hp ⊢
  split at hp
  ·next hw=>
   cases ho:oper1 D E v A o h with
   | none=>rw[ho] at hp;cases hp
   | some x=>
    rw[ho] at hp
    rw[oper1_mono hv ho]
    exact ih hp
  ·exact ih hp
theorem runFree_mono (hv:EvLe v v') {ops:Array Oper}:∀ {l:List Oper} {j:Nat} {A:Ac} {h:H} {r:Ac×H×List Tch},runFree D E v ops j l A h=some r→runFree D E v' ops j l A h=some r:=by
 intro l
 induction l with
 | nil=>intro j A h r hp;exact hp
 | cons o l ih=>
  intro j A h r hp
  simp only[runFree] at hp ⊢
  split at hp
  ·cases ho:oper1 D E v A o { h with mark:=h.next,log:=[] } with
   | none=>rw[ho] at hp;cases hp
   | some x=>
    obtain⟨x,g⟩:=x
    rw[ho] at hp
    rw[oper1_mono hv ho]
    simp only at hp ⊢
    split at hp
    ·cases hr:runFree D E v ops (j+1) l (A.put o.dst x) ({ g with mark:=h.mark,log:=h.log }.note g.log) with
     | none=>rw[hr] at hp;cases hp
     | some y=>rw[hr] at hp;rw[ih hr];exact hp
    ·cases hp
  ·cases hr:runFree D E v ops (j+1) l (A.put o.dst undef) h with
   | none=>rw[hr] at hp;cases hp
   | some y=>rw[hr] at hp;rw[ih hr];exact hp
theorem runRegion_mono (hv:EvLe v v') {ops:Array Oper} {draw:Bool} {A:Ac} {h:H} {r:Ac×H} (hp:runRegion D E v ops draw A h=some r):runRegion D E v' ops draw A h=some r:=by
 unfold runRegion at hp ⊢
 split at hp
 ·exact runOps_mono hv hp
 ·split at hp
  ·cases hp
  ·cases hr:runFree D E v ops 0 ops.toList A h with
   | none=>rw[hr] at hp;cases hp
   | some y=>rw[hr] at hp;rw[runFree_mono hv hr];exact hp
theorem EvLe.step (hv:EvLe v v') (I:Known):EvLe (stepEv D E I v) (stepEv D E I v') where
 call:=by
  intro f args h r hp
  simp only[stepEv,doCall] at hp ⊢
  split at hp
  ·exact hp
  ·split at hp
   ·cases hp
   ·next fn hfn=>
    split at hp
    ·cases hp
    ·next body hb=>
     cases hc:v.code ⟨f,none⟩ body ⟨T.ofList args 0 .nil,max args.length fn.ntmps,[]⟩ h with
     | none=>rw[hc] at hp;cases hp
     | some x=>rw[hc] at hp;rw[hv.code hc];exact hp
 round:=by
  intro l args h r hp
  simp only[stepEv,doRound] at hp ⊢
  split at hp
  ·next r0 hb=>
   split at hp
   ·cases hp
   ·next A hA=>
    cases hc:v.code ⟨r0.fn,some l⟩ r0.assign A h with
    | none=>rw[hc] at hp;cases hp
    | some x=>
     rw[hc] at hp
     rw[hv.code hc]
     obtain⟨ex,A1,h1⟩:=x
     cases ex with
     | normal=>
      simp only at hp ⊢
      split at hp
      ·next r1 hb1=>
       split at hp
       ·cases hc2:v.code ⟨r0.fn,some l⟩ r0.body A1 (h1.turn l (.loop { r1 with state:=.busy })) with
        | none=>rw[hc2] at hp;cases hp
        | some y=>rw[hc2] at hp;rw[hv.code hc2];exact hp
       ·cases hp
      ·cases hp
     | _=>exact hp
  ·cases hp
 code:=by
  intro F c A h r hp
  simp only[stepEv] at hp ⊢
  cases c with
  | skip=>exact hp
  | region id ops draw=>
   simp only[doCode,Option.map_eq_some_iff] at hp ⊢
   obtain⟨x,h1,h2⟩:=hp
   exact⟨x,runRegion_mono hv h1,h2⟩
  | seq a b=>
   simp only[doCode] at hp ⊢
   cases hc:v.code F a A h with
   | none=>rw[hc] at hp;cases hp
   | some x=>
    rw[hc] at hp
    rw[hv.code hc]
    obtain⟨ex,A1,h1⟩:=x
    cases ex with
    | normal=>exact hv.code hp
    | _=>exact hp
  | cond c t e=>
   simp only[doCode] at hp ⊢
   split at hp
   ·exact hv.code hp
   ·exact hv.code hp
   ·cases hp
  | block id body=>
   simp only[doCode] at hp ⊢
   cases hc:v.code F body A h with
   | none=>rw[hc] at hp;cases hp
   | some x=>rw[hc] at hp;rw[hv.code hc];exact hp
  | loop body=>
   simp only[doCode] at hp ⊢
   cases hc:v.code F body A h with
   | none=>rw[hc] at hp;cases hp
   | some x=>
    rw[hc] at hp
    rw[hv.code hc]
    obtain⟨ex,A1,h1⟩:=x
    cases ex with
    | normal=>exact hv.code hp
    | _=>exact hp
  | scope body=>
   simp only[doCode] at hp ⊢
   cases hc:v.code F body A h with
   | none=>rw[hc] at hp;cases hp
   | some x=>rw[hc] at hp;rw[hv.code hc];exact hp
  | label l=>exact hp
  | exit id=>exact hp
  | ret=>exact hp
  | goto l=>exact hp
  | refuse s=>exact hp
  | rangeFunc f ps as bd=>
   simp only[doCode] at hp ⊢
   split at hp
   ·cases hp
   ·next fv hf=>
    split at hp
    ·cases hp
    ·next A1 h1 d hs=>
     cases hc:acall v fv [.func (.yield h1.next) #[] #[]] (h1.new (.loop ⟨.ready,none,F.fn,A.tmps,A.n,ps,as,bd,d⟩)) with
     | none=>rw[hc] at hp;cases hp
     | some x=>
      rw[hc] at hp
      rw[acall_mono hv hc]
      simp only at hp ⊢
      split at hp
      ·next r0 hb=>
       split at hp
       ·cases hp
       ·cases hpe:r0.pending with
        | none=>rw[hpe] at hp;exact hp
        | some c=>
         rw[hpe] at hp
         exact hv.code hp
      ·cases hp
theorem ev_le (I:Known):∀ n,EvLe (ev D E I n) (ev D E I (n+1))
 | 0=>⟨fun h=>(by cases h),fun h=>(by cases h),fun h=>(by cases h)⟩
 | n+1=>EvLe.step (ev_le I n) I
theorem EvLe.trans {v v' v'':Ev} (h:EvLe v v') (h':EvLe v' v''):EvLe v v'':=⟨fun x=>h'.call (h.call x),fun x=>h'.round (h.round x),fun x=>h'.code (h.code x)⟩
theorem ev_mono (I:Known) {n m:Nat} (h:n≤m):EvLe (ev D E I n) (ev D E I m):=by
 induction m with
 | zero=>rw[show n=0 by omega];exact⟨id,id,id⟩
 | succ m ih=>
  by_cases e:n=m+1
  ·subst e;exact⟨id,id,id⟩
  ·exact (ih (by omega)).trans (ev_le I m)
end
section
variable {P:Program} {D:Tab} {E:Env} {n0:Nat} {φ:Ph} {h h':H} {w:World}
theorem Calls.steps {f:FuncId} {args:Array Value} {R:Ending→World→Prop} (hc:Calls P f args w R) {v:Value} {w1:World} (hR:∀ e w',R e w'→e=.returned v∧w'=w1) (c:Frame) (cs:List Frame) :
  Steps P (lone (Frame.enter P f args .normal) (c::cs) w) (lone (c.finish v) cs w1):=by
 obtain⟨e,w',fr,h1,h2,h3,h4⟩:=hc (c::cs)
 obtain⟨rfl,rfl⟩:=hR e w' h1
 exact Steps.trans h2 (.one (step_leave_returned h4))
theorem run_callFunc_enter (hN:NoNum P) {f:FuncId} {fn:Func} {body:Code} (hf:P.funcs[f]? = some fn) (hb:fn.body=some body) (args:Array Value):(callFunc f args).run P w=.ok (.enter f args) w:=by
 have hnm:fn.name ≠ "runtime.NumGoroutine" := by
  intro e
  have:=hN f fn hf
  rw[e] at this;cases this
 simp[callFunc,hf,hnm,hb]
structure CopyCheck (P:Program) (f:FuncId) (bt:TypeId):Prop where
 body:∃ fn,P.funcs[f]? = some fn∧fn.body.isSome=true
 used:∀ (b:Nat) (w:World),w.cell? ⟨b,0,none⟩=some (.pointer (some ⟨b,0,none⟩))→
  Calls P f #[.pointer (some ⟨b,0,none⟩)] w fun e w'=>e=.returned (.tuple #[])∧w'=w
 fresh:∀ (b:Nat) (w:World),w.cell? ⟨b,0,none⟩=some (.pointer none)→w.shape? b=some (bt,2)→w.frozen? ⟨b,0,none⟩=false→
  Calls P f #[.pointer (some ⟨b,0,none⟩)] w fun e w'=>e=.returned (.tuple #[])∧w'=w.setCell ⟨b,0,none⟩ (.pointer (some ⟨b,0,none⟩))
theorem okV_unit (φ:Ph):okV φ (.tuple #[]):=by simp[okV,okL]
theorem ren_unit' (φ:Ph):ren φ (.tuple #[])=.tuple #[]:=ren_undef φ
theorem kCheck_sim (hN:NoNum P) {f:FuncId} {bt:TypeId} (C:CopyCheck P f bt) (hbt:bt≠noTy) {args:List Value} {r:Value} (hk:kCheck bt args h=some (r,h')) (R:Tie D E n0 All φ h w) (hok:∀ x∈args,okV φ x) :
  Sim P D E n0 (callFunc f (args.map (ren φ)).toArray) φ h w r h':=by
 obtain⟨fn,hf,hb'⟩:=C.body
 obtain⟨body,hb⟩:=Option.isSome_iff_exists.1 hb'
 unfold kCheck at hk
 split at hk
 ·next a=>
  split at hk
  ·next p p1 ty hs ho hbk=>
   have ho:=Nat.eq_of_beq_eq_true ho
   have hA:okA φ a:=(hok (.pointer (some a)) (by simp):okV φ (.pointer (some a)))
   have hφ:(φ a.block).isSome=true:=by
    rcases hA with hA|hA|⟨_,hA⟩
    ·rw[hs] at hA;cases hA
    ·exact hA.2
    ·rw[hs] at hA;cases hA
   obtain⟨⟨c,b,e⟩,hkk⟩:=Option.isSome_iff_exists.1 hφ
   rcases R.blk _ _ _ _ _ trivial hbk hkk with⟨hx0,_⟩|⟨mcs,u,fz,L⟩
   ·cases hx0
   have hcn:=(R.dom _ _ _ _ hkk).2.2
   have hren:renA φ a=⟨c,b,none⟩:=by simp only[renA,hs,hkk,ho,Nat.add_zero]
   have hargs:(([.pointer (some a)]:List Value).map (ren φ)).toArray=#[.pointer (some ⟨c,b,none⟩)]:=by
    simp only[List.map_cons,List.map_nil,ren_pointer,hren]
   rw[hargs]
   split at hk
   ·next hty=>
    have hty:=Nat.eq_of_beq_eq_true hty
    subst hty
    obtain⟨hu,hb0,hsz⟩:=L.whole rfl hbt
    subst hu hb0
    obtain⟨y,hy,ht⟩:=L.cell 0 (.pointer none) rfl
    obtain⟨_,rfl⟩:=ht rfl
    have hcell:w.cell? ⟨c,0,none⟩=some (.pointer none):=by
     rw[cell?_at L.block]
     simpa [ren] using hy
    have hfr:w.frozen? ⟨c,0,none⟩=false:=by
     have:=L.opn
     simp only[World.frozen?,L.block]
     rcases this with h|h
     ·simp;omega
     ·simp;rw[hsz] at h;simp at h;omega
    have hsh:w.shape? c=some (u,2):=by simp[World.shape?,L.block,hsz]
    obtain⟨h1,hput,he⟩:=Option.map_eq_some_iff.1 hk
    cases he
    obtain⟨w',p2,p3,p4⟩:=R.put P hA (fun _=>trivial) hput (by intro v hv;simp at hv;subst hv;exact hA)
    have hw':w'=w.setCell ⟨c,0,none⟩ (.pointer (some ⟨c,0,none⟩)):=by
     rw[hren] at p2
     simp only[List.map_cons,List.map_nil,ren_pointer,hren,storeCells,Sem.run_bind] at p2
     rw[Addr.add_plain,run_store P w _ _ _ rfl] at p2
     simp only[Nat.add_zero,hcell,hfr] at p2
     simp[Result.andThen] at p2
     exact p2.symm
    subst hw'
    refine⟨_,w,run_callFunc_enter hN hf hb _,fun cc cs=>⟨φ,_,okV_unit φ,p3,Ext.same (put_next hput),p4,?_⟩⟩
    rw[ren_unit']
    exact Calls.steps (C.fresh c w hcell hsh hfr) (fun e w' h=>h) cc cs
   ·next bb hty=>
    have hty:=Nat.eq_of_beq_eq_true hty
    subst hty
    split at hk
    ·next hbb=>
     cases hk
     simp only[Bool.and_eq_true,beq_iff_eq] at hbb
     obtain⟨⟨e1,e2⟩,e3⟩:=hbb
     have e1:=Nat.eq_of_beq_eq_true e1
     have e2:=Nat.eq_of_beq_eq_true e2
     obtain⟨hu,hb0,hsz⟩:=L.whole rfl hbt
     subst hu hb0
     obtain⟨y,hy,ht⟩:=L.cell 0 (.pointer (some bb)) rfl
     obtain⟨_,rfl⟩:=ht rfl
     have hrb:renA φ bb=⟨c,0,none⟩:=by simp only[renA,e3,← e1,hkk,e2,Nat.add_zero]
     have hcell:w.cell? ⟨c,0,none⟩=some (.pointer (some ⟨c,0,none⟩)):=by
      rw[cell?_at L.block]
      rw[Nat.add_zero] at hy
      rw[hy,ren_pointer,hrb]
     refine⟨_,w,run_callFunc_enter hN hf hb _,fun cc cs=>⟨φ,_,okV_unit φ,R,Ext.refl _ _ _,Kept.refl _ _,?_⟩⟩
     rw[ren_unit']
     exact Calls.steps (C.used c w hcell) (fun e w' h=>h) cc cs
    ·cases hk
   ·cases hk
  ·cases hk
 ·cases hk
theorem kCheck_lg {bt:TypeId} {args:List Value} {r:Value} (hk:kCheck bt args h=some (r,h')) (o:h.Ok):Lg h h':=by
 unfold kCheck at hk
 repeat' split at hk
 all_goals first
  | (cases hk;done)
  | (cases hk;exact Lg.refl o)
  | (obtain⟨h1,hput,he⟩:=Option.map_eq_some_iff.1 hk;cases he;exact Lg.put o hput)
/-! ### Texts compared -/
theorem cmpL_eq:∀ (a b:List UInt8),Lib.compareBytes a b=cmpL a b:=by
 intro a
 induction a with
 | nil=>intro b;cases b<;>rfl
 | cons x a ih=>
  intro b
  cases b with
  | nil=>rfl
  | cons y b=>
   simp only[Lib.compareBytes,cmpL,UInt8.lt_iff_toNat_lt,ih]
   by_cases h1:x.toNat<y.toNat
   ·have hb1:x.toNat.blt y.toNat=true:=by rw[Nat.blt_eq];exact h1
    rw[if_pos h1,hb1]
   ·have hb1:x.toNat.blt y.toNat=false:=by
     cases hq:x.toNat.blt y.toNat
     ·rfl
     ·rw[Nat.blt_eq] at hq;exact absurd hq h1
    rw[if_neg h1,hb1]
    by_cases h2:y.toNat<x.toNat
    ·have hb2:y.toNat.blt x.toNat=true:=by rw[Nat.blt_eq];exact h2
     rw[if_pos h2]
     simp only[hb2]
    ·have hb2:y.toNat.blt x.toNat=false:=by
      cases hq:y.toNat.blt x.toNat
      ·rfl
      ·rw[Nat.blt_eq] at hq;exact absurd hq h2
     rw[if_neg h2]
     simp only[hb2]
theorem kCmp_sim {f:FuncId} {fn:Func} (hf:P.funcs[f]? = some fn) (hname:(fn.name == "runtime.NumGoroutine")=false) (hb:fn.body.isNone=true) (hn:Extern.findNext fn=none) (he:Extern.find fn=some Extern.BytealgCompare.compare)
  {args:List Value} {r:Value} (hk:kCmp args h=some (r,h')) (R:Tie D E n0 All φ h w):Sim P D E n0 (callFunc f (args.map (ren φ)).toArray) φ h w r h':=by
 unfold kCmp at hk
 split at hk
 ·next a b=>
  cases hk
  refine⟨.value (.int .i64 (cmpL a.data.toList b.data.toList)),w,?_,fun c cs=>⟨φ,w,trivial,R,Ext.refl _ _ _,Kept.refl _ _,by rw[ren_int],rfl⟩⟩
  have:(([.string a,.string b]:List Value).map (ren φ)).toArray=#[.string a,.string b]:=by simp[ren]
  rw[this,run_callFunc_extern hf hname hb hn he,Lib.run_compareString,cmpL_eq]
  rfl
 ·cases hk
theorem kCmp_same {args:List Value} {r:Value} (hk:kCmp args h=some (r,h')):h'=h:=by
 unfold kCmp at hk
 split at hk
 ·cases hk;rfl
 ·cases hk
end
section
variable {D:Tab} {E:Env} {I:Known}
def Wc (D:Tab) (E:Env) (I:Known) (F:Fx) (c:Code) (A:Ac) (h:H) (Q:Ex→Ac→H→Prop):Prop:=
 ∃ n ex A' h',(ev D E I n).code F c A h=some (ex,A',h')∧Q ex A' h'
def WR (r:Option (Ac×H)) (Q:Ac→H→Prop):Prop:=
 match r with
 | some (A,h)=>Q A h
 | none=>False
theorem Wc.mono {F:Fx} {c:Code} {A:Ac} {h:H} {Q Q':Ex→Ac→H→Prop} (w:Wc D E I F c A h Q) (hq:∀ ex A h,Q ex A h→Q' ex A h):Wc D E I F c A h Q':=by
 obtain⟨n,ex,A',h',h1,h2⟩:=w
 exact⟨n,ex,A',h',h1,hq _ _ _ h2⟩
theorem Wc.forget {F:Fx} {c:Code} {A:Ac} {h:H} {Q:Ex→Ac→H→Prop} (P:Ac→Prop) (hP:P A) (w:∀ A',P A'→Wc D E I F c A' h Q):Wc D E I F c A h Q:=w A hP
theorem Wc.seq {F:Fx} {a b:Code} {A:Ac} {h:H} {Q:Ex→Ac→H→Prop} (w:Wc D E I F a A h fun ex A h=>match ex with|.normal=>Wc D E I F b A h Q|ex=>Q ex A h):Wc D E I F (.seq a b) A h Q:=by
 obtain⟨n,ex,A1,h1,h2,h3⟩:=w
 cases ex with
 | normal=>
  obtain⟨m,ex2,A2,h4,h5,h6⟩:=h3
  refine⟨max n m+1,ex2,A2,h4,?_,h6⟩
  show doCode D E (ev D E I (max n m)) F (.seq a b) A h=_
  simp only[doCode]
  rw[(ev_mono I (Nat.le_max_left n m)).code h2]
  exact (ev_mono I (Nat.le_max_right n m)).code h5
 | _=>
  refine⟨n+1,_,A1,h1,?_,h3⟩
  show doCode D E (ev D E I n) F (.seq a b) A h=_
  simp only[doCode]
  rw[h2]
theorem Wc.skip {F:Fx} {A:Ac} {h:H} {Q:Ex→Ac→H→Prop} (hq:Q .normal A h):Wc D E I F .skip A h Q:=⟨1,_,A,h,rfl,hq⟩
theorem Wc.exit {F:Fx} {id:Nat} {A:Ac} {h:H} {Q:Ex→Ac→H→Prop} (hq:Q (.exit id) A h):Wc D E I F (.exit id) A h Q:=⟨1,_,A,h,rfl,hq⟩
theorem Wc.ret {F:Fx} {A:Ac} {h:H} {Q:Ex→Ac→H→Prop} (hq:Q .ret A h):Wc D E I F .ret A h Q:=⟨1,_,A,h,rfl,hq⟩
theorem Wc.region {F:Fx} {id:Nat} {ops:Array Oper} {draw:Bool} {A:Ac} {h:H} {Q:Ex→Ac→H→Prop} (w:WR (runRegion D E (ev D E I 1) ops draw A h) (Q .normal)):Wc D E I F (.region id ops draw) A h Q:=by
 unfold WR at w
 split at w
 ·next A' h' he=>
  refine⟨2,.normal,A',h',?_,w⟩
  show doCode D E (ev D E I 1) F (.region id ops draw) A h=_
  simp only[doCode,he];rfl
 ·exact w.elim
theorem Wc.region_eq {F:Fx} {id:Nat} {ops:Array Oper} {draw:Bool} {A A':Ac} {h h':H} {Q:Ex→Ac→H→Prop} (he:runRegion D E (ev D E I 1) ops draw A h=some (A',h')) (hq:Q .normal A' h'):Wc D E I F (.region id ops draw) A h Q:=
 Wc.region (by rw[he];exact hq)
/-! Operations, one by one. -/
theorem RO.run {v:Ev} {ops:Array Oper} {o:Oper} {rest:List Oper} {A:Ac} {h h':H} {x:Value} {res:Option (Ac×H)} (hw:awant ops A o=true) (ho:oper1 D E v A o h=some (x,h')) (r:runOps D E v ops rest (A.put o.dst x) h'=res):runOps D E v ops (o::rest) A h=res:=by
 simp only[runOps,hw,ho];exact r
theorem RO.skip {v:Ev} {ops:Array Oper} {o:Oper} {rest:List Oper} {A:Ac} {h:H} {res:Option (Ac×H)} (hw:awant ops A o=false) (r:runOps D E v ops rest (A.put o.dst undef) h=res):runOps D E v ops (o::rest) A h=res:=by
 simp only[runOps,hw];exact r
theorem RO.nil {v:Ev} {ops:Array Oper} {A:Ac} {h:H}:runOps D E v ops [] A h=some (A,h):=rfl
theorem Wc.ops {F:Fx} {id:Nat} {l:List Oper} {A A':Ac} {h h':H} {Q:Ex→Ac→H→Prop} (he:runOps D E (ev D E I 1) l.toArray l A h=some (A',h')) (hq:Q .normal A' h'):Wc D E I F (.region id l.toArray false) A h Q:=
 Wc.region_eq he hq
theorem RO.runG {v:Ev} {ops:Array Oper} {o:Oper} {rest:List Oper} {A:Ac} {h h':H} {x:Value} {res:Option (Ac×H)} {j:Nat} {w:Bool} {d:Tmp} (hg:o.guard=some (j,w)) (hd:(ops[j]?).bind (·.dst)=some d) (hv:A.get d=.bool w) (ho:oper1 D E v A o h=some (x,h')) (r:runOps D E v ops rest (A.put o.dst x) h'=res):runOps D E v ops (o::rest) A h=res:=by
 refine RO.run ?_ ho r
 unfold awant
 rw[hg]
 simp only[ayield_get,hd,hv]
 cases w<;>rfl
theorem RO.skipG {v:Ev} {ops:Array Oper} {o:Oper} {rest:List Oper} {A:Ac} {h:H} {res:Option (Ac×H)} {j:Nat} {w:Bool} {d:Tmp} (hg:o.guard=some (j,w)) (hd:(ops[j]?).bind (·.dst)=some d) (hv:A.get d=.bool (!w)) (r:runOps D E v ops rest (A.put o.dst undef) h=res):runOps D E v ops (o::rest) A h=res:=by
 refine RO.skip ?_ r
 unfold awant
 rw[hg]
 simp only[ayield_get,hd,hv]
 cases w<;>rfl
theorem awant_none {ops:Array Oper} {A:Ac} {o:Oper} (h:o.guard=none):awant ops A o=true:=by unfold awant;rw[h]
theorem Wc.cond {F:Fx} {c:Operand} {t e:Code} {A:Ac} {h:H} {Q:Ex→Ac→H→Prop} {b:Bool} (hc:opv A c=some (.bool b)) (w:Wc D E I F (if b then t else e) A h Q):Wc D E I F (.cond c t e) A h Q:=by
 obtain⟨n,ex,A',h',h1,h2⟩:=w
 refine⟨n+1,ex,A',h',?_,h2⟩
 show doCode D E (ev D E I n) F (.cond c t e) A h=_
 simp only[doCode,hc]
 cases b<;>exact h1
theorem Wc.cond2 {F:Fx} {c:Operand} {t e:Code} {A:Ac} {h:H} {Q:Ex→Ac→H→Prop} {b:Bool} (hc:opv A c=some (.bool b)) (w1:b=true→Wc D E I F t A h Q) (w2:b=false→Wc D E I F e A h Q):Wc D E I F (.cond c t e) A h Q:=by
 refine Wc.cond hc ?_
 cases b with
 | true=>exact w1 rfl
 | false=>exact w2 rfl
theorem Wc.block {F:Fx} {id:Nat} {c:Code} {A:Ac} {h:H} {Q:Ex→Ac→H→Prop} (w:Wc D E I F c A h fun ex A h=>match ex with|.exit j=>if j=id then Q .normal A h else Q (.exit j) A h|.goto _=>False|ex=>Q ex A h):Wc D E I F (.block id c) A h Q:=by
 obtain⟨n,ex,A',h',h1,h2⟩:=w
 cases ex with
 | exit j=>
  by_cases e:j=id
  ·subst e
   simp only[if_pos] at h2
   refine⟨n+1,.normal,A',h',?_,h2⟩
   show doCode D E (ev D E I n) F (.block j c) A h=_
   simp only[doCode,h1,show Nat.beq j j=true from Nat.beq_refl j]
  ·simp only[e,if_false] at h2
   refine⟨n+1,.exit j,A',h',?_,h2⟩
   show doCode D E (ev D E I n) F (.block id c) A h=_
   have:Nat.beq j id=false:=by
    cases hq:Nat.beq j id
    ·rfl
    ·exact absurd (Nat.eq_of_beq_eq_true hq) e
   simp only[doCode,h1,this]
 | goto l=>exact h2.elim
 | normal=>
  refine⟨n+1,_,A',h',?_,h2⟩
  show doCode D E (ev D E I n) F (.block id c) A h=_
  simp only[doCode,h1]
 | ret=>
  refine⟨n+1,_,A',h',?_,h2⟩
  show doCode D E (ev D E I n) F (.block id c) A h=_
  simp only[doCode,h1]
theorem Wc.scope {F:Fx} {c:Code} {A:Ac} {h:H} {Q:Ex→Ac→H→Prop} (w:Wc D E I F c A h fun ex A h=>match ex with|.goto _=>False|ex=>Q ex A h):Wc D E I F (.scope c) A h Q:=by
 obtain⟨n,ex,A',h',h1,h2⟩:=w
 refine⟨n+1,ex,A',h',?_,?_⟩
 ·show doCode D E (ev D E I n) F (.scope c) A h=_
  simp only[doCode,h1]
  cases ex<;>first|rfl|exact h2.elim
 ·cases ex<;>first|exact h2|exact h2.elim
theorem Wc.loop {F:Fx} {c:Code} {A:Ac} {h:H} {Q:Ex→Ac→H→Prop} (w:Wc D E I F c A h fun ex A h=>match ex with|.normal=>Wc D E I F (.loop c) A h Q|.goto _=>False|ex=>Q ex A h):Wc D E I F (.loop c) A h Q:=by
 obtain⟨n,ex,A1,h1,h2,h3⟩:=w
 cases ex with
 | normal=>
  obtain⟨m,ex2,A2,h4,h5,h6⟩:=h3
  refine⟨max n m+1,ex2,A2,h4,?_,h6⟩
  show doCode D E (ev D E I (max n m)) F (.loop c) A h=_
  simp only[doCode]
  rw[(ev_mono I (Nat.le_max_left n m)).code h2]
  exact (ev_mono I (Nat.le_max_right n m)).code h5
 | goto l=>exact h3.elim
 | exit j=>
  refine⟨n+1,_,A1,h1,?_,h3⟩
  show doCode D E (ev D E I n) F (.loop c) A h=_
  simp only[doCode]
  rw[h2]
 | ret=>
  refine⟨n+1,_,A1,h1,?_,h3⟩
  show doCode D E (ev D E I n) F (.loop c) A h=_
  simp only[doCode]
  rw[h2]
theorem ev_known {f:FuncId} {args:List Value} {h:H} {r:Value×H} (hI:I f args h=some (some r)):(ev D E I 1).call f args h=some r:=by
 show doCall D E I (ev D E I 0) f args h=_
 simp only[doCall,hI]
theorem Wc.call {f:FuncId} {fn:Func} {body:Code} {args:List Value} {h:H} {Q:Value→H→Prop} (hI:I f args h=none) (hf:D.fn.get f=some fn) (hb:fn.body=some body)
  (w:Wc D E I ⟨f,none⟩ body ⟨T.ofList args 0 .nil,max args.length fn.ntmps,[]⟩ h fun ex A h=>(ex=.normal∨ex=.ret)∧∃ h2 v,takeAll A.defers h=some h2∧ares D E fn A h2=some v∧Q v h2) :
  ∃ n v h',(ev D E I n).call f args h=some (v,h')∧Q v h':=by
 obtain⟨n,ex,A,h1,h2,h3,h4,v,h5,h6,h7⟩:=w
 refine⟨n+1,v,h4,?_,h7⟩
 show doCall D E I (ev D E I n) f args h=_
 simp only[doCall,hI,hf,hb,h2]
 rcases h3 with rfl|rfl<;>simp only[h5,h6,Option.map_some]
theorem done_tmp {fn:Func} {A:Ac} {h:H} {t:Tmp} {v:Value} {ex:Ex} (hex:ex=.normal∨ex=.ret) (hd:A.defers=[]) (hr:fn.results=#[.tmp t]) (hv:A.get t=v) (hl:h.log=[]) :
  (ex=.normal∨ex=.ret)∧∃ h2 v',takeAll A.defers h=some h2∧ares D E fn A h2=some v'∧(v'=v∧h2.log=[]):=by
 refine⟨hex,h,v,?_,?_,rfl,hl⟩
 ·rw[hd];rfl
 ·unfold ares
  rw[hr]
  simp only[aresL,ares1,hv]
end
inductive Item where
 | mk (kind num:Int) (text:ByteArray) (kids:List Item)
def Item.kind:Item→Int|.mk k _ _ _=>k
def Item.kids:Item→List Item|.mk _ _ _ ks=>ks
mutual
def rep (E:Env) (h:H):Item→Value→Prop
 | .mk k n t ks,v=>∃ s,v=.agg ⟨[.int .i64 k,.int .i64 n,.string t,s]⟩∧((ks=[]∧s=.slice none 0 0)∨∃ a c cs,s=.slice (some a) ks.length c∧(ks.length≤c∧c<9223372036854775808)∧h.cells E a (ks.length*4)=some cs∧repL E h ks cs)
def repL (E:Env) (h:H):List Item→List Value→Prop
 | [],cs=>cs=[]
 | x::xs,cs=>∃ a b c d l,cs=a::b::c::d::l∧rep E h x (.agg ⟨[a,b,c,d]⟩)∧repL E h xs l
end
theorem repL_get {E:Env} {h:H}:∀ {ks:List Item} {cs:List Value} (i:Nat) {x:Item},repL E h ks cs→ks[i]? = some x→((cs.drop (i*4)).take 4).length=4∧rep E h x (.agg ⟨(cs.drop (i*4)).take 4⟩)
 | [],cs,i,x,hr,hx=>by simp at hx
 | y::ks,cs,0,x,hr,hx=>by
  rw[repL] at hr
  obtain⟨a,b,c,d,l,rfl,h1,_⟩:=hr
  simp at hx;subst hx
  exact⟨rfl,h1⟩
 | y::ks,cs,i+1,x,hr,hx=>by
  rw[repL] at hr
  obtain⟨a,b,c,d,l,rfl,_,h2⟩:=hr
  rw[List.getElem?_cons_succ] at hx
  have:=repL_get i h2 hx
  have e:(a::b::c::d::l).drop ((i+1)*4)=l.drop (i*4):=by
   rw[show (i+1)*4=i*4+1+1+1+1 by omega]
   simp only[List.drop_succ_cons]
  rw[e];exact this
theorem roCells_sub {E:Env}:∀ (n b o m l:Nat) (cs:List Value),roCells E b o n=some cs→m+l≤n→roCells E b (o+m) l=some ((cs.drop m).take l):=by
 intro n b o m l
 induction l generalizing m with
 | zero=>intro cs h hl;simp[roCells]
 | succ l ih=>
  intro cs h hl
  obtain⟨h1,h2⟩:=roCells_get _ _ _ _ h
  have hm:m<cs.length:=by omega
  have h3:=h2 m cs[m] (List.getElem?_eq_getElem hm)
  simp only[roCells]
  rw[h3]
  have:=ih (m+1) cs h (by omega)
  rw[show o+(m+1)=o+m+1 by omega] at this
  rw[this]
  simp only
  rw[List.drop_eq_getElem_cons hm,List.take_succ_cons]
theorem cells_sub {E:Env} {h:H} {a:Addr} {n m l:Nat} {cs:List Value} (hc:h.cells E a n=some cs) (hl:m+l≤n):h.cells E (aadd a m) l=some ((cs.drop m).take l):=by
 cases l with
 | zero=>simp[H.cells]
 | succ l=>
  cases n with
  | zero=>omega
  | succ n=>
   unfold H.cells at hc ⊢
   simp only at hc ⊢
   split at hc
   ·next hs=>(try simp only[aadd,hs]);exact roCells_sub _ _ _ _ _ _ hc hl
   ·next hs=>
    try simp only[aadd,hs]
    split at hc
    ·next xs ty root hb=>
     try simp only[hb]
     split at hc
     ·next hle=>
      cases hc
      simp only[Bool.and_eq_true,Nat.ble_eq,List.all_eq_true] at hle
      have e:(((xs.drop a.off).take (n+1)).drop m).take (l+1)=(xs.drop (a.off+m)).take (l+1):=by
       rw[List.drop_take,List.take_take,List.drop_drop]
       congr 1
       omega
      rw[e]
      have hq:(Nat.ble (a.off+m+(l+1)) xs.length&&((xs.drop (a.off+m)).take (l+1)).all isOne)=true:=by
       simp only[Bool.and_eq_true,Nat.ble_eq,List.all_eq_true]
       refine⟨by omega,fun v hv => ?_⟩
       apply hle.2
       rw[← e] at hv
       exact List.mem_of_mem_drop (List.mem_of_mem_take hv)
      rw[hq]
     ·cases hc
    ·cases hc
   ·cases hc
section
variable {P:Program} {D:Tab} {E:Env} {n0:Nat} {φ φ':Ph} {h h':H} {w w':World}
theorem Tie.forget (R:Tie D E n0 All φ h w) (R':Tie D E n0 All φ' h' w') (hφ:∀ k,k<h.next→φ' k=φ k) (hb:∀ k,k<h.next→h'.blk k=h.blk k) (hsz:w.heap.size≤w'.heap.size):Tie D E n0 All φ h w':=by
 have hle:Le φ φ':=fun k x hk=>by
  obtain⟨c,b,e⟩:=x
  rw[hφ k (R.dom _ _ _ _ hk).1];exact hk
 refine⟨R'.ro,Nat.le_trans R.size hsz,fun k c b e hk => ?_,fun k B c b e hV hB hk => ?_,R.apart,R.exact,R.fresh,R.root⟩
 ·obtain⟨a1,a2,a3⟩:=R.dom k c b e hk
  exact⟨a1,a2,Nat.lt_of_lt_of_le a3 hsz⟩
 ·have hlt:=(R.dom _ _ _ _ hk).1
  have h1:=R'.blk k B c b e trivial (by rw[hb k hlt];exact hB) (hle _ _ hk)
  exact h1.both (ψ:=φ) (χ:=φ) (fun k x hk=>(hle k x hk▸hk)) (R.blk k B c b e trivial hB hk)
theorem forget_sim {s:Sem Next} {v:Value} (R:Tie D E n0 All φ h w) (hs:Sim P D E n0 s φ (fresh h) w v h') (hv:roV v=true) (hb:∀ k,k<h.next→h'.blk k=h.blk k):Sim P D E n0 s φ h w v h:=by
 obtain⟨nx,w1,h1,h2⟩:=hs
 refine⟨nx,w1,h1,fun c cs => ?_⟩
 obtain⟨φ',w',g1,g2,g3,g4,g5⟩:=h2 c cs
 have e1:ren φ' v=ren φ v:=by rw[(roV.ok φ' hv).2,(roV.ok φ hv).2]
 refine⟨φ,w',(roV.ok φ hv).1,R.forget g2 g3.1 hb g4.size,Ext.refl _ _ _,g4,?_⟩
 rw[e1] at g5
 exact g5
abbrev Says:=Nat→FuncId→List Value→H→Value→Prop
open Classical in
noncomputable def upTo (S:Says) (I:Known) (m:Nat):Known:=fun f args h=>
 if c:∃ v s,s<m∧S s f args h v then some (some (c.choose,h)) else I f args h
open Classical in
noncomputable def saidBy (S:Says) (I:Known):Known:=fun f args h=>
 if c:∃ v s,S s f args h v then some (some (c.choose,h)) else I f args h
def One (S:Says):Prop:=∀ s s' f args h v v',S s f args h v→S s' f args h v'→v=v'
theorem upTo_eq {S:Says} {I:Known} (hu:One S) {m s:Nat} {f:FuncId} {args:List Value} {h:H} {v:Value} (hs:S s f args h v) (hm:s<m):upTo S I m f args h=some (some (v,h)):=by
 have c:∃ v s,s<m∧S s f args h v:=⟨v,s,hm,hs⟩
 unfold upTo
 rw[dif_pos c]
 obtain⟨s',_,h2⟩:=c.choose_spec
 rw[hu _ _ _ _ _ _ _ h2 hs]
theorem saidBy_eq {S:Says} {I:Known} (hu:One S) {s:Nat} {f:FuncId} {args:List Value} {h:H} {v:Value} (hs:S s f args h v):saidBy S I f args h=some (some (v,h)):=by
 have c:∃ v s,S s f args h v:=⟨v,s,hs⟩
 unfold saidBy
 rw[dif_pos c]
 obtain⟨s',h2⟩:=c.choose_spec
 rw[hu _ _ _ _ _ _ _ h2 hs]
theorem upTo_none {S:Says} {I:Known} {m:Nat} {f:FuncId} {args:List Value} {h:H} (hn:∀ v s,s<m→¬ S s f args h v):upTo S I m f args h=I f args h:=by
 unfold upTo
 rw[dif_neg]
 rintro⟨v,s,h1,h2⟩
 exact hn v s h1 h2
end
mutual
def isz:Item→Nat
 | .mk _ _ _ ks=>iszL ks+1
def iszL:List Item→Nat
 | []=>0
 | x::xs=>isz x+iszL xs
end
theorem isz_mem:∀ {ks:List Item} {x:Item},x∈ks→isz x≤iszL ks
 | [],x,h=>by cases h
 | y::ks,x,h=>by
  rw[iszL]
  rcases List.mem_cons.1 h with rfl|h
  ·omega
  ·have:=isz_mem h;omega
theorem isz_kid {k n:Int} {t:ByteArray} {ks:List Item} {x:Item} (h:x∈ks):isz x<isz (.mk k n t ks):=by
 have:=isz_mem h
 rw[isz];omega
mutual
theorem rep_one {E:Env} {h:H}:∀ {t t':Item} {v:Value},rep E h t v→rep E h t' v→t=t'
 | .mk k n tx ks,.mk k' n' tx' ks',v,h1,h2=>by
  rw[rep] at h1 h2
  obtain⟨s,rfl,h1⟩:=h1
  obtain⟨s',he,h2⟩:=h2
  cases he
  have:ks=ks':=by
   rcases h1 with⟨rfl,rfl⟩|⟨a,c,cs,rfl,_,h3,h4⟩
   ·rcases h2 with⟨rfl,_⟩|⟨a,c,cs,he,_⟩
    ·rfl
    ·cases he
   ·rcases h2 with⟨_,he⟩|⟨a',c',cs',he,_,h5,h6⟩
    ·cases he
    ·simp only[Value.slice.injEq,Option.some.injEq] at he
     obtain⟨rfl,hl,rfl⟩:=he
     rw[← hl,h3] at h5
     cases h5
     exact repL_one hl h4 h6
  rw[this]
theorem repL_one {E:Env} {h:H}:∀ {ks ks':List Item} {cs:List Value},ks.length=ks'.length→repL E h ks cs→repL E h ks' cs→ks=ks'
 | [],[],_,_,_,_=>rfl
 | [],_::_,_,hl,_,_=>by cases hl
 | _::_,[],_,hl,_,_=>by cases hl
 | x::xs,y::ys,cs,hl,h1,h2=>by
  rw[repL] at h1 h2
  obtain⟨a,b,c,d,l,rfl,h3,h4⟩:=h1
  obtain⟨a',b',c',d',l',he,h5,h6⟩:=h2
  cases he
  rw[rep_one h3 h5,repL_one (by simpa using hl) h4 h6]
end
theorem wrap64 {x:Int} (h1 : -9223372036854775808≤x) (h2:x<9223372036854775808):IntKind.i64.wrap x=x:=by
 simp only[IntKind.wrap,IntKind.bits,IntKind.signed]
 simp
 omega
/-! ### A heap that grows keeps what reads -/
theorem new_blk_old {h:H} {B:Blk} {k:Nat} (hk:k≠h.next):(h.new B).blk k=h.blk k:=
 blk_congr (by simp only[H.new];rw[T.get_set_ne _ _ _ _ hk]) (fun _ _ _ _ _=>Iff.rfl)
theorem new_blk_new {h:H} {B:Blk} (hB:B.plain=true):(h.new B).blk h.next=some B:=by
 have hd:(h.new B).dyn.get h.next=some B:=T.get_set_same _ _ _
 cases B with
 | cells xs ty rt=>cases rt with
  | none=>exact blk_none_root hd
  | some _=>cases hB
 | _=>unfold H.blk;rw[hd]
theorem box_cells {E:Env} {h:H} {xs:List Value} {ty:TypeId} {n:Nat} (hn:xs.length=n) (h1:xs.all isOne=true):(h.new (.cells xs ty none)).cells E (own h.next) n=some xs:=by
 subst hn
 cases xs with
 | nil=>rfl
 | cons x xs=>
  unfold H.cells
  simp only[List.length_cons,own,new_blk_new (h:=h) (B:=.cells (x::xs) ty none) rfl,List.drop_zero,Nat.zero_add]
  rw[show (x::xs).take (xs.length+1)=x::xs from List.take_of_length_le (by simp)]
  rw[h1,show Nat.ble (xs.length+1) (xs.length+1)=true from by rw[Nat.ble_eq];exact Nat.le_refl _]
  rfl
theorem rep_slice {E:Env} {h:H} {k m:Int} {tx:ByteArray} {ks:List Item} {v:Value} (hr:rep E h (.mk k m tx ks) v):∃ b c,v=.agg ⟨[.int .i64 k,.int .i64 m,.string tx,.slice b ks.length c]⟩∧
  (ks=[]∨∃ a cs,b=some a∧ks.length<9223372036854775808∧h.cells E a (ks.length*4)=some cs∧repL E h ks cs):=by
 rw[rep] at hr
 obtain⟨s,rfl,hs⟩:=hr
 rcases hs with⟨rfl,rfl⟩|⟨a,c,cs,rfl,h1,h2,h3⟩
 ·exact⟨none,0,rfl,.inl rfl⟩
 ·exact⟨some a,c,rfl,.inr ⟨a,cs,rfl,by omega,h2,h3⟩⟩
def Grows (h h':H):Prop:=∀ k B,h.blk k=some B→h'.blk k=some B
theorem cells_grow {E:Env} {h h':H} (g:Grows h h') {a:Addr} {n:Nat} {cs:List Value} (hc:h.cells E a n=some cs):h'.cells E a n=some cs:=by
 cases n with
 | zero=>simpa [H.cells] using hc
 | succ n=>
  unfold H.cells at hc ⊢
  simp only at hc ⊢
  cases hs:a.spot with
  | none=>rw[hs] at hc;exact hc
  | some s=>
   rw[hs] at hc
   cases s with
   | zero=>
    simp only at hc ⊢
    cases hb:h.blk a.block with
    | none=>rw[hb] at hc;cases hc
    | some B=>rw[g _ _ hb];rw[hb] at hc;exact hc
   | succ s=>cases hc
mutual
theorem rep_grow {E:Env} {h h':H} (g:Grows h h'):∀ {t:Item} {v:Value},rep E h t v→rep E h' t v
 | .mk k n tx ks,v,hr=>by
  rw[rep] at hr ⊢
  obtain⟨s,h1,h2⟩:=hr
  refine⟨s,h1,?_⟩
  rcases h2 with h2|⟨a,c,cs,h3,h4,h5,h6⟩
  ·exact .inl h2
  ·exact .inr ⟨a,c,cs,h3,h4,cells_grow g h5,repL_grow g h6⟩
theorem repL_grow {E:Env} {h h':H} (g:Grows h h'):∀ {ks:List Item} {cs:List Value},repL E h ks cs→repL E h' ks cs
 | [],cs,hr=>by rw[repL] at hr ⊢; exact hr
 | x::xs,cs,hr=>by
  rw[repL] at hr ⊢
  obtain⟨a,b,c,d,l,h1,h2,h3⟩:=hr
  exact⟨a,b,c,d,l,h1,rep_grow g h2,repL_grow g h3⟩
end
theorem new_fresh {h:H} (hf:∀ k,h.next≤k→h.dyn.get k=none) (B:Blk):∀ k,(h.new B).next≤k→(h.new B).dyn.get k=none:=by
 intro k hk
 have hk:h.next+1≤k:=hk
 simp only[H.new]
 rw[T.get_set_ne _ _ _ _ (by omega)]
 exact hf k (by omega)
theorem Grows.trans {h h' h'':H} (g:Grows h h') (g':Grows h' h''):Grows h h'':=fun k B hb=>g' k B (g k B hb)
theorem grows_new {h:H} (hf:∀ k,h.next≤k→h.dyn.get k=none) (B:Blk):Grows h (h.new B):=by
 intro k B' hb
 rw[new_blk_old]
 ·exact hb
 ·intro e
  subst e
  have:=H.blk_dyn hb
  rw[hf _ (Nat.le_refl _)] at this;cases this
def firstLoop:Code→Option Code
 | .seq a b=>match firstLoop a with
  | some c=>some c
  | none=>firstLoop b
 | .cond _ a b=>match firstLoop a with
  | some c=>some c
  | none=>firstLoop b
 | .block _ c=>firstLoop c
 | .scope c=>firstLoop c
 | .loop c=>some c
 | _=>none
def loopOf (f:Func):Code:=match f.body with
 | some c=>(firstLoop c).getD .skip
 | none=>.skip
/-! ### Is an item right? -/
/-! ### The greatest level -/
mutual
def lvlI:Item→Int
 | .mk _ _ _ ks=>lvlL ks 0+1
def lvlL:List Item→Int→Int
 | [],m=>m
 | x::xs,m=>lvlL xs (if lvlI x>m then lvlI x else m)
end
mutual
theorem lvlI_bound:∀ (t:Item),1≤lvlI t∧lvlI t≤isz t
 | .mk k n tx ks=>by
  rw[lvlI,isz]
  have:=lvlL_bound ks 0 (Int.le_refl _)
  push_cast;omega
theorem lvlL_bound:∀ (ks:List Item) (m:Int),0≤m→m≤lvlL ks m∧lvlL ks m≤m+iszL ks
 | [],m,h=>by rw[lvlL,iszL];simp
 | x::xs,m,h=>by
  rw[lvlL,iszL]
  have h1:=lvlI_bound x
  split
  ·have:=lvlL_bound xs (lvlI x) (by omega)
   push_cast;omega
  ·have:=lvlL_bound xs m h
   push_cast;omega
end
/-! ### Which comes first -/
mutual
def ordI:Item→Item→Int
 | .mk k n t ks,.mk k' n' t' ks'=>
  if k≠k' then (if k<k' then -1 else 1)
  else if n≠n' then (if n<n' then -1 else 1)
  else if (t.data.toList == t'.data.toList)=false then (if Op.bytesLess t.data.toList t'.data.toList then -1 else 1)
  else ordL ks ks'
def ordL:List Item→List Item→Int
 | [],[]=>0
 | [],_::_ => -1
 | _::_,[]=>1
 | x::xs,y::ys=>if ordI x y≠0 then ordI x y else ordL xs ys
end
theorem allMeet_quiet {b:Array Nat} {ts:List Tch} (h:ts.all (fun t=>t.writes.isEmpty && !t.rooted)=true):allMeet b ts=true:=by
 rw[List.all_eq_true] at h
 unfold allMeet
 simp only[List.all_eq_true]
 rintro⟨s,i⟩ hs ⟨t,j⟩ ht
 have h1:=h s (List.mem_of_getElem? (List.mem_zipIdx_iff_getElem?.1 hs))
 have h2:=h t (List.mem_of_getElem? (List.mem_zipIdx_iff_getElem?.1 ht))
 simp only[Bool.and_eq_true,Bool.not_eq_true',List.isEmpty_iff] at h1 h2
 have:meets s t=true:=by
  unfold meets
  rw[h1.1,h2.1,h1.2,h2.2]
  simp[apart?]
 rw[this,Bool.or_true]
theorem Wc.draw {D:Tab} {E:Env} {I:Known} {F:Fx} {id:Nat} {ops:Array Oper} {A A':Ac} {h h':H} {ts:List Tch} {Q:Ex→Ac→H→Prop} (hd:drawOk ops=true) (hf:runFree D E (ev D E I 1) ops 0 ops.toList A h=some (A',h',ts))
  (hw:ts.all (fun t=>t.writes.isEmpty && !t.rooted)=true) (hq:Q .normal A' h'):Wc D E I F (.region id ops true) A h Q:=by
 refine Wc.region_eq (A':=A') (h':=h') ?_ hq
 simp only[runRegion,hd,hf,allMeet_quiet hw]
inductive QO (D:Tab) (E:Env) (v:Ev) (ops:Array Oper):List Oper→Ac→H→Ac→Prop
 | nil {A:Ac} {h:H}:QO D E v ops [] A h A
 | cons {o:Oper} {rest:List Oper} {A A':Ac} {h:H} {x:Value} (hg:o.guard=none) (hs:isStore o.op=false) (ho:oper1 D E v A o (fresh h)=some (x,fresh h)) (r:QO D E v ops rest (A.put o.dst x) h A'):QO D E v ops (o::rest) A h A'
theorem back_fresh (h:H):back h (fresh h)=h:=note_nil h
theorem QO.free {D:Tab} {E:Env} {v:Ev} {ops:Array Oper}:∀ {l:List Oper} {A A':Ac} {h:H} (j:Nat),QO D E v ops l A h A'→∃ ts,runFree D E v ops j l A h=some (A',h,ts)∧ts.all (fun t=>t.writes.isEmpty && !t.rooted)=true:=by
 intro l
 induction l with
 | nil=>intro A A' h j q;cases q;exact⟨[],rfl,rfl⟩
 | cons o l ih=>
  intro A A' h j q
  cases q with
  | cons hg hs ho r=>
   obtain⟨ts,h1,h2⟩:=ih (j+1) r
   refine⟨⟨reads D A o,[],h.next,h.next,rootedStore A h o.op⟩::ts,?_,?_⟩
   ·have ho':oper1 D E v A o { h with mark:=h.next,log:=[] }=some (_,fresh h):=ho
    simp only[runFree,awant_none hg,ho']
    have hc:(!(mayJoin o.op)||Nat.beq (fresh h).next h.next||slimOf ops j)=true:=by
     rw[show Nat.beq (fresh h).next h.next=true from Nat.beq_refl h.next];simp
    rw[hc]
    have hb:({ (fresh h) with mark:=h.mark,log:=h.log }:H).note (fresh h).log=h:=back_fresh h
    simp only[hb,h1]
    rfl
   ·rw[List.all_cons,h2]
    have:rootedStore A h o.op=false:=by
     cases hop:o.op<;>first|rfl|(rw[hop] at hs;cases hs)
    simp[this]
theorem Wc.quiet {D:Tab} {E:Env} {I:Known} {F:Fx} {id:Nat} {l:List Oper} {A A':Ac} {h:H} {Q:Ex→Ac→H→Prop} (hd:drawOk l.toArray=true) (hq:QO D E (ev D E I 1) l.toArray l A h A') (w:Q .normal A' h):Wc D E I F (.region id l.toArray true) A h Q:=by
 obtain⟨ts,h1,h2⟩:=hq.free 0
 exact Wc.draw hd h1 h2 w
structure Fit (h:H):Prop where
 free:∀ k,h.next≤k→h.dyn.get k=none
 ok:h.Ok
structure Ahd (h g:H):Prop where
 fit:Fit g
 grows:Grows h g
 log:g.log=h.log
 mark:g.mark=h.mark
 next:h.next≤g.next
 chain:∀ r,r<h.next→g.chain r=h.chain r
theorem Ahd.refl {h:H} (f:Fit h):Ahd h h:=⟨f,fun _ _ h=>h,rfl,rfl,Nat.le_refl _,fun _ _=>rfl⟩
theorem Ahd.trans {h g f:H} (s:Ahd h g) (t:Ahd g f):Ahd h f:=
 ⟨t.fit,s.grows.trans t.grows,t.log.trans s.log,t.mark.trans s.mark,Nat.le_trans s.next t.next,fun r hr=>(t.chain r (Nat.lt_of_lt_of_le hr s.next)).trans (s.chain r hr)⟩
theorem Fit.fresh {h:H} (f:Fit h):Fit (fresh h):=⟨f.free,f.ok.1,Nat.le_refl _⟩
theorem Fit.none {h:H} (f:Fit h) {k:Nat} {B:Blk} (hb:h.dyn.get k=some B):k<h.next:=by
 apply Classical.byContradiction
 intro hk
 rw[f.free k (by omega)] at hb;cases hb
theorem Fit.lt {h:H} (f:Fit h) {k:Nat} {B:Blk} (hb:h.blk k=some B):k<h.next:=f.none (H.blk_dyn hb)
theorem Fit.new {h:H} (f:Fit h) {B:Blk} (hB:B.plain=true):Fit (h.new B):=⟨new_fresh f.free B,(Lg.new f.ok B hB).ok f.ok⟩
theorem Ahd.new0 {h:H} (f:Fit h) {B:Blk} (hB:B.plain=true):Ahd h (h.new B):=
 ⟨f.new hB,grows_new f.free B,rfl,rfl,Nat.le_succ _,fun _ _=>rfl⟩
/-! ### A plain block that is written -/
def H.setb (h:H) (k:Nat) (B:Blk):H:={ h with dyn:=h.dyn.set k B }
theorem note_above {h:H} {ks:List Nat} (hk:∀ k∈ks,h.mark≤k):h.note ks=h:=by
 unfold H.note
 split
 ·rfl
 ·next m hm=>
  have:ks.filter (fun k=>Nat.ble k m)=[]:=by
   rw[List.filter_eq_nil_iff]
   intro k hkk
   have:=hk k hkk
   rw[hm] at this
   simp only[Nat.ble_eq];omega
  rw[this]
  rfl
theorem setb_same {h:H} {k:Nat} {B:Blk} (hB:B.plain=true):(h.setb k B).blk k=some B:=by
 have hd:(h.setb k B).dyn.get k=some B:=T.get_set_same _ _ _
 cases B with
 | cells xs ty rt=>cases rt with
  | none=>exact blk_none_root hd
  | some _=>cases hB
 | _=>unfold H.blk;rw[hd]
theorem setb_ne {h:H} {k j:Nat} {B:Blk} (hk:j≠k):(h.setb k B).blk j=h.blk j:=
 blk_congr (by simp only[H.setb];rw[T.get_set_ne _ _ _ _ hk]) (fun _ _ _ _ _=>Iff.rfl)
theorem Fit.setb {h:H} (f:Fit h) {k:Nat} {B:Blk} (hB:B.plain=true) (hk:k<h.next):Fit (h.setb k B):=by
 refine⟨fun j hj => ?_,fun j xs ty r p hd => ?_,f.ok.2⟩
 ·have hj:h.next≤j:=hj
  simp only[H.setb];rw[T.get_set_ne _ _ _ _ (by omega)];exact f.free j hj
 ·simp only[H.setb,T.get_set] at hd ⊢
  split at hd
  ·cases hd;simp[Blk.plain] at hB
  ·exact f.ok.1 _ _ _ _ _ hd
theorem blk_cells {E:Env} {h:H} {k n:Nat} {xs:List Value} {ty:TypeId} {rt:Option (Nat×Nat)} (hb:h.blk k=some (.cells xs ty rt)) (hn:xs.length=n) (h1:xs.all isOne=true):h.cells E (own k) n=some xs:=by
 subst hn
 cases xs with
 | nil=>rfl
 | cons x xs=>
  unfold H.cells
  simp only[List.length_cons,own,hb,List.drop_zero,Nat.zero_add]
  rw[show (x::xs).take (xs.length+1)=x::xs from List.take_of_length_le (by simp)]
  rw[h1,show Nat.ble (xs.length+1) (xs.length+1)=true from by rw[Nat.ble_eq];exact Nat.le_refl _]
  rfl
theorem blk_cell {E:Env} {h:H} {k i:Nat} {xs:List Value} {ty:TypeId} {rt:Option (Nat×Nat)} {x:Value} (hb:h.blk k=some (.cells xs ty rt)) (hx:xs[i]? = some x) (h1:isOne x=true):h.cell E (aadd (own k) i)=some x:=by
 simp only[H.cell,aadd,own,hb,Nat.zero_add,hx,one?,h1]
theorem blk_cell0 {E:Env} {h:H} {k:Nat} {xs:List Value} {ty:TypeId} {rt:Option (Nat×Nat)} {x:Value} (hb:h.blk k=some (.cells (x::xs) ty rt)) (h1:isOne x=true):h.cell E (own k)=some x:=
 blk_cell (i:=0) hb rfl h1
/-! ### What lies in new chains alone -/
def seen (p:Nat→Bool):Option Blk→Option Blk
 | some (.cells xs ty (some (r,q)))=>match p r with
  | true=>some (.cells xs ty (some (r,q)))
  | false=>none
 | _=>none
def only (p:Nat→Bool) (h:H):H:=⟨h.next,T.ofOpts ((List.range h.next).map fun k=>seen p (h.blk k)) 0 .nil,h.chains,h.mark,h.log⟩
theorem only_dyn (p:Nat→Bool) (h:H) (k:Nat):(only p h).dyn.get k=if k<h.next then seen p (h.blk k) else none:=by
 have:=T.get_ofOpts ((List.range h.next).map fun k=>seen p (h.blk k)) 0 .nil k (fun k _=>T.get_nil k)
 simp only[only]
 rw[this,if_pos (Nat.zero_le _),Nat.sub_zero,List.getElem?_map]
 by_cases hk:k<h.next
 ·rw[List.getElem?_range hk,if_pos hk];rfl
 ·rw[List.getElem?_eq_none (by simpa using hk),if_neg hk];rfl
theorem only_blk {p:Nat→Bool} {h:H} (f:Fit h) {k:Nat} {B:Blk}:(only p h).blk k=some B↔h.blk k=some B∧∃ xs ty r q,B=.cells xs ty (some (r,q))∧p r=true:=by
 constructor
 ·intro hb
  have hd:=H.blk_dyn hb
  rw[only_dyn] at hd
  split at hd
  ·next hk=>
   unfold seen at hd
   split at hd
   ·next xs ty r q hh=>
    split at hd
    ·next hp=>cases hd;exact⟨hh,xs,ty,r,q,rfl,hp⟩
    ·cases hd
   ·cases hd
  ·cases hd
 ·rintro⟨hb,xs,ty,r,q,rfl,hp⟩
  have hk:=f.lt hb
  have hd:(only p h).dyn.get k=some (.cells xs ty (some (r,q))):=by
   rw[only_dyn,if_pos hk,hb]
   simp only[seen,hp]
  unfold H.blk
  rw[hd]
  simp only
  have hc:(only p h).chain r=h.chain r:=rfl
  rw[hc]
  unfold H.blk at hb
  rw[H.blk_dyn (h:=h) (k:=k) (B:=.cells xs ty (some (r,q))) (by unfold H.blk;exact hb)] at hb
  exact hb
def Ap (h:H) (base:Nat) (e:TypeId) (sz:Nat) (s:Value) (n:Nat) (xs:List Value) (ro:Option Nat):Prop:=
 (n=0∧xs=[]∧s=.slice none 0 0∧ro=none)∨
 ∃ k r,s=.slice (some (own k)) n n∧h.blk k=some (.cells xs e (some (r,0)))∧xs.length=n*sz∧xs.all isOne=true∧base≤r∧(∀ j∈h.chain r,base≤j)∧ro=some r
def rootsNot (ro:Option Nat) (B:Blk):Prop:=∀ xs ty r q,B=.cells xs ty (some (r,q))→ro≠some r
theorem newOpen_new {h:H} {xs:List Value} {ty:TypeId}:(h.newOpen xs ty).blk h.next=some (.cells xs ty (some (h.next,0))):=by
 have hd:(h.newOpen xs ty).dyn.get h.next=some (.cells xs ty (some (h.next,0))):=T.get_set_same _ _ _
 have hc:(h.newOpen xs ty).chain h.next=[h.next]:=by simp only[H.chain,H.newOpen,T.get_set_same,Option.getD]
 unfold H.blk
 rw[hd]
 simp only[hc,List.contains_cons,beq_self_eq_true,Bool.true_or]
theorem newOpen_old {h:H} (f:Fit h) {xs:List Value} {ty:TypeId} {k:Nat} {B:Blk} (hb:h.blk k=some B):(h.newOpen xs ty).blk k=some B:=by
 have hk:=f.lt hb
 rw[← hb]
 refine blk_congr (by simp only[H.newOpen];rw[T.get_set_ne _ _ _ _ (by omega)]) (fun ys u r q hd => ?_)
 have:=f.ok.1 _ _ _ _ _ hd
 simp only[H.newOpen,H.chain]
 rw[T.get_set_ne _ _ _ _ (by omega)]
theorem newOpen_fit {h:H} (f:Fit h) {xs:List Value} {ty:TypeId}:Fit (h.newOpen xs ty):=by
 refine⟨fun k hk => ?_,(Lg.newOpen f.ok xs ty).ok f.ok⟩
 have hk:h.next+1≤k:=hk
 simp only[H.newOpen]
 rw[T.get_set_ne _ _ _ _ (by omega)]
 exact f.free k (by omega)
structure Grew (base:Nat) (ro:Option Nat) (h g:H):Prop where
 fit:Fit g
 keep:∀ k B,h.blk k=some B→rootsNot ro B→g.blk k=some B
 log:g.log=h.log
 mark:g.mark=h.mark
 next:h.next≤g.next
 chain:∀ r,r<base→g.chain r=h.chain r
theorem ap_step {D:Tab} {E:Env} {h:H} {base:Nat} {t t2 e:TypeId} {sz by_ n kx c i6 i7:Nat} {i8:Option Value} {i9:Bool} {s ze:Value} {xs cs:List Value} {ro:Option Nat} (f:Fit h) (hbm:h.mark≤base) (hbn:base≤h.next) (ap:Ap h base e sz s n xs ro)
  (ht:D.ty.get t=some ⟨.slice e sz by_,i6,i7,i8,i9⟩) (hz:tzero D e=some ze) (hzz:(Nat.beq ze.cells.toList.length sz&&Nat.blt 0 sz&&ze.cells.toList.all isOne)=true) (hzt:zeroArg D t2 (.slice (some (own kx)) 1 c)=some false)
  (hx:h.cells E (own kx) sz=some cs) (hcl:cs.length=sz) (hc1:cs.all isOne=true) (hrm:roomy (n+1) by_=true) :
  ∃ s' h' ro',aappend D E t t2 s (.slice (some (own kx)) 1 c) h=some (s',h')∧Ap h' base e sz s' (n+1) (xs++cs) ro'∧Grew base ro h h'∧(ro=none∧ro'=some h.next∨ro≠none∧ro'=ro):=by
 have hel:aelems E sz ze.cells.toList (.slice (some (own kx)) 1 c) h=some (1,cs):=by
  simp only[aelems,Nat.one_mul,hx]
 have hbl:Nat.beq cs.length (1*sz)=true:=by rw[Nat.one_mul,hcl];exact Nat.beq_refl sz
 have hsz:0<sz:=by
  simp only[Bool.and_eq_true,Nat.blt_eq] at hzz
  exact hzz.1.2
 rcases ap with⟨rfl,rfl,rfl,rfl⟩|⟨k,r,rfl,hb,hl,h1,hbr,hch,rfl⟩
 ·refine⟨.slice (some (own h.next)) 1 1,h.newOpen cs e,some h.next,?_,.inr ⟨h.next,h.next,rfl,?_,?_,?_,hbn,?_,rfl⟩,⟨newOpen_fit f,fun k B hb _=>newOpen_old f hb,rfl,rfl,Nat.le_succ _,fun r hr => ?_⟩,.inl ⟨rfl,rfl⟩⟩
  ·unfold aappend
   rw[ht]
   simp only[hz,hzt,hzz,hel,hbl,hrm]
  ·exact newOpen_new
  ·rw[List.nil_append];simp[hcl]
  ·rw[List.nil_append];exact hc1
  ·intro j hj
   simp only[H.chain,H.newOpen,T.get_set_same,Option.getD,List.mem_singleton] at hj
   omega
  ·simp only[H.chain,H.newOpen]
   rw[T.get_set_ne _ _ _ _ (by omega)]
 ·have hkn:=f.lt hb
  have hd:=H.blk_dyn hb
  have hrn:=f.ok.1 _ _ _ _ _ hd
  have hgr:h.grow e r (0+(own k).off) (n*sz) (own k).block (xs.drop (own k).off) cs={ h with next:=h.next+1,dyn:=h.dyn.set h.next (.cells (xs++cs) e (some (r,0))),chains:=h.chains.set r (h.next::h.spare r k (0+n*sz) (0+n*sz+cs.length)) }:=by
   unfold H.grow
   simp only[own,Nat.add_zero,List.drop_zero]
   exact note_above (fun j hj=>Nat.le_trans hbm (hch j (mem_gone.1 hj).1))
  generalize hg:({ h with next:=h.next+1,dyn:=h.dyn.set h.next (.cells (xs++cs) e (some (r,0))),chains:=h.chains.set r (h.next::h.spare r k (0+n*sz) (0+n*sz+cs.length)) }:H)=g at hgr
  have hcr:g.chain r=h.next::h.spare r k (0+n*sz) (0+n*sz+cs.length):=by
   rw[← hg];simp only[H.chain,T.get_set_same,Option.getD]
  have hcn:∀ r',r'≠r→g.chain r'=h.chain r':=by
   intro r' hr'
   rw[← hg];simp only[H.chain];rw[T.get_set_ne _ _ _ _ hr']
  have hgn:g.next=h.next+1:=by rw[← hg]
  have hnew:g.blk h.next=some (.cells (xs++cs) e (some (r,0))):=by
   have hdd:g.dyn.get h.next=some (.cells (xs++cs) e (some (r,0))):=by rw[← hg];exact T.get_set_same _ _ _
   unfold H.blk
   rw[hdd]
   simp only[hcr,List.contains_cons,beq_self_eq_true,Bool.true_or]
  have hold:∀ j,j≠h.next→g.dyn.get j=h.dyn.get j:=by
   intro j hj
   rw[← hg];exact T.get_set_ne _ _ _ _ hj
  refine⟨.slice (some (own h.next)) (n+1) (n+1),g,some r,?_,.inr ⟨h.next,r,rfl,hnew,?_,?_,hbr,?_,rfl⟩,⟨⟨fun j hj => ?_,fun j ys ty r' p hd' => ?_,?_⟩,?_,?_,?_,?_,?_⟩,.inr ⟨by simp,rfl⟩⟩
  ·unfold aappend
   rw[ht]
   simp only[hz,hzt,hzz,hel,hbl,hrm]
   have e1:(own k).spot=some 0:=rfl
   have e2:(own k).block=k:=rfl
   have e3:(own k).off=0:=rfl
   have e4:Nat.ble (n+1) n=false:=by
    cases hq:Nat.ble (n+1) n
    ·rfl
    ·rw[Nat.ble_eq] at hq;omega
   simp only[e1,e2,hb,e4]
   have e5:(Nat.beq n n&&Nat.beq ((own k).off+n*sz) xs.length&&Nat.beq e e&&(xs.drop (own k).off).all isOne&&Nat.ble (own k).off xs.length)=true:=by
    rw[e3,Nat.zero_add,hl,List.drop_zero,h1,Nat.beq_refl,Nat.beq_refl,Nat.beq_refl]
    simp[Nat.ble]
   simp only[e5]
   rw[← hgr];rfl
  ·rw[List.length_append,hl,hcl];rw[Nat.add_mul,Nat.one_mul]
  ·rw[List.all_append,h1,hc1];rfl
  ·intro j hj
   rw[hcr] at hj
   rcases List.mem_cons.1 hj with rfl|hj
   ·exact hbn
   ·exact hch j (mem_spare.1 hj).1
  ·rw[hgn] at hj
   rw[hold j (by omega)];exact f.free j (by omega)
  ·rw[hgn]
   by_cases hj:j=h.next
   ·subst hj
    have:=H.blk_dyn hnew
    rw[this] at hd'; cases hd'; omega
   ·rw[hold j hj] at hd'
    have:=f.ok.1 _ _ _ _ _ hd'; omega
  ·rw[hgn]
   have:=f.ok.2
   rw[← hg];exact Nat.le_succ_of_le this
  ·intro j B hbj hro
   have hjn:=f.lt hbj
   rw[← hbj]
   refine blk_congr (hold j (by omega)) (fun ys u r' q hd' => ?_)
   have:B=.cells ys u (some (r',q)):=by
    have:=H.blk_dyn hbj
    rw[hd'] at this;cases this;rfl
   have hne:=hro _ _ _ _ this
   rw[hcn r' (fun h=>hne (by rw[h]))]
  ·rw[← hg]
  ·rw[← hg]
  ·rw[hgn];omega
  ·intro r' hr'
   exact hcn r' (by omega)
theorem only_mono {p q:Nat→Bool} {h g:H} (f:Fit h) (f':Fit g) (hg:∀ k B,h.blk k=some B→(∃ xs ty r o,B=.cells xs ty (some (r,o))∧p r=true)→g.blk k=some B) (hp:∀ r,p r=true→q r=true):Grows (only p h) (only q g):=by
 intro k B hb
 obtain⟨h1,xs,ty,r,o,rfl,h2⟩:=(only_blk f).1 hb
 exact (only_blk f').2 ⟨hg _ _ h1 ⟨xs,ty,r,o,rfl,h2⟩,xs,ty,r,o,rfl,hp _ h2⟩
theorem only_sub {p q:Nat→Bool} {h:H} (f:Fit h) (hp:∀ r,p r=true→q r=true):Grows (only p h) (only q h):=only_mono f f (fun _ _ hb _=>hb) hp
theorem only_ahd {p q:Nat→Bool} {h g:H} (f:Fit h) (s:Ahd h g) (hp:∀ r,p r=true→q r=true):Grows (only p h) (only q g):=only_mono f s.fit (fun _ _ hb _=>s.grows _ _ hb) hp
theorem Ahd.setb {h g:H} (s:Ahd h g) {k:Nat} {B:Blk} (hB:B.plain=true) (hk:h.next≤k) (hg:k<g.next) (f:Fit h):Ahd h (g.setb k B):=
 ⟨s.fit.setb hB hg,fun j B' hb=>by
  have:=f.lt hb
  rw[setb_ne (by omega)];exact s.grows _ _ hb,s.log,s.mark,s.next,s.chain⟩
theorem Ahd.grew {h g g':H} (f:Fit h) (s:Ahd h g) {ro:Option Nat} (hro:∀ r,ro=some r→h.next≤r) (t:Grew h.next ro g g'):Ahd h g':=
 ⟨t.fit,fun k B hb=>t.keep _ _ (s.grows _ _ hb) (fun xs ty r q he hr=>by
  subst he
  have h1:=f.ok.1 _ _ _ _ _ (H.blk_dyn hb)
  have:=hro _ hr
  omega),t.log.trans s.log,t.mark.trans s.mark,Nat.le_trans s.next t.next,fun r hr=>(t.chain r hr).trans (s.chain r hr)⟩
theorem repL_append {E:Env} {h:H}:∀ {ks:List Item} {cs:List Value} {x:Item} {l:List Value},repL E h ks cs→rep E h x (.agg ⟨l⟩)→repL E h (ks++[x]) (cs++l)
 | [],cs,x,l,h1,h2=>by
  rw[repL] at h1;subst h1
  obtain⟨k,m,tx,ks'⟩:=x
  have h3:=h2
  rw[rep] at h3
  obtain⟨s,he,_⟩:=h3
  cases he
  rw[List.nil_append,List.nil_append,repL]
  exact⟨_,_,_,_,[],rfl,h2,by rw[repL]⟩
 | y::ks,cs,x,l,h1,h2=>by
  rw[repL] at h1
  obtain⟨a,b,c,d,l',rfl,h3,h4⟩:=h1
  rw[List.cons_append,repL]
  exact⟨a,b,c,d,l'++l,rfl,h3,repL_append h4 h2⟩
theorem done_cell {D:Tab} {E:Env} {fn:Func} {A:Ac} {h:H} {t:Tmp} {ty:TypeId} {v:Value} {a:Addr} {ex:Ex} {Q:Value→H→Prop} (hex:ex=.normal∨ex=.ret) (hd:A.defers=[]) (hr:fn.results=#[.cell t ty]) (hv:A.get t=.pointer (some a)) (hl:aload D E ty a h=some v) (hq:Q v h) :
  (ex=.normal∨ex=.ret)∧∃ h2 v',takeAll A.defers h=some h2∧ares D E fn A h2=some v'∧Q v' h2:=by
 refine⟨hex,h,v,?_,?_,hq⟩
 ·rw[hd];rfl
 ·unfold ares
  rw[hr]
  simp only[aresL,ares1,hv,hl]
theorem done_q {D:Tab} {E:Env} {fn:Func} {A:Ac} {h:H} {t:Tmp} {v:Value} {ex:Ex} {Q:Value→H→Prop} (hex:ex=.normal∨ex=.ret) (hd:A.defers=[]) (hr:fn.results=#[.tmp t]) (hv:A.get t=v) (hq:Q v h) :
  (ex=.normal∨ex=.ret)∧∃ h2 v',takeAll A.defers h=some h2∧ares D E fn A h2=some v'∧Q v' h2:=by
 refine⟨hex,h,v,?_,?_,hq⟩
 ·rw[hd];rfl
 ·unfold ares
  rw[hr]
  simp only[aresL,ares1,hv]
/-! ### Calls that are reckoned -/
section
variable {P:Program} {D:Tab} {E:Env} {n0:Nat}
open Classical in
def ShownF (D:Tab) (E:Env) (I:Known) (S:Says):Prop:=
 ∀ m f args h v,S m f args h v→Fit (fresh h)→roV v=true∧∃ n h',(ev D E (upTo S I m) n).call f args (fresh h)=some (v,h')∧h'.log=[]
theorem upToF_good (T:D.Of P) (hN:NoNum P) {I:Known} (hI:KnownGood P D E n0 I) {S:Says} (hS:ShownF D E I S):∀ m,KnownGood P D E n0 (upTo S I m):=by
 have key:∀ m,KnownGood P D E n0 (upTo S I m)→∀ {f args h v φ w},S m f args h v→Tie D E n0 All φ h w→(∀ x∈args,okV φ x)→Sim P D E n0 (callFunc f (args.map (ren φ)).toArray) φ h w v h:=by
  intro m hm f args h v φ w hs R hok
  obtain⟨hro,n,h',h1,h2⟩:=hS m f args h v hs ⟨R.fresh,R.root,Nat.le_refl _⟩
  have hev:=ev_ok T hN hm n
  have hlg:=(ev_lg hm.lg n).call h1 ⟨R.root,Nat.le_refl _⟩
  obtain⟨L,l1,_,l3⟩:=hlg.log
  have hL:L=[]:=by
   rw[h2] at l1
   have:L++(fresh h).log=[]:=l1.symm
   exact (List.append_eq_nil_iff.1 this).1
  exact forget_sim R (hev.call _ _ _ _ _ h1 φ w (R.marked _ _) hok) hro (fun k hk=>l3 k hk (by rw[hL];simp))
 intro m
 induction m using Nat.strongRecOn with
 | ind m ih=>
  refine⟨fun f args h r h' hi φ w R hok => ?_,fun f args h r h' hi o => ?_,fun f args h r h' hi => ?_⟩
  ·unfold upTo at hi
   split at hi
   ·next c=>
    cases hi
    obtain⟨s,h1,h2⟩:=c.choose_spec
    exact key s (ih s h1) h2 R hok
   ·exact hI.sim _ _ _ _ _ hi φ w R hok
  ·unfold upTo at hi
   split at hi
   ·cases hi;exact Lg.refl o
   ·exact hI.lg _ _ _ _ _ hi o
  ·unfold upTo at hi
   split at hi
   ·cases hi;exact Nat.le_refl _
   ·exact hI.next _ _ _ _ _ hi
theorem saidByF_good (T:D.Of P) (hN:NoNum P) {I:Known} (hI:KnownGood P D E n0 I) {S:Says} (hS:ShownF D E I S):KnownGood P D E n0 (saidBy S I):=by
 have hm:=upToF_good T hN hI hS
 refine⟨fun f args h r h' hi φ w R hok => ?_,fun f args h r h' hi o => ?_,fun f args h r h' hi => ?_⟩
 ·unfold saidBy at hi
  split at hi
  ·next c=>
   cases hi
   obtain⟨s,h2⟩:=c.choose_spec
   obtain⟨hro,n,h',h3,h4⟩:=hS s f args h _ h2 ⟨R.fresh,R.root,Nat.le_refl _⟩
   have hev:=ev_ok T hN (hm s) n
   have hlg:=(ev_lg (hm s).lg n).call h3 ⟨R.root,Nat.le_refl _⟩
   obtain⟨L,l1,_,l3⟩:=hlg.log
   have hL:L=[]:=by
    rw[h4] at l1
    have:L++(fresh h).log=[]:=l1.symm
    exact (List.append_eq_nil_iff.1 this).1
   exact forget_sim R (hev.call _ _ _ _ _ h3 φ w (R.marked _ _) hok) hro (fun k hk=>l3 k hk (by rw[hL];simp))
  ·exact hI.sim _ _ _ _ _ hi φ w R hok
 ·unfold saidBy at hi
  split at hi
  ·cases hi;exact Lg.refl o
  ·exact hI.lg _ _ _ _ _ hi o
 ·unfold saidBy at hi
  split at hi
  ·cases hi;exact Nat.le_refl _
  ·exact hI.next _ _ _ _ _ hi
theorem Wc.opsN {I:Known} {F:Fx} {id:Nat} {l:List Oper} {A A':Ac} {h h':H} {Q:Ex→Ac→H→Prop} (n:Nat) (he:runOps D E (ev D E I n) l.toArray l A h=some (A',h')) (hq:Q .normal A' h'):Wc D E I F (.region id l.toArray false) A h Q:=by
 refine⟨n+1,.normal,A',h',?_,hq⟩
 show doCode D E (ev D E I n) F (.region id l.toArray false) A h=_
 simp only[doCode,runRegion,he];rfl
def RQ (D:Tab) (E:Env) (v:Ev) (ops:Array Oper) (l:List Oper) (A:Ac) (h:H) (Q:Ac→H→Prop):Prop:=∃ A' h',runOps D E v ops l A h=some (A',h')∧Q A' h'
theorem RQ.run {v:Ev} {ops:Array Oper} {o:Oper} {rest:List Oper} {A:Ac} {h h':H} {x:Value} {Q:Ac→H→Prop} (hw:awant ops A o=true) (ho:oper1 D E v A o h=some (x,h')) (r:RQ D E v ops rest (A.put o.dst x) h' Q):RQ D E v ops (o::rest) A h Q:=by
 obtain⟨A',h2,h3,h4⟩:=r
 exact⟨A',h2,RO.run hw ho h3,h4⟩
theorem RQ.runG {v:Ev} {ops:Array Oper} {o:Oper} {rest:List Oper} {A:Ac} {h h':H} {x:Value} {Q:Ac→H→Prop} {j:Nat} {w:Bool} {d:Tmp} (hg:o.guard=some (j,w)) (hd:(ops[j]?).bind (·.dst)=some d) (hv:A.get d=.bool w) (ho:oper1 D E v A o h=some (x,h')) (r:RQ D E v ops rest (A.put o.dst x) h' Q):RQ D E v ops (o::rest) A h Q:=by
 obtain⟨A',h2,h3,h4⟩:=r
 exact⟨A',h2,RO.runG hg hd hv ho h3,h4⟩
theorem RQ.skipG {v:Ev} {ops:Array Oper} {o:Oper} {rest:List Oper} {A:Ac} {h:H} {Q:Ac→H→Prop} {j:Nat} {w:Bool} {d:Tmp} (hg:o.guard=some (j,w)) (hd:(ops[j]?).bind (·.dst)=some d) (hv:A.get d=.bool (!w)) (r:RQ D E v ops rest (A.put o.dst undef) h Q):RQ D E v ops (o::rest) A h Q:=by
 obtain⟨A',h2,h3,h4⟩:=r
 exact⟨A',h2,RO.skipG hg hd hv h3,h4⟩
theorem RQ.nil {v:Ev} {ops:Array Oper} {A:Ac} {h:H} {Q:Ac→H→Prop} (hq:Q A h):RQ D E v ops [] A h Q:=⟨A,h,rfl,hq⟩
theorem RQ.forget {v:Ev} {ops:Array Oper} {l:List Oper} {A:Ac} {h:H} {Q:Ac→H→Prop} (P:Ac→Prop) (hP:P A) (w:∀ A',P A'→RQ D E v ops l A' h Q):RQ D E v ops l A h Q:=w A hP
theorem Wc.opsQ {I:Known} {F:Fx} {id:Nat} {l:List Oper} {A:Ac} {h:H} {Q:Ex→Ac→H→Prop} (n:Nat) (r:RQ D E (ev D E I n) l.toArray l A h (Q .normal)):Wc D E I F (.region id l.toArray false) A h Q:=by
 obtain⟨A',h',h1,h2⟩:=r
 exact Wc.opsN n h1 h2
end
section
variable {D:Tab} {E:Env} {v:Ev} {ops:Array Oper}
def FQ (D:Tab) (E:Env) (v:Ev) (ops:Array Oper) (j:Nat) (l:List Oper) (A:Ac) (h:H) (Q:Ac→H→List Tch→Prop):Prop:=∃ A' h' ts,runFree D E v ops j l A h=some (A',h',ts)∧Q A' h' ts
theorem FQ.nil {j:Nat} {A:Ac} {h:H} {Q:Ac→H→List Tch→Prop} (hq:Q A h []):FQ D E v ops j [] A h Q:=⟨A,h,[],rfl,hq⟩
theorem FQ.step {j:Nat} {o:Oper} {rest:List Oper} {A:Ac} {h h1:H} {x:Value} {Q:Ac→H→List Tch→Prop} (hw:awant ops A o=true) (hm:mayJoin o.op=false) (ho:oper1 D E v A o (fresh h)=some (x,h1))
  (r:FQ D E v ops (j+1) rest (A.put o.dst x) (back h h1) (fun A' h' ts=>Q A' h' (⟨reads D A o,h1.log,h.next,h1.next,rootedStore A h o.op⟩::ts))):FQ D E v ops j (o::rest) A h Q:=by
 obtain⟨A',h',ts,h2,hq⟩:=r
 refine⟨A',h',_,?_,hq⟩
 have ho':oper1 D E v A o { h with mark:=h.next,log:=[] }=some (x,h1):=ho
 simp only[runFree,hw,ho',hm,Bool.not_false,Bool.true_or]
 have h2':runFree D E v ops (j+1) rest (A.put o.dst x) ({ h1 with mark:=h.mark,log:=h.log }.note h1.log)=some (A',h',ts):=h2
 rw[h2']
theorem FQ.pure {j:Nat} {o:Oper} {rest:List Oper} {A:Ac} {h:H} {x:Value} {Q:Ac→H→List Tch→Prop} (hg:o.guard=none) (hm:mayJoin o.op=false) (ho:oper1 D E v A o (fresh h)=some (x,fresh h))
  (r:FQ D E v ops (j+1) rest (A.put o.dst x) h (fun A' h' ts=>Q A' h' (⟨reads D A o,[],h.next,h.next,rootedStore A h o.op⟩::ts))):FQ D E v ops j (o::rest) A h Q:=
 FQ.step (awant_none hg) hm ho (by rw[back_fresh];exact r)
theorem FQ.pureG {j:Nat} {o:Oper} {rest:List Oper} {A:Ac} {h:H} {x:Value} {Q:Ac→H→List Tch→Prop} {i:Nat} {w:Bool} {d:Tmp} (hg:o.guard=some (i,w)) (hd:(ops[i]?).bind (·.dst)=some d) (hv:A.get d=.bool w) (hm:mayJoin o.op=false) (ho:oper1 D E v A o (fresh h)=some (x,fresh h))
  (r:FQ D E v ops (j+1) rest (A.put o.dst x) h (fun A' h' ts=>Q A' h' (⟨reads D A o,[],h.next,h.next,rootedStore A h o.op⟩::ts))):FQ D E v ops j (o::rest) A h Q:=by
 refine FQ.step ?_ hm ho (by rw[back_fresh];exact r)
 unfold awant
 rw[hg]
 simp only[ayield_get,hd,hv]
 cases w<;>rfl
theorem FQ.new {j:Nat} {o:Oper} {rest:List Oper} {A:Ac} {h:H} {x:Value} {B:Blk} {Q:Ac→H→List Tch→Prop} (hg:o.guard=none) (hm:mayJoin o.op=false) (ho:oper1 D E v A o (fresh h)=some (x,(fresh h).new B))
  (r:FQ D E v ops (j+1) rest (A.put o.dst x) (h.new B) (fun A' h' ts=>Q A' h' (⟨reads D A o,[],h.next,h.next+1,rootedStore A h o.op⟩::ts))):FQ D E v ops j (o::rest) A h Q:=by
 refine FQ.step (awant_none hg) hm ho ?_
 have e:back h ((fresh h).new B)=h.new B:=note_nil (h.new B)
 rw[e];exact r
theorem FQ.call {j:Nat} {o:Oper} {rest:List Oper} {A:Ac} {h h1:H} {x:Value} {Q:Ac→H→List Tch→Prop} (hg:o.guard=none) (hm:mayJoin o.op=false) (ho:oper1 D E v A o (fresh h)=some (x,h1)) (hl:h1.log=[])
  (r:FQ D E v ops (j+1) rest (A.put o.dst x) (back h h1) (fun A' h' ts=>Q A' h' (⟨reads D A o,[],h.next,h1.next,rootedStore A h o.op⟩::ts))):FQ D E v ops j (o::rest) A h Q:=
 FQ.step (awant_none hg) hm ho (by rw[hl];exact r)
def calm (t:Tch):Bool:=t.writes.isEmpty && !t.rooted
def FC (D:Tab) (E:Env) (v:Ev) (ops:Array Oper) (j:Nat) (l:List Oper) (A:Ac) (h:H) (Q:Ac→H→Prop):Prop:=FQ D E v ops j l A h (fun A' h' ts=>ts.all calm=true∧Q A' h')
theorem FQ.mono {j:Nat} {l:List Oper} {A:Ac} {h:H} {Q Q':Ac→H→List Tch→Prop} (r:FQ D E v ops j l A h Q) (hq:∀ A h ts,Q A h ts→Q' A h ts):FQ D E v ops j l A h Q':=by
 obtain⟨A',h',ts,h1,h2⟩:=r
 exact⟨A',h',ts,h1,hq _ _ _ h2⟩
theorem rooted_not {A:Ac} {h:H} {op:Op} (hs:isStore op=false):rootedStore A h op=false:=by
 cases op<;>first|rfl|cases hs
theorem FC.nil {j:Nat} {A:Ac} {h:H} {Q:Ac→H→Prop} (hq:Q A h):FC D E v ops j [] A h Q:=FQ.nil ⟨rfl,hq⟩
theorem calm_cons {r:Option (List Nat)} {lo hi:Nat} {A:Ac} {h:H} {op:Op} (hs:isStore op=false) {ts:List Tch} (ht:ts.all calm=true):(⟨r,[],lo,hi,rootedStore A h op⟩::ts:List Tch).all calm=true:=by
 rw[List.all_cons,ht,rooted_not hs];rfl
theorem FC.pure {j:Nat} {o:Oper} {rest:List Oper} {A:Ac} {h:H} {x:Value} {Q:Ac→H→Prop} (hg:o.guard=none) (hm:(mayJoin o.op||isStore o.op)=false) (ho:oper1 D E v A o (fresh h)=some (x,fresh h)) (r:FC D E v ops (j+1) rest (A.put o.dst x) h Q):FC D E v ops j (o::rest) A h Q:=by
 rw[Bool.or_eq_false_iff] at hm
 exact FQ.pure hg hm.1 ho (r.mono fun _ _ _ ⟨a,b⟩=>⟨calm_cons hm.2 a,b⟩)
theorem FC.pureG {j:Nat} {o:Oper} {rest:List Oper} {A:Ac} {h:H} {x:Value} {Q:Ac→H→Prop} {i:Nat} {w:Bool} {d:Tmp} (hg:o.guard=some (i,w)) (hd:(ops[i]?).bind (·.dst)=some d) (hv:A.get d=.bool w) (hm:(mayJoin o.op||isStore o.op)=false) (ho:oper1 D E v A o (fresh h)=some (x,fresh h)) (r:FC D E v ops (j+1) rest (A.put o.dst x) h Q):FC D E v ops j (o::rest) A h Q:=by
 rw[Bool.or_eq_false_iff] at hm
 exact FQ.pureG hg hd hv hm.1 ho (r.mono fun _ _ _ ⟨a,b⟩=>⟨calm_cons hm.2 a,b⟩)
theorem FC.new {j:Nat} {o:Oper} {rest:List Oper} {A:Ac} {h:H} {x:Value} {B:Blk} {Q:Ac→H→Prop} (hg:o.guard=none) (hm:(mayJoin o.op||isStore o.op)=false) (ho:oper1 D E v A o (fresh h)=some (x,(fresh h).new B)) (r:FC D E v ops (j+1) rest (A.put o.dst x) (h.new B) Q):FC D E v ops j (o::rest) A h Q:=by
 rw[Bool.or_eq_false_iff] at hm
 exact FQ.new hg hm.1 ho (r.mono fun _ _ _ ⟨a,b⟩=>⟨calm_cons hm.2 a,b⟩)
theorem Wc.drawC {I:Known} {F:Fx} {id:Nat} {l:List Oper} {A:Ac} {h:H} {Q:Ex→Ac→H→Prop} (n:Nat) (hd:drawOk l.toArray=true) (r:FC D E (ev D E I n) l.toArray 0 l A h (Q .normal)):Wc D E I F (.region id l.toArray true) A h Q:=by
 obtain⟨A',h',ts,h1,h2,hq⟩:=r
 refine⟨n+1,.normal,A',h',?_,hq⟩
 show doCode D E (ev D E I n) F (.region id l.toArray true) A h=_
 simp only[doCode,runRegion,hd,h1,allMeet_quiet h2];rfl
theorem Wc.drawQ {I:Known} {F:Fx} {id:Nat} {l:List Oper} {A:Ac} {h:H} {Q:Ex→Ac→H→Prop} (n:Nat) (hd:drawOk l.toArray=true) (r:FQ D E (ev D E I n) l.toArray 0 l A h (fun A' h' ts=>allMeet (Region.before l.toArray) ts=true∧Q .normal A' h')):Wc D E I F (.region id l.toArray true) A h Q:=by
 obtain⟨A',h',ts,h1,h2,hq⟩:=r
 refine⟨n+1,.normal,A',h',?_,hq⟩
 show doCode D E (ev D E I n) F (.region id l.toArray true) A h=_
 simp only[doCode,runRegion,hd,h1,h2];rfl
end
/-! ### Some functions are reckoned -/
/-! ### Kids -/
def H.setl (h:H) (k:Nat) (B:Blk):H:=(h.setb k B).note [k]
theorem setl_blk (h:H) (k:Nat) (B:Blk) (j:Nat):(h.setl k B).blk j=(h.setb k B).blk j:=H.note_blk _ _ _
theorem setl_dyn (h:H) (k:Nat) (B:Blk):(h.setl k B).dyn=h.dyn.set k B:=H.note_dyn _ _
theorem setl_next (h:H) (k:Nat) (B:Blk):(h.setl k B).next=h.next:=H.note_next _ _
theorem note_mark (h:H) (ks:List Nat):(h.note ks).mark=h.mark:=by unfold H.note;split<;>rfl
theorem note_chains (h:H) (ks:List Nat):(h.note ks).chains=h.chains:=by unfold H.note;split<;>rfl
theorem setl_mark (h:H) (k:Nat) (B:Blk):(h.setl k B).mark=h.mark:=note_mark _ _
theorem setl_chain (h:H) (k:Nat) (B:Blk) (r:Nat):(h.setl k B).chain r=h.chain r:=by
 unfold H.chain
 show (((h.setb k B).note [k]).chains.get r).getD []=_
 rw[note_chains];rfl
theorem setl_same {h:H} {k:Nat} {B:Blk} (hB:B.plain=true):(h.setl k B).blk k=some B:=by rw[setl_blk];exact setb_same hB
theorem setl_ne {h:H} {k j:Nat} {B:Blk} (hk:j≠k):(h.setl k B).blk j=h.blk j:=by rw[setl_blk];exact setb_ne hk
theorem note_log {h:H} {ks:List Nat} {j:Nat} (hj:j∈(h.note ks).log):j∈h.log∨(j∈ks∧j<h.mark):=by
 unfold H.note at hj
 split at hj
 ·exact .inl hj
 ·next m hm=>
  rcases List.mem_append.1 hj with hj|hj
  ·obtain⟨h1,h2⟩:=List.mem_filter.1 hj
   rw[Nat.ble_eq] at h2
   exact .inr ⟨h1,by omega⟩
  ·exact .inl hj
theorem setl_log {h:H} {k:Nat} {B:Blk} {j:Nat} (hj:j∈(h.setl k B).log):j∈h.log∨(j=k∧j<h.mark):=by
 rcases note_log hj with h1|⟨h1,h2⟩
 ·exact .inl h1
 ·exact .inr ⟨by simpa using h1,h2⟩
theorem Fit.setl {h:H} (f:Fit h) {k:Nat} {B:Blk} (hB:B.plain=true) (hk:k<h.next):Fit (h.setl k B):=by
 have g:=f.setb hB hk
 refine⟨fun j hj => ?_,⟨fun j xs ty r p hd => ?_,?_⟩⟩
 ·rw[setl_next] at hj
  rw[setl_dyn]
  exact g.free j hj
 ·rw[setl_dyn] at hd
  rw[setl_next]
  exact g.ok.1 _ _ _ _ _ hd
 ·rw[setl_mark,setl_next];exact f.ok.2
structure Mod (M:Nat→Prop) (h g:H):Prop where
 fit:Fit g
 blk:∀ k B,¬ M k→h.blk k=some B→g.blk k=some B
 mark:g.mark=h.mark
 next:h.next≤g.next
 chain:∀ r,r<h.next→g.chain r=h.chain r
 log:∀ j,j∈g.log→j∈h.log∨(M j∧j<h.mark)
theorem Mod.refl {M:Nat→Prop} {h:H} (f:Fit h):Mod M h h:=⟨f,fun _ _ _ h=>h,rfl,Nat.le_refl _,fun _ _=>rfl,fun _ h=>.inl h⟩
theorem Mod.trans {M:Nat→Prop} {h g f:H} (s:Mod M h g) (t:Mod M g f):Mod M h f:=
 ⟨t.fit,fun k B hk hb=>t.blk k B hk (s.blk k B hk hb),t.mark.trans s.mark,Nat.le_trans s.next t.next,fun r hr=>(t.chain r (Nat.lt_of_lt_of_le hr s.next)).trans (s.chain r hr),fun j hj=>by
  rcases t.log j hj with h1|⟨h1,h2⟩
  ·exact s.log j h1
  ·exact .inr ⟨h1,by rw[← s.mark];exact h2⟩⟩
theorem Ahd.mod {M:Nat→Prop} {h g:H} (a:Ahd h g):Mod M h g:=⟨a.fit,fun k B _ hb=>a.grows k B hb,a.mark,a.next,a.chain,fun j hj=>.inl (by rw[← a.log];exact hj)⟩
theorem Mod.ahd {M:Nat→Prop} {h g f:H} (s:Mod M h g) (t:Ahd g f):Mod M h f:=s.trans t.mod
theorem Mod.sub {M N:Nat→Prop} {h g:H} (s:Mod M h g) (hMN:∀ k,M k→N k):Mod N h g:=
 ⟨s.fit,fun k B hk hb=>s.blk k B (fun hm=>hk (hMN k hm)) hb,s.mark,s.next,s.chain,fun j hj=>(s.log j hj).imp id (fun h=>⟨hMN j h.1,h.2⟩)⟩
theorem Mod.setl {M:Nat→Prop} {h g:H} (s:Mod M h g) {k:Nat} {B:Blk} (hB:B.plain=true) (hk:M k) (hg:k<g.next):Mod M h (g.setl k B):=
 ⟨s.fit.setl hB hg,fun j B' hj hb=>by
  rw[setl_ne (by intro e;subst e;exact hj hk)];exact s.blk j B' hj hb,(setl_mark _ _ _).trans s.mark,by rw[setl_next];exact s.next,fun r hr=>(setl_chain _ _ _ _).trans (s.chain r hr),fun j hj=>by
  rcases setl_log hj with h1|⟨rfl,h2⟩
  ·exact s.log j h1
  ·exact .inr ⟨hk,by rw[← s.mark];exact h2⟩⟩
theorem Mod.low {M N:Nat→Prop} {h g:H} (f:Fit h) (s:Mod N h g) (hN:∀ k,N k→M k∨h.next≤k):Mod M h g:=
 ⟨s.fit,fun k B hk hb=>s.blk k B (fun hn=>by
  rcases hN k hn with h1|h1
  ·exact hk h1
  ·have:=f.lt hb;omega) hb,s.mark,s.next,s.chain,fun j hj=>by
  rcases s.log j hj with h1|⟨h1,h2⟩
  ·exact .inl h1
  ·rcases hN j h1 with h3|h3
   ·exact .inr ⟨h3,h2⟩
   ·have:=f.ok.2;omega⟩
theorem put_setl {h:H} {k o:Nat} {vs xs:List Value} {ty:TypeId} (hb:h.blk k=some (.cells xs ty none)) (hv:vs≠[]) (hl:o+vs.length≤xs.length) (h1:vs.all isOne=true) :
  h.put (aadd (own k) o) vs=some (h.setl k (.cells (xs.take o++vs++xs.drop (o+vs.length)) ty none)):=by
 unfold H.put
 cases vs with
 | nil=>exact absurd rfl hv
 | cons v vs=>
  simp only[aadd,own,Nat.zero_add,hb]
  rw[h1,show Nat.ble (o+(v::vs).length) xs.length=true from by rw[Nat.ble_eq];exact hl]
  simp only[Bool.and_self]
  rfl
theorem put_own_setl {h:H} {k:Nat} {vs xs:List Value} {ty:TypeId} (hb:h.blk k=some (.cells xs ty none)) (hv:vs≠[]) (hl:vs.length=xs.length) (h1:vs.all isOne=true) :
  h.put (own k) vs=some (h.setl k (.cells vs ty none)):=by
 have:=put_setl (o:=0) hb hv (by omega) h1
 rw[show aadd (own k) 0=own k from rfl,List.take_zero,List.nil_append,List.drop_of_length_le (by omega),List.append_nil] at this
 exact this
theorem fresh_setl {h:H} {k:Nat} {B:Blk} (hk:k<h.next):((fresh h).setl k B).log=[k]∧back h ((fresh h).setl k B)=h.setl k B:=by
 have hd:∃ m,h.next=m+1∧k≤m:=by cases hn:h.next with|zero=>omega|succ m=>exact⟨m,rfl,by omega⟩
 obtain⟨m,hm1,hm2⟩:=hd
 have hble:Nat.ble k m=true:=by rw[Nat.ble_eq];exact hm2
 have e:(fresh h).setl k B={ h with dyn:=h.dyn.set k B,mark:=h.next,log:=[k] }:=by
  unfold H.setl H.note
  have:((fresh h).setb k B).mark=m+1:=hm1
  rw[this]
  simp only[List.filter_cons,hble,if_true,List.filter_nil]
  rw[← hm1]
  rfl
 rw[e]
 exact⟨rfl,rfl⟩
theorem Mod.back {M:Nat→Prop} {h h1:H} (f:Fit h) (a:Mod M (fresh h) h1):Mod M h (Hs.back h h1)∧(∀ k,(Hs.back h h1).blk k=h1.blk k)∧(Hs.back h h1).next=h1.next∧∀ j,j∈h1.log→M j∧j<h.next:=by
 have hb:=back_blk h h1
 have hn:=back_next h h1
 have hl:∀ j,j∈h1.log→M j∧j<h.next:=fun j hj=>by
  rcases a.log j hj with h2|h2
  ·cases h2
  ·exact h2
 refine⟨⟨⟨fun k hk => ?_,⟨fun k xs ty r p hd => ?_,?_⟩⟩,fun k B hk hB=>by rw[hb];exact a.blk k B hk hB,?_,by rw[hn];exact a.next,fun r hr => ?_,fun j hj => ?_⟩,hb,hn,hl⟩
 ·rw[hn] at hk
  rw[back_dyn];exact a.fit.free k hk
 ·rw[back_dyn] at hd
  rw[hn];exact a.fit.ok.1 _ _ _ _ _ hd
 ·unfold Hs.back
  rw[note_mark,H.note_next]
  exact Nat.le_trans f.ok.2 a.next
 ·unfold Hs.back
  rw[note_mark]
 ·unfold Hs.back H.chain
  rw[note_chains]
  exact a.chain r hr
 ·rcases note_log hj with h2|⟨h2,h3⟩
  ·exact .inl h2
  ·exact .inr ⟨(hl j h2).1,h3⟩
theorem allMeet_by {b:Array Nat} {ts:List Tch} (S:List Nat) (hc:∀ i e,ts[i]? = some e→S.contains i=false→calm e=true) (hS:∀ i j s t,i<j→(S.contains i=true∨S.contains j=true)→ts[i]? = some s→ts[j]? = some t→ordered b i j=false→meets s t=true):allMeet b ts=true:=by
 unfold allMeet
 simp only[List.all_eq_true]
 rintro⟨x,i⟩ hx ⟨y,j⟩ hy
 have hx:=List.mem_zipIdx_iff_getElem?.1 hx
 have hy:=List.mem_zipIdx_iff_getElem?.1 hy
 simp only at hx hy ⊢
 by_cases hij:i<j
 rotate_left
 ·have:Nat.blt i j=false:=by
   cases q:Nat.blt i j
   ·rfl
   ·rw[Nat.blt_eq] at q;omega
  rw[this];rfl
 cases ho:ordered b i j with
 | true=>simp
 | false=>
  by_cases h1:S.contains i=true
  ·rw[hS i j x y hij (.inl h1) hx hy ho];simp
  ·by_cases h2:S.contains j=true
   ·rw[hS i j x y hij (.inr h2) hx hy ho];simp
   ·have c1:=hc i x hx (by simpa using h1)
    have c2:=hc j y hy (by simpa using h2)
    simp only[calm,Bool.and_eq_true,Bool.not_eq_true',List.isEmpty_iff] at c1 c2
    have:meets x y=true:=by
     unfold meets
     rw[c1.1,c2.1,c1.2,c2.2]
     simp[apart?]
    rw[this,Bool.or_true]
theorem pairs_of {b:Array Nat} {S:List Nat} {n:Nat} {U:List (Nat×Nat)} (h:((List.range n).all fun i=>(List.range n).all fun j => !(Nat.blt i j) || !(S.contains i||S.contains j)||ordered b i j||U.contains (i,j))=true) {i j:Nat} (hij:i<j) (hj:j<n) (hs:S.contains i=true∨S.contains j=true) (ho:ordered b i j=false):(i,j)∈U:=by
 rw[List.all_eq_true] at h
 have h1:=h i (List.mem_range.2 (by omega))
 rw[List.all_eq_true] at h1
 have h2:=h1 j (List.mem_range.2 hj)
 have e1:Nat.blt i j=true:=by rw[Nat.blt_eq];exact hij
 have e2:(S.contains i||S.contains j)=true:=by rcases hs with h|h<;>rw[h]<;>simp
 rw[e1,e2,ho] at h2
 simpa using h2
theorem allMeet_last {b:Array Nat} {l:List Tch} {s:Tch} (hc:l.all calm=true) (h:((List.range l.length).all fun i=>ordered b i l.length)=true):allMeet b (l++[s])=true:=by
 refine allMeet_by [l.length] (fun i e hi hs => ?_) (fun i j s' t hij hs h1 h2 ho => ?_)
 ·have hil:i<l.length:=by
   have h1:=(List.getElem?_eq_some_iff.1 hi).1
   rw[List.length_append] at h1
   have h2:i≠l.length:=by
    intro e
    subst e
    simp at hs
   simp at h1
   omega
  rw[List.getElem?_append_left hil] at hi
  rw[List.all_eq_true] at hc
  exact hc e (List.mem_of_getElem? hi)
 ·have hj:j<l.length+1:=by
   have:=(List.getElem?_eq_some_iff.1 h2).1
   simpa using this
  have hjl:j=l.length:=by
   rcases hs with hs|hs
   ·have:i=l.length:=by simpa using hs
    omega
   ·simpa using hs
  subst hjl
  rw[List.all_eq_true] at h
  rw[h i (List.mem_range.2 hij)] at ho
  cases ho
theorem meets_left {s t:Tch} {l:List Nat} (ht:t.writes=[]) (hr:t.reads=some l) (hd:∀ k,k∈s.writes→k ∉ l) (hn:t.rooted=false):meets s t=true:=by
 unfold meets
 rw[ht,hr,hn]
 have h1:apart? s.writes (some l)=true:=by
  cases hw:s.writes with
  | nil=>rfl
  | cons w ws=>
   simp only[apart?,List.all_eq_true]
   intro k hk
   rw[Bool.not_eq_true',List.any_eq_false]
   intro j hj hjk
   obtain rfl:=Nat.eq_of_beq_eq_true hjk
   exact hd k (by rw[hw];exact hk) hj
 have h2:apart? s.writes (some [])=true:=by cases hw:s.writes<;>simp[apart?]
 rw[h1,h2]
 simp[apart?]
theorem meets_right {s t:Tch} {l:List Nat} (hs:s.writes=[]) (hr:s.reads=some l) (hd:∀ k,k∈t.writes→k ∉ l) (hn:s.rooted=false) (hb:∀ k,k∈t.writes→k<s.lo∨s.hi≤k):meets s t=true:=by
 unfold meets
 rw[hs,hr,hn]
 have h1:apart? t.writes (some l)=true:=by
  cases hw:t.writes with
  | nil=>rfl
  | cons w ws=>
   simp only[apart?,List.all_eq_true]
   intro k hk
   rw[Bool.not_eq_true',List.any_eq_false]
   intro j hj hjk
   obtain rfl:=Nat.eq_of_beq_eq_true hjk
   exact hd k (by rw[hw];exact hk) hj
 have h3:(t.writes.all fun k=>Nat.blt k s.lo||Nat.ble s.hi k)=true:=by
  rw[List.all_eq_true]
  intro k hk
  rcases hb k hk with h|h
  ·rw[show Nat.blt k s.lo=true from by rw[Nat.blt_eq];exact h];rfl
  ·rw[show Nat.ble s.hi k=true from by rw[Nat.ble_eq];exact h,Bool.or_true]
 rw[h1,h3]
 simp[apart?]
section
variable {D:Tab} {E:Env} {v:Ev} {ops:Array Oper}
theorem FQ.setl {j:Nat} {o:Oper} {rest:List Oper} {A:Ac} {h:H} {k:Nat} {B:Blk} {x:Value} {Q:Ac→H→List Tch→Prop} (hg:o.guard=none) (hm:mayJoin o.op=false) (hk:k<h.next) (ho:oper1 D E v A o (fresh h)=some (x,(fresh h).setl k B))
  (r:FQ D E v ops (j+1) rest (A.put o.dst x) (h.setl k B) (fun A' h' ts=>Q A' h' (⟨reads D A o,[k],h.next,h.next,rootedStore A h o.op⟩::ts))):FQ D E v ops j (o::rest) A h Q:=by
 obtain⟨e1,e2⟩:=fresh_setl (h:=h) (k:=k) (B:=B) hk
 refine FQ.step (awant_none hg) hm ho ?_
 rw[e2,e1,setl_next]
 exact r
theorem FQ.mod {j:Nat} {o:Oper} {rest:List Oper} {A:Ac} {h h1:H} {x:Value} {Q:Ac→H→List Tch→Prop} (hg:o.guard=none) (hm:mayJoin o.op=false) (ho:oper1 D E v A o (fresh h)=some (x,h1))
  (r:FQ D E v ops (j+1) rest (A.put o.dst x) (back h h1) (fun A' h' ts=>Q A' h' (⟨reads D A o,h1.log,h.next,h1.next,rootedStore A h o.op⟩::ts))):FQ D E v ops j (o::rest) A h Q:=
 FQ.step (awant_none hg) hm ho r
end
section
variable {D:Tab} {E:Env} {I:Known}
end
def Ap2 (h:H) (base:Nat) (e:TypeId) (sz:Nat) (s:Value) (n:Nat) (xs:List Value) (ro:Option Nat):Prop:=
 (n=0∧xs=[]∧s=.slice none 0 0∧ro=none)∨
 ∃ k r,s=.slice (some (own k)) n n∧h.blk k=some (.cells xs e (some (r,0)))∧xs.length=n*sz∧xs.all isOne=true∧base≤r∧r<h.next∧(∀ j∈h.chain r,∃ ys ty p,h.dyn.get j=some (.cells ys ty (some (r,p)))∧p+ys.length≤n*sz)∧ro=some r
theorem Ap2.mod {M:Nat→Prop} {h g:H} {base:Nat} {e:TypeId} {sz:Nat} {s:Value} {n:Nat} {xs:List Value} {ro:Option Nat} (a:Ap2 h base e sz s n xs ro) (m:Mod M h g) (hp:∀ k B,M k→h.blk k=some B→B.plain=true):Ap2 g base e sz s n xs ro:=by
 rcases a with a|⟨k,r,e1,e2,e3,e4,e5,e6,e7,e8⟩
 ·exact .inl a
 ·have keep:∀ j ys ty p,h.blk j=some (.cells ys ty (some (r,p)))→g.blk j=some (.cells ys ty (some (r,p))):=fun j ys ty p hb=>m.blk _ _ (fun hM=>by
   have:=hp _ _ hM hb
   cases this) hb
  refine .inr ⟨k,r,e1,keep _ _ _ _ e2,e3,e4,e5,Nat.lt_of_lt_of_le e6 m.next,fun j hj => ?_,e8⟩
  rw[m.chain r e6] at hj
  obtain⟨ys,ty,p,hd,hle⟩:=e7 j hj
  have hb:h.blk j=some (.cells ys ty (some (r,p))):=by
   unfold H.blk
   rw[hd]
   simp only
   rw[show (h.chain r).contains j=true from by simpa using hj]
  exact⟨ys,ty,p,H.blk_dyn (keep _ _ _ _ hb),hle⟩
theorem only_mod {M:Nat→Prop} {p q:Nat→Bool} {h g:H} (f:Fit h) (m:Mod M h g) (hM:∀ k B,M k→h.blk k=some B→B.plain=true) (hp:∀ r,p r=true→q r=true):Grows (only p h) (only q g):=
 only_mono f m.fit (fun k B hb ⟨xs,ty,r,o,hB,_⟩=>m.blk k B (fun hk=>by
  have:=hM k B hk hb
  subst hB;cases this) hb) hp
def loops:Code→List Code
 | .seq a b=>loops a++loops b
 | .cond _ a b=>loops a++loops b
 | .block _ c=>loops c
 | .scope c=>loops c
 | .loop c=>c::loops c
 | .rangeFunc _ _ a b=>loops a++loops b
 | _=>[]
def loopAt (f:Func) (n:Nat):Code:=match f.body with
 | some c=>(loops c).getD n .skip
 | none=>.skip
mutual
def goodI:Item→Prop
 | .mk k n tx ks=>1≤k∧k≤63∧0≤n∧n≤1099511627776∧tx.data.toList.length≤4096∧goodL ks
def goodL:List Item→Prop
 | []=>True
 | x::xs=>goodI x∧goodL xs
end
theorem goodL_append:∀ {xs:List Item} {y:Item},goodL xs→goodI y→goodL (xs++[y])
 | [],y,_,hy=>by rw[List.nil_append,goodL,goodL];exact⟨hy,trivial⟩
 | x::xs,y,h,hy=>by
  rw[goodL] at h
  rw[List.cons_append,goodL]
  exact⟨h.1,goodL_append h.2 hy⟩
theorem iszL_append:∀ (xs:List Item) (y:Item),iszL (xs++[y])=iszL xs+isz y
 | [],y=>by simp[iszL]
 | x::xs,y=>by rw[List.cons_append,iszL,iszL_append xs y,iszL];omega
theorem back_chain (h g:H) (r:Nat):(back h g).chain r=g.chain r:=by
 unfold back H.chain
 rw[note_chains]
theorem back_fit {h q:H} (f:Fit h) (fq:Fit q) (hn:h.next≤q.next):Fit (back h q):=by
 refine⟨fun k hk => ?_,⟨fun k xs ty r p hd => ?_,?_⟩⟩
 ·rw[back_next] at hk
  rw[back_dyn];exact fq.free k hk
 ·rw[back_dyn] at hd
  rw[back_next];exact fq.ok.1 _ _ _ _ _ hd
 ·unfold back
  rw[note_mark,H.note_next]
  exact Nat.le_trans f.ok.2 hn
theorem back_only {h q:H} (f:Fit h) (fq:Fit q) (hn:h.next≤q.next) (p:Nat→Bool):Grows (only p q) (only p (back h q)):=
 only_mono fq (back_fit f fq hn) (fun k B hb _=>by rw[back_blk];exact hb) (fun _ h=>h)
theorem Ap2.back {h q:H} {base:Nat} {e:TypeId} {sz:Nat} {s:Value} {n:Nat} {xs:List Value} {ro:Option Nat} (a:Ap2 q base e sz s n xs ro):Ap2 (Hs.back h q) base e sz s n xs ro:=by
 rcases a with a|⟨k,r,e1,e2,e3,e4,e5,e6,e7,e8⟩
 ·exact .inl a
 ·exact .inr ⟨k,r,e1,by rw[back_blk];exact e2,e3,e4,e5,by rw[back_next];exact e6,fun j hj=>by
   rw[back_chain] at hj
   obtain⟨ys,ty,p,h1,h2⟩:=e7 j hj
   exact⟨ys,ty,p,by rw[back_dyn];exact h1,h2⟩,e8⟩
theorem back_mark (h q:H):(back h q).mark=h.mark:=by unfold back;rw[note_mark]
theorem back_log {h q:H} (hl:q.log=[]):(back h q).log=h.log:=by
 unfold back
 rw[hl]
 show (H.note _ []).log=_
 rw[note_nil]
theorem isz_pos (t:Item):1≤isz t:=by obtain⟨_,_,_,ks⟩:=t;rw[isz];omega
theorem Ahd.newOpen {h:H} (f:Fit h) (xs:List Value) (ty:TypeId):Ahd h (h.newOpen xs ty):=
 ⟨newOpen_fit f,fun k B hb=>newOpen_old f hb,rfl,rfl,Nat.le_succ _,fun r hr=>by
  simp only[H.chain,H.newOpen]
  rw[T.get_set_ne _ _ _ _ (by omega)]⟩
theorem Sx:(∀ (A:Ac) (d:Option Tmp) (v:Value),(A.put d v).n=A.n)∧(∀ (A:Ac) (d:Option Tmp) (v:Value),(A.put d v).defers=A.defers)∧
  (∀ (α:Type) (l:List α),[]++l=l)∧(∀ (α:Type) (l:List α),l++[]=l)∧(∀ (α:Type) (l:List α),l.toArray.toList=l)∧(∀ (α:Type) (a:α) (l:List α),(a::l)[0]? = some a)∧(∀ (α:Type) (a:α) (l:List α) (i:Nat),(a::l)[i+1]? = l[i]?)∧(!true)=false∧(!false)=true∧(∀ (α:Type) (h:Decidable True) (a b:α),@ite α True h a b=a)∧(∀ (α:Type) (h:Decidable False) (a b:α),@ite α False h a b=b)∧(∀ p:Prop,(p∧True)=p)∧(∀ h:Decidable True,@decide True h=true)∧(∀ h:Decidable False,@decide False h=false):=
 ⟨fun _ _ _=>Ac.put_n ..,fun _ _ _=>Ac.put_defers ..,fun _ _=>List.nil_append _,fun _ _=>List.append_nil _,fun _ _=>rfl,fun _ _ _=>rfl,fun _ _ _ _=>rfl,rfl,rfl,fun _ _ _ _=>if_true _ _,fun _ _ _ _=>if_false _ _,fun _=>and_true _,fun _=>decide_true _,fun _=>decide_false _⟩
theorem Ox:type_of% (And.intro @awant.eq_1 (And.intro @oper1.eq_1 (And.intro @aop.eq_1 (And.intro @aop.eq_2 (And.intro @aop.eq_3 (And.intro @aop.eq_4 (And.intro @aop.eq_5 (And.intro @aop.eq_6 (And.intro @aop.eq_7 (And.intro @aop.eq_8 (And.intro @aop.eq_9 (And.intro @aop.eq_10 (And.intro @aop.eq_11 (And.intro @aop.eq_12 (And.intro @aop.eq_13 (And.intro @aop.eq_14 (And.intro @aop.eq_15 (And.intro @aop.eq_16 (And.intro @aop.eq_17 (And.intro @aop.eq_18 (And.intro @aop.eq_19 (And.intro @aop.eq_20 (And.intro @aop.eq_21 (And.intro @aop.eq_22 (And.intro @aop.eq_23 (And.intro @aop.eq_24 (And.intro @aop.eq_25 (And.intro @aop.eq_26 (And.intro @aop.eq_27 (And.intro @aop.eq_28 (And.intro @aop.eq_29 (And.intro @aop.eq_30 (And.intro @opv.eq_1 (And.intro @opv.eq_2 (And.intro @opv.eq_3 (And.intro @opv.eq_4 (And.intro @opvs.eq_1 (And.intro @opvs.eq_2 (And.intro @opvo.eq_1 (And.intro @opvo.eq_2 (And.intro @opvp.eq_1 (And.intro @opvp.eq_2 (And.intro @abuiltin.eq_1 (And.intro @abuiltin.eq_2 (And.intro @abuiltin.eq_3 (And.intro @abuiltin.eq_4 (And.intro @abuiltin.eq_5 (And.intro @abuiltin.eq_6 (And.intro @abuiltin.eq_7 (And.intro @abuiltin.eq_8 (And.intro @abuiltin.eq_9 (And.intro @abuiltin.eq_10 (And.intro @abuiltin.eq_11 (And.intro @aun.eq_1 (And.intro @aun.eq_2 (And.intro @aun.eq_3 (And.intro @aun.eq_4 (And.intro @abin.eq_1 (And.intro @abin.eq_2 (And.intro @abin.eq_3 (And.intro @abin.eq_4 (And.intro @abin.eq_5 (And.intro @abin.eq_6 (And.intro @abin.eq_7 (And.intro @abin.eq_8 (And.intro @abin.eq_9 (And.intro @isShift.eq_1 (And.intro @isShift.eq_2 (And.intro @isShift.eq_3 (And.intro @roV.eq_1 (And.intro @roV.eq_2 (And.intro @roV.eq_3 (And.intro @roV.eq_4 (And.intro @roV.eq_5 (And.intro @roV.eq_6 (And.intro @roV.eq_7 (And.intro @roV.eq_8 (And.intro @roV.eq_9 (And.intro @roV.eq_10 (And.intro @roV.eq_11 (And.intro @roV.eq_12 (And.intro @roV.eq_13 (And.intro @roV.eq_14 (And.intro @roV.eq_15 (And.intro @roV.eq_16 (And.intro @roV.eq_17 (And.intro @roV.eq_18 (And.intro @pair.eq_1 (And.intro @pair.eq_2 (And.intro @acall.eq_1 (And.intro @acall.eq_2 (And.intro @acall.eq_3 (@ayield_get))))))))))))))))))))))))))))))))))))))))))))))))))))))))))))))))))))))))))))))))))))))))))))):=And.intro @awant.eq_1 (And.intro @oper1.eq_1 (And.intro @aop.eq_1 (And.intro @aop.eq_2 (And.intro @aop.eq_3 (And.intro @aop.eq_4 (And.intro @aop.eq_5 (And.intro @aop.eq_6 (And.intro @aop.eq_7 (And.intro @aop.eq_8 (And.intro @aop.eq_9 (And.intro @aop.eq_10 (And.intro @aop.eq_11 (And.intro @aop.eq_12 (And.intro @aop.eq_13 (And.intro @aop.eq_14 (And.intro @aop.eq_15 (And.intro @aop.eq_16 (And.intro @aop.eq_17 (And.intro @aop.eq_18 (And.intro @aop.eq_19 (And.intro @aop.eq_20 (And.intro @aop.eq_21 (And.intro @aop.eq_22 (And.intro @aop.eq_23 (And.intro @aop.eq_24 (And.intro @aop.eq_25 (And.intro @aop.eq_26 (And.intro @aop.eq_27 (And.intro @aop.eq_28 (And.intro @aop.eq_29 (And.intro @aop.eq_30 (And.intro @opv.eq_1 (And.intro @opv.eq_2 (And.intro @opv.eq_3 (And.intro @opv.eq_4 (And.intro @opvs.eq_1 (And.intro @opvs.eq_2 (And.intro @opvo.eq_1 (And.intro @opvo.eq_2 (And.intro @opvp.eq_1 (And.intro @opvp.eq_2 (And.intro @abuiltin.eq_1 (And.intro @abuiltin.eq_2 (And.intro @abuiltin.eq_3 (And.intro @abuiltin.eq_4 (And.intro @abuiltin.eq_5 (And.intro @abuiltin.eq_6 (And.intro @abuiltin.eq_7 (And.intro @abuiltin.eq_8 (And.intro @abuiltin.eq_9 (And.intro @abuiltin.eq_10 (And.intro @abuiltin.eq_11 (And.intro @aun.eq_1 (And.intro @aun.eq_2 (And.intro @aun.eq_3 (And.intro @aun.eq_4 (And.intro @abin.eq_1 (And.intro @abin.eq_2 (And.intro @abin.eq_3 (And.intro @abin.eq_4 (And.intro @abin.eq_5 (And.intro @abin.eq_6 (And.intro @abin.eq_7 (And.intro @abin.eq_8 (And.intro @abin.eq_9 (And.intro @isShift.eq_1 (And.intro @isShift.eq_2 (And.intro @isShift.eq_3 (And.intro @roV.eq_1 (And.intro @roV.eq_2 (And.intro @roV.eq_3 (And.intro @roV.eq_4 (And.intro @roV.eq_5 (And.intro @roV.eq_6 (And.intro @roV.eq_7 (And.intro @roV.eq_8 (And.intro @roV.eq_9 (And.intro @roV.eq_10 (And.intro @roV.eq_11 (And.intro @roV.eq_12 (And.intro @roV.eq_13 (And.intro @roV.eq_14 (And.intro @roV.eq_15 (And.intro @roV.eq_16 (And.intro @roV.eq_17 (And.intro @roV.eq_18 (And.intro @pair.eq_1 (And.intro @pair.eq_2 (And.intro @acall.eq_1 (And.intro @acall.eq_2 (And.intro @acall.eq_3 (@ayield_get))))))))))))))))))))))))))))))))))))))))))))))))))))))))))))))))))))))))))))))))))))))))))))
section
variable {D:Tab} {E:Env}
theorem Rn:type_of% (@RO.nil):=@RO.nil
theorem Rr {v:Ev} {ops:Array Oper} {o:Oper} {rest:List Oper} {A:Ac} {h h':H} {x:Value} {res:Option (Ac×H)} (hg:o.guard=none) (ho:oper1 D E v A o h=some (x,h')) (r:runOps D E v ops rest (A.put o.dst x) h'=res):runOps D E v ops (o::rest) A h=res:=RO.run (awant_none hg) ho r
def mkNew:Op→Bool
 | .alloc _|.box _ _|.buildSlice _ _ _|.makeMap _ _|.makeSlice _ _ _|.range _ _=>true
 | _=>false
theorem Fp {v:Ev} {ops:Array Oper} {j:Nat} {o:Oper} {rest:List Oper} {A:Ac} {h:H} {x:Value} {Q:Ac→H→Prop} (hg:o.guard=none) (hm:(mayJoin o.op||isStore o.op)=false) (_:mkNew o.op=false) (ho:oper1 D E v A o (fresh h)=some (x,fresh h)) (r:FC D E v ops (j+1) rest (A.put o.dst x) h Q):FC D E v ops j (o::rest) A h Q:=FC.pure hg hm ho r
theorem Qp {v:Ev} {ops:Array Oper} {j:Nat} {o:Oper} {rest:List Oper} {A:Ac} {h:H} {x:Value} {Q:Ac→H→List Tch→Prop} (hg:o.guard=none) (hm:mayJoin o.op=false) (_:mkNew o.op=false) (ho:oper1 D E v A o (fresh h)=some (x,fresh h))
  (r:FQ D E v ops (j+1) rest (A.put o.dst x) h (fun A' h' ts=>Q A' h' (⟨reads D A o,[],h.next,h.next,rootedStore A h o.op⟩::ts))):FQ D E v ops j (o::rest) A h Q:=FQ.pure hg hm ho r
end
section
variable {D:Tab} {E:Env}
theorem aadd_own (k i j:Nat):aadd (aadd (own k) i) j=aadd (own k) (i+j):=by
 show (⟨k,0+i+j,some 0⟩:Addr)=⟨k,0+(i+j),some 0⟩
 rw[Nat.add_assoc]
theorem one_of {v:Value} (h:isOne v=true):one? (some v)=some v:=by simp only[one?,h]
theorem cell_blk {g:H} {k:Nat} {xs:List Value} {ty:TypeId} {rt:Option (Nat×Nat)} (hb:g.blk k=some (.cells xs ty rt)) (i:Nat):g.cell E (aadd (own k) i)=one? xs[i]? := by
 simp only[H.cell,aadd,own,hb,Nat.zero_add]
theorem cell_blk0 {g:H} {k:Nat} {xs:List Value} {ty:TypeId} {rt:Option (Nat×Nat)} (hb:g.blk k=some (.cells xs ty rt)):g.cell E (own k)=one? xs[0]? := by
 simp only[H.cell,own,hb]
theorem Hx:(∀ (E:Env) (h:H) (a:Addr),(fresh h).cell E a=h.cell E a)∧(∀ (E:Env) (h:H) (a:Addr) (n:Nat),(fresh h).cells E a n=h.cells E a n)∧(∀ h:H,(fresh h).next=h.next)∧(∀ k i j:Nat,aadd (aadd (own k) i) j=aadd (own k) (i+j))∧(∀ k:Nat,aadd (own k) 0=own k)∧
  (∀ (k:IntKind) (n:Int),one? (some (.int k n))=some (.int k n))∧(∀ s:ByteArray,one? (some (.string s))=some (.string s))∧(∀ (b:Option Addr) (n c:Nat),one? (some (.slice b n c))=some (.slice b n c))∧(∀ b:Option Addr,one? (some (.pointer b))=some (.pointer b))∧(∀ (f:Fn) (a b:Array Value),one? (some (.func f a b))=some (.func f a b))∧(∀ b:Bool,one? (some (.bool b))=some (.bool b)):=
 ⟨fun _ _ _=>rfl,fun _ _ _ _=>rfl,fun _=>rfl,aadd_own,fun _=>rfl,fun _ _=>rfl,fun _=>rfl,fun _ _ _=>rfl,fun _=>rfl,fun _ _ _=>rfl,fun _=>rfl⟩
theorem Gx:(∀ (A:Ac) (d t:Tmp) (v:Value),d≠t→(A.put (some d) v).get t=A.get t)∧(∀ (A:Ac) (d:Tmp) (v:Value),d<A.n→(A.put (some d) v).get d=v)∧(∀ (A:Ac) (v:Value) (t:Tmp),(A.put none v).get t=A.get t):=
 ⟨fun A d t v h=>by rw[Ac.get_put];simp[h],fun A d v h=>by rw[Ac.get_put];simp[h],fun A v t=>by rw[Ac.get_put]⟩
theorem astore_one {t:TypeId} {i:TI} (ht:D.ty.get t=some i) (hs:i.size=1) {g:H} {k o:Nat} {xs ys:List Value} {ty:TypeId} {v:Value} (hb:g.blk k=some (.cells xs ty none)) (hv:v.cells.toList=[v]) (h1:isOne v=true) (hl:o<xs.length) (hy:xs.take o++[v]++xs.drop (o+1)=ys):astore D t (aadd (own k) o) v g=some (g.setl k (.cells ys ty none)):=by
 unfold astore
 simp only[ht,hs,hv]
 rw[← hy]
 exact put_setl hb (by simp) (by simp only[List.length_singleton];omega) (by simp[h1])
theorem astore_all {t:TypeId} {i:TI} (ht:D.ty.get t=some i) {g:H} {k:Nat} {xs ys:List Value} {ty:TypeId} (hb:g.blk k=some (.cells xs ty none)) (hs:i.size=ys.length) (hl:ys.length=xs.length) (h1:ys.all isOne=true) (hn:ys≠[]):astore D t (own k) (.agg ⟨ys⟩) g=some (g.setl k (.cells ys ty none)):=by
 unfold astore
 have e:Nat.beq (Value.agg ⟨ys⟩).cells.toList.length i.size=true:=by
  rw[hs];exact Nat.beq_refl _
 simp only[ht,e]
 exact put_own_setl hb hn hl h1
theorem setl_above {h:H} {k:Nat} {B:Blk} (hm:h.mark≤k):h.setl k B=h.setb k B:=
 note_above (h:=h.setb k B) (fun j hj=>by simp at hj;subst hj;exact hm)
theorem Ahd.setl {h g:H} (s:Ahd h g) {k:Nat} {B:Blk} (hB:B.plain=true) (hk:h.next≤k) (hg:k<g.next) (f:Fit h):Ahd h (g.setl k B):=by
 rw[setl_above (by rw[s.mark];exact Nat.le_trans f.ok.2 hk)]
 exact s.setb hB hk hg f
end
theorem Ob:(∀ (α β:Type) (x:Option α) (f:α→Option β),(x >>= f)=x.bind f)∧(∀ (α β:Type) (f:α→Option β),Option.bind none f=none)∧(∀ (α β:Type) (a:α) (f:α→Option β),Option.bind (some a) f=f a):=⟨fun _ _ _ _=>rfl,fun _ _ _=>rfl,fun _ _ _ _=>rfl⟩
theorem Gs:type_of% (And.intro Gx (Sx)):=And.intro Gx (Sx)
theorem Gz:type_of% (And.intro @Ac.get_put (Sx)):=And.intro @Ac.get_put (Sx)
theorem Oi:type_of% (And.intro @aint.eq_1 (And.intro @aint.eq_2 (And.intro @aint.eq_3 (And.intro @aint.eq_4 (And.intro @aint.eq_5 (And.intro @aint.eq_6 (And.intro @aint.eq_7 (And.intro @aint.eq_8 (And.intro @aint.eq_9 (And.intro @aint.eq_10 (And.intro @aint.eq_11 (And.intro @aint.eq_12 (And.intro @aint.eq_13 (And.intro @aint.eq_14 (And.intro @aint.eq_15 (And.intro @aint.eq_16 (And.intro @aint.eq_17 (@aint.eq_18)))))))))))))))))):=And.intro @aint.eq_1 (And.intro @aint.eq_2 (And.intro @aint.eq_3 (And.intro @aint.eq_4 (And.intro @aint.eq_5 (And.intro @aint.eq_6 (And.intro @aint.eq_7 (And.intro @aint.eq_8 (And.intro @aint.eq_9 (And.intro @aint.eq_10 (And.intro @aint.eq_11 (And.intro @aint.eq_12 (And.intro @aint.eq_13 (And.intro @aint.eq_14 (And.intro @aint.eq_15 (And.intro @aint.eq_16 (And.intro @aint.eq_17 (@aint.eq_18)))))))))))))))))
theorem Ot:type_of% (And.intro Ox (And.intro Ob (Gs))):=And.intro Ox (And.intro Ob (Gs))
theorem Oy:type_of% (And.intro Oi (Ot)):=And.intro Oi (Ot)
theorem Ou:type_of% (And.intro Ox (And.intro Ob (Gz))):=And.intro Ox (And.intro Ob (Gz))
theorem Oz:type_of% (And.intro Oi (Ou)):=And.intro Oi (Ou)
theorem Cx:type_of% (And.intro @opv.eq_1 (And.intro @opv.eq_2 (And.intro @opv.eq_3 (And.intro @opv.eq_4 (Gs))))):=And.intro @opv.eq_1 (And.intro @opv.eq_2 (And.intro @opv.eq_3 (And.intro @opv.eq_4 (Gs))))
theorem Cz:type_of% (And.intro @opv.eq_1 (And.intro @opv.eq_2 (And.intro @opv.eq_3 (And.intro @opv.eq_4 (Gz))))):=And.intro @opv.eq_1 (And.intro @opv.eq_2 (And.intro @opv.eq_3 (And.intro @opv.eq_4 (Gz))))
section
variable {D:Tab} {E:Env} {I:Known}
theorem Ws:type_of% (@Wc.seq):=@Wc.seq
theorem Wp:type_of% (@Wc.ops):=@Wc.ops
theorem Wn:type_of% (@Wc.opsN):=@Wc.opsN
theorem W2:type_of% (@Wc.cond2):=@Wc.cond2
theorem W3:type_of% (@Wc.skip):=@Wc.skip
theorem W4:type_of% (@Wc.ret):=@Wc.ret
theorem W5:type_of% (@Wc.exit):=@Wc.exit
theorem W6:type_of% (@Wc.block):=@Wc.block
theorem Rg:type_of% (@RO.runG):=@RO.runG
theorem Rs:type_of% (@RO.skipG):=@RO.skipG
theorem Wk {f:FuncId} {fn:Func} {body:Code} {args:List Value} {h:H} {Q:Value→H→Prop} (hI:I f args h=none) (hf:D.fn.get f=some fn) (hb:fn.body=some body)
  (w:∀ A0:Ac,A0.n=max args.length fn.ntmps→A0.defers=[]→(∀ i v,args[i]? = some v→A0.get i=v)→Wc D E I ⟨f,none⟩ body A0 h fun ex A h=>(ex=.normal∨ex=.ret)∧∃ h2 v,takeAll A.defers h=some h2∧ares D E fn A h2=some v∧Q v h2) :
  ∃ n v h',(ev D E I n).call f args h=some (v,h')∧Q v h':=by
 refine Wc.call hI hf hb (w _ rfl rfl (fun i v hv => ?_))
 show ((T.ofList args 0 .nil).get i).getD undef=v
 have:=(List.getElem?_eq_some_iff.1 hv).1
 rw[T.get_ofList,if_pos ⟨Nat.zero_le _,by omega⟩,Nat.sub_zero,hv]
 rfl
end
inductive Rd (α:Type) where
 | ok (v:α) (pos items:Nat)
 | bad (pos:Nat) (e:Int)
/-! ### What is so of what is read -/
theorem wrapU8 {x:Nat} (h:x<256):IntKind.u8.wrap (x:Nat)=(x:Nat):=by
 simp only[IntKind.wrap,IntKind.bits,IntKind.signed]
 simp
 omega
theorem wrapN {x:Nat} (h:x<9223372036854775808):IntKind.i64.wrap (x:Nat)=(x:Nat):=wrap64 (by omega) (by omega)
theorem and_u8 (c m:Nat) (h:c<256) (hm:m<256):IntKind.u8.wrap (((BitVec.ofInt IntKind.u8.bits (c:Int) &&& BitVec.ofInt IntKind.u8.bits (m:Int)).toNat:Nat):Int)=((c &&& m:Nat):Int):=by
 have e:(BitVec.ofInt IntKind.u8.bits (c:Int) &&& BitVec.ofInt IntKind.u8.bits (m:Int)).toNat=c &&& m:=by
  rw[BitVec.ofInt_natCast,BitVec.ofInt_natCast,BitVec.toNat_and,BitVec.toNat_ofNat,BitVec.toNat_ofNat]
  rw[show 2 ^ IntKind.u8.bits=256 from rfl,Nat.mod_eq_of_lt h,Nat.mod_eq_of_lt hm]
 rw[e]
 exact wrapU8 (Nat.lt_of_le_of_lt Nat.and_le_left h)
def calmBut (S:List Nat):Nat→List Tch→Bool
 | _,[]=>true
 | i,t::ts=>(S.contains i||calm t)&&calmBut S (i+1) ts
theorem calmBut_get {S:List Nat}:∀ (ts:List Tch) (o i:Nat) (e:Tch),calmBut S o ts=true→ts[i]? = some e→S.contains (o+i)=false→calm e=true
 | [],_,_,_,_,h,_=>by simp at h
 | t::ts,o,0,e,hc,h,hs=>by
  simp at h
  subst h
  simp only[calmBut,Bool.and_eq_true] at hc
  rw[Nat.add_zero] at hs
  rw[hs,Bool.false_or] at hc
  exact hc.1
 | t::ts,o,i+1,e,hc,h,hs=>by
  simp only[calmBut,Bool.and_eq_true] at hc
  rw[List.getElem?_cons_succ] at h
  exact calmBut_get ts (o+1) i e hc.2 h (by rw[show o+1+i=o+(i+1) by omega];exact hs)
theorem allMeet_but {b:Array Nat} {ts:List Tch} (S:List Nat) (n:Nat) (U:List (Nat×Nat)) (hn:ts.length=n) (hc:calmBut S 0 ts=true) (hp:((List.range n).all fun i=>(List.range n).all fun j => !(Nat.blt i j) || !(S.contains i||S.contains j)||ordered b i j||U.contains (i,j))=true)
  (hU:∀ i j s t,(i,j)∈U→ts[i]? = some s→ts[j]? = some t→meets s t=true):allMeet b ts=true:=by
 refine allMeet_by S (fun i e hi hs=>calmBut_get ts 0 i e hc hi (by rw[Nat.zero_add];exact hs)) (fun i j s t hij hs w1 w2 ho => ?_)
 have hj:j<n:=by rw[← hn];exact (List.getElem?_eq_some_iff.1 w2).1
 exact hU i j s t (pairs_of hp hij hj hs ho) w1 w2
theorem allMeet_but0 {b:Array Nat} {ts:List Tch} (S:List Nat) (n:Nat) (hn:ts.length=n) (hc:calmBut S 0 ts=true) (hp:((List.range n).all fun i=>(List.range n).all fun j => !(Nat.blt i j) || !(S.contains i||S.contains j)||ordered b i j||([]:List (Nat×Nat)).contains (i,j))=true):allMeet b ts=true:=
 allMeet_but S n [] hn hc hp (fun _ _ _ _ h=>by cases h)
theorem ofNat_toNat {m:Nat} (h:m<256):(UInt8.ofNat m).toNat=m:=by
 rw[UInt8.toNat_ofNat']
 exact Nat.mod_eq_of_lt h
/-! ### Bytes that are cut off -/
theorem ap3_step {D:Tab} {E:Env} {h:H} {base:Nat} {t t2 e:TypeId} {sz by_ n kx c i6 i7:Nat} {i8:Option Value} {i9:Bool} {s ze:Value} {xs cs:List Value} {ro:Option Nat} (f:Fit h) (hbn:base≤h.next) (ap:Ap2 h base e sz s n xs ro)
  (ht:D.ty.get t=some ⟨.slice e sz by_,i6,i7,i8,i9⟩) (hz:tzero D e=some ze) (hzz:(Nat.beq ze.cells.toList.length sz&&Nat.blt 0 sz&&ze.cells.toList.all isOne)=true) (hzt:zeroArg D t2 (.slice (some (own kx)) 1 c)=some false)
  (hx:h.cells E (own kx) sz=some cs) (hcl:cs.length=sz) (hc1:cs.all isOne=true) (hrm:roomy (n+1) by_=true) :
  ∃ s' h' ro',aappend D E t t2 s (.slice (some (own kx)) 1 c) h=some (s',h')∧Ap2 h' base e sz s' (n+1) (xs++cs) ro'∧Grew base ro h h'∧(ro=none∧ro'=some h.next∨ro≠none∧ro'=ro)∧s'=.slice (some (own h.next)) (n+1) (n+1)∧h'.next=h.next+1∧(∀ j∈h'.chain (ro'.getD 0),j=h.next∨∃ ys ty p,h'.dyn.get j=some (.cells ys ty (some (ro'.getD 0,p)))∧p+ys.length≤n*sz):=by
 have hel:aelems E sz ze.cells.toList (.slice (some (own kx)) 1 c) h=some (1,cs):=by
  simp only[aelems,Nat.one_mul,hx]
 have hbl:Nat.beq cs.length (1*sz)=true:=by rw[Nat.one_mul,hcl];exact Nat.beq_refl sz
 have hsz:0<sz:=by
  simp only[Bool.and_eq_true,Nat.blt_eq] at hzz
  exact hzz.1.2
 rcases ap with⟨rfl,rfl,rfl,rfl⟩|⟨k,r,rfl,hb,hl,h1,hbr,hrx,hch,rfl⟩
 ·refine⟨.slice (some (own h.next)) 1 1,h.newOpen cs e,some h.next,?_,.inr ⟨h.next,h.next,rfl,?_,?_,?_,hbn,Nat.lt_succ_self _,?_,rfl⟩,⟨newOpen_fit f,fun k B hb _=>newOpen_old f hb,rfl,rfl,Nat.le_succ _,fun r hr => ?_⟩,.inl ⟨rfl,rfl⟩,rfl,rfl,fun j hj=>.inl (by simpa only[H.chain,H.newOpen,T.get_set_same,Option.getD,List.mem_singleton] using hj)⟩
  ·unfold aappend
   rw[ht]
   simp only[hz,hzt,hzz,hel,hbl,hrm]
  ·exact newOpen_new
  ·rw[List.nil_append];simp[hcl]
  ·rw[List.nil_append];exact hc1
  ·intro j hj
   simp only[H.chain,H.newOpen,T.get_set_same,Option.getD,List.mem_singleton] at hj
   subst hj
   exact⟨cs,e,0,T.get_set_same _ _ _,by simp[hcl]⟩
  ·simp only[H.chain,H.newOpen]
   rw[T.get_set_ne _ _ _ _ (by omega)]
 ·have hkn:=f.lt hb
  have hd:=H.blk_dyn hb
  have hrn:=f.ok.1 _ _ _ _ _ hd
  have hgr:h.grow e r (0+(own k).off) (n*sz) (own k).block (xs.drop (own k).off) cs={ h with next:=h.next+1,dyn:=h.dyn.set h.next (.cells (xs++cs) e (some (r,0))),chains:=h.chains.set r (h.next::h.spare r k (0+n*sz) (0+n*sz+cs.length)) }:=by
   unfold H.grow
   simp only[own,Nat.add_zero,List.drop_zero]
   have hgone:h.gone r k (0+n*sz) (0+n*sz+cs.length)=[]:=by
    rw[List.eq_nil_iff_forall_not_mem]
    intro j hj
    obtain⟨hj1,hj2⟩:=mem_gone.1 hj
    obtain⟨ys,ty,p,hd,hle⟩:=hch j hj1
    unfold H.hits at hj2
    split at hj2
    ·cases hj2
    ·rw[hd] at hj2
     simp only[Bool.and_eq_true,Nat.blt_eq] at hj2
     omega
   rw[hgone]
   exact note_nil _
  generalize hg:({ h with next:=h.next+1,dyn:=h.dyn.set h.next (.cells (xs++cs) e (some (r,0))),chains:=h.chains.set r (h.next::h.spare r k (0+n*sz) (0+n*sz+cs.length)) }:H)=g at hgr
  have hcr:g.chain r=h.next::h.spare r k (0+n*sz) (0+n*sz+cs.length):=by
   rw[← hg];simp only[H.chain,T.get_set_same,Option.getD]
  have hcn:∀ r',r'≠r→g.chain r'=h.chain r':=by
   intro r' hr'
   rw[← hg];simp only[H.chain];rw[T.get_set_ne _ _ _ _ hr']
  have hgn:g.next=h.next+1:=by rw[← hg]
  have hnew:g.blk h.next=some (.cells (xs++cs) e (some (r,0))):=by
   have hdd:g.dyn.get h.next=some (.cells (xs++cs) e (some (r,0))):=by rw[← hg];exact T.get_set_same _ _ _
   unfold H.blk
   rw[hdd]
   simp only[hcr,List.contains_cons,beq_self_eq_true,Bool.true_or]
  have hold:∀ j,j≠h.next→g.dyn.get j=h.dyn.get j:=by
   intro j hj
   rw[← hg];exact T.get_set_ne _ _ _ _ hj
  refine⟨.slice (some (own h.next)) (n+1) (n+1),g,some r,?_,.inr ⟨h.next,r,rfl,hnew,?_,?_,hbr,by rw[hgn];omega,?_,rfl⟩,⟨⟨fun j hj => ?_,fun j ys ty r' p hd' => ?_,?_⟩,?_,?_,?_,?_,?_⟩,.inr ⟨by simp,rfl⟩,rfl,hgn,fun j hj => ?_⟩
  ·unfold aappend
   rw[ht]
   simp only[hz,hzt,hzz,hel,hbl,hrm]
   have e1:(own k).spot=some 0:=rfl
   have e2:(own k).block=k:=rfl
   have e3:(own k).off=0:=rfl
   have e4:Nat.ble (n+1) n=false:=by
    cases hq:Nat.ble (n+1) n
    ·rfl
    ·rw[Nat.ble_eq] at hq;omega
   simp only[e1,e2,hb,e4]
   have e5:(Nat.beq n n&&Nat.beq ((own k).off+n*sz) xs.length&&Nat.beq e e&&(xs.drop (own k).off).all isOne&&Nat.ble (own k).off xs.length)=true:=by
    rw[e3,Nat.zero_add,hl,List.drop_zero,h1,Nat.beq_refl,Nat.beq_refl,Nat.beq_refl]
    simp[Nat.ble]
   simp only[e5]
   rw[← hgr];rfl
  ·rw[List.length_append,hl,hcl];rw[Nat.add_mul,Nat.one_mul]
  ·rw[List.all_append,h1,hc1];rfl
  ·intro j hj
   rw[hcr] at hj
   rcases List.mem_cons.1 hj with rfl|hj
   ·exact⟨xs++cs,e,0,H.blk_dyn hnew,by rw[List.length_append,hl,hcl,Nat.add_mul,Nat.one_mul];omega⟩
   ·obtain⟨ys,ty,p,hd,hle⟩:=hch j (mem_spare.1 hj).1
    have hjn:j≠h.next:=by
     intro e
     subst e
     rw[f.free _ (Nat.le_refl _)] at hd;cases hd
    refine⟨ys,ty,p,by rw[hold j hjn];exact hd,?_⟩
    rw[Nat.add_mul];omega
  ·rw[hgn] at hj
   rw[hold j (by omega)];exact f.free j (by omega)
  ·rw[hgn]
   by_cases hj:j=h.next
   ·subst hj
    have:=H.blk_dyn hnew
    rw[this] at hd'; cases hd'; omega
   ·rw[hold j hj] at hd'
    have:=f.ok.1 _ _ _ _ _ hd'; omega
  ·rw[hgn]
   have:=f.ok.2
   rw[← hg];exact Nat.le_succ_of_le this
  ·intro j B hbj hro
   have hjn:=f.lt hbj
   rw[← hbj]
   refine blk_congr (hold j (by omega)) (fun ys u r' q hd' => ?_)
   have:B=.cells ys u (some (r',q)):=by
    have:=H.blk_dyn hbj
    rw[hd'] at this;cases this;rfl
   have hne:=hro _ _ _ _ this
   rw[hcn r' (fun h=>hne (by rw[h]))]
  ·rw[← hg]
  ·rw[← hg]
  ·rw[hgn];omega
  ·intro r' hr'
   exact hcn r' (by omega)
  ·simp only[Option.getD] at hj ⊢
   rw[hcr] at hj
   rcases List.mem_cons.1 hj with rfl|hj
   ·exact .inl rfl
   ·obtain⟨ys,ty,p,hd,hle⟩:=hch j (mem_spare.1 hj).1
    have hjn:j≠h.next:=by
     intro e
     subst e
     rw[f.free _ (Nat.le_refl _)] at hd;cases hd
    exact .inr ⟨ys,ty,p,by rw[hold j hjn];exact hd,hle⟩
theorem Mod.grew {M:Nat→Prop} {h g q:H} {base:Nat} {ro:Option Nat} (f:Fit h) (m:Mod M h g) (hb:h.next≤base) (hro:∀ r,ro=some r→base≤r) (t:Grew base ro g q):Mod M h q:=
 ⟨t.fit,fun k B hk hB=>t.keep k B (m.blk k B hk hB) (fun xs ty r p he hr=>by
  subst he
  have h1:=f.ok.1 _ _ _ _ _ (H.blk_dyn hB)
  have:=hro r hr
  omega),t.mark.trans m.mark,Nat.le_trans m.next t.next,fun r hr=>(t.chain r (by omega)).trans (m.chain r hr),fun j hj=>by rw[t.log] at hj;exact m.log j hj⟩
section
variable {D:Tab} {E:Env} {ti:TypeId}
def Kol (E:Env) (ti:TypeId) (base top:Nat) (g:H) (sl:Value) (ks:List Item):Prop:=
 ∃ xs ro,Ap2 g base ti 4 sl ks.length xs ro∧repL E (only (fun r=>Nat.ble base r && !(ro == some r)) g) ks xs∧∀ r,ro=some r→base≤r∧r<top
theorem Kol.nil (base top:Nat) (g:H):Kol E ti base top g (.slice none 0 0) []:=⟨[],none,.inl ⟨rfl,rfl,rfl,rfl⟩,by rw[repL],fun _ h=>by cases h⟩
theorem Kol.mod {M:Nat→Prop} {base top:Nat} {g g':H} {sl:Value} {ks:List Item} (K:Kol E ti base top g sl ks) (f:Fit g) (m:Mod M g g') (hp:∀ k B,M k→g.blk k=some B→B.plain=true):Kol E ti base top g' sl ks:=by
 obtain⟨xs,ro,h1,h2,h3⟩:=K
 exact⟨xs,ro,h1.mod m hp,repL_grow (only_mod f m hp (fun r h=>h)) h2,h3⟩
theorem Kol.slice {base top:Nat} {g:H} {sl:Value} {ks:List Item} (K:Kol E ti base top g sl ks):∃ b,sl=.slice b ks.length ks.length:=by
 obtain⟨xs,ro,h1,_⟩:=K
 rcases h1 with⟨e,_,rfl,_⟩|⟨k,r,rfl,_⟩
 ·exact⟨none,by rw[e]⟩
 ·exact⟨_,rfl⟩
theorem Kol.up {base top top':Nat} {g:H} {sl:Value} {ks:List Item} (K:Kol E ti base top g sl ks) (h:top≤top'):Kol E ti base top' g sl ks:=by
 obtain⟨xs,ro,h1,h2,h3⟩:=K
 exact⟨xs,ro,h1,h2,fun r hr=>⟨(h3 r hr).1,Nat.lt_of_lt_of_le (h3 r hr).2 h⟩⟩
theorem Kol.rep {base top:Nat} {g:H} {sl:Value} {ks:List Item} (K:Kol E ti base top g sl ks) (f:Fit g) (hz:ks.length<1000000000) (k m:Int) (tx:ByteArray) {lo:Nat} (hlo:lo≤base):Hs.rep E (only (fun r=>Nat.ble lo r) g) (.mk k m tx ks) (.agg ⟨[.int .i64 k,.int .i64 m,.string tx,sl]⟩):=by
 obtain⟨xs,ro,h1,h2,h3⟩:=K
 rw[Hs.rep]
 refine⟨sl,rfl,?_⟩
 rcases h1 with⟨e1,_,e2,_⟩|⟨kk,r,q1,q2,q3,q4,q5,q6,q7,q8⟩
 ·exact .inl ⟨List.length_eq_zero_iff.1 e1,e2⟩
 ·refine .inr ⟨own kk,ks.length,xs,q1,⟨Nat.le_refl _,by omega⟩,?_,?_⟩
  ·exact blk_cells ((only_blk f).2 ⟨q2,_,_,_,_,rfl,by rw[Nat.ble_eq];omega⟩) q3 q4
  ·refine repL_grow (only_sub f (fun r hh => ?_)) h2
   simp only[Bool.and_eq_true,Nat.ble_eq] at hh
   rw[Nat.ble_eq];omega
def Aps (base:Nat) (g q:H):Prop:=∃ ro,(∀ r,ro=some r→base≤r)∧Grew base ro g q
theorem Aps.fit {base:Nat} {g q:H} (a:Aps base g q):Fit q:=by obtain⟨_,_,t⟩:=a;exact t.fit
theorem Aps.log {base:Nat} {g q:H} (a:Aps base g q):q.log=g.log:=by obtain⟨_,_,t⟩:=a;exact t.log
theorem Aps.next {base:Nat} {g q:H} (a:Aps base g q):g.next≤q.next:=by obtain⟨_,_,t⟩:=a;exact t.next
theorem Aps.keep {base:Nat} {g q:H} (a:Aps base g q) {k:Nat} {xs:List Value} {ty:TypeId} (hk:g.blk k=some (.cells xs ty none)):q.blk k=some (.cells xs ty none):=by
 obtain⟨_,_,t⟩:=a
 exact t.keep k _ hk (fun _ _ _ _ he=>by cases he)
theorem Aps.mod {base:Nat} {g q:H} (a:Aps base g q) {M:Nat→Prop} {h:H} (f:Fit h) (hb:h.next≤base) (m:Mod M h g):Mod M h q:=by
 obtain⟨_,hr,t⟩:=a
 exact m.grew f hb hr t
theorem Aps.back {base:Nat} {g q:H} (f:Fit g) (a:Aps base (fresh g) q):Aps base g (Hs.back g q):=by
 obtain⟨ro,hr,t⟩:=a
 have hl:q.log=[]:=t.log
 exact⟨ro,hr,back_fit f t.fit t.next,fun k B hB hro=>by rw[back_blk];exact t.keep k B hB hro,back_log hl,back_mark _ _,by rw[back_next];exact t.next,fun r hr=>by rw[back_chain];exact t.chain r hr⟩
theorem Kol.fresh {base top:Nat} {g:H} {sl:Value} {ks:List Item} (K:Kol E ti base top g sl ks):Kol E ti base top (Hs.fresh g) sl ks:=by
 obtain⟨xs,ro,h1,h2,h3⟩:=K
 exact⟨xs,ro,h1,repL_grow (show Grows (only _ g) (only _ (Hs.fresh g)) from fun _ _ h=>h) h2,h3⟩
theorem Kol.back {base top:Nat} {g q:H} {sl:Value} {ks:List Item} (K:Kol E ti base top q sl ks) (f:Fit g) (fq:Fit q) (hn:g.next≤q.next):Kol E ti base top (Hs.back g q) sl ks:=by
 obtain⟨xs,ro,h1,h2,h3⟩:=K
 exact⟨xs,ro,h1.back,repL_grow (back_only f fq hn _) h2,h3⟩
theorem rep_fresh {p:Nat→Bool} {g:H} {t:Item} {v:Value} (h:Hs.rep E (only p g) t v):Hs.rep E (only p (Hs.fresh g)) t v:=rep_grow (show Grows (only p g) (only p (Hs.fresh g)) from fun _ _ h=>h) h
theorem kol_step {t t2 by_ kx c i6 i7:Nat} {i8:Option Value} {i9:Bool} {ze:Value} {base top lo:Nat} {g:H} {sl:Value} {ks:List Item} {x:Item} {va vb vc vd:Value} (f:Fit g) (hbn:base≤g.next) (K:Kol E ti base top g sl ks) (htop:top≤lo) (hblo:base≤lo)
  (ht:D.ty.get t=some ⟨.slice ti 4 by_,i6,i7,i8,i9⟩) (hz:tzero D ti=some ze) (hzz:(Nat.beq ze.cells.toList.length 4&&Nat.blt 0 4&&ze.cells.toList.all isOne)=true) (hzt:zeroArg D t2 (.slice (some (own kx)) 1 c)=some false)
  (hr:Hs.rep E (only (fun r=>Nat.ble lo r) g) x (.agg ⟨[va,vb,vc,vd]⟩)) (hx:g.cells E (own kx) 4=some [va,vb,vc,vd]) (hone:[va,vb,vc,vd].all isOne=true) (hrm:roomy (ks.length+1) by_=true) :
  ∃ sl' q,aappend D E t t2 sl (.slice (some (own kx)) 1 c) g=some (sl',q)∧Kol E ti base q.next q sl' (ks++[x])∧Aps base g q∧q.next=g.next+1:=by
 obtain⟨xs,ro,h1,h2,h3⟩:=K
 obtain⟨s',q,ro',happ,ap4,gw,hroo,hs',hqn,_⟩:=ap3_step f hbn h1 ht hz hzz hzt hx rfl hone hrm
 have hro':∀ r,r<g.next→(ro == some r)=false→(ro' == some r)=false:=by
  intro r a b
  rcases hroo with⟨e1,e2⟩|⟨e1,e2⟩
  ·rw[e2]
   have:g.next≠r:=by omega
   simpa using this
  ·rw[e2];exact b
 have grow4:∀ (p:Nat→Bool),(∀ r,p r=true→Nat.ble base r=true∧(ro == some r)=false)→Grows (only p g) (only (fun r=>Nat.ble base r && !(ro' == some r)) q):=by
  intro p hp kx B hb
  obtain⟨e1,ys,ty,r,o,rfl,e2⟩:=(only_blk f).1 hb
  have hrl:=f.ok.1 _ _ _ _ _ (H.blk_dyn e1)
  obtain⟨e3,e4⟩:=hp r e2
  refine (only_blk gw.fit).2 ⟨gw.keep kx (.cells ys ty (some (r,o))) e1 ?_,ys,ty,r,o,rfl,?_⟩
  ·rintro _ _ _ _ he hr
   cases he
   rw[hr] at e4;simp at e4
  ·simp only[Bool.and_eq_true,Bool.not_eq_true']
   exact⟨e3,hro' r hrl e4⟩
 refine⟨s',q,happ,⟨xs++[va,vb,vc,vd],ro',by rw[List.length_append];exact ap4,?_,fun r hr => ?_⟩,⟨ro,fun r hr=>(h3 r hr).1,gw⟩,hqn⟩
 ·refine repL_append (repL_grow (grow4 _ (fun r hr=>by simpa using hr)) h2) (rep_grow (grow4 _ (fun r hr => ?_)) hr)
  rw[Nat.ble_eq] at hr
  refine⟨by rw[Nat.ble_eq];omega,?_⟩
  cases hh:ro with
  | none=>rfl
  | some r0=>
   have:=(h3 r0 hh).2
   have hne:r0≠r:=by omega
   simpa using hne
 ·rcases hroo with⟨e1,e2⟩|⟨e1,e2⟩
  ·rw[e2] at hr;cases hr;exact⟨hbn,by omega⟩
  ·rw[e2] at hr
   rcases h1 with⟨_,_,_,e3⟩|⟨_,rr,_,_,_,_,e5,e6,_,e8⟩
   ·exact absurd e3 e1
   ·rw[e8] at hr;cases hr;exact⟨e5,by omega⟩
def Room (E:Env) (ti:TypeId) (base lo nx:Nat) (g:H) (sl:Value) (ks:List Item):Prop:=
 ∃ k r xs zs,sl=.slice (some (own k)) (ks.length+1) (ks.length+1)∧g.blk k=some (.cells (xs++zs) ti (some (r,0)))∧xs.length=ks.length*4∧zs.length=4∧xs.all isOne=true∧base≤r∧r<g.next∧base≤k∧(∀ j∈g.chain r,j=k∨∃ ys ty p,g.dyn.get j=some (.cells ys ty (some (r,p)))∧p+ys.length≤ks.length*4)∧repL E (only (fun r'=>Nat.ble base r' && !(some r == some r')) g) ks xs∧∀ r',lo≤r'→r'<nx→r'≠r
theorem kol_room {t t2 by_ kx c i6 i7:Nat} {i8:Option Value} {i9:Bool} {ze:Value} {base top lo:Nat} {g:H} {sl:Value} {ks:List Item} {zs:List Value} (f:Fit g) (hbn:base≤g.next) (K:Kol E ti base top g sl ks) (htop:top≤lo)
  (ht:D.ty.get t=some ⟨.slice ti 4 by_,i6,i7,i8,i9⟩) (hz:tzero D ti=some ze) (hzz:(Nat.beq ze.cells.toList.length 4&&Nat.blt 0 4&&ze.cells.toList.all isOne)=true) (hzt:zeroArg D t2 (.slice (some (own kx)) 1 c)=some false)
  (hx:g.cells E (own kx) 4=some zs) (hlen:zs.length=4) (hone:zs.all isOne=true) (hrm:roomy (ks.length+1) by_=true) :
  ∃ sl' q,aappend D E t t2 sl (.slice (some (own kx)) 1 c) g=some (sl',q)∧Room E ti base lo g.next q sl' ks∧Aps base g q∧q.next=g.next+1∧sl'=.slice (some (own g.next)) (ks.length+1) (ks.length+1)∧∀ x v,Hs.rep E (only (fun r=>Nat.ble lo r) g) x v→Hs.rep E (only (fun r=>Nat.ble lo r&&Nat.blt r g.next) q) x v:=by
 obtain⟨xs,ro,h1,h2,h3⟩:=K
 obtain⟨s',q,ro',happ,ap4,gw,hroo,hs',hqn,hch⟩:=ap3_step f hbn h1 ht hz hzz hzt hx hlen hone hrm
 have hxl:xs.length=ks.length*4∧xs.all isOne=true:=by
  rcases h1 with⟨e1,e2,_⟩|⟨_,_,_,_,e3,e4,_⟩
  ·rw[e1,e2];exact⟨rfl,rfl⟩
  ·exact⟨e3,e4⟩
 have hro':∀ r,r<g.next→(ro == some r)=false→(ro' == some r)=false:=by
  intro r a b
  rcases hroo with⟨e1,e2⟩|⟨e1,e2⟩
  ·rw[e2]
   have:g.next≠r:=by omega
   simpa using this
  ·rw[e2];exact b
 have grow4:Grows (only (fun r=>Nat.ble base r && !(ro == some r)) g) (only (fun r=>Nat.ble base r && !(ro' == some r)) q):=by
  intro kx B hb
  obtain⟨e1,ys,ty,r,o,rfl,e2⟩:=(only_blk f).1 hb
  have hrl:=f.ok.1 _ _ _ _ _ (H.blk_dyn e1)
  simp only[Bool.and_eq_true,Bool.not_eq_true'] at e2
  obtain⟨e3,e4⟩:=e2
  refine (only_blk gw.fit).2 ⟨gw.keep kx (.cells ys ty (some (r,o))) e1 ?_,ys,ty,r,o,rfl,?_⟩
  ·rintro _ _ _ _ he hr
   cases he
   rw[hr] at e4;simp at e4
  ·simp only[Bool.and_eq_true,Bool.not_eq_true']
   exact⟨e3,hro' r hrl e4⟩
 subst hs'
 rcases ap4 with⟨e1,_⟩|⟨kk,r,q1,q2,q3,q4,q5,q6,q7,q8⟩
 ·omega
 have hkk:kk=g.next:=by
  simp only[Value.slice.injEq,Option.some.injEq,own,Addr.mk.injEq] at q1
  exact q1.1.1.symm
 subst hkk
 subst q8
 refine⟨_,q,happ,⟨g.next,r,xs,zs,rfl,q2,hxl.1,hlen,hxl.2,q5,q6,hbn,hch,repL_grow grow4 h2,fun r' a b e => ?_⟩,⟨ro,fun r hr=>(h3 r hr).1,gw⟩,hqn,rfl,fun x v hr=>rep_grow (fun j B hj => ?_) hr⟩
 ·subst e
  rcases hroo with⟨_,e2⟩|⟨_,e2⟩
  ·cases e2;omega
  ·have:=(h3 _ e2.symm).2
   omega
 ·obtain⟨e1,ys,ty,r',o,rfl,e2⟩:=(only_blk f).1 hj
  have hrl:=f.ok.1 _ _ _ _ _ (H.blk_dyn e1)
  rw[Nat.ble_eq] at e2
  refine (only_blk gw.fit).2 ⟨gw.keep j _ e1 (fun _ _ _ _ he hr => ?_),ys,ty,r',o,rfl,by rw[Bool.and_eq_true,Nat.ble_eq,Nat.blt_eq];exact⟨e2,hrl⟩⟩
  cases he
  have:=(h3 _ hr).2
  omega
end
def dec:Value→Value
 | .slice (some a) n c=>match a.spot with
  | none=>.slice (some a) n c
  | some s=>.slice (some ⟨a.block,a.off,some (s+1)⟩) n c
 | v=>v
def envOf (w:World):Env:=fun b o=>
 match w.cell? ⟨b,o,none⟩ with
 | some v=>match foV (dec v) with
  | true=>some (dec v)
  | false=>none
 | none=>none
theorem dec_ren {φ:Ph} {v:Value} (h:foV (dec v)=true):ren φ (dec v)=v:=by
 cases v with
 | slice b n c=>cases b with
  | none=>rfl
  | some a=>
   cases hs:a.spot with
   | none=>simp[dec,hs,ren,renA,extA]
   | some s=>
    simp only[dec,hs,ren,renA,extA,Nat.add_zero]
    rw[← hs]
 | _=>exact (roV.ok φ (show roV _=true from h)).2
theorem envOf_ro {w:World} {b o:Nat} {v:Value} (h:envOf w b o=some v):b<w.heap.size∧w.cell? ⟨b,o,none⟩=some (ren (fun _=>none) v)∧foV v=true:=by
 unfold envOf at h
 split at h
 ·next x hx=>
  split at h
  ·next hf=>
   cases h
   refine⟨?_,by rw[dec_ren hf];exact hx,hf⟩
   simp only[World.cell?] at hx
   split at hx
   ·next hb=>exact (Array.getElem?_eq_some_iff.1 hb).1
   ·cases hx
  ·cases h
 ·cases h
theorem envOf_at {w:World} {b o:Nat} {v:Value} (h:w.cell? ⟨b,o,none⟩=some v) (hf:foV (dec v)=true):envOf w b o=some (dec v):=by
 unfold envOf
 simp only[h,hf]
section
variable {H0:Type} {enc:TypeId×Value→H0} {P:Program} {w:World} {sp:Nat→Bool} {held:Bool} {ti tn ts tk:TypeId}
theorem four_of {l:List Value} (h:l.length=4):∃ a b c d,l=[a,b,c,d]:=by
 match l,h with
 | [a,b,c,d],_=>exact⟨a,b,c,d,rfl⟩
end
section
variable {D:Tab} {E:Env}
theorem FQ.skipG {v:Ev} {ops:Array Oper} {j:Nat} {o:Oper} {rest:List Oper} {A:Ac} {h:H} {Q:Ac→H→List Tch→Prop} {i:Nat} {w:Bool} {d:Tmp} (hg:o.guard=some (i,w)) (hd:(ops[i]?).bind (·.dst)=some d) (hv:A.get d=.bool (!w))
  (r:FQ D E v ops (j+1) rest (A.put o.dst undef) h (fun A' h' ts=>Q A' h' (⟨some [],[],h.next,h.next,false⟩::ts))):FQ D E v ops j (o::rest) A h Q:=by
 obtain⟨A',h',ts,h2,hq⟩:=r
 refine⟨A',h',_,?_,hq⟩
 have hw:awant ops A o=false:=by
  unfold awant
  rw[hg]
  simp only[ayield_get,hd,hv]
  cases w<;>rfl
 simp only[runFree,hw,h2]
theorem FC.skipG {v:Ev} {ops:Array Oper} {j:Nat} {o:Oper} {rest:List Oper} {A:Ac} {h:H} {Q:Ac→H→Prop} {i:Nat} {w:Bool} {d:Tmp} (hg:o.guard=some (i,w)) (hd:(ops[i]?).bind (·.dst)=some d) (hv:A.get d=.bool (!w))
  (r:FC D E v ops (j+1) rest (A.put o.dst undef) h Q):FC D E v ops j (o::rest) A h Q:=
 FQ.skipG hg hd hv (r.mono fun _ _ _ ⟨a,b⟩=>⟨by rw[List.all_cons,a];rfl,b⟩)
def Byt (E:Env) (h:H) (v:Value) (bs:List UInt8):Prop:=(v=.slice none 0 0∧bs=[])∨∃ a c,v=.slice (some a) bs.length c∧bs.length≤c∧h.cells E a bs.length=some (bytesV bs)
theorem Byt.slice {h:H} {v:Value} {bs:List UInt8} (b:Byt E h v bs):∃ a c,v=.slice a bs.length c:=by
 rcases b with⟨rfl,rfl⟩|⟨a,c,h1,_,_⟩
 ·exact⟨none,0,rfl⟩
 ·exact⟨some a,c,h1⟩
theorem bytesV_length (bs:List UInt8):(bytesV bs).length=bs.length:=by simp[bytesV]
theorem bytesV_one (bs:List UInt8):(bytesV bs).all isOne=true:=by
 rw[List.all_eq_true]
 intro v hv
 simp only[bytesV,List.mem_map] at hv
 obtain⟨b,_,rfl⟩:=hv
 rfl
theorem allBytes_bytesV:∀ bs:List UInt8,allBytes (bytesV bs)=some bs
 | []=>rfl
 | b::bs=>by
  have e:bytesV (b::bs)=.int .u8 (b.toNat:Nat)::bytesV bs:=rfl
  rw[e,allBytes,allBytes_bytesV bs]
  simp
theorem bytesV_get {bs:List UInt8} {i:Nat} {c:UInt8} (h:bs[i]? = some c):(bytesV bs)[i]? = some (.int .u8 (c.toNat:Nat)):=by
 simp only[bytesV,List.getElem?_map,h,Option.map_some]
theorem cells_cell {h:H} {a:Addr} {n i:Nat} {cs:List Value} {v:Value} (hc:h.cells E a n=some cs) (hi:i<n) (hv:cs[i]? = some v):h.cell E (aadd a i)=some v:=by
 have h1:=cells_sub hc (m:=i) (l:=1) (by omega)
 have hl:i<cs.length:=(List.getElem?_eq_some_iff.1 hv).1
 have e:(cs.drop i).take 1=[v]:=by
  rw[List.drop_eq_getElem_cons hl,List.take_succ_cons,List.take_zero,(List.getElem?_eq_some_iff.1 hv).2]
 rw[e] at h1
 generalize aadd a i=b at h1
 obtain⟨k,o,sp⟩:=b
 match sp,h1 with
 | none,h1=>
  have h1:(match one? (E k o) with|some v=>(match some [] with|some vs=>some (v::vs)|none=>none)|none=>none:Option (List Value))=some [v]:=h1
  show one? (E k o)=some v
  split at h1
  ·next w hw=>
   cases h1
   rw[hw]
  ·cases h1
 | some (_+1),h1=>cases h1
 | some 0,h1=>
  have h1:(match h.blk k with|some (.cells xs _ _)=>(match Nat.ble (o+1) xs.length&&((xs.drop o).take 1).all isOne with|true=>some ((xs.drop o).take 1)|false=>none)|_=>none:Option (List Value))=some [v]:=h1
  show (match h.blk k with|some (.cells xs _ _)=>one? xs[o]? | _=>none)=some v
  cases hb:h.blk k with
  | none=>rw[hb] at h1;cases h1
  | some B=>cases B with
   | cells xs ty rt=>
    rw[hb] at h1
    simp only at h1 ⊢
    split at h1
    ·next hh=>
     have h1:=Option.some.inj h1
     simp only[Bool.and_eq_true,Nat.ble_eq] at hh
     have hlt:o<xs.length:=by omega
     rw[List.drop_eq_getElem_cons hlt,List.take_succ_cons,List.take_zero] at h1 hh
     simp only[List.cons.injEq,and_true] at h1
     rw[List.getElem?_eq_getElem hlt,h1]
     rw[h1] at hh
     simp only[List.all_cons,List.all_nil,Bool.and_true] at hh
     simp only[one?,hh.2]
    ·cases h1
   | _=>rw[hb] at h1;cases h1
end
end Go.Hs
