/- What the evaluator reckons, as a statement on calls; closed calls as known functions; more fuel. -/
import Derived.Test.YtofijpbmbmbnhaaDoorHsad
import Derived.Lib.Bytealg
import Derived.Laws.Externs
set_option linter.unusedSimpArgs false
set_option linter.unusedVariables false
namespace Go.Hs
section
variable {P:Program} {D:Tab} {E:Env} {n0:Nat} {φ:Ph} {h h':H} {w:World}
theorem doCall_calls (TT:D.Of P) {I:Known} {ev:Ev} (hv:EvOk P D E n0 ev) {f:FuncId} {args:List Value} {r:Value} (hI:I f args h=none) (hc:doCall D E I ev f args h=some (r,h')) (R:Tie D E n0 All φ h w) (hok:∀ x∈args,okV φ x) :
  Calls P f (args.map (ren φ)).toArray w fun e w'=>∃ φ',e=.returned (ren φ' r)∧okV φ' r∧Tie D E n0 All φ' h' w'∧Ext φ φ' h.next h'.next w∧Kept φ w w':=by
 intro cs
 unfold doCall at hc
 rw[hI] at hc
 simp only at hc
 split at hc
 ·cases hc
 ·next fn hfn=>
  have hf:=TT.fn _ _ hfn
  split at hc
  ·cases hc
  ·next body hbody=>
   have hent:=enter_act (φ:=φ) P f fn hf body hbody args
   have hFT:FTie φ ⟨f,none⟩ (Frame.enter P f (args.map (ren φ)).toArray .normal):=⟨rfl,rfl,rfl⟩
   have hAT:=enter_tie fn hok
   have fin:∀ A1 h1 ex,(ex=.normal∨ex=.ret)→ev.code ⟨f,none⟩ body ⟨T.ofList args 0 .nil,max args.length fn.ntmps,[]⟩ h=some (ex,A1,h1)→
     (match takeAll A1.defers h1 with
      | some h=>(ares D E fn A1 h).map fun r=>(r,h)
      | none=>none)=some (r,h')→
     ∃ e w' fr,(∃ φ',e=.returned (ren φ' r)∧okV φ' r∧Tie D E n0 All φ' h' w'∧Ext φ φ' h.next h'.next w∧Kept φ w w')∧Comes P (lone (Frame.enter P f (args.map (ren φ)).toArray .normal) cs w) (lone fr cs w') e∧fr.fn=f∧fr.leaving P w' e:=by
    intro A1 h1 ex hex hcode hres
    obtain⟨φ1,w1,a1,r1,e1⟩:=hv.code _ _ _ _ _ _ _ hcode φ w (Frame.enter P f (args.map (ren φ)).toArray .normal) _ [] cs R hAT .nil hFT
    rw[← hent] at e1
    split at hres
    ·next h2 ht=>
     simp only[Option.map_eq_some_iff] at hres
     obtain⟨r',hr',he⟩:=hres
     cases he
     have hret:∃ k,Steps P (lone (Frame.enter P f (args.map (ren φ)).toArray .normal) cs w) (lone (rput (Frame.enter P f (args.map (ren φ)).toArray .normal) a1 k a1.defers) cs w1):=by
      rcases hex with rfl|rfl
      ·exact⟨[],Steps.trans e1 (.one (f_end rfl))⟩
      ·obtain⟨k0,e2⟩:=e1
       exact⟨_,e2.trans (.one (f_ret rfl))⟩
     obtain⟨k,hret⟩:=hret
     obtain⟨w2,q1,q2,q3⟩:=takeAll_sim (P:=P) a1 (Frame.enter P f (args.map (ren φ)).toArray .normal) k cs r1.defers ht r1.tie
     obtain⟨p1,p2⟩:=ares_run TT q1 r1.act hr'
     exact⟨.returned (ren φ1 r),w2,rput (Frame.enter P f (args.map (ren φ)).toArray .normal) a1 k [],⟨φ1,rfl,p2,q1,r1.ext.of_next (takeAll_next ht),r1.kept.trans q2 r1.ext⟩,hret.trans q3,rfl,rfl,rfl,rfl,fn,hf,p1⟩
    ·cases hres
   split at hc
   ·next hcode=>exact fin _ _ _ (.inl rfl) hcode hc
   ·next hcode=>exact fin _ _ _ (.inr rfl) hcode hc
   ·cases hc
theorem Tie.start (hro:∀ b o v,E b o=some v→b<n0∧w.cell? ⟨b,o,none⟩=some (ren (fun _=>none) v)∧foV v=true) (hn:n0≤w.heap.size):Tie D E n0 All (fun _=>none) H.empty w:=
 ⟨hro,hn,fun _ _ _ _ hk=>(by cases hk),fun _ _ _ _ _ _ _ hk=>(by cases hk),fun _ _ _ _ _ _ _ _ _ _ _ _ _ _ hk=>(by cases hk),fun _ _ _ _ _ _ _ hk=>(by cases hk),
  fun _ _=>T.get_nil _,fun _ _ _ _ _ hd=>by rw[show H.empty.dyn=T.nil from rfl,T.get_nil] at hd;cases hd⟩
theorem Tie.kept0 {w':World} (R:Tie D E n0 All φ h w) (K:Kept (fun _=>none) w w'):Tie D E n0 All φ h w':=by
 have hb:∀ c,c<w.heap.size→w'.heap[c]? = w.heap[c]? := fun c hc=>K.block c hc (fun _ _ _ hk=>by cases hk)
 refine⟨fun b o v hv => ?_,Nat.le_trans R.size K.size,fun k c b e hk => ?_,fun k B c b e hV hB hk => ?_,R.apart,R.exact,R.fresh,R.root⟩
 ·obtain⟨h1,h2,h3⟩:=R.ro b o v hv
  refine⟨h1,?_,h3⟩
  rw[← h2]
  simp only[World.cell?,hb b (Nat.lt_of_lt_of_le h1 R.size)]
 ·obtain⟨a1,a2,a3⟩:=R.dom k c b e hk
  exact⟨a1,a2,Nat.lt_of_lt_of_le a3 K.size⟩
 ·exact (R.blk k B c b e hV hB hk).le (Le.refl _) (hb c (R.dom _ _ _ _ hk).2.2)
theorem closed_sim (TT:D.Of P) (hN:NoNum P) {E0:Env} {I0:Known} (hI:∀ n0,KnownGood P D E0 n0 I0) (hE:∀ b o v,E0 b o=some v→E b o=some v) {n:Nat} {f:FuncId} {args:List Value} {r:Value} {h0:H}
  (hev:(ev D E0 I0 n).call f args H.empty=some (r,h0)) (hr:roV r=true) (ha:∀ x∈args,roV x=true) (R:Tie D E n0 All φ h w):Sim P D E n0 (callFunc f (args.map (ren φ)).toArray) φ h w r h:=by
 have R0:Tie D E0 w.heap.size All (fun _=>none) H.empty w:=Tie.start (fun b o v hv=>by
  obtain⟨h1,h2,h3⟩:=R.ro b o v (hE b o v hv)
  exact⟨Nat.lt_of_lt_of_le h1 R.size,h2,h3⟩) (Nat.le_refl _)
 have hargs:args.map (ren φ)=args.map (ren fun _=>none):=List.map_congr_left fun x hx=>by rw[(roV.ok φ (ha x hx)).2,(roV.ok _ (ha x hx)).2]
 obtain⟨nx,w1,h1,h2⟩:=(ev_ok TT hN (hI w.heap.size) n).call _ _ _ _ _ hev _ w R0 (fun x hx=>(roV.ok _ (ha x hx)).1)
 rw[← hargs] at h1
 refine⟨nx,w1,h1,fun c cs => ?_⟩
 obtain⟨φ',w',g1,g2,g3,g4,g5⟩:=h2 c cs
 have e1:ren φ' r=ren φ r:=by rw[(roV.ok φ' hr).2,(roV.ok φ hr).2]
 refine⟨φ,w',(roV.ok φ hr).1,R.kept0 g4,Ext.refl _ _ _,⟨g4.os,g4.tape,g4.output,g4.size,fun c hc _=>g4.block c hc (fun _ _ _ hk=>by cases hk)⟩,?_⟩
 rw[e1] at g5
 exact g5
end
/-! ## More fuel -/
structure EvLe (v v':Ev):Prop where
 call:∀ {f args h r},v.call f args h=some r→v'.call f args h=some r
 round:∀ {l args h r},v.round l args h=some r→v'.round l args h=some r
 code:∀ {F c A h r},v.code F c A h=some r→v'.code F c A h=some r
section
variable {D:Tab} {E:Env} {v v':Ev}
theorem acall_mono (hv:EvLe v v') {f:Value} {args:List Value} {h:H} {r:Value×H} (hp:acall v f args h=some r):acall v' f args h=some r:=by
 unfold acall at hp ⊢
 split at hp
 ·exact hv.call hp
 ·exact hv.round hp
 ·cases hp
theorem oper1_mono (hv:EvLe v v') {A:Ac} {o:Oper} {h:H} {r:Value×H} (hp:oper1 D E v A o h=some r):oper1 D E v' A o h=some r:=by
 unfold oper1 at hp ⊢
 split at hp
 ·simp only[bind,Option.bind_eq_some_iff] at hp ⊢
  obtain⟨x,h1,y,h2,h3⟩:=hp
  exact⟨x,h1,y,h2,acall_mono hv h3⟩
 ·exact hp
theorem runOps_mono (hv:EvLe v v') {ops:Array Oper}:∀ {l:List Oper} {A:Ac} {h:H} {r:Ac×H},runOps D E v ops l A h=some r→runOps D E v' ops l A h=some r:=by
 intro l
 induction l with
 | nil=>intro A h r hp;exact hp
 | cons o l ih=>
  intro A h r hp
  simp only[runOps] at hp ⊢
  split at hp
  ·next hw=>
   cases ho:oper1 D E v A o h with
   | none=>rw[ho] at hp;cases hp
   | some x=>
    rw[ho] at hp
    rw[oper1_mono hv ho]
    exact ih hp
  ·exact ih hp
theorem runFree_mono (hv:EvLe v v') {ops:Array Oper}:∀ {l:List Oper} {j:Nat} {A:Ac} {h:H} {r:Ac×H×List Tch},runFree D E v ops j l A h=some r→runFree D E v' ops j l A h=some r:=by
 intro l
 induction l with
 | nil=>intro j A h r hp;exact hp
 | cons o l ih=>
  intro j A h r hp
  simp only[runFree] at hp ⊢
  split at hp
  ·cases ho:oper1 D E v A o { h with mark:=h.next,log:=[] } with
   | none=>rw[ho] at hp;cases hp
   | some x=>
    obtain⟨x,g⟩:=x
    rw[ho] at hp
    rw[oper1_mono hv ho]
    simp only at hp ⊢
    split at hp
    ·cases hr:runFree D E v ops (j+1) l (A.put o.dst x) ({ g with mark:=h.mark,log:=h.log }.note g.log) with
     | none=>rw[hr] at hp;cases hp
     | some y=>rw[hr] at hp;rw[ih hr];exact hp
    ·cases hp
  ·cases hr:runFree D E v ops (j+1) l (A.put o.dst undef) h with
   | none=>rw[hr] at hp;cases hp
   | some y=>rw[hr] at hp;rw[ih hr];exact hp
theorem runRegion_mono (hv:EvLe v v') {ops:Array Oper} {draw:Bool} {A:Ac} {h:H} {r:Ac×H} (hp:runRegion D E v ops draw A h=some r):runRegion D E v' ops draw A h=some r:=by
 unfold runRegion at hp ⊢
 split at hp
 ·exact runOps_mono hv hp
 ·split at hp
  ·cases hp
  ·cases hr:runFree D E v ops 0 ops.toList A h with
   | none=>rw[hr] at hp;cases hp
   | some y=>rw[hr] at hp;rw[runFree_mono hv hr];exact hp
theorem EvLe.step (hv:EvLe v v') (I:Known):EvLe (stepEv D E I v) (stepEv D E I v') where
 call:=by
  intro f args h r hp
  simp only[stepEv,doCall] at hp ⊢
  split at hp
  ·exact hp
  ·split at hp
   ·cases hp
   ·next fn hfn=>
    split at hp
    ·cases hp
    ·next body hb=>
     cases hc:v.code ⟨f,none⟩ body ⟨T.ofList args 0 .nil,max args.length fn.ntmps,[]⟩ h with
     | none=>rw[hc] at hp;cases hp
     | some x=>rw[hc] at hp;rw[hv.code hc];exact hp
 round:=by
  intro l args h r hp
  simp only[stepEv,doRound] at hp ⊢
  split at hp
  ·next r0 hb=>
   split at hp
   ·cases hp
   ·next A hA=>
    cases hc:v.code ⟨r0.fn,some l⟩ r0.assign A h with
    | none=>rw[hc] at hp;cases hp
    | some x=>
     rw[hc] at hp
     rw[hv.code hc]
     obtain⟨ex,A1,h1⟩:=x
     cases ex with
     | normal=>
      simp only at hp ⊢
      split at hp
      ·next r1 hb1=>
       split at hp
       ·cases hc2:v.code ⟨r0.fn,some l⟩ r0.body A1 (h1.turn l (.loop { r1 with state:=.busy })) with
        | none=>rw[hc2] at hp;cases hp
        | some y=>rw[hc2] at hp;rw[hv.code hc2];exact hp
       ·cases hp
      ·cases hp
     | _=>exact hp
  ·cases hp
 code:=by
  intro F c A h r hp
  simp only[stepEv] at hp ⊢
  cases c with
  | skip=>exact hp
  | region id ops draw=>
   simp only[doCode,Option.map_eq_some_iff] at hp ⊢
   obtain⟨x,h1,h2⟩:=hp
   exact⟨x,runRegion_mono hv h1,h2⟩
  | seq a b=>
   simp only[doCode] at hp ⊢
   cases hc:v.code F a A h with
   | none=>rw[hc] at hp;cases hp
   | some x=>
    rw[hc] at hp
    rw[hv.code hc]
    obtain⟨ex,A1,h1⟩:=x
    cases ex with
    | normal=>exact hv.code hp
    | _=>exact hp
  | cond c t e=>
   simp only[doCode] at hp ⊢
   split at hp
   ·exact hv.code hp
   ·exact hv.code hp
   ·cases hp
  | block id body=>
   simp only[doCode] at hp ⊢
   cases hc:v.code F body A h with
   | none=>rw[hc] at hp;cases hp
   | some x=>rw[hc] at hp;rw[hv.code hc];exact hp
  | loop body=>
   simp only[doCode] at hp ⊢
   cases hc:v.code F body A h with
   | none=>rw[hc] at hp;cases hp
   | some x=>
    rw[hc] at hp
    rw[hv.code hc]
    obtain⟨ex,A1,h1⟩:=x
    cases ex with
    | normal=>exact hv.code hp
    | _=>exact hp
  | scope body=>
   simp only[doCode] at hp ⊢
   cases hc:v.code F body A h with
   | none=>rw[hc] at hp;cases hp
   | some x=>rw[hc] at hp;rw[hv.code hc];exact hp
  | label l=>exact hp
  | exit id=>exact hp
  | ret=>exact hp
  | goto l=>exact hp
  | refuse s=>exact hp
  | rangeFunc f ps as bd=>
   simp only[doCode] at hp ⊢
   split at hp
   ·cases hp
   ·next fv hf=>
    split at hp
    ·cases hp
    ·next A1 h1 d hs=>
     cases hc:acall v fv [.func (.yield h1.next) #[] #[]] (h1.new (.loop ⟨.ready,none,F.fn,A.tmps,A.n,ps,as,bd,d⟩)) with
     | none=>rw[hc] at hp;cases hp
     | some x=>
      rw[hc] at hp
      rw[acall_mono hv hc]
      simp only at hp ⊢
      split at hp
      ·next r0 hb=>
       split at hp
       ·cases hp
       ·cases hpe:r0.pending with
        | none=>rw[hpe] at hp;exact hp
        | some c=>
         rw[hpe] at hp
         exact hv.code hp
      ·cases hp
theorem ev_le (I:Known):∀ n,EvLe (ev D E I n) (ev D E I (n+1))
 | 0=>⟨fun h=>(by cases h),fun h=>(by cases h),fun h=>(by cases h)⟩
 | n+1=>EvLe.step (ev_le I n) I
theorem EvLe.trans {v v' v'':Ev} (h:EvLe v v') (h':EvLe v' v''):EvLe v v'':=⟨fun x=>h'.call (h.call x),fun x=>h'.round (h.round x),fun x=>h'.code (h.code x)⟩
theorem ev_mono (I:Known) {n m:Nat} (h:n≤m):EvLe (ev D E I n) (ev D E I m):=by
 induction m with
 | zero=>rw[show n=0 by omega];exact⟨id,id,id⟩
 | succ m ih=>
  by_cases e:n=m+1
  ·subst e;exact⟨id,id,id⟩
  ·exact (ih (by omega)).trans (ev_le I m)
end
section
variable {P:Program} {D:Tab} {E:Env} {n0:Nat} {φ:Ph} {h h':H} {w:World}
theorem Calls.steps {f:FuncId} {args:Array Value} {R:Ending→World→Prop} (hc:Calls P f args w R) {v:Value} {w1:World} (hR:∀ e w',R e w'→e=.returned v∧w'=w1) (c:Frame) (cs:List Frame) :
  Steps P (lone (Frame.enter P f args .normal) (c::cs) w) (lone (c.finish v) cs w1):=by
 obtain⟨e,w',fr,h1,h2,h3,h4⟩:=hc (c::cs)
 obtain⟨rfl,rfl⟩:=hR e w' h1
 exact Steps.trans h2 (.one (step_leave_returned h4))
theorem run_callFunc_enter (hN:NoNum P) {f:FuncId} {fn:Func} {body:Code} (hf:P.funcs[f]? = some fn) (hb:fn.body=some body) (args:Array Value):(callFunc f args).run P w=.ok (.enter f args) w:=by
 have hnm:fn.name ≠ "runtime.NumGoroutine" := by
  intro e
  have:=hN f fn hf
  rw[e] at this;cases this
 simp[callFunc,hf,hnm,hb]
structure CopyCheck (P:Program) (f:FuncId) (bt:TypeId):Prop where
 body:∃ fn,P.funcs[f]? = some fn∧fn.body.isSome=true
 used:∀ (b:Nat) (w:World),w.cell? ⟨b,0,none⟩=some (.pointer (some ⟨b,0,none⟩))→
  Calls P f #[.pointer (some ⟨b,0,none⟩)] w fun e w'=>e=.returned (.tuple #[])∧w'=w
 fresh:∀ (b:Nat) (w:World),w.cell? ⟨b,0,none⟩=some (.pointer none)→w.shape? b=some (bt,2)→w.frozen? ⟨b,0,none⟩=false→
  Calls P f #[.pointer (some ⟨b,0,none⟩)] w fun e w'=>e=.returned (.tuple #[])∧w'=w.setCell ⟨b,0,none⟩ (.pointer (some ⟨b,0,none⟩))
theorem okV_unit (φ:Ph):okV φ (.tuple #[]):=by simp[okV,okL]
theorem ren_unit' (φ:Ph):ren φ (.tuple #[])=.tuple #[]:=ren_undef φ
theorem kCheck_sim (hN:NoNum P) {f:FuncId} {bt:TypeId} (C:CopyCheck P f bt) (hbt:bt≠noTy) {args:List Value} {r:Value} (hk:kCheck bt args h=some (r,h')) (R:Tie D E n0 All φ h w) (hok:∀ x∈args,okV φ x) :
  Sim P D E n0 (callFunc f (args.map (ren φ)).toArray) φ h w r h':=by
 obtain⟨fn,hf,hb'⟩:=C.body
 obtain⟨body,hb⟩:=Option.isSome_iff_exists.1 hb'
 unfold kCheck at hk
 split at hk
 ·next a=>
  split at hk
  ·next p p1 ty hs ho hbk=>
   have ho:=Nat.eq_of_beq_eq_true ho
   have hA:okA φ a:=(hok (.pointer (some a)) (by simp):okV φ (.pointer (some a)))
   have hφ:(φ a.block).isSome=true:=by
    rcases hA with hA|hA|⟨_,hA⟩
    ·rw[hs] at hA;cases hA
    ·exact hA.2
    ·rw[hs] at hA;cases hA
   obtain⟨⟨c,b,e⟩,hkk⟩:=Option.isSome_iff_exists.1 hφ
   rcases R.blk _ _ _ _ _ trivial hbk hkk with⟨hx0,_⟩|⟨mcs,u,fz,L⟩
   ·cases hx0
   have hcn:=(R.dom _ _ _ _ hkk).2.2
   have hren:renA φ a=⟨c,b,none⟩:=by simp only[renA,hs,hkk,ho,Nat.add_zero]
   have hargs:(([.pointer (some a)]:List Value).map (ren φ)).toArray=#[.pointer (some ⟨c,b,none⟩)]:=by
    simp only[List.map_cons,List.map_nil,ren_pointer,hren]
   rw[hargs]
   split at hk
   ·next hty=>
    have hty:=Nat.eq_of_beq_eq_true hty
    subst hty
    obtain⟨hu,hb0,hsz⟩:=L.whole rfl hbt
    subst hu hb0
    obtain⟨y,hy,ht⟩:=L.cell 0 (.pointer none) rfl
    obtain⟨_,rfl⟩:=ht rfl
    have hcell:w.cell? ⟨c,0,none⟩=some (.pointer none):=by
     rw[cell?_at L.block]
     simpa [ren] using hy
    have hfr:w.frozen? ⟨c,0,none⟩=false:=by
     have:=L.opn
     simp only[World.frozen?,L.block]
     rcases this with h|h
     ·simp;omega
     ·simp;rw[hsz] at h;simp at h;omega
    have hsh:w.shape? c=some (u,2):=by simp[World.shape?,L.block,hsz]
    obtain⟨h1,hput,he⟩:=Option.map_eq_some_iff.1 hk
    cases he
    obtain⟨w',p2,p3,p4⟩:=R.put P hA (fun _=>trivial) hput (by intro v hv;simp at hv;subst hv;exact hA)
    have hw':w'=w.setCell ⟨c,0,none⟩ (.pointer (some ⟨c,0,none⟩)):=by
     rw[hren] at p2
     simp only[List.map_cons,List.map_nil,ren_pointer,hren,storeCells,Sem.run_bind] at p2
     rw[Addr.add_plain,run_store P w _ _ _ rfl] at p2
     simp only[Nat.add_zero,hcell,hfr] at p2
     simp[Result.andThen] at p2
     exact p2.symm
    subst hw'
    refine⟨_,w,run_callFunc_enter hN hf hb _,fun cc cs=>⟨φ,_,okV_unit φ,p3,Ext.same (put_next hput),p4,?_⟩⟩
    rw[ren_unit']
    exact Calls.steps (C.fresh c w hcell hsh hfr) (fun e w' h=>h) cc cs
   ·next bb hty=>
    have hty:=Nat.eq_of_beq_eq_true hty
    subst hty
    split at hk
    ·next hbb=>
     cases hk
     simp only[Bool.and_eq_true,beq_iff_eq] at hbb
     obtain⟨⟨e1,e2⟩,e3⟩:=hbb
     have e1:=Nat.eq_of_beq_eq_true e1
     have e2:=Nat.eq_of_beq_eq_true e2
     obtain⟨hu,hb0,hsz⟩:=L.whole rfl hbt
     subst hu hb0
     obtain⟨y,hy,ht⟩:=L.cell 0 (.pointer (some bb)) rfl
     obtain⟨_,rfl⟩:=ht rfl
     have hrb:renA φ bb=⟨c,0,none⟩:=by simp only[renA,e3,← e1,hkk,e2,Nat.add_zero]
     have hcell:w.cell? ⟨c,0,none⟩=some (.pointer (some ⟨c,0,none⟩)):=by
      rw[cell?_at L.block]
      rw[Nat.add_zero] at hy
      rw[hy,ren_pointer,hrb]
     refine⟨_,w,run_callFunc_enter hN hf hb _,fun cc cs=>⟨φ,_,okV_unit φ,R,Ext.refl _ _ _,Kept.refl _ _,?_⟩⟩
     rw[ren_unit']
     exact Calls.steps (C.used c w hcell) (fun e w' h=>h) cc cs
    ·cases hk
   ·cases hk
  ·cases hk
 ·cases hk
theorem kCheck_lg {bt:TypeId} {args:List Value} {r:Value} (hk:kCheck bt args h=some (r,h')) (o:h.Ok):Lg h h':=by
 unfold kCheck at hk
 repeat' split at hk
 all_goals first
  | (cases hk;done)
  | (cases hk;exact Lg.refl o)
  | (obtain⟨h1,hput,he⟩:=Option.map_eq_some_iff.1 hk;cases he;exact Lg.put o hput)
/-! ### Texts compared -/
theorem cmpL_eq:∀ (a b:List UInt8),Lib.compareBytes a b=cmpL a b:=by
 intro a
 induction a with
 | nil=>intro b;cases b<;>rfl
 | cons x a ih=>
  intro b
  cases b with
  | nil=>rfl
  | cons y b=>
   simp only[Lib.compareBytes,cmpL,UInt8.lt_iff_toNat_lt,ih]
   by_cases h1:x.toNat<y.toNat
   ·have hb1:x.toNat.blt y.toNat=true:=by rw[Nat.blt_eq];exact h1
    rw[if_pos h1,hb1]
   ·have hb1:x.toNat.blt y.toNat=false:=by
     cases hq:x.toNat.blt y.toNat
     ·rfl
     ·rw[Nat.blt_eq] at hq;exact absurd hq h1
    rw[if_neg h1,hb1]
    by_cases h2:y.toNat<x.toNat
    ·have hb2:y.toNat.blt x.toNat=true:=by rw[Nat.blt_eq];exact h2
     rw[if_pos h2]
     simp only[hb2]
    ·have hb2:y.toNat.blt x.toNat=false:=by
      cases hq:y.toNat.blt x.toNat
      ·rfl
      ·rw[Nat.blt_eq] at hq;exact absurd hq h2
     rw[if_neg h2]
     simp only[hb2]
theorem kCmp_sim {f:FuncId} {fn:Func} (hf:P.funcs[f]? = some fn) (hname:(fn.name == "runtime.NumGoroutine")=false) (hb:fn.body.isNone=true) (hn:Extern.findNext fn=none) (he:Extern.find fn=some Extern.BytealgCompare.compare)
  {args:List Value} {r:Value} (hk:kCmp args h=some (r,h')) (R:Tie D E n0 All φ h w):Sim P D E n0 (callFunc f (args.map (ren φ)).toArray) φ h w r h':=by
 unfold kCmp at hk
 split at hk
 ·next a b=>
  cases hk
  refine⟨.value (.int .i64 (cmpL a.data.toList b.data.toList)),w,?_,fun c cs=>⟨φ,w,trivial,R,Ext.refl _ _ _,Kept.refl _ _,by rw[ren_int],rfl⟩⟩
  have:(([.string a,.string b]:List Value).map (ren φ)).toArray=#[.string a,.string b]:=by simp[ren]
  rw[this,run_callFunc_extern hf hname hb hn he,Lib.run_compareString,cmpL_eq]
  rfl
 ·cases hk
theorem kCmp_same {args:List Value} {r:Value} (hk:kCmp args h=some (r,h')):h'=h:=by
 unfold kCmp at hk
 split at hk
 ·cases hk;rfl
 ·cases hk
end
section
variable {D:Tab} {E:Env} {I:Known}
def Wc (D:Tab) (E:Env) (I:Known) (F:Fx) (c:Code) (A:Ac) (h:H) (Q:Ex→Ac→H→Prop):Prop:=
 ∃ n ex A' h',(ev D E I n).code F c A h=some (ex,A',h')∧Q ex A' h'
def WR (r:Option (Ac×H)) (Q:Ac→H→Prop):Prop:=
 match r with
 | some (A,h)=>Q A h
 | none=>False
theorem Wc.mono {F:Fx} {c:Code} {A:Ac} {h:H} {Q Q':Ex→Ac→H→Prop} (w:Wc D E I F c A h Q) (hq:∀ ex A h,Q ex A h→Q' ex A h):Wc D E I F c A h Q':=by
 obtain⟨n,ex,A',h',h1,h2⟩:=w
 exact⟨n,ex,A',h',h1,hq _ _ _ h2⟩
theorem Wc.forget {F:Fx} {c:Code} {A:Ac} {h:H} {Q:Ex→Ac→H→Prop} (P:Ac→Prop) (hP:P A) (w:∀ A',P A'→Wc D E I F c A' h Q):Wc D E I F c A h Q:=w A hP
theorem Wc.seq {F:Fx} {a b:Code} {A:Ac} {h:H} {Q:Ex→Ac→H→Prop} (w:Wc D E I F a A h fun ex A h=>match ex with|.normal=>Wc D E I F b A h Q|ex=>Q ex A h):Wc D E I F (.seq a b) A h Q:=by
 obtain⟨n,ex,A1,h1,h2,h3⟩:=w
 cases ex with
 | normal=>
  obtain⟨m,ex2,A2,h4,h5,h6⟩:=h3
  refine⟨max n m+1,ex2,A2,h4,?_,h6⟩
  show doCode D E (ev D E I (max n m)) F (.seq a b) A h=_
  simp only[doCode]
  rw[(ev_mono I (Nat.le_max_left n m)).code h2]
  exact (ev_mono I (Nat.le_max_right n m)).code h5
 | _=>
  refine⟨n+1,_,A1,h1,?_,h3⟩
  show doCode D E (ev D E I n) F (.seq a b) A h=_
  simp only[doCode]
  rw[h2]
theorem Wc.skip {F:Fx} {A:Ac} {h:H} {Q:Ex→Ac→H→Prop} (hq:Q .normal A h):Wc D E I F .skip A h Q:=⟨1,_,A,h,rfl,hq⟩
theorem Wc.exit {F:Fx} {id:Nat} {A:Ac} {h:H} {Q:Ex→Ac→H→Prop} (hq:Q (.exit id) A h):Wc D E I F (.exit id) A h Q:=⟨1,_,A,h,rfl,hq⟩
theorem Wc.ret {F:Fx} {A:Ac} {h:H} {Q:Ex→Ac→H→Prop} (hq:Q .ret A h):Wc D E I F .ret A h Q:=⟨1,_,A,h,rfl,hq⟩
theorem Wc.region {F:Fx} {id:Nat} {ops:Array Oper} {draw:Bool} {A:Ac} {h:H} {Q:Ex→Ac→H→Prop} (w:WR (runRegion D E (ev D E I 1) ops draw A h) (Q .normal)):Wc D E I F (.region id ops draw) A h Q:=by
 unfold WR at w
 split at w
 ·next A' h' he=>
  refine⟨2,.normal,A',h',?_,w⟩
  show doCode D E (ev D E I 1) F (.region id ops draw) A h=_
  simp only[doCode,he];rfl
 ·exact w.elim
theorem Wc.region_eq {F:Fx} {id:Nat} {ops:Array Oper} {draw:Bool} {A A':Ac} {h h':H} {Q:Ex→Ac→H→Prop} (he:runRegion D E (ev D E I 1) ops draw A h=some (A',h')) (hq:Q .normal A' h'):Wc D E I F (.region id ops draw) A h Q:=
 Wc.region (by rw[he];exact hq)
/-! Operations, one by one. -/
theorem RO.run {v:Ev} {ops:Array Oper} {o:Oper} {rest:List Oper} {A:Ac} {h h':H} {x:Value} {res:Option (Ac×H)} (hw:awant ops A o=true) (ho:oper1 D E v A o h=some (x,h')) (r:runOps D E v ops rest (A.put o.dst x) h'=res):runOps D E v ops (o::rest) A h=res:=by
 simp only[runOps,hw,ho];exact r
theorem RO.skip {v:Ev} {ops:Array Oper} {o:Oper} {rest:List Oper} {A:Ac} {h:H} {res:Option (Ac×H)} (hw:awant ops A o=false) (r:runOps D E v ops rest (A.put o.dst undef) h=res):runOps D E v ops (o::rest) A h=res:=by
 simp only[runOps,hw];exact r
theorem RO.nil {v:Ev} {ops:Array Oper} {A:Ac} {h:H}:runOps D E v ops [] A h=some (A,h):=rfl
theorem Wc.ops {F:Fx} {id:Nat} {l:List Oper} {A A':Ac} {h h':H} {Q:Ex→Ac→H→Prop} (he:runOps D E (ev D E I 1) l.toArray l A h=some (A',h')) (hq:Q .normal A' h'):Wc D E I F (.region id l.toArray false) A h Q:=
 Wc.region_eq he hq
theorem RO.runG {v:Ev} {ops:Array Oper} {o:Oper} {rest:List Oper} {A:Ac} {h h':H} {x:Value} {res:Option (Ac×H)} {j:Nat} {w:Bool} {d:Tmp} (hg:o.guard=some (j,w)) (hd:(ops[j]?).bind (·.dst)=some d) (hv:A.get d=.bool w) (ho:oper1 D E v A o h=some (x,h')) (r:runOps D E v ops rest (A.put o.dst x) h'=res):runOps D E v ops (o::rest) A h=res:=by
 refine RO.run ?_ ho r
 unfold awant
 rw[hg]
 simp only[ayield_get,hd,hv]
 cases w<;>rfl
theorem RO.skipG {v:Ev} {ops:Array Oper} {o:Oper} {rest:List Oper} {A:Ac} {h:H} {res:Option (Ac×H)} {j:Nat} {w:Bool} {d:Tmp} (hg:o.guard=some (j,w)) (hd:(ops[j]?).bind (·.dst)=some d) (hv:A.get d=.bool (!w)) (r:runOps D E v ops rest (A.put o.dst undef) h=res):runOps D E v ops (o::rest) A h=res:=by
 refine RO.skip ?_ r
 unfold awant
 rw[hg]
 simp only[ayield_get,hd,hv]
 cases w<;>rfl
theorem awant_none {ops:Array Oper} {A:Ac} {o:Oper} (h:o.guard=none):awant ops A o=true:=by unfold awant;rw[h]
theorem Wc.cond {F:Fx} {c:Operand} {t e:Code} {A:Ac} {h:H} {Q:Ex→Ac→H→Prop} {b:Bool} (hc:opv A c=some (.bool b)) (w:Wc D E I F (if b then t else e) A h Q):Wc D E I F (.cond c t e) A h Q:=by
 obtain⟨n,ex,A',h',h1,h2⟩:=w
 refine⟨n+1,ex,A',h',?_,h2⟩
 show doCode D E (ev D E I n) F (.cond c t e) A h=_
 simp only[doCode,hc]
 cases b<;>exact h1
theorem Wc.cond2 {F:Fx} {c:Operand} {t e:Code} {A:Ac} {h:H} {Q:Ex→Ac→H→Prop} {b:Bool} (hc:opv A c=some (.bool b)) (w1:b=true→Wc D E I F t A h Q) (w2:b=false→Wc D E I F e A h Q):Wc D E I F (.cond c t e) A h Q:=by
 refine Wc.cond hc ?_
 cases b with
 | true=>exact w1 rfl
 | false=>exact w2 rfl
theorem Wc.block {F:Fx} {id:Nat} {c:Code} {A:Ac} {h:H} {Q:Ex→Ac→H→Prop} (w:Wc D E I F c A h fun ex A h=>match ex with|.exit j=>if j=id then Q .normal A h else Q (.exit j) A h|.goto _=>False|ex=>Q ex A h):Wc D E I F (.block id c) A h Q:=by
 obtain⟨n,ex,A',h',h1,h2⟩:=w
 cases ex with
 | exit j=>
  by_cases e:j=id
  ·subst e
   simp only[if_pos] at h2
   refine⟨n+1,.normal,A',h',?_,h2⟩
   show doCode D E (ev D E I n) F (.block j c) A h=_
   simp only[doCode,h1,show Nat.beq j j=true from Nat.beq_refl j]
  ·simp only[e,if_false] at h2
   refine⟨n+1,.exit j,A',h',?_,h2⟩
   show doCode D E (ev D E I n) F (.block id c) A h=_
   have:Nat.beq j id=false:=by
    cases hq:Nat.beq j id
    ·rfl
    ·exact absurd (Nat.eq_of_beq_eq_true hq) e
   simp only[doCode,h1,this]
 | goto l=>exact h2.elim
 | normal=>
  refine⟨n+1,_,A',h',?_,h2⟩
  show doCode D E (ev D E I n) F (.block id c) A h=_
  simp only[doCode,h1]
 | ret=>
  refine⟨n+1,_,A',h',?_,h2⟩
  show doCode D E (ev D E I n) F (.block id c) A h=_
  simp only[doCode,h1]
theorem Wc.scope {F:Fx} {c:Code} {A:Ac} {h:H} {Q:Ex→Ac→H→Prop} (w:Wc D E I F c A h fun ex A h=>match ex with|.goto _=>False|ex=>Q ex A h):Wc D E I F (.scope c) A h Q:=by
 obtain⟨n,ex,A',h',h1,h2⟩:=w
 refine⟨n+1,ex,A',h',?_,?_⟩
 ·show doCode D E (ev D E I n) F (.scope c) A h=_
  simp only[doCode,h1]
  cases ex<;>first|rfl|exact h2.elim
 ·cases ex<;>first|exact h2|exact h2.elim
theorem Wc.loop {F:Fx} {c:Code} {A:Ac} {h:H} {Q:Ex→Ac→H→Prop} (w:Wc D E I F c A h fun ex A h=>match ex with|.normal=>Wc D E I F (.loop c) A h Q|.goto _=>False|ex=>Q ex A h):Wc D E I F (.loop c) A h Q:=by
 obtain⟨n,ex,A1,h1,h2,h3⟩:=w
 cases ex with
 | normal=>
  obtain⟨m,ex2,A2,h4,h5,h6⟩:=h3
  refine⟨max n m+1,ex2,A2,h4,?_,h6⟩
  show doCode D E (ev D E I (max n m)) F (.loop c) A h=_
  simp only[doCode]
  rw[(ev_mono I (Nat.le_max_left n m)).code h2]
  exact (ev_mono I (Nat.le_max_right n m)).code h5
 | goto l=>exact h3.elim
 | exit j=>
  refine⟨n+1,_,A1,h1,?_,h3⟩
  show doCode D E (ev D E I n) F (.loop c) A h=_
  simp only[doCode]
  rw[h2]
 | ret=>
  refine⟨n+1,_,A1,h1,?_,h3⟩
  show doCode D E (ev D E I n) F (.loop c) A h=_
  simp only[doCode]
  rw[h2]
theorem ev_known {f:FuncId} {args:List Value} {h:H} {r:Value×H} (hI:I f args h=some (some r)):(ev D E I 1).call f args h=some r:=by
 show doCall D E I (ev D E I 0) f args h=_
 simp only[doCall,hI]
theorem Wc.call {f:FuncId} {fn:Func} {body:Code} {args:List Value} {h:H} {Q:Value→H→Prop} (hI:I f args h=none) (hf:D.fn.get f=some fn) (hb:fn.body=some body)
  (w:Wc D E I ⟨f,none⟩ body ⟨T.ofList args 0 .nil,max args.length fn.ntmps,[]⟩ h fun ex A h=>(ex=.normal∨ex=.ret)∧∃ h2 v,takeAll A.defers h=some h2∧ares D E fn A h2=some v∧Q v h2) :
  ∃ n v h',(ev D E I n).call f args h=some (v,h')∧Q v h':=by
 obtain⟨n,ex,A,h1,h2,h3,h4,v,h5,h6,h7⟩:=w
 refine⟨n+1,v,h4,?_,h7⟩
 show doCall D E I (ev D E I n) f args h=_
 simp only[doCall,hI,hf,hb,h2]
 rcases h3 with rfl|rfl<;>simp only[h5,h6,Option.map_some]
theorem done_tmp {fn:Func} {A:Ac} {h:H} {t:Tmp} {v:Value} {ex:Ex} (hex:ex=.normal∨ex=.ret) (hd:A.defers=[]) (hr:fn.results=#[.tmp t]) (hv:A.get t=v) (hl:h.log=[]) :
  (ex=.normal∨ex=.ret)∧∃ h2 v',takeAll A.defers h=some h2∧ares D E fn A h2=some v'∧(v'=v∧h2.log=[]):=by
 refine⟨hex,h,v,?_,?_,rfl,hl⟩
 ·rw[hd];rfl
 ·unfold ares
  rw[hr]
  simp only[aresL,ares1,hv]
end
inductive Item where
 | mk (kind num:Int) (text:ByteArray) (kids:List Item)
mutual
def rep (E:Env) (h:H):Item→Value→Prop
 | .mk k n t ks,v=>∃ s,v=.agg ⟨[.int .i64 k,.int .i64 n,.string t,s]⟩∧((ks=[]∧s=.slice none 0 0)∨∃ a c cs,s=.slice (some a) ks.length c∧(ks.length≤c∧c<9223372036854775808)∧h.cells E a (ks.length*4)=some cs∧repL E h ks cs)
def repL (E:Env) (h:H):List Item→List Value→Prop
 | [],cs=>cs=[]
 | x::xs,cs=>∃ a b c d l,cs=a::b::c::d::l∧rep E h x (.agg ⟨[a,b,c,d]⟩)∧repL E h xs l
end
theorem repL_get {E:Env} {h:H}:∀ {ks:List Item} {cs:List Value} (i:Nat) {x:Item},repL E h ks cs→ks[i]? = some x→((cs.drop (i*4)).take 4).length=4∧rep E h x (.agg ⟨(cs.drop (i*4)).take 4⟩)
 | [],cs,i,x,hr,hx=>by simp at hx
 | y::ks,cs,0,x,hr,hx=>by
  rw[repL] at hr
  obtain⟨a,b,c,d,l,rfl,h1,_⟩:=hr
  simp at hx;subst hx
  exact⟨rfl,h1⟩
 | y::ks,cs,i+1,x,hr,hx=>by
  rw[repL] at hr
  obtain⟨a,b,c,d,l,rfl,_,h2⟩:=hr
  rw[List.getElem?_cons_succ] at hx
  have:=repL_get i h2 hx
  have e:(a::b::c::d::l).drop ((i+1)*4)=l.drop (i*4):=by
   rw[show (i+1)*4=i*4+1+1+1+1 by omega]
   simp only[List.drop_succ_cons]
  rw[e];exact this
theorem roCells_sub {E:Env}:∀ (n b o m l:Nat) (cs:List Value),roCells E b o n=some cs→m+l≤n→roCells E b (o+m) l=some ((cs.drop m).take l):=by
 intro n b o m l
 induction l generalizing m with
 | zero=>intro cs h hl;simp[roCells]
 | succ l ih=>
  intro cs h hl
  obtain⟨h1,h2⟩:=roCells_get _ _ _ _ h
  have hm:m<cs.length:=by omega
  have h3:=h2 m cs[m] (List.getElem?_eq_getElem hm)
  simp only[roCells]
  rw[h3]
  have:=ih (m+1) cs h (by omega)
  rw[show o+(m+1)=o+m+1 by omega] at this
  rw[this]
  simp only
  rw[List.drop_eq_getElem_cons hm,List.take_succ_cons]
theorem cells_sub {E:Env} {h:H} {a:Addr} {n m l:Nat} {cs:List Value} (hc:h.cells E a n=some cs) (hl:m+l≤n):h.cells E (aadd a m) l=some ((cs.drop m).take l):=by
 cases l with
 | zero=>simp[H.cells]
 | succ l=>
  cases n with
  | zero=>omega
  | succ n=>
   unfold H.cells at hc ⊢
   simp only at hc ⊢
   split at hc
   ·next hs=>(try simp only[aadd,hs]);exact roCells_sub _ _ _ _ _ _ hc hl
   ·next hs=>
    try simp only[aadd,hs]
    split at hc
    ·next xs ty root hb=>
     try simp only[hb]
     split at hc
     ·next hle=>
      cases hc
      simp only[Bool.and_eq_true,Nat.ble_eq,List.all_eq_true] at hle
      have e:(((xs.drop a.off).take (n+1)).drop m).take (l+1)=(xs.drop (a.off+m)).take (l+1):=by
       rw[List.drop_take,List.take_take,List.drop_drop]
       congr 1
       omega
      rw[e]
      have hq:(Nat.ble (a.off+m+(l+1)) xs.length&&((xs.drop (a.off+m)).take (l+1)).all isOne)=true:=by
       simp only[Bool.and_eq_true,Nat.ble_eq,List.all_eq_true]
       refine⟨by omega,fun v hv => ?_⟩
       apply hle.2
       rw[← e] at hv
       exact List.mem_of_mem_drop (List.mem_of_mem_take hv)
      rw[hq]
     ·cases hc
    ·cases hc
   ·cases hc
section
variable {P:Program} {D:Tab} {E:Env} {n0:Nat} {φ φ':Ph} {h h':H} {w w':World}
theorem Tie.forget (R:Tie D E n0 All φ h w) (R':Tie D E n0 All φ' h' w') (hφ:∀ k,k<h.next→φ' k=φ k) (hb:∀ k,k<h.next→h'.blk k=h.blk k) (hsz:w.heap.size≤w'.heap.size):Tie D E n0 All φ h w':=by
 have hle:Le φ φ':=fun k x hk=>by
  obtain⟨c,b,e⟩:=x
  rw[hφ k (R.dom _ _ _ _ hk).1];exact hk
 refine⟨R'.ro,Nat.le_trans R.size hsz,fun k c b e hk => ?_,fun k B c b e hV hB hk => ?_,R.apart,R.exact,R.fresh,R.root⟩
 ·obtain⟨a1,a2,a3⟩:=R.dom k c b e hk
  exact⟨a1,a2,Nat.lt_of_lt_of_le a3 hsz⟩
 ·have hlt:=(R.dom _ _ _ _ hk).1
  have h1:=R'.blk k B c b e trivial (by rw[hb k hlt];exact hB) (hle _ _ hk)
  exact h1.both (ψ:=φ) (χ:=φ) (fun k x hk=>(hle k x hk▸hk)) (R.blk k B c b e trivial hB hk)
theorem forget_sim {s:Sem Next} {v:Value} (R:Tie D E n0 All φ h w) (hs:Sim P D E n0 s φ (fresh h) w v h') (hv:roV v=true) (hb:∀ k,k<h.next→h'.blk k=h.blk k):Sim P D E n0 s φ h w v h:=by
 obtain⟨nx,w1,h1,h2⟩:=hs
 refine⟨nx,w1,h1,fun c cs => ?_⟩
 obtain⟨φ',w',g1,g2,g3,g4,g5⟩:=h2 c cs
 have e1:ren φ' v=ren φ v:=by rw[(roV.ok φ' hv).2,(roV.ok φ hv).2]
 refine⟨φ,w',(roV.ok φ hv).1,R.forget g2 g3.1 hb g4.size,Ext.refl _ _ _,g4,?_⟩
 rw[e1] at g5
 exact g5
abbrev Says:=Nat→FuncId→List Value→H→Value→Prop
open Classical in
noncomputable def upTo (S:Says) (I:Known) (m:Nat):Known:=fun f args h=>
 if c:∃ v s,s<m∧S s f args h v then some (some (c.choose,h)) else I f args h
open Classical in
noncomputable def saidBy (S:Says) (I:Known):Known:=fun f args h=>
 if c:∃ v s,S s f args h v then some (some (c.choose,h)) else I f args h
def One (S:Says):Prop:=∀ s s' f args h v v',S s f args h v→S s' f args h v'→v=v'
theorem saidBy_eq {S:Says} {I:Known} (hu:One S) {s:Nat} {f:FuncId} {args:List Value} {h:H} {v:Value} (hs:S s f args h v):saidBy S I f args h=some (some (v,h)):=by
 have c:∃ v s,S s f args h v:=⟨v,s,hs⟩
 unfold saidBy
 rw[dif_pos c]
 obtain⟨s',h2⟩:=c.choose_spec
 rw[hu _ _ _ _ _ _ _ h2 hs]
theorem upTo_none {S:Says} {I:Known} {m:Nat} {f:FuncId} {args:List Value} {h:H} (hn:∀ v s,s<m→¬ S s f args h v):upTo S I m f args h=I f args h:=by
 unfold upTo
 rw[dif_neg]
 rintro⟨v,s,h1,h2⟩
 exact hn v s h1 h2
end
mutual
def isz:Item→Nat
 | .mk _ _ _ ks=>iszL ks+1
def iszL:List Item→Nat
 | []=>0
 | x::xs=>isz x+iszL xs
end
theorem isz_mem:∀ {ks:List Item} {x:Item},x∈ks→isz x≤iszL ks
 | [],x,h=>by cases h
 | y::ks,x,h=>by
  rw[iszL]
  rcases List.mem_cons.1 h with rfl|h
  ·omega
  ·have:=isz_mem h;omega
theorem isz_kid {k n:Int} {t:ByteArray} {ks:List Item} {x:Item} (h:x∈ks):isz x<isz (.mk k n t ks):=by
 have:=isz_mem h
 rw[isz];omega
mutual
theorem rep_one {E:Env} {h:H}:∀ {t t':Item} {v:Value},rep E h t v→rep E h t' v→t=t'
 | .mk k n tx ks,.mk k' n' tx' ks',v,h1,h2=>by
  rw[rep] at h1 h2
  obtain⟨s,rfl,h1⟩:=h1
  obtain⟨s',he,h2⟩:=h2
  cases he
  have:ks=ks':=by
   rcases h1 with⟨rfl,rfl⟩|⟨a,c,cs,rfl,_,h3,h4⟩
   ·rcases h2 with⟨rfl,_⟩|⟨a,c,cs,he,_⟩
    ·rfl
    ·cases he
   ·rcases h2 with⟨_,he⟩|⟨a',c',cs',he,_,h5,h6⟩
    ·cases he
    ·simp only[Value.slice.injEq,Option.some.injEq] at he
     obtain⟨rfl,hl,rfl⟩:=he
     rw[← hl,h3] at h5
     cases h5
     exact repL_one hl h4 h6
  rw[this]
theorem repL_one {E:Env} {h:H}:∀ {ks ks':List Item} {cs:List Value},ks.length=ks'.length→repL E h ks cs→repL E h ks' cs→ks=ks'
 | [],[],_,_,_,_=>rfl
 | [],_::_,_,hl,_,_=>by cases hl
 | _::_,[],_,hl,_,_=>by cases hl
 | x::xs,y::ys,cs,hl,h1,h2=>by
  rw[repL] at h1 h2
  obtain⟨a,b,c,d,l,rfl,h3,h4⟩:=h1
  obtain⟨a',b',c',d',l',he,h5,h6⟩:=h2
  cases he
  rw[rep_one h3 h5,repL_one (by simpa using hl) h4 h6]
end
theorem wrap64 {x:Int} (h1 : -9223372036854775808≤x) (h2:x<9223372036854775808):IntKind.i64.wrap x=x:=by
 simp only[IntKind.wrap,IntKind.bits,IntKind.signed]
 simp
 omega
/-! ### A heap that grows keeps what reads -/
theorem new_blk_old {h:H} {B:Blk} {k:Nat} (hk:k≠h.next):(h.new B).blk k=h.blk k:=
 blk_congr (by simp only[H.new];rw[T.get_set_ne _ _ _ _ hk]) (fun _ _ _ _ _=>Iff.rfl)
theorem new_blk_new {h:H} {B:Blk} (hB:B.plain=true):(h.new B).blk h.next=some B:=by
 have hd:(h.new B).dyn.get h.next=some B:=T.get_set_same _ _ _
 cases B with
 | cells xs ty rt=>cases rt with
  | none=>exact blk_none_root hd
  | some _=>cases hB
 | _=>unfold H.blk;rw[hd]
theorem rep_slice {E:Env} {h:H} {k m:Int} {tx:ByteArray} {ks:List Item} {v:Value} (hr:rep E h (.mk k m tx ks) v):∃ b c,v=.agg ⟨[.int .i64 k,.int .i64 m,.string tx,.slice b ks.length c]⟩∧
  (ks=[]∨∃ a cs,b=some a∧ks.length<9223372036854775808∧h.cells E a (ks.length*4)=some cs∧repL E h ks cs):=by
 rw[rep] at hr
 obtain⟨s,rfl,hs⟩:=hr
 rcases hs with⟨rfl,rfl⟩|⟨a,c,cs,rfl,h1,h2,h3⟩
 ·exact⟨none,0,rfl,.inl rfl⟩
 ·exact⟨some a,c,rfl,.inr ⟨a,cs,rfl,by omega,h2,h3⟩⟩
def Grows (h h':H):Prop:=∀ k B,h.blk k=some B→h'.blk k=some B
theorem cells_grow {E:Env} {h h':H} (g:Grows h h') {a:Addr} {n:Nat} {cs:List Value} (hc:h.cells E a n=some cs):h'.cells E a n=some cs:=by
 cases n with
 | zero=>simpa [H.cells] using hc
 | succ n=>
  unfold H.cells at hc ⊢
  simp only at hc ⊢
  cases hs:a.spot with
  | none=>rw[hs] at hc;exact hc
  | some s=>
   rw[hs] at hc
   cases s with
   | zero=>
    simp only at hc ⊢
    cases hb:h.blk a.block with
    | none=>rw[hb] at hc;cases hc
    | some B=>rw[g _ _ hb];rw[hb] at hc;exact hc
   | succ s=>cases hc
mutual
theorem rep_grow {E:Env} {h h':H} (g:Grows h h'):∀ {t:Item} {v:Value},rep E h t v→rep E h' t v
 | .mk k n tx ks,v,hr=>by
  rw[rep] at hr ⊢
  obtain⟨s,h1,h2⟩:=hr
  refine⟨s,h1,?_⟩
  rcases h2 with h2|⟨a,c,cs,h3,h4,h5,h6⟩
  ·exact .inl h2
  ·exact .inr ⟨a,c,cs,h3,h4,cells_grow g h5,repL_grow g h6⟩
theorem repL_grow {E:Env} {h h':H} (g:Grows h h'):∀ {ks:List Item} {cs:List Value},repL E h ks cs→repL E h' ks cs
 | [],cs,hr=>by rw[repL] at hr ⊢; exact hr
 | x::xs,cs,hr=>by
  rw[repL] at hr ⊢
  obtain⟨a,b,c,d,l,h1,h2,h3⟩:=hr
  exact⟨a,b,c,d,l,h1,rep_grow g h2,repL_grow g h3⟩
end
theorem new_fresh {h:H} (hf:∀ k,h.next≤k→h.dyn.get k=none) (B:Blk):∀ k,(h.new B).next≤k→(h.new B).dyn.get k=none:=by
 intro k hk
 have hk:h.next+1≤k:=hk
 simp only[H.new]
 rw[T.get_set_ne _ _ _ _ (by omega)]
 exact hf k (by omega)
theorem Grows.trans {h h' h'':H} (g:Grows h h') (g':Grows h' h''):Grows h h'':=fun k B hb=>g' k B (g k B hb)
theorem grows_new {h:H} (hf:∀ k,h.next≤k→h.dyn.get k=none) (B:Blk):Grows h (h.new B):=by
 intro k B' hb
 rw[new_blk_old]
 ·exact hb
 ·intro e
  subst e
  have:=H.blk_dyn hb
  rw[hf _ (Nat.le_refl _)] at this;cases this
def firstLoop:Code→Option Code
 | .seq a b=>match firstLoop a with
  | some c=>some c
  | none=>firstLoop b
 | .cond _ a b=>match firstLoop a with
  | some c=>some c
  | none=>firstLoop b
 | .block _ c=>firstLoop c
 | .scope c=>firstLoop c
 | .loop c=>some c
 | _=>none
def loopOf (f:Func):Code:=match f.body with
 | some c=>(firstLoop c).getD .skip
 | none=>.skip
/-! ### Is an item right? -/
mutual
def chkI:Item→Int→Int→Int×Int
 | .mk k n tx ks,b,l=>if l>250 then (b,11) else if b≥5000 then (b,2) else if k<1∨k>63∨n<0∨n>1099511627776 then (b,3) else if (tx.data.toList.length:Int)>4096 then (b,11) else chkL ks (b+1) (l+1)
def chkL:List Item→Int→Int→Int×Int
 | [],b,_=>(b,0)
 | x::xs,b,l=>if (chkI x b l).2≠0 then chkI x b l else chkL xs (chkI x b l).1 l
end
mutual
theorem chkI_bound:∀ (t:Item) (b l:Int),0≤b→b≤5000→0≤(chkI t b l).1∧(chkI t b l).1≤5000
 | .mk k n tx ks,b,l,h1,h2=>by
  rw[chkI]
  split
  ·exact⟨h1,h2⟩
  ·split
   ·exact⟨h1,h2⟩
   ·split
    ·exact⟨h1,h2⟩
    ·split
     ·exact⟨h1,h2⟩
     ·exact chkL_bound ks (b+1) (l+1) (by omega) (by omega)
theorem chkL_bound:∀ (ks:List Item) (b l:Int),0≤b→b≤5000→0≤(chkL ks b l).1∧(chkL ks b l).1≤5000
 | [],b,l,h1,h2=>by rw[chkL];exact⟨h1,h2⟩
 | x::xs,b,l,h1,h2=>by
  rw[chkL]
  have:=chkI_bound x b l h1 h2
  split
  ·exact this
  ·exact chkL_bound xs _ l this.1 this.2
end
mutual
theorem chkI_size:∀ (t:Item) (b l:Int),(chkI t b l).2=0→(chkI t b l).1=b+isz t
 | .mk k n tx ks,b,l,h=>by
  rw[chkI] at h ⊢
  split at h
  ·cases h
  ·split at h
   ·cases h
   ·split at h
    ·cases h
    ·split at h
     ·cases h
     ·next h1 h2 h3 h4=>
      rw[if_neg h1,if_neg h2,if_neg h3,if_neg h4,chkL_size ks _ _ h,isz]
      push_cast;omega
theorem chkL_size:∀ (ks:List Item) (b l:Int),(chkL ks b l).2=0→(chkL ks b l).1=b+iszL ks
 | [],b,l,_=>by rw[chkL,iszL];simp
 | x::xs,b,l,h=>by
  rw[chkL] at h ⊢
  split at h
  ·next hne=>exact absurd h hne
  ·next hne=>
   rw[if_neg hne]
   have h0:(chkI x b l).2=0:=Classical.not_not.1 hne
   rw[chkL_size xs _ l h,chkI_size x b l h0,iszL]
   push_cast;omega
end
/-! ### The greatest level -/
mutual
def lvlI:Item→Int
 | .mk _ _ _ ks=>lvlL ks 0+1
def lvlL:List Item→Int→Int
 | [],m=>m
 | x::xs,m=>lvlL xs (if lvlI x>m then lvlI x else m)
end
mutual
theorem lvlI_bound:∀ (t:Item),1≤lvlI t∧lvlI t≤isz t
 | .mk k n tx ks=>by
  rw[lvlI,isz]
  have:=lvlL_bound ks 0 (Int.le_refl _)
  push_cast;omega
theorem lvlL_bound:∀ (ks:List Item) (m:Int),0≤m→m≤lvlL ks m∧lvlL ks m≤m+iszL ks
 | [],m,h=>by rw[lvlL,iszL];simp
 | x::xs,m,h=>by
  rw[lvlL,iszL]
  have h1:=lvlI_bound x
  split
  ·have:=lvlL_bound xs (lvlI x) (by omega)
   push_cast;omega
  ·have:=lvlL_bound xs m h
   push_cast;omega
end
/-! ### Which comes first -/
mutual
def ordI:Item→Item→Int
 | .mk k n t ks,.mk k' n' t' ks'=>
  if k≠k' then (if k<k' then -1 else 1)
  else if n≠n' then (if n<n' then -1 else 1)
  else if (t.data.toList == t'.data.toList)=false then (if Op.bytesLess t.data.toList t'.data.toList then -1 else 1)
  else ordL ks ks'
def ordL:List Item→List Item→Int
 | [],[]=>0
 | [],_::_ => -1
 | _::_,[]=>1
 | x::xs,y::ys=>if ordI x y≠0 then ordI x y else ordL xs ys
end
theorem allMeet_quiet {b:Array Nat} {ts:List Tch} (h:ts.all (fun t=>t.writes.isEmpty && !t.rooted)=true):allMeet b ts=true:=by
 rw[List.all_eq_true] at h
 unfold allMeet
 simp only[List.all_eq_true]
 rintro⟨s,i⟩ hs ⟨t,j⟩ ht
 have h1:=h s (List.mem_of_getElem? (List.mem_zipIdx_iff_getElem?.1 hs))
 have h2:=h t (List.mem_of_getElem? (List.mem_zipIdx_iff_getElem?.1 ht))
 simp only[Bool.and_eq_true,Bool.not_eq_true',List.isEmpty_iff] at h1 h2
 have:meets s t=true:=by
  unfold meets
  rw[h1.1,h2.1,h1.2,h2.2]
  simp[apart?]
 rw[this,Bool.or_true]
theorem back_fresh (h:H):back h (fresh h)=h:=note_nil h
structure Fit (h:H):Prop where
 free:∀ k,h.next≤k→h.dyn.get k=none
 ok:h.Ok
structure Ahd (h g:H):Prop where
 fit:Fit g
 grows:Grows h g
 log:g.log=h.log
 mark:g.mark=h.mark
 next:h.next≤g.next
 chain:∀ r,r<h.next→g.chain r=h.chain r
theorem Ahd.refl {h:H} (f:Fit h):Ahd h h:=⟨f,fun _ _ h=>h,rfl,rfl,Nat.le_refl _,fun _ _=>rfl⟩
theorem Ahd.trans {h g f:H} (s:Ahd h g) (t:Ahd g f):Ahd h f:=
 ⟨t.fit,s.grows.trans t.grows,t.log.trans s.log,t.mark.trans s.mark,Nat.le_trans s.next t.next,fun r hr=>(t.chain r (Nat.lt_of_lt_of_le hr s.next)).trans (s.chain r hr)⟩
theorem Fit.fresh {h:H} (f:Fit h):Fit (fresh h):=⟨f.free,f.ok.1,Nat.le_refl _⟩
theorem Fit.none {h:H} (f:Fit h) {k:Nat} {B:Blk} (hb:h.dyn.get k=some B):k<h.next:=by
 apply Classical.byContradiction
 intro hk
 rw[f.free k (by omega)] at hb;cases hb
theorem Fit.lt {h:H} (f:Fit h) {k:Nat} {B:Blk} (hb:h.blk k=some B):k<h.next:=f.none (H.blk_dyn hb)
theorem Fit.new {h:H} (f:Fit h) {B:Blk} (hB:B.plain=true):Fit (h.new B):=⟨new_fresh f.free B,(Lg.new f.ok B hB).ok f.ok⟩
theorem Ahd.new0 {h:H} (f:Fit h) {B:Blk} (hB:B.plain=true):Ahd h (h.new B):=
 ⟨f.new hB,grows_new f.free B,rfl,rfl,Nat.le_succ _,fun _ _=>rfl⟩
/-! ### A plain block that is written -/
def H.setb (h:H) (k:Nat) (B:Blk):H:={ h with dyn:=h.dyn.set k B }
theorem note_above {h:H} {ks:List Nat} (hk:∀ k∈ks,h.mark≤k):h.note ks=h:=by
 unfold H.note
 split
 ·rfl
 ·next m hm=>
  have:ks.filter (fun k=>Nat.ble k m)=[]:=by
   rw[List.filter_eq_nil_iff]
   intro k hkk
   have:=hk k hkk
   rw[hm] at this
   simp only[Nat.ble_eq];omega
  rw[this]
  rfl
theorem setb_same {h:H} {k:Nat} {B:Blk} (hB:B.plain=true):(h.setb k B).blk k=some B:=by
 have hd:(h.setb k B).dyn.get k=some B:=T.get_set_same _ _ _
 cases B with
 | cells xs ty rt=>cases rt with
  | none=>exact blk_none_root hd
  | some _=>cases hB
 | _=>unfold H.blk;rw[hd]
theorem setb_ne {h:H} {k j:Nat} {B:Blk} (hk:j≠k):(h.setb k B).blk j=h.blk j:=
 blk_congr (by simp only[H.setb];rw[T.get_set_ne _ _ _ _ hk]) (fun _ _ _ _ _=>Iff.rfl)
theorem Fit.setb {h:H} (f:Fit h) {k:Nat} {B:Blk} (hB:B.plain=true) (hk:k<h.next):Fit (h.setb k B):=by
 refine⟨fun j hj => ?_,fun j xs ty r p hd => ?_,f.ok.2⟩
 ·have hj:h.next≤j:=hj
  simp only[H.setb];rw[T.get_set_ne _ _ _ _ (by omega)];exact f.free j hj
 ·simp only[H.setb,T.get_set] at hd ⊢
  split at hd
  ·cases hd;simp[Blk.plain] at hB
  ·exact f.ok.1 _ _ _ _ _ hd
theorem put_plain {h:H} {k o:Nat} {vs xs:List Value} {ty:TypeId} (hb:h.blk k=some (.cells xs ty none)) (hv:vs≠[]) (hl:o+vs.length≤xs.length) (h1:vs.all isOne=true) (hm:h.mark≤k) :
  h.put (aadd (own k) o) vs=some (h.setb k (.cells (xs.take o++vs++xs.drop (o+vs.length)) ty none)):=by
 unfold H.put
 cases vs with
 | nil=>exact absurd rfl hv
 | cons v vs=>
  simp only[aadd,own,Nat.zero_add,hb]
  rw[h1,show Nat.ble (o+(v::vs).length) xs.length=true from by rw[Nat.ble_eq];exact hl]
  simp only[Bool.and_self]
  congr 1
  exact note_above (h:={ h with dyn:=_ }) (fun j hj=>by simp at hj;subst hj;exact hm)
theorem put_own {h:H} {k:Nat} {vs xs:List Value} {ty:TypeId} (hb:h.blk k=some (.cells xs ty none)) (hv:vs≠[]) (hl:vs.length=xs.length) (h1:vs.all isOne=true) (hm:h.mark≤k) :
  h.put (own k) vs=some (h.setb k (.cells vs ty none)):=by
 have:=put_plain (o:=0) hb hv (by omega) h1 hm
 rw[show aadd (own k) 0=own k from rfl,List.take_zero,List.nil_append,List.drop_of_length_le (by omega),List.append_nil] at this
 exact this
theorem turn_above {h:H} {k:Nat} {B:Blk} (hm:h.mark≤k):h.turn k B=h.setb k B:=
 note_above (h:={ h with dyn:=_ }) (fun j hj=>by simp at hj;subst hj;exact hm)
theorem blk_cells {E:Env} {h:H} {k n:Nat} {xs:List Value} {ty:TypeId} {rt:Option (Nat×Nat)} (hb:h.blk k=some (.cells xs ty rt)) (hn:xs.length=n) (h1:xs.all isOne=true):h.cells E (own k) n=some xs:=by
 subst hn
 cases xs with
 | nil=>rfl
 | cons x xs=>
  unfold H.cells
  simp only[List.length_cons,own,hb,List.drop_zero,Nat.zero_add]
  rw[show (x::xs).take (xs.length+1)=x::xs from List.take_of_length_le (by simp)]
  rw[h1,show Nat.ble (xs.length+1) (xs.length+1)=true from by rw[Nat.ble_eq];exact Nat.le_refl _]
  rfl
theorem blk_cell {E:Env} {h:H} {k i:Nat} {xs:List Value} {ty:TypeId} {rt:Option (Nat×Nat)} {x:Value} (hb:h.blk k=some (.cells xs ty rt)) (hx:xs[i]? = some x) (h1:isOne x=true):h.cell E (aadd (own k) i)=some x:=by
 simp only[H.cell,aadd,own,hb,Nat.zero_add,hx,one?,h1]
theorem blk_cell0 {E:Env} {h:H} {k:Nat} {xs:List Value} {ty:TypeId} {rt:Option (Nat×Nat)} {x:Value} (hb:h.blk k=some (.cells (x::xs) ty rt)) (h1:isOne x=true):h.cell E (own k)=some x:=
 blk_cell (i:=0) hb rfl h1
/-! ### What lies in new chains alone -/
def seen (p:Nat→Bool):Option Blk→Option Blk
 | some (.cells xs ty (some (r,q)))=>match p r with
  | true=>some (.cells xs ty (some (r,q)))
  | false=>none
 | _=>none
def only (p:Nat→Bool) (h:H):H:=⟨h.next,T.ofOpts ((List.range h.next).map fun k=>seen p (h.blk k)) 0 .nil,h.chains,h.mark,h.log⟩
theorem only_dyn (p:Nat→Bool) (h:H) (k:Nat):(only p h).dyn.get k=if k<h.next then seen p (h.blk k) else none:=by
 have:=T.get_ofOpts ((List.range h.next).map fun k=>seen p (h.blk k)) 0 .nil k (fun k _=>T.get_nil k)
 simp only[only]
 rw[this,if_pos (Nat.zero_le _),Nat.sub_zero,List.getElem?_map]
 by_cases hk:k<h.next
 ·rw[List.getElem?_range hk,if_pos hk];rfl
 ·rw[List.getElem?_eq_none (by simpa using hk),if_neg hk];rfl
theorem only_blk {p:Nat→Bool} {h:H} (f:Fit h) {k:Nat} {B:Blk}:(only p h).blk k=some B↔h.blk k=some B∧∃ xs ty r q,B=.cells xs ty (some (r,q))∧p r=true:=by
 constructor
 ·intro hb
  have hd:=H.blk_dyn hb
  rw[only_dyn] at hd
  split at hd
  ·next hk=>
   unfold seen at hd
   split at hd
   ·next xs ty r q hh=>
    split at hd
    ·next hp=>cases hd;exact⟨hh,xs,ty,r,q,rfl,hp⟩
    ·cases hd
   ·cases hd
  ·cases hd
 ·rintro⟨hb,xs,ty,r,q,rfl,hp⟩
  have hk:=f.lt hb
  have hd:(only p h).dyn.get k=some (.cells xs ty (some (r,q))):=by
   rw[only_dyn,if_pos hk,hb]
   simp only[seen,hp]
  unfold H.blk
  rw[hd]
  simp only
  have hc:(only p h).chain r=h.chain r:=rfl
  rw[hc]
  unfold H.blk at hb
  rw[H.blk_dyn (h:=h) (k:=k) (B:=.cells xs ty (some (r,q))) (by unfold H.blk;exact hb)] at hb
  exact hb
theorem only_grows {p:Nat→Bool} {h:H} (f:Fit h):Grows (only p h) h:=fun _ _ hb=>((only_blk f).1 hb).1
def rootsNot (ro:Option Nat) (B:Blk):Prop:=∀ xs ty r q,B=.cells xs ty (some (r,q))→ro≠some r
theorem newOpen_new {h:H} {xs:List Value} {ty:TypeId}:(h.newOpen xs ty).blk h.next=some (.cells xs ty (some (h.next,0))):=by
 have hd:(h.newOpen xs ty).dyn.get h.next=some (.cells xs ty (some (h.next,0))):=T.get_set_same _ _ _
 have hc:(h.newOpen xs ty).chain h.next=[h.next]:=by simp only[H.chain,H.newOpen,T.get_set_same,Option.getD]
 unfold H.blk
 rw[hd]
 simp only[hc,List.contains_cons,beq_self_eq_true,Bool.true_or]
theorem newOpen_old {h:H} (f:Fit h) {xs:List Value} {ty:TypeId} {k:Nat} {B:Blk} (hb:h.blk k=some B):(h.newOpen xs ty).blk k=some B:=by
 have hk:=f.lt hb
 rw[← hb]
 refine blk_congr (by simp only[H.newOpen];rw[T.get_set_ne _ _ _ _ (by omega)]) (fun ys u r q hd => ?_)
 have:=f.ok.1 _ _ _ _ _ hd
 simp only[H.newOpen,H.chain]
 rw[T.get_set_ne _ _ _ _ (by omega)]
theorem newOpen_fit {h:H} (f:Fit h) {xs:List Value} {ty:TypeId}:Fit (h.newOpen xs ty):=by
 refine⟨fun k hk => ?_,(Lg.newOpen f.ok xs ty).ok f.ok⟩
 have hk:h.next+1≤k:=hk
 simp only[H.newOpen]
 rw[T.get_set_ne _ _ _ _ (by omega)]
 exact f.free k (by omega)
structure Grew (base:Nat) (ro:Option Nat) (h g:H):Prop where
 fit:Fit g
 keep:∀ k B,h.blk k=some B→rootsNot ro B→g.blk k=some B
 log:g.log=h.log
 mark:g.mark=h.mark
 next:h.next≤g.next
 chain:∀ r,r<base→g.chain r=h.chain r
theorem only_mono {p q:Nat→Bool} {h g:H} (f:Fit h) (f':Fit g) (hg:∀ k B,h.blk k=some B→(∃ xs ty r o,B=.cells xs ty (some (r,o))∧p r=true)→g.blk k=some B) (hp:∀ r,p r=true→q r=true):Grows (only p h) (only q g):=by
 intro k B hb
 obtain⟨h1,xs,ty,r,o,rfl,h2⟩:=(only_blk f).1 hb
 exact (only_blk f').2 ⟨hg _ _ h1 ⟨xs,ty,r,o,rfl,h2⟩,xs,ty,r,o,rfl,hp _ h2⟩
theorem only_sub {p q:Nat→Bool} {h:H} (f:Fit h) (hp:∀ r,p r=true→q r=true):Grows (only p h) (only q h):=only_mono f f (fun _ _ hb _=>hb) hp
theorem only_ahd {p q:Nat→Bool} {h g:H} (f:Fit h) (s:Ahd h g) (hp:∀ r,p r=true→q r=true):Grows (only p h) (only q g):=only_mono f s.fit (fun _ _ hb _=>s.grows _ _ hb) hp
theorem Ahd.setb {h g:H} (s:Ahd h g) {k:Nat} {B:Blk} (hB:B.plain=true) (hk:h.next≤k) (hg:k<g.next) (f:Fit h):Ahd h (g.setb k B):=
 ⟨s.fit.setb hB hg,fun j B' hb=>by
  have:=f.lt hb
  rw[setb_ne (by omega)];exact s.grows _ _ hb,s.log,s.mark,s.next,s.chain⟩
theorem repL_append {E:Env} {h:H}:∀ {ks:List Item} {cs:List Value} {x:Item} {l:List Value},repL E h ks cs→rep E h x (.agg ⟨l⟩)→repL E h (ks++[x]) (cs++l)
 | [],cs,x,l,h1,h2=>by
  rw[repL] at h1;subst h1
  obtain⟨k,m,tx,ks'⟩:=x
  have h3:=h2
  rw[rep] at h3
  obtain⟨s,he,_⟩:=h3
  cases he
  rw[List.nil_append,List.nil_append,repL]
  exact⟨_,_,_,_,[],rfl,h2,by rw[repL]⟩
 | y::ks,cs,x,l,h1,h2=>by
  rw[repL] at h1
  obtain⟨a,b,c,d,l',rfl,h3,h4⟩:=h1
  rw[List.cons_append,repL]
  exact⟨a,b,c,d,l'++l,rfl,h3,repL_append h4 h2⟩
theorem done_cell {D:Tab} {E:Env} {fn:Func} {A:Ac} {h:H} {t:Tmp} {ty:TypeId} {v:Value} {a:Addr} {ex:Ex} {Q:Value→H→Prop} (hex:ex=.normal∨ex=.ret) (hd:A.defers=[]) (hr:fn.results=#[.cell t ty]) (hv:A.get t=.pointer (some a)) (hl:aload D E ty a h=some v) (hq:Q v h) :
  (ex=.normal∨ex=.ret)∧∃ h2 v',takeAll A.defers h=some h2∧ares D E fn A h2=some v'∧Q v' h2:=by
 refine⟨hex,h,v,?_,?_,hq⟩
 ·rw[hd];rfl
 ·unfold ares
  rw[hr]
  simp only[aresL,ares1,hv,hl]
theorem done_q {D:Tab} {E:Env} {fn:Func} {A:Ac} {h:H} {t:Tmp} {v:Value} {ex:Ex} {Q:Value→H→Prop} (hex:ex=.normal∨ex=.ret) (hd:A.defers=[]) (hr:fn.results=#[.tmp t]) (hv:A.get t=v) (hq:Q v h) :
  (ex=.normal∨ex=.ret)∧∃ h2 v',takeAll A.defers h=some h2∧ares D E fn A h2=some v'∧Q v' h2:=by
 refine⟨hex,h,v,?_,?_,hq⟩
 ·rw[hd];rfl
 ·unfold ares
  rw[hr]
  simp only[aresL,ares1,hv]
/-! ### Calls that are reckoned -/
section
variable {P:Program} {D:Tab} {E:Env} {n0:Nat}
open Classical in
def ShownF (D:Tab) (E:Env) (I:Known) (S:Says):Prop:=
 ∀ m f args h v,S m f args h v→Fit (fresh h)→roV v=true∧∃ n h',(ev D E (upTo S I m) n).call f args (fresh h)=some (v,h')∧h'.log=[]
theorem upToF_good (T:D.Of P) (hN:NoNum P) {I:Known} (hI:KnownGood P D E n0 I) {S:Says} (hS:ShownF D E I S):∀ m,KnownGood P D E n0 (upTo S I m):=by
 have key:∀ m,KnownGood P D E n0 (upTo S I m)→∀ {f args h v φ w},S m f args h v→Tie D E n0 All φ h w→(∀ x∈args,okV φ x)→Sim P D E n0 (callFunc f (args.map (ren φ)).toArray) φ h w v h:=by
  intro m hm f args h v φ w hs R hok
  obtain⟨hro,n,h',h1,h2⟩:=hS m f args h v hs ⟨R.fresh,R.root,Nat.le_refl _⟩
  have hev:=ev_ok T hN hm n
  have hlg:=(ev_lg hm.lg n).call h1 ⟨R.root,Nat.le_refl _⟩
  obtain⟨L,l1,_,l3⟩:=hlg.log
  have hL:L=[]:=by
   rw[h2] at l1
   have:L++(fresh h).log=[]:=l1.symm
   exact (List.append_eq_nil_iff.1 this).1
  exact forget_sim R (hev.call _ _ _ _ _ h1 φ w (R.marked _ _) hok) hro (fun k hk=>l3 k hk (by rw[hL];simp))
 intro m
 induction m using Nat.strongRecOn with
 | ind m ih=>
  refine⟨fun f args h r h' hi φ w R hok => ?_,fun f args h r h' hi o => ?_,fun f args h r h' hi => ?_⟩
  ·unfold upTo at hi
   split at hi
   ·next c=>
    cases hi
    obtain⟨s,h1,h2⟩:=c.choose_spec
    exact key s (ih s h1) h2 R hok
   ·exact hI.sim _ _ _ _ _ hi φ w R hok
  ·unfold upTo at hi
   split at hi
   ·cases hi;exact Lg.refl o
   ·exact hI.lg _ _ _ _ _ hi o
  ·unfold upTo at hi
   split at hi
   ·cases hi;exact Nat.le_refl _
   ·exact hI.next _ _ _ _ _ hi
theorem saidByF_good (T:D.Of P) (hN:NoNum P) {I:Known} (hI:KnownGood P D E n0 I) {S:Says} (hS:ShownF D E I S):KnownGood P D E n0 (saidBy S I):=by
 have hm:=upToF_good T hN hI hS
 refine⟨fun f args h r h' hi φ w R hok => ?_,fun f args h r h' hi o => ?_,fun f args h r h' hi => ?_⟩
 ·unfold saidBy at hi
  split at hi
  ·next c=>
   cases hi
   obtain⟨s,h2⟩:=c.choose_spec
   obtain⟨hro,n,h',h3,h4⟩:=hS s f args h _ h2 ⟨R.fresh,R.root,Nat.le_refl _⟩
   have hev:=ev_ok T hN (hm s) n
   have hlg:=(ev_lg (hm s).lg n).call h3 ⟨R.root,Nat.le_refl _⟩
   obtain⟨L,l1,_,l3⟩:=hlg.log
   have hL:L=[]:=by
    rw[h4] at l1
    have:L++(fresh h).log=[]:=l1.symm
    exact (List.append_eq_nil_iff.1 this).1
   exact forget_sim R (hev.call _ _ _ _ _ h3 φ w (R.marked _ _) hok) hro (fun k hk=>l3 k hk (by rw[hL];simp))
  ·exact hI.sim _ _ _ _ _ hi φ w R hok
 ·unfold saidBy at hi
  split at hi
  ·cases hi;exact Lg.refl o
  ·exact hI.lg _ _ _ _ _ hi o
 ·unfold saidBy at hi
  split at hi
  ·cases hi;exact Nat.le_refl _
  ·exact hI.next _ _ _ _ _ hi
theorem Wc.opsN {I:Known} {F:Fx} {id:Nat} {l:List Oper} {A A':Ac} {h h':H} {Q:Ex→Ac→H→Prop} (n:Nat) (he:runOps D E (ev D E I n) l.toArray l A h=some (A',h')) (hq:Q .normal A' h'):Wc D E I F (.region id l.toArray false) A h Q:=by
 refine⟨n+1,.normal,A',h',?_,hq⟩
 show doCode D E (ev D E I n) F (.region id l.toArray false) A h=_
 simp only[doCode,runRegion,he];rfl
def RQ (D:Tab) (E:Env) (v:Ev) (ops:Array Oper) (l:List Oper) (A:Ac) (h:H) (Q:Ac→H→Prop):Prop:=∃ A' h',runOps D E v ops l A h=some (A',h')∧Q A' h'
theorem RQ.run {v:Ev} {ops:Array Oper} {o:Oper} {rest:List Oper} {A:Ac} {h h':H} {x:Value} {Q:Ac→H→Prop} (hw:awant ops A o=true) (ho:oper1 D E v A o h=some (x,h')) (r:RQ D E v ops rest (A.put o.dst x) h' Q):RQ D E v ops (o::rest) A h Q:=by
 obtain⟨A',h2,h3,h4⟩:=r
 exact⟨A',h2,RO.run hw ho h3,h4⟩
theorem RQ.runG {v:Ev} {ops:Array Oper} {o:Oper} {rest:List Oper} {A:Ac} {h h':H} {x:Value} {Q:Ac→H→Prop} {j:Nat} {w:Bool} {d:Tmp} (hg:o.guard=some (j,w)) (hd:(ops[j]?).bind (·.dst)=some d) (hv:A.get d=.bool w) (ho:oper1 D E v A o h=some (x,h')) (r:RQ D E v ops rest (A.put o.dst x) h' Q):RQ D E v ops (o::rest) A h Q:=by
 obtain⟨A',h2,h3,h4⟩:=r
 exact⟨A',h2,RO.runG hg hd hv ho h3,h4⟩
theorem RQ.skipG {v:Ev} {ops:Array Oper} {o:Oper} {rest:List Oper} {A:Ac} {h:H} {Q:Ac→H→Prop} {j:Nat} {w:Bool} {d:Tmp} (hg:o.guard=some (j,w)) (hd:(ops[j]?).bind (·.dst)=some d) (hv:A.get d=.bool (!w)) (r:RQ D E v ops rest (A.put o.dst undef) h Q):RQ D E v ops (o::rest) A h Q:=by
 obtain⟨A',h2,h3,h4⟩:=r
 exact⟨A',h2,RO.skipG hg hd hv h3,h4⟩
theorem RQ.nil {v:Ev} {ops:Array Oper} {A:Ac} {h:H} {Q:Ac→H→Prop} (hq:Q A h):RQ D E v ops [] A h Q:=⟨A,h,rfl,hq⟩
theorem Wc.opsQ {I:Known} {F:Fx} {id:Nat} {l:List Oper} {A:Ac} {h:H} {Q:Ex→Ac→H→Prop} (n:Nat) (r:RQ D E (ev D E I n) l.toArray l A h (Q .normal)):Wc D E I F (.region id l.toArray false) A h Q:=by
 obtain⟨A',h',h1,h2⟩:=r
 exact Wc.opsN n h1 h2
end
section
variable {D:Tab} {E:Env} {I:Known}
theorem Wr.round {l:Nat} {args:List Value} {h:H} {r:LoopR} {A:Ac} {Q:Value→H→Prop} (hb:h.blk l=some (.loop r)) (hp:setParams r.params.toList args ⟨r.tmps,r.n,[]⟩=some A)
  (w:Wc D E I ⟨r.fn,some l⟩ r.assign A h fun ex A1 h1=>ex=.normal∧∃ r1,h1.blk l=some (.loop r1)∧r1.state=.ready∧Wc D E I ⟨r.fn,some l⟩ r.body A1 (h1.turn l (.loop { r1 with state:=.busy })) fun ex A2 h2=>∃ r2,h2.blk l=some (.loop r2)∧
   (ex=.normal∧Q (.bool true) (h2.turn l (.loop { r2 with state:=.ready,pending:=none }))∨ex=.ret∧Q (.bool false) (h2.turn l (.loop { r2 with state:=.done,pending:=some .ret })))) :
  ∃ n v h',(ev D E I n).round l args h=some (v,h')∧Q v h':=by
 obtain⟨n,ex,A1,h1,c1,rfl,r1,hb1,hs1,m,ex2,A2,h2,c2,r2,hb2,q⟩:=w
 have c1':=(ev_mono I (Nat.le_max_left n m)).code c1
 have c2':=(ev_mono I (Nat.le_max_right n m)).code c2
 rcases q with⟨rfl,q⟩|⟨rfl,q⟩
 ·refine⟨max n m+1,_,_,?_,q⟩
  show doRound (ev D E I (max n m)) l args h=_
  simp only[doRound,hb,hp,c1',hb1,hs1,c2',hb2]
 ·refine⟨max n m+1,_,_,?_,q⟩
  show doRound (ev D E I (max n m)) l args h=_
  simp only[doRound,hb,hp,c1',hb1,hs1,c2',hb2]
theorem Wc.range {fn:FuncId} {f:Operand} {params:Array Tmp} {assign body:Code} {A:Ac} {h:H} {fv x:Value} {h2:H} {r:LoopR} {Q:Ex→Ac→H→Prop} (n:Nat) (hf:opv A f=some fv)
  (hc:acall (ev D E I n) fv [.func (.yield (h.next+1)) #[] #[]] ((h.new (.defd false)).new (.loop ⟨.ready,none,fn,A.tmps,A.n,params,assign,body,h.next⟩))=some (x,h2))
  (hb:h2.blk (h.next+1)=some (.loop r)) (hr:r.state≠.busy)
  (w:match r.pending with
   | none=>Q .normal { A with defers:=h.next::A.defers } (h2.turn (h.next+1) (.loop { r with state:=.exhausted }))
   | some c=>Wc D E I ⟨fn,none⟩ c { A with defers:=h.next::A.defers } (h2.turn (h.next+1) (.loop { r with state:=.exhausted })) Q) :
  Wc D E I ⟨fn,none⟩ (.rangeFunc f params assign body) A h Q:=by
 have hn:(h.new (.defd false)).next=h.next+1:=rfl
 cases hp:r.pending with
 | none=>
  rw[hp] at w
  refine⟨n+1,_,_,_,?_,w⟩
  show doCode D E (ev D E I n) ⟨fn,none⟩ (.rangeFunc f params assign body) A h=_
  simp only[doCode,hf,hn,hc,hb,hp]
 | some c=>
  rw[hp] at w
  obtain⟨m,ex,A',h',c1,q⟩:=w
  have hm:=ev_mono (D:=D) (E:=E) I (Nat.le_max_left n m)
  have c1':=(ev_mono I (Nat.le_max_right n m)).code c1
  refine⟨max n m+1,ex,A',h',?_,q⟩
  show doCode D E (ev D E I (max n m)) ⟨fn,none⟩ (.rangeFunc f params assign body) A h=_
  simp only[doCode,hf,hn,acall_mono hm hc,hb,hp]
  first
   | exact c1'
   |
    split
    ·next hs=>exact absurd hs hr
    ·exact c1'
end
structure Keep (M:Nat→Prop) (h g:H):Prop where
 blk:∀ k B,¬ M k→h.blk k=some B→g.blk k=some B
 next:h.next≤g.next
theorem Keep.refl (M:Nat→Prop) (h:H):Keep M h h:=⟨fun _ _ _ hb=>hb,Nat.le_refl _⟩
theorem Keep.trans {M:Nat→Prop} {h g f:H} (a:Keep M h g) (b:Keep M g f):Keep M h f:=⟨fun k B hk hb=>b.blk k B hk (a.blk k B hk hb),Nat.le_trans a.next b.next⟩
theorem Ahd.keep {M:Nat→Prop} {h g:H} (a:Ahd h g):Keep M h g:=⟨fun k B _ hb=>a.grows k B hb,a.next⟩
/-! ### Visits -/
section
variable {σ:Type} (step:Int→Item→σ→σ×Bool)
mutual
def visit:Int→Item→σ→σ×Bool
 | lv,.mk k n t ks,s=>if (step lv (.mk k n t ks) s).2=false then ((step lv (.mk k n t ks) s).1,false) else visitL (lv+1) ks (step lv (.mk k n t ks) s).1
def visitL:Int→List Item→σ→σ×Bool
 | _,[],s=>(s,true)
 | lv,x::xs,s=>if (visit lv x s).2=false then ((visit lv x s).1,false) else visitL lv xs (visit lv x s).1
end
variable {step:Int→Item→σ→σ×Bool}
theorem visit_false {lv k n:Int} {tx:ByteArray} {ks:List Item} {s s1:σ} (h:step lv (.mk k n tx ks) s=(s1,false)):visit step lv (.mk k n tx ks) s=(s1,false):=by rw[visit];simp only[h,if_true]
theorem visit_true {lv k n:Int} {tx:ByteArray} {ks:List Item} {s s1:σ} (h:step lv (.mk k n tx ks) s=(s1,true)):visit step lv (.mk k n tx ks) s=visitL step (lv+1) ks s1:=by
 rw[visit];simp only[h];rw[if_neg (by simp)]
theorem visitL_false {lv:Int} {x:Item} {xs:List Item} {s s1:σ} (h:visit step lv x s=(s1,false)):visitL step lv (x::xs) s=(s1,false):=by rw[visitL];simp only[h,if_true]
theorem visitL_true {lv:Int} {x:Item} {xs:List Item} {s s1:σ} (h:visit step lv x s=(s1,true)):visitL step lv (x::xs) s=visitL step lv xs s1:=by
 rw[visitL];simp only[h];rw[if_neg (by simp)]
end
def stepC:Int→Item→Int×Int→(Int×Int)×Bool
 | lv,.mk k n tx _,(c,e)=>if lv>250 then ((c,11),false) else if c=5000 then ((c,2),false) else if k<1∨k>63∨n<0∨n>1099511627776 then ((c,3),false) else if (tx.data.toList.length:Int)>4096 then ((c,11),false) else ((c+1,e),true)
def afterC (r:Int×Int):(Int×Int)×Bool:=if r.2=0 then ((r.1,0),true) else ((r.1,r.2),false)
mutual
theorem visitC:∀ (t:Item) (lv c:Int),0≤c→c≤5000→visit stepC lv t (c,0)=afterC (chkI t c lv)
 | .mk k n tx ks,lv,c,h1,h2=>by
  rw[visit,chkI]
  by_cases a:lv>250
  ·simp only[stepC,if_pos a,afterC];rfl
  ·by_cases b:c=5000
   ·simp only[stepC,if_neg a,if_pos b,if_pos (show c≥5000 by omega),afterC];rfl
   ·by_cases d:k<1∨k>63∨n<0∨n>1099511627776
    ·simp only[stepC,if_neg a,if_neg b,if_neg (show ¬ (c≥5000) by omega),if_pos d,afterC];rfl
    ·by_cases e:(tx.data.toList.length:Int)>4096
     ·simp only[stepC,if_neg a,if_neg b,if_neg (show ¬ (c≥5000) by omega),if_neg d,if_pos e,afterC];rfl
     ·simp only[stepC,if_neg a,if_neg b,if_neg (show ¬ (c≥5000) by omega),if_neg d,if_neg e]
      exact visitCL ks (lv+1) (c+1) (by omega) (by omega)
theorem visitCL:∀ (ks:List Item) (lv c:Int),0≤c→c≤5000→visitL stepC lv ks (c,0)=afterC (chkL ks c lv)
 | [],lv,c,h1,h2=>by rw[visitL,chkL];rfl
 | x::xs,lv,c,h1,h2=>by
  have hb:=chkI_bound x c lv h1 h2
  have hv:=visitC x lv c h1 h2
  rw[chkL]
  by_cases a:(chkI x c lv).2=0
  ·rw[if_neg (fun h=>h a)]
   rw[afterC,if_pos a] at hv
   rw[visitL_true hv]
   exact visitCL xs lv _ hb.1 hb.2
  ·rw[if_pos a]
   rw[afterC,if_neg a] at hv
   rw[visitL_false hv,afterC,if_neg a]
end
theorem lvlL_max:∀ (ks:List Item) (a:Int),0≤a→lvlL ks a=max a (lvlL ks 0)
 | [],a,ha=>by simp only[lvlL];omega
 | y::ys,a,ha=>by
  have hy:=lvlI_bound y
  have e0:lvlL (y::ys) 0=lvlL ys (lvlI y):=by rw[lvlL,if_pos (by omega)]
  rw[e0,lvlL,lvlL_max ys (lvlI y) (by omega)]
  by_cases q:lvlI y>a
  ·rw[if_pos q,lvlL_max ys (lvlI y) (by omega)];omega
  ·rw[if_neg q,lvlL_max ys a ha];omega
section
variable {D:Tab} {E:Env}
theorem take_one {h:H} {d:Nat} (hb:h.blk d=some (.defd false)) (hm:h.mark≤d):takeAll [d] h=some (h.setb d (.defd true)):=by
 simp only[takeAll,hb,turn_above hm]
theorem done_cellD {fn:Func} {A:Ac} {h:H} {t:Tmp} {ty:TypeId} {v:Value} {a:Addr} {d:Nat} {ex:Ex} {Q:Value→H→Prop} (hex:ex=.normal∨ex=.ret) (hd:A.defers=[d]) (hb:h.blk d=some (.defd false)) (hm:h.mark≤d) (hr:fn.results=#[.cell t ty]) (hv:A.get t=.pointer (some a)) (hl:aload D E ty a (h.setb d (.defd true))=some v) (hq:Q v (h.setb d (.defd true))) :
  (ex=.normal∨ex=.ret)∧∃ h2 v',takeAll A.defers h=some h2∧ares D E fn A h2=some v'∧Q v' h2:=by
 refine⟨hex,_,v,by rw[hd];exact take_one hb hm,?_,hq⟩
 unfold ares
 rw[hr]
 simp only[aresL,ares1,hv,hl]
end
theorem done_unit {D:Tab} {E:Env} {fn:Func} {A:Ac} {h:H} {ex:Ex} {Q:Value→H→Prop} (hex:ex=.normal∨ex=.ret) (hd:A.defers=[]) (hr:fn.results=#[]) (hq:Q (.tuple #[]) h) :
  (ex=.normal∨ex=.ret)∧∃ h2 v',takeAll A.defers h=some h2∧ares D E fn A h2=some v'∧Q v' h2:=by
 refine⟨hex,h,.tuple #[],?_,?_,hq⟩
 ·rw[hd];rfl
 ·unfold ares
  rw[hr]
  simp only[aresL]
def firstRange:Code→Option (Code×Code)
 | .seq a b=>match firstRange a with
  | some c=>some c
  | none=>firstRange b
 | .cond _ a b=>match firstRange a with
  | some c=>some c
  | none=>firstRange b
 | .block _ c=>firstRange c
 | .scope c=>firstRange c
 | .rangeFunc _ _ a b=>some (a,b)
 | _=>none
def rangeOf (f:Func):Code×Code:=match f.body with
 | some c=>(firstRange c).getD (.skip,.skip)
 | none=>(.skip,.skip)
theorem Keep.setb {M:Nat→Prop} {h g:H} (s:Keep M h g) {k:Nat} {B:Blk} (hk:M k):Keep M h (g.setb k B):=
 ⟨fun j B' hj hb=>by
  rw[setb_ne (by intro e;subst e;exact hj hk)]
  exact s.blk j B' hj hb,s.next⟩
theorem Keep.ahd {M:Nat→Prop} {h g f:H} (s:Keep M h g) (t:Ahd g f):Keep M h f:=s.trans t.keep
/-! ### Items that are not too great -/
section
variable {D:Tab} {E:Env} {v:Ev} {ops:Array Oper}
def FQ (D:Tab) (E:Env) (v:Ev) (ops:Array Oper) (j:Nat) (l:List Oper) (A:Ac) (h:H) (Q:Ac→H→List Tch→Prop):Prop:=∃ A' h' ts,runFree D E v ops j l A h=some (A',h',ts)∧Q A' h' ts
theorem FQ.nil {j:Nat} {A:Ac} {h:H} {Q:Ac→H→List Tch→Prop} (hq:Q A h []):FQ D E v ops j [] A h Q:=⟨A,h,[],rfl,hq⟩
theorem FQ.step {j:Nat} {o:Oper} {rest:List Oper} {A:Ac} {h h1:H} {x:Value} {Q:Ac→H→List Tch→Prop} (hw:awant ops A o=true) (hm:mayJoin o.op=false) (ho:oper1 D E v A o (fresh h)=some (x,h1))
  (r:FQ D E v ops (j+1) rest (A.put o.dst x) (back h h1) (fun A' h' ts=>Q A' h' (⟨reads D A o,h1.log,h.next,h1.next,rootedStore A h o.op⟩::ts))):FQ D E v ops j (o::rest) A h Q:=by
 obtain⟨A',h',ts,h2,hq⟩:=r
 refine⟨A',h',_,?_,hq⟩
 have ho':oper1 D E v A o { h with mark:=h.next,log:=[] }=some (x,h1):=ho
 simp only[runFree,hw,ho',hm,Bool.not_false,Bool.true_or]
 have h2':runFree D E v ops (j+1) rest (A.put o.dst x) ({ h1 with mark:=h.mark,log:=h.log }.note h1.log)=some (A',h',ts):=h2
 rw[h2']
theorem FQ.pure {j:Nat} {o:Oper} {rest:List Oper} {A:Ac} {h:H} {x:Value} {Q:Ac→H→List Tch→Prop} (hg:o.guard=none) (hm:mayJoin o.op=false) (ho:oper1 D E v A o (fresh h)=some (x,fresh h))
  (r:FQ D E v ops (j+1) rest (A.put o.dst x) h (fun A' h' ts=>Q A' h' (⟨reads D A o,[],h.next,h.next,rootedStore A h o.op⟩::ts))):FQ D E v ops j (o::rest) A h Q:=
 FQ.step (awant_none hg) hm ho (by rw[back_fresh];exact r)
theorem FQ.pureG {j:Nat} {o:Oper} {rest:List Oper} {A:Ac} {h:H} {x:Value} {Q:Ac→H→List Tch→Prop} {i:Nat} {w:Bool} {d:Tmp} (hg:o.guard=some (i,w)) (hd:(ops[i]?).bind (·.dst)=some d) (hv:A.get d=.bool w) (hm:mayJoin o.op=false) (ho:oper1 D E v A o (fresh h)=some (x,fresh h))
  (r:FQ D E v ops (j+1) rest (A.put o.dst x) h (fun A' h' ts=>Q A' h' (⟨reads D A o,[],h.next,h.next,rootedStore A h o.op⟩::ts))):FQ D E v ops j (o::rest) A h Q:=by
 refine FQ.step ?_ hm ho (by rw[back_fresh];exact r)
 unfold awant
 rw[hg]
 simp only[ayield_get,hd,hv]
 cases w<;>rfl
theorem FQ.new {j:Nat} {o:Oper} {rest:List Oper} {A:Ac} {h:H} {x:Value} {B:Blk} {Q:Ac→H→List Tch→Prop} (hg:o.guard=none) (hm:mayJoin o.op=false) (ho:oper1 D E v A o (fresh h)=some (x,(fresh h).new B))
  (r:FQ D E v ops (j+1) rest (A.put o.dst x) (h.new B) (fun A' h' ts=>Q A' h' (⟨reads D A o,[],h.next,h.next+1,rootedStore A h o.op⟩::ts))):FQ D E v ops j (o::rest) A h Q:=by
 refine FQ.step (awant_none hg) hm ho ?_
 have e:back h ((fresh h).new B)=h.new B:=note_nil (h.new B)
 rw[e];exact r
theorem Ahd.back {h h1:H} (f:Fit h) (a:Ahd (fresh h) h1):Ahd h (back h h1)∧(∀ k,(Hs.back h h1).blk k=h1.blk k)∧(Hs.back h h1).next=h1.next∧∀ p,Grows (only p h1) (only p (Hs.back h h1)):=by
 have hl:h1.log=[]:=a.log
 have e:Hs.back h h1={ h1 with mark:=h.mark,log:=h.log }:=by
  show ({ h1 with mark:=h.mark,log:=h.log }:H).note h1.log=_
  rw[hl];exact note_nil _
 rw[e]
 have hb:∀ k,({ h1 with mark:=h.mark,log:=h.log }:H).blk k=h1.blk k:=fun k=>rfl
 have hf:Fit ({ h1 with mark:=h.mark,log:=h.log }:H):=⟨a.fit.free,a.fit.ok.1,Nat.le_trans f.ok.2 a.next⟩
 refine⟨⟨hf,fun k B hk=>a.grows k B hk,rfl,rfl,a.next,a.chain⟩,hb,rfl,fun p=>only_mono a.fit hf (fun _ _ h _=>h) (fun _ h=>h)⟩
theorem FQ.call {j:Nat} {o:Oper} {rest:List Oper} {A:Ac} {h h1:H} {x:Value} {Q:Ac→H→List Tch→Prop} (hg:o.guard=none) (hm:mayJoin o.op=false) (ho:oper1 D E v A o (fresh h)=some (x,h1)) (hl:h1.log=[])
  (r:FQ D E v ops (j+1) rest (A.put o.dst x) (back h h1) (fun A' h' ts=>Q A' h' (⟨reads D A o,[],h.next,h1.next,rootedStore A h o.op⟩::ts))):FQ D E v ops j (o::rest) A h Q:=
 FQ.step (awant_none hg) hm ho (by rw[hl];exact r)
def calm (t:Tch):Bool:=t.writes.isEmpty && !t.rooted
def FC (D:Tab) (E:Env) (v:Ev) (ops:Array Oper) (j:Nat) (l:List Oper) (A:Ac) (h:H) (Q:Ac→H→Prop):Prop:=FQ D E v ops j l A h (fun A' h' ts=>ts.all calm=true∧Q A' h')
theorem FQ.mono {j:Nat} {l:List Oper} {A:Ac} {h:H} {Q Q':Ac→H→List Tch→Prop} (r:FQ D E v ops j l A h Q) (hq:∀ A h ts,Q A h ts→Q' A h ts):FQ D E v ops j l A h Q':=by
 obtain⟨A',h',ts,h1,h2⟩:=r
 exact⟨A',h',ts,h1,hq _ _ _ h2⟩
theorem rooted_not {A:Ac} {h:H} {op:Op} (hs:isStore op=false):rootedStore A h op=false:=by
 cases op<;>first|rfl|cases hs
theorem FC.nil {j:Nat} {A:Ac} {h:H} {Q:Ac→H→Prop} (hq:Q A h):FC D E v ops j [] A h Q:=FQ.nil ⟨rfl,hq⟩
theorem calm_cons {r:Option (List Nat)} {lo hi:Nat} {A:Ac} {h:H} {op:Op} (hs:isStore op=false) {ts:List Tch} (ht:ts.all calm=true):(⟨r,[],lo,hi,rootedStore A h op⟩::ts:List Tch).all calm=true:=by
 rw[List.all_cons,ht,rooted_not hs];rfl
theorem FC.pure {j:Nat} {o:Oper} {rest:List Oper} {A:Ac} {h:H} {x:Value} {Q:Ac→H→Prop} (hg:o.guard=none) (hm:(mayJoin o.op||isStore o.op)=false) (ho:oper1 D E v A o (fresh h)=some (x,fresh h)) (r:FC D E v ops (j+1) rest (A.put o.dst x) h Q):FC D E v ops j (o::rest) A h Q:=by
 rw[Bool.or_eq_false_iff] at hm
 exact FQ.pure hg hm.1 ho (r.mono fun _ _ _ ⟨a,b⟩=>⟨calm_cons hm.2 a,b⟩)
theorem FC.pureG {j:Nat} {o:Oper} {rest:List Oper} {A:Ac} {h:H} {x:Value} {Q:Ac→H→Prop} {i:Nat} {w:Bool} {d:Tmp} (hg:o.guard=some (i,w)) (hd:(ops[i]?).bind (·.dst)=some d) (hv:A.get d=.bool w) (hm:(mayJoin o.op||isStore o.op)=false) (ho:oper1 D E v A o (fresh h)=some (x,fresh h)) (r:FC D E v ops (j+1) rest (A.put o.dst x) h Q):FC D E v ops j (o::rest) A h Q:=by
 rw[Bool.or_eq_false_iff] at hm
 exact FQ.pureG hg hd hv hm.1 ho (r.mono fun _ _ _ ⟨a,b⟩=>⟨calm_cons hm.2 a,b⟩)
theorem FC.new {j:Nat} {o:Oper} {rest:List Oper} {A:Ac} {h:H} {x:Value} {B:Blk} {Q:Ac→H→Prop} (hg:o.guard=none) (hm:(mayJoin o.op||isStore o.op)=false) (ho:oper1 D E v A o (fresh h)=some (x,(fresh h).new B)) (r:FC D E v ops (j+1) rest (A.put o.dst x) (h.new B) Q):FC D E v ops j (o::rest) A h Q:=by
 rw[Bool.or_eq_false_iff] at hm
 exact FQ.new hg hm.1 ho (r.mono fun _ _ _ ⟨a,b⟩=>⟨calm_cons hm.2 a,b⟩)
theorem Wc.drawC {I:Known} {F:Fx} {id:Nat} {l:List Oper} {A:Ac} {h:H} {Q:Ex→Ac→H→Prop} (n:Nat) (hd:drawOk l.toArray=true) (r:FC D E (ev D E I n) l.toArray 0 l A h (Q .normal)):Wc D E I F (.region id l.toArray true) A h Q:=by
 obtain⟨A',h',ts,h1,h2,hq⟩:=r
 refine⟨n+1,.normal,A',h',?_,hq⟩
 show doCode D E (ev D E I n) F (.region id l.toArray true) A h=_
 simp only[doCode,runRegion,hd,h1,allMeet_quiet h2];rfl
theorem Wc.drawQ {I:Known} {F:Fx} {id:Nat} {l:List Oper} {A:Ac} {h:H} {Q:Ex→Ac→H→Prop} (n:Nat) (hd:drawOk l.toArray=true) (r:FQ D E (ev D E I n) l.toArray 0 l A h (fun A' h' ts=>allMeet (Region.before l.toArray) ts=true∧Q .normal A' h')):Wc D E I F (.region id l.toArray true) A h Q:=by
 obtain⟨A',h',ts,h1,h2,hq⟩:=r
 refine⟨n+1,.normal,A',h',?_,hq⟩
 show doCode D E (ev D E I n) F (.region id l.toArray true) A h=_
 simp only[doCode,runRegion,hd,h1,h2];rfl
end
/-! ### Some functions are reckoned -/
/-! ### Kids -/
def repK (E:Env) (h:H) (ks:List Item) (sl:Value):Prop:=rep E h (.mk 0 0 ⟨#[]⟩ ks) (.agg ⟨[.int .i64 0,.int .i64 0,.string ⟨#[]⟩,sl]⟩)
theorem repK_one {E:Env} {h:H} {ks ks':List Item} {sl:Value} (h1:repK E h ks sl) (h2:repK E h ks' sl):ks=ks':=by
 have:=rep_one h1 h2
 simp only[Item.mk.injEq] at this
 exact this.2.2.2
theorem repK_grow {E:Env} {h h':H} (g:Grows h h') {ks:List Item} {sl:Value} (h1:repK E h ks sl):repK E h' ks sl:=rep_grow g h1
theorem repK_slice {E:Env} {h:H} {ks:List Item} {sl:Value} (hr:repK E h ks sl):∃ b c,sl=.slice b ks.length c∧ks.length<9223372036854775808∧(ks=[]∨∃ a cs,b=some a∧h.cells E a (ks.length*4)=some cs∧repL E h ks cs):=by
 obtain⟨b,c,he,hs⟩:=rep_slice hr
 simp only[Value.agg.injEq,Array.mk.injEq,List.cons.injEq,and_true,true_and] at he
 refine⟨b,c,he,?_,?_⟩
 ·rcases hs with rfl|⟨a,cs,_,h1,_⟩
  ·decide
  ·exact h1
 ·rcases hs with h|⟨a,cs,h1,_,h2,h3⟩
  ·exact .inl h
  ·exact .inr ⟨a,cs,h1,h2,h3⟩
def chkAll:List Item→Int
 | []=>0
 | x::xs=>if (chkI x 0 1).2≠0 then (chkI x 0 1).2 else chkAll xs
def H.setl (h:H) (k:Nat) (B:Blk):H:=(h.setb k B).note [k]
theorem setl_blk (h:H) (k:Nat) (B:Blk) (j:Nat):(h.setl k B).blk j=(h.setb k B).blk j:=H.note_blk _ _ _
theorem setl_dyn (h:H) (k:Nat) (B:Blk):(h.setl k B).dyn=h.dyn.set k B:=H.note_dyn _ _
theorem setl_next (h:H) (k:Nat) (B:Blk):(h.setl k B).next=h.next:=H.note_next _ _
theorem note_mark (h:H) (ks:List Nat):(h.note ks).mark=h.mark:=by unfold H.note;split<;>rfl
theorem note_chains (h:H) (ks:List Nat):(h.note ks).chains=h.chains:=by unfold H.note;split<;>rfl
theorem setl_mark (h:H) (k:Nat) (B:Blk):(h.setl k B).mark=h.mark:=note_mark _ _
theorem setl_chain (h:H) (k:Nat) (B:Blk) (r:Nat):(h.setl k B).chain r=h.chain r:=by
 unfold H.chain
 show (((h.setb k B).note [k]).chains.get r).getD []=_
 rw[note_chains];rfl
theorem setl_same {h:H} {k:Nat} {B:Blk} (hB:B.plain=true):(h.setl k B).blk k=some B:=by rw[setl_blk];exact setb_same hB
theorem setl_ne {h:H} {k j:Nat} {B:Blk} (hk:j≠k):(h.setl k B).blk j=h.blk j:=by rw[setl_blk];exact setb_ne hk
theorem note_log {h:H} {ks:List Nat} {j:Nat} (hj:j∈(h.note ks).log):j∈h.log∨(j∈ks∧j<h.mark):=by
 unfold H.note at hj
 split at hj
 ·exact .inl hj
 ·next m hm=>
  rcases List.mem_append.1 hj with hj|hj
  ·obtain⟨h1,h2⟩:=List.mem_filter.1 hj
   rw[Nat.ble_eq] at h2
   exact .inr ⟨h1,by omega⟩
  ·exact .inl hj
theorem setl_log {h:H} {k:Nat} {B:Blk} {j:Nat} (hj:j∈(h.setl k B).log):j∈h.log∨(j=k∧j<h.mark):=by
 rcases note_log hj with h1|⟨h1,h2⟩
 ·exact .inl h1
 ·exact .inr ⟨by simpa using h1,h2⟩
theorem Fit.setl {h:H} (f:Fit h) {k:Nat} {B:Blk} (hB:B.plain=true) (hk:k<h.next):Fit (h.setl k B):=by
 have g:=f.setb hB hk
 refine⟨fun j hj => ?_,⟨fun j xs ty r p hd => ?_,?_⟩⟩
 ·rw[setl_next] at hj
  rw[setl_dyn]
  exact g.free j hj
 ·rw[setl_dyn] at hd
  rw[setl_next]
  exact g.ok.1 _ _ _ _ _ hd
 ·rw[setl_mark,setl_next];exact f.ok.2
structure Mod (M:Nat→Prop) (h g:H):Prop where
 fit:Fit g
 blk:∀ k B,¬ M k→h.blk k=some B→g.blk k=some B
 mark:g.mark=h.mark
 next:h.next≤g.next
 chain:∀ r,r<h.next→g.chain r=h.chain r
 log:∀ j,j∈g.log→j∈h.log∨(M j∧j<h.mark)
theorem Mod.refl {M:Nat→Prop} {h:H} (f:Fit h):Mod M h h:=⟨f,fun _ _ _ h=>h,rfl,Nat.le_refl _,fun _ _=>rfl,fun _ h=>.inl h⟩
theorem Mod.trans {M:Nat→Prop} {h g f:H} (s:Mod M h g) (t:Mod M g f):Mod M h f:=
 ⟨t.fit,fun k B hk hb=>t.blk k B hk (s.blk k B hk hb),t.mark.trans s.mark,Nat.le_trans s.next t.next,fun r hr=>(t.chain r (Nat.lt_of_lt_of_le hr s.next)).trans (s.chain r hr),fun j hj=>by
  rcases t.log j hj with h1|⟨h1,h2⟩
  ·exact s.log j h1
  ·exact .inr ⟨h1,by rw[← s.mark];exact h2⟩⟩
theorem Ahd.mod {M:Nat→Prop} {h g:H} (a:Ahd h g):Mod M h g:=⟨a.fit,fun k B _ hb=>a.grows k B hb,a.mark,a.next,a.chain,fun j hj=>.inl (by rw[← a.log];exact hj)⟩
theorem Mod.ahd {M:Nat→Prop} {h g f:H} (s:Mod M h g) (t:Ahd g f):Mod M h f:=s.trans t.mod
theorem Mod.sub {M N:Nat→Prop} {h g:H} (s:Mod M h g) (hMN:∀ k,M k→N k):Mod N h g:=
 ⟨s.fit,fun k B hk hb=>s.blk k B (fun hm=>hk (hMN k hm)) hb,s.mark,s.next,s.chain,fun j hj=>(s.log j hj).imp id (fun h=>⟨hMN j h.1,h.2⟩)⟩
theorem Mod.setl {M:Nat→Prop} {h g:H} (s:Mod M h g) {k:Nat} {B:Blk} (hB:B.plain=true) (hk:M k) (hg:k<g.next):Mod M h (g.setl k B):=
 ⟨s.fit.setl hB hg,fun j B' hj hb=>by
  rw[setl_ne (by intro e;subst e;exact hj hk)];exact s.blk j B' hj hb,(setl_mark _ _ _).trans s.mark,by rw[setl_next];exact s.next,fun r hr=>(setl_chain _ _ _ _).trans (s.chain r hr),fun j hj=>by
  rcases setl_log hj with h1|⟨rfl,h2⟩
  ·exact s.log j h1
  ·exact .inr ⟨hk,by rw[← s.mark];exact h2⟩⟩
theorem Mod.low {M N:Nat→Prop} {h g:H} (f:Fit h) (s:Mod N h g) (hN:∀ k,N k→M k∨h.next≤k):Mod M h g:=
 ⟨s.fit,fun k B hk hb=>s.blk k B (fun hn=>by
  rcases hN k hn with h1|h1
  ·exact hk h1
  ·have:=f.lt hb;omega) hb,s.mark,s.next,s.chain,fun j hj=>by
  rcases s.log j hj with h1|⟨h1,h2⟩
  ·exact .inl h1
  ·rcases hN j h1 with h3|h3
   ·exact .inr ⟨h3,h2⟩
   ·have:=f.ok.2;omega⟩
theorem put_setl {h:H} {k o:Nat} {vs xs:List Value} {ty:TypeId} (hb:h.blk k=some (.cells xs ty none)) (hv:vs≠[]) (hl:o+vs.length≤xs.length) (h1:vs.all isOne=true) :
  h.put (aadd (own k) o) vs=some (h.setl k (.cells (xs.take o++vs++xs.drop (o+vs.length)) ty none)):=by
 unfold H.put
 cases vs with
 | nil=>exact absurd rfl hv
 | cons v vs=>
  simp only[aadd,own,Nat.zero_add,hb]
  rw[h1,show Nat.ble (o+(v::vs).length) xs.length=true from by rw[Nat.ble_eq];exact hl]
  simp only[Bool.and_self]
  rfl
theorem put_own_setl {h:H} {k:Nat} {vs xs:List Value} {ty:TypeId} (hb:h.blk k=some (.cells xs ty none)) (hv:vs≠[]) (hl:vs.length=xs.length) (h1:vs.all isOne=true) :
  h.put (own k) vs=some (h.setl k (.cells vs ty none)):=by
 have:=put_setl (o:=0) hb hv (by omega) h1
 rw[show aadd (own k) 0=own k from rfl,List.take_zero,List.nil_append,List.drop_of_length_le (by omega),List.append_nil] at this
 exact this
theorem fresh_setl {h:H} {k:Nat} {B:Blk} (hk:k<h.next):((fresh h).setl k B).log=[k]∧back h ((fresh h).setl k B)=h.setl k B:=by
 have hd:∃ m,h.next=m+1∧k≤m:=by cases hn:h.next with|zero=>omega|succ m=>exact⟨m,rfl,by omega⟩
 obtain⟨m,hm1,hm2⟩:=hd
 have hble:Nat.ble k m=true:=by rw[Nat.ble_eq];exact hm2
 have e:(fresh h).setl k B={ h with dyn:=h.dyn.set k B,mark:=h.next,log:=[k] }:=by
  unfold H.setl H.note
  have:((fresh h).setb k B).mark=m+1:=hm1
  rw[this]
  simp only[List.filter_cons,hble,if_true,List.filter_nil]
  rw[← hm1]
  rfl
 rw[e]
 exact⟨rfl,rfl⟩
theorem Mod.back {M:Nat→Prop} {h h1:H} (f:Fit h) (a:Mod M (fresh h) h1):Mod M h (Hs.back h h1)∧(∀ k,(Hs.back h h1).blk k=h1.blk k)∧(Hs.back h h1).next=h1.next∧∀ j,j∈h1.log→M j∧j<h.next:=by
 have hb:=back_blk h h1
 have hn:=back_next h h1
 have hl:∀ j,j∈h1.log→M j∧j<h.next:=fun j hj=>by
  rcases a.log j hj with h2|h2
  ·cases h2
  ·exact h2
 refine⟨⟨⟨fun k hk => ?_,⟨fun k xs ty r p hd => ?_,?_⟩⟩,fun k B hk hB=>by rw[hb];exact a.blk k B hk hB,?_,by rw[hn];exact a.next,fun r hr => ?_,fun j hj => ?_⟩,hb,hn,hl⟩
 ·rw[hn] at hk
  rw[back_dyn];exact a.fit.free k hk
 ·rw[back_dyn] at hd
  rw[hn];exact a.fit.ok.1 _ _ _ _ _ hd
 ·unfold Hs.back
  rw[note_mark,H.note_next]
  exact Nat.le_trans f.ok.2 a.next
 ·unfold Hs.back
  rw[note_mark]
 ·unfold Hs.back H.chain
  rw[note_chains]
  exact a.chain r hr
 ·rcases note_log hj with h2|⟨h2,h3⟩
  ·exact .inl h2
  ·exact .inr ⟨(hl j h2).1,h3⟩
theorem allMeet_by {b:Array Nat} {ts:List Tch} (S:List Nat) (hc:∀ i e,ts[i]? = some e→S.contains i=false→calm e=true) (hS:∀ i j s t,i<j→(S.contains i=true∨S.contains j=true)→ts[i]? = some s→ts[j]? = some t→ordered b i j=false→meets s t=true):allMeet b ts=true:=by
 unfold allMeet
 simp only[List.all_eq_true]
 rintro⟨x,i⟩ hx ⟨y,j⟩ hy
 have hx:=List.mem_zipIdx_iff_getElem?.1 hx
 have hy:=List.mem_zipIdx_iff_getElem?.1 hy
 simp only at hx hy ⊢
 by_cases hij:i<j
 rotate_left
 ·have:Nat.blt i j=false:=by
   cases q:Nat.blt i j
   ·rfl
   ·rw[Nat.blt_eq] at q;omega
  rw[this];rfl
 cases ho:ordered b i j with
 | true=>simp
 | false=>
  by_cases h1:S.contains i=true
  ·rw[hS i j x y hij (.inl h1) hx hy ho];simp
  ·by_cases h2:S.contains j=true
   ·rw[hS i j x y hij (.inr h2) hx hy ho];simp
   ·have c1:=hc i x hx (by simpa using h1)
    have c2:=hc j y hy (by simpa using h2)
    simp only[calm,Bool.and_eq_true,Bool.not_eq_true',List.isEmpty_iff] at c1 c2
    have:meets x y=true:=by
     unfold meets
     rw[c1.1,c2.1,c1.2,c2.2]
     simp[apart?]
    rw[this,Bool.or_true]
theorem pairs_of {b:Array Nat} {S:List Nat} {n:Nat} {U:List (Nat×Nat)} (h:((List.range n).all fun i=>(List.range n).all fun j => !(Nat.blt i j) || !(S.contains i||S.contains j)||ordered b i j||U.contains (i,j))=true) {i j:Nat} (hij:i<j) (hj:j<n) (hs:S.contains i=true∨S.contains j=true) (ho:ordered b i j=false):(i,j)∈U:=by
 rw[List.all_eq_true] at h
 have h1:=h i (List.mem_range.2 (by omega))
 rw[List.all_eq_true] at h1
 have h2:=h1 j (List.mem_range.2 hj)
 have e1:Nat.blt i j=true:=by rw[Nat.blt_eq];exact hij
 have e2:(S.contains i||S.contains j)=true:=by rcases hs with h|h<;>rw[h]<;>simp
 rw[e1,e2,ho] at h2
 simpa using h2
theorem allMeet_last {b:Array Nat} {l:List Tch} {s:Tch} (hc:l.all calm=true) (h:((List.range l.length).all fun i=>ordered b i l.length)=true):allMeet b (l++[s])=true:=by
 refine allMeet_by [l.length] (fun i e hi hs => ?_) (fun i j s' t hij hs h1 h2 ho => ?_)
 ·have hil:i<l.length:=by
   have h1:=(List.getElem?_eq_some_iff.1 hi).1
   rw[List.length_append] at h1
   have h2:i≠l.length:=by
    intro e
    subst e
    simp at hs
   simp at h1
   omega
  rw[List.getElem?_append_left hil] at hi
  rw[List.all_eq_true] at hc
  exact hc e (List.mem_of_getElem? hi)
 ·have hj:j<l.length+1:=by
   have:=(List.getElem?_eq_some_iff.1 h2).1
   simpa using this
  have hjl:j=l.length:=by
   rcases hs with hs|hs
   ·have:i=l.length:=by simpa using hs
    omega
   ·simpa using hs
  subst hjl
  rw[List.all_eq_true] at h
  rw[h i (List.mem_range.2 hij)] at ho
  cases ho
theorem meets_left {s t:Tch} {l:List Nat} (ht:t.writes=[]) (hr:t.reads=some l) (hd:∀ k,k∈s.writes→k ∉ l) (hn:t.rooted=false):meets s t=true:=by
 unfold meets
 rw[ht,hr,hn]
 have h1:apart? s.writes (some l)=true:=by
  cases hw:s.writes with
  | nil=>rfl
  | cons w ws=>
   simp only[apart?,List.all_eq_true]
   intro k hk
   rw[Bool.not_eq_true',List.any_eq_false]
   intro j hj hjk
   obtain rfl:=Nat.eq_of_beq_eq_true hjk
   exact hd k (by rw[hw];exact hk) hj
 have h2:apart? s.writes (some [])=true:=by cases hw:s.writes<;>simp[apart?]
 rw[h1,h2]
 simp[apart?]
theorem meets_right {s t:Tch} {l:List Nat} (hs:s.writes=[]) (hr:s.reads=some l) (hd:∀ k,k∈t.writes→k ∉ l) (hn:s.rooted=false) (hb:∀ k,k∈t.writes→k<s.lo∨s.hi≤k):meets s t=true:=by
 unfold meets
 rw[hs,hr,hn]
 have h1:apart? t.writes (some l)=true:=by
  cases hw:t.writes with
  | nil=>rfl
  | cons w ws=>
   simp only[apart?,List.all_eq_true]
   intro k hk
   rw[Bool.not_eq_true',List.any_eq_false]
   intro j hj hjk
   obtain rfl:=Nat.eq_of_beq_eq_true hjk
   exact hd k (by rw[hw];exact hk) hj
 have h3:(t.writes.all fun k=>Nat.blt k s.lo||Nat.ble s.hi k)=true:=by
  rw[List.all_eq_true]
  intro k hk
  rcases hb k hk with h|h
  ·rw[show Nat.blt k s.lo=true from by rw[Nat.blt_eq];exact h];rfl
  ·rw[show Nat.ble s.hi k=true from by rw[Nat.ble_eq];exact h,Bool.or_true]
 rw[h1,h3]
 simp[apart?]
section
variable {D:Tab} {E:Env} {v:Ev} {ops:Array Oper}
theorem FQ.setl {j:Nat} {o:Oper} {rest:List Oper} {A:Ac} {h:H} {k:Nat} {B:Blk} {x:Value} {Q:Ac→H→List Tch→Prop} (hg:o.guard=none) (hm:mayJoin o.op=false) (hk:k<h.next) (ho:oper1 D E v A o (fresh h)=some (x,(fresh h).setl k B))
  (r:FQ D E v ops (j+1) rest (A.put o.dst x) (h.setl k B) (fun A' h' ts=>Q A' h' (⟨reads D A o,[k],h.next,h.next,rootedStore A h o.op⟩::ts))):FQ D E v ops j (o::rest) A h Q:=by
 obtain⟨e1,e2⟩:=fresh_setl (h:=h) (k:=k) (B:=B) hk
 refine FQ.step (awant_none hg) hm ho ?_
 rw[e2,e1,setl_next]
 exact r
theorem FQ.mod {j:Nat} {o:Oper} {rest:List Oper} {A:Ac} {h h1:H} {x:Value} {Q:Ac→H→List Tch→Prop} (hg:o.guard=none) (hm:mayJoin o.op=false) (ho:oper1 D E v A o (fresh h)=some (x,h1))
  (r:FQ D E v ops (j+1) rest (A.put o.dst x) (back h h1) (fun A' h' ts=>Q A' h' (⟨reads D A o,h1.log,h.next,h1.next,rootedStore A h o.op⟩::ts))):FQ D E v ops j (o::rest) A h Q:=
 FQ.step (awant_none hg) hm ho r
end
section
variable {D:Tab} {E:Env} {I:Known}
theorem Wc.state {F:Fx} {c:Code} {A:Ac} {h:H} {Q:Ex→Ac→H→Prop} (P:Ac→H→Prop) (hP:P A h) (w:∀ A' h',P A' h'→Wc D E I F c A' h' Q):Wc D E I F c A h Q:=w A h hP
end
def Ap2 (h:H) (base:Nat) (e:TypeId) (sz:Nat) (s:Value) (n:Nat) (xs:List Value) (ro:Option Nat):Prop:=
 (n=0∧xs=[]∧s=.slice none 0 0∧ro=none)∨
 ∃ k r,s=.slice (some (own k)) n n∧h.blk k=some (.cells xs e (some (r,0)))∧xs.length=n*sz∧xs.all isOne=true∧base≤r∧r<h.next∧(∀ j∈h.chain r,∃ ys ty p,h.dyn.get j=some (.cells ys ty (some (r,p)))∧p+ys.length≤n*sz)∧ro=some r
theorem ap2_step {D:Tab} {E:Env} {h:H} {base:Nat} {t t2 e:TypeId} {sz by_ n kx c i6 i7:Nat} {i8:Option Value} {i9:Bool} {s ze:Value} {xs cs:List Value} {ro:Option Nat} (f:Fit h) (hbn:base≤h.next) (ap:Ap2 h base e sz s n xs ro)
  (ht:D.ty.get t=some ⟨.slice e sz by_,i6,i7,i8,i9⟩) (hz:tzero D e=some ze) (hzz:(Nat.beq ze.cells.toList.length sz&&Nat.blt 0 sz&&ze.cells.toList.all isOne)=true) (hzt:zeroArg D t2 (.slice (some (own kx)) 1 c)=some false)
  (hx:h.cells E (own kx) sz=some cs) (hcl:cs.length=sz) (hc1:cs.all isOne=true) (hrm:roomy (n+1) by_=true) :
  ∃ s' h' ro',aappend D E t t2 s (.slice (some (own kx)) 1 c) h=some (s',h')∧Ap2 h' base e sz s' (n+1) (xs++cs) ro'∧Grew base ro h h'∧(ro=none∧ro'=some h.next∨ro≠none∧ro'=ro):=by
 have hel:aelems E sz ze.cells.toList (.slice (some (own kx)) 1 c) h=some (1,cs):=by
  simp only[aelems,Nat.one_mul,hx]
 have hbl:Nat.beq cs.length (1*sz)=true:=by rw[Nat.one_mul,hcl];exact Nat.beq_refl sz
 have hsz:0<sz:=by
  simp only[Bool.and_eq_true,Nat.blt_eq] at hzz
  exact hzz.1.2
 rcases ap with⟨rfl,rfl,rfl,rfl⟩|⟨k,r,rfl,hb,hl,h1,hbr,hrx,hch,rfl⟩
 ·refine⟨.slice (some (own h.next)) 1 1,h.newOpen cs e,some h.next,?_,.inr ⟨h.next,h.next,rfl,?_,?_,?_,hbn,Nat.lt_succ_self _,?_,rfl⟩,⟨newOpen_fit f,fun k B hb _=>newOpen_old f hb,rfl,rfl,Nat.le_succ _,fun r hr => ?_⟩,.inl ⟨rfl,rfl⟩⟩
  ·unfold aappend
   rw[ht]
   simp only[hz,hzt,hzz,hel,hbl,hrm]
  ·exact newOpen_new
  ·rw[List.nil_append];simp[hcl]
  ·rw[List.nil_append];exact hc1
  ·intro j hj
   simp only[H.chain,H.newOpen,T.get_set_same,Option.getD,List.mem_singleton] at hj
   subst hj
   exact⟨cs,e,0,T.get_set_same _ _ _,by simp[hcl]⟩
  ·simp only[H.chain,H.newOpen]
   rw[T.get_set_ne _ _ _ _ (by omega)]
 ·have hkn:=f.lt hb
  have hd:=H.blk_dyn hb
  have hrn:=f.ok.1 _ _ _ _ _ hd
  have hgr:h.grow e r (0+(own k).off) (n*sz) (own k).block (xs.drop (own k).off) cs={ h with next:=h.next+1,dyn:=h.dyn.set h.next (.cells (xs++cs) e (some (r,0))),chains:=h.chains.set r (h.next::h.spare r k (0+n*sz) (0+n*sz+cs.length)) }:=by
   unfold H.grow
   simp only[own,Nat.add_zero,List.drop_zero]
   have hgone:h.gone r k (0+n*sz) (0+n*sz+cs.length)=[]:=by
    rw[List.eq_nil_iff_forall_not_mem]
    intro j hj
    obtain⟨hj1,hj2⟩:=mem_gone.1 hj
    obtain⟨ys,ty,p,hd,hle⟩:=hch j hj1
    unfold H.hits at hj2
    split at hj2
    ·cases hj2
    ·rw[hd] at hj2
     simp only[Bool.and_eq_true,Nat.blt_eq] at hj2
     omega
   rw[hgone]
   exact note_nil _
  generalize hg:({ h with next:=h.next+1,dyn:=h.dyn.set h.next (.cells (xs++cs) e (some (r,0))),chains:=h.chains.set r (h.next::h.spare r k (0+n*sz) (0+n*sz+cs.length)) }:H)=g at hgr
  have hcr:g.chain r=h.next::h.spare r k (0+n*sz) (0+n*sz+cs.length):=by
   rw[← hg];simp only[H.chain,T.get_set_same,Option.getD]
  have hcn:∀ r',r'≠r→g.chain r'=h.chain r':=by
   intro r' hr'
   rw[← hg];simp only[H.chain];rw[T.get_set_ne _ _ _ _ hr']
  have hgn:g.next=h.next+1:=by rw[← hg]
  have hnew:g.blk h.next=some (.cells (xs++cs) e (some (r,0))):=by
   have hdd:g.dyn.get h.next=some (.cells (xs++cs) e (some (r,0))):=by rw[← hg];exact T.get_set_same _ _ _
   unfold H.blk
   rw[hdd]
   simp only[hcr,List.contains_cons,beq_self_eq_true,Bool.true_or]
  have hold:∀ j,j≠h.next→g.dyn.get j=h.dyn.get j:=by
   intro j hj
   rw[← hg];exact T.get_set_ne _ _ _ _ hj
  refine⟨.slice (some (own h.next)) (n+1) (n+1),g,some r,?_,.inr ⟨h.next,r,rfl,hnew,?_,?_,hbr,by rw[hgn];omega,?_,rfl⟩,⟨⟨fun j hj => ?_,fun j ys ty r' p hd' => ?_,?_⟩,?_,?_,?_,?_,?_⟩,.inr ⟨by simp,rfl⟩⟩
  ·unfold aappend
   rw[ht]
   simp only[hz,hzt,hzz,hel,hbl,hrm]
   have e1:(own k).spot=some 0:=rfl
   have e2:(own k).block=k:=rfl
   have e3:(own k).off=0:=rfl
   have e4:Nat.ble (n+1) n=false:=by
    cases hq:Nat.ble (n+1) n
    ·rfl
    ·rw[Nat.ble_eq] at hq;omega
   simp only[e1,e2,hb,e4]
   have e5:(Nat.beq n n&&Nat.beq ((own k).off+n*sz) xs.length&&Nat.beq e e&&(xs.drop (own k).off).all isOne&&Nat.ble (own k).off xs.length)=true:=by
    rw[e3,Nat.zero_add,hl,List.drop_zero,h1,Nat.beq_refl,Nat.beq_refl,Nat.beq_refl]
    simp[Nat.ble]
   simp only[e5]
   rw[← hgr];rfl
  ·rw[List.length_append,hl,hcl];rw[Nat.add_mul,Nat.one_mul]
  ·rw[List.all_append,h1,hc1];rfl
  ·intro j hj
   rw[hcr] at hj
   rcases List.mem_cons.1 hj with rfl|hj
   ·exact⟨xs++cs,e,0,H.blk_dyn hnew,by rw[List.length_append,hl,hcl,Nat.add_mul,Nat.one_mul];omega⟩
   ·obtain⟨ys,ty,p,hd,hle⟩:=hch j (mem_spare.1 hj).1
    have hjn:j≠h.next:=by
     intro e
     subst e
     rw[f.free _ (Nat.le_refl _)] at hd;cases hd
    refine⟨ys,ty,p,by rw[hold j hjn];exact hd,?_⟩
    rw[Nat.add_mul];omega
  ·rw[hgn] at hj
   rw[hold j (by omega)];exact f.free j (by omega)
  ·rw[hgn]
   by_cases hj:j=h.next
   ·subst hj
    have:=H.blk_dyn hnew
    rw[this] at hd'; cases hd'; omega
   ·rw[hold j hj] at hd'
    have:=f.ok.1 _ _ _ _ _ hd'; omega
  ·rw[hgn]
   have:=f.ok.2
   rw[← hg];exact Nat.le_succ_of_le this
  ·intro j B hbj hro
   have hjn:=f.lt hbj
   rw[← hbj]
   refine blk_congr (hold j (by omega)) (fun ys u r' q hd' => ?_)
   have:B=.cells ys u (some (r',q)):=by
    have:=H.blk_dyn hbj
    rw[hd'] at this;cases this;rfl
   have hne:=hro _ _ _ _ this
   rw[hcn r' (fun h=>hne (by rw[h]))]
  ·rw[← hg]
  ·rw[← hg]
  ·rw[hgn];omega
  ·intro r' hr'
   exact hcn r' (by omega)
theorem Ap2.mod {M:Nat→Prop} {h g:H} {base:Nat} {e:TypeId} {sz:Nat} {s:Value} {n:Nat} {xs:List Value} {ro:Option Nat} (a:Ap2 h base e sz s n xs ro) (m:Mod M h g) (hp:∀ k B,M k→h.blk k=some B→B.plain=true):Ap2 g base e sz s n xs ro:=by
 rcases a with a|⟨k,r,e1,e2,e3,e4,e5,e6,e7,e8⟩
 ·exact .inl a
 ·have keep:∀ j ys ty p,h.blk j=some (.cells ys ty (some (r,p)))→g.blk j=some (.cells ys ty (some (r,p))):=fun j ys ty p hb=>m.blk _ _ (fun hM=>by
   have:=hp _ _ hM hb
   cases this) hb
  refine .inr ⟨k,r,e1,keep _ _ _ _ e2,e3,e4,e5,Nat.lt_of_lt_of_le e6 m.next,fun j hj => ?_,e8⟩
  rw[m.chain r e6] at hj
  obtain⟨ys,ty,p,hd,hle⟩:=e7 j hj
  have hb:h.blk j=some (.cells ys ty (some (r,p))):=by
   unfold H.blk
   rw[hd]
   simp only
   rw[show (h.chain r).contains j=true from by simpa using hj]
  exact⟨ys,ty,p,H.blk_dyn (keep _ _ _ _ hb),hle⟩
theorem only_mod {M:Nat→Prop} {p q:Nat→Bool} {h g:H} (f:Fit h) (m:Mod M h g) (hM:∀ k B,M k→h.blk k=some B→B.plain=true) (hp:∀ r,p r=true→q r=true):Grows (only p h) (only q g):=
 only_mono f m.fit (fun k B hb ⟨xs,ty,r,o,hB,_⟩=>m.blk k B (fun hk=>by
  have:=hM k B hk hb
  subst hB;cases this) hb) hp
def loops:Code→List Code
 | .seq a b=>loops a++loops b
 | .cond _ a b=>loops a++loops b
 | .block _ c=>loops c
 | .scope c=>loops c
 | .loop c=>c::loops c
 | .rangeFunc _ _ a b=>loops a++loops b
 | _=>[]
def loopAt (f:Func) (n:Nat):Code:=match f.body with
 | some c=>(loops c).getD n .skip
 | none=>.skip
mutual
def goodI:Item→Prop
 | .mk k n tx ks=>1≤k∧k≤63∧0≤n∧n≤1099511627776∧tx.data.toList.length≤4096∧goodL ks
def goodL:List Item→Prop
 | []=>True
 | x::xs=>goodI x∧goodL xs
end
theorem goodL_append:∀ {xs:List Item} {y:Item},goodL xs→goodI y→goodL (xs++[y])
 | [],y,_,hy=>by rw[List.nil_append,goodL,goodL];exact⟨hy,trivial⟩
 | x::xs,y,h,hy=>by
  rw[goodL] at h
  rw[List.cons_append,goodL]
  exact⟨h.1,goodL_append h.2 hy⟩
theorem iszL_append:∀ (xs:List Item) (y:Item),iszL (xs++[y])=iszL xs+isz y
 | [],y=>by simp[iszL]
 | x::xs,y=>by rw[List.cons_append,iszL,iszL_append xs y,iszL];omega
mutual
theorem chkI_good:∀ (t:Item) (b l:Int),goodI t→0≤b→b+isz t≤5000→l-1+lvlI t≤250→(chkI t b l).2=0
 | .mk k n tx ks,b,l,hg,h0,h1,h2=>by
  rw[goodI] at hg
  obtain⟨g1,g2,g3,g4,g5,g6⟩:=hg
  rw[isz] at h1
  rw[lvlI] at h2
  have hb:=lvlL_bound ks 0 (Int.le_refl _)
  rw[chkI,if_neg (by omega),if_neg (by push_cast at h1;omega),if_neg (by omega),if_neg (by omega)]
  exact chkL_good ks (b+1) (l+1) g6 (by omega) (by push_cast at h1;omega) (by omega)
theorem chkL_good:∀ (ks:List Item) (b l:Int),goodL ks→0≤b→b+iszL ks≤5000→l-1+lvlL ks 0≤250→(chkL ks b l).2=0
 | [],b,l,_,_,_,_=>by rw[chkL]
 | x::xs,b,l,hg,h0,h1,h2=>by
  rw[goodL] at hg
  rw[iszL] at h1
  push_cast at h1
  have hx:=lvlI_bound x
  rw[lvlL,if_pos (by omega)] at h2
  have hm:=lvlL_max xs (lvlI x) (by omega)
  have e:=chkI_good x b l hg.1 h0 (by omega) (by omega)
  have es:=chkI_size x b l e
  rw[chkL,if_neg (by rw[e];simp),es]
  exact chkL_good xs (b+isz x) l hg.2 (by omega) (by omega) (by omega)
end
theorem lvlL_append (xs:List Item) (y:Item):lvlL (xs++[y]) 0=max (lvlL xs 0) (lvlI y):=by
 have key:∀ (xs:List Item) (m:Int),lvlL (xs++[y]) m=(if lvlI y>lvlL xs m then lvlI y else lvlL xs m):=by
  intro xs
  induction xs with
  | nil=>intro m;simp only[List.nil_append,lvlL];rfl
  | cons x xs ih=>intro m;rw[List.cons_append,lvlL,ih,lvlL]
 rw[key]
 split<;>omega
theorem back_chain (h g:H) (r:Nat):(back h g).chain r=g.chain r:=by
 unfold back H.chain
 rw[note_chains]
theorem back_fit {h q:H} (f:Fit h) (fq:Fit q) (hn:h.next≤q.next):Fit (back h q):=by
 refine⟨fun k hk => ?_,⟨fun k xs ty r p hd => ?_,?_⟩⟩
 ·rw[back_next] at hk
  rw[back_dyn];exact fq.free k hk
 ·rw[back_dyn] at hd
  rw[back_next];exact fq.ok.1 _ _ _ _ _ hd
 ·unfold back
  rw[note_mark,H.note_next]
  exact Nat.le_trans f.ok.2 hn
theorem back_only {h q:H} (f:Fit h) (fq:Fit q) (hn:h.next≤q.next) (p:Nat→Bool):Grows (only p q) (only p (back h q)):=
 only_mono fq (back_fit f fq hn) (fun k B hb _=>by rw[back_blk];exact hb) (fun _ h=>h)
theorem Ap2.back {h q:H} {base:Nat} {e:TypeId} {sz:Nat} {s:Value} {n:Nat} {xs:List Value} {ro:Option Nat} (a:Ap2 q base e sz s n xs ro):Ap2 (Hs.back h q) base e sz s n xs ro:=by
 rcases a with a|⟨k,r,e1,e2,e3,e4,e5,e6,e7,e8⟩
 ·exact .inl a
 ·exact .inr ⟨k,r,e1,by rw[back_blk];exact e2,e3,e4,e5,by rw[back_next];exact e6,fun j hj=>by
   rw[back_chain] at hj
   obtain⟨ys,ty,p,h1,h2⟩:=e7 j hj
   exact⟨ys,ty,p,by rw[back_dyn];exact h1,h2⟩,e8⟩
theorem back_mark (h q:H):(back h q).mark=h.mark:=by unfold back;rw[note_mark]
theorem back_log {h q:H} (hl:q.log=[]):(back h q).log=h.log:=by
 unfold back
 rw[hl]
 show (H.note _ []).log=_
 rw[note_nil]
theorem isz_pos (t:Item):1≤isz t:=by obtain⟨_,_,_,ks⟩:=t;rw[isz];omega
theorem len_iszL:∀ l:List Item,l.length≤iszL l
 | []=>by simp[iszL]
 | x::l=>by rw[iszL,List.length_cons];have:=isz_pos x;have:=len_iszL l;omega
theorem Ahd.newOpen {h:H} (f:Fit h) (xs:List Value) (ty:TypeId):Ahd h (h.newOpen xs ty):=
 ⟨newOpen_fit f,fun k B hb=>newOpen_old f hb,rfl,rfl,Nat.le_succ _,fun r hr=>by
  simp only[H.chain,H.newOpen]
  rw[T.get_set_ne _ _ _ _ (by omega)]⟩
structure Cln (h h':H) (e:TypeId) (n:Nat) (cs:List Value) (s:Value):Prop where
 ahd:Ahd h h'
 get:∃ k rt,s=.slice (some (own k)) n n∧h'.blk k=some (.cells cs e rt)∧h.next≤k∧(rt=none∧n=0∨rt=some (k,0)∧h'.chain k=[k])
theorem clone_step {D:Tab} {E:Env} {h:H} {t e:TypeId} {sz by_ n c i6 i7:Nat} {i8:Option Value} {i9:Bool} {ze:Value} {cs:List Value} {a:Addr} (f:Fit h)
  (ht:D.ty.get t=some ⟨.slice e sz by_,i6,i7,i8,i9⟩) (hz:tzero D e=some ze) (hzz:(Nat.beq ze.cells.toList.length sz&&Nat.blt 0 sz&&ze.cells.toList.all isOne)=true)
  (hx:h.cells E a (n*sz)=some cs) (hcl:cs.length=n*sz) (hrm:roomy n by_=true) :
  ∃ s h',aappend D E t t (.slice (some (own h.next)) 0 0) (.slice (some a) n c) (h.new (.cells [] e none))=some (s,h')∧Cln h h' e n cs s:=by
 have a1:Ahd h (h.new (.cells [] e none)):=Ahd.new0 f rfl
 have b1:(h.new (.cells [] e none)).blk h.next=some (.cells [] e none):=new_blk_new rfl
 have hx1:(h.new (.cells [] e none)).cells E a (n*sz)=some cs:=cells_grow a1.grows hx
 generalize h.new (.cells [] e none)=h1 at a1 b1 hx1 ⊢
 have hel:aelems E sz ze.cells.toList (.slice (some a) n c) h1=some (n,cs):=by simp only[aelems,hx1]
 have hbl:Nat.beq cs.length (n*sz)=true:=by rw[hcl];exact Nat.beq_refl _
 have hzt:zeroArg D t (.slice (some a) n c)=some false:=by unfold zeroArg;rw[ht]
 cases n with
 | zero=>
  refine⟨.slice (some (own h.next)) 0 0,h1,?_,a1,h.next,none,rfl,?_,Nat.le_refl _,.inl ⟨rfl,rfl⟩⟩
  ·unfold aappend
   rw[ht]
   simp only[hz,hzt,hzz,hel,hbl,Nat.ble_self_eq_true]
  ·rw[b1]
   have:cs=[]:=List.length_eq_zero_iff.1 (by rw[hcl,Nat.zero_mul])
   rw[this]
 | succ n=>
  refine⟨.slice (some (own h1.next)) (n+1) (n+1),h1.newOpen cs e,?_,a1.trans (Ahd.newOpen a1.fit _ _),h1.next,some (h1.next,0),rfl,newOpen_new,a1.next,.inr ⟨rfl,by simp only[H.chain,H.newOpen,T.get_set_same,Option.getD]⟩⟩
  unfold aappend
  rw[ht]
  have hb':h1.blk (own h.next).block=some (.cells [] e none):=b1
  have hr':roomy (0+(n+1)) by_=true:=by rw[Nat.zero_add];exact hrm
  have hle:Nat.ble (0+(n+1)) 0=false:=by
   cases q:Nat.ble (0+(n+1)) 0
   ·rfl
   ·rw[Nat.ble_eq] at q;omega
  have hsp:(own h.next).spot=some 0:=rfl
  simp only[hz,hzt,hzz,hel,hbl,hr',hb',hle,hsp,H.cells,Nat.zero_mul,List.nil_append]
  simp only[Nat.zero_add]
theorem aslice_start {D:Tab} {t e:TypeId} {sz by_ n c m i6 i7:Nat} {i8:Option Value} {i9:Bool} {a:Addr} {h:H} (ht:D.ty.get t=some ⟨.slice e sz by_,i6,i7,i8,i9⟩) (hmn:m≤n) (hnc:n≤c) (hs:a.spot≠some 0) :
  ∃ c',m≤c'∧aslice D t (.slice (some a) n c) none (some (.int .i64 (m:Nat))) none h=some (.slice (some a) m c',h):=by
 have h1:Nat.ble n c=true:=by rw[Nat.ble_eq];exact hnc
 have h2:abound (some (.int .i64 (m:Nat))) c n=some m:=by
  have:inRange ((m:Nat):Int) (c+1)=true:=by
   show Nat.blt m (c+1)=true
   rw[Nat.blt_eq];omega
  simp only[abound,this,Int.toNat_natCast]
 unfold aslice
 rw[ht]
 have h3:abound none m 0=some 0:=rfl
 simp only[h1,asliceS,h2,h3,Nat.zero_mul,Nat.sub_zero]
 obtain⟨b,o,sp⟩:=a
 have ha:aadd ⟨b,o,sp⟩ 0=⟨b,o,sp⟩:=by
  match sp with
  | none=>rfl
  | some 0=>rfl
  | some (_+1)=>rfl
 cases hc:Nat.beq c 0 with
 | false=>exact⟨c,by omega,by simp only[ha]⟩
 | true=>
  have:=Nat.eq_of_beq_eq_true hc
  obtain rfl:m=0:=by omega
  match sp,hs with
  | none,_=>exact⟨0,Nat.le_refl _,rfl⟩
  | some (_+1),_=>exact⟨0,Nat.le_refl _,rfl⟩
  | some 0,hs=>exact absurd rfl hs
theorem aadd_zero (a:Addr):aadd a 0=a:=by
 obtain⟨b,o,sp⟩:=a
 match sp with
 | none=>rfl
 | some 0=>rfl
 | some (_+1)=>rfl
theorem Mod.toAhd {h g:H} (m:Mod (fun _=>False) h g) (hl:h.log=[]):Ahd h g:=
 ⟨m.fit,fun k B hb=>m.blk k B (fun h=>h) hb,by
  rw[hl]
  refine List.eq_nil_iff_forall_not_mem.2 fun j hj => ?_
  rcases m.log j hj with h1|⟨h1,_⟩
  ·rw[hl] at h1;cases h1
  ·exact h1,m.mark,m.next,m.chain⟩
def ChainOk (b:Nat) (e:TypeId) (h:H) (r:Nat) (P:Nat→Nat→Prop):Prop:=∀ j∈h.chain r,b≤j∧∃ ys,h.dyn.get j=some (.cells ys e (some (r,0)))∧P j ys.length
theorem ChainOk.mono {b:Nat} {e:TypeId} {h:H} {r:Nat} {P Q:Nat→Nat→Prop} (c:ChainOk b e h r P) (hP:∀ j l,P j l→Q j l):ChainOk b e h r Q:=fun j hj=>by
 obtain⟨h1,ys,h2,h3⟩:=c j hj
 exact⟨h1,ys,h2,hP _ _ h3⟩
theorem chain_blk {h:H} {j r:Nat} {ys:List Value} {e:TypeId} {p:Nat} (hj:j∈h.chain r) (hd:h.dyn.get j=some (.cells ys e (some (r,p)))):h.blk j=some (.cells ys e (some (r,p))):=by
 unfold H.blk
 rw[hd]
 simp only[show (h.chain r).contains j=true from by simpa using hj]
theorem Ahd.chainOk {b:Nat} {e:TypeId} {h g:H} {r:Nat} {P:Nat→Nat→Prop} (a:Ahd h g) (hr:r<h.next) (hP:ChainOk b e h r P):ChainOk b e g r P:=fun j hj=>by
 rw[a.chain r hr] at hj
 obtain⟨q1,ys,q2,q3⟩:=hP j hj
 exact⟨q1,ys,H.blk_dyn (a.grows _ _ (chain_blk hj q2)),q3⟩
theorem put_root {g:H} {k o:Nat} {vs xs:List Value} {e:TypeId} (f:Fit g) (hb:g.blk k=some (.cells xs e (some (k,0)))) (hc:g.chain k=[k]) (hv:vs≠[]) (hl:o+vs.length≤xs.length) (h1:vs.all isOne=true) :
  ∃ q,(fresh g).put (aadd (own k) o) vs=some q∧q.log=[k]∧q.next=g.next∧Fit (back g q)∧(back g q).blk k=some (.cells (xs.take o++vs++xs.drop (o+vs.length)) e (some (k,0)))∧(∀ j,j≠k→(back g q).blk j=g.blk j)∧(∀ r,(back g q).chain r=g.chain r)∧(g.mark≤k→(back g q).log=g.log):=by
 have hkn:=f.lt hb
 have hsp:g.spare k k (0+o) (0+o+vs.length)=[k]:=by
  unfold H.spare
  rw[hc]
  have:g.hits k (0+o) (0+o+vs.length) k=false:=by
   unfold H.hits
   rw[Nat.beq_refl]
  simp only[List.filter_cons,this,Bool.not_false,if_true,List.filter_nil]
 have hgn:g.gone k k (0+o) (0+o+vs.length)=[]:=by
  unfold H.gone
  rw[hc]
  have:g.hits k (0+o) (0+o+vs.length) k=false:=by
   unfold H.hits
   rw[Nat.beq_refl]
  simp only[List.filter_cons,this,List.filter_nil]
  rfl
 have hput:(fresh g).put (aadd (own k) o) vs=some (({ fresh g with dyn:=g.dyn.set k (.cells (xs.take o++vs++xs.drop (o+vs.length)) e (some (k,0))),chains:=g.chains.set k [k] }:H).note [k]):=by
  have hb':(fresh g).blk k=some (.cells xs e (some (k,0))):=hb
  have hsp':(fresh g).spare k k (0+o) (0+o+vs.length)=[k]:=hsp
  have hgn':(fresh g).gone k k (0+o) (0+o+vs.length)=[]:=hgn
  unfold H.put
  cases vs with
  | nil=>exact absurd rfl hv
  | cons v vs=>
   simp only[aadd,own,Nat.zero_add,hb'] at hsp' hgn' ⊢
   rw[h1,show Nat.ble (o+(v::vs).length) xs.length=true from by rw[Nat.ble_eq];exact hl]
   simp only[Bool.and_self,hsp',hgn']
   rfl
 obtain⟨m,hm1,hm2⟩:∃ m,g.next=m+1∧k≤m:=by cases hn:g.next with|zero=>omega|succ m=>exact⟨m,rfl,by omega⟩
 have hble:Nat.ble k m=true:=by rw[Nat.ble_eq];exact hm2
 generalize hB:(Blk.cells (xs.take o++vs++xs.drop (o+vs.length)) e (some (k,0)))=B at hput
 have hq:(({ fresh g with dyn:=g.dyn.set k B,chains:=g.chains.set k [k] }:H).note [k])={ g with dyn:=g.dyn.set k B,chains:=g.chains.set k [k],mark:=g.next,log:=[k] }:=by
  unfold H.note
  have:({ fresh g with dyn:=g.dyn.set k B,chains:=g.chains.set k [k] }:H).mark=m+1:=hm1
  rw[this]
  simp only[List.filter_cons,hble,if_true,List.filter_nil]
  rw[← hm1]
  rfl
 rw[hq] at hput
 generalize hqq:({ g with dyn:=g.dyn.set k B,chains:=g.chains.set k [k],mark:=g.next,log:=[k] }:H)=q at hput
 have hqn:q.next=g.next:=by rw[← hqq]
 have hql:q.log=[k]:=by rw[← hqq]
 have hqd:q.dyn=g.dyn.set k B:=by rw[← hqq]
 have hqc:∀ r,q.chain r=g.chain r:=by
  intro r
  rw[← hqq]
  simp only[H.chain,T.get_set]
  split
  ·next h=>subst h;simpa [H.chain,Option.getD] using hc.symm
  ·rfl
 have hfq:Fit q:=by
  refine⟨fun j hj => ?_,⟨fun j ys ty r p hd => ?_,?_⟩⟩
  ·rw[hqn] at hj
   rw[hqd,T.get_set_ne _ _ _ _ (by omega)];exact f.free j hj
  ·rw[hqn]
   rw[hqd] at hd
   by_cases hj:j=k
   ·subst hj
    rw[T.get_set_same,← hB] at hd
    cases hd;exact hkn
   ·rw[T.get_set_ne _ _ _ _ hj] at hd
    exact f.ok.1 _ _ _ _ _ hd
  ·rw[← hqq];exact Nat.le_refl _
 refine⟨q,hput,hql,hqn,back_fit f hfq (by rw[hqn];exact Nat.le_refl _),?_,fun j hj => ?_,fun r=>by rw[back_chain];exact hqc r,fun hm => ?_⟩
 ·rw[back_blk]
  have hdd:q.dyn.get k=some B:=by rw[hqd];exact T.get_set_same _ _ _
  unfold H.blk
  rw[hdd,← hB]
  simp only[hqc,hc,List.contains_cons,beq_self_eq_true,Bool.true_or]
 ·rw[back_blk]
  refine blk_congr (by rw[hqd,T.get_set_ne _ _ _ _ hj]) (fun _ _ r _ _=>by rw[hqc])
 ·unfold back
  rw[note_above]
  intro j hj
  rw[hql] at hj
  obtain rfl:=List.mem_singleton.1 hj
  exact hm
theorem Sx:(∀ (A:Ac) (d:Option Tmp) (v:Value),(A.put d v).n=A.n)∧(∀ (A:Ac) (d:Option Tmp) (v:Value),(A.put d v).defers=A.defers)∧
  (∀ (α:Type) (l:List α),[]++l=l)∧(∀ (α:Type) (l:List α),l++[]=l)∧(∀ (α:Type) (l:List α),l.toArray.toList=l)∧(∀ (α:Type) (a:α) (l:List α),(a::l)[0]? = some a)∧(∀ (α:Type) (a:α) (l:List α) (i:Nat),(a::l)[i+1]? = l[i]?)∧(!true)=false∧(!false)=true∧(∀ (α:Type) (h:Decidable True) (a b:α),@ite α True h a b=a)∧(∀ (α:Type) (h:Decidable False) (a b:α),@ite α False h a b=b)∧(∀ p:Prop,(p∧True)=p)∧(∀ h:Decidable True,@decide True h=true)∧(∀ h:Decidable False,@decide False h=false):=
 ⟨fun _ _ _=>Ac.put_n ..,fun _ _ _=>Ac.put_defers ..,fun _ _=>List.nil_append _,fun _ _=>List.append_nil _,fun _ _=>rfl,fun _ _ _=>rfl,fun _ _ _ _=>rfl,rfl,rfl,fun _ _ _ _=>if_true _ _,fun _ _ _ _=>if_false _ _,fun _=>and_true _,fun _=>decide_true _,fun _=>decide_false _⟩
theorem Ox:type_of% (And.intro @awant.eq_1 (And.intro @oper1.eq_1 (And.intro @aop.eq_1 (And.intro @aop.eq_2 (And.intro @aop.eq_3 (And.intro @aop.eq_4 (And.intro @aop.eq_5 (And.intro @aop.eq_6 (And.intro @aop.eq_7 (And.intro @aop.eq_8 (And.intro @aop.eq_9 (And.intro @aop.eq_10 (And.intro @aop.eq_11 (And.intro @aop.eq_12 (And.intro @aop.eq_13 (And.intro @aop.eq_14 (And.intro @aop.eq_15 (And.intro @aop.eq_16 (And.intro @aop.eq_17 (And.intro @aop.eq_18 (And.intro @aop.eq_19 (And.intro @aop.eq_20 (And.intro @aop.eq_21 (And.intro @aop.eq_22 (And.intro @aop.eq_23 (And.intro @aop.eq_24 (And.intro @aop.eq_25 (And.intro @aop.eq_26 (And.intro @aop.eq_27 (And.intro @aop.eq_28 (And.intro @aop.eq_29 (And.intro @aop.eq_30 (And.intro @opv.eq_1 (And.intro @opv.eq_2 (And.intro @opv.eq_3 (And.intro @opv.eq_4 (And.intro @opvs.eq_1 (And.intro @opvs.eq_2 (And.intro @opvo.eq_1 (And.intro @opvo.eq_2 (And.intro @opvp.eq_1 (And.intro @opvp.eq_2 (And.intro @abuiltin.eq_1 (And.intro @abuiltin.eq_2 (And.intro @abuiltin.eq_3 (And.intro @abuiltin.eq_4 (And.intro @abuiltin.eq_5 (And.intro @abuiltin.eq_6 (And.intro @abuiltin.eq_7 (And.intro @abuiltin.eq_8 (And.intro @abuiltin.eq_9 (And.intro @abuiltin.eq_10 (And.intro @abuiltin.eq_11 (And.intro @aun.eq_1 (And.intro @aun.eq_2 (And.intro @aun.eq_3 (And.intro @aun.eq_4 (And.intro @abin.eq_1 (And.intro @abin.eq_2 (And.intro @abin.eq_3 (And.intro @abin.eq_4 (And.intro @abin.eq_5 (And.intro @abin.eq_6 (And.intro @abin.eq_7 (And.intro @abin.eq_8 (And.intro @abin.eq_9 (And.intro @isShift.eq_1 (And.intro @isShift.eq_2 (And.intro @isShift.eq_3 (And.intro @roV.eq_1 (And.intro @roV.eq_2 (And.intro @roV.eq_3 (And.intro @roV.eq_4 (And.intro @roV.eq_5 (And.intro @roV.eq_6 (And.intro @roV.eq_7 (And.intro @roV.eq_8 (And.intro @roV.eq_9 (And.intro @roV.eq_10 (And.intro @roV.eq_11 (And.intro @roV.eq_12 (And.intro @roV.eq_13 (And.intro @roV.eq_14 (And.intro @roV.eq_15 (And.intro @roV.eq_16 (And.intro @roV.eq_17 (And.intro @roV.eq_18 (And.intro @pair.eq_1 (And.intro @pair.eq_2 (And.intro @acall.eq_1 (And.intro @acall.eq_2 (And.intro @acall.eq_3 (@ayield_get))))))))))))))))))))))))))))))))))))))))))))))))))))))))))))))))))))))))))))))))))))))))))))):=And.intro @awant.eq_1 (And.intro @oper1.eq_1 (And.intro @aop.eq_1 (And.intro @aop.eq_2 (And.intro @aop.eq_3 (And.intro @aop.eq_4 (And.intro @aop.eq_5 (And.intro @aop.eq_6 (And.intro @aop.eq_7 (And.intro @aop.eq_8 (And.intro @aop.eq_9 (And.intro @aop.eq_10 (And.intro @aop.eq_11 (And.intro @aop.eq_12 (And.intro @aop.eq_13 (And.intro @aop.eq_14 (And.intro @aop.eq_15 (And.intro @aop.eq_16 (And.intro @aop.eq_17 (And.intro @aop.eq_18 (And.intro @aop.eq_19 (And.intro @aop.eq_20 (And.intro @aop.eq_21 (And.intro @aop.eq_22 (And.intro @aop.eq_23 (And.intro @aop.eq_24 (And.intro @aop.eq_25 (And.intro @aop.eq_26 (And.intro @aop.eq_27 (And.intro @aop.eq_28 (And.intro @aop.eq_29 (And.intro @aop.eq_30 (And.intro @opv.eq_1 (And.intro @opv.eq_2 (And.intro @opv.eq_3 (And.intro @opv.eq_4 (And.intro @opvs.eq_1 (And.intro @opvs.eq_2 (And.intro @opvo.eq_1 (And.intro @opvo.eq_2 (And.intro @opvp.eq_1 (And.intro @opvp.eq_2 (And.intro @abuiltin.eq_1 (And.intro @abuiltin.eq_2 (And.intro @abuiltin.eq_3 (And.intro @abuiltin.eq_4 (And.intro @abuiltin.eq_5 (And.intro @abuiltin.eq_6 (And.intro @abuiltin.eq_7 (And.intro @abuiltin.eq_8 (And.intro @abuiltin.eq_9 (And.intro @abuiltin.eq_10 (And.intro @abuiltin.eq_11 (And.intro @aun.eq_1 (And.intro @aun.eq_2 (And.intro @aun.eq_3 (And.intro @aun.eq_4 (And.intro @abin.eq_1 (And.intro @abin.eq_2 (And.intro @abin.eq_3 (And.intro @abin.eq_4 (And.intro @abin.eq_5 (And.intro @abin.eq_6 (And.intro @abin.eq_7 (And.intro @abin.eq_8 (And.intro @abin.eq_9 (And.intro @isShift.eq_1 (And.intro @isShift.eq_2 (And.intro @isShift.eq_3 (And.intro @roV.eq_1 (And.intro @roV.eq_2 (And.intro @roV.eq_3 (And.intro @roV.eq_4 (And.intro @roV.eq_5 (And.intro @roV.eq_6 (And.intro @roV.eq_7 (And.intro @roV.eq_8 (And.intro @roV.eq_9 (And.intro @roV.eq_10 (And.intro @roV.eq_11 (And.intro @roV.eq_12 (And.intro @roV.eq_13 (And.intro @roV.eq_14 (And.intro @roV.eq_15 (And.intro @roV.eq_16 (And.intro @roV.eq_17 (And.intro @roV.eq_18 (And.intro @pair.eq_1 (And.intro @pair.eq_2 (And.intro @acall.eq_1 (And.intro @acall.eq_2 (And.intro @acall.eq_3 (@ayield_get))))))))))))))))))))))))))))))))))))))))))))))))))))))))))))))))))))))))))))))))))))))))))))
section
variable {D:Tab} {E:Env}
theorem Rn:type_of% (@RO.nil):=@RO.nil
theorem Rr {v:Ev} {ops:Array Oper} {o:Oper} {rest:List Oper} {A:Ac} {h h':H} {x:Value} {res:Option (Ac×H)} (hg:o.guard=none) (ho:oper1 D E v A o h=some (x,h')) (r:runOps D E v ops rest (A.put o.dst x) h'=res):runOps D E v ops (o::rest) A h=res:=RO.run (awant_none hg) ho r
def mkNew:Op→Bool
 | .alloc _|.box _ _|.buildSlice _ _ _|.makeMap _ _|.makeSlice _ _ _|.range _ _=>true
 | _=>false
theorem Fp {v:Ev} {ops:Array Oper} {j:Nat} {o:Oper} {rest:List Oper} {A:Ac} {h:H} {x:Value} {Q:Ac→H→Prop} (hg:o.guard=none) (hm:(mayJoin o.op||isStore o.op)=false) (_:mkNew o.op=false) (ho:oper1 D E v A o (fresh h)=some (x,fresh h)) (r:FC D E v ops (j+1) rest (A.put o.dst x) h Q):FC D E v ops j (o::rest) A h Q:=FC.pure hg hm ho r
theorem Qp {v:Ev} {ops:Array Oper} {j:Nat} {o:Oper} {rest:List Oper} {A:Ac} {h:H} {x:Value} {Q:Ac→H→List Tch→Prop} (hg:o.guard=none) (hm:mayJoin o.op=false) (_:mkNew o.op=false) (ho:oper1 D E v A o (fresh h)=some (x,fresh h))
  (r:FQ D E v ops (j+1) rest (A.put o.dst x) h (fun A' h' ts=>Q A' h' (⟨reads D A o,[],h.next,h.next,rootedStore A h o.op⟩::ts))):FQ D E v ops j (o::rest) A h Q:=FQ.pure hg hm ho r
end
section
variable {D:Tab} {E:Env}
theorem aadd_own (k i j:Nat):aadd (aadd (own k) i) j=aadd (own k) (i+j):=by
 show (⟨k,0+i+j,some 0⟩:Addr)=⟨k,0+(i+j),some 0⟩
 rw[Nat.add_assoc]
theorem one_of {v:Value} (h:isOne v=true):one? (some v)=some v:=by simp only[one?,h]
theorem cell_blk {g:H} {k:Nat} {xs:List Value} {ty:TypeId} {rt:Option (Nat×Nat)} (hb:g.blk k=some (.cells xs ty rt)) (i:Nat):g.cell E (aadd (own k) i)=one? xs[i]? := by
 simp only[H.cell,aadd,own,hb,Nat.zero_add]
theorem cell_blk0 {g:H} {k:Nat} {xs:List Value} {ty:TypeId} {rt:Option (Nat×Nat)} (hb:g.blk k=some (.cells xs ty rt)):g.cell E (own k)=one? xs[0]? := by
 simp only[H.cell,own,hb]
theorem Hx:(∀ (E:Env) (h:H) (a:Addr),(fresh h).cell E a=h.cell E a)∧(∀ (E:Env) (h:H) (a:Addr) (n:Nat),(fresh h).cells E a n=h.cells E a n)∧(∀ h:H,(fresh h).next=h.next)∧(∀ k i j:Nat,aadd (aadd (own k) i) j=aadd (own k) (i+j))∧(∀ k:Nat,aadd (own k) 0=own k)∧
  (∀ (k:IntKind) (n:Int),one? (some (.int k n))=some (.int k n))∧(∀ s:ByteArray,one? (some (.string s))=some (.string s))∧(∀ (b:Option Addr) (n c:Nat),one? (some (.slice b n c))=some (.slice b n c))∧(∀ b:Option Addr,one? (some (.pointer b))=some (.pointer b))∧(∀ (f:Fn) (a b:Array Value),one? (some (.func f a b))=some (.func f a b))∧(∀ b:Bool,one? (some (.bool b))=some (.bool b)):=
 ⟨fun _ _ _=>rfl,fun _ _ _ _=>rfl,fun _=>rfl,aadd_own,fun _=>rfl,fun _ _=>rfl,fun _=>rfl,fun _ _ _=>rfl,fun _=>rfl,fun _ _ _=>rfl,fun _=>rfl⟩
theorem Gx:(∀ (A:Ac) (d t:Tmp) (v:Value),d≠t→(A.put (some d) v).get t=A.get t)∧(∀ (A:Ac) (d:Tmp) (v:Value),d<A.n→(A.put (some d) v).get d=v)∧(∀ (A:Ac) (v:Value) (t:Tmp),(A.put none v).get t=A.get t):=
 ⟨fun A d t v h=>by rw[Ac.get_put];simp[h],fun A d v h=>by rw[Ac.get_put];simp[h],fun A v t=>by rw[Ac.get_put]⟩
theorem astore_one {t:TypeId} {i:TI} (ht:D.ty.get t=some i) (hs:i.size=1) {g:H} {k o:Nat} {xs ys:List Value} {ty:TypeId} {v:Value} (hb:g.blk k=some (.cells xs ty none)) (hv:v.cells.toList=[v]) (h1:isOne v=true) (hl:o<xs.length) (hy:xs.take o++[v]++xs.drop (o+1)=ys):astore D t (aadd (own k) o) v g=some (g.setl k (.cells ys ty none)):=by
 unfold astore
 simp only[ht,hs,hv]
 rw[← hy]
 exact put_setl hb (by simp) (by simp only[List.length_singleton];omega) (by simp[h1])
theorem astore_all {t:TypeId} {i:TI} (ht:D.ty.get t=some i) {g:H} {k:Nat} {xs ys:List Value} {ty:TypeId} (hb:g.blk k=some (.cells xs ty none)) (hs:i.size=ys.length) (hl:ys.length=xs.length) (h1:ys.all isOne=true) (hn:ys≠[]):astore D t (own k) (.agg ⟨ys⟩) g=some (g.setl k (.cells ys ty none)):=by
 unfold astore
 have e:Nat.beq (Value.agg ⟨ys⟩).cells.toList.length i.size=true:=by
  rw[hs];exact Nat.beq_refl _
 simp only[ht,e]
 exact put_own_setl hb hn hl h1
theorem setl_above {h:H} {k:Nat} {B:Blk} (hm:h.mark≤k):h.setl k B=h.setb k B:=
 note_above (h:=h.setb k B) (fun j hj=>by simp at hj;subst hj;exact hm)
theorem Ahd.setl {h g:H} (s:Ahd h g) {k:Nat} {B:Blk} (hB:B.plain=true) (hk:h.next≤k) (hg:k<g.next) (f:Fit h):Ahd h (g.setl k B):=by
 rw[setl_above (by rw[s.mark];exact Nat.le_trans f.ok.2 hk)]
 exact s.setb hB hk hg f
end
theorem Ob:(∀ (α β:Type) (x:Option α) (f:α→Option β),(x >>= f)=x.bind f)∧(∀ (α β:Type) (f:α→Option β),Option.bind none f=none)∧(∀ (α β:Type) (a:α) (f:α→Option β),Option.bind (some a) f=f a):=⟨fun _ _ _ _=>rfl,fun _ _ _=>rfl,fun _ _ _ _=>rfl⟩
theorem Gs:type_of% (And.intro Gx (Sx)):=And.intro Gx (Sx)
theorem Gz:type_of% (And.intro @Ac.get_put (Sx)):=And.intro @Ac.get_put (Sx)
theorem Oi:type_of% (And.intro @aint.eq_1 (And.intro @aint.eq_2 (And.intro @aint.eq_3 (And.intro @aint.eq_4 (And.intro @aint.eq_5 (And.intro @aint.eq_6 (And.intro @aint.eq_7 (And.intro @aint.eq_8 (And.intro @aint.eq_9 (And.intro @aint.eq_10 (And.intro @aint.eq_11 (And.intro @aint.eq_12 (And.intro @aint.eq_13 (And.intro @aint.eq_14 (And.intro @aint.eq_15 (And.intro @aint.eq_16 (And.intro @aint.eq_17 (@aint.eq_18)))))))))))))))))):=And.intro @aint.eq_1 (And.intro @aint.eq_2 (And.intro @aint.eq_3 (And.intro @aint.eq_4 (And.intro @aint.eq_5 (And.intro @aint.eq_6 (And.intro @aint.eq_7 (And.intro @aint.eq_8 (And.intro @aint.eq_9 (And.intro @aint.eq_10 (And.intro @aint.eq_11 (And.intro @aint.eq_12 (And.intro @aint.eq_13 (And.intro @aint.eq_14 (And.intro @aint.eq_15 (And.intro @aint.eq_16 (And.intro @aint.eq_17 (@aint.eq_18)))))))))))))))))
theorem Ot:type_of% (And.intro Ox (And.intro Ob (Gs))):=And.intro Ox (And.intro Ob (Gs))
theorem Oy:type_of% (And.intro Oi (Ot)):=And.intro Oi (Ot)
theorem Ou:type_of% (And.intro Ox (And.intro Ob (Gz))):=And.intro Ox (And.intro Ob (Gz))
theorem Oz:type_of% (And.intro Oi (Ou)):=And.intro Oi (Ou)
theorem Cx:type_of% (And.intro @opv.eq_1 (And.intro @opv.eq_2 (And.intro @opv.eq_3 (And.intro @opv.eq_4 (Gs))))):=And.intro @opv.eq_1 (And.intro @opv.eq_2 (And.intro @opv.eq_3 (And.intro @opv.eq_4 (Gs))))
theorem Cz:type_of% (And.intro @opv.eq_1 (And.intro @opv.eq_2 (And.intro @opv.eq_3 (And.intro @opv.eq_4 (Gz))))):=And.intro @opv.eq_1 (And.intro @opv.eq_2 (And.intro @opv.eq_3 (And.intro @opv.eq_4 (Gz))))
section
variable {D:Tab} {E:Env} {I:Known}
theorem Ws:type_of% (@Wc.seq):=@Wc.seq
theorem Wp:type_of% (@Wc.ops):=@Wc.ops
theorem Wn:type_of% (@Wc.opsN):=@Wc.opsN
theorem W2:type_of% (@Wc.cond2):=@Wc.cond2
theorem W3:type_of% (@Wc.skip):=@Wc.skip
theorem W4:type_of% (@Wc.ret):=@Wc.ret
theorem W5:type_of% (@Wc.exit):=@Wc.exit
theorem W6:type_of% (@Wc.block):=@Wc.block
theorem Rg:type_of% (@RO.runG):=@RO.runG
theorem Rs:type_of% (@RO.skipG):=@RO.skipG
theorem Wk {f:FuncId} {fn:Func} {body:Code} {args:List Value} {h:H} {Q:Value→H→Prop} (hI:I f args h=none) (hf:D.fn.get f=some fn) (hb:fn.body=some body)
  (w:∀ A0:Ac,A0.n=max args.length fn.ntmps→A0.defers=[]→(∀ i v,args[i]? = some v→A0.get i=v)→Wc D E I ⟨f,none⟩ body A0 h fun ex A h=>(ex=.normal∨ex=.ret)∧∃ h2 v,takeAll A.defers h=some h2∧ares D E fn A h2=some v∧Q v h2) :
  ∃ n v h',(ev D E I n).call f args h=some (v,h')∧Q v h':=by
 refine Wc.call hI hf hb (w _ rfl rfl (fun i v hv => ?_))
 show ((T.ofList args 0 .nil).get i).getD undef=v
 have:=(List.getElem?_eq_some_iff.1 hv).1
 rw[T.get_ofList,if_pos ⟨Nat.zero_le _,by omega⟩,Nat.sub_zero,hv]
 rfl
end
inductive Rd (α:Type) where
 | ok (v:α) (pos items:Nat)
 | bad (pos:Nat) (e:Int)
def rdNum (bs:List UInt8) (least most frm items:Nat):Nat→Nat→Nat→Nat→Rd Nat
 | 0,_,_,_=>.bad frm 3
 | k+1,i,pos,n=>match bs[pos]? with
  | none=>.bad pos 4
  | some c=>
   if 128≤c.toNat then rdNum bs least most frm items k (i+1) (pos+1) (n+c.toNat % 128*128 ^ i)
   else if c.toNat=0∧0<i then .bad frm 4
   else if most<n+c.toNat % 128*128 ^ i then .bad frm 3
   else if n+c.toNat % 128*128 ^ i<least then .bad frm 4
   else .ok (n+c.toNat % 128*128 ^ i) (pos+1) items
def rdN (bs:List UInt8) (least most pos items:Nat):Rd Nat:=rdNum bs least most pos items 6 0 pos 0
def rdText (bs:List UInt8) (pos items:Nat):Rd ByteArray:=
 match rdN bs 1 4096 pos items with
 | .bad p e=>.bad p e
 | .ok n p items=>if bs.length-p<n then .bad bs.length 4 else .ok ⟨⟨(bs.drop p).take n⟩⟩ (p+n) items
def rdKids (rec:Nat→Nat→Rd Item):Nat→List Item→Nat→Nat→Rd (List Item)
 | 0,acc,pos,items=>.ok acc pos items
 | n+1,acc,pos,items=>match rec pos items with
  | .bad p e=>.bad p e
  | .ok t p items=>rdKids rec n (acc++[t]) p items
def rdKidsN (bs:List UInt8) (rec:Nat→Nat→Rd Item) (pos items:Nat):Rd (List Item):=
 match rdN bs 1 5000 pos items with
 | .bad p e=>.bad p e
 | .ok n p items=>rdKids rec n [] p items
def rdItem (bs:List UInt8):Nat→Nat→Nat→Rd Item
 | 0,pos,_=>match bs[pos]? with
  | none=>.bad pos 4
  | some _=>.bad pos 11
 | f+1,pos,items=>match bs[pos]? with
  | none=>.bad pos 4
  | some hd=>
   if 5000≤items then .bad pos 2
   else if hd.toNat % 64=0 then .bad pos 4
   else match rdN bs 0 1099511627776 (pos+1) (items+1) with
    | .bad p e=>.bad p e
    | .ok n p items=>match (if hd.toNat / 64 % 2=1 then rdText bs p items else .ok ⟨⟨[]⟩⟩ p items) with
     | .bad p e=>.bad p e
     | .ok tx p items=>match (if 128≤hd.toNat then rdKidsN bs (rdItem bs f) p items else .ok [] p items) with
      | .bad p e=>.bad p e
      | .ok ks p items=>.ok (.mk (hd.toNat % 64:Nat) (n:Nat) tx ks) p items
def decR (bs:List UInt8):Rd Item:=
 if 65536<bs.length then .bad 0 11
 else match rdItem bs 250 0 0 with
  | .bad p e=>.bad p e
  | .ok t p items=>if p<bs.length then .bad p 4 else .ok t p items
/-! ### What is so of what is read -/
theorem rdNum_ok {bs:List UInt8} {least most frm items:Nat}:∀ (k i pos n v p it:Nat),rdNum bs least most frm items k i pos n=.ok v p it→pos<p∧p≤bs.length∧v≤most∧least≤v∧it=items∧p≤pos+k
 | 0,_,_,_,_,_,_,h=>by cases h
 | k+1,i,pos,n,v,p,it,h=>by
  rw[rdNum] at h
  split at h
  ·cases h
  ·next c hc=>
   have hlt:pos<bs.length:=(List.getElem?_eq_some_iff.1 hc).1
   split at h
   ·obtain⟨h1,h2,h3,h4,h5,h6⟩:=rdNum_ok _ _ _ _ _ _ _ h
    exact⟨by omega,h2,h3,h4,h5,by omega⟩
   ·split at h
    ·cases h
    ·split at h
     ·cases h
     ·split at h
      ·cases h
      ·cases h
       exact⟨by omega,by omega,by omega,by omega,rfl,by omega⟩
theorem rdNum_bad {bs:List UInt8} {least most frm items:Nat}:∀ (k i pos n p:Nat) (e:Int),rdNum bs least most frm items k i pos n=.bad p e→pos≤bs.length→frm≤bs.length→(e=3∨e=4)∧p≤bs.length
 | 0,_,_,_,_,_,h,_,hf=>by cases h;exact⟨.inl rfl,hf⟩
 | k+1,i,pos,n,p,e,h,hp,hf=>by
  rw[rdNum] at h
  split at h
  ·cases h;exact⟨.inr rfl,hp⟩
  ·next c hc=>
   have hlt:pos<bs.length:=(List.getElem?_eq_some_iff.1 hc).1
   split at h
   ·exact rdNum_bad _ _ _ _ _ _ h (by omega) hf
   ·split at h
    ·cases h;exact⟨.inr rfl,hf⟩
    ·split at h
     ·cases h;exact⟨.inl rfl,hf⟩
     ·split at h
      ·cases h;exact⟨.inr rfl,hf⟩
      ·cases h
theorem rdN_ok {bs:List UInt8} {least most pos items v p it:Nat} (h:rdN bs least most pos items=.ok v p it):pos<p∧p≤bs.length∧v≤most∧least≤v∧it=items:=by
 obtain⟨h1,h2,h3,h4,h5,_⟩:=rdNum_ok _ _ _ _ _ _ _ h
 exact⟨h1,h2,h3,h4,h5⟩
theorem rdN_bad {bs:List UInt8} {least most pos items p:Nat} {e:Int} (h:rdN bs least most pos items=.bad p e) (hp:pos≤bs.length):(e=3∨e=4)∧p≤bs.length:=rdNum_bad _ _ _ _ _ _ h hp hp
theorem rdText_ok {bs:List UInt8} {pos items p it:Nat} {v:ByteArray} (h:rdText bs pos items=.ok v p it):pos<p∧p≤bs.length∧v.data.toList.length≤4096∧1≤v.data.toList.length∧it=items:=by
 rw[rdText] at h
 split at h
 ·cases h
 ·next n q it' hn=>
  obtain⟨h1,h2,h3,h4,h5⟩:=rdN_ok hn
  split at h
  ·cases h
  ·next hl=>
   cases h
   have hb:((bs.drop q).take n).length=n:=by
    rw[List.length_take,List.length_drop];omega
   refine⟨by omega,by omega,?_,?_,h5⟩
   ·show ((bs.drop q).take n).length≤4096
    omega
   ·show 1≤((bs.drop q).take n).length
    omega
theorem rdText_bad {bs:List UInt8} {pos items p:Nat} {e:Int} (h:rdText bs pos items=.bad p e) (hp:pos≤bs.length):(e=3∨e=4)∧p≤bs.length:=by
 rw[rdText] at h
 split at h
 ·next hn=>cases h;exact rdN_bad hn hp
 ·split at h
  ·cases h;exact⟨.inr rfl,Nat.le_refl _⟩
  ·cases h
def RdOk (bs:List UInt8) (f:Nat) (rec:Nat→Nat→Rd Item):Prop:=
 (∀ pos items t p it,rec pos items=.ok t p it→pos<p∧p≤bs.length∧it=items+isz t∧it≤5000∧lvlI t≤f∧goodI t)∧
 (∀ pos items p e,rec pos items=.bad p e→pos≤bs.length→(e=2∨e=3∨e=4∨e=11)∧p≤bs.length)
theorem rdKids_ok {bs:List UInt8} {f:Nat} {rec:Nat→Nat→Rd Item} (R:RdOk bs f rec):∀ (n:Nat) (acc:List Item) (pos items:Nat) (ks:List Item) (p it:Nat),rdKids rec n acc pos items=.ok ks p it→pos≤bs.length→items≤5000→goodL acc→lvlL acc 0≤f→
  pos≤p∧p≤bs.length∧it+iszL acc=items+iszL ks∧it≤5000∧lvlL ks 0≤f∧goodL ks∧ks.length=acc.length+n
 | 0,acc,pos,items,ks,p,it,h,hp,hi,hg,hl=>by
  rw[rdKids] at h
  cases h
  exact⟨Nat.le_refl _,hp,rfl,hi,hl,hg,rfl⟩
 | n+1,acc,pos,items,ks,p,it,h,hp,hi,hg,hl=>by
  rw[rdKids] at h
  split at h
  ·cases h
  ·next t q it' ht=>
   obtain⟨h1,h2,h3,h4,h5,h6⟩:=R.1 _ _ _ _ _ ht
   obtain⟨g1,g2,g3,g4,g5,g6,g7⟩:=rdKids_ok R n _ _ _ _ _ _ h h2 h4 (goodL_append hg h6) (by rw[lvlL_append];omega)
   rw[iszL_append] at g3
   rw[List.length_append,List.length_singleton] at g7
   exact⟨by omega,g2,by omega,g4,g5,g6,by omega⟩
theorem rdKids_bad {bs:List UInt8} {f:Nat} {rec:Nat→Nat→Rd Item} (R:RdOk bs f rec):∀ (n:Nat) (acc:List Item) (pos items:Nat) (p:Nat) (e:Int),rdKids rec n acc pos items=.bad p e→pos≤bs.length→(e=2∨e=3∨e=4∨e=11)∧p≤bs.length
 | 0,acc,pos,items,p,e,h,hp=>by cases h
 | n+1,acc,pos,items,p,e,h,hp=>by
  rw[rdKids] at h
  split at h
  ·next hb=>cases h;exact R.2 _ _ _ _ hb hp
  ·next t q it' ht=>
   exact rdKids_bad R n _ _ _ _ _ h (R.1 _ _ _ _ _ ht).2.1
theorem rdItem_ok (bs:List UInt8):∀ f,RdOk bs f (rdItem bs f)
 | 0=>by
  refine⟨fun pos items t p it h => ?_,fun pos items p e h hp => ?_⟩
  ·rw[rdItem] at h
   split at h<;>cases h
  ·rw[rdItem] at h
   split at h
   ·cases h;exact⟨by simp,hp⟩
   ·cases h;exact⟨by simp,hp⟩
 | f+1=>by
  have R:=rdItem_ok bs f
  refine⟨fun pos items t p it h => ?_,fun pos items p e h hp => ?_⟩
  ·rw[rdItem] at h
   split at h
   ·cases h
   ·next hd hhd=>
    split at h
    ·cases h
    ·next hit=>
     split at h
     ·cases h
     ·next hk=>
      split at h
      ·cases h
      ·next n p1 i1 hn=>
       obtain⟨a1,a2,a3,_,a5⟩:=rdN_ok hn
       split at h
       ·cases h
       ·next tx p2 i2 ht=>
        have ht':p1≤p2∧p2≤bs.length∧tx.data.toList.length≤4096∧i2=i1:=by
         split at ht
         ·obtain⟨b1,b2,b3,b4,b5⟩:=rdText_ok ht
          exact⟨by omega,b2,b3,b5⟩
         ·cases ht
          exact⟨Nat.le_refl _,a2,Nat.zero_le _,rfl⟩
        obtain⟨b1,b2,b3,b4⟩:=ht'
        split at h
        ·cases h
        ·next ks p3 i3 hks=>
         have hks':p2≤p3∧p3≤bs.length∧i3=i2+iszL ks∧i3≤5000∧lvlL ks 0≤f∧goodL ks:=by
          split at hks
          ·rw[rdKidsN] at hks
           split at hks
           ·cases hks
           ·next m q i' hm=>
            obtain⟨c1,c2,c3,c4,c5⟩:=rdN_ok hm
            obtain⟨d1,d2,d3,d4,d5,d6,d7⟩:=rdKids_ok R _ _ _ _ _ _ _ hks c2 (by omega) (by rw[goodL];trivial) (by rw[lvlL];omega)
            rw[iszL] at d3
            exact⟨by omega,d2,by omega,d4,d5,d6⟩
          ·cases hks
           exact⟨Nat.le_refl _,b2,by rw[iszL];omega,by omega,by rw[lvlL];omega,by rw[goodL];trivial⟩
         obtain⟨c1,c2,c3,c4,c5,c6⟩:=hks'
         cases h
         refine⟨by omega,c2,by rw[isz];omega,c4,by rw[lvlI];omega,?_⟩
         rw[goodI]
         refine⟨by omega,by omega,by omega,by omega,b3,c6⟩
  ·rw[rdItem] at h
   split at h
   ·cases h;exact⟨by simp,hp⟩
   ·next hd hhd=>
    have hlt:pos<bs.length:=(List.getElem?_eq_some_iff.1 hhd).1
    split at h
    ·cases h;exact⟨by simp,hp⟩
    ·split at h
     ·cases h;exact⟨by simp,hp⟩
     ·split at h
      ·next hn=>
       cases h
       have:=rdN_bad hn (by omega)
       exact⟨by rcases this.1 with h|h<;>simp[h],this.2⟩
      ·next n p1 i1 hn=>
       obtain⟨a1,a2,a3,_,a5⟩:=rdN_ok hn
       split at h
       ·next ht=>
        cases h
        split at ht
        ·have:=rdText_bad ht a2
         exact⟨by rcases this.1 with h|h<;>simp[h],this.2⟩
        ·cases ht
       ·next tx p2 i2 ht=>
        have b2:p2≤bs.length:=by
         split at ht
         ·exact (rdText_ok ht).2.1
         ·cases ht;exact a2
        split at h
        ·next hks=>
         cases h
         split at hks
         ·rw[rdKidsN] at hks
          split at hks
          ·next hm=>
           cases hks
           have:=rdN_bad hm b2
           exact⟨by rcases this.1 with h|h<;>simp[h],this.2⟩
          ·next m q i' hm=>exact rdKids_bad R _ _ _ _ _ _ hks (rdN_ok hm).2.1
         ·cases hks
        ·cases h
theorem decR_ok {bs:List UInt8} {t:Item} {p it:Nat} (h:decR bs=.ok t p it):lvlI t≤250∧isz t≤5000∧goodI t:=by
 unfold decR at h
 split at h
 ·cases h
 ·split at h
  ·cases h
  ·next ht=>
   split at h
   ·cases h
   ·cases h
    obtain⟨_,_,h3,h4,h5,h6⟩:=(rdItem_ok bs 250).1 _ _ _ _ _ ht
    exact⟨h5,by omega,h6⟩
end Go.Hs
