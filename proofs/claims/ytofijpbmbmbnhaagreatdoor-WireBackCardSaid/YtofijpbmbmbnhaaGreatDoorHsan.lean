/- Which item comes first, as the program tells it. -/
import Derived.Test.YtofijpbmbmbnhaaGreatDoorHsam
set_option linter.unusedSimpArgs false
set_option linter.unusedVariables false
set_option maxRecDepth 100000
set_option maxHeartbeats 4000000
namespace Go.Proofs.YtofijpbmbmbnhaaGreatDoor
open Go Go.Hs Go.Proofs
variable {E:Env} {I:Aa}
theorem AGS:tab.fn.get 52=some Tryz.f52:=by kernel_rfl
theorem AGA:tab.fn.get 83=some Tryz.f83:=by kernel_rfl
theorem ACD (a b c d:Int) {h:H}:AH tab 25 4 [(0,.int .i64 a),(1,.int .i64 b),(2,.int .i64 c),(3,.int .i64 d)] h=some (.slice (some (own h.next)) 4 4,h.new (.cells [.int .i64 a,.int .i64 b,.int .i64 c,.int .i64 d] 3 none)):=by
 unfold AH;simp only[Xy,tz3];rfl
def DC (E:Env):Lb:=fun s f args h v=>
 (f=52/\∃ t xv u yv,args=[xv,yv]/\rep E h t xv/\rep E h u yv/\isz t<=1000000/\s=2*isz t+1/\v=.int .i64 (HD t u))\/
 (f=83/\∃ ks sl ks' sl',args=[sl,sl',.func (.func 52) ⟨[]⟩ ⟨[]⟩]/\PS E h ks sl/\PS E h ks' sl'/\iszL ks<=1000000/\s=2*iszL ks+2/\v=.int .i64 (ordL ks ks'))
theorem ABk (E:Env):One (DC E):=by
 rintro s s' f args h v v' (⟨rfl,t,xv,u,yv,rfl,h1,h2,_,_,rfl⟩|⟨rfl,ks,sl,ks',sl',rfl,h1,h2,_,_,rfl⟩) (⟨e,t1,xv1,u1,yv1,he,h3,h4,_,_,rfl⟩|⟨e,ks1,sl1,ks1',sl1',he,h3,h4,_,_,rfl⟩)
 ·cases he;rw[Cj h1 h3,Cj h2 h4]
 ·exact absurd e (by decide)
 ·exact absurd e (by decide)
 ·cases he;rw[Hl h1 h3,Hl h2 h4]
theorem ABH {E:Env} {s s':Nat} {f:FuncId} {args:List Value} {h:H} {v v':Value} (h1:DC E s f args h v) (h2:DC E s' f args h v'):s=s':=by
 rcases h1 with⟨rfl,t,xv,u,yv,rfl,h1,_,_,rfl,_⟩|⟨rfl,ks,sl,ks',sl',rfl,h1,_,_,rfl,_⟩<;>
  rcases h2 with⟨e,t1,xv1,u1,yv1,he,h3,_,_,rfl,_⟩|⟨e,ks1,sl1,ks1',sl1',he,h3,_,_,rfl,_⟩
 ·cases he;rw[Cj h1 h3]
 ·exact absurd e (by decide)
 ·exact absurd e (by decide)
 ·cases he;rw[Hl h1 h3]
theorem Ng {E:Env} {s:Nat} {f:FuncId} {args:List Value} {h:H} {v:Value} (h1:DC E s f args (fresh h) v):DC E s f args h v:=by
 have g:BL (fresh h) h:=fun _ _ hb=>hb;rcases h1 with⟨e,t,xv,u,yv,ea,r1,r2,q⟩|⟨e,ks,sl,ks',sl',ea,r1,r2,q⟩
 ·exact .inl ⟨e,t,xv,u,yv,ea,AJ g r1,AJ g r2,q⟩
 ·exact .inr ⟨e,ks,sl,ks',sl',ea,Et g r1,Et g r2,q⟩
noncomputable def Ir:Code:=loopOf Tryz.f83
theorem ZI (hI:∀ f args h,(f=52\/f=83)->I f args h=none) (h105:∀ a b h,I 81 [.int .i64 a,.int .i64 b] h=some (some (.int .i64 (EC a b),h))) (h106:∀ a b h,I 82 [.string a,.string b] h=some (some (.int .i64 (cmpL a.data.toList b.data.toList),h)))
  (h104:∀ (l:List Int) k rt h,l.length<=1000->h.blk k=some (.cells (l.map (Value.int .i64)) 3 rt)->I 80 [.slice (some (own k)) l.length l.length] h=some (some (.int .i64 (orL l),h))):FR tab E I (DC E):=by
 intro m f args h v hs hfit;have hnone:Fm (DC E) I m f args (fresh h)=none:=by
  rw[Bw]
  ·rcases hs with⟨rfl,_⟩|⟨rfl,_⟩
   ·exact hI _ _ _ (.inl rfl)
   ·exact hI _ _ _ (.inr rfl)
  ·intro v' s' hlt h2;have:=ABH hs (Ng h2);omega
 have hJk:∀ {s f args g v},DC E s f args g v->s<m->Fm (DC E) I m f args g=some (some (v,g)):=fun h1 h2=>SF (ABk E) h1 h2;have hJo:∀ f args h,f≠52->f≠83->Fm (DC E) I m f args h=I f args h:=by
  intro f args h n1 n2;rw[Bw];rintro v s _ (⟨e,_⟩|⟨e,_⟩)
  ·exact n1 e
  ·exact n2 e
 have j105:∀ a b h,Fm (DC E) I m 81 [.int .i64 a,.int .i64 b] h=some (some (.int .i64 (EC a b),h)):=fun a b h=>(hJo _ _ _ (by decide) (by decide)).trans (h105 a b h);have j106:∀ a b h,Fm (DC E) I m 82 [.string a,.string b] h=some (some (.int .i64 (cmpL a.data.toList b.data.toList),h)):=fun a b h=>(hJo _ _ _ (by decide) (by decide)).trans (h106 a b h);have j104:∀ (l:List Int) k rt h,l.length<=1000->h.blk k=some (.cells (l.map (Value.int .i64)) 3 rt)->Fm (DC E) I m 80 [.slice (some (own k)) l.length l.length] h=some (some (.int .i64 (orL l),h)):=fun l k rt h a b=>(hJo _ _ _ (by decide) (by decide)).trans (h104 l k rt h a b);have hgf:BL h (fresh h):=fun _ _ hb=>hb;have hl0:(fresh h).log=[]:=rfl;rcases hs with⟨rfl,t,xv,u,yv,rfl,hr,hr',hz,rfl,rfl⟩|⟨rfl,ks,sl,ks',sl',rfl,hr,hr',hz,rfl,rfl⟩
 ·refine⟨rfl,?_⟩;obtain⟨k,m,tx,ks⟩:=t;obtain⟨k',m',tx',ks'⟩:=u;have hrg:=AJ hgf hr;have hrg':=AJ hgf hr';obtain⟨sb,sc,rfl,hs⟩:=Ao hr;obtain⟨sb',sc',rfl,hs'⟩:=Ao hr';generalize hJ:Fm (DC E) I (2*isz (.mk k m tx ks)+1)=J at hnone hJk j104 j105 j106 ⊢;suffices hw:∃ n v h',(ev tab E J n).call 52 [.agg ⟨[.int .i64 k,.int .i64 m,.string tx,.slice sb ks.length sc]⟩,.agg ⟨[.int .i64 k',.int .i64 m',.string tx',.slice sb' ks'.length sc']⟩] (fresh h)=some (v,h')/\(v=.int .i64 (HD (.mk k m tx ks) (.mk k' m' tx' ks'))/\h'.log=[]) by
   obtain⟨n,v,h',h1,rfl,h3⟩:=hw;exact⟨n,h',h1,h3⟩
  refine Wc.call hnone AGS rfl ?_;generalize hA0:(⟨T.ofList [.agg ⟨[.int .i64 k,.int .i64 m,.string tx,.slice sb ks.length sc]⟩,.agg ⟨[.int .i64 k',.int .i64 m',.string tx',.slice sb' ks'.length sc']⟩] 0 .nil,max ([.agg ⟨[.int .i64 k,.int .i64 m,.string tx,.slice sb ks.length sc]⟩,.agg ⟨[.int .i64 k',.int .i64 m',.string tx',.slice sb' ks'.length sc']⟩]:List Value).length Tryz.f52.ntmps,[]⟩:Ac)=A0;have n0:A0.n=27:=by rw[<- hA0];rfl
  have g00:A0.get 0=.agg ⟨[.int .i64 k,.int .i64 m,.string tx,.slice sb ks.length sc]⟩:=by rw[<- hA0];rfl
  have g01:A0.get 1=.agg ⟨[.int .i64 k',.int .i64 m',.string tx',.slice sb' ks'.length sc']⟩:=by rw[<- hA0];rfl
  have d0:A0.defers=[]:=by rw[<- hA0]
  generalize hg:fresh h=g at hfit hl0 hgf hrg hrg';apply Wc.seq;refine Wc.ops (by (repeat ((with_reducible apply Rr rfl);focus ((try simp +decide only[Oz,n0,g00,g01]);with_reducible rfl)));with_reducible exact Rn) ?_;generalize hh1:g.new (.cells (Value.agg ⟨[.int .i64 k,.int .i64 m,.string tx,.slice sb ks.length sc]⟩).cells.toList 24 none)=h1;have a1:Ahd g h1:=by rw[<- hh1];exact Ahd.aj hfit rfl
  have b1:h1.blk g.next=some (.cells [.int .i64 k,.int .i64 m,.string tx,.slice sb ks.length sc] 24 none):=by rw[<- hh1];exact AA rfl
  generalize hh2:h1.new (.cells (Value.agg ⟨[.int .i64 k',.int .i64 m',.string tx',.slice sb' ks'.length sc']⟩).cells.toList 24 none)=h2;have a2:Ahd h1 h2:=by rw[<- hh2];exact Ahd.aj a1.fit rfl
  have b2:h2.blk h1.next=some (.cells [.int .i64 k',.int .i64 m',.string tx',.slice sb' ks'.length sc'] 24 none):=by rw[<- hh2];exact AA rfl
  have b1':=a2.grows _ _ b1;have ag:=a1.trans a2;clear hh1 hh2;have hff:BL g (fresh h2):=fun k B hb=>ag.grows k B hb;have x0:(fresh h2).cell E (aadd (own g.next) 0)=some (.int .i64 k):=AS (h:=fresh h2) (i:=0) b1' rfl rfl;have x1:(fresh h2).cell E (aadd (own g.next) 1)=some (.int .i64 m):=AS (h:=fresh h2) (i:=1) b1' rfl rfl;have x2:(fresh h2).cell E (aadd (own g.next) 2)=some (.string tx):=AS (h:=fresh h2) (i:=2) b1' rfl rfl;have x3:(fresh h2).cell E (aadd (own g.next) 3)=some (.slice sb ks.length sc):=AS (h:=fresh h2) (i:=3) b1' rfl rfl;have y0:(fresh h2).cell E (aadd (own h1.next) 0)=some (.int .i64 k'):=AS (h:=fresh h2) (i:=0) b2 rfl rfl;have y1:(fresh h2).cell E (aadd (own h1.next) 1)=some (.int .i64 m'):=AS (h:=fresh h2) (i:=1) b2 rfl rfl;have y2:(fresh h2).cell E (aadd (own h1.next) 2)=some (.string tx'):=AS (h:=fresh h2) (i:=2) b2 rfl rfl;have y3:(fresh h2).cell E (aadd (own h1.next) 3)=some (.slice sb' ks'.length sc'):=AS (h:=fresh h2) (i:=3) b2 rfl rfl;have c1:(ev tab E J 1).call 81 [.int .i64 k,.int .i64 k'] (fresh h2)=some (.int .i64 (EC k k'),fresh h2):=Al (j105 _ _ _);have c2:(ev tab E J 1).call 81 [.int .i64 m,.int .i64 m'] (fresh h2)=some (.int .i64 (EC m m'),fresh h2):=Al (j105 _ _ _);have c3:(ev tab E J 1).call 82 [.string tx,.string tx'] (fresh h2)=some (.int .i64 (cmpL tx.data.toList tx'.data.toList),fresh h2):=Al (j106 _ _ _);have c4:(ev tab E J 1).call 83 [.slice sb ks.length sc,.slice sb' ks'.length sc',.func (.func 52) #[] #[]] (fresh h2)=some (.int .i64 (ordL ks ks'),fresh h2):=by
   apply Al;refine hJk (.inr ⟨rfl,ks,_,ks',_,rfl,SW (AJ hff hrg),SW (AJ hff hrg'),by rw[isz] at hz;omega,rfl,rfl⟩) (by rw[isz];omega)
  have hfn:(fresh h2).next=h2.next:=rfl;generalize hB:(Blk.cells [.int .i64 (EC k k'),.int .i64 (EC m m'),.int .i64 (cmpL tx.data.toList tx'.data.toList),.int .i64 (ordL ks ks')] 3 none)=B;have b5:(fresh (h2.new B)).blk h2.next=some B:=by
   show (h2.new B).blk h2.next=_;rw[<- hB];exact AA rfl
  have c5:(ev tab E J 1).call 80 [.slice (some (own h2.next)) 4 4] (fresh (h2.new B))=some (.int .i64 (HD (.mk k m tx ks) (.mk k' m' tx' ks')),fresh (h2.new B)):=by
   apply Al;rw[TU];exact j104 [EC k k',EC m m',cmpL tx.data.toList tx'.data.toList,ordL ks ks'] _ none _ (by simp) (by rw[b5,<- hB];rfl)
  refine Wc.forget (fun A=>A.n=27/\A.defers=[]/\A.get 2=.pointer (some (own g.next))/\A.get 3=.pointer (some (own h1.next))) ⟨by simp +decide only[Gz,n0],by simp +decide only[Gz,d0],by simp +decide only[Gz,n0],by simp +decide only[Gz,n0]⟩ ?_;clear hA0 n0 g00 g01 d0;rintro A0 ⟨n0,d0,g2,g3⟩;apply Wc.seq;refine Wc.al 1 (by kernel_rfl) ?_
  (iterate 5 refine Ufz (Z8 n0 @g2 @g3 @Ej @ld3 @x0 @y0 @c1) ?_)
  refine FC.forget (fun A=>A.n=27/\A.defers=[]/\A.get 2=.pointer (some (own g.next))/\A.get 3=.pointer (some (own h1.next))/\A.get 9=.int .i64 (EC k k')) ⟨by simp +decide only[Gz,n0],by simp +decide only[Gz,d0],by simp +decide only[Gz,n0,g2],by simp +decide only[Gz,n0,g3],by simp +decide only[Gz,n0]⟩ ?_;clear n0 d0 g2 g3;rintro A0 ⟨n0,d0,g2,g3,g9⟩
  (iterate 5 refine Ufz (Z8 n0 @g2 @g3 @EM @ld3 @x1 @y1 @c2) ?_)
  refine FC.forget (fun A=>A.n=27/\A.defers=[]/\A.get 2=.pointer (some (own g.next))/\A.get 3=.pointer (some (own h1.next))/\A.get 9=.int .i64 (EC k k')/\A.get 14=.int .i64 (EC m m')) ⟨by simp +decide only[Gz,n0],by simp +decide only[Gz,d0],by simp +decide only[Gz,n0,g2],by simp +decide only[Gz,n0,g3],by simp +decide only[Gz,n0,g9],by simp +decide only[Gz,n0]⟩ ?_;clear n0 d0 g2 g3 g9;rintro A0 ⟨n0,d0,g2,g3,g9,g14⟩
  (iterate 5 refine Ufz (Z8 n0 @g2 @g3 @GZ @ld9 @x2 @y2 @c3) ?_)
  refine FC.forget (fun A=>A.n=27/\A.defers=[]/\A.get 2=.pointer (some (own g.next))/\A.get 3=.pointer (some (own h1.next))/\A.get 9=.int .i64 (EC k k')/\A.get 14=.int .i64 (EC m m')/\A.get 19=.int .i64 (cmpL tx.data.toList tx'.data.toList)) ⟨by simp +decide only[Gz,n0],by simp +decide only[Gz,d0],by simp +decide only[Gz,n0,g2],by simp +decide only[Gz,n0,g3],by simp +decide only[Gz,n0,g9],by simp +decide only[Gz,n0,g14],by simp +decide only[Gz,n0]⟩ ?_;clear n0 d0 g2 g3 g9 g14;rintro A0 ⟨n0,d0,g2,g3,g9,g14,g19⟩
  (iterate 5 refine Ufz (Z8 n0 @g2 @g3 @EL @ld23 @x3 @y3 @c4) ?_)
  refine FC.forget (fun A=>A.n=27/\A.defers=[]/\A.get 9=.int .i64 (EC k k')/\A.get 14=.int .i64 (EC m m')/\A.get 19=.int .i64 (cmpL tx.data.toList tx'.data.toList)/\A.get 24=.int .i64 (ordL ks ks')) ⟨by simp +decide only[Gz,n0],by simp +decide only[Gz,d0],by simp +decide only[Gz,n0,g9],by simp +decide only[Gz,n0,g14],by simp +decide only[Gz,n0,g19],by simp +decide only[Gz,n0]⟩ ?_;clear n0 d0 g2 g3 g9 g14 g19;rintro A0 ⟨n0,d0,g9,g14,g19,g24⟩
  (iterate 3 refine Ufz (Z9 n0 @g9 @g14 @g19 @g24 @ACD @hfn @hB @c5) ?_)
  refine FC.nil ?_;refine Wc.ret ?_;refine Bn (.inr rfl) (S0z d0) rfl ?_ (ag.log.trans hl0);simp +decide only[Gz,n0]
 ·refine⟨rfl,?_⟩;have hrg:=Et hgf hr;have hrg':=Et hgf hr';obtain⟨sb,sc,rfl,hlen,hs⟩:=Gw hrg;obtain⟨sb',sc',rfl,hlen',hs'⟩:=Gw hrg';generalize hJ:Fm (DC E) I (2*iszL ks+2)=J at hnone hJk j104 j105 j106 ⊢;suffices hw:∃ n v h',(ev tab E J n).call 83 [.slice sb ks.length sc,.slice sb' ks'.length sc',.func (.func 52) ⟨[]⟩ ⟨[]⟩] (fresh h)=some (v,h')/\(v=.int .i64 (ordL ks ks')/\h'.log=[]) by
   obtain⟨n,v,h',h1,rfl,h3⟩:=hw;exact⟨n,h',h1,h3⟩
  refine Wc.call hnone AGA rfl ?_;generalize hA0:(⟨T.ofList [.slice sb ks.length sc,.slice sb' ks'.length sc',.func (.func 52) ⟨[]⟩ ⟨[]⟩] 0 .nil,max ([.slice sb ks.length sc,.slice sb' ks'.length sc',.func (.func 52) ⟨[]⟩ ⟨[]⟩]:List Value).length Tryz.f83.ntmps,[]⟩:Ac)=A0;have n0:A0.n=39:=by rw[<- hA0];rfl
  have g00:A0.get 0=.slice sb ks.length sc:=by rw[<- hA0];rfl
  have g01:A0.get 1=.slice sb' ks'.length sc':=by rw[<- hA0];rfl
  have g02:A0.get 2=.func (.func 52) ⟨[]⟩ ⟨[]⟩:=by rw[<- hA0];rfl
  have d0:A0.defers=[]:=by rw[<- hA0]
  generalize hg:fresh h=g at hfit hl0 hgf hrg hrg' hs hs';have key:∀ (r i:Nat) (A:Ac) (g':H),r=ks.length-i->i<=ks.length->i<=ks'.length->A.n=39->A.defers=[]->A.get 0=.slice sb ks.length sc->A.get 1=.slice sb' ks'.length sc'->A.get 2=.func (.func 52) ⟨[]⟩ ⟨[]⟩->A.get 11=.slice sb ks.length sc->A.get 12=.int .i64 (ks.length:Nat)->A.get 13=.int .i64 (i:Nat)->
    Ahd g g'->ordL ks ks'=ordL (ks.drop i) (ks'.drop i)->
    Wc tab E J ⟨83,none⟩ (.loop Ir) A g' (fun ex A' g''=>A'.n=39/\A'.defers=[]/\A'.get 0=.slice sb ks.length sc/\A'.get 1=.slice sb' ks'.length sc'/\Ahd g g''/\((ex=.exit 0/\ordL ks ks'=if ks.length<ks'.length then -1 else 0)\/(ex=.ret/\A'.get 6=.int .i64 (ordL ks ks')))):=by
   intro r;induction r with
   | zero=>
    intro i A g' hr' hi hi' nA dA p0 p1 p2 p11 p12 p13 ah ho;have hil:i=ks.length:=by omega
    have hlt:decide ((i:Int)<(ks.length:Int))=false:=by simp;omega
    apply Wc.loop;simp only[Ir,loopOf,firstLoop,Option.getD,Tryz.f83];refine Vwz (Z8 nA p0 p1 p2 p11 p12 p13 @hlt) ?_;refine⟨by simp +decide only[Gz,nA],by simp +decide only[Gz,dA],by simp +decide only[Gz,nA,p0],by simp +decide only[Gz,nA,p1],ah,.inl ⟨rfl,?_⟩⟩;rw[ho,hil,T6];by_cases q:ks.length<ks'.length
    ·rw[if_pos q,H2 q,ordL]
    ·rw[if_neg q,P5 (by omega),ordL]
   | succ r ih=>
    intro i A g' hr' hi hi' nA dA p0 p1 p2 p11 p12 p13 ah ho;have hil:i<ks.length:=by omega
    have hlt:decide ((i:Int)<(ks.length:Int))=true:=by simp;omega
    have hks:ks.drop i=ks[i]::ks.drop (i+1):=H2 hil;rcases hs with hk0|⟨a,cs,he,hcs,hrl⟩
    ·rw[hk0] at hil;simp at hil
    subst he;have hfit':=ah.fit;have hcs1:=AV ah.grows hcs;obtain⟨hl4,hrk⟩:=DH i hrl (Q0 hil);have hsub:=BD hcs1 (m:=i*4) (l:=4) (by omega);have hmem:ks[i]∈ks:=Q5 hil;have hkz:=HL hmem;have hq:∃ q0 q1 q2 q3,(cs.drop (i*4)).take 4=[q0,q1,q2,q3]/\[q0,q1,q2,q3].all isOne=true:=by
     generalize hki:ks[i]=ki at hrk;obtain⟨k',m',tx',ks'⟩:=ki;obtain⟨sb',sc',e,_⟩:=Ao hrk;simp only[Value.agg.injEq,Array.mk.injEq] at e;exact⟨_,_,_,_,e,rfl⟩
    obtain⟨q0,q1,q2,q3,hq,hone⟩:=hq;rw[hq] at hsub hrk;have hir:AN (i:Int) ks.length=true:=by
     show Nat.blt i ks.length=true;rw[P0];exact hil
    have w3:IntKind.i64.wrap ((i:Int)+1)=(i:Int)+1:=wrap64 (by omega) (by omega);generalize hh3:g'.new (.cells (Value.agg #[.int .i64 0,.int .i64 0,.string ⟨#[]⟩,.slice none 0 0]).cells.toList 24 none)=h3;have a3:Ahd g' h3:=by rw[<- hh3];exact Ahd.aj hfit' rfl
    have c3:h3.blk g'.next=some (.cells [.int .i64 0,.int .i64 0,.string ⟨#[]⟩,.slice none 0 0] 24 none):=by rw[<- hh3];exact AA rfl
    have hn3:h3.next=g'.next+1:=by rw[<- hh3];rfl
    have hst3:=AA9 (a:=q0) (b:=q1) (c:=q2) (d:=q3) c3 hone (by rw[a3.mark];exact hfit'.ok.2);generalize hh4:h3.ak g'.next (.cells [q0,q1,q2,q3] 24 none)=h4 at hst3;have a4:Ahd g' h4:=by rw[<- hh4];exact a3.ak rfl (C0 _) (by omega) hfit'
    have c4:h4.blk g'.next=some (.cells [q0,q1,q2,q3] 24 none):=by rw[<- hh4];exact BZ rfl
    by_cases hge:i>=ks'.length
    ·have dge:decide ((i:Int)>=(ks'.length:Int))=true:=by simp;omega
     have e1:ordL ks ks'=1:=by rw[ho,hks,P5 hge,ordL]
     apply Wc.loop;simp only[Ir,loopOf,firstLoop,Option.getD,Tryz.f83];refine Vwz (Z17 nA p0 p1 p2 p11 p12 p13 @hlt (fun a c=>Ts a _ c _ hir) @M0 @MS @hsub @tz25 @hh3 @hst3 @len23 @dge) ?_;refine⟨by simp +decide only[Gz,nA],by simp +decide only[Gz,dA],by simp +decide only[Gz,nA,p0],by simp +decide only[Gz,nA,p1],ah.trans a4,.inr ⟨rfl,?_⟩⟩;rw[e1];simp +decide only[Gz,nA]
    have hil':i<ks'.length:=by omega
    have dge:decide ((i:Int)>=(ks'.length:Int))=false:=by simp;omega
    have hks':ks'.drop i=ks'[i]::ks'.drop (i+1):=H2 hil';rcases hs' with hk0|⟨a',cs',he,hcs',hrl'⟩
    ·rw[hk0] at hil'; simp at hil'
    subst he;have ah4:=ah.trans a4;have hcs1':=AV ah4.grows hcs';obtain⟨hl4',hrk'⟩:=DH i hrl' (Q0 hil');have hsub':=BD hcs1' (m:=i*4) (l:=4) (by omega);have hq':∃ q0 q1 q2 q3,(cs'.drop (i*4)).take 4=[q0,q1,q2,q3]/\[q0,q1,q2,q3].all isOne=true:=by
     generalize hki:ks'[i]=ki at hrk';obtain⟨k',m',tx',ks'⟩:=ki;obtain⟨sb',sc',e,_⟩:=Ao hrk';simp only[Value.agg.injEq,Array.mk.injEq] at e;exact⟨_,_,_,_,e,rfl⟩
    obtain⟨u0,u1,u2,u3,hq',hone'⟩:=hq';rw[hq'] at hsub' hrk';have hir':AN (i:Int) ks'.length=true:=by
     show Nat.blt i ks'.length=true;rw[P0];exact hil'
    generalize hh5:h4.new (.cells (Value.agg #[.int .i64 0,.int .i64 0,.string ⟨#[]⟩,.slice none 0 0]).cells.toList 24 none)=h5;have a5:Ahd h4 h5:=by rw[<- hh5];exact Ahd.aj a4.fit rfl
    have c5:h5.blk h4.next=some (.cells [.int .i64 0,.int .i64 0,.string ⟨#[]⟩,.slice none 0 0] 24 none):=by rw[<- hh5];exact AA rfl
    have hn5:h5.next=h4.next+1:=by rw[<- hh5];rfl
    have hst5:=AA9 (a:=u0) (b:=u1) (c:=u2) (d:=u3) c5 hone' (by rw[a5.mark];exact a4.fit.ok.2);generalize hh6:h5.ak h4.next (.cells [u0,u1,u2,u3] 24 none)=h6 at hst5;have a6:Ahd h4 h6:=by rw[<- hh6];exact a5.ak rfl (C0 _) (by omega) a4.fit
    have c6:h6.blk h4.next=some (.cells [u0,u1,u2,u3] 24 none):=by rw[<- hh6];exact BZ rfl
    have c6':h6.blk g'.next=some (.cells [q0,q1,q2,q3] 24 none):=a6.grows _ _ c4;have ah6:=ah4.trans a6;have cl1:h6.cells E (own g'.next) 4=some [q0,q1,q2,q3]:=AG c6' rfl hone;have cl2:h6.cells E (own h4.next) 4=some [u0,u1,u2,u3]:=AG c6 rfl hone';have hcall:(ev tab E J 1).call 52 [.agg ⟨[q0,q1,q2,q3]⟩,.agg ⟨[u0,u1,u2,u3]⟩] h6=some (.int .i64 (HD ks[i] ks'[i]),h6):=by
     apply Al;exact hJk (.inl ⟨rfl,ks[i],_,ks'[i],_,rfl,AJ ah6.grows hrk,AJ ah6.grows hrk',by omega,rfl,rfl⟩) (by omega)
    by_cases q:HD ks[i] ks'[i]=0
    ·have dq:(!decide (HD ks[i] ks'[i]=0))=false:=by simp[q]
     apply Wc.loop;simp only[Ir,loopOf,firstLoop,Option.getD,Tryz.f83];refine Vwz (Z26 nA p0 p1 p2 p11 p12 p13 @hlt (fun a c=>Ts a _ c _ hir) (fun a c=>Ts a _ c _ hir') @M0 @MS @hsub @hsub' @tz25 @hh3 @hst3 @hh5 @hst5 @len23 @dge @cl1 @cl2 @hcall @dq @w3) ?_;refine (ih (i+1) _ h6 (by omega) (by omega) (by omega) ?_ ?_ ?_ ?_ ?_ ?_ ?_ ?_ ah6 ?_).mono ?_
     ·simp +decide only[Gz,nA]
     ·simp +decide only[Gz,dA]
     ·simp +decide only[Gz,nA,p0]
     ·simp +decide only[Gz,nA,p1]
     ·simp +decide only[Gz,nA,p2]
     ·simp +decide only[Gz,nA,p11]
     ·simp +decide only[Gz,nA,p12]
     ·simp +decide only[Gz,nA];rfl
     ·rw[ho,hks,hks',ordL,if_neg (by simpa using q)]
     ·rintro ex A' h' ⟨e1,e2,e3,e4,e5,⟨rfl,e6⟩|⟨rfl,e6⟩⟩
      ·exact⟨e1,e2,e3,e4,e5,.inl ⟨rfl,e6⟩⟩
      ·exact⟨e1,e2,e3,e4,e5,.inr ⟨rfl,e6⟩⟩
    ·have dq:(!decide (HD ks[i] ks'[i]=0))=true:=by simp[q]
     have e1:ordL ks ks'=HD ks[i] ks'[i]:=by rw[ho,hks,hks',ordL,if_pos (by simpa using q)]
     apply Wc.loop;simp only[Ir,loopOf,firstLoop,Option.getD,Tryz.f83];refine Vwz (Z26 nA p0 p1 p2 p11 p12 p13 @hlt (fun a c=>Ts a _ c _ hir) (fun a c=>Ts a _ c _ hir') @M0 @MS @hsub @hsub' @tz25 @hh3 @hst3 @hh5 @hst5 @len23 @dge @cl1 @cl2 @hcall @dq @w3) ?_;refine⟨by simp +decide only[Gz,nA],by simp +decide only[Gz,dA],by simp +decide only[Gz,nA,p0],by simp +decide only[Gz,nA,p1],ah6,.inr ⟨rfl,?_⟩⟩;rw[e1];simp +decide only[Gz,nA]
  refine Vwz (Z6 n0 d0 g00 g01 g02 @len23) ?_;refine (key ks.length 0 _ g rfl (C2 _) (C2 _) ?_ ?_ ?_ ?_ ?_ ?_ ?_ ?_ (Ahd.refl hfit) (by rw[F2,F2])).mono ?_
  ·simp +decide only[Gz,n0]
  ·simp +decide only[Gz,d0]
  ·simp +decide only[Gz,n0,g00]
  ·simp +decide only[Gz,n0,g01]
  ·simp +decide only[Gz,n0,g02]
  ·simp +decide only[Gz,n0]
  ·simp +decide only[Gz,n0]
  ·simp +decide only[Gz,n0];rfl
  ·rintro ex A' g' ⟨e1,e2,e3,e4,e5,⟨rfl,e6⟩|⟨rfl,e6⟩⟩
   ·simp only[if_true];by_cases q:ks.length<ks'.length
    ·rw[if_pos q] at e6;have dq:decide ((ks.length:Int)<(ks'.length:Int))=true:=by simp;omega
     refine Vwz (Z5 e1 e3 e4 @len23 @dq) ?_;refine Bn (.inr rfl) (S0z e2) rfl ?_ (e5.log.trans hl0);rw[e6];simp +decide only[Gz,e1]
    ·rw[if_neg q] at e6;have dq:decide ((ks.length:Int)<(ks'.length:Int))=false:=by simp;omega
     refine Vwz (Z5 e1 e3 e4 @len23 @dq) ?_;refine Bn (.inr rfl) (S0z e2) rfl ?_ (e5.log.trans hl0);rw[e6];simp +decide only[Gz,e1]
   ·exact Bn (.inr rfl) e2 rfl e6 (e5.log.trans hl0)
theorem AGT:tab.fn.get 47=some Tryz.f47:=by kernel_rfl
theorem AGZ:tab.fn.get 27=some Tryz.f27:=by kernel_rfl
theorem ACG {a b c d a' b' c' d':Value} {h:H}:AH tab 22 2 [(0,.agg ⟨[a,b,c,d]⟩),(1,.agg ⟨[a',b',c',d']⟩)] h=some (.slice (some (own h.next)) 2 2,h.new (.cells [a,b,c,d,a',b',c',d'] 24 none)):=by
 unfold AH;simp only[Xz,tz25];rfl
noncomputable def Po:Code:=loopOf Tryz.f47
def PO (E:Env):Lb:=fun s f args h v=>f=47/\s=0/\∃ ks sl,args=[sl]/\PS E h ks sl/\iszL ks<=1000000/\v=.int .i64 (chkAll ks)
theorem ABl (E:Env):One (PO E):=by
 rintro s s' f args h v v' ⟨_,_,t,xv,rfl,h1,_,rfl⟩ ⟨_,_,t',xv',he,h2,_,rfl⟩;cases he;rw[Hl h1 h2]
theorem ZJ (hI:∀ args h,I 47 args h=none) (h35:∀ t xv h,rep E h t xv->isz t<=1000000->I 44 [xv] h=some (some (.int .i64 (Fl t 0 1).2,h))):FR tab E I (PO E):=by
 rintro sz f args h v ⟨rfl,rfl,ks,sl,rfl,hr,hz,rfl⟩ hfit;refine⟨rfl,?_⟩;have hJ:Fm (PO E) I 0=I:=by funext f args h;exact Bw (fun _ _ hs=>absurd hs (I6 _))
 rw[hJ];have hgf:BL h (fresh h):=fun _ _ hb=>hb;have hl0:(fresh h).log=[]:=rfl;have hrg:=Et hgf hr;obtain⟨sb,sc,rfl,hlen,hs⟩:=Gw hrg;suffices hw:∃ n v h',(ev tab E I n).call 47 [.slice sb ks.length sc] (fresh h)=some (v,h')/\(v=.int .i64 (chkAll ks)/\h'.log=[]) by
  obtain⟨n,v,h',h1,rfl,h3⟩:=hw;exact⟨n,h',h1,h3⟩
 refine Wc.call (hI _ _) AGT rfl ?_;generalize hA0:(⟨T.ofList [.slice sb ks.length sc] 0 .nil,max ([.slice sb ks.length sc]:List Value).length Tryz.f47.ntmps,[]⟩:Ac)=A0;have n0:A0.n=18:=by rw[<- hA0];rfl
 have g00:A0.get 0=.slice sb ks.length sc:=by rw[<- hA0];rfl
 have d0:A0.defers=[]:=by rw[<- hA0]
 generalize hg:fresh h=g at hfit hl0 hgf hrg hs;have key:∀ (r i:Nat) (A:Ac) (g':H),r=ks.length-i->i<=ks.length->A.n=18->A.defers=[]->A.get 6=.slice sb ks.length sc->A.get 7=.int .i64 (ks.length:Nat)->A.get 8=.int .i64 (i:Nat)->
   Ahd g g'->chkAll ks=chkAll (ks.drop i)->
   Wc tab E I ⟨47,none⟩ (.loop Po) A g' (fun ex A' g''=>A'.n=18/\A'.defers=[]/\Ahd g g''/\((ex=.exit 0/\chkAll ks=0)\/(ex=.ret/\A'.get 2=.int .i64 (chkAll ks)))):=by
  intro r;induction r with
  | zero=>
   intro i A g' hr' hi nA dA p6 p7 p8 ah ho;have hil:i=ks.length:=by omega
   have hlt:decide ((i:Int)<(ks.length:Int))=false:=by simp;omega
   apply Wc.loop;simp only[Po,loopOf,firstLoop,Option.getD,Tryz.f47];refine Vwz (Z5 nA p6 p7 p8 @hlt) ?_;refine⟨by simp +decide only[Gz,nA],by simp +decide only[Gz,dA],ah,.inl ⟨rfl,?_⟩⟩;rw[ho,hil,T6,chkAll]
  | succ r ih=>
   intro i A g' hr' hi nA dA p6 p7 p8 ah ho;have hil:i<ks.length:=by omega
   have hlt:decide ((i:Int)<(ks.length:Int))=true:=by simp;omega
   have hks:ks.drop i=ks[i]::ks.drop (i+1):=H2 hil;rcases hs with hk0|⟨a,cs,he,hcs,hrl⟩
   ·rw[hk0] at hil;simp at hil
   subst he;have hfit':=ah.fit;have hcs1:=AV ah.grows hcs;obtain⟨hl4,hrk⟩:=DH i hrl (Q0 hil);have hsub:=BD hcs1 (m:=i*4) (l:=4) (by omega);have hmem:ks[i]∈ks:=Q5 hil;have hkz:=HL hmem;have hq:∃ q0 q1 q2 q3,(cs.drop (i*4)).take 4=[q0,q1,q2,q3]/\[q0,q1,q2,q3].all isOne=true:=by
    generalize hki:ks[i]=ki at hrk;obtain⟨k',m',tx',ks'⟩:=ki;obtain⟨sb',sc',e,_⟩:=Ao hrk;simp only[Value.agg.injEq,Array.mk.injEq] at e;exact⟨_,_,_,_,e,rfl⟩
   obtain⟨q0,q1,q2,q3,hq,hone⟩:=hq;rw[hq] at hsub hrk;have hir:AN (i:Int) ks.length=true:=by
    show Nat.blt i ks.length=true;rw[P0];exact hil
   have w3:IntKind.i64.wrap ((i:Int)+1)=(i:Int)+1:=wrap64 (by omega) (by omega);obtain⟨h3,hh3,a3,c3⟩:=nT hfit' [.int .i64 0,.int .i64 0,.string ⟨#[]⟩,.slice none 0 0] 24;have hn3:h3.next=g'.next+1:=by rw[<- hh3];rfl
   have hst3:=AA9 (a:=q0) (b:=q1) (c:=q2) (d:=q3) c3 hone (by rw[a3.mark];exact hfit'.ok.2);generalize hh4:h3.ak g'.next (.cells [q0,q1,q2,q3] 24 none)=h4 at hst3;have a4:Ahd g' h4:=by rw[<- hh4];exact a3.ak rfl (C0 _) (by omega) hfit'
   have c4:h4.blk g'.next=some (.cells [q0,q1,q2,q3] 24 none):=by rw[<- hh4];exact BZ rfl
   have ah4:=ah.trans a4;have cl1:h4.cells E (own g'.next) 4=some [q0,q1,q2,q3]:=AG c4 rfl hone;have hcall:(ev tab E I 1).call 44 [.agg ⟨[q0,q1,q2,q3]⟩] h4=some (.int .i64 (Fl ks[i] 0 1).2,h4):=Al (h35 _ _ _ (AJ ah4.grows hrk) (by omega));by_cases q:(Fl ks[i] 0 1).2=0
   ·have dq:(!decide ((Fl ks[i] 0 1).2=0))=false:=by simp[q]
    apply Wc.loop;simp only[Po,loopOf,firstLoop,Option.getD,Tryz.f47];refine Vwz (Z16 nA p6 p7 p8 @hlt (fun a c=>Ts a _ c _ hir) @M0 @MS @hsub @tz25 @hh3 @hst3 @cl1 @hcall @dq @w3) ?_;refine (ih (i+1) _ h4 (by omega) (by omega) ?_ ?_ ?_ ?_ ?_ ah4 ?_).mono ?_
    ·simp +decide only[Gz,nA]
    ·simp +decide only[Gz,dA]
    ·simp +decide only[Gz,nA,p6]
    ·simp +decide only[Gz,nA,p7]
    ·simp +decide only[Gz,nA];rfl
    ·rw[ho,hks,chkAll,if_neg (by simpa using q)]
    ·rintro ex A' h' ⟨e1,e2,e3,⟨rfl,e6⟩|⟨rfl,e6⟩⟩
     ·exact⟨e1,e2,e3,.inl ⟨rfl,e6⟩⟩
     ·exact⟨e1,e2,e3,.inr ⟨rfl,e6⟩⟩
   ·have dq:(!decide ((Fl ks[i] 0 1).2=0))=true:=by simp[q]
    have e1:chkAll ks=(Fl ks[i] 0 1).2:=by rw[ho,hks,chkAll,if_pos (by simpa using q)]
    apply Wc.loop;simp only[Po,loopOf,firstLoop,Option.getD,Tryz.f47];refine Vwz (Z16 nA p6 p7 p8 @hlt (fun a c=>Ts a _ c _ hir) @M0 @MS @hsub @tz25 @hh3 @hst3 @cl1 @hcall @dq @w3) ?_;refine⟨by simp +decide only[Gz,nA],by simp +decide only[Gz,dA],ah4,.inr ⟨rfl,?_⟩⟩;rw[e1];simp +decide only[Gz,nA]
 refine Vwz (Z4 n0 d0 g00 @len23) ?_;refine (key ks.length 0 _ g rfl (C2 _) ?_ ?_ ?_ ?_ ?_ (Ahd.refl hfit) (by rw[F2])).mono ?_
 ·simp +decide only[Gz,n0]
 ·simp +decide only[Gz,d0]
 ·simp +decide only[Gz,n0]
 ·simp +decide only[Gz,n0]
 ·simp +decide only[Gz,n0];rfl
 ·rintro ex A' g' ⟨e1,e2,e5,⟨rfl,e6⟩|⟨rfl,e6⟩⟩
  ·simp only[if_true];refine Vwz e1 ?_;refine Bn (.inr rfl) (S0z e2) rfl ?_ (e5.log.trans hl0);rw[e6];simp +decide only[Gz,e1]
  ·exact Bn (.inr rfl) e2 rfl e6 (e5.log.trans hl0)
/-! ### 27 -/
def PQ (E:Env):Lb:=fun s f args h v=>f=27/\s=0/\∃ t xv u yv,args=[xv,yv]/\rep E h t xv/\rep E h u yv/\isz t<=400000/\isz u<=400000/\v=.tuple #[.int .i64 (Ro t u).1,.int .i64 (Ro t u).2]
theorem ADn (E:Env):One (PQ E):=by
 rintro s s' f args h v v' ⟨_,_,t,xv,u,yv,rfl,h1,h2,_,_,rfl⟩ ⟨_,_,t',xv',u',yv',he,h3,h4,_,_,rfl⟩;cases he;rw[Cj h1 h3,Cj h2 h4]
theorem ZL (hI:∀ args h,I 27 args h=none) (h65:∀ ks sl h,PS E h ks sl->iszL ks<=1000000->I 47 [sl] h=some (some (.int .i64 (chkAll ks),h))) (h66:∀ t xv u yv h,rep E h t xv->rep E h u yv->isz t<=1000000->I 52 [xv,yv] h=some (some (.int .i64 (HD t u),h))):FR tab E I (PQ E):=by
 rintro sz f args h v ⟨rfl,rfl,t,xv,u,yv,rfl,hr,hr',hz,hz',rfl⟩ hfit;refine⟨rfl,?_⟩;have hJ:Fm (PQ E) I 0=I:=by funext f args h;exact Bw (fun _ _ hs=>absurd hs (I6 _))
 rw[hJ];obtain⟨k,m,tx,ks⟩:=t;obtain⟨k',m',tx',ks'⟩:=u;have hgf:BL h (fresh h):=fun _ _ hb=>hb;have hl0:(fresh h).log=[]:=rfl;have hrg:=AJ hgf hr;have hrg':=AJ hgf hr';obtain⟨sb,sc,rfl,hs⟩:=Ao hr;obtain⟨sb',sc',rfl,hs'⟩:=Ao hr';suffices hw:∃ n v h',(ev tab E I n).call 27 [.agg ⟨[.int .i64 k,.int .i64 m,.string tx,.slice sb ks.length sc]⟩,.agg ⟨[.int .i64 k',.int .i64 m',.string tx',.slice sb' ks'.length sc']⟩] (fresh h)=some (v,h')/\(v=.tuple #[.int .i64 (Ro (.mk k m tx ks) (.mk k' m' tx' ks')).1,.int .i64 (Ro (.mk k m tx ks) (.mk k' m' tx' ks')).2]/\h'.log=[]) by
  obtain⟨n,v,h',h1,rfl,h3⟩:=hw;exact⟨n,h',h1,h3⟩
 refine Wc.call (hI _ _) AGZ rfl ?_;generalize hA0:(⟨T.ofList [.agg ⟨[.int .i64 k,.int .i64 m,.string tx,.slice sb ks.length sc]⟩,.agg ⟨[.int .i64 k',.int .i64 m',.string tx',.slice sb' ks'.length sc']⟩] 0 .nil,max ([.agg ⟨[.int .i64 k,.int .i64 m,.string tx,.slice sb ks.length sc]⟩,.agg ⟨[.int .i64 k',.int .i64 m',.string tx',.slice sb' ks'.length sc']⟩]:List Value).length Tryz.f27.ntmps,[]⟩:Ac)=A0;have n0:A0.n=17:=by rw[<- hA0];rfl
 have g00:A0.get 0=.agg ⟨[.int .i64 k,.int .i64 m,.string tx,.slice sb ks.length sc]⟩:=by rw[<- hA0];rfl
 have g01:A0.get 1=.agg ⟨[.int .i64 k',.int .i64 m',.string tx',.slice sb' ks'.length sc']⟩:=by rw[<- hA0];rfl
 have d0:A0.defers=[]:=by rw[<- hA0]
 generalize hg:fresh h=g at hfit hl0 hgf hrg hrg';obtain⟨h1,hh1,a1,b1⟩:=nA hfit [.int .i64 k,.int .i64 m,.string tx,.slice sb ks.length sc] 24;obtain⟨h2,hh2,a2,b2⟩:=nA a1.fit [.int .i64 k',.int .i64 m',.string tx',.slice sb' ks'.length sc'] 24;have b1':=a2.grows _ _ b1;have ag:=a1.trans a2;have x1:h2.cells E (own g.next) 4=some [.int .i64 k,.int .i64 m,.string tx,.slice sb ks.length sc]:=AG b1' rfl rfl;have y1:h2.cells E (own h1.next) 4=some [.int .i64 k',.int .i64 m',.string tx',.slice sb' ks'.length sc']:=AG b2 rfl rfl;generalize hh3:h2.new (.cells [.int .i64 k,.int .i64 m,.string tx,.slice sb ks.length sc,.int .i64 k',.int .i64 m',.string tx',.slice sb' ks'.length sc'] 24 none)=h3;have a3:Ahd h2 h3:=by rw[<- hh3];exact Ahd.aj a2.fit rfl
 have b3:h3.blk h2.next=some (.cells [.int .i64 k,.int .i64 m,.string tx,.slice sb ks.length sc,.int .i64 k',.int .i64 m',.string tx',.slice sb' ks'.length sc'] 24 none):=by rw[<- hh3];exact AA rfl
 have ag3:=ag.trans a3;have x3:h3.cells E (own g.next) 4=some [.int .i64 k,.int .i64 m,.string tx,.slice sb ks.length sc]:=AV a3.grows x1;have y3:h3.cells E (own h1.next) 4=some [.int .i64 k',.int .i64 m',.string tx',.slice sb' ks'.length sc']:=AV a3.grows y1;have hbs:=ACG (a:=.int .i64 k) (b:=.int .i64 m) (c:=.string tx) (d:=.slice sb ks.length sc) (a':=.int .i64 k') (b':=.int .i64 m') (c':=.string tx') (d':=.slice sb' ks'.length sc') (h:=h2);rw[hh3] at hbs;have hk:PS E h3 [.mk k m tx ks,.mk k' m' tx' ks'] (.slice (some (own h2.next)) 2 2):=by
  unfold PS;rw[rep];refine⟨_,rfl,.inr ⟨own h2.next,2,_,rfl,⟨C0 _,by decide⟩,AG b3 rfl rfl,?_⟩⟩;rw[Es];refine⟨_,_,_,_,_,rfl,AJ ag3.grows hrg,?_⟩;rw[Es];refine⟨_,_,_,_,_,rfl,AJ ag3.grows hrg',?_⟩;rw[Es]
 have c65:(ev tab E I 1).call 47 [.slice (some (own h2.next)) 2 2] h3=some (.int .i64 (JX (.mk k m tx ks) (.mk k' m' tx' ks')),h3):=by
  rw[<- Qy];exact Al (h65 _ _ _ hk (by simp only[iszL];omega))
 have c66:(ev tab E I 1).call 52 [.agg ⟨[.int .i64 k,.int .i64 m,.string tx,.slice sb ks.length sc]⟩,.agg ⟨[.int .i64 k',.int .i64 m',.string tx',.slice sb' ks'.length sc']⟩] h3=some (.int .i64 (HD (.mk k m tx ks) (.mk k' m' tx' ks')),h3):=
  Al (h66 _ _ _ _ _ (AJ ag3.grows hrg) (AJ ag3.grows hrg') (by omega))
 by_cases q:JX (.mk k m tx ks) (.mk k' m' tx' ks')≠0
 ·have e1:Ro (.mk k m tx ks) (.mk k' m' tx' ks')=(0,JX (.mk k m tx ks) (.mk k' m' tx' ks')):=by rw[Ro,if_pos q]
  have dq:(!decide (JX (.mk k m tx ks) (.mk k' m' tx' ks')=0))=true:=by simp[q]
  refine Vwz (Z12 n0 d0 g00 g01 @hh1 @hh2 @MS @x1 @y1 @hbs @c65 @dq) ?_;refine Ml (.inr rfl) (S0z d0) rfl ?_ ?_ (ag3.log.trans hl0)
  ·simp +decide only[Gz,n0];rw[e1]
  ·simp +decide only[Gz,n0];rw[e1]
 ·have e1:Ro (.mk k m tx ks) (.mk k' m' tx' ks')=(HD (.mk k m tx ks) (.mk k' m' tx' ks'),0):=by rw[Ro,if_neg q]
  have q:=D5.1 q;have dq:(!decide (JX (.mk k m tx ks) (.mk k' m' tx' ks')=0))=false:=by simp[q]
  refine Vwz (Z15 n0 d0 g00 g01 @hh1 @hh2 @MS @x1 @y1 @hbs @c65 @dq @x3 @y3 @c66) ?_;refine Ml (.inr rfl) (S0z d0) rfl ?_ ?_ (ag3.log.trans hl0)
  ·simp +decide only[Gz,n0];rw[e1]
  ·simp +decide only[Gz,n0];rw[e1]
theorem ty5:tab.ty.get 5=some ⟨.int .u8,1,1,some (.int .u8 0),true⟩:=by kernel_rfl
theorem SG:tab.ty.get 44=some ⟨.slice 5 1 1,1,24,some (.slice none 0 0),true⟩:=by kernel_rfl
theorem ACe:tab.ty.get 93=some ⟨.int .u64,1,8,some (.int .u64 0),true⟩:=by kernel_rfl
theorem Va:tab.ty.get 95=some ⟨.struct [(0,44,1),(1,3,1),(2,93,1)],3,40,some (.agg #[.slice none 0 0,.int .i64 0,.int .u64 0]),true⟩:=by kernel_rfl
theorem AF8:tab.fn.get 87=some Tryz.f87:=by kernel_rfl
theorem AF7:tab.fn.get 88=some Tryz.f88:=by kernel_rfl
theorem AF6:tab.fn.get 89=some Tryz.f89:=by kernel_rfl
theorem AEI:tab.fn.get 117=some Tryz.f117:=by kernel_rfl
theorem ld5 (a:Addr) {h:H}:AI tab E 5 a h=h.cell E a:=by unfold AI;rw[ty5];rfl
theorem ADu (a:Addr) {h:H}:AI tab E 44 a h=h.cell E a:=by unfold AI;rw[SG];rfl
theorem ADt (a:Addr) {h:H}:AI tab E 93 a h=h.cell E a:=by unfold AI;rw[ACe];rfl
theorem LH (a:Addr):AC tab 95 (.pointer (some a)) 0=some (.pointer (some (aadd a 0))):=by unfold AC;rw[Va];rfl
theorem OL (a:Addr):AC tab 95 (.pointer (some a)) 1=some (.pointer (some (aadd a 1))):=by unfold AC;rw[Va];rfl
theorem LG (a:Addr):AC tab 95 (.pointer (some a)) 2=some (.pointer (some (aadd a 2))):=by unfold AC;rw[Va];rfl
theorem WT {h:H} (b:Option Addr) (n c:Nat):Cp tab 44 (.slice b n c) h=some (.int .i64 n):=by unfold Cp;rw[SG]
theorem AFs (a:Addr) (n c:Nat) (i:Int) (hi:AN i n=true):AL tab 44 (.slice (some a) n c) (.int .i64 i)=some (.pointer (some (aadd a (i.toNat*1)))):=by unfold AL;simp only[SG,hi]
theorem AB7 (n:Int) {h:H}:AQ tab E 5 93 (.int .u8 n) h=some (.int .u64 (IntKind.u64.wrap n),h):=by unfold AQ;simp only[ty5,ACe]
theorem Yl (n:Int) {h:H}:AQ tab E 93 3 (.int .u64 n) h=some (.int .i64 (IntKind.i64.wrap n),h):=by unfold AQ;simp only[ACe,ty3]
theorem AE0 {a b:Int} {k:IntKind} (hb:0<b):Bk .rem k a b=some (.int k (a.tmod b)):=by
 unfold Bk
 match b,hb with
 | .ofNat (n+1),_=>rfl
theorem QR (x:Int):0<=IntKind.u64.wrap x/\IntKind.u64.wrap x<18446744073709551616:=by
 simp only[IntKind.wrap,IntKind.bits,IntKind.signed];simp;omega
theorem SI {k:Nat} {v:Value} {a x:Int} {s:Value} {g:H} (hb:g.blk k=some (.cells [v,.int .i64 a,s] 95 none)):AO tab 93 (aadd (own k) 2) (.int .u64 x) g=some (g.aa k (.cells [v,.int .i64 a,.int .u64 x] 95 none)):=by
 unfold AO;rw[ACe];exact CX (o:=2) (vs:=[.int .u64 x]) hb (by simp) (by simp) rfl
theorem ADX {k:Nat} {v:Value} {a:Int} {s o:Value} {g:H} (hb:g.blk k=some (.cells [v,o,s] 95 none)):AO tab 3 (aadd (own k) 1) (.int .i64 a) g=some (g.aa k (.cells [v,.int .i64 a,s] 95 none)):=by
 unfold AO;rw[ty3];exact CX (o:=1) (vs:=[.int .i64 a]) hb (by simp) (by simp) rfl
theorem ABB (x:Int):DF .shr .u64 x 40=some (.int .u64 (x.fdiv 1099511627776)):=rfl
theorem AGg {x:Int} (h0:0<=x) (h1:x<18446744073709551616):0<=x.fdiv 1099511627776/\x.fdiv 1099511627776<16777216:=by
 rw[D4 _ (by decide)];omega
theorem ACl (y:Int):0<=IntKind.i64.wrap ((IntKind.u64.wrap y).fdiv 1099511627776)/\IntKind.i64.wrap ((IntKind.u64.wrap y).fdiv 1099511627776)<16777216:=by
 obtain⟨h1,h2⟩:=AGg (QR y).1 (QR y).2;rw[wrap64 (by omega) (by omega)];exact⟨h1,h2⟩
def Bts (M:Nat->Prop) (h:H) (bv:Value) (bs:List Int):Prop:=(bv=.slice none 0 0/\bs=[])\/∃ k c rt,bv=.slice (some (own k)) bs.length c/\h.blk k=some (.cells (bs.map (Value.int .u8)) 5 rt)/\¬ M k
def Sto (M:Nat->Prop) (kS:Nat) (bv:Value) (bs:List Int) (h:H) (a:Int):Prop:=∃ seed,h.blk kS=some (.cells [bv,.int .i64 a,.int .u64 seed] 95 none)/\0<=seed/\seed<18446744073709551616/\Bts M h bv bs/\0<=a
theorem Bts.mod {M N:Nat->Prop} {h g:H} {bv:Value} {bs:List Int} (b:Bts M h bv bs) (m:Mod N h g) (hN:∀ k,N k->M k):Bts M g bv bs:=by
 rcases b with b|⟨k,c,rt,e1,e2,e3⟩
 ·exact .inl b
 ·exact .inr ⟨k,c,rt,e1,m.blk _ _ (fun hn=>e3 (hN _ hn)) e2,e3⟩
theorem Sto.mod {M N:Nat->Prop} {kS:Nat} {bv:Value} {bs:List Int} {h g:H} {a:Int} (S:Sto M kS bv bs h a) (m:Mod N h g) (hN:∀ k,N k->M k) (hk:¬ N kS):Sto M kS bv bs g a:=by
 obtain⟨seed,e1,e2,e3,e4,e5⟩:=S;exact⟨seed,m.blk _ _ hk e1,e2,e3,e4.mod m hN,e5⟩
theorem Sto.ahd {M:Nat->Prop} {kS:Nat} {bv:Value} {bs:List Int} {h g:H} {a:Int} (S:Sto M kS bv bs h a) (m:Ahd h g):Sto M kS bv bs g a:=
 S.mod (N:=fun _=>False) m.mod (fun _ h=>h.elim) (fun h=>h)
theorem AAE (hI:∀ args h,I 117 args h=none) {M:Nat->Prop} {kS:Nat} (hM:M kS) {bv:Value} {bs:List Int} {h:H} {a:Int} (hfit:Fit h) (S:Sto M kS bv bs h a) (ha:a<=1000000000) (hbs:bs.length<=1000000) :
  ∃ n v h',(ev tab E I n).call 117 [.pointer (some (own kS))] h=some (v,h')/\(∃ d,v=.int .i64 d/\0<=d/\d<16777216/\Mod (fun k=>k=kS) h h'/\∃ a',Sto M kS bv bs h' a'/\a<=a'/\a'<=a+1):=by
 refine Wc.call (hI _ _) AEI rfl ?_;generalize hA0:(⟨T.ofList [.pointer (some (own kS))] 0 .nil,max ([.pointer (some (own kS))]:List Value).length Tryz.f117.ntmps,[]⟩:Ac)=A0;have n0:A0.n=55:=by rw[<- hA0];rfl
 have g00:A0.get 0=.pointer (some (own kS)):=by rw[<- hA0];rfl
 have d0:A0.defers=[]:=by rw[<- hA0]
 obtain⟨seed,bS,s0,s1,hBt,a0⟩:=S;have hkl:kS<h.next:=hfit.lt bS;have e1:isOne bv=true:=by
  rcases hBt with⟨rfl,_⟩|⟨k,c,rt,rfl,_⟩<;>rfl
 by_cases hne:bs.length=0
 ·-- no bytes
  have hbv:∃ b c,bv=.slice b bs.length c:=by
   rcases hBt with⟨rfl,hbs⟩|⟨k,c,rt,rfl,_⟩
   ·exact⟨none,0,by rw[hbs];rfl⟩
   ·exact⟨_,_,rfl⟩
  obtain⟨b,c,hbv⟩:=hbv;have hgt:decide ((bs.length:Int)>0)=false:=by rw[hne];rfl
  have l0:h.cell E (aadd (own kS) 0)=some (.slice b bs.length c):=by rw[<- hbv];exact AS (i:=0) bS rfl e1
  have l2:h.cell E (aadd (own kS) 2)=some (.int .u64 seed):=AS (i:=2) bS rfl rfl;have st:∀ x,AO tab 93 (aadd (own kS) 2) (.int .u64 x) h=some (h.aa kS (.cells [bv,.int .i64 a,.int .u64 x] 95 none)):=fun x=>SI bS;have l3:∀ x,(h.aa kS (.cells [bv,.int .i64 a,.int .u64 x] 95 none)).cell E (aadd (own kS) 2)=some (.int .u64 x):=fun x=>AS (i:=2) (AD rfl) rfl rfl;refine Vwz (Z14 n0 g00 @LH @LG @ADu @ADt @l0 @l2 @WT @hgt @st @l3 @ABB @Yl) ?_;have m2:∀ x,Mod (fun k=>k=kS) h (h.aa kS (.cells [bv,.int .i64 a,.int .u64 x] 95 none)):=fun x=>(Mod.refl hfit).aa rfl rfl hkl;refine AW (v:=.int .i64 (IntKind.i64.wrap ((IntKind.u64.wrap (IntKind.u64.wrap (seed*6364136223846793005)+1442695040888963407)).fdiv 1099511627776))) (.inr rfl) (S0z d0) rfl (S0z n0) ⟨_,rfl,(ACl _).1,(ACl _).2,m2 _,a,⟨_,AD rfl,(QR _).1,(QR _).2,hBt.mod (m2 _) (fun k hk=>by subst hk;exact hM),a0⟩,Int.le_refl _,by omega⟩
 ·rcases hBt with⟨_,hbs0⟩|⟨k,c,rt,rfl,bk,hMk⟩
  ·rw[hbs0] at hne;exact absurd rfl hne
  have hgt:decide ((bs.length:Int)>0)=true:=by simp;omega
  have l0:h.cell E (aadd (own kS) 0)=some (.slice (some (own k)) bs.length c):=AS (i:=0) bS rfl rfl;have f0:(fresh h).cell E (aadd (own kS) 0)=some (.slice (some (own k)) bs.length c):=l0;have f1:(fresh h).cell E (aadd (own kS) 1)=some (.int .i64 a):=AS (h:=fresh h) (i:=1) bS rfl rfl;have f2:(fresh h).cell E (aadd (own kS) 2)=some (.int .u64 seed):=AS (h:=fresh h) (i:=2) bS rfl rfl;obtain⟨i,hi,hmod⟩:∃ i:Nat,i<bs.length/\a.tmod (bs.length:Int)=(i:Nat):=by
   refine⟨(a % (bs.length:Int)).toNat,?_,?_⟩
   ·have h1:=Int.emod_nonneg a (b:=(bs.length:Int)) (by omega);have h2:=Int.emod_lt_of_pos a (b:=(bs.length:Int)) (by omega);omega
   ·rw[Int.tmod_eq_emod_of_nonneg a0];have h1:=Int.emod_nonneg a (b:=(bs.length:Int)) (by omega);omega
  have hpos:(0:Int)<(bs.length:Int):=by omega
  have hir:AN (i:Int) bs.length=true:=by
   show Nat.blt i bs.length=true;rw[P0];exact hi
  have fb:(fresh h).cell E (aadd (own k) (i*1))=some (.int .u8 bs[i]):=AS (h:=fresh h) bk (by rw[V2,J3,Q0 hi];rfl) rfl;have st:∀ x,AO tab 93 (aadd (own kS) 2) (.int .u64 x) (fresh h)=some ((fresh h).aa kS (.cells [.slice (some (own k)) bs.length c,.int .i64 a,.int .u64 x] 95 none)):=fun x=>SI (g:=fresh h) bS;refine Vwz (Z7 n0 g00 @LH @ADu @l0 @WT @hgt) ?_;refine Wc.forget (fun A=>A.n=55/\A.defers=[]/\A.get 0=.pointer (some (own kS))) ⟨by simp +decide only[Gz,n0],by simp +decide only[Gz,d0],by simp +decide only[Gz,n0,g00]⟩ ?_;clear hA0 n0 g00 d0;rintro A0 ⟨n0,d0,g00⟩;refine Wc.ao 1 (by kernel_rfl) ?_
  (iterate 17 refine Ugz (Z12 n0 g00 @LH @OL @LG @ld3 @ADu @ADt @f0 @f1 @f2 @WT) ?_)
  refine FQ.pure (x:=.int .i64 (i:Nat)) rfl rfl (by simp +decide only[Ou,n0,AE0 hpos,hmod]) ?_
  (iterate 6 refine Ugz (Z10 n0 @LH @OL @LG @ld5 (fun a c=>AFs a _ c _ hir) @M0 @fb @AB7 g00) ?_)
  refine FQ.aa (k:=kS) rfl rfl hkl (by simp +decide only[Oz,n0,st];with_reducible rfl) ?_;refine FQ.nil ⟨?_,?_⟩
  ·refine FO (l:=[_,_,_,_,_,_,_,_,_,_,_,_,_,_,_,_,_,_,_,_,_,_,_,_]) ?_ (by kernel_rfl);simp only[V3,calm,List.isEmpty_nil,Bool.true_and,List.all_nil,Bool.and_true];rfl
  refine Wc.state (fun A g=>A.n=55/\A.defers=[]/\A.get 0=.pointer (some (own kS))/\∃ x,g=h.aa kS (.cells [.slice (some (own k)) bs.length c,.int .i64 a,.int .u64 x] 95 none)) ⟨by simp +decide only[Gz,n0],by simp +decide only[Gz,d0],by simp +decide only[Gz,n0,g00],_,rfl⟩ ?_;clear n0 d0 g00;rintro A0 g ⟨n0,d0,g00,x1,rfl⟩;have b1:(h.aa kS (.cells [.slice (some (own k)) bs.length c,.int .i64 a,.int .u64 x1] 95 none)).blk kS=some (.cells [.slice (some (own k)) bs.length c,.int .i64 a,.int .u64 x1] 95 none):=AD rfl;have m1:Mod (fun k=>k=kS) h (h.aa kS (.cells [.slice (some (own k)) bs.length c,.int .i64 a,.int .u64 x1] 95 none)):=(Mod.refl hfit).aa rfl rfl hkl;have nx1:(h.aa kS (.cells [.slice (some (own k)) bs.length c,.int .i64 a,.int .u64 x1] 95 none)).next=h.next:=Bx _ _ _;generalize h.aa kS (.cells [.slice (some (own k)) bs.length c,.int .i64 a,.int .u64 x1] 95 none)=g1 at b1 m1 nx1 ⊢;have l1:g1.cell E (aadd (own kS) 1)=some (.int .i64 a):=AS (i:=1) b1 rfl rfl;have wa:IntKind.i64.wrap (a+1)=a+1:=wrap64 (by omega) (by omega);have st2:AO tab 3 (aadd (own kS) 1) (.int .i64 (a+1)) g1=some (g1.aa kS (.cells [.slice (some (own k)) bs.length c,.int .i64 (a+1),.int .u64 x1] 95 none)):=ADX b1;generalize hg2:g1.aa kS (.cells [.slice (some (own k)) bs.length c,.int .i64 (a+1),.int .u64 x1] 95 none)=g2 at st2;have b2:g2.blk kS=some (.cells [.slice (some (own k)) bs.length c,.int .i64 (a+1),.int .u64 x1] 95 none):=by rw[<- hg2];exact AD rfl
  have m2:Mod (fun k=>k=kS) h g2:=by rw[<- hg2];exact m1.aa rfl rfl (by rw[nx1];exact hkl)
  have nx2:g2.next=h.next:=by rw[<- hg2,Bx];exact nx1
  have l2:g2.cell E (aadd (own kS) 2)=some (.int .u64 x1):=AS (i:=2) b2 rfl rfl;have st3:∀ x,AO tab 93 (aadd (own kS) 2) (.int .u64 x) g2=some (g2.aa kS (.cells [.slice (some (own k)) bs.length c,.int .i64 (a+1),.int .u64 x] 95 none)):=fun x=>SI b2;have l3:∀ x,(g2.aa kS (.cells [.slice (some (own k)) bs.length c,.int .i64 (a+1),.int .u64 x] 95 none)).cell E (aadd (own kS) 2)=some (.int .u64 x):=fun x=>AS (i:=2) (AD rfl) rfl rfl;refine Vwz (Z14 n0 g00 @OL @LG @ld3 @ADt @l1 @wa @st2 @l2 @st3 @l3 @ABB @Yl) ?_;have m3:∀ x,Mod (fun k=>k=kS) h (g2.aa kS (.cells [.slice (some (own k)) bs.length c,.int .i64 (a+1),.int .u64 x] 95 none)):=fun x=>m2.aa rfl rfl (by rw[nx2];exact hkl);refine AW (v:=.int .i64 (IntKind.i64.wrap ((IntKind.u64.wrap (IntKind.u64.wrap (x1*6364136223846793005)+1442695040888963407)).fdiv 1099511627776))) (.inr rfl) (S0z d0) rfl (S0z n0) ⟨_,rfl,(ACl _).1,(ACl _).2,m3 _,a+1,⟨_,AD rfl,(QR _).1,(QR _).2,.inr ⟨k,c,rt,rfl,(m3 _).blk _ _ (fun e=>hMk (by rw[e];exact hM)) bk,hMk⟩,by omega⟩,by omega,Int.le_refl _⟩
theorem It (hI:∀ f args h,(f=117\/f=88)->I f args h=none) {M:Nat->Prop} {kS:Nat} (hM:M kS) {bv:Value} {bs:List Int} {h:H} {a:Int} (hfit:Fit h) (S:Sto M kS bv bs h a) (ha:a<=1000000000) (hbs:bs.length<=1000000) (m:Int) (hm:0<m) :
  ∃ n v h',(ev tab E I n).call 88 [.pointer (some (own kS)),.int .i64 m] h=some (v,h')/\(∃ d,v=.int .i64 d/\0<=d/\d<m/\Mod (fun k=>k=kS) h h'/\∃ a',Sto M kS bv bs h' a'/\a<=a'/\a'<=a+1):=by
 obtain⟨nf,v1,h1,hc,d,rfl,e0,e1,m1,a',S',a1,a2⟩:=AAE (E:=E) (I:=I) (fun args h=>hI _ args h (.inl rfl)) hM hfit S ha hbs;refine Wc.call (hI _ _ _ (.inr rfl)) AF7 rfl ?_;generalize hA0:(⟨T.ofList [.pointer (some (own kS)),.int .i64 m] 0 .nil,max ([.pointer (some (own kS)),.int .i64 m]:List Value).length Tryz.f88.ntmps,[]⟩:Ac)=A0;have n0:A0.n=11:=by rw[<- hA0];rfl
 have g00:A0.get 0=.pointer (some (own kS)):=by rw[<- hA0];rfl
 have g01:A0.get 1=.int .i64 m:=by rw[<- hA0];rfl
 have d0:A0.defers=[]:=by rw[<- hA0]
 have hle:decide (m<=0)=false:=by simp;omega
 repeat' (with_reducible apply Wc.seq)
 refine Wc.ops (by (repeat ((with_reducible apply Rr rfl);focus ((try simp +decide only[Oz,n0]);with_reducible rfl)));with_reducible exact Rn) ?_
 repeat' (with_reducible apply Wc.seq)
 refine Wc.ops (by (repeat ((with_reducible apply Rr rfl);focus ((try simp +decide only[Oz,n0,g01,hle]);with_reducible rfl)));with_reducible exact Rn) ?_
 repeat' (with_reducible apply Wc.seq)
 refine Wc.dy (by simp +decide only[Oz,n0];try with_reducible rfl) (fun hb => ?_) (fun hb => ?_)<;>try contradiction
 refine Wc.skip ?_
 repeat' (with_reducible apply Wc.seq)
 refine Wc.fo nf ?_
 (iterate 3 (first|((with_reducible apply RQ.run (Ai rfl));focus ((try simp +decide only[Oz,n0,g00,g01,hc]);with_reducible rfl))|((with_reducible apply RQ.bq);(focus rfl);(focus rfl);(focus (simp +decide only[Oz,n0,g00,g01,hc];done));focus ((try simp +decide only[Oz,n0,g00,g01,hc]);with_reducible rfl))|((with_reducible apply RQ.aw);(focus rfl);(focus rfl);focus (simp +decide only[Oz,n0,g00,g01,hc];done))))
 refine RQ.run (x:=.int .i64 (d.tmod m)) (Ai rfl) (by simp +decide only[Ou,n0,AE0 hm];with_reducible rfl) ?_
 (iterate 1 (first|((with_reducible apply RQ.run (Ai rfl));focus ((try simp +decide only[Oz,n0]);with_reducible rfl))|((with_reducible apply RQ.bq);(focus rfl);(focus rfl);(focus (simp +decide only[Oz,n0];done));focus ((try simp +decide only[Oz,n0]);with_reducible rfl))|((with_reducible apply RQ.aw);(focus rfl);(focus rfl);focus (simp +decide only[Oz,n0];done))))
 refine RQ.nil ?_;refine Wc.ret ?_;refine AW (v:=.int .i64 (d.tmod m)) (.inr rfl) (S0z d0) rfl (S0z n0) ⟨_,rfl,?_,?_,m1,a',S',a1,a2⟩
 ·rw[Int.tmod_eq_emod_of_nonneg e0];exact Int.emod_nonneg _ (by omega)
 ·rw[Int.tmod_eq_emod_of_nonneg e0];exact Int.emod_lt_of_pos _ hm
theorem Tx (hI:∀ f args h,(f=117\/f=88\/f=87)->I f args h=none) {M:Nat->Prop} {kS:Nat} (hM:M kS) {bv:Value} {bs:List Int} {h:H} {a:Int} (hfit:Fit h) (S:Sto M kS bv bs h a) (ha:a<=1000000000) (hbs:bs.length<=1000000) (lo hi:Int) (h0:0<=lo) (h1:lo<=hi) (h2:hi<=1000000) :
  ∃ n v h',(ev tab E I n).call 87 [.pointer (some (own kS)),.int .i64 lo,.int .i64 hi] h=some (v,h')/\(∃ d,v=.int .i64 d/\lo<=d/\d<=hi/\Mod (fun k=>k=kS) h h'/\∃ a',Sto M kS bv bs h' a'/\a<=a'/\a'<=a+1):=by
 obtain⟨nf,v1,h1',hc,d,rfl,e0,e1,m1,a',S',a1,a2⟩:=It (E:=E) (I:=I) (fun f args h hf=>hI f args h (by rcases hf with h|h<;>simp[h])) hM hfit S ha hbs (hi-lo+1) (by omega);refine Wc.call (hI _ _ _ (.inr (.inr rfl))) AF8 rfl ?_;generalize hA0:(⟨T.ofList [.pointer (some (own kS)),.int .i64 lo,.int .i64 hi] 0 .nil,max ([.pointer (some (own kS)),.int .i64 lo,.int .i64 hi]:List Value).length Tryz.f87.ntmps,[]⟩:Ac)=A0;have n0:A0.n=15:=by rw[<- hA0];rfl
 have g00:A0.get 0=.pointer (some (own kS)):=by rw[<- hA0];rfl
 have g01:A0.get 1=.int .i64 lo:=by rw[<- hA0];rfl
 have g02:A0.get 2=.int .i64 hi:=by rw[<- hA0];rfl
 have d0:A0.defers=[]:=by rw[<- hA0]
 have w1:IntKind.i64.wrap (hi-lo)=hi-lo:=wrap64 (by omega) (by omega);have w2:IntKind.i64.wrap (hi-lo+1)=hi-lo+1:=wrap64 (by omega) (by omega);have w3:IntKind.i64.wrap (lo+d)=lo+d:=wrap64 (by omega) (by omega);refine Vnz nf (Z8 n0 g00 g01 g02 @w1 @w2 @w3 @hc) ?_;exact AW (v:=.int .i64 (lo+d)) (.inr rfl) (S0z d0) rfl (S0z n0) ⟨_,rfl,by omega,by omega,m1,a',S',a1,a2⟩
theorem PM (hI:∀ f args h,(f=117\/f=88\/f=89)->I f args h=none) {M:Nat->Prop} {kS:Nat} (hM:M kS) {bv:Value} {bs:List Int} {h:H} {a:Int} (hfit:Fit h) (S:Sto M kS bv bs h a) (ha:a<=1000000000) (hbs:bs.length<=1000000) (m:Int) (hm:0<m) :
  ∃ n v h',(ev tab E I n).call 89 [.pointer (some (own kS)),.int .i64 m] h=some (v,h')/\(∃ b,v=.bool b/\Mod (fun k=>k=kS) h h'/\∃ a',Sto M kS bv bs h' a'/\a<=a'/\a'<=a+1):=by
 obtain⟨nf,v1,h1',hc,d,rfl,e0,e1,m1,a',S',a1,a2⟩:=It (E:=E) (I:=I) (fun f args h hf=>hI f args h (by rcases hf with h|h<;>simp[h])) hM hfit S ha hbs m hm;refine Wc.call (hI _ _ _ (.inr (.inr rfl))) AF6 rfl ?_;generalize hA0:(⟨T.ofList [.pointer (some (own kS)),.int .i64 m] 0 .nil,max ([.pointer (some (own kS)),.int .i64 m]:List Value).length Tryz.f89.ntmps,[]⟩:Ac)=A0;have n0:A0.n=9:=by rw[<- hA0];rfl
 have g00:A0.get 0=.pointer (some (own kS)):=by rw[<- hA0];rfl
 have g01:A0.get 1=.int .i64 m:=by rw[<- hA0];rfl
 have d0:A0.defers=[]:=by rw[<- hA0]
 refine Vnz nf (Z4 n0 g00 g01 @hc) ?_;exact AW (v:=.bool (decide (d=0))) (.inr rfl) (S0z d0) rfl (S0z n0) ⟨_,rfl,m1,a',S',a1,a2⟩
end Go.Proofs.YtofijpbmbmbnhaaGreatDoor
