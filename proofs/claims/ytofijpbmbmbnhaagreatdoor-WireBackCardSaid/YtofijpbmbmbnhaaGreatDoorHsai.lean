/- The program's reader: the item of bytes. -/
import Derived.Test.YtofijpbmbmbnhaaGreatDoorHsah
set_option linter.unusedSimpArgs false
set_option linter.unusedVariables false
set_option maxRecDepth 100000
set_option maxHeartbeats 16000000
namespace Go.Proofs.YtofijpbmbmbnhaaGreatDoor
open Go Go.Hs Go.Proofs
variable {E:Env} {I:Aa}
theorem AGF:tab.fn.get 70=some Tryz.f70:=by kernel_rfl
theorem AGX:tab.fn.get 29=some Tryz.f29:=by kernel_rfl
theorem Ki {h:H} {v:Value} {bs:List UInt8} (b:Byt E h v bs):AQ tab E 44 9 v h=some (.string ⟨⟨bs⟩⟩,h):=by
 unfold AQ;rcases b with⟨rfl,rfl⟩|⟨a,c,rfl,_,hc⟩
 ·simp only[qty31,qty9,qty5]
 ·simp only[qty31,qty9,qty5,hc,Ca]
theorem ABd (s:Value) (h:s.cells.toList=[s]):BX tab 114 [(0,s)]=some (.agg ⟨[s,.int .i64 0,.int .i64 0]⟩):=by
 unfold BX;simp only[Sl,afill,h];rfl
theorem ABc (a b c:Value):BX tab 116 [(0,.agg ⟨[a,b,c]⟩)]=some (.agg ⟨[a,b,c,.int .i64 0]⟩):=by unfold BX;simp only[Np];rfl
theorem F8 {D:Tab} {E:Env} {fn:Func} {A:Ac} {h:H} {c t u:Tmp} {ty:TypeId} {a:Addr} {v x y:Value} {ex:Ex} {Q:Value->H->Prop} (hex:ex=.normal\/ex=.ret) (hd:A.defers=[]) (hr:fn.results=#[.cell c ty,.tmp t,.tmp u]) (hc:A.get c=.pointer (some a)) (hl:AI D E ty a h=some v) (hv:A.get t=x) (hx:A.get u=y) (hq:Q (.tuple #[v,x,y]) h) :
  (ex=.normal\/ex=.ret)/\∃ h2 v',Ay A.defers h=some h2/\ED D E fn A h2=some v'/\Q v' h2:=by
 refine⟨hex,h,_,?_,?_,hq⟩
 ·rw[hd];rfl
 ·unfold ED;rw[hr];simp only[Dl,ares1,hc,hl,hv,hx]
theorem SC (hI:∀ f args h,(f=70\/f=101)->I f args h=none) {k:Nat} {bs:List UInt8} {p:Nat} {e:Int} {it:Nat} {g:H} (f:Fit g) (b:Src k bs p e it g) (hp:p<=bs.length) (is:Bool) (l:List Value) (hl:l.length=4) (hl1:l.all isOne=true) :
  ∃ n v g',(ev tab E I n).call 70 [.pointer (some (own k)),.agg ⟨l⟩,.bool is] g=some (v,g')/\(Mod (fun j=>j=k) g g'/\v=if is=true then (if p<bs.length then .tuple #[.agg ⟨zeroL⟩,.int .i64 (p:Nat),.int .i64 4] else .tuple #[.agg ⟨l⟩,.int .i64 0,.int .i64 0]) else .tuple #[.agg ⟨zeroL⟩,.int .i64 (p:Nat),.int .i64 e]):=by
 apply Wk (hI _ _ _ (.inl rfl)) AGF rfl;intro A0 n0 d0 hA0;change A0.n=47 at n0;have q0:A0.get 0=.pointer (some (own k)):=hA0 0 _ rfl;have q1:A0.get 1=.agg ⟨l⟩:=hA0 1 _ rfl;have q2:A0.get 2=.bool is:=hA0 2 _ rfl;clear hA0;obtain⟨l0,l1,l2,l3,rfl⟩:=Tz hl;obtain⟨h1,hh1,t1,b4⟩:=nA f [l0,l1,l2,l3] 24;have n1:h1.next=g.next+1:=by rw[<- hh1];rfl
 generalize hh2:h1.new (.cells (Value.agg #[.int .i64 0,.int .i64 0,.string ⟨#[]⟩,.slice none 0 0]).cells.toList 24 none)=h2;have t2:Ahd h1 h2:=by rw[<- hh2];exact Ahd.aj t1.fit rfl
 have b6:h2.blk h1.next=some (.cells zeroL 24 none):=by rw[<- hh2];exact AA rfl
 have t12:=t1.trans t2;have b4:=t2.grows _ _ b4;have kl:k<g.next:=f.lt b;have b2:=b.mod (t12.mod (M:=fun _=>False)) (fun h=>h);obtain⟨c0,c1,c2,c3⟩:=b2.at (E:=E);have st6:∀ {h:H} {a c d e:Value},[a,c,d,e].all isOne=true->h.blk h1.next=some (.cells zeroL 24 none)->AO tab 24 (own h1.next) (.agg ⟨[a,c,d,e]⟩) h=some (h.aa h1.next (.cells [a,c,d,e] 24 none)):=fun ho hb=>AU DW hb rfl rfl ho (by simp);have ld6:∀ {h:H} {a c d e:Value},[a,c,d,e].all isOne=true->(h.aa h1.next (.cells [a,c,d,e] 24 none)).cells E (own h1.next) 4=some [a,c,d,e]:=fun ho=>AG (AD rfl) rfl ho;have fr:∀ {h:H} {e':Int},Mod (fun j=>j=k) h2 h->Src k bs p e' it h->∃ h3,AO tab 24 (own h1.next) (.agg ⟨zeroL⟩) (fresh h)=some ((fresh h).aa h1.next (.cells zeroL 24 none))/\h.aa h1.next (.cells zeroL 24 none)=h3/\Mod (fun j=>j=k) g h3/\h3.cells E (own h1.next) 4=some zeroL/\h1.next<h.next:=by
  intro h e' m bb;have b6':=m.blk _ _ (by omega) b6;have m3:=(Mod.refl (M:=fun j=>j=h1.next) m.fit).aa (B:=.cells zeroL 24 none) rfl rfl (m.fit.lt b6');exact⟨_,st6 (h:=fresh h) rfl b6',rfl,Mod.low f ((t12.mod.trans (m.sub (N:=fun j=>j=k\/g.next<=j) fun _ h=>.inl h)).trans (m3.sub fun j hj=>.inr (by omega))) (fun _ h=>h),ld6 rfl,m.fit.lt b6'⟩
 cases is with
 | false=>
  obtain⟨h3,s3,hh3,m3,l3',lt3⟩:=fr (Mod.refl t12.fit) b2;refine Vw (Z7 n0 q0 q1 q2 @Cc @hh1 @hh2) ?_;refine Wc.al 1 (by kernel_rfl) ?_
  (iterate 15 refine UF (Z5 n0 q0 q2 @Qx @Hx) ?_)
  refine FC.nil ?_;refine Vw (Z2 n0 q2) ?_;refine Wc.ao 1 (by kernel_rfl) ?_
  (iterate 11 refine Ug (Z7 n0 q0 @Qx @Hx @c1 @c2 @Eh) ?_)
  refine FQ.aa (k:=h1.next) rfl rfl lt3 (by simp +decide only[Oy,n0,s3];with_reducible rfl) ?_;rw[hh3]
  (iterate 2 refine Ug n0 ?_)
  refine FQ.nil ⟨?_,?_⟩
  ·exact Az [11] 14 [(1,11),(2,11),(3,11),(4,11),(6,11),(7,11),(8,11),(9,11),(5,11),(10,11)] rfl rfl (by kernel_rfl) (fun _ _ _ _ hU e1 e2=>by simp only[O1,Prod.mk.injEq,C1,or_false] at hU;rcases hU with⟨rfl,rfl⟩|⟨rfl,rfl⟩|⟨rfl,rfl⟩|⟨rfl,rfl⟩|⟨rfl,rfl⟩|⟨rfl,rfl⟩|⟨rfl,rfl⟩|⟨rfl,rfl⟩|⟨rfl,rfl⟩|⟨rfl,rfl⟩;(focus (cases e1;cases e2;exact AK (l:=[]) rfl rfl (fun _ _=>C1) rfl (fun j _=>P1 _ _)));(focus (cases e1;cases e2;exact AK (l:=[]) rfl rfl (fun _ _=>C1) rfl (fun j _=>P1 _ _)));(focus (cases e1;cases e2;exact AK (l:=[]) rfl rfl (fun _ _=>C1) rfl (fun j _=>P1 _ _)));(focus (cases e1;cases e2;exact AK (l:=[]) rfl rfl (fun _ _=>C1) rfl (fun j _=>P1 _ _)));(focus (cases e1;cases e2;exact AK (l:=[]) rfl rfl (fun _ _=>C1) rfl (fun j _=>P1 _ _)));(focus (cases e1;cases e2;exact AK (l:=[]) rfl rfl (fun _ _=>C1) rfl (fun j _=>P1 _ _)));(focus (cases e1;cases e2;exact AK (l:=[]) rfl rfl (fun _ _=>C1) rfl (fun j _=>P1 _ _)));(focus (cases e1;cases e2;exact AK (l:=[]) rfl rfl (fun _ _=>C1) rfl (fun j _=>P1 _ _)));(focus (cases e1;cases e2;exact AK (l:=[k]) rfl (by simp +decide only[Oy,reads,pureOp,atV,n0,q0,aadd,own]) (fun j hj=>by have hj:=H1.1 hj;subst hj;simp only[H1];omega) rfl (fun j _=>P1 _ _)));(focus (cases e1;cases e2;exact AK (l:=[k]) rfl (by simp +decide only[Oy,reads,pureOp,atV,n0,q0,aadd,own]) (fun j hj=>by have hj:=H1.1 hj;subst hj;simp only[H1];omega) rfl (fun j _=>P1 _ _))))
  refine Wc.ret ?_;exact F8 (v:=.agg ⟨zeroL⟩) (x:=.int .i64 (p:Nat)) (y:=.int .i64 e) (.inr rfl) (S0 d0) rfl (show _=Value.pointer (some (own h1.next)) by simp +decide only[Gs,n0]) (by rw[qld25,l3']) (S0 n0) (S0 n0) ⟨m3,by simp⟩
 | true=>
  by_cases hlt:p<bs.length
  ·have e1:decide ((p:Int)<(bs.length:Int))=true:=by simp;omega
   obtain⟨nf,g',ck,m,b'⟩:=Ce (E:=E) (I:=I) (fun args h=>hI _ args h (.inr rfl)) t12.fit.fresh (show Src k bs p e it (fresh h2) from b2) 4 p;obtain⟨m',_,_,_⟩:=Mod.back t12.fit m;have b'':Src k bs p 4 it (back h2 g'):=b'.back;generalize hh4:back h2 g'=h4 at m' b'';obtain⟨h3,s3,hh3,m3,l3',lt3⟩:=fr m' b'';obtain⟨_,d1,d2,_⟩:=b''.at (E:=E);refine Vw (Z7 n0 q0 q1 q2 @Cc @hh1 @hh2) ?_;refine Wc.al 1 (by kernel_rfl) ?_
   (iterate 15 refine UF (Z8 n0 q0 q2 @Qx @Hx @c0 @c1 e1) ?_)
   refine FC.nil ?_;refine Vw n0 ?_;refine Wc.ao nf (by kernel_rfl) ?_
   (iterate 8 refine Ug (Z5 n0 q0 @Qx @Hx @c1) ?_)
   refine FQ.mod (h1:=g') (x:=.bool false) rfl rfl (by simp +decide only[Oy,n0,q0,Qx,Hx,ck]) ?_;rw[hh4]
   (iterate 1 refine Ug (Z2 n0 q0) ?_)
   refine FQ.nil ⟨?_,?_⟩
   ·exact Ah [8] 10 rfl rfl (by kernel_rfl)
   refine Vw n0 ?_;refine Wc.ao 1 (by kernel_rfl) ?_
   (iterate 11 refine Ug (Z7 n0 q0 @Qx @Hx @d1 @d2 @Eh) ?_)
   refine FQ.aa (k:=h1.next) rfl rfl lt3 (by simp +decide only[Oy,n0,s3];with_reducible rfl) ?_;rw[hh3]
   (iterate 2 refine Ug n0 ?_)
   refine FQ.nil ⟨?_,?_⟩
   ·exact Az [11] 14 [(1,11),(2,11),(3,11),(4,11),(6,11),(7,11),(8,11),(9,11),(5,11),(10,11)] rfl rfl (by kernel_rfl) (fun _ _ _ _ hU e1 e2=>by simp only[O1,Prod.mk.injEq,C1,or_false] at hU;rcases hU with⟨rfl,rfl⟩|⟨rfl,rfl⟩|⟨rfl,rfl⟩|⟨rfl,rfl⟩|⟨rfl,rfl⟩|⟨rfl,rfl⟩|⟨rfl,rfl⟩|⟨rfl,rfl⟩|⟨rfl,rfl⟩|⟨rfl,rfl⟩;(focus (cases e1;cases e2;exact AK (l:=[]) rfl rfl (fun _ _=>C1) rfl (fun j _=>P1 _ _)));(focus (cases e1;cases e2;exact AK (l:=[]) rfl rfl (fun _ _=>C1) rfl (fun j _=>P1 _ _)));(focus (cases e1;cases e2;exact AK (l:=[]) rfl rfl (fun _ _=>C1) rfl (fun j _=>P1 _ _)));(focus (cases e1;cases e2;exact AK (l:=[]) rfl rfl (fun _ _=>C1) rfl (fun j _=>P1 _ _)));(focus (cases e1;cases e2;exact AK (l:=[]) rfl rfl (fun _ _=>C1) rfl (fun j _=>P1 _ _)));(focus (cases e1;cases e2;exact AK (l:=[]) rfl rfl (fun _ _=>C1) rfl (fun j _=>P1 _ _)));(focus (cases e1;cases e2;exact AK (l:=[]) rfl rfl (fun _ _=>C1) rfl (fun j _=>P1 _ _)));(focus (cases e1;cases e2;exact AK (l:=[]) rfl rfl (fun _ _=>C1) rfl (fun j _=>P1 _ _)));(focus (cases e1;cases e2;exact AK (l:=[k]) rfl (by simp +decide only[Oy,reads,pureOp,atV,n0,q0,aadd,own]) (fun j hj=>by have hj:=H1.1 hj;subst hj;simp only[H1];omega) rfl (fun j _=>P1 _ _)));(focus (cases e1;cases e2;exact AK (l:=[k]) rfl (by simp +decide only[Oy,reads,pureOp,atV,n0,q0,aadd,own]) (fun j hj=>by have hj:=H1.1 hj;subst hj;simp only[H1];omega) rfl (fun j _=>P1 _ _))))
   refine Wc.ret ?_;exact F8 (v:=.agg ⟨zeroL⟩) (x:=.int .i64 (p:Nat)) (y:=.int .i64 4) (.inr rfl) (S0 d0) rfl (show _=Value.pointer (some (own h1.next)) by simp +decide only[Gs,n0]) (by rw[qld25,l3']) (S0 n0) (S0 n0) ⟨m3,by rw[if_pos rfl,if_pos hlt]⟩
  ·have e1:decide ((p:Int)<(bs.length:Int))=false:=by simp;omega
   have s3:=st6 hl1 b6;have m3:=(Mod.refl (M:=fun j=>j=h1.next) t12.fit).aa (B:=.cells [l0,l1,l2,l3] 24 none) rfl rfl (t12.fit.lt b6);have l4:h2.cells E (own g.next) 4=some [l0,l1,l2,l3]:=AG b4 rfl hl1;refine Vw (Z7 n0 q0 q1 q2 @Cc @hh1 @hh2) ?_;refine Wc.al 1 (by kernel_rfl) ?_
   (iterate 15 refine UF (Z8 n0 q0 q2 @Qx @Hx @c0 @c1 e1) ?_)
   refine FC.nil ?_;refine Vw (Z6 n0 q2 @Qx @Hx @l4 @s3) ?_;exact F8 (v:=.agg ⟨[l0,l1,l2,l3]⟩) (x:=.int .i64 0) (y:=.int .i64 0) (.inr rfl) (S0 d0) rfl (show _=Value.pointer (some (own h1.next)) by simp +decide only[Gs,n0]) (by rw[qld25,ld6 hl1]) (S0 n0) (S0 n0) ⟨Mod.low f (t12.mod.trans (m3.sub (N:=fun j=>j=k\/g.next<=j) fun j hj=>.inr (by omega))) (fun _ h=>h),by rw[if_pos rfl,if_neg hlt]⟩
def AAZ (E:Env) (r:Rd Hs.Item) (v:Value) (g:H):Prop:=match r with
 | .ok t _ _=>∃ l,v=.tuple #[.agg ⟨l⟩,.int .i64 0,.int .i64 0]/\rep E g t (.agg ⟨l⟩)
 | .bad p e=>v=.tuple #[.agg ⟨zeroL⟩,.int .i64 (p:Nat),.int .i64 e]
theorem AEY (hI:∀ f args h,(f=29\/f=70\/f=71\/f=128\/f=127\/f=126\/f=125\/f=103\/f=102\/f=101)->I f args h=none) {g:H} {v:Value} {bs:List UInt8} (f:Fit g) (hb:Byt E g v bs) (hl:bs.length<=1000000) :
  ∃ n x g',(ev tab E I n).call 29 [v] g=some (x,g')/\(Mod (fun _=>False) g g'/\AAZ E (ACm bs) x g'):=by
 obtain⟨va,vc,hv⟩:=hb.slice;apply Wk (hI _ _ _ (.inl rfl)) AGX rfl;intro A0 n0 d0 hA0;change A0.n=21 at n0;have q0:A0.get 0=v:=hA0 0 _ rfl;clear hA0;generalize hh1:g.new (.cells (Value.agg #[.int .i64 0,.int .i64 0,.string ⟨#[]⟩,.slice none 0 0]).cells.toList 24 none)=h1;have t1:Ahd g h1:=by rw[<- hh1];exact Ahd.aj f rfl
 have b2:h1.blk g.next=some (.cells zeroL 24 none):=by rw[<- hh1];exact AA rfl
 have ln:Cp tab 44 v h1=some (.int .i64 (bs.length:Nat)):=by rw[hv];exact Fq _ _ _
 have st:∀ {h:H} {l:List Value},l.length=4->l.all isOne=true->h.blk g.next=some (.cells zeroL 24 none)->AO tab 24 (own g.next) (.agg ⟨l⟩) h=some (h.aa g.next (.cells l 24 none)):=fun h4 ho hb=>AU DW hb (by rw[h4]) (by rw[h4];rfl) ho (by intro e;rw[e] at h4;simp at h4);have ld:∀ {h:H} {l:List Value},l.length=4->l.all isOne=true->(h.aa g.next (.cells l 24 none)).cells E (own g.next) 4=some l:=fun h4 ho=>AG (AD rfl) h4 ho;unfold ACm;by_cases hlong:65536<bs.length
 ·have e1:decide ((bs.length:Int)>65536)=true:=by simp;omega
  have s1:=st (l:=zeroL) rfl rfl b2;have m1:=(Mod.refl (M:=fun j=>j=g.next) t1.fit).aa (B:=.cells zeroL 24 none) rfl rfl (t1.fit.lt b2);refine Vw (Z8 n0 q0 @Cc @hh1 @ln e1 @Eh @s1) ?_;rw[if_pos hlong];exact F8 (v:=.agg ⟨zeroL⟩) (x:=.int .i64 0) (y:=.int .i64 11) (.inr rfl) (S0 d0) rfl (show _=Value.pointer (some (own g.next)) by simp +decide only[Gs,n0]) (by rw[qld25,ld rfl rfl]) (S0 n0) (S0 n0) ⟨Mod.low f (t1.mod.trans m1) (fun j hj=>.inr (by omega)),rfl⟩
 have e1:decide ((bs.length:Int)>65536)=false:=by simp;omega
 rw[if_neg hlong];have cv:=Ki (hb.grow t1.grows);have bu:=ABd (.string ⟨⟨bs⟩⟩) rfl;have bv:=ABc (.string ⟨⟨bs⟩⟩) (.int .i64 0) (.int .i64 0);obtain⟨h2,hh2,t2,b5⟩:=nT t1.fit [.string ⟨#[]⟩,.int .i64 0,.int .i64 0,.int .i64 0] 116;have s5:AO tab 116 (own h1.next) (.agg ⟨[.string ⟨⟨bs⟩⟩,.int .i64 0,.int .i64 0,.int .i64 0]⟩) h2=some (h2.aa h1.next (.cells [.string ⟨⟨bs⟩⟩,.int .i64 0,.int .i64 0,.int .i64 0] 116 none)):=AU Np b5 rfl rfl rfl (by simp);have t3:Ahd h1 (h2.aa h1.next (.cells [.string ⟨⟨bs⟩⟩,.int .i64 0,.int .i64 0,.int .i64 0] 116 none)):=t2.aa rfl (C0 _) (t2.fit.lt b5) t1.fit;have b5:Src h1.next bs 0 0 0 (h2.aa h1.next (.cells [.string ⟨⟨bs⟩⟩,.int .i64 0,.int .i64 0,.int .i64 0] 116 none)):=AD rfl;generalize h2.aa h1.next (.cells [.string ⟨⟨bs⟩⟩,.int .i64 0,.int .i64 0,.int .i64 0] 116 none)=h3 at s5 t3 b5;have b23:=t3.grows _ _ b2;have lt1:=t1.fit.lt b2;obtain⟨n1,v1,h4,c4,l,z,rfl,m4,hq⟩:=ABx (E:=E) (I:=I) (fun f args h hf=>hI f args h (by rcases hf with h|h|h|h|h|h|h|h<;>simp[h])) hl 250 (C0 _) h3 0 0 t3.fit b5 (C2 _) (by decide);have c4':(ev tab E I n1).call 71 [.pointer (some (own h1.next)),.int .i64 1] h3=some (.tuple #[.agg ⟨l⟩,z],h4):=c4;have hl4:l.length=4/\l.all isOne=true:=by
  unfold Uz at hq;split at hq
  ·obtain⟨_,_,_,_,rfl,h⟩:=Dd hq.2.2;exact⟨rfl,h⟩
  ·rw[hq.2.1];exact⟨rfl,rfl⟩
 have rok:=GR bs 250;have fin:∀ (is:Bool) (p:Nat) (e:Int) (it:Nat),z=.bool is->Src h1.next bs p e it h4->p<=bs.length->∀ (l5:List Value) (x y:Int),l5.length=4->l5.all isOne=true->(if is=true then (if p<bs.length then .tuple #[.agg ⟨zeroL⟩,.int .i64 (p:Nat),.int .i64 4] else .tuple #[.agg ⟨l⟩,.int .i64 0,.int .i64 0]) else .tuple #[.agg ⟨zeroL⟩,.int .i64 (p:Nat),.int .i64 e])=Value.tuple #[.agg ⟨l5⟩,.int .i64 x,.int .i64 y]->(∀ h,BL (only (fun r=>Nat.ble h3.next r) h4) h->AAZ E (match rdItem bs 250 0 0 with|.bad p e=>.bad p e|.ok t p items=>if p<bs.length then .bad p 4 else .ok t p items) (.tuple #[.agg ⟨l5⟩,.int .i64 x,.int .i64 y]) h)->
   Wc tab E I ⟨29,none⟩ (match Tryz.f29.body with|some c=>c|none=>.skip) A0 g (fun ex A h=>(ex=.normal\/ex=.ret)/\∃ h2 v,Ay A.defers h=some h2/\ED tab E Tryz.f29 A h2=some v/\(Mod (fun _=>False) g h2/\AAZ E (match rdItem bs 250 0 0 with|.bad p e=>.bad p e|.ok t p items=>if p<bs.length then .bad p 4 else .ok t p items) v h2)):=by
  intro is p e it hz bb hp l5 x y hl5 ho5 hv5 hQ;subst hz;obtain⟨n2,v2,h5,c5,m5,hv2⟩:=SC (E:=E) (I:=I) (fun f args h hf=>hI f args h (by rcases hf with h|h<;>simp[h])) m4.fit bb hp is l hl4.1 hl4.2;rw[hv5] at hv2;subst hv2;have b25:=m5.blk _ _ (by omega) (m4.blk _ _ (by omega) b23);have s6:=st hl5 ho5 b25;have m6:=(Mod.refl (M:=fun j=>j=g.next) m5.fit).aa (B:=.cells l5 24 none) rfl rfl (m5.fit.lt b25);have c4f:=(AX (D:=tab) (E:=E) I (E4 n1 n2)).call c4';have c5f:=(AX (D:=tab) (E:=E) I (C4 n1 n2)).call c5;simp only[Tryz.f29];refine Vw (Z12 n0 q0 @Cc @hh1 @ln e1 @cv @bu @bv @ABJ @hh2 @s5) ?_;refine Vn (max n1 n2) (Z4 n0 @c4f @c5f @s6) ?_;refine F8 (v:=.agg ⟨l5⟩) (x:=.int .i64 x) (y:=.int .i64 y) (.inr rfl) (S0 d0) rfl (show _=Value.pointer (some (own g.next)) by simp +decide only[Gs,n0]) (by rw[qld25,ld hl5 ho5]) (S0 n0) (S0 n0) ⟨?_,?_⟩
  ·refine Mod.low f (((t1.mod.trans t3.mod).trans ((m4.trans m5).sub (N:=fun j=>g.next<=j) fun j hj=>by omega)).trans (m6.sub fun j hj=>by omega)) (fun j hj=>.inr hj)
  ·refine hQ _ (fun j B hj => ?_);obtain⟨e1,ys,ty,r,o,rfl,e2⟩:=(BN m4.fit).1 hj;refine m6.blk _ _ (fun e => ?_) (m5.blk _ _ (fun e => ?_) e1)
   ·subst e;have:=m4.blk _ _ (by omega) b23;rw[this] at e1;cases e1
   ·subst e;rw[show h4.blk h1.next=_ from bb] at e1;cases e1
 generalize hr:rdItem bs 250 0 0=r at hq fin;cases r with
 | bad p e=>
  obtain⟨rfl,rfl,it,bb⟩:=hq;exact fin false p e it rfl bb (rok.2 _ _ _ _ hr (C2 _)).2 zeroL p e rfl rfl (by simp) (fun h _=>rfl)
 | ok t p it=>
  obtain⟨rfl,bb,hrt⟩:=hq;have hp:=(rok.1 _ _ _ _ _ hr).2.1;by_cases hlt:p<bs.length
  ·refine fin true p 0 it rfl bb hp zeroL p 4 rfl rfl (by rw[if_pos rfl,if_pos hlt]) (fun h _ => ?_);simp only[if_pos hlt];rfl
  ·refine fin true p 0 it rfl bb hp l 0 0 hl4.1 hl4.2 (by rw[if_pos rfl,if_neg hlt]) (fun h hg => ?_);simp only[if_neg hlt];exact⟨l,rfl,AJ hg hrt⟩
theorem AF4:tab.fn.get 91=some Tryz.f91:=by kernel_rfl
noncomputable def Td:Code:=loopOf Tryz.f91
theorem Pd (n:Int) {h:H}:AQ tab E 3 5 (.int .i64 n) h=some (.int .u8 (IntKind.u8.wrap n),h):=by unfold AQ;simp only[qty5,Rm]
theorem Sj (b:Option Addr) (n c:Nat):Ax tab 44 (.slice b n c)=some false:=by unfold Ax;rw[qty31]
theorem Vz (x:Int) {h:H}:AH tab 44 1 [(0,.int .u8 x)] h=some (.slice (some (own h.next)) 1 1,h.new (.cells [.int .u8 x] 5 none)):=by
 unfold AH;simp only[qty31,Rl];rfl
theorem AAS (m:Nat) (h:m<9223372036854775808):IntKind.i64.wrap (((BitVec.ofInt IntKind.i64.bits (m:Int) &&& BitVec.ofInt IntKind.i64.bits 127).toNat:Nat):Int)=((m % 128:Nat):Int):=by
 have e:(BitVec.ofInt IntKind.i64.bits (m:Int) &&& BitVec.ofInt IntKind.i64.bits ((127:Nat):Int)).toNat=m % 128:=by
  rw[Y5,Y5,BitVec.toNat_and,F6,F6];rw[show 2 ^ IntKind.i64.bits=18446744073709551616 from rfl,L4 (by omega),L4 (by omega)];exact F7 m 7
 have e':(BitVec.ofInt IntKind.i64.bits (m:Int) &&& BitVec.ofInt IntKind.i64.bits 127).toNat=m % 128:=e;rw[e'];exact QS (by omega)
theorem ABj (m:Nat) (h:m<128):IntKind.i64.wrap (((BitVec.ofInt IntKind.i64.bits (m:Int) ||| BitVec.ofInt IntKind.i64.bits 128).toNat:Nat):Int)=((m+128:Nat):Int):=or7 m 1 1 (by omega) (by omega) (by omega)
theorem AFj (m:Nat):DF .shr .i64 (m:Nat) 7=some (.int .i64 ((m / 128:Nat):Int)):=by
 show some (Value.int .i64 (((m:Nat):Int).fdiv (2 ^ min 7 64)))=_;rw[show (2:Int) ^ min 7 64=((128:Nat):Int) from rfl,D4 _ (Int.natCast_nonneg _)];rfl
theorem WL:∀ (n:Nat),n<2 ^ 63->(DE n).length<=20:=by
 have key:∀ (k n:Nat),n<128 ^ k->(DE n).length<=k+1:=by
  intro k;induction k with
  | zero=>intro n hn;rw[Nat.pow_zero] at hn;rw[Cm (by omega:n<128)];simp
  | succ k ih=>
   intro n hn;by_cases h:n<128
   ·rw[Cm h];simp
   ·rw[Fb h,I1];have:=ih (n / 128) (by rw[Nat.pow_succ] at hn;omega);omega
 intro n hn;exact Y0 (key 9 n (by omega)) (by decide)
theorem Hq {h:H} (f:Fit h) (x:Nat) (hx:x<256):∃ h1,Ahd h h1/\h.new (.cells [.int .u8 (x:Nat)] 5 none)=h1/\Byt E h1 (.slice (some (own h.next)) 1 1) [UInt8.ofNat x]:=by
 have t:Ahd h (h.new (.cells [.int .u8 (x:Nat)] 5 none)):=Ahd.aj f rfl;have b:(h.new (.cells [.int .u8 (x:Nat)] 5 none)).blk h.next=some (.cells [.int .u8 (x:Nat)] 5 none):=AA rfl;refine⟨_,t,rfl,.inr ⟨own h.next,1,rfl,C0 _,?_⟩⟩;have:=AG (E:=E) b rfl rfl;rw[show bytesV [UInt8.ofNat x]=[.int .u8 (x:Nat)] by simp only[bytesV,I3,List.map_nil,ofNat_toNat hx]];exact this
theorem TW (hI:∀ args h,I 91 args h=none) {g:H} (f:Fit g) (n:Nat) (hn:n<=1099511627776) :
  ∃ k v g',(ev tab E I k).call 91 [.int .i64 (n:Nat)] g=some (v,g')/\(Mod (fun _=>False) g g'/\Bol 5 g.next g'.next g' v (DE n)):=by
 have key:∀ (m:Nat) (acc:List UInt8) (sl:Value) (A0:Ac) (h:H),m<=n->acc++DE m=DE n->acc.length<=100->A0.n=20->A0.defers=[]->A0.get 0=.int .i64 (m:Nat)->A0.get 3=sl->Mod (fun _=>False) g h->Bol 5 g.next h.next h sl acc->
   Wc tab E I ⟨91,none⟩ (.loop Td) A0 h (fun ex A' h'=>ex=.exit 0/\A'.n=20/\A'.defers=[]/\∃ m acc sl,m<128/\acc++DE m=DE n/\acc.length<=110/\A'.get 0=.int .i64 (m:Nat)/\A'.get 3=sl/\Mod (fun _=>False) g h'/\Bol 5 g.next h'.next h' sl acc):=by
  intro m;induction m using Nat.strongRecOn with
  | ind m ih=>
  intro acc sl A0 h hm hacc hlen n0 d0 q0 q3 M K;by_cases hs:m<128
  ·have e1:decide ((m:Int)>127)=false:=by simp;omega
   apply Wc.loop;simp only[Td,loopOf,firstLoop,Option.getD,Tryz.f91];refine Vw (Z4 n0 q0 q3 e1) ?_;exact⟨rfl,by simp +decide only[Gs,n0],by simp +decide only[Gs,d0],m,acc,sl,hs,hacc,by omega,by simp +decide only[Gs,n0,q0],by simp +decide only[Gs,n0,q3],M,K⟩
  ·have e1:decide ((m:Int)>127)=true:=by simp;omega
   have fh:=M.fit;have a1:=AAS m (by omega);have o1:=ABj (m % 128) (by omega);have w8:IntKind.u8.wrap ((m % 128+128:Nat):Int)=((m % 128+128:Nat):Int):=Ee (by omega);have sh:=AFj m;have hbs:=Vz ((m % 128+128:Nat):Int) (h:=h);obtain⟨h1,t1,hh1,hby⟩:=Hq (E:=E) fh (m % 128+128) (by omega);rw[hh1] at hbs;have K1:=K.mod (t1.mod (M:=fun _=>False)) (fun _ _ h=>h.elim)
   obtain⟨sl',q,happ,K2,AP⟩:=H7 (D:=tab) (E:=E) (t:=44) (t2:=44) (by_:=1) t1.fit (Y0 M.next t1.next) t1.next K1 qty31 Rl rfl (Sj _ _ _) hby (by
    unfold roomy;simp only[K0,Z0,W1];omega)
   have M2:=AP.mod f (C0 _) (M.ahd t1);have hnb:=Fb hs;have hlt:acc.length+(DE m).length=(DE n).length:=by rw[<- hacc,D0]
   apply Wc.loop;simp only[Td,loopOf,firstLoop,Option.getD,Tryz.f91];refine Vw (Z11 n0 q0 q3 e1 @a1 @o1 @Pd @w8 @hbs @happ @sh) ?_;refine (ih (m / 128) (by omega) (acc++[UInt8.ofNat (m % 128+128)]) sl' _ q (by omega) (by rw[E1,<- hacc,hnb];rfl) ?_ ?_ ?_ ?_ ?_ M2 K2)
   ·rw[D0,W1];have h6:=WL n (by omega);have:=WK (m / 128);rw[hnb,I1] at hlt;omega
   ·simp +decide only[Gs,n0]
   ·simp +decide only[Gs,d0]
   ·simp +decide only[Gs,n0]
   ·simp +decide only[Gs,n0]
 apply Wk (hI _ _) AF4 rfl;intro A0 n0 d0 hA0;change A0.n=20 at n0;have q0:A0.get 0=.int .i64 (n:Nat):=hA0 0 _ rfl;clear hA0;refine Vw (Z2 n0 q0) ?_;refine (key n [] (.slice none 0 0) _ g (C0 _) rfl (by simp) ?_ ?_ ?_ ?_ (Mod.refl f) (Bol.nil _ _ _)).mono ?_
 ·simp +decide only[Gs,n0]
 ·simp +decide only[Gs,d0]
 ·simp +decide only[Gs,n0,q0]
 ·simp +decide only[Gs,n0]
 ·rintro ex A0 h ⟨rfl,n0,d0,m,acc,sl,hm,hacc,hlen,q0,q3,M,K⟩;simp only[if_true];have fh:=M.fit;have w8:IntKind.u8.wrap ((m:Nat):Int)=((m:Nat):Int):=Ee (by omega);have hbs:=Vz ((m:Nat):Int) (h:=h);obtain⟨h1,t1,hh1,hby⟩:=Hq (E:=E) fh m (by omega);rw[hh1] at hbs;have K1:=K.mod (t1.mod (M:=fun _=>False)) (fun _ _ h=>h.elim)
  obtain⟨sl',q,happ,K2,AP⟩:=H7 (D:=tab) (E:=E) (t:=44) (t2:=44) (by_:=1) t1.fit (Y0 M.next t1.next) t1.next K1 qty31 Rl rfl (Sj _ _ _) hby (by
   unfold roomy;simp only[K0,Z0,W1];omega)
  have M2:=AP.mod f (C0 _) (M.ahd t1);refine Vw (Z7 n0 q0 q3 @Pd @w8 @hbs @happ) ?_;refine AW (v:=sl') (.inr rfl) (S0 d0) rfl (S0 n0) ⟨M2,?_⟩;rw[<- hacc,Cm hm];exact K2
theorem AF5:tab.fn.get 90=some Tryz.f90:=by kernel_rfl
theorem AFx:tab.fn.get 98=some Tryz.f98:=by kernel_rfl
theorem AEG:tab.fn.get 120=some Tryz.f120:=by kernel_rfl
theorem VZ:tab.ty.get 173=some ⟨.slice 44 1 24,1,24,some (.slice none 0 0),true⟩:=by kernel_rfl
theorem Sp {h:H} (b:Option Addr) (n c:Nat):Cp tab 173 (.slice b n c) h=some (.int .i64 n):=by unfold Cp;rw[VZ]
theorem YQ (a:Addr) (n c:Nat) (i:Int) (hi:AN i n=true):AL tab 173 (.slice (some a) n c) (.int .i64 i)=some (.pointer (some (aadd a (i.toNat*1)))):=by unfold AL;simp only[VZ,hi]
theorem ABb {h:H} (n c:Nat):XR tab 44 (.slice none n c) h=some (.int .i64 c):=by unfold XR;rw[qty31]
theorem AFm (n:Nat) (hn:n<=70368744177664):Ax tab 3 (.int .i64 (n:Nat))=some true:=by
 unfold Ax;rw[Rm];have:Nat.ble n 70368744177664=true:=by rw[Z0];exact hn
 show (match Nat.ble n 70368744177664 with|true=>some true|false=>none)=some true;rw[this]
theorem AE3 {h:H}:Av tab 44 (.slice none 0 0) none (some (.int .i64 0)) none h=some (.slice none 0 0,h):=by
 unfold Av;rw[qty31];rfl
noncomputable def Kx:Code:=loopAt Tryz.f98 0
noncomputable def Kw:Code:=loopAt Tryz.f98 1
theorem _root_.Go.Hs.Mod.av {g h:H} (m:Mod (fun _=>False) g h):BL g h:=fun j B hj=>m.blk j B (fun h=>h) hj
theorem Zt (hI:∀ args h,I 120 args h=none) {g:H} (f:Fit g) (n:Nat) (h0:0<n) (hn:n<=1000000000) :
  ∃ k v g',(ev tab E I k).call 120 [.slice none 0 0,.int .i64 (n:Nat)] g=some (v,g')/\(Ahd g g'/\Con 5 g.next n g' v []):=by
 obtain⟨sl',q,happ,hsl,K,t⟩:=UU (D:=tab) (E:=E) (t:=44) (t2:=3) (by_:=1) f h0 qty31 Rl rfl (AFm n (by omega)) (by
  unfold roomy;simp only[K0,Z0];omega)
 have hsl:=hsl q;have w0:IntKind.i64.wrap (0-0)=0:=by rw[wrap64 (by omega) (by omega)];rfl
 have w1:IntKind.i64.wrap ((n:Int)-0)=(n:Int):=by rw[wrap64 (by omega) (by omega)];omega
 have e1:decide ((n:Int)<0)=false:=decide_eq_false (by omega);have e2:decide ((n:Int)>0)=true:=by simp;omega
 apply Wk (hI _ _) AEG rfl;intro A0 n0 d0 hA0;change A0.n=27 at n0;have q0:A0.get 0=.slice none 0 0:=hA0 0 _ rfl;have q1:A0.get 1=.int .i64 (n:Nat):=hA0 1 _ rfl;clear hA0;have qc0:∀ h,XR tab 44 (.slice none 0 0) h=some (.int .i64 0):=fun h=>ABb 0 0;have ql0:∀ h,Cp tab 44 (.slice none 0 0) h=some (.int .i64 0):=fun h=>Fq none 0 0;refine Vwz (Z12 n0 q0 q1 e1 @qc0 @ql0 @w0 @w1 e2 @AE3 @happ @hsl) ?_;exact AW (v:=sl') (.inr rfl) (S0z d0) rfl (S0z n0) ⟨t,K⟩
def Pcs (E:Env) (g:H) (L:List (Value×List UInt8)):Prop:=∀ x∈L,Byt E g x.1 x.2
def En (L:List (Value×List UInt8)):List UInt8:=L.flatMap (·.2)
theorem JJ {L:List (Value×List UInt8)} {i:Nat} (hi:i<L.length):En (L.take (i+1))=En (L.take i)++(L[i]).2:=by
 unfold En;rw[List.take_succ_eq_append_getElem hi,List.flatMap_append];simp
theorem Us {L:List (Value×List UInt8)} (i:Nat):(En (L.take i)).length<=(En L).length:=by
 have:En L=En (L.take i)++En (L.drop i):=by
  unfold En;rw[<- List.flatMap_append,List.take_append_drop]
 rw[this,D0];omega
theorem Mq (hI:∀ f args h,(f=98\/f=120)->I f args h=none) {g:H} {L:List (Value×List UInt8)} {kp c:Nat} (f:Fit g) (hb:g.blk kp=some (.cells (L.map (·.1)) 44 none)) (P:Pcs E g L) (h0:0<(En L).length) (hn:(En L).length<=1000000) (hl:L.length<=1000) :
  ∃ k v g',(ev tab E I k).call 98 [.slice (some (own kp)) L.length c] g=some (v,g')/\(Mod (fun _=>False) g g'/\∃ n,Con 5 g.next n g' v (En L)):=by
 have one:∀ i (hi:i<L.length),isOne (L[i]).1=true/\∃ b c,(L[i]).1=.slice b (L[i]).2.length c:=fun i hi=>by
  obtain⟨b,c,h1⟩:=(P _ (Q5 hi)).slice;exact⟨by rw[h1];rfl,b,c,h1⟩
 have ld:∀ (h:H) i (hi:i<L.length),h.blk kp=some (.cells (L.map (·.1)) 44 none)->h.cell E (aadd (own kp) (i*1))=some (L[i]).1:=fun h i hi hb=>by
  rw[Aq hb,V2,J3,Q0 hi];exact YU (one i hi).1
 have ln:∀ (h:H) i (hi:i<L.length),Cp tab 44 (L[i]).1 h=some (.int .i64 ((L[i]).2.length:Nat)):=fun h i hi=>by
  obtain⟨b,c,h1⟩:=(one i hi).2;rw[h1];exact Fq _ _ _
 have ir:∀ i,i<L.length->AN (i:Int) L.length=true:=fun i hi=>by
  show Nat.blt i L.length=true;rw[P0];exact hi
 have key1:∀ (r i:Nat) (A0:Ac),r=L.length-i->i<=L.length->A0.n=36->A0.defers=[]->A0.get 0=.slice (some (own kp)) L.length c->A0.get 3=.int .i64 ((En (L.take i)).length:Nat)->A0.get 9=.slice (some (own kp)) L.length c->A0.get 10=.int .i64 (L.length:Nat)->A0.get 11=.int .i64 (i:Nat)->
   Wc tab E I ⟨98,none⟩ (.loop Kx) A0 g (fun ex A' h'=>ex=.exit 0/\A'.n=36/\A'.defers=[]/\A'.get 0=.slice (some (own kp)) L.length c/\A'.get 3=.int .i64 ((En L).length:Nat)/\h'=g):=by
  intro r;induction r with
  | zero=>
   intro i A0 hr hi n0 d0 q0 q3 q9 q10 q11;obtain rfl:i=L.length:=by omega
   have e1:decide ((L.length:Int)<(L.length:Int))=false:=by simp
   rw[List.take_length] at q3;apply Wc.loop;simp only[Kx,loopAt,loops,List.getD,Option.getD,Tryz.f98,E1,W0,V0,X0,N2,E2];refine Vwz (Z4 n0 q10 q11 e1) ?_;exact⟨rfl,by simp +decide only[Gz,n0],by simp +decide only[Gz,d0],by simp +decide only[Gz,n0,q0],by simp +decide only[Gz,n0,q3],rfl⟩
  | succ r ih=>
   intro i A0 hr hi n0 d0 q0 q3 q9 q10 q11;have hil:i<L.length:=by omega
   have e1:decide ((i:Int)<(L.length:Int))=true:=by simp;omega
   have hle:=Us (L:=L) (i+1);have hs:(En (L.take (i+1))).length=(En (L.take i)).length+(L[i]).2.length:=by rw[JJ hil,D0]
   have w1:IntKind.i64.wrap (((En (L.take i)).length:Int)+((L[i]).2.length:Int))=((En (L.take (i+1))).length:Int):=by rw[wrap64 (by omega) (by omega)];omega
   have e2:decide (((En (L.take (i+1))).length:Int)<0)=false:=decide_eq_false (by omega);have w3:IntKind.i64.wrap ((i:Int)+1)=((i+1:Nat):Int):=wrap64 (by omega) (by omega);have l1:=ld g i hil hb;have l2:=ln g i hil;apply Wc.loop;simp only[Kx,loopAt,loops,List.getD,Option.getD,Tryz.f98,E1,W0,V0,X0,N2,E2];refine Vwz (Z15 n0 q0 q3 q9 q10 q11 e1 (fun a c=>YQ a _ c _ (ir i hil)) @M0 @Qx @l1 @l2 @w1 e2 @w3) ?_;refine ih (i+1) _ (by omega) (by omega) ?_ ?_ ?_ ?_ ?_ ?_ ?_
   ·simp +decide only[Gz,n0]
   ·simp +decide only[Gz,d0]
   ·simp +decide only[Gz,n0,q0]
   ·simp +decide only[Gz,n0]
   ·simp +decide only[Gz,n0,q9]
   ·simp +decide only[Gz,n0,q10]
   ·simp +decide only[Gz,n0]
 have key2:∀ (r i n base:Nat) (sl:Value) (A0:Ac) (h:H),r=L.length-i->i<=L.length->n=(En L).length->g.next<=base->h.mark<=base->A0.n=36->A0.defers=[]->A0.get 6=sl->A0.get 25=.slice (some (own kp)) L.length c->A0.get 26=.int .i64 (L.length:Nat)->A0.get 27=.int .i64 (i:Nat)->Mod (fun _=>False) g h->Con 5 base n h sl (En (L.take i))->
   Wc tab E I ⟨98,none⟩ (.loop Kw) A0 h (fun ex A' h'=>ex=.exit 2/\A'.n=36/\A'.defers=[]/\∃ sl,A'.get 6=sl/\Mod (fun _=>False) g h'/\Con 5 base n h' sl (En L)):=by
  intro r;induction r with
  | zero=>
   intro i n base sl A0 h hr hi hnn hbs hm n0 d0 q6 q25 q26 q27 M K;obtain rfl:i=L.length:=by omega
   have e1:decide ((L.length:Int)<(L.length:Int))=false:=by simp
   rw[List.take_length] at K;apply Wc.loop;simp only[Kw,loopAt,loops,List.getD,Option.getD,Tryz.f98,E1,W0,V0,X0,N2,E2];refine Vwz (Z4 n0 q26 q27 e1) ?_;exact⟨rfl,by simp +decide only[Gz,n0],by simp +decide only[Gz,d0],sl,by simp +decide only[Gz,n0,q6],M,K⟩
  | succ r ih=>
   intro i n base sl A0 h hr hi hnn hbs hm n0 d0 q6 q25 q26 q27 M K;have hil:i<L.length:=by omega
   have e1:decide ((i:Int)<(L.length:Int))=true:=by simp;omega
   have hle:=Us (L:=L) (i+1);have hs:(En (L.take (i+1))).length=(En (L.take i)).length+(L[i]).2.length:=by rw[JJ hil,D0]
   have w3:IntKind.i64.wrap ((i:Int)+1)=((i+1:Nat):Int):=wrap64 (by omega) (by omega);have l1:=ld h i hil (M.av _ _ hb);obtain⟨b,c',hsl⟩:=(one i hil).2
   obtain⟨sl',q,happ,K2,hM⟩:=Wu (D:=tab) (E:=E) (t:=44) (t2:=44) (by_:=1) (x:=(L[i]).1) M.fit hm K qty31 Rl rfl (by rw[hsl];exact Sj _ _ _) ((P _ (Q5 hil)).grow M.av) (by omega) (by
    unfold roomy;simp only[K0,Z0];omega)
   have M2:=hM _ _ f hbs M;rw[<- JJ hil] at K2;apply Wc.loop;simp only[Kw,loopAt,loops,List.getD,Option.getD,Tryz.f98,E1,W0,V0,X0,N2,E2];refine Vwz (Z12 n0 q6 q25 q26 q27 e1 (fun a c=>YQ a _ c _ (ir i hil)) @M0 @Qx @l1 @happ @w3) ?_;refine ih (i+1) n base sl' _ q (by omega) (by omega) hnn hbs (by rw[M2.mark,<- M.mark];exact hm) ?_ ?_ ?_ ?_ ?_ ?_ M2 K2
   ·simp +decide only[Gz,n0]
   ·simp +decide only[Gz,d0]
   ·simp +decide only[Gz,n0]
   ·simp +decide only[Gz,n0,q25]
   ·simp +decide only[Gz,n0,q26]
   ·simp +decide only[Gz,n0]
 obtain⟨nf,v,g1,cg,t1,K1⟩:=Zt (E:=E) (I:=I) (fun args h=>hI _ args h (.inr rfl)) f (En L).length h0 (by omega);apply Wk (hI _ _ _ (.inl rfl)) AFx rfl;intro A0 n0 d0 hA0;change A0.n=36 at n0;have q0:A0.get 0=.slice (some (own kp)) L.length c:=hA0 0 _ rfl;clear hA0;refine Vwz (Z3 n0 q0 @Sp) ?_;refine (key1 L.length 0 _ rfl (C2 _) ?_ ?_ ?_ ?_ ?_ ?_ ?_).mono ?_
 ·simp +decide only[Gz,n0]
 ·simp +decide only[Gz,d0]
 ·simp +decide only[Gz,n0,q0]
 ·simp +decide only[Gz,n0];rfl
 ·simp +decide only[Gz,n0]
 ·simp +decide only[Gz,n0]
 ·simp +decide only[Gz,n0];rfl
 ·rintro ex A0 h ⟨rfl,n0,d0,q0,q3,rfl⟩;simp only[if_true];refine Vnz nf (Z5 n0 q0 q3 @cg @Sp) ?_;refine (key2 L.length 0 _ h.next v _ g1 rfl (C2 _) rfl (C0 _) (by rw[t1.mark];exact f.ok.2) ?_ ?_ ?_ ?_ ?_ ?_ t1.mod K1).mono ?_
  ·simp +decide only[Gz,n0]
  ·simp +decide only[Gz,d0]
  ·simp +decide only[Gz,n0]
  ·simp +decide only[Gz,n0]
  ·simp +decide only[Gz,n0]
  ·simp +decide only[Gz,n0];rfl
  ·rintro ex A0 h2 ⟨rfl,n0,d0,sl,q6,M,K⟩;simp only[if_true];refine Vwz (Z2 n0 q6) ?_;exact AW (v:=sl) (.inr rfl) (S0z d0) rfl (S0z n0) ⟨M,_,K⟩
theorem Ye (hI:∀ f args h,(f=90\/f=98\/f=120)->I f args h=none) {g:H} {L:List (Value×List UInt8)} {kp c:Nat} (f:Fit g) (hb:g.blk kp=some (.cells (L.map (·.1)) 44 none)) (P:Pcs E g L) (h0:0<(En L).length) (hn:(En L).length<=1000000) (hl:L.length<=1000) :
  ∃ k v g',(ev tab E I k).call 90 [.slice (some (own kp)) L.length c] g=some (v,g')/\(Mod (fun _=>False) g g'/\∃ n,Con 5 g.next n g' v (En L)):=by
 obtain⟨nf,v,g1,cg,M,K⟩:=Mq (E:=E) (I:=I) (fun f args h hf=>hI f args h (.inr hf)) (c:=c) f hb P h0 hn hl;apply Wk (hI _ _ _ (.inl rfl)) AF5 rfl;intro A0 n0 d0 hA0;change A0.n=5 at n0;have q0:A0.get 0=.slice (some (own kp)) L.length c:=hA0 0 _ rfl;clear hA0;refine Vnz nf (Z3 n0 q0 @cg) ?_;exact AW (v:=v) (.inr rfl) (S0z d0) rfl (S0z n0) ⟨M,K⟩
end Go.Proofs.YtofijpbmbmbnhaaGreatDoor
