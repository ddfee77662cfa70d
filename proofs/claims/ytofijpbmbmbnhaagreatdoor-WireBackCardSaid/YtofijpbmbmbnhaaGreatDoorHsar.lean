/- An item is printed: the walk, second part. -/
import Derived.Test.YtofijpbmbmbnhaaGreatDoorHsaq
set_option linter.unusedSimpArgs false
set_option linter.unusedVariables false
set_option maxRecDepth 100000
set_option maxHeartbeats 16000000
namespace Go.Proofs.YtofijpbmbmbnhaaGreatDoor
open Go Go.Hs Go.Proofs
variable {E:Env} {I:Aa}
theorem TF (hI:∀ f args h,(f=64\/f=92\/f=94\/f=97)->I f args h=none) (kp:Kp I) {h0:H} (f0:Fit h0) {kB:Nat} (hB:h0.next<=kB) :
  ∀ (s:Nat) (t:Hs.Item) (xv:Value) (bs:List UInt8) (g:H),isz t<=s->rep E h0 t xv->Bu t->isz t<=5000->BL h0 g->Fit g->h0.next<=g.next->Bld 100 kB h0.next g bs->bs.length+(Cq t).length<=100000000->
   ∃ n v g',(ev tab E I n).call 64 [.pointer (some (own kB)),xv] g=some (v,g')/\(v=.tuple #[]/\Xo h0.next 5 kB none g g'/\Bld 100 kB h0.next g' (bs++Cq t)):=by
 intro s;induction s with
 | zero=>intro t xv bs g hs;have:=HK t;omega
 | succ s IH=>
 intro t xv bs g hs hr hgd hz hg f hn B hlen;obtain⟨k,m,tx,ks⟩:=t;obtain⟨sb,sc,rfl,hsk⟩:=Ao hr;have hgd0:=hgd;rw[Bu] at hgd;obtain⟨hk1,hk2,hm1,hm2,htx,hgk⟩:=hgd;obtain⟨k,rfl⟩:=Int.eq_ofNat_of_zero_le (show 0<=k by omega);obtain⟨m,rfl⟩:=Int.eq_ofNat_of_zero_le hm1;obtain⟨⟨l⟩⟩:=tx;have htx:l.length<=4096:=htx;have hp:Cq (.mk (k:Nat) (m:Nat) ⟨⟨l⟩⟩ ks)=Lib.decDigits k++(if m=0 then [] else 58::Lib.decDigits m)++(if l=[] then [] else 34::(escL l++[34]))++(if ks=[] then [] else prtL ks 40++[41]):=by
  rw[Cq];congr 3
  ·by_cases h:m=0
   ·rw[if_pos (by omega),if_pos h]
   ·rw[if_neg (by omega),if_neg h];rfl
 rw[hp] at hlen ⊢;simp only[D0] at hlen;rw[isz] at hs hz;have hkl:=Dw ks;have hk15:k<10 ^ 15:=Nat.lt_of_le_of_lt (show k<=63 by omega) (by decide);have hm15:m<10 ^ 15:=Nat.lt_of_le_of_lt (show m<=1099511627776 by omega) (by decide);obtain⟨g1,hh1,t1,b1⟩:=nA f [.int .i64 (k:Nat),.int .i64 (m:Nat),.string ⟨⟨l⟩⟩,.slice sb ks.length sc] 24;obtain⟨_,_,_,bB,_⟩:=id B;have hkn:kB<g.next:=f.lt bB;have hne:g.next≠kB:=by omega
 have B1:=B.ahd f t1;have X1:Xo h0.next 5 kB none g g1:=t1.xo hn (fun r hr=>by cases hr);have k99:=Al (D:=tab) (E:=E) (kp.k99 k g1 hk15);obtain⟨n2,_,g2,c2,⟨x2,rfl⟩,X2,B2⟩:=Xv (E:=E) (I:=I) (cs:=Lib.decDigits k) (fun args h=>hI _ args h (by simp)) kp.k123 t1.fit (Y0 hn t1.next) B1 (by omega);have X12:=X1.trans X2 (.inl rfl);have b2:=X2.keep _ _ hne b1;have l0:g1.cell E (own g.next)=some (.int .i64 (k:Nat)):=Bp b1 rfl;have c99f:=(AX (D:=tab) (E:=E) I (show 1<=n2+1 by omega)).call k99;have c2f:=(AX (D:=tab) (E:=E) I (show n2<=n2+1 by omega)).call c2;have l1:g2.cell E (aadd (own g.next) 1)=some (.int .i64 (m:Nat)):=AS (i:=1) b2 rfl rfl;apply Wk (hI _ _ _ (.inl rfl)) AGL rfl;intro A0 n0 d0 hA0;change A0.n=74 at n0;have q0:A0.get 0=.pointer (some (own kB)):=hA0 0 _ rfl;have q1:A0.get 1=.agg ⟨[.int .i64 (k:Nat),.int .i64 (m:Nat),.string ⟨⟨l⟩⟩,.slice sb ks.length sc]⟩:=hA0 1 _ rfl;clear hA0;refine Voz 1 (Z3 n0 q1 @hh1) ?_;refine Voz (n2+1) (Z8 n0 q0 @Nq @Qx @Hx @l0 @c99f @c2f) ?_;refine Voz 1 (Z5 n0 @Kh @Qx @Hx @l1) ?_;refine Wc.forget (fun A=>A.n=74/\A.defers=[]/\A.get 0=.pointer (some (own kB))/\A.get 3=.pointer (some (own g.next))/\A.get 17=.bool (!decide ((m:Int)=0))) (by and_intros<;>simp +decide only[Gz,n0,d0,q0]<;>rfl) ?_;rintro A0 ⟨n0,d0,q0,q3,q17⟩
 repeat' (with_reducible apply Wc.seq)
 refine Wc.mono (Q:=fun ex A g'=>ex=.normal/\A.n=74/\A.defers=[]/\A.get 0=.pointer (some (own kB))/\A.get 3=.pointer (some (own g.next))/\Xo h0.next 5 kB none g g'/\g'.blk g.next=some (.cells [.int .i64 (k:Nat),.int .i64 (m:Nat),.string ⟨⟨l⟩⟩,.slice sb ks.length sc] 24 none)/\Bld 100 kB h0.next g' (bs++Lib.decDigits k++(if m=0 then [] else 58::Lib.decDigits m))) ?_ ?_
 ·by_cases hm0:m=0
  ·have e:(!decide ((m:Int)=0))=false:=by rw[decide_eq_true (by omega)];rfl
   refine Vwz (Z3 n0 q17 @e) ?_;exact⟨rfl,n0,d0,q0,q3,X12,b2,by rw[if_pos hm0,X0];exact B2⟩
  ·have e:(!decide ((m:Int)=0))=true:=by rw[decide_eq_false (by omega)];rfl
   rw[if_neg hm0] at hlen ⊢;have k99:=Al (D:=tab) (E:=E) (kp.k99 m g2 hm15);have hdl:=FG (m:=(m:Nat)) (by omega) (by omega);rw[M0] at hdl;have hadd:astr .add [58] (Lib.decDigits m)=some (.string ⟨⟨58::Lib.decDigits m⟩⟩):=by
    have:Nat.ble (([58]:List UInt8).length+(Lib.decDigits m).length) 70368744177664=true:=by
     rw[Z0];simp only[W1];omega
    unfold astr;simp only[this];rfl
   obtain⟨n3,_,g3,c3,⟨x3,rfl⟩,X3,B3⟩:=Xv (E:=E) (I:=I) (cs:=58::Lib.decDigits m) (fun args h=>hI _ args h (by simp)) kp.k123 X2.fit (Y0 hn X12.next) B2 (by rw[D0];omega);have c99f:=(AX (D:=tab) (E:=E) I (show 1<=n3+1 by omega)).call k99;have c3f:=(AX (D:=tab) (E:=E) I (show n3<=n3+1 by omega)).call c3;refine Vwz (Z3 n0 q17 @e) ?_
   (repeat' (with_reducible apply Ws));(apply Wn (n3+1);focus ((repeat ((with_reducible apply Rr rfl);focus ((try simp +decide only[Oz,n0,q0,q3,Kh,Qx,Hx,l1,c99f,F3,hadd,c3f]);with_reducible rfl)));with_reducible exact Rn))
   exact⟨rfl,by simp +decide only[Gz,n0],by simp +decide only[Gz,d0],by simp +decide only[Gz,n0,q0],by simp +decide only[Gz,n0,q3],X12.trans X3 (.inl rfl),X3.keep _ _ hne b2,B3⟩
 rintro ex A0 g3 ⟨rfl,n0,d0,q0,q3,X3,b3,B3⟩;simp only[];generalize hP2:bs++Lib.decDigits k++(if m=0 then [] else 58::Lib.decDigits m)=P2 at B3;have hP2l:P2.length=bs.length+(Lib.decDigits k).length+(if m=0 then ([]:List UInt8) else 58::Lib.decDigits m).length:=by
  rw[<- hP2,D0,D0]
 have l2:g3.cell E (aadd (own g.next) 2)=some (.string ⟨⟨l⟩⟩):=AS (i:=2) b3 rfl rfl
 (repeat' (with_reducible apply Ws));(apply Wn 1;focus ((repeat ((with_reducible apply Rr rfl);focus ((try simp +decide only[Oz,n0,q3,Ic,Qx,Hx,l2,astr,F3]);with_reducible rfl)));with_reducible exact Rn))
 refine Wc.forget (fun A=>A.n=74/\A.defers=[]/\A.get 0=.pointer (some (own kB))/\A.get 3=.pointer (some (own g.next))/\A.get 26=.bool (!(l == []))) (by and_intros<;>simp +decide only[Gz,n0,d0,q0,q3]<;>rfl) ?_;rintro A0 ⟨n0,d0,q0,q3,q26⟩
 repeat' (with_reducible apply Wc.seq)
 refine Wc.mono (Q:=fun ex A g'=>ex=.normal/\A.n=74/\A.defers=[]/\A.get 0=.pointer (some (own kB))/\A.get 3=.pointer (some (own g.next))/\Xo h0.next 5 kB none g g'/\g'.blk g.next=some (.cells [.int .i64 (k:Nat),.int .i64 (m:Nat),.string ⟨⟨l⟩⟩,.slice sb ks.length sc] 24 none)/\Bld 100 kB h0.next g' (P2++(if l=[] then [] else 34::(escL l++[34])))) ?_ ?_
 ·by_cases hl0:l=[]
  ·have e:(!(l == []))=false:=by rw[hl0];rfl
   refine Vwz (Z3 n0 q26 @e) ?_;exact⟨rfl,n0,d0,q0,q3,X3,b3,by rw[if_pos hl0,X0];exact B3⟩
  ·have e:(!(l == []))=true:=by
    rw[beq_false_of_ne hl0];rfl
   rw[if_neg hl0] at hlen ⊢;have hel:=Ga l;simp only[I1,D0,H4] at hlen;obtain⟨n4,_,g4,c4,rfl,X4,B4⟩:=FV (E:=E) (I:=I) (c:=34) (fun args h=>hI _ args h (by simp)) kp.k123 X3.fit (Y0 hn X3.next) B3 (by omega);have c4:(ev tab E I n4).call 94 [.pointer (some (own kB)),.int .u8 34] g3=some (.nilIface,g4):=c4;have b4:=X4.keep _ _ hne b3;have l4:g4.cell E (aadd (own g.next) 2)=some (.string ⟨⟨l⟩⟩):=AS (i:=2) b4 rfl rfl;refine Vwz (Z3 n0 q26 @e) ?_;refine Voz n4 (Z3 n0 q0 @c4) ?_;refine Vwz (Z6 n0 q3 @Ic @Qx @Hx @l4) ?_;refine (AA7 (E:=E) (I:=I) hI kp (k1:=g.next) hB hne htx (bs1:=P2++[34]) (g0:=g) (by rw[D0];simp only[W1];omega) l.length 0 _ g4 rfl (C2 _) ?_ ?_ ?_ ?_ ?_ ?_ hn hkn (X3.trans X4 (.inl rfl)) b4 (by rw[List.take_zero,escL,X0];exact B4)).mono ?_
   ·simp +decide only[Gz,n0]
   ·simp +decide only[Gz,d0]
   ·simp +decide only[Gz,n0,q0]
   ·simp +decide only[Gz,n0,q3]
   ·simp +decide only[Gz,n0]
   ·simp +decide only[Gz,n0];rfl
   rintro ex A0 g5 ⟨rfl,n0,d0,q0,q3,X5,b5,B5⟩;simp only[if_true];obtain⟨n6,_,g6,c6,rfl,X6,B6⟩:=FV (E:=E) (I:=I) (c:=34) (fun args h=>hI _ args h (by simp)) kp.k123 X5.fit (Y0 hn X5.next) B5 (by simp only[D0,W1];omega);have c6:(ev tab E I n6).call 94 [.pointer (some (own kB)),.int .u8 34] g5=some (.nilIface,g6):=c6;refine Voz n6 (Z3 n0 q0 @c6) ?_;exact⟨rfl,by simp +decide only[Gz,n0],by simp +decide only[Gz,d0],by simp +decide only[Gz,n0,q0],by simp +decide only[Gz,n0,q3],X5.trans X6 (.inl rfl),X6.keep _ _ hne b5,by rw[show P2++34::(escL l++[34])=P2++[34]++escL l++[34] by simp];exact B6⟩
 rintro ex A0 g3 ⟨rfl,n0,d0,q0,q3,X3,b3,B3⟩;simp only[];generalize hP3:P2++(if l=[] then [] else 34::(escL l++[34]))=P3 at B3;have hP3l:P3.length=P2.length+(if l=[] then ([]:List UInt8) else 34::(escL l++[34])).length:=by
  rw[<- hP3,D0]
 have hfin:bs++(Lib.decDigits k++(if m=0 then [] else 58::Lib.decDigits m)++(if l=[] then [] else 34::(escL l++[34]))++(if ks=[] then [] else prtL ks 40++[41]))=P3++(if ks=[] then [] else prtL ks 40++[41]):=by
  rw[<- hP3,<- hP2];simp only[E1]
 rw[hfin];have hP3b:P3.length+(if ks=[] then ([]:List UInt8) else prtL ks 40++[41]).length<=100000000:=by omega
 have l3:g3.cell E (aadd (own g.next) 3)=some (.slice sb ks.length sc):=AS (i:=3) b3 rfl rfl;by_cases hk0:ks=[]
 ·have e:decide ((ks.length:Int)=0)=true:=by rw[hk0];rfl
  refine Vwz (Z7 n0 q3 @Kg @Qx @Hx @l3 @e) ?_;exact Gb (.inr rfl) (S0z d0) rfl ⟨rfl,X3,by rw[if_pos hk0,X0];exact B3⟩
 have e:decide ((ks.length:Int)=0)=false:=decide_eq_false (fun h=>hk0 (O3.1 (by omega)));rw[if_neg hk0] at hP3b ⊢;simp only[D0,W1] at hP3b;rcases hsk with h|⟨a,cs,rfl,hcap,hcs,hrl⟩
 ·exact absurd h hk0
 refine Vwz (Z7 n0 q3 @Kg @Qx @Hx @l3 @e) ?_;have key:∀ (r i:Nat) (A0:Ac) (g':H),r=ks.length-i->i<=ks.length->A0.n=74->A0.defers=[]->A0.get 0=.pointer (some (own kB))->A0.get 7=.int .u8 (((if i=0 then 40 else 32:UInt8)).toNat:Nat)->A0.get 59=.slice (some a) ks.length sc->A0.get 60=.int .i64 (ks.length:Nat)->A0.get 61=.int .i64 (i:Nat)->
   Xo h0.next 5 kB none g g'->Bld 100 kB h0.next g' (P3++prtL (ks.take i) 40)->
   Wc tab E I ⟨64,none⟩ (.loop Ny) A0 g' (fun ex A g'=>ex=.exit 2/\A.n=74/\A.defers=[]/\A.get 0=.pointer (some (own kB))/\Xo h0.next 5 kB none g g'/\Bld 100 kB h0.next g' (P3++prtL ks 40)):=by
  intro r;induction r with
  | zero=>
   intro i A0 g' hr' hi n0 d0 q0 q7 q59 q60 q61 X B;obtain rfl:i=ks.length:=by omega
   have e1:decide ((ks.length:Int)<(ks.length:Int))=false:=by simp
   rw[List.take_length] at B;apply Wc.loop;simp only[Ny,loopAt,loops,List.getD,Option.getD,Tryz.f64,E1,W0,V0,X0,N2,E2];refine Vwz (Z4 n0 q60 q61 e1) ?_;exact⟨rfl,by simp +decide only[Gz,n0],by simp +decide only[Gz,d0],by simp +decide only[Gz,n0,q0],X,B⟩
  | succ r ih=>
   intro i A0 g' hr' hi n0 d0 q0 q7 q59 q60 q61 X B;have hil:i<ks.length:=by omega
   have e1:decide ((i:Int)<(ks.length:Int))=true:=decide_eq_true (by omega);have hir:AN (i:Int) ks.length=true:=by
    show Nat.blt i ks.length=true;rw[P0];exact hil
   have w4:IntKind.i64.wrap ((i:Int)+1)=((i+1:Nat):Int):=wrap64 (by omega) (by omega);obtain⟨hl4,hrk⟩:=DH i hrl (Q0 hil);obtain⟨x0,x1,x2,x3,hq,hone⟩:=Hj hrk;simp only[Value.agg.injEq,Array.mk.injEq] at hq;have G0:BL h0 g':=fun j B hB'=>X.keep j B (by have:=f0.lt hB'; omega) (hg j B hB');have hsub:=BD (AV G0 hcs) (m:=i*4) (l:=4) (by omega);rw[hq] at hsub hrk;have hkz:=HL (show ks[i]∈ks from Q5 hil);have hgki:=MY i hgk (Q0 hil);have htk:prtL (ks.take (i+1)) 40=prtL (ks.take i) 40++((if i=0 then 40 else 32)::Cq ks[i]):=by
    rw[List.take_succ_eq_append_getElem hil,Ie];congr 2;by_cases h:i=0
    ·subst h;rfl
    ·rw[if_neg h,if_neg (fun h2=>h (by
      have:=congrArg List.length h2;rw[C5] at this;simp only[H4] at this
      omega))]
   have hle:(prtL (ks.take (i+1)) 40).length<=(prtL ks 40).length:=by
    have:∀ (a b:List Hs.Item) (c:UInt8),(prtL a c).length<=(prtL (a++b) c).length:=by
     intro a;induction a with
     | nil=>intro b c;rw[prtL];exact C2 _
     | cons x a iha=>
      intro b c;rw[W0,prtL,prtL];have:=iha b 32;simp only[I1,D0];omega
    have h2:=this (ks.take (i+1)) (ks.drop (i+1)) 40;rw[List.take_append_drop] at h2;exact h2
   have htl:=congrArg List.length htk;simp only[D0,I1] at htl;obtain⟨z1,z2,hh5,s9,u9,b9⟩:=ACy X.fit hone;have X9:=X.ahead u9 hn (fun r hr=>by cases hr);have B9:=B.ahd X.fit u9;obtain⟨n3,_,z3,c3,rfl,X3',B3'⟩:=FV (E:=E) (I:=I) (c:=(if i=0 then 40 else 32)) (fun args h=>hI _ args h (by simp)) kp.k123 X9.fit (Y0 hn X9.next) B9 (by rw[D0];omega);have hne9:g'.next≠kB:=by have:=X.next;omega
   have l9:z3.cells E (own g'.next) 4=some [x0,x1,x2,x3]:=AG (X3'.keep _ _ hne9 b9) rfl hone;have X93:=X9.trans X3' (.inl rfl);have G3:BL h0 z3:=fun j B hB'=>X93.keep j B (by have:=f0.lt hB'; omega) (hg j B hB');obtain⟨n4,_,z4,c4,rfl,X4',B4'⟩:=IH ks[i] _ _ z3 (by omega) hrk hgki (by omega) G3 X93.fit (Y0 hn X93.next) B3' (by simp only[D0,W1];omega);apply Wc.loop;simp only[Ny,loopAt,loops,List.getD,Option.getD,Tryz.f64,E1,W0,V0,X0,N2,E2];refine Vwz (Z13 n0 q59 q60 q61 e1 (fun a c=>ZV a _ c _ hir) @M0 @Qx @Hx @hsub @Cc @hh5 @s9) ?_;refine Voz n3 (Z4 n0 q0 q7 @c3) ?_;refine Voz n4 (Z6 n0 q0 @Qx @Hx @l9 @c4) ?_;refine Vwz (Z3 n0 q61 @w4) ?_;refine ih (i+1) _ z4 (by omega) (by omega) ?_ ?_ ?_ ?_ ?_ ?_ ?_ (X93.trans X4' (.inl rfl)) ?_
   ·simp +decide only[Gz,n0]
   ·simp +decide only[Gz,d0]
   ·simp +decide only[Gz,n0,q0]
   ·rw[if_neg (Nat.succ_ne_zero i)];simp +decide only[Gz,n0];rfl
   ·simp +decide only[Gz,n0,q59]
   ·simp +decide only[Gz,n0,q60]
   ·simp +decide only[Gz,n0]
   ·rw[htk];rw[show P3++(prtL (ks.take i) 40++((if i=0 then 40 else 32)::Cq ks[i]))=P3++prtL (ks.take i) 40++[if i=0 then 40 else 32]++Cq ks[i] by simp];exact B4'
 refine (key ks.length 0 _ g3 rfl (C2 _) ?_ ?_ ?_ ?_ ?_ ?_ ?_ X3 (by rw[List.take_zero,prtL,X0];exact B3)).mono ?_
 ·simp +decide only[Gz,n0]
 ·simp +decide only[Gz,d0]
 ·simp +decide only[Gz,n0,q0]
 ·simp +decide only[Gz,n0];rfl
 ·simp +decide only[Gz,n0]
 ·simp +decide only[Gz,n0]
 ·simp +decide only[Gz,n0];rfl
 rintro ex A0 g7 ⟨rfl,n0,d0,q0,X7,B7⟩;simp only[if_true];obtain⟨n8,_,g8,c8,rfl,X8,B8⟩:=FV (E:=E) (I:=I) (c:=41) (fun args h=>hI _ args h (by simp)) kp.k123 X7.fit (Y0 hn X7.next) B7 (by rw[D0];omega);have c8:(ev tab E I n8).call 94 [.pointer (some (own kB)),.int .u8 41] g7=some (.nilIface,g8):=c8;refine Voz n8 (Z3 n0 q0 @c8) ?_;exact Gb (.inl rfl) (S0z d0) rfl ⟨rfl,X7.trans X8 (.inl rfl),by rw[<- E1];exact B8⟩
theorem AGb:tab.fn.get 25=some Tryz.f25:=by kernel_rfl
theorem AGK:tab.fn.get 65=some Tryz.f65:=by kernel_rfl
theorem AGJ:tab.fn.get 66=some Tryz.f66:=by kernel_rfl
theorem ZX:∀ t:Hs.Item,Cq t≠[]
 | .mk k m tx ks=>by
  intro h;rw[Cq] at h;simp only[List.append_eq_nil_iff] at h;have:=congrArg List.length h.1.1.1;rw[Lib.decDigits_length] at this;have:=Lib.nDigits_pos k.toNat;simp at*;omega
theorem ADW (hI:∀ args h,I 66 args h=none) {kB base:Nat} {g:H} {bs:List UInt8} (f:Fit g) (b:Bld 100 kB base g bs) (hbs:bs≠[]) (hl:bs.length<=1000000000) :
  ∃ n v g',(ev tab E I n).call 66 [.pointer (some (own kB))] g=some (v,g')/\(v=.string ⟨⟨bs⟩⟩/\Lw base g g'/\∀ k B,g.blk k=some B->B.plain=true->g'.blk k=some B):=by
 obtain⟨p,s,ro,hb,hp,ap,hc⟩:=b;obtain⟨k,q,hs,hd,hu,L,hk⟩:=QW (D:=tab) (E:=E) (pt:=148) f ap hc hbs hl YD qty5;have l1:g.cell E (aadd (own kB) 1)=some s:=AS (i:=1) hb rfl (by rw[hs];rfl);have ln:∀ h,Cp tab 44 s h=some (.int .i64 (bs.length:Nat)):=fun h=>by rw[hs];exact Fq _ _ _
 apply Wk (hI _ _) AGJ rfl;intro A0 n0 d0 hA0;change A0.n=14 at n0;have q0:A0.get 0=.pointer (some (own kB)):=hA0 0 _ rfl;clear hA0;refine Voz 1 n0 ?_
 repeat' (with_reducible apply Wc.seq)
 refine Wc.ao 1 (by kernel_rfl) ?_
 (iterate 10 refine Ugz (Z8 n0 q0 @FY @Qx @Hx @l1 @hd @ln) ?_)
 refine FQ.mod (h1:=q) (x:=.string ⟨⟨bs⟩⟩) rfl rfl (by simp +decide only[Oz,n0,hu]) ?_
 (iterate 1 refine Ugz n0 ?_)
 refine FQ.nil ⟨?_,?_⟩
 ·exact Ah [10] 12 rfl rfl (by kernel_rfl)
 refine Vwz n0 ?_;exact AW (v:=.string ⟨⟨bs⟩⟩) (.inr rfl) (S0z d0) rfl (S0z n0) ⟨rfl,L,hk⟩
theorem ZM (hI:∀ args h,I 65 args h=none) {g:H} (bs:List UInt8) :
  ∃ n v g',(ev tab E I n).call 65 [.string ⟨⟨bs⟩⟩] g=some (v,g')/\(v=(if bs.length<=65536 then .tuple #[.string ⟨⟨bs⟩⟩,.int .i64 0] else .tuple #[.string ⟨⟨[]⟩⟩,.int .i64 11])/\g'=g):=by
 apply Wk (hI _ _) AGK rfl;intro A0 n0 d0 hA0;change A0.n=10 at n0;have q0:A0.get 0=.string ⟨⟨bs⟩⟩:=hA0 0 _ rfl;clear hA0;by_cases h:bs.length<=65536
 ·have e:decide ((bs.length:Int)>65536)=false:=decide_eq_false (by omega);rw[if_pos h]
  repeat' (first|with_reducible apply Ws|(apply Wp;focus ((repeat ((with_reducible apply Rr rfl);focus ((try simp +decide only[Oz,n0,q0,Qx,F3,e]);with_reducible rfl)));with_reducible exact Rn))|(refine W2 (by simp +decide only[Cz,n0,q0,Qx,F3,e];try with_reducible rfl) (fun hb=>?_) (fun hb=>?_)<;>try contradiction)|apply W3|apply W4|apply W5|apply W6)
  exact I8 (v:=.string ⟨⟨bs⟩⟩) (x:=.int .i64 0) (.inr rfl) (S0z d0) rfl (S0z n0) (S0z n0) ⟨rfl,rfl⟩
 ·have e:decide ((bs.length:Int)>65536)=true:=decide_eq_true (by omega);rw[if_neg h]
  repeat' (first|with_reducible apply Ws|(apply Wp;focus ((repeat ((with_reducible apply Rr rfl);focus ((try simp +decide only[Oz,n0,q0,Qx,F3,e]);with_reducible rfl)));with_reducible exact Rn))|(refine W2 (by simp +decide only[Cz,n0,q0,Qx,F3,e];try with_reducible rfl) (fun hb=>?_) (fun hb=>?_)<;>try contradiction)|apply W3|apply W4|apply W5|apply W6)
  exact I8 (v:=.string ⟨⟨[]⟩⟩) (x:=.int .i64 11) (.inr rfl) (S0z d0) rfl (S0z n0) (S0z n0) ⟨rfl,rfl⟩
def ACg (t:Hs.Item):Value:=if (Cq t).length<=65536 then .tuple #[.string ⟨⟨Cq t⟩⟩,.int .i64 0] else .tuple #[.string ⟨⟨[]⟩⟩,.int .i64 11]
theorem TG (hI:∀ f args h,(f=25\/f=64\/f=65\/f=66\/f=92\/f=94\/f=97)->I f args h=none) (kp:Kp I) (kc:Chk E I) {g:H} {t:Hs.Item} {xv:Value} (f:Fit g) (hr:rep E g t xv) (ft:Bu t/\Cd t<=250/\isz t<=5000) :
  ∃ n v g',(ev tab E I n).call 25 [xv] g=some (v,g')/\(v=ACg t/\Mod (fun _=>False) g g'):=by
 obtain⟨x0,x1,x2,x3,rfl,xone⟩:=Hj hr;have hpl:=Pf t ft.1;obtain⟨g1,hh1,t1,b1⟩:=nA f [x0,x1,x2,x3] 24;have l1:g1.cells E (own g.next) 4=some [x0,x1,x2,x3]:=AG b1 rfl xone;have c35:=Al (D:=tab) (E:=E) (kc.1 t _ g1 (AJ t1.grows hr) (by omega));rw[Ge ft] at c35;have t2:Ahd g1 (g1.new (.cells (Value.agg #[.pointer none,.slice none 0 0]).cells.toList 100 none)):=Ahd.aj t1.fit rfl;have b2:(g1.new (.cells (Value.agg #[.pointer none,.slice none 0 0]).cells.toList 100 none)).blk g1.next=some (.cells [.pointer none,.slice none 0 0] 100 none):=AA rfl;generalize hh2:g1.new (.cells (Value.agg #[.pointer none,.slice none 0 0]).cells.toList 100 none)=g2 at t2 b2;have T2:=t1.trans t2;have l2:g2.cells E (own g.next) 4=some [x0,x1,x2,x3]:=AG (t2.grows _ _ b1) rfl xone;have B2:Bld 100 g1.next g.next g2 []:=⟨.pointer none,.slice none 0 0,none,b2,.inl rfl,.inl ⟨rfl,rfl,rfl,rfl⟩,fun r hr=>by cases hr⟩;obtain⟨n62,_,g3,c62,rfl,X,B3⟩:=TF (E:=E) (I:=I) (fun f args h hf=>hI f args h (by rcases hf with h|h|h|h<;>simp[h])) kp f (kB:=g1.next) t1.next (isz t) t _ [] g2 (C0 _) hr ft.1 ft.2.2 T2.grows T2.fit T2.next B2 (by simp only[H4];omega);rw[V0] at B3;obtain⟨n64,_,g4,c64,rfl,L,_⟩:=ADW (E:=E) (I:=I) (fun args h=>hI _ args h (by simp)) X.fit B3 (ZX t) (by omega);obtain⟨n63,_,g5,c63,e63,f63⟩:=ZM (E:=E) (I:=I) (fun args h=>hI _ args h (by simp)) (g:=g4) (Cq t);rw[f63] at c63;have M:Mod (fun _=>False) g g4:=((X.lw t1.next).trans L).mod f T2.mod;have c64f:=(AX (D:=tab) (E:=E) I (show n64<=n64+n63 by omega)).call c64;have c63f:=(AX (D:=tab) (E:=E) I (show n63<=n64+n63 by omega)).call c63;have e0:(!decide ((0:Int)=0))=false:=rfl;have fin:∀ a b,(if (Cq t).length<=65536 then Value.tuple #[.string ⟨⟨Cq t⟩⟩,.int .i64 0] else .tuple #[.string ⟨⟨[]⟩⟩,.int .i64 11])=.tuple #[a,b]->ACg t=.tuple #[a,b]:=fun a b h=>h;obtain⟨va,vb,hv⟩:∃ a b,(if (Cq t).length<=65536 then Value.tuple #[.string ⟨⟨Cq t⟩⟩,.int .i64 0] else .tuple #[.string ⟨⟨[]⟩⟩,.int .i64 11])=.tuple #[a,b]:=by
  split
  ·exact⟨_,_,rfl⟩
  ·exact⟨_,_,rfl⟩
 rw[e63,hv] at c63f;apply Wk (hI _ _ _ (.inl rfl)) AGb rfl;intro A0 n0 d0 hA0;change A0.n=17 at n0;have q0:A0.get 0=.agg ⟨[x0,x1,x2,x3]⟩:=hA0 0 _ rfl;clear hA0;refine Voz 1 (Z3 n0 q0 @hh1) ?_;refine Voz 1 (Z5 n0 @Qx @Hx @l1 @c35) ?_;refine Vwz (Z2 n0 e0) ?_;refine Voz 1 (Z3 n0 @ABM @hh2) ?_;refine Voz n62 (Z5 n0 @Qx @Hx @l2 @c62) ?_;refine Voz (n64+n63) (Z5 n0 @c64f @c63f @ex0 @ex1) ?_;refine Vwz n0 ?_;exact I8 (v:=va) (x:=vb) (.inr rfl) (S0z d0) rfl (S0z n0) (S0z n0) ⟨(fin _ _ hv).symm,M⟩
theorem AGV:tab.fn.get 31=some Tryz.f31:=by kernel_rfl
theorem QY:Fit H.empty:=by
 refine⟨fun _ _=>T.get_nil _,⟨fun k xs ty r p hd => ?_,C0 _⟩⟩;rw[show H.empty.dyn=T.nil from rfl,T.get_nil] at hd;cases hd
theorem UZ {g:H} {v:Value} {bs:List UInt8} (hb:Byt E g v bs) (m:Nat) (hm:m<=bs.length) (h0:bs.length=0->v=.slice none 0 0) :
  ∃ s,(∀ h,Av tab 44 v none (some (.int .i64 (m:Nat))) none h=some (s,h))/\Byt E g s (bs.take m):=by
 rcases hb with⟨rfl,rfl⟩|⟨a,c,rfl,hc,hcs⟩
 ·obtain rfl:m=0:=by simpa using hm
  exact⟨.slice none 0 0,fun h=>AE3,.inl ⟨rfl,rfl⟩⟩
 ·have hlt:(bs.take m).length=m:=by rw[C5];omega
  have hpos:0<bs.length:=by
   rcases Nat.eq_zero_or_pos bs.length with e|e
   ·cases h0 e
   ·exact e
  refine⟨.slice (some (aadd a (0*1))) (m-0) (c-0),fun h => ?_,.inr ⟨aadd a (0*1),c-0,by rw[hlt];rfl,by rw[hlt];omega,?_⟩⟩
  ·have h1:Nat.ble bs.length c=true:=by rw[Z0];exact hc
   have h2:abound (some (.int .i64 (m:Nat))) c bs.length=some m:=by
    have:AN ((m:Nat):Int) (c+1)=true:=by
     show Nat.blt m (c+1)=true;rw[P0];omega
    simp only[abound,this,M0]
   have h3:abound none m 0=some 0:=rfl;have e:Nat.beq c 0=false:=by
    cases hq:Nat.beq c 0
    ·rfl
    ·have:=U0 hq;omega
   unfold Av;rw[qty31];simp only[h1,asliceS,h2,h3,e]
  ·have:=BD (m:=0) (l:=m) hcs (by omega);rw[F2] at this;rw[hlt,U5,this];congr 1;have h2:=Ff bs 0 m;rw[F2,F2] at h2;exact h2
theorem Ql {p:H} {t:Hs.Item} {v:Value} (hr:rep E p t v):∃ a b c d,v=.agg ⟨[a,b,c,d]⟩/\[a,b,c,d].all isOne=true:=by
 obtain⟨k',m',tx',ks'⟩:=t;obtain⟨sb',sc',rfl,_⟩:=Ao hr;exact⟨_,_,_,_,rfl,rfl⟩
theorem ABq (hI:∀ f args h,(f=117\/f=88\/f=87\/f=89\/f=60\/f=22\/f=23\/f=61)->I f args h=none) {h:H} {sl:Value} {bs:List Int} (f:Fit h) (hl:h.log=[]) (hb:Bin E h sl bs) (deep left:Nat) (hdeep:deep<=100) (hl1:1<=left) (hl2:left<=100) :
  ∃ n p h1 x0 x1 x2 x3 h2 t,((ev tab E I n).call 23 [sl] h=some (p,h1)/\(ev tab E I n).call 22 [p,.int .i64 (left:Nat),.int .i64 (deep:Nat)] h1=some (.agg ⟨[x0,x1,x2,x3]⟩,h2))/\[x0,x1,x2,x3].all isOne=true/\Ahd h h2/\rep E h2 t (.agg ⟨[x0,x1,x2,x3]⟩)/\PI t/\Cd t<=(deep:Int)+1/\isz t<=left:=by
 obtain⟨n1,p,h1,c1,kS,bv,rfl,a1,lk,S⟩:=AFr (E:=E) (I:=I) (fun f args h hf=>hI f args h (by rcases hf with h|h<;>simp[h])) f hb;obtain⟨n2,v,h2,c2,t,m2,r,gd,lv,sz,_⟩:=Zr (E:=E) (I:=I) (fun f args h hf=>hI f args h (by rcases hf with h|h|h|h|h|h<;>simp[h])) (by simp;omega) deep left hdeep hl1 hl2 (by omega) a1.fit S;obtain⟨va,vb,vc,vd,rfl,hone⟩:=Ql r;refine⟨max n1 n2,_,h1,va,vb,vc,vd,h2,t,⟨(AX I (E4 _ _)).call c1,(AX I (C4 _ _)).call c2⟩,hone,?_,AJ (Cl m2.fit) r,gd,lv,sz⟩;exact ((a1.mod.trans m2).low f (fun k hk=>by omega)).fy hl
theorem WJ {g:H} (f:Fit g) {a b c d:Value} (ho:[a,b,c,d].all isOne=true):∃ g1 g2,g.new (.cells (Value.agg #[.int .i64 0,.int .i64 0,.string ⟨#[]⟩,.slice none 0 0]).cells.toList 24 none)=g1/\AO tab 24 (own g.next) (.agg ⟨[a,b,c,d]⟩) g1=some g2/\Ahd g g2/\g2.cells E (own g.next) 4=some [a,b,c,d]:=by
 have t1:Ahd g (g.new (.cells (Value.agg #[.int .i64 0,.int .i64 0,.string ⟨#[]⟩,.slice none 0 0]).cells.toList 24 none)):=Ahd.aj f rfl;have b1:(g.new (.cells (Value.agg #[.int .i64 0,.int .i64 0,.string ⟨#[]⟩,.slice none 0 0]).cells.toList 24 none)).blk g.next=some (.cells zeroL 24 none):=AA rfl;exact⟨_,_,rfl,AU DW b1 rfl rfl ho (by simp),t1.aa rfl (C0 _) (t1.fit.lt b1) f,AG (AD rfl) rfl ho⟩
theorem Pv (hI:∀ args h,I 31 args h=none) {g:H} {v u:Value} {bs bs':List UInt8} (hb:Byt E g v bs) (hb':Byt E g u bs') :
  ∃ n,(ev tab E I n).call 31 [v,u] g=some (.bool (bs == bs'),g):=by
 suffices hw:∃ n x g',(ev tab E I n).call 31 [v,u] g=some (x,g')/\(x=.bool (bs == bs')/\g'=g) by
  obtain⟨n,x,g',h1,rfl,rfl⟩:=hw;exact⟨n,h1⟩
 apply Wk (hI _ _) AGV rfl;intro A0 n0 d0 hA0;change A0.n=10 at n0;have q0:A0.get 0=v:=hA0 0 _ rfl;have q1:A0.get 1=u:=hA0 1 _ rfl;clear hA0;have c1:=Ki hb;have c2:=Ki hb';have ea:astr .eql bs bs'=some (.bool (bs == bs')):=rfl;refine Vw (Z6 n0 q0 q1 @c1 @c2 @ea) ?_;exact AW (v:=.bool (bs == bs')) (.inr rfl) (S0 d0) rfl (S0 n0) ⟨rfl,rfl⟩
theorem AGa:tab.fn.get 26=some Tryz.f26:=by kernel_rfl
theorem AFG:tab.fn.get 32=some Tryz.f32:=by kernel_rfl
theorem AAF {D:Tab} {E:Env} {fn:Func} {A:Ac} {h:H} {t u:Tmp} {ty:TypeId} {v x:Value} {a:Addr} {ex:Ex} {Q:Value->H->Prop} (hex:ex=.normal\/ex=.ret) (hd:A.defers=[]) (hr:fn.results=#[.cell t ty,.tmp u]) (hv:A.get t=.pointer (some a)) (hx:A.get u=x) (hl:AI D E ty a h=some v) (hq:Q (.tuple #[v,x]) h) :
  (ex=.normal\/ex=.ret)/\∃ h2 v',Ay A.defers h=some h2/\ED D E fn A h2=some v'/\Q v' h2:=by
 refine⟨hex,h,.tuple #[v,x],?_,?_,hq⟩
 ·rw[hd];rfl
 ·unfold ED;rw[hr];simp only[Dl,ares1,hv,hx,hl]
theorem AGh {a b:List UInt8} (hl:a.length=b.length):∀ n k,n+k=a.length->D8 tab (aeq tab 9999 5) 5 1 n k (bytesV a) (bytesV b)=some (a.drop k == b.drop k):=by
 intro n;induction n with
 | zero=>
  intro k hk;rw[D8,P5 (by omega),P5 (by omega)];rfl
 | succ n ih=>
  intro k hk;have ha:k<a.length:=by omega
  have hb:k<b.length:=by omega
  have p0:apart tab 5 (bytesV a) (k*1)=some (.int .u8 ((a[k]).toNat:Nat)):=by
   unfold apart;rw[VJ,V2];exact HQ (Q0 ha)
  have p1:apart tab 5 (bytesV b) (k*1)=some (.int .u8 ((b[k]).toNat:Nat)):=by
   unfold apart;rw[VJ,V2];exact HQ (Q0 hb)
  have e5:∀ x y:Int,aeq tab 9999 5 (.int .u8 x) (.int .u8 y)=some (x == y):=by
   intro x y;unfold aeq;simp only[VJ,decide_true]
  have ih:=ih (k+1) (by omega);rw[H2 ha,H2 hb];by_cases h:a[k]=b[k]
  ·have e:(((a[k]).toNat:Nat):Int)=(((b[k]).toNat:Nat):Int):=by rw[h]
   rw[List.cons_beq_cons,h,beq_self_eq_true,Bool.true_and];simp only[D8,p0,p1,e5,e,beq_self_eq_true,ih]
  ·have e:((((a[k]).toNat:Nat):Int) == (((b[k]).toNat:Nat):Int))=false:=beq_eq_false_iff_ne.2 fun h2=>h (UInt8.toNat_inj.1 (by exact_mod_cast h2));rw[List.cons_beq_cons,beq_eq_false_iff_ne.2 h,Bool.false_and];simp only[D8,p0,p1,e5,e]
theorem AEi {a b:List UInt8} (ha:a.length=32) (hb:b.length=32):aeq tab 10000 53 (.agg ⟨bytesV a⟩) (.agg ⟨bytesV b⟩)=some (a == b):=by
 unfold aeq;simp only[Lk];have:=AGh (a:=a) (b:=b) (by omega) 32 0 (by omega);rw[F2,F2] at this;exact this
theorem ADV (hIE:∀ f args h,(f=24\/f=62\/f=63\/f=90\/f=91\/f=98\/f=120)->I f args h=none) (hI:∀ args h,I 26 args h=none) (hS:∀ f args h,XU f->I f args h=none) (kc:Chk E I) (k137:Rq I) (k136:Yp I) (hK:KT E) (hB:BT E) {g:H} {t:Hs.Item} {xv:Value} (f:Fit g) (hr:rep E g t xv) (hf:Bu t/\Cd t<=250/\isz t<=5000) (hl:(EQ t).length<=65536) :
  ∃ k x g',(ev tab E I k).call 26 [xv] g=some (x,g')/\(x=.tuple #[.agg ⟨bytesV (PG (EQ t))⟩,.int .i64 0]/\Mod (fun _=>False) g g'):=by
 obtain⟨x0,x1,x2,x3,rfl,xone⟩:=Hj hr;have hZ:(bytesV (List.replicate 32 (0:UInt8))).length=32:=by rw[AM,I4]
 have hz53:=PC;generalize bytesV (List.replicate 32 (0:UInt8))=Z at hZ hz53;obtain⟨g1,hh1,t1,b1⟩:=nA f [x0,x1,x2,x3] 24;generalize hh2:g1.new (.cells Z 53 none)=g2;have t2:Ahd g1 g2:=by rw[<- hh2];exact Ahd.aj t1.fit rfl
 have b2:g2.blk g1.next=some (.cells Z 53 none):=by rw[<- hh2];exact AA rfl
 have l1:g2.cells E (own g.next) 4=some [x0,x1,x2,x3]:=AG (t2.grows _ _ b1) rfl xone;have T:=t1.trans t2;have n1:=t1.next;obtain⟨ne,_,g3,ce,⟨v,rfl,m3,B3⟩⟩:=LK (E:=E) (I:=I) hIE kc T.fit (AJ T.grows hr) hf hl;have B3:=B3.grow (Cl m3.fit);have h0:=Pw t;obtain⟨ns,_,g4,cs,rfl,m4⟩:=AFA (E:=E) (I:=I) hS k137 k136 hK hB m3.fit B3 h0 (by omega);have lD:(bytesV (PG (EQ t))).length=32:=by rw[AM,DS]
 have oD:=BF (PG (EQ t));generalize bytesV (PG (EQ t))=D at cs lD oD ⊢;have a4:g4.blk g1.next=some (.cells Z 53 none):=m4.blk _ _ (fun h=>h) (m3.blk _ _ (fun h=>h) b2);have st:AO tab 53 (own g1.next) (.agg ⟨D⟩) g4=some (g4.aa g1.next (.cells D 53 none)):=AU Lk a4 (by rw[lD]) (by rw[lD,hZ]) oD (by intro e;rw[e] at lD;simp at lD);have m5:=(Mod.refl (M:=fun j=>j=g1.next) m4.fit).aa (B:=.cells D 53 none) rfl rfl (m4.fit.lt a4);have ld5:(g4.aa g1.next (.cells D 53 none)).cells E (own g1.next) 32=some D:=AG (AD rfl) lD oD;have ce:=(AX (D:=tab) (E:=E) I (show ne<=ne+ns by omega)).call ce;have cs:=(AX (D:=tab) (E:=E) I (show ns<=ne+ns by omega)).call cs;apply Wk (hI _ _) AGa rfl;intro A0 n0 d0 hA0;change A0.n=17 at n0;have q0:A0.get 0=.agg ⟨[x0,x1,x2,x3]⟩:=hA0 0 _ rfl;clear hA0;refine Vnz (ne+ns) (Z13 n0 q0 @hh1 @VI @hz53 @hh2 @Qx @Zx @Hx @l1 @ce @cs @st) ?_;have MM:Mod (fun j=>j=g1.next) g _:=(((T.mod.trans (m3.sub fun _ h=>h.elim)).trans (m4.sub fun _ h=>h.elim)).trans m5);exact AAF (x:=.int .i64 0) (.inr rfl) (S0z d0) rfl (show _=Value.pointer (some (own g1.next)) by simp +decide only[Gz,n0]) (S0z n0) (by rw[QN,ld5]) ⟨rfl,Mod.low f MM (fun j hj=>.inr (by omega))⟩
theorem WC (hI:∀ f args h,(f=32\/f=31)->I f args h=none) {g:H} {v u:Value} {bs bs':List UInt8} (hb:Byt E g v bs) (hb':Byt E g u bs') (h0:bs.length=0->v=.slice none 0 0) (hn:∀ rest,bs≠bs'++rest) :
  ∃ n,(ev tab E I n).call 32 [v,u] g=some (.bool false,g):=by
 suffices hw:∃ n x g',(ev tab E I n).call 32 [v,u] g=some (x,g')/\(x=.bool false/\g'=g) by
  obtain⟨n,x,g',h1,rfl,rfl⟩:=hw;exact⟨n,h1⟩
 obtain⟨va,vc,hv⟩:=hb.slice;obtain⟨ua,uc,hu⟩:=hb'.slice;have lv:∀ h,Cp tab 44 v h=some (.int .i64 (bs.length:Nat)):=fun h=>by rw[hv];exact Fq _ _ _
 have lu:∀ h,Cp tab 44 u h=some (.int .i64 (bs'.length:Nat)):=fun h=>by rw[hu];exact Fq _ _ _
 by_cases hl:bs'.length<=bs.length
 ·have e1:decide ((bs.length:Int)>=(bs'.length:Int))=true:=decide_eq_true (by omega);obtain⟨s,hs,B⟩:=UZ hb bs'.length hl h0;obtain⟨n,c⟩:=Pv (E:=E) (I:=I) (fun args h=>hI _ _ _ (by simp)) B hb';rw[show (bs.take bs'.length == bs')=false from beq_eq_false_iff_ne.2 fun h=>hn (bs.drop bs'.length) (by rw[<- List.take_append_drop bs'.length bs,h];simp)] at c;apply Wk (hI _ _ _ (by simp)) AFG rfl;intro A0 n0 d0 hA0;change A0.n=18 at n0;have q0:A0.get 0=v:=hA0 0 _ rfl;have q1:A0.get 1=u:=hA0 1 _ rfl;clear hA0;refine VNz n (Z8 n0 q0 q1 @lv @lu e1 @hs @c) ?_;exact AW (v:=.bool false) (.inr rfl) (S0z d0) rfl (S0z n0) ⟨rfl,rfl⟩
 ·have e1:decide ((bs.length:Int)>=(bs'.length:Int))=false:=decide_eq_false (by omega);apply Wk (hI _ _ _ (by simp)) AFG rfl;intro A0 n0 d0 hA0;change A0.n=18 at n0;have q0:A0.get 0=v:=hA0 0 _ rfl;have q1:A0.get 1=u:=hA0 1 _ rfl;clear hA0;refine VNz 1 (Z6 n0 q0 q1 @lv @lu e1) ?_;exact AW (v:=.bool false) (.inr rfl) (S0z d0) rfl (S0z n0) ⟨rfl,rfl⟩
end Go.Proofs.YtofijpbmbmbnhaaGreatDoor
namespace Go.Hs
theorem UQ {bs:List UInt8} {pos:Nat} {c:UInt8} (h:bs[pos]? = some c):bs.drop pos=c::bs.drop (pos+1):=by
 obtain⟨h1,h2⟩:=O0.1 h;rw[<- h2];exact H2 h1
theorem ofNat_self (c:UInt8):UInt8.ofNat c.toNat=c:=by simp
/-! ### Texts -/
def AAV (rest:List UInt8):Prop:=∀ c l,rest=c::l->HM c=false
def AA8 (n:Nat) (c:UInt8):Nat:=min (10*n+(c.toNat-48)) 1099511627777
theorem KC {bs rest:List UInt8} (hr:AAV rest):∀ (ds:List UInt8) (k pos n:Nat),bs.drop pos=ds++rest->(∀ c∈ds,HM c=true)->ds.length<=k->digRun bs k pos n=(pos+ds.length,ds.foldl AA8 n)
 | [],k,pos,n,hd,_,_=>by
  cases k with
  | zero=>rfl
  | succ k=>
   rw[digRun];rw[V0] at hd;split
   ·rfl
   ·next c hc=>
    have:=hr c _ (by rw[<- hd];exact UQ hc);rw[if_neg (by rw[this];simp)];rfl
 | d::ds,k,pos,n,hd,ha,hk=>by
  cases k with
  | zero=>simp at hk
  | succ k=>
   rw[W0] at hd;obtain⟨h1,h2⟩:=BU hd;rw[digRun,h1];simp only[];rw[if_pos (ha d (by simp)),KC hr ds k (pos+1) _ h2 (fun c hc=>ha c (by simp[hc])) (by simpa using hk)];rw[I1,L6];congr 1;omega
theorem Gc {n:Nat} (h:n<10):(UInt8.ofNat (48+n)).toNat=48+n:=ofNat_toNat (by omega)
theorem Wq:∀ n:Nat,(∀ c∈Lib.decDigits n,HM c=true)/\(n<=1099511627777->(Lib.decDigits n).foldl AA8 0=n)/\(1<=n->∀ c l,Lib.decDigits n=c::l->c≠48)/\Lib.decDigits n≠[]:=by
 intro n;induction n using Nat.strongRecOn with
 | ind n ih=>
  have dg:∀ m,m<10->HM (UInt8.ofNat (48+m))=true:=fun m hm=>by
   unfold HM;rw[Gc hm];simp;omega
  by_cases h:n<10
  ·rw[Lib.decDigits_one h];refine⟨fun c hc => ?_,fun _ => ?_,fun h1 c l e => ?_,by simp⟩
   ·rw[H1.1 hc];exact dg n h
   ·show min (10*0+((UInt8.ofNat (48+n)).toNat-48)) 1099511627777=n;rw[Gc h];omega
   ·cases e;intro e;have:=congrArg UInt8.toNat e;rw[Gc h] at this;have h48:(48:UInt8).toNat=48:=rfl;omega
  ·obtain⟨i1,i2,i3,i4⟩:=ih (n / 10) (by omega);rw[Lib.decDigits,dif_neg h];refine⟨fun c hc => ?_,fun hn => ?_,fun h1 c l e => ?_,by simp⟩
   ·rcases Y4.1 hc with hc|hc
    ·exact i1 c hc
    ·rw[H1.1 hc];exact dg _ (by omega)
   ·rw[List.foldl_append,i2 (by omega)];show min (10*(n / 10)+((UInt8.ofNat (48+n % 10)).toNat-48)) 1099511627777=n;rw[Gc (by omega)];omega
   ·cases hq:Lib.decDigits (n / 10) with
    | nil=>exact absurd hq i4
    | cons d ds=>
     rw[hq] at e;cases e;exact i3 (by omega) c ds hq
theorem MI {bs rest:List UInt8} {most:Nat} {zero:Int} {pos items n:Nat} (hd:bs.drop pos=Lib.decDigits n++rest) (hr:AAV rest) (h1:1<=n) (h2:n<=most) (hm:most<=1099511627776):Dz bs most zero pos items=.ok n (pos+(Lib.decDigits n).length) items:=by
 obtain⟨d1,d2,d3,d4⟩:=Wq n;have hl:bs.length-pos=(Lib.decDigits n).length+rest.length:=by rw[<- Y3,hd,D0]
 have hp:0<(Lib.decDigits n).length:=V6.2 d4;unfold Dz;rw[KC hr (Lib.decDigits n) (bs.length-pos) pos 0 hd d1 (by omega),d2 (by omega)];simp only[];rw[if_neg,if_neg (by omega),if_neg (by omega)];rintro (h|⟨h,_⟩)
 ·omega
 ·cases hq:Lib.decDigits n with
  | nil=>exact d4 hq
  | cons c l=>
   rw[hq,W0] at hd;obtain⟨e1,_⟩:=BU hd;rw[e1] at h;exact d3 h1 c l hq (Option.some.inj h)
theorem GH:∀ i:Fin 16,valB (C9 i.val)=some i.val:=by decide +kernel
theorem Sf {bs rest:List UInt8} {pos:Nat} {c:UInt8} (hp:DX c=false) (hd:bs.drop pos=C9 (c.toNat / 16)::C9 (c.toNat % 16)::rest):Em bs pos=.ok c (pos+2) 0:=by
 obtain⟨h1,h2⟩:=BU hd;obtain⟨h3,_⟩:=BU h2;have hc:=c.toNat_lt;have v1:=GH ⟨c.toNat / 16,by omega⟩;have v2:=GH ⟨c.toNat % 16,by omega⟩;simp only[] at v1 v2;have e:UInt8.ofNat (c.toNat / 16*16+c.toNat % 16)=c:=by
  rw[show c.toNat / 16*16+c.toNat % 16=c.toNat by omega];exact ofNat_self c
 unfold Em;rw[h1];simp only[v1];rw[h3];simp only[v2,e,hp];rfl
theorem TJ {c:UInt8} (h:DX c=true):c≠34/\c≠92:=by
 constructor<;>(rintro rfl;revert h;decide)
theorem HA {bs rest:List UInt8}:∀ (l:List UInt8) (k pos:Nat) (acc:List UInt8),bs.drop pos=escL l++34::rest->(escL l).length+1<=k->CT bs k pos acc=.ok (acc++l) (pos+(escL l).length+1) 0
 | [],k,pos,acc,hd,hk=>by
  cases k with
  | zero=>simp at hk
  | succ k=>
   obtain⟨h1,_⟩:=BU (show bs.drop pos=34::rest from hd);rw[CT,h1];simp only[];rw[if_pos trivial,X0];rfl
 | c::l,k,pos,acc,hd,hk=>by
  cases k with
  | zero=>omega
  | succ k=>
   rw[escL,E1] at hd;rw[escL,D0] at hk ⊢;cases hp:DX c with
   | true=>
    have he:UN c=[c]:=by unfold UN;rw[if_pos hp]
    rw[he] at hd hk ⊢;obtain⟨h1,h2⟩:=BU hd;obtain⟨n1,n2⟩:=TJ hp;rw[CT,h1];simp only[];rw[if_neg n1,if_neg n2,if_pos hp,HA l k (pos+1) (acc++[c]) h2 (by simp at hk;omega)];simp only[E1,List.singleton_append,W1];congr 1;omega
   | false=>
    have he:UN c=[92,C9 (c.toNat / 16),C9 (c.toNat % 16)]:=by unfold UN;rw[if_neg (by rw[hp];simp)]
    rw[he] at hd hk ⊢;obtain⟨h1,h2⟩:=BU hd;have h3:=CB (x:=[C9 (c.toNat / 16),C9 (c.toNat % 16)]) h2;rw[CT,h1];simp only[];rw[if_neg (by decide),if_pos trivial,Sf hp h2];simp only[];rw[HA l k (pos+1+2) (acc++[c]) h3 (by simp at hk;omega)];simp only[E1,List.singleton_append,I1,H4];congr 1;omega
theorem Sa {bs rest:List UInt8} {pos items:Nat} {tx:ByteArray} (hd:bs.drop pos=escL tx.data.toList++34::rest) (h1:tx.data.toList≠[]) (h2:tx.data.toList.length<=4096):Fu bs pos items=.ok tx (pos+(escL tx.data.toList).length+1) items:=by
 have hl:bs.length-pos=(escL tx.data.toList).length+(rest.length+1):=by rw[<- Y3,hd,D0,I1]
 unfold Fu;rw[HA tx.data.toList (bs.length+1-pos) pos [] hd (by omega)];simp only[V0];rw[if_neg h1,if_neg (by omega)]
def Stop (rest:List UInt8):Prop:=∀ c l,rest=c::l->c=41\/c=32
def ACQ (bs:List UInt8) (f:Nat) (rec:Nat->Nat->Rd Item):Prop:=∀ (t:Item) (pos items:Nat) (rest:List UInt8),bs.drop pos=Cq t++rest->Stop rest->Bu t->Cd t<=f->items+isz t<=5000->rec pos items=.ok t (pos+(Cq t).length) (items+isz t)
theorem PU {bs:List UInt8} {f:Nat} {rec:Nat->Nat->Rd Item} (R:ACQ bs f rec):∀ (xs:List Item) (x:Item) (acc:List Item) (k pos items:Nat) (rest:List UInt8),bs.drop pos=Cq x++(prtL xs 32++41::rest)->goodL (x::xs)->(∀ t∈x::xs,Cd t<=f)->items+iszL (x::xs)<=5000->xs.length<k->Rk bs rec k acc pos items=.ok (acc++x::xs) (pos+((Cq x).length+(prtL xs 32).length)+1) (items+iszL (x::xs))
 | [],x,acc,k,pos,items,rest,hd,hg,hl,hz,hk=>by
  cases k with
  | zero=>omega
  | succ k=>
   rw[goodL] at hg;rw[iszL,iszL] at hz ⊢;have h1:=R x pos items (41::rest) (by rw[hd];rfl) (fun c l e=>by cases e;exact .inl rfl) hg.1 (hl x (by simp)) hz;rw[Rk,h1];simp only[];obtain⟨h2,_⟩:=BU (CB (l:=41::rest) (show bs.drop pos=Cq x++(41::rest) by rw[hd];rfl));rw[if_pos h2,prtL];rfl
 | y::ys,x,acc,k,pos,items,rest,hd,hg,hl,hz,hk=>by
  cases k with
  | zero=>omega
  | succ k=>
   rw[goodL] at hg;rw[iszL] at hz ⊢;rw[prtL] at hd;have e0:32::(Cq y++prtL ys 32)++41::rest=32::(Cq y++(prtL ys 32++41::rest)):=by simp
   rw[e0] at hd;have h1:=R x pos items _ hd (fun c l e=>by cases e;exact .inr rfl) hg.1 (hl x (by simp)) (by omega);rw[Rk,h1];simp only[];obtain⟨h2,h3⟩:=BU (CB hd);rw[if_neg (by rw[h2];decide),if_pos h2,PU R ys y (acc++[x]) k _ (items+isz x) rest h3 hg.2 (fun t ht=>hl t (by simp[ht])) (by omega) (by simpa using hk)];rw[prtL];simp only[E1,List.singleton_append,I1,D0];congr 1<;>omega
theorem Pl {rest:List UInt8} (h:∀ c l,rest=c::l->c=58\/c=34\/c=40\/c=41\/c=32):AAV rest:=fun c l e=>by
 rcases h c l e with rfl|rfl|rfl|rfl|rfl<;>decide
theorem Hm (bs:List UInt8):∀ f,ACQ bs f (rdPI bs f)
 | 0=>fun t pos items rest _ _ _ hl _=>by have:=CG t;omega
 | f+1=>fun t pos items rest hd hs hg hl hz=>by
  obtain⟨k,m,tx,ks⟩:=t;rw[Bu] at hg;obtain⟨g1,g2,g3,g4,g5,g6⟩:=hg;rw[Cd] at hl;rw[isz] at hz ⊢;obtain⟨hl1,hl2⟩:=(Ht ks 0 f).1 (by push_cast at hl;omega);rw[Cq] at hd ⊢;simp only[E1] at hd;generalize hK:(if ks=[] then [] else prtL ks 40++[41])=K at hd ⊢;generalize hT:(if tx.data.toList=[] then [] else 34::(escL tx.data.toList++[34]))=T at hd ⊢;generalize hM:(if m=0 then [] else 58::Lib.decDigits m.toNat)=M at hd ⊢;have kh:∀ c l,K++rest=c::l->c=40\/c=41\/c=32:=fun c l e=>by
   rw[<- hK] at e;split at e
   ·rcases hs c l e with h|h
    ·exact .inr (.inl h)
    ·exact .inr (.inr h)
   ·next h=>
    cases ks with
    | nil=>exact absurd rfl h
    | cons x xs=>rw[prtL] at e;cases e;exact .inl rfl
  have th:∀ c l,T++(K++rest)=c::l->c=34\/c=40\/c=41\/c=32:=fun c l e=>by
   rw[<- hT] at e;split at e
   ·exact .inr (kh c l e)
   ·cases e;exact .inl rfl
  have mh:∀ c l,M++(T++(K++rest))=c::l->c=58\/c=34\/c=40\/c=41\/c=32:=fun c l e=>by
   rw[<- hM] at e;split at e
   ·exact .inr (th c l e)
   ·cases e;exact .inl rfl
  have notAt:∀ (pos:Nat) (L:List UInt8) (d:UInt8),bs.drop pos=L->(∀ c l,L=c::l->c≠d)->bs[pos]? ≠ some d:=fun pos L d h1 h2 h3=>by
   have:=UQ h3;rw[h1] at this;exact h2 d _ this rfl
  rw[rdPI,if_neg (by omega),MI hd (Pl mh) (by omega) (by omega) (by decide)];simp only[];have hd1:=CB hd;generalize hp1:pos+(Lib.decDigits k.toNat).length=p1 at hd1;have e1:(if bs[p1]? = some 58 then Dz bs 1099511627776 4 (p1+1) (items+1) else .ok 0 p1 (items+1))=.ok m.toNat (p1+M.length) (items+1):=by
   by_cases c:m=0
   ·rw[if_pos c] at hM;subst hM;rw[if_neg (notAt p1 _ 58 hd1 (fun c l e=>by rcases th c l e with rfl|rfl|rfl|rfl<;>decide)),c];rfl
   ·rw[if_neg c] at hM;subst hM;obtain⟨h1,h2⟩:=BU (show bs.drop p1=58::(Lib.decDigits m.toNat++(T++(K++rest))) from hd1);rw[if_pos h1,MI h2 (Pl fun c l e=>.inr (th c l e)) (by omega) (by omega) (by decide),I1];congr 1;omega
  rw[e1];simp only[];have hd2:=CB hd1;generalize hp2:p1+M.length=p2 at hd2;have e2:(if bs[p2]? = some 34 then Fu bs (p2+1) (items+1) else .ok ⟨⟨[]⟩⟩ p2 (items+1))=.ok tx (p2+T.length) (items+1):=by
   by_cases c:tx.data.toList=[]
   ·rw[if_pos c] at hT;subst hT;rw[if_neg (notAt p2 _ 34 hd2 (fun c l e=>by rcases kh c l e with rfl|rfl|rfl<;>decide)),UY c];rfl
   ·rw[if_neg c] at hT;subst hT;obtain⟨h1,h2⟩:=BU (show bs.drop p2=34::((escL tx.data.toList++[34])++(K++rest)) from hd2);rw[if_pos h1,Sa (rest:=K++rest) (by rw[h2,E1];rfl) c g5,I1,D0,W1];congr 1;omega
  rw[e2];simp only[];have hd3:=CB hd2;generalize hp3:p2+T.length=p3 at hd3;have ek:((k.toNat:Nat):Int)=k:=by omega
  have em:((m.toNat:Nat):Int)=m:=by omega
  have hlen:(Lib.decDigits k.toNat++(M++(T++K))).length=(p3-pos)+K.length:=by simp only[D0];omega
  by_cases c:ks=[]
  ·rw[if_pos c] at hK;subst hK;rw[if_neg (notAt p3 _ 40 hd3 (fun c l e=>by rcases hs c l e with rfl|rfl<;>decide)),ek,em,c,iszL];congr 1;simp only[E1];rw[hlen,H4];omega
  ·rw[if_neg c] at hK;subst hK;cases ks with
   | nil=>exact absurd rfl c
   | cons x xs=>
    rw[prtL] at hd3 hlen ⊢;have e0:40::(Cq x++prtL xs 32)++[41]++rest=40::(Cq x++(prtL xs 32++41::rest)):=by simp
    rw[e0] at hd3;obtain⟨h1,h2⟩:=BU hd3;have hlx:=Dw xs;have hzx:=HK x;have hbl:bs.length-(p3+1)=(Cq x++(prtL xs 32++41::rest)).length:=by rw[<- Y3,h2]
    have hpl:xs.length<=(prtL xs 32).length:=by
     have:∀ (l:List Item) (b:UInt8),l.length<=(prtL l b).length:=by
      intro l;induction l with
      | nil=>intro b;simp
      | cons y l ih=>intro b;rw[prtL,I1,I1,D0];have:=ih 32;omega
     exact this xs 32
    simp only[D0,I1] at hbl;rw[if_pos h1,PU (Hm bs f) xs x [] (bs.length+1) (p3+1) (items+1) rest h2 g6 hl2 (by omega) (by omega)];simp only[V0];rw[ek,em];simp only[E1];rw[hlen];simp only[I1,D0,H4];congr 1<;>omega
theorem WB {t:Item} (hg:Bu t) (hl:Cd t<=250) (hz:isz t<=5000) (hb:(Cq t).length<=65536):ACh (Cq t)=.ok t (Cq t).length (isz t):=by
 unfold ACh;rw[if_neg (by omega),Hm (Cq t) 250 t 0 0 [] (by simp) (fun c l e=>by cases e) hg hl (by omega)];simp only[Z1];rw[if_neg (by omega)]
theorem Wt {t:Item} (hg:Bu t) (hl:Cd t<=250) (hz:isz t<=5000) (hb:(EQ t).length<=65536):ACm (EQ t)=.ok t (EQ t).length (isz t):=by
 unfold ACm;rw[if_neg (by omega),FX (EQ t) 250 t 0 0 [] (by simp) hg hl (by omega)];simp only[Z1];rw[if_neg (by omega)]
theorem Wl {t u:Item} {rest:List UInt8} (ht:Bu t) (hu:Bu u) (lt:Cd t<=250) (lu:Cd u<=250) (zt:isz t<=5000) (zu:isz u<=5000) (h:EQ u=EQ t++rest):t=u:=by
 have h1:=FX (EQ u) 250 u 0 0 [] (by simp) hu lu (by omega);have h2:=FX (EQ u) 250 t 0 0 rest (by rw[F2];exact h) ht lt (by omega);rw[h1] at h2;cases h2;rfl
theorem WA {t u:Item} (ht:Bu t) (hu:Bu u) (lt:Cd t<=250) (lu:Cd u<=250) (zt:isz t<=5000) (zu:isz u<=5000) (h:Cq t=Cq u):t=u:=by
 have h1:=Hm (Cq t) 250 t 0 0 [] (by simp) (fun c l e=>by cases e) ht lt (by omega);have h2:=Hm (Cq t) 250 u 0 0 [] (by rw[F2,h,X0]) (fun c l e=>by cases e) hu lu (by omega);rw[h1] at h2;cases h2;rfl
mutual
theorem HC:∀ {t:Item},PI t->(Cq t).length+1<=60*isz t
 | .mk k m tx ks,g=>by
  rw[PI] at g;obtain⟨g1,g2,g3,g4,g5,g6⟩:=g;have h1:=FG (m:=k) (by omega) (by omega);have h2:=FG (m:=m) g3 g4;have h3:=(Ga tx.data.toList).2;have h4:=Jr (b:=40) g6;rw[Cq,isz];simp only[D0];have e1:(if m=0 then ([]:List UInt8) else 58::Lib.decDigits m.toNat).length<=16:=by split<;>simp<;>omega
  have e2:(if tx.data.toList=[] then ([]:List UInt8) else 34::(escL tx.data.toList++[34])).length<=17:=by split<;>simp<;>omega
  have e3:(if ks=[] then ([]:List UInt8) else prtL ks 40++[41]).length<=(prtL ks 40).length+1:=by split<;>simp
  omega
theorem Jr:∀ {ks:List Item} {b:UInt8},smlL ks->(prtL ks b).length<=60*iszL ks
 | [],b,_=>by rw[prtL,iszL];simp
 | x::xs,b,g=>by
  rw[smlL] at g;have h1:=HC g.1;have h2:=Jr (b:=32) g.2;rw[prtL,iszL,I1,D0];omega
end
end Go.Hs
namespace Go.Proofs.YtofijpbmbmbnhaaGreatDoor
open Go Go.Hs Go.Proofs
variable {E:Env} {I:Aa}
structure Kn4 (E:Env) (K:Aa):Prop where
 out:∀ f args h,f∈[4,26,32,28,67,69,68,98,120,99,121,61,100,122,123,124,23,22,60,117,88,87,89,24,62,63,90,91,25,64,65,66,92,94,97,29,70,71,128,127,126,125,103,102,101,30,72,106,105,104,129,130,31]->K f args h=none
 k7:∀ h,K 7 [] h=some (some (.bool true,h))
 kc:Chk E K
 kp:Kp K
 k137:Rq K
 k136:Yp K
 k14:AGq E K
 k27:∀ t xv u yv h,rep E h t xv->rep E h u yv->isz t<=400000->isz u<=400000->K 27 [xv,yv] h=some (some (.tuple #[.int .i64 (Ro t u).1,.int .i64 (Ro t u).2],h))
theorem fn4:tab.fn.get 4=some Tryz.f4:=by kernel_rfl
theorem FC.fw {D:Tab} {v:Ev} {ops:Array Oper} {j:Nat} {o:Oper} {rest:List Oper} {A:Ac} {h h1:H} {x:Value} {Q:Ac->H->Prop} {i:Nat} {w:Bool} {d:Tmp} (hg:o.guard=some (i,w)) (hd:(ops[i]?).bind (·.dst)=some d) (hv:A.get d=.bool w) (hm:(BG o.op||Bi o.op)=false) (ho:BC D E v A o (fresh h)=some (x,h1)) (hl:h1.log=[]) (r:FC D E v ops (j+1) rest (A.put o.dst x) (back h h1) Q):FC D E v ops j (o::rest) A h Q:=by
 rw[Y2] at hm;refine FQ.step ?_ hm.1 ho (by rw[hl];exact r.mono fun _ _ _ ⟨a,b⟩=>⟨FI hm.2 a,b⟩);unfold Bo;rw[hg];simp only[Br,hd,hv];cases w<;>rfl
theorem aeB (a:Bool):aeq tab 10000 4 (.bool a) (.bool a)=some true:=by
 unfold aeq;simp only[AEn,beq_self_eq_true]
theorem Tv {t u:Hs.Item} (ht:Bu t/\Cd t<=250/\isz t<=5000) (hu:Bu u/\Cd u<=250/\isz u<=5000):Ro t u=(HD t u,0):=by
 have h1:=Ge ht;have h2:=Ge hu;rw[Ro,if_neg];simp[JX,h1,h2]
theorem ACx {K:Aa} (k:Kn4 E K) (hK:KT E) (hB:BT E) {s0 s1:Value} {l0 l1:List Int} (hb0:Bin E H.empty s0 l0) (hb1:Bin E H.empty s1 l1) :
  ∃ n h',(ev tab E K n).call 4 [s0,s1] H.empty=some (.bool true,h'):=by
 suffices hw:∃ n v h',(ev tab E K n).call 4 [s0,s1] H.empty=some (v,h')/\v=.bool true by
  obtain⟨n,v,h',h1,rfl⟩:=hw;exact⟨n,h',h1⟩
 have f0:=QY;have hl0:H.empty.log=[]:=rfl;generalize H.empty=g at hb0 hb1 f0 hl0 ⊢;have hIG:∀ f args h,(f=117\/f=88\/f=87\/f=89\/f=60\/f=22\/f=23\/f=61)->K f args h=none:=fun f args h hf=>k.out _ _ _ (by rcases hf with h|h|h|h|h|h|h|h<;>simp[h]);have hIE:∀ f args h,(f=24\/f=62\/f=63\/f=90\/f=91\/f=98\/f=120)->K f args h=none:=fun f args h hf=>k.out _ _ _ (by rcases hf with h|h|h|h|h|h|h<;>simp[h]);have hIP:∀ f args h,(f=25\/f=64\/f=65\/f=66\/f=92\/f=94\/f=97)->K f args h=none:=fun f args h hf=>k.out _ _ _ (by rcases hf with h|h|h|h|h|h|h<;>simp[h]);have hID:∀ f args h,(f=29\/f=70\/f=71\/f=128\/f=127\/f=126\/f=125\/f=103\/f=102\/f=101)->K f args h=none:=fun f args h hf=>k.out _ _ _ (by rcases hf with h|h|h|h|h|h|h|h|h|h<;>simp[h]);have hIA:∀ f args h,(f=30\/f=70\/f=72\/f=106\/f=105\/f=104\/f=102\/f=101\/f=129\/f=130)->K f args h=none:=fun f args h hf=>k.out _ _ _ (by rcases hf with h|h|h|h|h|h|h|h|h|h<;>simp[h]);have hIS:∀ f args h,XU f->K f args h=none:=fun f args h hf=>k.out _ _ _ (by rcases hf with h|h|h|h|h|h|h|h|h|h|h|h|h<;>simp[h]);obtain⟨nm,p,g1,x0,x1,x2,x3,g2,t,⟨c24,c23⟩,hone,a2,rt,sm,lv,sz⟩:=ABq (E:=E) (I:=K) hIG f0 hl0 hb0 8 30 (by decide) (by decide) (by decide);have c23:(ev tab E K nm).call 22 [p,.int .i64 30,.int .i64 8] g1=some (.agg ⟨[x0,x1,x2,x3]⟩,g2):=c23;obtain⟨g3,g4,hh3,s3,t4,l4⟩:=WJ (E:=E) a2.fit hone;have T4:=a2.trans t4;obtain⟨nw,pw,g5,y0,y1,y2,y3,g6,u,⟨d24,d23⟩,hone',a6,ru,sm',lv',sz'⟩:=ABq (E:=E) (I:=K) hIG t4.fit (T4.log.trans hl0) (hb1.grow T4.grows) 8 30 (by decide) (by decide) (by decide);have d23:(ev tab E K nw).call 22 [pw,.int .i64 30,.int .i64 8] g5=some (.agg ⟨[y0,y1,y2,y3]⟩,g6):=d23;obtain⟨g7,g8,hh7,s7,t8,l8⟩:=WJ (E:=E) a6.fit hone';have T8:=a6.trans t8;have rt:=AJ (t4.grows.trans T8.grows) rt;have l4:=AV T8.grows l4;have ru:=AJ t8.grows ru;have fine:Bu t/\Cd t<=250/\isz t<=5000:=⟨sm.dk,by omega,by omega⟩;have fine':Bu u/\Cd u<=250/\isz u<=5000:=⟨sm'.dk,by omega,by omega⟩;have els:=HN sm (by omega);have els':=HN sm' (by omega);have pls:=HC sm;have pls':=HC sm';have epos:=Pw t;have hlog8:g8.log=[]:=(T8.log.trans T4.log).trans hl0;generalize hkx:g2.next=kx at s3 l4;generalize hky:g6.next=ky at s7 l8;have fg8:=t8.fit;obtain⟨na,_,g9,ca,⟨va,rfl,m9,Ba⟩⟩:=LK (E:=E) (I:=K) hIE k.kc fg8 rt fine (by omega);have Ba:=Ba.grow (Cl m9.fit);have rt:=AJ m9.av rt;have ru:=AJ m9.av ru;have l4a:=AV m9.av l4;have l8a:=AV m9.av l8;obtain⟨nb,_,g10,cb,⟨vb,rfl,m10,Bb⟩⟩:=LK (E:=E) (I:=K) hIE k.kc m9.fit ru fine' (by omega);have Bb:=Bb.grow (Cl m10.fit);have Ba:=Ba.grow m10.av;have rt:=AJ m10.av rt;have ru:=AJ m10.av ru;have l4b:=AV m10.av l4a;have l8b:=AV m10.av l8a;obtain⟨nc,_,g11,cc,rfl,m11⟩:=TG (E:=E) (I:=K) hIP k.kp k.kc m10.fit rt fine;unfold ACg at cc;rw[if_pos (by omega)] at cc;have Bb:=Bb.grow m11.av;have Ba:=Ba.grow m11.av;have rt:=AJ m11.av rt;have ru:=AJ m11.av ru;have l4c:=AV m11.av l4b;have l8c:=AV m11.av l8b;obtain⟨nd,_,g12,cd,rfl,m12⟩:=TG (E:=E) (I:=K) hIP k.kp k.kc m11.fit ru fine';unfold ACg at cd;rw[if_pos (by omega)] at cd;have Bb:=Bb.grow m12.av;have Ba:=Ba.grow m12.av;have rt:=AJ m12.av rt;have ru:=AJ m12.av ru;have l4d:=AV m12.av l4c;have l8d:=AV m12.av l8c;obtain⟨ne,_,g13,ce,rfl,m13⟩:=ADV (E:=E) (I:=K) hIE (fun args h=>k.out _ _ _ (by simp)) hIS k.kc k.k137 k.k136 hK hB m12.fit rt fine (by omega);have lD:(bytesV (PG (EQ t))).length=32:=by rw[AM,DS]
 have oD:=BF (PG (EQ t));have eD:=AEi (DS (EQ t)) (DS (EQ t));rw[beq_self_eq_true] at eD;have hS:=fun {h:H} (f:Fit h) {v:Value} (hv:Byt E h v (EQ t))=>AFA (E:=E) (I:=K) hIS k.k137 k.k136 hK hB f hv epos (by omega);generalize bytesV (PG (EQ t))=D at ce lD oD eD hS;have hZ:(bytesV (List.replicate 32 (0:UInt8))).length=32:=by rw[AM,I4]
 have hz53:=PC;generalize bytesV (List.replicate 32 (0:UInt8))=Z at hZ hz53;generalize hh14:g13.new (.cells Z 53 none)=g14;have t14:Ahd g13 g14:=by rw[<- hh14];exact Ahd.aj m13.fit rfl
 have b14:g14.blk g13.next=some (.cells Z 53 none):=by rw[<- hh14];exact AA rfl
 have st:AO tab 53 (own g13.next) (.agg ⟨D⟩) g14=some (g14.aa g13.next (.cells D 53 none)):=AU Lk b14 (by rw[lD]) (by rw[lD,hZ]) oD (by intro e;rw[e] at lD;simp at lD);have t15:Ahd g13 (g14.aa g13.next (.cells D 53 none)):=t14.aa rfl (C0 _) (t14.fit.lt b14) m13.fit;have l15:(g14.aa g13.next (.cells D 53 none)).cells E (own g13.next) 32=some D:=AG (AD rfl) lD oD;generalize g14.aa g13.next (.cells D 53 none)=g15 at st t15 l15;generalize hkd:g13.next=kd at st l15;have G:=m13.av.trans t15.grows;have Bb:=Bb.grow G;have Ba:=Ba.grow G;have rt:=AJ G rt;have ru:=AJ G ru;have l4e:=AV G l4d;have l8e:=AV G l8d;have c27:=Al (D:=tab) (E:=E) (k.k27 t _ u _ g15 rt ru (by omega) (by omega));rw[Tv fine fine'] at c27;dsimp only at c27;apply Wk (k.out _ _ _ (by simp)) fn4 rfl;intro A0 n0 d0 hA0;change A0.n=160 at n0;have q0:A0.get 0=s0:=hA0 0 _ rfl;have q1:A0.get 1=s1:=hA0 1 _ rfl;clear hA0;refine Vo 1 n0 ?_;refine Vo nm (Z8 n0 q0 @c24 @c23 @Cc @hh3 @hkx @s3) ?_;refine Vo nw (Z8 n0 q1 @d24 @d23 @Cc @hh7 @hky @s7) ?_;refine Vo na (Z5 n0 @Qx @Hx @l4 @ca) ?_;refine Vo nb (Z5 n0 @Qx @Hx @l8a @cb) ?_;refine Vo nc (Z5 n0 @Qx @Hx @l4b @cc) ?_;refine Vo nd (Z5 n0 @Qx @Hx @l8c @cd) ?_;refine Vo ne (Z10 n0 @Qx @Hx @l4d @ce @VI @hz53 @hh14 @hkd @st) ?_;refine Vo 1 (Z6 n0 @Qx @Hx @l4e @l8e @c27) ?_;refine Wc.forget (fun A=>A.n=160/\A.defers=[]/\A.get 5=.pointer (some (own kx))/\A.get 6=.pointer (some (own ky))/\A.get 7=va/\A.get 8=.int .i64 0/\A.get 9=vb/\A.get 10=.int .i64 0/\A.get 11=.string ⟨⟨Cq t⟩⟩/\A.get 12=.int .i64 0/\A.get 13=.string ⟨⟨Cq u⟩⟩/\A.get 14=.int .i64 0/\A.get 15=.pointer (some (own kd))/\A.get 16=.int .i64 0/\A.get 17=.int .i64 (HD t u)/\A.get 18=.int .i64 0) (by and_intros<;>simp +decide only[Gs,n0,d0]<;>rfl) ?_;rintro A0 ⟨n0,d0,q5,q6,q7,q8,q9,q10,q11,q12,q13,q14,q15,q16,q17,q18⟩
 repeat' (with_reducible apply Wc.seq)
 obtain⟨ns,_,z1,cs,rfl,mz⟩:=hS t15.fit.fresh (h:=fresh g15) Ba;obtain⟨mz1,mz2,mz3,mz4⟩:=mz.back t15.fit;refine Wc.al ns (by kernel_rfl) ?_
 (iterate 25 refine UF (Z13 n0 q7 q8 q10 q12 q14 q15 q16 q18 @Zx @Hx @QN @l15) ?_)
 refine FC.fw (h1:=z1) (x:=.agg ⟨D⟩) rfl rfl (S0 n0) rfl (by simp +decide only[Oy,n0,cs]) mz.quiet ?_;generalize back g15 z1=g16 at mz1
 (iterate 2 refine UF (Z2 n0 @eD) ?_)
 refine FC.nil ?_;refine Vw n0 ?_;have m16:=mz1.av;have Bb:=Bb.grow m16;have Ba:=Ba.grow m16;have rt:=AJ m16 rt;have ru:=AJ m16 ru;have l4:=AV m16 l4e;have l8:=AV m16 l8e;refine Wc.forget (fun A=>A.n=160/\A.defers=[]/\A.get 5=.pointer (some (own kx))/\A.get 6=.pointer (some (own ky))/\A.get 7=va/\A.get 9=vb/\A.get 11=.string ⟨⟨Cq t⟩⟩/\A.get 13=.string ⟨⟨Cq u⟩⟩/\A.get 17=.int .i64 (HD t u)) (by and_intros<;>simp +decide only[Gs,n0,d0,q5,q6,q7,q9,q11,q13,q17]<;>rfl) ?_;rintro A0 ⟨n0,d0,q5,q6,q7,q9,q11,q13,q17⟩
 repeat' (with_reducible apply Wc.seq)
 clear l4a l4b l4c l4d l4e l8a l8b l8c l8d l8e l15;obtain⟨n29,_,g17,c29,m17,hd⟩:=AEY (E:=E) (I:=K) hID mz1.fit Ba (by omega);rw[Wt fine.1 fine.2.1 fine.2.2 (by omega)] at hd;obtain⟨lv',rfl,rv⟩:=hd;obtain⟨v0,v1,v2,v3,rfl,ov⟩:=Dd rv;obtain⟨g18,g19,hh18,s19,t19,l19⟩:=WJ (E:=E) m17.fit ov;have G:=m17.av.trans t19.grows;have Bb:=Bb.grow G;have Ba:=Ba.grow G;have rt:=AJ G rt;have ru:=AJ G ru;have l4:=AV G l4;have l8:=AV G l8;have rv:=AJ t19.grows rv;obtain⟨n30,_,g20,c30,m20,hp⟩:=Ze (E:=E) (I:=K) hIA k.kp.toKq t19.fit (bs:=Cq t) (by omega);rw[WB fine.1 fine.2.1 fine.2.2 (by omega)] at hp;obtain⟨lw',rfl,rw'⟩:=hp;obtain⟨w0,w1,w2,w3,rfl,ow⟩:=Dd rw';obtain⟨g21,g22,hh21,s22,t22,l22⟩:=WJ (E:=E) m20.fit ow;have G:=m20.av.trans t22.grows;have Bb:=Bb.grow G;have Ba:=Ba.grow G;have rt:=AJ G rt;have ru:=AJ G ru;have l4:=AV G l4;have l8:=AV G l8;have rv:=AJ G rv;have l19:=AV G l19;have rw':=AJ t22.grows rw';generalize hkv:g17.next=kv at s19 l19;generalize hkw:g20.next=kw at s22 l22;refine Vo n29 (Z7 n0 q7 @c29 @Cc @hh18 @hkv @s19) ?_;refine Vo n30 (Z7 n0 q11 @c30 @Cc @hh21 @hkw @s22) ?_;have ka:=Al (D:=tab) (E:=E) (k.k14 t t _ _ g22 rv rt (by omega) (by omega));have kb:=Al (D:=tab) (E:=E) (k.k14 t t _ _ g22 rw' rt (by omega) (by omega));rw[(IB t t).2 rfl] at ka kb;refine VO 1 (Z9 n0 q5 @Qx @Hx @l4 @l19 @l22 @ka @kb) ?_;refine Vw n0 ?_;refine Wc.forget (fun A=>A.n=160/\A.defers=[]/\A.get 5=.pointer (some (own kx))/\A.get 6=.pointer (some (own ky))/\A.get 7=va/\A.get 9=vb/\A.get 11=.string ⟨⟨Cq t⟩⟩/\A.get 13=.string ⟨⟨Cq u⟩⟩/\A.get 17=.int .i64 (HD t u)) (by and_intros<;>simp +decide only[Gs,n0,d0,q5,q6,q7,q9,q11,q13,q17]<;>rfl) ?_;rintro A0 ⟨n0,d0,q5,q6,q7,q9,q11,q13,q17⟩
 repeat' (with_reducible apply Wc.seq)
 have ku:=Al (D:=tab) (E:=E) (k.k14 t u _ _ g22 rt ru (by omega) (by omega));have c7:=Al (D:=tab) (E:=E) (k.k7 g22);obtain⟨n31,c31⟩:=Pv (E:=E) (I:=K) (fun args h=>k.out _ _ _ (by simp)) Ba Bb;have es:astr .eql (Cq t) (Cq u)=some (.bool (Cq t == Cq u)):=rfl;by_cases htu:t=u
 ·subst htu;rw[(IB t t).2 rfl] at ku;rw[beq_self_eq_true] at c31 es;have e0:decide (HD t t=0)=true:=by rw[TS];rfl
  have c7f:=(AX (D:=tab) (E:=E) K (show 1<=n31+1 by omega)).call c7;have c31f:=(AX (D:=tab) (E:=E) K (show n31<=n31+1 by omega)).call c31;refine Vo 1 (Z8 n0 q5 q6 @Qx @Hx @l4 @l8 @ku) ?_;refine VO (n31+1) (Z11 n0 q7 q9 q11 q13 q17 @aeB e0 @c31f @es @c7f) ?_;refine Vw n0 ?_;exact AW (v:=.bool true) (.inr rfl) (S0 d0) rfl (S0 n0) rfl
 ·rw[show NM t u=false from Bool.eq_false_iff.2 fun h=>htu ((IB t u).1 h)] at ku;have hne:∀ rest,EQ t≠EQ u++rest:=fun rest he=>htu (Wl fine'.1 fine.1 fine'.2.1 fine.2.1 fine'.2.2 fine.2.2 he).symm;rw[show (EQ t == EQ u)=false from beq_eq_false_iff_ne.2 fun h=>hne [] (by rw[h,X0])] at c31;rw[show (Cq t == Cq u)=false from beq_eq_false_iff_ne.2 fun h=>htu (WA fine.1 fine'.1 fine.2.1 fine'.2.1 fine.2.2 fine'.2.2 h)] at es;have e0:decide (HD t u=0)=false:=decide_eq_false fun h=>htu (MO _ _ h);obtain⟨n32,c32⟩:=WC (E:=E) (I:=K) (fun f args h hf=>k.out _ _ _ (by rcases hf with h|h<;>simp[h])) Ba Bb (fun h=>by omega) hne;have c7f:=(AX (D:=tab) (E:=E) K (show 1<=n31+n32+1 by omega)).call c7;have c31f:=(AX (D:=tab) (E:=E) K (show n31<=n31+n32+1 by omega)).call c31;have c32f:=(AX (D:=tab) (E:=E) K (show n32<=n31+n32+1 by omega)).call c32;refine Vo 1 (Z8 n0 q5 q6 @Qx @Hx @l4 @l8 @ku) ?_;refine VO (n31+n32+1) (Z12 n0 q7 q9 q11 q13 q17 @aeB e0 @c31f @es @c32f @c7f) ?_;refine Vw n0 ?_;exact AW (v:=.bool true) (.inr rfl) (S0 d0) rfl (S0 n0) rfl
end Go.Proofs.YtofijpbmbmbnhaaGreatDoor
