/- The reader of texts: one byte, numbers. -/
import Derived.Test.YtofijpbmbmbnhaaGreatDoorHsal
set_option linter.unusedSimpArgs false
set_option linter.unusedVariables false
set_option maxRecDepth 100000
set_option maxHeartbeats 16000000
namespace Go.Proofs.YtofijpbmbmbnhaaGreatDoor
open Go Go.Hs Go.Proofs
variable {E:Env} {I:Aa}
theorem AEP:tab.fn.get 104=some Tryz.f104:=by kernel_rfl
theorem AEO:tab.fn.get 105=some Tryz.f105:=by kernel_rfl
noncomputable def Te:Code:=loopOf Tryz.f104
theorem MR (hI:∀ args h,I 105 args h=none) {k:Nat} {bs:List UInt8} {pos items:Nat} {g:H} (f:Fit g) (b:Src k bs pos 0 items g) (hp:pos<=bs.length) (hl:bs.length<=1000000) (c:UInt8) :
  ∃ n v g',(ev tab E I n).call 105 [.pointer (some (own k)),.int .u8 (c.toNat:Nat)] g=some (v,g')/\(Mod (fun j=>j=k) g g'/\((bs[pos]? = some c/\v=.bool true/\Src k bs (pos+1) 0 items g')\/(bs[pos]? ≠ some c/\v=.bool false/\Src k bs pos 0 items g'))):=by
 have kl:k<g.next:=f.lt b;obtain⟨c0,c1,c2,c3⟩:=b.at (E:=E);apply Wk (hI _ _) AEO rfl;intro A0 n0 d0 hA0;change A0.n=44 at n0;have q0:A0.get 0=.pointer (some (own k)):=hA0 0 _ rfl;have q1:A0.get 1=.int .u8 (c.toNat:Nat):=hA0 1 _ rfl;clear hA0;by_cases h1:pos<bs.length;rotate_left
 ·have e1:decide ((pos:Int)<(bs.length:Int))=false:=decide_eq_false (by omega);have hn:bs[pos]? = none:=by rw[S5];omega
  refine Vo 1 n0 ?_
  repeat' (with_reducible apply Wc.seq)
  refine Wc.al 1 (by kernel_rfl) ?_
  (iterate 28 refine UF (Z8 n0 q0 q1 @Qx @Hx @c0 @c1 e1) ?_)
  refine FC.nil ?_;refine Vw n0 ?_;refine AW (v:=.bool false) (.inr rfl) (S0 d0) rfl (S0 n0) ⟨Mod.refl f,.inr ⟨by rw[hn];simp,rfl,b⟩⟩
 have e1:decide ((pos:Int)<(bs.length:Int))=true:=decide_eq_true (by omega);obtain⟨x,hx⟩:∃ x,bs[pos]? = some x:=⟨bs[pos],Q0 h1⟩;have ix:=Vu hx;by_cases h2:x=c;rotate_left
 ·have e2:decide ((x.toNat:Int)=(c.toNat:Int))=false:=decide_eq_false (fun h=>h2 (UInt8.toNat_inj.1 (by omega)));refine Vo 1 n0 ?_
  repeat' (with_reducible apply Wc.seq)
  refine Wc.al 1 (by kernel_rfl) ?_
  (iterate 28 refine UF (Z10 n0 q0 q1 @Qx @Hx @c0 @c1 e1 e2 @ix) ?_)
  refine FC.nil ?_;refine Vw n0 ?_;refine AW (v:=.bool false) (.inr rfl) (S0 d0) rfl (S0 n0) ⟨Mod.refl f,.inr ⟨by rw[hx];simpa using h2,rfl,b⟩⟩
 subst h2;have e2:decide ((x.toNat:Int)=(x.toNat:Int))=true:=decide_eq_true rfl;have w1:IntKind.i64.wrap ((pos:Int)+1)=((pos+1:Nat):Int):=wrap64 (by omega) (by omega);obtain⟨s1,b1⟩:=b.pos (pos+1);have m1:=(Mod.refl (M:=fun j=>j=k) f).aa (B:=.cells [.string ⟨⟨bs⟩⟩,.int .i64 (pos+1:Nat),.int .i64 0,.int .i64 (items:Nat)] 116 none) rfl rfl kl;refine Vo 1 n0 ?_
 repeat' (with_reducible apply Wc.seq)
 refine Wc.al 1 (by kernel_rfl) ?_
 (iterate 28 refine UF (Z10 n0 q0 q1 @Qx @Hx @c0 @c1 e1 e2 @ix) ?_)
 refine FC.nil ?_;refine Vw (Z7 n0 q0 @Qx @Hx @c1 @w1 @s1) ?_;refine AW (v:=.bool true) (.inr rfl) (S0 d0) rfl (S0 n0) ⟨m1,.inl ⟨hx,rfl,b1⟩⟩
theorem AFp (a b:Nat):Uq (fun x y=>if y<x then y else x) [.int .i64 (a:Nat),.int .i64 (b:Nat)]=some (.int .i64 ((min a b:Nat):Int)):=by
 unfold Uq NK NK;simp only[decide_true];congr 2
 split<;>omega
theorem ADg (a:Nat):Uq (fun x y=>if y<x then y else x) [.int .i64 (a:Nat),.int .i64 1099511627777]=some (.int .i64 ((min a 1099511627777:Nat):Int)):=AFp a 1099511627777
theorem Mo (hI:∀ f args h,(f=104\/f=101)->I f args h=none) {k:Nat} {bs:List UInt8} {pos items:Nat} {g:H} (f:Fit g) (b:Src k bs pos 0 items g) (hp:pos<=bs.length) (hl:bs.length<=1000000) (most:Nat) (hm:most<=1099511627776) (zero:Int) :
  ∃ n v g',(ev tab E I n).call 104 [.pointer (some (own k)),.int .i64 (most:Nat),.int .i64 zero] g=some (v,g')/\(∃ u x,v=.tuple #[u,x]/\Mod (fun j=>j=k) g g'/\ACp k bs (Dz bs most zero pos items) u x items g'):=by
 have kl:k<g.next:=f.lt b;have key:∀ (r p nn:Nat) (A0:Ac) (h:H),r=bs.length-p->nn<=1099511627777->p<=bs.length->A0.n=133->A0.defers=[]->A0.get 0=.pointer (some (own k))->A0.get 1=.int .i64 (most:Nat)->A0.get 2=.int .i64 zero->A0.get 8=.int .i64 (pos:Nat)->A0.get 9=.int .i64 (nn:Nat)->Mod (fun j=>j=k) g h->Src k bs p 0 items h->digRun bs (bs.length-pos) pos 0=digRun bs r p nn->
   Wc tab E I ⟨104,none⟩ (.loop Te) A0 h (fun ex A' h'=>ex=.exit 0/\A'.n=133/\A'.defers=[]/\Mod (fun j=>j=k) g h'/\A'.get 0=.pointer (some (own k))/\A'.get 1=.int .i64 (most:Nat)/\A'.get 2=.int .i64 zero/\A'.get 8=.int .i64 (pos:Nat)/\A'.get 9=.int .i64 ((digRun bs (bs.length-pos) pos 0).2:Nat)/\Src k bs (digRun bs (bs.length-pos) pos 0).1 0 items h'):=by
  intro r;induction r with
  | zero=>
   intro p nn A0 h hr hnn hpl n0 d0 q0 q1 q2 q8 q9 M b he;have e1:decide ((p:Int)<(bs.length:Int))=false:=decide_eq_false (by omega);obtain⟨c0,c1,c2,c3⟩:=b.at (E:=E);apply Wc.loop;simp only[Te,loopOf,firstLoop,Option.getD,Tryz.f104]
   repeat' (with_reducible apply Wc.seq)
   refine Wc.al 1 (by kernel_rfl) ?_
   (iterate 40 refine UF (Z7 n0 q0 @Qx @Hx @c0 @c1 e1) ?_)
   refine FC.nil ?_;refine Vw n0 ?_;rw[he,digRun];exact⟨rfl,by simp +decide only[Gs,n0],by simp +decide only[Gs,d0],M,by simp +decide only[Gs,n0,q0],by simp +decide only[Gs,n0,q1],by simp +decide only[Gs,n0,q2],by simp +decide only[Gs,n0,q8],by simp +decide only[Gs,n0,q9],b⟩
  | succ r ih=>
   intro p nn A0 h hr hnn hpl n0 d0 q0 q1 q2 q8 q9 M b he;have hlt:p<bs.length:=by omega
   have e1:decide ((p:Int)<(bs.length:Int))=true:=decide_eq_true (by omega);have fh:=M.fit;have kh:k<h.next:=Q1 kl M.next;obtain⟨c0,c1,c2,c3⟩:=b.at (E:=E);obtain⟨c,hc⟩:∃ c,bs[p]? = some c:=⟨bs[p],Q0 hlt⟩;have hc8:c.toNat<256:=c.toNat_lt;have ix:=Vu hc;rw[digRun,hc] at he;simp only[] at he;apply Wc.loop;simp only[Te,loopOf,firstLoop,Option.getD,Tryz.f104]
   repeat' (with_reducible apply Wc.seq)
   by_cases h1:48<=c.toNat;rotate_left
   ·have e2:decide ((c.toNat:Int)>=48)=false:=decide_eq_false (by omega);have hd:HM c=false:=by unfold HM;rw[decide_eq_false h1];rfl
    rw[hd,if_neg (by decide)] at he;refine Wc.al 1 (by kernel_rfl) ?_
    (iterate 40 refine UF (Z9 n0 q0 @Qx @Hx @c0 @c1 e1 e2 @ix) ?_)
    refine FC.nil ?_;refine Vw n0 ?_;rw[he];exact⟨rfl,by simp +decide only[Gs,n0],by simp +decide only[Gs,d0],M,by simp +decide only[Gs,n0,q0],by simp +decide only[Gs,n0,q1],by simp +decide only[Gs,n0,q2],by simp +decide only[Gs,n0,q8],by simp +decide only[Gs,n0,q9],b⟩
   have e2:decide ((c.toNat:Int)>=48)=true:=decide_eq_true (by omega);by_cases h2:c.toNat<=57;rotate_left
   ·have e3:decide ((c.toNat:Int)<=57)=false:=decide_eq_false (by omega);have hd:HM c=false:=by unfold HM;rw[decide_eq_false h2,Bool.and_false]
    rw[hd,if_neg (by decide)] at he;refine Wc.al 1 (by kernel_rfl) ?_
    (iterate 40 refine UF (Z10 n0 q0 @Qx @Hx @c0 @c1 e1 e2 e3 @ix) ?_)
    refine FC.nil ?_;refine Vw n0 ?_;rw[he];exact⟨rfl,by simp +decide only[Gs,n0],by simp +decide only[Gs,d0],M,by simp +decide only[Gs,n0,q0],by simp +decide only[Gs,n0,q1],by simp +decide only[Gs,n0,q2],by simp +decide only[Gs,n0,q8],by simp +decide only[Gs,n0,q9],b⟩
   have e3:decide ((c.toNat:Int)<=57)=true:=decide_eq_true (by omega);have hd:HM c=true:=by unfold HM;rw[decide_eq_true h1,decide_eq_true h2];rfl
   rw[if_pos hd] at he;have w1:IntKind.i64.wrap ((p:Int)+1)=((p+1:Nat):Int):=wrap64 (by omega) (by omega);have w2:IntKind.i64.wrap (10*(nn:Int))=((10*nn:Nat):Int):=wrap64 (by omega) (by omega);have w3:IntKind.u8.wrap ((c.toNat:Int)-48)=((c.toNat-48:Nat):Int):=by
    rw[show (c.toNat:Int)-48=((c.toNat-48:Nat):Int) by omega];exact Ee (by omega)
   have w4:IntKind.i64.wrap ((c.toNat-48:Nat):Int)=((c.toNat-48:Nat):Int):=QS (by omega);have w5:IntKind.i64.wrap (((10*nn:Nat):Int)+((c.toNat-48:Nat):Int))=((10*nn+(c.toNat-48):Nat):Int):=wrap64 (by omega) (by omega);have mn:=ADg (10*nn+(c.toNat-48));obtain⟨s1,b1⟩:=b.pos (p+1);have m1:=(Mod.refl (M:=fun j=>j=k) fh).aa (B:=.cells [.string ⟨⟨bs⟩⟩,.int .i64 (p+1:Nat),.int .i64 0,.int .i64 (items:Nat)] 116 none) rfl rfl kh;generalize h.aa k (.cells [.string ⟨⟨bs⟩⟩,.int .i64 (p+1:Nat),.int .i64 0,.int .i64 (items:Nat)] 116 none)=h1 at s1 b1 m1;refine Wc.al 1 (by kernel_rfl) ?_
   (iterate 40 refine UF (Z10 n0 q0 @Qx @Hx @c0 @c1 e1 e2 e3 @ix) ?_)
   refine FC.nil ?_;refine Vw n0 ?_;refine Wc.al 1 (by kernel_rfl) ?_
   (iterate 18 refine Uf (Z14 n0 q0 q9 @Qx @Hx @c0 @c1 @ix @w2 @w3 @w4 @w5 @Pc @mn) ?_)
   refine FC.nil ?_;refine Vw (Z7 n0 q0 @Qx @Hx @c1 @w1 @s1) ?_;refine (ih (p+1) _ _ h1 (by omega) (Nat.min_le_right (10*nn+(c.toNat-48)) 1099511627777) (by omega) ?_ ?_ ?_ ?_ ?_ ?_ ?_ (M.trans m1) b1 he)
   ·simp +decide only[Gs,n0]
   ·simp +decide only[Gs,d0]
   ·simp +decide only[Gs,n0,q0]
   ·simp +decide only[Gs,n0,q1]
   ·simp +decide only[Gs,n0,q2]
   ·simp +decide only[Gs,n0,q8]
   ·simp +decide only[Gs,n0]
 apply Wk (hI _ _ _ (.inl rfl)) AEP rfl;intro A0 n0 d0 hA0;change A0.n=133 at n0;have q0:A0.get 0=.pointer (some (own k)):=hA0 0 _ rfl;have q1:A0.get 1=.int .i64 (most:Nat):=hA0 1 _ rfl;have q2:A0.get 2=.int .i64 zero:=hA0 2 _ rfl;clear hA0;obtain⟨c0,c1,c2,c3⟩:=b.at (E:=E);refine Vw (Z7 n0 q0 q1 q2 @Qx @Hx @c1) ?_;refine (key (bs.length-pos) pos 0 _ g rfl (by omega) hp ?_ ?_ ?_ ?_ ?_ ?_ ?_ (Mod.refl f) b rfl).mono ?_
 ·simp +decide only[Gs,n0]
 ·simp +decide only[Gs,d0]
 ·simp +decide only[Gs,n0,q0]
 ·simp +decide only[Gs,n0,q1]
 ·simp +decide only[Gs,n0,q2]
 ·simp +decide only[Gs,n0]
 ·simp +decide only[Gs,n0];rfl
 rintro ex A0 h' ⟨rfl,n0,d0,M,q0,q1,q2,q8,q9,b⟩;obtain⟨hd1,hd2,hd3⟩:=HO (bs:=bs) (bs.length-pos) pos 0 hp;have hd3:=hd3 (by omega);have he:Dz bs most zero pos items=_:=rfl;unfold Dz at he;rw[show (Dz bs most zero pos items)=_ from he];clear he;generalize digRun bs (bs.length-pos) pos 0=dr at*;obtain⟨p,m⟩:=dr;simp only at*;simp only[if_true];obtain⟨c0,c1,c2,c3⟩:=b.at (E:=E);have bad:∀ (e:Int),∃ nf g',(ev tab E I nf).call 101 [.pointer (some (own k)),.int .i64 e,.int .i64 (pos:Nat)] h'=some (.bool false,g')/\Mod (fun j=>j=k) g g'/\Src k bs pos e items g':=fun e=>by
  obtain⟨nf,g',ck,m,b'⟩:=Ce (E:=E) (I:=I) (fun args h=>hI _ args h (.inr rfl)) M.fit b e pos;exact⟨nf,g',ck,M.trans m,b'⟩
 repeat' (first|(with_reducible apply Wc.seq)|refine Wc.block ?_)
 by_cases h1:p=pos
 ·have e1:decide ((p:Int)=(pos:Int))=true:=decide_eq_true (by omega);obtain⟨nf,g',ck,M',b'⟩:=bad 4;refine VO 1 (Z8 n0 q0 q8 @Qx @Hx @c0 @c1 e1) ?_;refine Vn nf (Z6 n0 q0 q8 @Qx @Hx @ck) ?_;refine CL (v:=.int .i64 0) (x:=.bool false) (.inr rfl) (S0 d0) rfl (S0 n0) (S0 n0) ⟨_,_,rfl,M',?_⟩;rw[if_pos (.inl h1)];exact⟨rfl,rfl,b'⟩
 have e1:decide ((p:Int)=(pos:Int))=false:=decide_eq_false (by omega);have hlt:pos<bs.length:=by omega
 obtain⟨x,hx⟩:∃ x,bs[pos]? = some x:=⟨bs[pos],Q0 hlt⟩;have ix:=Vu hx;have w1:IntKind.i64.wrap ((pos:Int)+1)=((pos+1:Nat):Int):=wrap64 (by omega) (by omega);by_cases h2:bs[pos]? = some 48/\pos+1<p
 ·have hx48:x=48:=by have:=h2.1;rw[hx] at this;exact Option.some.inj this
  subst hx48;have e2:decide (((48:UInt8).toNat:Int)=48)=true:=by decide
  have e3:decide ((p:Int)>((pos+1:Nat):Int))=true:=decide_eq_true (by omega);obtain⟨nf,g',ck,M',b'⟩:=bad 4;refine VO 1 (Z12 n0 q0 q8 @Qx @Hx @c0 @c1 e1 @ix e2 e3 @w1) ?_;refine Vn nf (Z6 n0 q0 q8 @Qx @Hx @ck) ?_;refine CL (v:=.int .i64 0) (x:=.bool false) (.inr rfl) (S0 d0) rfl (S0 n0) (S0 n0) ⟨_,_,rfl,M',?_⟩;rw[if_pos (.inr h2)];exact⟨rfl,rfl,b'⟩
 rw[if_neg (fun h=>h.elim h1 h2)];refine Wc.mono (Q:=fun ex A h=>ex=.normal/\h=h'/\A.n=133/\A.defers=[]/\A.get 0=.pointer (some (own k))/\A.get 1=.int .i64 (most:Nat)/\A.get 2=.int .i64 zero/\A.get 8=.int .i64 (pos:Nat)/\A.get 9=.int .i64 (m:Nat)/\A.get 81=.bool false) ?_ ?_
 ·by_cases h3:x.toNat=48
  ·have e2:decide ((x.toNat:Int)=48)=true:=decide_eq_true (by omega);have e3:decide ((p:Int)>((pos+1:Nat):Int))=false:=decide_eq_false (fun h=>h2 ⟨by rw[hx,show x=48 from UInt8.toNat_inj.1 h3],by omega⟩);refine VO 1 (Z12 n0 q0 q8 @Qx @Hx @c0 @c1 e1 @ix e2 e3 @w1) ?_;exact⟨rfl,rfl,by simp +decide only[Gs,n0],by simp +decide only[Gs,d0],by simp +decide only[Gs,n0,q0],by simp +decide only[Gs,n0,q1],by simp +decide only[Gs,n0,q2],by simp +decide only[Gs,n0,q8],by simp +decide only[Gs,n0,q9],by simp +decide only[Gs,n0]⟩
  ·have e2:decide ((x.toNat:Int)=48)=false:=decide_eq_false (by omega);refine VO 1 (Z11 n0 q0 q8 @Qx @Hx @c0 @c1 e1 @ix e2 @w1) ?_;exact⟨rfl,rfl,by simp +decide only[Gs,n0],by simp +decide only[Gs,d0],by simp +decide only[Gs,n0,q0],by simp +decide only[Gs,n0,q1],by simp +decide only[Gs,n0,q2],by simp +decide only[Gs,n0,q8],by simp +decide only[Gs,n0,q9],by simp +decide only[Gs,n0]⟩
 clear n0 d0 q0 q1 q2 q8 q9;rintro ex A0 h'' ⟨rfl,rfl,n0,d0,q0,q1,q2,q8,q9,q81⟩;simp only[if_true];by_cases h3:most<m
 ·have e4:decide ((m:Int)>(most:Int))=true:=decide_eq_true (by omega);obtain⟨nf,g',ck,M',b'⟩:=bad 3;refine Vn nf (Z11 n0 q0 q1 q2 q8 q9 q81 @Qx @Hx e4 @ck) ?_;refine CL (v:=.int .i64 0) (x:=.bool false) (.inr rfl) (S0 d0) rfl (S0 n0) (S0 n0) ⟨_,_,rfl,M',?_⟩;rw[if_pos h3];exact⟨rfl,rfl,b'⟩
 have e4:decide ((m:Int)>(most:Int))=false:=decide_eq_false (by omega);rw[if_neg h3];by_cases h4:m=0
 ·have e5:decide ((m:Int)=0)=true:=decide_eq_true (by omega);obtain⟨nf,g',ck,M',b'⟩:=bad zero;refine Vn nf (Z12 n0 q0 q1 q2 q8 q9 q81 @Qx @Hx e4 e5 @ck) ?_;refine CL (v:=.int .i64 0) (x:=.bool false) (.inr rfl) (S0 d0) rfl (S0 n0) (S0 n0) ⟨_,_,rfl,M',?_⟩;rw[if_pos h4];exact⟨rfl,rfl,b'⟩
 have e5:decide ((m:Int)=0)=false:=decide_eq_false (by omega);rw[if_neg h4];refine Vw (Z11 n0 q0 q1 q2 q8 q9 q81 @Qx @Hx e4 e5) ?_;refine CL (v:=.int .i64 (m:Nat)) (x:=.bool true) (.inr rfl) (S0 d0) rfl (S0 n0) (S0 n0) ⟨_,_,rfl,M,?_⟩;exact⟨rfl,rfl,b⟩
end Go.Proofs.YtofijpbmbmbnhaaGreatDoor
namespace Go.Hs
theorem XC {D:Tab} {E:Env} {h:H} {base:Nat} {t t2 e:TypeId} {sz by_ n m i6 i7:Nat} {i8:Option Value} {i9 b0:Bool} {s ze x:Value} {xs cs:List Value} {ro:Option Nat} (f:Fit h) (hbn:base<=h.next) (ap:Ap3 h base e sz s n xs ro)
  (ht:D.ty.get t=some ⟨.slice e sz by_,i6,i7,i8,i9⟩) (hz:Ak D e=some ze) (hzz:(Nat.beq ze.cells.toList.length sz&&Nat.blt 0 sz&&ze.cells.toList.all isOne)=true) (hzt:Ax D t2 x=some b0)
  (hel:BO E sz ze.cells.toList x h=some (m+1,cs)) (hcl:cs.length=(m+1)*sz) (hc1:cs.all isOne=true) (hrm:roomy (n+(m+1)) by_=true) :
  ∃ s' h' ro',Ab D E t t2 s x h=some (s',h')/\Ap2 h' base e sz s' (n+(m+1)) (xs++cs) ro'/\Gk ro h h'/\(ro=none/\ro'=some h.next\/ro≠none/\ro'=ro)/\(∀ r,ro'=some r->∀ j∈h'.chain r,j=h.next\/ro=some r/\j∈h.chain r):=by
 have hbl:Nat.beq cs.length ((m+1)*sz)=true:=by rw[hcl];exact V1 _
 rcases ap with (⟨rfl,rfl,rfl,rfl⟩|⟨k,r,rfl,hb,hl,h1,hbr,hrx,hch,rfl⟩)|⟨k,rfl,hb,hl,h1,rfl⟩
 ·rw[Z1] at hrm ⊢;refine⟨.slice (some (own h.next)) (m+1) (m+1),h.af cs e,some h.next,?_,.inr ⟨h.next,h.next,rfl,Bg,?_,?_,hbn,I5 _,?_,rfl⟩,(Ahd.af f _ _).gk,.inl ⟨rfl,rfl⟩,fun r hr j hj => ?_⟩
  ·unfold Ab;rw[ht];simp only[hz,hzt,hzz,hel,hbl,hrm]
  ·rw[V0];exact hcl
  ·rw[V0];exact hc1
  ·intro j hj;simp only[H.chain,H.af,T.get_set_same,Option.getD,H1] at hj;subst hj;exact⟨cs,e,0,T.get_set_same _ _ _,by rw[Z1,hcl];exact C0 _⟩
  ·cases hr;simp only[H.chain,H.af,T.get_set_same,Option.getD,H1] at hj;exact .inl hj
 ·have hkn:=f.lt hb;have hd:=H.ae hb;have hrn:=f.ok.1 _ _ _ _ _ hd;have nohit:∀ j∈h.chain r,h.ay k (0+n*sz) (0+n*sz+cs.length) j=false:=by
   intro j hj;obtain⟨ys,ty,p,hd,hle⟩:=hch j hj;unfold H.ay;split
   ·rfl
   ·rw[hd];have:Nat.blt (0+n*sz) (p+ys.length)=false:=by
     cases hq:Nat.blt (0+n*sz) (p+ys.length)
     ·rfl
     ·rw[P0] at hq;omega
    simp only[this,Bool.false_and]
  have hgr:h.grow e r (0+(own k).off) (n*sz) (own k).block (xs.drop (own k).off) cs={ h with next:=h.next+1,dyn:=h.dyn.set h.next (.cells (xs++cs) e (some (r,0))),chains:=h.chains.set r (h.next::h.spare r k (0+n*sz) (0+n*sz+cs.length)) }:=by
   unfold H.grow;simp only[own,E3,F2];have hgone:h.gone r k (0+n*sz) (0+n*sz+cs.length)=[]:=by
    rw[J5];intro j hj;obtain⟨hj1,hj2⟩:=Fd.1 hj;rw[nohit j hj1] at hj2;cases hj2
   rw[hgone];exact Cr _
  generalize hg:({ h with next:=h.next+1,dyn:=h.dyn.set h.next (.cells (xs++cs) e (some (r,0))),chains:=h.chains.set r (h.next::h.spare r k (0+n*sz) (0+n*sz+cs.length)) }:H)=g at hgr;have hcr:g.chain r=h.next::h.spare r k (0+n*sz) (0+n*sz+cs.length):=by
   rw[<- hg];simp only[H.chain,T.get_set_same,Option.getD]
  have hcn:∀ r',r'≠r->g.chain r'=h.chain r':=by
   intro r' hr';rw[<- hg];simp only[H.chain];rw[T.get_set_ne _ _ _ _ hr']
  have hgn:g.next=h.next+1:=by rw[<- hg]
  have hnew:g.blk h.next=some (.cells (xs++cs) e (some (r,0))):=by
   have hdd:g.dyn.get h.next=some (.cells (xs++cs) e (some (r,0))):=by rw[<- hg];exact T.get_set_same _ _ _
   unfold H.blk;rw[hdd];simp only[hcr,E6,beq_self_eq_true,Bool.true_or]
  have hold:∀ j,j≠h.next->g.dyn.get j=h.dyn.get j:=by
   intro j hj;rw[<- hg];exact T.get_set_ne _ _ _ _ hj
  refine⟨.slice (some (own h.next)) (n+(m+1)) (n+(m+1)),g,some r,?_,.inr ⟨h.next,r,rfl,hnew,?_,?_,hbr,by rw[hgn];omega,?_,rfl⟩,⟨⟨fun j hj => ?_,fun j ys ty r' p hd' => ?_,?_⟩,?_,?_,?_,?_,fun r' _ hr'=>hcn r' (fun e=>hr' (by rw[e]))⟩,.inr ⟨by simp,rfl⟩,fun r' hr j hj => ?_⟩
  ·unfold Ab;rw[ht];simp only[hz,hzt,hzz,hel,hbl,hrm];have e1:(own k).spot=some 0:=rfl;have e2:(own k).block=k:=rfl;have e3:(own k).off=0:=rfl;have e4:Nat.ble (n+(m+1)) n=false:=by
    cases hq:Nat.ble (n+(m+1)) n
    ·rfl
    ·rw[Z0] at hq;omega
   simp only[e1,e2,hb,e4];have e5:(Nat.beq n n&&Nat.beq ((own k).off+n*sz) xs.length&&Nat.beq e e&&(xs.drop (own k).off).all isOne&&Nat.ble (own k).off xs.length)=true:=by
    rw[e3,Z1,hl,F2,h1,V1,V1,V1];simp[Nat.ble]
   simp only[e5];rw[<- hgr];rfl
  ·rw[D0,hl,hcl,<- U3]
  ·rw[J4,h1,hc1];rfl
  ·intro j hj;rw[hcr] at hj;rcases O1.1 hj with rfl|hj
   ·exact⟨xs++cs,e,0,H.ae hnew,by rw[D0,hl,hcl,U3 n];omega⟩
   ·obtain⟨ys,ty,p,hd,hle⟩:=hch j (BS.1 hj).1;have hjn:j≠h.next:=by
     intro e;subst e;rw[f.free _ (C0 _)] at hd;cases hd
    refine⟨ys,ty,p,by rw[hold j hjn];exact hd,?_⟩;rw[U3 n];omega
  ·rw[hgn] at hj;rw[hold j (by omega)];exact f.free j (by omega)
  ·rw[hgn];by_cases hj:j=h.next
   ·subst hj;have:=H.ae hnew;rw[this] at hd'; cases hd'; omega
   ·rw[hold j hj] at hd';have:=f.ok.1 _ _ _ _ _ hd'; omega
  ·rw[hgn];have:=f.ok.2;rw[<- hg];exact O6 this
  ·intro j B hB;have hjn:=f.lt hB;rw[<- hB];refine Ar (hold j (by omega)) (fun ys u r' q hd' => ?_);by_cases hrr:r'=r
   ·subst hrr;rw[hcr];constructor
    ·intro hj;rcases O1.1 hj with rfl|hj
     ·omega
     ·exact (BS.1 hj).1
    ·intro hj;exact List.mem_cons_of_mem _ (BS.2 ⟨hj,nohit j hj⟩)
   ·rw[hcn r' hrr]
  ·rw[<- hg]
  ·rw[<- hg]
  ·rw[hgn];omega
  ·cases hr;rw[hcr] at hj;rcases O1.1 hj with rfl|hj
   ·exact .inl rfl
   ·exact .inr ⟨rfl,(BS.1 hj).1⟩
 ·refine⟨.slice (some (own h.next)) (n+(m+1)) (n+(m+1)),h.af (xs++cs) e,some h.next,?_,.inr ⟨h.next,h.next,rfl,Bg,?_,?_,hbn,I5 _,?_,rfl⟩,(Ahd.af f _ _).gk,.inl ⟨rfl,rfl⟩,fun r hr j hj => ?_⟩
  ·unfold Ab;rw[ht];simp only[hz,hzt,hzz,hel,hbl,hrm];have q1:(own k).spot=some 0:=rfl;have q2:(own k).block=k:=rfl;have q4:Nat.ble (n+(m+1)) n=false:=by
    cases hq:Nat.ble (n+(m+1)) n
    ·rfl
    ·rw[Z0] at hq;omega
   have q6:h.cells E (own k) (n*sz)=some xs:=AG hb hl h1;simp only[q1,q2,hb,q4,q6]
  ·rw[D0,hl,hcl,<- U3]
  ·rw[J4,h1,hc1];rfl
  ·intro j hj;simp only[H.chain,H.af,T.get_set_same,Option.getD,H1] at hj;subst hj;exact⟨xs++cs,e,0,T.get_set_same _ _ _,by rw[Z1,D0,hl,hcl,<- U3];exact C0 _⟩
  ·cases hr;simp only[H.chain,H.af,T.get_set_same,Option.getD,H1] at hj;exact .inl hj
theorem XB {D:Tab} {E:Env} {h:H} {base:Nat} {t t2 e:TypeId} {sz by_ n i6 i7:Nat} {i8:Option Value} {i9 b0:Bool} {s ze x:Value} {xs:List Value} {ro:Option Nat} (ap:Ap3 h base e sz s n xs ro)
  (ht:D.ty.get t=some ⟨.slice e sz by_,i6,i7,i8,i9⟩) (hz:Ak D e=some ze) (hzz:(Nat.beq ze.cells.toList.length sz&&Nat.blt 0 sz&&ze.cells.toList.all isOne)=true) (hzt:Ax D t2 x=some b0)
  (hel:BO E sz ze.cells.toList x h=some (0,[])):Ab D E t t2 s x h=some (s,h):=by
 have hb0:Nat.beq ([]:List Value).length (0*sz)=true:=by rw[U5];rfl
 unfold Ab;rw[ht];simp only[hz,hzt,hzz,hel,hb0];rcases ap with (⟨rfl,_,rfl,_⟩|⟨k,r,rfl,_⟩)|⟨k,rfl,_⟩
 ·rfl
 ·simp only[Nat.ble_self_eq_true]
 ·simp only[Nat.ble_self_eq_true]
def Bld (tb kB base:Nat) (g:H) (bs:List UInt8):Prop:=∃ p s ro,g.blk kB=some (.cells [p,s] tb none)/\(p=.pointer none\/p=.pointer (some (own kB)))/\Ap2 g base 5 1 s bs.length (bytesV bs) ro/\∀ r,ro=some r->∀ j∈g.chain r,base<=j
theorem Bld.ahd {tb kB base:Nat} {g g':H} {bs:List UInt8} (b:Bld tb kB base g bs) (f:Fit g) (a:Ahd g g'):Bld tb kB base g' bs:=by
 obtain⟨p,s,ro,h1,h2,h3,h4⟩:=b;exact⟨p,s,ro,a.grows _ _ h1,h2,h3.mod (M:=fun _=>False) a.mod (fun _ _ h=>h.elim),fun r hr j hj=>h4 r hr j (by rw[<- a.chain r (IA h3 r hr).2];exact hj)⟩
theorem LN {D:Tab} {E:Env} {tb kB base:Nat} {g:H} {bs cs:List UInt8} {t t2 by_ i6 i7:Nat} {i8:Option Value} {i9 b0:Bool} {ze x p s:Value} {ro:Option Nat} (f:Fit g) (hbn:base<=g.next) (hb:g.blk kB=some (.cells [p,s] tb none)) (htb:tb≠5) (ap:Ap2 g base 5 1 s bs.length (bytesV bs) ro) (hch:∀ r,ro=some r->∀ j∈g.chain r,base<=j)
  (ht:D.ty.get t=some ⟨.slice 5 1 by_,i6,i7,i8,i9⟩) (hz:Ak D 5=some ze) (hzz:(Nat.beq ze.cells.toList.length 1&&Nat.blt 0 1&&ze.cells.toList.all isOne)=true) (hzt:Ax D t2 x=some b0)
  (hel:BO E 1 ze.cells.toList x g=some (cs.length,bytesV cs)) (hrm:roomy (bs.length+cs.length) by_=true) :
  ∃ s' g',Ab D E t t2 s x g=some (s',g')/\isOne s'=true/\s'.cells.toList=[s']/\Fit g'/\BL g g'/\g'.log=g.log/\g'.mark=g.mark/\g.next<=g'.next/\(∀ r,r<base->g'.chain r=g.chain r)/\∃ ro',Ap2 g' base 5 1 s' (bs++cs).length (bytesV (bs++cs)) ro'/\∀ r,ro'=some r->∀ j∈g'.chain r,base<=j:=by
 have hs:isOne s=true/\s.cells.toList=[s]:=by
  rcases (show Ap3 g base 5 1 s _ _ ro from .inl ap).get with⟨_,_,rfl⟩|⟨_,_,rfl,_⟩<;>exact⟨rfl,rfl⟩
 obtain⟨l,hl⟩:∃ l,cs.length=l:=⟨_,rfl⟩;cases l with
 | zero=>
  obtain rfl:=O3.1 hl;refine⟨s,g,XB (.inl ap) ht hz hzz hzt hel,hs.1,hs.2,f,fun _ _ h=>h,rfl,rfl,C0 _,fun _ _=>rfl,ro,?_,hch⟩;rw[X0];exact ap
 | succ m=>
  rw[hl] at hel hrm;obtain⟨s',g',ro',happ,ap2,gk,_,hcc⟩:=XC f hbn (.inl ap) ht hz hzz hzt hel (by rw[AM,hl,V2]) (BF cs) hrm;have hs':isOne s'=true/\s'.cells.toList=[s']:=by
   rcases (show Ap3 g' base 5 1 s' _ _ ro' from .inl ap2).get with⟨h1,_⟩|⟨_,_,rfl,_⟩
   ·omega
   ·exact⟨rfl,rfl⟩
  refine⟨s',g',happ,hs'.1,hs'.2,gk.fit,gk.grows,gk.log,gk.mark,gk.next,fun r hr=>gk.chain r (by omega) (fun e => ?_),ro',?_,fun r hr j hj => ?_⟩
  ·have:=(IA ap r e).1;omega
  ·rw[D0,hl,DK];exact ap2
  ·rcases hcc r hr j hj with rfl|⟨e1,e2⟩
   ·exact hbn
   ·exact hch r e1 j e2
theorem H9 {g:H} {kO base sz n:Nat} {e ty ty':TypeId} {s:Value} {xs ys zs:List Value} {ro:Option Nat} (fg:Fit g) (hb:g.blk kO=some (.cells xs ty none)) (a:Ap2 g base e sz s n ys ro):Ap2 (g.aa kO (.cells zs ty' none)) base e sz s n ys ro:=by
 have m:Mod (fun k=>k=kO) g (g.aa kO (.cells zs ty' none)):=(Mod.refl fg).aa rfl rfl (fg.lt hb);exact a.mod m (fun k B hk hB=>by subst hk;rw[hb] at hB;cases hB;rfl)
structure Xo (b:Nat) (e:TypeId) (kO:Nat) (rt:Option Nat) (h g:H):Prop where
 fit:Fit g
 keep:∀ k B,k≠kO->h.blk k=some B->g.blk k=some B
 log:∀ j∈g.log,j∈h.log\/(j=kO/\kO<h.mark)
 mark:g.mark=h.mark
 next:h.next<=g.next
 chain:∀ r,r<b->g.chain r=h.chain r
 ok:∀ r,rt=some r->∀ P,GC b e h r P->GC b e g r (fun j l=>P j l\/h.next<=j)
variable {b:Nat} {e:TypeId} {kO:Nat} {rt rt':Option Nat} {h g f:H}
theorem Ahd.xo (a:Ahd h g) (hb:b<=h.next) (hr:∀ r,rt=some r->r<h.next):Xo b e kO rt h g:=
 ⟨a.fit,fun k B _ hB=>a.grows k B hB,fun j hj=>.inl (by rw[<- a.log];exact hj),a.mark,a.next,fun r h1=>a.chain r (by omega),fun r h1 P hP=>(a.ez (hr r h1) hP).mono fun _ _ h=>.inl h⟩
theorem Xo.refl (fh:Fit h) (hb:b<=h.next) (hr:∀ r,rt=some r->r<h.next):Xo b e kO rt h h:=(Ahd.refl fh).xo hb hr
theorem Xo.trans (x:Xo b e kO rt h g) (y:Xo b e kO rt' g f) (h1:rt=none\/rt'=rt):Xo b e kO rt h f:=
 ⟨y.fit,fun k B hk hB=>y.keep k B hk (x.keep k B hk hB),fun j hj=>by
  rcases y.log j hj with h2|⟨h2,h3⟩
  ·exact x.log j h2
  ·exact .inr ⟨h2,by rw[<- x.mark];exact h3⟩,y.mark.trans x.mark,Y0 x.next y.next,fun r hr=>(y.chain r hr).trans (x.chain r hr),fun r hr P hP=>by
  have hc:rt'=some r:=by
   rcases h1 with h1|h1
   ·rw[h1] at hr;cases hr
   ·rw[h1];exact hr
  refine (y.ok r hc _ (x.ok r hr P hP)).mono ?_;rintro j l ((h3|h3)|h3)
  ·exact .inl h3
  ·exact .inr h3
  ·exact .inr (Y0 x.next h3)⟩
theorem Xo.ahead (x:Xo b e kO rt h g) (y:Ahd g f) (hb:b<=h.next) (hr:∀ r,rt=some r->r<g.next):Xo b e kO rt h f:=x.trans (y.xo (Y0 hb x.next) hr) (.inr rfl)
theorem Xo.aa (x:Xo b e kO rt h g) {xs ys:List Value} {ty:TypeId} (hb:g.blk kO=some (.cells xs ty none)) (hm:kO<h.mark\/h.mark<=kO):Xo b e kO rt h (g.aa kO (.cells ys ty none)):=by
 have hlt:=x.fit.lt hb;refine⟨x.fit.aa rfl hlt,fun k B hk hB=>by rw[KQ hk];exact x.keep k B hk hB,fun j hj => ?_,(IS _ _ _).trans x.mark,by rw[Bx];exact x.next,fun r hr=>by rw[Cg];exact x.chain r hr,fun r hr P hP j hj => ?_⟩
 ·rcases PJ hj with h2|⟨h2,h3⟩
  ·exact x.log j h2
  ·subst h2;exact .inr ⟨rfl,by rw[<- x.mark];exact h3⟩
 ·rw[Cg] at hj;obtain⟨q1,zs,q2,q3⟩:=x.ok r hr P hP j hj;refine⟨q1,zs,?_,q3⟩;have hne:j≠kO:=fun e=>by
   rw[e,H.ae hb] at q2;cases q2
  rw[KR,T.get_set_ne _ _ _ _ hne];exact q2
/-! ### Paths that are collected in a variable -/
theorem Xo.df {b kO:Nat} {e:TypeId} {h g g':H} (x:Xo b e kO none h g) (hf:Fit g') (hg:BL g g') (hl:g'.log=g.log) (hm:g'.mark=g.mark) (hn:g.next<=g'.next) (hc:∀ r,r<b->g'.chain r=g.chain r):Xo b e kO none h g':=
 ⟨hf,fun k B hk hB=>hg _ _ (x.keep k B hk hB),fun j hj=>x.log j (by rw[<- hl];exact hj),hm.trans x.mark,Y0 x.next hn,fun r hr=>(hc r hr).trans (x.chain r hr),fun r hr=>by cases hr⟩
theorem OS {tb kB base:Nat} {g:H} {bs:List UInt8} (f:Fit g) (htb:tb≠5) (hbn:base<=g.next) (b:Bld tb kB base g bs) :
  ∃ g1 s ro,Dx tb [.pointer (some (own kB))] g=some (.tuple #[],g1)/\Xo base 5 kB none g g1/\g1.blk kB=some (.cells [.pointer (some (own kB)),s] tb none)/\Ap2 g1 base 5 1 s bs.length (bytesV bs) ro/\∀ r,ro=some r->∀ j∈g1.chain r,base<=j:=by
 obtain⟨p,s,ro,h1,h2,h3,h4⟩:=b;have h1':g.blk (own kB).block=some (.cells [p,s] tb none):=h1;have ho:Nat.beq (own kB).off 0=true:=rfl;have hs:(own kB).spot=some 0:=rfl;rcases h2 with rfl|rfl
 ·have hput:g.put (own kB) [.pointer (some (own kB))]=some (g.aa kB (.cells [.pointer (some (own kB)),s] tb none)):=CX (o:=0) h1 (by simp) (by simp) rfl;refine⟨_,s,ro,?_,(Xo.refl f hbn (fun r hr=>by cases hr)).aa h1 (by omega),AD rfl,H9 f h1 h3,fun r hr j hj=>h4 r hr j (by rw[Cg] at hj;exact hj)⟩;unfold Dx;simp only[hs,ho,h1',V1,hput,H6]
 ·refine⟨g,s,ro,?_,Xo.refl f hbn (fun r hr=>by cases hr),h1,h3,h4⟩;unfold Dx;simp only[hs,ho,h1',V1];rfl
end Go.Hs
set_option maxHeartbeats 4000000
namespace Go.Proofs.YtofijpbmbmbnhaaGreatDoor
open Go Go.Hs Go.Proofs
variable {E:Env}
theorem Y8:tab.ty.get 171=some ⟨.func,1,8,some .nilFunc,true⟩:=by kernel_rfl
theorem AGE:tab.fn.get 77=some Tryz.f77:=by kernel_rfl
theorem AEM:tab.fn.get 113=some Tryz.f113:=by kernel_rfl
theorem AEL:tab.fn.get 114=some Tryz.f114:=by kernel_rfl
theorem Tj (a:Addr) {h:H}:AI tab E 171 a h=h.cell E a:=by unfold AI;rw[Y8];rfl
theorem ACz:Ak tab 171=some .nilFunc:=by unfold Ak;rw[Y8]
theorem AA9 {k:Nat} {ty:TypeId} {x0 x1 x2 x3 a b c d:Value} {g:H} (hb:g.blk k=some (.cells [x0,x1,x2,x3] ty none)) (h1:[a,b,c,d].all isOne=true) (hm:g.mark<=k):AO tab 24 (own k) (.agg ⟨[a,b,c,d]⟩) g=some (g.ak k (.cells [a,b,c,d] ty none)):=by
 unfold AO;rw[VY];exact Kj hb (by simp[Value.cells]) rfl h1 hm
structure Vis {σ:Type} (E:Env) (J:Aa) (step:Int->Hs.Item->σ->σ×Bool) (hE:H) (l k2 k3:Nat) (M:Nat->Prop) (Iv:Bool->σ->H->Prop):Prop where
 fit:∀ {s g},Iv true s g->Fit g
 grow:∀ {s g},Iv true s g->BL hE g
 b2:∀ {s g},Iv true s g->g.blk k2=some (.cells [.func (.yield l) ⟨[]⟩ ⟨[]⟩] 171 none)
 b3:∀ {s g},Iv true s g->g.blk k3=some (.cells [.func (.func 114) ⟨[]⟩ ⟨[.pointer (some (own k2)),.pointer (some (own k3))]⟩] 171 none)
 ahd:∀ {s g g'},Iv true s g->Ahd g g'->Iv true s g'
 low:∀ {s g},Iv true s g->∀ k,g.next<=k->¬ M k
 round:∀ {s g lv t xv},Iv true s g->1<=lv->lv<=2000000000->rep E hE t xv->∃ n v g',(ev tab E J n).round l [.int .i64 lv,xv] g=some (v,g')/\(v=.bool (step lv t s).2/\Iv (step lv t s).2 (step lv t s).1 g'/\Gm M g g')
noncomputable def OD:Code:=loopOf Tryz.f114
theorem VX {σ:Type} {J:Aa} {step:Int->Hs.Item->σ->σ×Bool} {hE:H} {l k2 k3:Nat} {M:Nat->Prop} {Iv:Bool->σ->H->Prop} (hJ:∀ args h,J 114 args h=none) (V:Vis E J step hE l k2 k3 M Iv) :
  ∀ (z:Nat) (t:Hs.Item) (xv:Value) (lv:Int) (s:σ) (g:H),isz t<=z->isz t<=1000000->rep E hE t xv->1<=lv->lv+isz t<=2000000000->Iv true s g->
   ∃ n v g',(ev tab E J n).call 114 [.int .i64 lv,xv,.pointer (some (own k2)),.pointer (some (own k3))] g=some (v,g')/\(v=.bool (visit step lv t s).2/\Iv (visit step lv t s).2 (visit step lv t s).1 g'/\Gm M g g'):=by
 intro z;induction z with
 | zero=>intro t xv lv s g hz;obtain⟨k,m,tx,ks⟩:=t;rw[isz] at hz;omega
 | succ z IH=>
 intro t xv lv s g hz hz6 hr hlv1 hlv2 iv;obtain⟨k,m,tx,ks⟩:=t;have hr0:=hr;obtain⟨sb,sc,rfl,hs⟩:=Ao hr;have hlen:ks.length<=1000000:=by
  rw[isz] at hz6;have:∀ l:List Hs.Item,l.length<=iszL l:=by
   intro l;induction l with
   | nil=>simp[iszL]
   | cons x l ih=>rw[iszL,I1];obtain⟨a,b,c,d⟩:=x;rw[isz];omega
  have:=this ks;omega
 refine Wc.call (hJ _ _) AEL rfl ?_;generalize hA0:(⟨T.ofList [.int .i64 lv,.agg ⟨[.int .i64 k,.int .i64 m,.string tx,.slice sb ks.length sc]⟩,.pointer (some (own k2)),.pointer (some (own k3))] 0 .nil,max ([.int .i64 lv,.agg ⟨[.int .i64 k,.int .i64 m,.string tx,.slice sb ks.length sc]⟩,.pointer (some (own k2)),.pointer (some (own k3))]:List Value).length Tryz.f114.ntmps,[]⟩:Ac)=A0;have n0:A0.n=28:=by rw[<- hA0];rfl
 have g00:A0.get 0=.int .i64 lv:=by rw[<- hA0];rfl
 have g01:A0.get 1=.agg ⟨[.int .i64 k,.int .i64 m,.string tx,.slice sb ks.length sc]⟩:=by rw[<- hA0];rfl
 have g02:A0.get 2=.pointer (some (own k2)):=by rw[<- hA0];rfl
 have g03:A0.get 3=.pointer (some (own k3)):=by rw[<- hA0];rfl
 have d0:A0.defers=[]:=by rw[<- hA0]
 have hfit:=V.fit iv;apply Wc.seq;refine Wc.ops (by (repeat ((with_reducible apply Rr rfl);focus ((try simp +decide only[Oz,n0,g00,g01,g02,g03]);with_reducible rfl)));with_reducible exact Rn) ?_;generalize hh1:g.new (.cells (Value.agg ⟨[.int .i64 k,.int .i64 m,.string tx,.slice sb ks.length sc]⟩).cells.toList 24 none)=h1;have a1:Ahd g h1:=by rw[<- hh1];exact Ahd.aj hfit rfl
 have b1:h1.blk g.next=some (.cells [.int .i64 k,.int .i64 m,.string tx,.slice sb ks.length sc] 24 none):=by rw[<- hh1];exact AA rfl
 clear hh1;have iv1:=V.ahd iv a1;have cl2:h1.cell E (own k2)=some (.func (.yield l) ⟨[]⟩ ⟨[]⟩):=Bp (V.b2 iv1) rfl;have cl5:h1.cells E (own g.next) 4=some [.int .i64 k,.int .i64 m,.string tx,.slice sb ks.length sc]:=AG b1 rfl rfl;obtain⟨nr,v1,g2,hround,rfl,iv2,kp2⟩:=V.round iv1 hlv1 (by omega) hr0;have kp:Gm M g g2:=a1.keep.trans kp2;have b2:g2.blk g.next=some (.cells [.int .i64 k,.int .i64 m,.string tx,.slice sb ks.length sc] 24 none):=kp2.blk _ _ (V.low iv _ (C0 _)) b1;cases hst:step lv (.mk k m tx ks) s with
 | mk s1 b=>
 rw[hst] at iv2 hround;cases b with
 | false=>
  rw[Nc hst];refine Vnz nr (Z11 n0 d0 g00 g01 g02 g03 @Tj @cl2 @MS @cl5 @hround) ?_;refine AW (v:=.bool false) (.inr rfl) (S0z d0) rfl (S0z n0) ⟨rfl,iv2,kp⟩
 | true=>
  rw[QT hst];have key:∀ (r i:Nat) (s':σ) (A:Ac) (g':H),r=ks.length-i->i<=ks.length->A.n=28->A.defers=[]->A.get 0=.int .i64 lv->A.get 3=.pointer (some (own k3))->A.get 15=.slice sb ks.length sc->A.get 16=.int .i64 (ks.length:Nat)->A.get 17=.int .i64 (i:Nat)->
    Iv true s' g'->Cv step (lv+1) ks s1=Cv step (lv+1) (ks.drop i) s'->Gm M g g'->
    Wc tab E J ⟨114,none⟩ (.loop OD) A g' (fun ex A' g''=>A'.n=28/\A'.defers=[]/\Gm M g g''/\Iv (Cv step (lv+1) ks s1).2 (Cv step (lv+1) ks s1).1 g''/\((ex=.exit 0/\(Cv step (lv+1) ks s1).2=true)\/(ex=.ret/\A'.get 6=.bool false/\(Cv step (lv+1) ks s1).2=false))):=by
   intro r;induction r with
   | zero=>
    intro i s' A g' hr' hi nA dA p0 p3 p15 p16 p17 iv' hvis kp';have hil:i=ks.length:=by omega
    have hlt:decide ((i:Int)<(ks.length:Int))=false:=by simp;omega
    rw[hil,T6,Cv] at hvis;rw[hvis];apply Wc.loop;simp only[OD,loopOf,firstLoop,Option.getD,Tryz.f114];refine Vwz (Z7 nA p0 p3 p15 p16 p17 @hlt) ?_;exact⟨by simp +decide only[Gz,nA],by simp +decide only[Gz,dA],kp',iv',.inl ⟨rfl,by simp⟩⟩
   | succ r ih=>
    intro i s' A g' hr' hi nA dA p0 p3 p15 p16 p17 iv' hvis kp';have hil:i<ks.length:=by omega
    have hlt:decide ((i:Int)<(ks.length:Int))=true:=by simp;omega
    have hks:ks.drop i=ks[i]::ks.drop (i+1):=H2 hil;rw[hks] at hvis;rcases hs with hk0|⟨a,cs,he,hlc,hcs,hrl⟩
    ·rw[hk0] at hil;simp at hil
    subst he;have hfit':=V.fit iv';have hcs1:=AV (V.grow iv') hcs;obtain⟨hl4,hrk⟩:=DH i hrl (Q0 hil);have hsub:=BD hcs1 (m:=i*4) (l:=4) (by omega);have hmem:ks[i]∈ks:=Q5 hil;have hkz:=Tn (k:=k) (n:=m) (t:=tx) hmem;have hq:∃ q0 q1 q2 q3,(cs.drop (i*4)).take 4=[q0,q1,q2,q3]/\[q0,q1,q2,q3].all isOne=true:=by
     generalize hki:ks[i]=ki at hrk;obtain⟨k',m',tx',ks'⟩:=ki;obtain⟨sb',sc',e,_⟩:=Ao hrk;simp only[Value.agg.injEq,Array.mk.injEq] at e;exact⟨_,_,_,_,e,rfl⟩
    obtain⟨q0,q1,q2,q3,hq,hone⟩:=hq;rw[hq] at hsub hrk;have hir:AN (i:Int) ks.length=true:=by
     show Nat.blt i ks.length=true;rw[P0];exact hil
    have w3:IntKind.i64.wrap ((i:Int)+1)=(i:Int)+1:=wrap64 (by omega) (by omega);have wl:IntKind.i64.wrap (lv+1)=lv+1:=wrap64 (by omega) (by omega);generalize hh3:g'.new (.cells (Value.agg #[.int .i64 0,.int .i64 0,.string ⟨#[]⟩,.slice none 0 0]).cells.toList 24 none)=h3;have a3:Ahd g' h3:=by rw[<- hh3];exact Ahd.aj hfit' rfl
    have c3:h3.blk g'.next=some (.cells [.int .i64 0,.int .i64 0,.string ⟨#[]⟩,.slice none 0 0] 24 none):=by rw[<- hh3];exact AA rfl
    have hn3:h3.next=g'.next+1:=by rw[<- hh3];rfl
    have hst3:=AA9 (a:=q0) (b:=q1) (c:=q2) (d:=q3) c3 hone (by rw[a3.mark];exact hfit'.ok.2);generalize hh4:h3.ak g'.next (.cells [q0,q1,q2,q3] 24 none)=h4 at hst3;have a4:Ahd g' h4:=by rw[<- hh4];exact a3.ak rfl (C0 _) (by omega) hfit'
    have c4:h4.blk g'.next=some (.cells [q0,q1,q2,q3] 24 none):=by rw[<- hh4];exact BZ rfl
    have iv4:=V.ahd iv' a4;have cl3:h4.cell E (own k3)=some (.func (.func 114) ⟨[]⟩ ⟨[.pointer (some (own k2)),.pointer (some (own k3))]⟩):=Bp (V.b3 iv4) rfl;have cl4:h4.cells E (own g'.next) 4=some [q0,q1,q2,q3]:=AG c4 rfl hone;obtain⟨nf,v',g5,hcall,rfl,iv5,kp5⟩:=IH ks[i] _ (lv+1) s' h4 (by omega) (by omega) hrk (by omega) (by omega) iv4;have kpT:Gm M g g5:=(kp'.ahd a4).trans kp5;cases hvi:visit step (lv+1) ks[i] s' with
    | mk s2 b=>
    rw[hvi] at iv5 hcall;apply Wc.loop;simp only[OD,loopOf,firstLoop,Option.getD,Tryz.f114];cases b with
    | false=>
     rw[HV hvi] at hvis;rw[hvis];refine Vnz nf (Z21 nA p0 p3 p15 p16 p17 @hlt (fun a c=>Ts a _ c _ hir) @M0 @MS @hsub @tz25 @hh3 @hst3 @Tj @cl3 @cl4 (@W0 Value) @hcall @wl @w3) ?_;exact⟨by simp +decide only[Gz,nA],by simp +decide only[Gz,dA],kpT,iv5,.inr ⟨rfl,by simp +decide only[Gz,nA],rfl⟩⟩
    | true=>
     rw[IJ hvi] at hvis;refine Vnz nf (Z21 nA p0 p3 p15 p16 p17 @hlt (fun a c=>Ts a _ c _ hir) @M0 @MS @hsub @tz25 @hh3 @hst3 @Tj @cl3 @cl4 (@W0 Value) @hcall @wl @w3) ?_;refine (ih (i+1) s2 _ g5 (by omega) (by omega) ?_ ?_ ?_ ?_ ?_ ?_ ?_ iv5 hvis kpT).mono ?_
     ·simp +decide only[Gz,nA]
     ·simp +decide only[Gz,dA]
     ·simp +decide only[Gz,nA,p0]
     ·simp +decide only[Gz,nA,p3]
     ·simp +decide only[Gz,nA,p15]
     ·simp +decide only[Gz,nA,p16]
     ·simp +decide only[Gz,nA];rfl
     ·rintro ex A' h' ⟨e1,e2,e3,e4,⟨rfl,e5⟩|⟨rfl,e5⟩⟩
      ·exact⟨e1,e2,e3,e4,.inl ⟨rfl,e5⟩⟩
      ·exact⟨e1,e2,e3,e4,.inr ⟨rfl,e5⟩⟩
  have hc3:g2.cell E (aadd (own g.next) 3)=some (.slice sb ks.length sc):=AS (i:=3) b2 rfl rfl;refine Vnz nr (Z15 n0 d0 g00 g01 g02 g03 @Tj @cl2 @MS @cl5 @hround @EL @ld23 @hc3 @len23) ?_;refine (key ks.length 0 s1 _ g2 rfl (C2 _) ?_ ?_ ?_ ?_ ?_ ?_ ?_ iv2 rfl kp).mono ?_
  ·simp +decide only[Gz,n0]
  ·simp +decide only[Gz,d0]
  ·simp +decide only[Gz,n0,g00]
  ·simp +decide only[Gz,n0,g03]
  ·simp +decide only[Gz,n0]
  ·simp +decide only[Gz,n0]
  ·simp +decide only[Gz,n0];rfl
  ·rintro ex A' g' ⟨e1,e2,e3,e4,⟨rfl,e5⟩|⟨rfl,e5,e6⟩⟩
   ·simp only[if_true];refine Vwz e1 ?_;refine AW (v:=.bool true) (.inr rfl) (S0z e2) rfl (S0z e1) ⟨by rw[e5],e4,e3⟩
   ·exact AW (v:=.bool false) (.inr rfl) e2 rfl e5 ⟨by rw[e6],e4,e3⟩
theorem ADY {k:Nat} {ty:TypeId} {x y:Value} {g:H} (hb:g.blk k=some (.cells [x] ty none)) (h1:isOne y=true) (hm:g.mark<=k):AO tab 171 (own k) y g=some (g.ak k (.cells [y] ty none)):=by
 unfold AO;rw[Y8,OH h1];exact Kj hb (by simp) rfl (by simp[h1]) hm
theorem st3 {k:Nat} {ty:TypeId} {x:Value} {i:Int} {g:H} (hb:g.blk k=some (.cells [x] ty none)) (hm:g.mark<=k):AO tab 3 (own k) (.int .i64 i) g=some (g.ak k (.cells [.int .i64 i] ty none)):=by
 unfold AO;rw[ty3];exact Kj hb (by simp[Value.cells]) rfl rfl hm
theorem ACf {k:Nat} {ty:TypeId} {x:Value} {i:Int} {g:H} (hb:g.blk k=some (.cells [x] ty none)) (hm:g.mark<=k):AO tab 30 (own k) (.int .i64 i) g=some (g.ak k (.cells [.int .i64 i] ty none)):=by
 unfold AO;rw[AC0];exact Kj hb (by simp[Value.cells]) rfl rfl hm
theorem AFL:Ak tab 30=some (.int .i64 0):=by unfold Ak;rw[AC0]
theorem AFC (a:Addr) {h:H}:AI tab E 30 a h=h.cell E a:=by unfold AI;rw[AC0];rfl
theorem call70 {J:Aa} (hJ:∀ args h,J 77 args h=none) {a b c d:Value} (g:H) :
  ∃ n v g',(ev tab E J n).call 77 [.agg ⟨[a,b,c,d]⟩] g=some (v,g')/\(v=.func (.func 113) ⟨[]⟩ ⟨[.pointer (some (own g.next))]⟩/\g'=g.new (.cells [a,b,c,d] 24 none)):=by
 refine Wc.call (hJ _ _) AGE rfl ?_;generalize hA0:(⟨T.ofList [.agg ⟨[a,b,c,d]⟩] 0 .nil,max ([.agg ⟨[a,b,c,d]⟩]:List Value).length Tryz.f77.ntmps,[]⟩:Ac)=A0;have n0:A0.n=4:=by rw[<- hA0];rfl
 have g00:A0.get 0=.agg ⟨[a,b,c,d]⟩:=by rw[<- hA0];rfl
 have d0:A0.defers=[]:=by rw[<- hA0]
 refine Vwz (Z5 n0 d0 g00 @roF.eq_1 @roF.eq_2) ?_;exact AW (.inr rfl) (S0z d0) rfl (S0z n0) ⟨rfl,rfl⟩
theorem call109 {σ:Type} {J:Aa} {step:Int->Hs.Item->σ->σ×Bool} {hE g:H} {l kb:Nat} {M:Nat->Prop} {Iv:Bool->σ->H->Prop} (hJ:∀ f args h,(f=113\/f=114)->J f args h=none) (V:Vis E J step hE l g.next (g.next+1) M Iv)
  (hfit:Fit g) (t:Hs.Item) {a b c d:Value} (h1:[a,b,c,d].all isOne=true) (hb:g.blk kb=some (.cells [a,b,c,d] 24 none)) (hr:rep E hE t (.agg ⟨[a,b,c,d]⟩)) (hz:isz t<=1000000) (s:σ)
  (start:∀ g',Ahd g g'->g'.blk g.next=some (.cells [.func (.yield l) ⟨[]⟩ ⟨[]⟩] 171 none)->g'.blk (g.next+1)=some (.cells [.func (.func 114) ⟨[]⟩ ⟨[.pointer (some (own g.next)),.pointer (some (own (g.next+1)))]⟩] 171 none)->Iv true s g') :
  ∃ n v g',(ev tab E J n).call 113 [.func (.yield l) ⟨[]⟩ ⟨[]⟩,.pointer (some (own kb))] g=some (v,g')/\(v=.tuple #[]/\Iv (visit step 1 t s).2 (visit step 1 t s).1 g'/\Gm M g g'):=by
 refine Wc.call (hJ _ _ _ (.inl rfl)) AEM rfl ?_;generalize hA0:(⟨T.ofList [.func (.yield l) ⟨[]⟩ ⟨[]⟩,.pointer (some (own kb))] 0 .nil,max ([.func (.yield l) ⟨[]⟩ ⟨[]⟩,.pointer (some (own kb))]:List Value).length Tryz.f113.ntmps,[]⟩:Ac)=A0;have n0:A0.n=8:=by rw[<- hA0];rfl
 have g00:A0.get 0=.func (.yield l) ⟨[]⟩ ⟨[]⟩:=by rw[<- hA0];rfl
 have g01:A0.get 1=.pointer (some (own kb)):=by rw[<- hA0];rfl
 have d0:A0.defers=[]:=by rw[<- hA0]
 generalize hh1:g.new (.cells (Value.func (.yield l) ⟨[]⟩ ⟨[]⟩).cells.toList 171 none)=h1';have a1:Ahd g h1':=by rw[<- hh1];exact Ahd.aj hfit rfl
 have b1:h1'.blk g.next=some (.cells [.func (.yield l) ⟨[]⟩ ⟨[]⟩] 171 none):=by rw[<- hh1];exact AA rfl
 have hn1:h1'.next=g.next+1:=by rw[<- hh1];rfl
 generalize hh2:h1'.new (.cells Value.nilFunc.cells.toList 171 none)=h2;have a2:Ahd h1' h2:=by rw[<- hh2];exact Ahd.aj a1.fit rfl
 have b2:h2.blk h1'.next=some (.cells [.nilFunc] 171 none):=by rw[<- hh2];exact AA rfl
 have hn2:h2.next=g.next+2:=by rw[<- hh2];show h1'.next+1=_;rw[hn1]
 rw[hn1] at b2;have a12:=a1.trans a2;have hst:=ADY (y:=.func (.func 114) ⟨[]⟩ ⟨[.pointer (some (own g.next)),.pointer (some (own (g.next+1)))]⟩) b2 rfl (by rw[a12.mark];exact O6 hfit.ok.2);generalize hh3:h2.ak (g.next+1) (.cells [.func (.func 114) ⟨[]⟩ ⟨[.pointer (some (own g.next)),.pointer (some (own (g.next+1)))]⟩] 171 none)=h3 at hst;have a3:Ahd g h3:=by rw[<- hh3];exact a12.ak rfl (U1 _) (by omega) hfit
 have c1:h3.blk g.next=some (.cells [.func (.yield l) ⟨[]⟩ ⟨[]⟩] 171 none):=by rw[<- hh3,BV (by omega)];exact a2.grows _ _ b1
 have c2:h3.blk (g.next+1)=some (.cells [.func (.func 114) ⟨[]⟩ ⟨[.pointer (some (own g.next)),.pointer (some (own (g.next+1)))]⟩] 171 none):=by rw[<- hh3];exact BZ rfl
 have iv:=start h3 a3 c1 c2;obtain⟨n,v,g',hcall,rfl,iv',kp⟩:=VX (fun args h=>hJ _ args h (.inr rfl)) V (isz t) t _ 1 s h3 (C0 _) hz hr (by omega) (by omega) iv;have cl2:h3.cell E (own (g.next+1))=some (.func (.func 114) ⟨[]⟩ ⟨[.pointer (some (own g.next)),.pointer (some (own (g.next+1)))]⟩):=Bp c2 rfl;have cl1:h3.cells E (own kb) 4=some [a,b,c,d]:=AG (a3.grows _ _ hb) rfl h1;refine Vnz n (Z17 n0 d0 g00 g01 @hh1 @ACz @hn1 @hh2 @roF.eq_1 @roF.eq_2 @hst @Tj @MS @cl1 @cl2 (@W0 Value) @hcall) ?_;exact Gb (.inl rfl) (S0z d0) rfl ⟨rfl,iv',a3.keep.trans kp⟩
/-! ### 35 -/
theorem AGU:tab.fn.get 44=some Tryz.f44:=by kernel_rfl
noncomputable def asg35:Code:=(rangeOf Tryz.f44).1
noncomputable def bod35:Code:=(rangeOf Tryz.f44).2
structure XV (g0:H) (kR kN l:Nat) (r0:EO) (b:Bool) (s:Int×Int) (g:H):Prop where
 fit:Fit g
 log:g.log=[]
 mark:g.mark=g0.mark
 keep:Gm (fun k=>k=kR\/k=kN\/k=l) g0 g
 bR:g.blk kR=some (.cells [.int .i64 s.2] 30 none)
 bN:g.blk kN=some (.cells [.int .i64 s.1] 3 none)
 bl:g.blk l=some (.loop (if b then r0 else { r0 with state:=.done,pending:=some .ret }))
 cnt:b=true->s.2=0/\0<=s.1/\s.1<=5000
theorem XV.ahd {g0:H} {kR kN l:Nat} {r0:EO} {b:Bool} {s:Int×Int} {g g':H} (S:XV g0 kR kN l r0 b s g) (a:Ahd g g'):XV g0 kR kN l r0 b s g':=
 ⟨a.fit,a.log.trans S.log,a.mark.trans S.mark,S.keep.ahd a,a.grows _ _ S.bR,a.grows _ _ S.bN,a.grows _ _ S.bl,S.cnt⟩
theorem ZQ {J:Aa} {g0:H} {kR kN l d:Nat} (o1:kR<kN) (o2:kN<l) (om:g0.mark<=kR) {A:Ac} (nA:A.n=42) (p2:A.get 2=.pointer (some (own kR))) (p3:A.get 3=.pointer (some (own kN))) {s:Int×Int} {g:H}
  (S:XV g0 kR kN l ⟨.ready,none,44,A.tmps,A.n,#[8,9],asg35,bod35,d⟩ true s g) {lv:Int} (hlv:1<=lv) (hlv2:lv<=2000000000) {t:Hs.Item} {xv:Value} {hE:H} (hr:rep E hE t xv) :
  ∃ n v g',(ev tab E J n).round l [.int .i64 lv,xv] g=some (v,g')/\(v=.bool (Cf lv t s).2/\XV g0 kR kN l ⟨.ready,none,44,A.tmps,A.n,#[8,9],asg35,bod35,d⟩ (Cf lv t s).2 (Cf lv t s).1 g'/\Gm (fun k=>k=kR\/k=kN\/k=l) g g'):=by
 obtain⟨c,e⟩:=s;obtain⟨rfl,hc0,hc1⟩:=S.cnt rfl;replace hc0:0<=c:=hc0;replace hc1:c<=5000:=hc1;obtain⟨k,m,tx,ks⟩:=t;obtain⟨sb,sc,rfl,_⟩:=Ao hr;generalize hr0:(⟨.ready,none,44,A.tmps,A.n,#[8,9],asg35,bod35,d⟩:EO)=r0 at S ⊢;have bl:=S.bl;rw[if_pos rfl] at bl;have hln:=S.fit.lt bl;refine Wr.round bl (A:=((⟨A.tmps,A.n,[]⟩:Ac).put (some 8) (.int .i64 lv)).put (some 9) (.agg ⟨[.int .i64 k,.int .i64 m,.string tx,.slice sb ks.length sc]⟩)) (by rw[<- hr0];rfl) ?_;have hp:∀ i,(⟨A.tmps,A.n,[]⟩:Ac).get i=A.get i:=fun _=>rfl;have hpn:(⟨A.tmps,A.n,[]⟩:Ac).n=42:=nA;have q2:=(hp 2).trans p2;have q3:=(hp 3).trans p3;generalize (⟨A.tmps,A.n,[]⟩:Ac)=B0 at hpn q2 q3 ⊢;obtain⟨h3,hh3,a3,c3⟩:=nT S.fit [.int .i64 0,.int .i64 0,.string ⟨#[]⟩,.slice none 0 0] 24;have hn3:h3.next=g.next+1:=by rw[<- hh3];rfl
 have hst3:=AA9 (a:=.int .i64 k) (b:=.int .i64 m) (c:=.string tx) (d:=.slice sb ks.length sc) c3 rfl (by rw[a3.mark];exact S.fit.ok.2);generalize hh4:h3.ak g.next (.cells [.int .i64 k,.int .i64 m,.string tx,.slice sb ks.length sc] 24 none)=h4 at hst3;have a4:Ahd g h4:=by rw[<- hh4];exact a3.ak rfl (C0 _) (by omega) S.fit
 have c4:h4.blk g.next=some (.cells [.int .i64 k,.int .i64 m,.string tx,.slice sb ks.length sc] 24 none):=by rw[<- hh4];exact BZ rfl
 have asgW:Wc tab E J ⟨r0.fn,some l⟩ r0.assign ((B0.put (some 8) (.int .i64 lv)).put (some 9) (.agg ⟨[.int .i64 k,.int .i64 m,.string tx,.slice sb ks.length sc]⟩)) g (fun ex A1 h1=>ex=.normal/\h1=h4/\A1.n=42/\A1.get 2=.pointer (some (own kR))/\A1.get 3=.pointer (some (own kN))/\A1.get 4=.int .i64 lv/\A1.get 5=.pointer (some (own g.next))):=by
  have hasg:r0.assign=asg35:=by rw[<- hr0]
  have hfn0:r0.fn=44:=by rw[<- hr0]
  rw[hasg,hfn0];simp only[asg35,rangeOf,firstRange,Option.getD,Tryz.f44];refine Vwz (Z6 @hpn q2 q3 @tz25 @hh3 @hst3) ?_;exact⟨rfl,rfl,by simp +decide only[Gz,hpn],by simp +decide only[Gz,hpn,q2],by simp +decide only[Gz,hpn,q3],by simp +decide only[Gz,hpn],by simp +decide only[Gz,hpn]⟩
 have S4:=S.ahd a4;clear hh3 c3 hst3;have bl4:=a4.grows _ _ bl;refine asgW.mono ?_;clear asgW;rintro ex A1 h1 ⟨rfl,rfl,nA1,u2,u3,u4,u5⟩;refine⟨rfl,r0,bl4,by rw[<- hr0],?_⟩;have hml:h1.mark<=l:=by rw[S4.mark];omega
 rw[DM hml];generalize hh7:h1.ak l (.loop { r0 with state:=.busy })=h7;have hl1:l<h1.next:=Q1 hln a4.next;have f7:Fit h7:=by rw[<- hh7];exact a4.fit.ak rfl hl1
 have R7:h7.blk kR=some (.cells [.int .i64 0] 30 none):=by rw[<- hh7,BV (by omega)];exact S4.bR
 have N7:h7.blk kN=some (.cells [.int .i64 c] 3 none):=by rw[<- hh7,BV (by omega)];exact S4.bN
 have L7:h7.blk l=some (.loop { r0 with state:=.busy }):=by rw[<- hh7];exact BZ rfl
 have X7:h7.blk g.next=some (.cells [.int .i64 k,.int .i64 m,.string tx,.slice sb ks.length sc] 24 none):=by rw[<- hh7,BV (by omega)];exact c4
 have k7:Gm (fun k=>k=kR\/k=kN\/k=l) g h7:=by rw[<- hh7];exact a4.keep.ak (.inr (.inr rfl))
 have log7:h7.log=[]:=by rw[<- hh7];exact S4.log
 have mark7:h7.mark=g0.mark:=by rw[<- hh7];exact S4.mark
 have n7:h7.next=h1.next:=by rw[<- hh7];rfl
 have finF:∀ x:Int,∃ r2,(h7.ak kR (.cells [.int .i64 x] 30 none)).blk l=some (.loop r2)/\XV g0 kR kN l r0 false (c,x) ((h7.ak kR (.cells [.int .i64 x] 30 none)).aq l (.loop { r2 with state:=.done,pending:=some .ret }))/\Gm (fun k=>k=kR\/k=kN\/k=l) g ((h7.ak kR (.cells [.int .i64 x] 30 none)).aq l (.loop { r2 with state:=.done,pending:=some .ret })):=by
  intro x;refine⟨{ r0 with state:=.busy },by rw[BV (by omega)];exact L7,?_⟩;rw[DM (by show h7.mark<=l;rw[mark7];omega)];have kk:=(k7.ak (k:=kR) (B:=.cells [.int .i64 x] 30 none) (.inl rfl)).ak (k:=l) (B:=.loop { r0 with state:=.done,pending:=some .ret }) (.inr (.inr rfl));refine⟨⟨(f7.ak rfl (by omega)).ak rfl (by show l<h7.next;omega),log7,mark7,S.keep.trans kk,?_,?_,?_,fun hh=>by cases hh⟩,kk⟩
  ·rw[BV (by omega)];exact BZ rfl
  ·rw[BV (by omega),BV (by omega)];exact N7
  ·rw[if_neg (by decide)];exact BZ rfl
 have finT:c<5000->∃ r2,(h7.ak kN (.cells [.int .i64 (c+1)] 3 none)).blk l=some (.loop r2)/\XV g0 kR kN l r0 true (c+1,0) ((h7.ak kN (.cells [.int .i64 (c+1)] 3 none)).aq l (.loop { r2 with state:=.ready,pending:=none }))/\Gm (fun k=>k=kR\/k=kN\/k=l) g ((h7.ak kN (.cells [.int .i64 (c+1)] 3 none)).aq l (.loop { r2 with state:=.ready,pending:=none })):=by
  intro hlt;refine⟨{ r0 with state:=.busy },by rw[BV (by omega)];exact L7,?_⟩;rw[DM (by show h7.mark<=l;rw[mark7];omega)];have er:({ r0 with state:=.ready,pending:=none }:EO)=r0:=by rw[<- hr0]
  have kk:=(k7.ak (k:=kN) (B:=.cells [.int .i64 (c+1)] 3 none) (.inr (.inl rfl))).ak (k:=l) (B:=.loop { r0 with state:=.ready,pending:=none }) (.inr (.inr rfl));refine⟨⟨(f7.ak rfl (by omega)).ak rfl (by show l<h7.next;omega),log7,mark7,S.keep.trans kk,?_,?_,?_,fun _=>⟨rfl,by show 0<=c+1;omega,by show c+1<=5000;omega⟩⟩,kk⟩
  ·rw[BV (by omega),BV (by omega)];exact R7
  ·rw[BV (by omega)];exact BZ rfl
  ·rw[if_pos rfl];refine (BZ rfl).trans ?_;show some (Blk.loop { r0 with state:=.ready,pending:=none })=_;rw[er]
 have mR:h7.mark<=kR:=by rw[mark7];exact om
 have x0:h7.cell E (aadd (own g.next) 0)=some (.int .i64 k):=AS (i:=0) X7 rfl rfl;have x1:h7.cell E (aadd (own g.next) 1)=some (.int .i64 m):=AS (i:=1) X7 rfl rfl;have x2:h7.cell E (aadd (own g.next) 2)=some (.string tx):=AS (i:=2) X7 rfl rfl;have xN:h7.cell E (own kN)=some (.int .i64 c):=Bp N7 rfl;have s11:=ACf (i:=11) R7 mR;have s2:=ACf (i:=2) R7 mR;have s3:=ACf (i:=3) R7 mR;have sN:=st3 (i:=c+1) N7 (by omega);have w1:IntKind.i64.wrap (c+1)=c+1:=wrap64 (by omega) (by omega);have hbod:r0.body=bod35:=by rw[<- hr0]
 have hfn0:r0.fn=44:=by rw[<- hr0]
 rw[hbod,hfn0];simp only[bod35,rangeOf,firstRange,Option.getD,Tryz.f44];by_cases a:lv>250
 ·have e:Cf lv (.mk k m tx ks) (c,0)=((c,11),false):=by simp only[Cf,if_pos a]
  rw[e];have da:decide (lv>250)=true:=by simpa using a
  refine Vwz (Z7 @nA1 @u2 @u3 @u4 @u5 @da @s11) ?_;obtain⟨r2,z1,z2,z3⟩:=finF 11;exact⟨r2,z1,.inr ⟨rfl,rfl,z2,z3⟩⟩
 have da:decide (lv>250)=false:=by simpa using a
 by_cases b:c=5000
 ·have e:Cf lv (.mk k m tx ks) (c,0)=((c,2),false):=by simp only[Cf,if_neg a,if_pos b]
  rw[e];have db:decide (c=5000)=true:=by simpa using b
  refine Vwz (Z10 @nA1 @u2 @u3 @u4 @u5 @da @ld3 @xN @db @s2) ?_;obtain⟨r2,z1,z2,z3⟩:=finF 2;exact⟨r2,z1,.inr ⟨rfl,rfl,z2,z3⟩⟩
 have db:decide (c=5000)=false:=by simpa using b
 obtain⟨r3,z1,z2,z3⟩:=finF 3;by_cases q1:k<1
 ·have e:Cf lv (.mk k m tx ks) (c,0)=((c,3),false):=by simp only[Cf,if_neg a,if_neg b,if_pos (show k<1\/k>63\/m<0\/m>1099511627776 from .inl q1)]
  rw[e];have d1:decide (k<1)=true:=by simpa using q1
  refine VWz (Z15 @nA1 @u2 @u3 @u4 @u5 @da @ld3 @xN @db @Ej @EM @x0 @x1 @d1 @s3) ?_;exact⟨r3,z1,.inr ⟨rfl,rfl,z2,z3⟩⟩
 have d1:decide (k<1)=false:=by simpa using q1
 by_cases q2':k>63
 ·have e:Cf lv (.mk k m tx ks) (c,0)=((c,3),false):=by simp only[Cf,if_neg a,if_neg b,if_pos (show k<1\/k>63\/m<0\/m>1099511627776 from .inr (.inl q2'))]
  rw[e];have d2:decide (k>63)=true:=by simpa using q2'
  refine VWz (Z16 @nA1 @u2 @u3 @u4 @u5 @da @ld3 @xN @db @Ej @EM @x0 @x1 @d1 @d2 @s3) ?_;exact⟨r3,z1,.inr ⟨rfl,rfl,z2,z3⟩⟩
 have d2:decide (k>63)=false:=by simpa using q2'
 by_cases q3':m<0
 ·have e:Cf lv (.mk k m tx ks) (c,0)=((c,3),false):=by simp only[Cf,if_neg a,if_neg b,if_pos (show k<1\/k>63\/m<0\/m>1099511627776 from .inr (.inr (.inl q3')))]
  rw[e];have d3:decide (m<0)=true:=by simpa using q3'
  refine VWz (Z17 @nA1 @u2 @u3 @u4 @u5 @da @ld3 @xN @db @Ej @EM @x0 @x1 @d1 @d2 @d3 @s3) ?_;exact⟨r3,z1,.inr ⟨rfl,rfl,z2,z3⟩⟩
 have d3:decide (m<0)=false:=by simpa using q3'
 by_cases q4:m>1099511627776
 ·have e:Cf lv (.mk k m tx ks) (c,0)=((c,3),false):=by simp only[Cf,if_neg a,if_neg b,if_pos (show k<1\/k>63\/m<0\/m>1099511627776 from .inr (.inr (.inr q4)))]
  rw[e];have d4:decide (m>1099511627776)=true:=by simpa using q4
  refine VWz (Z18 @nA1 @u2 @u3 @u4 @u5 @da @ld3 @xN @db @Ej @EM @x0 @x1 @d1 @d2 @d3 @d4 @s3) ?_;exact⟨r3,z1,.inr ⟨rfl,rfl,z2,z3⟩⟩
 have d4:decide (m>1099511627776)=false:=by simpa using q4
 have no:¬ (k<1\/k>63\/m<0\/m>1099511627776):=by omega
 by_cases q5:(tx.data.toList.length:Int)>4096
 ·have e:Cf lv (.mk k m tx ks) (c,0)=((c,11),false):=by simp only[Cf,if_neg a,if_neg b,if_neg no,if_pos q5]
  rw[e];have d5:decide ((tx.data.toList.length:Int)>4096)=true:=by simpa using q5
  refine VWz (Z23 @nA1 @u2 @u3 @u4 @u5 @da @ld3 @ld9 @xN @db @Ej @EM @GZ @x0 @x1 @x2 @d1 @d2 @d3 @d4 @AFB @d5 @s11) ?_;obtain⟨r2,z1,z2,z3⟩:=finF 11;exact⟨r2,z1,.inr ⟨rfl,rfl,z2,z3⟩⟩
 have d5:decide ((tx.data.toList.length:Int)>4096)=false:=by simpa using q5
 have e:Cf lv (.mk k m tx ks) (c,0)=((c+1,0),true):=by simp only[Cf,if_neg a,if_neg b,if_neg no,if_neg q5]
 rw[e];refine VWz (Z24 @nA1 @u2 @u3 @u4 @u5 @da @ld3 @ld9 @xN @db @Ej @EM @GZ @x0 @x1 @x2 @d1 @d2 @d3 @d4 @AFB @d5 @w1 @sN) ?_;obtain⟨r2,z1,z2,z3⟩:=finT (by omega);exact⟨r2,z1,.inl ⟨rfl,rfl,z2,z3⟩⟩
variable {E:Env} {I:Aa}
def PP (E:Env):Lb:=fun s f args h v=>f=44/\s=0/\∃ t xv,args=[xv]/\rep E h t xv/\isz t<=1000000/\v=.int .i64 (Fl t 0 1).2
theorem ABm (E:Env):One (PP E):=by
 rintro s s' f args h v v' ⟨_,_,t,xv,rfl,h1,_,rfl⟩ ⟨_,_,t',xv',he,h2,_,rfl⟩;cases he;rw[Cj h1 h2]
theorem ZK (hI:∀ f args h,(f=44\/f=77\/f=113\/f=114)->I f args h=none):FR tab E I (PP E):=by
 rintro sz f args h v ⟨rfl,rfl,t,xv,rfl,hr,hz,rfl⟩ hfit;refine⟨rfl,?_⟩;obtain⟨k,m,tx,ks⟩:=t;obtain⟨sb,sc,rfl,hs⟩:=Ao hr;have hJ:Fm (PP E) I 0=I:=by funext f args h;exact Bw (fun _ _ hs=>absurd hs (I6 _))
 rw[hJ];suffices hw:∃ n v h',(ev tab E I n).call 44 [.agg ⟨[.int .i64 k,.int .i64 m,.string tx,.slice sb ks.length sc]⟩] (fresh h)=some (v,h')/\(v=.int .i64 (Fl (.mk k m tx ks) 0 1).2/\h'.log=[]) by
  obtain⟨n,v,h',h1,rfl,h3⟩:=hw;exact⟨n,h',h1,h3⟩
 refine Wc.call (hI _ _ _ (.inl rfl)) AGU rfl ?_;generalize hA0:(⟨T.ofList [.agg ⟨[.int .i64 k,.int .i64 m,.string tx,.slice sb ks.length sc]⟩] 0 .nil,max ([.agg ⟨[.int .i64 k,.int .i64 m,.string tx,.slice sb ks.length sc]⟩]:List Value).length Tryz.f44.ntmps,[]⟩:Ac)=A0;have n0:A0.n=42:=by rw[<- hA0];rfl
 have g00:A0.get 0=.agg ⟨[.int .i64 k,.int .i64 m,.string tx,.slice sb ks.length sc]⟩:=by rw[<- hA0];rfl
 have d0:A0.defers=[]:=by rw[<- hA0]
 have hl0:(fresh h).log=[]:=rfl;have hgf:BL h (fresh h):=fun _ _ hb=>hb;generalize hg:fresh h=g at hfit hl0 hgf;have hmk:g.mark<=g.next:=hfit.ok.2;obtain⟨h1,hh1,a1,b1⟩:=nA hfit [.int .i64 k,.int .i64 m,.string tx,.slice sb ks.length sc] 24;have n1:h1.next=g.next+1:=by rw[<- hh1];rfl
 generalize hh2:h1.new (.cells (Value.int .i64 0).cells.toList 30 none)=h2;have a2:Ahd h1 h2:=by rw[<- hh2];exact Ahd.aj a1.fit rfl
 have b2:h2.blk (g.next+1)=some (.cells [.int .i64 0] 30 none):=by rw[<- hh2,<- n1];exact AA rfl
 have n2:h2.next=g.next+2:=by rw[<- hh2];show h1.next+1=_;rw[n1]
 generalize hh3:h2.new (.cells (Value.int .i64 0).cells.toList 3 none)=h3;have a3:Ahd h2 h3:=by rw[<- hh3];exact Ahd.aj a2.fit rfl
 have b3:h3.blk (g.next+2)=some (.cells [.int .i64 0] 3 none):=by rw[<- hh3,<- n2];exact AA rfl
 have n3:h3.next=g.next+3:=by rw[<- hh3];show h2.next+1=_;rw[n2]
 have a13:=(a1.trans a2).trans a3;have hst:=st3 (i:=0) b3 (by rw[a13.mark];omega);generalize hh4:h3.ak (g.next+2) (.cells [.int .i64 0] 3 none)=h4 at hst;have a4:Ahd g h4:=by rw[<- hh4];exact a13.ak rfl (by omega) (by omega) hfit
 have c1:h4.blk g.next=some (.cells [.int .i64 k,.int .i64 m,.string tx,.slice sb ks.length sc] 24 none):=by rw[<- hh4,BV (by omega)];exact a3.grows _ _ (a2.grows _ _ b1)
 have c2:h4.blk (g.next+1)=some (.cells [.int .i64 0] 30 none):=by rw[<- hh4,BV (by omega)];exact a3.grows _ _ b2
 have c3:h4.blk (g.next+2)=some (.cells [.int .i64 0] 3 none):=by rw[<- hh4];exact BZ rfl
 have n4:h4.next=g.next+3:=by rw[<- hh4];exact n3
 have cl1:h4.cells E (own g.next) 4=some [.int .i64 k,.int .i64 m,.string tx,.slice sb ks.length sc]:=AG c1 rfl rfl;obtain⟨nf,v7,h5,hc70,rfl,hh5⟩:=call70 (E:=E) (J:=I) (fun args h=>hI _ args h (.inr (.inl rfl))) (a:=.int .i64 k) (b:=.int .i64 m) (c:=.string tx) (d:=.slice sb ks.length sc) h4;have a5:Ahd h4 h5:=by rw[hh5];exact Ahd.aj a4.fit rfl
 have b5:h5.blk (g.next+3)=some (.cells [.int .i64 k,.int .i64 m,.string tx,.slice sb ks.length sc] 24 none):=by rw[hh5,<- n4];exact AA rfl
 have n5:h5.next=g.next+4:=by rw[hh5];show h4.next+1=_;rw[n4]
 have a05:=a4.trans a5;rw[n4] at hc70;refine Vnz nf (Z15 n0 d0 g00 @AFL @tz3 @hh1 @hh2 @hh3 @n1 @n2 @n3 @hst @MS @cl1 @hc70) ?_;refine Wc.forget (fun A=>A.n=42/\A.defers=[]/\A.get 2=.pointer (some (own (g.next+1)))/\A.get 3=.pointer (some (own (g.next+2)))/\A.get 7=.func (.func 113) ⟨[]⟩ ⟨[.pointer (some (own (g.next+3)))]⟩) ⟨by simp +decide only[Gz,n0],by simp +decide only[Gz,d0],by simp +decide only[Gz,n0],by simp +decide only[Gz,n0],by simp +decide only[Gz,n0]⟩ ?_;clear hA0 n0 g00 d0;rintro A ⟨nA,dA,p2,p3,p7⟩;generalize hr0:(⟨.ready,none,44,A.tmps,A.n,#[8,9],asg35,bod35,g.next+4⟩:EO)=r0;have fr0:r0.state=.ready/\r0.pending=none:=by rw[<- hr0];exact⟨rfl,rfl⟩
 generalize hh6:h5.new (.defd false)=h6;have a6:Ahd h5 h6:=by rw[<- hh6];exact Ahd.aj a5.fit rfl
 have b6:h6.blk (g.next+4)=some (.defd false):=by rw[<- hh6,<- n5];exact AA rfl
 have n6:h6.next=g.next+5:=by rw[<- hh6];show h5.next+1=_;rw[n5]
 generalize hh7:h6.new (.loop r0)=h7;have a7:Ahd h6 h7:=by rw[<- hh7];exact Ahd.aj a6.fit rfl
 have b7:h7.blk (g.next+5)=some (.loop r0):=by rw[<- hh7,<- n6];exact AA rfl
 have n7:h7.next=g.next+6:=by rw[<- hh7];show h6.next+1=_;rw[n6]
 have a57:=a6.trans a7;have a07:=a05.trans a57;have m7:h7.mark=g.mark:=a07.mark;have S7:XV h7 (g.next+1) (g.next+2) (g.next+5) r0 true (0,0) h7:=
  ⟨a7.fit,a07.log.trans hl0,rfl,Gm.refl _ _,a57.grows _ _ (a5.grows _ _ c2),a57.grows _ _ (a5.grows _ _ c3),by rw[if_pos rfl];exact b7,fun _=>⟨rfl,by show (0:Int)<=0;omega,by show (0:Int)<=5000;omega⟩⟩
 have hrg:rep E g (.mk k m tx ks) (.agg ⟨[.int .i64 k,.int .i64 m,.string tx,.slice sb ks.length sc]⟩):=AJ hgf hr;have hround:=@ZQ E I h7 (g.next+1) (g.next+2) (g.next+5) (g.next+4) (by omega) (by omega) (by rw[m7];omega) A nA p2 p3;rw[hr0] at hround;have V:Vis E I Cf g (g.next+5) h7.next (h7.next+1) (fun k=>k=g.next+1\/k=g.next+2\/k=g.next+5)
   (fun b s g'=>XV h7 (g.next+1) (g.next+2) (g.next+5) r0 b s g'/\(b=true->g'.blk h7.next=some (.cells [.func (.yield (g.next+5)) ⟨[]⟩ ⟨[]⟩] 171 none)/\g'.blk (h7.next+1)=some (.cells [.func (.func 114) ⟨[]⟩ ⟨[.pointer (some (own h7.next)),.pointer (some (own (h7.next+1)))]⟩] 171 none))):=by
  have hM:∀ k,h7.next<=k->¬ (k=g.next+1\/k=g.next+2\/k=g.next+5):=fun k hk=>by rw[n7] at hk;omega
  refine⟨fun S=>S.1.fit,fun S k B hb => ?_,fun S=>(S.2 rfl).1,fun S=>(S.2 rfl).2,fun S a=>⟨S.1.ahd a,fun h=>⟨a.grows _ _ (S.2 h).1,a.grows _ _ (S.2 h).2⟩⟩,fun S k hk=>hM k (Y0 S.1.keep.next hk),?_⟩
  ·have hlt:=hfit.lt hb;exact S.1.keep.blk k B (by omega) (a07.grows _ _ hb)
  ·intro s g' lv t xv S hlv hlv2 hr;obtain⟨n,v,g'',e1,e2,e3,e4⟩:=hround S.1 hlv hlv2 hr;exact⟨n,v,g'',e1,e2,⟨e3,fun _=>⟨e4.blk _ _ (hM _ (C0 _)) (S.2 rfl).1,e4.blk _ _ (hM _ (U1 _)) (S.2 rfl).2⟩⟩,e4⟩
 obtain⟨nc,vc,g8,hc109,rfl,⟨S8,_⟩,kp⟩:=call109 (fun f args h hf=>hI f args h (by rcases hf with h|h<;>simp[h])) V a7.fit (.mk k m tx ks) rfl (a57.grows _ _ b5) hrg hz (0,0) (fun g' a q1 q2=>⟨S7.ahd a,fun _=>⟨q1,q2⟩⟩);rw[Xx _ _ _ (Int.le_refl _) (by decide)] at S8;have hacall:Dm (ev tab E I nc) (.func (.func 113) ⟨[]⟩ ⟨[.pointer (some (own (g.next+3)))]⟩) [.func (.yield (h5.next+1)) #[] #[]] ((h5.new (.defd false)).new (.loop ⟨.ready,none,44,A.tmps,A.n,#[8,9],asg35,bod35,h5.next⟩))=some (.tuple #[],g8):=by
  rw[n5,hr0,hh6,hh7];exact hc109
 have hopv:opv A (.tmp 7)=some (.func (.func 113) ⟨[]⟩ ⟨[.pointer (some (own (g.next+3)))]⟩):=by simp only[opv,p7]
 have m8:g8.mark<=g.next:=by rw[S8.mark,m7];exact hmk
 have d8:g8.blk (g.next+4)=some (.defd false):=kp.blk _ _ (by omega) (a7.grows _ _ b6);have x8:g.next+6<=g8.next:=by rw[<- n7];exact kp.next
 by_cases hq:(Fl (.mk k m tx ks) 0 1).2=0
 ·rw[afterC,if_pos hq] at S8;have bl8:=S8.bl;rw[if_pos rfl] at bl8;refine Wc.range nc hopv hacall (r:=r0) (by rw[n5];exact bl8) (by rw[fr0.1];decide) ?_;simp only[fr0.2];rw[DM (by rw[n5];omega),n5];generalize hh9:g8.ak (g.next+4+1) (.loop { r0 with state:=.exhausted,pending:=none })=g9;have R9:g9.blk (g.next+1)=some (.cells [.int .i64 0] 30 none):=by rw[<- hh9,BV (by omega)];exact S8.bR
  have D9:g9.blk (g.next+4)=some (.defd false):=by rw[<- hh9,BV (by omega)];exact d8
  have m9:g9.mark<=g.next:=by rw[<- hh9];exact m8
  have l9:g9.log=[]:=by rw[<- hh9];exact S8.log
  have hst9:=ACf (i:=0) R9 (by omega);generalize hh10:g9.ak (g.next+1) (.cells [.int .i64 0] 30 none)=g10 at hst9;have R10:g10.blk (g.next+1)=some (.cells [.int .i64 0] 30 none):=by rw[<- hh10];exact BZ rfl
  have D10:g10.blk (g.next+4)=some (.defd false):=by rw[<- hh10,BV (by omega)];exact D9
  have m10:g10.mark<=g.next:=by rw[<- hh10];exact m9
  have l10:g10.log=[]:=by rw[<- hh10];exact l9
  have q2:∀ ds,(⟨A.tmps,A.n,ds⟩:Ac).get 2=.pointer (some (own (g.next+1))):=fun _=>p2;have qn:∀ ds,(⟨A.tmps,A.n,ds⟩:Ac).n=42:=fun _=>nA;refine Vwz (Z3 @qn q2 @hst9) ?_;refine KB (d:=g.next+4) (a:=own (g.next+1)) (v:=.int .i64 0) (.inr rfl) (by rw[dA];rfl) D10 (by omega) rfl (S0z q2) ?_ ⟨by rw[hq],l10⟩;rw[AFC];exact Bp (by rw[BV (by omega)];exact R10) rfl
 ·rw[afterC,if_neg hq] at S8;have bl8:=S8.bl;rw[if_neg (by simp)] at bl8;refine Wc.range nc hopv hacall (r:={ r0 with state:=.done,pending:=some .ret }) (by rw[n5];exact bl8) (by show LoopState.done≠LoopState.busy;decide) ?_;simp only;rw[DM (by rw[n5];omega),n5];generalize hh9:g8.ak (g.next+4+1) (.loop { r0 with state:=.exhausted,pending:=some .ret })=g9;have R9:g9.blk (g.next+1)=some (.cells [.int .i64 (Fl (.mk k m tx ks) 0 1).2] 30 none):=by rw[<- hh9,BV (by omega)];exact S8.bR
  have D9:g9.blk (g.next+4)=some (.defd false):=by rw[<- hh9,BV (by omega)];exact d8
  have m9:g9.mark<=g.next:=by rw[<- hh9];exact m8
  have l9:g9.log=[]:=by rw[<- hh9];exact S8.log
  have q2:∀ ds,(⟨A.tmps,A.n,ds⟩:Ac).get 2=.pointer (some (own (g.next+1))):=fun _=>p2;refine Wc.ret ?_;refine KB (d:=g.next+4) (a:=own (g.next+1)) (v:=.int .i64 (Fl (.mk k m tx ks) 0 1).2) (.inr rfl) (by rw[dA]) D9 (by omega) rfl (q2 _) ?_ ⟨rfl,l9⟩;rw[AFC];exact Bp (by rw[BV (by omega)];exact R9) rfl
theorem AGD:tab.fn.get 80=some Tryz.f80:=by kernel_rfl
theorem AGC:tab.fn.get 81=some Tryz.f81:=by kernel_rfl
theorem AGB:tab.fn.get 82=some Tryz.f82:=by kernel_rfl
theorem AEK:tab.fn.get 115=some Tryz.f115:=by kernel_rfl
theorem AEJ:tab.fn.get 116=some Tryz.f116:=by kernel_rfl
theorem same {D:Tab} {E:Env} {I:Aa} {f:FuncId} {args:List Value} {h:H} {x:Value} (w:∃ n v h',(ev D E I n).call f args h=some (v,h')/\(v=x/\h'=h)):∃ n,(ev D E I n).call f args h=some (x,h):=by
 obtain⟨n,v,h',h1,rfl,rfl⟩:=w;exact⟨n,h1⟩
theorem call125 (hI:∀ args h,I 115 args h=none) (a:Int) (h:H):∃ n,(ev tab E I n).call 115 [.int .i64 a] h=some (.bool false,h):=by
 apply same;refine Wc.call (hI _ _) AEK rfl ?_;generalize hA0:(⟨T.ofList [.int .i64 a] 0 .nil,max ([.int .i64 a]:List Value).length Tryz.f115.ntmps,[]⟩:Ac)=A0;have n0:A0.n=6:=by rw[<- hA0];rfl
 have g00:A0.get 0=.int .i64 a:=by rw[<- hA0];rfl
 have d0:A0.defers=[]:=by rw[<- hA0]
 refine Vwz (Z3 n0 d0 g00) ?_;exact AW (v:=.bool false) (.inr rfl) (S0z d0) rfl (S0z n0) ⟨rfl,rfl⟩
theorem call105 (hI:∀ f args h,(f=115\/f=81)->I f args h=none) (a b:Int) (h:H):∃ n,(ev tab E I n).call 81 [.int .i64 a,.int .i64 b] h=some (.int .i64 (EC a b),h):=by
 apply same;obtain⟨na,ca⟩:=call125 (E:=E) (I:=I) (fun args h=>hI _ args h (.inl rfl)) a h;obtain⟨nb,cb⟩:=call125 (E:=E) (I:=I) (fun args h=>hI _ args h (.inl rfl)) b h;have ca:=(AX I (E4 na nb)).call ca;have cb:=(AX I (C4 na nb)).call cb;generalize max na nb=nf at ca cb;refine Wc.call (hI _ _ _ (.inr rfl)) AGC rfl ?_;generalize hA0:(⟨T.ofList [.int .i64 a,.int .i64 b] 0 .nil,max ([.int .i64 a,.int .i64 b]:List Value).length Tryz.f81.ntmps,[]⟩:Ac)=A0;have n0:A0.n=20:=by rw[<- hA0];rfl
 have g00:A0.get 0=.int .i64 a:=by rw[<- hA0];rfl
 have g01:A0.get 1=.int .i64 b:=by rw[<- hA0];rfl
 have d0:A0.defers=[]:=by rw[<- hA0]
 by_cases q1:a<b
 ·have d1:decide (a<b)=true:=by simpa using q1
  have e:EC a b = -1:=by unfold EC;rw[if_pos q1]
  refine Vnz nf (Z7 n0 d0 g00 g01 @ca @cb @d1) ?_;exact AW (v:=.int .i64 (-1)) (.inr rfl) (S0z d0) rfl (S0z n0) ⟨by rw[e],rfl⟩
 ·have d1:decide (a<b)=false:=by simpa using q1
  by_cases q2:a>b
  ·have d2:decide (a>b)=true:=by simpa using q2
   have e:EC a b=1:=by unfold EC;rw[if_neg q1,if_pos q2]
   refine Vnz nf (Z8 n0 d0 g00 g01 @ca @cb @d1 @d2) ?_;exact AW (v:=.int .i64 1) (.inr rfl) (S0z d0) rfl (S0z n0) ⟨by rw[e],rfl⟩
  ·have d2:decide (a>b)=false:=by simpa using q2
   have e:EC a b=0:=by unfold EC;rw[if_neg q1,if_neg q2]
   refine Vnz nf (Z8 n0 d0 g00 g01 @ca @cb @d1 @d2) ?_;exact AW (v:=.int .i64 0) (.inr rfl) (S0z d0) rfl (S0z n0) ⟨by rw[e],rfl⟩
theorem call126 (hI:∀ args h,I 116 args h=none) (h130:∀ a b h,I 133 [.string a,.string b] h=some (some (.int .i64 (cmpL a.data.toList b.data.toList),h))) (a b:ByteArray) (h:H):∃ n,(ev tab E I n).call 116 [.string a,.string b] h=some (.int .i64 (cmpL a.data.toList b.data.toList),h):=by
 apply same;refine Wc.call (hI _ _) AEJ rfl ?_;generalize hA0:(⟨T.ofList [.string a,.string b] 0 .nil,max ([.string a,.string b]:List Value).length Tryz.f116.ntmps,[]⟩:Ac)=A0;have n0:A0.n=8:=by rw[<- hA0];rfl
 have g00:A0.get 0=.string a:=by rw[<- hA0];rfl
 have g01:A0.get 1=.string b:=by rw[<- hA0];rfl
 have d0:A0.defers=[]:=by rw[<- hA0]
 have c130:(ev tab E I 1).call 133 [.string a,.string b] h=some (.int .i64 (cmpL a.data.toList b.data.toList),h):=Al (h130 a b h);refine Vnz 1 (Z5 n0 d0 g00 g01 @c130) ?_;exact AW (v:=.int .i64 (cmpL a.data.toList b.data.toList)) (.inr rfl) (S0z d0) rfl (S0z n0) ⟨rfl,rfl⟩
theorem call106 (hI:∀ f args h,(f=82\/f=116)->I f args h=none) (h130:∀ a b h,I 133 [.string a,.string b] h=some (some (.int .i64 (cmpL a.data.toList b.data.toList),h))) (a b:ByteArray) (h:H):∃ n,(ev tab E I n).call 82 [.string a,.string b] h=some (.int .i64 (cmpL a.data.toList b.data.toList),h):=by
 apply same;obtain⟨nf,c126⟩:=call126 (E:=E) (I:=I) (fun args h=>hI _ args h (.inr rfl)) h130 a b h;refine Wc.call (hI _ _ _ (.inl rfl)) AGB rfl ?_;generalize hA0:(⟨T.ofList [.string a,.string b] 0 .nil,max ([.string a,.string b]:List Value).length Tryz.f82.ntmps,[]⟩:Ac)=A0;have n0:A0.n=8:=by rw[<- hA0];rfl
 have g00:A0.get 0=.string a:=by rw[<- hA0];rfl
 have g01:A0.get 1=.string b:=by rw[<- hA0];rfl
 have d0:A0.defers=[]:=by rw[<- hA0]
 refine Vnz nf (Z5 n0 d0 g00 g01 @c126) ?_;exact AW (v:=.int .i64 (cmpL a.data.toList b.data.toList)) (.inr rfl) (S0z d0) rfl (S0z n0) ⟨rfl,rfl⟩
noncomputable def Kz:Code:=loopOf Tryz.f80
theorem call104 (hI:∀ args h,I 80 args h=none) (l:List Int) (hl:l.length<=1000) {k:Nat} {rt:Option (Nat×Nat)} {h:H} (hb:h.blk k=some (.cells (l.map (Value.int .i64)) 3 rt)):∃ n,(ev tab E I n).call 80 [.slice (some (own k)) l.length l.length] h=some (.int .i64 (orL l),h):=by
 apply same;refine Wc.call (hI _ _) AGD rfl ?_;generalize hA0:(⟨T.ofList [.slice (some (own k)) l.length l.length] 0 .nil,max ([.slice (some (own k)) l.length l.length]:List Value).length Tryz.f80.ntmps,[]⟩:Ac)=A0;have n0:A0.n=18:=by rw[<- hA0];rfl
 have g00:A0.get 0=.slice (some (own k)) l.length l.length:=by rw[<- hA0];rfl
 have d0:A0.defers=[]:=by rw[<- hA0]
 have key:∀ (r i:Nat) (A:Ac),r=l.length-i->i<=l.length->A.n=18->A.defers=[]->A.get 3=.int .i64 0->A.get 6=.slice (some (own k)) l.length l.length->A.get 7=.int .i64 (l.length:Nat)->A.get 8=.int .i64 (i:Nat)->
   Wc tab E I ⟨80,none⟩ (.loop Kz) A h (fun ex A' h'=>h'=h/\A'.n=18/\A'.defers=[]/\((ex=.exit 0/\A'.get 3=.int .i64 0/\orL (l.drop i)=0)\/(ex=.ret/\A'.get 2=.int .i64 (orL (l.drop i))))):=by
  intro r;induction r with
  | zero=>
   intro i A hr' hi nA dA p3 p6 p7 p8;have hil:i=l.length:=by omega
   have hlt:decide ((i:Int)<(l.length:Int))=false:=by simp;omega
   apply Wc.loop;simp only[Kz,loopOf,firstLoop,Option.getD,Tryz.f80];refine Vwz (Z6 nA p3 p6 p7 p8 @hlt) ?_;refine⟨rfl,by simp +decide only[Gz,nA],by simp +decide only[Gz,dA],.inl ⟨rfl,by simp +decide only[Gz,nA,p3],?_⟩⟩;rw[hil,T6,orL]
  | succ r ih=>
   intro i A hr' hi nA dA p3 p6 p7 p8;have hil:i<l.length:=by omega
   have hlt:decide ((i:Int)<(l.length:Int))=true:=by simp;omega
   have hd:l.drop i=l[i]::l.drop (i+1):=H2 hil;have w3:IntKind.i64.wrap ((i:Int)+1)=(i:Int)+1:=wrap64 (by omega) (by omega);have hir:AN (i:Int) l.length=true:=by
    show Nat.blt i l.length=true;rw[P0];exact hil
   have hc:h.cell E (aadd (own k) (i*1))=some (.int .i64 l[i]):=AS hb (by rw[V2,J3,Q0 hil];rfl) rfl;by_cases q:l[i]=0
   ·have dq:(!decide (l[i]=0))=false:=by simp[q]
    apply Wc.loop;simp only[Kz,loopOf,firstLoop,Option.getD,Tryz.f80];refine Vwz (Z12 nA p3 p6 p7 p8 @hlt (fun a c=>AAY a _ c _ hir) @M0 @ld3 @hc @dq @w3) ?_;refine (ih (i+1) _ (by omega) (by omega) ?_ ?_ ?_ ?_ ?_ ?_).mono ?_
    ·simp +decide only[Gz,nA]
    ·simp +decide only[Gz,dA]
    ·simp +decide only[Gz,nA,p3]
    ·simp +decide only[Gz,nA,p6]
    ·simp +decide only[Gz,nA,p7]
    ·simp +decide only[Gz,nA];rfl
    ·rintro ex A' h' ⟨rfl,e1,e2,⟨rfl,e3,e4⟩|⟨rfl,e3⟩⟩
     ·exact⟨rfl,e1,e2,.inl ⟨rfl,e3,by rw[hd,orL,if_neg (by simpa using q)];exact e4⟩⟩
     ·exact⟨rfl,e1,e2,.inr ⟨rfl,by rw[hd,orL,if_neg (by simpa using q)];exact e3⟩⟩
   ·have dq:(!decide (l[i]=0))=true:=by simp[q]
    apply Wc.loop;simp only[Kz,loopOf,firstLoop,Option.getD,Tryz.f80];refine Vwz (Z12 nA p3 p6 p7 p8 @hlt (fun a c=>AAY a _ c _ hir) @M0 @ld3 @hc @dq @w3) ?_;refine⟨rfl,by simp +decide only[Gz,nA],by simp +decide only[Gz,dA],.inr ⟨rfl,?_⟩⟩;rw[hd,orL,if_pos (by simpa using q)];simp +decide only[Gz,nA]
 refine Vwz (Z4 n0 d0 g00 @ABt) ?_;refine (key l.length 0 _ rfl (C2 _) ?_ ?_ ?_ ?_ ?_ ?_).mono ?_
 ·simp +decide only[Gz,n0]
 ·simp +decide only[Gz,d0]
 ·simp +decide only[Gz,n0]
 ·simp +decide only[Gz,n0]
 ·simp +decide only[Gz,n0]
 ·simp +decide only[Gz,n0];rfl
 ·rw[F2];rintro ex A' h' ⟨rfl,e1,e2,⟨rfl,e3,e4⟩|⟨rfl,e3⟩⟩
  ·simp only[if_true];refine Vwz (Z2 e1 e3) ?_;exact AW (v:=.int .i64 0) (.inr rfl) (S0z e2) rfl (S0z e1) ⟨by rw[e4],rfl⟩
  ·exact AW (.inr rfl) e2 rfl e3 ⟨rfl,rfl⟩
end Go.Proofs.YtofijpbmbmbnhaaGreatDoor
