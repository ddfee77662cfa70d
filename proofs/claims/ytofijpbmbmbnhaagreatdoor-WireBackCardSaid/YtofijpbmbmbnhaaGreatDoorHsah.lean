/- The program's reader: numbers. -/
import Derived.Test.YtofijpbmbmbnhaaGreatDoorHsag
set_option linter.unusedSimpArgs false
set_option linter.unusedVariables false
set_option maxRecDepth 100000
set_option maxHeartbeats 8000000
namespace Go.Proofs.YtofijpbmbmbnhaaGreatDoor
open Go Go.Hs Go.Proofs
variable {E:Env} {I:Aa}
noncomputable def OA:Code:=loopOf Tryz.f126
theorem Vu {bs:List UInt8} {p:Nat} {c:UInt8} (h:bs[p]? = some c):CP tab 9 (.string ⟨⟨bs⟩⟩) (.int .i64 (p:Nat))=some (.int .u8 (c.toNat:Nat)):=by
 have hp:p<bs.length:=(O0.1 h).1;have hi:AN ((p:Nat):Int) bs.length=true:=by
  show Nat.blt p bs.length=true;rw[P0];exact hp
 unfold CP;rw[qty9];simp only[hi,M0,h]
theorem Pc (n:Int) {h:H}:AQ tab E 5 3 (.int .u8 n) h=some (.int .i64 (IntKind.i64.wrap n),h):=by unfold AQ;simp only[qty5,Rm]
theorem CL {D:Tab} {E:Env} {fn:Func} {A:Ac} {h:H} {t u:Tmp} {v x:Value} {ex:Ex} {Q:Value->H->Prop} (hex:ex=.normal\/ex=.ret) (hd:A.defers=[]) (hr:fn.results=#[.tmp t,.tmp u]) (hv:A.get t=v) (hx:A.get u=x) (hq:Q (.tuple #[v,x]) h) :
  (ex=.normal\/ex=.ret)/\∃ h2 v',Ay A.defers h=some h2/\ED D E fn A h2=some v'/\Q v' h2:=by
 refine⟨hex,h,_,?_,?_,hq⟩
 ·rw[hd];rfl
 ·unfold ED;rw[hr];simp only[Dl,ares1,hv,hx]
def ACp (k:Nat) (bs:List UInt8) (r:Rd Nat) (v x:Value) (items:Nat) (g:H):Prop:=match r with
 | .ok m p it=>v=.int .i64 (m:Nat)/\x=.bool true/\Src k bs p 0 it g
 | .bad p e=>v=.int .i64 0/\x=.bool false/\Src k bs p e items g
theorem TX (hI:∀ f args h,(f=126\/f=101)->I f args h=none) {k:Nat} {bs:List UInt8} {pos items:Nat} {g:H} (f:Fit g) (b:Src k bs pos 0 items g) (hp:pos<=bs.length) (hl:bs.length<=1000000) (least most:Nat) (hm:most<=1099511627776) (hl1:least<=1) :
  ∃ n v g',(ev tab E I n).call 126 [.pointer (some (own k)),.int .i64 (least:Nat),.int .i64 (most:Nat)] g=some (v,g')/\(∃ u x,v=.tuple #[u,x]/\Mod (fun j=>j=k) g g'/\ACp k bs (rdN bs least most pos items) u x items g'):=by
 have kl:k<g.next:=f.lt b;have key:∀ (r i p nn:Nat) (A0:Ac) (h:H),r=6-i->i<=6->nn<128 ^ i->p<=bs.length->A0.n=108->A0.defers=[]->A0.get 0=.pointer (some (own k))->A0.get 1=.int .i64 (least:Nat)->A0.get 2=.int .i64 (most:Nat)->A0.get 8=.int .i64 (pos:Nat)->A0.get 9=.int .i64 (nn:Nat)->A0.get 17=.int .i64 (i:Nat)->Mod (fun j=>j=k) g h->Src k bs p 0 items h->rdN bs least most pos items=rdNum bs least most pos items r i p nn->
   Wc tab E I ⟨126,none⟩ (.loop OA) A0 h (fun ex A' h'=>A'.n=108/\A'.defers=[]/\Mod (fun j=>j=k) g h'/\((ex=.exit 0/\A'.get 0=.pointer (some (own k))/\A'.get 8=.int .i64 (pos:Nat)/\rdN bs least most pos items=.bad pos 3/\∃ p',Src k bs p' 0 items h')\/(ex=.ret/\ACp k bs (rdN bs least most pos items) (A'.get 6) (A'.get 7) items h'))):=by
  intro r;induction r with
  | zero=>
   intro i p nn A0 h hr hi hnn hpl n0 d0 q0 q1 q2 q8 q9 q17 M b he;obtain rfl:i=6:=by omega
   have e1:decide (((6:Nat):Int)<6)=false:=by decide
   apply Wc.loop;simp only[OA,loopOf,firstLoop,Option.getD,Tryz.f126];refine Vw (Z3 n0 q17 e1) ?_;refine⟨by simp +decide only[Gs,n0],by simp +decide only[Gs,d0],M,.inl ⟨rfl,by simp +decide only[Gs,n0,q0],by simp +decide only[Gs,n0,q8],?_,p,b⟩⟩;rw[he,rdNum]
  | succ r ih=>
   intro i p nn A0 h hr hi hnn hpl n0 d0 q0 q1 q2 q8 q9 q17 M b he;have hi6:i<6:=by omega
   have e1:decide ((i:Int)<6)=true:=by simp;omega
   have fh:=M.fit;have kh:k<h.next:=Q1 kl M.next;obtain⟨c0,c1,c2,c3⟩:=b.at (E:=E);apply Wc.loop;simp only[OA,loopOf,firstLoop,Option.getD,Tryz.f126];by_cases h1:p=bs.length
   ·-- the bytes end
    have e2:decide ((p:Int)=(bs.length:Int))=true:=by simp;omega
    have hn:bs[p]? = none:=by rw[S5];omega
    rw[rdNum,hn] at he;obtain⟨nf,g',ck,m,b'⟩:=Ce (E:=E) (I:=I) (fun args h=>hI _ args h (.inr rfl)) fh.fresh (show Src k bs p 0 items (fresh h) from b) 4 p;obtain⟨m',_,hn,hl⟩:=Mod.back fh m;refine Vw (Z3 n0 q17 e1) ?_;refine Wc.al 1 (by kernel_rfl) ?_
    (iterate 12 refine Uf (Z7 n0 q0 @Qx @Hx @c0 @c1 e2) ?_)
    refine FC.nil ?_;refine Vw n0 ?_;refine Wc.ao nf (by kernel_rfl) ?_
    (iterate 8 refine Ug (Z6 n0 q0 q1 @Qx @Hx @c1) ?_)
    refine FQ.mod (h1:=g') (x:=.bool false) rfl rfl (by simp +decide only[Oy,n0,q0,Qx,Hx,ck]) ?_
    (iterate 2 refine Ug (Z2 n0 q0) ?_)
    refine FQ.nil ⟨?_,?_⟩
    ·exact Ah [8] 11 rfl rfl (by kernel_rfl)
    refine Wc.ret ?_;refine⟨by simp +decide only[Gs,n0],by simp +decide only[Gs,d0],M.trans m',.inr ⟨rfl,?_⟩⟩;rw[he];exact⟨by simp +decide only[Gs,n0],by simp +decide only[Gs,n0],b'.back⟩
   ·have hlt:p<bs.length:=by omega
    have e2:decide ((p:Int)=(bs.length:Int))=false:=by simp;omega
    obtain⟨c,hc⟩:∃ c,bs[p]? = some c:=⟨bs[p],Q0 hlt⟩;have hc8:c.toNat<256:=c.toNat_lt;have ix:=Vu hc;have a1:=ACN c.toNat hc8;have w0:IntKind.i64.wrap ((c.toNat % 128:Nat):Int)=((c.toNat % 128:Nat):Int):=QS (by omega);have w1:IntKind.i64.wrap ((p:Int)+1)=((p+1:Nat):Int):=wrap64 (by omega) (by omega);have w2:IntKind.i64.wrap (7*(i:Int))=((7*i:Nat):Int):=wrap64 (by omega) (by omega);have w3:IntKind.i64.wrap ((i:Int)+1)=((i+1:Nat):Int):=wrap64 (by omega) (by omega);have sh:=AFk (c.toNat % 128) i (by omega) (by omega);have o1:=or7 nn (c.toNat % 128) i hnn (by omega) (by omega);have hnn':nn+c.toNat % 128*128 ^ i<128 ^ (i+1):=by
     have:c.toNat % 128*128 ^ i<=127*128 ^ i:=Nat.mul_le_mul_right _ (by omega);rw[Nat.pow_succ];omega
    rw[rdNum,hc] at he;simp only[] at he;generalize nn+c.toNat % 128*128 ^ i=n2 at o1 hnn' he;obtain⟨s1,b1⟩:=b.pos (p+1);have m1:=(Mod.refl (M:=fun j=>j=k) fh).aa (B:=.cells [.string ⟨⟨bs⟩⟩,.int .i64 (p+1:Nat),.int .i64 0,.int .i64 (items:Nat)] 116 none) rfl rfl kh;generalize h.aa k (.cells [.string ⟨⟨bs⟩⟩,.int .i64 (p+1:Nat),.int .i64 0,.int .i64 (items:Nat)] 116 none)=h1 at s1 b1 m1;have M1:=M.trans m1;refine Vw (Z3 n0 q17 e1) ?_;refine Wc.al 1 (by kernel_rfl) ?_
    (iterate 12 refine Uf (Z7 n0 q0 @Qx @Hx @c0 @c1 e2) ?_)
    refine FC.nil ?_;refine Vw n0 ?_;refine Wc.al 1 (by kernel_rfl) ?_
    (iterate 12 refine Uf (Z7 n0 q0 @Qx @Hx @c0 @c1 @ix) ?_)
    refine FC.nil ?_;by_cases h2:128<=c.toNat
    ·have e3:decide ((c.toNat:Int)>127)=true:=by simp;omega
     rw[if_pos h2] at he;refine Vw (Z17 n0 q0 q9 q17 @Qx @Hx @c1 @w1 @s1 @a1 @Pc @w0 @w2 @sh @o1 e3 @w3) ?_;refine (ih (i+1) (p+1) n2 _ h1 (by omega) (by omega) hnn' (by omega) ?_ ?_ ?_ ?_ ?_ ?_ ?_ ?_ M1 b1 he)
     ·simp +decide only[Gs,n0]
     ·simp +decide only[Gs,d0]
     ·simp +decide only[Gs,n0,q0]
     ·simp +decide only[Gs,n0,q1]
     ·simp +decide only[Gs,n0,q2]
     ·simp +decide only[Gs,n0,q8]
     ·simp +decide only[Gs,n0]
     ·simp +decide only[Gs,n0]
    ·have e3:decide ((c.toNat:Int)>127)=false:=by simp;omega
     rw[if_neg h2] at he;refine Vw (Z17 n0 q0 q9 q17 @Qx @Hx @c1 @w1 @s1 @a1 @Pc @w0 @w2 @sh @o1 e3 @w3) ?_;refine Wc.forget (fun A=>A.n=108/\A.defers=[]/\A.get 0=.pointer (some (own k))/\A.get 1=.int .i64 (least:Nat)/\A.get 2=.int .i64 (most:Nat)/\A.get 8=.int .i64 (pos:Nat)/\A.get 9=.int .i64 (n2:Nat)/\A.get 10=.int .i64 (i:Nat)/\A.get 11=.int .u8 (c.toNat:Nat)) (by and_intros<;>simp +decide only[Gs,n0,d0,q0,q1,q2,q8,q9]<;>rfl) ?_;rintro A0 ⟨n0,d0,q0,q1,q2,q8,q9,q10,q11⟩;have bad:∀ (e:Int),∃ nf g',(ev tab E I nf).call 101 [.pointer (some (own k)),.int .i64 e,.int .i64 (pos:Nat)] h1=some (.bool false,g')/\Mod (fun j=>j=k) g g'/\Src k bs pos e items g':=fun e=>by
      obtain⟨nf,g',ck,m,b'⟩:=Ce (E:=E) (I:=I) (fun args h=>hI _ args h (.inr rfl)) M1.fit b1 e pos;exact⟨nf,g',ck,M1.trans m,b'⟩
     by_cases h3:c.toNat=0/\0<i
     ·rw[if_pos h3] at he;have e4:decide ((c.toNat:Int)=0)=true:=by simp;omega
      have e5:decide ((i:Int)>0)=true:=by simp;omega
      obtain⟨nf,g',ck,M',b'⟩:=bad 4;refine VN nf (Z13 n0 q0 q1 q2 q8 q9 q10 q11 @Qx @Hx e4 e5 @ck) ?_;refine⟨by simp +decide only[Gs,n0],by simp +decide only[Gs,d0],M',.inr ⟨rfl,?_⟩⟩;rw[he];exact⟨by simp +decide only[Gs,n0],by simp +decide only[Gs,n0],b'⟩
     ·rw[if_neg h3] at he;by_cases h6:c.toNat=0
      ·have e4:decide ((c.toNat:Int)=0)=true:=by simp;omega
       have e5:decide ((i:Int)>0)=false:=by simp;omega
       by_cases h4:most<n2
       ·rw[if_pos h4] at he;have e6:decide ((n2:Int)>(most:Int))=true:=by simp;omega
        obtain⟨nf,g',ck,M',b'⟩:=bad 3;refine VN nf (Z14 n0 q0 q1 q2 q8 q9 q10 q11 @Qx @Hx e4 e5 e6 @ck) ?_;refine⟨by simp +decide only[Gs,n0],by simp +decide only[Gs,d0],M',.inr ⟨rfl,?_⟩⟩;rw[he];exact⟨by simp +decide only[Gs,n0],by simp +decide only[Gs,n0],b'⟩
       ·rw[if_neg h4] at he;have e6:decide ((n2:Int)>(most:Int))=false:=by simp;omega
        by_cases h5:n2<least
        ·rw[if_pos h5] at he;have e7:decide ((n2:Int)<(least:Int))=true:=by simp;omega
         obtain⟨nf,g',ck,M',b'⟩:=bad 4;refine VN nf (Z15 n0 q0 q1 q2 q8 q9 q10 q11 @Qx @Hx e4 e5 e6 e7 @ck) ?_;refine⟨by simp +decide only[Gs,n0],by simp +decide only[Gs,d0],M',.inr ⟨rfl,?_⟩⟩;rw[he];exact⟨by simp +decide only[Gs,n0],by simp +decide only[Gs,n0],b'⟩
        ·rw[if_neg h5] at he;have e7:decide ((n2:Int)<(least:Int))=false:=by simp;omega
         refine VW (Z14 n0 q0 q1 q2 q8 q9 q10 q11 @Qx @Hx e4 e5 e6 e7) ?_;refine⟨by simp +decide only[Gs,n0],by simp +decide only[Gs,d0],M1,.inr ⟨rfl,?_⟩⟩;rw[he];exact⟨by simp +decide only[Gs,n0],by simp +decide only[Gs,n0],b1⟩
      ·have e4:decide ((c.toNat:Int)=0)=false:=by simp;omega
       have e5:=e4;by_cases h4:most<n2
       ·rw[if_pos h4] at he;have e6:decide ((n2:Int)>(most:Int))=true:=by simp;omega
        obtain⟨nf,g',ck,M',b'⟩:=bad 3;refine VN nf (Z14 n0 q0 q1 q2 q8 q9 q10 q11 @Qx @Hx e4 e5 e6 @ck) ?_;refine⟨by simp +decide only[Gs,n0],by simp +decide only[Gs,d0],M',.inr ⟨rfl,?_⟩⟩;rw[he];exact⟨by simp +decide only[Gs,n0],by simp +decide only[Gs,n0],b'⟩
       ·rw[if_neg h4] at he;have e6:decide ((n2:Int)>(most:Int))=false:=by simp;omega
        by_cases h5:n2<least
        ·rw[if_pos h5] at he;have e7:decide ((n2:Int)<(least:Int))=true:=by simp;omega
         obtain⟨nf,g',ck,M',b'⟩:=bad 4;refine VN nf (Z15 n0 q0 q1 q2 q8 q9 q10 q11 @Qx @Hx e4 e5 e6 e7 @ck) ?_;refine⟨by simp +decide only[Gs,n0],by simp +decide only[Gs,d0],M',.inr ⟨rfl,?_⟩⟩;rw[he];exact⟨by simp +decide only[Gs,n0],by simp +decide only[Gs,n0],b'⟩
        ·rw[if_neg h5] at he;have e7:decide ((n2:Int)<(least:Int))=false:=by simp;omega
         refine VW (Z14 n0 q0 q1 q2 q8 q9 q10 q11 @Qx @Hx e4 e5 e6 e7) ?_;refine⟨by simp +decide only[Gs,n0],by simp +decide only[Gs,d0],M1,.inr ⟨rfl,?_⟩⟩;rw[he];exact⟨by simp +decide only[Gs,n0],by simp +decide only[Gs,n0],b1⟩
 apply Wk (hI _ _ _ (.inl rfl)) AEA rfl;intro A0 n0 d0 hA0;change A0.n=108 at n0;have q0:A0.get 0=.pointer (some (own k)):=hA0 0 _ rfl;have q1:A0.get 1=.int .i64 (least:Nat):=hA0 1 _ rfl;have q2:A0.get 2=.int .i64 (most:Nat):=hA0 2 _ rfl;clear hA0;obtain⟨c0,c1,c2,c3⟩:=b.at (E:=E);refine Vw (Z7 n0 q0 q1 q2 @Qx @Hx @c1) ?_;refine (key 6 0 pos 0 _ g rfl (by omega) (by decide) hp ?_ ?_ ?_ ?_ ?_ ?_ ?_ ?_ (Mod.refl f) b rfl).mono ?_
 ·simp +decide only[Gs,n0]
 ·simp +decide only[Gs,d0]
 ·simp +decide only[Gs,n0,q0]
 ·simp +decide only[Gs,n0,q1]
 ·simp +decide only[Gs,n0,q2]
 ·simp +decide only[Gs,n0]
 ·simp +decide only[Gs,n0];rfl
 ·simp +decide only[Gs,n0];rfl
 ·rintro ex A0 h' ⟨n0,d0,M,⟨rfl,q0,q8,he,p',b'⟩|⟨rfl,hq⟩⟩
  ·obtain⟨nf,g',ck,m,b2⟩:=Ce (E:=E) (I:=I) (fun args h=>hI _ args h (.inr rfl)) M.fit b' 3 pos;simp only[if_true];refine Vn nf (Z6 n0 q0 q8 @Qx @Hx @ck) ?_;refine CL (v:=.int .i64 0) (x:=.bool false) (.inr rfl) (S0 d0) rfl (S0 n0) (S0 n0) ⟨_,_,rfl,M.trans m,?_⟩;rw[he];exact⟨rfl,rfl,b2⟩
  ·exact CL (.inr rfl) d0 rfl rfl rfl ⟨_,_,rfl,M,hq⟩
theorem AEB:tab.fn.get 125=some Tryz.f125:=by kernel_rfl
theorem AD9:tab.fn.get 127=some Tryz.f127:=by kernel_rfl
theorem AFo {bs:List UInt8} {p q:Nat} (h1:p<=q) (h2:q<=bs.length) {h:H}:Av tab 9 (.string ⟨⟨bs⟩⟩) (some (.int .i64 (p:Nat))) (some (.int .i64 (q:Nat))) none h=some (.string ⟨⟨(bs.drop p).take (q-p)⟩⟩,h):=by
 have i1:AN ((q:Nat):Int) (bs.length+1)=true:=by
  show Nat.blt q (bs.length+1)=true;rw[P0];omega
 have i2:AN ((p:Nat):Int) (q+1)=true:=by
  show Nat.blt p (q+1)=true;rw[P0];omega
 unfold Av;rw[qty9];simp only[abound,i1,i2,M0]
def ACS {α:Type} (k kx:Nat) (bs:List UInt8) (r:Rd α) (F:α->List Value) (v:Value) (g:H):Prop:=match r with
 | .ok m p it=>v=.bool true/\Src k bs p 0 it g/\g.blk kx=some (.cells (F m) 24 none)
 | .bad p e=>v=.bool false/\∃ it,Src k bs p e it g
theorem Zd (hI:∀ f args h,(f=125\/f=126\/f=101)->I f args h=none) {k kx:Nat} {bs:List UInt8} {pos items:Nat} {a0 a1 a2 a3:Value} {g:H} (f:Fit g) (b:Src k bs pos 0 items g) (hx:g.blk kx=some (.cells [a0,a1,a2,a3] 24 none)) (hne:kx≠k) (hp:pos<=bs.length) (hl:bs.length<=1000000) (lv:Value) :
  ∃ n v g',(ev tab E I n).call 125 [.pointer (some (own k)),.pointer (some (own kx)),lv] g=some (v,g')/\(Mod (fun j=>j=k\/j=kx) g g'/\ACS k kx bs (rdN bs 0 1099511627776 pos items) (fun m=>[a0,.int .i64 (m:Nat),a2,a3]) v g'):=by
 obtain⟨nf,v,g1,c,u,x,rfl,m1,hq⟩:=TX (E:=E) (I:=I) (fun f args h hf=>hI f args h (by rcases hf with h|h<;>simp[h])) f b hp hl 0 1099511627776 (C0 _) (by decide);have c1:(ev tab E I nf).call 126 [.pointer (some (own k)),.int .i64 0,.int .i64 1099511627776] g=some (.tuple #[u,x],g1):=c;have hx1:=m1.blk _ _ hne hx;have lx:kx<g1.next:=m1.fit.lt hx1;apply Wk (hI _ _ _ (.inl rfl)) AEB rfl;intro A0 n0 d0 hA0;change A0.n=19 at n0;have q0:A0.get 0=.pointer (some (own k)):=hA0 0 _ rfl;have q1:A0.get 1=.pointer (some (own kx)):=hA0 1 _ rfl;have q2:A0.get 2=lv:=hA0 2 _ rfl;clear hA0;obtain⟨m,z,rfl,rfl⟩:∃ (m:Nat) (z:Bool),u=.int .i64 (m:Nat)/\x=.bool z:=by
  unfold ACp at hq;split at hq
  ·exact⟨_,_,hq.1,hq.2.1⟩
  ·exact⟨0,_,hq.1,hq.2.1⟩
 have s1:AO tab 3 (aadd (own kx) 1) (.int .i64 (m:Nat)) g1=some (g1.aa kx (.cells [a0,.int .i64 (m:Nat),a2,a3] 24 none)):=Aj Rm rfl hx1 rfl rfl (by simp) rfl;have m2:Mod (fun j=>j=k\/j=kx) g (g1.aa kx (.cells [a0,.int .i64 (m:Nat),a2,a3] 24 none)):=(m1.sub (fun _ h=>.inl h)).aa rfl (.inr rfl) lx;have keep:∀ {p e it},Src k bs p e it g1->Src k bs p e it (g1.aa kx (.cells [a0,.int .i64 (m:Nat),a2,a3] 24 none)):=fun b=>b.mod ((Mod.refl (M:=fun j=>j=kx) m1.fit).aa rfl rfl lx) (fun h=>hne h.symm);refine Vn nf (Z7 n0 q0 q1 @Qx @Hx @c1 @s1) ?_;refine AW (v:=.bool z) (.inr rfl) (S0 d0) rfl (S0 n0) ⟨m2,?_⟩;generalize rdN bs 0 1099511627776 pos items=r at hq;cases r
 ·obtain⟨e1,e2,e3⟩:=hq;cases e2;simp only[Value.int.injEq,true_and] at e1;refine⟨rfl,keep e3,?_⟩;rw[AD rfl,e1]
 ·obtain⟨e1,e2,e3⟩:=hq;cases e2;exact⟨rfl,_,keep e3⟩
theorem Zc (hI:∀ f args h,(f=127\/f=126\/f=101)->I f args h=none) {k kx:Nat} {bs:List UInt8} {pos items:Nat} {a0 a1 a2 a3:Value} {g:H} (f:Fit g) (b:Src k bs pos 0 items g) (hx:g.blk kx=some (.cells [a0,a1,a2,a3] 24 none)) (hne:kx≠k) (hp:pos<=bs.length) (hl:bs.length<=1000000) (lv:Value) :
  ∃ n v g',(ev tab E I n).call 127 [.pointer (some (own k)),.pointer (some (own kx)),lv] g=some (v,g')/\(Mod (fun j=>j=k\/j=kx) g g'/\ACS k kx bs (Du bs pos items) (fun t=>[a0,a1,.string t,a3]) v g'):=by
 obtain⟨nf,v,g1,c,u,x,rfl,m1,hq⟩:=TX (E:=E) (I:=I) (fun f args h hf=>hI f args h (by rcases hf with h|h<;>simp[h])) f b hp hl 1 4096 (by decide) (by decide);have c1:(ev tab E I nf).call 126 [.pointer (some (own k)),.int .i64 1,.int .i64 4096] g=some (.tuple #[u,x],g1):=c;have hx1:=m1.blk _ _ hne hx;have lx:kx<g1.next:=m1.fit.lt hx1;have mm1:Mod (fun j=>j=k\/j=kx) g g1:=m1.sub (fun _ h=>.inl h);apply Wk (hI _ _ _ (.inl rfl)) AD9 rfl;intro A0 n0 d0 hA0;change A0.n=73 at n0;have q0:A0.get 0=.pointer (some (own k)):=hA0 0 _ rfl;have q1:A0.get 1=.pointer (some (own kx)):=hA0 1 _ rfl;have q2:A0.get 2=lv:=hA0 2 _ rfl;clear hA0;have e0:Du bs pos items=match rdN bs 1 4096 pos items with|.bad p e=>.bad p e|.ok n p items=>if bs.length-p<n then .bad bs.length 4 else .ok ⟨⟨(bs.drop p).take n⟩⟩ (p+n) items:=rfl
 rw[e0];generalize hr:rdN bs 1 4096 pos items=r at hq;cases r with
 | bad p e=>
  obtain⟨rfl,rfl,b1⟩:=hq;refine Vn nf (Z6 n0 q0 q1 @Qx @Hx @c1) ?_;show (Ex.ret=.normal\/Ex.ret=.ret)/\_;refine AW (v:=.bool false) (.inr rfl) (S0 d0) rfl (S0 n0) ⟨mm1,rfl,_,b1⟩
 | ok m p it=>
  obtain⟨rfl,rfl,b1⟩:=hq;obtain⟨r1,r2,r3,r4,r5⟩:=GQ hr;have kl:k<g1.next:=m1.fit.lt b1;have w1:IntKind.i64.wrap ((bs.length:Int)-(p:Int))=((bs.length-p:Nat):Int):=by rw[wrap64 (by omega) (by omega)];omega
  have w2:IntKind.i64.wrap ((p:Int)+(m:Int))=((p+m:Nat):Int):=by rw[wrap64 (by omega) (by omega)];omega
  obtain⟨c0,c2,_,_⟩:=b1.at (E:=E);refine Vn nf (Z6 n0 q0 q1 @Qx @Hx @c1) ?_;refine Wc.al 1 (by kernel_rfl) ?_;by_cases h1:bs.length-p<m
  ·have e1:decide (((bs.length-p:Nat):Int)<(m:Int))=true:=by simp;omega
   obtain⟨nf2,g',ck,mf,b'⟩:=Ce (E:=E) (I:=I) (fun args h=>hI _ args h (.inr (.inr rfl))) m1.fit.fresh (show Src k bs p 0 it (fresh g1) from b1) 4 bs.length;obtain⟨m',_,hn,hl⟩:=Mod.back m1.fit mf
   (iterate 15 refine Uf (Z8 n0 q0 @Qx @Hx @c0 @c2 @w1 e1) ?_)
   refine FC.nil ?_;refine Vw n0 ?_;refine Wc.ao nf2 (by kernel_rfl) ?_
   (iterate 9 refine Ug (Z5 n0 q0 @Qx @Hx @c0) ?_)
   refine FQ.mod (h1:=g') (x:=.bool false) rfl rfl (by simp +decide only[Oy,n0,q0,Qx,Hx,ck]) ?_
   (iterate 1 refine Ug (Z2 n0 q0) ?_)
   refine FQ.nil ⟨?_,?_⟩
   ·exact Ah [9] 11 rfl rfl (by kernel_rfl)
   refine Wc.ret ?_;show (Ex.ret=.normal\/Ex.ret=.ret)/\_;refine AW (v:=.bool false) (.inr rfl) (S0 d0) rfl (S0 n0) ⟨mm1.trans (m'.sub fun _ h=>.inl h),?_⟩;simp only[if_pos h1];exact⟨rfl,_,b'.back⟩
  ·have e1:decide (((bs.length-p:Nat):Int)<(m:Int))=false:=by simp;omega
   have sl:=AFo (bs:=bs) (p:=p) (q:=p+m) (by omega) (by omega) (h:=fresh g1);rw[show p+m-p=m by omega] at sl;have s1:AO tab 9 (aadd (own kx) 2) (.string ⟨⟨(bs.drop p).take m⟩⟩) (fresh g1)=some ((fresh g1).aa kx (.cells [a0,a1,.string ⟨⟨(bs.drop p).take m⟩⟩,a3] 24 none)):=Aj (g:=fresh g1) qty9 rfl hx1 rfl rfl (by simp) rfl;have m2:=(Mod.refl (M:=fun j=>j=kx) m1.fit).aa (B:=.cells [a0,a1,.string ⟨⟨(bs.drop p).take m⟩⟩,a3] 24 none) rfl rfl lx;have b2:=b1.mod m2 (fun h=>hne h.symm);have hx2:(g1.aa kx (.cells [a0,a1,.string ⟨⟨(bs.drop p).take m⟩⟩,a3] 24 none)).blk kx=_:=AD rfl
   (iterate 15 refine Uf (Z8 n0 q0 @Qx @Hx @c0 @c2 @w1 e1) ?_)
   refine FC.nil ?_;refine Vw n0 ?_;refine Wc.ao 1 (by kernel_rfl) ?_
   (iterate 18 refine Ug (Z8 n0 q0 q1 @Qx @Hx @c0 @c2 @w2) ?_)
   refine FQ.ef (x:=.string ⟨⟨(bs.drop p).take m⟩⟩) rfl (by simp +decide only[Oy,n0,sl]) ?_
   (iterate 2 refine Ug (Z4 n0 q1 @Qx @Hx) ?_)
   refine FQ.aa (k:=kx) rfl rfl lx (by simp +decide only[Oy,n0,s1];with_reducible rfl) ?_;refine FQ.nil ⟨?_,?_⟩
   ·exact Ah [21] 22 rfl rfl (by kernel_rfl)
   generalize g1.aa kx (.cells [a0,a1,.string ⟨⟨(bs.drop p).take m⟩⟩,a3] 24 none)=g2 at m2 b2 hx2;obtain⟨c0,c2,_,_⟩:=b2.at (E:=E);obtain⟨s3,b3⟩:=b2.pos (p+m);have m3:=(Mod.refl (M:=fun j=>j=k) m2.fit).aa (B:=.cells [.string ⟨⟨bs⟩⟩,.int .i64 (p+m:Nat),.int .i64 0,.int .i64 (it:Nat)] 116 none) rfl rfl (m2.fit.lt b2);have hx3:=m3.blk _ _ hne hx2;refine Wc.forget (fun A=>A.n=73/\A.defers=[]/\A.get 0=.pointer (some (own k))/\A.get 7=.int .i64 (m:Nat)) (by and_intros<;>simp +decide only[Gs,n0,d0,q0]<;>rfl) ?_;rintro A0 ⟨n0,d0,q0,q7⟩;refine Vw (Z8 n0 q0 q7 @Qx @Hx @c2 @w2 @s3) ?_;refine AW (v:=.bool true) (.inr rfl) (S0 d0) rfl (S0 n0) ⟨(mm1.trans (m2.sub fun _ h=>.inr h)).trans (m3.sub fun _ h=>.inl h),?_⟩;simp only[if_neg h1];exact⟨rfl,b3,hx3⟩
set_option maxHeartbeats 16000000
theorem AFF:tab.fn.get 71=some Tryz.f71:=by kernel_rfl
theorem AD8:tab.fn.get 128=some Tryz.f128:=by kernel_rfl
noncomputable def Iq:Code:=loopOf Tryz.f128
def zeroL:List Value:=[.int .i64 0,.int .i64 0,.string ⟨#[]⟩,.slice none 0 0]
def Uz (E:Env) (k:Nat) (bs:List UInt8) (r:Rd Hs.Item) (lo:Nat) (l:List Value) (z:Value) (g:H):Prop:=match r with
 | .ok t p it=>z=.bool true/\Src k bs p 0 it g/\rep E (only (fun r=>Nat.ble lo r) g) t (.agg ⟨l⟩)
 | .bad p e=>z=.bool false/\l=zeroL/\∃ it,Src k bs p e it g
def Yq (E:Env) (I:Aa) (k:Nat) (bs:List UInt8) (f:Nat):Prop:=∀ (g:H) (pos items:Nat),Fit g->Src k bs pos 0 items g->pos<=bs.length->items<=5000->
 ∃ n v g',(ev tab E I n).call 71 [.pointer (some (own k)),.int .i64 (251-f:Nat)] g=some (v,g')/\(∃ l z,v=.tuple #[.agg ⟨l⟩,z]/\Mod (fun j=>j=k) g g'/\Uz E k bs (rdItem bs f pos items) g.next l z g')
def ACX (E:Env) (k kx:Nat) (bs:List UInt8) (base:Nat) (a0 a1 a2:Value) (r:Rd (List Hs.Item)) (v:Value) (g:H):Prop:=match r with
 | .ok ks p it=>v=.bool true/\Src k bs p 0 it g/\∃ sl,g.blk kx=some (.cells [a0,a1,a2,sl] 24 none)/\Kol E 24 base g.next g sl ks
 | .bad p e=>v=.bool false/\∃ it,Src k bs p e it g
theorem Dd {E:Env} {h:H} {t:Hs.Item} {l:List Value} (hr:rep E h t (.agg ⟨l⟩)):∃ a b c d,l=[a,b,c,d]/\[a,b,c,d].all isOne=true:=by
 obtain⟨k',m',tx',ks'⟩:=t;obtain⟨sb',sc',e,_⟩:=Ao hr;cases e;exact⟨_,_,_,_,rfl,rfl⟩
theorem ABg {a b c d:Value} (h1:[a,b,c,d].all isOne=true) {h:H}:AH tab 22 1 [(0,.agg ⟨[a,b,c,d]⟩)] h=some (.slice (some (own h.next)) 1 1,h.new (.cells [a,b,c,d] 24 none)):=by
 unfold AH;simp only[Kf,Cc];rfl
theorem ABI (b:Option Addr) (n c:Nat):Ax tab 22 (.slice b n c)=some false:=by unfold Ax;rw[Kf]
theorem Zb (hI:∀ f args h,(f=128\/f=126\/f=101)->I f args h=none) {k kx:Nat} {bs:List UInt8} {fu:Nat} (hfu:fu<250) (R:Yq E I k bs fu) {pos items:Nat} {a0 a1 a2:Value} {g:H} (f:Fit g) (b:Src k bs pos 0 items g) (hx:g.blk kx=some (.cells [a0,a1,a2,.slice none 0 0] 24 none)) (hne:kx≠k) (hp:pos<=bs.length) (hi:items<=5000) (hl:bs.length<=1000000) :
  ∃ n v g',(ev tab E I n).call 128 [.pointer (some (own k)),.pointer (some (own kx)),.int .i64 (250-fu:Nat)] g=some (v,g')/\(Mod (fun j=>j=k\/j=kx) g g'/\ACX E k kx bs g.next a0 a1 a2 (CK bs (rdItem bs fu) pos items) v g'):=by
 obtain⟨nf,v,g1,c,u,x,rfl,m1,hq⟩:=TX (E:=E) (I:=I) (fun f args h hf=>hI f args h (by rcases hf with h|h<;>simp[h])) f b hp hl 1 5000 (by decide) (by decide);have c1:(ev tab E I nf).call 126 [.pointer (some (own k)),.int .i64 1,.int .i64 5000] g=some (.tuple #[u,x],g1):=c;have hx1:=m1.blk _ _ hne hx;have lx:kx<g.next:=f.lt hx;have mm1:Mod (fun j=>j=k\/j=kx) g g1:=m1.sub (fun _ h=>.inl h);have rok:=GR bs fu;have stop:∀ (i n:Nat) (A0:Ac) (h:H),A0.n=44->A0.defers=[]->A0.get 8=.bool false->A0.get 18=.int .i64 (n:Nat)->A0.get 19=.int .i64 (i:Nat)->
   Wc tab E I ⟨128,none⟩ (.loop Iq) A0 h (fun ex A' h'=>ex=.exit 0/\A'.n=44/\A'.defers=[]/\A'.get 8=.bool false/\h'=h):=by
  intro i n A0 h n0 d0 q8 q18 q19;apply Wc.loop;simp only[Iq,loopOf,firstLoop,Option.getD,Tryz.f128];by_cases h1:i<n
  ·have e1:decide ((i:Int)<(n:Int))=true:=by simp;omega
   refine Vw (Z5 n0 q8 q18 q19 e1) ?_;exact⟨rfl,by simp +decide only[Gs,n0],by simp +decide only[Gs,d0],by simp +decide only[Gs,n0,q8],rfl⟩
  ·have e1:decide ((i:Int)<(n:Int))=false:=by simp;omega
   refine Vw (Z5 n0 q8 q18 q19 e1) ?_;exact⟨rfl,by simp +decide only[Gs,n0],by simp +decide only[Gs,d0],by simp +decide only[Gs,n0,q8],rfl⟩
 have key:∀ (r i n p it:Nat) (acc:List Hs.Item) (sl:Value) (A0:Ac) (h:H),r=n-i->i<=n->n<=5000->acc.length=i->p<=bs.length->it<=5000->A0.n=44->A0.defers=[]->A0.get 1=.pointer (some (own kx))->A0.get 2=.int .i64 (250-fu:Nat)->A0.get 8=.bool true->A0.get 9=.func (.func 71) ⟨[.pointer (some (own k))]⟩ ⟨[]⟩->A0.get 18=.int .i64 (n:Nat)->A0.get 19=.int .i64 (i:Nat)->
   Mod (fun j=>j=k\/j=kx) g h->Src k bs p 0 it h->h.blk kx=some (.cells [a0,a1,a2,sl] 24 none)->Kol E 24 g.next h.next h sl acc->CK bs (rdItem bs fu) pos items=rdKids (rdItem bs fu) r acc p it->
   Wc tab E I ⟨128,none⟩ (.loop Iq) A0 h (fun ex A' h'=>ex=.exit 0/\A'.n=44/\A'.defers=[]/\∃ z,A'.get 8=.bool z/\Mod (fun j=>j=k\/j=kx) g h'/\ACX E k kx bs g.next a0 a1 a2 (CK bs (rdItem bs fu) pos items) (.bool z) h'):=by
  intro r;induction r with
  | zero=>
   intro i n p it acc sl A0 h hr hin hn hacc hp hit n0 d0 q1 q2 q8 q9 q18 q19 M b bx K he;have e1:decide ((i:Int)<(n:Int))=false:=by simp;omega
   apply Wc.loop;simp only[Iq,loopOf,firstLoop,Option.getD,Tryz.f128];refine Vw (Z4 n0 q18 q19 e1) ?_;refine⟨rfl,by simp +decide only[Gs,n0],by simp +decide only[Gs,d0],true,by simp +decide only[Gs,n0,q8],M,?_⟩;rw[he,rdKids];exact⟨rfl,b,sl,bx,K⟩
  | succ r ih=>
   intro i n p it acc sl A0 h hr hin hn hacc hp hit n0 d0 q1 q2 q8 q9 q18 q19 M b bx K he;have e1:decide ((i:Int)<(n:Int))=true:=by simp;omega
   have fh:=M.fit;generalize hh1:h.new (.cells (Value.agg #[.int .i64 0,.int .i64 0,.string ⟨#[]⟩,.slice none 0 0]).cells.toList 24 none)=h1;have t1:Ahd h h1:=by rw[<- hh1];exact Ahd.aj fh rfl
   have b10:h1.blk h.next=some (.cells zeroL 24 none):=by rw[<- hh1];exact AA rfl
   have n1:h1.next=h.next+1:=by rw[<- hh1];rfl
   have hkl:k<h.next:=fh.lt b;have hxl:kx<h.next:=fh.lt bx;have hgn:=M.next;obtain⟨nf,v,h2,ck,l,z,rfl,m2,hq⟩:=R h1 p it t1.fit (b.mod (t1.mod (M:=fun _=>False)) (fun h=>h)) hp hit;have ck':(ev tab E I nf).call 71 [.pointer (some (own k)),.int .i64 ((251-fu:Nat):Int)] h1=some (.tuple #[.agg ⟨l⟩,z],h2):=ck;have w1:IntKind.i64.wrap (((250-fu:Nat):Int)+1)=((251-fu:Nat):Int):=by rw[wrap64 (by omega) (by omega)];omega
   have w2:IntKind.i64.wrap ((i:Int)+1)=((i+1:Nat):Int):=by rw[wrap64 (by omega) (by omega)];omega
   have b10':=m2.blk _ _ (by omega) b10;have hl4:l.length=4/\l.all isOne=true:=by
    unfold Uz at hq;split at hq
    ·obtain⟨_,_,_,_,rfl,h⟩:=Dd hq.2.2;exact⟨rfl,h⟩
    ·rw[hq.2.1];exact⟨rfl,rfl⟩
   have s1:AO tab 24 (own h.next) (.agg ⟨l⟩) h2=some (h2.aa h.next (.cells l 24 none)):=AU DW b10' (by rw[hl4.1]) (by rw[hl4.1];rfl) hl4.2 (by intro e;rw[e] at hl4;simp at hl4);have lh2:h.next<h2.next:=m2.fit.lt b10';have m3:=(Mod.refl (M:=fun j=>j=h.next) m2.fit).aa (B:=.cells l 24 none) rfl rfl lh2;have b10:=AD (h:=h2) (k:=h.next) (B:=.cells l 24 none) rfl;generalize h2.aa h.next (.cells l 24 none)=h3 at s1 m3 b10;have n3:=m3.next;have hMk:∀ j,(j=h.next)->(j=k\/j=kx)\/g.next<=j:=fun j hj=>.inr (by have:=M.next;omega);have M3:Mod (fun j=>j=k\/j=kx) g h3:=Mod.low f ((M.sub (N:=fun j=>(j=k\/j=kx)\/g.next<=j) (fun _ h=>.inl h)).trans ((t1.mod.trans (m2.sub fun _ h=>.inl (.inl h))).trans (m3.sub hMk))) (fun _ h=>h);have bx3:=m3.blk _ _ (by omega) (m2.blk _ _ hne (t1.grows _ _ bx));have K1:=K.mod fh (t1.mod (M:=fun _=>False)) (fun _ _ h=>h.elim)
   have K2:=K1.mod t1.fit m2 (fun j B hj hB=>by
    subst hj;have hb1:=t1.grows _ _ b;rw[hb1] at hB;cases hB;rfl)
   have hpl3:∀ j B,j=h.next->h2.blk j=some B->B.plain=true:=fun j B hj hB=>by
    subst hj;rw[b10'] at hB;cases hB;rfl
   have K3:=K2.mod m2.fit m3 hpl3;rw[rdKids] at he;apply Wc.loop;simp only[Iq,loopOf,firstLoop,Option.getD,Tryz.f128];generalize hri:rdItem bs fu p it=ri at hq he;cases ri with
   | bad p' e=>
    obtain⟨rfl,_,it',b'⟩:=hq;refine Vn nf (Z15 n0 q1 q2 q8 q9 q18 q19 e1 @Cc @hh1 @w1 @ck' @s1 @w2 (@W0 Value)) ?_;refine (stop (i+1) n _ h3 ?_ ?_ ?_ ?_ ?_).mono ?_
    ·simp +decide only[Gs,n0]
    ·simp +decide only[Gs,d0]
    ·simp +decide only[Gs,n0]
    ·simp +decide only[Gs,n0,q18]
    ·simp +decide only[Gs,n0]
    ·rintro ex A' h' ⟨rfl,e1,e2,e3,rfl⟩;refine⟨rfl,e1,e2,false,e3,M3,?_⟩;rw[he];exact⟨rfl,it',b'.mod m3 (by omega)⟩
   | ok t p' it'=>
    obtain⟨rfl,b',hrt⟩:=hq;obtain⟨va,vb,vc,vd,rfl,hone⟩:=Dd hrt;obtain⟨o1,o2,o3,o4,o5,o6⟩:=rok.1 _ _ _ _ _ hri;have b3:=b'.mod m3 (by omega);have R3:=AJ (Dv (q:=fun r=>Nat.ble h1.next r) m2.fit m3 hpl3 (fun _ h=>h)) hrt;obtain⟨sb,hsl⟩:=K3.slice;generalize hZ:(Blk.cells [.int .i64 0,.int .i64 0,.string ⟨#[]⟩,.slice none 0 0] 24 none)=Z;have hbs:=ABg (a:=.int .i64 0) (b:=.int .i64 0) (c:=.string ⟨#[]⟩) (d:=.slice none 0 0) rfl (h:=fresh h3);rw[hZ] at hbs;generalize hh4:h3.new Z=h4;have t4:Ahd h3 h4:=by rw[<- hh4,<- hZ];exact Ahd.aj m3.fit rfl
    have bz:h4.blk h3.next=some (.cells zeroL 24 none):=by rw[<- hh4,<- hZ];exact AA rfl
    have n4:h4.next=h3.next+1:=by rw[<- hh4];rfl
    have M4:=M3.ahd t4;have K4:=K3.mod m3.fit (t4.mod (M:=fun _=>False)) (fun _ _ h=>h.elim);have R4:=AJ (GV (q:=fun r=>Nat.ble h1.next r) m3.fit t4 (fun _ h=>h)) R3
    obtain⟨sl',qh,happ,RM,AP,qn,hsl',hrx⟩:=WW (D:=tab) (E:=E) (t:=22) (t2:=22) (by_:=56) (kx:=h3.next) (c:=1) (lo:=h1.next) (zs:=zeroL) t4.fit.fresh (show g.next<=(fresh h4).next from M4.next) K4.fresh (by omega) Kf Cc rfl (ABI _ _ _) (show (fresh h4).cells E (own h3.next) 4=some zeroL from AG (E:=E) (h:=h4) bz rfl rfl) rfl rfl (by
     unfold roomy;simp only[K0,Z0];omega)
    have R5:=hrx _ _ (SU R4);have hql:qh.log=[]:=AP.log;have AB:=AP.back t4.fit;have RM5:=RM.back t4.fit AP.fit (Y1 (by rw[qn];exact I5 _));have R6:=AJ (FK t4.fit AP.fit (Y1 (by rw[qn];exact I5 _)) _) R5;have M5:=AB.mod f (C0 _) M4;have bx5:=AB.keep (t4.grows _ _ bx3);have b5:=AB.keep (t4.grows _ _ b3);have n5:(back h4 qh).next=h4.next+1:=by rw[Au,qn];rfl
    generalize hh5:back h4 qh=h5 at AB RM5 R6 M5 bx5 b5 n5;obtain⟨kz,qf,hsz,hput,hql2,hqn2,hkz1,hkz2,K6,f6,ho6,M6⟩:=WX M5.fit RM5 (by omega) R6 hone;have hkz:kz=h4.next:=by
     rw[hsl'] at hsz;simp only[Value.slice.injEq,Option.some.injEq,own,Addr.mk.injEq] at hsz;exact hsz.1.1.symm
    have s2:AO tab 24 (aadd (own kz) (acc.length*4)) (.agg ⟨[va,vb,vc,vd]⟩) (fresh h5)=some qf:=by
     unfold AO;rw[DW];exact hput
    have MM6:=M6 _ _ f (C0 _) M5;have bx6:(back h5 qf).blk kx=_:=(ho6 kx (by omega)).trans bx5;have b6:Src k bs p' 0 it' (back h5 qf):=(ho6 k (by omega)).trans b5;have n6:(back h5 qf).next=h5.next:=by rw[Au,hqn2]
    generalize hh6:back h5 qf=h6 at K6 f6 MM6 bx6 b6 n6;have hsl2:sl'=.slice (some (own kz)) (acc.length+1) (acc.length+1):=hsz;have s3:AO tab 22 (aadd (own kx) 3) sl' (fresh h6)=some ((fresh h6).aa kx (.cells [a0,a1,a2,sl'] 24 none)):=Aj (g:=fresh h6) Kf rfl bx6 (by rw[hsl2];rfl) (by rw[hsl2];rfl) (by simp) rfl;have lx6:kx<h6.next:=f6.lt bx6;have m7:=(Mod.refl (M:=fun j=>j=kx) f6).aa (B:=.cells [a0,a1,a2,sl'] 24 none) rfl rfl lx6;have hpl7:∀ j B,j=kx->h6.blk j=some B->B.plain=true:=fun j B hj hB=>by
     subst hj;rw[bx6] at hB;cases hB;rfl
    have K7:=(K6.mod f6 m7 hpl7).up (top':=(h6.aa kx (.cells [a0,a1,a2,sl'] 24 none)).next) (by rw[Bx,n6];exact C0 _);have b7:=b6.mod m7 (fun h=>hne h.symm);have M7:Mod (fun j=>j=k\/j=kx) g (h6.aa kx (.cells [a0,a1,a2,sl'] 24 none)):=MM6.trans (m7.sub fun _ h=>.inr h);have bx7:(h6.aa kx (.cells [a0,a1,a2,sl'] 24 none)).blk kx=some (.cells [a0,a1,a2,sl'] 24 none):=AD rfl;have lsl:h3.cell E (aadd (own kx) 3)=some sl:=by
     rw[Aq bx3];rw[hsl];rfl
    have l10:h3.cells E (own h.next) 4=some [va,vb,vc,vd]:=AG b10 rfl hone;have hir:AN (((acc.length:Nat)):Int) (acc.length+1)=true:=by
     show Nat.blt acc.length (acc.length+1)=true;rw[P0];exact I5 _
    have ix:AL tab 22 sl' (.int .i64 (acc.length:Nat))=some (.pointer (some (aadd (own kz) (acc.length*4)))):=by
     rw[hsl2,ZV _ _ _ _ hir,M0]
    have ln:Cp tab 22 sl (fresh h3)=some (.int .i64 (acc.length:Nat)):=by rw[hsl];exact So _ _ _
    refine Vn nf (Z14 n0 q1 q2 q8 q9 q18 q19 e1 @Cc @hh1 @w1 @ck' @s1 (@W0 Value)) ?_;refine Wc.forget (fun A=>A.n=44/\A.defers=[]/\A.get 1=.pointer (some (own kx))/\A.get 2=.int .i64 (250-fu:Nat)/\A.get 8=.bool true/\A.get 9=.func (.func 71) ⟨[.pointer (some (own k))]⟩ ⟨[]⟩/\A.get 10=.pointer (some (own h.next))/\A.get 18=.int .i64 (n:Nat)/\A.get 19=.int .i64 (i:Nat)) (by and_intros<;>simp +decide only[Gs,n0,d0,q1,q2,q8,q9,q18,q19]<;>rfl) ?_;rintro A0 ⟨n0,d0,q1,q2,q8,q9,q10,q18,q19⟩;refine Wc.ao 1 (by kernel_rfl) ?_
    (iterate 6 refine Ug (Z8 n0 q1 q10 @Qx @Hx @lsl @l10 @ln) ?_)
    refine FQ.new (x:=.slice (some (own h3.next)) 1 1) (B:=Z) rfl rfl (by simp +decide only[Oy,n0,roL,Bool.and_self,hbs,Hx]) ?_;rw[hh4];refine FQ.call (h1:=qh) (x:=sl') rfl rfl (by simp +decide only[Oy,n0,happ]) hql ?_;rw[hh5]
    (iterate 1 refine Ug (Z2 n0 @ix) ?_)
    refine FQ.mod (h1:=qf) (x:=undef) rfl rfl (by simp +decide only[Oy,n0,s2]) ?_;rw[hh6]
    (iterate 2 refine Ug (Z4 n0 q1 @Qx @Hx) ?_)
    refine FQ.aa (k:=kx) (B:=.cells [a0,a1,a2,sl'] 24 none) (x:=undef) rfl rfl lx6 (by simp +decide only[Oy,n0,s3]) ?_;refine FQ.nil ⟨?_,?_⟩
    ·refine Az [9,12] 13 [(9,10),(9,11),(9,12),(4,12),(5,12),(8,12)] rfl rfl (by kernel_rfl) (fun ii jj ss tt hU e1 e2 => ?_);have hlow:kx<h3.next:=m3.fit.lt bx3;simp only[O1,Prod.mk.injEq,C1,or_false] at hU;rcases hU with⟨rfl,rfl⟩|⟨rfl,rfl⟩|⟨rfl,rfl⟩|⟨rfl,rfl⟩|⟨rfl,rfl⟩|⟨rfl,rfl⟩
     ·cases e1;cases e2;exact HI (l:=[]) rfl rfl (fun _ _=>by simp) rfl
     ·cases e1;cases e2;exact HI (l:=[]) rfl rfl (fun _ _=>by simp) rfl
     ·cases e1;cases e2;refine Tb (a:=kz) (b:=kx) hql2 rfl (by omega) rfl rfl ?_ ?_
      ·simp +decide only[Oy,rootedStore,n0,aadd,own,show (h6.blk kx)=_ from bx6]
      ·show kx<h5.next;omega
     ·cases e1;cases e2
      exact AK (l:=[h.next]) rfl (by simp +decide only[Oy,reads,pureOp,atV,n0,q10,aadd,own]) (fun j hj=>by
       have hj:j∈[kx]:=hj;obtain rfl:=H1.1 hj;simp only[H1]
       omega) rfl (fun j hj=>by
       have hj:j∈[kx]:=hj;obtain rfl:=H1.1 hj;exact .inl hlow)
     ·cases e1;cases e2
      exact AK (l:=[]) rfl rfl (fun _ _=>by simp) rfl (fun j hj=>by
       have hj:j∈[kx]:=hj;obtain rfl:=H1.1 hj;exact .inl hlow)
     ·cases e1;cases e2
      exact AK (l:=[]) rfl rfl (fun _ _=>by simp) rfl (fun j hj=>by
       have hj:j∈[kx]:=hj;obtain rfl:=H1.1 hj;exact .inl (by show _<h5.next;omega))
    refine Vw (Z3 n0 q19 @w2) ?_;refine (ih (i+1) n p' it' (acc++[t]) sl' _ _ (by omega) (by omega) hn (by rw[D0,hacc];rfl) o2 o4 ?_ ?_ ?_ ?_ ?_ ?_ ?_ ?_ M7 b7 bx7 K7 he)
    ·simp +decide only[Gs,n0]
    ·simp +decide only[Gs,d0]
    ·simp +decide only[Gs,n0,q1]
    ·simp +decide only[Gs,n0,q2]
    ·simp +decide only[Gs,n0,q8]
    ·simp +decide only[Gs,n0,q9]
    ·simp +decide only[Gs,n0,q18]
    ·simp +decide only[Gs,n0]
 apply Wk (hI _ _ _ (.inl rfl)) AD8 rfl;intro A0 n0 d0 hA0;change A0.n=44 at n0;have q0:A0.get 0=.pointer (some (own k)):=hA0 0 _ rfl;have q1:A0.get 1=.pointer (some (own kx)):=hA0 1 _ rfl;have q2:A0.get 2=.int .i64 (250-fu:Nat):=hA0 2 _ rfl;clear hA0;have e0:CK bs (rdItem bs fu) pos items=match rdN bs 1 5000 pos items with|.bad p e=>.bad p e|.ok n p items=>rdKids (rdItem bs fu) n [] p items:=rfl
 generalize hr:rdN bs 1 5000 pos items=r at hq e0;cases r with
 | bad p e=>
  obtain⟨rfl,rfl,b1⟩:=hq;refine Vn nf (Z9 n0 q0 q1 q2 @Qx @Hx @c1 @roF.eq_1 @roF.eq_2) ?_;refine (stop 0 0 _ g1 ?_ ?_ ?_ ?_ ?_).mono ?_
  ·simp +decide only[Gs,n0]
  ·simp +decide only[Gs,d0]
  ·simp +decide only[Gs,n0]
  ·simp +decide only[Gs,n0];rfl
  ·simp +decide only[Gs,n0];rfl
  ·rintro ex A0 h' ⟨rfl,n0,d0,q8,rfl⟩;simp only[if_true];refine Vw (Z2 n0 q8) ?_;refine AW (v:=.bool false) (.inr rfl) (S0 d0) rfl (S0 n0) ⟨mm1,?_⟩;rw[e0];exact⟨rfl,_,b1⟩
 | ok n p it=>
  obtain⟨rfl,rfl,b1⟩:=hq;obtain⟨r1,r2,r3,r4,r5⟩:=GQ hr;refine Vn nf (Z9 n0 q0 q1 q2 @Qx @Hx @c1 @roF.eq_1 @roF.eq_2) ?_;refine (key n 0 n p it [] (.slice none 0 0) _ g1 rfl (C2 _) r3 rfl r2 (by omega) ?_ ?_ ?_ ?_ ?_ ?_ ?_ ?_ mm1 b1 hx1 (Kol.nil _ _ _) e0).mono ?_
  ·simp +decide only[Gs,n0]
  ·simp +decide only[Gs,d0]
  ·simp +decide only[Gs,n0,q1]
  ·simp +decide only[Gs,n0,q2]
  ·simp +decide only[Gs,n0]
  ·simp +decide only[Gs,n0]
  ·simp +decide only[Gs,n0]
  ·simp +decide only[Gs,n0];rfl
  ·rintro ex A0 h' ⟨rfl,n0,d0,z,q8,M,hq⟩;simp only[if_true];refine Vw (Z2 n0 q8) ?_;exact AW (v:=.bool z) (.inr rfl) (S0 d0) rfl (S0 n0) ⟨M,hq⟩
theorem AEQ:tab.fn.get 103=some Tryz.f103:=by kernel_rfl
noncomputable def Hb:Code:=loopOf Tryz.f71
abbrev fnV (f:Nat):Value:=.func (.func f) #[] #[]
def partsL:List Value:=[.int .u8 0,fnV 125,.int .u8 64,fnV 127,.int .u8 128,fnV 128]
theorem TA (n:Int) (f:Nat):BX tab 158 [(0,.int .u8 n),(1,fnV f)]=some (.agg ⟨[.int .u8 n,fnV f]⟩):=by unfold BX;simp only[GT];rfl
theorem ABf (a b c d e f:Value):BX tab 159 [(0,.agg ⟨[a,b]⟩),(1,.agg ⟨[c,d]⟩),(2,.agg ⟨[e,f]⟩)]=some (.agg ⟨[a,b,c,d,e,f]⟩):=by unfold BX;simp only[Ib];rfl
theorem Eh:BX tab 24 []=some (.agg ⟨zeroL⟩):=by unfold BX;simp only[DW];rfl
theorem ABe (n:Int):BX tab 24 [(0,.int .i64 n)]=some (.agg ⟨[.int .i64 n,.int .i64 0,.string ⟨#[]⟩,.slice none 0 0]⟩):=by unfold BX;simp only[DW];rfl
theorem Vy:CP tab 159 (.agg ⟨partsL⟩) (.int .i64 0)=some (.agg ⟨[.int .u8 0,fnV 125]⟩):=by unfold CP;simp only[Ib];unfold apart;simp only[GT];rfl
theorem Vx:CP tab 159 (.agg ⟨partsL⟩) (.int .i64 1)=some (.agg ⟨[.int .u8 64,fnV 127]⟩):=by unfold CP;simp only[Ib];unfold apart;simp only[GT];rfl
theorem Vv:CP tab 159 (.agg ⟨partsL⟩) (.int .i64 2)=some (.agg ⟨[.int .u8 128,fnV 128]⟩):=by unfold CP;simp only[Ib];unfold apart;simp only[GT];rfl
theorem Za (hI:∀ args h,I 103 args h=none) {g:H} (f:Fit g):∃ n g',(ev tab E I n).call 103 [] g=some (.agg ⟨partsL⟩,g')/\Ahd g g':=by
 suffices hw:∃ n v g',(ev tab E I n).call 103 [] g=some (v,g')/\(v=.agg ⟨partsL⟩/\Ahd g g') by
  obtain⟨n,v,g',h1,rfl,h2⟩:=hw;exact⟨n,g',h1,h2⟩
 apply Wk (hI _ _) AEQ rfl;intro A0 n0 d0 hA0;change A0.n=5 at n0;clear hA0;generalize hZ:(Value.agg #[.int .u8 0,.nilFunc,.int .u8 0,.nilFunc,.int .u8 0,.nilFunc]).cells.toList=Z;generalize hh1:g.new (.cells Z 159 none)=h1;have a1:Ahd g h1:=by rw[<- hh1];exact Ahd.aj f rfl
 have b1:h1.blk g.next=some (.cells [.int .u8 0,.nilFunc,.int .u8 0,.nilFunc,.int .u8 0,.nilFunc] 159 none):=by rw[<- hh1,<- hZ];exact AA rfl
 have s1:AO tab 159 (own g.next) (.agg ⟨partsL⟩) h1=some (h1.aa g.next (.cells partsL 159 none)):=AU Ib b1 rfl rfl rfl (by simp[partsL]);have a2:Ahd g (h1.aa g.next (.cells partsL 159 none)):=a1.aa rfl (C0 _) (a1.fit.lt b1) f;have l2:(h1.aa g.next (.cells partsL 159 none)).cells E (own g.next) 6=some partsL:=AG (AD rfl) rfl rfl;have e1:=TA 0 125;have e2:=TA 64 127;have e3:=TA 128 128;unfold fnV at e1 e2 e3;have e4:BX tab 159 [(0,.agg ⟨[.int .u8 0,.func (.func 125) #[] #[]]⟩),(1,.agg ⟨[.int .u8 64,.func (.func 127) #[] #[]]⟩),(2,.agg ⟨[.int .u8 128,.func (.func 128) #[] #[]]⟩)]=some (.agg ⟨partsL⟩):=ABf _ _ _ _ _ _
 repeat' (first|with_reducible apply Ws|(apply Wp;focus ((repeat ((with_reducible apply Rr rfl);focus ((try simp +decide only[Oy,n0,qtz142,hZ,hh1,e1,e2,e3,e4,s1,roL]);with_reducible rfl)));with_reducible exact Rn))|(refine W2 (by simp +decide only[Cx,n0,hZ,e1,e2,e3,e4,roL];try with_reducible rfl) (fun hb=>?_) (fun hb=>?_)<;>try contradiction)|apply W3|apply W4|apply W5|apply W6)
 exact CO (.inr rfl) (S0 d0) rfl (show _=Value.pointer (some (own g.next)) by simp +decide only[Gs,n0]) (by rw[Ss,l2]) ⟨rfl,a2⟩
theorem Qe {bs:List UInt8} {f:Nat} {rec:Nat->Nat->Rd Hs.Item} (R:ACo bs f rec) {pos items:Nat} {ks:List Hs.Item} {p it:Nat} (h:CK bs rec pos items=.ok ks p it) (hi:items<=5000):p<=bs.length/\it<=5000/\ks.length<=5000:=by
 rw[CK] at h;split at h
 ·cases h
 ·next m q i' hm=>
  obtain⟨c1,c2,c3,c4,c5⟩:=GQ hm;obtain⟨d1,d2,d3,d4,d5,d6,d7⟩:=IY R _ _ _ _ _ _ _ h c2 (by omega) (by rw[goodL];trivial) (by rw[lvlL];omega);exact⟨d2,d4,by rw[d7];simpa using c3⟩
theorem ABx (hI:∀ f args h,(f=71\/f=128\/f=127\/f=126\/f=125\/f=103\/f=102\/f=101)->I f args h=none) {k:Nat} {bs:List UInt8} (hl:bs.length<=1000000):∀ fu,fu<=250->Yq E I k bs fu:=by
 intro fu;induction fu with
 | zero=>
  intro _ g pos items f b hp hi;have hI81:∀ args h,I 101 args h=none:=fun args h=>hI _ args h (by simp);have hI82:∀ f args h,(f=102\/f=101)->I f args h=none:=fun f args h hf=>hI f args h (by rcases hf with h|h<;>simp[h]);show ∃ n v g',(ev tab E I n).call 71 [.pointer (some (own k)),.int .i64 (251:Nat)] g=some (v,g')/\_;apply Wk (hI _ _ _ (.inl rfl)) AFF rfl;intro A0 n0 d0 hA0;change A0.n=99 at n0;have q0:A0.get 0=.pointer (some (own k)):=hA0 0 _ rfl;have q1:A0.get 1=.int .i64 (251:Nat):=hA0 1 _ rfl;clear hA0;generalize hh1:g.new (.cells (Value.agg #[.int .i64 0,.int .i64 0,.string ⟨#[]⟩,.slice none 0 0]).cells.toList 24 none)=h1;have t1:Ahd g h1:=by rw[<- hh1];exact Ahd.aj f rfl
  have b4:h1.blk g.next=some (.cells zeroL 24 none):=by rw[<- hh1];exact AA rfl
  have n1:h1.next=g.next+1:=by rw[<- hh1];rfl
  have kl:k<g.next:=f.lt b;have b1:=b.mod (t1.mod (M:=fun _=>False)) (fun h=>h);obtain⟨c0,c1,c2,c3⟩:=b1.at (E:=E);have st4:∀ {h:H},h.blk g.next=some (.cells zeroL 24 none)->AO tab 24 (own g.next) (.agg ⟨zeroL⟩) h=some (h.aa g.next (.cells zeroL 24 none)):=fun hb=>AU DW hb rfl rfl rfl (by simp[zeroL]);have low:∀ {h:H},Mod (fun j=>j=k\/g.next<=j) g h->Mod (fun j=>j=k) g h:=fun m=>m.low f (fun _ h=>h);have up:∀ {h h':H},Mod (fun j=>j=k) h h'->Mod (fun j=>j=k\/g.next<=j) h h':=fun m=>m.sub (fun _ h=>.inl h);have fin:∀ {h:H} {p it:Nat} {e:Int} {A0:Ac},A0.defers=[]->A0.get 4=.pointer (some (own g.next))->A0.get 5=.bool false->Mod (fun j=>j=k\/g.next<=j) g h->h.blk g.next=some (.cells zeroL 24 none)->Src k bs p e it h->rdItem bs 0 pos items=.bad p e->
    (Ex.ret=.normal\/Ex.ret=.ret)/\∃ h2 v',Ay A0.defers h=some h2/\ED tab E Tryz.f71 A0 h2=some v'/\(∃ l z,v'=.tuple #[.agg ⟨l⟩,z]/\Mod (fun j=>j=k) g h2/\Uz E k bs (rdItem bs 0 pos items) g.next l z h2):=by
   intro h p it e A0 d0 q4 q5 m hb bb he;refine⟨.inr rfl,h,.tuple #[.agg ⟨zeroL⟩,.bool false],by rw[d0];rfl,?_,zeroL,.bool false,rfl,low m,?_⟩
   ·have hc:h.cells E (own g.next) 4=some zeroL:=AG hb rfl rfl;unfold ED;rw[show Tryz.f71.results=#[.cell 4 24,.tmp 5] from rfl];simp only[Dl,ares1,q4,q5,qld25,hc]
   ·rw[he];exact⟨rfl,rfl,it,bb⟩
  by_cases h1e:pos=bs.length
  ·-- the bytes end
   have e2:decide ((pos:Int)=(bs.length:Int))=true:=by simp;omega
   have hn:bs[pos]? = none:=by rw[S5];omega
   have he:rdItem bs 0 pos items=.bad pos 4:=by rw[rdItem,hn]
   obtain⟨nf,g',ck,m,b'⟩:=Ce (E:=E) (I:=I) hI81 t1.fit.fresh (show Src k bs pos 0 items (fresh h1) from b1) 4 pos;obtain⟨m',_,hn',_⟩:=Mod.back t1.fit m;have b4':=m'.blk _ _ (by omega) b4;have b'':Src k bs pos 4 items (back h1 g'):=b'.back;generalize hh2:back h1 g'=h2 at m' b4' b'' hn';have s1:=st4 (h:=fresh h2) b4';have m2:=(Mod.refl (M:=fun j=>j=g.next) m'.fit).aa (B:=.cells zeroL 24 none) rfl rfl (m'.fit.lt b4');refine Vw (Z3 n0 @Cc @hh1) ?_;refine Wc.al 1 (by kernel_rfl) ?_
   (iterate 12 refine Uf (Z7 n0 q0 @Qx @Hx @c0 @c1 e2) ?_)
   refine FC.nil ?_;refine Vw n0 ?_;refine Wc.ao nf (by kernel_rfl) ?_
   (iterate 9 refine Ug (Z6 n0 q0 @Qx @Hx @c1 @Eh) ?_)
   refine FQ.mod (h1:=g') (x:=.bool false) rfl rfl (by simp +decide only[Oy,n0,q0,Qx,Hx,ck]) ?_;rw[hh2];refine FQ.aa (k:=g.next) rfl rfl (m'.fit.lt b4') (by simp +decide only[Oy,n0,s1];with_reducible rfl) ?_
   (iterate 1 refine Ug (Z2 n0 q0) ?_)
   refine FQ.nil ⟨?_,?_⟩
   ·exact Az [9,10] 12 [(0,9)] rfl rfl (by kernel_rfl) (fun _ _ _ _ hU e1 e2=>by simp only[O1,Prod.mk.injEq,C1,or_false] at hU;rcases hU with⟨rfl,rfl⟩<;>(cases e1;cases e2;exact AK (l:=[]) rfl rfl (fun _ _=>C1) rfl (fun j _=>P1 _ _)))
   refine Wc.ret ?_;exact fin (S0 d0) (S0 n0) (S0 n0) ((up m').sub (fun _ h=>h) |> fun x=>(t1.mod.trans (up m')).trans (m2.sub fun j hj=>.inr (by omega))) (AD rfl) (b''.mod m2 (by omega)) he
  have hlt:pos<bs.length:=by omega
  obtain⟨hd,hc⟩:∃ c,bs[pos]? = some c:=⟨bs[pos],Q0 hlt⟩;have e2:decide ((pos:Int)=(bs.length:Int))=false:=by simp;omega
  have he:rdItem bs 0 pos items=.bad pos 11:=by rw[rdItem,hc]
  obtain⟨nb,vb,h2,cb,mb,hb⟩:=H8 (E:=E) (I:=I) hI82 t1.fit b1 hi 251;have b42:=mb.blk _ _ (by omega) b4;have M2:Mod (fun j=>j=k\/g.next<=j) g h2:=t1.mod.trans (up mb);have s1:=st4 b42;have m3:=(Mod.refl (M:=fun j=>j=g.next) mb.fit).aa (B:=.cells zeroL 24 none) rfl rfl (mb.fit.lt b42);rcases hb with⟨_,rfl,bb⟩|⟨hb,_⟩|⟨hb,_⟩
  ·refine Vw (Z3 n0 @Cc @hh1) ?_;refine Wc.al 1 (by kernel_rfl) ?_
   (iterate 12 refine Uf (Z7 n0 q0 @Qx @Hx @c0 @c1 e2) ?_)
   refine FC.nil ?_;refine Vn nb (Z8 n0 q0 q1 @Qx @Hx @cb @Eh @s1) ?_;exact fin (S0 d0) (S0 n0) (S0 n0) (M2.trans (m3.sub fun j hj=>.inr (by omega))) (AD rfl) (bb.mod m3 (by omega)) he
  ·omega
  ·omega
 | succ fu IH=>
 intro hfu g pos items f b hp hi;have hI81:∀ args h,I 101 args h=none:=fun args h=>hI _ args h (by simp);have hI82:∀ f args h,(f=102\/f=101)->I f args h=none:=fun f args h hf=>hI f args h (by rcases hf with h|h<;>simp[h]);have hI117:∀ f args h,(f=125\/f=126\/f=101)->I f args h=none:=fun f args h hf=>hI f args h (by rcases hf with h|h|h<;>simp[h]);have hI119:∀ f args h,(f=127\/f=126\/f=101)->I f args h=none:=fun f args h hf=>hI f args h (by rcases hf with h|h|h<;>simp[h]);have hI120:∀ f args h,(f=128\/f=126\/f=101)->I f args h=none:=fun f args h hf=>hI f args h (by rcases hf with h|h|h<;>simp[h]);have RI:=IH (by omega);have hlv:((251-(fu+1):Nat):Int)=((250-fu:Nat):Int):=by omega
 rw[show 251-(fu+1)=250-fu by omega];apply Wk (hI _ _ _ (.inl rfl)) AFF rfl;intro A0 n0 d0 hA0;change A0.n=99 at n0;have q0:A0.get 0=.pointer (some (own k)):=hA0 0 _ rfl;have q1:A0.get 1=.int .i64 (250-fu:Nat):=hA0 1 _ rfl;clear hA0;generalize hh1:g.new (.cells (Value.agg #[.int .i64 0,.int .i64 0,.string ⟨#[]⟩,.slice none 0 0]).cells.toList 24 none)=h1;have t1:Ahd g h1:=by rw[<- hh1];exact Ahd.aj f rfl
 have b4:h1.blk g.next=some (.cells zeroL 24 none):=by rw[<- hh1];exact AA rfl
 have n1:h1.next=g.next+1:=by rw[<- hh1];rfl
 have kl:k<g.next:=f.lt b;have b1:=b.mod (t1.mod (M:=fun _=>False)) (fun h=>h);obtain⟨c0,c1,c2,c3⟩:=b1.at (E:=E);have st4:∀ {h:H},h.blk g.next=some (.cells zeroL 24 none)->AO tab 24 (own g.next) (.agg ⟨zeroL⟩) h=some (h.aa g.next (.cells zeroL 24 none)):=fun hb=>AU DW hb rfl rfl rfl (by simp[zeroL]);have low:∀ {h:H},Mod (fun j=>j=k\/g.next<=j) g h->Mod (fun j=>j=k) g h:=fun m=>m.low f (fun _ h=>h);have up:∀ {h h':H},Mod (fun j=>j=k) h h'->Mod (fun j=>j=k\/g.next<=j) h h':=fun m=>m.sub (fun _ h=>.inl h);have fin:∀ {h:H} {p it:Nat} {e:Int} {A0:Ac},A0.defers=[]->A0.get 4=.pointer (some (own g.next))->A0.get 5=.bool false->Mod (fun j=>j=k\/g.next<=j) g h->h.blk g.next=some (.cells zeroL 24 none)->Src k bs p e it h->rdItem bs (fu+1) pos items=.bad p e->
   (Ex.ret=.normal\/Ex.ret=.ret)/\∃ h2 v',Ay A0.defers h=some h2/\ED tab E Tryz.f71 A0 h2=some v'/\(∃ l z,v'=.tuple #[.agg ⟨l⟩,z]/\Mod (fun j=>j=k) g h2/\Uz E k bs (rdItem bs (fu+1) pos items) g.next l z h2):=by
  intro h p it e A0 d0 q4 q5 m hb bb he;refine⟨.inr rfl,h,.tuple #[.agg ⟨zeroL⟩,.bool false],by rw[d0];rfl,?_,zeroL,.bool false,rfl,low m,?_⟩
  ·have hc:h.cells E (own g.next) 4=some zeroL:=AG hb rfl rfl;unfold ED;rw[show Tryz.f71.results=#[.cell 4 24,.tmp 5] from rfl];simp only[Dl,ares1,q4,q5,qld25,hc]
  ·rw[he];exact⟨rfl,rfl,it,bb⟩
 by_cases h1e:pos=bs.length
 ·-- the bytes end
  have e2:decide ((pos:Int)=(bs.length:Int))=true:=by simp;omega
  have hn:bs[pos]? = none:=by rw[S5];omega
  have he:rdItem bs (fu+1) pos items=.bad pos 4:=by rw[rdItem,hn]
  obtain⟨nf,g',ck,m,b'⟩:=Ce (E:=E) (I:=I) hI81 t1.fit.fresh (show Src k bs pos 0 items (fresh h1) from b1) 4 pos;obtain⟨m',_,hn',_⟩:=Mod.back t1.fit m;have b4':=m'.blk _ _ (by omega) b4;have b'':Src k bs pos 4 items (back h1 g'):=b'.back;generalize hh2:back h1 g'=h2 at m' b4' b'' hn';have s1:=st4 (h:=fresh h2) b4';have m2:=(Mod.refl (M:=fun j=>j=g.next) m'.fit).aa (B:=.cells zeroL 24 none) rfl rfl (m'.fit.lt b4');refine Vw (Z3 n0 @Cc @hh1) ?_;refine Wc.al 1 (by kernel_rfl) ?_
  (iterate 12 refine Uf (Z7 n0 q0 @Qx @Hx @c0 @c1 e2) ?_)
  refine FC.nil ?_;refine Vw n0 ?_;refine Wc.ao nf (by kernel_rfl) ?_
  (iterate 9 refine Ug (Z6 n0 q0 @Qx @Hx @c1 @Eh) ?_)
  refine FQ.mod (h1:=g') (x:=.bool false) rfl rfl (by simp +decide only[Oy,n0,q0,Qx,Hx,ck]) ?_;rw[hh2];refine FQ.aa (k:=g.next) rfl rfl (m'.fit.lt b4') (by simp +decide only[Oy,n0,s1];with_reducible rfl) ?_
  (iterate 1 refine Ug (Z2 n0 q0) ?_)
  refine FQ.nil ⟨?_,?_⟩
  ·exact Az [9,10] 12 [(0,9)] rfl rfl (by kernel_rfl) (fun _ _ _ _ hU e1 e2=>by simp only[O1,Prod.mk.injEq,C1,or_false] at hU;rcases hU with⟨rfl,rfl⟩<;>(cases e1;cases e2;exact AK (l:=[]) rfl rfl (fun _ _=>C1) rfl (fun j _=>P1 _ _)))
  refine Wc.ret ?_;exact fin (S0 d0) (S0 n0) (S0 n0) ((up m').sub (fun _ h=>h) |> fun x=>(t1.mod.trans (up m')).trans (m2.sub fun j hj=>.inr (by omega))) (AD rfl) (b''.mod m2 (by omega)) he
 have hlt:pos<bs.length:=by omega
 obtain⟨hd,hc⟩:∃ c,bs[pos]? = some c:=⟨bs[pos],Q0 hlt⟩;have hc8:hd.toNat<256:=hd.toNat_lt;have e2:decide ((pos:Int)=(bs.length:Int))=false:=by simp;omega
 have eR:rdItem bs (fu+1) pos items=(if 5000<=items then .bad pos 2
   else if hd.toNat % 64=0 then .bad pos 4
   else match rdN bs 0 1099511627776 (pos+1) (items+1) with
    | .bad p e=>.bad p e
    | .ok n p items=>match (if hd.toNat / 64 % 2=1 then Du bs p items else .ok ⟨⟨[]⟩⟩ p items) with
     | .bad p e=>.bad p e
     | .ok tx p items=>match (if 128<=hd.toNat then CK bs (rdItem bs fu) p items else .ok [] p items) with
      | .bad p e=>.bad p e
      | .ok ks p items=>.ok (.mk (hd.toNat % 64:Nat) (n:Nat) tx ks) p items):=by rw[rdItem,hc];rfl
 generalize rdItem bs (fu+1) pos items=R at eR fin ⊢;obtain⟨nb,vb,h2,cb,mb,hb⟩:=H8 (E:=E) (I:=I) hI82 t1.fit b1 hi (250-fu);have b42:=mb.blk _ _ (by omega) b4;have M2:Mod (fun j=>j=k\/g.next<=j) g h2:=t1.mod.trans (up mb);refine Vw (Z3 n0 @Cc @hh1) ?_;refine Wc.al 1 (by kernel_rfl) ?_
 (iterate 12 refine Uf (Z7 n0 q0 @Qx @Hx @c0 @c1 e2) ?_)
 refine FC.nil ?_;rcases hb with⟨hb,_⟩|⟨_,h5,rfl,bb⟩|⟨_,h5,rfl,bb⟩
 ·omega
 ·-- too many
  have s1:=st4 b42;have m3:=(Mod.refl (M:=fun j=>j=g.next) mb.fit).aa (B:=.cells zeroL 24 none) rfl rfl (mb.fit.lt b42);rw[if_pos (by omega)] at eR;refine Vn nb (Z8 n0 q0 q1 @Qx @Hx @cb @Eh @s1) ?_;exact fin (S0 d0) (S0 n0) (S0 n0) (M2.trans (m3.sub fun j hj=>.inr (by omega))) (AD rfl) (bb.mod m3 (by omega)) eR
 rw[if_neg (by omega)] at eR;obtain⟨c0,c1,c2,c3⟩:=bb.at (E:=E);have ix:=Vu hc;have a1:=AEe hd.toNat hc8;have w0:IntKind.i64.wrap ((hd.toNat % 64:Nat):Int)=((hd.toNat % 64:Nat):Int):=QS (by omega);have bk:=ABe ((hd.toNat % 64:Nat):Int);generalize hh3:h2.new (.cells (Value.agg #[.int .i64 0,.int .i64 0,.string ⟨#[]⟩,.slice none 0 0]).cells.toList 24 none)=h3;have t3:Ahd h2 h3:=by rw[<- hh3];exact Ahd.aj mb.fit rfl
 have b7:h3.blk h2.next=some (.cells zeroL 24 none):=by rw[<- hh3];exact AA rfl
 have s7:AO tab 24 (own h2.next) (.agg ⟨[.int .i64 (hd.toNat % 64:Nat),.int .i64 0,.string ⟨#[]⟩,.slice none 0 0]⟩) h3=some (h3.aa h2.next (.cells [.int .i64 (hd.toNat % 64:Nat),.int .i64 0,.string ⟨#[]⟩,.slice none 0 0] 24 none)):=AU DW b7 rfl rfl rfl (by simp);have t4:Ahd h2 (h3.aa h2.next (.cells [.int .i64 (hd.toNat % 64:Nat),.int .i64 0,.string ⟨#[]⟩,.slice none 0 0] 24 none)):=t3.aa rfl (C0 _) (t3.fit.lt b7) mb.fit;have b7:=AD (h:=h3) (k:=h2.next) (B:=.cells [.int .i64 (hd.toNat % 64:Nat),.int .i64 0,.string ⟨#[]⟩,.slice none 0 0] 24 none) rfl;generalize h3.aa h2.next (.cells [.int .i64 (hd.toNat % 64:Nat),.int .i64 0,.string ⟨#[]⟩,.slice none 0 0] 24 none)=h4 at s7 t4 b7;have hk7:g.next<h2.next:=mb.fit.lt b42;generalize hk7e:h2.next=k7 at*;have b44:=t4.grows _ _ b42;have M4:=M2.ahd t4;have b5:=bb.mod (t4.mod (M:=fun _=>False)) (fun h=>h);have kd0:=BJ (E:=E) b7;refine Vn nb (Z6 n0 q0 q1 @Qx @Hx @cb) ?_;refine Wc.al 1 (by kernel_rfl) ?_
 (iterate 12 refine Uf (Z7 n0 q0 @Qx @Hx @c0 @c1 @ix) ?_)
 refine FC.nil ?_;refine Vw (Z9 n0 @a1 @Pc @w0 @bk @Cc @hh3 @hk7e @s7) ?_;refine Wc.forget (fun A=>A.n=99/\A.defers=[]/\A.get 0=.pointer (some (own k))/\A.get 1=.int .i64 (250-fu:Nat)/\A.get 4=.pointer (some (own g.next))/\A.get 6=.int .u8 (hd.toNat:Nat)/\A.get 7=.pointer (some (own k7))) (by and_intros<;>simp +decide only[Gs,n0,d0,q0,q1]<;>rfl) ?_;rintro A0 ⟨n0,d0,q0,q1,q4,q6,q7⟩;by_cases hk0:hd.toNat % 64=0
 ·have e3:decide (((hd.toNat % 64:Nat):Int)=0)=true:=by simp;omega
  rw[if_pos hk0] at eR;obtain⟨nf,g',ck,m,b'⟩:=Ce (E:=E) (I:=I) hI81 t4.fit.fresh (show Src k bs pos 0 (items+1) (fresh h4) from b5) 4 pos;obtain⟨m',_,hn',_⟩:=Mod.back t4.fit m;have b4':=m'.blk _ _ (by omega) b44;have b'':Src k bs pos 4 (items+1) (back h4 g'):=b'.back;generalize hh5:back h4 g'=h5 at m' b4' b'' hn';have s1:=st4 (h:=fresh h5) b4';have m5:=(Mod.refl (M:=fun j=>j=g.next) m'.fit).aa (B:=.cells zeroL 24 none) rfl rfl (m'.fit.lt b4');obtain⟨_,c1,_,_⟩:=b5.at (E:=E);refine Vw (Z6 n0 q7 @Qx @Hx @kd0 e3) ?_;refine Wc.ao nf (by kernel_rfl) ?_
  (iterate 9 refine Ug (Z6 n0 q0 @Qx @Hx @c1 @Eh) ?_)
  refine FQ.mod (h1:=g') (x:=.bool false) rfl rfl (by simp +decide only[Oy,n0,q0,Qx,Hx,ck]) ?_;rw[hh5];refine FQ.aa (k:=g.next) rfl rfl (m'.fit.lt b4') (by simp +decide only[Oy,n0,q4,s1];with_reducible rfl) ?_
  (iterate 1 refine Ug (Z2 n0 q0) ?_)
  refine FQ.nil ⟨?_,?_⟩
  ·exact Az [9,10] 12 [(0,9)] rfl rfl (by kernel_rfl) (fun _ _ _ _ hU e1 e2=>by simp only[O1,Prod.mk.injEq,C1,or_false] at hU;rcases hU with⟨rfl,rfl⟩<;>(cases e1;cases e2;exact AK (l:=[]) rfl rfl (fun _ _=>C1) rfl (fun j _=>P1 _ _)))
  refine Wc.ret ?_;exact fin (S0 d0) (S0 (Z2 n0 q4)) (S0 n0) ((M4.trans (up m')).trans (m5.sub fun j hj=>.inr (by omega))) (AD rfl) (b''.mod m5 (by omega)) eR
 have e3:decide (((hd.toNat % 64:Nat):Int)=0)=false:=by simp;omega
 rw[if_neg hk0] at eR;obtain⟨_,c1,_,_⟩:=b5.at (E:=E);have w1:IntKind.i64.wrap ((pos:Int)+1)=((pos+1:Nat):Int):=by rw[wrap64 (by omega) (by omega)];omega
 obtain⟨s5,b5'⟩:=b5.pos (pos+1);have m5:=(Mod.refl (M:=fun j=>j=k) t4.fit).aa (B:=.cells [.string ⟨⟨bs⟩⟩,.int .i64 (pos+1:Nat),.int .i64 0,.int .i64 (items+1:Nat)] 116 none) rfl rfl (t4.fit.lt b5);generalize h4.aa k (.cells [.string ⟨⟨bs⟩⟩,.int .i64 (pos+1:Nat),.int .i64 0,.int .i64 (items+1:Nat)] 116 none)=h5 at s5 b5' m5;have b45:=m5.blk _ _ (by omega) b44;have b75:=m5.blk _ _ (by omega) b7;have M5:=M4.trans (up m5);obtain⟨n9,h6,c9,t6⟩:=Za (E:=E) (I:=I) (fun args h=>hI _ args h (by simp)) m5.fit;have b46:=t6.grows _ _ b45;have b76:=t6.grows _ _ b75;have b6:=b5'.mod (t6.mod (M:=fun _=>False)) (fun h=>h);have M6:=M5.ahd t6;refine Vn n9 (Z14 n0 q0 q1 q4 q6 q7 @Qx @Hx @kd0 e3 @c1 @w1 @s5 @c9) ?_;refine Wc.forget (fun A=>A.n=99/\A.defers=[]/\A.get 0=.pointer (some (own k))/\A.get 1=.int .i64 (250-fu:Nat)/\A.get 4=.pointer (some (own g.next))/\A.get 6=.int .u8 (hd.toNat:Nat)/\A.get 7=.pointer (some (own k7))/\A.get 74=.agg ⟨partsL⟩/\A.get 75=.int .i64 0) (by and_intros<;>simp +decide only[Gs,n0,d0,q0,q1,q4,q6,q7]<;>rfl) ?_;rintro A0 ⟨n0,d0,q0,q1,q4,q6,q7,q74,q75⟩;have mk9:∀ (h:H) (x y:Value),isOne x=true->isOne y=true->Fit h->∃ hn h',h.new (.cells (Value.agg #[.int .u8 0,.nilFunc]).cells.toList 158 none)=hn/\AO tab 158 (own h.next) (.agg ⟨[x,y]⟩) hn=some h'/\Ahd h h'/\h'.blk h.next=some (.cells [x,y] 158 none):=by
  intro h x y ox oy fh;have t:Ahd h (h.new (.cells (Value.agg #[.int .u8 0,.nilFunc]).cells.toList 158 none)):=Ahd.aj fh rfl;have bb:(h.new (.cells (Value.agg #[.int .u8 0,.nilFunc]).cells.toList 158 none)).blk h.next=some (.cells [.int .u8 0,.nilFunc] 158 none):=AA rfl;exact⟨_,_,rfl,AU GT bb rfl rfl (by simp[ox,oy]) (by simp),t.aa rfl (C0 _) (t.fit.lt bb) fh,AD rfl⟩
 have w75:∀ i:Nat,i<=10->IntKind.i64.wrap ((i:Int)+1)=((i+1:Nat):Int):=fun i hi=>by rw[wrap64 (by omega) (by omega)];omega
 have L3:∀ (A0:Ac) (h:H) (p it nm base:Nat) (tx:ByteArray) (ks:List Hs.Item) (sl:Value),A0.n=99->A0.defers=[]->A0.get 0=.pointer (some (own k))->A0.get 1=.int .i64 (250-fu:Nat)->A0.get 4=.pointer (some (own g.next))->A0.get 6=.int .u8 (hd.toNat:Nat)->A0.get 7=.pointer (some (own k7))->A0.get 74=.agg ⟨partsL⟩->A0.get 75=.int .i64 3->Mod (fun j=>j=k\/g.next<=j) g h->h.blk g.next=some (.cells zeroL 24 none)->Src k bs p 0 it h->p<=bs.length->it<=5000->g.next<=base->ks.length<1000000000->R=.ok (.mk (hd.toNat % 64:Nat) (nm:Nat) tx ks) p it->h.blk k7=some (.cells [.int .i64 (hd.toNat % 64:Nat),.int .i64 (nm:Nat),.string tx,sl] 24 none)->Kol E 24 base h.next h sl ks->
   Wc tab E I ⟨71,none⟩ (.loop Hb) A0 h (fun ex A' h'=>A'.n=99/\A'.defers=[]/\A'.get 4=.pointer (some (own g.next))/\Mod (fun j=>j=k\/g.next<=j) g h'/\h'.blk g.next=some (.cells zeroL 24 none)/\((ex=.exit 0/\A'.get 7=.pointer (some (own k7))/\∃ (nm:Nat) (tx:ByteArray) (ks:List Hs.Item) (sl:Value) (p it base:Nat),g.next<=base/\ks.length<1000000000/\R=.ok (.mk (hd.toNat % 64:Nat) (nm:Nat) tx ks) p it/\Src k bs p 0 it h'/\h'.blk k7=some (.cells [.int .i64 (hd.toNat % 64:Nat),.int .i64 (nm:Nat),.string tx,sl] 24 none)/\Kol E 24 base h'.next h' sl ks)\/(ex=.ret/\A'.get 5=.bool false/\∃ p e it,R=.bad p e/\Src k bs p e it h'))):=by
  intro A0 h p it nm base tx ks sl n0 d0 q0 q1 q4 q6 q7 q74 q75 M b4 b hp hit hbs hks hR b7 K;apply Wc.loop;simp only[Hb,loopOf,firstLoop,Option.getD,Tryz.f71];refine Vw (Z2 n0 q75) ?_;exact⟨by simp +decide only[Gs,n0],by simp +decide only[Gs,d0],by simp +decide only[Gs,n0,q4],M,b4,.inl ⟨rfl,by simp +decide only[Gs,n0,q7],nm,tx,ks,sl,p,it,base,hbs,hks,hR,b,b7,K⟩⟩
 have L2:∀ (A0:Ac) (h:H) (p it nm:Nat) (tx:ByteArray),A0.n=99->A0.defers=[]->A0.get 0=.pointer (some (own k))->A0.get 1=.int .i64 (250-fu:Nat)->A0.get 4=.pointer (some (own g.next))->A0.get 6=.int .u8 (hd.toNat:Nat)->A0.get 7=.pointer (some (own k7))->A0.get 74=.agg ⟨partsL⟩->A0.get 75=.int .i64 2->Mod (fun j=>j=k\/g.next<=j) g h->h.blk g.next=some (.cells zeroL 24 none)->Src k bs p 0 it h->p<=bs.length->it<=5000->R=(match (if 128<=hd.toNat then CK bs (rdItem bs fu) p it else .ok [] p it) with
      | .bad p e=>.bad p e
      | .ok ks p items=>.ok (.mk (hd.toNat % 64:Nat) (nm:Nat) tx ks) p items)->h.blk k7=some (.cells [.int .i64 (hd.toNat % 64:Nat),.int .i64 (nm:Nat),.string tx,.slice none 0 0] 24 none)->
   Wc tab E I ⟨71,none⟩ (.loop Hb) A0 h (fun ex A' h'=>A'.n=99/\A'.defers=[]/\A'.get 4=.pointer (some (own g.next))/\Mod (fun j=>j=k\/g.next<=j) g h'/\h'.blk g.next=some (.cells zeroL 24 none)/\((ex=.exit 0/\A'.get 7=.pointer (some (own k7))/\∃ (nm:Nat) (tx:ByteArray) (ks:List Hs.Item) (sl:Value) (p it base:Nat),g.next<=base/\ks.length<1000000000/\R=.ok (.mk (hd.toNat % 64:Nat) (nm:Nat) tx ks) p it/\Src k bs p 0 it h'/\h'.blk k7=some (.cells [.int .i64 (hd.toNat % 64:Nat),.int .i64 (nm:Nat),.string tx,sl] 24 none)/\Kol E 24 base h'.next h' sl ks)\/(ex=.ret/\A'.get 5=.bool false/\∃ p e it,R=.bad p e/\Src k bs p e it h'))):=by
  intro A0 h p it nm tx n0 d0 q0 q1 q4 q6 q7 q74 q75 M b4 b hp hit hR b7;have fh:=M.fit;obtain⟨hn,h9,hh9,s9,t9,b9⟩:=mk9 h (.int .u8 128) (fnV 128) rfl rfl fh;have ix:=Vv;have l90:=BJ (E:=E) b9;have l91:=Aq (E:=E) b9 1;have a2:=ACM hd.toNat hc8;have w2:IntKind.i64.wrap (2+1)=3:=by rw[wrap64 (by omega) (by omega)];rfl
  have M9:=M.ahd t9;have b49:=t9.grows _ _ b4;have b79:=t9.grows _ _ b7;have bs9:=b.mod (t9.mod (M:=fun _=>False)) (fun h=>h);apply Wc.loop;simp only[Hb,loopOf,firstLoop,Option.getD,Tryz.f71];by_cases ho:128<=hd.toNat
  ·rw[if_pos ho] at hR;have e5:decide (((128*(hd.toNat / 128):Nat):Int)=0)=false:=by simp;omega
   obtain⟨nf,v,hz,cp,mz,hq⟩:=Zb (E:=E) (I:=I) hI120 (by omega) RI t9.fit bs9 b79 (by omega) hp hit hl;have Mz:=M9.trans (mz.sub (N:=fun j=>j=k\/g.next<=j) fun j hj=>hj.imp id (fun e=>by omega));have b4z:=mz.blk _ _ (by omega) b49;generalize hr:CK bs (rdItem bs fu) p it=r at hq hR;cases r with
   | bad p' e=>
    obtain⟨rfl,it',bz⟩:=hq;have s4:=st4 b4z;have m5:=(Mod.refl (M:=fun j=>j=g.next) Mz.fit).aa (B:=.cells zeroL 24 none) rfl rfl (Mz.fit.lt b4z);refine VN nf (Z21 n0 q0 q1 q4 q6 q7 q74 q75 @Qx @Hx @ix @HY @hh9 @s9 @l90 @l91 @a2 e5 @cp @Eh @s4) ?_;exact⟨by simp +decide only[Gs,n0],by simp +decide only[Gs,d0],by simp +decide only[Gs,n0,q4],Mz.trans (m5.sub fun j hj=>.inr (by omega)),AD rfl,.inr ⟨rfl,by simp +decide only[Gs,n0],_,_,_,hR,bz.mod m5 (by omega)⟩⟩
   | ok ks p' it'=>
    obtain⟨rfl,bz,sl,b7z,K⟩:=hq;obtain⟨ok1,ok2,ok3⟩:=Qe (GR bs fu) hr hit;refine VN nf (Z20 n0 q0 q1 q4 q6 q7 q74 q75 @Qx @Hx @ix @HY @hh9 @s9 @l90 @l91 @a2 e5 @cp @w2) ?_;refine L3 _ hz p' it' nm h9.next tx ks sl ?_ ?_ ?_ ?_ ?_ ?_ ?_ ?_ ?_ Mz b4z bz ?_ ?_ ?_ ?_ hR b7z K
    ·simp +decide only[Gs,n0]
    ·simp +decide only[Gs,d0]
    ·simp +decide only[Gs,n0,q0]
    ·simp +decide only[Gs,n0,q1]
    ·simp +decide only[Gs,n0,q4]
    ·simp +decide only[Gs,n0,q6]
    ·simp +decide only[Gs,n0,q7]
    ·simp +decide only[Gs,n0,q74]
    ·simp +decide only[Gs,n0]
    ·exact ok1
    ·exact ok2
    ·exact Y0 M.next t9.next
    ·omega
  ·rw[if_neg ho] at hR;have e5:decide (((128*(hd.toNat / 128):Nat):Int)=0)=true:=by simp;omega
   refine VW (Z19 n0 q0 q1 q4 q6 q7 q74 q75 @Qx @Hx @ix @HY @hh9 @s9 @l90 @l91 @a2 e5 @w2) ?_;refine L3 _ h9 p it nm h9.next tx [] (.slice none 0 0) ?_ ?_ ?_ ?_ ?_ ?_ ?_ ?_ ?_ M9 b49 bs9 hp hit ?_ (by decide) hR b79 (Kol.nil _ _ _)
   ·simp +decide only[Gs,n0]
   ·simp +decide only[Gs,d0]
   ·simp +decide only[Gs,n0,q0]
   ·simp +decide only[Gs,n0,q1]
   ·simp +decide only[Gs,n0,q4]
   ·simp +decide only[Gs,n0,q6]
   ·simp +decide only[Gs,n0,q7]
   ·simp +decide only[Gs,n0,q74]
   ·simp +decide only[Gs,n0]
   ·exact Y0 M.next t9.next
 have L1:∀ (A0:Ac) (h:H) (p it nm:Nat),A0.n=99->A0.defers=[]->A0.get 0=.pointer (some (own k))->A0.get 1=.int .i64 (250-fu:Nat)->A0.get 4=.pointer (some (own g.next))->A0.get 6=.int .u8 (hd.toNat:Nat)->A0.get 7=.pointer (some (own k7))->A0.get 74=.agg ⟨partsL⟩->A0.get 75=.int .i64 1->Mod (fun j=>j=k\/g.next<=j) g h->h.blk g.next=some (.cells zeroL 24 none)->Src k bs p 0 it h->p<=bs.length->it<=5000->R=(match (if hd.toNat / 64 % 2=1 then Du bs p it else .ok ⟨⟨[]⟩⟩ p it) with
     | .bad p e=>.bad p e
     | .ok tx p items=>match (if 128<=hd.toNat then CK bs (rdItem bs fu) p items else .ok [] p items) with
      | .bad p e=>.bad p e
      | .ok ks p items=>.ok (.mk (hd.toNat % 64:Nat) (nm:Nat) tx ks) p items)->h.blk k7=some (.cells [.int .i64 (hd.toNat % 64:Nat),.int .i64 (nm:Nat),.string ⟨#[]⟩,.slice none 0 0] 24 none)->
   Wc tab E I ⟨71,none⟩ (.loop Hb) A0 h (fun ex A' h'=>A'.n=99/\A'.defers=[]/\A'.get 4=.pointer (some (own g.next))/\Mod (fun j=>j=k\/g.next<=j) g h'/\h'.blk g.next=some (.cells zeroL 24 none)/\((ex=.exit 0/\A'.get 7=.pointer (some (own k7))/\∃ (nm:Nat) (tx:ByteArray) (ks:List Hs.Item) (sl:Value) (p it base:Nat),g.next<=base/\ks.length<1000000000/\R=.ok (.mk (hd.toNat % 64:Nat) (nm:Nat) tx ks) p it/\Src k bs p 0 it h'/\h'.blk k7=some (.cells [.int .i64 (hd.toNat % 64:Nat),.int .i64 (nm:Nat),.string tx,sl] 24 none)/\Kol E 24 base h'.next h' sl ks)\/(ex=.ret/\A'.get 5=.bool false/\∃ p e it,R=.bad p e/\Src k bs p e it h'))):=by
  intro A0 h p it nm n0 d0 q0 q1 q4 q6 q7 q74 q75 M b4 b hp hit hR b7;have fh:=M.fit;obtain⟨hn,h9,hh9,s9,t9,b9⟩:=mk9 h (.int .u8 64) (fnV 127) rfl rfl fh;have ix:=Vx;have l90:=BJ (E:=E) b9;have l91:=Aq (E:=E) b9 1;have a2:=AEd hd.toNat hc8;have w2:IntKind.i64.wrap (1+1)=2:=by rw[wrap64 (by omega) (by omega)];rfl
  have M9:=M.ahd t9;have b49:=t9.grows _ _ b4;have b79:=t9.grows _ _ b7;have bs9:=b.mod (t9.mod (M:=fun _=>False)) (fun h=>h);apply Wc.loop;simp only[Hb,loopOf,firstLoop,Option.getD,Tryz.f71];by_cases ho:hd.toNat / 64 % 2=1
  ·rw[if_pos ho] at hR;have e5:decide (((64*(hd.toNat / 64 % 2):Nat):Int)=0)=false:=by rw[ho];decide
   obtain⟨nf,v,hz,cp,mz,hq⟩:=Zc (E:=E) (I:=I) hI119 t9.fit bs9 b79 (by omega) hp hl (.int .i64 (250-fu:Nat));have Mz:=M9.trans (mz.sub (N:=fun j=>j=k\/g.next<=j) fun j hj=>hj.imp id (fun e=>by omega));have b4z:=mz.blk _ _ (by omega) b49;generalize hr:Du bs p it=r at hq hR;cases r with
   | bad p' e=>
    obtain⟨rfl,it',bz⟩:=hq;have s4:=st4 b4z;have m5:=(Mod.refl (M:=fun j=>j=g.next) Mz.fit).aa (B:=.cells zeroL 24 none) rfl rfl (Mz.fit.lt b4z);refine VN nf (Z21 n0 q0 q1 q4 q6 q7 q74 q75 @Qx @Hx @ix @HY @hh9 @s9 @l90 @l91 @a2 e5 @cp @Eh @s4) ?_;exact⟨by simp +decide only[Gs,n0],by simp +decide only[Gs,d0],by simp +decide only[Gs,n0,q4],Mz.trans (m5.sub fun j hj=>.inr (by omega)),AD rfl,.inr ⟨rfl,by simp +decide only[Gs,n0],_,_,_,hR,bz.mod m5 (by omega)⟩⟩
   | ok tx p' it'=>
    obtain⟨rfl,bz,b7z⟩:=hq;obtain⟨_,ok1,_,_,ok2⟩:=IW hr;refine VN nf (Z20 n0 q0 q1 q4 q6 q7 q74 q75 @Qx @Hx @ix @HY @hh9 @s9 @l90 @l91 @a2 e5 @cp @w2) ?_;refine L2 _ hz p' it' nm tx ?_ ?_ ?_ ?_ ?_ ?_ ?_ ?_ ?_ Mz b4z bz ok1 (by omega) hR b7z
    ·simp +decide only[Gs,n0]
    ·simp +decide only[Gs,d0]
    ·simp +decide only[Gs,n0,q0]
    ·simp +decide only[Gs,n0,q1]
    ·simp +decide only[Gs,n0,q4]
    ·simp +decide only[Gs,n0,q6]
    ·simp +decide only[Gs,n0,q7]
    ·simp +decide only[Gs,n0,q74]
    ·simp +decide only[Gs,n0]
  ·rw[if_neg ho] at hR;have e5:decide (((64*(hd.toNat / 64 % 2):Nat):Int)=0)=true:=by
    rw[show hd.toNat / 64 % 2=0 by omega];decide
   refine VW (Z19 n0 q0 q1 q4 q6 q7 q74 q75 @Qx @Hx @ix @HY @hh9 @s9 @l90 @l91 @a2 e5 @w2) ?_;refine L2 _ h9 p it nm ⟨⟨[]⟩⟩ ?_ ?_ ?_ ?_ ?_ ?_ ?_ ?_ ?_ M9 b49 bs9 hp hit hR b79
   ·simp +decide only[Gs,n0]
   ·simp +decide only[Gs,d0]
   ·simp +decide only[Gs,n0,q0]
   ·simp +decide only[Gs,n0,q1]
   ·simp +decide only[Gs,n0,q4]
   ·simp +decide only[Gs,n0,q6]
   ·simp +decide only[Gs,n0,q7]
   ·simp +decide only[Gs,n0,q74]
   ·simp +decide only[Gs,n0]
 have L0:∀ (A0:Ac) (h:H) (p it:Nat),A0.n=99->A0.defers=[]->A0.get 0=.pointer (some (own k))->A0.get 1=.int .i64 (250-fu:Nat)->A0.get 4=.pointer (some (own g.next))->A0.get 6=.int .u8 (hd.toNat:Nat)->A0.get 7=.pointer (some (own k7))->A0.get 74=.agg ⟨partsL⟩->A0.get 75=.int .i64 0->Mod (fun j=>j=k\/g.next<=j) g h->h.blk g.next=some (.cells zeroL 24 none)->Src k bs p 0 it h->p<=bs.length->it<=5000->R=(match rdN bs 0 1099511627776 p it with
    | .bad p e=>.bad p e
    | .ok n p items=>match (if hd.toNat / 64 % 2=1 then Du bs p items else .ok ⟨⟨[]⟩⟩ p items) with
     | .bad p e=>.bad p e
     | .ok tx p items=>match (if 128<=hd.toNat then CK bs (rdItem bs fu) p items else .ok [] p items) with
      | .bad p e=>.bad p e
      | .ok ks p items=>.ok (.mk (hd.toNat % 64:Nat) (n:Nat) tx ks) p items)->h.blk k7=some (.cells [.int .i64 (hd.toNat % 64:Nat),.int .i64 0,.string ⟨#[]⟩,.slice none 0 0] 24 none)->
   Wc tab E I ⟨71,none⟩ (.loop Hb) A0 h (fun ex A' h'=>A'.n=99/\A'.defers=[]/\A'.get 4=.pointer (some (own g.next))/\Mod (fun j=>j=k\/g.next<=j) g h'/\h'.blk g.next=some (.cells zeroL 24 none)/\((ex=.exit 0/\A'.get 7=.pointer (some (own k7))/\∃ (nm:Nat) (tx:ByteArray) (ks:List Hs.Item) (sl:Value) (p it base:Nat),g.next<=base/\ks.length<1000000000/\R=.ok (.mk (hd.toNat % 64:Nat) (nm:Nat) tx ks) p it/\Src k bs p 0 it h'/\h'.blk k7=some (.cells [.int .i64 (hd.toNat % 64:Nat),.int .i64 (nm:Nat),.string tx,sl] 24 none)/\Kol E 24 base h'.next h' sl ks)\/(ex=.ret/\A'.get 5=.bool false/\∃ p e it,R=.bad p e/\Src k bs p e it h'))):=by
  intro A0 h p it n0 d0 q0 q1 q4 q6 q7 q74 q75 M b4 b hp hit hR b7;have fh:=M.fit;obtain⟨hn,h9,hh9,s9,t9,b9⟩:=mk9 h (.int .u8 0) (fnV 125) rfl rfl fh;have ix:=Vy;have l90:=BJ (E:=E) b9;have l91:=Aq (E:=E) b9 1;have w2:IntKind.i64.wrap (0+1)=1:=by rw[wrap64 (by omega) (by omega)];rfl
  have M9:=M.ahd t9;have b49:=t9.grows _ _ b4;have b79:=t9.grows _ _ b7;have bs9:=b.mod (t9.mod (M:=fun _=>False)) (fun h=>h);apply Wc.loop;simp only[Hb,loopOf,firstLoop,Option.getD,Tryz.f71];obtain⟨nf,v,hz,cp,mz,hq⟩:=Zd (E:=E) (I:=I) hI117 t9.fit bs9 b79 (by omega) hp hl (.int .i64 (250-fu:Nat));have Mz:=M9.trans (mz.sub (N:=fun j=>j=k\/g.next<=j) fun j hj=>hj.imp id (fun e=>by omega));have b4z:=mz.blk _ _ (by omega) b49;generalize hr:rdN bs 0 1099511627776 p it=r at hq hR;cases r with
  | bad p' e=>
   obtain⟨rfl,it',bz⟩:=hq;have s4:=st4 b4z;have m5:=(Mod.refl (M:=fun j=>j=g.next) Mz.fit).aa (B:=.cells zeroL 24 none) rfl rfl (Mz.fit.lt b4z);refine VN nf (Z19 n0 q0 q1 q4 q6 q7 q74 q75 @Qx @Hx @ix @HY @hh9 @s9 @l90 @l91 @cp @Eh @s4) ?_;exact⟨by simp +decide only[Gs,n0],by simp +decide only[Gs,d0],by simp +decide only[Gs,n0,q4],Mz.trans (m5.sub fun j hj=>.inr (by omega)),AD rfl,.inr ⟨rfl,by simp +decide only[Gs,n0],_,_,_,hR,bz.mod m5 (by omega)⟩⟩
  | ok nm p' it'=>
   obtain⟨rfl,bz,b7z⟩:=hq;obtain⟨_,ok1,_,_,ok2⟩:=GQ hr;refine VN nf (Z18 n0 q0 q1 q4 q6 q7 q74 q75 @Qx @Hx @ix @HY @hh9 @s9 @l90 @l91 @cp @w2) ?_;refine L1 _ hz p' it' nm ?_ ?_ ?_ ?_ ?_ ?_ ?_ ?_ ?_ Mz b4z bz ok1 (by omega) hR b7z
   ·simp +decide only[Gs,n0]
   ·simp +decide only[Gs,d0]
   ·simp +decide only[Gs,n0,q0]
   ·simp +decide only[Gs,n0,q1]
   ·simp +decide only[Gs,n0,q4]
   ·simp +decide only[Gs,n0,q6]
   ·simp +decide only[Gs,n0,q7]
   ·simp +decide only[Gs,n0,q74]
   ·simp +decide only[Gs,n0]
 refine (L0 _ h6 (pos+1) (items+1) n0 d0 q0 q1 q4 q6 q7 q74 q75 M6 b46 b6 (by omega) (by omega) eR b76).mono ?_;rintro ex A0 h ⟨n0,d0,q4,M,b4,⟨rfl,q7,nm,tx,ks,sl,p,it,base,hbs,hks,hR,bz,b7,K⟩|⟨rfl,q5,p,e,it,hR,bz⟩⟩
 ·simp only[if_true];obtain⟨sb,hsl⟩:=K.slice;have hone:[Value.int .i64 (hd.toNat % 64:Nat),.int .i64 (nm:Nat),.string tx,sl].all isOne=true:=by rw[hsl];rfl
  have l7:h.cells E (own k7) 4=some [.int .i64 (hd.toNat % 64:Nat),.int .i64 (nm:Nat),.string tx,sl]:=AG b7 rfl hone;have s4:AO tab 24 (own g.next) (.agg ⟨[.int .i64 (hd.toNat % 64:Nat),.int .i64 (nm:Nat),.string tx,sl]⟩) h=some (h.aa g.next (.cells [.int .i64 (hd.toNat % 64:Nat),.int .i64 (nm:Nat),.string tx,sl] 24 none)):=AU DW b4 rfl rfl hone (by simp);have m5:=(Mod.refl (M:=fun j=>j=g.next) M.fit).aa (B:=.cells [.int .i64 (hd.toNat % 64:Nat),.int .i64 (nm:Nat),.string tx,sl] 24 none) rfl rfl (M.fit.lt b4);have lz:(h.aa g.next (.cells [.int .i64 (hd.toNat % 64:Nat),.int .i64 (nm:Nat),.string tx,sl] 24 none)).cells E (own g.next) 4=some [.int .i64 (hd.toNat % 64:Nat),.int .i64 (nm:Nat),.string tx,sl]:=AG (AD rfl) rfl hone
  have K5:=K.mod M.fit m5 (fun j B hj hB=>by
   subst hj;rw[b4] at hB;cases hB;rfl)
  have bz5:=bz.mod m5 (by omega);have M5:=M.trans (m5.sub (N:=fun j=>j=k\/g.next<=j) fun j hj=>.inr (by omega));generalize h.aa g.next (.cells [.int .i64 (hd.toNat % 64:Nat),.int .i64 (nm:Nat),.string tx,sl] 24 none)=h9 at s4 m5 lz K5 bz5 M5;refine Vw (Z7 n0 q4 q7 @Qx @Hx @l7 @s4) ?_;refine⟨.inr rfl,h9,.tuple #[.agg ⟨[.int .i64 (hd.toNat % 64:Nat),.int .i64 (nm:Nat),.string tx,sl]⟩,.bool true],by simp +decide only[Gs,d0];rfl,?_,_,_,rfl,low M5,?_⟩
  ·have g4:∀ A:Ac,A.get 4=.pointer (some (own g.next))->A.get 5=.bool true->ED tab E Tryz.f71 A h9=some (.tuple #[.agg ⟨[.int .i64 (hd.toNat % 64:Nat),.int .i64 (nm:Nat),.string tx,sl]⟩,.bool true]):=by
    intro A a4 a5;unfold ED;rw[show Tryz.f71.results=#[.cell 4 24,.tmp 5] from rfl];simp only[Dl,ares1,a4,a5,qld25,lz]
   exact g4 _ (S0 (Z2 n0 q4)) (S0 n0)
  ·rw[hR];exact⟨rfl,bz5,K5.rep M5.fit hks _ _ _ hbs⟩
 ·exact fin d0 q4 q5 M b4 bz hR
end Go.Proofs.YtofijpbmbmbnhaaGreatDoor
