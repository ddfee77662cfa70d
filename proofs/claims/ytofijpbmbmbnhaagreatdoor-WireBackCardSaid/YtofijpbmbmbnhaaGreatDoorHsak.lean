/- The digest: the two sums of a round. -/
import Derived.Test.YtofijpbmbmbnhaaGreatDoorHsaj
set_option linter.unusedSimpArgs false
set_option linter.unusedVariables false
set_option maxRecDepth 100000
set_option maxHeartbeats 16000000
namespace Go.Proofs.YtofijpbmbmbnhaaGreatDoor
open Go Go.Hs Go.Proofs
variable {E:Env} {I:Aa}
theorem AD5:tab.fn.get 136=some Tryz.f136:=by kernel_rfl
theorem AD3:tab.fn.get 138=some Tryz.f138:=by kernel_rfl
def ADr (a b c:Nat) (lost:Bool):Value:=.agg ⟨[.int .i64 (a:Nat),.int .i64 (b:Nat),.int .i64 (c:Nat),.bool lost]⟩
def Trn (n:Nat):Prop:=1<=n/\n<=31
def KW:Lb:=fun s f args _ v=>f=137/\s=0/\∃ (a b c:Nat) (lost:Bool) (x:BitVec 32),(Trn a/\Trn b/\Trn c)/\args=[ADr a b c lost,.int .u32 (x.toNat:Nat)]/\v=.int .u32 ((mixW a b c lost x).toNat:Nat)
theorem YW:One KW:=by
 rintro s s' f args h v v' ⟨_,_,a,b,c,lost,x,_,rfl,rfl⟩ ⟨_,_,a',b',c',lost',x',_,he,rfl⟩;simp only[ADr,List.cons.injEq,Value.agg.injEq,Array.mk.injEq,Value.int.injEq,Value.bool.injEq,true_and,and_true,Int.natCast_inj] at he;obtain⟨⟨rfl,rfl,rfl,rfl⟩,hx⟩:=he;rw[U4 hx]
theorem Vh (hI:∀ f args h,(f=137\/f=145\/f=146)->I f args h=none):FR tab E I KW:=by
 have hJ:Fm KW I 0=I:=by funext f args h;exact Bw (fun _ _ hs=>absurd hs (I6 _))
 rintro sz f args h v ⟨rfl,rfl,a,b,c,lost,x,⟨⟨a1,a2⟩,⟨b1,b2⟩,⟨c1,c2⟩⟩,rfl,rfl⟩ hfit;refine⟨rfl,?_⟩;rw[hJ];obtain⟨n,v,h',c1,rfl,t⟩:=WP (E:=E) (I:=I) hI hfit a b c lost x a1 a2 b1 b2 c1 c2;exact⟨n,_,c1,(t.mod (M:=fun _=>False)).quiet⟩
def Rq (I:Aa):Prop:=∀ (a b c:Nat) (lost:Bool) (x:BitVec 32) h,Trn a->Trn b->Trn c->I 137 [ADr a b c lost,.int .u32 (x.toNat:Nat)] h=some (some (.int .u32 ((mixW a b c lost x).toNat:Nat),h))
theorem PA (a b c:Int) (l:Bool):BX tab 194 [(0,.int .i64 a),(1,.int .i64 b),(2,.int .i64 c),(3,.bool l)]=some (.agg ⟨[.int .i64 a,.int .i64 b,.int .i64 c,.bool l]⟩):=by
 unfold BX;simp only[GE];rfl
theorem PB (a b c:BitVec 32) {h:H}:AH tab 183 3 [(0,.int .u32 (a.toNat:Nat)),(1,.int .u32 (b.toNat:Nat)),(2,.int .u32 (c.toNat:Nat))] h=some (.slice (some (own h.next)) 3 3,h.new (.cells (AE [a,b,c]) 104 none)):=by
 unfold AH;simp only[ID,Rt];rfl
theorem KM (a b:BitVec 32) {h:H}:AH tab 183 2 [(0,.int .u32 (a.toNat:Nat)),(1,.int .u32 (b.toNat:Nat))] h=some (.slice (some (own h.next)) 2 2,h.new (.cells (AE [a,b]) 104 none)):=by
 unfold AH;simp only[ID,Rt];rfl
theorem ABG (hI:∀ f args h,(f=136\/f=124)->I f args h=none) (k137:Rq I) {h:H} (f:Fit h) (x0 x1 x2 x3 x4 x5 x6 x7:BitVec 32) :
  ∃ nf v h',(ev tab E I nf).call 136 [.agg ⟨AE [x0,x1,x2,x3,x4,x5,x6,x7]⟩] h=some (v,h')/\(v=.int .u32 ((rndA x4 x5 x6 x7).toNat:Nat)/\Ahd h h'):=by
 apply Wk (hI _ _ _ (.inl rfl)) AD5 rfl;intro A0 n0 d0 hA0;change A0.n=23 at n0;have q0:A0.get 0=.agg ⟨AE [x0,x1,x2,x3,x4,x5,x6,x7]⟩:=hA0 0 _ rfl;clear hA0;generalize hh1:h.new (.cells (Value.agg ⟨AE [x0,x1,x2,x3,x4,x5,x6,x7]⟩).cells.toList 105 none)=h1;have t1:Ahd h h1:=by rw[<- hh1];exact Ahd.aj f rfl
 have b1:h1.blk h.next=some (.cells (AE [x0,x1,x2,x3,x4,x5,x6,x7]) 105 none):=by rw[<- hh1];exact AA rfl
 have c4:h1.cell E (aadd (own h.next) 4)=some (.int .u32 (x4.toNat:Nat)):=Aq b1 4;have c5:h1.cell E (aadd (own h.next) 5)=some (.int .u32 (x5.toNat:Nat)):=Aq b1 5;have c6:h1.cell E (aadd (own h.next) 6)=some (.int .u32 (x6.toNat:Nat)):=Aq b1 6;have c7:h1.cell E (aadd (own h.next) 7)=some (.int .u32 (x7.toNat:Nat)):=Aq b1 7;have i4:AL tab 105 (.pointer (some (own h.next))) (.int .i64 4)=some (.pointer (some (aadd (own h.next) 4))):=Eo _ 4 rfl;have i5:AL tab 105 (.pointer (some (own h.next))) (.int .i64 5)=some (.pointer (some (aadd (own h.next) 5))):=Eo _ 5 rfl;have i6:AL tab 105 (.pointer (some (own h.next))) (.int .i64 6)=some (.pointer (some (aadd (own h.next) 6))):=Eo _ 6 rfl;have i7:AL tab 105 (.pointer (some (own h.next))) (.int .i64 7)=some (.pointer (some (aadd (own h.next) 7))):=Eo _ 7 rfl;have bu:=PA 6 11 25 false;have km:∀ n,(ev tab E I (n+1)).call 137 [.agg ⟨[.int .i64 6,.int .i64 11,.int .i64 25,.bool false]⟩,.int .u32 (x4.toNat:Nat)] (fresh h1)=some (.int .u32 ((mixW 6 11 25 false x4).toNat:Nat),fresh h1):=fun n=>Dg (k137 6 11 25 false x4 (fresh h1) ⟨by decide,by decide⟩ ⟨by decide,by decide⟩ ⟨by decide,by decide⟩);have a1:=Up x4 x5;have a2:=Up (~~~x4) x6;have n1:=ADp x4;have o1:=Nb (x4 &&& x5) (~~~x4 &&& x6);have bs:=PB x7 (mixW 6 11 25 false x4) ((x4 &&& x5) ^^^ (~~~x4 &&& x6)) (h:=fresh h1);have t2:Ahd h1 (h1.new (.cells (AE [x7,mixW 6 11 25 false x4,(x4 &&& x5) ^^^ (~~~x4 &&& x6)]) 104 none)):=Ahd.aj t1.fit rfl;obtain⟨ns,_,_,cs,rfl,rfl⟩:=Fj (E:=E) (I:=I) (fun args h=>hI _ args h (.inr rfl)) (h:=fresh (h1.new (.cells (AE [x7,mixW 6 11 25 false x4,(x4 &&& x5) ^^^ (~~~x4 &&& x6)]) 104 none))) [x7,mixW 6 11 25 false x4,(x4 &&& x5) ^^^ (~~~x4 &&& x6)] (by simp) (k:=h1.next) (c:=3) (r:=none) (AA (h:=h1) rfl);have km:=km ns;have cs:(ev tab E I (ns+1)).call 124 [.slice (some (own h1.next)) 3 3] (fresh (h1.new (.cells (AE [x7,mixW 6 11 25 false x4,(x4 &&& x5) ^^^ (~~~x4 &&& x6)]) 104 none)))=some (.int .u32 ((rndA x4 x5 x6 x7).toNat:Nat),_):=(AX (D:=tab) (E:=E) I (U1 ns)).call cs;refine Vo 1 (Z3 n0 q0 @hh1) ?_
 repeat' (with_reducible apply Wc.seq)
 refine Wc.al (ns+1) (by kernel_rfl) ?_
 (iterate 21 refine Uj (Z20 n0 @Zx @Hx @i4 @i5 @i6 @i7 @c4 @c5 @c6 @c7 @bu @km @a1 @a2 @ADc @n1 @o1 @bs @cs) ?_)
 refine FC.nil ?_;refine Vw n0 ?_;exact AW (v:=.int .u32 ((rndA x4 x5 x6 x7).toNat:Nat)) (.inr rfl) (S0 d0) rfl (S0 n0) ⟨rfl,t1.trans t2⟩
theorem ABF (hI:∀ f args h,(f=138\/f=124)->I f args h=none) (k137:Rq I) {h:H} (f:Fit h) (x0 x1 x2 x3 x4 x5 x6 x7:BitVec 32) :
  ∃ nf v h',(ev tab E I nf).call 138 [.agg ⟨AE [x0,x1,x2,x3,x4,x5,x6,x7]⟩] h=some (v,h')/\(v=.int .u32 ((rndB x0 x1 x2).toNat:Nat)/\Ahd h h'):=by
 apply Wk (hI _ _ _ (.inl rfl)) AD3 rfl;intro A0 n0 d0 hA0;change A0.n=26 at n0;have q0:A0.get 0=.agg ⟨AE [x0,x1,x2,x3,x4,x5,x6,x7]⟩:=hA0 0 _ rfl;clear hA0;generalize hh1:h.new (.cells (Value.agg ⟨AE [x0,x1,x2,x3,x4,x5,x6,x7]⟩).cells.toList 105 none)=h1;have t1:Ahd h h1:=by rw[<- hh1];exact Ahd.aj f rfl
 have b1:h1.blk h.next=some (.cells (AE [x0,x1,x2,x3,x4,x5,x6,x7]) 105 none):=by rw[<- hh1];exact AA rfl
 have c0:h1.cell E (own h.next)=some (.int .u32 (x0.toNat:Nat)):=BJ b1;have c1:h1.cell E (aadd (own h.next) 1)=some (.int .u32 (x1.toNat:Nat)):=Aq b1 1;have c2:h1.cell E (aadd (own h.next) 2)=some (.int .u32 (x2.toNat:Nat)):=Aq b1 2;have i0:AL tab 105 (.pointer (some (own h.next))) (.int .i64 0)=some (.pointer (some (aadd (own h.next) 0))):=Eo _ 0 rfl;have i1:AL tab 105 (.pointer (some (own h.next))) (.int .i64 1)=some (.pointer (some (aadd (own h.next) 1))):=Eo _ 1 rfl;have i2:AL tab 105 (.pointer (some (own h.next))) (.int .i64 2)=some (.pointer (some (aadd (own h.next) 2))):=Eo _ 2 rfl;have bu:=PA 2 13 22 false;have km:∀ n,(ev tab E I (n+1)).call 137 [.agg ⟨[.int .i64 2,.int .i64 13,.int .i64 22,.bool false]⟩,.int .u32 (x0.toNat:Nat)] (fresh h1)=some (.int .u32 ((mixW 2 13 22 false x0).toNat:Nat),fresh h1):=fun n=>Dg (k137 2 13 22 false x0 (fresh h1) ⟨by decide,by decide⟩ ⟨by decide,by decide⟩ ⟨by decide,by decide⟩);have a1:=Up x0 x1;have a2:=Up x0 x2;have a3:=Up x1 x2;have o1:=Nb (x0 &&& x1) (x0 &&& x2);have o2:=Nb ((x0 &&& x1) ^^^ (x0 &&& x2)) (x1 &&& x2);have bs:=KM (mixW 2 13 22 false x0) ((x0 &&& x1) ^^^ (x0 &&& x2) ^^^ (x1 &&& x2)) (h:=fresh h1);have t2:Ahd h1 (h1.new (.cells (AE [mixW 2 13 22 false x0,(x0 &&& x1) ^^^ (x0 &&& x2) ^^^ (x1 &&& x2)]) 104 none)):=Ahd.aj t1.fit rfl;obtain⟨ns,_,_,cs,rfl,rfl⟩:=Fj (E:=E) (I:=I) (fun args h=>hI _ args h (.inr rfl)) (h:=fresh (h1.new (.cells (AE [mixW 2 13 22 false x0,(x0 &&& x1) ^^^ (x0 &&& x2) ^^^ (x1 &&& x2)]) 104 none))) [mixW 2 13 22 false x0,(x0 &&& x1) ^^^ (x0 &&& x2) ^^^ (x1 &&& x2)] (by simp) (k:=h1.next) (c:=2) (r:=none) (AA (h:=h1) rfl);have km:=km ns;have cs:(ev tab E I (ns+1)).call 124 [.slice (some (own h1.next)) 2 2] (fresh (h1.new (.cells (AE [mixW 2 13 22 false x0,(x0 &&& x1) ^^^ (x0 &&& x2) ^^^ (x1 &&& x2)]) 104 none)))=some (.int .u32 ((rndB x0 x1 x2).toNat:Nat),_):=(AX (D:=tab) (E:=E) I (U1 ns)).call cs;refine Vo 1 (Z3 n0 q0 @hh1) ?_
 repeat' (with_reducible apply Wc.seq)
 refine Wc.al (ns+1) (by kernel_rfl) ?_
 (iterate 24 refine Uj (Z18 n0 @Zx @Hx @i0 @i1 @i2 @c0 @c1 @c2 @bu @km @a1 @a2 @a3 @o1 @o2 @bs @cs) ?_)
 refine FC.nil ?_;refine Vw n0 ?_;exact AW (v:=.int .u32 ((rndB x0 x1 x2).toNat:Nat)) (.inr rfl) (S0 d0) rfl (S0 n0) ⟨rfl,t1.trans t2⟩
def KX:Lb:=fun s f args _ v=>(f=136/\s=0/\∃ x0 x1 x2 x3 x4 x5 x6 x7:BitVec 32,args=[.agg ⟨AE [x0,x1,x2,x3,x4,x5,x6,x7]⟩]/\v=.int .u32 ((rndA x4 x5 x6 x7).toNat:Nat))\/(f=138/\s=0/\∃ x0 x1 x2 x3 x4 x5 x6 x7:BitVec 32,args=[.agg ⟨AE [x0,x1,x2,x3,x4,x5,x6,x7]⟩]/\v=.int .u32 ((rndB x0 x1 x2).toNat:Nat))
theorem Jh {x0 x1 x2 x3 x4 x5 x6 x7 y0 y1 y2 y3 y4 y5 y6 y7:BitVec 32} (h:([.agg ⟨AE [x0,x1,x2,x3,x4,x5,x6,x7]⟩]:List Value)=[.agg ⟨AE [y0,y1,y2,y3,y4,y5,y6,y7]⟩]):x0=y0/\x1=y1/\x2=y2/\x3=y3/\x4=y4/\x5=y5/\x6=y6/\x7=y7:=by
 simp only[AE,I3,List.map_nil,List.cons.injEq,Value.agg.injEq,Array.mk.injEq,Value.int.injEq,true_and,and_true,Int.natCast_inj] at h;obtain⟨h0,h1,h2,h3,h4,h5,h6,h7⟩:=h;exact⟨U4 h0,U4 h1,U4 h2,U4 h3,U4 h4,U4 h5,U4 h6,U4 h7⟩
theorem YX:One KX:=by
 rintro s s' f args h v v' (⟨rfl,_,x0,x1,x2,x3,x4,x5,x6,x7,rfl,rfl⟩|⟨rfl,_,x0,x1,x2,x3,x4,x5,x6,x7,rfl,rfl⟩) (⟨e,_,y0,y1,y2,y3,y4,y5,y6,y7,he,rfl⟩|⟨e,_,y0,y1,y2,y3,y4,y5,y6,y7,he,rfl⟩)
 ·obtain⟨rfl,rfl,rfl,rfl,rfl,rfl,rfl,rfl⟩:=Jh he;rfl
 ·cases e
 ·cases e
 ·obtain⟨rfl,rfl,rfl,rfl,rfl,rfl,rfl,rfl⟩:=Jh he;rfl
theorem Vi (hI:∀ f args h,(f=136\/f=138\/f=124)->I f args h=none) (k137:Rq I):FR tab E I KX:=by
 have hJ:Fm KX I 0=I:=by funext f args h;exact Bw (fun _ _ hs=>absurd hs (I6 _))
 rintro sz f args h v (⟨rfl,rfl,x0,x1,x2,x3,x4,x5,x6,x7,rfl,rfl⟩|⟨rfl,rfl,x0,x1,x2,x3,x4,x5,x6,x7,rfl,rfl⟩) hfit
 ·refine⟨rfl,?_⟩;rw[hJ];obtain⟨n,v,h',c1,rfl,t⟩:=ABG (E:=E) (I:=I) (fun f args h hf=>hI f args h (by rcases hf with h|h<;>simp[h])) k137 hfit x0 x1 x2 x3 x4 x5 x6 x7;exact⟨n,_,c1,(t.mod (M:=fun _=>False)).quiet⟩
 ·refine⟨rfl,?_⟩;rw[hJ];obtain⟨n,v,h',c1,rfl,t⟩:=ABF (E:=E) (I:=I) (fun f args h hf=>hI f args h (by rcases hf with h|h<;>simp[h])) k137 hfit x0 x1 x2 x3 x4 x5 x6 x7;exact⟨n,_,c1,(t.mod (M:=fun _=>False)).quiet⟩
structure Yp (I:Aa):Prop where
 a:∀ (x0 x1 x2 x3 x4 x5 x6 x7:BitVec 32) h,I 136 [.agg ⟨AE [x0,x1,x2,x3,x4,x5,x6,x7]⟩] h=some (some (.int .u32 ((rndA x4 x5 x6 x7).toNat:Nat),h))
 b:∀ (x0 x1 x2 x3 x4 x5 x6 x7:BitVec 32) h,I 138 [.agg ⟨AE [x0,x1,x2,x3,x4,x5,x6,x7]⟩] h=some (some (.int .u32 ((rndB x0 x1 x2).toNat:Nat),h))
theorem AED:tab.fn.get 123=some Tryz.f123:=by kernel_rfl
noncomputable def Kv:Code:=loopAt Tryz.f123 0
noncomputable def Ku:Code:=loopAt Tryz.f123 1
noncomputable def Kt:Code:=loopAt Tryz.f123 2
theorem ACs {h:H} {v:Value} {bs:List UInt8} (b:Byt E h v bs) {p n:Nat} (h1:1<=n) (h2:p+n<=bs.length):∃ sv,(∀ h':H,Av tab 44 v (some (.int .i64 (p:Nat))) (some (.int .i64 (p+n:Nat))) none h'=some (sv,h'))/\Byt E h sv ((bs.drop p).take n):=by
 rcases b with⟨_,rfl⟩|⟨a,c,rfl,hc,hcs⟩
 ·simp at h2;omega
 have i1:AN ((p+n:Nat):Int) (c+1)=true:=by
  show Nat.blt (p+n) (c+1)=true;rw[P0];omega
 have i2:AN ((p:Nat):Int) (p+n+1)=true:=by
  show Nat.blt p (p+n+1)=true;rw[P0];omega
 have i3:Nat.beq c p=false:=by
  cases q:Nat.beq c p
  ·rfl
  ·have:=U0 q;omega
 have i4:Nat.ble bs.length c=true:=by rw[Z0];exact hc
 have hlen:((bs.drop p).take n).length=n:=by rw[C5,Y3];omega
 refine⟨.slice (some (aadd a p)) n (c-p),fun h' => ?_,.inr ⟨aadd a p,c-p,by rw[hlen],by omega,?_⟩⟩
 ·unfold Av;rw[GD];simp only[i4,asliceS,abound,i1,i2,i3,M0,V2,Nat.add_sub_cancel_left]
 ·have:=BD hcs (m:=p) (l:=n) (by omega);rw[hlen,this,Ff]
theorem ACt {h:H} {v:Value} {bs:List UInt8} (b:Byt E h v bs) {p:Nat} {c:UInt8} (hp:bs[p]? = some c):∃ a,AL tab 44 v (.int .i64 (p:Nat))=some (.pointer (some a))/\∀ h':H,BL h h'->h'.cell E a=some (.int .u8 (c.toNat:Nat)):=by
 have hlt:p<bs.length:=(O0.1 hp).1;rcases b with⟨_,rfl⟩|⟨a,c',rfl,hc,hcs⟩
 ·simp at hlt
 have hir:AN ((p:Nat):Int) bs.length=true:=by
  show Nat.blt p bs.length=true;rw[P0];exact hlt
 refine⟨aadd a p,?_,fun h' hg => ?_⟩
 ·rw[ACv _ _ _ _ hir,M0,V2]
 ·exact Qz (AV hg hcs) hlt (HQ hp)
theorem Ln {h:H} {v:Value} {bs:List UInt8} (b:Byt E h v bs) (h':H):Cp tab 44 v h'=some (.int .i64 (bs.length:Nat)):=by
 obtain⟨a,c,rfl⟩:=b.slice;exact Rv _ _ _
theorem VK (n:Int) {h:H}:AQ tab E 5 104 (.int .u8 n) h=some (.int .u32 (IntKind.u32.wrap n),h):=by unfold AQ;simp only[VJ,Jf]
def Arr (ty k:Nat) (W:List (BitVec 32)) (h:H):Prop:=h.blk k=some (.cells (AE W) ty none)
theorem Arr.at {ty k:Nat} {W:List (BitVec 32)} {h:H} (a:Arr ty k W h) {i:Nat} (hi:i<W.length):h.cell E (aadd (own k) i)=some (.int .u32 ((W.getD i 0).toNat:Nat)):=by
 rw[Aq a i,Gp hi];rfl
theorem Arr.set {ty k:Nat} {W:List (BitVec 32)} {h:H} (f:Fit h) (a:Arr ty k W h) {i:Nat} (hi:i<W.length) (w:BitVec 32):AO tab 104 (aadd (own k) i) (.int .u32 (w.toNat:Nat)) h=some (h.aa k (.cells (AE (W.set i w)) ty none))/\Arr ty k (W.set i w) (h.aa k (.cells (AE (W.set i w)) ty none))/\Mod (fun j=>j=k) h (h.aa k (.cells (AE (W.set i w)) ty none)):=by
 refine⟨Aj Jf rfl a rfl rfl (by rw[CW];exact hi) (SB hi w),AD rfl,(Mod.refl f).aa rfl rfl (f.lt a)⟩
theorem Zv {v:Value} {bs:List UInt8} (hbs:bs.length=64) {k2:Nat} {g:H} (hB:Byt E g v bs) (hlt:∀ j B,j=k2->g.blk j=some B->False) :
  ∀ (r i:Nat) (W:List (BitVec 32)) (A0:Ac) (h:H),r=16-i->i<=16->W.length=64->A0.n=66->A0.defers=[]->A0.get 0=v->A0.get 2=.pointer (some (own k2))->A0.get 9=.int .i64 (i:Nat)->Mod (fun j=>j=k2) g h->Arr 180 k2 W h->
   Wc tab E I ⟨123,none⟩ (.loop Kv) A0 h (fun ex A' h'=>ex=.exit 0/\A'.n=66/\A'.defers=[]/\A'.get 2=.pointer (some (own k2))/\Mod (fun j=>j=k2) g h'/\Arr 180 k2 (spr1 bs r i W) h'):=by
 have gr:∀ {h:H},Mod (fun j=>j=k2) g h->BL g h:=fun m j B hj=>m.blk j B (fun e=>hlt j B e hj) hj;intro r;induction r with
 | zero=>
  intro i W A0 h hr hi hW n0 d0 q0 q2 q9 M a;obtain rfl:i=16:=by omega
  have e1:decide (((16:Nat):Int)<16)=false:=by decide
  apply Wc.loop;simp only[Kv,loopAt,loops,Tryz.f123,W0,V0,X0,U2,Q2];refine Vw (Z3 n0 q9 e1) ?_;exact⟨rfl,by simp +decide only[Gs,n0],by simp +decide only[Gs,d0],by simp +decide only[Gs,n0,q2],M,a⟩
 | succ r ih=>
  intro i W A0 h hr hi hW n0 d0 q0 q2 q9 M a;have hi16:i<16:=by omega
  have e1:decide ((i:Int)<16)=true:=decide_eq_true (by omega);have w1:IntKind.i64.wrap (4*(i:Int))=((4*i:Nat):Int):=by rw[wrap64 (by omega) (by omega)];omega
  have w2:IntKind.i64.wrap (((4*i:Nat):Int)+4)=((4*i+4:Nat):Int):=by rw[wrap64 (by omega) (by omega)];omega
  have w3:IntKind.i64.wrap ((i:Int)+1)=((i+1:Nat):Int):=by rw[wrap64 (by omega) (by omega)];omega
  obtain⟨sv,hsl,hb4⟩:=ACs hB (p:=4*i) (n:=4) (by decide) (by omega);have hl4:((bs.drop (4*i)).take 4).length=4:=by rw[C5,Y3];omega
  have ln:=Ln hb4;rw[hl4] at ln;have hir:AN (i:Int) 64=true:=by
   show Nat.blt i 64=true;rw[P0];omega
  have ia:AL tab 180 (.pointer (some (own k2))) (.int .i64 (i:Nat))=some (.pointer (some (aadd (own k2) i))):=by
   rw[SA _ _ hir,M0,V2]
  generalize hcs:(bs.drop (4*i)).take 4=cs at hb4 hl4;have inner:∀ (rr j:Nat) (W:List (BitVec 32)) (w:BitVec 32) (A0:Ac) (h:H),rr=4-j->j<=4->W.length=64->W.getD i 0=w->A0.n=66->A0.defers=[]->A0.get 0=v->A0.get 2=.pointer (some (own k2))->A0.get 3=.int .i64 (i:Nat)->A0.get 9=.int .i64 (i:Nat)->A0.get 18=sv->A0.get 19=.int .i64 4->A0.get 20=.int .i64 (j:Nat)->Mod (fun j=>j=k2) g h->Arr 180 k2 W h->
    Wc tab E I ⟨123,none⟩ (.loop Ku) A0 h (fun ex A' h'=>ex=.exit 2/\A'.n=66/\A'.defers=[]/\A'.get 0=v/\A'.get 2=.pointer (some (own k2))/\A'.get 9=.int .i64 (i:Nat)/\Mod (fun j=>j=k2) g h'/\Arr 180 k2 (W.set i ((cs.drop j).foldl VH w)) h'):=by
   intro rr;induction rr with
   | zero=>
    intro j W w A0 h hr hj hW hw n0 d0 q0 q2 q3 q9 q18 q19 q20 M a;obtain rfl:j=4:=by omega
    have e1:decide (((4:Nat):Int)<4)=false:=by decide
    apply Wc.loop;simp only[Ku,loopAt,loops,Tryz.f123,W0,V0,X0,U2,Q2];refine Vw (Z4 n0 q19 q20 e1) ?_;refine⟨rfl,by simp +decide only[Gs,n0],by simp +decide only[Gs,d0],by simp +decide only[Gs,n0,q0],by simp +decide only[Gs,n0,q2],by simp +decide only[Gs,n0,q9],M,?_⟩;rw[<- hl4,T6,List.foldl_nil,<- hw];have:W.set i (W.getD i 0)=W:=by
     have hiW:i<W.length:=by omega
     simp[List.getD,hiW]
    rw[this];exact a
   | succ rr ih=>
    intro j W w A0 h hr hj hW hw n0 d0 q0 q2 q3 q9 q18 q19 q20 M a;have hj4:j<4:=by omega
    have e1:decide ((j:Int)<4)=true:=decide_eq_true (by omega);have w4:IntKind.i64.wrap ((j:Int)+1)=((j+1:Nat):Int):=by rw[wrap64 (by omega) (by omega)];omega
    obtain⟨c,hc⟩:∃ c,cs[j]? = some c:=⟨cs[j],Q0 (by omega)⟩;obtain⟨ca,ix,lc⟩:=ACt hb4 hc;have lc:=lc h (gr M);have ld:=a.at (E:=E) (i:=i) (by omega);rw[hw] at ld;have s1:DF .shl .u32 (w.toNat:Nat) 8=_:=ABC w 8;have o1:Bk .or .u32 ((w <<< 8).toNat:Nat) ((BitVec.ofNat 32 c.toNat).toNat:Nat)=some (.int .u32 ((VH w c).toNat:Nat)):=AE9 (w <<< 8) (BitVec.ofNat 32 c.toNat);have cw:=AB9 c;obtain⟨st,a2,m2⟩:=a.set M.fit (i:=i) (by omega) (VH w c);have hdr:cs.drop j=c::cs.drop (j+1):=by
     rw[H2 (by omega)];congr 1;exact Option.some.inj ((Q0 (by omega)).symm.trans hc)
    have hset:(W.set i (VH w c)).set i ((cs.drop (j+1)).foldl VH (VH w c))=W.set i ((cs.drop j).foldl VH w):=by
     rw[List.set_set,hdr,L6]
    apply Wc.loop;simp only[Ku,loopAt,loops,Tryz.f123,W0,V0,X0,U2,Q2]
    repeat' (first|(with_reducible apply Wc.seq)|refine Wc.block ?_)
    refine Vo 1 (Z4 n0 q19 q20 e1) ?_
    repeat' (first|(with_reducible apply Wc.seq)|refine Wc.block ?_)
    (refine W2 (by simp +decide only[Cx,n0,q19,q20,e1];try with_reducible rfl) (fun hb=>?_) (fun hb=>?_)<;>try contradiction)
    refine Wc.skip ?_
    repeat' (first|(with_reducible apply Wc.seq)|refine Wc.block ?_)
    refine Vo 1 (Z7 n0 q18 q20 @Zx @Hx @ix @lc) ?_;refine VU 1 (Z12 n0 q2 q3 @Zx @Hx @ia @ld @s1 @VK @cw @o1 @st) ?_;refine Vo 1 (Z3 n0 q20 @w4) ?_
    refine (ih (j+1) (W.set i (VH w c)) (VH w c) _ _ (by omega) (by omega) (by rw[J6];exact hW) (by
     have hiW:i<W.length:=by omega
     simp[List.getD,hiW]) ?_ ?_ ?_ ?_ ?_ ?_ ?_ ?_ ?_ (M.trans m2) a2).mono ?_
    ·simp +decide only[Gs,n0]
    ·simp +decide only[Gs,d0]
    ·simp +decide only[Gs,n0,q0]
    ·simp +decide only[Gs,n0,q2]
    ·simp +decide only[Gs,n0,q3]
    ·simp +decide only[Gs,n0,q9]
    ·simp +decide only[Gs,n0,q18]
    ·simp +decide only[Gs,n0,q19]
    ·simp +decide only[Gs,n0]
    rintro ex A' h' ⟨rfl,b1,b2,b3,b4,b5,b6,b7⟩;rw[hset] at b7;exact⟨rfl,b1,b2,b3,b4,b5,b6,b7⟩
  apply Wc.loop;simp only[Kv,loopAt,loops,Tryz.f123,W0,V0,X0,U2,Q2];refine Vw (Z8 n0 q0 q9 e1 @w1 @w2 @hsl @ln) ?_;refine (inner 4 0 W _ _ h rfl (by omega) hW rfl ?_ ?_ ?_ ?_ ?_ ?_ ?_ ?_ ?_ M a).mono ?_
  ·simp +decide only[Gs,n0]
  ·simp +decide only[Gs,d0]
  ·simp +decide only[Gs,n0,q0]
  ·simp +decide only[Gs,n0,q2]
  ·simp +decide only[Gs,n0]
  ·simp +decide only[Gs,n0,q9]
  ·simp +decide only[Gs,n0]
  ·simp +decide only[Gs,n0];rfl
  ·simp +decide only[Gs,n0];rfl
  clear n0 d0 q0 q2 q9;rintro ex A0 h' ⟨rfl,n0,d0,q0,q2,q9,M',a'⟩;simp only[if_true];refine Vw (Z3 n0 q9 @w3) ?_;refine (ih (i+1) _ _ h' (by omega) (by omega) (by rw[J6];exact hW) ?_ ?_ ?_ ?_ ?_ M' a').mono ?_
  ·simp +decide only[Gs,n0]
  ·simp +decide only[Gs,d0]
  ·simp +decide only[Gs,n0,q0]
  ·simp +decide only[Gs,n0,q2]
  ·simp +decide only[Gs,n0]
  rintro ex A' h2 ⟨rfl,b1,b2,b3,b4,b5⟩;refine⟨rfl,b1,b2,b3,b4,?_⟩;rw[spr1,hcs];rw[F2] at b5;exact b5
theorem VP (a b c d:BitVec 32) {h:H}:AH tab 183 4 [(0,.int .u32 (a.toNat:Nat)),(1,.int .u32 (b.toNat:Nat)),(2,.int .u32 (c.toNat:Nat)),(3,.int .u32 (d.toNat:Nat))] h=some (.slice (some (own h.next)) 4 4,h.new (.cells (AE [a,b,c,d]) 104 none)):=by
 unfold AH;simp only[ID,Rt];rfl
def AEr:Value:=.agg ⟨AE (List.replicate 64 0)⟩
theorem Yu:Ak tab 180=some AEr:=by rw[AAc];rfl
theorem QP:AEr.cells.toList=AE (List.replicate 64 0):=rfl
theorem AB5 (hI:∀ args h,I 124 args h=none) (k137:Rq I) {k2 k6 k7:Nat} {g:H} (h6:g.blk k6=some (.cells [.int .i64 7,.int .i64 18,.int .i64 3,.bool true] 194 none)) (h7:g.blk k7=some (.cells [.int .i64 17,.int .i64 19,.int .i64 10,.bool true] 194 none)) (n6:k6≠k2) (n7:k7≠k2) :
  ∀ (r i:Nat) (W:List (BitVec 32)) (A0:Ac) (h:H),r=64-i->16<=i->i<=64->W.length=64->A0.n=66->A0.defers=[]->A0.get 2=.pointer (some (own k2))->A0.get 6=.pointer (some (own k6))->A0.get 7=.pointer (some (own k7))->A0.get 8=.int .i64 (i:Nat)->Mod (fun j=>j=k2) g h->Arr 180 k2 W h->
   Wc tab E I ⟨123,none⟩ (.loop Kt) A0 h (fun ex A' h'=>ex=.exit 4/\A'.n=66/\A'.defers=[]/\A'.get 2=.pointer (some (own k2))/\Mod (fun j=>j=k2) g h'/\Arr 180 k2 (ZE r i W) h'):=by
 intro r;induction r with
 | zero=>
  intro i W A0 h hr hi hi2 hW n0 d0 q2 q6 q7 q8 M a;obtain rfl:i=64:=by omega
  have e1:decide (((64:Nat):Int)<64)=false:=by decide
  apply Wc.loop;simp only[Kt,loopAt,loops,Tryz.f123,W0,V0,X0,U2,Q2];refine Vw (Z3 n0 q8 e1) ?_;exact⟨rfl,by simp +decide only[Gs,n0],by simp +decide only[Gs,d0],by simp +decide only[Gs,n0,q2],M,a⟩
 | succ r ih=>
  intro i W A0 h hr hi hi2 hW n0 d0 q2 q6 q7 q8 M a;have hi64:i<64:=by omega
  have e1:decide ((i:Int)<64)=true:=decide_eq_true (by omega);have w0:IntKind.i64.wrap ((i:Int)+1)=((i+1:Nat):Int):=by rw[wrap64 (by omega) (by omega)];omega
  have w1:IntKind.i64.wrap ((i:Int)-16)=((i-16:Nat):Int):=by rw[wrap64 (by omega) (by omega)];omega
  have w2:IntKind.i64.wrap ((i:Int)-7)=((i-7:Nat):Int):=by rw[wrap64 (by omega) (by omega)];omega
  have w3:IntKind.i64.wrap ((i:Int)-15)=((i-15:Nat):Int):=by rw[wrap64 (by omega) (by omega)];omega
  have w4:IntKind.i64.wrap ((i:Int)-2)=((i-2:Nat):Int):=by rw[wrap64 (by omega) (by omega)];omega
  have ia:∀ j:Nat,j<64->AL tab 180 (.pointer (some (own k2))) (.int .i64 (j:Nat))=some (.pointer (some (aadd (own k2) j))):=fun j hj=>by
   have hir:AN (j:Int) 64=true:=by
    show Nat.blt j 64=true;rw[P0];exact hj
   rw[SA _ _ hir,M0,V2]
  have ia0:=ia i (by omega);have ia1:=ia (i-16) (by omega);have ia2:=ia (i-7) (by omega);have ia3:=ia (i-15) (by omega);have ia4:=ia (i-2) (by omega);have l1:=a.at (E:=E) (i:=i-16) (by omega);have l2:=a.at (E:=E) (i:=i-7) (by omega);have l3:=a.at (E:=E) (i:=i-15) (by omega);have l4:=a.at (E:=E) (i:=i-2) (by omega);have l6:h.cells E (own k6) 4=some [.int .i64 7,.int .i64 18,.int .i64 3,.bool true]:=AG (M.blk _ _ n6 h6) rfl rfl;have l7:h.cells E (own k7) 4=some [.int .i64 17,.int .i64 19,.int .i64 10,.bool true]:=AG (M.blk _ _ n7 h7) rfl rfl;rw[ZE];generalize hx1:W.getD (i-16) 0=x1 at l1;generalize hx2:W.getD (i-7) 0=x2 at l2;generalize hx3:W.getD (i-15) 0=x3 at l3;generalize hx4:W.getD (i-2) 0=x4 at l4;have km1:∀ n,(ev tab E I (n+1)).call 137 [.agg ⟨[.int .i64 7,.int .i64 18,.int .i64 3,.bool true]⟩,.int .u32 (x3.toNat:Nat)] (fresh h)=some (.int .u32 ((mixW 7 18 3 true x3).toNat:Nat),fresh h):=fun n=>Dg (k137 7 18 3 true x3 (fresh h) ⟨by decide,by decide⟩ ⟨by decide,by decide⟩ ⟨by decide,by decide⟩);have km2:∀ n,(ev tab E I (n+1)).call 137 [.agg ⟨[.int .i64 17,.int .i64 19,.int .i64 10,.bool true]⟩,.int .u32 (x4.toNat:Nat)] (fresh h)=some (.int .u32 ((mixW 17 19 10 true x4).toNat:Nat),fresh h):=fun n=>Dg (k137 17 19 10 true x4 (fresh h) ⟨by decide,by decide⟩ ⟨by decide,by decide⟩ ⟨by decide,by decide⟩);generalize mixW 7 18 3 true x3=y3 at km1 ⊢;generalize mixW 17 19 10 true x4=y4 at km2 ⊢;have bs:=VP x1 x2 y3 y4 (h:=fresh h);generalize hB:Blk.cells (AE [x1,x2,y3,y4]) 104 none=B at bs;generalize hh2:h.new B=h2;have t2:Ahd h h2:=by rw[<- hh2,<- hB];exact Ahd.aj M.fit rfl
  have b2:h2.blk h.next=some (.cells (AE [x1,x2,y3,y4]) 104 none):=by rw[<- hh2,<- hB];exact AA rfl
  obtain⟨ns,_,_,cs,rfl,rfl⟩:=Fj (E:=E) (I:=I) hI (h:=fresh h2) [x1,x2,y3,y4] (by simp) (k:=h.next) (c:=4) (r:=none) b2;have cs:(ev tab E I (ns+1)).call 124 [.slice (some (own h.next)) 4 4] (fresh h2)=some (.int .u32 ((sumW [x1,x2,y3,y4]).toNat:Nat),fresh h2):=(AX (D:=tab) (E:=E) I (U1 ns)).call cs;have km1:=km1 ns;have km2:=km2 ns;have a2:Arr 180 k2 W h2:=t2.grows _ _ a;have M2:=M.ahd t2;obtain⟨st,_,_⟩:=Arr.set (ty:=180) (k:=k2) (W:=W) (h:=fresh h2) M2.fit.fresh a2 (i:=i) (by omega) (sumW [x1,x2,y3,y4]);obtain⟨_,a3,m3⟩:=a2.set M2.fit (i:=i) (by omega) (sumW [x1,x2,y3,y4]);have lt2:k2<h2.next:=M2.fit.lt a2;apply Wc.loop;simp only[Kt,loopAt,loops,Tryz.f123,W0,V0,X0,U2,Q2];refine Vw (Z3 n0 q8 e1) ?_;refine Wc.ao (ns+1) (by kernel_rfl) ?_
  (iterate 21 refine Ug (Z24 n0 q2 q6 q7 q8 @Zx @Hx @w1 @w2 @w3 @w4 @ia1 @ia2 @ia3 @ia4 @l1 @l2 @l3 @l4 @Rx @l6 @l7 @km1 @km2) ?_)
  refine FQ.new (x:=.slice (some (own h.next)) 4 4) (B:=B) rfl rfl (by simp +decide only[Oy,n0,bs,Hx]) ?_;rw[hh2]
  (iterate 2 refine Ug (Z7 n0 q2 q8 @Zx @Hx @cs @ia0) ?_)
  refine FQ.aa (k:=k2) rfl rfl lt2 (by simp +decide only[Oy,n0,st];with_reducible rfl) ?_;refine FQ.nil ⟨?_,?_⟩
  ·exact Ah [24] 25 rfl rfl (by kernel_rfl)
  refine Vw (Z3 n0 q8 @w0) ?_;refine (ih (i+1) _ _ _ (by omega) (by omega) (by omega) (by rw[J6];exact hW) ?_ ?_ ?_ ?_ ?_ ?_ (M2.trans m3) a3)
  ·simp +decide only[Gs,n0]
  ·simp +decide only[Gs,d0]
  ·simp +decide only[Gs,n0,q2]
  ·simp +decide only[Gs,n0,q6]
  ·simp +decide only[Gs,n0,q7]
  ·simp +decide only[Gs,n0]
theorem SK (hI:∀ f args h,(f=123\/f=124)->I f args h=none) (k137:Rq I) {h:H} (f:Fit h) {v:Value} {bs:List UInt8} (hbs:bs.length=64) (hB:Byt E h v bs) :
  ∃ nf x h',(ev tab E I nf).call 123 [v] h=some (x,h')/\(x=.agg ⟨AE (spread bs)⟩/\Mod (fun _=>False) h h'):=by
 apply Wk (hI _ _ _ (.inl rfl)) AED rfl;intro A0 n0 d0 hA0;change A0.n=66 at n0;have q0:A0.get 0=v:=hA0 0 _ rfl;clear hA0;have hZ:(List.replicate 64 (0:BitVec 32)).length=64:=I4 ..;have hspr:spread bs=ZE 48 16 (spr1 bs 16 0 (List.replicate 64 0)):=by unfold spread;with_reducible rfl
 have hzc:=QP;generalize List.replicate 64 (0:BitVec 32)=Z at hZ hspr hzc;generalize hh1:h.new (.cells (AE Z) 180 none)=h1;have t1:Ahd h h1:=by rw[<- hh1];exact Ahd.aj f rfl
 have a1:Arr 180 h.next Z h1:=by rw[<- hh1];exact AA rfl
 refine Vw (Z4 n0 @Yu @hzc @hh1) ?_
 refine (Zv (E:=E) (I:=I) hbs (k2:=h.next) (g:=h) hB (fun j B e hj=>by
  subst e;have:=f.lt hj
  omega) 16 0 Z _ h1 rfl (by omega) hZ ?_ ?_ ?_ ?_ ?_ t1.mod a1).mono ?_
 ·simp +decide only[Gs,n0]
 ·simp +decide only[Gs,d0]
 ·simp +decide only[Gs,n0,q0]
 ·simp +decide only[Gs,n0]
 ·simp +decide only[Gs,n0];rfl
 clear n0 d0 q0;rintro ex A0 g2 ⟨rfl,n0,d0,q2,M,a2⟩;simp only[if_true];have hW:(spr1 bs 16 0 Z).length=64:=by rw[Ft,hZ]
 generalize spr1 bs 16 0 Z=W at a2 hW hspr;have bu1:=PA 7 18 3 true;have bu2:=PA 17 19 10 true;obtain⟨g3,hh3,t3,b6⟩:=nT M.fit [.int .i64 0,.int .i64 0,.int .i64 0,.bool false] 194;obtain⟨g4,hh4,t4,b7⟩:=nT t3.fit [.int .i64 0,.int .i64 0,.int .i64 0,.bool false] 194;have b6:=t4.grows _ _ b6;have lt6:=t3.fit.lt (show g3.blk g2.next=some (.cells [.int .i64 0,.int .i64 0,.int .i64 0,.bool false] 194 none) by rw[<- hh3];exact AA rfl);have s6:AO tab 194 (own g2.next) (.agg ⟨[.int .i64 7,.int .i64 18,.int .i64 3,.bool true]⟩) g4=some (g4.aa g2.next (.cells [.int .i64 7,.int .i64 18,.int .i64 3,.bool true] 194 none)):=AU GE b6 rfl rfl rfl (by simp);have m6:=(Mod.refl (M:=fun j=>j=g2.next) t4.fit).aa (B:=.cells [.int .i64 7,.int .i64 18,.int .i64 3,.bool true] 194 none) rfl rfl (t4.fit.lt b6);have b6:=AD (h:=g4) (k:=g2.next) (B:=.cells [.int .i64 7,.int .i64 18,.int .i64 3,.bool true] 194 none) rfl;have b7:=m6.blk _ _ (by omega) b7;generalize g4.aa g2.next (.cells [.int .i64 7,.int .i64 18,.int .i64 3,.bool true] 194 none)=g5 at s6 m6 b6 b7;have s7:AO tab 194 (own g3.next) (.agg ⟨[.int .i64 17,.int .i64 19,.int .i64 10,.bool true]⟩) g5=some (g5.aa g3.next (.cells [.int .i64 17,.int .i64 19,.int .i64 10,.bool true] 194 none)):=AU GE b7 rfl rfl rfl (by simp);have m7:=(Mod.refl (M:=fun j=>j=g3.next) m6.fit).aa (B:=.cells [.int .i64 17,.int .i64 19,.int .i64 10,.bool true] 194 none) rfl rfl (m6.fit.lt b7);have b7:=AD (h:=g5) (k:=g3.next) (B:=.cells [.int .i64 17,.int .i64 19,.int .i64 10,.bool true] 194 none) rfl;have b6:=m7.blk _ _ (by omega) b6;generalize g5.aa g3.next (.cells [.int .i64 17,.int .i64 19,.int .i64 10,.bool true] 194 none)=g6 at s7 m7 b7 b6;have lt2:=M.fit.lt a2;have a6:Arr 180 h.next W g6:=m7.blk _ _ (by omega) (m6.blk _ _ (by omega) (t4.grows _ _ (t3.grows _ _ a2)));have M6:Mod (fun j=>h.next<=j) h g6:=(((M.sub (N:=fun j=>h.next<=j) (fun j hj=>by omega)).trans (t3.mod.trans t4.mod)).trans (m6.sub (fun j hj=>by omega))).trans (m7.sub (fun j hj=>by omega));refine Vw (Z8 n0 @bu1 @bu2 @AAb @hh3 @hh4 @s6 @s7) ?_;refine (AB5 (E:=E) (I:=I) (fun args h=>hI _ args h (.inr rfl)) k137 b6 b7 (by omega) (by omega) 48 16 W _ g6 rfl (by omega) (by omega) hW ?_ ?_ ?_ ?_ ?_ ?_ (Mod.refl M6.fit) a6).mono ?_
 ·simp +decide only[Gs,n0]
 ·simp +decide only[Gs,d0]
 ·simp +decide only[Gs,n0,q2]
 ·simp +decide only[Gs,n0]
 ·simp +decide only[Gs,n0]
 ·simp +decide only[Gs,n0];rfl
 clear n0 d0 q2;rintro ex A0 g7 ⟨rfl,n0,d0,q2,M7,a7⟩;simp only[if_true];rw[<- hspr] at a7;have hl:(AE (spread bs)).length=64:=by rw[CW,GJ]
 generalize hS:spread bs=S at a7 hl;have ld:g7.cells E (own h.next) 64=some (AE S):=AG a7 hl (CC _);have st:AO tab 180 (own h.next) (.agg ⟨AE S⟩) g7=some (g7.aa h.next (.cells (AE S) 180 none)):=AU Ll a7 (by rw[hl]) (by rw[hl]) (CC _) (by intro e;rw[e] at hl;simp at hl);have m8:=(Mod.refl (M:=fun j=>j=h.next) M7.fit).aa (B:=.cells (AE S) 180 none) rfl rfl (M7.fit.lt a7);have ld2:(g7.aa h.next (.cells (AE S) 180 none)).cells E (own h.next) 64=some (AE S):=AG (AD rfl) hl (CC _);refine Vw (Z6 n0 q2 @Zx @Hx @ld @st) ?_;exact CO (.inr rfl) (S0 d0) rfl (show _=Value.pointer (some (own h.next)) by simp +decide only[Gs,n0,q2]) (by rw[Ry,ld2]) ⟨rfl,Mod.low f ((M6.trans (M7.sub fun j hj=>by omega)).trans (m8.sub fun j hj=>by omega)) (fun j hj=>.inr hj)⟩
theorem AEE:tab.fn.get 122=some Tryz.f122:=by kernel_rfl
theorem AET:tab.fn.get 100=some Tryz.f100:=by kernel_rfl
noncomputable def LB:Code:=loopAt Tryz.f100 0
noncomputable def LA:Code:=loopAt Tryz.f100 1
def KT (E:Env):Prop:=∀ i:Nat,i<64->E 1 i=some (.int .u32 ((Rj.getD i 0).toNat:Nat))
theorem ACJ {k:Nat} {W:List (BitVec 32)} {h:H} (a:Arr 105 k W h) {i:Nat} {x:BitVec 32} (hx:W[i]? = some x):h.cell E (aadd (own k) i)=some (.int .u32 (x.toNat:Nat)):=by
 rw[Aq a i,Gq hx];rfl
theorem HR {k n:Nat} {W:List (BitVec 32)} {h:H} (a:Arr 105 k W h) (hn:W.length=n):h.cells E (own k) n=some (AE W):=AG a (by rw[CW,hn]) (CC _)
theorem JF {k:Nat} {V W:List (BitVec 32)} {h:H} (f:Fit h) (a:Arr 105 k V h) (hV:V.length=8) (hW:W.length=8):AO tab 105 (own k) (.agg ⟨AE W⟩) h=some (h.aa k (.cells (AE W) 105 none))/\Arr 105 k W (h.aa k (.cells (AE W) 105 none))/\Mod (fun j=>j=k) h (h.aa k (.cells (AE W) 105 none)):=by
 have h1:(AE W).length=8:=by rw[CW,hW]
 refine⟨AU IG a (by rw[h1]) (by rw[h1,CW,hV]) (CC _) (by intro e;rw[e] at h1;simp at h1),AD rfl,(Mod.refl f).aa rfl rfl (f.lt a)⟩
theorem XA {k:Nat} {W:List (BitVec 32)} {h:H} (a:Arr 105 k W h):Av tab 105 (.pointer (some (own k))) (some (.int .i64 1)) none none h=some (.slice (some (aadd (own k) 1)) 7 7,h):=by
 have hb:h.blk (own k).block=some (.cells (AE W) 105 none):=a;have hs:(own k).spot=some 0:=rfl;unfold Av;simp only[IG,abound,hs,hb];rfl
theorem W9 {k:Nat} {W:List (BitVec 32)} {h:H} (a:Arr 105 k W h):Av tab 105 (.pointer (some (own k))) none (some (.int .i64 7)) none h=some (.slice (some (own k)) 7 8,h):=by
 have hb:h.blk (own k).block=some (.cells (AE W) 105 none):=a;have hs:(own k).spot=some 0:=rfl;unfold Av;simp only[IG,abound,hs,hb];rfl
theorem AEa {k:Nat} {x:W8} {h:H} (f:Fit h) (a:Arr 105 k x.list h):LY tab E 183 (.slice (some (aadd (own k) 1)) 7 7) (.slice (some (own k)) 7 8) h=some (.int .i64 7,h.aa k (.cells (AE [x.a,x.a,x.b,x.c,x.d,x.e,x.f,x.g]) 105 none)):=by
 have hc:h.cells E (own k) 8=some (AE x.list):=HR a rfl;have h7:=BD hc (m:=0) (l:=7) (by decide);have h7:h.cells E (own k) 7=some (AE [x.a,x.b,x.c,x.d,x.e,x.f,x.g]):=h7;have hp:=CX (o:=1) (vs:=AE [x.a,x.b,x.c,x.d,x.e,x.f,x.g]) a (by simp[AE]) (by simp[AE,W8.list]) (CC _);unfold LY;simp only[ID];rw[show Nat.min 7 7*1=7 from rfl,h7];simp only[];rw[hp];rfl
theorem SR (hI:∀ args h,I 122 args h=none) {h:H} (f:Fit h):∃ nf x h',(ev tab E I nf).call 122 [] h=some (x,h')/\(x=.agg ⟨[.func (.func 136) ⟨[]⟩ ⟨[]⟩,.func (.func 138) ⟨[]⟩ ⟨[]⟩]⟩/\Ahd h h'):=by
 apply Wk (hI _ _) AEE rfl;intro A0 n0 d0 hA0;change A0.n=2 at n0;clear hA0;obtain⟨h1,hh1,t1,b1⟩:=nT f [.nilFunc,.nilFunc] 178;have bu:BX tab 178 [(0,.func (.func 136) ⟨[]⟩ ⟨[]⟩),(1,.func (.func 138) ⟨[]⟩ ⟨[]⟩)]=some (.agg ⟨[.func (.func 136) ⟨[]⟩ ⟨[]⟩,.func (.func 138) ⟨[]⟩ ⟨[]⟩]⟩):=by
  unfold BX;simp only[IE];rfl
 have s1:AO tab 178 (own h.next) (.agg ⟨[.func (.func 136) ⟨[]⟩ ⟨[]⟩,.func (.func 138) ⟨[]⟩ ⟨[]⟩]⟩) h1=some (h1.aa h.next (.cells [.func (.func 136) ⟨[]⟩ ⟨[]⟩,.func (.func 138) ⟨[]⟩ ⟨[]⟩] 178 none)):=AU IE b1 rfl rfl rfl (by simp);have t2:Ahd h (h1.aa h.next (.cells [.func (.func 136) ⟨[]⟩ ⟨[]⟩,.func (.func 138) ⟨[]⟩ ⟨[]⟩] 178 none)):=t1.aa rfl (C0 _) (t1.fit.lt b1) f;have ld:(h1.aa h.next (.cells [.func (.func 136) ⟨[]⟩ ⟨[]⟩,.func (.func 138) ⟨[]⟩ ⟨[]⟩] 178 none)).cells E (own h.next) 2=some [.func (.func 136) ⟨[]⟩ ⟨[]⟩,.func (.func 138) ⟨[]⟩ ⟨[]⟩]:=AG (AD rfl) rfl rfl;refine Vwz (Z5 n0 @ztz178 @hh1 @bu @s1) ?_;exact CO (.inr rfl) (S0z d0) rfl (show _=Value.pointer (some (own h.next)) by simp +decide only[Gz,n0]) (by rw[Rz,ld]) ⟨rfl,t2⟩
theorem AAo {S:List (BitVec 32)} (hS:S.length=64) {i:Nat} (hi:i<64):CP tab 180 (.agg ⟨AE S⟩) (.int .i64 (i:Nat))=some (.int .u32 ((S.getD i 0).toNat:Nat)):=by
 have hir:AN (i:Int) 64=true:=by
  show Nat.blt i 64=true;rw[P0];exact hi
 unfold CP;simp only[Ll,hir];unfold apart;rw[Jf];show (AE S)[(i:Int).toNat*1]? = _;rw[M0,V2,Gp (by omega)]
theorem YA (hI:∀ args h,I 124 args h=none) {h:H} (f:Fit h) (a b:BitVec 32):∃ h2 ns,AH tab 183 2 [(0,.int .u32 (a.toNat:Nat)),(1,.int .u32 (b.toNat:Nat))] h=some (.slice (some (own h.next)) 2 2,h2)/\Ahd h h2/\∀ n,ns<=n->(ev tab E I n).call 124 [.slice (some (own h.next)) 2 2] h2=some (.int .u32 ((sumW [a,b]).toNat:Nat),h2):=by
 have bs:=KM a b (h:=h);generalize hh2:h.new (.cells (AE [a,b]) 104 none)=h2 at bs;have t2:Ahd h h2:=by rw[<- hh2];exact Ahd.aj f rfl
 have b2:h2.blk h.next=some (.cells (AE [a,b]) 104 none):=by rw[<- hh2];exact AA rfl
 obtain⟨ns,_,_,cs,rfl,e⟩:=Fj (E:=E) (I:=I) hI (h:=h2) [a,b] (by simp) (k:=h.next) (c:=2) (r:=none) b2;rw[<- e] at cs;exact⟨h2,ns,bs,t2,fun n hn=>(AX (D:=tab) (E:=E) I hn).call cs⟩
theorem SS (hI:∀ args h,I 124 args h=none) (k136:Yp I) (hK:KT E) {S:List (BitVec 32)} (hS:S.length=64) {k2 k4 k5 k6:Nat} {g:H} (h6:g.blk k6=some (.cells [.func (.func 136) ⟨[]⟩ ⟨[]⟩,.func (.func 138) ⟨[]⟩ ⟨[]⟩] 178 none)) (n6:k6≠k5) :
  ∀ (r i:Nat) (x:W8) (A0:Ac) (h:H),r=64-i->i<=64->A0.n=64->A0.defers=[]->A0.get 2=.pointer (some (own k2))->A0.get 4=.pointer (some (own k4))->A0.get 5=.pointer (some (own k5))->A0.get 6=.pointer (some (own k6))->A0.get 15=.agg ⟨AE S⟩->A0.get 16=.int .i64 (i:Nat)->Mod (fun j=>j=k5) g h->Arr 105 k5 x.list h->
   Wc tab E I ⟨100,none⟩ (.loop LB) A0 h (fun ex A' h'=>ex=.exit 0/\A'.n=64/\A'.defers=[]/\A'.get 2=.pointer (some (own k2))/\A'.get 4=.pointer (some (own k4))/\A'.get 5=.pointer (some (own k5))/\Mod (fun j=>j=k5) g h'/\Arr 105 k5 (rounds S r i x).list h'):=by
 intro r;induction r with
 | zero=>
  intro i x A0 h hr hi n0 d0 q2 q4 q5 q6 q15 q16 M a;obtain rfl:i=64:=by omega
  have e1:decide (((64:Nat):Int)<64)=false:=by decide
  apply Wc.loop;simp only[LB,loopAt,loops,Tryz.f100,W0,V0,X0,U2,Q2];refine Vwz (Z3 n0 q16 e1) ?_;exact⟨rfl,by simp +decide only[Gz,n0],by simp +decide only[Gz,d0],by simp +decide only[Gz,n0,q2],by simp +decide only[Gz,n0,q4],by simp +decide only[Gz,n0,q5],M,a⟩
 | succ r ih=>
  intro i x A0 h hr hi n0 d0 q2 q4 q5 q6 q15 q16 M a;have hi64:i<64:=by omega
  have e1:decide ((i:Int)<64)=true:=decide_eq_true (by omega);have w0:IntKind.i64.wrap ((i:Int)+1)=((i+1:Nat):Int):=by rw[wrap64 (by omega) (by omega)];omega
  have ix:=AAo hS hi64;have hir:AN (i:Int) 64=true:=by
   show Nat.blt i 64=true;rw[P0];omega
  have ig:AL tab 180 (.pointer (some ⟨1,0,none⟩)) (.int .i64 (i:Nat))=some (.pointer (some (aadd ⟨1,0,none⟩ i))):=by
   rw[SA _ _ hir,M0,V2]
  have lg:h.cell E (aadd ⟨1,0,none⟩ i)=some (.int .u32 ((Rj.getD i 0).toNat:Nat)):=by
   simp only[H.cell,aadd,Z1];rw[hK i hi64];rfl
  have l6a:h.cell E (own k6)=some (.func (.func 136) ⟨[]⟩ ⟨[]⟩):=BJ (M.blk _ _ n6 h6);have l6b:h.cell E (aadd (own k6) 1)=some (.func (.func 138) ⟨[]⟩ ⟨[]⟩):=Aq (M.blk _ _ n6 h6) 1;have fa0:AC tab 178 (.pointer (some (own k6))) 0=some (.pointer (some (own k6))):=KL _;have fa1:=KK (own k6);have l5:h.cells E (own k5) 8=some (AE x.list):=HR a rfl;rw[rounds];generalize hkk:Rj.getD i 0=kk at lg ⊢;generalize hww:S.getD i 0=ww at ix ⊢;have km:∀ n,(ev tab E I (n+1)).call 136 [.agg ⟨AE x.list⟩] (fresh h)=some (.int .u32 ((rndA x.e x.f x.g x.h).toNat:Nat),fresh h):=fun n=>Dg (k136.a x.a x.b x.c x.d x.e x.f x.g x.h (fresh h));have bs:=PB (rndA x.e x.f x.g x.h) kk ww (h:=fresh h);have hxr:x.round kk ww=⟨sumW [sumW [rndA x.e x.f x.g x.h,kk,ww],rndB x.a x.b x.c],x.a,x.b,x.c,sumW [x.d,sumW [rndA x.e x.f x.g x.h,kk,ww]],x.e,x.f,x.g⟩:=rfl;rw[hxr];generalize hP:sumW [rndA x.e x.f x.g x.h,kk,ww]=P at ⊢;generalize hB:Blk.cells (AE [rndA x.e x.f x.g x.h,kk,ww]) 104 none=B at bs;generalize hh2:h.new B=h2;have t2:Ahd h h2:=by rw[<- hh2,<- hB];exact Ahd.aj M.fit rfl
  have b2:h2.blk h.next=some (.cells (AE [rndA x.e x.f x.g x.h,kk,ww]) 104 none):=by rw[<- hh2,<- hB];exact AA rfl
  obtain⟨ns,_,_,cs,rfl,rfl⟩:=Fj (E:=E) (I:=I) hI (h:=fresh h2) [rndA x.e x.f x.g x.h,kk,ww] (by simp) (k:=h.next) (c:=3) (r:=none) b2;rw[hP] at cs;have cs:(ev tab E I (ns+1)).call 124 [.slice (some (own h.next)) 3 3] (fresh h2)=some (.int .u32 (P.toNat:Nat),fresh h2):=(AX (D:=tab) (E:=E) I (U1 ns)).call cs;have km:=km ns;generalize rndA x.e x.f x.g x.h=ra at km bs hB hP;have a2:Arr 105 k5 x.list h2:=t2.grows _ _ a;have M2:=M.ahd t2;have l5':h2.cells E (own k5) 8=some (AE x.list):=HR a2 rfl;have l6c:h2.cell E (aadd (own k6) 1)=some (.func (.func 138) ⟨[]⟩ ⟨[]⟩):=Aq (M2.blk _ _ n6 h6) 1;have km2:(ev tab E I 1).call 138 [.agg ⟨AE x.list⟩] h2=some (.int .u32 ((rndB x.a x.b x.c).toNat:Nat),h2):=Dg (n:=0) (k136.b x.a x.b x.c x.d x.e x.f x.g x.h h2);generalize rndB x.a x.b x.c=Q at km2 ⊢;have sl1:=XA (h:=fresh h2) a2;have sl7:=W9 (h:=fresh h2) a2;have cp:=AEa (E:=E) (h:=fresh h2) M2.fit.fresh a2;have m3:=(Mod.refl (M:=fun j=>j=k5) M2.fit).aa (B:=.cells (AE [x.a,x.a,x.b,x.c,x.d,x.e,x.f,x.g]) 105 none) rfl rfl (M2.fit.lt a2);have a3:Arr 105 k5 [x.a,x.a,x.b,x.c,x.d,x.e,x.f,x.g] (h2.aa k5 (.cells (AE [x.a,x.a,x.b,x.c,x.d,x.e,x.f,x.g]) 105 none)):=AD rfl;have lt5:k5<h2.next:=M2.fit.lt a2;generalize hh3:h2.aa k5 (.cells (AE [x.a,x.a,x.b,x.c,x.d,x.e,x.f,x.g]) 105 none)=h3 at m3 a3;have M3:=M2.trans m3;have i4:AL tab 105 (.pointer (some (own k5))) (.int .i64 4)=some (.pointer (some (aadd (own k5) 4))):=Eo _ 4 rfl;have i0:AL tab 105 (.pointer (some (own k5))) (.int .i64 0)=some (.pointer (some (own k5))):=Eo _ 0 rfl;have l34:h3.cell E (aadd (own k5) 4)=some (.int .u32 (x.d.toNat:Nat)):=ACJ a3 rfl;obtain⟨h4,n4,bs4,t4,cs4⟩:=YA (E:=E) (I:=I) hI M3.fit x.d P;have a4:Arr 105 k5 [x.a,x.a,x.b,x.c,x.d,x.e,x.f,x.g] h4:=t4.grows _ _ a3;have M4:=M3.ahd t4;obtain⟨st4,a5,m5⟩:=Arr.set (ty:=105) M4.fit a4 (i:=4) (by simp) (sumW [x.d,P]);have a5b:Arr 105 k5 [x.a,x.a,x.b,x.c,sumW [x.d,P],x.e,x.f,x.g] _:=a5;clear a5;generalize h4.aa k5 (.cells (AE (([x.a,x.a,x.b,x.c,x.d,x.e,x.f,x.g]:List (BitVec 32)).set 4 (sumW [x.d,P]))) 105 none)=h5 at st4 a5b m5;have M5:=M4.trans m5;obtain⟨h6',n6',bs6,t6,cs6⟩:=YA (E:=E) (I:=I) hI M5.fit P Q;have a6:Arr 105 k5 [x.a,x.a,x.b,x.c,sumW [x.d,P],x.e,x.f,x.g] h6':=t6.grows _ _ a5b;have M6:=M5.ahd t6;obtain⟨st6,a7,m7⟩:=Arr.set (ty:=105) M6.fit a6 (i:=0) (by simp) (sumW [P,Q]);have st6b:AO tab 104 (own k5) (.int .u32 ((sumW [P,Q]).toNat:Nat)) h6'=_:=st6;clear st6;have a7b:Arr 105 k5 (W8.list ⟨sumW [P,Q],x.a,x.b,x.c,sumW [x.d,P],x.e,x.f,x.g⟩) _:=a7;clear a7;generalize h6'.aa k5 (.cells (AE (([x.a,x.a,x.b,x.c,sumW [x.d,P],x.e,x.f,x.g]:List (BitVec 32)).set 0 (sumW [P,Q]))) 105 none)=h7 at st6b a7b m7;have M7:=M6.trans m7;have cs4:=cs4 (max n4 n6') (E4 _ _);have cs6:=cs6 (max n4 n6') (C4 _ _);generalize sumW [x.d,P]=y4 at*;generalize sumW [P,Q]=y0 at*;apply Wc.loop;simp only[LB,loopAt,loops,Tryz.f100,W0,V0,X0,U2,Q2];refine Vwz (Z5 n0 q15 q16 e1 @ix) ?_;refine Wc.al (ns+1) (by kernel_rfl) ?_
  (iterate 8 refine Ufz (Z13 n0 q5 q6 @Zx @Hx @fa0 @l6a @l5 @HU (@X0 Value) @km @ig @lg) ?_)
  refine FC.new (x:=.slice (some (own h.next)) 3 3) (B:=B) rfl rfl (by simp +decide only[Oz,n0,bs,Hx]) ?_;rw[hh2]
  (iterate 2 refine Ufz (Z3 n0 @cs @Hx) ?_)
  refine FC.nil ?_;refine Voz 1 (Z11 n0 q5 q6 @Zx @Hx @fa1 @l6c @l5' @HU (@X0 Value) @km2) ?_
  repeat' (with_reducible apply Wc.seq)
  refine Wc.ao 1 (by kernel_rfl) ?_;refine FQ.ef (x:=.slice (some (aadd (own k5) 1)) 7 7) rfl (by simp +decide only[Oz,n0,q5,sl1]) ?_;refine FQ.ef (x:=.slice (some (own k5)) 7 8) rfl (by simp +decide only[Oz,n0,q5,sl7]) ?_;refine FQ.aa (k:=k5) (B:=.cells (AE [x.a,x.a,x.b,x.c,x.d,x.e,x.f,x.g]) 105 none) (x:=.int .i64 7) rfl rfl lt5 (by simp +decide only[Oz,n0,cp]) ?_;refine FQ.nil ⟨?_,?_⟩
  ·exact Ah [2] 3 rfl rfl (by kernel_rfl)
  rw[hh3];refine Voz (max n4 n6') (Z9 n0 q5 @Zx @Hx @i4 @l34 @bs4 @cs4 @st4) ?_;refine Voz (max n4 n6') (Z8 n0 q5 @Zx @Hx @i0 @bs6 @cs6 @st6b) ?_;refine Vwz (Z3 n0 q16 @w0) ?_;refine ih (i+1) _ _ h7 (by omega) (by omega) ?_ ?_ ?_ ?_ ?_ ?_ ?_ ?_ M7 a7b
  ·simp +decide only[Gz,n0]
  ·simp +decide only[Gz,d0]
  ·simp +decide only[Gz,n0,q2]
  ·simp +decide only[Gz,n0,q4]
  ·simp +decide only[Gz,n0,q5]
  ·simp +decide only[Gz,n0,q6]
  ·simp +decide only[Gz,n0,q15]
  ·simp +decide only[Gz,n0]
def WE (O:List (BitVec 32)):Nat->Nat->List (BitVec 32)->List (BitVec 32)
 | 0,_,W=>W
 | r+1,i,W=>WE O r (i+1) (W.set i (sumW [W.getD i 0,O.getD i 0]))
theorem TH (x y:W8):WE y.list 8 0 x.list=(x.plus y).list:=rfl
theorem ZZ (hI:∀ args h,I 124 args h=none) {O:List (BitVec 32)} (hO:O.length=8) {k2 k4 k5:Nat} {g:H} (h2:Arr 105 k2 O g) (n2:k2≠k5) :
  ∀ (r i:Nat) (W:List (BitVec 32)) (A0:Ac) (h:H),r=8-i->i<=8->W.length=8->A0.n=64->A0.defers=[]->A0.get 2=.pointer (some (own k2))->A0.get 4=.pointer (some (own k4))->A0.get 5=.pointer (some (own k5))->A0.get 49=.int .i64 (i:Nat)->Mod (fun j=>j=k5) g h->Arr 105 k5 W h->
   Wc tab E I ⟨100,none⟩ (.loop LA) A0 h (fun ex A' h'=>ex=.exit 2/\A'.n=64/\A'.defers=[]/\A'.get 4=.pointer (some (own k4))/\A'.get 5=.pointer (some (own k5))/\Mod (fun j=>j=k5) g h'/\Arr 105 k5 (WE O r i W) h'):=by
 intro r;induction r with
 | zero=>
  intro i W A0 h hr hi hW n0 d0 q2 q4 q5 q49 M a;obtain rfl:i=8:=by omega
  have e1:decide (((8:Nat):Int)<8)=false:=by decide
  apply Wc.loop;simp only[LA,loopAt,loops,Tryz.f100,W0,V0,X0,U2,Q2];refine Vwz (Z3 n0 q49 e1) ?_;exact⟨rfl,by simp +decide only[Gz,n0],by simp +decide only[Gz,d0],by simp +decide only[Gz,n0,q4],by simp +decide only[Gz,n0,q5],M,a⟩
 | succ r ih=>
  intro i W A0 h hr hi hW n0 d0 q2 q4 q5 q49 M a;have hi8:i<8:=by omega
  have e1:decide ((i:Int)<8)=true:=decide_eq_true (by omega);have w0:IntKind.i64.wrap ((i:Int)+1)=((i+1:Nat):Int):=by rw[wrap64 (by omega) (by omega)];omega
  have ia:∀ k,AL tab 105 (.pointer (some (own k))) (.int .i64 (i:Nat))=some (.pointer (some (aadd (own k) i))):=fun k=>by
   have hir:AN (i:Int) 8=true:=by
    show Nat.blt i 8=true;rw[P0];exact hi8
   rw[Eo _ _ hir,M0,V2]
  have ia5:=ia k5;have ia2:=ia k2;have l5:=a.at (E:=E) (i:=i) (by omega);have a2:Arr 105 k2 O h:=M.blk _ _ n2 h2;have l2:=a2.at (E:=E) (i:=i) (by omega);rw[WE];generalize W.getD i 0=x at l5 ⊢;generalize O.getD i 0=y at l2 ⊢;have bs:=KM x y (h:=fresh h);generalize hB:Blk.cells (AE [x,y]) 104 none=B at bs;generalize hh2:h.new B=h2';have t2:Ahd h h2':=by rw[<- hh2,<- hB];exact Ahd.aj M.fit rfl
  have b2:h2'.blk h.next=some (.cells (AE [x,y]) 104 none):=by rw[<- hh2,<- hB];exact AA rfl
  obtain⟨ns,_,_,cs,rfl,rfl⟩:=Fj (E:=E) (I:=I) hI (h:=fresh h2') [x,y] (by simp) (k:=h.next) (c:=2) (r:=none) b2;have cs:(ev tab E I ns).call 124 [.slice (some (own h.next)) 2 2] (fresh h2')=some (.int .u32 ((sumW [x,y]).toNat:Nat),fresh h2'):=cs;have a3:Arr 105 k5 W h2':=t2.grows _ _ a;have M2:=M.ahd t2;obtain⟨st,_,_⟩:=Arr.set (ty:=105) (k:=k5) (W:=W) (h:=fresh h2') M2.fit.fresh a3 (i:=i) (by omega) (sumW [x,y]);obtain⟨_,a4,m4⟩:=a3.set M2.fit (i:=i) (by omega) (sumW [x,y]);have lt5:k5<h2'.next:=M2.fit.lt a3;apply Wc.loop;simp only[LA,loopAt,loops,Tryz.f100,W0,V0,X0,U2,Q2];refine Vwz (Z3 n0 q49 e1) ?_;refine Wc.ao ns (by kernel_rfl) ?_
  (iterate 7 refine Ugz (Z9 n0 q2 q5 @Zx @Hx @ia5 @ia2 @l5 @l2) ?_)
  refine FQ.new (x:=.slice (some (own h.next)) 2 2) (B:=B) rfl rfl (by simp +decide only[Oz,n0,bs,Hx]) ?_;rw[hh2]
  (iterate 2 refine Ugz (Z6 n0 q5 @Zx @Hx @cs @ia5) ?_)
  refine FQ.aa (k:=k5) rfl rfl lt5 (by simp +decide only[Oz,n0,st];with_reducible rfl) ?_;refine FQ.nil ⟨?_,?_⟩
  ·exact Ah [10] 11 rfl rfl (by kernel_rfl)
  refine Vwz (Z3 n0 q49 @w0) ?_;refine ih (i+1) _ _ _ (by omega) (by omega) (by rw[J6];exact hW) ?_ ?_ ?_ ?_ ?_ ?_ (M2.trans m4) a4
  ·simp +decide only[Gz,n0]
  ·simp +decide only[Gz,d0]
  ·simp +decide only[Gz,n0,q2]
  ·simp +decide only[Gz,n0,q4]
  ·simp +decide only[Gz,n0,q5]
  ·simp +decide only[Gz,n0]
theorem Vb (hI:∀ f args h,(f=100\/f=122\/f=123\/f=124)->I f args h=none) (k137:Rq I) (k136:Yp I) (hK:KT E) {h:H} (f:Fit h) (x:W8) {v:Value} {bs:List UInt8} (hbs:bs.length=64) (hB:Byt E h v bs) :
  ∃ nf y h',(ev tab E I nf).call 100 [.agg ⟨AE x.list⟩,v] h=some (y,h')/\(y=.agg ⟨AE (taken x bs).list⟩/\Mod (fun _=>False) h h'):=by
 have hI124:∀ args h,I 124 args h=none:=fun args h=>hI _ args h (by simp);apply Wk (hI _ _ _ (.inl rfl)) AET rfl;intro A0 n0 d0 hA0;change A0.n=64 at n0;have q0:A0.get 0=.agg ⟨AE x.list⟩:=hA0 0 _ rfl;have q1:A0.get 1=v:=hA0 1 _ rfl;clear hA0;generalize hh1:h.new (.cells (Value.agg ⟨AE x.list⟩).cells.toList 105 none)=h1;have t1:Ahd h h1:=by rw[<- hh1];exact Ahd.aj f rfl
 have a2:Arr 105 h.next x.list h1:=by rw[<- hh1];exact AA rfl
 generalize hh2:h1.new (.cells (Value.agg #[.int .u32 0,.int .u32 0,.int .u32 0,.int .u32 0,.int .u32 0,.int .u32 0,.int .u32 0,.int .u32 0]).cells.toList 105 none)=h2;have t2:Ahd h1 h2:=by rw[<- hh2];exact Ahd.aj t1.fit rfl
 have a4:Arr 105 h1.next (W8.list ⟨0,0,0,0,0,0,0,0⟩) h2:=by rw[<- hh2];exact AA rfl
 have a2:Arr 105 h.next x.list h2:=t2.grows _ _ a2;have l2:h2.cells E (own h.next) 8=some (AE x.list):=HR a2 rfl;obtain⟨nr,_,q3,cr,rfl,t3⟩:=SR (E:=E) (I:=I) (fun args h=>hI _ args h (by simp)) t2.fit.fresh;have lg3:q3.log=[]:=t3.log;have t3:=(Ahd.back t2.fit t3).1;generalize hb3:back h2 q3=b3 at t3;generalize hh4:b3.new (.cells (Value.agg #[.int .u32 0,.int .u32 0,.int .u32 0,.int .u32 0,.int .u32 0,.int .u32 0,.int .u32 0,.int .u32 0]).cells.toList 105 none)=h4;have t4:Ahd b3 h4:=by rw[<- hh4];exact Ahd.aj t3.fit rfl
 have a5:Arr 105 b3.next (W8.list ⟨0,0,0,0,0,0,0,0⟩) h4:=by rw[<- hh4];exact AA rfl
 obtain⟨h5,hh5,t5,b6⟩:=nT t4.fit [.nilFunc,.nilFunc] 178;have a5:Arr 105 b3.next (W8.list ⟨0,0,0,0,0,0,0,0⟩) h5:=t5.grows _ _ a5;have lt5:b3.next<h5.next:=t5.fit.lt a5;have lt6:h4.next<h5.next:=t5.fit.lt b6;have n45:b3.next<h4.next:=t4.fit.lt (show h4.blk b3.next=_ by rw[<- hh4];exact AA rfl);have s5:=(JF (h:=fresh h5) t5.fit.fresh (show Arr 105 b3.next (W8.list ⟨0,0,0,0,0,0,0,0⟩) (fresh h5) from a5) rfl (W:=x.list) rfl).1;obtain⟨_,a6,m6⟩:=JF t5.fit a5 rfl (W:=x.list) rfl;have b7:=m6.blk _ _ (by omega) b6;generalize hh6:h5.aa b3.next (.cells (AE x.list) 105 none)=h6 at a6 m6 b7;have s6:AO tab 178 (own h4.next) (.agg ⟨[.func (.func 136) ⟨[]⟩ ⟨[]⟩,.func (.func 138) ⟨[]⟩ ⟨[]⟩]⟩) (fresh h6)=some ((fresh h6).aa h4.next (.cells [.func (.func 136) ⟨[]⟩ ⟨[]⟩,.func (.func 138) ⟨[]⟩ ⟨[]⟩] 178 none)):=AU IE (g:=fresh h6) (show (fresh h6).blk h4.next=_ from b7) rfl rfl rfl (by simp);have lt6:h4.next<h6.next:=m6.fit.lt b7;have m7:=(Mod.refl (M:=fun j=>j=h4.next) m6.fit).aa (B:=.cells [.func (.func 136) ⟨[]⟩ ⟨[]⟩,.func (.func 138) ⟨[]⟩ ⟨[]⟩] 178 none) rfl rfl (m6.fit.lt b7);have b7:=AD (h:=h6) (k:=h4.next) (B:=.cells [.func (.func 136) ⟨[]⟩ ⟨[]⟩,.func (.func 138) ⟨[]⟩ ⟨[]⟩] 178 none) rfl;have a7:=m7.blk _ _ (by omega) a6;generalize hh7:h6.aa h4.next (.cells [.func (.func 136) ⟨[]⟩ ⟨[]⟩,.func (.func 138) ⟨[]⟩ ⟨[]⟩] 178 none)=h7 at m7 b7 a7;have T4:Ahd h h5:=(((t1.trans t2).trans t3).trans t4).trans t5;have l1:h.next<h1.next:=by
  have:=t1.fit.lt (show h1.blk h.next=_ by rw[<- hh1];exact AA rfl);exact this
 have l2':h1.next<h2.next:=by
  have:=t2.fit.lt a4;exact this
 have l3':=t3.next;have M7:Mod (fun j=>h2.next<=j) h2 h7:=(((t3.trans t4).trans t5).mod.trans (m6.sub (fun j hj=>by subst hj;exact l3'))).trans (m7.sub (fun j hj=>by subst hj;omega));have gB:Byt E h7 v bs:=hB.grow fun j B hj=>M7.blk j B (by have:=f.lt hj;omega) ((t1.trans t2).grows j B hj);obtain⟨nsp,_,h8,csp,rfl,t8⟩:=SK (E:=E) (I:=I) (fun f args h hf=>hI _ _ _ (hf.elim (fun e=>.inr (.inr (.inl e))) (fun e=>.inr (.inr (.inr e))))) k137 M7.fit hbs gB;have a2:Arr 105 h.next x.list h8:=t8.blk _ _ (fun h=>h) (M7.blk _ _ (show ¬ h2.next<=h.next by omega) a2);have a4:Arr 105 h1.next (W8.list ⟨0,0,0,0,0,0,0,0⟩) h8:=t8.blk _ _ (fun h=>h) (M7.blk _ _ (show ¬ h2.next<=h1.next by omega) a4);have b8:=t8.blk _ _ (fun h=>h) b7;have a8:Arr 105 b3.next x.list h8:=t8.blk _ _ (fun h=>h) a7;have M8:Mod (fun j=>h2.next<=j) h2 h8:=M7.trans (t8.sub fun _ h=>h.elim);have hx:x.list=(x).list:=rfl;refine Voz 1 (Z7 n0 q0 @Zx @Hx @hh1 @ztz105 @hh2) ?_
 repeat' (with_reducible apply Wc.seq)
 refine Wc.ao nr (by kernel_rfl) ?_
 (iterate 1 refine Ugz (Z6 n0 @Zx @Hx @l2 @HU (@X0 Value)) ?_)
 refine FQ.call (x:=.agg ⟨[.func (.func 136) ⟨[]⟩ ⟨[]⟩,.func (.func 138) ⟨[]⟩ ⟨[]⟩]⟩) rfl rfl (by simp +decide only[Oz,n0,cr]) lg3 ?_;rw[hb3];refine FQ.new (x:=.pointer (some (own b3.next))) (B:=.cells (Value.agg #[.int .u32 0,.int .u32 0,.int .u32 0,.int .u32 0,.int .u32 0,.int .u32 0,.int .u32 0,.int .u32 0]).cells.toList 105 none) rfl rfl (by simp +decide only[Oz,n0,ztz105,Hx]) ?_;rw[hh4];refine FQ.new (x:=.pointer (some (own h4.next))) (B:=.cells (Value.agg #[.nilFunc,.nilFunc]).cells.toList 178 none) rfl rfl (by simp +decide only[Oz,n0,ztz178,Hx]) ?_;rw[hh5];refine FQ.aa (k:=b3.next) rfl rfl lt5 (by simp +decide only[Oz,n0,s5];with_reducible rfl) ?_;rw[hh6];refine FQ.aa (k:=h4.next) rfl rfl lt6 (by simp +decide only[Oz,n0,s6];with_reducible rfl) ?_;rw[hh7];refine FQ.nil ⟨?_,?_⟩
 ·exact Az [4,5] 6 [(3,4)] rfl rfl (by kernel_rfl) (fun _ _ _ _ hU e1 e2=>by
   simp only[O1,Prod.mk.injEq,C1,or_false] at hU;obtain⟨rfl,rfl⟩:=hU;cases e1;cases e2
   exact AK (l:=[]) rfl rfl (fun _ _=>C1) rfl (fun j hj=>.inl (by
    have hj:=H1.1 hj;subst hj;exact n45)))
 dsimp only
 repeat' (with_reducible apply Wc.seq)
 refine Voz nsp (Z3 n0 q1 @csp) ?_
 repeat' (first|(with_reducible apply Wc.seq)|refine Wc.block ?_)
 refine (SS (E:=E) (I:=I) hI124 k136 hK (GJ bs) (k2:=h.next) (k4:=h1.next) (k5:=b3.next) (k6:=h4.next) (g:=h8) b8 (by omega) 64 0 x _ h8 rfl (by omega) ?_ ?_ ?_ ?_ ?_ ?_ ?_ ?_ (Mod.refl t8.fit) a8).mono ?_
 ·simp +decide only[Gz,n0]
 ·simp +decide only[Gz,d0]
 ·simp +decide only[Gz,n0]
 ·simp +decide only[Gz,n0]
 ·simp +decide only[Gz,n0]
 ·simp +decide only[Gz,n0]
 ·simp +decide only[Gz,n0]
 ·simp +decide only[Gz,n0];rfl
 clear n0 d0 q0 q1;rintro ex A0 h9 ⟨rfl,n0,d0,q2,q4,q5,M9,a9⟩;simp only[if_true];generalize hy:rounds (spread bs) 64 0 x=y at a9;have a2':=M9.blk _ _ (by omega) a2
 repeat' (with_reducible apply Wc.seq)
 refine Voz 1 n0 ?_
 repeat' (first|(with_reducible apply Wc.seq)|refine Wc.block ?_)
 refine (ZZ (E:=E) (I:=I) hI124 (O:=x.list) rfl (k2:=h.next) (k4:=h1.next) (k5:=b3.next) (g:=h9) a2' (by omega) 8 0 y.list _ h9 rfl (by omega) rfl ?_ ?_ ?_ ?_ ?_ ?_ (Mod.refl M9.fit) a9).mono ?_
 ·simp +decide only[Gz,n0]
 ·simp +decide only[Gz,d0]
 ·simp +decide only[Gz,n0,q2]
 ·simp +decide only[Gz,n0,q4]
 ·simp +decide only[Gz,n0,q5]
 ·simp +decide only[Gz,n0];rfl
 clear n0 d0 q2 q4 q5;rintro ex A0 h10 ⟨rfl,n0,d0,q4,q5,M10,a10⟩;simp only[if_true];rw[TH] at a10;have htk:y.plus x=taken x bs:=by rw[<- hy];rfl
 rw[htk] at a10;generalize taken x bs=z at a10;have a4':Arr 105 h1.next (W8.list ⟨0,0,0,0,0,0,0,0⟩) h10:=M10.blk _ _ (by omega) (M9.blk _ _ (by omega) a4);have ld:h10.cells E (own b3.next) 8=some (AE z.list):=HR a10 rfl;obtain⟨st,a11,m11⟩:=JF M10.fit a4' rfl (W:=z.list) rfl;generalize hh11:h10.aa h1.next (.cells (AE z.list) 105 none)=h11 at st a11 m11;have ld2:h11.cells E (own h1.next) 8=some (AE z.list):=HR a11 rfl;refine Vwz (Z8 n0 q4 q5 @Zx @Hx @ld @HU @st) ?_;have MM:Mod (fun j=>h.next<=j) h h11:=((((t1.trans t2).mod.trans (M8.sub (fun j hj=>by omega))).trans (M9.sub (fun j hj=>by omega))).trans (M10.sub (fun j hj=>by omega))).trans (m11.sub (fun j hj=>by omega));exact CO (.inr rfl) (S0z d0) rfl (show _=Value.pointer (some (own h1.next)) by simp +decide only[Gz,n0,q4]) (by rw[HU,ld2]) ⟨rfl,Mod.low f MM (fun j hj=>.inr hj)⟩
theorem ACk:tab.fn.get 61=some Tryz.f61:=by kernel_rfl
theorem AFw:tab.fn.get 99=some Tryz.f99:=by kernel_rfl
theorem AEF:tab.fn.get 121=some Tryz.f121:=by kernel_rfl
noncomputable def Ky:Code:=loopAt Tryz.f121 0
def Wst (kw:Nat) (x:W8) (sv:Value) (n:Int) (h:H):Prop:=h.blk kw=some (.cells (AE x.list++[sv,.int .i64 n]) 110 none)
theorem PD {x:W8} {sv:Value} {n:Int} (hs:isOne sv=true):(AE x.list++[sv,.int .i64 n]).all isOne=true:=by
 rw[J4,CC];simp only[V3,hs,List.all_nil];rfl
theorem VT {kw:Nat} {x:W8} {sv:Value} {n:Int} {h:H} (w:Wst kw x sv n h) (hs:isOne sv=true):h.cells E (own kw) 8=some (AE x.list):=by
 have h1:=AG (E:=E) w (n:=10) rfl (PD hs);have h2:=BD h1 (m:=0) (l:=8) (by decide);rw[DA] at h2;exact h2
theorem Gt {kw:Nat} {x:W8} {sv:Value} {n:Int} {h:H} (w:Wst kw x sv n h) (hs:isOne sv=true):h.cell E (aadd (own kw) 8)=some sv:=by
 rw[Aq w];exact YU hs
theorem VV {kw:Nat} {x:W8} {sv:Value} {n:Int} {h:H} (w:Wst kw x sv n h):h.cell E (aadd (own kw) 9)=some (.int .i64 n):=by
 rw[Aq w];rfl
theorem AAs {kw:Nat} {x:W8} {sv:Value} {n:Int} {h:H} (w:Wst kw x sv n h) (z:W8):AO tab 105 (own kw) (.agg ⟨AE z.list⟩) h=some (h.aa kw (.cells (AE z.list++[sv,.int .i64 n]) 110 none)):=by
 have:=CX (o:=0) (vs:=AE z.list) w (by simp[AE,W8.list]) (by simp[AE,W8.list]) (CC _);rw[DA] at this;unfold AO;rw[IG];exact this
theorem KO {kw:Nat} {x:W8} {sv:Value} {n:Int} {h:H} (w:Wst kw x sv n h) {b:Option Addr} {l c:Nat}:AO tab 44 (aadd (own kw) 8) (.slice b l c) h=some (h.aa kw (.cells (AE x.list++[.slice b l c,.int .i64 n]) 110 none)):=
 Aj GD rfl w rfl rfl (by simp[AE,W8.list]) rfl
theorem AAt {kw:Nat} {x:W8} {sv:Value} {n m:Int} {h:H} (w:Wst kw x sv n h):AO tab 3 (aadd (own kw) 9) (.int .i64 m) h=some (h.aa kw (.cells (AE x.list++[sv,.int .i64 m]) 110 none)):=
 Aj ACd rfl w rfl rfl (by simp[AE,W8.list]) rfl
theorem Di {h:H} {v:Value} {bs:List UInt8} (b:Byt E h v bs):isOne v=true:=by
 obtain⟨a,c,rfl⟩:=b.slice;rfl
theorem Hz {h:H} {v:Value} {bs:List UInt8} (b:Byt E h v bs):∃ a l c,v=.slice a l c:=by
 obtain⟨a,c,rfl⟩:=b.slice;exact⟨_,_,_,rfl⟩
theorem ACw {x:W8} {sv:Value} {n:Int} (hs:∃ a l c,sv=.slice a l c):∀ v∈AE x.list++[sv,.int .i64 n],∀ c:Int,v≠.int .u8 c:=by
 obtain⟨a,l,c,rfl⟩:=hs;intro v hv c' e;subst e;simp[AE,W8.list] at hv
theorem GF {kw:Nat} {x:W8} {sv:Value} {n:Int} {h:H} (w:Wst kw x sv n h) (hs:∃ a l c,sv=.slice a l c):∀ xs ty rt,h.blk kw=some (.cells xs ty rt)->rt=none/\∀ v∈xs,∀ c:Int,v≠.int .u8 c:=by
 intro xs ty rt hb;rw[w] at hb;cases hb;exact⟨rfl,ACw hs⟩
structure Bl (E:Env) (g G:H) (kw l base:Nat) (n:Int) (r0:EO) (x:W8) (bs:List UInt8) (h:H):Prop where
 fit:Fit h
 mod:Mod (fun j=>j=kw\/g.next<=j) g h
 keep:Gm (fun j=>j=kw\/j=l) G h
 wk:∃ sv,Wst kw x sv n h/\Tl E 5 base h sv bs
 bl:h.blk l=some (.loop r0)
theorem Ub (hI:∀ args h,I 121 args h=none) {g G:H} {kw l base k1:Nat} {n:Int} {r0:EO} (hgb:g.next<=base) (nl:kw≠l) (n1:k1≠kw) (n2:k1≠l) (hk1:G.blk k1=some (.cells [.pointer (some (own kw))] 149 none))
  (hround:∀ x bs h v blk,Bl E g G kw l base n r0 x bs h->blk.length=64->Byt E h v blk->∃ m h',(ev tab E I m).round l [v] h=some (.bool true,h')/\Bl E g G kw l base n r0 (taken x blk) bs h') :
  ∀ (r:Nat) (x:W8) (bs:List UInt8) (A0:Ac) (h:H),bs.length<64*(r+1)->bs.length<=1000000->A0.n=31->A0.defers=[]->A0.get 0=.func (.yield l) ⟨[]⟩ ⟨[]⟩->A0.get 1=.pointer (some (own k1))->Bl E g G kw l base n r0 x bs h->
   Wc tab E I ⟨121,none⟩ (.loop Ky) A0 h (fun ex A' h'=>ex=.exit 0/\A'.n=31/\A'.defers=[]/\Bl E g G kw l base n r0 (takens r x bs).1 (takens r x bs).2 h'):=by
 intro r;induction r with
 | zero=>
  intro x bs A0 h hb hb6 n0 d0 q0 q1 B;obtain⟨sv,w,T⟩:=B.wk;have l1:h.cell E (own k1)=some (.pointer (some (own kw))):=BJ (B.keep.blk _ _ (by omega) hk1);have l8:=Gt (E:=E) w (Di T.1);have ln:=Ln T.1;have e1:decide ((bs.length:Int)>=64)=false:=decide_eq_false (by omega);apply Wc.loop;simp only[Ky,loopAt,loops,Tryz.f121,W0,V0,X0,U2,Q2];refine Vwz (Z9 n0 q0 q1 @Zx @Hx @l1 @l8 @ln e1) ?_;exact⟨rfl,by simp +decide only[Gz,n0],by simp +decide only[Gz,d0],B⟩
 | succ r ih=>
  intro x bs A0 h hb hb6 n0 d0 q0 q1 B;obtain⟨sv,w,T⟩:=B.wk;have l1:h.cell E (own k1)=some (.pointer (some (own kw))):=BJ (B.keep.blk _ _ (by omega) hk1);have l8:=Gt (E:=E) w (Di T.1);have ln:=Ln T.1;rw[takens];by_cases c:64<=bs.length;rotate_left
  ·rw[if_neg c];have e1:decide ((bs.length:Int)>=64)=false:=decide_eq_false (by omega);apply Wc.loop;simp only[Ky,loopAt,loops,Tryz.f121,W0,V0,X0,U2,Q2];refine Vwz (Z9 n0 q0 q1 @Zx @Hx @l1 @l8 @ln e1) ?_;exact⟨rfl,by simp +decide only[Gz,n0],by simp +decide only[Gz,d0],B⟩
  rw[if_pos c];have e1:decide ((bs.length:Int)>=64)=true:=decide_eq_true (by omega);obtain⟨bv,hfr,hbv⟩:=T.front GD (m:=64) (by decide) c;have hfr:∀ h',Av tab 44 sv none (some (.int .i64 64)) none h'=some (bv,h'):=hfr;obtain⟨sv',q,hcut,hql,fq,gq,nq,Tq,mq⟩:=T.cut B.fit GD (m:=64) (by decide) c;have hcut:Av tab 44 sv (some (.int .i64 64)) none none (fresh h)=some (sv',q):=hcut;have wq:Wst kw x sv n (back h q):=gq _ _ w;obtain⟨a',c',hsv'⟩:=Tq.1.slice;have st:=KO (h:=fresh (back h q)) (show Wst kw x sv n (fresh (back h q)) from wq) (b:=a') (l:=(bs.drop 64).length) (c:=c');rw[<- hsv'] at st;have hkq:=fq.lt wq;have M1:=mq _ _ hgb B.mod;have m2:=(Mod.refl (M:=fun j=>j=kw) fq).aa (B:=.cells (AE x.list++[sv',.int .i64 n]) 110 none) rfl rfl hkq;have w2:Wst kw x sv' n _:=AD (h:=back h q) (k:=kw) (B:=.cells (AE x.list++[sv',.int .i64 n]) 110 none) rfl;have T2:Tl E 5 base ((back h q).aa kw (.cells (AE x.list++[sv',.int .i64 n]) 110 none)) sv' (bs.drop 64):=Tq.keep (GF wq (Hz T.1)) (fun j B hj hB=>m2.blk j B hj hB);have hbv2:Byt E ((back h q).aa kw (.cells (AE x.list++[sv',.int .i64 n]) 110 none)) bv (bs.take 64):=(hbv.grow gq).keep (fun xs ty rt h=>(GF wq (Hz T.1) xs ty rt h).2) (fun j B hj hB=>m2.blk j B hj hB);have B2:Bl E g G kw l base n r0 x (bs.drop 64) ((back h q).aa kw (.cells (AE x.list++[sv',.int .i64 n]) 110 none)):=⟨m2.fit,M1.trans (m2.sub fun j hj=>.inl hj),⟨fun j B' hj hB=>m2.blk j B' (fun e=>hj (.inl e)) (gq _ _ (B.keep.blk j B' hj hB)),Y0 B.keep.next (Y0 nq m2.next)⟩,⟨sv',w2,T2⟩,m2.blk _ _ (fun e=>nl e.symm) (gq _ _ B.bl)⟩;have hl64:(bs.take 64).length=64:=by rw[C5];omega
  obtain⟨m,h3,hcr,B3⟩:=hround _ _ _ bv (bs.take 64) B2 hl64 hbv2;generalize hh2:(back h q).aa kw (.cells (AE x.list++[sv',.int .i64 n]) 110 none)=h2 at hcr;apply Wc.loop;simp only[Ky,loopAt,loops,Tryz.f121,W0,V0,X0,U2,Q2]
  repeat' (first|(with_reducible apply Wc.seq)|refine Wc.block ?_)
  refine Voz 1 (Z9 n0 q0 q1 @Zx @Hx @l1 @l8 @ln e1) ?_
  repeat' (first|(with_reducible apply Wc.seq)|refine Wc.block ?_)
  (refine W2 (by simp +decide only[Cz,n0,q0,q1,e1];try with_reducible rfl) (fun hb=>?_) (fun hb=>?_)<;>try contradiction)
  refine Wc.skip ?_
  repeat' (first|(with_reducible apply Wc.seq)|refine Wc.block ?_)
  refine Voz 1 (Z8 n0 q0 q1 @Zx @Hx @l1 @l8 @hfr) ?_
  repeat' (with_reducible apply Wc.seq)
  refine Wc.ao 1 (by kernel_rfl) ?_
  (iterate 6 refine Ugz (Z7 n0 q0 q1 @Zx @Hx @l1 @l8) ?_)
  refine FQ.join (x:=sv') rfl (by kernel_rfl) (by simp +decide only[Oz,n0,hcut]) hql ?_
  (iterate 3 refine Ugz (Z3 n0 @Zx @Hx) ?_)
  refine FQ.aa (k:=kw) rfl rfl hkq (by simp +decide only[Oz,n0,Hx,st];with_reducible rfl) ?_;rw[hh2];refine FQ.nil ⟨?_,?_⟩
  ·exact Ah [10] 11 rfl rfl (by kernel_rfl)
  dsimp only;refine Vnz m (Z3 n0 q0 @hcr) ?_;refine (ih (taken x (bs.take 64)) (bs.drop 64) _ h3 (by rw[Y3];omega) (by rw[Y3];omega) ?_ ?_ ?_ ?_ B3)
  ·simp +decide only[Gz,n0]
  ·simp +decide only[Gz,d0]
  ·simp +decide only[Gz,n0,q0]
  ·simp +decide only[Gz,n0,q1]
end Go.Proofs.YtofijpbmbmbnhaaGreatDoor
