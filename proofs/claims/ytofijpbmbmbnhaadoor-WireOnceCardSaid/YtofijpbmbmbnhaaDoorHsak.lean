/- The program's reader: an item's number, its text. -/
import Derived.Test.YtofijpbmbmbnhaaDoorHsaj
set_option linter.unusedSimpArgs false
set_option linter.unusedVariables false
set_option maxRecDepth 100000
set_option maxHeartbeats 8000000
namespace Go.Proofs.YtofijpbmbmbnhaaDoor
open Go Go.Hs Go.Proofs
variable {E:Env} {I:Known}
theorem fn117:tab.fn.get 117=some Tryd.f117:=by kernel_rfl
theorem fn119:tab.fn.get 119=some Tryd.f119:=by kernel_rfl
theorem qsl9 {bs:List UInt8} {p q:Nat} (h1:p≤q) (h2:q≤bs.length) {h:H}:aslice tab 9 (.string ⟨⟨bs⟩⟩) (some (.int .i64 (p:Nat))) (some (.int .i64 (q:Nat))) none h=some (.string ⟨⟨(bs.drop p).take (q-p)⟩⟩,h):=by
 have i1:inRange ((q:Nat):Int) (bs.length+1)=true:=by
  show Nat.blt q (bs.length+1)=true
  rw[Nat.blt_eq];omega
 have i2:inRange ((p:Nat):Int) (q+1)=true:=by
  show Nat.blt p (q+1)=true
  rw[Nat.blt_eq];omega
 unfold aslice
 rw[qty9]
 simp only[abound,i1,i2,Int.toNat_natCast]
def PartQ {α:Type} (k kx:Nat) (bs:List UInt8) (r:Rd α) (F:α→List Value) (v:Value) (g:H):Prop:=match r with
 | .ok m p it=>v=.bool true∧Src k bs p 0 it g∧g.blk kx=some (.cells (F m) 25 none)
 | .bad p e=>v=.bool false∧∃ it,Src k bs p e it g
theorem part117 (hI:∀ f args h,(f=117∨f=118∨f=81)→I f args h=none) {k kx:Nat} {bs:List UInt8} {pos items:Nat} {a0 a1 a2 a3:Value} {g:H} (f:Fit g) (b:Src k bs pos 0 items g) (hx:g.blk kx=some (.cells [a0,a1,a2,a3] 25 none)) (hne:kx≠k) (hp:pos≤bs.length) (hl:bs.length≤1000000) (lv:Value) :
  ∃ n v g',(ev tab E I n).call 117 [.pointer (some (own k)),.pointer (some (own kx)),lv] g=some (v,g')∧(Mod (fun j=>j=k∨j=kx) g g'∧PartQ k kx bs (rdN bs 0 1099511627776 pos items) (fun m=>[a0,.int .i64 (m:Nat),a2,a3]) v g'):=by
 obtain⟨nf,v,g1,c,u,x,rfl,m1,hq⟩:=num118 (E:=E) (I:=I) (fun f args h hf=>hI f args h (by rcases hf with h|h<;>simp[h])) f b hp hl 0 1099511627776 (Nat.le_refl _) (by decide)
 have c1:(ev tab E I nf).call 118 [.pointer (some (own k)),.int .i64 0,.int .i64 1099511627776] g=some (.tuple #[u,x],g1):=c
 have hx1:=m1.blk _ _ hne hx
 have lx:kx<g1.next:=m1.fit.lt hx1
 apply Wk (hI _ _ _ (.inl rfl)) fn117 rfl
 intro A0 n0 d0 hA0
 change A0.n=19 at n0
 have q0:A0.get 0=.pointer (some (own k)):=hA0 0 _ rfl
 have q1:A0.get 1=.pointer (some (own kx)):=hA0 1 _ rfl
 have q2:A0.get 2=lv:=hA0 2 _ rfl
 clear hA0
 obtain⟨m,z,rfl,rfl⟩:∃ (m:Nat) (z:Bool),u=.int .i64 (m:Nat)∧x=.bool z:=by
  unfold NumQ at hq
  split at hq
  ·exact⟨_,_,hq.1,hq.2.1⟩
  ·exact⟨0,_,hq.1,hq.2.1⟩
 have s1:astore tab 3 (aadd (own kx) 1) (.int .i64 (m:Nat)) g1=some (g1.setl kx (.cells [a0,.int .i64 (m:Nat),a2,a3] 25 none)):=astore_one qty3 rfl hx1 rfl rfl (by simp) rfl
 have m2:Mod (fun j=>j=k∨j=kx) g (g1.setl kx (.cells [a0,.int .i64 (m:Nat),a2,a3] 25 none)):=(m1.sub (fun _ h=>.inl h)).setl rfl (.inr rfl) lx
 have keep:∀ {p e it},Src k bs p e it g1→Src k bs p e it (g1.setl kx (.cells [a0,.int .i64 (m:Nat),a2,a3] 25 none)):=fun b=>b.mod ((Mod.refl (M:=fun j=>j=kx) m1.fit).setl rfl rfl lx) (fun h=>hne h.symm)
 repeat' (first|with_reducible apply Ws|(apply Wn nf;focus ((repeat ((with_reducible apply Rr rfl);focus ((try simp +decide only[Oy,n0,q0,q1,Qx,Hx,c1,s1]);with_reducible rfl)));with_reducible exact Rn))|(refine W2 (by simp +decide only[Cx,n0,q0,q1];try with_reducible rfl) (fun hb=>?_) (fun hb=>?_)<;>try contradiction)|apply W3|apply W4|apply W5|apply W6)
 refine done_q (v:=.bool z) (.inr rfl) (by simp +decide only[Gs,d0]) rfl (by simp +decide only[Gs,n0]) ⟨m2,?_⟩
 generalize rdN bs 0 1099511627776 pos items=r at hq
 cases r
 ·obtain⟨e1,e2,e3⟩:=hq
  cases e2
  simp only[Value.int.injEq,true_and] at e1
  refine⟨rfl,keep e3,?_⟩
  rw[setl_same rfl,e1]
 ·obtain⟨e1,e2,e3⟩:=hq
  cases e2
  exact⟨rfl,_,keep e3⟩
theorem part119 (hI:∀ f args h,(f=119∨f=118∨f=81)→I f args h=none) {k kx:Nat} {bs:List UInt8} {pos items:Nat} {a0 a1 a2 a3:Value} {g:H} (f:Fit g) (b:Src k bs pos 0 items g) (hx:g.blk kx=some (.cells [a0,a1,a2,a3] 25 none)) (hne:kx≠k) (hp:pos≤bs.length) (hl:bs.length≤1000000) (lv:Value) :
  ∃ n v g',(ev tab E I n).call 119 [.pointer (some (own k)),.pointer (some (own kx)),lv] g=some (v,g')∧(Mod (fun j=>j=k∨j=kx) g g'∧PartQ k kx bs (rdText bs pos items) (fun t=>[a0,a1,.string t,a3]) v g'):=by
 obtain⟨nf,v,g1,c,u,x,rfl,m1,hq⟩:=num118 (E:=E) (I:=I) (fun f args h hf=>hI f args h (by rcases hf with h|h<;>simp[h])) f b hp hl 1 4096 (by decide) (by decide)
 have c1:(ev tab E I nf).call 118 [.pointer (some (own k)),.int .i64 1,.int .i64 4096] g=some (.tuple #[u,x],g1):=c
 have hx1:=m1.blk _ _ hne hx
 have lx:kx<g1.next:=m1.fit.lt hx1
 have mm1:Mod (fun j=>j=k∨j=kx) g g1:=m1.sub (fun _ h=>.inl h)
 apply Wk (hI _ _ _ (.inl rfl)) fn119 rfl
 intro A0 n0 d0 hA0
 change A0.n=73 at n0
 have q0:A0.get 0=.pointer (some (own k)):=hA0 0 _ rfl
 have q1:A0.get 1=.pointer (some (own kx)):=hA0 1 _ rfl
 have q2:A0.get 2=lv:=hA0 2 _ rfl
 clear hA0
 have e0:rdText bs pos items=match rdN bs 1 4096 pos items with|.bad p e=>.bad p e|.ok n p items=>if bs.length-p<n then .bad bs.length 4 else .ok ⟨⟨(bs.drop p).take n⟩⟩ (p+n) items:=rfl
 rw[e0]
 generalize hr:rdN bs 1 4096 pos items=r at hq
 cases r with
 | bad p e=>
  obtain⟨rfl,rfl,b1⟩:=hq
  repeat' (first|with_reducible apply Ws|(apply Wn nf;focus ((repeat ((with_reducible apply Rr rfl);focus ((try simp +decide only[Oy,n0,q0,q1,Qx,Hx,c1]);with_reducible rfl)));with_reducible exact Rn))|(refine W2 (by simp +decide only[Cx,n0,q0,q1];try with_reducible rfl) (fun hb=>?_) (fun hb=>?_)<;>try contradiction)|apply W3|apply W4|apply W5|apply W6)
  show (Ex.ret=.normal∨Ex.ret=.ret)∧_
  refine done_q (v:=.bool false) (.inr rfl) (by simp +decide only[Gs,d0]) rfl (by simp +decide only[Gs,n0]) ⟨mm1,rfl,_,b1⟩
 | ok m p it=>
  obtain⟨rfl,rfl,b1⟩:=hq
  obtain⟨r1,r2,r3,r4,r5⟩:=rdN_ok hr
  have kl:k<g1.next:=m1.fit.lt b1
  have w1:IntKind.i64.wrap ((bs.length:Int)-(p:Int))=((bs.length-p:Nat):Int):=by rw[wrap64 (by omega) (by omega)];omega
  have w2:IntKind.i64.wrap ((p:Int)+(m:Int))=((p+m:Nat):Int):=by rw[wrap64 (by omega) (by omega)];omega
  obtain⟨c0,c2,_,_⟩:=b1.at (E:=E)
  repeat' (first|with_reducible apply Ws|(apply Wn nf;focus ((repeat ((with_reducible apply Rr rfl);focus ((try simp +decide only[Oy,n0,q0,q1,Qx,Hx,c1]);with_reducible rfl)));with_reducible exact Rn))|(refine W2 (by simp +decide only[Cx,n0,q0,q1];try with_reducible rfl) (fun hb=>?_) (fun hb=>?_)<;>try contradiction)|apply W3|apply W4|apply W5|apply W6)
  refine Wc.drawC 1 (by kernel_rfl) ?_
  by_cases h1:bs.length-p<m
  ·have e1:decide (((bs.length-p:Nat):Int)<(m:Int))=true:=by simp;omega
   obtain⟨nf2,g',ck,mf,b'⟩:=fail81 (E:=E) (I:=I) (fun args h=>hI _ args h (.inr (.inr rfl))) m1.fit.fresh (show Src k bs p 0 it (fresh g1) from b1) 4 bs.length
   obtain⟨m',_,hn,hl⟩:=Mod.back m1.fit mf
   (iterate 15 ((first|apply Fp rfl rfl rfl|apply FC.new rfl rfl);focus ((try simp +decide only[Oy,n0,q0,Qx,Hx,c0,c2,w1,e1]);with_reducible rfl)))
   refine FC.nil ?_
   repeat' (first|with_reducible apply Ws|(apply Wp;focus ((repeat ((with_reducible apply Rr rfl);focus ((try simp +decide only[Oy,n0]);with_reducible rfl)));with_reducible exact Rn))|(refine W2 (by simp +decide only[Cx,n0];try with_reducible rfl) (fun hb=>?_) (fun hb=>?_)<;>try contradiction)|apply W3|apply W4|apply W5|apply W6)
   refine Wc.drawQ nf2 (by kernel_rfl) ?_
   (iterate 9 ((first|apply Qp rfl rfl rfl|apply FQ.new rfl rfl);focus ((try simp +decide only[Oy,n0,q0,Qx,Hx,c0]);with_reducible rfl)))
   refine FQ.mod (h1:=g') (x:=.bool false) rfl rfl (by simp +decide only[Oy,n0,q0,Qx,Hx,ck]) ?_
   (iterate 1 ((first|apply Qp rfl rfl rfl|apply FQ.new rfl rfl);focus ((try simp +decide only[Oy,n0,q0]);with_reducible rfl)))
   refine FQ.nil ⟨?_,?_⟩
   ·exact allMeet_but0 [9] 11 rfl rfl (by kernel_rfl)
   refine Wc.ret ?_
   show (Ex.ret=.normal∨Ex.ret=.ret)∧_
   refine done_q (v:=.bool false) (.inr rfl) (by simp +decide only[Gs,d0]) rfl (by simp +decide only[Gs,n0]) ⟨mm1.trans (m'.sub fun _ h=>.inl h),?_⟩
   simp only[if_pos h1]
   exact⟨rfl,_,b'.back⟩
  ·have e1:decide (((bs.length-p:Nat):Int)<(m:Int))=false:=by simp;omega
   have sl:=qsl9 (bs:=bs) (p:=p) (q:=p+m) (by omega) (by omega) (h:=fresh g1)
   rw[show p+m-p=m by omega] at sl
   have s1:astore tab 9 (aadd (own kx) 2) (.string ⟨⟨(bs.drop p).take m⟩⟩) (fresh g1)=some ((fresh g1).setl kx (.cells [a0,a1,.string ⟨⟨(bs.drop p).take m⟩⟩,a3] 25 none)):=astore_one (g:=fresh g1) qty9 rfl hx1 rfl rfl (by simp) rfl
   have m2:=(Mod.refl (M:=fun j=>j=kx) m1.fit).setl (B:=.cells [a0,a1,.string ⟨⟨(bs.drop p).take m⟩⟩,a3] 25 none) rfl rfl lx
   have b2:=b1.mod m2 (fun h=>hne h.symm)
   have hx2:(g1.setl kx (.cells [a0,a1,.string ⟨⟨(bs.drop p).take m⟩⟩,a3] 25 none)).blk kx=_:=setl_same rfl
   (iterate 15 ((first|apply Fp rfl rfl rfl|apply FC.new rfl rfl);focus ((try simp +decide only[Oy,n0,q0,Qx,Hx,c0,c2,w1,e1]);with_reducible rfl)))
   refine FC.nil ?_
   repeat' (first|with_reducible apply Ws|(apply Wp;focus ((repeat ((with_reducible apply Rr rfl);focus ((try simp +decide only[Oy,n0]);with_reducible rfl)));with_reducible exact Rn))|(refine W2 (by simp +decide only[Cx,n0];try with_reducible rfl) (fun hb=>?_) (fun hb=>?_)<;>try contradiction)|apply W3|apply W4|apply W5|apply W6)
   refine Wc.drawQ 1 (by kernel_rfl) ?_
   (iterate 18 ((first|apply Qp rfl rfl rfl|apply FQ.new rfl rfl);focus ((try simp +decide only[Oy,n0,q0,q1,Qx,Hx,c0,c2,w2]);with_reducible rfl)))
   refine FQ.pureJ (x:=.string ⟨⟨(bs.drop p).take m⟩⟩) rfl (by simp +decide only[Oy,n0,sl]) ?_
   (iterate 2 ((first|apply Qp rfl rfl rfl|apply FQ.new rfl rfl);focus ((try simp +decide only[Oy,n0,q1,Qx,Hx]);with_reducible rfl)))
   refine FQ.setl (k:=kx) rfl rfl lx (by simp +decide only[Oy,n0,s1];with_reducible rfl) ?_
   refine FQ.nil ⟨?_,?_⟩
   ·exact allMeet_but0 [21] 22 rfl rfl (by kernel_rfl)
   generalize g1.setl kx (.cells [a0,a1,.string ⟨⟨(bs.drop p).take m⟩⟩,a3] 25 none)=g2 at m2 b2 hx2
   obtain⟨c0,c2,_,_⟩:=b2.at (E:=E)
   obtain⟨s3,b3⟩:=b2.pos (p+m)
   have m3:=(Mod.refl (M:=fun j=>j=k) m2.fit).setl (B:=.cells [.string ⟨⟨bs⟩⟩,.int .i64 (p+m:Nat),.int .i64 0,.int .i64 (it:Nat)] 86 none) rfl rfl (m2.fit.lt b2)
   have hx3:=m3.blk _ _ hne hx2
   refine Wc.forget (fun A=>A.n=73∧A.defers=[]∧A.get 0=.pointer (some (own k))∧A.get 7=.int .i64 (m:Nat)) (by and_intros<;>simp +decide only[Gs,n0,d0,q0]<;>rfl) ?_
   rintro A0 ⟨n0,d0,q0,q7⟩
   repeat' (first|with_reducible apply Ws|(apply Wp;focus ((repeat ((with_reducible apply Rr rfl);focus ((try simp +decide only[Oy,n0,q0,q7,Qx,Hx,c2,w2,s3]);with_reducible rfl)));with_reducible exact Rn))|(refine W2 (by simp +decide only[Cx,n0,q0,q7];try with_reducible rfl) (fun hb=>?_) (fun hb=>?_)<;>try contradiction)|apply W3|apply W4|apply W5|apply W6)
   refine done_q (v:=.bool true) (.inr rfl) (by simp +decide only[Gs,d0]) rfl (by simp +decide only[Gs,n0]) ⟨(mm1.trans (m2.sub fun _ h=>.inr h)).trans (m3.sub fun _ h=>.inl h),?_⟩
   simp only[if_neg h1]
   exact⟨rfl,b3,hx3⟩
set_option maxHeartbeats 16000000
theorem fn56:tab.fn.get 56=some Tryd.f56:=by kernel_rfl
theorem fn120:tab.fn.get 120=some Tryd.f120:=by kernel_rfl
noncomputable def loop120:Code:=loopOf Tryd.f120
def zeroL:List Value:=[.int .i64 0,.int .i64 0,.string ⟨#[]⟩,.slice none 0 0]
def ItemQ (E:Env) (k:Nat) (bs:List UInt8) (r:Rd Hs.Item) (lo:Nat) (l:List Value) (z:Value) (g:H):Prop:=match r with
 | .ok t p it=>z=.bool true∧Src k bs p 0 it g∧rep E (only (fun r=>Nat.ble lo r) g) t (.agg ⟨l⟩)
 | .bad p e=>z=.bool false∧l=zeroL∧∃ it,Src k bs p e it g
def Item56 (E:Env) (I:Known) (k:Nat) (bs:List UInt8) (f:Nat):Prop:=∀ (g:H) (pos items:Nat),Fit g→Src k bs pos 0 items g→pos≤bs.length→items≤5000→
 ∃ n v g',(ev tab E I n).call 56 [.pointer (some (own k)),.int .i64 (251-f:Nat)] g=some (v,g')∧(∃ l z,v=.tuple #[.agg ⟨l⟩,z]∧Mod (fun j=>j=k) g g'∧ItemQ E k bs (rdItem bs f pos items) g.next l z g')
def KidsQ (E:Env) (k kx:Nat) (bs:List UInt8) (base:Nat) (a0 a1 a2:Value) (r:Rd (List Hs.Item)) (v:Value) (g:H):Prop:=match r with
 | .ok ks p it=>v=.bool true∧Src k bs p 0 it g∧∃ sl,g.blk kx=some (.cells [a0,a1,a2,sl] 25 none)∧Kol E 25 base g.next g sl ks
 | .bad p e=>v=.bool false∧∃ it,Src k bs p e it g
theorem item_four {E:Env} {h:H} {t:Hs.Item} {l:List Value} (hr:rep E h t (.agg ⟨l⟩)):∃ a b c d,l=[a,b,c,d]∧[a,b,c,d].all isOne=true:=by
 obtain⟨k',m',tx',ks'⟩:=t
 obtain⟨sb',sc',e,_⟩:=rep_slice hr
 cases e
 exact⟨_,_,_,_,rfl,rfl⟩
theorem qbs23 {a b c d:Value} (h1:[a,b,c,d].all isOne=true) {h:H}:abuildSlice tab 23 1 [(0,.agg ⟨[a,b,c,d]⟩)] h=some (.slice (some (own h.next)) 1 1,h.new (.cells [a,b,c,d] 25 none)):=by
 unfold abuildSlice
 simp only[qty23,qtz25]
 rfl
theorem qza23 (b:Option Addr) (n c:Nat):zeroArg tab 23 (.slice b n c)=some false:=by unfold zeroArg;rw[qty23]
theorem part120 (hI:∀ f args h,(f=120∨f=118∨f=81)→I f args h=none) {k kx:Nat} {bs:List UInt8} {fu:Nat} (hfu:fu<250) (R:Item56 E I k bs fu) {pos items:Nat} {a0 a1 a2:Value} {g:H} (f:Fit g) (b:Src k bs pos 0 items g) (hx:g.blk kx=some (.cells [a0,a1,a2,.slice none 0 0] 25 none)) (hne:kx≠k) (hp:pos≤bs.length) (hi:items≤5000) (hl:bs.length≤1000000) :
  ∃ n v g',(ev tab E I n).call 120 [.pointer (some (own k)),.pointer (some (own kx)),.int .i64 (250-fu:Nat)] g=some (v,g')∧(Mod (fun j=>j=k∨j=kx) g g'∧KidsQ E k kx bs g.next a0 a1 a2 (rdKidsN bs (rdItem bs fu) pos items) v g'):=by
 obtain⟨nf,v,g1,c,u,x,rfl,m1,hq⟩:=num118 (E:=E) (I:=I) (fun f args h hf=>hI f args h (by rcases hf with h|h<;>simp[h])) f b hp hl 1 5000 (by decide) (by decide)
 have c1:(ev tab E I nf).call 118 [.pointer (some (own k)),.int .i64 1,.int .i64 5000] g=some (.tuple #[u,x],g1):=c
 have hx1:=m1.blk _ _ hne hx
 have lx:kx<g.next:=f.lt hx
 have mm1:Mod (fun j=>j=k∨j=kx) g g1:=m1.sub (fun _ h=>.inl h)
 have rok:=rdItem_ok bs fu
 have stop:∀ (i n:Nat) (A0:Ac) (h:H),A0.n=44→A0.defers=[]→A0.get 8=.bool false→A0.get 18=.int .i64 (n:Nat)→A0.get 19=.int .i64 (i:Nat)→
   Wc tab E I ⟨120,none⟩ (.loop loop120) A0 h (fun ex A' h'=>ex=.exit 0∧A'.n=44∧A'.defers=[]∧A'.get 8=.bool false∧h'=h):=by
  intro i n A0 h n0 d0 q8 q18 q19
  apply Wc.loop
  simp only[loop120,loopOf,firstLoop,Option.getD,Tryd.f120]
  by_cases h1:i<n
  ·have e1:decide ((i:Int)<(n:Int))=true:=by simp;omega
   repeat' (first|with_reducible apply Ws|(apply Wp;focus ((repeat ((with_reducible apply Rr rfl);focus ((try simp +decide only[Oy,n0,q8,q18,q19,e1]);with_reducible rfl)));with_reducible exact Rn))|(refine W2 (by simp +decide only[Cx,n0,q8,q18,q19,e1];try with_reducible rfl) (fun hb=>?_) (fun hb=>?_)<;>try contradiction)|apply W3|apply W4|apply W5|apply W6)
   exact⟨rfl,by simp +decide only[Gs,n0],by simp +decide only[Gs,d0],by simp +decide only[Gs,n0,q8],rfl⟩
  ·have e1:decide ((i:Int)<(n:Int))=false:=by simp;omega
   repeat' (first|with_reducible apply Ws|(apply Wp;focus ((repeat ((with_reducible apply Rr rfl);focus ((try simp +decide only[Oy,n0,q8,q18,q19,e1]);with_reducible rfl)));with_reducible exact Rn))|(refine W2 (by simp +decide only[Cx,n0,q8,q18,q19,e1];try with_reducible rfl) (fun hb=>?_) (fun hb=>?_)<;>try contradiction)|apply W3|apply W4|apply W5|apply W6)
   exact⟨rfl,by simp +decide only[Gs,n0],by simp +decide only[Gs,d0],by simp +decide only[Gs,n0,q8],rfl⟩
 have key:∀ (r i n p it:Nat) (acc:List Hs.Item) (sl:Value) (A0:Ac) (h:H),r=n-i→i≤n→n≤5000→acc.length=i→p≤bs.length→it≤5000→A0.n=44→A0.defers=[]→A0.get 1=.pointer (some (own kx))→A0.get 2=.int .i64 (250-fu:Nat)→A0.get 8=.bool true→A0.get 9=.func (.func 56) ⟨[.pointer (some (own k))]⟩ ⟨[]⟩→A0.get 18=.int .i64 (n:Nat)→A0.get 19=.int .i64 (i:Nat)→
   Mod (fun j=>j=k∨j=kx) g h→Src k bs p 0 it h→h.blk kx=some (.cells [a0,a1,a2,sl] 25 none)→Kol E 25 g.next h.next h sl acc→rdKidsN bs (rdItem bs fu) pos items=rdKids (rdItem bs fu) r acc p it→
   Wc tab E I ⟨120,none⟩ (.loop loop120) A0 h (fun ex A' h'=>ex=.exit 0∧A'.n=44∧A'.defers=[]∧∃ z,A'.get 8=.bool z∧Mod (fun j=>j=k∨j=kx) g h'∧KidsQ E k kx bs g.next a0 a1 a2 (rdKidsN bs (rdItem bs fu) pos items) (.bool z) h'):=by
  intro r
  induction r with
  | zero=>
   intro i n p it acc sl A0 h hr hin hn hacc hp hit n0 d0 q1 q2 q8 q9 q18 q19 M b bx K he
   have e1:decide ((i:Int)<(n:Int))=false:=by simp;omega
   apply Wc.loop
   simp only[loop120,loopOf,firstLoop,Option.getD,Tryd.f120]
   repeat' (first|with_reducible apply Ws|(apply Wp;focus ((repeat ((with_reducible apply Rr rfl);focus ((try simp +decide only[Oy,n0,q18,q19,e1]);with_reducible rfl)));with_reducible exact Rn))|(refine W2 (by simp +decide only[Cx,n0,q18,q19,e1];try with_reducible rfl) (fun hb=>?_) (fun hb=>?_)<;>try contradiction)|apply W3|apply W4|apply W5|apply W6)
   refine⟨rfl,by simp +decide only[Gs,n0],by simp +decide only[Gs,d0],true,by simp +decide only[Gs,n0,q8],M,?_⟩
   rw[he,rdKids]
   exact⟨rfl,b,sl,bx,K⟩
  | succ r ih=>
   intro i n p it acc sl A0 h hr hin hn hacc hp hit n0 d0 q1 q2 q8 q9 q18 q19 M b bx K he
   have e1:decide ((i:Int)<(n:Int))=true:=by simp;omega
   have fh:=M.fit
   generalize hh1:h.new (.cells (Value.agg #[.int .i64 0,.int .i64 0,.string ⟨#[]⟩,.slice none 0 0]).cells.toList 25 none)=h1
   have t1:Ahd h h1:=by rw[← hh1];exact Ahd.new0 fh rfl
   have b10:h1.blk h.next=some (.cells zeroL 25 none):=by rw[← hh1];exact new_blk_new rfl
   have n1:h1.next=h.next+1:=by rw[← hh1];rfl
   have hkl:k<h.next:=fh.lt b
   have hxl:kx<h.next:=fh.lt bx
   have hgn:=M.next
   obtain⟨nf,v,h2,ck,l,z,rfl,m2,hq⟩:=R h1 p it t1.fit (b.mod (t1.mod (M:=fun _=>False)) (fun h=>h)) hp hit
   have ck':(ev tab E I nf).call 56 [.pointer (some (own k)),.int .i64 ((251-fu:Nat):Int)] h1=some (.tuple #[.agg ⟨l⟩,z],h2):=ck
   have w1:IntKind.i64.wrap (((250-fu:Nat):Int)+1)=((251-fu:Nat):Int):=by rw[wrap64 (by omega) (by omega)];omega
   have w2:IntKind.i64.wrap ((i:Int)+1)=((i+1:Nat):Int):=by rw[wrap64 (by omega) (by omega)];omega
   have b10':=m2.blk _ _ (by omega) b10
   have hl4:l.length=4∧l.all isOne=true:=by
    unfold ItemQ at hq
    split at hq
    ·obtain⟨_,_,_,_,rfl,h⟩:=item_four hq.2.2
     exact⟨rfl,h⟩
    ·rw[hq.2.1];exact⟨rfl,rfl⟩
   have s1:astore tab 25 (own h.next) (.agg ⟨l⟩) h2=some (h2.setl h.next (.cells l 25 none)):=astore_all qty25 b10' (by rw[hl4.1]) (by rw[hl4.1];rfl) hl4.2 (by intro e;rw[e] at hl4;simp at hl4)
   have lh2:h.next<h2.next:=m2.fit.lt b10'
   have m3:=(Mod.refl (M:=fun j=>j=h.next) m2.fit).setl (B:=.cells l 25 none) rfl rfl lh2
   have b10:=setl_same (h:=h2) (k:=h.next) (B:=.cells l 25 none) rfl
   generalize h2.setl h.next (.cells l 25 none)=h3 at s1 m3 b10
   have n3:=m3.next
   have hMk:∀ j,(j=h.next)→(j=k∨j=kx)∨g.next≤j:=fun j hj=>.inr (by have:=M.next;omega)
   have M3:Mod (fun j=>j=k∨j=kx) g h3:=Mod.low f ((M.sub (N:=fun j=>(j=k∨j=kx)∨g.next≤j) (fun _ h=>.inl h)).trans ((t1.mod.trans (m2.sub fun _ h=>.inl (.inl h))).trans (m3.sub hMk))) (fun _ h=>h)
   have bx3:=m3.blk _ _ (by omega) (m2.blk _ _ hne (t1.grows _ _ bx))
   have K1:=K.mod fh (t1.mod (M:=fun _=>False)) (fun _ _ h=>h.elim)
   have K2:=K1.mod t1.fit m2 (fun j B hj hB=>by
    subst hj
    have hb1:=t1.grows _ _ b
    rw[hb1] at hB;cases hB;rfl)
   have hpl3:∀ j B,j=h.next→h2.blk j=some B→B.plain=true:=fun j B hj hB=>by
    subst hj
    rw[b10'] at hB;cases hB;rfl
   have K3:=K2.mod m2.fit m3 hpl3
   rw[rdKids] at he
   apply Wc.loop
   simp only[loop120,loopOf,firstLoop,Option.getD,Tryd.f120]
   generalize hri:rdItem bs fu p it=ri at hq he
   cases ri with
   | bad p' e=>
    obtain⟨rfl,_,it',b'⟩:=hq
    repeat' (first|with_reducible apply Ws|(apply Wn nf;focus ((repeat ((with_reducible apply Rr rfl);focus ((try simp +decide only[Oy,n0,q1,q2,q8,q9,q18,q19,e1,qtz25,hh1,w1,ck',s1,w2,List.cons_append]);with_reducible rfl)));with_reducible exact Rn))|(refine W2 (by simp +decide only[Cx,n0,q1,q2,q8,q9,q18,q19,e1,ck',List.cons_append];try with_reducible rfl) (fun hb=>?_) (fun hb=>?_)<;>try contradiction)|apply W3|apply W4|apply W5|apply W6)
    refine (stop (i+1) n _ h3 ?_ ?_ ?_ ?_ ?_).mono ?_
    ·simp +decide only[Gs,n0]
    ·simp +decide only[Gs,d0]
    ·simp +decide only[Gs,n0]
    ·simp +decide only[Gs,n0,q18]
    ·simp +decide only[Gs,n0]
    ·rintro ex A' h' ⟨rfl,e1,e2,e3,rfl⟩
     refine⟨rfl,e1,e2,false,e3,M3,?_⟩
     rw[he]
     exact⟨rfl,it',b'.mod m3 (by omega)⟩
   | ok t p' it'=>
    obtain⟨rfl,b',hrt⟩:=hq
    obtain⟨va,vb,vc,vd,rfl,hone⟩:=item_four hrt
    obtain⟨o1,o2,o3,o4,o5,o6⟩:=rok.1 _ _ _ _ _ hri
    have b3:=b'.mod m3 (by omega)
    have R3:=rep_grow (only_mod (q:=fun r=>Nat.ble h1.next r) m2.fit m3 hpl3 (fun _ h=>h)) hrt
    obtain⟨sb,hsl⟩:=K3.slice
    generalize hZ:(Blk.cells [.int .i64 0,.int .i64 0,.string ⟨#[]⟩,.slice none 0 0] 25 none)=Z
    have hbs:=qbs23 (a:=.int .i64 0) (b:=.int .i64 0) (c:=.string ⟨#[]⟩) (d:=.slice none 0 0) rfl (h:=fresh h3)
    rw[hZ] at hbs
    generalize hh4:h3.new Z=h4
    have t4:Ahd h3 h4:=by rw[← hh4,← hZ];exact Ahd.new0 m3.fit rfl
    have bz:h4.blk h3.next=some (.cells zeroL 25 none):=by rw[← hh4,← hZ];exact new_blk_new rfl
    have n4:h4.next=h3.next+1:=by rw[← hh4];rfl
    have M4:=M3.ahd t4
    have K4:=K3.mod m3.fit (t4.mod (M:=fun _=>False)) (fun _ _ h=>h.elim)
    have R4:=rep_grow (only_ahd (q:=fun r=>Nat.ble h1.next r) m3.fit t4 (fun _ h=>h)) R3
    obtain⟨sl',qh,happ,RM,AP,qn,hsl',hrx⟩:=kol_room (D:=tab) (E:=E) (t:=23) (t2:=23) (by_:=56) (kx:=h3.next) (c:=1) (lo:=h1.next) (zs:=zeroL) t4.fit.fresh (show g.next≤(fresh h4).next from M4.next) K4.fresh (by omega) qty23 qtz25 rfl (qza23 _ _ _) (show (fresh h4).cells E (own h3.next) 4=some zeroL from blk_cells (E:=E) (h:=h4) bz rfl rfl) rfl rfl (by
     unfold roomy
     simp only[Bool.and_eq_true,Nat.ble_eq];omega)
    have R5:=hrx _ _ (rep_fresh R4)
    have hql:qh.log=[]:=AP.log
    have AB:=AP.back t4.fit
    have RM5:=RM.back t4.fit AP.fit (Nat.le_of_lt (by rw[qn];exact Nat.lt_succ_self _))
    have R6:=rep_grow (back_only t4.fit AP.fit (Nat.le_of_lt (by rw[qn];exact Nat.lt_succ_self _)) _) R5
    have M5:=AB.mod f (Nat.le_refl _) M4
    have bx5:=AB.keep (t4.grows _ _ bx3)
    have b5:=AB.keep (t4.grows _ _ b3)
    have n5:(back h4 qh).next=h4.next+1:=by rw[back_next,qn];rfl
    generalize hh5:back h4 qh=h5 at AB RM5 R6 M5 bx5 b5 n5
    obtain⟨kz,qf,hsz,hput,hql2,hqn2,hkz1,hkz2,K6,f6,ho6,M6⟩:=kol_fill M5.fit RM5 (by omega) R6 hone
    have hkz:kz=h4.next:=by
     rw[hsl'] at hsz
     simp only[Value.slice.injEq,Option.some.injEq,own,Addr.mk.injEq] at hsz
     exact hsz.1.1.symm
    have s2:astore tab 25 (aadd (own kz) (acc.length*4)) (.agg ⟨[va,vb,vc,vd]⟩) (fresh h5)=some qf:=by
     unfold astore
     rw[qty25]
     exact hput
    have MM6:=M6 _ _ f (Nat.le_refl _) M5
    have bx6:(back h5 qf).blk kx=_:=(ho6 kx (by omega)).trans bx5
    have b6:Src k bs p' 0 it' (back h5 qf):=(ho6 k (by omega)).trans b5
    have n6:(back h5 qf).next=h5.next:=by rw[back_next,hqn2]
    generalize hh6:back h5 qf=h6 at K6 f6 MM6 bx6 b6 n6
    have hsl2:sl'=.slice (some (own kz)) (acc.length+1) (acc.length+1):=hsz
    have s3:astore tab 23 (aadd (own kx) 3) sl' (fresh h6)=some ((fresh h6).setl kx (.cells [a0,a1,a2,sl'] 25 none)):=astore_one (g:=fresh h6) qty23 rfl bx6 (by rw[hsl2];rfl) (by rw[hsl2];rfl) (by simp) rfl
    have lx6:kx<h6.next:=f6.lt bx6
    have m7:=(Mod.refl (M:=fun j=>j=kx) f6).setl (B:=.cells [a0,a1,a2,sl'] 25 none) rfl rfl lx6
    have hpl7:∀ j B,j=kx→h6.blk j=some B→B.plain=true:=fun j B hj hB=>by
     subst hj
     rw[bx6] at hB;cases hB;rfl
    have K7:=(K6.mod f6 m7 hpl7).up (top':=(h6.setl kx (.cells [a0,a1,a2,sl'] 25 none)).next) (by rw[setl_next,n6];exact Nat.le_refl _)
    have b7:=b6.mod m7 (fun h=>hne h.symm)
    have M7:Mod (fun j=>j=k∨j=kx) g (h6.setl kx (.cells [a0,a1,a2,sl'] 25 none)):=MM6.trans (m7.sub fun _ h=>.inr h)
    have bx7:(h6.setl kx (.cells [a0,a1,a2,sl'] 25 none)).blk kx=some (.cells [a0,a1,a2,sl'] 25 none):=setl_same rfl
    have lsl:h3.cell E (aadd (own kx) 3)=some sl:=by
     rw[cell_blk bx3]
     rw[hsl];rfl
    have l10:h3.cells E (own h.next) 4=some [va,vb,vc,vd]:=blk_cells b10 rfl hone
    have hir:inRange (((acc.length:Nat)):Int) (acc.length+1)=true:=by
     show Nat.blt acc.length (acc.length+1)=true
     rw[Nat.blt_eq];exact Nat.lt_succ_self _
    have ix:aindexAddr tab 23 sl' (.int .i64 (acc.length:Nat))=some (.pointer (some (aadd (own kz) (acc.length*4)))):=by
     rw[hsl2,qia23 _ _ _ _ hir,Int.toNat_natCast]
    have ln:alen tab 23 sl (fresh h3)=some (.int .i64 (acc.length:Nat)):=by rw[hsl];exact qlen23 _ _ _
    repeat' (first|with_reducible apply Ws|(apply Wn nf;focus ((repeat ((with_reducible apply Rr rfl);focus ((try simp +decide only[Oy,n0,q1,q2,q8,q9,q18,q19,e1,qtz25,hh1,w1,ck',s1,List.cons_append]);with_reducible rfl)));with_reducible exact Rn))|(refine W2 (by simp +decide only[Cx,n0,q1,q2,q8,q9,q18,q19,e1,ck',List.cons_append];try with_reducible rfl) (fun hb=>?_) (fun hb=>?_)<;>try contradiction)|apply W3|apply W4|apply W5|apply W6)
    refine Wc.forget (fun A=>A.n=44∧A.defers=[]∧A.get 1=.pointer (some (own kx))∧A.get 2=.int .i64 (250-fu:Nat)∧A.get 8=.bool true∧A.get 9=.func (.func 56) ⟨[.pointer (some (own k))]⟩ ⟨[]⟩∧A.get 10=.pointer (some (own h.next))∧A.get 18=.int .i64 (n:Nat)∧A.get 19=.int .i64 (i:Nat)) (by and_intros<;>simp +decide only[Gs,n0,d0,q1,q2,q8,q9,q18,q19]<;>rfl) ?_
    rintro A0 ⟨n0,d0,q1,q2,q8,q9,q10,q18,q19⟩
    refine Wc.drawQ 1 (by kernel_rfl) ?_
    (iterate 6 ((first|apply Qp rfl rfl rfl|apply FQ.new rfl rfl);focus ((try simp +decide only[Oy,n0,q1,q10,Qx,Hx,lsl,l10,ln]);with_reducible rfl)))
    refine FQ.new (x:=.slice (some (own h3.next)) 1 1) (B:=Z) rfl rfl (by simp +decide only[Oy,n0,roL,Bool.and_self,hbs,Hx]) ?_
    rw[hh4]
    refine FQ.call (h1:=qh) (x:=sl') rfl rfl (by simp +decide only[Oy,n0,happ]) hql ?_
    rw[hh5]
    (iterate 1 ((first|apply Qp rfl rfl rfl|apply FQ.new rfl rfl);focus ((try simp +decide only[Oy,n0,ix]);with_reducible rfl)))
    refine FQ.mod (h1:=qf) (x:=undef) rfl rfl (by simp +decide only[Oy,n0,s2]) ?_
    rw[hh6]
    (iterate 2 ((first|apply Qp rfl rfl rfl|apply FQ.new rfl rfl);focus ((try simp +decide only[Oy,n0,q1,Qx,Hx]);with_reducible rfl)))
    refine FQ.setl (k:=kx) (B:=.cells [a0,a1,a2,sl'] 25 none) (x:=undef) rfl rfl lx6 (by simp +decide only[Oy,n0,s3]) ?_
    refine FQ.nil ⟨?_,?_⟩
    ·refine allMeet_but [9,12] 13 [(9,10),(9,11),(9,12),(4,12),(5,12),(8,12)] rfl rfl (by kernel_rfl) (fun ii jj ss tt hU e1 e2 => ?_)
     have hlow:kx<h3.next:=m3.fit.lt bx3
     simp only[List.mem_cons,Prod.mk.injEq,List.not_mem_nil,or_false] at hU
     rcases hU with⟨rfl,rfl⟩|⟨rfl,rfl⟩|⟨rfl,rfl⟩|⟨rfl,rfl⟩|⟨rfl,rfl⟩|⟨rfl,rfl⟩
     ·cases e1;cases e2
      exact meets_left (l:=[]) rfl rfl (fun _ _=>by simp) rfl
     ·cases e1;cases e2
      exact meets_left (l:=[]) rfl rfl (fun _ _=>by simp) rfl
     ·cases e1;cases e2
      refine meets_two (a:=kz) (b:=kx) hql2 rfl (by omega) rfl rfl ?_ ?_
      ·simp +decide only[Oy,rootedStore,n0,aadd,own,show (h6.blk kx)=_ from bx6]
      ·show kx<h5.next
       omega
     ·cases e1;cases e2
      exact meets_right (l:=[h.next]) rfl (by simp +decide only[Oy,reads,pureOp,atV,n0,q10,aadd,own]) (fun j hj=>by
       have hj:j∈[kx]:=hj
       obtain rfl:=List.mem_singleton.1 hj
       simp only[List.mem_singleton]
       omega) rfl (fun j hj=>by
       have hj:j∈[kx]:=hj
       obtain rfl:=List.mem_singleton.1 hj
       exact .inl hlow)
     ·cases e1;cases e2
      exact meets_right (l:=[]) rfl rfl (fun _ _=>by simp) rfl (fun j hj=>by
       have hj:j∈[kx]:=hj
       obtain rfl:=List.mem_singleton.1 hj
       exact .inl hlow)
     ·cases e1;cases e2
      exact meets_right (l:=[]) rfl rfl (fun _ _=>by simp) rfl (fun j hj=>by
       have hj:j∈[kx]:=hj
       obtain rfl:=List.mem_singleton.1 hj
       exact .inl (by show _<h5.next;omega))
    repeat' (first|with_reducible apply Ws|(apply Wp;focus ((repeat ((with_reducible apply Rr rfl);focus ((try simp +decide only[Oy,n0,q19,w2]);with_reducible rfl)));with_reducible exact Rn))|(refine W2 (by simp +decide only[Cx,n0,q19];try with_reducible rfl) (fun hb=>?_) (fun hb=>?_)<;>try contradiction)|apply W3|apply W4|apply W5|apply W6)
    refine (ih (i+1) n p' it' (acc++[t]) sl' _ _ (by omega) (by omega) hn (by rw[List.length_append,hacc];rfl) o2 o4 ?_ ?_ ?_ ?_ ?_ ?_ ?_ ?_ M7 b7 bx7 K7 he)
    ·simp +decide only[Gs,n0]
    ·simp +decide only[Gs,d0]
    ·simp +decide only[Gs,n0,q1]
    ·simp +decide only[Gs,n0,q2]
    ·simp +decide only[Gs,n0,q8]
    ·simp +decide only[Gs,n0,q9]
    ·simp +decide only[Gs,n0,q18]
    ·simp +decide only[Gs,n0]
 apply Wk (hI _ _ _ (.inl rfl)) fn120 rfl
 intro A0 n0 d0 hA0
 change A0.n=44 at n0
 have q0:A0.get 0=.pointer (some (own k)):=hA0 0 _ rfl
 have q1:A0.get 1=.pointer (some (own kx)):=hA0 1 _ rfl
 have q2:A0.get 2=.int .i64 (250-fu:Nat):=hA0 2 _ rfl
 clear hA0
 have e0:rdKidsN bs (rdItem bs fu) pos items=match rdN bs 1 5000 pos items with|.bad p e=>.bad p e|.ok n p items=>rdKids (rdItem bs fu) n [] p items:=rfl
 generalize hr:rdN bs 1 5000 pos items=r at hq e0
 cases r with
 | bad p e=>
  obtain⟨rfl,rfl,b1⟩:=hq
  repeat' (first|with_reducible apply Ws|(apply Wn nf;focus ((repeat ((with_reducible apply Rr rfl);focus ((try simp +decide only[Oy,n0,q0,q1,q2,Qx,Hx,c1,roF]);with_reducible rfl)));with_reducible exact Rn))|(refine W2 (by simp +decide only[Cx,n0,q0,q1,q2,roF];try with_reducible rfl) (fun hb=>?_) (fun hb=>?_)<;>try contradiction)|apply W3|apply W4|apply W5|apply W6)
  refine (stop 0 0 _ g1 ?_ ?_ ?_ ?_ ?_).mono ?_
  ·simp +decide only[Gs,n0]
  ·simp +decide only[Gs,d0]
  ·simp +decide only[Gs,n0]
  ·simp +decide only[Gs,n0]
   rfl
  ·simp +decide only[Gs,n0]
   rfl
  ·rintro ex A0 h' ⟨rfl,n0,d0,q8,rfl⟩
   simp only[if_true]
   repeat' (first|with_reducible apply Ws|(apply Wp;focus ((repeat ((with_reducible apply Rr rfl);focus ((try simp +decide only[Oy,n0,q8]);with_reducible rfl)));with_reducible exact Rn))|(refine W2 (by simp +decide only[Cx,n0,q8];try with_reducible rfl) (fun hb=>?_) (fun hb=>?_)<;>try contradiction)|apply W3|apply W4|apply W5|apply W6)
   refine done_q (v:=.bool false) (.inr rfl) (by simp +decide only[Gs,d0]) rfl (by simp +decide only[Gs,n0]) ⟨mm1,?_⟩
   rw[e0]
   exact⟨rfl,_,b1⟩
 | ok n p it=>
  obtain⟨rfl,rfl,b1⟩:=hq
  obtain⟨r1,r2,r3,r4,r5⟩:=rdN_ok hr
  repeat' (first|with_reducible apply Ws|(apply Wn nf;focus ((repeat ((with_reducible apply Rr rfl);focus ((try simp +decide only[Oy,n0,q0,q1,q2,Qx,Hx,c1,roF]);with_reducible rfl)));with_reducible exact Rn))|(refine W2 (by simp +decide only[Cx,n0,q0,q1,q2,roF];try with_reducible rfl) (fun hb=>?_) (fun hb=>?_)<;>try contradiction)|apply W3|apply W4|apply W5|apply W6)
  refine (key n 0 n p it [] (.slice none 0 0) _ g1 rfl (Nat.zero_le _) r3 rfl r2 (by omega) ?_ ?_ ?_ ?_ ?_ ?_ ?_ ?_ mm1 b1 hx1 (Kol.nil _ _ _) e0).mono ?_
  ·simp +decide only[Gs,n0]
  ·simp +decide only[Gs,d0]
  ·simp +decide only[Gs,n0,q1]
  ·simp +decide only[Gs,n0,q2]
  ·simp +decide only[Gs,n0]
  ·simp +decide only[Gs,n0]
  ·simp +decide only[Gs,n0]
  ·simp +decide only[Gs,n0]
   rfl
  ·rintro ex A0 h' ⟨rfl,n0,d0,z,q8,M,hq⟩
   simp only[if_true]
   repeat' (first|with_reducible apply Ws|(apply Wp;focus ((repeat ((with_reducible apply Rr rfl);focus ((try simp +decide only[Oy,n0,q8]);with_reducible rfl)));with_reducible exact Rn))|(refine W2 (by simp +decide only[Cx,n0,q8];try with_reducible rfl) (fun hb=>?_) (fun hb=>?_)<;>try contradiction)|apply W3|apply W4|apply W5|apply W6)
   exact done_q (v:=.bool z) (.inr rfl) (by simp +decide only[Gs,d0]) rfl (by simp +decide only[Gs,n0]) ⟨M,hq⟩
end Go.Proofs.YtofijpbmbmbnhaaDoor
