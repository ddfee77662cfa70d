/- Parse. -/
import Derived.Test.YtofijpbmbmbnhaaGreatDoorHsap
set_option linter.unusedSimpArgs false
set_option linter.unusedVariables false
set_option maxRecDepth 100000
set_option maxHeartbeats 16000000
namespace Go.Proofs.YtofijpbmbmbnhaaGreatDoor
open Go Go.Hs Go.Proofs
variable {E:Env} {I:Aa}
theorem AGW:tab.fn.get 30=some Tryz.f30:=by kernel_rfl
theorem Ze (hI:∀ f args h,(f=30\/f=70\/f=72\/f=106\/f=105\/f=104\/f=102\/f=101\/f=129\/f=130)->I f args h=none) (kp:Kq I) {g:H} {bs:List UInt8} (f:Fit g) (hl:bs.length<=1000000) :
  ∃ n x g',(ev tab E I n).call 30 [.string ⟨⟨bs⟩⟩] g=some (x,g')/\(Mod (fun _=>False) g g'/\AAZ E (ACh bs) x g'):=by
 apply Wk (hI _ _ _ (.inl rfl)) AGW rfl;intro A0 n0 d0 hA0;change A0.n=20 at n0;have q0:A0.get 0=.string ⟨⟨bs⟩⟩:=hA0 0 _ rfl;clear hA0;generalize hh1:g.new (.cells (Value.agg #[.int .i64 0,.int .i64 0,.string ⟨#[]⟩,.slice none 0 0]).cells.toList 24 none)=h1;have t1:Ahd g h1:=by rw[<- hh1];exact Ahd.aj f rfl
 have b2:h1.blk g.next=some (.cells zeroL 24 none):=by rw[<- hh1];exact AA rfl
 have ln:Cp tab 9 (.string ⟨⟨bs⟩⟩) h1=some (.int .i64 (bs.length:Nat)):=ZU _;have st:∀ {h:H} {l:List Value},l.length=4->l.all isOne=true->h.blk g.next=some (.cells zeroL 24 none)->AO tab 24 (own g.next) (.agg ⟨l⟩) h=some (h.aa g.next (.cells l 24 none)):=fun h4 ho hb=>AU DW hb (by rw[h4]) (by rw[h4];rfl) ho (by intro e;rw[e] at h4;simp at h4);have ld:∀ {h:H} {l:List Value},l.length=4->l.all isOne=true->(h.aa g.next (.cells l 24 none)).cells E (own g.next) 4=some l:=fun h4 ho=>AG (AD rfl) h4 ho;unfold ACh;by_cases hlong:65536<bs.length
 ·have e1:decide ((bs.length:Int)>65536)=true:=by simp;omega
  have s1:=st (l:=zeroL) rfl rfl b2;have m1:=(Mod.refl (M:=fun j=>j=g.next) t1.fit).aa (B:=.cells zeroL 24 none) rfl rfl (t1.fit.lt b2);refine Vwz (Z8 n0 q0 @Cc @hh1 @ln e1 @Eh @s1) ?_;rw[if_pos hlong];exact F8 (v:=.agg ⟨zeroL⟩) (x:=.int .i64 0) (y:=.int .i64 11) (.inr rfl) (S0z d0) rfl (show _=Value.pointer (some (own g.next)) by simp +decide only[Gz,n0]) (by rw[qld25,ld rfl rfl]) (S0z n0) (S0z n0) ⟨Mod.low f (t1.mod.trans m1) (fun j hj=>.inr (by omega)),rfl⟩
 have e1:decide ((bs.length:Int)>65536)=false:=by simp;omega
 rw[if_neg hlong];have bu:=ABd (.string ⟨⟨bs⟩⟩) rfl;have bv:=ABc (.string ⟨⟨bs⟩⟩) (.int .i64 0) (.int .i64 0);obtain⟨h2,hh2,t2,b5⟩:=nT t1.fit [.string ⟨#[]⟩,.int .i64 0,.int .i64 0,.int .i64 0] 116;have s5:AO tab 116 (own h1.next) (.agg ⟨[.string ⟨⟨bs⟩⟩,.int .i64 0,.int .i64 0,.int .i64 0]⟩) h2=some (h2.aa h1.next (.cells [.string ⟨⟨bs⟩⟩,.int .i64 0,.int .i64 0,.int .i64 0] 116 none)):=AU Np b5 rfl rfl rfl (by simp);have t3:Ahd h1 (h2.aa h1.next (.cells [.string ⟨⟨bs⟩⟩,.int .i64 0,.int .i64 0,.int .i64 0] 116 none)):=t2.aa rfl (C0 _) (t2.fit.lt b5) t1.fit;have b5:Src h1.next bs 0 0 0 (h2.aa h1.next (.cells [.string ⟨⟨bs⟩⟩,.int .i64 0,.int .i64 0,.int .i64 0] 116 none)):=AD rfl;generalize h2.aa h1.next (.cells [.string ⟨⟨bs⟩⟩,.int .i64 0,.int .i64 0,.int .i64 0] 116 none)=h3 at s5 t3 b5;have b23:=t3.grows _ _ b2;have lt1:=t1.fit.lt b2;obtain⟨n1,v1,h4,c4,l,z,rfl,m4,⟨hl4,ho4⟩,hq⟩:=ABy (E:=E) (I:=I) (fun f args h hf=>hI f args h (by rcases hf with h|h|h|h|h|h|h|h<;>simp[h])) kp hl 250 (C0 _) h3 0 0 t3.fit b5 (C2 _) (by decide);have c4':(ev tab E I n1).call 72 [.pointer (some (own h1.next)),.int .i64 1] h3=some (.tuple #[.agg ⟨l⟩,z],h4):=c4;have rok:=IX (bs:=bs) 250 0 0 (C2 _) (by decide);have fin:∀ (is:Bool) (p:Nat) (e:Int) (it:Nat),z=.bool is->Src h1.next bs p e it h4->p<=bs.length->∀ (l5:List Value) (x y:Int),l5.length=4->l5.all isOne=true->(if is=true then (if p<bs.length then .tuple #[.agg ⟨zeroL⟩,.int .i64 (p:Nat),.int .i64 4] else .tuple #[.agg ⟨l⟩,.int .i64 0,.int .i64 0]) else .tuple #[.agg ⟨zeroL⟩,.int .i64 (p:Nat),.int .i64 e])=Value.tuple #[.agg ⟨l5⟩,.int .i64 x,.int .i64 y]->(∀ h,BL (only (fun r=>Nat.ble h3.next r) h4) h->AAZ E (match rdPI bs 250 0 0 with|.bad p e=>.bad p e|.ok t p items=>if p<bs.length then .bad p 4 else .ok t p items) (.tuple #[.agg ⟨l5⟩,.int .i64 x,.int .i64 y]) h)->
   Wc tab E I ⟨30,none⟩ (match Tryz.f30.body with|some c=>c|none=>.skip) A0 g (fun ex A h=>(ex=.normal\/ex=.ret)/\∃ h2 v,Ay A.defers h=some h2/\ED tab E Tryz.f30 A h2=some v/\(Mod (fun _=>False) g h2/\AAZ E (match rdPI bs 250 0 0 with|.bad p e=>.bad p e|.ok t p items=>if p<bs.length then .bad p 4 else .ok t p items) v h2)):=by
  intro is p e it hz bb hp l5 x y hl5 ho5 hv5 hQ;subst hz;obtain⟨n2,v2,h5,c5,m5,hv2⟩:=SC (E:=E) (I:=I) (fun f args h hf=>hI f args h (by rcases hf with h|h<;>simp[h])) m4.fit bb hp is l hl4 ho4;rw[hv5] at hv2;subst hv2;have b25:=m5.blk _ _ (by omega) (m4.blk _ _ (by omega) b23);have s6:=st hl5 ho5 b25;have m6:=(Mod.refl (M:=fun j=>j=g.next) m5.fit).aa (B:=.cells l5 24 none) rfl rfl (m5.fit.lt b25);have c4f:=(AX (D:=tab) (E:=E) I (E4 n1 n2)).call c4';have c5f:=(AX (D:=tab) (E:=E) I (C4 n1 n2)).call c5;simp only[Tryz.f30];refine Vwz (Z11 n0 q0 @Cc @hh1 @ln e1 @bu @bv @ABJ @hh2 @s5) ?_;refine Vnz (max n1 n2) (Z4 n0 @c4f @c5f @s6) ?_;refine F8 (v:=.agg ⟨l5⟩) (x:=.int .i64 x) (y:=.int .i64 y) (.inr rfl) (S0z d0) rfl (show _=Value.pointer (some (own g.next)) by simp +decide only[Gz,n0]) (by rw[qld25,ld hl5 ho5]) (S0z n0) (S0z n0) ⟨?_,?_⟩
  ·refine Mod.low f (((t1.mod.trans t3.mod).trans ((m4.trans m5).sub (N:=fun j=>g.next<=j) fun j hj=>by omega)).trans (m6.sub fun j hj=>by omega)) (fun j hj=>.inr hj)
  ·refine hQ _ (fun j B hj => ?_);obtain⟨e1,ys,ty,r,o,rfl,e2⟩:=(BN m4.fit).1 hj;refine m6.blk _ _ (fun e => ?_) (m5.blk _ _ (fun e => ?_) e1)
   ·subst e;have:=m4.blk _ _ (by omega) b23;rw[this] at e1;cases e1
   ·subst e;rw[show h4.blk h1.next=_ from bb] at e1;cases e1
 generalize hr:rdPI bs 250 0 0=r at hq fin rok;cases r with
 | bad p e=>
  obtain⟨rfl,it,bb⟩:=hq;exact fin false p e it rfl bb rok.1 zeroL p e rfl rfl (by simp) (fun h _=>rfl)
 | ok t p it=>
  obtain⟨rfl,bb,hrt⟩:=hq;have hp:=rok.2.1;by_cases hlt:p<bs.length
  ·refine fin true p 0 it rfl bb hp zeroL p 4 rfl rfl (by rw[if_pos rfl,if_pos hlt]) (fun h _ => ?_);simp only[if_pos hlt];rfl
  ·refine fin true p 0 it rfl bb hp l 0 0 hl4 ho4 (by rw[if_pos rfl,if_neg hlt]) (fun h hg => ?_);simp only[if_neg hlt];exact⟨l,rfl,AJ hg hrt⟩
end Go.Proofs.YtofijpbmbmbnhaaGreatDoor
namespace Go.Hs
structure Lw (b:Nat) (g g':H):Prop where
 fit:Fit g'
 blk:∀ k B,k<b->g.blk k=some B->g'.blk k=some B
 mark:g'.mark=g.mark
 next:g.next<=g'.next
 chain:∀ r,r<b->g'.chain r=g.chain r
 log:∀ j∈g'.log,j∈g.log\/(b<=j/\j<g.mark)
theorem Lw.trans {b:Nat} {g g' g'':H} (x:Lw b g g') (y:Lw b g' g''):Lw b g g'':=
 ⟨y.fit,fun k B hk hB=>y.blk k B hk (x.blk k B hk hB),y.mark.trans x.mark,Y0 x.next y.next,fun r hr=>(y.chain r hr).trans (x.chain r hr),fun j hj=>by
  rcases y.log j hj with h1|⟨h1,h2⟩
  ·exact x.log j h1
  ·exact .inr ⟨h1,by rw[<- x.mark];exact h2⟩⟩
theorem Xo.lw {b kO:Nat} {e:TypeId} {rt:Option Nat} {g g':H} (x:Xo b e kO rt g g') (hk:b<=kO):Lw b g g':=
 ⟨x.fit,fun k B hb hB=>x.keep k B (by omega) hB,x.mark,x.next,x.chain,fun j hj=>by
  rcases x.log j hj with h1|⟨rfl,h2⟩
  ·exact .inl h1
  ·exact .inr ⟨hk,h2⟩⟩
theorem Lw.mod {g0 g g':H} (f0:Fit g0) (a:Mod (fun _=>False) g0 g) (l:Lw g0.next g g'):Mod (fun _=>False) g0 g':=
 ⟨l.fit,fun k B hk hB=>l.blk k B (f0.lt hB) (a.blk k B hk hB),l.mark.trans a.mark,Y0 a.next l.next,fun r hr=>(l.chain r hr).trans (a.chain r hr),fun j hj=>by
  rcases l.log j hj with h1|⟨h1,h2⟩
  ·exact a.log j h1
  ·rw[a.mark] at h2;have:=f0.ok.2
   omega⟩
theorem QW {D:Tab} {E:Env} {base:Nat} {pt:TypeId} {g:H} {s:Value} {bs:List UInt8} {ro:Option Nat} {i6 i7 j7:Nat} {i8 j8:Option Value} {i9 j9:Bool} {td:TD} (f:Fit g) (a:Ap2 g base 5 1 s bs.length (bytesV bs) ro) (hc:∀ r,ro=some r->∀ j∈g.chain r,base<=j) (hbs:bs≠[]) (hl:bs.length<=1000000000)
  (hpt:D.ty.get pt=some ⟨.pointer 5,i6,i7,i8,i9⟩) (h5:D.ty.get 5=some ⟨td,1,j7,j8,j9⟩) :
  ∃ k q,s=.slice (some (own k)) bs.length bs.length/\Fg s=some (.pointer (some (own k)))/\Ct D E pt (.pointer (some (own k))) (.int .i64 (bs.length:Nat)) (fresh g)=some (.string ⟨⟨bs⟩⟩,q)/\Lw base g (back g q)/\(∀ k B,g.blk k=some B->B.plain=true->(back g q).blk k=some B):=by
 obtain⟨n,hn⟩:∃ n,bs.length=n+1:=⟨bs.length-1,by have:=V6.2 hbs;omega⟩;rcases a with⟨h0,_⟩|⟨k,r,rfl,hb,hlen,h1,hbr,hrx,hch,rfl⟩
 ·omega
 have hcs:(fresh g).cells E (own k) (n+1)=some (bytesV bs):=by
  rw[<- hn];exact AG (h:=fresh g) hb (AM bs) (BF bs)
 have hble:Nat.ble n 70368744177664=true:=by rw[Z0];omega
 have hb':(fresh g).blk (own k).block=some (.cells (bytesV bs) 5 (some (r,0))):=hb;have hsp:(own k).spot=some 0:=rfl;refine⟨k,({ fresh g with chains:=g.chains.set r [] }:H).note (g.chain r),rfl,?_,?_,?_⟩
 ·rw[hn];rfl
 ·rw[hn];show Ct D E pt (.pointer (some (own k))) (.int .i64 (.ofNat (n+1))) (fresh g)=_;unfold Ct;simp only[hpt,hsp,hb',h5,V1,hcs,hble,Ca];rfl
 generalize hq:({ fresh g with chains:=g.chains.set r [] }:H).note (g.chain r)=q;have hqn:q.next=g.next:=by rw[<- hq,H.ai];rfl
 have hqd:q.dyn=g.dyn:=by rw[<- hq,H.au];rfl
 have hqc:∀ r',r'≠r->q.chain r'=g.chain r':=by
  intro r' hr';rw[<- hq];unfold H.chain;rw[DZ];simp only;rw[T.get_set_ne _ _ _ _ hr']
 have hql:∀ j∈q.log,j∈g.chain r:=by
  intro j hj;rw[<- hq] at hj;rcases Hr hj with h2|⟨h2,_⟩
  ·cases h2
  ·exact h2
 have hqm:q.mark=g.next:=by rw[<- hq,EJ];rfl
 have hfq:Fit q:=⟨fun j hj=>by rw[hqd];exact f.free j (by rw[hqn] at hj;exact hj),fun j ys ty r' p hd=>by rw[hqn];rw[hqd] at hd;exact f.ok.1 _ _ _ _ _ hd,by rw[hqm,hqn];exact C0 _⟩;have keep:∀ j B,g.blk j=some B->(∀ ys u p',B≠.cells ys u (some (r,p')))->q.blk j=some B:=by
  intro j B hB hne;rw[<- hB];refine Ar (by rw[hqd]) (fun ys u r' p' hd => ?_);have hrr:r'≠r:=by
   intro e;subst e;have:=H.ae hB;rw[hd] at this;exact hne _ _ _ (Option.some.inj this).symm
  rw[hqc r' hrr]
 refine⟨⟨Gh f hfq (by rw[hqn];exact C0 _),fun j B hj hB => ?_,Gg _ _,by rw[Au,hqn];exact C0 _,fun r' hr' => ?_,fun j hj => ?_⟩,fun j B hB hp => ?_⟩
 ·rw[BQ];refine keep j B hB (fun ys u p' e => ?_);subst e;have hj2:j∈g.chain r:=by
   unfold H.blk at hB;rw[H.ae (h:=g) (k:=j) (B:=.cells ys u (some (r,p'))) (by unfold H.blk;exact hB)] at hB;simp only at hB;split at hB
   ·next hc=>simpa using hc
   ·cases hB
  have:=hc r rfl j hj2;omega
 ·rw[DP];exact hqc r' (by omega)
 ·unfold back at hj;rcases Hr hj with h2|⟨h2,h3⟩
  ·exact .inl h2
  ·exact .inr ⟨hc r rfl j (hql j h2),h3⟩
 ·rw[BQ];refine keep j B hB (fun ys u p' e => ?_);subst e;simp[Blk.plain] at hp
end Go.Hs
namespace Go.Proofs.YtofijpbmbmbnhaaGreatDoor
open Go Go.Hs Go.Proofs
variable {E:Env} {I:Aa}
theorem AGM:tab.fn.get 63=some Tryz.f63:=by kernel_rfl
noncomputable def Tf:Code:=loopOf Tryz.f63
theorem V8 {a b:Value} (h1:[a,b].all isOne=true) (h2:a.cells.toList=[a]) (h3:b.cells.toList=[b]) {h:H}:AH tab 173 2 [(0,a),(1,b)] h=some (.slice (some (own h.next)) 2 2,h.new (.cells [a,b] 44 none)):=by
 unfold AH;simp only[VZ,qtz31,afill,h2,h3];rfl
theorem V7 {a b c d:Value} (h2:a.cells.toList=[a]) (h3:b.cells.toList=[b]) (h4:c.cells.toList=[c]) (h5:d.cells.toList=[d]) {h:H}:AH tab 173 4 [(0,a),(1,b),(2,c),(3,d)] h=some (.slice (some (own h.next)) 4 4,h.new (.cells [a,b,c,d] 44 none)):=by
 unfold AH;simp only[VZ,qtz31,afill,h2,h3,h4,h5];rfl
theorem ZW (s:ByteArray) {h:H}:AQ tab E 9 44 (.string s) h=some (.slice (some (own h.next)) s.data.toList.length s.data.toList.length,h.af (bytesV s.data.toList) 5):=by
 unfold AQ;simp only[qty9,qty31,qty5]
theorem LM {g:H} {v:Value} {bs:List UInt8} (b:Byt E g v bs):isOne v=true/\v.cells.toList=[v]:=by
 obtain⟨a,c,rfl⟩:=b.slice;exact⟨rfl,rfl⟩
def Ri (tx:ByteArray):List UInt8:=if tx.data.toList=[] then [] else DE tx.data.toList.length++tx.data.toList
def Yd (ks:List Hs.Item):List UInt8:=if ks.length=0 then [] else DE ks.length++encL ks
theorem UP (k n:Int) (tx:ByteArray) (ks:List Hs.Item):EQ (.mk k n tx ks)=UInt8.ofNat (k.toNat+(if tx.data.toList=[] then 0 else 64)+(if ks.length=0 then 0 else 128))::(DE n.toNat++(Ri tx++Yd ks)):=by
 rw[EQ];rfl
theorem Mi:∀ {ks:List Hs.Item} {i:Nat} (hi:i<ks.length),encL (ks.take (i+1))=encL (ks.take i)++EQ ks[i]
 | [],i,hi=>by simp at hi
 | x::xs,0,_=>by simp[encL]
 | x::xs,i+1,hi=>by
  rw[U6,U6,encL,encL,Mi (by simpa using hi),E1];rfl
theorem OQ:∀ (ks:List Hs.Item) (i:Nat),(encL (ks.take i)).length<=(encL ks).length
 | [],i=>by simp
 | x::xs,0=>by simp[encL]
 | x::xs,i+1=>by
  rw[U6,encL,encL,D0,D0];have:=OQ xs i;omega
theorem _root_.Go.Hs.Con.bytO {tb:TypeId} {base n lo:Nat} {g:H} {sl:Value} {bs:List UInt8} (K:Con tb base n g sl bs) (f:Fit g) (hlo:lo<=base):Byt E (only (fun r=>Nat.ble lo r) g) sl bs:=by
 obtain⟨k,rest,rfl,hb,hn,ho,_,hk⟩:=K;have hb':(only (fun r=>Nat.ble lo r) g).blk k=some (.cells (bytesV bs++rest) tb (some (k,0))):=(BN f).2 ⟨hb,_,_,_,_,rfl,by rw[Z0];omega⟩;refine .inr ⟨own k,n,rfl,by omega,?_⟩;have h1:=AG (E:=E) hb' rfl (by rw[J4,BF,ho];rfl);have h2:=BD h1 (m:=0) (l:=bs.length) (by rw[D0,AM];omega);rw[DA,F2] at h2;rw[h2];congr 1;rw[<- AM bs,List.take_left]
theorem AEW (hI:∀ f args h,(f=63\/f=90\/f=91\/f=98\/f=120)->I f args h=none):∀ (z:Nat) (t:Hs.Item) (xv:Value) (h:H),isz t<=z->rep E h t xv->Fit h->Bu t->isz t<=5000->(EQ t).length<=1000000->
  ∃ n v h',(ev tab E I n).call 63 [xv] h=some (v,h')/\(Mod (fun _=>False) h h'/\Byt E (only (fun r=>Nat.ble h.next r) h') v (EQ t)):=by
 have hI97:∀ args h,I 91 args h=none:=fun args h=>hI _ args h (by simp);have hI96:∀ f args h,(f=90\/f=98\/f=120)->I f args h=none:=fun f args h hf=>hI f args h (by rcases hf with h|h|h<;>simp[h]);intro z;induction z with
 | zero=>
  intro t xv h hz;have:1<=isz t:=by obtain⟨_,_,_,_⟩:=t;rw[isz];omega
  omega
 | succ z IH=>
 intro t xv h hz hr f hg h5 hlen;obtain⟨k,n,tx,ks⟩:=t;rw[UP,I1,D0,D0] at hlen;rw[isz] at hz h5;rw[Bu] at hg;obtain⟨g1,g2,g3,g4,g5,g6⟩:=hg;obtain⟨sb,sc,rfl,hsk⟩:=Ao hr;have hkl:=Dw ks;apply Wk (hI _ _ _ (.inl rfl)) AGM rfl;intro A0 n0 d0 hA0;change A0.n=56 at n0;have q0:A0.get 0=.agg ⟨[.int .i64 k,.int .i64 n,.string tx,.slice sb ks.length sc]⟩:=hA0 0 _ rfl;clear hA0;obtain⟨h1,hh1,t1,b1⟩:=nA f [.int .i64 k,.int .i64 n,.string tx,.slice sb ks.length sc] 24;have M1:Mod (fun _=>False) h h1:=t1.mod;have cel:∀ {g:H},Mod (fun _=>False) h1 g->g.cell E (own h.next)=some (.int .i64 k)/\g.cell E (aadd (own h.next) 1)=some (.int .i64 n)/\g.cell E (aadd (own h.next) 2)=some (.string tx)/\g.cell E (aadd (own h.next) 3)=some (.slice sb ks.length sc):=fun m=>by
  have b:=m.av _ _ b1;exact⟨BJ b,Aq b 1,Aq b 2,Aq b 3⟩
 obtain⟨c0,c1,c2,c3⟩:=cel (Mod.refl t1.fit);obtain⟨kn,hkn⟩:∃ m:Nat,k=(m:Int):=⟨k.toNat,by omega⟩;obtain⟨nn,hnn⟩:∃ m:Nat,n=(m:Int):=⟨n.toNat,by omega⟩;subst hkn hnn;rw[M0] at hlen;have w1:IntKind.u8.wrap ((kn:Nat):Int)=((kn:Nat):Int):=Ee (by omega);have w2:IntKind.u8.wrap ((kn:Int)+64)=((kn+64:Nat):Int):=by rw[show ((kn:Int)+64)=((kn+64:Nat):Int) by omega];exact Ee (by omega)
 have en:astr .neq tx.data.toList []=some (.bool (!(tx.data.toList == []))):=rfl;generalize hh0:(if tx.data.toList=[] then 0 else 64:Nat)=ht at hlen ⊢;refine Voz 1 (Z3 n0 q0 @hh1) ?_;refine Voz 1 (Z6 n0 @Qx @Hx @c0 @Pd @w1) ?_;refine Voz 1 n0 ?_;refine Voz 1 (Z5 n0 @Qx @Hx @c2 @en) ?_;refine Wc.forget (fun A=>A.n=56/\A.defers=[]/\A.get 1=.pointer (some (own h.next))/\A.get 3=.int .u8 (kn:Nat)/\A.get 4=.slice none 0 0/\A.get 5=.slice none 0 0/\A.get 13=.bool (!(tx.data.toList == []))) (by and_intros<;>simp +decide only[Gz,n0,d0]<;>rfl) ?_;rintro A0 ⟨n0,d0,q1,q3,q4,q5,q13⟩;refine Wc.mono (Q:=fun ex A g=>ex=.normal/\A.n=56/\A.defers=[]/\A.get 1=.pointer (some (own h.next))/\A.get 3=.int .u8 (kn+(if tx.data.toList=[] then 0 else 64):Nat)/\A.get 5=.slice none 0 0/\∃ v4,A.get 4=v4/\Mod (fun _=>False) h1 g/\Byt E g v4 (Ri tx)) ?_ ?_
 ·by_cases htx:tx.data.toList=[]
  ·have eb:(tx.data.toList == ([]:List UInt8))=true:=by rw[htx];rfl
   refine Vwz (Z3 n0 q13 @eb) ?_;exact⟨rfl,by simp +decide only[Gz,n0],by simp +decide only[Gz,d0],by simp +decide only[Gz,n0,q1],by rw[if_pos htx,E3];simp +decide only[Gz,n0,q3],by simp +decide only[Gz,n0,q5],_,by simp +decide only[Gz,n0,q4],Mod.refl t1.fit,.inl ⟨rfl,by rw[Ri,if_pos htx]⟩⟩
  ·have eb:(tx.data.toList == ([]:List UInt8))=false:=by simpa using htx
   have hpos:=V6.2 htx;obtain⟨n7,v7,qa,c7,m7,K7⟩:=TW (E:=E) (I:=I) hI97 t1.fit.fresh tx.data.toList.length (by omega);obtain⟨ma,ba,na,_⟩:=Mod.back t1.fit m7;have B7:Byt E (back h1 qa) v7 (DE tx.data.toList.length):=(K7.byt (E:=E)).grow (fun k B hB=>by rw[BQ];exact hB);generalize hh2:back h1 qa=h2 at ma B7;obtain⟨_,_,c2',_⟩:=cel ma;have tO:=Ahd.af ma.fit.fresh (bytesV tx.data.toList) 5;obtain⟨t3,b3,n3,_⟩:=Ahd.back ma.fit tO;have bO:(back h2 ((fresh h2).af (bytesV tx.data.toList) 5)).blk h2.next=some (.cells (bytesV tx.data.toList) 5 (some (h2.next,0))):=by rw[BQ];exact Bg (h:=fresh h2)
   generalize hh3:back h2 ((fresh h2).af (bytesV tx.data.toList) 5)=h3 at t3 bO;have B6:Byt E h3 (.slice (some (own h2.next)) tx.data.toList.length tx.data.toList.length) tx.data.toList:=.inr ⟨own h2.next,_,rfl,C0 _,AG bO (AM _) (BF _)⟩;have B73:=B7.grow t3.grows;obtain⟨o7,e7⟩:=LM B7;have hbs:=V8 (a:=v7) (b:=.slice (some (own h2.next)) tx.data.toList.length tx.data.toList.length) (by rw[V3,o7];rfl) e7 rfl (h:=fresh h3);generalize hZ:(Blk.cells [v7,.slice (some (own h2.next)) tx.data.toList.length tx.data.toList.length] 44 none)=Z at hbs;generalize hh4:h3.new Z=h4;have t4:Ahd h3 h4:=by rw[<- hh4,<- hZ];exact Ahd.aj t3.fit rfl
   have b4:h4.blk h3.next=some (.cells [v7,.slice (some (own h2.next)) tx.data.toList.length tx.data.toList.length] 44 none):=by rw[<- hh4,<- hZ];exact AA rfl
   have hall:En [(v7,DE tx.data.toList.length),(.slice (some (own h2.next)) tx.data.toList.length tx.data.toList.length,tx.data.toList)]=Ri tx:=by
    rw[Ri,if_neg htx];simp[En]
   have htl:(Ri tx).length<=1000000:=by omega
   have htp:0<(Ri tx).length:=by rw[Ri,if_neg htx,D0];omega
   obtain⟨n8,v8,qb,c8,m8,nn8,K8⟩:=Ye (E:=E) (I:=I) hI96 (L:=[(v7,DE tx.data.toList.length),(.slice (some (own h2.next)) tx.data.toList.length tx.data.toList.length,tx.data.toList)]) (kp:=h3.next) (c:=2) t4.fit.fresh b4 (fun x hx=>by
    simp only[O1,C1,or_false] at hx;rcases hx with rfl|rfl
    ·exact (B73.grow t4.grows).grow (g:=Hs.fresh h4) (fun _ _ hB=>hB)
    ·exact (B6.grow t4.grows).grow (g:=Hs.fresh h4) (fun _ _ hB=>hB)) (by rw[hall];exact htp) (by rw[hall];exact htl) (by simp)
   rw[hall] at K8;have c8:(ev tab E I n8).call 90 [.slice (some (own h3.next)) 2 2] (fresh h4)=some (v8,qb):=c8;obtain⟨mb,bb,nb,_⟩:=Mod.back t4.fit m8;have B8:Byt E (back h4 qb) v8 (Ri tx):=(K8.byt (E:=E)).grow (fun k B hB=>by rw[BQ];exact hB);have c7f:=(AX (D:=tab) (E:=E) I (E4 n7 n8)).call c7;have c8f:=(AX (D:=tab) (E:=E) I (C4 n7 n8)).call c8;refine Vwz (Z5 n0 q3 q13 @eb @w2) ?_;refine Wc.al (max n7 n8) (by kernel_rfl) ?_
   (iterate 3 refine Ufz (Z5 n0 q1 @Qx @Hx @c2) ?_)
   refine FC.call (h1:=qa) (x:=v7) rfl rfl (by simp +decide only[Oz,n0,c7f]) m7.quiet ?_;rw[hh2]
   (iterate 2 refine Ufz (Z5 n0 q1 @Qx @Hx @c2') ?_)
   refine FC.call (h1:=(fresh h2).af (bytesV tx.data.toList) 5) (x:=.slice (some (own h2.next)) tx.data.toList.length tx.data.toList.length) rfl rfl (by simp +decide only[Oz,n0,ZW,Hx]) rfl ?_;rw[hh3];refine FC.new (x:=.slice (some (own h3.next)) 2 2) (B:=Z) rfl rfl (by simp +decide only[Oz,n0,hbs,Hx]) ?_;rw[hh4];refine FC.call (h1:=qb) (x:=v8) rfl rfl (by simp +decide only[Oz,n0,c8f]) m8.quiet ?_
   (iterate 1 refine Ufz n0 ?_)
   refine FC.nil ?_;exact⟨rfl,by simp +decide only[Gz,n0],by simp +decide only[Gz,d0],by simp +decide only[Gz,n0,q1],by rw[if_neg htx];simp +decide only[Gz,n0],by simp +decide only[Gz,n0,q5],_,by simp +decide only[Gz,n0],(ma.trans t3.mod).trans (t4.mod.trans mb),B8⟩
 rintro ex A0 g ⟨rfl,n0,d0,q1,q3,q5,v4,q4,M,B4⟩;simp only[];rw[hh0] at q3;obtain⟨c0,c1,_,c3⟩:=cel M;have hht:ht<=64:=by rw[<- hh0];split<;>omega
 have w3:IntKind.u8.wrap (((kn+ht:Nat):Int)+128)=((kn+ht+128:Nat):Int):=by rw[show (((kn+ht:Nat):Int)+128)=((kn+ht+128:Nat):Int) by omega];exact Ee (by omega)
 have e1:decide ((ks.length:Int)>0)=decide (ks.length≠0):=by
  by_cases h:ks.length=0
  ·rw[decide_eq_false (by omega),decide_eq_false (by omega)]
  ·rw[decide_eq_true (by omega),decide_eq_true h]
 refine Voz 1 (Z6 n0 q1 @Qx @Hx @c3 e1) ?_;refine Wc.forget (fun A=>A.n=56/\A.defers=[]/\A.get 1=.pointer (some (own h.next))/\A.get 3=.int .u8 (kn+ht:Nat)/\A.get 4=v4/\A.get 5=.slice none 0 0/\A.get 28=.bool (decide (ks.length≠0))) (by and_intros<;>simp +decide only[Gz,n0,d0,q1,q3,q4,q5]<;>rfl) ?_;rintro A0 ⟨n0,d0,q1,q3,q4,q5,q28⟩;refine Wc.mono (Q:=fun ex A g'=>ex=.normal/\A.n=56/\A.defers=[]/\A.get 1=.pointer (some (own h.next))/\A.get 3=.int .u8 (kn+ht+(if ks.length=0 then 0 else 128):Nat)/\A.get 4=v4/\∃ v5,A.get 5=v5/\Mod (fun _=>False) g g'/\Byt E g' v5 (Yd ks)) ?_ ?_
 ·by_cases hks:ks.length=0
  ·have eb:decide (ks.length≠0)=false:=decide_eq_false (fun h=>h hks);refine Vwz (Z3 n0 q28 @eb) ?_;exact⟨rfl,by simp +decide only[Gz,n0],by simp +decide only[Gz,d0],by simp +decide only[Gz,n0,q1],by rw[if_pos hks,E3];simp +decide only[Gz,n0,q3],by simp +decide only[Gz,n0,q4],_,by simp +decide only[Gz,n0,q5],Mod.refl M.fit,.inl ⟨rfl,by rw[Yd,if_pos hks]⟩⟩
  have eb:decide (ks.length≠0)=true:=decide_eq_true hks;rcases hsk with hk0|⟨a,cs,rfl,hcap,hcs,hrl⟩
  ·rw[hk0] at hks;simp at hks
  have hkB:Yd ks=DE ks.length++encL ks:=by rw[Yd,if_neg hks]
  rw[hkB] at hlen;rw[D0] at hlen;obtain⟨n7,v7,g7,c7,m7,K7⟩:=TW (E:=E) (I:=I) hI97 M.fit ks.length (by omega);obtain⟨_,_,_,c3'⟩:=cel (M.trans m7);have key:∀ (r i:Nat) (sl:Value) (A0:Ac) (h2:H),r=ks.length-i->i<=ks.length->A0.n=56->A0.defers=[]->A0.get 1=.pointer (some (own h.next))->A0.get 3=.int .u8 (kn+ht+128:Nat)->A0.get 4=v4->A0.get 5=sl->A0.get 36=.slice (some a) ks.length sc->A0.get 37=.int .i64 (ks.length:Nat)->A0.get 38=.int .i64 (i:Nat)->Mod (fun _=>False) g h2->Bol 5 g.next h2.next h2 sl (DE ks.length++encL (ks.take i))->
    Wc tab E I ⟨63,none⟩ (.loop Tf) A0 h2 (fun ex A' h'=>ex=.exit 0/\A'.n=56/\A'.defers=[]/\A'.get 1=.pointer (some (own h.next))/\A'.get 3=.int .u8 (kn+ht+128:Nat)/\A'.get 4=v4/\∃ sl,A'.get 5=sl/\Mod (fun _=>False) g h'/\Bol 5 g.next h'.next h' sl (DE ks.length++encL ks)):=by
   intro r;induction r with
   | zero=>
    intro i sl A0 h2 hr hi n0 d0 q1 q3 q4 q5 q36 q37 q38 M2 K;obtain rfl:i=ks.length:=by omega
    have e1:decide ((ks.length:Int)<(ks.length:Int))=false:=by simp
    rw[List.take_length] at K;apply Wc.loop;simp only[Tf,loopOf,firstLoop,Option.getD,Tryz.f63];refine Vwz (Z4 n0 q37 q38 e1) ?_;exact⟨rfl,by simp +decide only[Gz,n0],by simp +decide only[Gz,d0],by simp +decide only[Gz,n0,q1],by simp +decide only[Gz,n0,q3],by simp +decide only[Gz,n0,q4],sl,by simp +decide only[Gz,n0,q5],M2,K⟩
   | succ r ih=>
    intro i sl A0 h2 hr hi n0 d0 q1 q3 q4 q5 q36 q37 q38 M2 K;have hil:i<ks.length:=by omega
    have e1:decide ((i:Int)<(ks.length:Int))=true:=by simp;omega
    have hir:AN (i:Int) ks.length=true:=by
     show Nat.blt i ks.length=true;rw[P0];exact hil
    have w4:IntKind.i64.wrap ((i:Int)+1)=((i+1:Nat):Int):=wrap64 (by omega) (by omega);have MM:=(M1.trans M).trans M2;obtain⟨hl4,hrk⟩:=DH i hrl (Q0 hil);have hsub:=BD (AV MM.av hcs) (m:=i*4) (l:=4) (by omega);obtain⟨l0,l1,l2,l3,hq,ol⟩:=Dd hrk;rw[hq] at hsub hrk;have hmem:ks[i]∈ks:=Q5 hil;have hsz:=HL hmem;have hel:=Mi hil;have hle:=OQ ks (i+1);have hle0:=OQ ks i;rw[hel,D0] at hle;have t3:Ahd h2 (h2.new (.cells (Value.agg #[.int .i64 0,.int .i64 0,.string ⟨#[]⟩,.slice none 0 0]).cells.toList 24 none)):=Ahd.aj M2.fit rfl;have b3:(h2.new (.cells (Value.agg #[.int .i64 0,.int .i64 0,.string ⟨#[]⟩,.slice none 0 0]).cells.toList 24 none)).blk h2.next=some (.cells zeroL 24 none):=AA rfl;have s3:=AU (ys:=[l0,l1,l2,l3]) DW b3 rfl rfl ol (by simp);have t4:=t3.aa (k:=h2.next) (B:=.cells [l0,l1,l2,l3] 24 none) rfl (C0 _) (t3.fit.lt b3) M2.fit;have b4:=AD (h:=h2.new (.cells (Value.agg #[.int .i64 0,.int .i64 0,.string ⟨#[]⟩,.slice none 0 0]).cells.toList 24 none)) (k:=h2.next) (B:=.cells [l0,l1,l2,l3] 24 none) rfl;generalize hh3:h2.new (.cells (Value.agg #[.int .i64 0,.int .i64 0,.string ⟨#[]⟩,.slice none 0 0]).cells.toList 24 none)=h3 at s3 t4 b4;generalize h3.aa h2.next (.cells [l0,l1,l2,l3] 24 none)=h4 at s3 t4 b4;have x4:h4.cells E (own h2.next) 4=some [l0,l1,l2,l3]:=AG b4 rfl ol;obtain⟨nf,v,h5,ck,m5,BK⟩:=IH ks[i] _ h4 (by omega) (AJ (MM.av.trans t4.grows) hrk) t4.fit (MX g6 hmem) (by omega) (by omega);have BK:=BK.grow (Cl m5.fit);have K5:=(K.mod (t4.mod (M:=fun _=>False)) (fun _ _ h=>h.elim)).mod m5 (fun _ _ h=>h.elim);have M5:=(M2.trans t4.mod).trans m5;obtain⟨bv,cv,hv⟩:=BK.slice
    obtain⟨sl',q,happ,K6,AP⟩:=H7 (D:=tab) (E:=E) (t:=44) (t2:=44) (by_:=1) m5.fit M5.next (Y0 t4.next m5.next) K5 qty31 Rl rfl (by rw[hv];exact Sj _ _ _) BK (by
     unfold roomy;simp only[K0,Z0,D0];omega)
    have M6:=AP.mod M.fit (C0 _) M5;rw[E1,<- hel] at K6;apply Wc.loop;simp only[Tf,loopOf,firstLoop,Option.getD,Tryz.f63];refine Vnz nf (Z18 n0 q5 q36 q37 q38 e1 (fun a c=>ZV a _ c _ hir) @M0 @Qx @Hx @hsub @Cc @hh3 @s3 @x4 @ck @happ @w4) ?_;refine ih (i+1) sl' _ q (by omega) (by omega) ?_ ?_ ?_ ?_ ?_ ?_ ?_ ?_ ?_ M6 K6
    ·simp +decide only[Gz,n0]
    ·simp +decide only[Gz,d0]
    ·simp +decide only[Gz,n0,q1]
    ·simp +decide only[Gz,n0,q3]
    ·simp +decide only[Gz,n0,q4]
    ·simp +decide only[Gz,n0]
    ·simp +decide only[Gz,n0,q36]
    ·simp +decide only[Gz,n0,q37]
    ·simp +decide only[Gz,n0]
  refine Vnz n7 (Z11 n0 q1 q3 q28 @eb @w3 @Qx @Hx @c3 @c7 @c3') ?_;refine (key ks.length 0 v7 _ g7 rfl (C2 _) ?_ ?_ ?_ ?_ ?_ ?_ ?_ ?_ ?_ m7 (by rw[List.take_zero,encL,X0];exact K7)).mono ?_
  ·simp +decide only[Gz,n0]
  ·simp +decide only[Gz,d0]
  ·simp +decide only[Gz,n0,q1]
  ·simp +decide only[Gz,n0]
  ·simp +decide only[Gz,n0,q4]
  ·simp +decide only[Gz,n0]
  ·simp +decide only[Gz,n0]
  ·simp +decide only[Gz,n0]
  ·simp +decide only[Gz,n0];rfl
  ·rintro ex A' h' ⟨rfl,a1,a2,a3,a4,a5,sl,a6,a7,a8⟩;simp only[if_true];exact⟨trivial,a1,a2,a3,by rw[if_neg hks];exact a4,a5,sl,a6,a7,by rw[hkB];exact a8.byt⟩
 rintro ex A0 g' ⟨rfl,n0,d0,q1,q3,q4,v5,q5,M',B5⟩;simp only[];generalize hh5:(if ks.length=0 then 0 else 128:Nat)=hk at q3;have hhk:hk<=128:=by rw[<- hh5];split<;>omega
 obtain⟨_,c1,_,_⟩:=cel (M.trans M');have hbs:=Vz ((kn+ht+hk:Nat):Int) (h:=g');obtain⟨g2,t2,hh2,hby⟩:=Hq (E:=E) M'.fit (kn+ht+hk) (by omega);rw[hh2] at hbs;obtain⟨_,c1,_,_⟩:=cel ((M.trans M').trans t2.mod);obtain⟨n7,v7,g3,c7,m7,K7⟩:=TW (E:=E) (I:=I) hI97 t2.fit nn (by omega);have B4':=B4.grow ((M'.av.trans t2.grows).trans m7.av);have B5':=B5.grow (t2.grows.trans m7.av);have B1':=hby.grow m7.av;have B7':=K7.byt (E:=E);obtain⟨o4,e4⟩:=LM B4';obtain⟨o5,e5⟩:=LM B5';obtain⟨o7,e7⟩:=LM B7';have hbs4:=V7 (a:=.slice (some (own g'.next)) 1 1) (b:=v7) (c:=v4) (d:=v5) rfl e7 e4 e5 (h:=g3);generalize hZ:(Blk.cells [.slice (some (own g'.next)) 1 1,v7,v4,v5] 44 none)=Z at hbs4;have t4:Ahd g3 (g3.new Z):=by rw[<- hZ];exact Ahd.aj m7.fit rfl
 have b4:(g3.new Z).blk g3.next=some (.cells [.slice (some (own g'.next)) 1 1,v7,v4,v5] 44 none):=by rw[<- hZ];exact AA rfl
 generalize g3.new Z=g4 at hbs4 t4 b4;have hall:En [(Value.slice (some (own g'.next)) 1 1,[UInt8.ofNat (kn+ht+hk)]),(v7,DE nn),(v4,Ri tx),(v5,Yd ks)]=UInt8.ofNat (kn+ht+hk)::(DE nn++(Ri tx++Yd ks)):=by simp[En]
 obtain⟨n8,v8,g5,c8,m8,nn8,K8⟩:=Ye (E:=E) (I:=I) hI96 (L:=[(Value.slice (some (own g'.next)) 1 1,[UInt8.ofNat (kn+ht+hk)]),(v7,DE nn),(v4,Ri tx),(v5,Yd ks)]) (kp:=g3.next) (c:=4) t4.fit b4 (fun x hx=>by
  simp only[O1,C1,or_false] at hx;rcases hx with rfl|rfl|rfl|rfl
  ·exact B1'.grow t4.grows
  ·exact B7'.grow t4.grows
  ·exact B4'.grow t4.grows
  ·exact B5'.grow t4.grows) (by rw[hall];simp) (by rw[hall,I1,D0,D0];omega) (by simp)
 rw[hall] at K8;have c8:(ev tab E I n8).call 90 [.slice (some (own g3.next)) 4 4] g4=some (v8,g5):=c8;have c7f:=(AX (D:=tab) (E:=E) I (E4 n7 n8)).call c7;have c8f:=(AX (D:=tab) (E:=E) I (C4 n7 n8)).call c8;refine Vnz (max n7 n8) (Z12 n0 q1 q3 q4 q5 @hbs @Qx @Hx @c1 @c7f @hbs4 @c8f) ?_;refine AW (v:=v8) (.inr rfl) (S0z d0) rfl (S0z n0) ⟨((((M1.trans M).trans M').trans t2.mod).trans m7).trans (t4.mod.trans m8),?_⟩;rw[UP,M0,M0,hh0,hh5];exact K8.bytO m8.fit (((((M1.trans M).trans M').trans t2.mod).trans m7).trans t4.mod).next
theorem AGN:tab.fn.get 62=some Tryz.f62:=by kernel_rfl
theorem AGc:tab.fn.get 24=some Tryz.f24:=by kernel_rfl
def Chk (E:Env) (K:Aa):Prop:=(∀ t xv h,rep E h t xv->isz t<=1000000->K 44 [xv] h=some (some (.int .i64 (Fl t 0 1).2,h)))/\∀ ks sl h,PS E h ks sl->iszL ks<=1000000->K 47 [sl] h=some (some (.int .i64 (chkAll ks),h))
theorem Ge {t:Hs.Item} (h:Bu t/\Cd t<=250/\isz t<=5000):(Fl t 0 1).2=0:=Mx t 0 1 h.1 (by omega) (by omega) (by omega)
theorem ZN (hI:∀ args h,I 62 args h=none) {g:H} {v:Value} {bs:List UInt8} (hb:Byt E g v bs) (hl:bs.length<=65536) :
  ∃ k x g',(ev tab E I k).call 62 [v] g=some (x,g')/\(x=.tuple #[v,.int .i64 0]/\g'=g):=by
 obtain⟨va,vc,hv⟩:=hb.slice;have ln:∀ h,Cp tab 44 v h=some (.int .i64 (bs.length:Nat)):=fun h=>by rw[hv];exact Fq _ _ _
 have e1:decide ((bs.length:Int)>65536)=false:=decide_eq_false (by omega);apply Wk (hI _ _) AGN rfl;intro A0 n0 d0 hA0;change A0.n=10 at n0;have q0:A0.get 0=v:=hA0 0 _ rfl;clear hA0;refine Vw (Z4 n0 q0 @ln e1) ?_;exact CL (v:=v) (x:=.int .i64 0) (.inr rfl) (S0 d0) rfl (S0 (Z2 n0 q0)) (S0 n0) ⟨rfl,rfl⟩
theorem LK (hI:∀ f args h,(f=24\/f=62\/f=63\/f=90\/f=91\/f=98\/f=120)->I f args h=none) (kc:Chk E I) {g:H} {t:Hs.Item} {xv:Value} (f:Fit g) (hr:rep E g t xv) (hf:Bu t/\Cd t<=250/\isz t<=5000) (hl:(EQ t).length<=65536) :
  ∃ k x g',(ev tab E I k).call 24 [xv] g=some (x,g')/\(∃ v,x=.tuple #[v,.int .i64 0]/\Mod (fun _=>False) g g'/\Byt E (only (fun r=>Nat.ble g.next r) g') v (EQ t)):=by
 obtain⟨la,rfl⟩:∃ l,xv=.agg ⟨l⟩:=by
  obtain⟨k',m',tx',ks'⟩:=t;obtain⟨sb',sc',rfl,_⟩:=Ao hr;exact⟨_,rfl⟩
 obtain⟨l0,l1,l2,l3,rfl,ol⟩:=Dd hr;obtain⟨g1,hh1,t1,b1⟩:=nA f [l0,l1,l2,l3] 24;have x1:g1.cells E (own g.next) 4=some [l0,l1,l2,l3]:=AG b1 rfl ol;have r1:=AJ t1.grows hr;have c35:=Al (D:=tab) (E:=E) (kc.1 t _ g1 r1 (by omega));rw[Ge hf] at c35;obtain⟨nf,v,g2,ck,m2,B2⟩:=AEW (E:=E) (I:=I) (fun f args h hf=>hI f args h (by rcases hf with h|h|h|h|h<;>simp[h])) (isz t) t _ g1 (C0 _) r1 t1.fit hf.1 hf.2.2 (by omega);obtain⟨ns,_,_,cs,rfl,rfl⟩:=ZN (E:=E) (I:=I) (fun args h=>hI _ _ _ (by simp)) (B2.grow (Cl m2.fit)) hl;have c1:=(AX (D:=tab) (E:=E) I (show 1<=nf+ns+1 by omega)).call c35;have c2:=(AX (D:=tab) (E:=E) I (show nf<=nf+ns+1 by omega)).call ck;have c3:=(AX (D:=tab) (E:=E) I (show ns<=nf+ns+1 by omega)).call cs;apply Wk (hI _ _ _ (by simp)) AGc rfl;intro A0 n0 d0 hA0;change A0.n=15 at n0;have q0:A0.get 0=.agg ⟨[l0,l1,l2,l3]⟩:=hA0 0 _ rfl;clear hA0;refine Vn (nf+ns+1) (Z9 n0 q0 @hh1 @Qx @Hx @x1 @c1 @c2 @c3) ?_;exact CL (v:=v) (x:=.int .i64 0) (.inr rfl) (S0 d0) rfl (S0 n0) (S0 n0) ⟨v,rfl,t1.mod.trans m2,B2.grow (Pi m2.fit (fun r hr=>by rw[Z0] at hr ⊢; have:=t1.next;omega))⟩
structure Kp (I:Aa):Prop extends Kq I where
 k123:∀ args h,I 118 args h=some (Dx 100 args h)
 k99:∀ (m:Nat) h,m<10 ^ 15->I 93 [.int .i64 (m:Nat)] h=some (some (.string ⟨⟨Lib.decDigits m⟩⟩,h))
theorem AGL:tab.fn.get 64=some Tryz.f64:=by kernel_rfl
noncomputable def Nz:Code:=loopAt Tryz.f64 0
noncomputable def Ny:Code:=loopAt Tryz.f64 1
theorem ACB {k6:Nat} {xs:List Value} {h:H} (hb:h.blk k6=some (.cells xs 145 none)):Av tab 145 (.pointer (some (own k6))) none none none h=some (.slice (some (own k6)) 2 2,h):=by
 have hb':h.blk (own k6).block=some (.cells xs 145 none):=hb;have hs:(own k6).spot=some 0:=rfl;unfold Av;simp only[GS,abound,hs,hb'];rfl
theorem ix9 {l:List UInt8} {i:Nat} (hi:i<l.length):CP tab 9 (.string ⟨⟨l⟩⟩) (.int .i64 (i:Nat))=some (.int .u8 ((l[i]).toNat:Nat)):=by
 have h1:AN (i:Nat) l.length=true:=by
  show Nat.blt i _=true;rw[P0];exact hi
 unfold CP;simp only[qty9,h1,M0,Q0 hi]
theorem AA7 (hI:∀ f args h,(f=64\/f=92\/f=94\/f=97)->I f args h=none) (kp:Kp I) {base kB k1:Nat} (hB:base<=kB) {g0:H} {l:List UInt8} {v0 v1 v3:Value} (hk1:k1≠kB) (hl:l.length<=4096) {bs1:List UInt8} (hlen:bs1.length+3*l.length<=900000000) :
  ∀ (r i:Nat) (A0:Ac) (g:H),r=l.length-i->i<=l.length->A0.n=74->A0.defers=[]->A0.get 0=.pointer (some (own kB))->A0.get 3=.pointer (some (own k1))->A0.get 31=.int .i64 (l.length:Nat)->A0.get 32=.int .i64 (i:Nat)->
   base<=g0.next->kB<g0.next->Xo base 5 kB none g0 g->g.blk k1=some (.cells [v0,v1,.string ⟨⟨l⟩⟩,v3] 24 none)->Bld 100 kB base g (bs1++escL (l.take i))->
   Wc tab E I ⟨64,none⟩ (.loop Nz) A0 g (fun ex A g=>ex=.exit 0/\A.n=74/\A.defers=[]/\A.get 0=.pointer (some (own kB))/\A.get 3=.pointer (some (own k1))/\Xo base 5 kB none g0 g/\g.blk k1=some (.cells [v0,v1,.string ⟨⟨l⟩⟩,v3] 24 none)/\Bld 100 kB base g (bs1++escL l)):=by
 intro r;induction r with
 | zero=>
  intro i A0 g hr hi n0 d0 q0 q3 q31 q32 hbn hkn X b1 B;obtain rfl:i=l.length:=by omega
  have e1:decide ((l.length:Int)<(l.length:Int))=false:=by simp
  rw[List.take_length] at B;apply Wc.loop;simp only[Nz,loopAt,loops,List.getD,Option.getD,Tryz.f64,E1,W0,V0,X0,N2];refine Vwz (Z4 n0 q31 q32 e1) ?_;exact⟨rfl,by simp +decide only[Gz,n0],by simp +decide only[Gz,d0],by simp +decide only[Gz,n0,q0],by simp +decide only[Gz,n0,q3],X,b1,B⟩
 | succ r ih=>
  intro i A0 g hr hi n0 d0 q0 q3 q31 q32 hbn hkn X b1 B;have hil:i<l.length:=by omega
  have e1:decide ((i:Int)<(l.length:Int))=true:=decide_eq_true (by omega);have w4:IntKind.i64.wrap ((i:Int)+1)=((i+1:Nat):Int):=wrap64 (by omega) (by omega);have l2:g.cell E (aadd (own k1) 2)=some (.string ⟨⟨l⟩⟩):=AS (i:=2) b1 rfl rfl;have hel:=(Ga (l.take i)).2;have htl:(l.take i).length<=l.length:=by rw[C5];omega
  have k101:=Al (D:=tab) (E:=E) (kp.k101 l[i] g);have hes:escL (l.take (i+1))=escL (l.take i)++UN l[i]:=by
   rw[List.take_succ_eq_append_getElem hil,I7,escL,escL,X0]
  have hgn:base<=g.next:=Y0 hbn X.next;apply Wc.loop;simp only[Nz,loopAt,loops,List.getD,Option.getD,Tryz.f64,E1,W0,V0,X0,N2];refine Vwz (Z4 n0 q31 q32 e1) ?_
  (repeat' (with_reducible apply Ws));(apply Wn 1;focus ((repeat ((with_reducible apply Rr rfl);focus ((try simp +decide only[Oz,n0,q3,Ic,Qx,Hx,l2,ix9 hil]);with_reducible rfl)));with_reducible exact Rn))
  refine Voz 1 (Z2 n0 @k101) ?_;refine Wc.forget (fun A=>A.n=74/\A.defers=[]/\A.get 0=.pointer (some (own kB))/\A.get 3=.pointer (some (own k1))/\A.get 5=.int .u8 ((l[i]).toNat:Nat)/\A.get 31=.int .i64 (l.length:Nat)/\A.get 32=.int .i64 (i:Nat)/\A.get 40=.bool (DX l[i])) (by and_intros<;>simp +decide only[Gz,n0,d0,q0,q3,q31,q32]<;>rfl) ?_;rintro A0 ⟨n0,d0,q0,q3,q5,q31,q32,q40⟩
  repeat' (with_reducible apply Wc.seq)
  refine Wc.mono (Q:=fun ex A g'=>ex=.normal/\A.n=74/\A.defers=[]/\A.get 0=.pointer (some (own kB))/\A.get 3=.pointer (some (own k1))/\A.get 31=.int .i64 (l.length:Nat)/\A.get 32=.int .i64 (i:Nat)/\Xo base 5 kB none g0 g'/\g'.blk k1=some (.cells [v0,v1,.string ⟨⟨l⟩⟩,v3] 24 none)/\Bld 100 kB base g' (bs1++escL (l.take (i+1)))) ?_ ?_
  ·cases hp:DX l[i] with
   | true=>
    rw[hp] at q40;obtain⟨n1,_,g1,c1,rfl,X1,B1⟩:=FV (E:=E) (I:=I) (c:=l[i]) (fun args h=>hI _ args h (by simp)) kp.k123 X.fit hgn B (by rw[D0];omega);refine Vwz (Z2 n0 q40) ?_;refine Voz n1 (Z4 n0 q0 q5 @c1) ?_;refine⟨rfl,by simp +decide only[Gz,n0],by simp +decide only[Gz,d0],by simp +decide only[Gz,n0,q0],by simp +decide only[Gz,n0,q3],by simp +decide only[Gz,n0,q31],by simp +decide only[Gz,n0,q32],X.trans X1 (.inl rfl),X1.keep _ _ hk1 b1,?_⟩;rw[hes,<- E1];unfold UN;rw[if_pos hp];exact B1
   | false=>
    rw[hp] at q40;have k102:=Al (D:=tab) (E:=E) (kp.k102 l[i] g);have t2:Ahd g (g.new (.cells (Value.agg #[.int .u8 0,.int .u8 0]).cells.toList 145 none)):=Ahd.aj X.fit rfl;have k2:(g.new (.cells (Value.agg #[.int .u8 0,.int .u8 0]).cells.toList 145 none)).blk g.next=some (.cells [.int .u8 0,.int .u8 0] 145 none):=AA rfl;generalize hh1:g.new (.cells (Value.agg #[.int .u8 0,.int .u8 0]).cells.toList 145 none)=g1 at t2 k2;have st:=AU (ys:=[.int .u8 ((C9 ((l[i]).toNat / 16)).toNat:Nat),.int .u8 ((C9 ((l[i]).toNat % 16)).toNat:Nat)]) GS k2 rfl rfl rfl (by simp);have t3:=t2.aa (k:=g.next) (B:=.cells [.int .u8 ((C9 ((l[i]).toNat / 16)).toNat:Nat),.int .u8 ((C9 ((l[i]).toNat % 16)).toNat:Nat)] 145 none) rfl (C0 _) (t2.fit.lt k2) X.fit;have k3:=AD (h:=g1) (k:=g.next) (B:=.cells [.int .u8 ((C9 ((l[i]).toNat / 16)).toNat:Nat),.int .u8 ((C9 ((l[i]).toNat % 16)).toNat:Nat)] 145 none) rfl;generalize g1.aa g.next (.cells [.int .u8 ((C9 ((l[i]).toNat / 16)).toNat:Nat),.int .u8 ((C9 ((l[i]).toNat % 16)).toNat:Nat)] 145 none)=g2 at st t3 k3;have hne:g.next≠kB:=by have:=X.next;omega
    obtain⟨n1,_,g3,c1,rfl,X3,B3⟩:=FV (E:=E) (I:=I) (c:=92) (fun args h=>hI _ args h (by simp)) kp.k123 t3.fit (Y0 hgn t3.next) (B.ahd X.fit t3) (by rw[D0];omega);have k4:=X3.keep _ _ hne k3;obtain⟨n2,_,g4,c2,⟨x5,rfl⟩,X4,B4⟩:=VR (E:=E) (I:=I) (cs:=[C9 ((l[i]).toNat / 16),C9 ((l[i]).toNat % 16)]) (n:=2) (c6:=2) (fun args h=>hI _ args h (by simp)) kp.k123 X3.fit (Y0 hgn (Y0 t3.next X3.next)) B3 k4 rfl hne (by rw[D0,D0];simp only[I1,H4];omega);have c1:(ev tab E I n1).call 94 [.pointer (some (own kB)),.int .u8 92] g2=some (.nilIface,g3):=c1;have sl:=ACB k4;refine Vwz (Z2 n0 q40) ?_;refine Voz 1 (Z6 n0 q5 @k102 @Sk @hh1 @st) ?_;refine Voz n1 (Z3 n0 q0 @c1) ?_;refine Voz n2 (Z4 n0 q0 @sl @c2) ?_;refine⟨rfl,by simp +decide only[Gz,n0],by simp +decide only[Gz,d0],by simp +decide only[Gz,n0,q0],by simp +decide only[Gz,n0,q3],by simp +decide only[Gz,n0,q31],by simp +decide only[Gz,n0,q32],((X.ahead t3 hbn (fun r hr=>by cases hr)).trans X3 (.inl rfl)).trans X4 (.inl rfl),X4.keep _ _ hk1 (X3.keep _ _ hk1 (t3.grows _ _ b1)),?_⟩;rw[hes,<- E1];unfold UN;rw[if_neg (by rw[hp];simp)];rw[E1] at B4;exact B4
  rintro ex A0 g' ⟨rfl,n0,d0,q0,q3,q31,q32,X',b1',B'⟩;simp only[];refine Vwz (Z3 n0 q32 @w4) ?_;refine ih (i+1) _ g' (by omega) (by omega) ?_ ?_ ?_ ?_ ?_ ?_ hbn hkn X' b1' B'
  ·simp +decide only[Gz,n0]
  ·simp +decide only[Gz,d0]
  ·simp +decide only[Gz,n0,q0]
  ·simp +decide only[Gz,n0,q3]
  ·simp +decide only[Gz,n0,q31]
  ·simp +decide only[Gz,n0]
set_option maxHeartbeats 8000000
def NV:List Hs.Item->List Hs.Item->Nat->Int
 | x::xs,y::ys,i=>if NM x y=true then NV xs ys (i+1) else (i:Int)
 | _,_,_ => -1
theorem Pm:∀ (xs ys:List Hs.Item) (i:Nat),xs.length=ys.length->decide (NV xs ys i>=0) = !Rp xs ys
 | [],[],i,_=>by rw[NV,Rp];rfl;intro _ _ _ _ h;cases h
 | [],_::_,_,h=>by simp at h
 | _::_,[],_,h=>by simp at h
 | x::xs,y::ys,i,h=>by
  rw[NV,Rp];cases hx:NM x y with
  | true=>rw[if_pos rfl,Bool.true_and];exact Pm xs ys (i+1) (by simpa using h)
  | false=>
   rw[if_neg (by simp),Bool.false_and,Bool.not_false];exact decide_eq_true (by omega)
theorem TY {xs ys:List Hs.Item} {i:Nat} (h:i<xs.length) (h':i<ys.length):NV (xs.drop i) (ys.drop i) i=if NM xs[i] ys[i]=true then NV (xs.drop (i+1)) (ys.drop (i+1)) (i+1) else (i:Int):=by
 rw[H2 h,H2 h',NV]
theorem WN (xs ys:List Hs.Item) (i:Nat):NV (xs.drop xs.length) (ys.drop xs.length) i = -1:=by
 rw[T6];unfold NV;rfl
def XY (E:Env) (h:H) (t u:Hs.Item) (p3 p4 p5:Value) (d:Int):Prop:=∃ k3 k4 k5 cs3 cs4,p3=.pointer (some (own k3))/\p4=.pointer (some (own k4))/\p5=.pointer (some (own k5))/\h.blk k3=some (.cells cs3 24 none)/\rep E h t (.agg ⟨cs3⟩)/\h.blk k4=some (.cells cs4 24 none)/\rep E h u (.agg ⟨cs4⟩)/\h.blk k5=some (.cells [.int .i64 d] 3 none)/\0<=d/\d+Cd t<=400/\isz t<=1000000/\t.kids.length=u.kids.length
theorem XY.grow {E:Env} {h h':H} (g:BL h h') {t u:Hs.Item} {p3 p4 p5:Value} {d:Int} (c:XY E h t u p3 p4 p5 d):XY E h' t u p3 p4 p5 d:=by
 obtain⟨k3,k4,k5,cs3,cs4,e1,e2,e3,e4,e5,e6,e7,e8,e9⟩:=c;exact⟨k3,k4,k5,cs3,cs4,e1,e2,e3,g _ _ e4,AJ g e5,g _ _ e6,AJ g e7,g _ _ e8,e9⟩
theorem XY.one {E:Env} {h:H} {t t' u u':Hs.Item} {p3 p4 p5:Value} {d d':Int} (c:XY E h t u p3 p4 p5 d) (c':XY E h t' u' p3 p4 p5 d'):t=t'/\u=u':=by
 obtain⟨k3,k4,k5,cs3,cs4,rfl,rfl,e3,e4,e5,e6,e7,e8,e9⟩:=c;obtain⟨k3',k4',k5',cs3',cs4',f1,f2,f3,f4,f5,f6,f7,f8,f9⟩:=c';have:k3=k3':=by simpa [own] using f1
 subst this;have:k4=k4':=by simpa [own] using f2
 subst this;rw[e4] at f4;cases f4;rw[e6] at f6;cases f6;exact⟨Cj e5 f5,Cj e7 f7⟩
def CJ (E:Env):Lb:=fun s f args h v=>
 (f=18/\∃ t u xv yv d,args=[xv,yv,.int .i64 d]/\rep E h t xv/\rep E h u yv/\0<=d/\d+Cd t<=400/\isz t<=1000000/\s=4*isz t+3/\v=.bool (NM t u))\/
 (f=56/\∃ t u p3 p4 p5 d sl,args=[sl,.func (.func 58) ⟨[]⟩ ⟨[p3,p4,p5]⟩]/\U7 h sl t.kids.length/\XY E h t u p3 p4 p5 d/\s=4*isz t+2/\v=.bool (!Rp t.kids u.kids))\/
 (f=86/\∃ t u p3 p4 p5 d sl,args=[sl,.func (.func 58) ⟨[]⟩ ⟨[p3,p4,p5]⟩]/\U7 h sl t.kids.length/\XY E h t u p3 p4 p5 d/\s=4*isz t+1/\v=.int .i64 (NV t.kids u.kids 0))\/
 (f=58/\∃ t u p3 p4 p5 d,∃ i:Nat,args=[.int .i64 i,p3,p4,p5]/\∃ (hi:i<t.kids.length) (hi':i<u.kids.length),XY E h t u p3 p4 p5 d/\s=4*isz t/\v=.bool (!NM t.kids[i] u.kids[i]))
theorem YV (E:Env):One (CJ E):=by
 rintro s s' f args h v v' (⟨rfl,t,u,xv,yv,d,rfl,r1,r2,_,_,_,_,rfl⟩|⟨rfl,t,u,p3,p4,p5,d,sl,rfl,_,c,_,rfl⟩|⟨rfl,t,u,p3,p4,p5,d,sl,rfl,_,c,_,rfl⟩|⟨rfl,t,u,p3,p4,p5,d,i,rfl,hi,hi',c,_,rfl⟩) (⟨e,t',u',xv',yv',d',ea,r1',r2',_,_,_,_,rfl⟩|⟨e,t',u',p3',p4',p5',d',sl',ea,_,c',_,rfl⟩|⟨e,t',u',p3',p4',p5',d',sl',ea,_,c',_,rfl⟩|⟨e,t',u',p3',p4',p5',d',i',ea,hj,hj',c',_,rfl⟩)
 all_goals first
  | (exact absurd e (by decide))
  | (cases ea;rw[Cj r1 r1',Cj r2 r2'])
  | (cases ea;obtain⟨e1,e2⟩:=c.one c'; subst e1 e2;rfl)
  | (simp only[List.cons.injEq,Value.int.injEq,true_and,and_true] at ea;obtain⟨e0,e1,e2,e3⟩:=ea;subst e1 e2 e3;obtain⟨e1,e2⟩:=c.one c'; subst e1 e2;obtain rfl:i=i':=(by omega);rfl)
theorem ZT {E:Env} {s s':Nat} {f:FuncId} {args:List Value} {h:H} {v v':Value} (h1:CJ E s f args h v) (h2:CJ E s' f args h v'):s=s':=by
 rcases h1 with⟨rfl,t,u,xv,yv,d,rfl,r1,_,_,_,_,rfl,_⟩|⟨rfl,t,u,p3,p4,p5,d,sl,rfl,_,c,rfl,_⟩|⟨rfl,t,u,p3,p4,p5,d,sl,rfl,_,c,rfl,_⟩|⟨rfl,t,u,p3,p4,p5,d,i,rfl,_,_,c,rfl,_⟩<;>
  rcases h2 with⟨e,t',u',xv',yv',d',ea,r2,_,_,_,_,rfl,_⟩|⟨e,t',u',p3',p4',p5',d',sl',ea,_,c',rfl,_⟩|⟨e,t',u',p3',p4',p5',d',sl',ea,_,c',rfl,_⟩|⟨e,t',u',p3',p4',p5',d',i',ea,_,_,c',rfl,_⟩
 all_goals first
  | (exact absurd e (by decide))
  | (cases ea;rw[Cj r1 r2])
  | (cases ea;rw[(c.one c').1])
  | (simp only[List.cons.injEq] at ea;obtain⟨e0,e1,e2,e3,_⟩:=ea;subst e1 e2 e3;rw[(c.one c').1])
theorem Lt {E:Env} {s:Nat} {f:FuncId} {args:List Value} {h:H} {v:Value} (h1:CJ E s f args (fresh h) v):CJ E s f args h v:=by
 have g:BL (fresh h) h:=fun _ _ hb=>hb;rcases h1 with⟨e,t,u,xv,yv,d,ea,r1,r2,q⟩|⟨e,t,u,p3,p4,p5,d,sl,ea,ia,c,q⟩|⟨e,t,u,p3,p4,p5,d,sl,ea,ia,c,q⟩|⟨e,t,u,p3,p4,p5,d,i,ea,hi,hi',c,q⟩
 ·exact .inl ⟨e,t,u,xv,yv,d,ea,AJ g r1,AJ g r2,q⟩
 ·exact .inr (.inl ⟨e,t,u,p3,p4,p5,d,sl,ea,ia,c.grow g,q⟩)
 ·exact .inr (.inr (.inl ⟨e,t,u,p3,p4,p5,d,sl,ea,ia,c.grow g,q⟩))
 ·exact .inr (.inr (.inr ⟨e,t,u,p3,p4,p5,d,i,ea,hi,hi',c.grow g,q⟩))
theorem Zi {E:Env} {I:Aa} (hI:∀ f args h,(f=18\/f=56\/f=86\/f=58)->I f args h=none) {s:Nat} {f:FuncId} {args:List Value} {h:H} {v:Value} (h1:CJ E s f args h v) (hf:f=18\/f=56\/f=86\/f=58):Fm (CJ E) I s f args (fresh h)=none:=by
 rw[Bw]
 ·exact hI _ _ _ hf
 ·intro v' s' hlt h2;have:=ZT h1 (Lt h2);omega
theorem Vg {E:Env} {I:Aa} (hI:∀ f args h,(f=18\/f=56\/f=86\/f=58\/f=57)->I f args h=none):FR tab E I (CJ E):=by
 intro m f args h v hs hfit;have hnone:=Zi (fun f args h hf=>hI f args h (by rcases hf with h|h|h|h<;>simp[h])) hs;have hJk:∀ {s f args g v},CJ E s f args g v->s<m->Fm (CJ E) I m f args g=some (some (v,g)):=fun h1 h2=>SF (YV E) h1 h2;have hJ54:∀ args h,Fm (CJ E) I m 57 args h=none:=by
  intro args h;rw[Bw]
  ·exact hI _ _ _ (by simp)
  ·rintro v s _ (⟨e,_⟩|⟨e,_⟩|⟨e,_⟩|⟨e,_⟩)
   all_goals exact absurd e (by decide)
 have hgf:BL h (fresh h):=fun _ _ hb=>hb;rcases hs with⟨rfl,t,u,xv,yv,d,rfl,hr,hr',d1,d2,hz,rfl,rfl⟩|⟨rfl,t,u,p3,p4,p5,d,sl,rfl,hia,cap,rfl,rfl⟩|⟨rfl,t,u,p3,p4,p5,d,sl,rfl,hia,cap,rfl,rfl⟩|⟨rfl,t,u,p3,p4,p5,d,i,rfl,hi,hi',cap,rfl,rfl⟩
 ·-- alike
  refine⟨rfl,?_⟩;replace hnone:=hnone (by simp);obtain⟨k,m,tx,ks⟩:=t;obtain⟨k',m',tx',ks'⟩:=u;obtain⟨sb,sc,rfl,hs⟩:=Ao hr;obtain⟨sb',sc',rfl,hs'⟩:=Ao hr';generalize hJ:Fm (CJ E) I (4*isz (.mk k m tx ks)+3)=J at hnone hJk hJ54 ⊢;suffices hw:∃ n v h',(ev tab E J n).call 18 [.agg ⟨[.int .i64 k,.int .i64 m,.string tx,.slice sb ks.length sc]⟩,.agg ⟨[.int .i64 k',.int .i64 m',.string tx',.slice sb' ks'.length sc']⟩,.int .i64 d] (fresh h)=some (v,h')/\(v=.bool (NM (.mk k m tx ks) (.mk k' m' tx' ks'))/\h'.log=[]) by
   obtain⟨n,v,h',h1,rfl,h3⟩:=hw;exact⟨n,h',h1,h3⟩
  refine Wc.call hnone AGf rfl ?_;generalize hA0:(⟨T.ofList [.agg ⟨[.int .i64 k,.int .i64 m,.string tx,.slice sb ks.length sc]⟩,.agg ⟨[.int .i64 k',.int .i64 m',.string tx',.slice sb' ks'.length sc']⟩,.int .i64 d] 0 .nil,max ([.agg ⟨[.int .i64 k,.int .i64 m,.string tx,.slice sb ks.length sc]⟩,.agg ⟨[.int .i64 k',.int .i64 m',.string tx',.slice sb' ks'.length sc']⟩,.int .i64 d]:List Value).length Tryz.f18.ntmps,[]⟩:Ac)=A0;have n0:A0.n=48:=by rw[<- hA0];rfl
  have g00:A0.get 0=.agg ⟨[.int .i64 k,.int .i64 m,.string tx,.slice sb ks.length sc]⟩:=by rw[<- hA0];rfl
  have g01:A0.get 1=.agg ⟨[.int .i64 k',.int .i64 m',.string tx',.slice sb' ks'.length sc']⟩:=by rw[<- hA0];rfl
  have g02:A0.get 2=.int .i64 d:=by rw[<- hA0];rfl
  have d0:A0.defers=[]:=by rw[<- hA0]
  have hl0:(fresh h).log=[]:=rfl;have hgr:BL h (fresh h):=fun _ _ hb=>hb;generalize hg:fresh h=g at hl0 hgr hfit;apply Wc.seq;refine Wc.ops (by (repeat ((with_reducible apply Rr rfl);focus ((try simp +decide only[Oy,n0,g00,g01,g02]);with_reducible rfl)));with_reducible exact Rn) ?_;generalize hh1:g.new (.cells (Value.agg ⟨[.int .i64 k,.int .i64 m,.string tx,.slice sb ks.length sc]⟩).cells.toList 24 none)=h1;have a1:Ahd g h1:=by rw[<- hh1];exact Ahd.aj hfit rfl
  have b1:h1.blk g.next=some (.cells [.int .i64 k,.int .i64 m,.string tx,.slice sb ks.length sc] 24 none):=by rw[<- hh1];exact AA rfl
  generalize hh2:h1.new (.cells (Value.agg ⟨[.int .i64 k',.int .i64 m',.string tx',.slice sb' ks'.length sc']⟩).cells.toList 24 none)=h2;have a2:Ahd h1 h2:=by rw[<- hh2];exact Ahd.aj a1.fit rfl
  have b2:h2.blk h1.next=some (.cells [.int .i64 k',.int .i64 m',.string tx',.slice sb' ks'.length sc'] 24 none):=by rw[<- hh2];exact AA rfl
  generalize hh3:h2.new (.cells (Value.int .i64 d).cells.toList 3 none)=h3;have a3:Ahd h2 h3:=by rw[<- hh3];exact Ahd.aj a2.fit rfl
  have b3:h3.blk h2.next=some (.cells [.int .i64 d] 3 none):=by rw[<- hh3];exact AA rfl
  have b1':=a3.grows _ _ (a2.grows _ _ b1);have b2':=a3.grows _ _ b2;have ag:Ahd g h3:=(a1.trans a2).trans a3;clear hh1 hh2 hh3;have hlen:ks.length<=1000000:=by
   rw[isz] at hz;have:=Dw ks;omega
  obtain⟨nf,sl,h4,hup,a4,ia4⟩:=AAu (E:=E) hJ54 ks.length hlen h3 a3.fit;replace hup:=Wh hup;have x0:h3.cell E (aadd (own g.next) 0)=some (.int .i64 k):=AS (i:=0) b1' rfl rfl;have x1:h3.cell E (aadd (own g.next) 1)=some (.int .i64 m):=AS (i:=1) b1' rfl rfl;have x2:h3.cell E (aadd (own g.next) 2)=some (.string tx):=AS (i:=2) b1' rfl rfl;have x3:h3.cell E (aadd (own g.next) 3)=some (.slice sb ks.length sc):=AS (i:=3) b1' rfl rfl;have y0:h3.cell E (aadd (own h1.next) 0)=some (.int .i64 k'):=AS (i:=0) b2' rfl rfl;have y1:h3.cell E (aadd (own h1.next) 1)=some (.int .i64 m'):=AS (i:=1) b2' rfl rfl;have y2:h3.cell E (aadd (own h1.next) 2)=some (.string tx'):=AS (i:=2) b2' rfl rfl;have y3:h3.cell E (aadd (own h1.next) 3)=some (.slice sb' ks'.length sc'):=AS (i:=3) b2' rfl rfl;have z0:h3.cell E (own h2.next)=some (.int .i64 d):=Bp b3 rfl;have hbb:(tx.data.toList == tx'.data.toList)=decide (tx=tx'):=by
   obtain⟨⟨l⟩⟩:=tx;obtain⟨⟨l'⟩⟩:=tx';by_cases e:l=l'
   ·subst e;simp
   ·have:¬ (⟨⟨l⟩⟩:ByteArray)=⟨⟨l'⟩⟩:=fun h=>e (by injection h with h;injection h);simp[e,this]
  have h400:decide (d<400)=true:=by
   have:=CG (.mk k m tx ks);simp;omega
  have hl3:h3.log=[]:=by rw[ag.log,hl0]
  have hlog4:h4.log=[]:=by rw[a4.log,hl3]
  have ha:NM (.mk k m tx ks) (.mk k' m' tx' ks')=(decide (k=k')&&decide (m=m')&&decide (tx=tx')&&decide (ks.length=ks'.length)&&Rp ks ks'):=by rw[NM]
  refine Wc.forget (fun A=>A.n=48/\A.defers=[]/\A.get 3=.pointer (some (own g.next))/\A.get 4=.pointer (some (own h1.next))/\A.get 5=.pointer (some (own h2.next))) ⟨by simp +decide only[Gs,n0],by simp +decide only[Gs,d0],by simp +decide only[Gs,n0],by simp +decide only[Gs,n0],by simp +decide only[Gs,n0]⟩ ?_;clear hA0 n0 g00 g01 g02 d0;rintro A0 ⟨n0,d0,g3,g4,g5⟩;apply Wc.seq;refine Wc.fo (nf+1) ?_
  (iterate 6 (first|((with_reducible apply RQ.run (Ai rfl));focus ((try simp +decide only[Oy,n0,g3,g4,g5,Ej,ld3,x0,y0]);with_reducible rfl))|((with_reducible apply RQ.bq);(focus rfl);(focus rfl);(focus (simp +decide only[Oy,n0,g3,g4,g5,Ej,ld3,x0,y0];done));focus ((try simp +decide only[Oy,n0,g3,g4,g5,Ej,ld3,x0,y0]);with_reducible rfl))|((with_reducible apply RQ.aw);(focus rfl);(focus rfl);focus (simp +decide only[Oy,n0,g3,g4,g5,Ej,ld3,x0,y0];done))))
  refine RQ.forget (fun A=>A.n=48/\A.defers=[]/\A.get 3=.pointer (some (own g.next))/\A.get 4=.pointer (some (own h1.next))/\A.get 5=.pointer (some (own h2.next))/\A.get 12=.bool (decide (k=k'))) ⟨by simp +decide only[Gs,n0],by simp +decide only[Gs,d0],by simp +decide only[Gs,n0,g3],by simp +decide only[Gs,n0,g4],by simp +decide only[Gs,n0,g5],by simp +decide only[Gs,n0]⟩ ?_;clear n0 d0 g3 g4 g5;rintro A0 ⟨n0,d0,g3,g4,g5,gb⟩;by_cases c1:k=k';rotate_left
  ·rw[decide_eq_false c1] at gb ha
   (iterate 36 (first|((with_reducible apply RQ.run (Ai rfl));focus ((try simp +decide only[Oy,n0,gb]);with_reducible rfl))|((with_reducible apply RQ.bq);(focus rfl);(focus rfl);(focus (simp +decide only[Oy,n0,gb];done));focus ((try simp +decide only[Oy,n0,gb]);with_reducible rfl))|((with_reducible apply RQ.aw);(focus rfl);(focus rfl);focus (simp +decide only[Oy,n0,gb];done))))
   refine RQ.nil ?_;refine Wc.ret ?_;refine Bn (.inr rfl) (S0 d0) rfl ?_ hl3;rw[ha];simp +decide only[Gs,n0];simp
  rw[decide_eq_true c1] at gb ha
  (iterate 7 (first|((with_reducible apply RQ.run (Ai rfl));focus ((try simp +decide only[Oy,n0,g3,g4,g5,gb,EM,ld3,x1,y1]);with_reducible rfl))|((with_reducible apply RQ.bq);(focus rfl);(focus rfl);(focus (simp +decide only[Oy,n0,g3,g4,g5,gb,EM,ld3,x1,y1];done));focus ((try simp +decide only[Oy,n0,g3,g4,g5,gb,EM,ld3,x1,y1]);with_reducible rfl))|((with_reducible apply RQ.aw);(focus rfl);(focus rfl);focus (simp +decide only[Oy,n0,g3,g4,g5,gb,EM,ld3,x1,y1];done))))
  refine RQ.forget (fun A=>A.n=48/\A.defers=[]/\A.get 3=.pointer (some (own g.next))/\A.get 4=.pointer (some (own h1.next))/\A.get 5=.pointer (some (own h2.next))/\A.get 19=.bool (decide (m=m'))) ⟨by simp +decide only[Gs,n0],by simp +decide only[Gs,d0],by simp +decide only[Gs,n0,g3],by simp +decide only[Gs,n0,g4],by simp +decide only[Gs,n0,g5],by simp +decide only[Gs,n0]⟩ ?_;clear n0 d0 g3 g4 g5 gb;rintro A0 ⟨n0,d0,g3,g4,g5,gb⟩;by_cases c2:m=m';rotate_left
  ·rw[decide_eq_false c2] at gb ha
   (iterate 29 (first|((with_reducible apply RQ.run (Ai rfl));focus ((try simp +decide only[Oy,n0,gb]);with_reducible rfl))|((with_reducible apply RQ.bq);(focus rfl);(focus rfl);(focus (simp +decide only[Oy,n0,gb];done));focus ((try simp +decide only[Oy,n0,gb]);with_reducible rfl))|((with_reducible apply RQ.aw);(focus rfl);(focus rfl);focus (simp +decide only[Oy,n0,gb];done))))
   refine RQ.nil ?_;refine Wc.ret ?_;refine Bn (.inr rfl) (S0 d0) rfl ?_ hl3;rw[ha];simp +decide only[Gs,n0];simp
  rw[decide_eq_true c2] at gb ha
  (iterate 7 (first|((with_reducible apply RQ.run (Ai rfl));focus ((try simp +decide only[Oy,n0,g3,g4,g5,gb,GZ,ld9,x2,y2,astr,hbb]);with_reducible rfl))|((with_reducible apply RQ.bq);(focus rfl);(focus rfl);(focus (simp +decide only[Oy,n0,g3,g4,g5,gb,GZ,ld9,x2,y2,astr,hbb];done));focus ((try simp +decide only[Oy,n0,g3,g4,g5,gb,GZ,ld9,x2,y2,astr,hbb]);with_reducible rfl))|((with_reducible apply RQ.aw);(focus rfl);(focus rfl);focus (simp +decide only[Oy,n0,g3,g4,g5,gb,GZ,ld9,x2,y2,astr,hbb];done))))
  refine RQ.forget (fun A=>A.n=48/\A.defers=[]/\A.get 3=.pointer (some (own g.next))/\A.get 4=.pointer (some (own h1.next))/\A.get 5=.pointer (some (own h2.next))/\A.get 26=.bool (decide (tx=tx'))) ⟨by simp +decide only[Gs,n0],by simp +decide only[Gs,d0],by simp +decide only[Gs,n0,g3],by simp +decide only[Gs,n0,g4],by simp +decide only[Gs,n0,g5],by simp +decide only[Gs,n0]⟩ ?_;clear n0 d0 g3 g4 g5 gb;rintro A0 ⟨n0,d0,g3,g4,g5,gb⟩;by_cases c3:tx=tx';rotate_left
  ·rw[decide_eq_false c3] at gb ha
   (iterate 22 (first|((with_reducible apply RQ.run (Ai rfl));focus ((try simp +decide only[Oy,n0,gb]);with_reducible rfl))|((with_reducible apply RQ.bq);(focus rfl);(focus rfl);(focus (simp +decide only[Oy,n0,gb];done));focus ((try simp +decide only[Oy,n0,gb]);with_reducible rfl))|((with_reducible apply RQ.aw);(focus rfl);(focus rfl);focus (simp +decide only[Oy,n0,gb];done))))
   refine RQ.nil ?_;refine Wc.ret ?_;refine Bn (.inr rfl) (S0 d0) rfl ?_ hl3;rw[ha];simp +decide only[Gs,n0];simp
  rw[decide_eq_true c3] at gb ha;have el:decide ((ks.length:Int)=(ks'.length:Int))=decide (ks.length=ks'.length):=by
   by_cases e:ks.length=ks'.length
   ·rw[decide_eq_true e,decide_eq_true (by omega)]
   ·rw[decide_eq_false e,decide_eq_false (by omega)]
  (iterate 9 (first|((with_reducible apply RQ.run (Ai rfl));focus ((try simp +decide only[Oy,n0,g3,g4,g5,gb,EL,ld23,x3,y3,len23,el]);with_reducible rfl))|((with_reducible apply RQ.bq);(focus rfl);(focus rfl);(focus (simp +decide only[Oy,n0,g3,g4,g5,gb,EL,ld23,x3,y3,len23,el];done));focus ((try simp +decide only[Oy,n0,g3,g4,g5,gb,EL,ld23,x3,y3,len23,el]);with_reducible rfl))|((with_reducible apply RQ.aw);(focus rfl);(focus rfl);focus (simp +decide only[Oy,n0,g3,g4,g5,gb,EL,ld23,x3,y3,len23,el];done))))
  refine RQ.forget (fun A=>A.n=48/\A.defers=[]/\A.get 3=.pointer (some (own g.next))/\A.get 4=.pointer (some (own h1.next))/\A.get 5=.pointer (some (own h2.next))/\A.get 35=.bool (decide (ks.length=ks'.length))) ⟨by simp +decide only[Gs,n0],by simp +decide only[Gs,d0],by simp +decide only[Gs,n0,g3],by simp +decide only[Gs,n0,g4],by simp +decide only[Gs,n0,g5],by simp +decide only[Gs,n0]⟩ ?_;clear n0 d0 g3 g4 g5 gb;rintro A0 ⟨n0,d0,g3,g4,g5,gb⟩;by_cases c4:ks.length=ks'.length;rotate_left
  ·rw[decide_eq_false c4] at gb ha
   (iterate 13 (first|((with_reducible apply RQ.run (Ai rfl));focus ((try simp +decide only[Oy,n0,gb]);with_reducible rfl))|((with_reducible apply RQ.bq);(focus rfl);(focus rfl);(focus (simp +decide only[Oy,n0,gb];done));focus ((try simp +decide only[Oy,n0,gb]);with_reducible rfl))|((with_reducible apply RQ.aw);(focus rfl);(focus rfl);focus (simp +decide only[Oy,n0,gb];done))))
   refine RQ.nil ?_;refine Wc.ret ?_;refine Bn (.inr rfl) (S0 d0) rfl ?_ hl3;rw[ha];simp +decide only[Gs,n0];simp
  rw[decide_eq_true c4] at gb ha;have c53:(ev tab E J (nf+1)).call 56 [sl,.func (.func 58) ⟨[]⟩ ⟨[.pointer (some (own g.next)),.pointer (some (own h1.next)),.pointer (some (own h2.next))]⟩] h4=some (.bool (!Rp ks ks'),h4):=by
   apply Dg;have gr4:BL h h4:=hgr.trans (ag.grows.trans a4.grows);exact hJk (.inr (.inl ⟨rfl,.mk k m tx ks,.mk k' m' tx' ks',_,_,_,d,sl,rfl,ia4,⟨_,_,_,_,_,rfl,rfl,rfl,a4.grows _ _ b1',AJ gr4 hr,a4.grows _ _ b2',AJ gr4 hr',a4.grows _ _ b3,d1,d2,hz,c4⟩,rfl,rfl⟩)) (by omega)
  (iterate 4 (first|((with_reducible apply RQ.run (Ai rfl));focus ((try simp +decide only[Oy,n0,g3,g4,g5,gb,ld3,z0,h400]);with_reducible rfl))|((with_reducible apply RQ.bq);(focus rfl);(focus rfl);(focus (simp +decide only[Oy,n0,g3,g4,g5,gb,ld3,z0,h400];done));focus ((try simp +decide only[Oy,n0,g3,g4,g5,gb,ld3,z0,h400]);with_reducible rfl))|((with_reducible apply RQ.aw);(focus rfl);(focus rfl);focus (simp +decide only[Oy,n0,g3,g4,g5,gb,ld3,z0,h400];done))))
  refine RQ.forget (fun A=>A.n=48/\A.defers=[]/\A.get 3=.pointer (some (own g.next))/\A.get 4=.pointer (some (own h1.next))/\A.get 5=.pointer (some (own h2.next))/\A.get 39=.bool true) ⟨by simp +decide only[Gs,n0],by simp +decide only[Gs,d0],by simp +decide only[Gs,n0,g3],by simp +decide only[Gs,n0,g4],by simp +decide only[Gs,n0,g5],by simp +decide only[Gs,n0]⟩ ?_;clear n0 d0 g3 g4 g5 gb;rintro A0 ⟨n0,d0,g3,g4,g5,gb⟩
  (iterate 9 (first|((with_reducible apply RQ.run (Ai rfl));focus ((try simp +decide only[Oy,n0,g3,g4,g5,gb,EL,ld23,x3,len23,hup,c53,roF,aun,Bool.not_not]);with_reducible rfl))|((with_reducible apply RQ.bq);(focus rfl);(focus rfl);(focus (simp +decide only[Oy,n0,g3,g4,g5,gb,EL,ld23,x3,len23,hup,c53,roF,aun,Bool.not_not];done));focus ((try simp +decide only[Oy,n0,g3,g4,g5,gb,EL,ld23,x3,len23,hup,c53,roF,aun,Bool.not_not]);with_reducible rfl))|((with_reducible apply RQ.aw);(focus rfl);(focus rfl);focus (simp +decide only[Oy,n0,g3,g4,g5,gb,EL,ld23,x3,len23,hup,c53,roF,aun,Bool.not_not];done))))
  refine RQ.nil ?_;refine Wc.ret ?_;refine Bn (.inr rfl) (S0 d0) rfl ?_ hlog4;rw[ha];simp +decide only[Gs,n0];simp
 ·-- ContainsFunc
  refine⟨rfl,?_⟩;replace hnone:=hnone (by simp);generalize hJ:Fm (CJ E) I (4*isz t+2)=J at hnone hJk hJ54 ⊢;suffices hw:∃ n v h',(ev tab E J n).call 56 [sl,.func (.func 58) ⟨[]⟩ ⟨[p3,p4,p5]⟩] (fresh h)=some (v,h')/\(v=.bool (!Rp t.kids u.kids)/\h'.log=[]) by
   obtain⟨n,v,h',h1,rfl,h3⟩:=hw;exact⟨n,h',h1,h3⟩
  refine Wc.call hnone AGR rfl ?_;generalize hA0:(⟨T.ofList [sl,.func (.func 58) ⟨[]⟩ ⟨[p3,p4,p5]⟩] 0 .nil,max ([sl,.func (.func 58) ⟨[]⟩ ⟨[p3,p4,p5]⟩]:List Value).length Tryz.f56.ntmps,[]⟩:Ac)=A0;have n0:A0.n=9:=by rw[<- hA0];rfl
  have g00:A0.get 0=sl:=by rw[<- hA0];rfl
  have g01:A0.get 1=.func (.func 58) ⟨[]⟩ ⟨[p3,p4,p5]⟩:=by rw[<- hA0];rfl
  have d0:A0.defers=[]:=by rw[<- hA0]
  have c89:(ev tab E J 1).call 86 [sl,.func (.func 58) ⟨[]⟩ ⟨[p3,p4,p5]⟩] (fresh h)=some (.int .i64 (NV t.kids u.kids 0),fresh h):=by
   apply Al;exact hJk (.inr (.inr (.inl ⟨rfl,t,u,p3,p4,p5,d,sl,rfl,hia,cap.grow hgf,rfl,rfl⟩))) (by omega)
  have ed:=Pm t.kids u.kids 0 (by obtain⟨_,_,_,_,_,_,_,_,_,_,_,_,_,_,_,_,hl⟩:=cap;exact hl);refine Vw (Z5 n0 g00 g01 @c89 @ed) ?_;refine Bn (.inr rfl) (S0 d0) rfl ?_ rfl;simp +decide only[Gs,n0]
 ·-- IndexFunc
  refine⟨rfl,?_⟩;replace hnone:=hnone (by simp);generalize hJ:Fm (CJ E) I (4*isz t+1)=J at hnone hJk hJ54 ⊢;suffices hw:∃ n v h',(ev tab E J n).call 86 [sl,.func (.func 58) ⟨[]⟩ ⟨[p3,p4,p5]⟩] (fresh h)=some (v,h')/\(v=.int .i64 (NV t.kids u.kids 0)/\h'.log=[]) by
   obtain⟨n,v,h',h1,rfl,h3⟩:=hw;exact⟨n,h',h1,h3⟩
  refine Wc.call hnone AF9 rfl ?_;generalize hA0:(⟨T.ofList [sl,.func (.func 58) ⟨[]⟩ ⟨[p3,p4,p5]⟩] 0 .nil,max ([sl,.func (.func 58) ⟨[]⟩ ⟨[p3,p4,p5]⟩]:List Value).length Tryz.f86.ntmps,[]⟩:Ac)=A0;have n0:A0.n=19:=by rw[<- hA0];rfl
  have g00:A0.get 0=sl:=by rw[<- hA0];rfl
  have g01:A0.get 1=.func (.func 58) ⟨[]⟩ ⟨[p3,p4,p5]⟩:=by rw[<- hA0];rfl
  have d0:A0.defers=[]:=by rw[<- hA0]
  have hsl:∃ b c,sl=.slice b t.kids.length c:=by
   rcases hia with⟨e1,e2⟩|⟨kk,rt,e1,_⟩
   ·exact⟨none,0,by rw[e2,e1]⟩
   ·exact⟨_,_,e1⟩
  obtain⟨b,c,rfl⟩:=hsl;obtain⟨hlen,hkk⟩:t.kids.length<=1000000/\t.kids.length=u.kids.length:=by
   obtain⟨_,_,_,_,_,_,_,_,_,_,_,_,_,_,_,hz,hl⟩:=cap;obtain⟨k,m,tx,ks⟩:=t;rw[isz] at hz;have:=Dw ks;exact⟨by show ks.length<=_;omega,hl⟩
  have key:∀ (r i:Nat) (A:Ac),r=t.kids.length-i->i<=t.kids.length->A.n=19->A.defers=[]->A.get 0=.slice b t.kids.length c->A.get 1=.func (.func 58) ⟨[]⟩ ⟨[p3,p4,p5]⟩->A.get 7=.int .i64 (t.kids.length:Nat)->A.get 8=.int .i64 (i:Nat)->NV (t.kids.drop i) (u.kids.drop i) i=NV t.kids u.kids 0->
    Wc tab E J ⟨86,none⟩ (.loop Pn) A (fresh h) (fun ex A' h'=>h'=fresh h/\A'.n=19/\A'.defers=[]/\(ex=.exit 0/\NV t.kids u.kids 0 = -1\/ex=.ret/\A'.get 4=.int .i64 (NV t.kids u.kids 0))):=by
   intro r;induction r with
   | zero=>
    intro i A hr hi nA dA p0 p1 p7 p8 hn;obtain rfl:i=t.kids.length:=by omega
    have hlt:decide ((t.kids.length:Int)<(t.kids.length:Int))=false:=by simp
    rw[WN] at hn;apply Wc.loop;simp only[Pn,loopOf,firstLoop,Option.getD,Tryz.f86];refine Vw (Z6 nA p0 p1 p7 p8 @hlt) ?_;exact⟨rfl,by simp +decide only[Gs,nA],by simp +decide only[Gs,dA],.inl ⟨rfl,hn.symm⟩⟩
   | succ r ih=>
    intro i A hr hi nA dA p0 p1 p7 p8 hn;have hil:i<t.kids.length:=by omega
    have hlt:decide ((i:Int)<(t.kids.length:Int))=true:=by simp;omega
    have hir:AN (i:Int) t.kids.length=true:=by
     show Nat.blt i t.kids.length=true;rw[P0];exact hil
    have w3:IntKind.i64.wrap ((i:Int)+1)=(i:Int)+1:=wrap64 (by omega) (by omega);have c55:(ev tab E J 1).call 58 [.int .i64 (i:Nat),p3,p4,p5] (fresh h)=some (.bool (!NM t.kids[i] (u.kids[i]'(by omega))),fresh h):=by
     apply Al;exact hJk (.inr (.inr (.inr ⟨rfl,t,u,p3,p4,p5,d,i,rfl,hil,by omega,cap.grow hgf,rfl,rfl⟩))) (by omega)
    rw[TY hil (by omega)] at hn;rcases hia with⟨e1,_⟩|⟨kk,rt,e1,e2⟩
    ·omega
    simp only[Value.slice.injEq] at e1;obtain⟨rfl,_,rfl⟩:=e1;have hld:(fresh h).cell E (aadd (own kk) (i*1))=some (.int .i64 (i:Nat)):=AS (h:=fresh h) e2 (by rw[V2];exact Pp _ _ hil) rfl;cases hb:NM t.kids[i] (u.kids[i]'(by omega)) with
    | true=>
     rw[hb] at hn c55;rw[if_pos rfl] at hn;rw[Bool.not_true] at c55;apply Wc.loop;simp only[Pn,loopOf,firstLoop,Option.getD,Tryz.f86];refine Vw (Z13 nA p0 p1 p7 p8 @hlt (fun a c=>AAY a _ c _ hir) @M0 @ld3 @hld (@W0 Value) @c55 @w3) ?_;refine ih (i+1) _ (by omega) (by omega) ?_ ?_ ?_ ?_ ?_ ?_ hn
     ·simp +decide only[Gs,nA]
     ·simp +decide only[Gs,dA]
     ·simp +decide only[Gs,nA,p0]
     ·simp +decide only[Gs,nA,p1]
     ·simp +decide only[Gs,nA,p7]
     ·simp +decide only[Gs,nA];rfl
    | false=>
     rw[hb] at hn c55;rw[if_neg (by simp)] at hn;rw[Bool.not_false] at c55;apply Wc.loop;simp only[Pn,loopOf,firstLoop,Option.getD,Tryz.f86];refine Vw (Z13 nA p0 p1 p7 p8 @hlt (fun a c=>AAY a _ c _ hir) @M0 @ld3 @hld (@W0 Value) @c55 @w3) ?_;refine⟨rfl,by simp +decide only[Gs,nA],by simp +decide only[Gs,dA],.inr ⟨rfl,?_⟩⟩;rw[<- hn];simp +decide only[Gs,nA]
  refine Vw (Z4 n0 g00 g01 @ABt) ?_;refine (key t.kids.length 0 _ rfl (C2 _) ?_ ?_ ?_ ?_ ?_ ?_ rfl).mono ?_
  ·simp +decide only[Gs,n0]
  ·simp +decide only[Gs,d0]
  ·simp +decide only[Gs,n0,g00]
  ·simp +decide only[Gs,n0,g01]
  ·simp +decide only[Gs,n0]
  ·simp +decide only[Gs,n0];rfl
  ·rintro ex A' h' ⟨rfl,e1,e2,⟨rfl,e3⟩|⟨rfl,e3⟩⟩
   ·simp only[if_true];refine Vw e1 ?_;refine Bn (.inr rfl) (S0 e2) rfl ?_ rfl;rw[e3];simp +decide only[Gs,e1]
   ·refine Bn (.inr rfl) e2 rfl e3 rfl
 ·-- the closure
  refine⟨rfl,?_⟩;replace hnone:=hnone (by simp);generalize hJ:Fm (CJ E) I (4*isz t)=J at hnone hJk hJ54 ⊢;suffices hw:∃ n v h',(ev tab E J n).call 58 [.int .i64 (i:Nat),p3,p4,p5] (fresh h)=some (v,h')/\(v=.bool (!NM t.kids[i] u.kids[i])/\h'.log=[]) by
   obtain⟨n,v,h',h1,rfl,h3⟩:=hw;exact⟨n,h',h1,h3⟩
  refine Wc.call hnone AGP rfl ?_;generalize hA0:(⟨T.ofList [.int .i64 (i:Nat),p3,p4,p5] 0 .nil,max ([.int .i64 (i:Nat),p3,p4,p5]:List Value).length Tryz.f58.ntmps,[]⟩:Ac)=A0;have n0:A0.n=20:=by rw[<- hA0];rfl
  have g00:A0.get 0=.int .i64 (i:Nat):=by rw[<- hA0];rfl
  have g01:A0.get 1=p3:=by rw[<- hA0];rfl
  have g02:A0.get 2=p4:=by rw[<- hA0];rfl
  have g03:A0.get 3=p5:=by rw[<- hA0];rfl
  have d0:A0.defers=[]:=by rw[<- hA0]
  obtain⟨k3,k4,k5,cs3,cs4,rfl,rfl,rfl,b3,r3,b4,r4,b5,d1,d2,hz,hkk⟩:=cap;obtain⟨k,m,tx,ks⟩:=t;obtain⟨k',m',tx',ks'⟩:=u;have hil:i<ks.length:=hi;have hil':i<ks'.length:=hi';obtain⟨sb,sc,e3,hs⟩:=Ao r3;obtain⟨sb',sc',e4,hs'⟩:=Ao r4;simp only[Value.agg.injEq,Array.mk.injEq] at e3 e4;subst e3 e4;rcases hs with hk0|⟨a,cs,he,hlc,hcs,hrl⟩
  ·rw[hk0] at hil;simp at hil
  rcases hs' with hk0|⟨a',cs',he',hlc',hcs',hrl'⟩
  ·rw[hk0] at hil'; simp at hil'
  subst he he';obtain⟨_,hrk⟩:=DH i hrl (Q0 hil);obtain⟨_,hrk'⟩:=DH i hrl' (Q0 hil');have hsub:(fresh h).cells E (aadd a (i*4)) 4=some ((cs.drop (i*4)).take 4):=BD (h:=fresh h) hcs (m:=i*4) (l:=4) (by omega);have hsub':(fresh h).cells E (aadd a' (i*4)) 4=some ((cs'.drop (i*4)).take 4):=BD (h:=fresh h) hcs' (m:=i*4) (l:=4) (by omega);have hmem:ks[i]∈ks:=Q5 hil;have hkz:=Tn (k:=k) (n:=m) (t:=tx) hmem;have hkl:=Zm (k:=k) (n:=m) (t:=tx) hmem;have hlb:=CG ks[i];have w3:IntKind.i64.wrap (d+1)=d+1:=wrap64 (by omega) (by omega);have x3:(fresh h).cell E (aadd (own k3) 3)=some (.slice (some a) ks.length sc):=AS (h:=fresh h) (i:=3) b3 rfl rfl;have y3:(fresh h).cell E (aadd (own k4) 3)=some (.slice (some a') ks'.length sc'):=AS (h:=fresh h) (i:=3) b4 rfl rfl;have z0:(fresh h).cell E (own k5)=some (.int .i64 d):=Bp (h:=fresh h) b5 rfl;have hir:AN (i:Int) ks.length=true:=by
   show Nat.blt i ks.length=true;rw[P0];exact hil
  have hir':AN (i:Int) ks'.length=true:=by
   show Nat.blt i ks'.length=true;rw[P0];exact hil'
  have c14:(ev tab E J 1).call 18 [.agg ⟨(cs.drop (i*4)).take 4⟩,.agg ⟨(cs'.drop (i*4)).take 4⟩,.int .i64 (d+1)] (fresh h)=some (.bool (NM ks[i] ks'[i]),fresh h):=by
   apply Al;exact hJk (.inl ⟨rfl,ks[i],ks'[i],_,_,d+1,rfl,AJ hgf hrk,AJ hgf hrk',by omega,by omega,by omega,rfl,rfl⟩) (by omega)
  have hff:fresh (fresh h)=fresh h:=rfl;refine VW (Z20 n0 g00 g01 g02 g03 @hff @EL @ld3 @ld23 @MS @x3 @y3 @z0 (fun a c=>Ts a _ c _ hir) (fun a c=>Ts a _ c _ hir') @M0 @hsub @hsub' @w3 @c14) ?_;refine Bn (.inr rfl) (S0 d0) rfl ?_ rfl;simp +decide only[Gs,n0];rfl
def AGq (E:Env) (I:Aa):Prop:=∀ t u xv yv h,rep E h t xv->rep E h u yv->Cd t<=400->isz t<=1000000->I 18 [xv,yv,.int .i64 0] h=some (some (.bool (NM t u),h))
set_option maxHeartbeats 16000000
variable {E:Env}
theorem ACy {g:H} (f:Fit g) {a b c d:Value} (ho:[a,b,c,d].all isOne=true):∃ g1 g2,g.new (.cells (Value.agg #[.int .i64 0,.int .i64 0,.string ⟨#[]⟩,.slice none 0 0]).cells.toList 24 none)=g1/\AO tab 24 (own g.next) (.agg ⟨[a,b,c,d]⟩) g1=some g2/\Ahd g g2/\g2.blk g.next=some (.cells [a,b,c,d] 24 none):=by
 have e1:Ahd g (g.new (.cells (Value.agg #[.int .i64 0,.int .i64 0,.string ⟨#[]⟩,.slice none 0 0]).cells.toList 24 none)):=Ahd.aj f rfl;have c8:(g.new (.cells (Value.agg #[.int .i64 0,.int .i64 0,.string ⟨#[]⟩,.slice none 0 0]).cells.toList 24 none)).blk g.next=some (.cells [.int .i64 0,.int .i64 0,.string ⟨#[]⟩,.slice none 0 0] 24 none):=AA rfl;generalize g.new (.cells (Value.agg #[.int .i64 0,.int .i64 0,.string ⟨#[]⟩,.slice none 0 0]).cells.toList 24 none)=g1 at e1 c8;exact⟨g1,_,rfl,AU (ys:=[a,b,c,d]) DW c8 rfl rfl ho (by simp),e1.aa rfl (C0 _) (e1.fit.lt c8) f,AD rfl⟩
end Go.Proofs.YtofijpbmbmbnhaaGreatDoor
