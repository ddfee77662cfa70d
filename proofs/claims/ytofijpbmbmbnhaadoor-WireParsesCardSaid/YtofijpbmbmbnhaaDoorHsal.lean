/- The reference's reader of texts: items. -/
import Derived.Test.YtofijpbmbmbnhaaDoorHsak
import Derived.Test.YtofijpbmbmbnhaaDoorRows
import Derived.ProofKit
import Derived.LaidMore
import Derived.OpenShut
import Derived.Stop.Joined
import Derived.Test.YtofijpbmbmbnhaaDoorTie
import Derived.Test.YtofijpbmbmbnhaaDoorCards
import Derived.SevenTiedAt
set_option linter.unusedSimpArgs false
set_option linter.unusedVariables false
set_option maxRecDepth 100000
set_option maxHeartbeats 16000000
namespace Go.Proofs.YtofijpbmbmbnhaaDoor
open Go Go.Hs Go.Proofs
variable {E:Env} {I:Known}
def BadT (k k6:Nat) (v:Value) (R:Rd Hs.Item) (h:H):Prop:=∃ (p:Nat) (e:Int) (pos it:Nat) (l:List Value),R=.bad p e∧e≠0∧Ref k v pos it p e h∧h.blk k6=some (.cells l 25 none)∧l.length=4∧l.all isOne=true
def StT (g:H) (k k6 fu:Nat) (P:H→Prop) (ex:Ex) (A:Ac) (h:H):Prop:=ex=.normal∧A.n=170∧A.defers=[]∧A.get 0=.pointer (some (own k))∧A.get 1=.int .i64 (250-fu:Nat)∧A.get 4=.pointer (some (own g.next))∧A.get 6=.pointer (some (own k6))∧Mod (fun j=>j=k∨g.next≤j) g h∧h.blk g.next=some (.cells zeroL 25 none)∧P h
theorem rtree51 (hI:∀ f args h,(f=51∨f=86∨f=88∨f=87∨f=52∨f=115∨f=116)→I f args h=none) {k kb:Nat} {v:Value} {bs:List UInt8} {B:Blk} (hB:∀ h:H,h.blk kb=some B→Byt E h v bs) (hk:kb≠k) (hl:bs.length≤1000000):∀ fu,fu≤250→Tree51 E I k kb B v bs fu:=by
 have hI52:∀ args h,I 52 args h=none:=fun args h=>hI _ args h (by simp)
 have hI86:∀ f args h,(f=86∨f=52)→I f args h=none:=fun f args h hf=>hI f args h (by rcases hf with h|h<;>simp[h])
 have hI87:∀ args h,I 87 args h=none:=fun args h=>hI _ args h (by simp)
 have hI88:∀ f args h,(f=88∨f=87∨f=52∨f=115∨f=116)→I f args h=none:=fun f args h hf=>hI f args h (by rcases hf with h|h|h|h|h<;>simp[h])
 have hI51:∀ f args h,(f=51∨f=87∨f=52)→I f args h=none:=fun f args h hf=>hI f args h (by rcases hf with h|h|h<;>simp[h])
 intro fu
 induction fu with
 | zero=>
  intro _ g pos items w f hqB b hp hi
  have hv2:=(bytB (E:=E) hB hqB).2.1
  show ∃ n x g',(ev tab E I n).call 51 [.pointer (some (own k)),.int .i64 (251:Nat)] g=some (x,g')∧_
  apply Wk (hI _ _ _ (.inl rfl)) fn51 rfl
  intro A0 n0 d0 hA0
  change A0.n=170 at n0
  have q0:A0.get 0=.pointer (some (own k)):=hA0 0 _ rfl
  have q1:A0.get 1=.int .i64 (251:Nat):=hA0 1 _ rfl
  clear hA0
  generalize hh1:g.new (.cells (Value.agg #[.int .i64 0,.int .i64 0,.string ⟨#[]⟩,.slice none 0 0]).cells.toList 25 none)=h1
  have t1:Ahd g h1:=by rw[← hh1];exact Ahd.new0 f rfl
  have b4:h1.blk g.next=some (.cells zeroL 25 none):=by rw[← hh1];exact new_blk_new rfl
  have kl:k<g.next:=f.lt b
  have b1:=b.mod (t1.mod (M:=fun _=>False)) (fun h=>h)
  obtain⟨c0,c1,c2,c3,c4⟩:=b1.at (E:=E) hv2
  have e3:decide (((251:Nat):Int)>250)=true:=by decide
  obtain⟨nf,g',ck,m,b'⟩:=rfail52 (E:=E) (I:=I) hI52 t1.fit b1 11 pos
  have b4':=m.blk _ _ (by omega) b4
  have s4:astore tab 25 (own g.next) (.agg ⟨zeroL⟩) g'=some (g'.setl g.next (.cells zeroL 25 none)):=astore_all qty25 b4' rfl rfl rfl (by unfold zeroL;simp)
  have m5:=(Mod.refl (M:=fun j=>j=g.next) m.fit).setl (B:=.cells zeroL 25 none) rfl rfl (m.fit.lt b4')
  have hc:(g'.setl g.next (.cells zeroL 25 none)).cells E (own g.next) 4=some zeroL:=blk_cells (setl_same rfl) rfl rfl
  repeat' (first|with_reducible apply Ws|(apply Wn nf;focus ((repeat ((with_reducible apply Rr rfl);focus ((try simp +decide only[Oz,n0,q0,q1,qtz25,hh1,Qx,Hx,c1,e3,ck,qbu25z,s4]);with_reducible rfl)));with_reducible exact Rn))|(refine W2 (by simp +decide only[Cz,n0,q0,q1,qtz25,hh1,Qx,Hx,c1,e3,ck,qbu25z,s4];try with_reducible rfl) (fun hb=>?_) (fun hb=>?_)<;>try contradiction)|apply W3|apply W4|apply W5|apply W6)
  refine done_cell (.inr rfl) (by simp +decide only[Gz,d0]) rfl (show _=Value.pointer (some (own g.next)) by simp +decide only[Gz,n0]) (by rw[qld25,hc]) ⟨zeroL,rfl,rfl,rfl,((t1.mod.trans (m.sub fun _ h=>.inl h)).trans (m5.sub (N:=fun j=>j=k∨g.next≤j) fun j hj=>.inr (by omega))).low f (fun _ h=>h),?_⟩
  rw[rdPI]
  exact⟨pos,items,b'.mod m5 (by omega)⟩
 | succ fu IH=>
 intro hfu g pos items w f hqB b hp hi
 have RI:=IH (by omega)
 rw[show 251-(fu+1)=250-fu by omega]
 have hv2:=(bytB (E:=E) hB hqB).2.1
 have lkb:kb<g.next:=f.lt hqB
 apply Wk (hI _ _ _ (.inl rfl)) fn51 rfl
 intro A0 n0 d0 hA0
 change A0.n=170 at n0
 have q0:A0.get 0=.pointer (some (own k)):=hA0 0 _ rfl
 have q1:A0.get 1=.int .i64 (250-fu:Nat):=hA0 1 _ rfl
 clear hA0
 generalize hh1:g.new (.cells (Value.agg #[.int .i64 0,.int .i64 0,.string ⟨#[]⟩,.slice none 0 0]).cells.toList 25 none)=h1
 have t1:Ahd g h1:=by rw[← hh1];exact Ahd.new0 f rfl
 have b4:h1.blk g.next=some (.cells zeroL 25 none):=by rw[← hh1];exact new_blk_new rfl
 have kl:k<g.next:=f.lt b
 have b1:=b.mod (t1.mod (M:=fun _=>False)) (fun h=>h)
 obtain⟨c0,c1,c2,c3,c4⟩:=b1.at (E:=E) hv2
 have eR:=rdPI_succ bs fu pos items
 generalize rdPI bs (fu+1) pos items=R at eR ⊢
 have up:∀ {h h':H},Mod (fun j=>j=k) h h'→Mod (fun j=>j=k∨g.next≤j) h h':=fun m=>m.sub (fun _ h=>.inl h)
 have u4:∀ {h h':H} {k4:Nat},g.next≤k4→Mod (fun j=>j=k4) h h'→Mod (fun j=>j=k∨g.next≤j) h h':=fun hk m=>m.sub (fun j hj=>.inr (by omega))
 have res:∀ {h:H} {l:List Value} {A:Ac},l.length=4→l.all isOne=true→A.defers=[]→A.get 4=.pointer (some (own g.next))→Mod (fun j=>j=k∨g.next≤j) g h→h.blk g.next=some (.cells l 25 none)→RItemQ E k v R g.next l w h→
   (Ex.ret=.normal∨Ex.ret=.ret)∧∃ h2 v',takeAll A.defers h=some h2∧ares tab E Tryd.f51 A h2=some v'∧(∃ l,v'=.agg ⟨l⟩∧l.length=4∧l.all isOne=true∧Mod (fun j=>j=k) g h2∧RItemQ E k v R g.next l w h2):=by
  intro h l A hl4 ho d0 q4 m hqB hq
  have hc:h.cells E (own g.next) 4=some l:=blk_cells hqB hl4 ho
  exact done_cell (.inr rfl) d0 rfl q4 (by rw[qld25,hc]) ⟨l,rfl,hl4,ho,m.low f (fun _ h=>h),hq⟩
 have e3:decide (((250-fu:Nat):Int)>250)=false:=decide_eq_false (by omega)
 by_cases h5:5000≤items
 ·have e4:decide ((items:Int)≥5000)=true:=decide_eq_true (by omega)
  rw[if_pos h5] at eR
  obtain⟨nf,g',ck,m,b'⟩:=rfail52 (E:=E) (I:=I) hI52 t1.fit b1 2 pos
  have b4':=m.blk _ _ (by omega) b4
  have s4:astore tab 25 (own g.next) (.agg ⟨zeroL⟩) g'=some (g'.setl g.next (.cells zeroL 25 none)):=astore_all qty25 b4' rfl rfl rfl (by unfold zeroL;simp)
  have m5:=(Mod.refl (M:=fun j=>j=g.next) m.fit).setl (B:=.cells zeroL 25 none) rfl rfl (m.fit.lt b4')
  repeat' (first|with_reducible apply Ws|(apply Wn nf;focus ((repeat ((with_reducible apply Rr rfl);focus ((try simp +decide only[Oz,n0,q0,q1,qtz25,hh1,Qx,Hx,c1,c2,e3,e4,ck,qbu25z,s4]);with_reducible rfl)));with_reducible exact Rn))|(refine W2 (by simp +decide only[Cz,n0,q0,q1,qtz25,hh1,Qx,Hx,c1,c2,e3,e4,ck,qbu25z,s4];try with_reducible rfl) (fun hb=>?_) (fun hb=>?_)<;>try contradiction)|apply W3|apply W4|apply W5|apply W6)
  refine res (l:=zeroL) rfl rfl (by simp +decide only[Gz,d0]) (by simp +decide only[Gz,n0]) ((t1.mod.trans (up m)).trans (u4 (Nat.le_refl _) m5)) (setl_same rfl) ?_
  rw[eR]
  exact⟨pos,items,b'.mod m5 (by omega)⟩
 have e4:decide ((items:Int)≥5000)=false:=decide_eq_false (by omega)
 rw[if_neg h5] at eR
 have w1:IntKind.i64.wrap ((items:Int)+1)=((items+1:Nat):Int):=by rw[wrap64 (by omega) (by omega)];omega
 obtain⟨h2,s2,b2,m2⟩:=b1.set t1.fit qty3 rfl 2 (items+1:Nat) (by decide) rfl (pos':=pos) (items':=items+1) (w':=w) (e':=0)
 have b42:=m2.blk _ _ (by omega) b4
 generalize hh3:h2.new (.cells (Value.agg #[.int .i64 0,.int .i64 0,.string ⟨#[]⟩,.slice none 0 0]).cells.toList 25 none)=h3
 have t3:Ahd h2 h3:=by rw[← hh3];exact Ahd.new0 m2.fit rfl
 have b63:h3.blk h2.next=some (.cells zeroL 25 none):=by rw[← hh3];exact new_blk_new rfl
 have hk6:g.next<h2.next:=m2.fit.lt b42
 generalize hk6e:h2.next=k6 at*
 have b43:=t3.grows _ _ b42
 have M3:=(t1.mod.trans (up m2)).ahd t3
 have b3:=b2.mod (t3.mod (M:=fun _=>False)) (fun h=>h)
 have hb3:=M3.blk _ _ (by omega) hqB
 obtain⟨n6,x6,h6,c6,m6,hq6⟩:=rdecimal86 (E:=E) (I:=I) hI86 hB hk M3.fit hb3 b3 hp hl (items+1)
 have b46:=m6.blk _ _ (by omega) b43
 have b66:=m6.blk _ _ (by omega) b63
 obtain⟨z6,rfl⟩:∃ z,x6=.int .i64 z:=by
  unfold NumP at hq6
  split at hq6
  ·exact⟨_,hq6.1⟩
  ·obtain⟨m,_,h,_⟩:=hq6
   exact⟨m,h⟩
 have s6:astore tab 3 (own k6) (.int .i64 z6) h6=some (h6.setl k6 (.cells [.int .i64 z6,.int .i64 0,.string ⟨#[]⟩,.slice none 0 0] 25 none)):=astore_one (o:=0) qty3 rfl b66 rfl rfl (by decide) rfl
 have m7:=(Mod.refl (M:=fun j=>j=k6) m6.fit).setl (B:=.cells [.int .i64 z6,.int .i64 0,.string ⟨#[]⟩,.slice none 0 0] 25 none) rfl rfl (m6.fit.lt b66)
 have b67:=setl_same (h:=h6) (k:=k6) (B:=.cells [.int .i64 z6,.int .i64 0,.string ⟨#[]⟩,.slice none 0 0] 25 none) rfl
 have b47:=m7.blk _ _ (by omega) b46
 have M7:=(M3.trans (up m6)).trans (u4 (by omega) m7)
 have kr:∀ {pos' it:Nat} {w' e:Int},Ref k v pos' it w' e h6→Ref k v pos' it w' e (h6.setl k6 (.cells [.int .i64 z6,.int .i64 0,.string ⟨#[]⟩,.slice none 0 0] 25 none)):=fun b=>b.mod m7 (by omega)
 generalize h6.setl k6 (.cells [.int .i64 z6,.int .i64 0,.string ⟨#[]⟩,.slice none 0 0] 25 none)=h7 at s6 m7 b67 b47 M7 kr
 repeat' (first|with_reducible apply Ws|(apply Wp;focus ((repeat ((with_reducible apply Rr rfl);focus ((try simp +decide only[Oz,n0,q0,q1,qtz25,hh1,Qx,Hx,c1,c2,e3,e4,w1,s2,hh3,hk6e]);with_reducible rfl)));with_reducible exact Rn))|(refine W2 (by simp +decide only[Cz,n0,q0,q1,qtz25,hh1,Qx,Hx,c1,c2,e3,e4,w1,s2,hh3,hk6e];try with_reducible rfl) (fun hb=>?_) (fun hb=>?_)<;>try contradiction)|apply W3|apply W4|apply W5|apply W6)
 (repeat' (with_reducible apply Ws));(apply Wn n6;focus ((repeat ((with_reducible apply Rr rfl);focus ((try simp +decide only[Oz,n0,q0,Qx,Hx,c6,s6]);with_reducible rfl)));with_reducible exact Rn))
 refine Wc.forget (fun A=>A.n=170∧A.defers=[]∧A.get 0=.pointer (some (own k))∧A.get 1=.int .i64 (250-fu:Nat)∧A.get 4=.pointer (some (own g.next))∧A.get 5=.int .i64 (pos:Nat)∧A.get 6=.pointer (some (own k6))) (by and_intros<;>simp +decide only[Gz,n0,d0,q0,q1]<;>rfl) ?_
 rintro A0 ⟨n0,d0,q0,q1,q4,q5,q6⟩
 have kd0:=cell_blk0 (E:=E) b67
 rw[rdDec_dig (by decide)] at eR
 refine Wc.seq (Wc.mono (Q:=StT g k k6 fu (fun h=>(∃ (kn p:Nat),R=rdP1 bs fu kn p (items+1)∧p≤bs.length∧Ref k v p (items+1) w 0 h∧h.blk k6=some (.cells [.int .i64 (kn:Nat),.int .i64 0,.string ⟨#[]⟩,.slice none 0 0] 25 none))∨BadT k k6 v R h)) ?_ ?_)
 ·cases hr:rdDig bs pos (items+1) with
  | bad p e=>
   rw[hr] at hq6 eR
   obtain⟨z,pos',hz,b6⟩:=hq6
   have b7:=kr b6
   have he:e≠0:=by rcases (rdDig_bad hr).2 with rfl|rfl<;>decide
   have e9:decide (e=0)=false:=decide_eq_false he
   obtain⟨_,_,_,_,f4⟩:=b7.at (E:=E) hv2
   (repeat' (with_reducible apply Ws));(apply Wn 1;focus ((repeat (first|((first|with_reducible apply Rr rfl|((with_reducible apply Rg);(focus rfl);(focus rfl);focus (simp +decide only[Oz,n0,q0,q6,Qx,Hx,f4,e9];done)));focus ((try simp +decide only[Oz,n0,q0,q6,Qx,Hx,f4,e9]);with_reducible rfl))|((with_reducible apply Rs);(focus rfl);(focus rfl);focus (simp +decide only[Oz,n0,q0,q6,Qx,Hx,f4,e9];done))|((with_reducible apply RO.skipU);(focus rfl);(focus rfl);focus (simp +decide only[Oz,n0,q0,q6,Qx,Hx,f4,e9];done))));with_reducible exact Rn))
   repeat' (first|with_reducible apply Ws|(apply Wp;focus ((repeat ((with_reducible apply Rr rfl);focus ((try simp +decide only[Oz,n0]);with_reducible rfl)));with_reducible exact Rn))|(refine W2 (by simp +decide only[Cz,n0];try with_reducible rfl) (fun hb=>?_) (fun hb=>?_)<;>try contradiction)|apply W3|apply W4|apply W5|apply W6)
   exact⟨rfl,by simp +decide only[Gz,n0],by simp +decide only[Gz,d0],by simp +decide only[Gz,n0,q0],by simp +decide only[Gz,n0,q1],by simp +decide only[Gz,n0,q4],by simp +decide only[Gz,n0,q6],M7,b47,.inr ⟨p,e,pos',items+1,_,eR,he,b7,b67,rfl,rfl⟩⟩
  | ok kn p it=>
   rw[hr] at hq6 eR
   obtain⟨hz,b6⟩:=hq6
   cases hz
   have b7:=kr b6
   obtain⟨_,hpl,_,rfl⟩:=rdDig_ok hr hp
   obtain⟨_,_,_,_,f4⟩:=b7.at (E:=E) hv2
   obtain⟨nf,g',ck,mf,bf⟩:=rfail52 (E:=E) (I:=I) hI52 M7.fit b7 3 pos
   simp only[] at eR
   by_cases h1:kn=0
   ·have e5:decide ((kn:Int)<1)=true:=decide_eq_true (by omega)
    rw[if_neg (by omega),if_pos h1] at eR
    (repeat' (with_reducible apply Ws));(apply Wn 1;focus ((repeat (first|((first|with_reducible apply Rr rfl|((with_reducible apply Rg);(focus rfl);(focus rfl);focus (simp +decide only[Oz,n0,q0,q6,Qx,Hx,f4,kd0,e5];done)));focus ((try simp +decide only[Oz,n0,q0,q6,Qx,Hx,f4,kd0,e5]);with_reducible rfl))|((with_reducible apply Rs);(focus rfl);(focus rfl);focus (simp +decide only[Oz,n0,q0,q6,Qx,Hx,f4,kd0,e5];done))|((with_reducible apply RO.skipU);(focus rfl);(focus rfl);focus (simp +decide only[Oz,n0,q0,q6,Qx,Hx,f4,kd0,e5];done))));with_reducible exact Rn))
    repeat' (first|with_reducible apply Ws|(apply Wn nf;focus ((repeat ((with_reducible apply Rr rfl);focus ((try simp +decide only[Oz,n0,q0,q5,ck]);with_reducible rfl)));with_reducible exact Rn))|(refine W2 (by simp +decide only[Cz,n0,q0,q5,ck];try with_reducible rfl) (fun hb=>?_) (fun hb=>?_)<;>try contradiction)|apply W3|apply W4|apply W5|apply W6)
    exact⟨rfl,by simp +decide only[Gz,n0],by simp +decide only[Gz,d0],by simp +decide only[Gz,n0,q0],by simp +decide only[Gz,n0,q1],by simp +decide only[Gz,n0,q4],by simp +decide only[Gz,n0,q6],M7.trans (up mf),mf.blk _ _ (by omega) b47,.inr ⟨pos,3,p,items+1,_,eR,by decide,bf,mf.blk _ _ (by omega) b67,rfl,rfl⟩⟩
   have e5:decide ((kn:Int)<1)=false:=decide_eq_false (by omega)
   by_cases h2:63<kn
   ·have e6:decide ((kn:Int)>63)=true:=decide_eq_true (by omega)
    rw[if_pos h2] at eR
    (repeat' (with_reducible apply Ws));(apply Wn 1;focus ((repeat (first|((first|with_reducible apply Rr rfl|((with_reducible apply Rg);(focus rfl);(focus rfl);focus (simp +decide only[Oz,n0,q0,q6,Qx,Hx,f4,kd0,e5,e6];done)));focus ((try simp +decide only[Oz,n0,q0,q6,Qx,Hx,f4,kd0,e5,e6]);with_reducible rfl))|((with_reducible apply Rs);(focus rfl);(focus rfl);focus (simp +decide only[Oz,n0,q0,q6,Qx,Hx,f4,kd0,e5,e6];done))|((with_reducible apply RO.skipU);(focus rfl);(focus rfl);focus (simp +decide only[Oz,n0,q0,q6,Qx,Hx,f4,kd0,e5,e6];done))));with_reducible exact Rn))
    repeat' (first|with_reducible apply Ws|(apply Wn nf;focus ((repeat ((with_reducible apply Rr rfl);focus ((try simp +decide only[Oz,n0,q0,q5,ck]);with_reducible rfl)));with_reducible exact Rn))|(refine W2 (by simp +decide only[Cz,n0,q0,q5,ck];try with_reducible rfl) (fun hb=>?_) (fun hb=>?_)<;>try contradiction)|apply W3|apply W4|apply W5|apply W6)
    exact⟨rfl,by simp +decide only[Gz,n0],by simp +decide only[Gz,d0],by simp +decide only[Gz,n0,q0],by simp +decide only[Gz,n0,q1],by simp +decide only[Gz,n0,q4],by simp +decide only[Gz,n0,q6],M7.trans (up mf),mf.blk _ _ (by omega) b47,.inr ⟨pos,3,p,items+1,_,eR,by decide,bf,mf.blk _ _ (by omega) b67,rfl,rfl⟩⟩
   have e6:decide ((kn:Int)>63)=false:=decide_eq_false (by omega)
   rw[if_neg h2,if_neg h1] at eR
   (repeat' (with_reducible apply Ws));(apply Wn 1;focus ((repeat (first|((first|with_reducible apply Rr rfl|((with_reducible apply Rg);(focus rfl);(focus rfl);focus (simp +decide only[Oz,n0,q0,q6,Qx,Hx,f4,kd0,e5,e6];done)));focus ((try simp +decide only[Oz,n0,q0,q6,Qx,Hx,f4,kd0,e5,e6]);with_reducible rfl))|((with_reducible apply Rs);(focus rfl);(focus rfl);focus (simp +decide only[Oz,n0,q0,q6,Qx,Hx,f4,kd0,e5,e6];done))|((with_reducible apply RO.skipU);(focus rfl);(focus rfl);focus (simp +decide only[Oz,n0,q0,q6,Qx,Hx,f4,kd0,e5,e6];done))));with_reducible exact Rn))
   repeat' (first|with_reducible apply Ws|(apply Wp;focus ((repeat ((with_reducible apply Rr rfl);focus ((try simp +decide only[Oz,n0]);with_reducible rfl)));with_reducible exact Rn))|(refine W2 (by simp +decide only[Cz,n0];try with_reducible rfl) (fun hb=>?_) (fun hb=>?_)<;>try contradiction)|apply W3|apply W4|apply W5|apply W6)
   exact⟨rfl,by simp +decide only[Gz,n0],by simp +decide only[Gz,d0],by simp +decide only[Gz,n0,q0],by simp +decide only[Gz,n0,q1],by simp +decide only[Gz,n0,q4],by simp +decide only[Gz,n0,q6],M7,b47,.inl ⟨kn,p,eR,hpl,b7,b67⟩⟩
 clear n0 d0 q0 q1 q4 q5 q6 kd0 kr M7 b47 b67 m7 s6 b66 b46 hq6 m6 c6 hb3 b3 M3 b43 b63 t3 b42 m2 b2 s2 eR c0 c1 c2 c3 c4 b1 b4 t1
 rintro ex A0 h ⟨rfl,n0,d0,q0,q1,q4,q6,M,b4,hst⟩
 show Wc _ _ _ _ _ _ _ _
 refine Wc.seq (Wc.mono (Q:=StT g k k6 fu (fun h=>(∃ (kn m p:Nat),R=rdP2 bs fu kn m p (items+1)∧p≤bs.length∧Ref k v p (items+1) w 0 h∧h.blk k6=some (.cells [.int .i64 (kn:Nat),.int .i64 (m:Nat),.string ⟨#[]⟩,.slice none 0 0] 25 none))∨BadT k k6 v R h)) ?_ ?_)
 ·rcases hst with⟨kn,p,eR,hpl,bb,b6⟩|⟨p,e,pos',it,l,eR,he,bb,b6,h4,h1⟩
  rotate_left
  ·obtain⟨_,_,_,_,f4⟩:=bb.at (E:=E) hv2
   have e9:decide (e=0)=false:=decide_eq_false he
   (repeat' (with_reducible apply Ws));(apply Wn 1;focus ((repeat (first|((first|with_reducible apply Rr rfl|((with_reducible apply Rg);(focus rfl);(focus rfl);focus (simp +decide only[Oz,n0,q0,Qx,Hx,f4,e9];done)));focus ((try simp +decide only[Oz,n0,q0,Qx,Hx,f4,e9]);with_reducible rfl))|((with_reducible apply Rs);(focus rfl);(focus rfl);focus (simp +decide only[Oz,n0,q0,Qx,Hx,f4,e9];done))|((with_reducible apply RO.skipU);(focus rfl);(focus rfl);focus (simp +decide only[Oz,n0,q0,Qx,Hx,f4,e9];done))));with_reducible exact Rn))
   repeat' (first|with_reducible apply Ws|(apply Wp;focus ((repeat ((with_reducible apply Rr rfl);focus ((try simp +decide only[Oz,n0]);with_reducible rfl)));with_reducible exact Rn))|(refine W2 (by simp +decide only[Cz,n0];try with_reducible rfl) (fun hb=>?_) (fun hb=>?_)<;>try contradiction)|apply W3|apply W4|apply W5|apply W6)
   exact⟨rfl,by simp +decide only[Gz,n0],by simp +decide only[Gz,d0],by simp +decide only[Gz,n0,q0],by simp +decide only[Gz,n0,q1],by simp +decide only[Gz,n0,q4],by simp +decide only[Gz,n0,q6],M,b4,.inr ⟨p,e,pos',it,l,eR,he,bb,b6,h4,h1⟩⟩
  obtain⟨_,f1,_,_,f4⟩:=bb.at (E:=E) hv2
  have hbh:=M.blk _ _ (by omega) hqB
  obtain⟨ni,_,_,ci,rfl,hci⟩:=is87 (E:=E) (I:=I) hI87 hB hbh bb hpl 58
  have ci:(ev tab E I ni).call 87 [.pointer (some (own k)),.int .u8 58] h=some (_,h):=ci
  unfold rdP1 at eR
  rcases hci with⟨hc,rfl⟩|⟨hc,rfl⟩
  rotate_left
  ·rw[if_neg hc] at eR
   (repeat' (with_reducible apply Ws));(apply Wn ni;focus ((repeat (first|((first|with_reducible apply Rr rfl|((with_reducible apply Rg);(focus rfl);(focus rfl);focus (simp +decide only[Oz,n0,q0,Qx,Hx,f4,ci];done)));focus ((try simp +decide only[Oz,n0,q0,Qx,Hx,f4,ci]);with_reducible rfl))|((with_reducible apply Rs);(focus rfl);(focus rfl);focus (simp +decide only[Oz,n0,q0,Qx,Hx,f4,ci];done))|((with_reducible apply RO.skipU);(focus rfl);(focus rfl);focus (simp +decide only[Oz,n0,q0,Qx,Hx,f4,ci];done))));with_reducible exact Rn))
   repeat' (first|with_reducible apply Ws|(apply Wp;focus ((repeat ((with_reducible apply Rr rfl);focus ((try simp +decide only[Oz,n0]);with_reducible rfl)));with_reducible exact Rn))|(refine W2 (by simp +decide only[Cz,n0];try with_reducible rfl) (fun hb=>?_) (fun hb=>?_)<;>try contradiction)|apply W3|apply W4|apply W5|apply W6)
   exact⟨rfl,by simp +decide only[Gz,n0],by simp +decide only[Gz,d0],by simp +decide only[Gz,n0,q0],by simp +decide only[Gz,n0,q1],by simp +decide only[Gz,n0,q4],by simp +decide only[Gz,n0,q6],M,b4,.inl ⟨kn,0,p,eR,hpl,bb,b6⟩⟩
  rw[if_pos hc] at eR
  have hlt:=(List.getElem?_eq_some_iff.1 hc).1
  have w2:IntKind.i64.wrap ((p:Int)+1)=((p+1:Nat):Int):=wrap64 (by omega) (by omega)
  obtain⟨h2,s2,b2,m2⟩:=bb.set M.fit qty3 rfl 1 (p+1:Nat) (by decide) rfl (pos':=p+1) (items':=items+1) (w':=w) (e':=0)
  obtain⟨_,g1,_,_,_⟩:=b2.at (E:=E) hv2
  have b42:=m2.blk _ _ (by omega) b4
  have b62:=m2.blk _ _ (by omega) b6
  have M2:=M.trans (up m2)
  obtain⟨n6,x6,h6,c6,m6,hq6⟩:=rdecimal86 (E:=E) (I:=I) hI86 hB hk M2.fit (M2.blk _ _ (by omega) hqB) b2 (by omega) hl (items+1)
  have b46:=m6.blk _ _ (by omega) b42
  have b66:=m6.blk _ _ (by omega) b62
  obtain⟨z6,rfl⟩:∃ z,x6=.int .i64 z:=by
   unfold NumP at hq6
   split at hq6
   ·exact⟨_,hq6.1⟩
   ·obtain⟨m,_,h,_⟩:=hq6
    exact⟨m,h⟩
  have s6:astore tab 3 (aadd (own k6) 1) (.int .i64 z6) h6=some (h6.setl k6 (.cells [.int .i64 (kn:Nat),.int .i64 z6,.string ⟨#[]⟩,.slice none 0 0] 25 none)):=astore_one (o:=1) qty3 rfl b66 rfl rfl (by simp) rfl
  have m7:=(Mod.refl (M:=fun j=>j=k6) m6.fit).setl (B:=.cells [.int .i64 (kn:Nat),.int .i64 z6,.string ⟨#[]⟩,.slice none 0 0] 25 none) rfl rfl (m6.fit.lt b66)
  have b67:=setl_same (h:=h6) (k:=k6) (B:=.cells [.int .i64 (kn:Nat),.int .i64 z6,.string ⟨#[]⟩,.slice none 0 0] 25 none) rfl
  have b47:=m7.blk _ _ (by omega) b46
  have M7:=(M2.trans (up m6)).trans (u4 (by omega) m7)
  have kr:∀ {pos' it:Nat} {w' e:Int},Ref k v pos' it w' e h6→Ref k v pos' it w' e (h6.setl k6 (.cells [.int .i64 (kn:Nat),.int .i64 z6,.string ⟨#[]⟩,.slice none 0 0] 25 none)):=fun b=>b.mod m7 (by omega)
  generalize h6.setl k6 (.cells [.int .i64 (kn:Nat),.int .i64 z6,.string ⟨#[]⟩,.slice none 0 0] 25 none)=h7 at s6 m7 b67 b47 M7 kr
  have kd1:h7.cell E (aadd (own k6) 1)=some (.int .i64 z6):=cell_blk b67 1
  rw[rdDec_dig (by decide)] at eR
  (repeat' (with_reducible apply Ws));(apply Wn ni;focus ((repeat (first|((first|with_reducible apply Rr rfl|((with_reducible apply Rg);(focus rfl);(focus rfl);focus (simp +decide only[Oz,n0,q0,Qx,Hx,f4,ci];done)));focus ((try simp +decide only[Oz,n0,q0,Qx,Hx,f4,ci]);with_reducible rfl))|((with_reducible apply Rs);(focus rfl);(focus rfl);focus (simp +decide only[Oz,n0,q0,Qx,Hx,f4,ci];done))|((with_reducible apply RO.skipU);(focus rfl);(focus rfl);focus (simp +decide only[Oz,n0,q0,Qx,Hx,f4,ci];done))));with_reducible exact Rn))
  repeat' (first|with_reducible apply Ws|(apply Wp;focus ((repeat ((with_reducible apply Rr rfl);focus ((try simp +decide only[Oz,n0,q0,Qx,Hx,f1,w2,s2,g1]);with_reducible rfl)));with_reducible exact Rn))|(refine W2 (by simp +decide only[Cz,n0,q0,Qx,Hx,f1,w2,s2,g1];try with_reducible rfl) (fun hb=>?_) (fun hb=>?_)<;>try contradiction)|apply W3|apply W4|apply W5|apply W6)
  repeat' (first|with_reducible apply Ws|(apply Wn n6;focus ((repeat ((with_reducible apply Rr rfl);focus ((try simp +decide only[Oz,n0,q0,q6,Qx,Hx,c6,s6]);with_reducible rfl)));with_reducible exact Rn))|(refine W2 (by simp +decide only[Cz,n0,q0,q6,Qx,Hx,c6,s6];try with_reducible rfl) (fun hb=>?_) (fun hb=>?_)<;>try contradiction)|apply W3|apply W4|apply W5|apply W6)
  refine Wc.forget (fun A=>A.n=170∧A.defers=[]∧A.get 0=.pointer (some (own k))∧A.get 1=.int .i64 (250-fu:Nat)∧A.get 4=.pointer (some (own g.next))∧A.get 6=.pointer (some (own k6))∧A.get 7=.int .i64 (p+1:Nat)) (by and_intros<;>simp +decide only[Gz,n0,d0,q0,q1,q4,q6]<;>rfl) ?_
  rintro A0 ⟨n0,d0,q0,q1,q4,q6,q7⟩
  cases hr:rdDig bs (p+1) (items+1) with
  | bad p' e=>
   rw[hr] at hq6 eR
   obtain⟨z,pos',hz,b6⟩:=hq6
   have b7:=kr b6
   have he:e≠0:=by rcases (rdDig_bad hr).2 with rfl|rfl<;>decide
   have e9:decide (e=0)=false:=decide_eq_false he
   obtain⟨_,_,_,_,f4⟩:=b7.at (E:=E) hv2
   (repeat' (with_reducible apply Ws));(apply Wn 1;focus ((repeat (first|((first|with_reducible apply Rr rfl|((with_reducible apply Rg);(focus rfl);(focus rfl);focus (simp +decide only[Oz,n0,q0,q6,Qx,Hx,f4,e9];done)));focus ((try simp +decide only[Oz,n0,q0,q6,Qx,Hx,f4,e9]);with_reducible rfl))|((with_reducible apply Rs);(focus rfl);(focus rfl);focus (simp +decide only[Oz,n0,q0,q6,Qx,Hx,f4,e9];done))|((with_reducible apply RO.skipU);(focus rfl);(focus rfl);focus (simp +decide only[Oz,n0,q0,q6,Qx,Hx,f4,e9];done))));with_reducible exact Rn))
   repeat' (first|with_reducible apply Ws|(apply Wp;focus ((repeat ((with_reducible apply Rr rfl);focus ((try simp +decide only[Oz,n0]);with_reducible rfl)));with_reducible exact Rn))|(refine W2 (by simp +decide only[Cz,n0];try with_reducible rfl) (fun hb=>?_) (fun hb=>?_)<;>try contradiction)|apply W3|apply W4|apply W5|apply W6)
   exact⟨rfl,by simp +decide only[Gz,n0],by simp +decide only[Gz,d0],by simp +decide only[Gz,n0,q0],by simp +decide only[Gz,n0,q1],by simp +decide only[Gz,n0,q4],by simp +decide only[Gz,n0,q6],M7,b47,.inr ⟨p',e,pos',items+1,_,eR,he,b7,b67,rfl,rfl⟩⟩
  | ok mn p' it=>
   rw[hr] at hq6 eR
   obtain⟨hz,b6⟩:=hq6
   cases hz
   have b7:=kr b6
   obtain⟨_,hpl',hm4,rfl⟩:=rdDig_ok hr (by omega)
   obtain⟨_,_,_,_,f4⟩:=b7.at (E:=E) hv2
   simp only[] at eR
   rw[if_neg (by omega)] at eR
   by_cases h1:mn=0
   ·have e5:decide ((mn:Int)=0)=true:=decide_eq_true (by omega)
    obtain⟨nf,g',ck,mf,bf⟩:=rfail52 (E:=E) (I:=I) hI52 M7.fit b7 4 (p+1)
    rw[if_pos h1] at eR
    (repeat' (with_reducible apply Ws));(apply Wn 1;focus ((repeat (first|((first|with_reducible apply Rr rfl|((with_reducible apply Rg);(focus rfl);(focus rfl);focus (simp +decide only[Oz,n0,q0,q6,Qx,Hx,f4,kd1,e5];done)));focus ((try simp +decide only[Oz,n0,q0,q6,Qx,Hx,f4,kd1,e5]);with_reducible rfl))|((with_reducible apply Rs);(focus rfl);(focus rfl);focus (simp +decide only[Oz,n0,q0,q6,Qx,Hx,f4,kd1,e5];done))|((with_reducible apply RO.skipU);(focus rfl);(focus rfl);focus (simp +decide only[Oz,n0,q0,q6,Qx,Hx,f4,kd1,e5];done))));with_reducible exact Rn))
    repeat' (first|with_reducible apply Ws|(apply Wn nf;focus ((repeat ((with_reducible apply Rr rfl);focus ((try simp +decide only[Oz,n0,q0,q7,ck]);with_reducible rfl)));with_reducible exact Rn))|(refine W2 (by simp +decide only[Cz,n0,q0,q7,ck];try with_reducible rfl) (fun hb=>?_) (fun hb=>?_)<;>try contradiction)|apply W3|apply W4|apply W5|apply W6)
    exact⟨rfl,by simp +decide only[Gz,n0],by simp +decide only[Gz,d0],by simp +decide only[Gz,n0,q0],by simp +decide only[Gz,n0,q1],by simp +decide only[Gz,n0,q4],by simp +decide only[Gz,n0,q6],M7.trans (up mf),mf.blk _ _ (by omega) b47,.inr ⟨p+1,4,p',items+1,_,eR,by decide,bf,mf.blk _ _ (by omega) b67,rfl,rfl⟩⟩
   have e5:decide ((mn:Int)=0)=false:=decide_eq_false (by omega)
   rw[if_neg h1] at eR
   (repeat' (with_reducible apply Ws));(apply Wn 1;focus ((repeat (first|((first|with_reducible apply Rr rfl|((with_reducible apply Rg);(focus rfl);(focus rfl);focus (simp +decide only[Oz,n0,q0,q6,Qx,Hx,f4,kd1,e5];done)));focus ((try simp +decide only[Oz,n0,q0,q6,Qx,Hx,f4,kd1,e5]);with_reducible rfl))|((with_reducible apply Rs);(focus rfl);(focus rfl);focus (simp +decide only[Oz,n0,q0,q6,Qx,Hx,f4,kd1,e5];done))|((with_reducible apply RO.skipU);(focus rfl);(focus rfl);focus (simp +decide only[Oz,n0,q0,q6,Qx,Hx,f4,kd1,e5];done))));with_reducible exact Rn))
   repeat' (first|with_reducible apply Ws|(apply Wp;focus ((repeat ((with_reducible apply Rr rfl);focus ((try simp +decide only[Oz,n0]);with_reducible rfl)));with_reducible exact Rn))|(refine W2 (by simp +decide only[Cz,n0];try with_reducible rfl) (fun hb=>?_) (fun hb=>?_)<;>try contradiction)|apply W3|apply W4|apply W5|apply W6)
   exact⟨rfl,by simp +decide only[Gz,n0],by simp +decide only[Gz,d0],by simp +decide only[Gz,n0,q0],by simp +decide only[Gz,n0,q1],by simp +decide only[Gz,n0,q4],by simp +decide only[Gz,n0,q6],M7,b47,.inl ⟨kn,mn,p',eR,hpl',b7,b67⟩⟩
 clear n0 d0 q0 q1 q4 q6 M b4 hst
 rintro ex A0 h ⟨rfl,n0,d0,q0,q1,q4,q6,M,b4,hst⟩
 show Wc _ _ _ _ _ _ _ _
 refine Wc.seq (Wc.mono (Q:=StT g k k6 fu (fun h=>(∃ (kn m p:Nat) (tx:ByteArray),R=rdP3 bs fu kn m tx p (items+1)∧p≤bs.length∧Ref k v p (items+1) w 0 h∧h.blk k6=some (.cells [.int .i64 (kn:Nat),.int .i64 (m:Nat),.string tx,.slice none 0 0] 25 none))∨BadT k k6 v R h)) ?_ ?_)
 ·rcases hst with⟨kn,m,p,eR,hpl,bb,b6⟩|⟨p,e,pos',it,l,eR,he,bb,b6,h4,h1⟩
  rotate_left
  ·obtain⟨_,_,_,_,f4⟩:=bb.at (E:=E) hv2
   have e9:decide (e=0)=false:=decide_eq_false he
   (repeat' (with_reducible apply Ws));(apply Wn 1;focus ((repeat (first|((first|with_reducible apply Rr rfl|((with_reducible apply Rg);(focus rfl);(focus rfl);focus (simp +decide only[Oz,n0,q0,Qx,Hx,f4,e9];done)));focus ((try simp +decide only[Oz,n0,q0,Qx,Hx,f4,e9]);with_reducible rfl))|((with_reducible apply Rs);(focus rfl);(focus rfl);focus (simp +decide only[Oz,n0,q0,Qx,Hx,f4,e9];done))|((with_reducible apply RO.skipU);(focus rfl);(focus rfl);focus (simp +decide only[Oz,n0,q0,Qx,Hx,f4,e9];done))));with_reducible exact Rn))
   repeat' (first|with_reducible apply Ws|(apply Wp;focus ((repeat ((with_reducible apply Rr rfl);focus ((try simp +decide only[Oz,n0]);with_reducible rfl)));with_reducible exact Rn))|(refine W2 (by simp +decide only[Cz,n0];try with_reducible rfl) (fun hb=>?_) (fun hb=>?_)<;>try contradiction)|apply W3|apply W4|apply W5|apply W6)
   exact⟨rfl,by simp +decide only[Gz,n0],by simp +decide only[Gz,d0],by simp +decide only[Gz,n0,q0],by simp +decide only[Gz,n0,q1],by simp +decide only[Gz,n0,q4],by simp +decide only[Gz,n0,q6],M,b4,.inr ⟨p,e,pos',it,l,eR,he,bb,b6,h4,h1⟩⟩
  obtain⟨_,f1,_,_,f4⟩:=bb.at (E:=E) hv2
  have hbh:=M.blk _ _ (by omega) hqB
  obtain⟨ni,_,_,ci,rfl,hci⟩:=is87 (E:=E) (I:=I) hI87 hB hbh bb hpl 34
  have ci:(ev tab E I ni).call 87 [.pointer (some (own k)),.int .u8 34] h=some (_,h):=ci
  unfold rdP2 at eR
  rcases hci with⟨hc,rfl⟩|⟨hc,rfl⟩
  rotate_left
  ·rw[if_neg hc] at eR
   (repeat' (with_reducible apply Ws));(apply Wn ni;focus ((repeat (first|((first|with_reducible apply Rr rfl|((with_reducible apply Rg);(focus rfl);(focus rfl);focus (simp +decide only[Oz,n0,q0,Qx,Hx,f4,ci];done)));focus ((try simp +decide only[Oz,n0,q0,Qx,Hx,f4,ci]);with_reducible rfl))|((with_reducible apply Rs);(focus rfl);(focus rfl);focus (simp +decide only[Oz,n0,q0,Qx,Hx,f4,ci];done))|((with_reducible apply RO.skipU);(focus rfl);(focus rfl);focus (simp +decide only[Oz,n0,q0,Qx,Hx,f4,ci];done))));with_reducible exact Rn))
   repeat' (first|with_reducible apply Ws|(apply Wp;focus ((repeat ((with_reducible apply Rr rfl);focus ((try simp +decide only[Oz,n0]);with_reducible rfl)));with_reducible exact Rn))|(refine W2 (by simp +decide only[Cz,n0];try with_reducible rfl) (fun hb=>?_) (fun hb=>?_)<;>try contradiction)|apply W3|apply W4|apply W5|apply W6)
   exact⟨rfl,by simp +decide only[Gz,n0],by simp +decide only[Gz,d0],by simp +decide only[Gz,n0,q0],by simp +decide only[Gz,n0,q1],by simp +decide only[Gz,n0,q4],by simp +decide only[Gz,n0,q6],M,b4,.inl ⟨kn,m,p,⟨⟨[]⟩⟩,eR,hpl,bb,b6⟩⟩
  rw[if_pos hc] at eR
  have hlt:=(List.getElem?_eq_some_iff.1 hc).1
  have w2:IntKind.i64.wrap ((p:Int)+1)=((p+1:Nat):Int):=wrap64 (by omega) (by omega)
  obtain⟨h2,s2,b2,m2⟩:=bb.set M.fit qty3 rfl 1 (p+1:Nat) (by decide) rfl (pos':=p+1) (items':=items+1) (w':=w) (e':=0)
  have b42:=m2.blk _ _ (by omega) b4
  have b62:=m2.blk _ _ (by omega) b6
  have M2:=M.trans (up m2)
  obtain⟨n6,x6,h6,c6,m6,hq6⟩:=rtext88 (E:=E) (I:=I) hI88 hB hk M2.fit (M2.blk _ _ (by omega) hqB) b2 (by omega) (by omega) hl (items+1)
  have b46:=m6.blk _ _ (by omega) b42
  have b66:=m6.blk _ _ (by omega) b62
  obtain⟨tx,rfl⟩:∃ z,x6=.string z:=by
   unfold TxtR at hq6
   split at hq6
   ·exact⟨_,hq6.1⟩
   ·obtain⟨m,_,h,_⟩:=hq6
    exact⟨m,h⟩
  have s6:astore tab 9 (aadd (own k6) 2) (.string tx) h6=some (h6.setl k6 (.cells [.int .i64 (kn:Nat),.int .i64 (m:Nat),.string tx,.slice none 0 0] 25 none)):=astore_one (o:=2) qty9 rfl b66 rfl rfl (by simp) rfl
  have m7:=(Mod.refl (M:=fun j=>j=k6) m6.fit).setl (B:=.cells [.int .i64 (kn:Nat),.int .i64 (m:Nat),.string tx,.slice none 0 0] 25 none) rfl rfl (m6.fit.lt b66)
  have b67:=setl_same (h:=h6) (k:=k6) (B:=.cells [.int .i64 (kn:Nat),.int .i64 (m:Nat),.string tx,.slice none 0 0] 25 none) rfl
  have b47:=m7.blk _ _ (by omega) b46
  have M7:=(M2.trans (up m6)).trans (u4 (by omega) m7)
  have kr:∀ {pos' it:Nat} {w' e:Int},Ref k v pos' it w' e h6→Ref k v pos' it w' e (h6.setl k6 (.cells [.int .i64 (kn:Nat),.int .i64 (m:Nat),.string tx,.slice none 0 0] 25 none)):=fun b=>b.mod m7 (by omega)
  generalize h6.setl k6 (.cells [.int .i64 (kn:Nat),.int .i64 (m:Nat),.string tx,.slice none 0 0] 25 none)=h7 at s6 m7 b67 b47 M7 kr
  (repeat' (with_reducible apply Ws));(apply Wn ni;focus ((repeat (first|((first|with_reducible apply Rr rfl|((with_reducible apply Rg);(focus rfl);(focus rfl);focus (simp +decide only[Oz,n0,q0,Qx,Hx,f4,ci];done)));focus ((try simp +decide only[Oz,n0,q0,Qx,Hx,f4,ci]);with_reducible rfl))|((with_reducible apply Rs);(focus rfl);(focus rfl);focus (simp +decide only[Oz,n0,q0,Qx,Hx,f4,ci];done))|((with_reducible apply RO.skipU);(focus rfl);(focus rfl);focus (simp +decide only[Oz,n0,q0,Qx,Hx,f4,ci];done))));with_reducible exact Rn))
  repeat' (first|with_reducible apply Ws|(apply Wp;focus ((repeat ((with_reducible apply Rr rfl);focus ((try simp +decide only[Oz,n0,q0,Qx,Hx,f1,w2,s2]);with_reducible rfl)));with_reducible exact Rn))|(refine W2 (by simp +decide only[Cz,n0,q0,Qx,Hx,f1,w2,s2];try with_reducible rfl) (fun hb=>?_) (fun hb=>?_)<;>try contradiction)|apply W3|apply W4|apply W5|apply W6)
  repeat' (first|with_reducible apply Ws|(apply Wn n6;focus ((repeat ((with_reducible apply Rr rfl);focus ((try simp +decide only[Oz,n0,q0,q6,Qx,Hx,c6,s6]);with_reducible rfl)));with_reducible exact Rn))|(refine W2 (by simp +decide only[Cz,n0,q0,q6,Qx,Hx,c6,s6];try with_reducible rfl) (fun hb=>?_) (fun hb=>?_)<;>try contradiction)|apply W3|apply W4|apply W5|apply W6)
  cases hr:rdQuo bs (p+1) (items+1) with
  | bad p' e=>
   rw[hr] at hq6 eR
   obtain⟨z,pos',hz,b6⟩:=hq6
   have b7:=kr b6
   have he:e≠0:=by rcases (rdQuo_bad hr (by omega)).2 with rfl|rfl<;>decide
   exact⟨rfl,by simp +decide only[Gz,n0],by simp +decide only[Gz,d0],by simp +decide only[Gz,n0,q0],by simp +decide only[Gz,n0,q1],by simp +decide only[Gz,n0,q4],by simp +decide only[Gz,n0,q6],M7,b47,.inr ⟨p',e,pos',items+1,_,eR,he,b7,b67,rfl,rfl⟩⟩
  | ok tx' p' it=>
   rw[hr] at hq6 eR
   obtain⟨hz,b6⟩:=hq6
   cases hz
   have b7:=kr b6
   obtain⟨_,hpl',rfl,_⟩:=rdQuo_ok hr
   exact⟨rfl,by simp +decide only[Gz,n0],by simp +decide only[Gz,d0],by simp +decide only[Gz,n0,q0],by simp +decide only[Gz,n0,q1],by simp +decide only[Gz,n0,q4],by simp +decide only[Gz,n0,q6],M7,b47,.inl ⟨kn,m,p',tx,eR,hpl',b7,b67⟩⟩
 clear n0 d0 q0 q1 q4 q6 M b4 hst
 rintro ex A0 h ⟨rfl,n0,d0,q0,q1,q4,q6,M,b4,hst⟩
 show Wc _ _ _ _ _ _ _ _
 rcases hst with⟨kn,m,p,tx,eR,hpl,bb,b6⟩|⟨p,e,pos',it,l,eR,he,bb,b6,h4,h1⟩
 rotate_left
 ·obtain⟨_,_,_,_,f4⟩:=bb.at (E:=E) hv2
  have e9:decide (e=0)=false:=decide_eq_false he
  obtain⟨h7,ld7,st7,m7,b47⟩:=mv25 (E:=E) M.fit b4 b6 h4 h1
  (repeat' (with_reducible apply Ws));(apply Wn 1;focus ((repeat (first|((first|with_reducible apply Rr rfl|((with_reducible apply Rg);(focus rfl);(focus rfl);focus (simp +decide only[Oz,n0,q0,Qx,Hx,f4,e9];done)));focus ((try simp +decide only[Oz,n0,q0,Qx,Hx,f4,e9]);with_reducible rfl))|((with_reducible apply Rs);(focus rfl);(focus rfl);focus (simp +decide only[Oz,n0,q0,Qx,Hx,f4,e9];done))|((with_reducible apply RO.skipU);(focus rfl);(focus rfl);focus (simp +decide only[Oz,n0,q0,Qx,Hx,f4,e9];done))));with_reducible exact Rn))
  repeat' (first|with_reducible apply Ws|(apply Wp;focus ((repeat ((with_reducible apply Rr rfl);focus ((try simp +decide only[Oz,n0,q4,q6,Qx,Hx,ld7,st7]);with_reducible rfl)));with_reducible exact Rn))|(refine W2 (by simp +decide only[Cz,n0,q4,q6,Qx,Hx,ld7,st7];try with_reducible rfl) (fun hb=>?_) (fun hb=>?_)<;>try contradiction)|apply W3|apply W4|apply W5|apply W6)
  refine res h4 h1 (by simp +decide only[Gz,d0]) (by simp +decide only[Gz,n0,q4]) (M.trans (u4 (Nat.le_refl _) m7)) b47 ?_
  rw[eR]
  exact⟨pos',it,bb.mod m7 (by omega)⟩
 obtain⟨_,f1,_,_,f4⟩:=bb.at (E:=E) hv2
 have hbh:=M.blk _ _ (by omega) hqB
 obtain⟨ni,_,_,ci,rfl,hci⟩:=is87 (E:=E) (I:=I) hI87 hB hbh bb hpl 40
 have ci:(ev tab E I ni).call 87 [.pointer (some (own k)),.int .u8 40] h=some (_,h):=ci
 unfold rdP3 at eR
 rcases hci with⟨hc,rfl⟩|⟨hc,rfl⟩
 rotate_left
 ·rw[if_neg hc] at eR
  obtain⟨h7,ld7,st7,m7,b47⟩:=mv25 (E:=E) M.fit b4 b6 rfl rfl
  (repeat' (with_reducible apply Ws));(apply Wn ni;focus ((repeat (first|((first|with_reducible apply Rr rfl|((with_reducible apply Rg);(focus rfl);(focus rfl);focus (simp +decide only[Oz,n0,q0,Qx,Hx,f4,ci];done)));focus ((try simp +decide only[Oz,n0,q0,Qx,Hx,f4,ci]);with_reducible rfl))|((with_reducible apply Rs);(focus rfl);(focus rfl);focus (simp +decide only[Oz,n0,q0,Qx,Hx,f4,ci];done))|((with_reducible apply RO.skipU);(focus rfl);(focus rfl);focus (simp +decide only[Oz,n0,q0,Qx,Hx,f4,ci];done))));with_reducible exact Rn))
  repeat' (first|with_reducible apply Ws|(apply Wp;focus ((repeat ((with_reducible apply Rr rfl);focus ((try simp +decide only[Oz,n0,q4,q6,Qx,Hx,ld7,st7]);with_reducible rfl)));with_reducible exact Rn))|(refine W2 (by simp +decide only[Cz,n0,q4,q6,Qx,Hx,ld7,st7];try with_reducible rfl) (fun hb=>?_) (fun hb=>?_)<;>try contradiction)|apply W3|apply W4|apply W5|apply W6)
  refine res rfl rfl (by simp +decide only[Gz,d0]) (by simp +decide only[Gz,n0,q4]) (M.trans (u4 (Nat.le_refl _) m7)) b47 ?_
  rw[eR]
  exact⟨bb.mod m7 (by omega),Kol.rep (Kol.nil g.next h7.next h7:Kol E 25 _ _ _ _ _) m7.fit (by simp) _ _ _ (Nat.le_refl _)⟩
 rw[if_pos hc] at eR
 have hlt:=(List.getElem?_eq_some_iff.1 hc).1
 have w2:IntKind.i64.wrap ((p:Int)+1)=((p+1:Nat):Int):=wrap64 (by omega) (by omega)
 obtain⟨h2,s2,b2,m2⟩:=bb.set M.fit qty3 rfl 1 (p+1:Nat) (by decide) rfl (pos':=p+1) (items':=items+1) (w':=w) (e':=0)
 have b42:=m2.blk _ _ (by omega) b4
 have b62:=m2.blk _ _ (by omega) b6
 have M2:=M.trans (up m2)
 (repeat' (with_reducible apply Ws));(apply Wn ni;focus ((repeat (first|((first|with_reducible apply Rr rfl|((with_reducible apply Rg);(focus rfl);(focus rfl);focus (simp +decide only[Oz,n0,q0,Qx,Hx,f4,ci];done)));focus ((try simp +decide only[Oz,n0,q0,Qx,Hx,f4,ci]);with_reducible rfl))|((with_reducible apply Rs);(focus rfl);(focus rfl);focus (simp +decide only[Oz,n0,q0,Qx,Hx,f4,ci];done))|((with_reducible apply RO.skipU);(focus rfl);(focus rfl);focus (simp +decide only[Oz,n0,q0,Qx,Hx,f4,ci];done))));with_reducible exact Rn))
 repeat' (first|with_reducible apply Ws|(apply Wp;focus ((repeat ((with_reducible apply Rr rfl);focus ((try simp +decide only[Oz,n0,q0,Qx,Hx,f1,w2,s2]);with_reducible rfl)));with_reducible exact Rn))|(refine W2 (by simp +decide only[Cz,n0,q0,Qx,Hx,f1,w2,s2];try with_reducible rfl) (fun hb=>?_) (fun hb=>?_)<;>try contradiction)|apply W3|apply W4|apply W5|apply W6)
 refine (rkids51 (E:=E) (I:=I) hI51 hB hk (by omega) hl RI f hqB kl (Nat.le_refl _) (by omega) (by omega) (bs.length+1) (p+1) (items+1) [] (.slice none 0 0) _ h2 (by omega) (by omega) (by omega) (by simp) ?_ ?_ ?_ ?_ ?_ ?_ M2 b42 b62 b2 (Kol.nil _ _ _)).mono ?_
 ·simp +decide only[Gz,n0]
 ·simp +decide only[Gz,d0]
 ·simp +decide only[Gz,n0,q0]
 ·simp +decide only[Gz,n0,q1]
 ·simp +decide only[Gz,n0,q4]
 ·simp +decide only[Gz,n0,q6]
 rintro ex A1 h6 ⟨rfl,n1,d1,a4,M6,l,hl4,ho,hb6,hq⟩
 refine res hl4 ho d1 a4 M6 hb6 ?_
 rw[eR]
 exact hq
theorem qbu91 (s:Value) (h:s.cells.toList=[s]):abuild tab 91 [(0,s)]=some (.agg ⟨[s,.int .i64 0,.int .i64 0,.int .i64 0,.int .i64 0]⟩):=by
 unfold abuild
 simp only[qty91,afill,h]
 rfl
theorem qcv9_31 (s:ByteArray) {h:H}:aconvert tab E 9 31 (.string s) h=some (.slice (some (own h.next)) s.data.toList.length s.data.toList.length,h.newOpen (bytesV s.data.toList) 5):=by
 unfold aconvert
 simp only[qty9,qty31,qty5]
theorem fn13:tab.fn.get 13=some Tryd.f13:=by kernel_rfl
theorem rparse13 (hI:∀ f args h,(f=13∨f=51∨f=86∨f=88∨f=87∨f=52∨f=115∨f=116)→I f args h=none) {g:H} {bs:List UInt8} (f:Fit g) (hl:bs.length≤1000000) :
  ∃ n x g',(ev tab E I n).call 13 [.string ⟨⟨bs⟩⟩] g=some (x,g')∧(Mod (fun _=>False) g g'∧DecQ E (prsR bs) x g'):=by
 have hI52:∀ args h,I 52 args h=none:=fun args h=>hI _ args h (by simp)
 apply Wk (hI _ _ _ (.inl rfl)) fn13 rfl
 intro A0 n0 d0 hA0
 change A0.n=38 at n0
 have q0:A0.get 0=.string ⟨⟨bs⟩⟩:=hA0 0 _ rfl
 clear hA0
 generalize hh1:g.new (.cells (Value.agg #[.int .i64 0,.int .i64 0,.string ⟨#[]⟩,.slice none 0 0]).cells.toList 25 none)=h1
 have t1:Ahd g h1:=by rw[← hh1];exact Ahd.new0 f rfl
 have b2:h1.blk g.next=some (.cells zeroL 25 none):=by rw[← hh1];exact new_blk_new rfl
 have ls:alen tab 9 (.string ⟨⟨bs⟩⟩) h1=some (.int .i64 (bs.length:Nat)):=qlen9 _
 have st:∀ {h:H} {l:List Value},l.length=4→l.all isOne=true→h.blk g.next=some (.cells zeroL 25 none)→astore tab 25 (own g.next) (.agg ⟨l⟩) h=some (h.setl g.next (.cells l 25 none)):=fun h4 ho hb=>astore_all qty25 hb (by rw[h4]) (by rw[h4];rfl) ho (by intro e;rw[e] at h4;simp at h4)
 have ld:∀ {h:H} {l:List Value},l.length=4→l.all isOne=true→(h.setl g.next (.cells l 25 none)).cells E (own g.next) 4=some l:=fun h4 ho=>blk_cells (setl_same rfl) h4 ho
 unfold prsR
 by_cases hlong:65536<bs.length
 ·have e1:decide ((bs.length:Int)>65536)=true:=decide_eq_true (by omega)
  have s1:=st (l:=zeroL) rfl rfl b2
  have m1:=(Mod.refl (M:=fun j=>j=g.next) t1.fit).setl (B:=.cells zeroL 25 none) rfl rfl (t1.fit.lt b2)
  repeat' (first|with_reducible apply Ws|(apply Wp;focus ((repeat ((with_reducible apply Rr rfl);focus ((try simp +decide only[Oy,n0,q0,qtz25,hh1,ls,e1,qbu25z,s1]);with_reducible rfl)));with_reducible exact Rn))|(refine W2 (by simp +decide only[Cx,n0,q0,ls,e1];try with_reducible rfl) (fun hb=>?_) (fun hb=>?_)<;>try contradiction)|apply W3|apply W4|apply W5|apply W6)
  rw[if_pos hlong]
  exact done_c3 (v:=.agg ⟨zeroL⟩) (x:=.int .i64 0) (y:=.int .i64 11) (.inr rfl) (by simp +decide only[Gs,d0]) rfl (show _=Value.pointer (some (own g.next)) by simp +decide only[Gs,n0]) (by rw[qld25,ld rfl rfl]) (by simp +decide only[Gs,n0]) (by simp +decide only[Gs,n0]) ⟨Mod.low f (t1.mod.trans m1) (fun j hj=>.inr (by omega)),rfl⟩
 have e1:decide ((bs.length:Int)>65536)=false:=decide_eq_false (by omega)
 rw[if_neg hlong]
 generalize hhB:h1.newOpen (bytesV bs) 5=hB1
 have cv:aconvert tab E 9 31 (.string ⟨⟨bs⟩⟩) h1=some (.slice (some (own h1.next)) bs.length bs.length,hB1):=by rw[← hhB];exact qcv9_31 _
 have tB:Ahd h1 hB1:=by rw[← hhB];exact Ahd.newOpen t1.fit _ _
 have bB:hB1.blk h1.next=some (.cells (bytesV bs) 5 (some (h1.next,0))):=by rw[← hhB];exact newOpen_new
 have nB:h1.next<hB1.next:=tB.fit.lt bB
 have hB:∀ h:H,h.blk h1.next=some (.cells (bytesV bs) 5 (some (h1.next,0)))→Byt E h (.slice (some (own h1.next)) bs.length bs.length) bs:=fun h hb=>.inr ⟨_,_,rfl,Nat.le_refl _,blk_cells hb (bytesV_length _) (bytesV_one _)⟩
 obtain⟨hv1,hv2,ln,hix⟩:=bytB (E:=E) hB bB
 generalize hkb:h1.next=kb at*
 generalize hv:(Value.slice (some (own kb)) bs.length bs.length)=v at*
 have bu:=qbu91 v hv1
 generalize hh2:hB1.new (.cells (Value.agg #[.slice none 0 0,.int .i64 0,.int .i64 0,.int .i64 0,.int .i64 0]).cells.toList 91 none)=h2
 have t2:Ahd hB1 h2:=by rw[← hh2];exact Ahd.new0 tB.fit rfl
 have b5:h2.blk hB1.next=some (.cells [.slice none 0 0,.int .i64 0,.int .i64 0,.int .i64 0,.int .i64 0] 91 none):=by rw[← hh2];exact new_blk_new rfl
 have ho5:[v,.int .i64 0,.int .i64 0,.int .i64 0,.int .i64 0].all isOne=true:=by rw[List.all_cons,hv2];rfl
 have s5:astore tab 91 (own hB1.next) (.agg ⟨[v,.int .i64 0,.int .i64 0,.int .i64 0,.int .i64 0]⟩) h2=some (h2.setl hB1.next (.cells [v,.int .i64 0,.int .i64 0,.int .i64 0,.int .i64 0] 91 none)):=astore_all qty91 b5 rfl rfl ho5 (by simp)
 have t3:Ahd hB1 (h2.setl hB1.next (.cells [v,.int .i64 0,.int .i64 0,.int .i64 0,.int .i64 0] 91 none)):=t2.setl rfl (Nat.le_refl _) (t2.fit.lt b5) tB.fit
 have b5:Ref hB1.next v 0 0 0 0 (h2.setl hB1.next (.cells [v,.int .i64 0,.int .i64 0,.int .i64 0,.int .i64 0] 91 none)):=setl_same rfl
 generalize h2.setl hB1.next (.cells [v,.int .i64 0,.int .i64 0,.int .i64 0,.int .i64 0] 91 none)=h3 at s5 t3 b5
 have b23:=t3.grows _ _ (tB.grows _ _ b2)
 have bB3:=t3.grows _ _ bB
 have lt1:g.next<kb:=by rw[← hkb];exact t1.fit.lt b2
 obtain⟨n1,v1,h4,c4,l,rfl,hl4,hl1,m4,hq⟩:=rtree51 (E:=E) (I:=I) (k:=hB1.next) (fun f args h hf=>hI f args h (.inr hf)) hB (by omega) hl 250 (Nat.le_refl _) h3 0 0 0 t3.fit bB3 b5 (Nat.zero_le _) (by decide)
 have c4':(ev tab E I n1).call 51 [.pointer (some (own hB1.next)),.int .i64 1] h3=some (.agg ⟨l⟩,h4):=c4
 have rok:=rdPI_good (bs:=bs) 250 0 0 (Nat.zero_le _) (by decide)
 generalize hh5:h4.new (.cells (Value.agg #[.int .i64 0,.int .i64 0,.string ⟨#[]⟩,.slice none 0 0]).cells.toList 25 none)=h5
 have t5:Ahd h4 h5:=by rw[← hh5];exact Ahd.new0 m4.fit rfl
 have b6:h5.blk h4.next=some (.cells zeroL 25 none):=by rw[← hh5];exact new_blk_new rfl
 have s6:astore tab 25 (own h4.next) (.agg ⟨l⟩) h5=some (h5.setl h4.next (.cells l 25 none)):=astore_all qty25 b6 (by rw[hl4]) (by rw[hl4];rfl) hl1 (by intro e;rw[e] at hl4;simp at hl4)
 have t6:Ahd h4 (h5.setl h4.next (.cells l 25 none)):=t5.setl rfl (Nat.le_refl _) (t5.fit.lt b6) m4.fit
 have b6:=setl_same (h:=h5) (k:=h4.next) (B:=.cells l 25 none) rfl
 generalize h5.setl h4.next (.cells l 25 none)=h6 at s6 t6 b6
 have l6:h6.cells E (own h4.next) 4=some l:=blk_cells b6 hl4 hl1
 have b26:=t6.grows _ _ (m4.blk _ _ (by omega) b23)
 have n3:=t3.next
 have n4:=m4.next
 have M6:Mod (fun j=>g.next≤j) g h6:=(((t1.mod.trans tB.mod).trans t3.mod).trans (m4.sub (N:=fun j=>g.next≤j) fun j hj=>by omega)).trans t6.mod
 generalize hr:rdPI bs 250 0 0=r at hq rok
 cases r with
 | bad p e=>
  obtain⟨pos',it,bb⟩:=hq
  have he:e≠0:=rok.2
  have e9:decide (e=0)=false:=decide_eq_false he
  have bb:=bb.mod (t6.mod (M:=fun _=>False)) (fun h=>h)
  obtain⟨_,f1,_,f3,f4⟩:=bb.at (E:=E) hv2
  have s7:=st (h:=fresh h6) (l:=zeroL) rfl rfl b26
  have lt7:=M6.fit.lt b26
  have m7:=(Mod.refl (M:=fun j=>j=g.next) M6.fit).setl (B:=.cells zeroL 25 none) rfl rfl lt7
  repeat' (first|with_reducible apply Ws|(apply Wn n1;focus ((repeat (first|((first|with_reducible apply Rr rfl|((with_reducible apply Rg);(focus rfl);(focus rfl);focus (simp +decide only[Gs,n0,q0,qtz25,hh1,ls,e1,cv,bu,qtz91,hh2,s5,c4',hh5,s6,Qx,Hx,f4,e9];done)));focus ((try simp +decide only[Oy,n0,q0,qtz25,hh1,ls,e1,cv,bu,qtz91,hh2,s5,c4',hh5,s6,Qx,Hx,f4,e9]);with_reducible rfl))|((with_reducible apply Rs);(focus rfl);(focus rfl);focus (simp +decide only[Gs,n0,q0,qtz25,hh1,ls,e1,cv,bu,qtz91,hh2,s5,c4',hh5,s6,Qx,Hx,f4,e9];done))));with_reducible exact Rn))|(refine Wc.quiet (by kernel_rfl) (by repeat' (first|with_reducible exact QO.nil|((with_reducible apply QO.cons rfl rfl);focus ((try simp +decide only[Oy,n0,q0,qtz25,hh1,ls,e1,cv,bu,qtz91,hh2,s5,c4',hh5,s6,Qx,Hx,f4,e9]);with_reducible rfl)))) ?_)|(refine W2 (by simp +decide only[Cx,n0,q0,ls,e1,bu,c4',f4,e9];try with_reducible rfl) (fun hb=>?_) (fun hb=>?_)<;>try contradiction)|apply W3|apply W4|apply W5|apply W6)
  refine Wc.drawQ 1 (by kernel_rfl) ?_
  (iterate 5 ((first|apply Qp rfl rfl rfl|apply FQ.new rfl rfl);focus ((try simp +decide only[Oy,n0,Qx,Hx,f3,f4,qbu25z]);with_reducible rfl)))
  refine FQ.setl (k:=g.next) rfl rfl lt7 (by simp +decide only[Oy,n0,s7];with_reducible rfl) ?_
  (iterate 2 ((first|apply Qp rfl rfl rfl|apply FQ.new rfl rfl);focus ((try simp +decide only[Oy,n0]);with_reducible rfl)))
  refine FQ.nil ⟨?_,?_⟩
  ·exact allMeet_but [5] 8 [(1,5),(3,5),(2,5),(4,5)] rfl rfl (by kernel_rfl) (fun _ _ _ _ hU e1 e2=>by simp only[List.mem_cons,Prod.mk.injEq,List.not_mem_nil,or_false] at hU;rcases hU with⟨rfl,rfl⟩|⟨rfl,rfl⟩|⟨rfl,rfl⟩|⟨rfl,rfl⟩;(focus (cases e1;cases e2;exact meets_right (l:=[]) rfl rfl (fun _ _=>List.not_mem_nil) rfl (fun j _=>Nat.lt_or_ge _ _)));(focus (cases e1;cases e2;exact meets_right (l:=[]) rfl rfl (fun _ _=>List.not_mem_nil) rfl (fun j _=>Nat.lt_or_ge _ _)));(focus (cases e1;cases e2;exact meets_right (l:=[hB1.next]) rfl (by simp +decide only[Oy,reads,pureOp,atV,n0,Hx,aadd,own]) (fun j hj=>by have hj:=List.mem_singleton.1 hj;subst hj;simp only[List.mem_singleton];omega) rfl (fun j _=>Nat.lt_or_ge _ _)));(focus (cases e1;cases e2;exact meets_right (l:=[hB1.next]) rfl (by simp +decide only[Oy,reads,pureOp,atV,n0,Hx,aadd,own]) (fun j hj=>by have hj:=List.mem_singleton.1 hj;subst hj;simp only[List.mem_singleton];omega) rfl (fun j _=>Nat.lt_or_ge _ _))))
  refine Wc.ret ?_
  exact done_c3 (v:=.agg ⟨zeroL⟩) (x:=.int .i64 (p:Nat)) (y:=.int .i64 e) (.inr rfl) (by simp +decide only[Gs,d0]) rfl (show _=Value.pointer (some (own g.next)) by simp +decide only[Gs,n0]) (by rw[qld25,ld rfl rfl]) (by simp +decide only[Gs,n0]) (by simp +decide only[Gs,n0]) ⟨Mod.low f (M6.trans (m7.sub fun j hj=>by omega)) (fun j hj=>.inr hj),rfl⟩
 | ok t p it=>
  obtain⟨bb,hrt⟩:=hq
  have hp:=rok.2.1
  have bb:=bb.mod (t6.mod (M:=fun _=>False)) (fun h=>h)
  obtain⟨f0,f1,_,f3,f4⟩:=bb.at (E:=E) hv2
  by_cases hlt:p<bs.length
  ·have e9:decide ((p:Int)<(bs.length:Int))=true:=decide_eq_true (by omega)
   obtain⟨n7,h7,c7,m7,b7⟩:=rfail52 (E:=E) (I:=I) hI52 t6.fit bb 4 p
   obtain⟨_,g1,_,g3,g4⟩:=b7.at (E:=E) hv2
   have b27:=m7.blk _ _ (by omega) b26
   have s8:=st (h:=fresh h7) (l:=zeroL) rfl rfl b27
   have lt7:=m7.fit.lt b27
   have m8:=(Mod.refl (M:=fun j=>j=g.next) m7.fit).setl (B:=.cells zeroL 25 none) rfl rfl lt7
   repeat' (first|with_reducible apply Ws|(apply Wn n1;focus ((repeat (first|((first|with_reducible apply Rr rfl|((with_reducible apply Rg);(focus rfl);(focus rfl);focus (simp +decide only[Gs,n0,q0,qtz25,hh1,ls,ln,e1,cv,bu,qtz91,hh2,s5,c4',hh5,s6,Qx,Hx,f0,f1,f4,e9];done)));focus ((try simp +decide only[Oy,n0,q0,qtz25,hh1,ls,ln,e1,cv,bu,qtz91,hh2,s5,c4',hh5,s6,Qx,Hx,f0,f1,f4,e9]);with_reducible rfl))|((with_reducible apply Rs);(focus rfl);(focus rfl);focus (simp +decide only[Gs,n0,q0,qtz25,hh1,ls,ln,e1,cv,bu,qtz91,hh2,s5,c4',hh5,s6,Qx,Hx,f0,f1,f4,e9];done))));with_reducible exact Rn))|(refine Wc.quiet (by kernel_rfl) (by repeat' (first|with_reducible exact QO.nil|((with_reducible apply QO.cons rfl rfl);focus ((try simp +decide only[Oy,n0,q0,qtz25,hh1,ls,ln,e1,cv,bu,qtz91,hh2,s5,c4',hh5,s6,Qx,Hx,f0,f1,f4,e9]);with_reducible rfl)))) ?_)|(refine W2 (by simp +decide only[Cx,n0,q0,ls,e1,bu,c4',f0,f1,f4,e9];try with_reducible rfl) (fun hb=>?_) (fun hb=>?_)<;>try contradiction)|apply W3|apply W4|apply W5|apply W6)
   repeat' (first|with_reducible apply Ws|(apply Wn n7;focus ((repeat (first|((first|with_reducible apply Rr rfl|((with_reducible apply Rg);(focus rfl);(focus rfl);focus (simp +decide only[Gs,n0,Qx,Hx,f1,c7,g4];done)));focus ((try simp +decide only[Oy,n0,Qx,Hx,f1,c7,g4]);with_reducible rfl))|((with_reducible apply Rs);(focus rfl);(focus rfl);focus (simp +decide only[Gs,n0,Qx,Hx,f1,c7,g4];done))));with_reducible exact Rn))|(refine Wc.quiet (by kernel_rfl) (by repeat' (first|with_reducible exact QO.nil|((with_reducible apply QO.cons rfl rfl);focus ((try simp +decide only[Oy,n0,Qx,Hx,f1,c7,g4]);with_reducible rfl)))) ?_)|(refine W2 (by simp +decide only[Cx,n0,f1,g4];try with_reducible rfl) (fun hb=>?_) (fun hb=>?_)<;>try contradiction)|apply W3|apply W4|apply W5|apply W6)
   refine Wc.drawQ 1 (by kernel_rfl) ?_
   (iterate 5 ((first|apply Qp rfl rfl rfl|apply FQ.new rfl rfl);focus ((try simp +decide only[Oy,n0,Qx,Hx,g3,g4,qbu25z]);with_reducible rfl)))
   refine FQ.setl (k:=g.next) rfl rfl lt7 (by simp +decide only[Oy,n0,s8];with_reducible rfl) ?_
   (iterate 2 ((first|apply Qp rfl rfl rfl|apply FQ.new rfl rfl);focus ((try simp +decide only[Oy,n0]);with_reducible rfl)))
   refine FQ.nil ⟨?_,?_⟩
   ·exact allMeet_but [5] 8 [(1,5),(3,5),(2,5),(4,5)] rfl rfl (by kernel_rfl) (fun _ _ _ _ hU e1 e2=>by simp only[List.mem_cons,Prod.mk.injEq,List.not_mem_nil,or_false] at hU;rcases hU with⟨rfl,rfl⟩|⟨rfl,rfl⟩|⟨rfl,rfl⟩|⟨rfl,rfl⟩;(focus (cases e1;cases e2;exact meets_right (l:=[]) rfl rfl (fun _ _=>List.not_mem_nil) rfl (fun j _=>Nat.lt_or_ge _ _)));(focus (cases e1;cases e2;exact meets_right (l:=[]) rfl rfl (fun _ _=>List.not_mem_nil) rfl (fun j _=>Nat.lt_or_ge _ _)));(focus (cases e1;cases e2;exact meets_right (l:=[hB1.next]) rfl (by simp +decide only[Oy,reads,pureOp,atV,n0,Hx,aadd,own]) (fun j hj=>by have hj:=List.mem_singleton.1 hj;subst hj;simp only[List.mem_singleton];omega) rfl (fun j _=>Nat.lt_or_ge _ _)));(focus (cases e1;cases e2;exact meets_right (l:=[hB1.next]) rfl (by simp +decide only[Oy,reads,pureOp,atV,n0,Hx,aadd,own]) (fun j hj=>by have hj:=List.mem_singleton.1 hj;subst hj;simp only[List.mem_singleton];omega) rfl (fun j _=>Nat.lt_or_ge _ _))))
   refine Wc.ret ?_
   refine done_c3 (v:=.agg ⟨zeroL⟩) (x:=.int .i64 (p:Nat)) (y:=.int .i64 4) (.inr rfl) (by simp +decide only[Gs,d0]) rfl (show _=Value.pointer (some (own g.next)) by simp +decide only[Gs,n0]) (by rw[qld25,ld rfl rfl]) (by simp +decide only[Gs,n0]) (by simp +decide only[Gs,n0]) ⟨Mod.low f ((M6.trans (m7.sub fun j hj=>by omega)).trans (m8.sub fun j hj=>by omega)) (fun j hj=>.inr hj),?_⟩
   simp only[if_pos hlt]
   rfl
  ·have e9:decide ((p:Int)<(bs.length:Int))=false:=decide_eq_false (by omega)
   have s8:=st (h:=h6) hl4 hl1 b26
   have lt7:=M6.fit.lt b26
   have m8:=(Mod.refl (M:=fun j=>j=g.next) M6.fit).setl (B:=.cells l 25 none) rfl rfl lt7
   repeat' (first|with_reducible apply Ws|(apply Wn n1;focus ((repeat (first|((first|with_reducible apply Rr rfl|((with_reducible apply Rg);(focus rfl);(focus rfl);focus (simp +decide only[Gs,n0,q0,qtz25,hh1,ls,ln,e1,cv,bu,qtz91,hh2,s5,c4',hh5,s6,Qx,Hx,f0,f1,f4,e9,l6,s8];done)));focus ((try simp +decide only[Oy,n0,q0,qtz25,hh1,ls,ln,e1,cv,bu,qtz91,hh2,s5,c4',hh5,s6,Qx,Hx,f0,f1,f4,e9,l6,s8]);with_reducible rfl))|((with_reducible apply Rs);(focus rfl);(focus rfl);focus (simp +decide only[Gs,n0,q0,qtz25,hh1,ls,ln,e1,cv,bu,qtz91,hh2,s5,c4',hh5,s6,Qx,Hx,f0,f1,f4,e9,l6,s8];done))));with_reducible exact Rn))|(refine Wc.quiet (by kernel_rfl) (by repeat' (first|with_reducible exact QO.nil|((with_reducible apply QO.cons rfl rfl);focus ((try simp +decide only[Oy,n0,q0,qtz25,hh1,ls,ln,e1,cv,bu,qtz91,hh2,s5,c4',hh5,s6,Qx,Hx,f0,f1,f4,e9,l6,s8]);with_reducible rfl)))) ?_)|(refine W2 (by simp +decide only[Cx,n0,q0,ls,e1,bu,c4',f0,f1,f4,e9];try with_reducible rfl) (fun hb=>?_) (fun hb=>?_)<;>try contradiction)|apply W3|apply W4|apply W5|apply W6)
   refine done_c3 (v:=.agg ⟨l⟩) (x:=.int .i64 0) (y:=.int .i64 0) (.inr rfl) (by simp +decide only[Gs,d0]) rfl (show _=Value.pointer (some (own g.next)) by simp +decide only[Gs,n0]) (by rw[qld25,ld hl4 hl1]) (by simp +decide only[Gs,n0]) (by simp +decide only[Gs,n0]) ⟨Mod.low f (M6.trans (m8.sub fun j hj=>by omega)) (fun j hj=>.inr hj),?_⟩
   simp only[if_neg hlt]
   refine⟨l,rfl,rep_grow (fun j B hj => ?_) hrt⟩
   obtain⟨e1,ys,ty,r,o,rfl,e2⟩:=(only_blk m4.fit).1 hj
   refine m8.blk _ _ (fun e => ?_) (t6.grows _ _ e1)
   subst e
   have:=t6.grows _ _ e1
   rw[b26] at this
   cases this
def Alk (E:Env) (I:Known):Prop:=∀ t xv yv h,rep E h t xv→rep E h t yv→lvlI t≤400→isz t≤1000000→I 14 [xv,yv,.int .i64 0] h=some (some (.bool true,h))
variable {E:Env}
def zeroI:Hs.Item:=.mk 0 0 ⟨#[]⟩ []
theorem rep_zero (E:Env) (g:H):rep E g zeroI (.agg ⟨zeroL⟩):=by
 unfold zeroI
 rw[rep]
 exact⟨_,rfl,.inl ⟨rfl,rfl⟩⟩
def decT (r:Rd Hs.Item):Hs.Item×Int×Int:=match r with
 | .ok t _ _=>(t,0,0)
 | .bad p e=>(zeroI,p,e)
theorem decQ_of {g:H} {r:Rd Hs.Item} {v:Value} (h:DecQ E r v g):∃ l,v=.tuple #[.agg ⟨l⟩,.int .i64 (decT r).2.1,.int .i64 (decT r).2.2]∧rep E g (decT r).1 (.agg ⟨l⟩):=by
 unfold DecQ at h
 split at h
 ·exact h
 ·exact⟨zeroL,h,rep_zero E g⟩
theorem _root_.Go.Hs.Mod.gof {g h:H} (m:Mod (fun _=>False) g h):Grows g h:=fun j B hj=>m.blk j B (fun h=>h) hj
theorem rfit_empty:Fit H.empty:=by
 refine⟨fun _ _=>T.get_nil _,⟨fun k xs ty r p hd => ?_,Nat.le_refl _⟩⟩
 rw[show H.empty.dyn=T.nil from rfl,T.get_nil] at hd
 cases hd
theorem fn3:tab.fn.get 3=some Tryd.f3:=by kernel_rfl
structure Kn3 (E:Env) (K:Known):Prop where
 out:∀ f args h,f∈[3,12,13,49,50,51,52,81,82,83,84,85,86,87,88,113,114,115,116]→K f args h=none
 k11:∀ h,K 11 [] h=some (some (.bool true,h))
 k14:Alk E K
 kq:Kq K
theorem prsT_small (bs:List UInt8):lvlI (decT (prsR bs)).1≤400∧isz (decT (prsR bs)).1≤1000000:=by
 have hz:lvlI zeroI≤400∧isz zeroI≤1000000:=⟨by decide,by decide⟩
 unfold prsR
 by_cases hlong:65536<bs.length
 ·rw[if_pos hlong];exact hz
 rw[if_neg hlong]
 have rok:=rdPI_good (bs:=bs) 250 0 0 (Nat.zero_le _) (by decide)
 generalize rdPI bs 250 0 0=r at rok
 cases r with
 | bad p e=>exact hz
 | ok t p it=>
  obtain⟨_,_,_,h4,h5,h6⟩:=rok
  simp only[]
  by_cases hlt:p<bs.length
  ·rw[if_pos hlt];exact hz
  ·rw[if_neg hlt]
   exact⟨by show lvlI t≤400;omega,by show isz t≤1000000;omega⟩
theorem walk3 {K:Known} (k:Kn3 E K) (bs:List UInt8):∃ n h',(ev tab E K n).call 3 [.string ⟨⟨bs⟩⟩] H.empty=some (.bool true,h'):=by
 suffices hw:∃ n x h',(ev tab E K n).call 3 [.string ⟨⟨bs⟩⟩] H.empty=some (x,h')∧x=.bool true by
  obtain⟨n,x,h',h1,rfl⟩:=hw
  exact⟨n,h',h1⟩
 have f0:=rfit_empty
 generalize H.empty=g at f0 ⊢
 have cw:=fun (h:H) (m:Nat)=>ev_knownS (D:=tab) (E:=E) (n:=m) (k.k11 h)
 apply Wk (k.out _ _ _ (by simp)) fn3 rfl
 intro A0 n0 d0 hA0
 change A0.n=41 at n0
 have q0:A0.get 0=.string ⟨⟨bs⟩⟩:=hA0 0 _ rfl
 clear hA0
 have ls:alen tab 9 (.string ⟨⟨bs⟩⟩) g=some (.int .i64 (bs.length:Nat)):=qlen9 _
 by_cases hlong:70000<bs.length
 ·have e1:decide ((bs.length:Int)>70000)=true:=decide_eq_true (by omega)
  have c11:=cw g 0
  repeat' (first|with_reducible apply Ws|(apply Wn 1;focus ((repeat ((with_reducible apply Rr rfl);focus ((try simp +decide only[Oy,n0,q0,ls,e1,c11]);with_reducible rfl)));with_reducible exact Rn))|(refine W2 (by simp +decide only[Cx,n0,q0,ls,e1];try with_reducible rfl) (fun hb=>?_) (fun hb=>?_)<;>try contradiction)|apply W3|apply W4|apply W5|apply W6)
  exact done_q (v:=.bool true) (.inr rfl) (by simp +decide only[Gs,d0]) rfl (by simp +decide only[Gs,n0]) rfl
 have e1:decide ((bs.length:Int)>70000)=false:=decide_eq_false (by omega)
 have hl:bs.length≤1000000:=by omega
 obtain⟨n2,x2,g2,c2,m2,z2⟩:=parse12 (E:=E) (I:=K) (fun f args h hf=>k.out _ _ _ (by rcases hf with h|h|h|h|h|h|h|h|h|h<;>simp[h])) k.kq f0 hl
 obtain⟨l2,rfl,r2⟩:=decQ_of z2
 obtain⟨a20,a21,a22,a23,rfl,ho2⟩:=item_four r2
 have var:∀ (h:H) (l:List Value),l.length=4→l.all isOne=true→Fit h→∃ hn h',h.new (.cells (Value.agg #[.int .i64 0,.int .i64 0,.string ⟨#[]⟩,.slice none 0 0]).cells.toList 25 none)=hn∧astore tab 25 (own h.next) (.agg ⟨l⟩) hn=some h'∧Ahd h h'∧h'.blk h.next=some (.cells l 25 none):=by
  intro h l h4 ho fh
  have t:Ahd h (h.new (.cells (Value.agg #[.int .i64 0,.int .i64 0,.string ⟨#[]⟩,.slice none 0 0]).cells.toList 25 none)):=Ahd.new0 fh rfl
  have bb:(h.new (.cells (Value.agg #[.int .i64 0,.int .i64 0,.string ⟨#[]⟩,.slice none 0 0]).cells.toList 25 none)).blk h.next=some (.cells zeroL 25 none):=new_blk_new rfl
  exact⟨_,_,rfl,astore_all qty25 bb (by rw[h4]) (by rw[h4];rfl) ho (by intro e;rw[e] at h4;simp at h4),t.setl rfl (Nat.le_refl _) (t.fit.lt bb) fh,setl_same rfl⟩
 obtain⟨hn2,g3,hh3,s3,t3,b3⟩:=var g2 [a20,a21,a22,a23] rfl ho2 m2.fit
 obtain⟨n4,x4,g4,c4,m4,z4⟩:=rparse13 (E:=E) (I:=K) (fun f args h hf=>k.out _ _ _ (by rcases hf with h|h|h|h|h|h|h|h<;>simp[h])) t3.fit hl
 obtain⟨l4,rfl,r4⟩:=decQ_of z4
 obtain⟨a40,a41,a42,a43,rfl,ho4⟩:=item_four r4
 obtain⟨hn4,g5,hh5,s5,t5,b5⟩:=var g4 [a40,a41,a42,a43] rfl ho4 m4.fit
 have G35:Grows g3 g5:=m4.gof.trans t5.grows
 obtain⟨d1,d2⟩:=prsT_small bs
 have l4:g5.cells E (own g2.next) 4=some [a20,a21,a22,a23]:=blk_cells (G35 _ _ b3) rfl ho2
 have l7:g5.cells E (own g4.next) 4=some [a40,a41,a42,a43]:=blk_cells b5 rfl ho4
 have k14:=k.k14 _ _ _ g5 (rep_grow (t3.grows.trans G35) r2) (rep_grow t5.grows r4) d1 d2
 have c14:(ev tab E K 1).call 14 _ g5=_:=ev_knownS k14
 have c11:=cw g5 0
 generalize (decT (prsR bs)).2.1=i1 at*
 generalize (decT (prsR bs)).2.2=i2 at*
 repeat' (first|with_reducible apply Ws|(apply Wp;focus ((repeat ((with_reducible apply Rr rfl);focus ((try simp +decide only[Oy,n0,q0,ls,e1]);with_reducible rfl)));with_reducible exact Rn))|(refine W2 (by simp +decide only[Cx,n0,q0,ls,e1];try with_reducible rfl) (fun hb=>?_) (fun hb=>?_)<;>try contradiction)|apply W3|apply W4|apply W5|apply W6)
 (repeat' (with_reducible apply Ws));(apply Wn n2;focus ((repeat (first|((first|with_reducible apply Rr rfl|((with_reducible apply Rg);(focus rfl);(focus rfl);focus (simp +decide only[Gs,n0,q0,c2,qtz25,hh3,s3];done)));focus ((try simp +decide only[Oy,n0,q0,c2,qtz25,hh3,s3]);with_reducible rfl))|((with_reducible apply Rs);(focus rfl);(focus rfl);focus (simp +decide only[Gs,n0,q0,c2,qtz25,hh3,s3];done))));with_reducible exact Rn))
 (repeat' (with_reducible apply Ws));(apply Wn n4;focus ((repeat (first|((first|with_reducible apply Rr rfl|((with_reducible apply Rg);(focus rfl);(focus rfl);focus (simp +decide only[Gs,n0,q0,c4,qtz25,hh5,s5];done)));focus ((try simp +decide only[Oy,n0,q0,c4,qtz25,hh5,s5]);with_reducible rfl))|((with_reducible apply Rs);(focus rfl);(focus rfl);focus (simp +decide only[Gs,n0,q0,c4,qtz25,hh5,s5];done))));with_reducible exact Rn))
 (repeat' (with_reducible apply Ws));(apply Wn 1;focus ((repeat (first|((first|with_reducible apply Rr rfl|((with_reducible apply Rg);(focus rfl);(focus rfl);focus (simp +decide only[Gs,n0,Qx,Hx,l4,l7,c14,decide_true,c11];done)));focus ((try simp +decide only[Oy,n0,Qx,Hx,l4,l7,c14,decide_true,c11]);with_reducible rfl))|((with_reducible apply Rs);(focus rfl);(focus rfl);focus (simp +decide only[Gs,n0,Qx,Hx,l4,l7,c14,decide_true,c11];done))));with_reducible exact Rn))
 repeat' (first|with_reducible apply Ws|(apply Wp;focus ((repeat ((with_reducible apply Rr rfl);focus ((try simp +decide only[Oy,n0]);with_reducible rfl)));with_reducible exact Rn))|(refine W2 (by simp +decide only[Cx,n0];try with_reducible rfl) (fun hb=>?_) (fun hb=>?_)<;>try contradiction)|apply W3|apply W4|apply W5|apply W6)
 exact done_q (v:=.bool true) (.inr rfl) (by simp +decide only[Gs,d0]) rfl (by simp +decide only[Gs,n0]) rfl
set_option maxHeartbeats 4000000
theorem jsaid_out {S:Says} {I:Known} {f:FuncId} {args:List Value} {h:H} {fs:List Nat} (hS:∀ s f args h v,S s f args h v→f∈fs) (hf:fs.any (Nat.beq f)=false):saidBy S I f args h=I f args h:=by
 unfold saidBy
 rw[dif_neg]
 rintro⟨v,s,h1⟩
 rw[List.any_eq_false] at hf
 exact hf f (hS _ _ _ _ _ h1) (by simp)
theorem jbase_out {f:FuncId} {args:List Value} {h:H} (hf:([123,130]:List Nat).any (Nat.beq f)=false):I0 f args h=none:=by
 simp only[List.any_cons,List.any_nil,Bool.or_eq_false_iff] at hf
 unfold I0
 rw[hf.1,hf.2.1]
variable {n0:Nat}
noncomputable def J14 (E:Env):Known:=saidBy (says14 E) (I0)
theorem J14_out {E:Env} {f:FuncId} {args:List Value} {h:H} (hf:([14,53,89,55]:List Nat).any (Nat.beq f)=false):J14 E f args h=(I0) f args h:=jsaid_out (fs:=[14,53,89,55]) (fun s f args h v hs=>by rcases hs with⟨rfl,_⟩|⟨rfl,_⟩|⟨rfl,_⟩|⟨rfl,_⟩<;>decide) hf
theorem J14_good (E:Env):KnownGood Tryd.prog tab E n0 (J14 E):=saidByF_good tab_of noNum (known0 E n0) (shown14 (fun f args h hf=>by rcases hf with rfl|rfl|rfl|rfl|rfl<;>exact jbase_out (by decide)))
theorem J14_none {E:Env} {f:FuncId} {args:List Value} {h:H} (hf:([14,53,89,55,123,130]:List Nat).any (Nat.beq f)=false):J14 E f args h=none:=by
 rw[show ([14,53,89,55,123,130]:List Nat)=[14,53,89,55]++[123,130] from rfl,List.any_append,Bool.or_eq_false_iff] at hf
 exact (J14_out hf.1).trans (jbase_out hf.2)
noncomputable def J101 (E:Env):Known:=saidBy (says101) (J14 E)
theorem J101_out {E:Env} {f:FuncId} {args:List Value} {h:H} (hf:([101,102]:List Nat).any (Nat.beq f)=false):J101 E f args h=(J14 E) f args h:=jsaid_out (fs:=[101,102]) (fun s f args h v hs=>by rcases hs with⟨rfl,_⟩|⟨rfl,_⟩<;>decide) hf
theorem J101_good (E:Env):KnownGood Tryd.prog tab E n0 (J101 E):=saidByF_good tab_of noNum (J14_good E) (shown101 (fun f args h hf=>by rcases hf with rfl|rfl<;>exact J14_none (by decide)))
theorem J101_none {E:Env} {f:FuncId} {args:List Value} {h:H} (hf:([101,102,14,53,89,55,123,130]:List Nat).any (Nat.beq f)=false):J101 E f args h=none:=by
 rw[show ([101,102,14,53,89,55,123,130]:List Nat)=[101,102]++[14,53,89,55,123,130] from rfl,List.any_append,Bool.or_eq_false_iff] at hf
 exact (J101_out hf.1).trans (J14_none hf.2)
noncomputable def Jlaw (E:Env):Known:=fun f args h=>match Nat.beq f 11,args with
 | true,[]=>some (some (.bool true,h))
 | true,_=>none
 | false,_=>(J101 E) f args h
theorem Jlaw_out {E:Env} {f:FuncId} {args:List Value} {h:H} (hf:([11]:List Nat).any (Nat.beq f)=false):Jlaw E f args h=(J101 E) f args h:=by
 have:Nat.beq f 11=false:=by simpa using hf
 unfold Jlaw
 rw[this]
theorem Jlaw_good {E:Env} (hE:∀ b o v,E0 b o=some v→E b o=some v):KnownGood Tryd.prog tab E n0 (Jlaw E):=by
 have key:∀ {f args h r},Jlaw E f args h=some (some r)→(f=11∧args=[]∧r=(.bool true,h))∨J101 E f args h=some (some r):=by
  intro f args h r hh
  unfold Jlaw at hh
  split at hh
  ·next e=>cases hh;exact .inl ⟨Nat.eq_of_beq_eq_true e,rfl,rfl⟩
  ·cases hh
  ·exact .inr hh
 have hB:=J101_good (n0:=n0) E
 refine⟨fun f args h r h' hi φ w R hok => ?_,fun f args h r h' hi o => ?_,fun f args h r h' hi => ?_⟩
 ·rcases key hi with⟨rfl,rfl,he⟩|h1
  ·cases he;exact awake_sim hE R
  ·exact hB.sim _ _ _ _ _ h1 φ w R hok
 ·rcases key hi with⟨rfl,rfl,he⟩|h1
  ·cases he;exact Lg.refl o
  ·exact hB.lg _ _ _ _ _ h1 o
 ·rcases key hi with⟨rfl,rfl,he⟩|h1
  ·cases he;exact Nat.le_refl _
  ·exact hB.next _ _ _ _ _ h1
theorem Jlaw_none {E:Env} {f:FuncId} {args:List Value} {h:H} (hf:([11,101,102,14,53,89,55,123,130]:List Nat).any (Nat.beq f)=false):Jlaw E f args h=none:=by
 rw[show ([11,101,102,14,53,89,55,123,130]:List Nat)=[11]++[101,102,14,53,89,55,123,130] from rfl,List.any_append,Bool.or_eq_false_iff] at hf
 exact (Jlaw_out hf.1).trans (J101_none hf.2)
theorem kn3 (E:Env):Kn3 E (Jlaw E) where
 out:=fun f args h hf=>by
  simp only[List.mem_cons,List.not_mem_nil,or_false] at hf
  rcases hf with rfl|rfl|rfl|rfl|rfl|rfl|rfl|rfl|rfl|rfl|rfl|rfl|rfl|rfl|rfl|rfl|rfl|rfl|rfl<;>exact Jlaw_none (by decide)
 k11:=fun h=>rfl
 k14:=fun t xv yv h hr hr' hl hz=>((Jlaw_out (by decide)).trans ((J101_out (by decide)).trans (saidBy_eq (one14 E) (.inl ⟨rfl,t,xv,yv,0,rfl,hr,hr',by decide,by omega,hz,rfl,rfl⟩))))
 kq:=⟨fun c h=>((Jlaw_out (by decide)).trans (saidBy_eq one101 (.inl ⟨rfl,rfl,c,rfl,rfl⟩))),fun c h=>((Jlaw_out (by decide)).trans (saidBy_eq one101 (.inr ⟨rfl,rfl,c,rfl,rfl⟩)))⟩
open Go Go.Hs Go.Proofs Go.ChangeShapes Go.WideShapes Go.ChangeAt Go.WideMaps Go.WideElems Go.RowKit
theorem own_knob:ownKnob Tryd.prog.godebug=none:=by kernel_rfl
theorem gPow:Tryd.prog.globalNamed "internal/strconv.uint64pow10" = some 1:=by kernel_rfl
theorem kids:Kids Tryd.prog (· < Tryd.prog.types.size):=kids_rows (by kernel_rfl) (by kernel_rfl)
theorem full:∀ t e,t<Tryd.prog.types.size→Tryd.prog.underlying t=some (.slice e)→0<Tryd.prog.cellsOf e:=slices_full_of Tryd.prog (by kernel_rfl)
def laid3:List (String×DataW Unit):=[("math/bits.deBruijn32tab", Rows.laid_math_bits_deBruijn32tab),("math/bits.deBruijn64tab", Rows.laid_math_bits_deBruijn64tab),("internal/strconv.uint64pow10", Rows.laid_internal_strconv_uint64pow10)]
theorem of_laid {W:World} (h:laidMetH Tryd.prog laid3 W):W.cell? ⟨1,2,none⟩=some (.int .u64 100):=by
 rw[MakeChecks.laidMetH_plain _ _ _ (by kernel_rfl)] at h
 obtain⟨ps,⟨g0,t0,cs0,f0,p0,q0,hg0,ht0,hv0,hd0,⟨g1,t1,cs1,f1,p1,q1,hg1,ht1,hv1,hd1,⟨g2,t2,cs2,f2,p2,q2,hg2,ht2,hv2,hd2,_,_⟩,_⟩,_⟩,_,_⟩:=h
 obtain rfl:=Option.some.inj (gPow.symm.trans hg2)
 obtain rfl:=Option.some.inj ((show (Tryd.prog.globals[1]?).map (·.type)=some 186 by kernel_rfl).symm.trans ht2)
 obtain⟨xs,m,_,hx,_,_,hel⟩:=DataW.trod_array Tryd.underlying186 hd2
 have c99:Tryd.prog.cellsOf 99=1:=by kernel_rfl
 have h2:=hel 2 (by decide)
 rw[c99] at h2
 simp only[Prod.mk.injEq] at hx
 have hx1:xs.map (·.1)=[.lit (.int .u64 1),.lit (.int .u64 10),.lit (.int .u64 100)]++(xs.map (·.1)).drop 3:=by
  have e:DataW.agg (xs.map (·.1))=Rows.laid_internal_strconv_uint64pow10:=hx.1.symm
  unfold Rows.laid_internal_strconv_uint64pow10 at e
  rw[DataW.agg.injEq] at e
  rw[e]
  rfl
 have h3:(xs.map (·.1))[2]? = some (.lit (.int .u64 100)):=by rw[hx1];rfl
 rw[List.getElem?_map] at h3
 obtain⟨y,hy,hy1⟩:=Option.map_eq_some_iff.1 h3
 rw[hy] at h2
 obtain⟨k,e1,e2,_⟩:=DataW.trod_int Tryd.underlying99 h2
 have hk:k=100:=by
  rw[e2] at hy1
  simpa using hy1
 subst hk
 have hc:=World.var?_cell hg2 hv2 2
 rw[hc]
 obtain⟨l⟩:=cs2
 have e1:(l.drop 2).take 1=[.int .u64 100]:=by simpa using e1
 match l,e1 with
 | [],e1=>simp at e1
 | [_],e1=>simp at e1
 | _::_::[],e1=>simp at e1
 | _::_::c::_,e1=>
  simp at e1
  subst e1
  rfl
theorem arg_text {W:World} {base:Nat} {v:Value} (hv:Value.okWide Tryd.prog W .any base 9 v):∃ bs:List UInt8,v=.string ⟨⟨bs⟩⟩:=by
 obtain⟨s,rfl⟩:=okWide_string Tryd.underlying9 hv
 exact⟨s.data.toList,rfl⟩
theorem call3 {W:World} (hL:W.cell? ⟨1,2,none⟩=some (.int .u64 100)) (bs:List UInt8) :
  Calls Tryd.prog 3 #[.string ⟨⟨bs⟩⟩] W fun e W'=>e=.returned (.bool true)∧Kept (fun _=>none) W W':=by
 have hE:∀ b o z,E0 b o=some z→envOf W b o=some z:=by
  intro b o z hz
  unfold E0 at hz
  split at hz
  ·next e=>
   cases hz
   rw[Bool.and_eq_true] at e
   obtain rfl:=Nat.eq_of_beq_eq_true e.1
   obtain rfl:=Nat.eq_of_beq_eq_true e.2
   exact envOf_at hL rfl
  ·cases hz
 obtain⟨n,h',hw⟩:=walk3 (kn3 (envOf W)) bs
 cases n with
 | zero=>cases hw
 | succ n=>
  have hc:doCall tab (envOf W) (Jlaw (envOf W)) (ev tab (envOf W) (Jlaw (envOf W)) n) 3 [.string ⟨⟨bs⟩⟩] H.empty=some (.bool true,h'):=hw
  have R:Tie tab (envOf W) W.heap.size All (fun _=>none) H.empty W:=Tie.start (fun b o z hz=>envOf_ro hz) (Nat.le_refl _)
  have:=doCall_calls tab_of (ev_ok tab_of noNum (Jlaw_good (n0:=W.heap.size) hE) n) ((kn3 (envOf W)).out _ _ _ (by simp)) hc R (by
   intro q hq
   simp only[List.mem_cons,List.not_mem_nil,or_false] at hq
   subst hq
   simp[okV])
  have ea:(([.string ⟨⟨bs⟩⟩]:List Value).map (ren fun _=>none)).toArray=#[.string ⟨⟨bs⟩⟩]:=by
   simp only[List.map_cons,List.map_nil,ren]
  rw[ea] at this
  refine this.mono fun e W' hh => ?_
  obtain⟨φ',he,_,_,_,hk⟩:=hh
  exact⟨he,hk⟩
theorem sameAt_of {w w':World} (K:Kept (fun _=>none) w w') {p:MemPlace} (hp:p.block<w.heap.size):w.sameAt w' p:=by
 cases p with
 | cell b off=>
  show w'.cell? ⟨b,off,none⟩=w.cell? ⟨b,off,none⟩
  simp only[World.cell?,K.block b hp (fun _ _ _ h=>by cases h)]
 | map b=>exact K.block b hp (fun _ _ _ h=>by cases h)
theorem TrodAll_stays {H:Type} {enc:TypeId×Value→H} {w w':World} {sp':Nat→Bool}:∀ {ts:List TypeId} {vs:List Value} {ds:List (DataW H)} {ps:List MemPlace},(∀ t∈ts,t<Tryd.prog.types.size)→DataW.TrodAll enc Tryd.prog w 0 (fun _=>true) true ts vs ds ps→(∀ p∈ps,w.sameAt w' p)→(∀ p∈ps,sp' p.block=true)→DataW.TrodAll enc Tryd.prog w' 0 sp' true ts vs ds ps
 | [],[],[],_,_,h,_,_=>h
 | _::_,_::_,_::_,_,hT,⟨p,q,⟨n,h1⟩,h2,e⟩,hs,hp=>⟨p,q,⟨n,DataW.trod_stays kids (fun ht hu=>full _ _ ht hu) (fun hh=>by cases hh) (hT _ (List.mem_cons.2 (Or.inl rfl))) h1 (fun x hx=>hs x (by rw[e];exact List.mem_append_left _ hx)) (fun x hx=>hp x (by rw[e];exact List.mem_append_left _ hx))⟩,
   TrodAll_stays (fun t ht=>hT t (List.mem_cons.2 (Or.inr ht))) h2 (fun x hx=>hs x (by rw[e];exact List.mem_append_right _ hx)) (fun x hx=>hp x (by rw[e];exact List.mem_append_right _ hx)),e⟩
theorem keptBut_of {w w':World} (K:Kept (fun _=>none) w w') (may:MemPlace→Prop):w.keptBut w' may:=by
 refine⟨K.os,K.output,fun i hi => ?_⟩
 have:=K.block i hi (fun _ _ _ h=>by cases h)
 rw[this]
 split
 ·next h1 h2=>rw[h1] at h2;cases h2;exact⟨rfl,rfl,rfl,fun _ _=>rfl⟩
 ·next h1 h2=>rw[h1] at h2;cases h2;exact .inr ⟨rfl,rfl⟩
 ·rfl
theorem door_met (os:Os) (args:Array Value):laidMetH Tryd.prog laid3 ((World.doorLaid Tryd.prog 4000 os).forCall (fun _ _=>0) ⟨#[],args,[]⟩).memory:=
 laidMetH_of_parts3 (fuel:=8) (laidMet_of_run' 8 (by kernel_rfl) (by kernel_rfl)) (by kernel_rfl) (by kernel_rfl)
theorem lifted (os:Os) (started:os.Started) (H:Type) (enc:TypeId×Value→H) :
  ReturnsInHanded {} Tryd.checked os 3 .any (fun w args=>(Rows.wireParsesSpec.pre enc Tryd.prog Tryd.f3 [] false w args∧laidMetH Tryd.prog laid3 w)∧sizedMet enc Tryd.prog Tryd.f3 (OpenSpec.ofChange Rows.wireParsesSpec) false w args)
   (Rows.wireParsesSpec.post enc Tryd.prog Tryd.f3 false true false false):=by
 refine returnsInHanded_of_change_and (C:=Tryd.checked) (X:=fun w _=>laidMetH Tryd.prog laid3 w) (fun _ _ _ hh h=>h.of_heap hh) own_knob started (by kernel_rfl) Tryd.func3
  (ChangeSpec.witness_shaped (enc:=enc) (C:=Tryd.checked) (os:=os) (X:=fun w _=>laidMetH Tryd.prog laid3 w) false (World.doorLaid Tryd.prog 4000 os) #[.string ⟨#[]⟩] 8 rfl (World.shaped_of_RefB (by kernel_rfl) (by kernel_rfl)) (by kernel_rfl) (by kernel_rfl) (by kernel_rfl) (door_met os _)) ?_
 intro W base args ds gs before hval0 hW _ _ hL _
 have hval:∀ (j:Nat) t v,Tryd.f3.params[j]? = some t→args[j]? = some v→Value.okWide Tryd.prog W .any base t v:=hval0
 have hW':=hW
 obtain⟨p,q,hA0,hV,rfl,hfz,hnd⟩:=hW
 have hA:DataW.TrodAll enc Tryd.prog W 0 (fun _=>true) true Tryd.f3.params.toList args.toList ds p:=hA0
 have hAk:=hA
 rw[Tryd.params3] at hA hval
 obtain⟨v,d,rfl,rfl,h1⟩:=trodAll_one hA
 obtain⟨rfl,rfl⟩:=trodVars_none hV
 obtain⟨bs,rfl⟩:=arg_text (hval 0 9 v rfl rfl)
 refine (call3 (of_laid hL) bs).mono fun e W' ⟨he,K⟩ => ?_
 subst he
 have hlt:∀ z∈p,z.block<W.heap.size:=fun z hz=>hW'.lt z (by simpa using hz)
 refine⟨_,rfl,_,_,_,[],p,[],hW',?_,?_,?_,keptBut_of K _,fun h=>by cases h⟩
 ·exact trodAll_mk1 (shut_bool Tryd.underlying4 true)
 ·exact TrodAll_stays (by rw[Tryd.params3];decide) hAk (fun z hz=>sameAt_of K (hlt z hz)) (fun z hz=>by simpa using hlt z hz)
 ·rfl
theorem wireParses_holds:Rows.WireParsesSaid:=
 OpenClaim.holds_of_wide 3 Tryd.f3 rfl rfl rfl rfl rfl rfl rfl ⟨rfl,rfl,rfl,rfl,rfl⟩ rfl rfl rfl rfl rfl (by kernel_rfl) Tryd.func3 (by kernel_rfl)
  (of_decide_eq_true (by kernel_rfl)) (by unfold Func.isWrapper;first|(rw[if_pos (by decide +kernel)];kernel_rfl)|(rw[if_neg (by decide +kernel)];exact⟨rfl,rfl⟩))
  (fun os started H enc _=>lifted os started H enc)
end Go.Proofs.YtofijpbmbmbnhaaDoor
/- Proved: for whatever text, the law on texts that are read (WireParses) returns true, and the text reads afterwards as it read before.
  Conditions: those of the card: when the call begins, the three listed package-level variables hold what the program's text lays (the card ties them to it). Nothing is asked of the text. -/
namespace Go.Proofs.YtofijpbmbmbnhaaDoor
open Go
theorem wireParses_card:Rows.WireParsesCardSaid:=
 Claim7.holds_tied_plain_at .later [] [.data,.data,.data] true (true, "dd39aefdd4fbebabeb528789cffc35ebda988315da12ef43dfd83f580aae36d8") false
  wireParses_holds (fun _ h=>by cases h) (by kernel_rfl) (fun _ h=>by cases h) wireParses_row_tie rfl ⟨rfl,rfl⟩ (by kernel_rfl) rfl
  (fun f fn hf hfn=>by
   obtain rfl:f=3:=Option.some.inj ((show Tryd.prog.funcNamed "hoarstone/hoarstonelaw02.WireParses" = some 3 by kernel_rfl).symm.trans hf) |>.symm
   obtain rfl:fn=Tryd.f3:=(Option.some.inj (Tryd.func3.symm.trans hfn)).symm
   exact⟨by kernel_rfl,fun j t ht=>by
    rw[Tryd.params3] at ht
    have h3:t=9:=by
     rcases j with _|j
     ·simpa using ht.symm
     ·simp at ht
    subst h3
    exact (show Tryd.prog.wantsStandIn 9=false by kernel_rfl)⟩)
  (by kernel_rfl)
#print axioms wireParses_card
end Go.Proofs.YtofijpbmbmbnhaaDoor
