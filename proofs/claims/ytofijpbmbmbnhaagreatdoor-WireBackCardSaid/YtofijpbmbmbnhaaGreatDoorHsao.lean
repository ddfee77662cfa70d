/- A right item is made of numbers. -/
import Derived.Test.YtofijpbmbmbnhaaGreatDoorHsan
set_option linter.unusedSimpArgs false
set_option linter.unusedVariables false
set_option maxRecDepth 100000
set_option maxHeartbeats 8000000
namespace Go.Proofs.YtofijpbmbmbnhaaGreatDoor
open Go Go.Hs Go.Proofs
variable {E:Env} {I:Aa}
theorem AGO:tab.fn.get 60=some Tryz.f60:=by kernel_rfl
theorem AEy {k:Nat} {ty:TypeId} {x:Value} {i:Int} {g:H} (hb:g.blk k=some (.cells [x] ty none)):AO tab 3 (own k) (.int .i64 i) g=some (g.aa k (.cells [.int .i64 i] ty none)):=by
 unfold AO;rw[ty3];exact Eu hb (by simp[Value.cells]) rfl rfl
theorem ZD {k:Nat} {ty:TypeId} {x0 x1 x2 x3 a b c d:Value} {g:H} (hb:g.blk k=some (.cells [x0,x1,x2,x3] ty none)) (h1:[a,b,c,d].all isOne=true):AO tab 24 (own k) (.agg ⟨[a,b,c,d]⟩) g=some (g.aa k (.cells [a,b,c,d] ty none)):=by
 unfold AO;rw[VY];exact Eu hb (by simp[Value.cells]) rfl h1
theorem Vd {k:Nat} {x0 x1 x2 x3:Value} {i:Int} {g:H} (hb:g.blk k=some (.cells [x0,x1,x2,x3] 24 none)):AO tab 3 (aadd (own k) 0) (.int .i64 i) g=some (g.aa k (.cells [.int .i64 i,x1,x2,x3] 24 none)):=by
 unfold AO;rw[ty3];exact CX (o:=0) (vs:=[.int .i64 i]) hb (by simp) (by simp) rfl
theorem PH {k:Nat} {x0 x1 x2 x3:Value} {i:Int} {g:H} (hb:g.blk k=some (.cells [x0,x1,x2,x3] 24 none)):AO tab 3 (aadd (own k) 1) (.int .i64 i) g=some (g.aa k (.cells [x0,.int .i64 i,x2,x3] 24 none)):=by
 unfold AO;rw[ty3];exact CX (o:=1) (vs:=[.int .i64 i]) hb (by simp) (by simp) rfl
theorem Vc {k:Nat} {x0 x1 x2 x3:Value} {s:ByteArray} {g:H} (hb:g.blk k=some (.cells [x0,x1,x2,x3] 24 none)):AO tab 9 (aadd (own k) 2) (.string s) g=some (g.aa k (.cells [x0,x1,.string s,x3] 24 none)):=by
 unfold AO;rw[ty9];exact CX (o:=2) (vs:=[.string s]) hb (by simp) (by simp) rfl
theorem SJ {k:Nat} {x0 x1 x2 x3:Value} {b:Option Addr} {n c:Nat} {g:H} (hb:g.blk k=some (.cells [x0,x1,x2,x3] 24 none)):AO tab 22 (aadd (own k) 3) (.slice b n c) g=some (g.aa k (.cells [x0,x1,x2,.slice b n c] 24 none)):=by
 unfold AO;rw[Xz];exact CX (o:=3) (vs:=[.slice b n c]) hb (by simp) (by simp) rfl
theorem ACO (d:Int):BX tab 24 [(0,.int .i64 d)]=some (.agg ⟨[.int .i64 d,.int .i64 0,.string ⟨#[]⟩,.slice none 0 0]⟩):=by
 unfold BX;rw[VY];rfl
theorem ACC {h:H}:AH tab 25 7 [(0,.int .i64 1),(1,.int .i64 127),(2,.int .i64 128),(3,.int .i64 300),(4,.int .i64 16384),(5,.int .i64 1099511627775),(6,.int .i64 1099511627776)] h=some (.slice (some (own h.next)) 7 7,h.new (.cells [.int .i64 1,.int .i64 127,.int .i64 128,.int .i64 300,.int .i64 16384,.int .i64 1099511627775,.int .i64 1099511627776] 3 none)):=by
 unfold AH;simp only[Xy,tz3];rfl
theorem ADs (j:Nat) (hj:j<7):∃ m:Int,([.int .i64 1,.int .i64 127,.int .i64 128,.int .i64 300,.int .i64 16384,.int .i64 1099511627775,.int .i64 1099511627776]:List Value)[j]? = some (.int .i64 m)/\0<=m/\m<=1099511627776:=by
 obtain rfl|rfl|rfl|rfl|rfl|rfl|rfl:j=0\/j=1\/j=2\/j=3\/j=4\/j=5\/j=6:=by omega
 all_goals exact⟨_,rfl,by decide,by decide⟩
theorem AAK (d:Int) {h:H}:AH tab 25 11 [(0,.int .i64 97),(1,.int .i64 98),(2,.int .i64 34),(3,.int .i64 92),(4,.int .i64 32),(5,.int .i64 126),(6,.int .i64 0),(7,.int .i64 255),(8,.int .i64 127),(9,.int .i64 10),(10,.int .i64 d)] h=some (.slice (some (own h.next)) 11 11,h.new (.cells [.int .i64 97,.int .i64 98,.int .i64 34,.int .i64 92,.int .i64 32,.int .i64 126,.int .i64 0,.int .i64 255,.int .i64 127,.int .i64 10,.int .i64 d] 3 none)):=by
 unfold AH;simp only[Xy,tz3];rfl
theorem ABs (d:Int) (j:Nat) (hj:j<11):∃ m:Int,([.int .i64 97,.int .i64 98,.int .i64 34,.int .i64 92,.int .i64 32,.int .i64 126,.int .i64 0,.int .i64 255,.int .i64 127,.int .i64 10,.int .i64 d]:List Value)[j]? = some (.int .i64 m):=by
 obtain rfl|rfl|rfl|rfl|rfl|rfl|rfl|rfl|rfl|rfl|rfl:j=0\/j=1\/j=2\/j=3\/j=4\/j=5\/j=6\/j=7\/j=8\/j=9\/j=10:=by omega
 all_goals exact⟨_,rfl⟩
theorem AEZ (n:Int) {h:H}:AQ tab E 3 5 (.int .i64 n) h=some (.int .u8 (IntKind.u8.wrap n),h):=by unfold AQ;simp only[ty5,ty3]
theorem tz5:Ak tab 5=some (.int .u8 0):=by unfold Ak;rw[ty5]
theorem ACE (n:Int) {h:H}:AH tab 44 1 [(0,.int .u8 n)] h=some (.slice (some (own h.next)) 1 1,h.new (.cells [.int .u8 n] 5 none)):=by
 unfold AH;simp only[SG,tz5];rfl
theorem AB8 {h:H} {k:Nat} {n:Int} (hb:h.blk k=some (.cells [.int .u8 n] 5 none)):AQ tab E 44 9 (.slice (some (own k)) 1 1) h=some (.string ⟨⟨[UInt8.ofNat n.toNat]⟩⟩,h):=by
 unfold AQ;have hc:h.cells E (own k) 1=some [.int .u8 n]:=AG hb rfl rfl;simp only[SG,ty9,ty5,hc];rfl
theorem Sto.fresh {M:Nat->Prop} {kS:Nat} {bv:Value} {bs:List Int} {h:H} {a:Int} (S:Sto M kS bv bs h a):Sto M kS bv bs (Hs.fresh h) a:=S
theorem Sto.same {M:Nat->Prop} {kS:Nat} {bv:Value} {bs:List Int} {h g:H} {a:Int} (S:Sto M kS bv bs h a) (hb:∀ k,g.blk k=h.blk k):Sto M kS bv bs g a:=by
 obtain⟨seed,e1,e2,e3,e4,e5⟩:=S;refine⟨seed,by rw[hb];exact e1,e2,e3,?_,e5⟩;rcases e4 with e4|⟨k,c,rt,q1,q2,q3⟩
 ·exact .inl e4
 ·exact .inr ⟨k,c,rt,q1,by rw[hb];exact q2,q3⟩
theorem Sto.up {M N:Nat->Prop} {kS:Nat} {bv:Value} {bs:List Int} {h:H} {a:Int} (S:Sto M kS bv bs h a) (f:Fit h) (hN:∀ k,N k->M k\/h.next<=k):Sto N kS bv bs h a:=by
 obtain⟨seed,e1,e2,e3,e4,e5⟩:=S;refine⟨seed,e1,e2,e3,?_,e5⟩;rcases e4 with e4|⟨k,c,rt,q1,q2,q3⟩
 ·exact .inl e4
 ·refine .inr ⟨k,c,rt,q1,q2,fun hn => ?_⟩;rcases hN k hn with h1|h1
  ·exact q3 h1
  ·have:=f.lt q2;omega
structure Gr (M:Nat->Prop) (h:H) (kS kL k6 k7:Nat) (bv:Value) (bs:List Int) (g:H) (a:Int) (left:Nat) (X:List Value):Prop where
 mod:Mod M h g
 sto:Sto M kS bv bs g a
 bL:g.blk kL=some (.cells [.int .i64 (left:Nat)] 3 none)
 b6:g.blk k6=some (.cells [.int .i64 0,.int .i64 0,.string ⟨#[]⟩,.slice none 0 0] 24 none)
 b7:g.blk k7=some (.cells X 24 none)
theorem Gr.draw {M:Nat->Prop} {h:H} {kS kL k6 k7:Nat} {bv:Value} {bs:List Int} {g g':H} {a a':Int} {left:Nat} {X:List Value} (G:Gr M h kS kL k6 k7 bv bs g a left X) (m:Mod (fun k=>k=kS) g g') (S:Sto M kS bv bs g' a') (hM:M kS) (d1:kL≠kS) (d2:k6≠kS) (d3:k7≠kS):Gr M h kS kL k6 k7 bv bs g' a' left X:=
 ⟨G.mod.trans (m.sub fun k hk=>by rw[hk];exact hM),S,m.blk _ _ d1 G.bL,m.blk _ _ d2 G.b6,m.blk _ _ d3 G.b7⟩
theorem Gr.ahd {M:Nat->Prop} {h:H} {kS kL k6 k7:Nat} {bv:Value} {bs:List Int} {g g':H} {a:Int} {left:Nat} {X:List Value} (G:Gr M h kS kL k6 k7 bv bs g a left X) (m:Ahd g g'):Gr M h kS kL k6 k7 bv bs g' a left X:=
 ⟨G.mod.ahd m,G.sto.ahd m,m.grows _ _ G.bL,m.grows _ _ G.b6,m.grows _ _ G.b7⟩
theorem Gr.eu {M:Nat->Prop} {h:H} {kS kL k6 k7:Nat} {bv:Value} {bs:List Int} {g:H} {a:Int} {left:Nat} {X Y:List Value} (G:Gr M h kS kL k6 k7 bv bs g a left X) (hM:M k7) (d1:k7≠kS) (d2:k7≠kL) (d3:k7≠k6):Gr M h kS kL k6 k7 bv bs (g.aa k7 (.cells Y 24 none)) a left Y:=by
 have hl:=G.mod.fit.lt G.b7;have m:Mod (fun k=>k=k7) g (g.aa k7 (.cells Y 24 none)):=(Mod.refl G.mod.fit).aa rfl rfl hl;exact⟨G.mod.trans (m.sub fun k hk=>by rw[hk];exact hM),G.sto.mod m (fun k hk=>by rw[hk];exact hM) (fun e=>d1 e.symm),m.blk _ _ (fun e=>d2 e.symm) G.bL,m.blk _ _ (fun e=>d3 e.symm) G.b6,AD rfl⟩
theorem Gr.df {M:Nat->Prop} {h:H} {kS kL k6 k7:Nat} {bv:Value} {bs:List Int} {g q:H} {a:Int} {left:Nat} {X:List Value} {ro:Option Nat} (G:Gr M h kS kL k6 k7 bv bs g a left X) (f0:Fit h) (hk6:h.next=k6) (t:Ys k6 ro (Hs.fresh g) q) (hro:∀ r,ro=some r->k6<=r) (S0:Bts M h bv bs):Gr M h kS kL k6 k7 bv bs (back g q) a left X:=by
 have hl:q.log=[]:=t.log;have keep:∀ k xs ty,g.blk k=some (.cells xs ty none)->(back g q).blk k=some (.cells xs ty none):=fun k xs ty hb=>by
  rw[BQ];exact t.keep k _ hb (fun _ _ _ _ he=>by cases he)
 have m:Mod M h (back g q):=by
  refine⟨Gh G.mod.fit t.fit t.next,fun k B hk hb => ?_,(Gg _ _).trans G.mod.mark,?_,fun r hr => ?_,fun j hj => ?_⟩
  ·rw[BQ];refine t.keep k B (G.mod.blk k B hk hb) (fun xs ty r p he hr => ?_);subst he;have h1:=f0.ok.1 _ _ _ _ _ (H.ae hb);have:=hro r hr;omega
  ·rw[Au];exact Y0 G.mod.next t.next
  ·rw[DP,t.chain r (by omega)];exact G.mod.chain r hr
  ·rw[P8 hl] at hj;exact G.mod.log j hj
 refine⟨m,?_,keep _ _ _ G.bL,keep _ _ _ G.b6,keep _ _ _ G.b7⟩;obtain⟨seed,e1,e2,e3,_,e5⟩:=G.sto;exact⟨seed,keep _ _ _ e1,e2,e3,S0.mod m (fun _ h=>h),e5⟩
noncomputable def N8:Code:=loopAt Tryz.f60 0
noncomputable def Kr:Code:=loopAt Tryz.f60 1
def Kd (k m:Int):Prop:=1<=k/\k<=63/\0<=m/\m<=1099511627776
theorem Zq (hI:∀ f args h,(f=117\/f=88\/f=87\/f=89\/f=60)->I f args h=none) {kS kL:Nat} (hne:kS≠kL) {bv:Value} {bs:List Int} (hbs:bs.length<=1000000):∀ (deep:Nat) (h:H) (a:Int) (left:Nat),deep<=100->1<=left->left<=100->a+100*left<=100000000->Fit h->Sto (fun k=>k=kS\/k=kL) kS bv bs h a->h.blk kL=some (.cells [.int .i64 (left:Nat)] 3 none)->
  ∃ n v h',(ev tab E I n).call 60 [.pointer (some (own kS)),.pointer (some (own kL)),.int .i64 (deep:Nat)] h=some (v,h')/\(∃ t a' left',Mod (fun k=>k=kS\/k=kL) h h'/\rep E (only (fun r=>Nat.ble h.next r) h') t v/\PI t/\Cd t<=(deep:Int)+1/\left'+isz t=left/\Sto (fun k=>k=kS\/k=kL) kS bv bs h' a'/\h'.blk kL=some (.cells [.int .i64 (left':Nat)] 3 none)/\a<=a'/\a'<=a+21*isz t-1):=by
 intro deep;induction deep using Nat.strongRecOn with
 | ind deep IH=>
 intro h a left hdeep hl1 hl2 ha hfit S bL;have hI121:∀ args h,I 117 args h=none:=fun args h=>hI _ args h (by simp);have hI94:∀ f args h,(f=117\/f=88)->I f args h=none:=fun f args h hf=>hI f args h (by rcases hf with h|h<;>simp[h]);have hI93:∀ f args h,(f=117\/f=88\/f=87)->I f args h=none:=fun f args h hf=>hI f args h (by rcases hf with h|h|h<;>simp[h]);have hI95:∀ f args h,(f=117\/f=88\/f=89)->I f args h=none:=fun f args h hf=>hI f args h (by rcases hf with h|h|h<;>simp[h]);have lS:kS<h.next:=by obtain⟨_,e1,_⟩:=S;exact hfit.lt e1
 have lL:=hfit.lt bL;refine Wc.call (hI _ _ _ (by simp)) AGO rfl ?_;generalize hA0:(⟨T.ofList [.pointer (some (own kS)),.pointer (some (own kL)),.int .i64 (deep:Nat)] 0 .nil,max ([.pointer (some (own kS)),.pointer (some (own kL)),.int .i64 (deep:Nat)]:List Value).length Tryz.f60.ntmps,[]⟩:Ac)=A0;have n0:A0.n=81:=by rw[<- hA0];rfl
 have g00:A0.get 0=.pointer (some (own kS)):=by rw[<- hA0];rfl
 have g01:A0.get 1=.pointer (some (own kL)):=by rw[<- hA0];rfl
 have g02:A0.get 2=.int .i64 (deep:Nat):=by rw[<- hA0];rfl
 have d0:A0.defers=[]:=by rw[<- hA0]
 generalize hZ:(Blk.cells (Value.agg #[.int .i64 0,.int .i64 0,.string ⟨#[]⟩,.slice none 0 0]).cells.toList 24 none)=Z;generalize hh1:h.new Z=h1;have a1:Ahd h h1:=by rw[<- hh1,<- hZ];exact Ahd.aj hfit rfl
 have b6:h1.blk h.next=some (.cells [.int .i64 0,.int .i64 0,.string ⟨#[]⟩,.slice none 0 0] 24 none):=by rw[<- hh1,<- hZ];exact AA rfl
 have n1:h1.next=h.next+1:=by rw[<- hh1];rfl
 repeat' (with_reducible apply Wc.seq)
 refine Wc.ops (by (repeat ((with_reducible apply Rr rfl);focus ((try simp +decide only[Oz,n0,tz25,hZ,hh1]);with_reducible rfl)));with_reducible exact Rn) ?_;have l1:h1.cell E (own kL)=some (.int .i64 (left:Nat)):=Bp (a1.grows _ _ bL) rfl;have w1:IntKind.i64.wrap ((left:Int)-1)=((left-1:Nat):Int):=by rw[wrap64 (by omega) (by omega)];omega
 have s1:=AEy (i:=((left-1:Nat):Int)) (a1.grows _ _ bL);generalize hh2:h1.aa kL (.cells [.int .i64 ((left-1:Nat):Int)] 3 none)=h2 at s1;have bL2:h2.blk kL=some (.cells [.int .i64 ((left-1:Nat):Int)] 3 none):=by rw[<- hh2];exact AD rfl
 have m2:Mod (fun k=>k=kL) h1 h2:=by rw[<- hh2];exact (Mod.refl a1.fit).aa rfl rfl (by omega)
 have b62:=m2.blk _ _ (by omega) b6;have n2:h2.next=h1.next:=by rw[<- hh2];exact Bx _ _ _
 repeat' (with_reducible apply Wc.seq)
 refine Wc.ops (by (repeat ((with_reducible apply Rr rfl);focus ((try simp +decide only[Oz,n0,g00,g01,g02,ld3,l1,w1,s1]);with_reducible rfl)));with_reducible exact Rn) ?_;have hM0:∀ k,(k=kS\/k=kL)->(k=kS\/k=kL):=fun _ h=>h;have S2:Sto (fun k=>k=kS\/k=kL) kS bv bs h2 a:=(S.ahd a1).mod m2 (fun k hk=>.inr hk) hne;obtain⟨nf3,v3,h3,c3,kd,rfl,kd1,kd2,m3,a3,S3,a31,a32⟩:=Tx hI93 (.inl rfl) m2.fit S2 (by omega) hbs 1 4 (by decide) (by decide) (by decide) (E:=E);generalize hh4:h3.new Z=h4;have a4:Ahd h3 h4:=by rw[<- hh4,<- hZ];exact Ahd.aj m3.fit rfl
 have b74:h4.blk h3.next=some (.cells [.int .i64 0,.int .i64 0,.string ⟨#[]⟩,.slice none 0 0] 24 none):=by rw[<- hh4,<- hZ];exact AA rfl
 have l3n:h2.next<=h3.next:=m3.next;have s4:=ZD (a:=.int .i64 kd) (b:=.int .i64 0) (c:=.string ⟨#[]⟩) (d:=.slice none 0 0) b74 rfl;generalize hh5:h4.aa h3.next (.cells [.int .i64 kd,.int .i64 0,.string ⟨#[]⟩,.slice none 0 0] 24 none)=h5 at s4
 repeat' (with_reducible apply Wc.seq)
 refine Wc.dt nf3 (by (repeat ((with_reducible apply Rr rfl);focus ((try simp +decide only[Oz,n0,g00,g01,g02,c3,ACO,tz25,hZ,hh4,s4]);with_reducible rfl)));with_reducible exact Rn) ?_;have hup:∀ k,(k=kS\/k=kL)->(k=kS\/k=kL\/h.next<=k):=fun k hk=>by rcases hk with h|h<;>simp[h]
 have S0:Sto (fun k=>k=kS\/k=kL\/h.next<=k) kS bv bs h a:=S.up hfit (fun k hk=>by rcases hk with h1|h1|h1<;>simp[h1]);generalize hM':(fun k=>k=kS\/k=kL\/h.next<=k)=M' at S0;have hBt0:Bts M' h bv bs:=by obtain⟨_,_,_,_,e,_⟩:=S0;exact e
 have hMS:M' kS:=by rw[<- hM'];exact .inl rfl
 have hML:M' kL:=by rw[<- hM'];exact .inr (.inl rfl)
 have hMn:∀ k,h.next<=k->M' k:=fun k hk=>by rw[<- hM'];exact .inr (.inr hk)
 have hlow:∀ k,M' k->(k=kS\/k=kL)\/h.next<=k:=fun k hk=>by rw[<- hM'] at hk;rcases hk with h1|h1|h1<;>simp[h1]
 have e7:h.next+1<=h3.next:=by rw[<- n1,<- n2];exact l3n
 have m5:Mod (fun k=>k=h3.next) h4 h5:=by rw[<- hh5];exact (Mod.refl a4.fit).aa rfl rfl (by rw[<- hh4];exact I5 _)
 have G5:Gr M' h kS kL h.next h3.next bv bs h5 a3 (left-1) [.int .i64 kd,.int .i64 0,.string ⟨#[]⟩,.slice none 0 0]:=by
  have S3':Sto M' kS bv bs h3 a3:=by
   obtain⟨seed,q1,q2,q3,q4,q5⟩:=S3;obtain⟨_,_,_,_,p4,_⟩:=S0;refine⟨seed,q1,q2,q3,?_,q5⟩;exact (p4.mod (N:=M') (a1.mod.trans ((m2.sub (fun k hk=>by rw[hk];exact hML)).trans (m3.sub (fun k hk=>by rw[hk];exact hMS)))) (fun _ h=>h))
  refine⟨?_,?_,?_,?_,?_⟩
  ·exact a1.mod.trans ((m2.sub (fun k hk=>by rw[hk];exact hML)).trans ((m3.sub (fun k hk=>by rw[hk];exact hMS)).trans (a4.mod.trans (m5.sub (fun k hk=>by rw[hk];exact hMn _ (by omega))))))
  ·exact (S3'.ahd a4).mod m5 (fun k hk=>by rw[hk];exact hMn _ (by omega)) (by omega)
  ·exact m5.blk _ _ (by omega) (a4.grows _ _ (m3.blk _ _ (by omega) bL2))
  ·exact m5.blk _ _ (by omega) (a4.grows _ _ (m3.blk _ _ (by omega) b62))
  ·rw[<- hh5];exact AD rfl
 generalize hk6:h.next=k6 at*;generalize hk7:h3.next=k7 at*;have dd:kL≠kS/\k6≠kS/\k7≠kS/\k7≠kL/\k7≠k6:=by omega
 obtain⟨d1,d2,d3,d4,d5⟩:=dd;have hM7:M' k7:=hMn _ (by omega);have hup':∀ k,(k=kS\/k=kL)->M' k:=fun k hk=>by rcases hk with h1|h1<;>simp[h1,hMS,hML]
 obtain⟨nf6,v6,h6,c6,c,rfl,hc0,hc1,m6,a6,S6,a61,a62⟩:=It hI94 hMS G5.mod.fit G5.sto (by omega) hbs 6 (by decide) (E:=E);have G6:=G5.draw m6 S6 hMS d1 d2 d3
 repeat' (with_reducible apply Wc.seq)
 refine Wc.dt nf6 (by (repeat ((with_reducible apply Rr rfl);focus ((try simp +decide only[Oz,n0,g00,c6]);with_reducible rfl)));with_reducible exact Rn) ?_;refine Wc.forget (fun A=>A.n=81/\A.defers=[]/\A.get 0=.pointer (some (own kS))/\A.get 1=.pointer (some (own kL))/\A.get 2=.int .i64 (deep:Nat)/\A.get 6=.pointer (some (own k6))/\A.get 7=.pointer (some (own k7))/\A.get 17=.int .i64 c) ⟨by simp +decide only[Gz,n0],by simp +decide only[Gz,d0],by simp +decide only[Gz,n0,g00],by simp +decide only[Gz,n0,g01],by simp +decide only[Gz,n0,g02],by simp +decide only[Gz,n0],by simp +decide only[Gz,n0],by simp +decide only[Gz,n0]⟩ ?_;clear hA0 n0 g00 g01 g02 d0;rintro A ⟨nA,dA,p0,p1,p2,p6,p7,p17⟩;refine Wc.mono (Q:=fun ex A g=>ex=.normal/\A.n=81/\A.defers=[]/\A.get 0=.pointer (some (own kS))/\A.get 1=.pointer (some (own kL))/\A.get 2=.int .i64 (deep:Nat)/\A.get 6=.pointer (some (own k6))/\A.get 7=.pointer (some (own k7))/\∃ k m a',Kd k m/\a6<=a'/\a'<=a6+1/\Gr M' h kS kL k6 k7 bv bs g a' (left-1) [.int .i64 k,.int .i64 m,.string ⟨#[]⟩,.slice none 0 0]) ?_ ?_
 ·have hkd:Kd kd 0:=⟨by omega,by omega,by decide,by decide⟩;by_cases q0:c=0
  ·have dc:decide (c=0)=true:=by simpa using q0
   obtain⟨nf,v,g,cc,k,rfl,k0,k1,m,a',S',a1',a2'⟩:=Tx hI93 hMS G6.mod.fit G6.sto (by omega) hbs 1 63 (by decide) (by decide) (by decide) (E:=E);have G:=G6.draw m S' hMS d1 d2 d3;have st:=Vd (i:=k) G.b7;refine Vnz nf (Z8 nA p0 p7 p17 @dc @cc @Ej @st) ?_;exact⟨rfl,by simp +decide only[Gz,nA],by simp +decide only[Gz,dA],by simp +decide only[Gz,nA,p0],by simp +decide only[Gz,nA,p1],by simp +decide only[Gz,nA,p2],by simp +decide only[Gz,nA,p6],by simp +decide only[Gz,nA,p7],k,0,a',⟨k0,k1,by decide,by decide⟩,a1',a2',G.eu hM7 d3 d4 d5⟩
  have dc0:decide (c=0)=false:=by simpa using q0
  by_cases q1:c=1
  ·have dc1:decide (c=1)=true:=by simpa using q1
   generalize hB7:(Blk.cells [.int .i64 1,.int .i64 127,.int .i64 128,.int .i64 300,.int .i64 16384,.int .i64 1099511627775,.int .i64 1099511627776] 3 none)=B7;have aB:Ahd h6 (h6.new B7):=by rw[<- hB7];exact Ahd.aj G6.mod.fit rfl
   have bB:(h6.new B7).blk h6.next=some (.cells [.int .i64 1,.int .i64 127,.int .i64 128,.int .i64 300,.int .i64 16384,.int .i64 1099511627775,.int .i64 1099511627776] 3 none):=by rw[<- hB7];exact AA rfl
   have hbs7:=ACC (h:=h6);rw[hB7] at hbs7;have GB:=G6.ahd aB;generalize hhB:h6.new B7=hB at aB bB GB hbs7;have l6S:kS<h6.next:=by obtain⟨_,e1,_⟩:=G6.sto;exact G6.mod.fit.lt e1
   obtain⟨nf,v,g,cc,i,rfl,i0,i1,m,a',S',a1',a2'⟩:=It hI94 hMS GB.mod.fit GB.sto (by omega) hbs 7 (by decide) (E:=E);have G:=GB.draw m S' hMS d1 d2 d3;have bg:=m.blk _ _ (by omega) bB;obtain⟨j,rfl⟩:∃ j:Nat,i=(j:Nat):=⟨i.toNat,by omega⟩;obtain⟨mm,hmm,mm0,mm1⟩:=ADs j (by omega);have hir:AN (j:Int) 7=true:=by
    show Nat.blt j 7=true;rw[P0];omega
   have lj:g.cell E (aadd (own h6.next) (j*1))=some (.int .i64 mm):=AS bg (by rw[V2];exact hmm) rfl;have st:=PH (i:=mm) G.b7;refine Vnz nf (Z14 nA p0 p7 p17 @dc0 @dc1 @hbs7 @cc (fun a c=>AAY a _ c _ hir) @M0 @ld3 @lj @EM @st) ?_;exact⟨rfl,by simp +decide only[Gz,nA],by simp +decide only[Gz,dA],by simp +decide only[Gz,nA,p0],by simp +decide only[Gz,nA,p1],by simp +decide only[Gz,nA,p2],by simp +decide only[Gz,nA,p6],by simp +decide only[Gz,nA,p7],kd,mm,a',⟨hkd.1,hkd.2.1,mm0,mm1⟩,a1',a2',G.eu hM7 d3 d4 d5⟩
  have dc1:decide (c=1)=false:=by simpa using q1
  by_cases q2:c=2
  ·have dc2:decide (c=2)=true:=by simpa using q2
   obtain⟨nf,v,g,cc,k,rfl,k0,k1,m,a',S',a1',a2'⟩:=It hI94 hMS G6.mod.fit G6.sto (by omega) hbs 4 (by decide) (E:=E);have G:=G6.draw m S' hMS d1 d2 d3;have st:=PH (i:=k) G.b7;refine Vnz nf (Z10 nA p0 p7 p17 @dc0 @dc1 @dc2 @cc @EM @st) ?_;exact⟨rfl,by simp +decide only[Gz,nA],by simp +decide only[Gz,dA],by simp +decide only[Gz,nA,p0],by simp +decide only[Gz,nA,p1],by simp +decide only[Gz,nA,p2],by simp +decide only[Gz,nA,p6],by simp +decide only[Gz,nA,p7],kd,k,a',⟨hkd.1,hkd.2.1,k0,by omega⟩,a1',a2',G.eu hM7 d3 d4 d5⟩
  ·have dc2:decide (c=2)=false:=by simpa using q2
   refine Vwz (Z7 nA p0 p7 p17 @dc0 @dc1 @dc2) ?_;exact⟨rfl,by simp +decide only[Gz,nA],by simp +decide only[Gz,dA],by simp +decide only[Gz,nA,p0],by simp +decide only[Gz,nA,p1],by simp +decide only[Gz,nA,p2],by simp +decide only[Gz,nA,p6],by simp +decide only[Gz,nA,p7],kd,0,a6,hkd,Int.le_refl _,by omega,G6⟩
 clear nA dA p0 p1 p2 p6 p7 p17 G5 G6 c6;rintro ex A g ⟨rfl,nA,dA,p0,p1,p2,p6,p7,kk,mm,a7,hkm,a71,a72,G7⟩;simp only;obtain⟨nf8,v8,h8,c8,b8,rfl,m8,a8,S8,a81,a82⟩:=PM hI95 hMS G7.mod.fit G7.sto (by omega) hbs 3 (by decide) (E:=E);have G8:=G7.draw m8 S8 hMS d1 d2 d3
 repeat' (with_reducible apply Wc.seq)
 refine Wc.dt nf8 (by (repeat ((with_reducible apply Rr rfl);focus ((try simp +decide only[Oz,nA,p0,c8]);with_reducible rfl)));with_reducible exact Rn) ?_;refine Wc.forget (fun A=>A.n=81/\A.defers=[]/\A.get 0=.pointer (some (own kS))/\A.get 1=.pointer (some (own kL))/\A.get 2=.int .i64 (deep:Nat)/\A.get 6=.pointer (some (own k6))/\A.get 7=.pointer (some (own k7))/\A.get 37=.bool b8) ⟨by simp +decide only[Gz,nA],by simp +decide only[Gz,dA],by simp +decide only[Gz,nA,p0],by simp +decide only[Gz,nA,p1],by simp +decide only[Gz,nA,p2],by simp +decide only[Gz,nA,p6],by simp +decide only[Gz,nA,p7],by simp +decide only[Gz,nA]⟩ ?_;clear nA dA p0 p1 p2 p6 p7 c8 G7;rintro A ⟨nA,dA,p0,p1,p2,p6,p7,p37⟩;refine Wc.mono (Q:=fun ex A g=>ex=.normal/\A.n=81/\A.defers=[]/\A.get 0=.pointer (some (own kS))/\A.get 1=.pointer (some (own kL))/\A.get 2=.int .i64 (deep:Nat)/\A.get 6=.pointer (some (own k6))/\A.get 7=.pointer (some (own k7))/\∃ tx a',tx.data.toList.length<=5/\a8<=a'/\a'<=a8+11/\Gr M' h kS kL k6 k7 bv bs g a' (left-1) [.int .i64 kk,.int .i64 mm,.string tx,.slice none 0 0]) ?_ ?_
 ·cases b8 with
  | false=>
   refine Vwz (Z2 nA p37) ?_;exact⟨rfl,by simp +decide only[Gz,nA],by simp +decide only[Gz,dA],by simp +decide only[Gz,nA,p0],by simp +decide only[Gz,nA,p1],by simp +decide only[Gz,nA,p2],by simp +decide only[Gz,nA,p6],by simp +decide only[Gz,nA,p7],⟨#[]⟩,a8,by decide,Int.le_refl _,by omega,G8⟩
  | true=>
   obtain⟨nf9,v9,h9,c9,N,rfl,N0,N1,m9,a9,S9,a91,a92⟩:=Tx hI93 hMS G8.mod.fit G8.sto (by omega) hbs 1 5 (by decide) (by decide) (by decide) (E:=E);have G9:=G8.draw m9 S9 hMS d1 d2 d3;obtain⟨N,rfl⟩:∃ n:Nat,N=(n:Nat):=⟨N.toNat,by omega⟩;have key:∀ (r i:Nat) (tx:ByteArray) (a':Int) (A:Ac) (g:H),r=N-i->i<=N->A.n=81->A.defers=[]->A.get 0=.pointer (some (own kS))->A.get 1=.pointer (some (own kL))->A.get 2=.int .i64 (deep:Nat)->A.get 6=.pointer (some (own k6))->A.get 7=.pointer (some (own k7))->A.get 39=.int .i64 (N:Nat)->A.get 40=.int .i64 (i:Nat)->tx.data.toList.length=i->a9<=a'->a'<=a9+2*i->Gr M' h kS kL k6 k7 bv bs g a' (left-1) [.int .i64 kk,.int .i64 mm,.string tx,.slice none 0 0]->
     Wc tab E I ⟨60,none⟩ (.loop N8) A g (fun ex A g=>ex=.exit 1/\A.n=81/\A.defers=[]/\A.get 0=.pointer (some (own kS))/\A.get 1=.pointer (some (own kL))/\A.get 2=.int .i64 (deep:Nat)/\A.get 6=.pointer (some (own k6))/\A.get 7=.pointer (some (own k7))/\∃ tx a',tx.data.toList.length<=5/\a9<=a'/\a'<=a9+10/\Gr M' h kS kL k6 k7 bv bs g a' (left-1) [.int .i64 kk,.int .i64 mm,.string tx,.slice none 0 0]):=by
    intro r;induction r with
    | zero=>
     intro i tx a' A g hr' hi nA dA p0 p1 p2 p6 p7 p39 p40 htx ha1 ha2 G;have hlt:decide ((i:Int)<(N:Int))=false:=by simp;omega
     apply Wc.loop;simp only[N8,loopAt,loops,List.getD,Option.getD,Tryz.f60,E1,W0,V0,X0,N2];refine Vwz (Z6 nA p0 p7 p39 p40 @hlt) ?_;exact⟨rfl,by simp +decide only[Gz,nA],by simp +decide only[Gz,dA],by simp +decide only[Gz,nA,p0],by simp +decide only[Gz,nA,p1],by simp +decide only[Gz,nA,p2],by simp +decide only[Gz,nA,p6],by simp +decide only[Gz,nA,p7],tx,a',by omega,ha1,by omega,G⟩
    | succ r ih=>
     intro i tx a' A g hr' hi nA dA p0 p1 p2 p6 p7 p39 p40 htx ha1 ha2 G;have hlt:decide ((i:Int)<(N:Int))=true:=by simp;omega
     have lg:kS<g.next:=by obtain⟨_,e1,_⟩:=G.sto;exact G.mod.fit.lt e1
     have lg7:=G.mod.fit.lt G.b7;obtain⟨nf1,v1,q1,cc1,e1,rfl,e10,e11,mq1,b1,SS1,b11,b12⟩:=It hI94 hMS G.mod.fit.fresh G.sto.fresh (by omega) hbs 256 (by decide) (E:=E);obtain⟨mg1,sb1,nn1,lq1⟩:=mq1.back G.mod.fit;have G1:=G.draw mg1 (SS1.same sb1) hMS d1 d2 d3;generalize hg1:back g q1=g1 at mg1 sb1 nn1 G1;generalize hB:(Blk.cells [.int .i64 97,.int .i64 98,.int .i64 34,.int .i64 92,.int .i64 32,.int .i64 126,.int .i64 0,.int .i64 255,.int .i64 127,.int .i64 10,.int .i64 e1] 3 none)=B;have aB:Ahd g1 (g1.new B):=by rw[<- hB];exact Ahd.aj G1.mod.fit rfl
     have bB:(g1.new B).blk g1.next=some (.cells [.int .i64 97,.int .i64 98,.int .i64 34,.int .i64 92,.int .i64 32,.int .i64 126,.int .i64 0,.int .i64 255,.int .i64 127,.int .i64 10,.int .i64 e1] 3 none):=by rw[<- hB];exact AA rfl
     have hbs11:=AAK e1 (h:=fresh g1);rw[hB] at hbs11;have G2:=G1.ahd aB;have lg1:g.next<=g1.next:=mg1.next;have ng2:(g1.new B).next=g1.next+1:=rfl;generalize hg2:g1.new B=g2 at aB bB G2 ng2;obtain⟨nf3,v3,q3,cc3,i3,rfl,i30,i31,mq3,b3,SS3,b31,b32⟩:=It hI94 hMS G2.mod.fit.fresh G2.sto.fresh (by omega) hbs 11 (by decide) (E:=E);obtain⟨mg3,sb3,nn3,lq3⟩:=mq3.back G2.mod.fit;have G3:=G2.draw mg3 (SS3.same sb3) hMS d1 d2 d3;have bB3:=mg3.blk _ _ (by omega) bB;generalize hg3:back g2 q3=g3 at mg3 sb3 nn3 G3 bB3;obtain⟨j,rfl⟩:∃ j:Nat,i3=(j:Nat):=⟨i3.toNat,by omega⟩;obtain⟨mj,hmj⟩:=ABs e1 j (by omega);have hir:AN (j:Int) 11=true:=by
      show Nat.blt j 11=true;rw[P0];omega
     have lj:(fresh g3).cell E (aadd (own g1.next) (j*1))=some (.int .i64 mj):=AS (h:=fresh g3) bB3 (by rw[V2];exact hmj) rfl;generalize hg4:g3.new (.cells [.int .u8 (IntKind.u8.wrap mj)] 5 none)=g4;have a4:Ahd g3 g4:=by rw[<- hg4];exact Ahd.aj G3.mod.fit rfl
     have b4:g4.blk g3.next=some (.cells [.int .u8 (IntKind.u8.wrap mj)] 5 none):=by rw[<- hg4];exact AA rfl
     have G4:=G3.ahd a4;have cv:=AB8 (E:=E) (h:=fresh g4) b4;generalize UInt8.ofNat (IntKind.u8.wrap mj).toNat=xb at cv;have hastr:astr .add tx.data.toList [xb]=some (.string ⟨⟨tx.data.toList++[xb]⟩⟩):=by
      unfold astr;simp only;rw[show Nat.ble (tx.data.toList.length+[xb].length) 70368744177664=true from by rw[Z0];simp only[I1,H4];omega]
     have st:=Vc (g:=fresh g4) (s:=⟨⟨tx.data.toList++[xb]⟩⟩) G4.b7;have ltx:(fresh g).cell E (aadd (own k7) 2)=some (.string tx):=AS (h:=fresh g) (i:=2) G.b7 rfl rfl;have hf1:(fresh g1).next=g1.next:=rfl;have hf3:(fresh g3).next=g3.next:=rfl;have lg4:k7<g4.next:=G4.mod.fit.lt G4.b7;have cc1:=(AX I (E4 nf1 nf3)).call cc1;have cc3:=(AX I (C4 nf1 nf3)).call cc3;apply Wc.loop;simp only[N8,loopAt,loops,List.getD,Option.getD,Tryz.f60,E1,W0,V0,X0,N2];refine Vwz (Z6 nA p0 p7 p39 p40 @hlt) ?_;refine Wc.forget (fun A=>A.n=81/\A.defers=[]/\A.get 0=.pointer (some (own kS))/\A.get 1=.pointer (some (own kL))/\A.get 2=.int .i64 (deep:Nat)/\A.get 6=.pointer (some (own k6))/\A.get 7=.pointer (some (own k7))/\A.get 39=.int .i64 (N:Nat)/\A.get 40=.int .i64 (i:Nat)) ⟨by simp +decide only[Gz,nA],by simp +decide only[Gz,dA],by simp +decide only[Gz,nA,p0],by simp +decide only[Gz,nA,p1],by simp +decide only[Gz,nA,p2],by simp +decide only[Gz,nA,p6],by simp +decide only[Gz,nA,p7],by simp +decide only[Gz,nA,p39],by simp +decide only[Gz,nA,p40]⟩ ?_;clear nA dA p0 p1 p2 p6 p7 p39 p40;rintro A ⟨nA,dA,p0,p1,p2,p6,p7,p39,p40⟩;refine Wc.ao (max nf1 nf3) (by kernel_rfl) ?_
     (iterate 3 refine Ugz (Z6 nA p0 p7 @GZ @ld9 @ltx) ?_)
     refine FQ.mod (h1:=q1) (x:=.int .i64 e1) rfl rfl (by simp +decide only[Oz,nA,p0,cc1]) ?_;rw[hg1];refine FQ.new (x:=.slice (some (own g1.next)) 11 11) (B:=B) rfl rfl (by simp +decide only[Oz,nA,hbs11,hf1]) ?_;rw[hg2]
     (iterate 1 refine Ugz (Z2 nA p0) ?_)
     refine FQ.mod (h1:=q3) (x:=.int .i64 (j:Nat)) rfl rfl (by simp +decide only[Oz,nA,p0,cc3]) ?_;rw[hg3]
     (iterate 3 refine Ugz (Z6 nA (fun a c=>AAY a _ c _ hir) @M0 @ld3 @lj @AEZ) ?_)
     refine FQ.new (x:=.slice (some (own g3.next)) 1 1) (B:=.cells [.int .u8 (IntKind.u8.wrap mj)] 5 none) rfl rfl (by simp +decide only[Oz,nA,ACE,hf3]) ?_;rw[hg4]
     (iterate 3 refine Ugz (Z5 nA @cv @hastr p7 @GZ) ?_)
     refine FQ.aa (k:=k7) rfl rfl lg4 (by simp +decide only[Oz,nA,st];with_reducible rfl) ?_;refine FQ.nil ⟨?_,?_⟩
     ·refine Fh [3,6,14] (fun ii e hi hs => ?_) (fun ii jj ss tt hij hs h1 h2 ho => ?_)
      ·have hi15:ii<15:=(O0.1 hi).1;obtain rfl|rfl|rfl|rfl|rfl|rfl|rfl|rfl|rfl|rfl|rfl|rfl|rfl|rfl|rfl:ii=0\/ii=1\/ii=2\/ii=3\/ii=4\/ii=5\/ii=6\/ii=7\/ii=8\/ii=9\/ii=10\/ii=11\/ii=12\/ii=13\/ii=14:=by omega
       all_goals first
        | (cases hi;rfl)
        | (cases hs;done)
      ·have hj15:jj<15:=(O0.1 h2).1;have hU:=Km (n:=15) (S:=[3,6,14]) (U:=[(0,3),(1,3),(3,5),(0,6),(1,6),(4,6)]) (by kernel_rfl) hij hj15 hs ho;simp only[O1,Prod.mk.injEq,C1,or_false] at hU;have w1:∀ k,k∈q1.log->k=kS:=fun k hk=>(lq1 k hk).1;have w3:∀ k,k∈q3.log->k=kS:=fun k hk=>(lq3 k hk).1;rcases hU with⟨rfl,rfl⟩|⟨rfl,rfl⟩|⟨rfl,rfl⟩|⟨rfl,rfl⟩|⟨rfl,rfl⟩|⟨rfl,rfl⟩
       ·cases h1;cases h2;exact AK (l:=[]) rfl rfl (fun k _=>by simp) rfl (fun k hk=>.inl (by rw[w1 k hk];exact lg))
       ·cases h1;cases h2;exact AK (l:=[k7]) rfl (by simp +decide only[Oz,reads,pureOp,atV,nA,p7,aadd,own]) (fun k hk=>by rw[w1 k hk];simpa using fun e=>d3 e.symm) rfl (fun k hk=>.inl (by rw[w1 k hk];exact lg))
       ·cases h1;cases h2;exact HI (l:=[]) rfl rfl (fun k _=>by simp) rfl
       ·cases h1;cases h2;exact AK (l:=[]) rfl rfl (fun k _=>by simp) rfl (fun k hk=>.inl (by rw[w3 k hk];exact lg))
       ·cases h1;cases h2;exact AK (l:=[k7]) rfl (by simp +decide only[Oz,reads,pureOp,atV,nA,p7,aadd,own]) (fun k hk=>by rw[w3 k hk];simpa using fun e=>d3 e.symm) rfl (fun k hk=>.inl (by rw[w3 k hk];exact lg))
       ·cases h1;cases h2;exact AK (l:=[]) rfl rfl (fun k _=>by simp) rfl (fun k hk=>.inl (by rw[w3 k hk];show kS<g1.next;omega))
     have w4:IntKind.i64.wrap ((i:Int)+1)=(i:Int)+1:=wrap64 (by omega) (by omega);refine Vwz (Z3 nA p40 @w4) ?_;refine (ih (i+1) ⟨⟨tx.data.toList++[xb]⟩⟩ b3 _ _ (by omega) (by omega) ?_ ?_ ?_ ?_ ?_ ?_ ?_ ?_ ?_ (by simp[htx]) (by omega) (by omega) (G4.eu hM7 d3 d4 d5)).mono ?_
     ·simp +decide only[Gz,nA]
     ·simp +decide only[Gz,dA]
     ·simp +decide only[Gz,nA,p0]
     ·simp +decide only[Gz,nA,p1]
     ·simp +decide only[Gz,nA,p2]
     ·simp +decide only[Gz,nA,p6]
     ·simp +decide only[Gz,nA,p7]
     ·simp +decide only[Gz,nA,p39]
     ·simp +decide only[Gz,nA];rfl
     ·rintro ex A g ⟨rfl,e⟩;exact⟨rfl,e⟩
   refine Vnz nf9 (Z4 nA p0 p37 @c9) ?_;refine (key N 0 ⟨#[]⟩ a9 _ h9 rfl (C2 _) ?_ ?_ ?_ ?_ ?_ ?_ ?_ ?_ ?_ rfl (Int.le_refl _) (by omega) G9).mono ?_
   ·simp +decide only[Gz,nA]
   ·simp +decide only[Gz,dA]
   ·simp +decide only[Gz,nA,p0]
   ·simp +decide only[Gz,nA,p1]
   ·simp +decide only[Gz,nA,p2]
   ·simp +decide only[Gz,nA,p6]
   ·simp +decide only[Gz,nA,p7]
   ·simp +decide only[Gz,nA]
   ·simp +decide only[Gz,nA];rfl
   ·rintro ex A g ⟨rfl,e1,e2,e3,e4,e5,e6,e7,tx,a',e8,e9,e10,G⟩;simp only[if_true];exact⟨trivial,e1,e2,e3,e4,e5,e6,e7,tx,a',e8,by omega,by omega,G⟩
 clear nA dA p0 p1 p2 p6 p7 p37 G8;rintro ex A g ⟨rfl,nA,dA,p0,p1,p2,p6,p7,tx,a9,htx,a91,a92,G9⟩;simp only;have hpl:∀ {g:H} {a':Int} {left':Nat} {X:List Value},Gr M' h kS kL k6 k7 bv bs g a' left' X->∀ k B,(k=kS\/k=kL)->g.blk k=some B->B.plain=true:=by
  intro g a' left' X G k B hk hb;rcases hk with rfl|rfl
  ·obtain⟨_,e1,_⟩:=G.sto;rw[e1] at hb;cases hb;rfl
  ·rw[G.bL] at hb;cases hb;rfl
 have hpl7:∀ {g:H} {a':Int} {left':Nat} {X:List Value},Gr M' h kS kL k6 k7 bv bs g a' left' X->∀ k B,k=k7->g.blk k=some B->B.plain=true:=by
  intro g a' left' X G k B hk hb;subst hk;rw[G.b7] at hb;cases hb;rfl
 have stop:∀ (ks:List Hs.Item) (xs:List Value) (sl:Value) (ro:Option Nat) (left':Nat) (a':Int) (A:Ac) (g:H),(deep=0\/left'=0)->A.n=81->A.defers=[]->A.get 0=.pointer (some (own kS))->A.get 1=.pointer (some (own kL))->A.get 2=.int .i64 (deep:Nat)->A.get 6=.pointer (some (own k6))->A.get 7=.pointer (some (own k7))->
   Gr M' h kS kL k6 k7 bv bs g a' left' [.int .i64 kk,.int .i64 mm,.string tx,sl]->Ap2 g k6 24 4 sl ks.length xs ro->Es E (only (fun r=>Nat.ble k6 r && !(ro == some r)) g) ks xs->smlL ks->lvlL ks 0<=deep->left'+iszL ks=left-1->a9<=a'->a'<=a9+21*iszL ks->
   Wc tab E I ⟨60,none⟩ (.loop Kr) A g (fun ex A g=>ex=.exit 3/\A.n=81/\A.defers=[]/\A.get 6=.pointer (some (own k6))/\A.get 7=.pointer (some (own k7))/\∃ ks xs sl ro left' a',Gr M' h kS kL k6 k7 bv bs g a' left' [.int .i64 kk,.int .i64 mm,.string tx,sl]/\Ap2 g k6 24 4 sl ks.length xs ro/\Es E (only (fun r=>Nat.ble k6 r && !(ro == some r)) g) ks xs/\smlL ks/\lvlL ks 0<=deep/\left'+iszL ks=left-1/\a9<=a'/\a'<=a9+21*iszL ks+1):=by
  intro ks xs sl ro left' a' A g h0 nA dA p0 p1 p2 p6 p7 G ap hrx hgd hlv hsz ha1 ha2;have lL:g.cell E (own kL)=some (.int .i64 (left':Nat)):=Bp G.bL rfl;apply Wc.loop;simp only[Kr,loopAt,loops,List.getD,Option.getD,Tryz.f60,E1,W0,V0,X0,N2,E2];by_cases hd:deep=0
  ·have hd0:decide ((deep:Int)>0)=false:=by simp;omega
   refine VWz (Z5 nA p0 p1 p2 @hd0) ?_;exact⟨rfl,by simp +decide only[Gz,nA],by simp +decide only[Gz,dA],by simp +decide only[Gz,nA,p6],by simp +decide only[Gz,nA,p7],ks,xs,sl,ro,left',a',G,ap,hrx,hgd,hlv,hsz,ha1,by omega⟩
  ·have hd0:decide ((deep:Int)>0)=true:=by simp;omega
   have hl0:decide ((left':Int)>0)=false:=by
    rcases h0 with h0|h0
    ·exact absurd h0 hd
    ·subst h0;rfl
   refine VWz (Z8 nA p0 p1 p2 @hd0 @ld3 @lL @hl0) ?_;exact⟨rfl,by simp +decide only[Gz,nA],by simp +decide only[Gz,dA],by simp +decide only[Gz,nA,p6],by simp +decide only[Gz,nA,p7],ks,xs,sl,ro,left',a',G,ap,hrx,hgd,hlv,hsz,ha1,by omega⟩
 have key:∀ (r:Nat) (ks:List Hs.Item) (xs:List Value) (sl:Value) (ro:Option Nat) (left':Nat) (a':Int) (A:Ac) (g:H),left'<=r->A.n=81->A.defers=[]->A.get 0=.pointer (some (own kS))->A.get 1=.pointer (some (own kL))->A.get 2=.int .i64 (deep:Nat)->A.get 6=.pointer (some (own k6))->A.get 7=.pointer (some (own k7))->
   Gr M' h kS kL k6 k7 bv bs g a' left' [.int .i64 kk,.int .i64 mm,.string tx,sl]->Ap2 g k6 24 4 sl ks.length xs ro->Es E (only (fun r=>Nat.ble k6 r && !(ro == some r)) g) ks xs->smlL ks->lvlL ks 0<=deep->left'+iszL ks=left-1->a9<=a'->a'<=a9+21*iszL ks->
   Wc tab E I ⟨60,none⟩ (.loop Kr) A g (fun ex A g=>ex=.exit 3/\A.n=81/\A.defers=[]/\A.get 6=.pointer (some (own k6))/\A.get 7=.pointer (some (own k7))/\∃ ks xs sl ro left' a',Gr M' h kS kL k6 k7 bv bs g a' left' [.int .i64 kk,.int .i64 mm,.string tx,sl]/\Ap2 g k6 24 4 sl ks.length xs ro/\Es E (only (fun r=>Nat.ble k6 r && !(ro == some r)) g) ks xs/\smlL ks/\lvlL ks 0<=deep/\left'+iszL ks=left-1/\a9<=a'/\a'<=a9+21*iszL ks+1):=by
  intro r;induction r with
  | zero=>
   intro ks xs sl ro left' a' A g hr nA dA p0 p1 p2 p6 p7 G ap hrx hgd hlv hsz ha1 ha2;obtain rfl:left'=0:=by omega
   exact stop ks xs sl ro 0 a' A g (.inr rfl) nA dA p0 p1 p2 p6 p7 G ap hrx hgd hlv hsz ha1 ha2
  | succ r ih=>
  intro ks xs sl ro left' a' A g hr nA dA p0 p1 p2 p6 p7 G ap hrx hgd hlv hsz ha1 ha2;by_cases h0:deep=0\/left'=0
  ·exact stop ks xs sl ro left' a' A g h0 nA dA p0 p1 p2 p6 p7 G ap hrx hgd hlv hsz ha1 ha2
  have hd0:decide ((deep:Int)>0)=true:=by simp;omega
  have hl0:decide ((left':Int)>0)=true:=by simp;omega
  have lL:g.cell E (own kL)=some (.int .i64 (left':Nat)):=Bp G.bL rfl;obtain⟨nf,v,g1,cc,b,rfl,m1,b1,S1,b11,b12⟩:=PM hI95 hMS G.mod.fit G.sto (by omega) hbs 3 (by decide) (E:=E);have G1:=G.draw m1 S1 hMS d1 d2 d3;have hplS:∀ k B,k=kS->g.blk k=some B->B.plain=true:=fun k B hk hb=>hpl G k B (.inl hk) hb;have ap1:=ap.mod m1 hplS;have hrx1:=BR (Dv (q:=fun r=>Nat.ble k6 r && !(ro == some r)) G.mod.fit m1 hplS (fun r h=>h)) hrx;apply Wc.loop;simp only[Kr,loopAt,loops,List.getD,Option.getD,Tryz.f60,E1,W0,V0,X0,N2,E2];cases b with
  | true=>
   refine VNz nf (Z9 nA p0 p1 p2 @hd0 @ld3 @lL @hl0 @cc) ?_;exact⟨rfl,by simp +decide only[Gz,nA],by simp +decide only[Gz,dA],by simp +decide only[Gz,nA,p6],by simp +decide only[Gz,nA,p7],ks,xs,sl,ro,left',b1,G1,ap1,hrx1,hgd,hlv,hsz,by omega,by omega⟩
  | false=>
   refine VNz nf (Z9 nA p0 p1 p2 @hd0 @ld3 @lL @hl0 @cc) ?_;refine Wc.forget (fun A=>A.n=81/\A.defers=[]/\A.get 0=.pointer (some (own kS))/\A.get 1=.pointer (some (own kL))/\A.get 2=.int .i64 (deep:Nat)/\A.get 6=.pointer (some (own k6))/\A.get 7=.pointer (some (own k7))) ⟨by simp +decide only[Gz,nA],by simp +decide only[Gz,dA],by simp +decide only[Gz,nA,p0],by simp +decide only[Gz,nA,p1],by simp +decide only[Gz,nA,p2],by simp +decide only[Gz,nA,p6],by simp +decide only[Gz,nA,p7]⟩ ?_;clear nA dA p0 p1 p2 p6 p7 cc;rintro A ⟨nA,dA,p0,p1,p2,p6,p7⟩;have lg1:kS<g1.next:=by obtain⟨_,e1,_⟩:=G1.sto;exact G1.mod.fit.lt e1
   have lg1L:=G1.mod.fit.lt G1.bL;have Sd:Sto (fun k=>k=kS\/k=kL) kS bv bs (fresh g1) b1:=(G1.sto.up G1.mod.fit (fun k hk=>by rcases hk with h1|h1<;>simp[h1,hMS,hML])).fresh;obtain⟨nfk,vk,q,ck,t,bk,leftk,mq,rq,gt,lvt,szt,Sq,bLq,bk1,bk2⟩:=IH (deep-1) (by omega) (fresh g1) b1 left' (by omega) (by omega) (by omega) (by omega) G1.mod.fit.fresh Sd G1.bL;have hzt:=HK t;have wd:IntKind.i64.wrap ((deep:Int)-1)=((deep-1:Nat):Int):=by rw[wrap64 (by omega) (by omega)];omega
   obtain⟨mg2,sb2,nn2,lq2⟩:=mq.back G1.mod.fit;have R2:rep E (only (fun r=>Nat.ble g1.next r) (back g1 q)) t vk:=AJ (FK G1.mod.fit mq.fit mq.next _) rq;have G2:Gr M' h kS kL k6 k7 bv bs (back g1 q) bk leftk [.int .i64 kk,.int .i64 mm,.string tx,sl]:=by
    have mT:=G1.mod.trans (mg2.sub hup');obtain⟨seed,e1,e2,e3,_,e5⟩:=Sq;exact⟨mT,⟨seed,by rw[sb2];exact e1,e2,e3,hBt0.mod mT (fun _ h=>h),e5⟩,by rw[sb2];exact bLq,mg2.blk _ _ (by omega) G1.b6,mg2.blk _ _ (by omega) G1.b7⟩
   have ap2':=ap1.mod mg2 (hpl G1);have hrx2:=BR (Dv (q:=fun r=>Nat.ble k6 r && !(ro == some r)) G1.mod.fit mg2 (hpl G1) (fun r h=>h)) hrx1;have ln2:=mg2.next;generalize hg2:back g1 q=g2 at mg2 sb2 nn2 R2 G2 ap2' hrx2 ln2;obtain⟨va,vb,vc,vd,rfl,hone⟩:∃ a b c d,vk=.agg ⟨[a,b,c,d]⟩/\[a,b,c,d].all isOne=true:=by
    obtain⟨k',m',tx',ks'⟩:=t;obtain⟨sb',sc',rfl,_⟩:=Ao R2;exact⟨_,_,_,_,rfl,rfl⟩
   have hbs:=AGk va vb vc vd hone (h:=fresh g2);generalize hB3:(Blk.cells [va,vb,vc,vd] 24 none)=B3 at hbs;have a3:Ahd g2 (g2.new B3):=by rw[<- hB3];exact Ahd.aj G2.mod.fit rfl
   have hx3:(fresh (g2.new B3)).cells E (own g2.next) 4=some [va,vb,vc,vd]:=by
    have hb:(fresh (g2.new B3)).blk g2.next=some (.cells [va,vb,vc,vd] 24 none):=by
     show (g2.new B3).blk g2.next=_;rw[<- hB3];exact AA rfl
    exact AG hb rfl hone
   have n3:(g2.new B3).next=g2.next+1:=rfl;generalize hg3:g2.new B3=g3 at a3 hx3 n3;have G3:=G2.ahd a3;have ap3:=ap2'.mod (M:=fun _=>False) a3.mod (fun _ _ h=>h.elim);have hrx3:=BR (GV (q:=fun r=>Nat.ble k6 r && !(ro == some r)) G2.mod.fit a3 (fun r h=>h)) hrx2;have R3:=AJ (GV (q:=fun r=>Nat.ble g1.next r) G2.mod.fit a3 (fun r h=>h)) R2;have hro:∀ r,ro=some r->k6<=r/\r<g1.next:=by
    intro r hr;rcases ap1 with ap|⟨kz,rr,_,_,_,_,e5,e6,_,e8⟩
    ·rw[ap.2.2.2] at hr;cases hr
    ·rw[e8] at hr;cases hr;exact⟨e5,e6⟩
   have hklen:=LC ks;have hrm:roomy (ks.length+1) 56=true:=by
    unfold roomy;simp only[K0,Z0];omega
   have lk6:k6<=g3.next:=by have:=G3.mod.next;omega
   obtain⟨s',q4,ro',happ,ap4,gw,hroo⟩:=XE (E:=E) (t2:=22) (c:=1) G3.mod.fit.fresh (show k6<=(fresh g3).next from lk6) (show Ap2 (fresh g3) k6 24 4 sl ks.length xs ro from ap3) Xz tz25 rfl (AFK _ _ _) hx3 rfl hone hrm;have hl4:q4.log=[]:=gw.log;have G4:=G3.df hfit hk6 gw (fun r hr=>(hro r hr).1) hBt0;have hro':∀ r,r<g3.next->(ro == some r)=false->(ro' == some r)=false:=by
    intro r h2 h3;rcases hroo with⟨e1,e2⟩|⟨e1,e2⟩
    ·rw[e2];have:(fresh g3).next≠r:=by show g3.next≠r;omega
     simpa using this
    ·rw[e2];exact h3
   have grow4:∀ (p:Nat->Bool),(∀ r,p r=true->Nat.ble k6 r=true/\(ro == some r)=false)->BL (only p g3) (only (fun r=>Nat.ble k6 r && !(ro' == some r)) q4):=by
    intro p hp kx B hb;obtain⟨e1,ys,ty,r,o,rfl,e2⟩:=(BN G3.mod.fit).1 hb;have hrl:=G3.mod.fit.ok.1 _ _ _ _ _ (H.ae e1);obtain⟨e3,e4⟩:=hp r e2;refine (BN gw.fit).2 ⟨gw.keep kx (.cells ys ty (some (r,o))) e1 ?_,ys,ty,r,o,rfl,?_⟩
    ·rintro _ _ _ _ he hr;cases he;rw[hr] at e4;simp at e4
    ·simp only[K0,C3];exact⟨e3,hro' r hrl e4⟩
   have hrx4:=BR (FK G3.mod.fit gw.fit gw.next _) (BR (grow4 _ (fun r hr=>by simpa using hr)) hrx3)
   have R4:=AJ (FK G3.mod.fit gw.fit gw.next _) (AJ (grow4 _ (fun r hr=>by
    rw[Z0] at hr;refine⟨by rw[Z0];have:=G1.mod.next;omega,?_⟩;cases hh:ro with
    | none=>rfl
    | some r0=>
     have:=(hro r0 hh).2;have hne:r0≠r:=by omega
     simpa using hne)) R3)
   have ap5:=ap4.back (h:=g3);obtain⟨k4,hs4⟩:∃ k4,s'=.slice (some (own k4)) (ks.length+1) (ks.length+1):=by
    rcases ap4 with ap|⟨kz,_,e1,_⟩
    ·omega
    ·exact⟨kz,e1⟩
   generalize hg4:back g3 q4=g4 at G4 hrx4 R4 ap5;have st:=SJ (g:=fresh g4) (b:=some (own k4)) (n:=ks.length+1) (c:=ks.length+1) G4.b7;rw[<- hs4] at st;have lg7:k7<g4.next:=G4.mod.fit.lt G4.b7;have m5:Mod (fun k=>k=k7) g4 (g4.aa k7 (.cells [.int .i64 kk,.int .i64 mm,.string tx,s'] 24 none)):=(Mod.refl G4.mod.fit).aa rfl rfl lg7;have lsl:(fresh g1).cell E (aadd (own k7) 3)=some sl:=by
    refine AS (h:=fresh g1) (i:=3) G1.b7 rfl ?_;rcases ap1 with ap|⟨_,_,e1,_⟩
    ·rw[ap.2.2.1];rfl
    ·rw[e1];rfl
   have hf2:(fresh g2).next=g2.next:=rfl;refine Wc.ao nfk (by kernel_rfl) ?_
   (iterate 6 refine Ugz (Z9 nA p0 p1 p2 p7 @EL @ld23 @lsl @wd) ?_)
   refine FQ.mod (h1:=q) (x:=.agg ⟨[va,vb,vc,vd]⟩) rfl rfl (by simp +decide only[Oz,nA,p0,p1,ck]) ?_;rw[hg2];refine FQ.new (x:=.slice (some (own g2.next)) 1 1) (B:=B3) rfl rfl (by simp +decide only[Oz,nA,hbs,hf2]) ?_;rw[hg3];refine FQ.call (h1:=q4) (x:=s') rfl rfl (by simp +decide only[Oz,nA,happ]) hl4 ?_;rw[hg4]
   (iterate 1 refine Ugz (Z3 nA p7 @EL) ?_)
   refine FQ.aa (k:=k7) rfl rfl lg7 (by simp +decide only[Oz,nA,st];with_reducible rfl) ?_;refine FQ.nil ⟨?_,?_⟩
   ·refine Fh [6,10] (fun ii e hi hs => ?_) (fun ii jj ss tt hij hs h1 h2 ho => ?_)
    ·have hi15:ii<11:=(O0.1 hi).1;obtain rfl|rfl|rfl|rfl|rfl|rfl|rfl|rfl|rfl|rfl|rfl:ii=0\/ii=1\/ii=2\/ii=3\/ii=4\/ii=5\/ii=6\/ii=7\/ii=8\/ii=9\/ii=10:=by omega
     all_goals first
      | (cases hi;rfl)
      | (cases hs;done)
    ·have hj15:jj<11:=(O0.1 h2).1;have hU:=Km (n:=11) (S:=[6,10]) (U:=[(0,6),(1,6)]) (by kernel_rfl) hij hj15 hs ho;simp only[O1,Prod.mk.injEq,C1,or_false] at hU;have w1:∀ k,k∈q.log->(k=kS\/k=kL)/\k<g1.next:=fun k hk=>lq2 k hk;rcases hU with⟨rfl,rfl⟩|⟨rfl,rfl⟩
     ·cases h1;cases h2;exact AK (l:=[]) rfl rfl (fun k _=>by simp) rfl (fun k hk=>.inl (w1 k hk).2)
     ·cases h1;cases h2
      exact AK (l:=[k7]) rfl (by simp +decide only[Oz,reads,pureOp,atV,nA,p7,aadd,own]) (fun k hk=>by
       have:=(w1 k hk).1;have hne:k≠k7:=by omega
       simpa using hne) rfl (fun k hk=>.inl (w1 k hk).2)
   refine (ih (ks++[t]) (xs++[va,vb,vc,vd]) s' ro' leftk bk _ _ (by omega) ?_ ?_ ?_ ?_ ?_ ?_ ?_ (G4.eu hM7 d3 d4 d5) ?_ ?_ (IR hgd gt) ?_ ?_ (by omega) ?_).mono ?_
   ·simp +decide only[Gz,nA]
   ·simp +decide only[Gz,dA]
   ·simp +decide only[Gz,nA,p0]
   ·simp +decide only[Gz,nA,p1]
   ·simp +decide only[Gz,nA,p2]
   ·simp +decide only[Gz,nA,p6]
   ·simp +decide only[Gz,nA,p7]
   ·rw[D0];exact ap5.mod m5 (hpl7 G4)
   ·exact BR (Dv (q:=fun r=>Nat.ble k6 r && !(ro' == some r)) G4.mod.fit m5 (hpl7 G4) (fun r h=>h)) (ET hrx4 R4)
   ·rw[Io];omega
   ·rw[De];omega
   ·rw[De];push_cast;omega
   ·rintro ex A g ⟨rfl,e⟩;exact⟨rfl,e⟩
 repeat' (first|(with_reducible apply Wc.seq)|(refine Wc.block ?_))
 refine (key left [] [] (.slice none 0 0) none (left-1) a9 _ g (by omega) nA dA p0 p1 p2 p6 p7 G9 (.inl ⟨rfl,rfl,rfl,rfl⟩) (by rw[Es]) (by rw[smlL];trivial) (by rw[lvlL];omega) (by rw[iszL];rfl) (Int.le_refl _) (by simp[iszL])).mono ?_;rintro ex A g ⟨rfl,nA,dA,p6,p7,ks,xs,sl,ro,left',a',G,ap,hrx,hgd,hlv,hsz,ha1,ha2⟩;simp only[if_true];have hsl:isOne sl=true:=by
  rcases ap with ap|⟨k,r,e1,_⟩
  ·rw[ap.2.2.1];rfl
  ·rw[e1];rfl
 have hone:[Value.int .i64 kk,.int .i64 mm,.string tx,sl].all isOne=true:=by rw[V3,V3,V3,V3,hsl];rfl
 have l7:g.cells E (own k7) 4=some [.int .i64 kk,.int .i64 mm,.string tx,sl]:=AG G.b7 rfl hone;have st6:=ZD (a:=.int .i64 kk) (b:=.int .i64 mm) (c:=.string tx) (d:=sl) G.b6 hone;have lt6:=G.mod.fit.lt G.b6;generalize hgz:g.aa k6 (.cells [.int .i64 kk,.int .i64 mm,.string tx,sl] 24 none)=gz at st6;have mz:Mod (fun k=>k=k6) g gz:=by rw[<- hgz];exact (Mod.refl G.mod.fit).aa rfl rfl lt6
 have bz:gz.blk k6=some (.cells [.int .i64 kk,.int .i64 mm,.string tx,sl] 24 none):=by rw[<- hgz];exact AD rfl
 have lz:gz.cells E (own k6) 4=some [.int .i64 kk,.int .i64 mm,.string tx,sl]:=AG bz rfl hone;refine Vwz (Z6 nA p6 p7 @MS @l7 @st6) ?_;refine CO (.inr rfl) (S0z dA) rfl (show _=Value.pointer (some (own k6)) by simp +decide only[Gz,nA,p6]) (by rw[MS,lz]) ⟨.mk kk mm tx ks,a',left',?_,?_,?_,?_,?_,?_,?_,?_,?_⟩
 ·exact (G.mod.trans (mz.sub fun k hk=>by rw[hk];exact hMn _ (C0 _))).low hfit (fun k hk=>by rw[hk6];exact hlow k hk)
 ·have hp6:∀ k B,k=k6->g.blk k=some B->B.plain=true:=by
   intro k B hk hb;subst hk;rw[G.b6] at hb;cases hb;rfl
  rw[rep];refine⟨sl,rfl,?_⟩;rcases ap with ap|⟨k,r,q1,q2,q3,q4,q5,q6,q7,q8⟩
  ·exact .inl ⟨O3.1 ap.1,ap.2.2.1⟩
  ·refine .inr ⟨own k,ks.length,xs,q1,⟨C0 _,?_⟩,?_,?_⟩
   ·have:=LC ks;omega
   ·refine AV (Dv (q:=fun r=>Nat.ble k6 r) G.mod.fit mz hp6 (fun r h=>h)) ?_;exact AG ((BN G.mod.fit).2 ⟨q2,_,_,_,_,rfl,by rw[Z0];omega⟩) q3 q4
   ·refine BR (Dv G.mod.fit mz hp6 (fun r hh => ?_)) hrx;simp only[K0,Z0] at hh;rw[Z0];omega
 ·rw[PI];exact⟨hkm.1,hkm.2.1,hkm.2.2.1,hkm.2.2.2,by omega,hgd⟩
 ·rw[Cd];omega
 ·rw[isz];omega
 ·obtain⟨seed,e1,e2,e3,e4,e5⟩:=G.sto;have S':Sto M' kS bv bs gz a':=G.sto.mod mz (fun k hk=>by rw[hk];exact hMn _ (C0 _)) (fun e=>d2 e.symm);exact S'.up mz.fit (fun k hk=>by rcases hk with h1|h1<;>simp[h1,hMS,hML])
 ·exact mz.blk _ _ (by omega) G.bL
 ·omega
 ·rw[isz];push_cast;omega
theorem AGd:tab.fn.get 23=some Tryz.f23:=by kernel_rfl
theorem AGe:tab.fn.get 22=some Tryz.f22:=by kernel_rfl
def Bin (E:Env) (h:H) (sl:Value) (bs:List Int):Prop:=(sl=.slice none 0 0/\bs=[])\/∃ a c,sl=.slice (some a) bs.length c/\bs.length<=c/\h.cells E a bs.length=some (bs.map (Value.int .u8))/\a.spot≠some 0
theorem Bin.grow {h g:H} {sl:Value} {bs:List Int} (b:Bin E h sl bs) (hg:BL h g):Bin E g sl bs:=by
 rcases b with b|⟨a,c,e1,e2,e3,e4⟩
 ·exact .inl b
 ·exact .inr ⟨a,c,e1,e2,AV hg e3,e4⟩
theorem XI:RP tab 44 (.slice none 0 0) (.slice none 0 0)=some true:=by
 unfold RP;rw[SG];rfl
theorem XH (a:Addr) (n c:Nat):RP tab 44 (.slice (some a) n c) (.slice none 0 0)=some false:=by
 unfold RP;rw[SG]
theorem ACF {h:H}:AH tab 44 0 [] h=some (.slice (some (own h.next)) 0 0,h.new (.cells [] 5 none)):=by
 unfold AH;simp only[SG,tz5];rfl
theorem AAI (hI:∀ args h,I 61 args h=none) {h:H} {sl:Value} {bs:List Int} (f:Fit h) (hb:Bin E h sl bs) (hl:bs.length<=1000000) :
  ∃ n v h',(ev tab E I n).call 61 [sl] h=some (v,h')/\(Ahd h h'/\Bts (fun k=>h'.next<=k) h' v bs):=by
 refine Wc.call (hI _ _) ACk rfl ?_;generalize hA0:(⟨T.ofList [sl] 0 .nil,max ([sl]:List Value).length Tryz.f61.ntmps,[]⟩:Ac)=A0;have n0:A0.n=8:=by rw[<- hA0];rfl
 have g00:A0.get 0=sl:=by rw[<- hA0];rfl
 have d0:A0.defers=[]:=by rw[<- hA0]
 rcases hb with⟨rfl,rfl⟩|⟨a,c,rfl,hc,hcs,hs⟩
 ·refine Vwz (Z3 n0 g00 @XI) ?_;exact AW (v:=.slice none 0 0) (.inr rfl) (S0z d0) rfl (S0z n0) ⟨Ahd.refl f,.inl ⟨rfl,rfl⟩⟩
 ·obtain⟨s,h',happ,hcl⟩:=KE (D:=tab) (E:=E) (t:=44) (e:=5) (sz:=1) (by_:=1) (n:=bs.length) (c:=c) (a:=a) f SG tz5 rfl (by rw[V2];exact hcs) (by rw[T5,V2]) (by
   unfold roomy;simp only[K0,Z0];omega)
  obtain⟨k,rt,rfl,hk,hk1,hrt⟩:=hcl.get;refine Vwz (Z5 n0 g00 @XH @ACF @happ) ?_;exact AW (v:=.slice (some (own k)) bs.length bs.length) (.inr rfl) (S0z d0) rfl (S0z n0) ⟨hcl.ahd,.inr ⟨k,_,rt,rfl,hk,by have:=hcl.ahd.fit.lt hk;omega⟩⟩
theorem AAT (n:Nat):Uq (fun x y=>if y<x then y else x) [.int .i64 (n:Nat),.int .i64 300]=some (.int .i64 ((min n 300:Nat):Int)):=by
 simp only[Uq,NK];by_cases q:(300:Int)<(n:Int)
 ·have:min n 300=300:=by omega
  simp[q,this]
 ·have:min n 300=n:=by omega
  simp[q,this]
theorem AEl (b:Option Addr) (n c:Nat):BX tab 95 [(0,.slice b n c),(2,.int .u64 88172645463325252)]=some (.agg ⟨[.slice b n c,.int .i64 0,.int .u64 88172645463325252]⟩):=by
 unfold BX;rw[Va];rfl
theorem AFr (hI:∀ f args h,(f=23\/f=61)->I f args h=none) {h:H} {sl:Value} {bs:List Int} (f:Fit h) (hb:Bin E h sl bs) :
  ∃ n v h',(ev tab E I n).call 23 [sl] h=some (v,h')/\(∃ kS bv,v=.pointer (some (own kS))/\Ahd h h'/\h.next<=kS/\Sto (fun k=>kS<=k) kS bv (bs.take 300) h' 0):=by
 have hb3:∃ sl3,Av tab 44 sl none (some (.int .i64 ((min bs.length 300:Nat):Int))) none h=some (sl3,h)/\Bin E h sl3 (bs.take 300):=by
  rcases hb with⟨rfl,rfl⟩|⟨a,c,rfl,hc,hcs,hs⟩
  ·refine⟨.slice none 0 0,?_,.inl ⟨rfl,rfl⟩⟩;unfold Av;rw[SG];rfl
  ·obtain⟨c',hc',e⟩:=NE (D:=tab) (t:=44) (m:=min bs.length 300) (h:=h) SG (Nat.min_le_left _ _) hc hs;have hlt:(bs.take 300).length=min bs.length 300:=by rw[C5];omega
   refine⟨_,e,.inr ⟨a,c',by rw[hlt],by rw[hlt];exact hc',?_,hs⟩⟩;have:=BD (m:=0) (l:=min bs.length 300) hcs (by omega);rw[DA,F2] at this;rw[hlt,this,List.map_take];congr 1;rw[List.take_eq_take_iff,T5];omega
 obtain⟨sl3,hsl,hb3⟩:=hb3;obtain⟨nf,v,h1,hc,a1,hB⟩:=AAI (E:=E) (I:=I) (fun args h=>hI _ args h (.inr rfl)) f hb3 (by simp;omega);refine Wc.call (hI _ _ _ (.inl rfl)) AGd rfl ?_;generalize hA0:(⟨T.ofList [sl] 0 .nil,max ([sl]:List Value).length Tryz.f23.ntmps,[]⟩:Ac)=A0;have n0:A0.n=11:=by rw[<- hA0];rfl
 have g00:A0.get 0=sl:=by rw[<- hA0];rfl
 have d0:A0.defers=[]:=by rw[<- hA0]
 have hln:Cp tab 44 sl h=some (.int .i64 (bs.length:Nat)):=by
  rcases hb with⟨rfl,rfl⟩|⟨a,c,rfl,_⟩<;>exact WT _ _ _
 obtain⟨vb,vn,vc,rfl⟩:∃ b n c,v=.slice b n c:=by
  rcases hB with⟨rfl,_⟩|⟨k,c,rt,rfl,_⟩<;>exact⟨_,_,_,rfl⟩
 generalize hB2:(Blk.cells (Value.agg ⟨[.slice vb vn vc,.int .i64 0,.int .u64 88172645463325252]⟩).cells.toList 95 none)=B2;have a2:Ahd h1 (h1.new B2):=by rw[<- hB2];exact Ahd.aj a1.fit rfl
 have b2:(h1.new B2).blk h1.next=some (.cells [.slice vb vn vc,.int .i64 0,.int .u64 88172645463325252] 95 none):=by rw[<- hB2];exact AA rfl
 refine Vnz nf (Z8 n0 g00 @hln @AAT @hsl @hc @AEl @hB2) ?_;refine AW (v:=.pointer (some (own h1.next))) (.inr rfl) (S0z d0) rfl (S0z n0) ⟨h1.next,.slice vb vn vc,rfl,a1.trans a2,a1.next,_,b2,by decide,by decide,?_,by decide⟩;exact (hB.mod (M:=fun k=>h1.next<=k) (a2.mod (M:=fun _=>False)) (fun _ h=>h.elim))
theorem Zr (hI:∀ f args h,(f=117\/f=88\/f=87\/f=89\/f=60\/f=22)->I f args h=none) {kS:Nat} {bv:Value} {bs:List Int} {h:H} {a:Int} (hbs:bs.length<=1000000) (deep left:Nat) (hdeep:deep<=100) (hl1:1<=left) (hl2:left<=100) (ha:a+100*left<=100000000) (hfit:Fit h) (S:Sto (fun k=>kS<=k) kS bv bs h a) :
  ∃ n v h',(ev tab E I n).call 22 [.pointer (some (own kS)),.int .i64 (left:Nat),.int .i64 (deep:Nat)] h=some (v,h')/\(∃ t,Mod (fun k=>k=kS) h h'/\rep E (only (fun r=>Nat.ble h.next r) h') t v/\PI t/\Cd t<=(deep:Int)+1/\isz t<=left/\∃ a',Sto (fun k=>kS<=k) kS bv bs h' a'/\a<=a'/\a'<=a+21*isz t):=by
 have lS:kS<h.next:=by obtain⟨_,e1,_⟩:=S;exact hfit.lt e1
 refine Wc.call (hI _ _ _ (by simp)) AGe rfl ?_;generalize hA0:(⟨T.ofList [.pointer (some (own kS)),.int .i64 (left:Nat),.int .i64 (deep:Nat)] 0 .nil,max ([.pointer (some (own kS)),.int .i64 (left:Nat),.int .i64 (deep:Nat)]:List Value).length Tryz.f22.ntmps,[]⟩:Ac)=A0;have n0:A0.n=12:=by rw[<- hA0];rfl
 have g00:A0.get 0=.pointer (some (own kS)):=by rw[<- hA0];rfl
 have g01:A0.get 1=.int .i64 (left:Nat):=by rw[<- hA0];rfl
 have g02:A0.get 2=.int .i64 (deep:Nat):=by rw[<- hA0];rfl
 have d0:A0.defers=[]:=by rw[<- hA0]
 have z3:Ak tab 3=some (.int .i64 0):=tz3;generalize hB1:(Blk.cells (Value.agg #[.int .i64 0,.int .i64 0,.string ⟨#[]⟩,.slice none 0 0]).cells.toList 24 none)=B1;generalize hh1:h.new B1=h1;have a1:Ahd h h1:=by rw[<- hh1,<- hB1];exact Ahd.aj hfit rfl
 have b1:h1.blk h.next=some (.cells [.int .i64 0,.int .i64 0,.string ⟨#[]⟩,.slice none 0 0] 24 none):=by rw[<- hh1,<- hB1];exact AA rfl
 have x1:h1.next=h.next+1:=by rw[<- hh1];rfl
 generalize hB2:(Blk.cells (Value.int .i64 0).cells.toList 3 none)=B2;generalize hh2:h1.new B2=h2;have a2:Ahd h1 h2:=by rw[<- hh2,<- hB2];exact Ahd.aj a1.fit rfl
 have b2:h2.blk h1.next=some (.cells [.int .i64 0] 3 none):=by rw[<- hh2,<- hB2];exact AA rfl
 have x2:h2.next=h1.next+1:=by rw[<- hh2];rfl
 have b1':=a2.grows _ _ b1;have st3:=AEy (i:=(left:Nat)) b2;generalize hh3:h2.aa h1.next (.cells [.int .i64 (left:Nat)] 3 none)=h3 at st3;have m3:Mod (fun k=>k=h1.next) h2 h3:=by rw[<- hh3];exact (Mod.refl a2.fit).aa rfl rfl (by omega)
 have b3:h3.blk h1.next=some (.cells [.int .i64 (left:Nat)] 3 none):=by rw[<- hh3];exact AD rfl
 have b1'':=m3.blk _ _ (by omega) b1';have S3:Sto (fun k=>k=kS\/k=h1.next) kS bv bs h3 a:=((((S.ahd a1).ahd a2).mod m3 (fun k hk=>by omega) (by omega)).up m3.fit (fun k hk=>by omega));obtain⟨nf,v,h4,hc,t,a',left',m4,r4,gd,lv,sz,S4,b4,ha1,ha2⟩:=Zq (E:=E) (I:=I) (fun f args h hf=>hI f args h (by rcases hf with h|h|h|h|h<;>simp[h])) (kS:=kS) (kL:=h1.next) (by omega) hbs deep h3 a left hdeep hl1 hl2 ha m3.fit S3 b3;have b64:=m4.blk _ _ (by omega) b1'';obtain⟨va,vb,vc,vd,rfl,hone⟩:∃ a b c d,v=.agg ⟨[a,b,c,d]⟩/\[a,b,c,d].all isOne=true:=by
  obtain⟨k',m',tx',ks'⟩:=t;obtain⟨sb',sc',rfl,_⟩:=Ao r4;exact⟨_,_,_,_,rfl,rfl⟩
 have st5:=ZD (a:=va) (b:=vb) (c:=vc) (d:=vd) b64 hone;have ln4:=m4.next;have ln3:=m3.next;generalize hh5:h4.aa h.next (.cells [va,vb,vc,vd] 24 none)=h5 at st5;have m5:Mod (fun k=>k=h.next) h4 h5:=by rw[<- hh5];exact (Mod.refl m4.fit).aa rfl rfl (by omega)
 have b5:h5.blk h.next=some (.cells [va,vb,vc,vd] 24 none):=by rw[<- hh5];exact AD rfl
 have hp5:∀ k B,k=h.next->h4.blk k=some B->B.plain=true:=by
  intro k B hk hb;subst hk;rw[b64] at hb;cases hb;rfl
 have r5:=AJ (Dv (q:=fun r=>Nat.ble h.next r) m4.fit m5 hp5 (fun r hr=>by rw[Z0] at hr ⊢; have:=m3.next;omega)) r4;have r5g:=AJ (Cl m5.fit) r5;refine Vnz nf (Z13 n0 g00 g01 g02 @tz25 @z3 @hB1 @hh1 @hB2 @hh2 @st3 @hc @st5) ?_;refine CO (.inr rfl) (S0z d0) rfl (show _=Value.pointer (some (own h.next)) by simp +decide only[Gz,n0]) (by rw[MS,AG b5 (n:=4) rfl hone]) ⟨t,?_,r5,gd,lv,by omega,a',?_,ha1,by omega⟩;rotate_left
 ·obtain⟨seed,e1,e2,e3,e4,e5⟩:=S4;obtain⟨_,_,_,_,e4',_⟩:=S;have mm:Mod (fun k=>k=kS\/k=h1.next\/k=h.next) h h5:=(((a1.trans a2).mod.trans (m3.sub fun k hk=>by omega)).trans (m4.sub fun k hk=>by omega)).trans (m5.sub fun k hk=>by omega);exact⟨seed,m5.blk _ _ (by omega) e1,e2,e3,e4'.mod (mm.low (M:=fun k=>k=kS) hfit (fun k hk=>by omega)) (fun k hk=>N4 hk.symm),e5⟩
 have mm:Mod (fun k=>k=kS\/k=h1.next\/k=h.next) h h5:=(((a1.trans a2).mod.trans (m3.sub fun k hk=>by omega)).trans (m4.sub fun k hk=>by omega)).trans (m5.sub fun k hk=>by omega);exact mm.low hfit (fun k hk=>by omega)
/-! ### The head -/
/-! ### Numbers that are cloned -/
theorem I8 {D:Tab} {E:Env} {fn:Func} {A:Ac} {h:H} {t u:Tmp} {v x:Value} {ex:Ex} {Q:Value->H->Prop} (hex:ex=.normal\/ex=.ret) (hd:A.defers=[]) (hr:fn.results=#[.tmp t,.tmp u]) (hv:A.get t=v) (hx:A.get u=x) (hq:Q (.tuple #[v,x]) h) :
  (ex=.normal\/ex=.ret)/\∃ h2 v',Ay A.defers h=some h2/\ED D E fn A h2=some v'/\Q v' h2:=by
 refine⟨hex,h,_,?_,?_,hq⟩
 ·rw[hd];rfl
 ·unfold ED;rw[hr];simp only[Dl,ares1,hv,hx]
theorem Hj {h:H} {t:Hs.Item} {v:Value} (hr:rep E h t v):∃ q0 q1 q2 q3,v=.agg ⟨[q0,q1,q2,q3]⟩/\[q0,q1,q2,q3].all isOne=true:=by
 obtain⟨k',m',tx',ks'⟩:=t;obtain⟨sb',sc',e,_⟩:=Ao hr;exact⟨_,_,_,_,e,rfl⟩
theorem SV {h:H} {t:Hs.Item} {a b c d:Value} (hr:rep E h t (.agg ⟨[a,b,c,d]⟩)):[a,b,c,d].all isOne=true:=by
 obtain⟨q0,q1,q2,q3,e,h1⟩:=Hj hr;simp only[Value.agg.injEq,Array.mk.injEq] at e;rw[e];exact h1
theorem Hk {h:H}:∀ {ks:List Hs.Item} {cs:List Value},Es E h ks cs->cs.all isOne=true
 | [],cs,hr=>by rw[Es] at hr;rw[hr];rfl
 | x::xs,cs,hr=>by
  rw[Es] at hr;obtain⟨a,b,c,d,l,rfl,h1,h2⟩:=hr;have e:=SV h1;have e2:=Hk h2;simp only[V3,List.all_nil,Bool.and_true,K0] at e ⊢;exact⟨e.1,e.2.1,e.2.2.1,e.2.2.2,e2⟩
set_option maxHeartbeats 16000000
theorem AF3:tab.fn.get 92=some Tryz.f92:=by kernel_rfl
theorem AF1:tab.fn.get 94=some Tryz.f94:=by kernel_rfl
theorem AFy:tab.fn.get 97=some Tryz.f97:=by kernel_rfl
theorem AGi (s:ByteArray):Ax tab 9 (.string s)=some false:=by unfold Ax;rw[qty9]
theorem ACA (b:Option Addr) (n c:Nat):Ax tab 44 (.slice b n c)=some false:=by unfold Ax;rw[qty31]
theorem AEc (x:Int) {h:H}:AH tab 44 1 [(0,.int .u8 x)] h=some (.slice (some (own h.next)) 1 1,h.new (.cells [.int .u8 x] 5 none)):=by
 unfold AH;simp only[qty31,Rl];rfl
theorem ST {n:Nat} (hn:n<=1000000000):roomy n 1=true:=by
 unfold roomy;simp only[K0,Z0];omega
theorem Xv (hI:∀ args h,I 92 args h=none) (h123:∀ args h,I 118 args h=some (Dx 100 args h)) {kB base:Nat} {g:H} {bs cs:List UInt8} (f:Fit g) (hbn:base<=g.next) (b:Bld 100 kB base g bs) (hl:bs.length+cs.length<=1000000000) :
  ∃ n v g',(ev tab E I n).call 92 [.pointer (some (own kB)),.string ⟨⟨cs⟩⟩] g=some (v,g')/\((∃ x,v=.tuple #[x,.nilIface])/\Xo base 5 kB none g g'/\Bld 100 kB base g' (bs++cs)):=by
 obtain⟨g1,s,ro,hk,X1,b1,ap1,hc1⟩:=OS f (by decide) hbn b;have c123:=Al (D:=tab) (E:=E) (by rw[h123,hk]:I 118 [.pointer (some (own kB))] g=some (some (.tuple #[],g1)));have hs1:isOne s=true:=by rcases (show Ap3 g1 base 5 1 s _ _ ro from .inl ap1).get with⟨_,_,rfl⟩|⟨_,_,rfl,_⟩<;>rfl
 have l1:g1.cell E (aadd (own kB) 1)=some s:=AS (i:=1) b1 rfl hs1;obtain⟨s',g2,happ,hs2,hs3,f2,gr2,lg2,mk2,nx2,ch2,ro2,ap2,hc2⟩:=LN (D:=tab) (E:=E) (x:=.string ⟨⟨cs⟩⟩) (t:=44) (t2:=9) X1.fit (Y0 hbn X1.next) b1 (by decide) ap1 hc1 qty31 Rl rfl (AGi _) rfl (ST hl);have b2:=gr2 _ _ b1;have st:AO tab 44 (aadd (own kB) 1) s' g2=some (g2.aa kB (.cells [.pointer (some (own kB)),s'] 100 none)):=Aj (o:=1) qty31 rfl b2 hs3 hs2 (by simp) rfl;have X2:=X1.df f2 gr2 lg2 mk2 nx2 ch2;have X3:=X2.aa (ys:=[.pointer (some (own kB)),s']) b2 (by omega);apply Wk (hI _ _) AF3 rfl;intro A0 n0 d0 hA0;change A0.n=19 at n0;have q0:A0.get 0=.pointer (some (own kB)):=hA0 0 _ rfl;have q1:A0.get 1=.string ⟨⟨cs⟩⟩:=hA0 1 _ rfl;clear hA0;refine Voz 1 n0 ?_;refine Voz 1 (Z3 n0 q0 @c123) ?_;refine Voz 1 (Z9 n0 q0 q1 @FY @Qx @Hx @l1 @happ @st) ?_;refine Vwz (Z3 n0 q1 @Qx) ?_;exact I8 (v:=.int .i64 (cs.length:Nat)) (x:=.nilIface) (.inr rfl) (S0z d0) rfl (S0z n0) (S0z n0) ⟨⟨_,rfl⟩,X3,_,s',ro2,AD rfl,.inr rfl,H9 f2 b2 ap2,fun r hr j hj=>hc2 r hr j (by rw[Cg] at hj;exact hj)⟩
theorem FV (hI:∀ args h,I 94 args h=none) (h123:∀ args h,I 118 args h=some (Dx 100 args h)) {kB base:Nat} {g:H} {bs:List UInt8} {c:UInt8} (f:Fit g) (hbn:base<=g.next) (b:Bld 100 kB base g bs) (hl:bs.length+1<=1000000000) :
  ∃ n v g',(ev tab E I n).call 94 [.pointer (some (own kB)),.int .u8 (c.toNat:Nat)] g=some (v,g')/\(v=.nilIface/\Xo base 5 kB none g g'/\Bld 100 kB base g' (bs++[c])):=by
 obtain⟨g1,s,ro,hk,X1,b1,ap1,hc1⟩:=OS f (by decide) hbn b;have c123:=Al (D:=tab) (E:=E) (by rw[h123,hk]:I 118 [.pointer (some (own kB))] g=some (some (.tuple #[],g1)));have hs1:isOne s=true:=by rcases (show Ap3 g1 base 5 1 s _ _ ro from .inl ap1).get with⟨_,_,rfl⟩|⟨_,_,rfl,_⟩<;>rfl
 have l1:g1.cell E (aadd (own kB) 1)=some s:=AS (i:=1) b1 rfl hs1;have t2:Ahd g1 (g1.new (.cells [.int .u8 (c.toNat:Nat)] 5 none)):=Ahd.aj X1.fit rfl;have k2:(g1.new (.cells [.int .u8 (c.toNat:Nat)] 5 none)).blk g1.next=some (.cells [.int .u8 (c.toNat:Nat)] 5 none):=AA rfl;have hbs:=AEc (c.toNat:Nat) (h:=g1);generalize g1.new (.cells [.int .u8 (c.toNat:Nat)] 5 none)=g2 at t2 k2 hbs;have hel:BO E 1 (Value.int .u8 0).cells.toList (.slice (some (own g1.next)) 1 1) g2=some (([c]:List UInt8).length,bytesV [c]):=by
  have h1:g2.cells E (own g1.next) (1*1)=some [.int .u8 (c.toNat:Nat)]:=AG k2 rfl rfl;simp only[BO,h1];rfl
 obtain⟨s',g3,happ,hs2,hs3,f3,gr3,lg3,mk3,nx3,ch3,ro3,ap3,hc3⟩:=LN (D:=tab) (E:=E) (x:=.slice (some (own g1.next)) 1 1) (t:=44) (t2:=44) (cs:=[c]) t2.fit (Y0 hbn (Y0 X1.next t2.next)) (t2.grows _ _ b1) (by decide) (ap1.mod (M:=fun _=>False) t2.mod (fun _ _ h=>h.elim)) (fun r hr j hj=>hc1 r hr j (by rw[<- t2.chain r (IA ap1 r hr).2];exact hj)) qty31 Rl rfl (ACA _ _ _) hel (ST hl);have b3:=gr3 _ _ (t2.grows _ _ b1);have st:AO tab 44 (aadd (own kB) 1) s' g3=some (g3.aa kB (.cells [.pointer (some (own kB)),s'] 100 none)):=Aj (o:=1) qty31 rfl b3 hs3 hs2 (by simp) rfl;have X2:=X1.ahead t2 hbn (fun r hr=>by cases hr);have X3:=X2.df f3 gr3 lg3 mk3 nx3 ch3;have X4:=X3.aa (ys:=[.pointer (some (own kB)),s']) b3 (by omega);apply Wk (hI _ _) AF1 rfl;intro A0 n0 d0 hA0;change A0.n=17 at n0;have q0:A0.get 0=.pointer (some (own kB)):=hA0 0 _ rfl;have q1:A0.get 1=.int .u8 (c.toNat:Nat):=hA0 1 _ rfl;clear hA0;refine Voz 1 n0 ?_;refine Voz 1 (Z3 n0 q0 @c123) ?_;refine Voz 1 (Z10 n0 q0 q1 @FY @Qx @Hx @l1 @hbs @happ @st) ?_;refine Vwz n0 ?_;exact AW (v:=.nilIface) (.inr rfl) (S0z d0) rfl (S0z n0) ⟨rfl,X4,_,s',ro3,AD rfl,.inr rfl,H9 f3 b3 ap3,fun r hr j hj=>hc3 r hr j (by rw[Cg] at hj;exact hj)⟩
theorem VR (hI:∀ args h,I 97 args h=none) (h123:∀ args h,I 118 args h=some (Dx 100 args h)) {kB k6 base n c6:Nat} {g:H} {bs cs:List UInt8} {ty:TypeId} {rt:Option (Nat×Nat)} (f:Fit g) (hbn:base<=g.next) (b:Bld 100 kB base g bs) (b6:g.blk k6=some (.cells (bytesV cs) ty rt)) (hn:cs.length=n) (hne:k6≠kB) (hl:bs.length+cs.length<=1000000000) :
  ∃ n' v g',(ev tab E I n').call 97 [.pointer (some (own kB)),.slice (some (own k6)) n c6] g=some (v,g')/\((∃ x,v=.tuple #[x,.nilIface])/\Xo base 5 kB none g g'/\Bld 100 kB base g' (bs++cs)):=by
 subst hn;obtain⟨g1,s,ro,hk,X1,b1,ap1,hc1⟩:=OS f (by decide) hbn b;have c123:=Al (D:=tab) (E:=E) (by rw[h123,hk]:I 118 [.pointer (some (own kB))] g=some (some (.tuple #[],g1)));have hs1:isOne s=true:=by rcases (show Ap3 g1 base 5 1 s _ _ ro from .inl ap1).get with⟨_,_,rfl⟩|⟨_,_,rfl,_⟩<;>rfl
 have l1:g1.cell E (aadd (own kB) 1)=some s:=AS (i:=1) b1 rfl hs1;have hel:BO E 1 (Value.int .u8 0).cells.toList (.slice (some (own k6)) cs.length c6) g1=some (cs.length,bytesV cs):=by
  simp only[BO,V2,AG (X1.keep _ _ hne b6) (AM cs) (BF cs)]
 obtain⟨s',g2,happ,hs2,hs3,f2,gr2,lg2,mk2,nx2,ch2,ro2,ap2,hc2⟩:=LN (D:=tab) (E:=E) (x:=.slice (some (own k6)) cs.length c6) (t:=44) (t2:=44) X1.fit (Y0 hbn X1.next) b1 (by decide) ap1 hc1 qty31 Rl rfl (ACA _ _ _) hel (ST hl);have b2:=gr2 _ _ b1;have st:AO tab 44 (aadd (own kB) 1) s' g2=some (g2.aa kB (.cells [.pointer (some (own kB)),s'] 100 none)):=Aj (o:=1) qty31 rfl b2 hs3 hs2 (by simp) rfl;have X2:=X1.df f2 gr2 lg2 mk2 nx2 ch2;have X3:=X2.aa (ys:=[.pointer (some (own kB)),s']) b2 (by omega);apply Wk (hI _ _) AFy rfl;intro A0 n0 d0 hA0;change A0.n=19 at n0;have q0:A0.get 0=.pointer (some (own kB)):=hA0 0 _ rfl;have q1:A0.get 1=.slice (some (own k6)) cs.length c6:=hA0 1 _ rfl;clear hA0;refine Voz 1 n0 ?_;refine Voz 1 (Z3 n0 q0 @c123) ?_;refine Voz 1 (Z9 n0 q0 q1 @FY @Qx @Hx @l1 @happ @st) ?_;refine Vwz (Z3 n0 q1 @Qx) ?_;exact I8 (v:=.int .i64 (cs.length:Nat)) (x:=.nilIface) (.inr rfl) (S0z d0) rfl (S0z n0) (S0z n0) ⟨⟨_,rfl⟩,X3,_,s',ro2,AD rfl,.inr rfl,H9 f2 b2 ap2,fun r hr j hj=>hc2 r hr j (by rw[Cg] at hj;exact hj)⟩
theorem Yf {kb m:Nat} {xs:List Value} {h:H} (hb:h.blk kb=some (.cells xs 198 none)) (hm:m<=23):Av tab 198 (.pointer (some (own kb))) (some (.int .i64 1)) (some (.int .i64 ((1+m:Nat):Int))) none h=some (.slice (some (aadd (own kb) 1)) m 23,h):=by
 have e1:AN ((1+m:Nat):Int) (24+1)=true:=by show Nat.blt _ _=true;rw[P0];omega
 have e2:AN (1:Int) (1+m+1)=true:=by show Nat.blt 1 _=true;rw[P0];omega
 have hb':h.blk (own kb).block=some (.cells xs 198 none):=hb;have hs:(own kb).spot=some 0:=rfl;unfold Av;simp only[Sm,abound,e1,e2,M0,hs,hb',show (1:Int).toNat=1 from rfl];rw[show 1+m-1=m by omega]
theorem Tr {a:Addr} {n c:Nat} {bs:List UInt8} {h:H} (hc:h.cells E a n=some (bytesV bs)):AQ tab E 44 9 (.slice (some a) n c) h=some (.string ⟨⟨bs⟩⟩,h):=by
 unfold AQ;simp only[qty31,qty9,qty5,hc,Ca]
theorem UB (hT:XW E) (hI:∀ f args h,(f=135\/f=141\/f=142\/f=143\/f=147\/f=148\/f=149)->I f args h=none) {h:H} (f:Fit h) (m:Nat) (hm:m<10 ^ 15) :
  ∃ n v h',(ev tab E I n).call 135 [.int .i64 (m:Nat),.int .i64 10] h=some (v,h')/\(v=.string ⟨⟨Lib.decDigits m⟩⟩/\Mod (fun _=>False) h h'):=by
 have e0:decide ((0:Int)<=(m:Int))=true:=decide_eq_true (by omega);have e10:decide ((10:Int)=10)=true:=rfl;by_cases h100:m<100
 ·obtain⟨n1,v1,g1,c1,e1,f1⟩:=Ve (E:=E) (I:=I) (fun args h=>hI _ args h (by simp)) (h:=h) m h100;rw[e1,f1] at c1;have e2:decide ((m:Int)<100)=true:=decide_eq_true (by omega);apply Wk (hI _ _ _ (.inl rfl)) ABz rfl;intro A0 n0 d0 hA0;change A0.n=54 at n0;have q0:A0.get 0=.int .i64 (m:Nat):=hA0 0 _ rfl;have q1:A0.get 1=.int .i64 10:=hA0 1 _ rfl;clear hA0;refine Voz 1 n0 ?_;refine Voz 1 (Z3 n0 q1 e10) ?_;refine Vwz n0 ?_;refine VOz 1 (Z4 n0 q0 e0 e2) ?_;refine Vnz n1 (Z3 n0 q0 @c1) ?_;exact AW (v:=.string ⟨⟨Lib.decDigits m⟩⟩) (.inr rfl) (S0z d0) rfl (S0z n0) ⟨rfl,Mod.refl f⟩
 ·have e2:decide ((m:Int)<100)=false:=decide_eq_false (by omega);have hnd:Lib.nDigits m<=15:=UT hm (by decide);have hp15:(10:Nat) ^ 15=1000000000000000:=by decide
  have hpos:=Lib.nDigits_pos m;obtain⟨n1,v1,g1,c1,e1,f1⟩:=UR (E:=E) hT (I:=I) (fun f args h hf=>hI f args h (by rcases hf with h|h|h|h<;>simp[h])) (h:=h.new (.cells (Value.agg #[.int .u8 0,.int .u8 0,.int .u8 0,.int .u8 0,.int .u8 0,.int .u8 0,.int .u8 0,.int .u8 0,.int .u8 0,.int .u8 0,.int .u8 0,.int .u8 0,.int .u8 0,.int .u8 0,.int .u8 0,.int .u8 0,.int .u8 0,.int .u8 0,.int .u8 0,.int .u8 0,.int .u8 0,.int .u8 0,.int .u8 0,.int .u8 0]).cells.toList 198 none)) m (by omega) (by omega);rw[e1,f1] at c1;have t1:Ahd h (h.new (.cells (Value.agg #[.int .u8 0,.int .u8 0,.int .u8 0,.int .u8 0,.int .u8 0,.int .u8 0,.int .u8 0,.int .u8 0,.int .u8 0,.int .u8 0,.int .u8 0,.int .u8 0,.int .u8 0,.int .u8 0,.int .u8 0,.int .u8 0,.int .u8 0,.int .u8 0,.int .u8 0,.int .u8 0,.int .u8 0,.int .u8 0,.int .u8 0,.int .u8 0]).cells.toList 198 none)):=Ahd.aj f rfl;have b1:(h.new (.cells (Value.agg #[.int .u8 0,.int .u8 0,.int .u8 0,.int .u8 0,.int .u8 0,.int .u8 0,.int .u8 0,.int .u8 0,.int .u8 0,.int .u8 0,.int .u8 0,.int .u8 0,.int .u8 0,.int .u8 0,.int .u8 0,.int .u8 0,.int .u8 0,.int .u8 0,.int .u8 0,.int .u8 0,.int .u8 0,.int .u8 0,.int .u8 0,.int .u8 0]).cells.toList 198 none)).blk h.next=some (.cells (List.replicate 24 (.int .u8 0)) 198 none):=AA rfl;generalize hh1:h.new (.cells (Value.agg #[.int .u8 0,.int .u8 0,.int .u8 0,.int .u8 0,.int .u8 0,.int .u8 0,.int .u8 0,.int .u8 0,.int .u8 0,.int .u8 0,.int .u8 0,.int .u8 0,.int .u8 0,.int .u8 0,.int .u8 0,.int .u8 0,.int .u8 0,.int .u8 0,.int .u8 0,.int .u8 0,.int .u8 0,.int .u8 0,.int .u8 0,.int .u8 0]).cells.toList 198 none)=h1 at c1 t1 b1;have hrow:Row h.next [.int .u8 0] (List.replicate (23-Lib.nDigits m) (.int .u8 0)) (Array.replicate (Lib.nDigits m) 0) h1:=by
   unfold Row;rw[b1];congr 2;have hz:bytesV (Array.replicate (Lib.nDigits m) (0:UInt8)).toList=List.replicate (Lib.nDigits m) (.int .u8 0):=by simp[bytesV]
   rw[hz,show ([Value.int .u8 0]:List Value)=List.replicate 1 (.int .u8 0) from rfl,List.replicate_append_replicate,List.replicate_append_replicate];congr 1;omega
  obtain⟨n2,v2,h2,c2,e22,M2,d,F,R⟩:=UA (E:=E) (I:=I) (fun args h=>hI _ args h (by simp)) (kb:=h.next) (c:=23) (u:=m) t1.fit rfl hnd (by simp) (Lib.lt_pow_nDigits m) hrow;rw[e22] at c2;have hd:=Wd F;have hc:h2.cells E (aadd (own h.next) 1) (Lib.nDigits m)=some (bytesV (Lib.decDigits m)):=by
   have hlen:(([Value.int .u8 0]:List Value)++bytesV d.toList++List.replicate (23-Lib.nDigits m) (Value.int .u8 0)).length=24:=by
    rw[Gv,F.size,I4];simp only[W1];omega
   have hone:(([Value.int .u8 0]:List Value)++bytesV d.toList++List.replicate (23-Lib.nDigits m) (Value.int .u8 0)).all isOne=true:=by
    rw[J4,J4,BF];simp[isOne]
   have h3:=BD (E:=E) (m:=1) (l:=Lib.nDigits m) (AG (E:=E) R hlen hone) (by omega);rw[h3,hd,E1];congr 1;show (bytesV (Lib.decDigits m)++_).take _=_;rw[List.take_left' (by rw[AM,Lib.decDigits_length])]
  have wm:IntKind.u64.wrap (m:Int)=(m:Int):=KN (by omega);have w1:IntKind.i64.wrap (1+((Lib.nDigits m:Nat):Int))=((1+Lib.nDigits m:Nat):Int):=by rw[wrap64 (by omega) (by omega)];omega
  have e3:decide ((m:Int)<0)=false:=decide_eq_false (by omega);have sl1:=Yf (m:=Lib.nDigits m) b1 (by omega);have sl2:=Yf (m:=Lib.nDigits m) R (by omega);apply Wk (hI _ _ _ (.inl rfl)) ABz rfl;intro A0 n0 d0 hA0;change A0.n=54 at n0;have q0:A0.get 0=.int .i64 (m:Nat):=hA0 0 _ rfl;have q1:A0.get 1=.int .i64 10:=hA0 1 _ rfl;clear hA0;refine Voz 1 n0 ?_;refine Voz 1 (Z3 n0 q1 e10) ?_;refine Vwz n0 ?_;refine VOz 1 (Z4 n0 q0 e0 e2) ?_;refine Vwz n0 ?_;refine Voz 1 (Z3 n0 @ABK @hh1) ?_;refine Voz 1 (Z4 n0 q0 @Zo @wm) ?_;refine Vwz (Z3 n0 q0 e3) ?_;refine Voz n1 (Z2 n0 @c1) ?_;refine Voz n2 (Z4 n0 @w1 @sl1 @c2) ?_
  repeat' (first|with_reducible apply Ws|(apply Wp;focus ((repeat ((with_reducible apply Rr rfl);focus ((try simp +decide only[Oz,n0,q0,e3,w1,sl2,Tr hc]);with_reducible rfl)));with_reducible exact Rn))|(refine W2 (by simp +decide only[Cz,n0,q0,e3,w1,sl2,Tr hc];try with_reducible rfl) (fun hb=>?_) (fun hb=>?_)<;>try contradiction)|apply W3|apply W4|apply W5|apply W6)
  refine AW (v:=.string ⟨⟨Lib.decDigits m⟩⟩) (.inr rfl) (S0z d0) rfl (S0z n0) ⟨rfl,(t1.mod.trans (M2.low t1.fit (fun k hk=>.inl (hk▸rfl)))).low (M:=fun _=>False) f (fun k hk=>.inr (N4 (Eq.symm hk)))⟩
theorem ABw (hT:XW E) (hI:∀ f args h,(f=93\/f=119\/f=135\/f=141\/f=142\/f=143\/f=147\/f=148\/f=149)->I f args h=none) {h:H} (f:Fit h) (m:Nat) (hm:m<10 ^ 15) :
  ∃ n v h',(ev tab E I n).call 93 [.int .i64 (m:Nat)] h=some (v,h')/\(v=.string ⟨⟨Lib.decDigits m⟩⟩/\Mod (fun _=>False) h h'):=by
 obtain⟨n1,v1,g1,c1,e1,M1⟩:=UB (E:=E) hT (I:=I) (fun f args h hf=>hI f args h (by rcases hf with h|h|h|h|h|h|h<;>simp[h])) f m hm;rw[e1] at c1;have c124:∃ n v h',(ev tab E I n).call 119 [.int .i64 (m:Nat)] h=some (v,h')/\(v=.string ⟨⟨Lib.decDigits m⟩⟩/\h'=g1):=by
  apply Wk (hI _ _ _ (by simp)) AEH rfl;intro A0 n0 d0 hA0;change A0.n=5 at n0;have q0:A0.get 0=.int .i64 (m:Nat):=hA0 0 _ rfl;clear hA0;refine Voz 1 n0 ?_;refine Voz n1 (Z3 n0 q0 @c1) ?_;refine Vwz n0 ?_;exact AW (v:=.string ⟨⟨Lib.decDigits m⟩⟩) (.inr rfl) (S0z d0) rfl (S0z n0) ⟨rfl,rfl⟩
 obtain⟨n2,v2,g2,c2,e2,f2⟩:=c124;rw[e2,f2] at c2;apply Wk (hI _ _ _ (.inl rfl)) AF2 rfl;intro A0 n0 d0 hA0;change A0.n=5 at n0;have q0:A0.get 0=.int .i64 (m:Nat):=hA0 0 _ rfl;clear hA0;refine Voz 1 n0 ?_;refine Voz n2 (Z3 n0 q0 @c2) ?_;refine Vwz n0 ?_;exact AW (v:=.string ⟨⟨Lib.decDigits m⟩⟩) (.inr rfl) (S0z d0) rfl (S0z n0) ⟨rfl,M1⟩
def PN:Lb:=fun s f args _ v=>f=93/\s=0/\∃ m:Nat,args=[.int .i64 (m:Nat)]/\m<10 ^ 15/\v=.string ⟨⟨Lib.decDigits m⟩⟩
theorem ADm:One PN:=by
 rintro s s' f args h v v' ⟨_,_,m,rfl,_,rfl⟩ ⟨_,_,m',he,_,rfl⟩;simp only[List.cons.injEq,Value.int.injEq,true_and,and_true] at he;obtain rfl:m=m':=by omega
 rfl
theorem ZH (hT:XW E) (hI:∀ f args h,(f=93\/f=119\/f=135\/f=141\/f=142\/f=143\/f=147\/f=148\/f=149)->I f args h=none):FR tab E I PN:=by
 rintro sz f args h v ⟨rfl,rfl,m,rfl,hm,rfl⟩ hfit;refine⟨rfl,?_⟩;have hJ:Fm PN I 0=I:=by funext f args h;exact Bw (fun _ _ hs=>absurd hs (I6 _))
 rw[hJ];obtain⟨n,v,h',c,rfl,M⟩:=ABw (E:=E) hT (I:=I) hI hfit m hm;exact⟨n,h',c,M.quiet⟩
end Go.Proofs.YtofijpbmbmbnhaaGreatDoor
