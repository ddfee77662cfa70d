/- The law on what is written once: it gives true. -/
import Derived.Test.YtofijpbmbmbnhaaDoorHsap
import Derived.Test.YtofijpbmbmbnhaaDoorRows
import Derived.ProofKit
import Derived.LaidMore
import Derived.OpenShut
import Derived.Stop.Joined
import Derived.Test.YtofijpbmbmbnhaaDoorTie
import Derived.Test.YtofijpbmbmbnhaaDoorCards
import Derived.SevenTiedAt
set_option linter.unusedSimpArgs false
set_option linter.unusedVariables false
set_option maxRecDepth 100000
set_option maxHeartbeats 16000000
namespace Go.Proofs.YtofijpbmbmbnhaaDoor
open Go Go.Hs Go.Proofs
variable {E:Env} {I:Known}
structure Kn5 (E:Env) (K:Known):Prop where
 out:∀ f args h,f∈[5,24,59,23,58,121,94,93,95,25,60,61,96,97,122,127,26,62,63,64,98,100,103,15,16,49,56,120,119,118,117,90,82,81,12,50,85,84,83,113,114,22]→K f args h=none
 k11:∀ h,K 11 [] h=some (some (.bool true,h))
 kc:Chk E K
 kp:Kp K
theorem fn5:tab.fn.get 5=some Tryd.f5:=by kernel_rfl
theorem item_four' {p:H} {t:Hs.Item} {v:Value} (hr:rep E p t v):∃ a b c d,v=.agg ⟨[a,b,c,d]⟩∧[a,b,c,d].all isOne=true:=by
 obtain⟨k',m',tx',ks'⟩:=t
 obtain⟨sb',sc',rfl,_⟩:=rep_slice hr
 exact⟨_,_,_,_,rfl,rfl⟩
theorem made5 (hI:∀ f args h,(f=121∨f=94∨f=93∨f=95∨f=58∨f=23∨f=24∨f=59)→I f args h=none) {h:H} {sl:Value} {bs:List Int} (f:Fit h) (hl:h.log=[]) (hb:Bin E h sl bs) (deep left:Nat) (hdeep:deep≤100) (hl1:1≤left) (hl2:left≤100) :
  ∃ n p h1 x0 x1 x2 x3 h2 t,((ev tab E I n).call 24 [sl] h=some (p,h1)∧(ev tab E I n).call 23 [p,.int .i64 (left:Nat),.int .i64 (deep:Nat)] h1=some (.agg ⟨[x0,x1,x2,x3]⟩,h2))∧[x0,x1,x2,x3].all isOne=true∧Ahd h h2∧rep E h2 t (.agg ⟨[x0,x1,x2,x3]⟩)∧smlI t∧lvlI t≤(deep:Int)+1∧isz t≤left:=by
 obtain⟨n1,p,h1,c1,kS,bv,rfl,a1,lk,S⟩:=of24 (E:=E) (I:=I) (fun f args h hf=>hI f args h (by rcases hf with h|h<;>simp[h])) f hb
 obtain⟨n2,v,h2,c2,t,m2,r,gd,lv,sz,_⟩:=grown23 (E:=E) (I:=I) (fun f args h hf=>hI f args h (by rcases hf with h|h|h|h|h|h<;>simp[h])) (by simp;omega) deep left hdeep hl1 hl2 (by omega) a1.fit S
 obtain⟨va,vb,vc,vd,rfl,hone⟩:=item_four' r
 refine⟨max n1 n2,_,h1,va,vb,vc,vd,h2,t,⟨(ev_mono I (Nat.le_max_left _ _)).call c1,(ev_mono I (Nat.le_max_right _ _)).call c2⟩,hone,?_,rep_grow (only_grows m2.fit) r,gd,lv,sz⟩
 exact ((a1.mod.trans m2).low f (fun k hk=>by omega)).toAhd hl
theorem clone15c (hI:∀ args h,I 15 args h=none) {g:H} {v:Value} {bs:List UInt8} (f:Fit g) (hb:Byt E g v bs) (hl:bs.length≤1000000) (h0:bs≠[]) :
  ∃ n x g',(ev tab E I n).call 15 [v] g=some (x,g')∧∃ k,x=.slice (some (own k)) bs.length bs.length∧Ahd g g'∧g'.blk k=some (.cells (bytesV bs) 5 (some (k,0)))∧g'.chain k=[k]∧g.next≤k:=by
 rcases hb with⟨_,rfl⟩|⟨a,c,rfl,hc,hcs⟩
 ·exact absurd rfl h0
 ·apply Wk (hI _ _) fn15 rfl
  intro A0 n0 d0 hA0
  change A0.n=8 at n0
  have q0:A0.get 0=.slice (some a) bs.length c:=hA0 0 _ rfl
  clear hA0
  obtain⟨s,h',happ,hcl⟩:=clone_step (D:=tab) (E:=E) (t:=31) (e:=5) (sz:=1) (by_:=1) (n:=bs.length) (c:=c) (a:=a) (cs:=bytesV bs) f qty31 qtz5 rfl (by rw[Nat.mul_one];exact hcs) (by rw[Nat.mul_one];exact bytesV_length bs) (by
   unfold roomy
   simp only[Bool.and_eq_true,Nat.ble_eq];omega)
  obtain⟨k,rt,rfl,hk,hn,hrt⟩:=hcl.get
  repeat' (first|with_reducible apply Ws|(apply Wp;focus ((repeat ((with_reducible apply Rr rfl);focus ((try simp +decide only[Oy,n0,q0,qan31,Option.isNone,qbs31_0,happ]);with_reducible rfl)));with_reducible exact Rn))|(refine W2 (by simp +decide only[Cx,n0,q0,Option.isNone,happ];try with_reducible rfl) (fun hb=>?_) (fun hb=>?_)<;>try contradiction)|apply W3|apply W4|apply W5|apply W6)
  refine done_q (v:=.slice (some (own k)) bs.length bs.length) (.inr rfl) (by simp +decide only[Gs,d0]) rfl (by simp +decide only[Gs,n0]) ⟨k,rfl,hcl.ahd,?_⟩
  rcases hrt with⟨_,e⟩|⟨rfl,hch⟩
  ·exact absurd (List.length_eq_zero_iff.1 e) h0
  ·exact⟨hk,hch,hn⟩
theorem set5 {g:H} {k i:Nat} {bs:List UInt8} (f:Fit g) (hb:g.blk k=some (.cells (bytesV bs) 5 (some (k,0)))) (hc:g.chain k=[k]) (hi:i<bs.length) (hm:g.mark≤k) (c:UInt8) :
  ∃ q,astore tab 5 (aadd (own k) i) (.int .u8 (c.toNat:Nat)) g=some q∧Fit q∧q.blk k=some (.cells (bytesV (bs.set i c)) 5 (some (k,0)))∧(∀ j,j≠k→q.blk j=g.blk j)∧q.next=g.next∧q.mark=g.mark:=by
 obtain⟨q,hput,e1,e2,e3,e4,e5,e6,e7⟩:=put_root_at (vs:=[.int .u8 (c.toNat:Nat)]) f hb hc (by simp) (by rw[bytesV_length];exact hi) rfl hm
 refine⟨q,?_,e2,?_,e4,e1,e6⟩
 ·unfold astore
  rw[qty5]
  exact hput
 ·rw[e3]
  rw[show i+[Value.int .u8 (c.toNat:Nat)].length=i+1 from rfl,bytes_set c hi]
theorem set5d {g:H} {k i:Nat} {bs:List UInt8} (f:Fit g) (hb:g.blk k=some (.cells (bytesV bs) 5 (some (k,0)))) (hc:g.chain k=[k]) (hi:i<bs.length) (c:UInt8) :
  ∃ q,astore tab 5 (aadd (own k) i) (.int .u8 (c.toNat:Nat)) (fresh g)=some q∧Fit (back g q)∧(back g q).blk k=some (.cells (bytesV (bs.set i c)) 5 (some (k,0)))∧(∀ j,j≠k→(back g q).blk j=g.blk j):=by
 obtain⟨q,hput,hql,hqn,hqf,hqb,hqo,hqc,hqg⟩:=put_root (vs:=[.int .u8 (c.toNat:Nat)]) f hb hc (by simp) (by rw[bytesV_length];exact hi) rfl
 refine⟨q,?_,hqf,?_,hqo⟩
 ·unfold astore
  rw[qty5]
  exact hput
 ·rw[hqb]
  rw[show i+[Value.int .u8 (c.toNat:Nat)].length=i+1 from rfl,bytes_set c hi]
theorem row_byt {g:H} {k:Nat} {bs:List UInt8} {rt:Option (Nat×Nat)} (hb:g.blk k=some (.cells (bytesV bs) 5 rt)):Byt E g (.slice (some (own k)) bs.length bs.length) bs:=.inr ⟨own k,_,rfl,Nat.le_refl _,blk_cells hb (bytesV_length bs) (bytesV_one bs)⟩
theorem row_cell {g:H} {k i:Nat} {bs:List UInt8} {rt:Option (Nat×Nat)} (hb:g.blk k=some (.cells (bytesV bs) 5 rt)) (hi:i<bs.length):g.cell E (aadd (own k) i)=some (.int .u8 ((bs[i]).toNat:Nat)):=
 blk_cell (i:=i) hb (by simp[bytesV,hi]) rfl
theorem onceI {k n i:Nat} (hi:i<n):aindexAddr tab 31 (.slice (some (own k)) n n) (.int .i64 (i:Nat))=some (.pointer (some (aadd (own k) i))):=by
 rw[qia31 _ _ _ _ (show inRange ((i:Nat):Int) n=true by show Nat.blt i n=true;rw[Nat.blt_eq];exact hi),Int.toNat_natCast,Nat.mul_one]
def L23:List UInt8:=[48,49,50,51,52,53,54,55,56,57,58,40,41,34,92,32,97,98,99,100,101,102,0]
theorem once23 {h:H}:abuildSlice tab 31 23 [(0,.int .u8 48),(1,.int .u8 49),(2,.int .u8 50),(3,.int .u8 51),(4,.int .u8 52),(5,.int .u8 53),(6,.int .u8 54),(7,.int .u8 55),(8,.int .u8 56),(9,.int .u8 57),(10,.int .u8 58),(11,.int .u8 40),(12,.int .u8 41),(13,.int .u8 34),(14,.int .u8 92),(15,.int .u8 32),(16,.int .u8 97),(17,.int .u8 98),(18,.int .u8 99),(19,.int .u8 100),(20,.int .u8 101),(21,.int .u8 102),(22,.int .u8 0)] h=some (.slice (some (own h.next)) 23 23,h.new (.cells (bytesV L23) 5 none)):=by
 unfold abuildSlice
 simp only[qty31,qtz5]
 rfl
theorem once31 {k:Nat} {h:H} (hb:h.blk k=some (.cells (bytesV L23) 5 none)):aconvert tab E 31 31 (.slice (some (own k)) 23 23) h=some (.slice (some (own k)) 23 23,h):=by
 have hb':h.blk (own k).block=some (.cells (.int .u8 48::bytesV [49,50,51,52,53,54,55,56,57,58,40,41,34,92,32,97,98,99,100,101,102,0]) 5 none):=hb
 have hs:(own k).spot=some 0:=rfl
 unfold aconvert
 simp only[qty31,qty5,Nat.beq_refl,hs,hb']
theorem onceV {g:H} (f:Fit g) {a b c d:Value} (ho:[a,b,c,d].all isOne=true):∃ g1 g2,g.new (.cells (Value.agg #[.int .i64 0,.int .i64 0,.string ⟨#[]⟩,.slice none 0 0]).cells.toList 25 none)=g1∧astore tab 25 (own g.next) (.agg ⟨[a,b,c,d]⟩) g1=some g2∧Ahd g g2∧g2.cells E (own g.next) 4=some [a,b,c,d]:=by
 have t1:Ahd g (g.new (.cells (Value.agg #[.int .i64 0,.int .i64 0,.string ⟨#[]⟩,.slice none 0 0]).cells.toList 25 none)):=Ahd.new0 f rfl
 have b1:(g.new (.cells (Value.agg #[.int .i64 0,.int .i64 0,.string ⟨#[]⟩,.slice none 0 0]).cells.toList 25 none)).blk g.next=some (.cells zeroL 25 none):=new_blk_new rfl
 exact⟨_,_,rfl,astore_all qty25 b1 rfl rfl ho (by simp),t1.setl rfl (Nat.le_refl _) (t1.fit.lt b1) f,blk_cells (setl_same rfl) rfl ho⟩
theorem walk5 {K:Known} (k:Kn5 E K) {s0:Value} {l0:List Int} (hb0:Bin E H.empty s0 l0) (n2 n3:Nat) (h2:n2<65536) (h3:n3<256) :
  ∃ n h',(ev tab E K n).call 5 [s0,.int .u16 (n2:Nat),.int .u8 (n3:Nat)] H.empty=some (.bool true,h'):=by
 suffices hw:∃ n v h',(ev tab E K n).call 5 [s0,.int .u16 (n2:Nat),.int .u8 (n3:Nat)] H.empty=some (v,h')∧v=.bool true by
  obtain⟨n,v,h',h1,rfl⟩:=hw
  exact⟨n,h',h1⟩
 have f0:=sfit_empty
 have hm0:H.empty.mark=0:=rfl
 have hl0:H.empty.log=[]:=rfl
 generalize H.empty=g at hb0 f0 hm0 hl0 ⊢
 have hIE:∀ f args h,(f=25∨f=60∨f=61∨f=96∨f=97∨f=122∨f=127)→K f args h=none:=fun f args h hf=>k.out _ _ _ (by rcases hf with h|h|h|h|h|h|h<;>simp[h])
 have hIP:∀ f args h,(f=26∨f=62∨f=63∨f=64∨f=98∨f=100∨f=103)→K f args h=none:=fun f args h hf=>k.out _ _ _ (by rcases hf with h|h|h|h|h|h|h<;>simp[h])
 have hID:∀ f args h,(f=16∨f=49∨f=56∨f=120∨f=119∨f=118∨f=117∨f=90∨f=82∨f=81)→K f args h=none:=fun f args h hf=>k.out _ _ _ (by rcases hf with h|h|h|h|h|h|h|h|h|h<;>simp[h])
 have hIA:∀ f args h,(f=12∨f=49∨f=50∨f=85∨f=84∨f=83∨f=82∨f=81∨f=113∨f=114)→K f args h=none:=fun f args h hf=>k.out _ _ _ (by rcases hf with h|h|h|h|h|h|h|h|h|h<;>simp[h])
 obtain⟨nm,p,g1,x0,x1,x2,x3,g2,t,⟨c24,c23⟩,hone,a2,rt,sm,lv,sz⟩:=made5 (E:=E) (I:=K) (fun f args h hf=>k.out _ _ _ (by rcases hf with h|h|h|h|h|h|h|h<;>simp[h])) f0 hl0 hb0 6 20 (by decide) (by decide) (by decide)
 have c23:(ev tab E K nm).call 23 [p,.int .i64 20,.int .i64 6] g1=some (.agg ⟨[x0,x1,x2,x3]⟩,g2):=c23
 obtain⟨g3,g4,hh3,s7,t4,l7⟩:=onceV (E:=E) a2.fit hone
 have r4:=rep_grow t4.grows rt
 have fine:goodI t∧lvlI t≤250∧isz t≤5000:=⟨sm.good,by omega,by omega⟩
 have els:=encI_short sm (by omega)
 have pls:=prtI_short sm
 obtain⟨n25,_,g5,c25,⟨v8,rfl,m5,B8⟩⟩:=encode25 (E:=E) (I:=K) hIE k.kc t4.fit r4 fine (by omega)
 have B8:=B8.grow (only_grows m5.fit)
 have r5:=rep_grow m5.gof2 r4
 obtain⟨n26,_,g6,c26,rfl,m6⟩:=print26 (E:=E) (I:=K) hIP k.kp k.kc m5.fit r5 fine
 unfold prtV at c26
 rw[if_pos (by omega)] at c26
 have l75:=cells_grow m5.gof2 l7
 have B8:=B8.grow m6.gof2
 have epos:=encI_pos t
 have hen:encI t≠[]:=by intro e;rw[e] at epos;simp at epos
 have hpn:=prt_pos t
 have ppos:0<(prtI t).length:=List.length_pos_iff.2 hpn
 obtain⟨vb,vc,hv8⟩:=B8.slice
 have ln8:∀ h,alen tab 31 v8 h=some (.int .i64 ((encI t).length:Nat)):=fun h=>by rw[hv8];exact qlen31 _ _ _
 have ln10:∀ h,alen tab 9 (.string ⟨⟨prtI t⟩⟩) h=some (.int .i64 ((prtI t).length:Nat)):=fun h=>qlen9 _
 have e8:decide (((encI t).length:Int)=0)=false:=decide_eq_false (by omega)
 have e10:decide (((prtI t).length:Int)=0)=false:=decide_eq_false (by omega)
 apply Wk (k.out _ _ _ (by simp)) fn5 rfl
 intro A0 n0 d0 hA0
 change A0.n=139 at n0
 have q0:A0.get 0=s0:=hA0 0 _ rfl
 have q1:A0.get 1=.int .u16 (n2:Nat):=hA0 1 _ rfl
 have q2:A0.get 2=.int .u8 (n3:Nat):=hA0 2 _ rfl
 clear hA0
 (repeat' (with_reducible apply Ws));(apply Wn 1;focus ((repeat ((with_reducible apply Rr rfl);focus ((try simp +decide only[Oy,n0]);with_reducible rfl)));with_reducible exact Rn))
 (repeat' (with_reducible apply Ws));(apply Wn nm;focus ((repeat ((with_reducible apply Rr rfl);focus ((try simp +decide only[Oy,n0,q0,c24,c23,qtz25,hh3,s7]);with_reducible rfl)));with_reducible exact Rn))
 (repeat' (with_reducible apply Ws));(apply Wn n25;focus ((repeat ((with_reducible apply Rr rfl);focus ((try simp +decide only[Oy,n0,Qx,Hx,l7,c25]);with_reducible rfl)));with_reducible exact Rn))
 (repeat' (with_reducible apply Ws));(apply Wn n26;focus ((repeat ((with_reducible apply Rr rfl);focus ((try simp +decide only[Oy,n0,Qx,Hx,l75,c26]);with_reducible rfl)));with_reducible exact Rn))
 refine Wc.forget (fun A=>A.n=139∧A.defers=[]∧A.get 1=.int .u16 (n2:Nat)∧A.get 2=.int .u8 (n3:Nat)∧A.get 8=v8∧A.get 9=.int .i64 0∧A.get 10=.string ⟨⟨prtI t⟩⟩∧A.get 11=.int .i64 0) (by and_intros<;>simp +decide only[Gs,n0,d0,q1,q2]<;>rfl) ?_
 rintro A0 ⟨n0,d0,q1,q2,q8,q9,q10,q11⟩
 repeat' (with_reducible apply Wc.seq)
 (repeat' (with_reducible apply Ws));(apply Wn 1;focus ((repeat (first|((first|with_reducible apply Rr rfl|((with_reducible apply Rg);(focus rfl);(focus rfl);focus (simp +decide only[Gs,n0,q8,q9,q10,q11,ln8,ln10,e8,e10];done)));focus ((try simp +decide only[Oy,n0,q8,q9,q10,q11,ln8,ln10,e8,e10]);with_reducible rfl))|((with_reducible apply Rs);(focus rfl);(focus rfl);focus (simp +decide only[Gs,n0,q8,q9,q10,q11,ln8,ln10,e8,e10];done))));with_reducible exact Rn))
 repeat' (first|with_reducible apply Ws|(apply Wp;focus ((repeat ((with_reducible apply Rr rfl);focus ((try simp +decide only[Oy,n0]);with_reducible rfl)));with_reducible exact Rn))|(refine W2 (by simp +decide only[Cx,n0];try with_reducible rfl) (fun hb=>?_) (fun hb=>?_)<;>try contradiction)|apply W3|apply W4|apply W5|apply W6)
 obtain⟨n15,_,g7,c15,k12,rfl,t7,b12,ch12,hk12⟩:=clone15c (E:=E) (I:=K) (fun args h=>k.out _ _ _ (by simp)) m6.fit B8 (by omega) hen
 have hmk:g7.mark=0:=by rw[t7.mark,m6.mark,m5.mark,t4.mark,a2.mark,hm0]
 have w2:IntKind.i64.wrap (n2:Int)=(n2:Int):=wrap64 (by omega) (by omega)
 have w3:IntKind.i64.wrap (n3:Int)=(n3:Int):=wrap64 (by omega) (by omega)
 generalize hbs1:encI t=bs1 at b12 c15 els epos hen B8 ln8 e8 c25
 have ln12:∀ h,alen tab 31 (.slice (some (own k12)) bs1.length bs1.length) h=some (.int .i64 (bs1.length:Nat)):=fun h=>qlen31 _ _ _
 have r2:=remN n2 bs1.length (by omega)
 have hi:n2 % bs1.length<bs1.length:=Nat.mod_lt _ (by omega)
 generalize n2 % bs1.length=i at r2 hi
 have ia:=onceI (k:=k12) hi
 have ld:=row_cell (E:=E) b12 hi
 obtain⟨c,hxc⟩:=wrapU8_ex ((BitVec.ofInt IntKind.u8.bits ((bs1[i]).toNat:Nat) ^^^ BitVec.ofInt IntKind.u8.bits (n3:Nat)).toNat:Nat)
 have xr:aint .xor .u8 ((bs1[i]).toNat:Nat) (n3:Nat)=some (.int .u8 (c.toNat:Nat)):=by
  rw[← hxc];rfl
 obtain⟨q7,st7,f7,b12,ho7,nx7,mk7⟩:=set5 t7.fit b12 ch12 hi (by omega) c
 have hl2:(bs1.set i c).length=bs1.length:=List.length_set ..
 generalize hbs2:bs1.set i c=bs2 at b12 hl2
 rw[← hl2] at ln12 c15
 (repeat' (with_reducible apply Ws));(apply Wn n15;focus ((repeat ((with_reducible apply Rr rfl);focus ((try simp +decide only[Oy,n0,q8,c15]);with_reducible rfl)));with_reducible exact Rn))
 refine Wc.forget (fun A=>A.n=139∧A.defers=[]∧A.get 1=.int .u16 (n2:Nat)∧A.get 2=.int .u8 (n3:Nat)∧A.get 10=.string ⟨⟨prtI t⟩⟩∧A.get 12=.slice (some (own k12)) bs2.length bs2.length) (by and_intros<;>simp +decide only[Gs,n0,d0,q1,q2,q10]<;>rfl) ?_
 rintro A0 ⟨n0,d0,q1,q2,q10,q12⟩
 repeat' (with_reducible apply Wc.seq)
 rw[← hl2] at r2 ia
 (repeat' (with_reducible apply Ws));(apply Wn 1;focus ((repeat ((with_reducible apply Rr rfl);focus ((try simp +decide only[Ot,n0,q1,q2,q12,qcv40_3,w2,ln12,r2,ia,Qx,Hx,ld,xr,st7]);with_reducible rfl)));with_reducible exact Rn))
 generalize hbt:prtI t=bt at*
 generalize hh8:q7.newOpen (bytesV bt) 5=g8
 have cv8:aconvert tab E 9 31 (.string ⟨⟨bt⟩⟩) q7=some (.slice (some (own q7.next)) bt.length bt.length,g8):=by rw[← hh8];exact qcv9_31 _
 have t8:Ahd q7 g8:=by rw[← hh8];exact Ahd.newOpen f7 _ _
 have b13:g8.blk q7.next=some (.cells (bytesV bt) 5 (some (q7.next,0))):=by rw[← hh8];exact newOpen_new
 have ch13:g8.chain q7.next=[q7.next]:=by rw[← hh8];simp only[H.chain,H.newOpen,T.get_set_same,Option.getD]
 have b12:=t8.grows _ _ b12
 have lt12:k12<q7.next:=by rw[nx7];exact t7.fit.lt (by assumption)
 generalize q7.next=k13 at*
 (repeat' (with_reducible apply Ws));(apply Wn 1;focus ((repeat ((with_reducible apply Rr rfl);focus ((try simp +decide only[Oy,n0,q10,cv8]);with_reducible rfl)));with_reducible exact Rn))
 refine Wc.forget (fun A=>A.n=139∧A.defers=[]∧A.get 1=.int .u16 (n2:Nat)∧A.get 2=.int .u8 (n3:Nat)∧A.get 12=.slice (some (own k12)) bs2.length bs2.length∧A.get 13=.slice (some (own k13)) bt.length bt.length) (by and_intros<;>simp +decide only[Gs,n0,d0,q1,q2,q12]<;>rfl) ?_
 rintro A0 ⟨n0,d0,q1,q2,q12,q13⟩
 generalize hh9:g8.new (.cells (bytesV L23) 5 none)=g9
 have t9:Ahd g8 g9:=by rw[← hh9];exact Ahd.new0 t8.fit rfl
 have b71:g9.blk g8.next=some (.cells (bytesV L23) 5 none):=by rw[← hh9];exact new_blk_new rfl
 have b12:=t9.grows _ _ b12
 have b13:=t9.grows _ _ b13
 have ch13:g9.chain k13=[k13]:=(t9.chain _ (t8.fit.lt (by assumption))).trans ch13
 have ln13:∀ h,alen tab 31 (.slice (some (own k13)) bt.length bt.length) h=some (.int .i64 (bt.length:Nat)):=fun h=>qlen31 _ _ _
 have r9:=remN n2 bt.length (by omega)
 have hj:n2 % bt.length<bt.length:=Nat.mod_lt _ (by omega)
 generalize n2 % bt.length=j at r9 hj
 have r23:aint .rem .i64 (n3:Nat) 23=some (.int .i64 ((n3 % 23:Nat):Int)):=remN n3 23 (by decide)
 have h23:n3 % 23<L23.length:=Nat.mod_lt _ (by decide)
 generalize n3 % 23=m at r23 h23
 have ia2:aindexAddr tab 31 (.slice (some (own g8.next)) 23 23) (.int .i64 (m:Nat))=some (.pointer (some (aadd (own g8.next) m))):=onceI h23
 have ia3:=onceI (k:=k13) hj
 have ld2:=row_cell (E:=E) b71 h23
 have cv9:=once31 (E:=E) (h:=fresh g9) b71
 obtain⟨qq,st9,f10,b13,ho10⟩:=set5d t9.fit b13 ch13 hj (L23[m])
 have hl3:(bt.set j (L23[m])).length=bt.length:=List.length_set ..
 generalize bt.set j (L23[m])=bs3 at b13 hl3
 generalize L23[m]=cm at ld2 st9
 have b12:=(ho10 k12 (by omega)).trans b12
 repeat' (with_reducible apply Wc.seq)
 refine Wc.drawQ 1 (by kernel_rfl) ?_
 (iterate 6 ((first|apply Qp rfl rfl rfl|apply FQ.new rfl rfl);focus ((try simp +decide only[Ot,n0,q1,q2,q13,qcv40_3,w2,ln13,r9]);with_reducible rfl)))
 refine FQ.new (B:=.cells (bytesV L23) 5 none) rfl rfl (by simp +decide only[Oy,n0,once23,Hx];with_reducible rfl) ?_
 rw[hh9]
 (iterate 7 ((first|apply Qp rfl rfl rfl|apply FQ.new rfl rfl);focus ((try simp +decide only[Ot,n0,q2,q13,Hx,Qx,cv9,qcv5_3,w3,r23,ia2,ia3,ld2]);with_reducible rfl)))
 refine FQ.mod (h1:=qq) (x:=undef) rfl rfl (by simp +decide only[Oy,n0,st9]) ?_
 refine FQ.nil ⟨?_,?_⟩
 ·refine allMeet_last (l:=[_,_,_,_,_,_,_,_,_,_,_,_,_,_]) ?_ (by kernel_rfl)
  simp only[List.all_cons,calm,List.isEmpty_nil,Bool.true_and,List.all_nil,Bool.and_true]
  rfl
 generalize back g9 qq=g10 at f10 b12 b13
 rw[← hl3] at q13
 refine Wc.forget (fun A=>A.n=139∧A.defers=[]∧A.get 12=.slice (some (own k12)) bs2.length bs2.length∧A.get 13=.slice (some (own k13)) bs3.length bs3.length) (by and_intros<;>simp +decide only[Gs,n0,d0,q12,q13]<;>rfl) ?_
 rintro A0 ⟨n0,d0,q12,q13⟩
 repeat' (with_reducible apply Wc.seq)
 obtain⟨n16,_,g11,c16,m11,hd⟩:=dec16 (E:=E) (I:=K) hID f10 (row_byt b12) (by omega)
 have B12:=(row_byt (E:=E) b12).grow m11.gof2
 have B13:=(row_byt (E:=E) b13).grow m11.gof2
 have hlb:bs3.length≤1000000:=by omega
 clear b12 b13 ho10
 cases hdr:decR bs2 with
 | ok t' pp it=>
  rw[hdr] at hd
  obtain⟨l,rfl,rl⟩:=hd
  obtain⟨d1,d2,d3⟩:=decR_ok hdr
  have db:=decR_back hdr
  obtain⟨l0',l1,l2,l3,hl4,ol⟩:=item_four' rl
  cases hl4
  obtain⟨g12,g13,hh12,s14,t13,l14⟩:=onceV (E:=E) m11.fit ol
  have r13:=rep_grow t13.grows rl
  obtain⟨n25b,_,g14,c25b,⟨v16,rfl,m14,B16⟩⟩:=encode25 (E:=E) (I:=K) hIE k.kc t13.fit r13 ⟨d3,d1,d2⟩ (by rw[db];omega)
  have B16:=B16.grow (only_grows m14.fit)
  rw[db] at B16
  have B12:=(B12.grow t13.grows).grow m14.gof2
  have B13:=(B13.grow t13.grows).grow m14.gof2
  obtain⟨n22,c22⟩:=equal22 (E:=E) (I:=K) (fun args h=>k.out _ _ _ (by simp)) B12 B16
  (repeat' (with_reducible apply Ws));(apply Wn n16;focus ((repeat ((with_reducible apply Rr rfl);focus ((try simp +decide only[Oy,n0,q12,c16,qtz25,hh12,s14]);with_reducible rfl)));with_reducible exact Rn))
  (repeat' (with_reducible apply Ws));(apply Wn 1;focus ((repeat ((with_reducible apply Rr rfl);focus ((try simp +decide only[Oy,n0]);with_reducible rfl)));with_reducible exact Rn))
  repeat' (first|with_reducible apply Ws|(apply Wp;focus ((repeat ((with_reducible apply Rr rfl);focus ((try simp +decide only[Oy,n0]);with_reducible rfl)));with_reducible exact Rn))|(refine W2 (by simp +decide only[Cx,n0];try with_reducible rfl) (fun hb=>?_) (fun hb=>?_)<;>try contradiction)|apply W3|apply W4|apply W5|apply W6)
  (repeat' (with_reducible apply Ws));(apply Wn n25b;focus ((repeat ((with_reducible apply Rr rfl);focus ((try simp +decide only[Oy,n0,Qx,Hx,l14,c25b]);with_reducible rfl)));with_reducible exact Rn))
  (repeat' (with_reducible apply Ws));(apply Wn n22;focus ((repeat (first|((first|with_reducible apply Rr rfl|((with_reducible apply Rg);(focus rfl);(focus rfl);focus (simp +decide only[Gs,n0,q12,c22];done)));focus ((try simp +decide only[Oy,n0,q12,c22]);with_reducible rfl))|((with_reducible apply Rs);(focus rfl);(focus rfl);focus (simp +decide only[Gs,n0,q12,c22];done))));with_reducible exact Rn))
  repeat' (first|with_reducible apply Ws|(apply Wp;focus ((repeat ((with_reducible apply Rr rfl);focus ((try simp +decide only[Oy,n0]);with_reducible rfl)));with_reducible exact Rn))|(refine W2 (by simp +decide only[Cx,n0];try with_reducible rfl) (fun hb=>?_) (fun hb=>?_)<;>try contradiction)|apply W3|apply W4|apply W5|apply W6)
  refine Wc.forget (fun A=>A.n=139∧A.defers=[]∧A.get 13=.slice (some (own k13)) bs3.length bs3.length) (by and_intros<;>simp +decide only[Gs,n0,d0,q13]<;>rfl) ?_
  rintro A0 ⟨n0,d0,q13⟩
  repeat' (with_reducible apply Wc.seq)
  have fX:=m14.fit
  have cvp:=qcv31_9 B13
  have ln13:∀ h,alen tab 31 (.slice (some (own k13)) bs3.length bs3.length) h=some (.int .i64 (bs3.length:Nat)):=fun h=>qlen31 _ _ _
  obtain⟨n12,_,g15,c12,m15,hp⟩:=parse12 (E:=E) (I:=K) hIA k.kp.toKq fX hlb
  have B13:=B13.grow m15.gof2
  cases hpr:prsR bs3 with
  | ok u pq iq=>
   rw[hpr] at hp
   obtain⟨lu,rfl,ru⟩:=hp
   obtain⟨pb,u1,u2,u3,u4⟩:=prsR_back hpr
   obtain⟨y0,y1,y2,y3,hy,oy⟩:=item_four' ru
   cases hy
   obtain⟨g16,g17,hh16,s18,t17,l18⟩:=onceV (E:=E) m15.fit oy
   have r17:=rep_grow t17.grows ru
   obtain⟨n26b,_,g18,c26b,rfl,m18⟩:=print26 (E:=E) (I:=K) hIP k.kp k.kc t17.fit r17 ⟨u3,u1,u2⟩
   unfold prtV at c26b
   rw[pb,if_pos u4] at c26b
   have cvq:=qcv31_9 ((B13.grow t17.grows).grow m18.gof2)
   have c11:=ev_known (D:=tab) (E:=E) (k.k11 g18)
   (repeat' (with_reducible apply Ws));(apply Wn n12;focus ((repeat ((with_reducible apply Rr rfl);focus ((try simp +decide only[Oy,n0,q13,cvp,c12,qtz25,hh16,s18]);with_reducible rfl)));with_reducible exact Rn))
   (repeat' (with_reducible apply Ws));(apply Wn 1;focus ((repeat ((with_reducible apply Rr rfl);focus ((try simp +decide only[Oy,n0]);with_reducible rfl)));with_reducible exact Rn))
   repeat' (first|with_reducible apply Ws|(apply Wp;focus ((repeat ((with_reducible apply Rr rfl);focus ((try simp +decide only[Oy,n0]);with_reducible rfl)));with_reducible exact Rn))|(refine W2 (by simp +decide only[Cx,n0];try with_reducible rfl) (fun hb=>?_) (fun hb=>?_)<;>try contradiction)|apply W3|apply W4|apply W5|apply W6)
   (repeat' (with_reducible apply Ws));(apply Wn n26b;focus ((repeat ((with_reducible apply Rr rfl);focus ((try simp +decide only[Oy,n0,Qx,Hx,l18,c26b]);with_reducible rfl)));with_reducible exact Rn))
   (repeat' (with_reducible apply Ws));(apply Wn 1;focus ((repeat (first|((first|with_reducible apply Rr rfl|((with_reducible apply Rg);(focus rfl);(focus rfl);focus (simp +decide only[Gs,n0,q13,cvq,astr,beq_self_eq_true,Bool.not_true];done)));focus ((try simp +decide only[Oy,n0,q13,cvq,astr,beq_self_eq_true,Bool.not_true]);with_reducible rfl))|((with_reducible apply Rs);(focus rfl);(focus rfl);focus (simp +decide only[Gs,n0,q13,cvq,astr,beq_self_eq_true,Bool.not_true];done))));with_reducible exact Rn))
   repeat' (first|with_reducible apply Ws|(apply Wp;focus ((repeat ((with_reducible apply Rr rfl);focus ((try simp +decide only[Oy,n0]);with_reducible rfl)));with_reducible exact Rn))|(refine W2 (by simp +decide only[Cx,n0];try with_reducible rfl) (fun hb=>?_) (fun hb=>?_)<;>try contradiction)|apply W3|apply W4|apply W5|apply W6)
   repeat' (first|with_reducible apply Ws|(apply Wn 1;focus ((repeat ((with_reducible apply Rr rfl);focus ((try simp +decide only[Oy,n0,c11]);with_reducible rfl)));with_reducible exact Rn))|(refine W2 (by simp +decide only[Cx,n0];try with_reducible rfl) (fun hb=>?_) (fun hb=>?_)<;>try contradiction)|apply W3|apply W4|apply W5|apply W6)
   exact done_q (v:=.bool true) (.inr rfl) (by simp +decide only[Gs,d0]) rfl (by simp +decide only[Gs,n0]) rfl
  | bad pq e=>
   rw[hpr] at hp
   obtain rfl:=hp
   obtain⟨u1,u2⟩:=prsR_pos hpr
   obtain⟨g16,g17,hh16,s18,t17,l18⟩:=onceV (E:=E) m15.fit (a:=.int .i64 0) (b:=.int .i64 0) (c:=.string ⟨#[]⟩) (d:=.slice none 0 0) rfl
   have s18:astore tab 25 (own g15.next) (.agg ⟨zeroL⟩) g16=some g17:=s18
   have e4:decide (e=0)=false:=decide_eq_false u2
   have e5:decide ((pq:Int)<0)=false:=decide_eq_false (by omega)
   have e6:decide ((pq:Int)>(bs3.length:Int))=false:=decide_eq_false (by omega)
   have c11:=ev_known (D:=tab) (E:=E) (k.k11 g17)
   (repeat' (with_reducible apply Ws));(apply Wn n12;focus ((repeat ((with_reducible apply Rr rfl);focus ((try simp +decide only[Oy,n0,q13,cvp,c12,qtz25,hh16,s18]);with_reducible rfl)));with_reducible exact Rn))
   (repeat' (with_reducible apply Ws));(apply Wn 1;focus ((repeat ((with_reducible apply Rr rfl);focus ((try simp +decide only[Oy,n0,e4]);with_reducible rfl)));with_reducible exact Rn))
   repeat' (first|with_reducible apply Ws|(apply Wp;focus ((repeat ((with_reducible apply Rr rfl);focus ((try simp +decide only[Oy,n0]);with_reducible rfl)));with_reducible exact Rn))|(refine W2 (by simp +decide only[Cx,n0];try with_reducible rfl) (fun hb=>?_) (fun hb=>?_)<;>try contradiction)|apply W3|apply W4|apply W5|apply W6)
   (repeat' (with_reducible apply Ws));(apply Wn 1;focus ((repeat (first|((first|with_reducible apply Rr rfl|((with_reducible apply Rg);(focus rfl);(focus rfl);focus (simp +decide only[Gs,n0,q13,e5,e6,ln13];done)));focus ((try simp +decide only[Oy,n0,q13,e5,e6,ln13]);with_reducible rfl))|((with_reducible apply Rs);(focus rfl);(focus rfl);focus (simp +decide only[Gs,n0,q13,e5,e6,ln13];done))));with_reducible exact Rn))
   repeat' (first|with_reducible apply Ws|(apply Wp;focus ((repeat ((with_reducible apply Rr rfl);focus ((try simp +decide only[Oy,n0]);with_reducible rfl)));with_reducible exact Rn))|(refine W2 (by simp +decide only[Cx,n0];try with_reducible rfl) (fun hb=>?_) (fun hb=>?_)<;>try contradiction)|apply W3|apply W4|apply W5|apply W6)
   repeat' (first|with_reducible apply Ws|(apply Wn 1;focus ((repeat ((with_reducible apply Rr rfl);focus ((try simp +decide only[Oy,n0,c11]);with_reducible rfl)));with_reducible exact Rn))|(refine W2 (by simp +decide only[Cx,n0];try with_reducible rfl) (fun hb=>?_) (fun hb=>?_)<;>try contradiction)|apply W3|apply W4|apply W5|apply W6)
   exact done_q (v:=.bool true) (.inr rfl) (by simp +decide only[Gs,d0]) rfl (by simp +decide only[Gs,n0]) rfl
 | bad pp e=>
  rw[hdr] at hd
  obtain rfl:=hd
  obtain⟨d1,d2⟩:=decR_pos hdr
  obtain⟨g12,g14,hh12,s14,t13,l14⟩:=onceV (E:=E) m11.fit (a:=.int .i64 0) (b:=.int .i64 0) (c:=.string ⟨#[]⟩) (d:=.slice none 0 0) rfl
  have s14:astore tab 25 (own g11.next) (.agg ⟨zeroL⟩) g12=some g14:=s14
  have B13:=B13.grow t13.grows
  have e1:decide (e=0)=false:=decide_eq_false d2
  have e2:decide ((pp:Int)<0)=false:=decide_eq_false (by omega)
  have e3:decide ((pp:Int)>(bs2.length:Int))=false:=decide_eq_false (by omega)
  (repeat' (with_reducible apply Ws));(apply Wn n16;focus ((repeat ((with_reducible apply Rr rfl);focus ((try simp +decide only[Oy,n0,q12,c16,qtz25,hh12,s14]);with_reducible rfl)));with_reducible exact Rn))
  (repeat' (with_reducible apply Ws));(apply Wn 1;focus ((repeat ((with_reducible apply Rr rfl);focus ((try simp +decide only[Oy,n0,e1]);with_reducible rfl)));with_reducible exact Rn))
  repeat' (first|with_reducible apply Ws|(apply Wp;focus ((repeat ((with_reducible apply Rr rfl);focus ((try simp +decide only[Oy,n0]);with_reducible rfl)));with_reducible exact Rn))|(refine W2 (by simp +decide only[Cx,n0];try with_reducible rfl) (fun hb=>?_) (fun hb=>?_)<;>try contradiction)|apply W3|apply W4|apply W5|apply W6)
  (repeat' (with_reducible apply Ws));(apply Wn 1;focus ((repeat (first|((first|with_reducible apply Rr rfl|((with_reducible apply Rg);(focus rfl);(focus rfl);focus (simp +decide only[Gs,n0,q12,e2,e3,ln12];done)));focus ((try simp +decide only[Oy,n0,q12,e2,e3,ln12]);with_reducible rfl))|((with_reducible apply Rs);(focus rfl);(focus rfl);focus (simp +decide only[Gs,n0,q12,e2,e3,ln12];done))));with_reducible exact Rn))
  repeat' (first|with_reducible apply Ws|(apply Wp;focus ((repeat ((with_reducible apply Rr rfl);focus ((try simp +decide only[Oy,n0]);with_reducible rfl)));with_reducible exact Rn))|(refine W2 (by simp +decide only[Cx,n0];try with_reducible rfl) (fun hb=>?_) (fun hb=>?_)<;>try contradiction)|apply W3|apply W4|apply W5|apply W6)
  refine Wc.forget (fun A=>A.n=139∧A.defers=[]∧A.get 13=.slice (some (own k13)) bs3.length bs3.length) (by and_intros<;>simp +decide only[Gs,n0,d0,q13]<;>rfl) ?_
  rintro A0 ⟨n0,d0,q13⟩
  repeat' (with_reducible apply Wc.seq)
  have fX:=t13.fit
  have cvp:=qcv31_9 B13
  have ln13:∀ h,alen tab 31 (.slice (some (own k13)) bs3.length bs3.length) h=some (.int .i64 (bs3.length:Nat)):=fun h=>qlen31 _ _ _
  obtain⟨n12,_,g15,c12,m15,hp⟩:=parse12 (E:=E) (I:=K) hIA k.kp.toKq fX hlb
  have B13:=B13.grow m15.gof2
  cases hpr:prsR bs3 with
  | ok u pq iq=>
   rw[hpr] at hp
   obtain⟨lu,rfl,ru⟩:=hp
   obtain⟨pb,u1,u2,u3,u4⟩:=prsR_back hpr
   obtain⟨y0,y1,y2,y3,hy,oy⟩:=item_four' ru
   cases hy
   obtain⟨g16,g17,hh16,s18,t17,l18⟩:=onceV (E:=E) m15.fit oy
   have r17:=rep_grow t17.grows ru
   obtain⟨n26b,_,g18,c26b,rfl,m18⟩:=print26 (E:=E) (I:=K) hIP k.kp k.kc t17.fit r17 ⟨u3,u1,u2⟩
   unfold prtV at c26b
   rw[pb,if_pos u4] at c26b
   have cvq:=qcv31_9 ((B13.grow t17.grows).grow m18.gof2)
   have c11:=ev_known (D:=tab) (E:=E) (k.k11 g18)
   (repeat' (with_reducible apply Ws));(apply Wn n12;focus ((repeat ((with_reducible apply Rr rfl);focus ((try simp +decide only[Oy,n0,q13,cvp,c12,qtz25,hh16,s18]);with_reducible rfl)));with_reducible exact Rn))
   (repeat' (with_reducible apply Ws));(apply Wn 1;focus ((repeat ((with_reducible apply Rr rfl);focus ((try simp +decide only[Oy,n0]);with_reducible rfl)));with_reducible exact Rn))
   repeat' (first|with_reducible apply Ws|(apply Wp;focus ((repeat ((with_reducible apply Rr rfl);focus ((try simp +decide only[Oy,n0]);with_reducible rfl)));with_reducible exact Rn))|(refine W2 (by simp +decide only[Cx,n0];try with_reducible rfl) (fun hb=>?_) (fun hb=>?_)<;>try contradiction)|apply W3|apply W4|apply W5|apply W6)
   (repeat' (with_reducible apply Ws));(apply Wn n26b;focus ((repeat ((with_reducible apply Rr rfl);focus ((try simp +decide only[Oy,n0,Qx,Hx,l18,c26b]);with_reducible rfl)));with_reducible exact Rn))
   (repeat' (with_reducible apply Ws));(apply Wn 1;focus ((repeat (first|((first|with_reducible apply Rr rfl|((with_reducible apply Rg);(focus rfl);(focus rfl);focus (simp +decide only[Gs,n0,q13,cvq,astr,beq_self_eq_true,Bool.not_true];done)));focus ((try simp +decide only[Oy,n0,q13,cvq,astr,beq_self_eq_true,Bool.not_true]);with_reducible rfl))|((with_reducible apply Rs);(focus rfl);(focus rfl);focus (simp +decide only[Gs,n0,q13,cvq,astr,beq_self_eq_true,Bool.not_true];done))));with_reducible exact Rn))
   repeat' (first|with_reducible apply Ws|(apply Wp;focus ((repeat ((with_reducible apply Rr rfl);focus ((try simp +decide only[Oy,n0]);with_reducible rfl)));with_reducible exact Rn))|(refine W2 (by simp +decide only[Cx,n0];try with_reducible rfl) (fun hb=>?_) (fun hb=>?_)<;>try contradiction)|apply W3|apply W4|apply W5|apply W6)
   repeat' (first|with_reducible apply Ws|(apply Wn 1;focus ((repeat ((with_reducible apply Rr rfl);focus ((try simp +decide only[Oy,n0,c11]);with_reducible rfl)));with_reducible exact Rn))|(refine W2 (by simp +decide only[Cx,n0];try with_reducible rfl) (fun hb=>?_) (fun hb=>?_)<;>try contradiction)|apply W3|apply W4|apply W5|apply W6)
   exact done_q (v:=.bool true) (.inr rfl) (by simp +decide only[Gs,d0]) rfl (by simp +decide only[Gs,n0]) rfl
  | bad pq e=>
   rw[hpr] at hp
   obtain rfl:=hp
   obtain⟨u1,u2⟩:=prsR_pos hpr
   obtain⟨g16,g17,hh16,s18,t17,l18⟩:=onceV (E:=E) m15.fit (a:=.int .i64 0) (b:=.int .i64 0) (c:=.string ⟨#[]⟩) (d:=.slice none 0 0) rfl
   have s18:astore tab 25 (own g15.next) (.agg ⟨zeroL⟩) g16=some g17:=s18
   have e4:decide (e=0)=false:=decide_eq_false u2
   have e5:decide ((pq:Int)<0)=false:=decide_eq_false (by omega)
   have e6:decide ((pq:Int)>(bs3.length:Int))=false:=decide_eq_false (by omega)
   have c11:=ev_known (D:=tab) (E:=E) (k.k11 g17)
   (repeat' (with_reducible apply Ws));(apply Wn n12;focus ((repeat ((with_reducible apply Rr rfl);focus ((try simp +decide only[Oy,n0,q13,cvp,c12,qtz25,hh16,s18]);with_reducible rfl)));with_reducible exact Rn))
   (repeat' (with_reducible apply Ws));(apply Wn 1;focus ((repeat ((with_reducible apply Rr rfl);focus ((try simp +decide only[Oy,n0,e4]);with_reducible rfl)));with_reducible exact Rn))
   repeat' (first|with_reducible apply Ws|(apply Wp;focus ((repeat ((with_reducible apply Rr rfl);focus ((try simp +decide only[Oy,n0]);with_reducible rfl)));with_reducible exact Rn))|(refine W2 (by simp +decide only[Cx,n0];try with_reducible rfl) (fun hb=>?_) (fun hb=>?_)<;>try contradiction)|apply W3|apply W4|apply W5|apply W6)
   (repeat' (with_reducible apply Ws));(apply Wn 1;focus ((repeat (first|((first|with_reducible apply Rr rfl|((with_reducible apply Rg);(focus rfl);(focus rfl);focus (simp +decide only[Gs,n0,q13,e5,e6,ln13];done)));focus ((try simp +decide only[Oy,n0,q13,e5,e6,ln13]);with_reducible rfl))|((with_reducible apply Rs);(focus rfl);(focus rfl);focus (simp +decide only[Gs,n0,q13,e5,e6,ln13];done))));with_reducible exact Rn))
   repeat' (first|with_reducible apply Ws|(apply Wp;focus ((repeat ((with_reducible apply Rr rfl);focus ((try simp +decide only[Oy,n0]);with_reducible rfl)));with_reducible exact Rn))|(refine W2 (by simp +decide only[Cx,n0];try with_reducible rfl) (fun hb=>?_) (fun hb=>?_)<;>try contradiction)|apply W3|apply W4|apply W5|apply W6)
   repeat' (first|with_reducible apply Ws|(apply Wn 1;focus ((repeat ((with_reducible apply Rr rfl);focus ((try simp +decide only[Oy,n0,c11]);with_reducible rfl)));with_reducible exact Rn))|(refine W2 (by simp +decide only[Cx,n0];try with_reducible rfl) (fun hb=>?_) (fun hb=>?_)<;>try contradiction)|apply W3|apply W4|apply W5|apply W6)
   exact done_q (v:=.bool true) (.inr rfl) (by simp +decide only[Gs,d0]) rfl (by simp +decide only[Gs,n0]) rfl
set_option maxHeartbeats 4000000
theorem osaid_out {S:Says} {I:Known} {f:FuncId} {args:List Value} {h:H} {fs:List Nat} (hS:∀ s f args h v,S s f args h v→f∈fs) (hf:fs.any (Nat.beq f)=false):saidBy S I f args h=I f args h:=by
 unfold saidBy
 rw[dif_neg]
 rintro⟨v,s,h1⟩
 rw[List.any_eq_false] at hf
 exact hf f (hS _ _ _ _ _ h1) (by simp)
theorem obase_out {f:FuncId} {args:List Value} {h:H} (hf:([123,130]:List Nat).any (Nat.beq f)=false):I0 f args h=none:=by
 simp only[List.any_cons,List.any_nil,Bool.or_eq_false_iff] at hf
 unfold I0
 rw[hf.1,hf.2.1]
variable {n0:Nat}
noncomputable def O35 (E:Env):Known:=saidBy (says35 E) (I0)
theorem O35_out {E:Env} {f:FuncId} {args:List Value} {h:H} (hf:([35]:List Nat).any (Nat.beq f)=false):O35 E f args h=(I0) f args h:=osaid_out (fs:=[35]) (fun s f args h v hs=>by rw[hs.1];exact List.mem_singleton.2 rfl) hf
theorem O35_good (E:Env):KnownGood Tryd.prog tab E n0 (O35 E):=saidByF_good tab_of noNum (known0 E n0) (shown35 (fun f args h hf=>by rcases hf with rfl|rfl|rfl|rfl<;>exact obase_out (by decide)))
theorem O35_none {E:Env} {f:FuncId} {args:List Value} {h:H} (hf:([35,123,130]:List Nat).any (Nat.beq f)=false):O35 E f args h=none:=by
 rw[show ([35,123,130]:List Nat)=[35]++[123,130] from rfl,List.any_append,Bool.or_eq_false_iff] at hf
 exact (O35_out hf.1).trans (obase_out hf.2)
noncomputable def O65 (E:Env):Known:=saidBy (says65 E) (O35 E)
theorem O65_out {E:Env} {f:FuncId} {args:List Value} {h:H} (hf:([65]:List Nat).any (Nat.beq f)=false):O65 E f args h=(O35 E) f args h:=osaid_out (fs:=[65]) (fun s f args h v hs=>by rw[hs.1];exact List.mem_singleton.2 rfl) hf
theorem O65_good (E:Env):KnownGood Tryd.prog tab E n0 (O65 E):=saidByF_good tab_of noNum (O35_good E) (shown65 (fun a h=>O35_none (by decide)) (fun t xv h hr hz=>(saidBy_eq (one35 E) ⟨rfl,rfl,t,xv,rfl,hr,hz,rfl⟩)))
theorem O65_none {E:Env} {f:FuncId} {args:List Value} {h:H} (hf:([65,35,123,130]:List Nat).any (Nat.beq f)=false):O65 E f args h=none:=by
 rw[show ([65,35,123,130]:List Nat)=[65]++[35,123,130] from rfl,List.any_append,Bool.or_eq_false_iff] at hf
 exact (O65_out hf.1).trans (O35_none hf.2)
noncomputable def O101 (E:Env):Known:=saidBy (says101) (O65 E)
theorem O101_out {E:Env} {f:FuncId} {args:List Value} {h:H} (hf:([101,102]:List Nat).any (Nat.beq f)=false):O101 E f args h=(O65 E) f args h:=osaid_out (fs:=[101,102]) (fun s f args h v hs=>by rcases hs with⟨rfl,_⟩|⟨rfl,_⟩<;>decide) hf
theorem O101_good (E:Env):KnownGood Tryd.prog tab E n0 (O101 E):=saidByF_good tab_of noNum (O65_good E) (shown101 (fun f args h hf=>by rcases hf with rfl|rfl<;>exact O65_none (by decide)))
theorem O101_none {E:Env} {f:FuncId} {args:List Value} {h:H} (hf:([101,102,65,35,123,130]:List Nat).any (Nat.beq f)=false):O101 E f args h=none:=by
 rw[show ([101,102,65,35,123,130]:List Nat)=[101,102]++[65,35,123,130] from rfl,List.any_append,Bool.or_eq_false_iff] at hf
 exact (O101_out hf.1).trans (O65_none hf.2)
noncomputable def O99 (E:Env):Known:=saidBy (says99) (O101 E)
theorem O99_out {E:Env} {f:FuncId} {args:List Value} {h:H} (hf:([99]:List Nat).any (Nat.beq f)=false):O99 E f args h=(O101 E) f args h:=osaid_out (fs:=[99]) (fun s f args h v hs=>by rw[hs.1];exact List.mem_singleton.2 rfl) hf
theorem O99_good (E:Env) (hP:PowT E):KnownGood Tryd.prog tab E n0 (O99 E):=saidByF_good tab_of noNum (O101_good E) (shown99 hP (fun f args h hf=>by rcases hf with rfl|rfl|rfl|rfl|rfl|rfl|rfl|rfl|rfl<;>exact O101_none (by decide)))
theorem O99_none {E:Env} {f:FuncId} {args:List Value} {h:H} (hf:([99,101,102,65,35,123,130]:List Nat).any (Nat.beq f)=false):O99 E f args h=none:=by
 rw[show ([99,101,102,65,35,123,130]:List Nat)=[99]++[101,102,65,35,123,130] from rfl,List.any_append,Bool.or_eq_false_iff] at hf
 exact (O99_out hf.1).trans (O101_none hf.2)
noncomputable def Olaw (E:Env):Known:=fun f args h=>match Nat.beq f 11,args with
 | true,[]=>some (some (.bool true,h))
 | true,_=>none
 | false,_=>(O99 E) f args h
theorem Olaw_out {E:Env} {f:FuncId} {args:List Value} {h:H} (hf:([11]:List Nat).any (Nat.beq f)=false):Olaw E f args h=(O99 E) f args h:=by
 have:Nat.beq f 11=false:=by simpa using hf
 unfold Olaw
 rw[this]
theorem Olaw_good {E:Env} (hE:∀ b o v,E0 b o=some v→E b o=some v) (hP:PowT E):KnownGood Tryd.prog tab E n0 (Olaw E):=by
 have key:∀ {f args h r},Olaw E f args h=some (some r)→(f=11∧args=[]∧r=(.bool true,h))∨O99 E f args h=some (some r):=by
  intro f args h r hh
  unfold Olaw at hh
  split at hh
  ·next e=>cases hh;exact .inl ⟨Nat.eq_of_beq_eq_true e,rfl,rfl⟩
  ·cases hh
  ·exact .inr hh
 have hB:=O99_good (n0:=n0) E hP
 refine⟨fun f args h r h' hi φ w R hok => ?_,fun f args h r h' hi o => ?_,fun f args h r h' hi => ?_⟩
 ·rcases key hi with⟨rfl,rfl,he⟩|h1
  ·cases he;exact awake_sim hE R
  ·exact hB.sim _ _ _ _ _ h1 φ w R hok
 ·rcases key hi with⟨rfl,rfl,he⟩|h1
  ·cases he;exact Lg.refl o
  ·exact hB.lg _ _ _ _ _ h1 o
 ·rcases key hi with⟨rfl,rfl,he⟩|h1
  ·cases he;exact Nat.le_refl _
  ·exact hB.next _ _ _ _ _ h1
theorem Olaw_none {E:Env} {f:FuncId} {args:List Value} {h:H} (hf:([11,99,101,102,65,35,123,130]:List Nat).any (Nat.beq f)=false):Olaw E f args h=none:=by
 rw[show ([11,99,101,102,65,35,123,130]:List Nat)=[11]++[99,101,102,65,35,123,130] from rfl,List.any_append,Bool.or_eq_false_iff] at hf
 exact (Olaw_out hf.1).trans (O99_none hf.2)
theorem kn5 (E:Env):Kn5 E (Olaw E) where
 out:=fun f args h hf=>by
  simp only[List.mem_cons,List.not_mem_nil,or_false] at hf
  rcases hf with rfl|rfl|rfl|rfl|rfl|rfl|rfl|rfl|rfl|rfl|rfl|rfl|rfl|rfl|rfl|rfl|rfl|rfl|rfl|rfl|rfl|rfl|rfl|rfl|rfl|rfl|rfl|rfl|rfl|rfl|rfl|rfl|rfl|rfl|rfl|rfl|rfl|rfl|rfl|rfl|rfl|rfl<;>exact Olaw_none (by decide)
 k11:=fun h=>rfl
 kc:=⟨fun t xv h hr hz=>((Olaw_out (by decide)).trans ((O99_out (by decide)).trans ((O101_out (by decide)).trans ((O65_out (by decide)).trans (saidBy_eq (one35 E) ⟨rfl,rfl,t,xv,rfl,hr,hz,rfl⟩))))),fun ks sl h hr hz=>((Olaw_out (by decide)).trans ((O99_out (by decide)).trans ((O101_out (by decide)).trans (saidBy_eq (one65 E) ⟨rfl,rfl,ks,sl,rfl,hr,hz,rfl⟩))))⟩
 kp:=⟨⟨fun c h=>((Olaw_out (by decide)).trans ((O99_out (by decide)).trans (saidBy_eq one101 (.inl ⟨rfl,rfl,c,rfl,rfl⟩)))),fun c h=>((Olaw_out (by decide)).trans ((O99_out (by decide)).trans (saidBy_eq one101 (.inr ⟨rfl,rfl,c,rfl,rfl⟩))))⟩,fun args h=>((Olaw_out (by decide)).trans ((O99_out (by decide)).trans ((O101_out (by decide)).trans ((O65_out (by decide)).trans ((O35_out (by decide)).trans (rfl)))))),fun m h hm=>((Olaw_out (by decide)).trans (saidBy_eq one99 ⟨rfl,rfl,m,rfl,hm,rfl⟩))⟩
open Go Go.Hs Go.Proofs Go.ChangeShapes Go.WideShapes Go.ChangeAt Go.WideMaps Go.WideElems Go.RowKit
theorem own_knob:ownKnob Tryd.prog.godebug=none:=by kernel_rfl
theorem gPow:Tryd.prog.globalNamed "internal/strconv.uint64pow10" = some 1:=by kernel_rfl
theorem kids:Kids Tryd.prog (· < Tryd.prog.types.size):=kids_rows (by kernel_rfl) (by kernel_rfl)
theorem full:∀ t e,t<Tryd.prog.types.size→Tryd.prog.underlying t=some (.slice e)→0<Tryd.prog.cellsOf e:=slices_full_of Tryd.prog (by kernel_rfl)
def laid3:List (String×DataW Unit):=[("math/bits.deBruijn32tab", Rows.laid_math_bits_deBruijn32tab),("math/bits.deBruijn64tab", Rows.laid_math_bits_deBruijn64tab),("internal/strconv.uint64pow10", Rows.laid_internal_strconv_uint64pow10)]
theorem take_one {α:Type} {l:List α} {i:Nat} {x:α} (h:(l.drop i).take 1=[x]):l[i]? = some x:=by
 rw[← List.head?_drop]
 cases hd:l.drop i with
 | nil=>rw[hd] at h;cases h
 | cons y ys=>rw[hd] at h;simp at h;rw[h];rfl
def powL:List (DataW Unit):=[.lit (.int .u64 1),.lit (.int .u64 10),.lit (.int .u64 100),.lit (.int .u64 1000),.lit (.int .u64 10000),.lit (.int .u64 100000),.lit (.int .u64 1000000),.lit (.int .u64 10000000),.lit (.int .u64 100000000),.lit (.int .u64 1000000000),.lit (.int .u64 10000000000),.lit (.int .u64 100000000000),.lit (.int .u64 1000000000000),.lit (.int .u64 10000000000000),.lit (.int .u64 100000000000000),.lit (.int .u64 1000000000000000),.lit (.int .u64 10000000000000000),.lit (.int .u64 100000000000000000),.lit (.int .u64 1000000000000000000),.lit (.int .u64 10000000000000000000)]
theorem powL_get:∀ i:Nat,i<20→powL[i]? = some (.lit (.int .u64 ((10 ^ i:Nat):Int)))
 | 0,_=>rfl|1,_=>rfl|2,_=>rfl|3,_=>rfl|4,_=>rfl|5,_=>rfl|6,_=>rfl|7,_=>rfl|8,_=>rfl|9,_=>rfl
 | 10,_=>rfl|11,_=>rfl|12,_=>rfl|13,_=>rfl|14,_=>rfl|15,_=>rfl|16,_=>rfl|17,_=>rfl|18,_=>rfl|19,_=>rfl
 | i+20,h=>absurd h (by omega)
theorem of_laid {W:World} (h:laidMetH Tryd.prog laid3 W):∀ i:Nat,i<20→W.cell? ⟨1,i,none⟩=some (.int .u64 ((10 ^ i:Nat):Int)):=by
 intro i hi
 rw[MakeChecks.laidMetH_plain _ _ _ (by kernel_rfl)] at h
 obtain⟨ps,⟨g0,t0,cs0,f0,p0,q0,hg0,ht0,hv0,hd0,⟨g1,t1,cs1,f1,p1,q1,hg1,ht1,hv1,hd1,⟨g2,t2,cs2,f2,p2,q2,hg2,ht2,hv2,hd2,_,_⟩,_⟩,_⟩,_,_⟩:=h
 obtain rfl:=Option.some.inj (gPow.symm.trans hg2)
 obtain rfl:=Option.some.inj ((show (Tryd.prog.globals[1]?).map (·.type)=some 186 by kernel_rfl).symm.trans ht2)
 obtain⟨xs,m,_,hx,_,_,hel⟩:=DataW.trod_array Tryd.underlying186 hd2
 have c99:Tryd.prog.cellsOf 99=1:=by kernel_rfl
 have h2:=hel i hi
 rw[c99] at h2
 simp only[Prod.mk.injEq] at hx
 have hx1:xs.map (·.1)=powL:=by
  have e:DataW.agg (xs.map (·.1))=Rows.laid_internal_strconv_uint64pow10:=hx.1.symm
  unfold Rows.laid_internal_strconv_uint64pow10 at e
  rw[DataW.agg.injEq] at e
  exact e
 have h3:(xs.map (·.1))[i]? = some (.lit (.int .u64 ((10 ^ i:Nat):Int))):=by rw[hx1];exact powL_get i hi
 rw[List.getElem?_map] at h3
 obtain⟨y,hy,hy1⟩:=Option.map_eq_some_iff.1 h3
 rw[hy] at h2
 obtain⟨k,e1,e2,_⟩:=DataW.trod_int Tryd.underlying99 h2
 have hk:k=((10 ^ i:Nat):Int):=by
  rw[e2] at hy1
  simpa using hy1
 subst hk
 have hc:=World.var?_cell hg2 hv2 i
 rw[hc]
 obtain⟨l⟩:=cs2
 have e1:(l.drop i).take 1=[.int .u64 ((10 ^ i:Nat):Int)]:=by simpa using e1
 have:=take_one e1
 simpa using this
theorem arg_bytes {HH:Type} {enc:TypeId×Value→HH} {W:World} {base:Nat} {v:Value} {d:DataW HH} {p:List MemPlace} (hv:Value.okWide Tryd.prog W .any base 31 v) (h:DataW.Trod enc Tryd.prog W 0 (fun _=>true) true 31 v d p) :
  ∃ x bs,Bin (envOf W) H.empty x bs∧okV (fun _=>none) x∧ren (fun _=>none) x=v:=by
 obtain⟨a,len,cap,rfl⟩:=okWide_slice Tryd.underlying31 hv
 obtain⟨fuel,hf⟩:=h
 obtain⟨c0,he,hfo,bs,hb⟩:=bytes_of_trod Tryd.underlying31 Tryd.underlying5 (by kernel_rfl) H.empty hf
 have hc:c0=.slice a len cap:=by
  have he:[Value.slice a len cap]=[c0]:=he
  exact (List.cons.inj he).1.symm
 subst hc
 exact⟨_,bs,hb,(foV.ok _ hfo).1,dec_ren hfo⟩
theorem arg_int {HH:Type} {enc:TypeId×Value→HH} {W:World} {base t:Nat} {kd:IntKind} {v:Value} {d:DataW HH} {p:List MemPlace} (ht:Tryd.prog.underlying t=some (.int kd)) (hv:Value.okWide Tryd.prog W .any base t v) (h:DataW.Trod enc Tryd.prog W 0 (fun _=>true) true t v d p) :
  ∃ n:Int,v=.int kd n∧kd.min≤n∧n≤kd.max:=by
 obtain⟨n,rfl⟩:=okWide_int ht hv
 obtain⟨fuel,hf⟩:=h
 obtain⟨m,he,_,hw⟩:=DataW.trod_int ht hf
 have he:[Value.int kd n]=[Value.int kd m]:=he
 cases he
 exact⟨n,rfl,by simpa [Lit.wf] using hw⟩
theorem call5 {W:World} (hL:∀ i:Nat,i<20→W.cell? ⟨1,i,none⟩=some (.int .u64 ((10 ^ i:Nat):Int))) {x v:Value} {l0:List Int} (hx:Bin (envOf W) H.empty x l0) (ox:okV (fun _=>none) x) (rx:ren (fun _=>none) x=v) (n2 n3:Nat) (h2:n2<65536) (h3:n3<256) :
  Calls Tryd.prog 5 #[v,.int .u16 (n2:Nat),.int .u8 (n3:Nat)] W fun e W'=>e=.returned (.bool true)∧Kept (fun _=>none) W W':=by
 have hP:PowT (envOf W):=fun i hi=>envOf_at (hL i hi) rfl
 have hE:∀ b o z,E0 b o=some z→envOf W b o=some z:=by
  intro b o z hz
  unfold E0 at hz
  split at hz
  ·next e=>
   cases hz
   rw[Bool.and_eq_true] at e
   obtain rfl:=Nat.eq_of_beq_eq_true e.1
   obtain rfl:=Nat.eq_of_beq_eq_true e.2
   exact hP 2 (by decide)
  ·cases hz
 obtain⟨n,h',hw⟩:=walk5 (kn5 (envOf W)) hx n2 n3 h2 h3
 cases n with
 | zero=>cases hw
 | succ n=>
  have hc:doCall tab (envOf W) (Olaw (envOf W)) (ev tab (envOf W) (Olaw (envOf W)) n) 5 [x,.int .u16 (n2:Nat),.int .u8 (n3:Nat)] H.empty=some (.bool true,h'):=hw
  have R:Tie tab (envOf W) W.heap.size All (fun _=>none) H.empty W:=Tie.start (fun b o z hz=>envOf_ro hz) (Nat.le_refl _)
  have:=doCall_calls tab_of (ev_ok tab_of noNum (Olaw_good (n0:=W.heap.size) hE hP) n) ((kn5 (envOf W)).out _ _ _ (by simp)) hc R (by
   intro q hq
   simp only[List.mem_cons,List.not_mem_nil,or_false] at hq
   rcases hq with rfl|rfl|rfl
   ·exact ox
   ·simp[okV]
   ·simp[okV])
  have ea:(([x,.int .u16 (n2:Nat),.int .u8 (n3:Nat)]:List Value).map (ren fun _=>none)).toArray=#[v,.int .u16 (n2:Nat),.int .u8 (n3:Nat)]:=by
   simp only[List.map_cons,List.map_nil,rx]
   rfl
  rw[ea] at this
  refine this.mono fun e W' hh => ?_
  obtain⟨φ',he,_,_,_,hk⟩:=hh
  exact⟨he,hk⟩
theorem sameAt_of {w w':World} (K:Kept (fun _=>none) w w') {p:MemPlace} (hp:p.block<w.heap.size):w.sameAt w' p:=by
 cases p with
 | cell b off=>
  show w'.cell? ⟨b,off,none⟩=w.cell? ⟨b,off,none⟩
  simp only[World.cell?,K.block b hp (fun _ _ _ h=>by cases h)]
 | map b=>exact K.block b hp (fun _ _ _ h=>by cases h)
theorem TrodAll_stays {H:Type} {enc:TypeId×Value→H} {w w':World} {sp':Nat→Bool}:∀ {ts:List TypeId} {vs:List Value} {ds:List (DataW H)} {ps:List MemPlace},(∀ t∈ts,t<Tryd.prog.types.size)→DataW.TrodAll enc Tryd.prog w 0 (fun _=>true) true ts vs ds ps→(∀ p∈ps,w.sameAt w' p)→(∀ p∈ps,sp' p.block=true)→DataW.TrodAll enc Tryd.prog w' 0 sp' true ts vs ds ps
 | [],[],[],_,_,h,_,_=>h
 | _::_,_::_,_::_,_,hT,⟨p,q,⟨n,h1⟩,h2,e⟩,hs,hp=>⟨p,q,⟨n,DataW.trod_stays kids (fun ht hu=>full _ _ ht hu) (fun hh=>by cases hh) (hT _ (List.mem_cons.2 (Or.inl rfl))) h1 (fun x hx=>hs x (by rw[e];exact List.mem_append_left _ hx)) (fun x hx=>hp x (by rw[e];exact List.mem_append_left _ hx))⟩,
   TrodAll_stays (fun t ht=>hT t (List.mem_cons.2 (Or.inr ht))) h2 (fun x hx=>hs x (by rw[e];exact List.mem_append_right _ hx)) (fun x hx=>hp x (by rw[e];exact List.mem_append_right _ hx)),e⟩
theorem keptBut_of {w w':World} (K:Kept (fun _=>none) w w') (may:MemPlace→Prop):w.keptBut w' may:=by
 refine⟨K.os,K.output,fun i hi => ?_⟩
 have:=K.block i hi (fun _ _ _ h=>by cases h)
 rw[this]
 split
 ·next h1 h2=>rw[h1] at h2;cases h2;exact⟨rfl,rfl,rfl,fun _ _=>rfl⟩
 ·next h1 h2=>rw[h1] at h2;cases h2;exact .inr ⟨rfl,rfl⟩
 ·rfl
theorem door_met (os:Os) (args:Array Value):laidMetH Tryd.prog laid3 ((World.doorLaid Tryd.prog 4000 os).forCall (fun _ _=>0) ⟨#[],args,[]⟩).memory:=
 laidMetH_of_parts3 (fuel:=8) (laidMet_of_run' 8 (by kernel_rfl) (by kernel_rfl)) (by kernel_rfl) (by kernel_rfl)
theorem lifted (os:Os) (started:os.Started) (H:Type) (enc:TypeId×Value→H) :
  ReturnsInHanded {} Tryd.checked os 5 .any (fun w args=>(Rows.wireOnceSpec.pre enc Tryd.prog Tryd.f5 [] false w args∧laidMetH Tryd.prog laid3 w)∧sizedMet enc Tryd.prog Tryd.f5 (OpenSpec.ofChange Rows.wireOnceSpec) false w args)
   (Rows.wireOnceSpec.post enc Tryd.prog Tryd.f5 false true false false):=by
 refine returnsInHanded_of_change_and (C:=Tryd.checked) (X:=fun w _=>laidMetH Tryd.prog laid3 w) (fun _ _ _ hh h=>h.of_heap hh) own_knob started (by kernel_rfl) Tryd.func5
  (ChangeSpec.witness_shaped (enc:=enc) (C:=Tryd.checked) (os:=os) (X:=fun w _=>laidMetH Tryd.prog laid3 w) false (World.doorLaid Tryd.prog 4000 os) #[.slice none 0 0,.int .u16 0,.int .u8 0] 5 rfl (World.shaped_of_RefB (by kernel_rfl) (by kernel_rfl)) (by kernel_rfl) (by kernel_rfl) (by kernel_rfl) (door_met os _)) ?_
 intro W base args ds gs before hval0 hW _ _ hL _
 have hval:∀ (j:Nat) t v,Tryd.f5.params[j]? = some t→args[j]? = some v→Value.okWide Tryd.prog W .any base t v:=hval0
 have hW':=hW
 obtain⟨p,q,hA0,hV,rfl,hfz,hnd⟩:=hW
 have hA:DataW.TrodAll enc Tryd.prog W 0 (fun _=>true) true Tryd.f5.params.toList args.toList ds p:=hA0
 have hAk:=hA
 rw[Tryd.params5] at hA hval
 obtain⟨v,v',v'',d,d',d'',p1,p2,p3,rfl,rfl,rfl,h1,h2,h3⟩:=trodAll_three hA
 obtain⟨rfl,rfl⟩:=trodVars_none hV
 obtain⟨x,l0,rx,ox,ex⟩:=arg_bytes (hval 0 31 v rfl rfl) h1
 obtain⟨y,rfl,y0,y1⟩:=arg_int Tryd.underlying40 (hval 1 40 v' rfl rfl) h2
 obtain⟨z,rfl,z0,z1⟩:=arg_int Tryd.underlying5 (hval 2 5 v'' rfl rfl) h3
 have y0:0≤y:=y0
 have y1:y≤65535:=y1
 have z0:0≤z:=z0
 have z1:z≤255:=z1
 obtain⟨n1,rfl⟩:=Int.eq_ofNat_of_zero_le y0
 obtain⟨n2,rfl⟩:=Int.eq_ofNat_of_zero_le z0
 refine (call5 (of_laid hL) rx ox ex n1 n2 (by omega) (by omega)).mono fun e W' ⟨he,K⟩ => ?_
 subst he
 have hlt:∀ z∈p1++p2++p3,z.block<W.heap.size:=fun z hz=>hW'.lt z (by simpa using hz)
 refine⟨_,rfl,_,_,_,[],p1++p2++p3,[],hW',?_,?_,?_,keptBut_of K _,fun h=>by cases h⟩
 ·exact trodAll_mk1 (shut_bool Tryd.underlying4 true)
 ·exact TrodAll_stays (by rw[Tryd.params5];decide) hAk (fun z hz=>sameAt_of K (hlt z hz)) (fun z hz=>by simpa using hlt z hz)
 ·rfl
theorem wireOnce_holds:Rows.WireOnceSaid:=
 OpenClaim.holds_of_wide 5 Tryd.f5 rfl rfl rfl rfl rfl rfl rfl ⟨rfl,rfl,rfl,rfl,rfl⟩ rfl rfl rfl rfl rfl (by kernel_rfl) Tryd.func5 (by kernel_rfl)
  (of_decide_eq_true (by kernel_rfl)) (by unfold Func.isWrapper;first|(rw[if_pos (by decide +kernel)];kernel_rfl)|(rw[if_neg (by decide +kernel)];exact⟨rfl,rfl⟩))
  (fun os started H enc _=>lifted os started H enc)
end Go.Proofs.YtofijpbmbmbnhaaDoor
/- Proved: for whatever slice of bytes, and whatever two numbers (of 16 and of 8 bits), the law on what is written once (WireOnce) returns true, and the bytes read afterwards as they read before.
  Conditions: those of the card: when the call begins, the three listed package-level variables hold what the program's text lays (the card ties them to it). Nothing is asked of the bytes or the numbers. -/
namespace Go.Proofs.YtofijpbmbmbnhaaDoor
open Go
theorem wireOnce_card:Rows.WireOnceCardSaid:=
 Claim7.holds_tied_plain_at .later [] [.data,.data,.data] true (true, "dd39aefdd4fbebabeb528789cffc35ebda988315da12ef43dfd83f580aae36d8") false
  wireOnce_holds (fun _ h=>by cases h) (by kernel_rfl) (fun _ h=>by cases h) wireOnce_row_tie rfl ⟨rfl,rfl⟩ (by kernel_rfl) rfl
  (fun f fn hf hfn=>by
   obtain rfl:f=5:=Option.some.inj ((show Tryd.prog.funcNamed "hoarstone/hoarstonelaw02.WireOnce" = some 5 by kernel_rfl).symm.trans hf) |>.symm
   obtain rfl:fn=Tryd.f5:=(Option.some.inj (Tryd.func5.symm.trans hfn)).symm
   exact⟨by kernel_rfl,fun j t ht=>by
    rw[Tryd.params5] at ht
    have h3:t=31∨t=40∨t=5:=by
     rcases j with _|_|_|j
     ·left;simpa using ht.symm
     ·right;left;simpa using ht.symm
     ·right;right;simpa using ht.symm
     ·simp at ht
    rcases h3 with rfl|rfl|rfl
    ·exact (show Tryd.prog.wantsStandIn 31=false by kernel_rfl)
    ·exact (show Tryd.prog.wantsStandIn 40=false by kernel_rfl)
    ·exact (show Tryd.prog.wantsStandIn 5=false by kernel_rfl)⟩)
  (by kernel_rfl)
#print axioms wireOnce_card
end Go.Proofs.YtofijpbmbmbnhaaDoor
