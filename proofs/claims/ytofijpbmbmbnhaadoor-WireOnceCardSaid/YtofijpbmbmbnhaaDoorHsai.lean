/- Check, as the program does it. -/
import Derived.Test.YtofijpbmbmbnhaaDoorHsah
set_option linter.unusedSimpArgs false
set_option linter.unusedVariables false
set_option maxRecDepth 100000
set_option maxHeartbeats 4000000
namespace Go.Proofs.YtofijpbmbmbnhaaDoor
open Go Go.Hs Go.Proofs
variable {E:Env} {I:Known}
def says35 (E:Env):Says:=fun s f args h v=>f=35∧s=0∧∃ t xv,args=[xv]∧rep E h t xv∧isz t≤1000000∧v=.int .i64 (chkI t 0 1).2
theorem one35 (E:Env):One (says35 E):=by
 rintro s s' f args h v v' ⟨_,_,t,xv,rfl,h1,_,rfl⟩ ⟨_,_,t',xv',he,h2,_,rfl⟩
 cases he
 rw[rep_one h1 h2]
theorem shown35 (hI:∀ f args h,(f=35∨f=70∨f=109∨f=110)→I f args h=none):ShownF tab E I (says35 E):=by
 rintro sz f args h v ⟨rfl,rfl,t,xv,rfl,hr,hz,rfl⟩ hfit
 refine⟨rfl,?_⟩
 obtain⟨k,m,tx,ks⟩:=t
 obtain⟨sb,sc,rfl,hs⟩:=rep_slice hr
 have hJ:upTo (says35 E) I 0=I:=by funext f args h;exact upTo_none (fun _ _ hs=>absurd hs (Nat.not_lt_zero _))
 rw[hJ]
 suffices hw:∃ n v h',(ev tab E I n).call 35 [.agg ⟨[.int .i64 k,.int .i64 m,.string tx,.slice sb ks.length sc]⟩] (fresh h)=some (v,h')∧(v=.int .i64 (chkI (.mk k m tx ks) 0 1).2∧h'.log=[]) by
  obtain⟨n,v,h',h1,rfl,h3⟩:=hw
  exact⟨n,h',h1,h3⟩
 refine Wc.call (hI _ _ _ (.inl rfl)) fn35 rfl ?_
 generalize hA0:(⟨T.ofList [.agg ⟨[.int .i64 k,.int .i64 m,.string tx,.slice sb ks.length sc]⟩] 0 .nil,max ([.agg ⟨[.int .i64 k,.int .i64 m,.string tx,.slice sb ks.length sc]⟩]:List Value).length Tryd.f35.ntmps,[]⟩:Ac)=A0
 have n0:A0.n=42:=by rw[← hA0];rfl
 have g00:A0.get 0=.agg ⟨[.int .i64 k,.int .i64 m,.string tx,.slice sb ks.length sc]⟩:=by rw[← hA0];rfl
 have d0:A0.defers=[]:=by rw[← hA0]
 have hl0:(fresh h).log=[]:=rfl
 have hgf:Grows h (fresh h):=fun _ _ hb=>hb
 generalize hg:fresh h=g at hfit hl0 hgf
 have hmk:g.mark≤g.next:=hfit.ok.2
 generalize hh1:g.new (.cells (Value.agg ⟨[.int .i64 k,.int .i64 m,.string tx,.slice sb ks.length sc]⟩).cells.toList 25 none)=h1
 have a1:Ahd g h1:=by rw[← hh1];exact Ahd.new0 hfit rfl
 have b1:h1.blk g.next=some (.cells [.int .i64 k,.int .i64 m,.string tx,.slice sb ks.length sc] 25 none):=by rw[← hh1];exact new_blk_new rfl
 have n1:h1.next=g.next+1:=by rw[← hh1];rfl
 generalize hh2:h1.new (.cells (Value.int .i64 0).cells.toList 26 none)=h2
 have a2:Ahd h1 h2:=by rw[← hh2];exact Ahd.new0 a1.fit rfl
 have b2:h2.blk (g.next+1)=some (.cells [.int .i64 0] 26 none):=by rw[← hh2,← n1];exact new_blk_new rfl
 have n2:h2.next=g.next+2:=by rw[← hh2];show h1.next+1=_;rw[n1]
 generalize hh3:h2.new (.cells (Value.int .i64 0).cells.toList 3 none)=h3
 have a3:Ahd h2 h3:=by rw[← hh3];exact Ahd.new0 a2.fit rfl
 have b3:h3.blk (g.next+2)=some (.cells [.int .i64 0] 3 none):=by rw[← hh3,← n2];exact new_blk_new rfl
 have n3:h3.next=g.next+3:=by rw[← hh3];show h2.next+1=_;rw[n2]
 have a13:=(a1.trans a2).trans a3
 have hst:=st3 (i:=0) b3 (by rw[a13.mark];omega)
 generalize hh4:h3.setb (g.next+2) (.cells [.int .i64 0] 3 none)=h4 at hst
 have a4:Ahd g h4:=by rw[← hh4];exact a13.setb rfl (by omega) (by omega) hfit
 have c1:h4.blk g.next=some (.cells [.int .i64 k,.int .i64 m,.string tx,.slice sb ks.length sc] 25 none):=by rw[← hh4,setb_ne (by omega)];exact a3.grows _ _ (a2.grows _ _ b1)
 have c2:h4.blk (g.next+1)=some (.cells [.int .i64 0] 26 none):=by rw[← hh4,setb_ne (by omega)];exact a3.grows _ _ b2
 have c3:h4.blk (g.next+2)=some (.cells [.int .i64 0] 3 none):=by rw[← hh4];exact setb_same rfl
 have n4:h4.next=g.next+3:=by rw[← hh4];exact n3
 have cl1:h4.cells E (own g.next) 4=some [.int .i64 k,.int .i64 m,.string tx,.slice sb ks.length sc]:=blk_cells c1 rfl rfl
 obtain⟨nf,v7,h5,hc70,rfl,hh5⟩:=call70 (E:=E) (J:=I) (fun args h=>hI _ args h (.inr (.inl rfl))) (a:=.int .i64 k) (b:=.int .i64 m) (c:=.string tx) (d:=.slice sb ks.length sc) h4
 have a5:Ahd h4 h5:=by rw[hh5];exact Ahd.new0 a4.fit rfl
 have b5:h5.blk (g.next+3)=some (.cells [.int .i64 k,.int .i64 m,.string tx,.slice sb ks.length sc] 25 none):=by rw[hh5,← n4];exact new_blk_new rfl
 have n5:h5.next=g.next+4:=by rw[hh5];show h4.next+1=_;rw[n4]
 have a05:=a4.trans a5
 rw[n4] at hc70
 repeat' (first|with_reducible apply Ws|(apply Wn nf;focus ((repeat ((with_reducible apply Rr rfl);focus ((try simp +decide only[Oz,n0,d0,g00,tz26,tz3,hh1,hh2,hh3,n1,n2,n3,hst,ld25,cl1,hc70]);with_reducible rfl)));with_reducible exact Rn))|(refine W2 (by simp +decide only[Cz,n0,d0,g00,tz26,tz3,hh1,hh2,hh3,n1,n2,n3,hst,ld25,cl1,hc70];try with_reducible rfl) (fun hb=>?_) (fun hb=>?_)<;>try contradiction)|apply W3|apply W4|apply W5|apply W6)
 refine Wc.forget (fun A=>A.n=42∧A.defers=[]∧A.get 2=.pointer (some (own (g.next+1)))∧A.get 3=.pointer (some (own (g.next+2)))∧A.get 7=.func (.func 109) ⟨[]⟩ ⟨[.pointer (some (own (g.next+3)))]⟩) ⟨by simp +decide only[Gz,n0],by simp +decide only[Gz,d0],by simp +decide only[Gz,n0],by simp +decide only[Gz,n0],by simp +decide only[Gz,n0]⟩ ?_
 clear hA0 n0 g00 d0
 rintro A ⟨nA,dA,p2,p3,p7⟩
 generalize hr0:(⟨.ready,none,35,A.tmps,A.n,#[8,9],asg35,bod35,g.next+4⟩:LoopR)=r0
 have fr0:r0.state=.ready∧r0.pending=none:=by rw[← hr0];exact⟨rfl,rfl⟩
 generalize hh6:h5.new (.defd false)=h6
 have a6:Ahd h5 h6:=by rw[← hh6];exact Ahd.new0 a5.fit rfl
 have b6:h6.blk (g.next+4)=some (.defd false):=by rw[← hh6,← n5];exact new_blk_new rfl
 have n6:h6.next=g.next+5:=by rw[← hh6];show h5.next+1=_;rw[n5]
 generalize hh7:h6.new (.loop r0)=h7
 have a7:Ahd h6 h7:=by rw[← hh7];exact Ahd.new0 a6.fit rfl
 have b7:h7.blk (g.next+5)=some (.loop r0):=by rw[← hh7,← n6];exact new_blk_new rfl
 have n7:h7.next=g.next+6:=by rw[← hh7];show h6.next+1=_;rw[n6]
 have a57:=a6.trans a7
 have a07:=a05.trans a57
 have m7:h7.mark=g.mark:=a07.mark
 have S7:St35 h7 (g.next+1) (g.next+2) (g.next+5) r0 true (0,0) h7:=
  ⟨a7.fit,a07.log.trans hl0,rfl,Keep.refl _ _,a57.grows _ _ (a5.grows _ _ c2),a57.grows _ _ (a5.grows _ _ c3),by rw[if_pos rfl];exact b7,fun _=>⟨rfl,by show (0:Int)≤0;omega,by show (0:Int)≤5000;omega⟩⟩
 have hrg:rep E g (.mk k m tx ks) (.agg ⟨[.int .i64 k,.int .i64 m,.string tx,.slice sb ks.length sc]⟩):=rep_grow hgf hr
 have hround:=@round35 E I h7 (g.next+1) (g.next+2) (g.next+5) (g.next+4) (by omega) (by omega) (by rw[m7];omega) A nA p2 p3
 rw[hr0] at hround
 have V:Vis E I stepC g (g.next+5) h7.next (h7.next+1) (fun k=>k=g.next+1∨k=g.next+2∨k=g.next+5)
   (fun b s g'=>St35 h7 (g.next+1) (g.next+2) (g.next+5) r0 b s g'∧(b=true→g'.blk h7.next=some (.cells [.func (.yield (g.next+5)) ⟨[]⟩ ⟨[]⟩] 163 none)∧g'.blk (h7.next+1)=some (.cells [.func (.func 110) ⟨[]⟩ ⟨[.pointer (some (own h7.next)),.pointer (some (own (h7.next+1)))]⟩] 163 none))):=by
  have hM:∀ k,h7.next≤k→¬ (k=g.next+1∨k=g.next+2∨k=g.next+5):=fun k hk=>by rw[n7] at hk;omega
  refine⟨fun S=>S.1.fit,fun S k B hb => ?_,fun S=>(S.2 rfl).1,fun S=>(S.2 rfl).2,fun S a=>⟨S.1.ahd a,fun h=>⟨a.grows _ _ (S.2 h).1,a.grows _ _ (S.2 h).2⟩⟩,fun S k hk=>hM k (Nat.le_trans S.1.keep.next hk),?_⟩
  ·have hlt:=hfit.lt hb
   exact S.1.keep.blk k B (by omega) (a07.grows _ _ hb)
  ·intro s g' lv t xv S hlv hlv2 hr
   obtain⟨n,v,g'',e1,e2,e3,e4⟩:=hround S.1 hlv hlv2 hr
   exact⟨n,v,g'',e1,e2,⟨e3,fun _=>⟨e4.blk _ _ (hM _ (Nat.le_refl _)) (S.2 rfl).1,e4.blk _ _ (hM _ (Nat.le_succ _)) (S.2 rfl).2⟩⟩,e4⟩
 obtain⟨nc,vc,g8,hc109,rfl,⟨S8,_⟩,kp⟩:=call109 (fun f args h hf=>hI f args h (by rcases hf with h|h<;>simp[h])) V a7.fit (.mk k m tx ks) rfl (a57.grows _ _ b5) hrg hz (0,0) (fun g' a q1 q2=>⟨S7.ahd a,fun _=>⟨q1,q2⟩⟩)
 rw[visitC _ _ _ (Int.le_refl _) (by decide)] at S8
 have hacall:acall (ev tab E I nc) (.func (.func 109) ⟨[]⟩ ⟨[.pointer (some (own (g.next+3)))]⟩) [.func (.yield (h5.next+1)) #[] #[]] ((h5.new (.defd false)).new (.loop ⟨.ready,none,35,A.tmps,A.n,#[8,9],asg35,bod35,h5.next⟩))=some (.tuple #[],g8):=by
  rw[n5,hr0,hh6,hh7]
  exact hc109
 have hopv:opv A (.tmp 7)=some (.func (.func 109) ⟨[]⟩ ⟨[.pointer (some (own (g.next+3)))]⟩):=by simp only[opv,p7]
 have m8:g8.mark≤g.next:=by rw[S8.mark,m7];exact hmk
 have d8:g8.blk (g.next+4)=some (.defd false):=kp.blk _ _ (by omega) (a7.grows _ _ b6)
 have x8:g.next+6≤g8.next:=by rw[← n7];exact kp.next
 by_cases hq:(chkI (.mk k m tx ks) 0 1).2=0
 ·rw[afterC,if_pos hq] at S8
  have bl8:=S8.bl
  rw[if_pos rfl] at bl8
  refine Wc.range nc hopv hacall (r:=r0) (by rw[n5];exact bl8) (by rw[fr0.1];decide) ?_
  simp only[fr0.2]
  rw[turn_above (by rw[n5];omega),n5]
  generalize hh9:g8.setb (g.next+4+1) (.loop { r0 with state:=.exhausted,pending:=none })=g9
  have R9:g9.blk (g.next+1)=some (.cells [.int .i64 0] 26 none):=by rw[← hh9,setb_ne (by omega)];exact S8.bR
  have D9:g9.blk (g.next+4)=some (.defd false):=by rw[← hh9,setb_ne (by omega)];exact d8
  have m9:g9.mark≤g.next:=by rw[← hh9];exact m8
  have l9:g9.log=[]:=by rw[← hh9];exact S8.log
  have hst9:=st26 (i:=0) R9 (by omega)
  generalize hh10:g9.setb (g.next+1) (.cells [.int .i64 0] 26 none)=g10 at hst9
  have R10:g10.blk (g.next+1)=some (.cells [.int .i64 0] 26 none):=by rw[← hh10];exact setb_same rfl
  have D10:g10.blk (g.next+4)=some (.defd false):=by rw[← hh10,setb_ne (by omega)];exact D9
  have m10:g10.mark≤g.next:=by rw[← hh10];exact m9
  have l10:g10.log=[]:=by rw[← hh10];exact l9
  have q2:∀ ds,(⟨A.tmps,A.n,ds⟩:Ac).get 2=.pointer (some (own (g.next+1))):=fun _=>p2
  have qn:∀ ds,(⟨A.tmps,A.n,ds⟩:Ac).n=42:=fun _=>nA
  repeat' (first|with_reducible apply Ws|(apply Wp;focus ((repeat ((with_reducible apply Rr rfl);focus ((try simp +decide only[Oz,qn,q2,hst9]);with_reducible rfl)));with_reducible exact Rn))|(refine W2 (by simp +decide only[Cz,qn,q2,hst9];try with_reducible rfl) (fun hb=>?_) (fun hb=>?_)<;>try contradiction)|apply W3|apply W4|apply W5|apply W6)
  refine done_cellD (d:=g.next+4) (a:=own (g.next+1)) (v:=.int .i64 0) (.inr rfl) (by rw[dA];rfl) D10 (by omega) rfl (by simp +decide only[Gz,q2]) ?_ ⟨by rw[hq],l10⟩
  rw[ld26]
  exact blk_cell0 (by rw[setb_ne (by omega)];exact R10) rfl
 ·rw[afterC,if_neg hq] at S8
  have bl8:=S8.bl
  rw[if_neg (by simp)] at bl8
  refine Wc.range nc hopv hacall (r:={ r0 with state:=.done,pending:=some .ret }) (by rw[n5];exact bl8) (by show LoopState.done≠LoopState.busy;decide) ?_
  simp only
  rw[turn_above (by rw[n5];omega),n5]
  generalize hh9:g8.setb (g.next+4+1) (.loop { r0 with state:=.exhausted,pending:=some .ret })=g9
  have R9:g9.blk (g.next+1)=some (.cells [.int .i64 (chkI (.mk k m tx ks) 0 1).2] 26 none):=by rw[← hh9,setb_ne (by omega)];exact S8.bR
  have D9:g9.blk (g.next+4)=some (.defd false):=by rw[← hh9,setb_ne (by omega)];exact d8
  have m9:g9.mark≤g.next:=by rw[← hh9];exact m8
  have l9:g9.log=[]:=by rw[← hh9];exact S8.log
  have q2:∀ ds,(⟨A.tmps,A.n,ds⟩:Ac).get 2=.pointer (some (own (g.next+1))):=fun _=>p2
  refine Wc.ret ?_
  refine done_cellD (d:=g.next+4) (a:=own (g.next+1)) (v:=.int .i64 (chkI (.mk k m tx ks) 0 1).2) (.inr rfl) (by rw[dA]) D9 (by omega) rfl (q2 _) ?_ ⟨rfl,l9⟩
  rw[ld26]
  exact blk_cell0 (by rw[setb_ne (by omega)];exact R9) rfl
theorem same {D:Tab} {E:Env} {I:Known} {f:FuncId} {args:List Value} {h:H} {x:Value} (w:∃ n v h',(ev D E I n).call f args h=some (v,h')∧(v=x∧h'=h)):∃ n,(ev D E I n).call f args h=some (x,h):=by
 obtain⟨n,v,h',h1,rfl,rfl⟩:=w
 exact⟨n,h1⟩
theorem fn65:tab.fn.get 65=some Tryd.f65:=by kernel_rfl
noncomputable def loop65:Code:=loopOf Tryd.f65
def says65 (E:Env):Says:=fun s f args h v=>f=65∧s=0∧∃ ks sl,args=[sl]∧repK E h ks sl∧iszL ks≤1000000∧v=.int .i64 (chkAll ks)
theorem one65 (E:Env):One (says65 E):=by
 rintro s s' f args h v v' ⟨_,_,t,xv,rfl,h1,_,rfl⟩ ⟨_,_,t',xv',he,h2,_,rfl⟩
 cases he
 rw[repK_one h1 h2]
theorem shown65 (hI:∀ args h,I 65 args h=none) (h35:∀ t xv h,rep E h t xv→isz t≤1000000→I 35 [xv] h=some (some (.int .i64 (chkI t 0 1).2,h))):ShownF tab E I (says65 E):=by
 rintro sz f args h v ⟨rfl,rfl,ks,sl,rfl,hr,hz,rfl⟩ hfit
 refine⟨rfl,?_⟩
 have hJ:upTo (says65 E) I 0=I:=by funext f args h;exact upTo_none (fun _ _ hs=>absurd hs (Nat.not_lt_zero _))
 rw[hJ]
 have hgf:Grows h (fresh h):=fun _ _ hb=>hb
 have hl0:(fresh h).log=[]:=rfl
 have hrg:=repK_grow hgf hr
 obtain⟨sb,sc,rfl,hlen,hs⟩:=repK_slice hrg
 suffices hw:∃ n v h',(ev tab E I n).call 65 [.slice sb ks.length sc] (fresh h)=some (v,h')∧(v=.int .i64 (chkAll ks)∧h'.log=[]) by
  obtain⟨n,v,h',h1,rfl,h3⟩:=hw
  exact⟨n,h',h1,h3⟩
 refine Wc.call (hI _ _) fn65 rfl ?_
 generalize hA0:(⟨T.ofList [.slice sb ks.length sc] 0 .nil,max ([.slice sb ks.length sc]:List Value).length Tryd.f65.ntmps,[]⟩:Ac)=A0
 have n0:A0.n=18:=by rw[← hA0];rfl
 have g00:A0.get 0=.slice sb ks.length sc:=by rw[← hA0];rfl
 have d0:A0.defers=[]:=by rw[← hA0]
 generalize hg:fresh h=g at hfit hl0 hgf hrg hs
 have key:∀ (r i:Nat) (A:Ac) (g':H),r=ks.length-i→i≤ks.length→A.n=18→A.defers=[]→A.get 6=.slice sb ks.length sc→A.get 7=.int .i64 (ks.length:Nat)→A.get 8=.int .i64 (i:Nat)→
   Ahd g g'→chkAll ks=chkAll (ks.drop i)→
   Wc tab E I ⟨65,none⟩ (.loop loop65) A g' (fun ex A' g''=>A'.n=18∧A'.defers=[]∧Ahd g g''∧((ex=.exit 0∧chkAll ks=0)∨(ex=.ret∧A'.get 2=.int .i64 (chkAll ks)))):=by
  intro r
  induction r with
  | zero=>
   intro i A g' hr' hi nA dA p6 p7 p8 ah ho
   have hil:i=ks.length:=by omega
   have hlt:decide ((i:Int)<(ks.length:Int))=false:=by simp;omega
   apply Wc.loop
   simp only[loop65,loopOf,firstLoop,Option.getD,Tryd.f65]
   repeat' (first|with_reducible apply Ws|(apply Wp;focus ((repeat ((with_reducible apply Rr rfl);focus ((try simp +decide only[Oz,nA,p6,p7,p8,hlt]);with_reducible rfl)));with_reducible exact Rn))|(refine W2 (by simp +decide only[Cz,nA,p6,p7,p8,hlt];try with_reducible rfl) (fun hb=>?_) (fun hb=>?_)<;>try contradiction)|apply W3|apply W4|apply W5|apply W6)
   refine⟨by simp +decide only[Gz,nA],by simp +decide only[Gz,dA],ah,.inl ⟨rfl,?_⟩⟩
   rw[ho,hil,List.drop_length,chkAll]
  | succ r ih=>
   intro i A g' hr' hi nA dA p6 p7 p8 ah ho
   have hil:i<ks.length:=by omega
   have hlt:decide ((i:Int)<(ks.length:Int))=true:=by simp;omega
   have hks:ks.drop i=ks[i]::ks.drop (i+1):=List.drop_eq_getElem_cons hil
   rcases hs with hk0|⟨a,cs,he,hcs,hrl⟩
   ·rw[hk0] at hil;simp at hil
   subst he
   have hfit':=ah.fit
   have hcs1:=cells_grow ah.grows hcs
   obtain⟨hl4,hrk⟩:=repL_get i hrl (List.getElem?_eq_getElem hil)
   have hsub:=cells_sub hcs1 (m:=i*4) (l:=4) (by omega)
   have hmem:ks[i]∈ks:=List.getElem_mem hil
   have hkz:=isz_mem hmem
   have hq:∃ q0 q1 q2 q3,(cs.drop (i*4)).take 4=[q0,q1,q2,q3]∧[q0,q1,q2,q3].all isOne=true:=by
    generalize hki:ks[i]=ki at hrk
    obtain⟨k',m',tx',ks'⟩:=ki
    obtain⟨sb',sc',e,_⟩:=rep_slice hrk
    simp only[Value.agg.injEq,Array.mk.injEq] at e
    exact⟨_,_,_,_,e,rfl⟩
   obtain⟨q0,q1,q2,q3,hq,hone⟩:=hq
   rw[hq] at hsub hrk
   have hir:inRange (i:Int) ks.length=true:=by
    show Nat.blt i ks.length=true
    rw[Nat.blt_eq];exact hil
   have w3:IntKind.i64.wrap ((i:Int)+1)=(i:Int)+1:=wrap64 (by omega) (by omega)
   generalize hh3:g'.new (.cells (Value.agg #[.int .i64 0,.int .i64 0,.string ⟨#[]⟩,.slice none 0 0]).cells.toList 25 none)=h3
   have a3:Ahd g' h3:=by rw[← hh3];exact Ahd.new0 hfit' rfl
   have c3:h3.blk g'.next=some (.cells [.int .i64 0,.int .i64 0,.string ⟨#[]⟩,.slice none 0 0] 25 none):=by rw[← hh3];exact new_blk_new rfl
   have hn3:h3.next=g'.next+1:=by rw[← hh3];rfl
   have hst3:=st25 (a:=q0) (b:=q1) (c:=q2) (d:=q3) c3 hone (by rw[a3.mark];exact hfit'.ok.2)
   generalize hh4:h3.setb g'.next (.cells [q0,q1,q2,q3] 25 none)=h4 at hst3
   have a4:Ahd g' h4:=by rw[← hh4];exact a3.setb rfl (Nat.le_refl _) (by omega) hfit'
   have c4:h4.blk g'.next=some (.cells [q0,q1,q2,q3] 25 none):=by rw[← hh4];exact setb_same rfl
   have ah4:=ah.trans a4
   have cl1:h4.cells E (own g'.next) 4=some [q0,q1,q2,q3]:=blk_cells c4 rfl hone
   have hcall:(ev tab E I 1).call 35 [.agg ⟨[q0,q1,q2,q3]⟩] h4=some (.int .i64 (chkI ks[i] 0 1).2,h4):=ev_known (h35 _ _ _ (rep_grow ah4.grows hrk) (by omega))
   by_cases q:(chkI ks[i] 0 1).2=0
   ·have dq:(!decide ((chkI ks[i] 0 1).2=0))=false:=by simp[q]
    apply Wc.loop
    simp only[loop65,loopOf,firstLoop,Option.getD,Tryd.f65]
    repeat' (first|with_reducible apply Ws|(apply Wp;focus ((repeat ((with_reducible apply Rr rfl);focus ((try simp +decide only[Oz,nA,p6,p7,p8,hlt,ia23 _ _ _ _ hir,Int.toNat_natCast,ld25,hsub,tz25,hh3,hst3,cl1,hcall,dq,w3]);with_reducible rfl)));with_reducible exact Rn))|(refine W2 (by simp +decide only[Cz,nA,p6,p7,p8,hlt,ia23 _ _ _ _ hir,Int.toNat_natCast,ld25,hsub,tz25,hh3,hst3,cl1,hcall,dq,w3];try with_reducible rfl) (fun hb=>?_) (fun hb=>?_)<;>try contradiction)|apply W3|apply W4|apply W5|apply W6)
    refine (ih (i+1) _ h4 (by omega) (by omega) ?_ ?_ ?_ ?_ ?_ ah4 ?_).mono ?_
    ·simp +decide only[Gz,nA]
    ·simp +decide only[Gz,dA]
    ·simp +decide only[Gz,nA,p6]
    ·simp +decide only[Gz,nA,p7]
    ·simp +decide only[Gz,nA]
     rfl
    ·rw[ho,hks,chkAll,if_neg (by simpa using q)]
    ·rintro ex A' h' ⟨e1,e2,e3,⟨rfl,e6⟩|⟨rfl,e6⟩⟩
     ·exact⟨e1,e2,e3,.inl ⟨rfl,e6⟩⟩
     ·exact⟨e1,e2,e3,.inr ⟨rfl,e6⟩⟩
   ·have dq:(!decide ((chkI ks[i] 0 1).2=0))=true:=by simp[q]
    have e1:chkAll ks=(chkI ks[i] 0 1).2:=by rw[ho,hks,chkAll,if_pos (by simpa using q)]
    apply Wc.loop
    simp only[loop65,loopOf,firstLoop,Option.getD,Tryd.f65]
    repeat' (first|with_reducible apply Ws|(apply Wp;focus ((repeat ((with_reducible apply Rr rfl);focus ((try simp +decide only[Oz,nA,p6,p7,p8,hlt,ia23 _ _ _ _ hir,Int.toNat_natCast,ld25,hsub,tz25,hh3,hst3,cl1,hcall,dq,w3]);with_reducible rfl)));with_reducible exact Rn))|(refine W2 (by simp +decide only[Cz,nA,p6,p7,p8,hlt,ia23 _ _ _ _ hir,Int.toNat_natCast,ld25,hsub,tz25,hh3,hst3,cl1,hcall,dq,w3];try with_reducible rfl) (fun hb=>?_) (fun hb=>?_)<;>try contradiction)|apply W3|apply W4|apply W5|apply W6)
    refine⟨by simp +decide only[Gz,nA],by simp +decide only[Gz,dA],ah4,.inr ⟨rfl,?_⟩⟩
    rw[e1]
    simp +decide only[Gz,nA]
 repeat' (first|with_reducible apply Ws|(apply Wp;focus ((repeat ((with_reducible apply Rr rfl);focus ((try simp +decide only[Oz,n0,d0,g00,len23]);with_reducible rfl)));with_reducible exact Rn))|(refine W2 (by simp +decide only[Cz,n0,d0,g00,len23];try with_reducible rfl) (fun hb=>?_) (fun hb=>?_)<;>try contradiction)|apply W3|apply W4|apply W5|apply W6)
 refine (key ks.length 0 _ g rfl (Nat.zero_le _) ?_ ?_ ?_ ?_ ?_ (Ahd.refl hfit) (by rw[List.drop_zero])).mono ?_
 ·simp +decide only[Gz,n0]
 ·simp +decide only[Gz,d0]
 ·simp +decide only[Gz,n0]
 ·simp +decide only[Gz,n0]
 ·simp +decide only[Gz,n0]
  rfl
 ·rintro ex A' g' ⟨e1,e2,e5,⟨rfl,e6⟩|⟨rfl,e6⟩⟩
  ·simp only[if_true]
   repeat' (first|with_reducible apply Ws|(apply Wp;focus ((repeat ((with_reducible apply Rr rfl);focus ((try simp +decide only[Oz,e1]);with_reducible rfl)));with_reducible exact Rn))|(refine W2 (by simp +decide only[Cz,e1];try with_reducible rfl) (fun hb=>?_) (fun hb=>?_)<;>try contradiction)|apply W3|apply W4|apply W5|apply W6)
   refine done_tmp (.inr rfl) (by simp +decide only[Gz,e2]) rfl ?_ (e5.log.trans hl0)
   rw[e6]
   simp +decide only[Gz,e1]
  ·exact done_tmp (.inr rfl) e2 rfl e6 (e5.log.trans hl0)
/-! ### 27 -/
theorem ty5:tab.ty.get 5=some ⟨.int .u8,1,1,some (.int .u8 0),true⟩:=by kernel_rfl
theorem ty31:tab.ty.get 31=some ⟨.slice 5 1 1,1,24,some (.slice none 0 0),true⟩:=by kernel_rfl
theorem ty99:tab.ty.get 99=some ⟨.int .u64,1,8,some (.int .u64 0),true⟩:=by kernel_rfl
theorem ty101:tab.ty.get 101=some ⟨.struct [(0,31,1),(1,3,1),(2,99,1)],3,40,some (.agg #[.slice none 0 0,.int .i64 0,.int .u64 0]),true⟩:=by kernel_rfl
theorem fn93:tab.fn.get 93=some Tryd.f93:=by kernel_rfl
theorem fn94:tab.fn.get 94=some Tryd.f94:=by kernel_rfl
theorem fn95:tab.fn.get 95=some Tryd.f95:=by kernel_rfl
theorem fn121:tab.fn.get 121=some Tryd.f121:=by kernel_rfl
theorem ld5 (a:Addr) {h:H}:aload tab E 5 a h=h.cell E a:=by unfold aload;rw[ty5];rfl
theorem ld31 (a:Addr) {h:H}:aload tab E 31 a h=h.cell E a:=by unfold aload;rw[ty31];rfl
theorem ld99 (a:Addr) {h:H}:aload tab E 99 a h=h.cell E a:=by unfold aload;rw[ty99];rfl
theorem fa101_0 (a:Addr):afieldAddr tab 101 (.pointer (some a)) 0=some (.pointer (some (aadd a 0))):=by unfold afieldAddr;rw[ty101];rfl
theorem fa101_1 (a:Addr):afieldAddr tab 101 (.pointer (some a)) 1=some (.pointer (some (aadd a 1))):=by unfold afieldAddr;rw[ty101];rfl
theorem fa101_2 (a:Addr):afieldAddr tab 101 (.pointer (some a)) 2=some (.pointer (some (aadd a 2))):=by unfold afieldAddr;rw[ty101];rfl
theorem len31 {h:H} (b:Option Addr) (n c:Nat):alen tab 31 (.slice b n c) h=some (.int .i64 n):=by unfold alen;rw[ty31]
theorem ia31 (a:Addr) (n c:Nat) (i:Int) (hi:inRange i n=true):aindexAddr tab 31 (.slice (some a) n c) (.int .i64 i)=some (.pointer (some (aadd a (i.toNat*1)))):=by unfold aindexAddr;simp only[ty31,hi]
theorem cv5_99 (n:Int) {h:H}:aconvert tab E 5 99 (.int .u8 n) h=some (.int .u64 (IntKind.u64.wrap n),h):=by unfold aconvert;simp only[ty5,ty99]
theorem cv99_3 (n:Int) {h:H}:aconvert tab E 99 3 (.int .u64 n) h=some (.int .i64 (IntKind.i64.wrap n),h):=by unfold aconvert;simp only[ty99,ty3]
theorem remI {a b:Int} {k:IntKind} (hb:0<b):aint .rem k a b=some (.int k (a.tmod b)):=by
 unfold aint
 match b,hb with
 | .ofNat (n+1),_=>rfl
theorem wrapU (x:Int):0≤IntKind.u64.wrap x∧IntKind.u64.wrap x<18446744073709551616:=by
 simp only[IntKind.wrap,IntKind.bits,IntKind.signed]
 simp
 omega
theorem st99_2 {k:Nat} {v:Value} {a x:Int} {s:Value} {g:H} (hb:g.blk k=some (.cells [v,.int .i64 a,s] 101 none)):astore tab 99 (aadd (own k) 2) (.int .u64 x) g=some (g.setl k (.cells [v,.int .i64 a,.int .u64 x] 101 none)):=by
 unfold astore
 rw[ty99]
 exact put_setl (o:=2) (vs:=[.int .u64 x]) hb (by simp) (by simp) rfl
theorem st3_1 {k:Nat} {v:Value} {a:Int} {s o:Value} {g:H} (hb:g.blk k=some (.cells [v,o,s] 101 none)):astore tab 3 (aadd (own k) 1) (.int .i64 a) g=some (g.setl k (.cells [v,.int .i64 a,s] 101 none)):=by
 unfold astore
 rw[ty3]
 exact put_setl (o:=1) (vs:=[.int .i64 a]) hb (by simp) (by simp) rfl
theorem shr40 (x:Int):ashift .shr .u64 x 40=some (.int .u64 (x.fdiv 1099511627776)):=rfl
theorem fd40 {x:Int} (h0:0≤x) (h1:x<18446744073709551616):0≤x.fdiv 1099511627776∧x.fdiv 1099511627776<16777216:=by
 rw[Int.fdiv_eq_ediv_of_nonneg _ (by decide)]
 omega
theorem dres (y:Int):0≤IntKind.i64.wrap ((IntKind.u64.wrap y).fdiv 1099511627776)∧IntKind.i64.wrap ((IntKind.u64.wrap y).fdiv 1099511627776)<16777216:=by
 obtain⟨h1,h2⟩:=fd40 (wrapU y).1 (wrapU y).2
 rw[wrap64 (by omega) (by omega)]
 exact⟨h1,h2⟩
def Bts (M:Nat→Prop) (h:H) (bv:Value) (bs:List Int):Prop:=(bv=.slice none 0 0∧bs=[])∨∃ k c rt,bv=.slice (some (own k)) bs.length c∧h.blk k=some (.cells (bs.map (Value.int .u8)) 5 rt)∧¬ M k
def Sto (M:Nat→Prop) (kS:Nat) (bv:Value) (bs:List Int) (h:H) (a:Int):Prop:=∃ seed,h.blk kS=some (.cells [bv,.int .i64 a,.int .u64 seed] 101 none)∧0≤seed∧seed<18446744073709551616∧Bts M h bv bs∧0≤a
theorem Bts.mod {M N:Nat→Prop} {h g:H} {bv:Value} {bs:List Int} (b:Bts M h bv bs) (m:Mod N h g) (hN:∀ k,N k→M k):Bts M g bv bs:=by
 rcases b with b|⟨k,c,rt,e1,e2,e3⟩
 ·exact .inl b
 ·exact .inr ⟨k,c,rt,e1,m.blk _ _ (fun hn=>e3 (hN _ hn)) e2,e3⟩
theorem Sto.mod {M N:Nat→Prop} {kS:Nat} {bv:Value} {bs:List Int} {h g:H} {a:Int} (S:Sto M kS bv bs h a) (m:Mod N h g) (hN:∀ k,N k→M k) (hk:¬ N kS):Sto M kS bv bs g a:=by
 obtain⟨seed,e1,e2,e3,e4,e5⟩:=S
 exact⟨seed,m.blk _ _ hk e1,e2,e3,e4.mod m hN,e5⟩
theorem Sto.ahd {M:Nat→Prop} {kS:Nat} {bv:Value} {bs:List Int} {h g:H} {a:Int} (S:Sto M kS bv bs h a) (m:Ahd h g):Sto M kS bv bs g a:=
 S.mod (N:=fun _=>False) m.mod (fun _ h=>h.elim) (fun h=>h)
theorem draw121 (hI:∀ args h,I 121 args h=none) {M:Nat→Prop} {kS:Nat} (hM:M kS) {bv:Value} {bs:List Int} {h:H} {a:Int} (hfit:Fit h) (S:Sto M kS bv bs h a) (ha:a≤1000000000) (hbs:bs.length≤1000000) :
  ∃ n v h',(ev tab E I n).call 121 [.pointer (some (own kS))] h=some (v,h')∧(∃ d,v=.int .i64 d∧0≤d∧d<16777216∧Mod (fun k=>k=kS) h h'∧∃ a',Sto M kS bv bs h' a'∧a≤a'∧a'≤a+1):=by
 refine Wc.call (hI _ _) fn121 rfl ?_
 generalize hA0:(⟨T.ofList [.pointer (some (own kS))] 0 .nil,max ([.pointer (some (own kS))]:List Value).length Tryd.f121.ntmps,[]⟩:Ac)=A0
 have n0:A0.n=55:=by rw[← hA0];rfl
 have g00:A0.get 0=.pointer (some (own kS)):=by rw[← hA0];rfl
 have d0:A0.defers=[]:=by rw[← hA0]
 obtain⟨seed,bS,s0,s1,hBt,a0⟩:=S
 have hkl:kS<h.next:=hfit.lt bS
 have e1:isOne bv=true:=by
  rcases hBt with⟨rfl,_⟩|⟨k,c,rt,rfl,_⟩<;>rfl
 by_cases hne:bs.length=0
 ·-- no bytes
  have hbv:∃ b c,bv=.slice b bs.length c:=by
   rcases hBt with⟨rfl,hbs⟩|⟨k,c,rt,rfl,_⟩
   ·exact⟨none,0,by rw[hbs];rfl⟩
   ·exact⟨_,_,rfl⟩
  obtain⟨b,c,hbv⟩:=hbv
  have hgt:decide ((bs.length:Int)>0)=false:=by rw[hne];rfl
  have l0:h.cell E (aadd (own kS) 0)=some (.slice b bs.length c):=by rw[← hbv];exact blk_cell (i:=0) bS rfl e1
  have l2:h.cell E (aadd (own kS) 2)=some (.int .u64 seed):=blk_cell (i:=2) bS rfl rfl
  have st:∀ x,astore tab 99 (aadd (own kS) 2) (.int .u64 x) h=some (h.setl kS (.cells [bv,.int .i64 a,.int .u64 x] 101 none)):=fun x=>st99_2 bS
  have l3:∀ x,(h.setl kS (.cells [bv,.int .i64 a,.int .u64 x] 101 none)).cell E (aadd (own kS) 2)=some (.int .u64 x):=fun x=>blk_cell (i:=2) (setl_same rfl) rfl rfl
  repeat' (first|with_reducible apply Ws|(apply Wp;focus ((repeat ((with_reducible apply Rr rfl);focus ((try simp +decide only[Oz,n0,g00,fa101_0,fa101_2,ld31,ld99,l0,l2,len31,hgt,st,l3,shr40,cv99_3]);with_reducible rfl)));with_reducible exact Rn))|(refine W2 (by simp +decide only[Cz,n0,g00,fa101_0,fa101_2,ld31,ld99,l0,l2,len31,hgt,st,l3,shr40,cv99_3];try with_reducible rfl) (fun hb=>?_) (fun hb=>?_)<;>try contradiction)|apply W3|apply W4|apply W5|apply W6)
  have m2:∀ x,Mod (fun k=>k=kS) h (h.setl kS (.cells [bv,.int .i64 a,.int .u64 x] 101 none)):=fun x=>(Mod.refl hfit).setl rfl rfl hkl
  refine done_q (v:=.int .i64 (IntKind.i64.wrap ((IntKind.u64.wrap (IntKind.u64.wrap (seed*6364136223846793005)+1442695040888963407)).fdiv 1099511627776))) (.inr rfl) (by simp +decide only[Gz,d0]) rfl (by simp +decide only[Gz,n0]) ⟨_,rfl,(dres _).1,(dres _).2,m2 _,a,⟨_,setl_same rfl,(wrapU _).1,(wrapU _).2,hBt.mod (m2 _) (fun k hk=>by subst hk;exact hM),a0⟩,Int.le_refl _,by omega⟩
 ·rcases hBt with⟨_,hbs0⟩|⟨k,c,rt,rfl,bk,hMk⟩
  ·rw[hbs0] at hne;exact absurd rfl hne
  have hgt:decide ((bs.length:Int)>0)=true:=by simp;omega
  have l0:h.cell E (aadd (own kS) 0)=some (.slice (some (own k)) bs.length c):=blk_cell (i:=0) bS rfl rfl
  have f0:(fresh h).cell E (aadd (own kS) 0)=some (.slice (some (own k)) bs.length c):=l0
  have f1:(fresh h).cell E (aadd (own kS) 1)=some (.int .i64 a):=blk_cell (h:=fresh h) (i:=1) bS rfl rfl
  have f2:(fresh h).cell E (aadd (own kS) 2)=some (.int .u64 seed):=blk_cell (h:=fresh h) (i:=2) bS rfl rfl
  obtain⟨i,hi,hmod⟩:∃ i:Nat,i<bs.length∧a.tmod (bs.length:Int)=(i:Nat):=by
   refine⟨(a % (bs.length:Int)).toNat,?_,?_⟩
   ·have h1:=Int.emod_nonneg a (b:=(bs.length:Int)) (by omega)
    have h2:=Int.emod_lt_of_pos a (b:=(bs.length:Int)) (by omega)
    omega
   ·rw[Int.tmod_eq_emod_of_nonneg a0]
    have h1:=Int.emod_nonneg a (b:=(bs.length:Int)) (by omega)
    omega
  have hpos:(0:Int)<(bs.length:Int):=by omega
  have hir:inRange (i:Int) bs.length=true:=by
   show Nat.blt i bs.length=true
   rw[Nat.blt_eq];exact hi
  have fb:(fresh h).cell E (aadd (own k) (i*1))=some (.int .u8 bs[i]):=blk_cell (h:=fresh h) bk (by rw[Nat.mul_one,List.getElem?_map,List.getElem?_eq_getElem hi];rfl) rfl
  have st:∀ x,astore tab 99 (aadd (own kS) 2) (.int .u64 x) (fresh h)=some ((fresh h).setl kS (.cells [.slice (some (own k)) bs.length c,.int .i64 a,.int .u64 x] 101 none)):=fun x=>st99_2 (g:=fresh h) bS
  repeat' (first|with_reducible apply Ws|(apply Wp;focus ((repeat ((with_reducible apply Rr rfl);focus ((try simp +decide only[Oz,n0,g00,fa101_0,ld31,l0,len31,hgt]);with_reducible rfl)));with_reducible exact Rn))|(refine W2 (by simp +decide only[Cz,n0,g00,fa101_0,ld31,l0,len31,hgt];try with_reducible rfl) (fun hb=>?_) (fun hb=>?_)<;>try contradiction)|apply W3|apply W4|apply W5|apply W6)
  refine Wc.forget (fun A=>A.n=55∧A.defers=[]∧A.get 0=.pointer (some (own kS))) ⟨by simp +decide only[Gz,n0],by simp +decide only[Gz,d0],by simp +decide only[Gz,n0,g00]⟩ ?_
  clear hA0 n0 g00 d0
  rintro A0 ⟨n0,d0,g00⟩
  refine Wc.drawQ 1 (by kernel_rfl) ?_
  (iterate 17 ((first|apply Qp rfl rfl rfl|apply FQ.new rfl rfl);focus ((try simp +decide only[Oz,n0,g00,fa101_0,fa101_1,fa101_2,ld3,ld31,ld99,f0,f1,f2,len31]);with_reducible rfl)))
  refine FQ.pure (x:=.int .i64 (i:Nat)) rfl rfl (by simp +decide only[Ou,n0,remI hpos,hmod]) ?_
  (iterate 6 ((first|apply Qp rfl rfl rfl|apply FQ.new rfl rfl);focus ((try simp +decide only[Oz,n0,fa101_0,fa101_1,fa101_2,ld5,ia31 _ _ _ _ hir,Int.toNat_natCast,fb,cv5_99,g00]);with_reducible rfl)))
  refine FQ.setl (k:=kS) rfl rfl hkl (by simp +decide only[Oz,n0,st];with_reducible rfl) ?_
  refine FQ.nil ⟨?_,?_⟩
  ·refine allMeet_last (l:=[_,_,_,_,_,_,_,_,_,_,_,_,_,_,_,_,_,_,_,_,_,_,_,_]) ?_ (by kernel_rfl)
   simp only[List.all_cons,calm,List.isEmpty_nil,Bool.true_and,List.all_nil,Bool.and_true]
   rfl
  refine Wc.state (fun A g=>A.n=55∧A.defers=[]∧A.get 0=.pointer (some (own kS))∧∃ x,g=h.setl kS (.cells [.slice (some (own k)) bs.length c,.int .i64 a,.int .u64 x] 101 none)) ⟨by simp +decide only[Gz,n0],by simp +decide only[Gz,d0],by simp +decide only[Gz,n0,g00],_,rfl⟩ ?_
  clear n0 d0 g00
  rintro A0 g ⟨n0,d0,g00,x1,rfl⟩
  have b1:(h.setl kS (.cells [.slice (some (own k)) bs.length c,.int .i64 a,.int .u64 x1] 101 none)).blk kS=some (.cells [.slice (some (own k)) bs.length c,.int .i64 a,.int .u64 x1] 101 none):=setl_same rfl
  have m1:Mod (fun k=>k=kS) h (h.setl kS (.cells [.slice (some (own k)) bs.length c,.int .i64 a,.int .u64 x1] 101 none)):=(Mod.refl hfit).setl rfl rfl hkl
  have nx1:(h.setl kS (.cells [.slice (some (own k)) bs.length c,.int .i64 a,.int .u64 x1] 101 none)).next=h.next:=setl_next _ _ _
  generalize h.setl kS (.cells [.slice (some (own k)) bs.length c,.int .i64 a,.int .u64 x1] 101 none)=g1 at b1 m1 nx1 ⊢
  have l1:g1.cell E (aadd (own kS) 1)=some (.int .i64 a):=blk_cell (i:=1) b1 rfl rfl
  have wa:IntKind.i64.wrap (a+1)=a+1:=wrap64 (by omega) (by omega)
  have st2:astore tab 3 (aadd (own kS) 1) (.int .i64 (a+1)) g1=some (g1.setl kS (.cells [.slice (some (own k)) bs.length c,.int .i64 (a+1),.int .u64 x1] 101 none)):=st3_1 b1
  generalize hg2:g1.setl kS (.cells [.slice (some (own k)) bs.length c,.int .i64 (a+1),.int .u64 x1] 101 none)=g2 at st2
  have b2:g2.blk kS=some (.cells [.slice (some (own k)) bs.length c,.int .i64 (a+1),.int .u64 x1] 101 none):=by rw[← hg2];exact setl_same rfl
  have m2:Mod (fun k=>k=kS) h g2:=by rw[← hg2];exact m1.setl rfl rfl (by rw[nx1];exact hkl)
  have nx2:g2.next=h.next:=by rw[← hg2,setl_next];exact nx1
  have l2:g2.cell E (aadd (own kS) 2)=some (.int .u64 x1):=blk_cell (i:=2) b2 rfl rfl
  have st3:∀ x,astore tab 99 (aadd (own kS) 2) (.int .u64 x) g2=some (g2.setl kS (.cells [.slice (some (own k)) bs.length c,.int .i64 (a+1),.int .u64 x] 101 none)):=fun x=>st99_2 b2
  have l3:∀ x,(g2.setl kS (.cells [.slice (some (own k)) bs.length c,.int .i64 (a+1),.int .u64 x] 101 none)).cell E (aadd (own kS) 2)=some (.int .u64 x):=fun x=>blk_cell (i:=2) (setl_same rfl) rfl rfl
  repeat' (first|with_reducible apply Ws|(apply Wp;focus ((repeat ((with_reducible apply Rr rfl);focus ((try simp +decide only[Oz,n0,g00,fa101_1,fa101_2,ld3,ld99,l1,wa,st2,l2,st3,l3,shr40,cv99_3]);with_reducible rfl)));with_reducible exact Rn))|(refine W2 (by simp +decide only[Cz,n0,g00,fa101_1,fa101_2,ld3,ld99,l1,wa,st2,l2,st3,l3,shr40,cv99_3];try with_reducible rfl) (fun hb=>?_) (fun hb=>?_)<;>try contradiction)|apply W3|apply W4|apply W5|apply W6)
  have m3:∀ x,Mod (fun k=>k=kS) h (g2.setl kS (.cells [.slice (some (own k)) bs.length c,.int .i64 (a+1),.int .u64 x] 101 none)):=fun x=>m2.setl rfl rfl (by rw[nx2];exact hkl)
  refine done_q (v:=.int .i64 (IntKind.i64.wrap ((IntKind.u64.wrap (IntKind.u64.wrap (x1*6364136223846793005)+1442695040888963407)).fdiv 1099511627776))) (.inr rfl) (by simp +decide only[Gz,d0]) rfl (by simp +decide only[Gz,n0]) ⟨_,rfl,(dres _).1,(dres _).2,m3 _,a+1,⟨_,setl_same rfl,(wrapU _).1,(wrapU _).2,.inr ⟨k,c,rt,rfl,(m3 _).blk _ _ (fun e=>hMk (by rw[e];exact hM)) bk,hMk⟩,by omega⟩,by omega,Int.le_refl _⟩
theorem less94 (hI:∀ f args h,(f=121∨f=94)→I f args h=none) {M:Nat→Prop} {kS:Nat} (hM:M kS) {bv:Value} {bs:List Int} {h:H} {a:Int} (hfit:Fit h) (S:Sto M kS bv bs h a) (ha:a≤1000000000) (hbs:bs.length≤1000000) (m:Int) (hm:0<m) :
  ∃ n v h',(ev tab E I n).call 94 [.pointer (some (own kS)),.int .i64 m] h=some (v,h')∧(∃ d,v=.int .i64 d∧0≤d∧d<m∧Mod (fun k=>k=kS) h h'∧∃ a',Sto M kS bv bs h' a'∧a≤a'∧a'≤a+1):=by
 obtain⟨nf,v1,h1,hc,d,rfl,e0,e1,m1,a',S',a1,a2⟩:=draw121 (E:=E) (I:=I) (fun args h=>hI _ args h (.inl rfl)) hM hfit S ha hbs
 refine Wc.call (hI _ _ _ (.inr rfl)) fn94 rfl ?_
 generalize hA0:(⟨T.ofList [.pointer (some (own kS)),.int .i64 m] 0 .nil,max ([.pointer (some (own kS)),.int .i64 m]:List Value).length Tryd.f94.ntmps,[]⟩:Ac)=A0
 have n0:A0.n=11:=by rw[← hA0];rfl
 have g00:A0.get 0=.pointer (some (own kS)):=by rw[← hA0];rfl
 have g01:A0.get 1=.int .i64 m:=by rw[← hA0];rfl
 have d0:A0.defers=[]:=by rw[← hA0]
 have hle:decide (m≤0)=false:=by simp;omega
 repeat' (with_reducible apply Wc.seq)
 refine Wc.ops (by (repeat ((with_reducible apply Rr rfl);focus ((try simp +decide only[Oz,n0]);with_reducible rfl)));with_reducible exact Rn) ?_
 repeat' (with_reducible apply Wc.seq)
 refine Wc.ops (by (repeat ((with_reducible apply Rr rfl);focus ((try simp +decide only[Oz,n0,g01,hle]);with_reducible rfl)));with_reducible exact Rn) ?_
 repeat' (with_reducible apply Wc.seq)
 refine Wc.cond2 (by simp +decide only[Oz,n0];try with_reducible rfl) (fun hb => ?_) (fun hb => ?_)<;>try contradiction
 refine Wc.skip ?_
 repeat' (with_reducible apply Wc.seq)
 refine Wc.opsQ nf ?_
 (iterate 3 (first|((with_reducible apply RQ.run (awant_none rfl));focus ((try simp +decide only[Oz,n0,g00,g01,hc]);with_reducible rfl))|((with_reducible apply RQ.runG);(focus rfl);(focus rfl);(focus (simp +decide only[Oz,n0,g00,g01,hc];done));focus ((try simp +decide only[Oz,n0,g00,g01,hc]);with_reducible rfl))|((with_reducible apply RQ.skipG);(focus rfl);(focus rfl);focus (simp +decide only[Oz,n0,g00,g01,hc];done))))
 refine RQ.run (x:=.int .i64 (d.tmod m)) (awant_none rfl) (by simp +decide only[Ou,n0,remI hm];with_reducible rfl) ?_
 (iterate 1 (first|((with_reducible apply RQ.run (awant_none rfl));focus ((try simp +decide only[Oz,n0]);with_reducible rfl))|((with_reducible apply RQ.runG);(focus rfl);(focus rfl);(focus (simp +decide only[Oz,n0];done));focus ((try simp +decide only[Oz,n0]);with_reducible rfl))|((with_reducible apply RQ.skipG);(focus rfl);(focus rfl);focus (simp +decide only[Oz,n0];done))))
 refine RQ.nil ?_
 refine Wc.ret ?_
 refine done_q (v:=.int .i64 (d.tmod m)) (.inr rfl) (by simp +decide only[Gz,d0]) rfl (by simp +decide only[Gz,n0]) ⟨_,rfl,?_,?_,m1,a',S',a1,a2⟩
 ·rw[Int.tmod_eq_emod_of_nonneg e0];exact Int.emod_nonneg _ (by omega)
 ·rw[Int.tmod_eq_emod_of_nonneg e0];exact Int.emod_lt_of_pos _ hm
theorem from93 (hI:∀ f args h,(f=121∨f=94∨f=93)→I f args h=none) {M:Nat→Prop} {kS:Nat} (hM:M kS) {bv:Value} {bs:List Int} {h:H} {a:Int} (hfit:Fit h) (S:Sto M kS bv bs h a) (ha:a≤1000000000) (hbs:bs.length≤1000000) (lo hi:Int) (h0:0≤lo) (h1:lo≤hi) (h2:hi≤1000000) :
  ∃ n v h',(ev tab E I n).call 93 [.pointer (some (own kS)),.int .i64 lo,.int .i64 hi] h=some (v,h')∧(∃ d,v=.int .i64 d∧lo≤d∧d≤hi∧Mod (fun k=>k=kS) h h'∧∃ a',Sto M kS bv bs h' a'∧a≤a'∧a'≤a+1):=by
 obtain⟨nf,v1,h1',hc,d,rfl,e0,e1,m1,a',S',a1,a2⟩:=less94 (E:=E) (I:=I) (fun f args h hf=>hI f args h (by rcases hf with h|h<;>simp[h])) hM hfit S ha hbs (hi-lo+1) (by omega)
 refine Wc.call (hI _ _ _ (.inr (.inr rfl))) fn93 rfl ?_
 generalize hA0:(⟨T.ofList [.pointer (some (own kS)),.int .i64 lo,.int .i64 hi] 0 .nil,max ([.pointer (some (own kS)),.int .i64 lo,.int .i64 hi]:List Value).length Tryd.f93.ntmps,[]⟩:Ac)=A0
 have n0:A0.n=15:=by rw[← hA0];rfl
 have g00:A0.get 0=.pointer (some (own kS)):=by rw[← hA0];rfl
 have g01:A0.get 1=.int .i64 lo:=by rw[← hA0];rfl
 have g02:A0.get 2=.int .i64 hi:=by rw[← hA0];rfl
 have d0:A0.defers=[]:=by rw[← hA0]
 have w1:IntKind.i64.wrap (hi-lo)=hi-lo:=wrap64 (by omega) (by omega)
 have w2:IntKind.i64.wrap (hi-lo+1)=hi-lo+1:=wrap64 (by omega) (by omega)
 have w3:IntKind.i64.wrap (lo+d)=lo+d:=wrap64 (by omega) (by omega)
 repeat' (first|with_reducible apply Ws|(apply Wn nf;focus ((repeat ((with_reducible apply Rr rfl);focus ((try simp +decide only[Oz,n0,g00,g01,g02,w1,w2,w3,hc]);with_reducible rfl)));with_reducible exact Rn))|(refine W2 (by simp +decide only[Cz,n0,g00,g01,g02,w1,w2,w3,hc];try with_reducible rfl) (fun hb=>?_) (fun hb=>?_)<;>try contradiction)|apply W3|apply W4|apply W5|apply W6)
 exact done_q (v:=.int .i64 (lo+d)) (.inr rfl) (by simp +decide only[Gz,d0]) rfl (by simp +decide only[Gz,n0]) ⟨_,rfl,by omega,by omega,m1,a',S',a1,a2⟩
theorem seldom95 (hI:∀ f args h,(f=121∨f=94∨f=95)→I f args h=none) {M:Nat→Prop} {kS:Nat} (hM:M kS) {bv:Value} {bs:List Int} {h:H} {a:Int} (hfit:Fit h) (S:Sto M kS bv bs h a) (ha:a≤1000000000) (hbs:bs.length≤1000000) (m:Int) (hm:0<m) :
  ∃ n v h',(ev tab E I n).call 95 [.pointer (some (own kS)),.int .i64 m] h=some (v,h')∧(∃ b,v=.bool b∧Mod (fun k=>k=kS) h h'∧∃ a',Sto M kS bv bs h' a'∧a≤a'∧a'≤a+1):=by
 obtain⟨nf,v1,h1',hc,d,rfl,e0,e1,m1,a',S',a1,a2⟩:=less94 (E:=E) (I:=I) (fun f args h hf=>hI f args h (by rcases hf with h|h<;>simp[h])) hM hfit S ha hbs m hm
 refine Wc.call (hI _ _ _ (.inr (.inr rfl))) fn95 rfl ?_
 generalize hA0:(⟨T.ofList [.pointer (some (own kS)),.int .i64 m] 0 .nil,max ([.pointer (some (own kS)),.int .i64 m]:List Value).length Tryd.f95.ntmps,[]⟩:Ac)=A0
 have n0:A0.n=9:=by rw[← hA0];rfl
 have g00:A0.get 0=.pointer (some (own kS)):=by rw[← hA0];rfl
 have g01:A0.get 1=.int .i64 m:=by rw[← hA0];rfl
 have d0:A0.defers=[]:=by rw[← hA0]
 repeat' (first|with_reducible apply Ws|(apply Wn nf;focus ((repeat ((with_reducible apply Rr rfl);focus ((try simp +decide only[Oz,n0,g00,g01,hc]);with_reducible rfl)));with_reducible exact Rn))|(refine W2 (by simp +decide only[Cz,n0,g00,g01,hc];try with_reducible rfl) (fun hb=>?_) (fun hb=>?_)<;>try contradiction)|apply W3|apply W4|apply W5|apply W6)
 exact done_q (v:=.bool (decide (d=0))) (.inr rfl) (by simp +decide only[Gz,d0]) rfl (by simp +decide only[Gz,n0]) ⟨_,rfl,m1,a',S',a1,a2⟩
end Go.Proofs.YtofijpbmbmbnhaaDoor
