/- The reference's reader of texts: one byte, digits. -/
import Derived.Test.YtofijpbmbmbnhaaDoorHsaj
set_option linter.unusedSimpArgs false
set_option linter.unusedVariables false
set_option maxRecDepth 100000
set_option maxHeartbeats 16000000
namespace Go.Proofs.YtofijpbmbmbnhaaDoor
open Go Go.Hs Go.Proofs
variable {E:Env} {I:Known}
theorem fn86:tab.fn.get 86=some Tryd.f86:=by kernel_rfl
theorem fn87:tab.fn.get 87=some Tryd.f87:=by kernel_rfl
theorem fn115:tab.fn.get 115=some Tryd.f115:=by kernel_rfl
theorem fn116:tab.fn.get 116=some Tryd.f116:=by kernel_rfl
noncomputable def loop86:Code:=loopOf Tryd.f86
noncomputable def loop116:Code:=loopOf Tryd.f116
theorem bytB {v:Value} {bs:List UInt8} {kb:Nat} {B:Blk} (hB:∀ h:H,h.blk kb=some B→Byt E h v bs) {g:H} (hqB:g.blk kb=some B):v.cells.toList=[v]∧isOne v=true∧(∀ h,alen tab 31 v h=some (.int .i64 (bs.length:Nat)))∧(∀ (p:Nat) (c:UInt8),bs[p]? = some c→∃ a,aindexAddr tab 31 v (.int .i64 (p:Nat))=some (.pointer (some a))∧∀ h:H,h.blk kb=some B→h.cell E a=some (.int .u8 (c.toNat:Nat))):=by
 obtain⟨a,c,rfl⟩:=(hB g hqB).slice
 refine⟨rfl,rfl,fun h=>qlen31 _ _ _,fun p x hp => ?_⟩
 have hlt:p<bs.length:=(List.getElem?_eq_some_iff.1 hp).1
 have hir:inRange ((p:Nat):Int) bs.length=true:=by
  show Nat.blt p bs.length=true
  rw[Nat.blt_eq];exact hlt
 rcases hB g hqB with⟨h1,rfl⟩|⟨a',c',h1,_,_⟩
 ·simp at hlt
 ·cases h1
  refine⟨aadd a' p,?_,fun h hh => ?_⟩
  ·rw[qia31 _ _ _ _ hir,Int.toNat_natCast,Nat.mul_one]
  ·rcases hB h hh with⟨h1,rfl⟩|⟨a2,c2,h1,_,h3⟩
   ·simp at hlt
   ·cases h1
    exact cells_cell h3 hlt (bytesV_get hp)
theorem is87 (hI:∀ args h,I 87 args h=none) {k kb:Nat} {v:Value} {bs:List UInt8} {B:Blk} (hB:∀ h:H,h.blk kb=some B→Byt E h v bs) {pos items:Nat} {w:Int} {g:H} (hqB:g.blk kb=some B) (b:Ref k v pos items w 0 g) (hp:pos≤bs.length) (c:UInt8) :
  ∃ n x g',(ev tab E I n).call 87 [.pointer (some (own k)),.int .u8 (c.toNat:Nat)] g=some (x,g')∧(g=g'∧((bs[pos]? = some c∧x=.bool true)∨(bs[pos]? ≠ some c∧x=.bool false))):=by
 obtain⟨hv1,hv2,ln,hix⟩:=bytB (E:=E) hB hqB
 obtain⟨c0,c1,c2,c3,c4⟩:=b.at (E:=E) hv2
 apply Wk (hI _ _) fn87 rfl
 intro A0 n0 d0 hA0
 change A0.n=29 at n0
 have q0:A0.get 0=.pointer (some (own k)):=hA0 0 _ rfl
 have q1:A0.get 1=.int .u8 (c.toNat:Nat):=hA0 1 _ rfl
 clear hA0
 by_cases h1:pos<bs.length
 rotate_left
 ·have e1:decide ((pos:Int)<(bs.length:Int))=false:=decide_eq_false (by omega)
  have hn:bs[pos]? = none:=by rw[List.getElem?_eq_none_iff];omega
  (repeat' (with_reducible apply Ws));(apply Wn 1;focus ((repeat ((with_reducible apply Rr rfl);focus ((try simp +decide only[Oy,n0]);with_reducible rfl)));with_reducible exact Rn))
  repeat' (with_reducible apply Wc.seq)
  refine Wc.drawC 1 (by kernel_rfl) ?_
  (iterate 25 (first|((first|apply Fp rfl rfl rfl|apply FC.new rfl rfl|(apply FC.pureG rfl rfl;(focus (simp +decide only[Gs,n0,q0,q1,Qx,Hx,c0,c1,ln,e1];done));focus rfl));focus ((try simp +decide only[Oy,n0,q0,q1,Qx,Hx,c0,c1,ln,e1]);with_reducible rfl))|(apply FC.skipG rfl rfl;focus (simp +decide only[Gs,n0,q0,q1,Qx,Hx,c0,c1,ln,e1];done))))
  refine FC.nil ?_
  repeat' (first|with_reducible apply Ws|(apply Wp;focus ((repeat ((with_reducible apply Rr rfl);focus ((try simp +decide only[Oy,n0]);with_reducible rfl)));with_reducible exact Rn))|(refine W2 (by simp +decide only[Cx,n0];try with_reducible rfl) (fun hb=>?_) (fun hb=>?_)<;>try contradiction)|apply W3|apply W4|apply W5|apply W6)
  refine done_q (v:=.bool false) (.inr rfl) (by simp +decide only[Gs,d0]) rfl (by simp +decide only[Gs,n0]) ⟨rfl,.inr ⟨by rw[hn];simp,rfl⟩⟩
 have e1:decide ((pos:Int)<(bs.length:Int))=true:=decide_eq_true (by omega)
 obtain⟨x,hx⟩:∃ x,bs[pos]? = some x:=⟨bs[pos],List.getElem?_eq_getElem h1⟩
 obtain⟨ca,ix,lc⟩:=hix pos x hx
 have lc:=lc g hqB
 by_cases h2:x=c
 rotate_left
 ·have e2:decide ((x.toNat:Int)=(c.toNat:Int))=false:=decide_eq_false (fun h=>h2 (UInt8.toNat_inj.1 (by omega)))
  (repeat' (with_reducible apply Ws));(apply Wn 1;focus ((repeat ((with_reducible apply Rr rfl);focus ((try simp +decide only[Oy,n0]);with_reducible rfl)));with_reducible exact Rn))
  repeat' (with_reducible apply Wc.seq)
  refine Wc.drawC 1 (by kernel_rfl) ?_
  (iterate 25 (first|((first|apply Fp rfl rfl rfl|apply FC.new rfl rfl|(apply FC.pureG rfl rfl;(focus (simp +decide only[Gs,n0,q0,q1,Qx,Hx,c0,c1,ln,e1,e2,ix,lc];done));focus rfl));focus ((try simp +decide only[Oy,n0,q0,q1,Qx,Hx,c0,c1,ln,e1,e2,ix,lc]);with_reducible rfl))|(apply FC.skipG rfl rfl;focus (simp +decide only[Gs,n0,q0,q1,Qx,Hx,c0,c1,ln,e1,e2,ix,lc];done))))
  refine FC.nil ?_
  repeat' (first|with_reducible apply Ws|(apply Wp;focus ((repeat ((with_reducible apply Rr rfl);focus ((try simp +decide only[Oy,n0]);with_reducible rfl)));with_reducible exact Rn))|(refine W2 (by simp +decide only[Cx,n0];try with_reducible rfl) (fun hb=>?_) (fun hb=>?_)<;>try contradiction)|apply W3|apply W4|apply W5|apply W6)
  refine done_q (v:=.bool false) (.inr rfl) (by simp +decide only[Gs,d0]) rfl (by simp +decide only[Gs,n0]) ⟨rfl,.inr ⟨by rw[hx];simpa using h2,rfl⟩⟩
 subst h2
 have e2:decide ((x.toNat:Int)=(x.toNat:Int))=true:=decide_eq_true rfl
 (repeat' (with_reducible apply Ws));(apply Wn 1;focus ((repeat ((with_reducible apply Rr rfl);focus ((try simp +decide only[Oy,n0]);with_reducible rfl)));with_reducible exact Rn))
 repeat' (with_reducible apply Wc.seq)
 refine Wc.drawC 1 (by kernel_rfl) ?_
 (iterate 25 (first|((first|apply Fp rfl rfl rfl|apply FC.new rfl rfl|(apply FC.pureG rfl rfl;(focus (simp +decide only[Gs,n0,q0,q1,Qx,Hx,c0,c1,ln,e1,e2,ix,lc];done));focus rfl));focus ((try simp +decide only[Oy,n0,q0,q1,Qx,Hx,c0,c1,ln,e1,e2,ix,lc]);with_reducible rfl))|(apply FC.skipG rfl rfl;focus (simp +decide only[Gs,n0,q0,q1,Qx,Hx,c0,c1,ln,e1,e2,ix,lc];done))))
 refine FC.nil ?_
 repeat' (first|with_reducible apply Ws|(apply Wp;focus ((repeat ((with_reducible apply Rr rfl);focus ((try simp +decide only[Oy,n0]);with_reducible rfl)));with_reducible exact Rn))|(refine W2 (by simp +decide only[Cx,n0];try with_reducible rfl) (fun hb=>?_) (fun hb=>?_)<;>try contradiction)|apply W3|apply W4|apply W5|apply W6)
 refine done_q (v:=.bool true) (.inr rfl) (by simp +decide only[Gs,d0]) rfl (by simp +decide only[Gs,n0]) ⟨rfl,.inl ⟨hx,rfl⟩⟩
theorem plain115 (hI:∀ args h,I 115 args h=none) {h:H} (c:UInt8) :
  ∃ n v h',(ev tab E I n).call 115 [.int .u8 (c.toNat:Nat)] h=some (v,h')∧(v=.bool (plainB c)∧h=h'):=by
 apply Wk (hI _ _) fn115 rfl
 intro A0 n0 d0 hA0
 change A0.n=17 at n0
 have q0:A0.get 0=.int .u8 (c.toNat:Nat):=hA0 0 _ rfl
 clear hA0
 unfold plainB
 by_cases h1:32≤c.toNat
 rotate_left
 ·have e1:decide ((c.toNat:Int)≥32)=false:=decide_eq_false (by omega)
  rw[decide_eq_false h1]
  (repeat' (with_reducible apply Ws));(apply Wn 1;focus ((repeat ((with_reducible apply Rr rfl);focus ((try simp +decide only[Oy,n0]);with_reducible rfl)));with_reducible exact Rn))
  (repeat' (with_reducible apply Ws));(apply Wn 1;focus ((repeat (first|((first|with_reducible apply Rr rfl|((with_reducible apply Rg);(focus rfl);(focus rfl);focus (simp +decide only[Gs,n0,q0,e1];done)));focus ((try simp +decide only[Oy,n0,q0,e1]);with_reducible rfl))|((with_reducible apply Rs);(focus rfl);(focus rfl);focus (simp +decide only[Gs,n0,q0,e1];done))|((with_reducible apply RO.skipU);(focus rfl);(focus rfl);focus (simp +decide only[Gs,n0,q0,e1];done))));with_reducible exact Rn))
  repeat' (first|with_reducible apply Ws|(apply Wp;focus ((repeat ((with_reducible apply Rr rfl);focus ((try simp +decide only[Oy,n0]);with_reducible rfl)));with_reducible exact Rn))|(refine W2 (by simp +decide only[Cx,n0];try with_reducible rfl) (fun hb=>?_) (fun hb=>?_)<;>try contradiction)|apply W3|apply W4|apply W5|apply W6)
  exact done_q (v:=.bool false) (.inr rfl) (by simp +decide only[Gs,d0]) rfl (by simp +decide only[Gs,n0]) ⟨rfl,rfl⟩
 have e1:decide ((c.toNat:Int)≥32)=true:=decide_eq_true (by omega)
 rw[decide_eq_true h1]
 by_cases h2:c.toNat≤126
 rotate_left
 ·have e2:decide ((c.toNat:Int)≤126)=false:=decide_eq_false (by omega)
  rw[decide_eq_false h2]
  (repeat' (with_reducible apply Ws));(apply Wn 1;focus ((repeat ((with_reducible apply Rr rfl);focus ((try simp +decide only[Oy,n0]);with_reducible rfl)));with_reducible exact Rn))
  (repeat' (with_reducible apply Ws));(apply Wn 1;focus ((repeat (first|((first|with_reducible apply Rr rfl|((with_reducible apply Rg);(focus rfl);(focus rfl);focus (simp +decide only[Gs,n0,q0,e1,e2];done)));focus ((try simp +decide only[Oy,n0,q0,e1,e2]);with_reducible rfl))|((with_reducible apply Rs);(focus rfl);(focus rfl);focus (simp +decide only[Gs,n0,q0,e1,e2];done))|((with_reducible apply RO.skipU);(focus rfl);(focus rfl);focus (simp +decide only[Gs,n0,q0,e1,e2];done))));with_reducible exact Rn))
  repeat' (first|with_reducible apply Ws|(apply Wp;focus ((repeat ((with_reducible apply Rr rfl);focus ((try simp +decide only[Oy,n0]);with_reducible rfl)));with_reducible exact Rn))|(refine W2 (by simp +decide only[Cx,n0];try with_reducible rfl) (fun hb=>?_) (fun hb=>?_)<;>try contradiction)|apply W3|apply W4|apply W5|apply W6)
  exact done_q (v:=.bool false) (.inr rfl) (by simp +decide only[Gs,d0]) rfl (by simp +decide only[Gs,n0]) ⟨rfl,rfl⟩
 have e2:decide ((c.toNat:Int)≤126)=true:=decide_eq_true (by omega)
 rw[decide_eq_true h2]
 by_cases h3:c.toNat=34
 ·have e3:decide ((c.toNat:Int)=34)=true:=decide_eq_true (by omega)
  rw[decide_eq_true h3]
  (repeat' (with_reducible apply Ws));(apply Wn 1;focus ((repeat ((with_reducible apply Rr rfl);focus ((try simp +decide only[Oy,n0]);with_reducible rfl)));with_reducible exact Rn))
  (repeat' (with_reducible apply Ws));(apply Wn 1;focus ((repeat (first|((first|with_reducible apply Rr rfl|((with_reducible apply Rg);(focus rfl);(focus rfl);focus (simp +decide only[Gs,n0,q0,e1,e2,e3];done)));focus ((try simp +decide only[Oy,n0,q0,e1,e2,e3]);with_reducible rfl))|((with_reducible apply Rs);(focus rfl);(focus rfl);focus (simp +decide only[Gs,n0,q0,e1,e2,e3];done))|((with_reducible apply RO.skipU);(focus rfl);(focus rfl);focus (simp +decide only[Gs,n0,q0,e1,e2,e3];done))));with_reducible exact Rn))
  repeat' (first|with_reducible apply Ws|(apply Wp;focus ((repeat ((with_reducible apply Rr rfl);focus ((try simp +decide only[Oy,n0]);with_reducible rfl)));with_reducible exact Rn))|(refine W2 (by simp +decide only[Cx,n0];try with_reducible rfl) (fun hb=>?_) (fun hb=>?_)<;>try contradiction)|apply W3|apply W4|apply W5|apply W6)
  exact done_q (v:=.bool false) (.inr rfl) (by simp +decide only[Gs,d0]) rfl (by simp +decide only[Gs,n0]) ⟨rfl,rfl⟩
 have e3:decide ((c.toNat:Int)=34)=false:=decide_eq_false (by omega)
 rw[decide_eq_false h3]
 by_cases h4:c.toNat=92
 ·have e4:decide ((c.toNat:Int)=92)=true:=decide_eq_true (by omega)
  rw[decide_eq_true h4]
  (repeat' (with_reducible apply Ws));(apply Wn 1;focus ((repeat ((with_reducible apply Rr rfl);focus ((try simp +decide only[Oy,n0]);with_reducible rfl)));with_reducible exact Rn))
  (repeat' (with_reducible apply Ws));(apply Wn 1;focus ((repeat (first|((first|with_reducible apply Rr rfl|((with_reducible apply Rg);(focus rfl);(focus rfl);focus (simp +decide only[Gs,n0,q0,e1,e2,e3,e4];done)));focus ((try simp +decide only[Oy,n0,q0,e1,e2,e3,e4]);with_reducible rfl))|((with_reducible apply Rs);(focus rfl);(focus rfl);focus (simp +decide only[Gs,n0,q0,e1,e2,e3,e4];done))|((with_reducible apply RO.skipU);(focus rfl);(focus rfl);focus (simp +decide only[Gs,n0,q0,e1,e2,e3,e4];done))));with_reducible exact Rn))
  repeat' (first|with_reducible apply Ws|(apply Wp;focus ((repeat ((with_reducible apply Rr rfl);focus ((try simp +decide only[Oy,n0]);with_reducible rfl)));with_reducible exact Rn))|(refine W2 (by simp +decide only[Cx,n0];try with_reducible rfl) (fun hb=>?_) (fun hb=>?_)<;>try contradiction)|apply W3|apply W4|apply W5|apply W6)
  exact done_q (v:=.bool false) (.inr rfl) (by simp +decide only[Gs,d0]) rfl (by simp +decide only[Gs,n0]) ⟨rfl,rfl⟩
 have e4:decide ((c.toNat:Int)=92)=false:=decide_eq_false (by omega)
 rw[decide_eq_false h4]
 (repeat' (with_reducible apply Ws));(apply Wn 1;focus ((repeat ((with_reducible apply Rr rfl);focus ((try simp +decide only[Oy,n0]);with_reducible rfl)));with_reducible exact Rn))
 (repeat' (with_reducible apply Ws));(apply Wn 1;focus ((repeat (first|((first|with_reducible apply Rr rfl|((with_reducible apply Rg);(focus rfl);(focus rfl);focus (simp +decide only[Gs,n0,q0,e1,e2,e3,e4];done)));focus ((try simp +decide only[Oy,n0,q0,e1,e2,e3,e4]);with_reducible rfl))|((with_reducible apply Rs);(focus rfl);(focus rfl);focus (simp +decide only[Gs,n0,q0,e1,e2,e3,e4];done))|((with_reducible apply RO.skipU);(focus rfl);(focus rfl);focus (simp +decide only[Gs,n0,q0,e1,e2,e3,e4];done))));with_reducible exact Rn))
 repeat' (first|with_reducible apply Ws|(apply Wp;focus ((repeat ((with_reducible apply Rr rfl);focus ((try simp +decide only[Oy,n0]);with_reducible rfl)));with_reducible exact Rn))|(refine W2 (by simp +decide only[Cx,n0];try with_reducible rfl) (fun hb=>?_) (fun hb=>?_)<;>try contradiction)|apply W3|apply W4|apply W5|apply W6)
 exact done_q (v:=.bool true) (.inr rfl) (by simp +decide only[Gs,d0]) rfl (by simp +decide only[Gs,n0]) ⟨rfl,rfl⟩
theorem digit116 (hI:∀ args h,I 116 args h=none) {g:H} (c:UInt8) :
  ∃ n v g',(ev tab E I n).call 116 [.int .u8 (c.toNat:Nat)] g=some (v,g')∧(v=.int .i64 (digI c)∧g=g'):=by
 have key:∀ (r i:Nat) (A0:Ac),r=16-i→i≤16→(∀ j,j<i→hexB j≠c)→A0.n=13→A0.defers=[]→A0.get 0=.int .u8 (c.toNat:Nat)→A0.get 3=.int .i64 (i:Nat)→
   Wc tab E I ⟨116,none⟩ (.loop loop116) A0 g (fun ex A' h'=>h'=g∧A'.n=13∧A'.defers=[]∧((ex=.exit 0∧digI c = -1)∨(ex=.ret∧A'.get 2=.int .i64 (digI c)))):=by
  intro r
  induction r with
  | zero=>
   intro i A0 hr hi hj n0 d0 q0 q3
   obtain rfl:i=16:=by omega
   have e1:decide (((16:Nat):Int)<16)=false:=by decide
   apply Wc.loop
   simp only[loop116,loopOf,firstLoop,Option.getD,Tryd.f116]
   repeat' (first|with_reducible apply Ws|(apply Wp;focus ((repeat ((with_reducible apply Rr rfl);focus ((try simp +decide only[Oy,n0,q3,e1]);with_reducible rfl)));with_reducible exact Rn))|(refine W2 (by simp +decide only[Cx,n0,q3,e1];try with_reducible rfl) (fun hb=>?_) (fun hb=>?_)<;>try contradiction)|apply W3|apply W4|apply W5|apply W6)
   exact⟨rfl,by simp +decide only[Gs,n0],by simp +decide only[Gs,d0],.inl ⟨rfl,digI_not hj⟩⟩
  | succ r ih=>
   intro i A0 hr hi hj n0 d0 q0 q3
   have hi:i<16:=by omega
   have e1:decide ((i:Int)<16)=true:=decide_eq_true (by omega)
   have ix:=ixH .i64 i hi
   have w1:IntKind.i64.wrap ((i:Int)+1)=((i+1:Nat):Int):=wrap64 (by omega) (by omega)
   apply Wc.loop
   simp only[loop116,loopOf,firstLoop,Option.getD,Tryd.f116]
   by_cases h1:hexB i=c
   ·have e2:decide ((((hexB i).toNat:Nat):Int)=(c.toNat:Int))=true:=by rw[h1];exact decide_eq_true rfl
    repeat' (first|with_reducible apply Ws|(apply Wp;focus ((repeat ((with_reducible apply Rr rfl);focus ((try simp +decide only[Oy,n0,q0,q3,e1,ix,e2]);with_reducible rfl)));with_reducible exact Rn))|(refine W2 (by simp +decide only[Cx,n0,q0,q3,e1,e2];try with_reducible rfl) (fun hb=>?_) (fun hb=>?_)<;>try contradiction)|apply W3|apply W4|apply W5|apply W6)
    have hd:=digI_hex ⟨i,hi⟩
    simp only[h1] at hd
    exact⟨rfl,by simp +decide only[Gs,n0],by simp +decide only[Gs,d0],.inr ⟨rfl,by rw[hd];simp +decide only[Gs,n0,q3]⟩⟩
   ·have e2:decide ((((hexB i).toNat:Nat):Int)=(c.toNat:Int))=false:=decide_eq_false (fun h=>h1 (UInt8.toNat_inj.1 (by omega)))
    repeat' (first|with_reducible apply Ws|(apply Wp;focus ((repeat ((with_reducible apply Rr rfl);focus ((try simp +decide only[Oy,n0,q0,q3,e1,ix,e2,w1]);with_reducible rfl)));with_reducible exact Rn))|(refine W2 (by simp +decide only[Cx,n0,q0,q3,e1,e2];try with_reducible rfl) (fun hb=>?_) (fun hb=>?_)<;>try contradiction)|apply W3|apply W4|apply W5|apply W6)
    refine ih (i+1) _ (by omega) (by omega) (fun j hj' => ?_) ?_ ?_ ?_ ?_
    ·rcases Nat.lt_succ_iff_lt_or_eq.1 hj' with h|rfl
     ·exact hj j h
     ·exact h1
    ·simp +decide only[Gs,n0]
    ·simp +decide only[Gs,d0]
    ·simp +decide only[Gs,n0,q0]
    ·simp +decide only[Gs,n0]
 apply Wk (hI _ _) fn116 rfl
 intro A0 n0 d0 hA0
 change A0.n=13 at n0
 have q0:A0.get 0=.int .u8 (c.toNat:Nat):=hA0 0 _ rfl
 clear hA0
 repeat' (first|with_reducible apply Ws|(apply Wp;focus ((repeat ((with_reducible apply Rr rfl);focus ((try simp +decide only[Oy,n0,q0]);with_reducible rfl)));with_reducible exact Rn))|(refine W2 (by simp +decide only[Cx,n0,q0];try with_reducible rfl) (fun hb=>?_) (fun hb=>?_)<;>try contradiction)|apply W3|apply W4|apply W5|apply W6)
 refine (key 16 0 _ rfl (by omega) (fun j hj=>absurd hj (Nat.not_lt_zero _)) ?_ ?_ ?_ ?_).mono ?_
 ·simp +decide only[Gs,n0]
 ·simp +decide only[Gs,d0]
 ·simp +decide only[Gs,n0,q0]
 ·simp +decide only[Gs,n0]
  rfl
 rintro ex A0 h' ⟨rfl,n0,d0,⟨rfl,hd⟩|⟨rfl,q2⟩⟩
 ·simp only[if_true]
  repeat' (first|with_reducible apply Ws|(apply Wp;focus ((repeat ((with_reducible apply Rr rfl);focus ((try simp +decide only[Oy,n0]);with_reducible rfl)));with_reducible exact Rn))|(refine W2 (by simp +decide only[Cx,n0];try with_reducible rfl) (fun hb=>?_) (fun hb=>?_)<;>try contradiction)|apply W3|apply W4|apply W5|apply W6)
  exact done_q (v:=.int .i64 (digI c)) (.inr rfl) (by simp +decide only[Gs,d0]) rfl (by rw[hd];simp +decide only[Gs,n0]) ⟨rfl,rfl⟩
 ·exact done_q (v:=.int .i64 (digI c)) (.inr rfl) d0 rfl q2 ⟨rfl,rfl⟩
def NumP (k:Nat) (v:Value) (r:Rd Nat) (x:Value) (items:Nat) (w:Int) (g:H):Prop:=match r with
 | .ok m p _=>x=.int .i64 (m:Nat)∧Ref k v p items w 0 g
 | .bad p e=>∃ (m:Int) (pos:Nat),x=.int .i64 m∧Ref k v pos items p e g
theorem rdecimal86 (hI:∀ f args h,(f=86∨f=52)→I f args h=none) {k kb:Nat} {v:Value} {bs:List UInt8} {B:Blk} (hB:∀ h:H,h.blk kb=some B→Byt E h v bs) (hk:kb≠k) {pos items:Nat} {w:Int} {g:H} (f:Fit g) (hqB:g.blk kb=some B) (b:Ref k v pos items w 0 g) (hp:pos≤bs.length) (hl:bs.length≤1000000) (it0:Nat) :
  ∃ n x g',(ev tab E I n).call 86 [.pointer (some (own k))] g=some (x,g')∧(Mod (fun j=>j=k) g g'∧NumP k v (rdDig bs pos it0) x items w g'):=by
 have kl:k<g.next:=f.lt b
 obtain⟨hv1,hv2,ln,hix⟩:=bytB (E:=E) hB hqB
 have key:∀ (r p nn n:Nat) (A0:Ac) (h:H),r=bs.length-p→nn≤2199023255552→n=min nn 1099511627777→p≤bs.length→A0.n=103→A0.defers=[]→A0.get 0=.pointer (some (own k))→A0.get 3=.int .i64 (pos:Nat)→A0.get 4=.int .i64 (nn:Nat)→Mod (fun j=>j=k) g h→h.blk kb=some B→Ref k v p items w 0 h→digRun bs (bs.length-pos) pos 0=digRun bs r p n→
   Wc tab E I ⟨86,none⟩ (.loop loop86) A0 h (fun ex A' h'=>ex=.exit 0∧A'.n=103∧A'.defers=[]∧Mod (fun j=>j=k) g h'∧A'.get 0=.pointer (some (own k))∧A'.get 3=.int .i64 (pos:Nat)∧h'.blk kb=some B∧Ref k v (digRun bs (bs.length-pos) pos 0).1 items w 0 h'∧∃ nn:Nat,A'.get 4=.int .i64 (nn:Nat)∧(digRun bs (bs.length-pos) pos 0).2=min nn 1099511627777):=by
  intro r
  induction r with
  | zero=>
   intro p nn n A0 h hr hnn hn hpl n0 d0 q0 q3 q4 M hqB b he
   have e1:decide ((p:Int)<(bs.length:Int))=false:=decide_eq_false (by omega)
   obtain⟨c0,c1,c2,c3,c4⟩:=b.at (E:=E) hv2
   apply Wc.loop
   simp only[loop86,loopOf,firstLoop,Option.getD,Tryd.f86]
   repeat' (with_reducible apply Wc.seq)
   refine Wc.drawC 1 (by kernel_rfl) ?_
   (iterate 36 (first|((first|apply Fp rfl rfl rfl|apply FC.new rfl rfl|(apply FC.pureG rfl rfl;(focus (simp +decide only[Gs,n0,q0,Qx,Hx,c0,c1,ln,e1];done));focus rfl));focus ((try simp +decide only[Oy,n0,q0,Qx,Hx,c0,c1,ln,e1]);with_reducible rfl))|(apply FC.skipG rfl rfl;focus (simp +decide only[Gs,n0,q0,Qx,Hx,c0,c1,ln,e1];done))))
   refine FC.nil ?_
   repeat' (first|with_reducible apply Ws|(apply Wp;focus ((repeat ((with_reducible apply Rr rfl);focus ((try simp +decide only[Oy,n0]);with_reducible rfl)));with_reducible exact Rn))|(refine W2 (by simp +decide only[Cx,n0];try with_reducible rfl) (fun hb=>?_) (fun hb=>?_)<;>try contradiction)|apply W3|apply W4|apply W5|apply W6)
   rw[he,digRun]
   exact⟨rfl,by simp +decide only[Gs,n0],by simp +decide only[Gs,d0],M,by simp +decide only[Gs,n0,q0],by simp +decide only[Gs,n0,q3],hqB,b,nn,by simp +decide only[Gs,n0,q4],hn⟩
  | succ r ih=>
   intro p nn n A0 h hr hnn hn hpl n0 d0 q0 q3 q4 M hqB b he
   have hlt:p<bs.length:=by omega
   have e1:decide ((p:Int)<(bs.length:Int))=true:=decide_eq_true (by omega)
   have fh:=M.fit
   obtain⟨c0,c1,c2,c3,c4⟩:=b.at (E:=E) hv2
   obtain⟨c,hc⟩:∃ c,bs[p]? = some c:=⟨bs[p],List.getElem?_eq_getElem hlt⟩
   have hc8:c.toNat<256:=c.toNat_lt
   obtain⟨ca,ix,lc⟩:=hix p c hc
   have lc:=lc h hqB
   rw[digRun,hc] at he
   simp only[] at he
   apply Wc.loop
   simp only[loop86,loopOf,firstLoop,Option.getD,Tryd.f86]
   repeat' (with_reducible apply Wc.seq)
   by_cases h1:48≤c.toNat
   rotate_left
   ·have e2:decide ((c.toNat:Int)≥48)=false:=decide_eq_false (by omega)
    have hd:isDig c=false:=by unfold isDig;rw[decide_eq_false h1];rfl
    rw[hd,if_neg (by decide)] at he
    refine Wc.drawC 1 (by kernel_rfl) ?_
    (iterate 36 (first|((first|apply Fp rfl rfl rfl|apply FC.new rfl rfl|(apply FC.pureG rfl rfl;(focus (simp +decide only[Gs,n0,q0,Qx,Hx,c0,c1,ln,e1,e2,ix,lc];done));focus rfl));focus ((try simp +decide only[Oy,n0,q0,Qx,Hx,c0,c1,ln,e1,e2,ix,lc]);with_reducible rfl))|(apply FC.skipG rfl rfl;focus (simp +decide only[Gs,n0,q0,Qx,Hx,c0,c1,ln,e1,e2,ix,lc];done))))
    refine FC.nil ?_
    repeat' (first|with_reducible apply Ws|(apply Wp;focus ((repeat ((with_reducible apply Rr rfl);focus ((try simp +decide only[Oy,n0]);with_reducible rfl)));with_reducible exact Rn))|(refine W2 (by simp +decide only[Cx,n0];try with_reducible rfl) (fun hb=>?_) (fun hb=>?_)<;>try contradiction)|apply W3|apply W4|apply W5|apply W6)
    rw[he]
    exact⟨rfl,by simp +decide only[Gs,n0],by simp +decide only[Gs,d0],M,by simp +decide only[Gs,n0,q0],by simp +decide only[Gs,n0,q3],hqB,b,nn,by simp +decide only[Gs,n0,q4],hn⟩
   have e2:decide ((c.toNat:Int)≥48)=true:=decide_eq_true (by omega)
   by_cases h2:c.toNat≤57
   rotate_left
   ·have e3:decide ((c.toNat:Int)≤57)=false:=decide_eq_false (by omega)
    have hd:isDig c=false:=by unfold isDig;rw[decide_eq_false h2,Bool.and_false]
    rw[hd,if_neg (by decide)] at he
    refine Wc.drawC 1 (by kernel_rfl) ?_
    (iterate 36 (first|((first|apply Fp rfl rfl rfl|apply FC.new rfl rfl|(apply FC.pureG rfl rfl;(focus (simp +decide only[Gs,n0,q0,Qx,Hx,c0,c1,ln,e1,e2,e3,ix,lc];done));focus rfl));focus ((try simp +decide only[Oy,n0,q0,Qx,Hx,c0,c1,ln,e1,e2,e3,ix,lc]);with_reducible rfl))|(apply FC.skipG rfl rfl;focus (simp +decide only[Gs,n0,q0,Qx,Hx,c0,c1,ln,e1,e2,e3,ix,lc];done))))
    refine FC.nil ?_
    repeat' (first|with_reducible apply Ws|(apply Wp;focus ((repeat ((with_reducible apply Rr rfl);focus ((try simp +decide only[Oy,n0]);with_reducible rfl)));with_reducible exact Rn))|(refine W2 (by simp +decide only[Cx,n0];try with_reducible rfl) (fun hb=>?_) (fun hb=>?_)<;>try contradiction)|apply W3|apply W4|apply W5|apply W6)
    rw[he]
    exact⟨rfl,by simp +decide only[Gs,n0],by simp +decide only[Gs,d0],M,by simp +decide only[Gs,n0,q0],by simp +decide only[Gs,n0,q3],hqB,b,nn,by simp +decide only[Gs,n0,q4],hn⟩
   have e3:decide ((c.toNat:Int)≤57)=true:=decide_eq_true (by omega)
   have hd:isDig c=true:=by unfold isDig;rw[decide_eq_true h1,decide_eq_true h2];rfl
   rw[if_pos hd] at he
   have w1:IntKind.i64.wrap ((p:Int)+1)=((p+1:Nat):Int):=wrap64 (by omega) (by omega)
   have w2:IntKind.i64.wrap (10*(nn:Int))=((10*nn:Nat):Int):=wrap64 (by omega) (by omega)
   have w3:IntKind.u8.wrap ((c.toNat:Int)-48)=((c.toNat-48:Nat):Int):=by
    rw[show (c.toNat:Int)-48=((c.toNat-48:Nat):Int) by omega]
    exact wrapU8 (by omega)
   have w4:IntKind.i64.wrap ((c.toNat-48:Nat):Int)=((c.toNat-48:Nat):Int):=wrapN (by omega)
   have w5:IntKind.i64.wrap (((10*nn:Nat):Int)+((c.toNat-48:Nat):Int))=((10*nn+(c.toNat-48):Nat):Int):=wrap64 (by omega) (by omega)
   obtain⟨h1,s1,b1,m1⟩:=b.set fh qty3 rfl 1 (p+1:Nat) (by decide) rfl (pos':=p+1) (items':=items) (w':=w) (e':=0)
   have hb1:=m1.blk _ _ hk hqB
   refine Wc.drawC 1 (by kernel_rfl) ?_
   (iterate 36 (first|((first|apply Fp rfl rfl rfl|apply FC.new rfl rfl|(apply FC.pureG rfl rfl;(focus (simp +decide only[Gs,n0,q0,Qx,Hx,c0,c1,ln,e1,e2,e3,ix,lc];done));focus rfl));focus ((try simp +decide only[Oy,n0,q0,Qx,Hx,c0,c1,ln,e1,e2,e3,ix,lc]);with_reducible rfl))|(apply FC.skipG rfl rfl;focus (simp +decide only[Gs,n0,q0,Qx,Hx,c0,c1,ln,e1,e2,e3,ix,lc];done))))
   refine FC.nil ?_
   repeat' (first|with_reducible apply Ws|(apply Wp;focus ((repeat ((with_reducible apply Rr rfl);focus ((try simp +decide only[Oy,n0]);with_reducible rfl)));with_reducible exact Rn))|(refine W2 (by simp +decide only[Cx,n0];try with_reducible rfl) (fun hb=>?_) (fun hb=>?_)<;>try contradiction)|apply W3|apply W4|apply W5|apply W6)
   refine Wc.drawC 1 (by kernel_rfl) ?_
   (iterate 16 ((first|apply Fp rfl rfl rfl|apply FC.new rfl rfl);focus ((try simp +decide only[Oy,n0,q0,q4,Qx,Hx,c0,c1,ix,lc,w2,w3,w4,w5,qcv5_3]);with_reducible rfl)))
   refine FC.nil ?_
   by_cases h3:2199023255552<10*nn+(c.toNat-48)
   ·have e4:decide (((10*nn+(c.toNat-48):Nat):Int)>2199023255552)=true:=decide_eq_true (by omega)
    repeat' (first|with_reducible apply Ws|(apply Wp;focus ((repeat ((with_reducible apply Rr rfl);focus ((try simp +decide only[Oy,n0,q0,Qx,Hx,c1,w1,s1,e4]);with_reducible rfl)));with_reducible exact Rn))|(refine W2 (by simp +decide only[Cx,n0,q0,e4];try with_reducible rfl) (fun hb=>?_) (fun hb=>?_)<;>try contradiction)|apply W3|apply W4|apply W5|apply W6)
    refine (ih (p+1) 2199023255552 _ _ h1 (by omega) (by omega) (by omega) (by omega) ?_ ?_ ?_ ?_ ?_ (M.trans m1) hb1 b1 he)
    ·simp +decide only[Gs,n0]
    ·simp +decide only[Gs,d0]
    ·simp +decide only[Gs,n0,q0]
    ·simp +decide only[Gs,n0,q3]
    ·simp +decide only[Gs,n0]
     rfl
   ·have e4:decide (((10*nn+(c.toNat-48):Nat):Int)>2199023255552)=false:=decide_eq_false (by omega)
    repeat' (first|with_reducible apply Ws|(apply Wp;focus ((repeat ((with_reducible apply Rr rfl);focus ((try simp +decide only[Oy,n0,q0,Qx,Hx,c1,w1,s1,e4]);with_reducible rfl)));with_reducible exact Rn))|(refine W2 (by simp +decide only[Cx,n0,q0,e4];try with_reducible rfl) (fun hb=>?_) (fun hb=>?_)<;>try contradiction)|apply W3|apply W4|apply W5|apply W6)
    refine (ih (p+1) (10*nn+(c.toNat-48)) _ _ h1 (by omega) (by omega) (by omega) (by omega) ?_ ?_ ?_ ?_ ?_ (M.trans m1) hb1 b1 he)
    ·simp +decide only[Gs,n0]
    ·simp +decide only[Gs,d0]
    ·simp +decide only[Gs,n0,q0]
    ·simp +decide only[Gs,n0,q3]
    ·simp +decide only[Gs,n0]
 apply Wk (hI _ _ _ (.inl rfl)) fn86 rfl
 intro A0 n0 d0 hA0
 change A0.n=103 at n0
 have q0:A0.get 0=.pointer (some (own k)):=hA0 0 _ rfl
 clear hA0
 obtain⟨c0,c1,c2,c3,c4⟩:=b.at (E:=E) hv2
 repeat' (first|with_reducible apply Ws|(apply Wp;focus ((repeat ((with_reducible apply Rr rfl);focus ((try simp +decide only[Oy,n0,q0,Qx,Hx,c1]);with_reducible rfl)));with_reducible exact Rn))|(refine W2 (by simp +decide only[Cx,n0,q0];try with_reducible rfl) (fun hb=>?_) (fun hb=>?_)<;>try contradiction)|apply W3|apply W4|apply W5|apply W6)
 refine (key (bs.length-pos) pos 0 0 _ g rfl (by omega) rfl hp ?_ ?_ ?_ ?_ ?_ (Mod.refl f) hqB b rfl).mono ?_
 ·simp +decide only[Gs,n0]
 ·simp +decide only[Gs,d0]
 ·simp +decide only[Gs,n0,q0]
 ·simp +decide only[Gs,n0]
 ·simp +decide only[Gs,n0]
  rfl
 clear n0 d0 q0 c0 c1 c2 c3 c4
 rintro ex A0 h' ⟨rfl,n0,d0,M,q0,q3,hqB',b,nn,q4,hnn⟩
 obtain⟨hd1,hd2,hd3⟩:=digRun_pos (bs:=bs) (bs.length-pos) pos 0 hp
 have he:rdDig bs pos it0=_:=rfl
 unfold rdDig at he
 rw[show (rdDig bs pos it0)=_ from he]
 clear he
 generalize digRun bs (bs.length-pos) pos 0=dr at*
 obtain⟨p,m⟩:=dr
 simp only at*
 simp only[if_true]
 obtain⟨c0,c1,c2,c3,c4⟩:=b.at (E:=E) hv2
 have bad:∀ (e:Int),∃ nf g',(ev tab E I nf).call 52 [.pointer (some (own k)),.int .i64 e,.int .i64 (pos:Nat)] h'=some (.tuple #[],g')∧Mod (fun j=>j=k) g g'∧Ref k v p items pos e g':=fun e=>by
  obtain⟨nf,g',ck,m,b'⟩:=rfail52 (E:=E) (I:=I) (fun args h=>hI _ args h (.inr rfl)) M.fit b e pos
  exact⟨nf,g',ck,M.trans m,b'⟩
 repeat' (first|(with_reducible apply Wc.seq)|refine Wc.block ?_)
 by_cases h1:p=pos
 ·have e1:decide ((p:Int)=(pos:Int))=true:=decide_eq_true (by omega)
  obtain⟨nf,g',ck,M',b'⟩:=bad 4
  (repeat' (with_reducible apply Ws));(apply Wn 1;focus ((repeat (first|((first|with_reducible apply Rr rfl|((with_reducible apply Rg);(focus rfl);(focus rfl);focus (simp +decide only[Gs,n0,q0,q3,Qx,Hx,c0,c1,e1];done)));focus ((try simp +decide only[Oy,n0,q0,q3,Qx,Hx,c0,c1,e1]);with_reducible rfl))|((with_reducible apply Rs);(focus rfl);(focus rfl);focus (simp +decide only[Gs,n0,q0,q3,Qx,Hx,c0,c1,e1];done))|((with_reducible apply RO.skipU);(focus rfl);(focus rfl);focus (simp +decide only[Gs,n0,q0,q3,Qx,Hx,c0,c1,e1];done))));with_reducible exact Rn))
  repeat' (first|with_reducible apply Ws|(apply Wn nf;focus ((repeat ((with_reducible apply Rr rfl);focus ((try simp +decide only[Oy,n0,q0,q3,q4,ck]);with_reducible rfl)));with_reducible exact Rn))|(refine W2 (by simp +decide only[Cx,n0,q0,q3,q4];try with_reducible rfl) (fun hb=>?_) (fun hb=>?_)<;>try contradiction)|apply W3|apply W4|apply W5|apply W6)
  refine done_q (v:=.int .i64 (nn:Nat)) (.inr rfl) (by simp +decide only[Gs,d0]) rfl (by simp +decide only[Gs,n0,q4]) ⟨M',?_⟩
  rw[if_pos (.inl h1)]
  exact⟨_,p,rfl,b'⟩
 have e1:decide ((p:Int)=(pos:Int))=false:=decide_eq_false (by omega)
 have hlt:pos<bs.length:=by omega
 obtain⟨x,hx⟩:∃ x,bs[pos]? = some x:=⟨bs[pos],List.getElem?_eq_getElem hlt⟩
 obtain⟨ca,ix,lc⟩:=hix pos x hx
 have lc:=lc h' hqB'
 have w1:IntKind.i64.wrap ((pos:Int)+1)=((pos+1:Nat):Int):=wrap64 (by omega) (by omega)
 by_cases h2:bs[pos]? = some 48∧pos+1<p
 ·have hx48:x=48:=by have:=h2.1;rw[hx] at this;exact Option.some.inj this
  subst hx48
  have e2:decide (((48:UInt8).toNat:Int)=48)=true:=by decide
  have e3:decide ((p:Int)>((pos+1:Nat):Int))=true:=decide_eq_true (by omega)
  obtain⟨nf,g',ck,M',b'⟩:=bad 4
  (repeat' (with_reducible apply Ws));(apply Wn 1;focus ((repeat (first|((first|with_reducible apply Rr rfl|((with_reducible apply Rg);(focus rfl);(focus rfl);focus (simp +decide only[Gs,n0,q0,q3,Qx,Hx,c0,c1,e1,ix,lc,e2,e3,w1];done)));focus ((try simp +decide only[Oy,n0,q0,q3,Qx,Hx,c0,c1,e1,ix,lc,e2,e3,w1]);with_reducible rfl))|((with_reducible apply Rs);(focus rfl);(focus rfl);focus (simp +decide only[Gs,n0,q0,q3,Qx,Hx,c0,c1,e1,ix,lc,e2,e3,w1];done))|((with_reducible apply RO.skipU);(focus rfl);(focus rfl);focus (simp +decide only[Gs,n0,q0,q3,Qx,Hx,c0,c1,e1,ix,lc,e2,e3,w1];done))));with_reducible exact Rn))
  repeat' (first|with_reducible apply Ws|(apply Wn nf;focus ((repeat ((with_reducible apply Rr rfl);focus ((try simp +decide only[Oy,n0,q0,q3,q4,ck]);with_reducible rfl)));with_reducible exact Rn))|(refine W2 (by simp +decide only[Cx,n0,q0,q3,q4];try with_reducible rfl) (fun hb=>?_) (fun hb=>?_)<;>try contradiction)|apply W3|apply W4|apply W5|apply W6)
  refine done_q (v:=.int .i64 (nn:Nat)) (.inr rfl) (by simp +decide only[Gs,d0]) rfl (by simp +decide only[Gs,n0,q4]) ⟨M',?_⟩
  rw[if_pos (.inr h2)]
  exact⟨_,p,rfl,b'⟩
 rw[if_neg (fun h=>h.elim h1 h2)]
 refine Wc.mono (Q:=fun ex A h=>ex=.normal∧h=h'∧A.n=103∧A.defers=[]∧A.get 0=.pointer (some (own k))∧A.get 3=.int .i64 (pos:Nat)∧A.get 4=.int .i64 (nn:Nat)∧A.get 93=.bool false) ?_ ?_
 ·by_cases h3:x.toNat=48
  ·have e2:decide ((x.toNat:Int)=48)=true:=decide_eq_true (by omega)
   have e3:decide ((p:Int)>((pos+1:Nat):Int))=false:=decide_eq_false (fun h=>h2 ⟨by rw[hx,show x=48 from UInt8.toNat_inj.1 h3],by omega⟩)
   (repeat' (with_reducible apply Ws));(apply Wn 1;focus ((repeat (first|((first|with_reducible apply Rr rfl|((with_reducible apply Rg);(focus rfl);(focus rfl);focus (simp +decide only[Gs,n0,q0,q3,Qx,Hx,c0,c1,e1,ix,lc,e2,e3,w1];done)));focus ((try simp +decide only[Oy,n0,q0,q3,Qx,Hx,c0,c1,e1,ix,lc,e2,e3,w1]);with_reducible rfl))|((with_reducible apply Rs);(focus rfl);(focus rfl);focus (simp +decide only[Gs,n0,q0,q3,Qx,Hx,c0,c1,e1,ix,lc,e2,e3,w1];done))|((with_reducible apply RO.skipU);(focus rfl);(focus rfl);focus (simp +decide only[Gs,n0,q0,q3,Qx,Hx,c0,c1,e1,ix,lc,e2,e3,w1];done))));with_reducible exact Rn))
   exact⟨rfl,rfl,by simp +decide only[Gs,n0],by simp +decide only[Gs,d0],by simp +decide only[Gs,n0,q0],by simp +decide only[Gs,n0,q3],by simp +decide only[Gs,n0,q4],by simp +decide only[Gs,n0]⟩
  ·have e2:decide ((x.toNat:Int)=48)=false:=decide_eq_false (by omega)
   (repeat' (with_reducible apply Ws));(apply Wn 1;focus ((repeat (first|((first|with_reducible apply Rr rfl|((with_reducible apply Rg);(focus rfl);(focus rfl);focus (simp +decide only[Gs,n0,q0,q3,Qx,Hx,c0,c1,e1,ix,lc,e2,w1];done)));focus ((try simp +decide only[Oy,n0,q0,q3,Qx,Hx,c0,c1,e1,ix,lc,e2,w1]);with_reducible rfl))|((with_reducible apply Rs);(focus rfl);(focus rfl);focus (simp +decide only[Gs,n0,q0,q3,Qx,Hx,c0,c1,e1,ix,lc,e2,w1];done))|((with_reducible apply RO.skipU);(focus rfl);(focus rfl);focus (simp +decide only[Gs,n0,q0,q3,Qx,Hx,c0,c1,e1,ix,lc,e2,w1];done))));with_reducible exact Rn))
   exact⟨rfl,rfl,by simp +decide only[Gs,n0],by simp +decide only[Gs,d0],by simp +decide only[Gs,n0,q0],by simp +decide only[Gs,n0,q3],by simp +decide only[Gs,n0,q4],by simp +decide only[Gs,n0]⟩
 clear n0 d0 q0 q3 q4
 rintro ex A0 h'' ⟨rfl,rfl,n0,d0,q0,q3,q4,q93⟩
 simp only[if_true]
 by_cases h3:1099511627776<m
 ·have e4:decide ((nn:Int)>1099511627776)=true:=decide_eq_true (by omega)
  obtain⟨nf,g',ck,M',b'⟩:=bad 3
  repeat' (first|with_reducible apply Ws|(apply Wn nf;focus ((repeat ((with_reducible apply Rr rfl);focus ((try simp +decide only[Oy,n0,q0,q3,q4,q93,e4,ck]);with_reducible rfl)));with_reducible exact Rn))|(refine W2 (by simp +decide only[Cx,n0,q0,q3,q4,q93,e4];try with_reducible rfl) (fun hb=>?_) (fun hb=>?_)<;>try contradiction)|apply W3|apply W4|apply W5|apply W6)
  refine done_q (v:=.int .i64 (nn:Nat)) (.inr rfl) (by simp +decide only[Gs,d0]) rfl (by simp +decide only[Gs,n0,q4]) ⟨M',?_⟩
  rw[if_pos h3]
  exact⟨_,p,rfl,b'⟩
 have e4:decide ((nn:Int)>1099511627776)=false:=decide_eq_false (by omega)
 rw[if_neg h3]
 obtain rfl:m=nn:=by omega
 repeat' (first|with_reducible apply Ws|(apply Wp;focus ((repeat ((with_reducible apply Rr rfl);focus ((try simp +decide only[Oy,n0,q0,q3,q4,q93,e4]);with_reducible rfl)));with_reducible exact Rn))|(refine W2 (by simp +decide only[Cx,n0,q0,q3,q4,q93,e4];try with_reducible rfl) (fun hb=>?_) (fun hb=>?_)<;>try contradiction)|apply W3|apply W4|apply W5|apply W6)
 refine done_q (v:=.int .i64 (m:Nat)) (.inr rfl) (by simp +decide only[Gs,d0]) rfl (by simp +decide only[Gs,n0,q4]) ⟨M,?_⟩
 exact⟨rfl,b⟩
theorem fn88:tab.fn.get 88=some Tryd.f88:=by kernel_rfl
noncomputable def loop88a:Code:=loopAt Tryd.f88 0
noncomputable def loop88b:Code:=loopAt Tryd.f88 1
def TxtR (k:Nat) (v:Value) (r:Rd ByteArray) (x:Value) (items:Nat) (w:Int) (g:H):Prop:=match r with
 | .ok tx p _=>x=.string tx∧Ref k v p items w 0 g
 | .bad p e=>∃ (s:ByteArray) (pos:Nat),x=.string s∧Ref k v pos items p e g
theorem rhex88 (hI:∀ f args h,(f=52∨f=116)→I f args h=none) {k kb:Nat} {v:Value} {bs:List UInt8} {B:Blk} (hB:∀ h:H,h.blk kb=some B→Byt E h v bs) {p items:Nat} {w:Int} {h:H} (f:Fit h) (hqB:h.blk kb=some B) (b:Ref k v p items w 0 h) (hp:p+1≤bs.length) (hl:bs.length≤1000000) {x3 sl:Value} :
  ∀ (rr j n:Nat) (A0:Ac),rr=2-j→j≤2→HexAt bs (p+1) j n→A0.n=155→A0.defers=[]→A0.get 0=.pointer (some (own k))→A0.get 3=x3→A0.get 4=sl→A0.get 6=.int .i64 (n:Nat)→A0.get 7=.int .i64 (j+1:Nat)→
   Wc tab E I ⟨88,none⟩ (.loop loop88b) A0 h (fun ex A' h'=>A'.n=155∧A'.defers=[]∧((ex=.exit 2∧h'=h∧A'.get 0=.pointer (some (own k))∧A'.get 3=x3∧A'.get 4=sl∧∃ n,HexAt bs (p+1) 2 n∧A'.get 6=.int .i64 (n:Nat))∨(ex=.ret∧A'.get 2=.string ⟨⟨[]⟩⟩∧Mod (fun j=>j=k) h h'∧∃ q e pos',rdHid bs (p+1)=.bad q e∧Ref k v pos' items q e h'))):=by
 obtain⟨hv1,hv2,ln,hix⟩:=bytB (E:=E) hB hqB
 obtain⟨c0,c1,c2,c3,c4⟩:=b.at (E:=E) hv2
 have bad:∀ (e:Int) (q:Nat),∃ nf g',(ev tab E I nf).call 52 [.pointer (some (own k)),.int .i64 e,.int .i64 (q:Nat)] h=some (.tuple #[],g')∧Mod (fun j=>j=k) h g'∧Ref k v p items q e g':=fun e q=>
  rfail52 (E:=E) (I:=I) (fun args h=>hI _ args h (.inl rfl)) f b e q
 intro rr
 induction rr with
 | zero=>
  intro j n A0 hrr hj hn n0 d0 q0 q3 q4 q6 q7
  obtain rfl:j=2:=by omega
  have e1:decide (((2+1:Nat):Int)≤2)=false:=by decide
  apply Wc.loop
  simp only[loop88b,loopAt,loops,Tryd.f88,List.cons_append,List.nil_append,List.append_nil,List.getD_cons_succ,List.getD_cons_zero]
  repeat' (first|with_reducible apply Ws|(apply Wp;focus ((repeat ((with_reducible apply Rr rfl);focus ((try simp +decide only[Oy,n0,q7,e1]);with_reducible rfl)));with_reducible exact Rn))|(refine W2 (by simp +decide only[Cx,n0,q7,e1];try with_reducible rfl) (fun hb=>?_) (fun hb=>?_)<;>try contradiction)|apply W3|apply W4|apply W5|apply W6)
  exact⟨by simp +decide only[Gs,n0],by simp +decide only[Gs,d0],.inl ⟨rfl,rfl,by simp +decide only[Gs,n0,q0],by simp +decide only[Gs,n0,q3],by simp +decide only[Gs,n0,q4],n,hn,by simp +decide only[Gs,n0,q6]⟩⟩
 | succ rr ih=>
  intro j n A0 hrr hj hn n0 d0 q0 q3 q4 q6 q7
  have hj2:j<2:=by omega
  have hn16:=hn.small hj2
  have hpj:=hn.lt hp (by omega)
  have e1:decide (((j+1:Nat):Int)≤2)=true:=decide_eq_true (by omega)
  have w1:IntKind.i64.wrap ((p:Int)+((j+1:Nat):Int))=((p+1+j:Nat):Int):=by rw[wrap64 (by omega) (by omega)];omega
  have w2:IntKind.i64.wrap (((j+1:Nat):Int)+1)=((j+1+1:Nat):Int):=by rw[wrap64 (by omega) (by omega)];omega
  apply Wc.loop
  simp only[loop88b,loopAt,loops,Tryd.f88,List.cons_append,List.nil_append,List.append_nil,List.getD_cons_succ,List.getD_cons_zero]
  by_cases h1:p+1+j=bs.length
  ·have e2:decide (((p+1+j:Nat):Int)=(bs.length:Int))=true:=decide_eq_true (by omega)
   have hno:bs[p+1+j]? = none:=by rw[List.getElem?_eq_none_iff];omega
   obtain⟨nf,g',ck,m,b'⟩:=bad 4 bs.length
   repeat' (first|with_reducible apply Ws|(apply Wp;focus ((repeat ((with_reducible apply Rr rfl);focus ((try simp +decide only[Oy,n0,q7,e1]);with_reducible rfl)));with_reducible exact Rn))|(refine W2 (by simp +decide only[Cx,n0,q7,e1];try with_reducible rfl) (fun hb=>?_) (fun hb=>?_)<;>try contradiction)|apply W3|apply W4|apply W5|apply W6)
   refine Wc.drawC 1 (by kernel_rfl) ?_
   (iterate 12 ((first|apply Fp rfl rfl rfl|apply FC.new rfl rfl);focus ((try simp +decide only[Oy,n0,q0,q7,Qx,Hx,c0,c1,ln,w1,e2]);with_reducible rfl)))
   refine FC.nil ?_
   repeat' (first|with_reducible apply Ws|(apply Wn nf;focus ((repeat ((with_reducible apply Rr rfl);focus ((try simp +decide only[Oy,n0,q0,Qx,Hx,c0,ln,ck]);with_reducible rfl)));with_reducible exact Rn))|(refine W2 (by simp +decide only[Cx,n0,q0];try with_reducible rfl) (fun hb=>?_) (fun hb=>?_)<;>try contradiction)|apply W3|apply W4|apply W5|apply W6)
   exact⟨by simp +decide only[Gs,n0],by simp +decide only[Gs,d0],.inr ⟨rfl,by simp +decide only[Gs,n0],m,_,_,p,hn.stop hj2 hno,b'⟩⟩
  have hlt:p+1+j<bs.length:=by omega
  have e2:decide (((p+1+j:Nat):Int)=(bs.length:Int))=false:=decide_eq_false (by omega)
  obtain⟨c,hc⟩:∃ c,bs[p+1+j]? = some c:=⟨bs[p+1+j],List.getElem?_eq_getElem hlt⟩
  obtain⟨ca,ix,lc⟩:=hix _ c hc
  have lc:=lc h hqB
  obtain⟨nd,_,_,cd,rfl,rfl⟩:=digit116 (E:=E) (I:=I) (fun args h=>hI _ args h (.inr rfl)) (g:=fresh h) c
  have ed:digI c=match valB c with|some a=>(a:Nat)|none => -1:=rfl
  cases hx:valB c with
  | none=>
   rw[hx] at ed
   simp only[] at ed
   rw[ed] at cd
   have e3:decide ((-1:Int)<0)=true:=by decide
   obtain⟨nf,g',ck,m,b'⟩:=bad 4 p
   repeat' (first|with_reducible apply Ws|(apply Wp;focus ((repeat ((with_reducible apply Rr rfl);focus ((try simp +decide only[Oy,n0,q7,e1]);with_reducible rfl)));with_reducible exact Rn))|(refine W2 (by simp +decide only[Cx,n0,q7,e1];try with_reducible rfl) (fun hb=>?_) (fun hb=>?_)<;>try contradiction)|apply W3|apply W4|apply W5|apply W6)
   refine Wc.drawC 1 (by kernel_rfl) ?_
   (iterate 12 ((first|apply Fp rfl rfl rfl|apply FC.new rfl rfl);focus ((try simp +decide only[Oy,n0,q0,q7,Qx,Hx,c0,c1,ln,w1,e2]);with_reducible rfl)))
   refine FC.nil ?_
   repeat' (first|with_reducible apply Ws|(apply Wp;focus ((repeat ((with_reducible apply Rr rfl);focus ((try simp +decide only[Oy,n0]);with_reducible rfl)));with_reducible exact Rn))|(refine W2 (by simp +decide only[Cx,n0];try with_reducible rfl) (fun hb=>?_) (fun hb=>?_)<;>try contradiction)|apply W3|apply W4|apply W5|apply W6)
   refine Wc.drawC nd (by kernel_rfl) ?_
   (iterate 14 ((first|apply Fp rfl rfl rfl|apply FC.new rfl rfl);focus ((try simp +decide only[Oy,n0,q0,q7,Qx,Hx,c0,c1,w1,ix,lc,cd]);with_reducible rfl)))
   refine FC.nil ?_
   repeat' (first|with_reducible apply Ws|(apply Wn nf;focus ((repeat ((with_reducible apply Rr rfl);focus ((try simp +decide only[Oy,n0,q0,Qx,Hx,c1,e3,ck]);with_reducible rfl)));with_reducible exact Rn))|(refine W2 (by simp +decide only[Cx,n0,q0,e3];try with_reducible rfl) (fun hb=>?_) (fun hb=>?_)<;>try contradiction)|apply W3|apply W4|apply W5|apply W6)
   exact⟨by simp +decide only[Gs,n0],by simp +decide only[Gs,d0],.inr ⟨rfl,by simp +decide only[Gs,n0],m,p,4,p,hn.not hj2 hc hx,b'⟩⟩
  | some x=>
   rw[hx] at ed
   simp only[] at ed
   rw[ed] at cd
   have hx16:=valB_lt hx
   have e3:decide ((x:Int)<0)=false:=decide_eq_false (by omega)
   have w3:IntKind.i64.wrap (16*(n:Int))=((16*n:Nat):Int):=by rw[wrap64 (by omega) (by omega)];omega
   have w4:IntKind.i64.wrap (((16*n:Nat):Int)+(x:Int))=((16*n+x:Nat):Int):=by rw[wrap64 (by omega) (by omega)];omega
   repeat' (first|with_reducible apply Ws|(apply Wp;focus ((repeat ((with_reducible apply Rr rfl);focus ((try simp +decide only[Oy,n0,q7,e1]);with_reducible rfl)));with_reducible exact Rn))|(refine W2 (by simp +decide only[Cx,n0,q7,e1];try with_reducible rfl) (fun hb=>?_) (fun hb=>?_)<;>try contradiction)|apply W3|apply W4|apply W5|apply W6)
   refine Wc.drawC 1 (by kernel_rfl) ?_
   (iterate 12 ((first|apply Fp rfl rfl rfl|apply FC.new rfl rfl);focus ((try simp +decide only[Oy,n0,q0,q7,Qx,Hx,c0,c1,ln,w1,e2]);with_reducible rfl)))
   refine FC.nil ?_
   repeat' (first|with_reducible apply Ws|(apply Wp;focus ((repeat ((with_reducible apply Rr rfl);focus ((try simp +decide only[Oy,n0]);with_reducible rfl)));with_reducible exact Rn))|(refine W2 (by simp +decide only[Cx,n0];try with_reducible rfl) (fun hb=>?_) (fun hb=>?_)<;>try contradiction)|apply W3|apply W4|apply W5|apply W6)
   refine Wc.drawC nd (by kernel_rfl) ?_
   (iterate 14 ((first|apply Fp rfl rfl rfl|apply FC.new rfl rfl);focus ((try simp +decide only[Oy,n0,q0,q7,Qx,Hx,c0,c1,w1,ix,lc,cd]);with_reducible rfl)))
   refine FC.nil ?_
   repeat' (first|with_reducible apply Ws|(apply Wp;focus ((repeat ((with_reducible apply Rr rfl);focus ((try simp +decide only[Oy,n0,q6,q7,e3,w2,w3,w4]);with_reducible rfl)));with_reducible exact Rn))|(refine W2 (by simp +decide only[Cx,n0,q6,q7,e3];try with_reducible rfl) (fun hb=>?_) (fun hb=>?_)<;>try contradiction)|apply W3|apply W4|apply W5|apply W6)
   refine ih (j+1) (16*n+x) _ (by omega) (by omega) (hn.step hj2 hc hx) ?_ ?_ ?_ ?_ ?_ ?_ ?_
   ·simp +decide only[Gs,n0]
   ·simp +decide only[Gs,d0]
   ·simp +decide only[Gs,n0,q0]
   ·simp +decide only[Gs,n0,q3]
   ·simp +decide only[Gs,n0,q4]
   ·simp +decide only[Gs,n0]
   ·simp +decide only[Gs,n0]
theorem rtext88 (hI:∀ f args h,(f=88∨f=87∨f=52∨f=115∨f=116)→I f args h=none) {k kb:Nat} {v:Value} {bs:List UInt8} {B:Blk} (hB:∀ h:H,h.blk kb=some B→Byt E h v bs) (hk:kb≠k) {pos items:Nat} {w:Int} {g:H} (f:Fit g) (hqB:g.blk kb=some B) (b:Ref k v pos items w 0 g) (hp1:1≤pos) (hp:pos≤bs.length) (hl:bs.length≤1000000) (it0:Nat) :
  ∃ n x g',(ev tab E I n).call 88 [.pointer (some (own k))] g=some (x,g')∧(Mod (fun j=>j=k) g g'∧TxtR k v (rdQuo bs pos it0) x items w g'):=by
 have kl:k<g.next:=f.lt b
 obtain⟨hv1,hv2,ln,hix⟩:=bytB (E:=E) hB hqB
 have wp:IntKind.i64.wrap ((pos:Int)-1)=((pos-1:Nat):Int):=by rw[wrap64 (by omega) (by omega)];omega
 have fl:∀ {p items:Nat} {h:H} (e':Int) (q:Nat),Mod (fun j=>j=k) g h→Ref k v p items w 0 h→∃ nf g',(ev tab E I nf).call 52 [.pointer (some (own k)),.int .i64 e',.int .i64 (q:Nat)] h=some (.tuple #[],g')∧Mod (fun j=>j=k) g g'∧Ref k v p items q e' g'∧Mod (fun j=>j=k) h g':=fun e' q M b=>by
  obtain⟨nf,g',ck,m,b'⟩:=rfail52 (E:=E) (I:=I) (fun args h=>hI _ args h (by simp)) M.fit b e' q
  exact⟨nf,g',ck,M.trans m,b',m⟩
 have key:∀ (kk p:Nat) (acc:List UInt8) (sl:Value) (A0:Ac) (h:H),bs.length+1-p≤kk→pos≤p→p≤bs.length→acc.length≤p→A0.n=155→A0.defers=[]→A0.get 0=.pointer (some (own k))→A0.get 3=.int .i64 (pos-1:Nat)→A0.get 4=sl→
   Mod (fun j=>j=k) g h→Ref k v p items w 0 h→Bol 5 g.next h.next h sl acc→quoRun bs (bs.length+1-pos) pos []=quoRun bs kk p acc→
   Wc tab E I ⟨88,none⟩ (.loop loop88a) A0 h (fun ex A' h'=>A'.n=155∧A'.defers=[]∧Mod (fun j=>j=k) g h'∧((ex=.exit 0∧∃ l p sl,quoRun bs (bs.length+1-pos) pos []=.ok l (p+1) 0∧l.length≤bs.length∧p<bs.length∧A'.get 0=.pointer (some (own k))∧A'.get 3=.int .i64 (pos-1:Nat)∧A'.get 4=sl∧Bol 5 g.next h'.next h' sl l∧Ref k v p items w 0 h')∨(ex=.ret∧A'.get 2=.string ⟨⟨[]⟩⟩∧∃ q e pos',quoRun bs (bs.length+1-pos) pos []=.bad q e∧Ref k v pos' items q e h'))):=by
  intro kk
  induction kk with
  | zero=>intro p acc sl A0 h hk _ hpl;omega
  | succ kk ih=>
   intro p acc sl A0 h hkk hpp hpl hal n0 d0 q0 q3 q4 M b K he
   have fh:=M.fit
   have hbh:=M.blk _ _ hk hqB
   obtain⟨c0,c1,c2,c3,c4⟩:=b.at (E:=E) hv2
   have w1:IntKind.i64.wrap ((p:Int)+1)=((p+1:Nat):Int):=wrap64 (by omega) (by omega)
   have w3:IntKind.i64.wrap ((p:Int)+3)=((p+3:Nat):Int):=wrap64 (by omega) (by omega)
   rw[quoRun] at he
   have app:∀ (c:UInt8) (d:Nat),∃ h2 sl' q q',abuildSlice tab 31 1 [(0,.int .u8 (c.toNat:Nat))] h=some (.slice (some (own h.next)) 1 1,h2)∧aappend tab E 31 31 sl (.slice (some (own h.next)) 1 1) h2=some (sl',q)∧q.cell E (aadd (own k) 1)=some (.int .i64 (p:Nat))∧astore tab 3 (aadd (own k) 1) (.int .i64 (p+d:Nat)) q=some q'∧Mod (fun j=>j=k) g q'∧Ref k v (p+d) items w 0 q'∧Bol 5 g.next q'.next q' sl' (acc++[c]):=by
    intro c d
    have hbs:=qbs31 ((c.toNat:Nat):Int) (h:=h)
    obtain⟨h2,t2,hh2,hby⟩:=one_byte (E:=E) M.fit c.toNat c.toNat_lt
    rw[hh2] at hbs
    have hcc:UInt8.ofNat c.toNat=c:=by simp
    rw[hcc] at hby
    have K1:=K.mod (t2.mod (M:=fun _=>False)) (fun _ _ h=>h.elim)
    obtain⟨sl',q,happ,K2,AP⟩:=bol_step (D:=tab) (E:=E) (t:=31) (t2:=31) (by_:=1) t2.fit (Nat.le_trans M.next t2.next) t2.next K1 qty31 qtz5 rfl (qza31 _ _ _) hby (by
     unfold roomy
     simp only[Bool.and_eq_true,Nat.ble_eq,List.length_singleton];omega)
    have bq:Ref k v p items w 0 q:=AP.keepP (t2.grows _ _ b) rfl
    have Mq:=AP.mod f (Nat.le_refl _) (M.ahd t2)
    obtain⟨_,f1,_,_,_⟩:=bq.at (E:=E) hv2
    obtain⟨q',s1,b1,m1⟩:=bq.set AP.fit qty3 rfl 1 (p+d:Nat) (by decide) rfl (pos':=p+d) (items':=items) (w':=w) (e':=0)
    exact⟨h2,sl',q,q',hbs,happ,f1,s1,Mq.trans m1,b1,(K2.mod m1 (fun j B hj hB=>by
     subst hj
     rw[show q.blk j=_ from bq] at hB;cases hB;rfl)).up m1.next⟩
   obtain⟨ni,_,_,ci,rfl,hci⟩:=is87 (E:=E) (I:=I) (fun args h=>hI _ args h (by simp)) hB hbh b hpl 34
   have ci:(ev tab E I ni).call 87 [.pointer (some (own k)),.int .u8 34] h=some (_,h):=ci
   apply Wc.loop
   simp only[loop88a,loopAt,loops,Tryd.f88,List.cons_append,List.nil_append,List.append_nil,List.getD_cons_succ,List.getD_cons_zero]
   repeat' (first|(with_reducible apply Wc.seq)|refine Wc.block ?_)
   rcases hci with⟨h34,rfl⟩|⟨h34,rfl⟩
   ·rw[h34] at he
    simp only[if_true] at he
    repeat' (first|with_reducible apply Ws|(apply Wn ni;focus ((repeat ((with_reducible apply Rr rfl);focus ((try simp +decide only[Oy,n0,q0,ci]);with_reducible rfl)));with_reducible exact Rn))|(refine W2 (by simp +decide only[Cx,n0,q0,ci];try with_reducible rfl) (fun hb=>?_) (fun hb=>?_)<;>try contradiction)|apply W3|apply W4|apply W5|apply W6)
    exact⟨by simp +decide only[Gs,n0],by simp +decide only[Gs,d0],M,.inl ⟨rfl,acc,p,sl,he,by omega,(List.getElem?_eq_some_iff.1 h34).1,by simp +decide only[Gs,n0,q0],by simp +decide only[Gs,n0,q3],by simp +decide only[Gs,n0,q4],K,b⟩⟩
   by_cases h1:p=bs.length
   ·have e1:decide ((p:Int)=(bs.length:Int))=true:=decide_eq_true (by omega)
    have hn:bs[p]? = none:=by rw[List.getElem?_eq_none_iff];omega
    rw[hn] at he
    simp only[] at he
    obtain⟨nf,g',ck,m',b',_⟩:=fl 4 p M b
    repeat' (first|with_reducible apply Ws|(apply Wn ni;focus ((repeat ((with_reducible apply Rr rfl);focus ((try simp +decide only[Oy,n0,q0,ci]);with_reducible rfl)));with_reducible exact Rn))|(refine W2 (by simp +decide only[Cx,n0,q0,ci];try with_reducible rfl) (fun hb=>?_) (fun hb=>?_)<;>try contradiction)|apply W3|apply W4|apply W5|apply W6)
    refine Wc.drawC 1 (by kernel_rfl) ?_
    (iterate 10 ((first|apply Fp rfl rfl rfl|apply FC.new rfl rfl);focus ((try simp +decide only[Oy,n0,q0,Qx,Hx,c0,c1,ln,e1]);with_reducible rfl)))
    refine FC.nil ?_
    repeat' (first|with_reducible apply Ws|(apply Wn nf;focus ((repeat ((with_reducible apply Rr rfl);focus ((try simp +decide only[Oy,n0,q0,Qx,Hx,c1,ck]);with_reducible rfl)));with_reducible exact Rn))|(refine W2 (by simp +decide only[Cx,n0,q0];try with_reducible rfl) (fun hb=>?_) (fun hb=>?_)<;>try contradiction)|apply W3|apply W4|apply W5|apply W6)
    exact⟨by simp +decide only[Gs,n0],by simp +decide only[Gs,d0],m',.inr ⟨rfl,by simp +decide only[Gs,n0],p,4,p,he,b'⟩⟩
   have hlt:p<bs.length:=by omega
   have e1:decide ((p:Int)=(bs.length:Int))=false:=decide_eq_false (by omega)
   obtain⟨c,hc⟩:∃ c,bs[p]? = some c:=⟨bs[p],List.getElem?_eq_getElem hlt⟩
   obtain⟨ca,ix,lc⟩:=hix p c hc
   have lc:=lc h hbh
   rw[hc] at he h34
   simp only[] at he
   have h34:c≠34:=fun h=>h34 (by rw[h])
   rw[if_neg h34] at he
   repeat' (first|with_reducible apply Ws|(apply Wn ni;focus ((repeat ((with_reducible apply Rr rfl);focus ((try simp +decide only[Oy,n0,q0,ci]);with_reducible rfl)));with_reducible exact Rn))|(refine W2 (by simp +decide only[Cx,n0,q0,ci];try with_reducible rfl) (fun hb=>?_) (fun hb=>?_)<;>try contradiction)|apply W3|apply W4|apply W5|apply W6)
   refine Wc.drawC 1 (by kernel_rfl) ?_
   (iterate 10 ((first|apply Fp rfl rfl rfl|apply FC.new rfl rfl);focus ((try simp +decide only[Oy,n0,q0,Qx,Hx,c0,c1,ln,e1]);with_reducible rfl)))
   refine FC.nil ?_
   repeat' (first|with_reducible apply Ws|(apply Wp;focus ((repeat ((with_reducible apply Rr rfl);focus ((try simp +decide only[Oy,n0]);with_reducible rfl)));with_reducible exact Rn))|(refine W2 (by simp +decide only[Cx,n0];try with_reducible rfl) (fun hb=>?_) (fun hb=>?_)<;>try contradiction)|apply W3|apply W4|apply W5|apply W6)
   refine Wc.drawC 1 (by kernel_rfl) ?_
   (iterate 11 ((first|apply Fp rfl rfl rfl|apply FC.new rfl rfl);focus ((try simp +decide only[Oy,n0,q0,Qx,Hx,c0,c1,ix,lc]);with_reducible rfl)))
   refine FC.nil ?_
   refine Wc.forget (fun A=>A.n=155∧A.defers=[]∧A.get 0=.pointer (some (own k))∧A.get 3=.int .i64 (pos-1:Nat)∧A.get 4=sl∧A.get 5=.int .u8 (c.toNat:Nat)) (by and_intros<;>simp +decide only[Gs,n0,d0,q0,q3,q4]<;>rfl) ?_
   rintro A0 ⟨n0,d0,q0,q3,q4,q5⟩
   by_cases h3:c=92
   rotate_left
   ·rw[if_neg h3] at he
    have e3:decide ((c.toNat:Int)=92)=false:=decide_eq_false (fun h=>h3 (UInt8.toNat_inj.1 (by
     show c.toNat=92
     omega)))
    obtain⟨np,_,_,cp,rfl,rfl⟩:=plain115 (E:=E) (I:=I) (fun args h=>hI _ args h (by simp)) (h:=h) c
    cases hpl:plainB c with
    | false=>
     rw[hpl] at cp he
     rw[if_neg (by simp)] at he
     obtain⟨nf,g',ck,m',b',_⟩:=fl 4 p M b
     have cp:=(ev_mono (D:=tab) (E:=E) I (Nat.le_max_left np nf)).call cp
     have ck:=(ev_mono (D:=tab) (E:=E) I (Nat.le_max_right np nf)).call ck
     repeat' (first|with_reducible apply Ws|(apply Wn (max np nf);focus ((repeat ((with_reducible apply Rr rfl);focus ((try simp +decide only[Oy,n0,q0,q5,e3,cp,Qx,Hx,c1,ck]);with_reducible rfl)));with_reducible exact Rn))|(refine W2 (by simp +decide only[Cx,n0,q0,q5,e3,cp];try with_reducible rfl) (fun hb=>?_) (fun hb=>?_)<;>try contradiction)|apply W3|apply W4|apply W5|apply W6)
     exact⟨by simp +decide only[Gs,n0],by simp +decide only[Gs,d0],m',.inr ⟨rfl,by simp +decide only[Gs,n0],p,4,p,he,b'⟩⟩
    | true=>
     rw[hpl] at cp he
     rw[if_pos rfl] at he
     obtain⟨h4,sl',q,q',ab,ap,f1,s1,M5,b5,K5⟩:=app c 1
     repeat' (first|with_reducible apply Ws|(apply Wn np;focus ((repeat ((with_reducible apply Rr rfl);focus ((try simp +decide only[Oy,n0,q0,q4,q5,e3,cp,ab,ap,Qx,Hx,f1,w1,s1]);with_reducible rfl)));with_reducible exact Rn))|(refine W2 (by simp +decide only[Cx,n0,q0,q4,q5,e3,cp,f1];try with_reducible rfl) (fun hb=>?_) (fun hb=>?_)<;>try contradiction)|apply W3|apply W4|apply W5|apply W6)
     refine ih (p+1) (acc++[c]) sl' _ q' (by omega) (by omega) (by omega) (by rw[List.length_append,List.length_singleton];omega) ?_ ?_ ?_ ?_ ?_ M5 b5 K5 he
     ·simp +decide only[Gs,n0]
     ·simp +decide only[Gs,d0]
     ·simp +decide only[Gs,n0,q0]
     ·simp +decide only[Gs,n0,q3]
     ·simp +decide only[Gs,n0]
   rw[if_pos h3] at he
   have e3:decide ((c.toNat:Int)=92)=true:=by rw[h3];decide
   repeat' (first|with_reducible apply Ws|(apply Wp;focus ((repeat ((with_reducible apply Rr rfl);focus ((try simp +decide only[Oy,n0,q5,e3]);with_reducible rfl)));with_reducible exact Rn))|(refine W2 (by simp +decide only[Cx,n0,q5,e3];try with_reducible rfl) (fun hb=>?_) (fun hb=>?_)<;>try contradiction)|apply W3|apply W4|apply W5|apply W6)
   refine (rhex88 (E:=E) (I:=I) (x3:=.int .i64 (pos-1:Nat)) (sl:=sl) (fun f args h hf=>hI f args h (by rcases hf with h|h<;>simp[h])) hB fh hbh b (by omega) hl 2 0 0 _ rfl (by omega) rfl ?_ ?_ ?_ ?_ ?_ ?_ ?_).mono ?_
   ·simp +decide only[Gs,n0]
   ·simp +decide only[Gs,d0]
   ·simp +decide only[Gs,n0,q0]
   ·simp +decide only[Gs,n0,q3]
   ·simp +decide only[Gs,n0,q4]
   ·simp +decide only[Gs,n0]
    rfl
   ·simp +decide only[Gs,n0]
    rfl
   clear n0 d0 q0 q3 q4 q5
   rintro ex A0 h' ⟨n0,d0,⟨rfl,rfl,q0,q3,q4,n,hn,q6⟩|⟨rfl,q2,m,q,e,pos',hr,b'⟩⟩
   rotate_left
   ·rw[hr] at he
    exact⟨n0,d0,M.trans m,.inr ⟨rfl,q2,q,e,pos',he,b'⟩⟩
   simp only[if_true]
   obtain⟨hn256,hr⟩:=hn.both
   rw[hr] at he
   have hnl:=hn.lt (by omega) (by omega)
   obtain⟨y,hy⟩:∃ y,y=UInt8.ofNat n:=⟨_,rfl⟩
   have hyn:y.toNat=n:=by rw[hy];simp;omega
   rw[← hy] at he
   rw[← hyn] at q6
   have w8:IntKind.u8.wrap ((y.toNat:Nat):Int)=((y.toNat:Nat):Int):=wrapU8 y.toNat_lt
   obtain⟨np,_,_,cp,rfl,rfl⟩:=plain115 (E:=E) (I:=I) (fun args h=>hI _ args h (by simp)) (h:=h') y
   cases hpl:plainB y with
   | true=>
    rw[hpl] at cp he
    rw[if_pos rfl] at he
    obtain⟨nf,g',ck,m',b',_⟩:=fl 4 p M b
    have cp:=(ev_mono (D:=tab) (E:=E) I (Nat.le_max_left np nf)).call cp
    have ck:=(ev_mono (D:=tab) (E:=E) I (Nat.le_max_right np nf)).call ck
    repeat' (first|with_reducible apply Ws|(apply Wn (max np nf);focus ((repeat ((with_reducible apply Rr rfl);focus ((try simp +decide only[Oy,n0,q0,q6,qcv3_5,w8,cp,Qx,Hx,c1,ck]);with_reducible rfl)));with_reducible exact Rn))|(refine W2 (by simp +decide only[Cx,n0,q0,q6,cp];try with_reducible rfl) (fun hb=>?_) (fun hb=>?_)<;>try contradiction)|apply W3|apply W4|apply W5|apply W6)
    exact⟨by simp +decide only[Gs,n0],by simp +decide only[Gs,d0],m',.inr ⟨rfl,by simp +decide only[Gs,n0],p,4,p,he,b'⟩⟩
   | false=>
    rw[hpl] at cp he
    rw[if_neg (by simp)] at he
    simp only[] at he
    obtain⟨h4,sl',q,q',ab,ap,f1,s1,M5,b5,K5⟩:=app y 3
    repeat' (first|with_reducible apply Ws|(apply Wn np;focus ((repeat ((with_reducible apply Rr rfl);focus ((try simp +decide only[Oy,n0,q0,q4,q6,qcv3_5,w8,cp,ab,ap,Qx,Hx,f1,w3,s1]);with_reducible rfl)));with_reducible exact Rn))|(refine W2 (by simp +decide only[Cx,n0,q0,q4,q6,cp,f1];try with_reducible rfl) (fun hb=>?_) (fun hb=>?_)<;>try contradiction)|apply W3|apply W4|apply W5|apply W6)
    refine ih (p+3) (acc++[y]) sl' _ q' (by omega) (by omega) (by omega) (by rw[List.length_append,List.length_singleton];omega) ?_ ?_ ?_ ?_ ?_ M5 b5 K5 he
    ·simp +decide only[Gs,n0]
    ·simp +decide only[Gs,d0]
    ·simp +decide only[Gs,n0,q0]
    ·simp +decide only[Gs,n0,q3]
    ·simp +decide only[Gs,n0]
 obtain⟨c0,c1,c2,c3,c4⟩:=b.at (E:=E) hv2
 apply Wk (hI _ _ _ (.inl rfl)) fn88 rfl
 intro A0 n0 d0 hA0
 change A0.n=155 at n0
 have q0:A0.get 0=.pointer (some (own k)):=hA0 0 _ rfl
 clear hA0
 repeat' (first|with_reducible apply Ws|(apply Wp;focus ((repeat ((with_reducible apply Rr rfl);focus ((try simp +decide only[Oy,n0,q0,Qx,Hx,c1,wp]);with_reducible rfl)));with_reducible exact Rn))|(refine W2 (by simp +decide only[Cx,n0,q0,wp];try with_reducible rfl) (fun hb=>?_) (fun hb=>?_)<;>try contradiction)|apply W3|apply W4|apply W5|apply W6)
 refine (key (bs.length+1-pos) pos [] (.slice none 0 0) _ g (Nat.le_refl _) (Nat.le_refl _) hp (by simp) ?_ ?_ ?_ ?_ ?_ (Mod.refl f) b (Bol.nil _ _ _) rfl).mono ?_
 ·simp +decide only[Gs,n0]
 ·simp +decide only[Gs,d0]
 ·simp +decide only[Gs,n0,q0]
 ·simp +decide only[Gs,n0]
 ·simp +decide only[Gs,n0]
 have he:rdQuo bs pos it0=match quoRun bs (bs.length+1-pos) pos [] with
   | .bad p e=>.bad p e
   | .ok acc p _=>if acc=[] then .bad (pos-1) 4 else if 4096<acc.length then .bad (pos-1) 11 else .ok ⟨⟨acc⟩⟩ p it0:=rfl
 clear n0 d0 q0
 rintro ex A0 h' ⟨n0,d0,M,⟨rfl,l,p,sl,hq,hll,hpl,q0,q3,q4,K,b'⟩|⟨rfl,q2,q,e,pos',hq,b'⟩⟩
 rotate_left
 ·rw[hq] at he
  refine done_q (v:=.string ⟨⟨[]⟩⟩) (.inr rfl) d0 rfl q2 ⟨M,?_⟩
  rw[he]
  exact⟨_,pos',rfl,b'⟩
 rw[hq] at he
 simp only[] at he
 obtain⟨b0,rfl⟩:=K.slice
 have ln:∀ h,alen tab 31 (.slice b0 l.length l.length) h=some (.int .i64 (l.length:Nat)):=fun h=>qlen31 _ _ _
 have w1:IntKind.i64.wrap ((p:Int)+1)=((p+1:Nat):Int):=wrap64 (by omega) (by omega)
 obtain⟨_,f1,_,_,_⟩:=b'.at (E:=E) hv2
 obtain⟨q',s1,b1,m1⟩:=b'.set M.fit qty3 rfl 1 (p+1:Nat) (by decide) rfl (pos':=p+1) (items':=items) (w':=w) (e':=0)
 have K1:=(K.mod m1 (fun j B hj hB=>by
  subst hj
  rw[show h'.blk j=_ from b'] at hB;cases hB;rfl)).up m1.next
 have M1:=M.trans m1
 simp only[if_true]
 repeat' (first|with_reducible apply Ws|(apply Wp;focus ((repeat ((with_reducible apply Rr rfl);focus ((try simp +decide only[Oy,n0,q0,Qx,Hx,f1,w1,s1]);with_reducible rfl)));with_reducible exact Rn))|(refine W2 (by simp +decide only[Cx,n0,q0,f1];try with_reducible rfl) (fun hb=>?_) (fun hb=>?_)<;>try contradiction)|apply W3|apply W4|apply W5|apply W6)
 by_cases h1:l=[]
 ·rw[if_pos h1] at he
  have e1:decide ((l.length:Int)=0)=true:=by rw[h1];rfl
  obtain⟨nf,g',ck,m',b2,mx⟩:=fl 4 (pos-1) M1 b1
  have cv:=qcv31_9 ((K1.mod mx (fun j B hj hB=>by
   subst hj
   rw[show q'.blk j=_ from b1] at hB;cases hB;rfl)).byt (E:=E))
  repeat' (first|with_reducible apply Ws|(apply Wn nf;focus ((repeat ((with_reducible apply Rr rfl);focus ((try simp +decide only[Oy,n0,q0,q3,q4,ln,e1,ck,cv]);with_reducible rfl)));with_reducible exact Rn))|(refine W2 (by simp +decide only[Cx,n0,q0,q3,q4,e1];try with_reducible rfl) (fun hb=>?_) (fun hb=>?_)<;>try contradiction)|apply W3|apply W4|apply W5|apply W6)
  refine done_q (v:=.string ⟨⟨l⟩⟩) (.inr rfl) (by simp +decide only[Gs,d0]) rfl (by simp +decide only[Gs,n0]) ⟨m',?_⟩
  rw[he]
  exact⟨_,_,rfl,b2⟩
 rw[if_neg h1] at he
 have hl0:0<l.length:=List.length_pos_iff.2 h1
 have e1:decide ((l.length:Int)=0)=false:=decide_eq_false (by omega)
 by_cases h2:4096<l.length
 ·rw[if_pos h2] at he
  have e2:decide ((l.length:Int)>4096)=true:=decide_eq_true (by omega)
  obtain⟨nf,g',ck,m',b2,mx⟩:=fl 11 (pos-1) M1 b1
  have cv:=qcv31_9 ((K1.mod mx (fun j B hj hB=>by
   subst hj
   rw[show q'.blk j=_ from b1] at hB;cases hB;rfl)).byt (E:=E))
  repeat' (first|with_reducible apply Ws|(apply Wn nf;focus ((repeat ((with_reducible apply Rr rfl);focus ((try simp +decide only[Oy,n0,q0,q3,q4,ln,e1,e2,ck,cv]);with_reducible rfl)));with_reducible exact Rn))|(refine W2 (by simp +decide only[Cx,n0,q0,q3,q4,e1,e2];try with_reducible rfl) (fun hb=>?_) (fun hb=>?_)<;>try contradiction)|apply W3|apply W4|apply W5|apply W6)
  refine done_q (v:=.string ⟨⟨l⟩⟩) (.inr rfl) (by simp +decide only[Gs,d0]) rfl (by simp +decide only[Gs,n0]) ⟨m',?_⟩
  rw[he]
  exact⟨_,_,rfl,b2⟩
 rw[if_neg h2] at he
 have e2:decide ((l.length:Int)>4096)=false:=decide_eq_false (by omega)
 have cv:=qcv31_9 (K1.byt (E:=E))
 repeat' (first|with_reducible apply Ws|(apply Wp;focus ((repeat ((with_reducible apply Rr rfl);focus ((try simp +decide only[Oy,n0,q0,q3,q4,ln,e1,e2,cv]);with_reducible rfl)));with_reducible exact Rn))|(refine W2 (by simp +decide only[Cx,n0,q0,q3,q4,e1,e2];try with_reducible rfl) (fun hb=>?_) (fun hb=>?_)<;>try contradiction)|apply W3|apply W4|apply W5|apply W6)
 refine done_q (v:=.string ⟨⟨l⟩⟩) (.inr rfl) (by simp +decide only[Gs,d0]) rfl (by simp +decide only[Gs,n0]) ⟨M1,?_⟩
 rw[he]
 exact⟨rfl,b1⟩
theorem fn51:tab.fn.get 51=some Tryd.f51:=by kernel_rfl
noncomputable def loop51:Code:=loopOf Tryd.f51
def Tree51 (E:Env) (I:Known) (k kb:Nat) (B:Blk) (v:Value) (bs:List UInt8) (f:Nat):Prop:=∀ (g:H) (pos items:Nat) (w:Int),Fit g→g.blk kb=some B→Ref k v pos items w 0 g→pos≤bs.length→items≤5000→
 ∃ n x g',(ev tab E I n).call 51 [.pointer (some (own k)),.int .i64 (251-f:Nat)] g=some (x,g')∧(∃ l,x=.agg ⟨l⟩∧l.length=4∧l.all isOne=true∧Mod (fun j=>j=k) g g'∧RItemQ E k v (rdPI bs f pos items) g.next l w g')
theorem mv25 {h:H} {k4 k6:Nat} {l:List Value} (f:Fit h) (h4:h.blk k4=some (.cells zeroL 25 none)) (h6:h.blk k6=some (.cells l 25 none)) (hl:l.length=4) (ho:l.all isOne=true) :
  ∃ h',h.cells E (own k6) 4=some l∧astore tab 25 (own k4) (.agg ⟨l⟩) h=some h'∧Mod (fun j=>j=k4) h h'∧h'.blk k4=some (.cells l 25 none):=
 ⟨_,blk_cells h6 hl ho,astore_all qty25 h4 (by rw[hl]) (by rw[hl];rfl) ho (by intro e;rw[e] at hl;simp at hl),(Mod.refl f).setl rfl rfl (f.lt h4),setl_same rfl⟩
theorem rkids51 (hI:∀ f args h,(f=51∨f=87∨f=52)→I f args h=none) {k kb k4 k6:Nat} {B:Blk} {v:Value} {bs:List UInt8} (hB:∀ h:H,h.blk kb=some B→Byt E h v bs) (hk:kb≠k) {fu:Nat} (hfu:fu<250) (hl:bs.length≤1000000) (RI:Tree51 E I k kb B v bs fu) {kn m:Int} {tx:ByteArray} {w:Int} {g:H} (f:Fit g) (hqB:g.blk kb=some B) (kl:k<g.next) (hk4:g.next≤k4) (hk6:g.next≤k6) (h46:k4≠k6) :
  ∀ (kk p it:Nat) (acc:List Hs.Item) (sl:Value) (A0:Ac) (h:H),bs.length+1-p≤kk→p≤bs.length→it≤5000→acc.length≤it→A0.n=170→A0.defers=[]→A0.get 0=.pointer (some (own k))→A0.get 1=.int .i64 (250-fu:Nat)→A0.get 4=.pointer (some (own k4))→A0.get 6=.pointer (some (own k6))→
   Mod (fun j=>j=k∨g.next≤j) g h→h.blk k4=some (.cells zeroL 25 none)→h.blk k6=some (.cells [.int .i64 kn,.int .i64 m,.string tx,sl] 25 none)→Ref k v p it w 0 h→Kol E 25 g.next h.next h sl acc→
   Wc tab E I ⟨51,none⟩ (.loop loop51) A0 h (fun ex A' h'=>ex=.ret∧A'.n=170∧A'.defers=[]∧A'.get 4=.pointer (some (own k4))∧Mod (fun j=>j=k∨g.next≤j) g h'∧∃ l,l.length=4∧l.all isOne=true∧h'.blk k4=some (.cells l 25 none)∧RItemQ E k v (match rdPK bs (rdPI bs fu) kk acc p it with|.bad p e=>.bad p e|.ok ks p it=>.ok (.mk kn m tx ks) p it) g.next l w h'):=by
 intro kk
 induction kk with
 | zero=>intro p it acc sl A0 h hkk hpl;omega
 | succ kk ih=>
  intro p it acc sl A0 h hkk hpl hit hacc n0 d0 q0 q1 q4 q6 M b4 b6 b K
  have fh:=M.fit
  have lkb:kb<g.next:=f.lt hqB
  have hbh:=M.blk _ _ (by omega) hqB
  have hv2:=(bytB (E:=E) hB hqB).2.1
  have up:∀ {h h':H},Mod (fun j=>j=k) h h'→Mod (fun j=>j=k∨g.next≤j) h h':=fun m=>m.sub (fun _ h=>.inl h)
  have u4:∀ {h h':H},Mod (fun j=>j=k4) h h'→Mod (fun j=>j=k∨g.next≤j) h h':=fun m=>m.sub (fun _ h=>.inr (by omega))
  have w1:IntKind.i64.wrap (((250-fu:Nat):Int)+1)=((251-fu:Nat):Int):=by rw[wrap64 (by omega) (by omega)];omega
  obtain⟨sb,hsl⟩:=K.slice
  have ho6:[Value.int .i64 kn,.int .i64 m,.string tx,sl].all isOne=true:=by rw[hsl];rfl
  have lsl:h.cell E (aadd (own k6) 3)=some sl:=by
   rw[cell_blk b6,hsl];rfl
  obtain⟨nf,v1,q,ck,l,rfl,hl4,hl1,mq,hq⟩:=RI (fresh h) p it w fh.fresh hbh b hpl hit
  obtain⟨m2,sb2,nn2,lq2⟩:=Mod.back fh mq
  have hq2:RItemQ E k v (rdPI bs fu p it) h.next l w (back h q):=by
   unfold RItemQ at hq ⊢
   split at hq
   ·exact⟨by unfold Ref;rw[sb2];exact hq.1,rep_grow (back_only fh mq.fit mq.next _) hq.2⟩
   ·obtain⟨a,c,hh⟩:=hq
    exact⟨a,c,by unfold Ref;rw[sb2];exact hh⟩
  have K2:=K.mod fh m2 (fun j B hj hB=>by
   subst hj
   rw[show h.blk j=_ from b] at hB;cases hB;rfl)
  have b42:=m2.blk _ _ (by omega) b4
  have b62:=m2.blk _ _ (by omega) b6
  have n2:=m2.next
  have M2:=M.trans (up m2)
  have lk:k<h.next:=fh.lt b
  have lk6:k6<h.next:=fh.lt b6
  generalize hh2:back h q=h2 at m2 hq2 K2 b42 b62 n2 M2
  obtain⟨la,lb,lc',ld,rfl⟩:=four_of hl4
  generalize hZ:(Blk.cells [la,lb,lc',ld] 25 none)=Z
  have hbs:=qbs23 hl1 (h:=fresh h2)
  rw[hZ] at hbs
  generalize hh3:h2.new Z=h3
  have t3:Ahd h2 h3:=by rw[← hh3,← hZ];exact Ahd.new0 M2.fit rfl
  have bz:h3.blk h2.next=some (.cells [la,lb,lc',ld] 25 none):=by rw[← hh3,← hZ];exact new_blk_new rfl
  have K3:=K2.mod M2.fit (t3.mod (M:=fun _=>False)) (fun _ _ h=>h.elim)
  have M3:=M2.ahd t3
  have n3:=t3.next
  have nM:=M3.next
  have hrm:roomy (acc.length+1) 56=true:=by
   unfold roomy
   simp only[Bool.and_eq_true,Nat.ble_eq];omega
  have lz:(fresh h3).cells E (own h2.next) 4=some [la,lb,lc',ld]:=blk_cells (h:=fresh h3) bz rfl hl1
  have hgood:=rdPI_good (bs:=bs) fu p it hpl hit
  rw[rdPK]
  generalize hri:rdPI bs fu p it=ri at hq2 hgood
  obtain⟨sl',qh,happ,hql,AB,hs1,hs2,hK⟩:∃ sl' qh,aappend tab E 23 23 sl (.slice (some (own h2.next)) 1 1) (fresh h3)=some (sl',qh)∧qh.log=[]∧Aps g.next h3 (back h3 qh)∧sl'.cells.toList=[sl']∧isOne sl'=true∧∀ t p' it',ri=.ok t p' it'→Kol E 25 g.next (back h3 qh).next (back h3 qh) sl' (acc++[t]):=by
   cases ri with
   | bad p' e=>
    obtain⟨sl',qh,happ,RM,AP,qn,hsl',_⟩:=kol_room (D:=tab) (E:=E) (t:=23) (t2:=23) (by_:=56) (kx:=h2.next) (c:=1) (lo:=h3.next) t3.fit.fresh (show g.next≤(fresh h3).next from nM) K3.fresh (by omega) qty23 qtz25 rfl (qza23 _ _ _) lz rfl hl1 hrm
    exact⟨sl',qh,happ,AP.log,AP.back t3.fit,by rw[hsl'];rfl,by rw[hsl'];rfl,fun _ _ _ h=>by cases h⟩
   | ok t p' it'=>
    obtain⟨bb,hrt⟩:=hq2
    have R3:=rep_grow (only_ahd (q:=fun r=>Nat.ble h.next r) M2.fit t3 (fun _ h=>h)) hrt
    obtain⟨sl',qh,happ,K4,AP,qn⟩:=kol_step (D:=tab) (E:=E) (t:=23) (t2:=23) (by_:=56) (kx:=h2.next) (c:=1) (lo:=h.next) t3.fit.fresh (show g.next≤(fresh h3).next from nM) K3.fresh (Nat.le_refl _) M.next qty23 qtz25 rfl (qza23 _ _ _) (rep_fresh R3) lz hl1 hrm
    obtain⟨sb',hsl'⟩:=K4.slice
    refine⟨sl',qh,happ,AP.log,AP.back t3.fit,by rw[hsl'];rfl,by rw[hsl'];rfl,fun t' _ _ h => ?_⟩
    cases h
    exact (K4.back t3.fit AP.fit AP.next).up (by rw[back_next];exact Nat.le_refl _)
  have M4:=AB.mod f (Nat.le_refl _) M3
  have b44:=AB.keep (t3.grows _ _ b42)
  have b64:=AB.keep (t3.grows _ _ b62)
  have kp:∀ {p it:Nat} {w e:Int},Ref k v p it w e h2→Ref k v p it w e (back h3 qh):=fun b=>AB.keep (t3.grows _ _ b)
  have lt4:=M4.fit.lt b64
  have s9:astore tab 23 (aadd (own k6) 3) sl' (fresh (back h3 qh))=some ((fresh (back h3 qh)).setl k6 (.cells [.int .i64 kn,.int .i64 m,.string tx,sl'] 25 none)):=astore_one (g:=fresh (back h3 qh)) qty23 rfl b64 hs1 hs2 (by simp) rfl
  have m5:=(Mod.refl (M:=fun j=>j=k6) M4.fit).setl (B:=.cells [.int .i64 kn,.int .i64 m,.string tx,sl'] 25 none) rfl rfl lt4
  have b65:=setl_same (h:=back h3 qh) (k:=k6) (B:=.cells [.int .i64 kn,.int .i64 m,.string tx,sl'] 25 none) rfl
  have b45:=m5.blk _ _ h46 b44
  have M5:=M4.trans (m5.sub (N:=fun j=>j=k∨g.next≤j) fun j hj=>.inr (by omega))
  have kp5:∀ {p it:Nat} {w e:Int},Ref k v p it w e h2→Ref k v p it w e ((back h3 qh).setl k6 (.cells [.int .i64 kn,.int .i64 m,.string tx,sl'] 25 none)):=fun b=>(kp b).mod m5 (by omega)
  have hK5:∀ t p' it',ri=.ok t p' it'→Kol E 25 g.next ((back h3 qh).setl k6 (.cells [.int .i64 kn,.int .i64 m,.string tx,sl'] 25 none)).next ((back h3 qh).setl k6 (.cells [.int .i64 kn,.int .i64 m,.string tx,sl'] 25 none)) sl' (acc++[t]):=fun t p' it' h=>((hK t p' it' h).mod M4.fit m5 (fun j B hj hB=>by
   subst hj
   rw[b64] at hB;cases hB;rfl)).up m5.next
  have ho5:[Value.int .i64 kn,.int .i64 m,.string tx,sl'].all isOne=true:=by
   simp only[List.all_cons,List.all_nil,Bool.and_true,Bool.and_eq_true]
   exact⟨rfl,rfl,rfl,hs2⟩
  apply Wc.loop
  simp only[loop51,loopOf,firstLoop,Option.getD,Tryd.f51]
  repeat' (first|(with_reducible apply Wc.seq)|refine Wc.block ?_)
  refine Wc.drawQ nf (by kernel_rfl) ?_
  (iterate 5 ((first|apply Qp rfl rfl rfl|apply FQ.new rfl rfl);focus ((try simp +decide only[Oz,n0,q0,q1,q6,Qx,Hx,lsl,w1]);with_reducible rfl)))
  refine FQ.mod (h1:=q) (x:=.agg ⟨[la,lb,lc',ld]⟩) rfl rfl (by simp +decide only[Oz,n0,q0,ck]) ?_
  rw[hh2]
  refine FQ.new (x:=.slice (some (own h2.next)) 1 1) (B:=Z) rfl rfl (by simp +decide only[Oz,n0,hbs,Hx]) ?_
  rw[hh3]
  refine FQ.call (h1:=qh) (x:=sl') rfl rfl (by simp +decide only[Oz,n0,happ]) hql ?_
  generalize back h3 qh=h4 at s9 m5 b65 b45 M5 kp5 hK5 lt4
  (iterate 1 ((first|apply Qp rfl rfl rfl|apply FQ.new rfl rfl);focus ((try simp +decide only[Oz,n0,q6,Qx,Hx]);with_reducible rfl)))
  refine FQ.setl (k:=k6) (B:=.cells [.int .i64 kn,.int .i64 m,.string tx,sl'] 25 none) (x:=undef) rfl rfl lt4 (by simp +decide only[Oz,n0,s9]) ?_
  refine FQ.nil ⟨?_,?_⟩
  ·refine allMeet_but [5,9] 10 [(0,5),(1,5),(5,8)] rfl rfl (by kernel_rfl) (fun ii jj ss tt hU e1 e2 => ?_)
   simp only[List.mem_cons,Prod.mk.injEq,List.not_mem_nil,or_false] at hU
   rcases hU with⟨rfl,rfl⟩|⟨rfl,rfl⟩|⟨rfl,rfl⟩
   ·cases e1;cases e2
    exact meets_right (l:=[]) rfl rfl (fun _ _=>List.not_mem_nil) rfl (fun j _=>Nat.lt_or_ge _ _)
   ·cases e1;cases e2
    exact meets_right (l:=[k6]) rfl (by simp +decide only[Oz,reads,pureOp,atV,n0,q6,aadd,own]) (fun j hj=>by
     have:=(lq2 j hj).1
     simp only[List.mem_singleton]
     omega) rfl (fun j _=>Nat.lt_or_ge _ _)
   ·cases e1;cases e2
    exact meets_left (l:=[]) rfl rfl (fun _ _=>List.not_mem_nil) rfl
  generalize h4.setl k6 (.cells [.int .i64 kn,.int .i64 m,.string tx,sl'] 25 none)=h5 at s9 m5 b65 b45 M5 kp5 hK5
  refine Wc.forget (fun A=>A.n=170∧A.defers=[]∧A.get 0=.pointer (some (own k))∧A.get 1=.int .i64 (250-fu:Nat)∧A.get 4=.pointer (some (own k4))∧A.get 6=.pointer (some (own k6))) (by and_intros<;>simp +decide only[Gz,n0,d0,q0,q1,q4,q6]<;>rfl) ?_
  rintro A0 ⟨n0,d0,q0,q1,q4,q6⟩
  have hb5:=M5.blk _ _ (by omega) hqB
  clear s9 m5 M4 b44 b64 kp lt4 hK AB happ hql lz hrm M3 n3 nM K3 bz t3 hbs
  cases ri with
  | bad p' e=>
   obtain⟨pos',it',bb⟩:=hq2
   have he:e≠0:=hgood.2
   have e9:decide (e=0)=false:=decide_eq_false he
   have bb:=kp5 bb
   obtain⟨_,_,_,_,f4⟩:=bb.at (E:=E) hv2
   obtain⟨h6,ld6,st6,m6,b46⟩:=mv25 (E:=E) M5.fit b45 b65 rfl ho5
   repeat' (first|with_reducible apply Ws|(apply Wp;focus ((repeat ((with_reducible apply Rr rfl);focus ((try simp +decide only[Oz,n0,q0,q4,q6,Qx,Hx,f4,e9,ld6,st6]);with_reducible rfl)));with_reducible exact Rn))|(refine W2 (by simp +decide only[Cz,n0,q0,q4,q6,Qx,Hx,f4,e9,ld6,st6];try with_reducible rfl) (fun hb=>?_) (fun hb=>?_)<;>try contradiction)|apply W3|apply W4|apply W5|apply W6)
   exact⟨rfl,by simp +decide only[Gz,n0],by simp +decide only[Gz,d0],by simp +decide only[Gz,n0,q4],M5.trans (u4 m6),_,rfl,ho5,b46,pos',it',bb.mod m6 (by omega)⟩
  | ok t p' it'=>
   obtain⟨bb,_⟩:=hq2
   obtain⟨o1,o2,o3,o4,o5,o6⟩:=hgood
   have:=isz_pos t
   have bb:=kp5 bb
   have K5:=hK5 _ _ _ rfl
   have hlen:(acc++[t]).length≤it':=by rw[List.length_append,List.length_singleton];omega
   obtain⟨_,f1,_,_,f4⟩:=bb.at (E:=E) hv2
   have wa:IntKind.i64.wrap ((p':Int)+1)=((p'+1:Nat):Int):=wrap64 (by omega) (by omega)
   obtain⟨n8,_,_,c8,rfl,h8c⟩:=is87 (E:=E) (I:=I) (fun args h=>hI _ args h (by simp)) hB hb5 bb o2 41
   have c8:(ev tab E I n8).call 87 [.pointer (some (own k)),.int .u8 41] h5=some (_,h5):=c8
   obtain⟨n9,_,_,c9,rfl,h9c⟩:=is87 (E:=E) (I:=I) (fun args h=>hI _ args h (by simp)) hB hb5 bb o2 32
   have c9:(ev tab E I n9).call 87 [.pointer (some (own k)),.int .u8 32] h5=some (_,h5):=c9
   obtain⟨h6,s6,bb6,m6⟩:=bb.set M5.fit qty3 rfl 1 (p'+1:Nat) (by decide) rfl (pos':=p'+1) (items':=it') (w':=w) (e':=0)
   have M6:=M5.trans (up m6)
   have b46:=m6.blk _ _ (by omega) b45
   have b66:=m6.blk _ _ (by omega) b65
   have K6:Kol E 25 g.next h6.next h6 sl' (acc++[t]):=(K5.mod M5.fit m6 (fun j B hj hB=>by
    subst hj
    rw[show h5.blk j=_ from bb] at hB;cases hB;rfl)).up m6.next
   simp only[]
   rcases h8c with⟨hc8,rfl⟩|⟨hc8,rfl⟩
   ·rw[if_pos hc8]
    obtain⟨h7,ld7,st7,m7,b47⟩:=mv25 (E:=E) M6.fit b46 b66 rfl ho5
    repeat' (first|with_reducible apply Ws|(apply Wn n8;focus ((repeat ((with_reducible apply Rr rfl);focus ((try simp +decide only[Oz,n0,q0,q4,q6,Qx,Hx,f4,c8,f1,wa,s6,ld7,st7]);with_reducible rfl)));with_reducible exact Rn))|(refine W2 (by simp +decide only[Cz,n0,q0,q4,q6,Qx,Hx,f4,c8,f1,wa,s6,ld7,st7];try with_reducible rfl) (fun hb=>?_) (fun hb=>?_)<;>try contradiction)|apply W3|apply W4|apply W5|apply W6)
    refine⟨rfl,by simp +decide only[Gz,n0],by simp +decide only[Gz,d0],by simp +decide only[Gz,n0,q4],M6.trans (u4 m7),_,rfl,ho5,b47,bb6.mod m7 (by omega),?_⟩
    exact Kol.rep ((K6.mod M6.fit m7 (fun j B hj hB=>by
     subst hj
     rw[b46] at hB;cases hB;rfl)).up m7.next) m7.fit (by omega) _ _ _ (Nat.le_refl _)
   rw[if_neg hc8]
   rcases h9c with⟨hc9,rfl⟩|⟨hc9,rfl⟩
   ·rw[if_pos hc9]
    have hlt:=(List.getElem?_eq_some_iff.1 hc9).1
    have c8:=(ev_mono (D:=tab) (E:=E) I (Nat.le_max_left n8 n9)).call c8
    have c9:=(ev_mono (D:=tab) (E:=E) I (Nat.le_max_right n8 n9)).call c9
    repeat' (first|with_reducible apply Ws|(apply Wn (max n8 n9);focus ((repeat ((with_reducible apply Rr rfl);focus ((try simp +decide only[Oz,n0,q0,Qx,Hx,f4,c8,c9,f1,wa,s6]);with_reducible rfl)));with_reducible exact Rn))|(refine W2 (by simp +decide only[Cz,n0,q0,Qx,Hx,f4,c8,c9,f1,wa,s6];try with_reducible rfl) (fun hb=>?_) (fun hb=>?_)<;>try contradiction)|apply W3|apply W4|apply W5|apply W6)
    refine ih (p'+1) it' (acc++[t]) sl' _ h6 (by omega) (by omega) o6 hlen ?_ ?_ ?_ ?_ ?_ ?_ M6 b46 b66 bb6 K6
    ·simp +decide only[Gz,n0]
    ·simp +decide only[Gz,d0]
    ·simp +decide only[Gz,n0,q0]
    ·simp +decide only[Gz,n0,q1]
    ·simp +decide only[Gz,n0,q4]
    ·simp +decide only[Gz,n0,q6]
   ·rw[if_neg hc9]
    obtain⟨nx,hx,cx,mx,bx⟩:=rfail52 (E:=E) (I:=I) (fun args h=>hI _ args h (by simp)) M5.fit bb 4 p'
    have Mx:=M5.trans (up mx)
    obtain⟨h7,ld7,st7,m7,b47⟩:=mv25 (E:=E) Mx.fit (mx.blk _ _ (by omega) b45) (mx.blk _ _ (by omega) b65) rfl ho5
    have c8:=(ev_mono (D:=tab) (E:=E) I (Nat.le_max_left n8 (max n9 nx))).call c8
    have c9:=(ev_mono (D:=tab) (E:=E) I (Nat.le_trans (Nat.le_max_left n9 nx) (Nat.le_max_right n8 _))).call c9
    have cx:=(ev_mono (D:=tab) (E:=E) I (Nat.le_trans (Nat.le_max_right n9 nx) (Nat.le_max_right n8 _))).call cx
    repeat' (first|with_reducible apply Ws|(apply Wn (max n8 (max n9 nx));focus ((repeat ((with_reducible apply Rr rfl);focus ((try simp +decide only[Oz,n0,q0,q4,q6,Qx,Hx,f4,c8,c9,f1,cx,ld7,st7]);with_reducible rfl)));with_reducible exact Rn))|(refine W2 (by simp +decide only[Cz,n0,q0,q4,q6,Qx,Hx,f4,c8,c9,f1,cx,ld7,st7];try with_reducible rfl) (fun hb=>?_) (fun hb=>?_)<;>try contradiction)|apply W3|apply W4|apply W5|apply W6)
    exact⟨rfl,by simp +decide only[Gz,n0],by simp +decide only[Gz,d0],by simp +decide only[Gz,n0,q4],Mx.trans (u4 m7),_,rfl,ho5,b47,p',it',bx.mod m7 (by omega)⟩
end Go.Proofs.YtofijpbmbmbnhaaDoor
