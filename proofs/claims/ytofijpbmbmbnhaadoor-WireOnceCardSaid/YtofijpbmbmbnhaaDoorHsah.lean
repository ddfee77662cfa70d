/- The reader of texts: one byte, numbers. -/
import Derived.Test.YtofijpbmbmbnhaaDoorHsag
set_option linter.unusedSimpArgs false
set_option linter.unusedVariables false
set_option maxRecDepth 100000
set_option maxHeartbeats 16000000
namespace Go.Proofs.YtofijpbmbmbnhaaDoor
open Go Go.Hs Go.Proofs
variable {E:Env} {I:Known}
theorem fn83:tab.fn.get 83=some Tryd.f83:=by kernel_rfl
theorem fn84:tab.fn.get 84=some Tryd.f84:=by kernel_rfl
noncomputable def loop83:Code:=loopOf Tryd.f83
theorem next84 (hI:∀ args h,I 84 args h=none) {k:Nat} {bs:List UInt8} {pos items:Nat} {g:H} (f:Fit g) (b:Src k bs pos 0 items g) (hp:pos≤bs.length) (hl:bs.length≤1000000) (c:UInt8) :
  ∃ n v g',(ev tab E I n).call 84 [.pointer (some (own k)),.int .u8 (c.toNat:Nat)] g=some (v,g')∧(Mod (fun j=>j=k) g g'∧((bs[pos]? = some c∧v=.bool true∧Src k bs (pos+1) 0 items g')∨(bs[pos]? ≠ some c∧v=.bool false∧Src k bs pos 0 items g'))):=by
 have kl:k<g.next:=f.lt b
 obtain⟨c0,c1,c2,c3⟩:=b.at (E:=E)
 apply Wk (hI _ _) fn84 rfl
 intro A0 n0 d0 hA0
 change A0.n=44 at n0
 have q0:A0.get 0=.pointer (some (own k)):=hA0 0 _ rfl
 have q1:A0.get 1=.int .u8 (c.toNat:Nat):=hA0 1 _ rfl
 clear hA0
 by_cases h1:pos<bs.length
 rotate_left
 ·have e1:decide ((pos:Int)<(bs.length:Int))=false:=decide_eq_false (by omega)
  have hn:bs[pos]? = none:=by rw[List.getElem?_eq_none_iff];omega
  (repeat' (with_reducible apply Ws));(apply Wn 1;focus ((repeat ((with_reducible apply Rr rfl);focus ((try simp +decide only[Oy,n0]);with_reducible rfl)));with_reducible exact Rn))
  repeat' (with_reducible apply Wc.seq)
  refine Wc.drawC 1 (by kernel_rfl) ?_
  (iterate 28 (first|((first|apply Fp rfl rfl rfl|apply FC.new rfl rfl|(apply FC.pureG rfl rfl;(focus (simp +decide only[Gs,n0,q0,q1,Qx,Hx,c0,c1,e1];done));focus rfl));focus ((try simp +decide only[Oy,n0,q0,q1,Qx,Hx,c0,c1,e1]);with_reducible rfl))|(apply FC.skipG rfl rfl;focus (simp +decide only[Gs,n0,q0,q1,Qx,Hx,c0,c1,e1];done))))
  refine FC.nil ?_
  repeat' (first|with_reducible apply Ws|(apply Wp;focus ((repeat ((with_reducible apply Rr rfl);focus ((try simp +decide only[Oy,n0]);with_reducible rfl)));with_reducible exact Rn))|(refine W2 (by simp +decide only[Cx,n0];try with_reducible rfl) (fun hb=>?_) (fun hb=>?_)<;>try contradiction)|apply W3|apply W4|apply W5|apply W6)
  refine done_q (v:=.bool false) (.inr rfl) (by simp +decide only[Gs,d0]) rfl (by simp +decide only[Gs,n0]) ⟨Mod.refl f,.inr ⟨by rw[hn];simp,rfl,b⟩⟩
 have e1:decide ((pos:Int)<(bs.length:Int))=true:=decide_eq_true (by omega)
 obtain⟨x,hx⟩:∃ x,bs[pos]? = some x:=⟨bs[pos],List.getElem?_eq_getElem h1⟩
 have ix:=qix9 hx
 by_cases h2:x=c
 rotate_left
 ·have e2:decide ((x.toNat:Int)=(c.toNat:Int))=false:=decide_eq_false (fun h=>h2 (UInt8.toNat_inj.1 (by omega)))
  (repeat' (with_reducible apply Ws));(apply Wn 1;focus ((repeat ((with_reducible apply Rr rfl);focus ((try simp +decide only[Oy,n0]);with_reducible rfl)));with_reducible exact Rn))
  repeat' (with_reducible apply Wc.seq)
  refine Wc.drawC 1 (by kernel_rfl) ?_
  (iterate 28 (first|((first|apply Fp rfl rfl rfl|apply FC.new rfl rfl|(apply FC.pureG rfl rfl;(focus (simp +decide only[Gs,n0,q0,q1,Qx,Hx,c0,c1,e1,e2,ix];done));focus rfl));focus ((try simp +decide only[Oy,n0,q0,q1,Qx,Hx,c0,c1,e1,e2,ix]);with_reducible rfl))|(apply FC.skipG rfl rfl;focus (simp +decide only[Gs,n0,q0,q1,Qx,Hx,c0,c1,e1,e2,ix];done))))
  refine FC.nil ?_
  repeat' (first|with_reducible apply Ws|(apply Wp;focus ((repeat ((with_reducible apply Rr rfl);focus ((try simp +decide only[Oy,n0]);with_reducible rfl)));with_reducible exact Rn))|(refine W2 (by simp +decide only[Cx,n0];try with_reducible rfl) (fun hb=>?_) (fun hb=>?_)<;>try contradiction)|apply W3|apply W4|apply W5|apply W6)
  refine done_q (v:=.bool false) (.inr rfl) (by simp +decide only[Gs,d0]) rfl (by simp +decide only[Gs,n0]) ⟨Mod.refl f,.inr ⟨by rw[hx];simpa using h2,rfl,b⟩⟩
 subst h2
 have e2:decide ((x.toNat:Int)=(x.toNat:Int))=true:=decide_eq_true rfl
 have w1:IntKind.i64.wrap ((pos:Int)+1)=((pos+1:Nat):Int):=wrap64 (by omega) (by omega)
 obtain⟨s1,b1⟩:=b.pos (pos+1)
 have m1:=(Mod.refl (M:=fun j=>j=k) f).setl (B:=.cells [.string ⟨⟨bs⟩⟩,.int .i64 (pos+1:Nat),.int .i64 0,.int .i64 (items:Nat)] 86 none) rfl rfl kl
 (repeat' (with_reducible apply Ws));(apply Wn 1;focus ((repeat ((with_reducible apply Rr rfl);focus ((try simp +decide only[Oy,n0]);with_reducible rfl)));with_reducible exact Rn))
 repeat' (with_reducible apply Wc.seq)
 refine Wc.drawC 1 (by kernel_rfl) ?_
 (iterate 28 (first|((first|apply Fp rfl rfl rfl|apply FC.new rfl rfl|(apply FC.pureG rfl rfl;(focus (simp +decide only[Gs,n0,q0,q1,Qx,Hx,c0,c1,e1,e2,ix];done));focus rfl));focus ((try simp +decide only[Oy,n0,q0,q1,Qx,Hx,c0,c1,e1,e2,ix]);with_reducible rfl))|(apply FC.skipG rfl rfl;focus (simp +decide only[Gs,n0,q0,q1,Qx,Hx,c0,c1,e1,e2,ix];done))))
 refine FC.nil ?_
 repeat' (first|with_reducible apply Ws|(apply Wp;focus ((repeat ((with_reducible apply Rr rfl);focus ((try simp +decide only[Oy,n0,q0,Qx,Hx,c1,w1,s1]);with_reducible rfl)));with_reducible exact Rn))|(refine W2 (by simp +decide only[Cx,n0,q0];try with_reducible rfl) (fun hb=>?_) (fun hb=>?_)<;>try contradiction)|apply W3|apply W4|apply W5|apply W6)
 refine done_q (v:=.bool true) (.inr rfl) (by simp +decide only[Gs,d0]) rfl (by simp +decide only[Gs,n0]) ⟨m1,.inl ⟨hx,rfl,b1⟩⟩
theorem qmin (a b:Nat):amin (fun x y=>if y<x then y else x) [.int .i64 (a:Nat),.int .i64 (b:Nat)]=some (.int .i64 ((min a b:Nat):Int)):=by
 unfold amin aminG aminG
 simp only[decide_true]
 congr 2
 split<;>omega
theorem qmin9 (a:Nat):amin (fun x y=>if y<x then y else x) [.int .i64 (a:Nat),.int .i64 1099511627777]=some (.int .i64 ((min a 1099511627777:Nat):Int)):=qmin a 1099511627777
theorem decimal83 (hI:∀ f args h,(f=83∨f=81)→I f args h=none) {k:Nat} {bs:List UInt8} {pos items:Nat} {g:H} (f:Fit g) (b:Src k bs pos 0 items g) (hp:pos≤bs.length) (hl:bs.length≤1000000) (most:Nat) (hm:most≤1099511627776) (zero:Int) :
  ∃ n v g',(ev tab E I n).call 83 [.pointer (some (own k)),.int .i64 (most:Nat),.int .i64 zero] g=some (v,g')∧(∃ u x,v=.tuple #[u,x]∧Mod (fun j=>j=k) g g'∧NumQ k bs (rdDec bs most zero pos items) u x items g'):=by
 have kl:k<g.next:=f.lt b
 have key:∀ (r p nn:Nat) (A0:Ac) (h:H),r=bs.length-p→nn≤1099511627777→p≤bs.length→A0.n=133→A0.defers=[]→A0.get 0=.pointer (some (own k))→A0.get 1=.int .i64 (most:Nat)→A0.get 2=.int .i64 zero→A0.get 8=.int .i64 (pos:Nat)→A0.get 9=.int .i64 (nn:Nat)→Mod (fun j=>j=k) g h→Src k bs p 0 items h→digRun bs (bs.length-pos) pos 0=digRun bs r p nn→
   Wc tab E I ⟨83,none⟩ (.loop loop83) A0 h (fun ex A' h'=>ex=.exit 0∧A'.n=133∧A'.defers=[]∧Mod (fun j=>j=k) g h'∧A'.get 0=.pointer (some (own k))∧A'.get 1=.int .i64 (most:Nat)∧A'.get 2=.int .i64 zero∧A'.get 8=.int .i64 (pos:Nat)∧A'.get 9=.int .i64 ((digRun bs (bs.length-pos) pos 0).2:Nat)∧Src k bs (digRun bs (bs.length-pos) pos 0).1 0 items h'):=by
  intro r
  induction r with
  | zero=>
   intro p nn A0 h hr hnn hpl n0 d0 q0 q1 q2 q8 q9 M b he
   have e1:decide ((p:Int)<(bs.length:Int))=false:=decide_eq_false (by omega)
   obtain⟨c0,c1,c2,c3⟩:=b.at (E:=E)
   apply Wc.loop
   simp only[loop83,loopOf,firstLoop,Option.getD,Tryd.f83]
   repeat' (with_reducible apply Wc.seq)
   refine Wc.drawC 1 (by kernel_rfl) ?_
   (iterate 40 (first|((first|apply Fp rfl rfl rfl|apply FC.new rfl rfl|(apply FC.pureG rfl rfl;(focus (simp +decide only[Gs,n0,q0,Qx,Hx,c0,c1,e1];done));focus rfl));focus ((try simp +decide only[Oy,n0,q0,Qx,Hx,c0,c1,e1]);with_reducible rfl))|(apply FC.skipG rfl rfl;focus (simp +decide only[Gs,n0,q0,Qx,Hx,c0,c1,e1];done))))
   refine FC.nil ?_
   repeat' (first|with_reducible apply Ws|(apply Wp;focus ((repeat ((with_reducible apply Rr rfl);focus ((try simp +decide only[Oy,n0]);with_reducible rfl)));with_reducible exact Rn))|(refine W2 (by simp +decide only[Cx,n0];try with_reducible rfl) (fun hb=>?_) (fun hb=>?_)<;>try contradiction)|apply W3|apply W4|apply W5|apply W6)
   rw[he,digRun]
   exact⟨rfl,by simp +decide only[Gs,n0],by simp +decide only[Gs,d0],M,by simp +decide only[Gs,n0,q0],by simp +decide only[Gs,n0,q1],by simp +decide only[Gs,n0,q2],by simp +decide only[Gs,n0,q8],by simp +decide only[Gs,n0,q9],b⟩
  | succ r ih=>
   intro p nn A0 h hr hnn hpl n0 d0 q0 q1 q2 q8 q9 M b he
   have hlt:p<bs.length:=by omega
   have e1:decide ((p:Int)<(bs.length:Int))=true:=decide_eq_true (by omega)
   have fh:=M.fit
   have kh:k<h.next:=Nat.lt_of_lt_of_le kl M.next
   obtain⟨c0,c1,c2,c3⟩:=b.at (E:=E)
   obtain⟨c,hc⟩:∃ c,bs[p]? = some c:=⟨bs[p],List.getElem?_eq_getElem hlt⟩
   have hc8:c.toNat<256:=c.toNat_lt
   have ix:=qix9 hc
   rw[digRun,hc] at he
   simp only[] at he
   apply Wc.loop
   simp only[loop83,loopOf,firstLoop,Option.getD,Tryd.f83]
   repeat' (with_reducible apply Wc.seq)
   by_cases h1:48≤c.toNat
   rotate_left
   ·have e2:decide ((c.toNat:Int)≥48)=false:=decide_eq_false (by omega)
    have hd:isDig c=false:=by unfold isDig;rw[decide_eq_false h1];rfl
    rw[hd,if_neg (by decide)] at he
    refine Wc.drawC 1 (by kernel_rfl) ?_
    (iterate 40 (first|((first|apply Fp rfl rfl rfl|apply FC.new rfl rfl|(apply FC.pureG rfl rfl;(focus (simp +decide only[Gs,n0,q0,Qx,Hx,c0,c1,e1,e2,ix];done));focus rfl));focus ((try simp +decide only[Oy,n0,q0,Qx,Hx,c0,c1,e1,e2,ix]);with_reducible rfl))|(apply FC.skipG rfl rfl;focus (simp +decide only[Gs,n0,q0,Qx,Hx,c0,c1,e1,e2,ix];done))))
    refine FC.nil ?_
    repeat' (first|with_reducible apply Ws|(apply Wp;focus ((repeat ((with_reducible apply Rr rfl);focus ((try simp +decide only[Oy,n0]);with_reducible rfl)));with_reducible exact Rn))|(refine W2 (by simp +decide only[Cx,n0];try with_reducible rfl) (fun hb=>?_) (fun hb=>?_)<;>try contradiction)|apply W3|apply W4|apply W5|apply W6)
    rw[he]
    exact⟨rfl,by simp +decide only[Gs,n0],by simp +decide only[Gs,d0],M,by simp +decide only[Gs,n0,q0],by simp +decide only[Gs,n0,q1],by simp +decide only[Gs,n0,q2],by simp +decide only[Gs,n0,q8],by simp +decide only[Gs,n0,q9],b⟩
   have e2:decide ((c.toNat:Int)≥48)=true:=decide_eq_true (by omega)
   by_cases h2:c.toNat≤57
   rotate_left
   ·have e3:decide ((c.toNat:Int)≤57)=false:=decide_eq_false (by omega)
    have hd:isDig c=false:=by unfold isDig;rw[decide_eq_false h2,Bool.and_false]
    rw[hd,if_neg (by decide)] at he
    refine Wc.drawC 1 (by kernel_rfl) ?_
    (iterate 40 (first|((first|apply Fp rfl rfl rfl|apply FC.new rfl rfl|(apply FC.pureG rfl rfl;(focus (simp +decide only[Gs,n0,q0,Qx,Hx,c0,c1,e1,e2,e3,ix];done));focus rfl));focus ((try simp +decide only[Oy,n0,q0,Qx,Hx,c0,c1,e1,e2,e3,ix]);with_reducible rfl))|(apply FC.skipG rfl rfl;focus (simp +decide only[Gs,n0,q0,Qx,Hx,c0,c1,e1,e2,e3,ix];done))))
    refine FC.nil ?_
    repeat' (first|with_reducible apply Ws|(apply Wp;focus ((repeat ((with_reducible apply Rr rfl);focus ((try simp +decide only[Oy,n0]);with_reducible rfl)));with_reducible exact Rn))|(refine W2 (by simp +decide only[Cx,n0];try with_reducible rfl) (fun hb=>?_) (fun hb=>?_)<;>try contradiction)|apply W3|apply W4|apply W5|apply W6)
    rw[he]
    exact⟨rfl,by simp +decide only[Gs,n0],by simp +decide only[Gs,d0],M,by simp +decide only[Gs,n0,q0],by simp +decide only[Gs,n0,q1],by simp +decide only[Gs,n0,q2],by simp +decide only[Gs,n0,q8],by simp +decide only[Gs,n0,q9],b⟩
   have e3:decide ((c.toNat:Int)≤57)=true:=decide_eq_true (by omega)
   have hd:isDig c=true:=by unfold isDig;rw[decide_eq_true h1,decide_eq_true h2];rfl
   rw[if_pos hd] at he
   have w1:IntKind.i64.wrap ((p:Int)+1)=((p+1:Nat):Int):=wrap64 (by omega) (by omega)
   have w2:IntKind.i64.wrap (10*(nn:Int))=((10*nn:Nat):Int):=wrap64 (by omega) (by omega)
   have w3:IntKind.u8.wrap ((c.toNat:Int)-48)=((c.toNat-48:Nat):Int):=by
    rw[show (c.toNat:Int)-48=((c.toNat-48:Nat):Int) by omega]
    exact wrapU8 (by omega)
   have w4:IntKind.i64.wrap ((c.toNat-48:Nat):Int)=((c.toNat-48:Nat):Int):=wrapN (by omega)
   have w5:IntKind.i64.wrap (((10*nn:Nat):Int)+((c.toNat-48:Nat):Int))=((10*nn+(c.toNat-48):Nat):Int):=wrap64 (by omega) (by omega)
   have mn:=qmin9 (10*nn+(c.toNat-48))
   obtain⟨s1,b1⟩:=b.pos (p+1)
   have m1:=(Mod.refl (M:=fun j=>j=k) fh).setl (B:=.cells [.string ⟨⟨bs⟩⟩,.int .i64 (p+1:Nat),.int .i64 0,.int .i64 (items:Nat)] 86 none) rfl rfl kh
   generalize h.setl k (.cells [.string ⟨⟨bs⟩⟩,.int .i64 (p+1:Nat),.int .i64 0,.int .i64 (items:Nat)] 86 none)=h1 at s1 b1 m1
   refine Wc.drawC 1 (by kernel_rfl) ?_
   (iterate 40 (first|((first|apply Fp rfl rfl rfl|apply FC.new rfl rfl|(apply FC.pureG rfl rfl;(focus (simp +decide only[Gs,n0,q0,Qx,Hx,c0,c1,e1,e2,e3,ix];done));focus rfl));focus ((try simp +decide only[Oy,n0,q0,Qx,Hx,c0,c1,e1,e2,e3,ix]);with_reducible rfl))|(apply FC.skipG rfl rfl;focus (simp +decide only[Gs,n0,q0,Qx,Hx,c0,c1,e1,e2,e3,ix];done))))
   refine FC.nil ?_
   repeat' (first|with_reducible apply Ws|(apply Wp;focus ((repeat ((with_reducible apply Rr rfl);focus ((try simp +decide only[Oy,n0]);with_reducible rfl)));with_reducible exact Rn))|(refine W2 (by simp +decide only[Cx,n0];try with_reducible rfl) (fun hb=>?_) (fun hb=>?_)<;>try contradiction)|apply W3|apply W4|apply W5|apply W6)
   refine Wc.drawC 1 (by kernel_rfl) ?_
   (iterate 18 ((first|apply Fp rfl rfl rfl|apply FC.new rfl rfl);focus ((try simp +decide only[Oy,n0,q0,q9,Qx,Hx,c0,c1,ix,w2,w3,w4,w5,qcv5_3,mn]);with_reducible rfl)))
   refine FC.nil ?_
   repeat' (first|with_reducible apply Ws|(apply Wp;focus ((repeat ((with_reducible apply Rr rfl);focus ((try simp +decide only[Oy,n0,q0,Qx,Hx,c1,w1,s1]);with_reducible rfl)));with_reducible exact Rn))|(refine W2 (by simp +decide only[Cx,n0,q0];try with_reducible rfl) (fun hb=>?_) (fun hb=>?_)<;>try contradiction)|apply W3|apply W4|apply W5|apply W6)
   refine (ih (p+1) _ _ h1 (by omega) (Nat.min_le_right (10*nn+(c.toNat-48)) 1099511627777) (by omega) ?_ ?_ ?_ ?_ ?_ ?_ ?_ (M.trans m1) b1 he)
   ·simp +decide only[Gs,n0]
   ·simp +decide only[Gs,d0]
   ·simp +decide only[Gs,n0,q0]
   ·simp +decide only[Gs,n0,q1]
   ·simp +decide only[Gs,n0,q2]
   ·simp +decide only[Gs,n0,q8]
   ·simp +decide only[Gs,n0]
 apply Wk (hI _ _ _ (.inl rfl)) fn83 rfl
 intro A0 n0 d0 hA0
 change A0.n=133 at n0
 have q0:A0.get 0=.pointer (some (own k)):=hA0 0 _ rfl
 have q1:A0.get 1=.int .i64 (most:Nat):=hA0 1 _ rfl
 have q2:A0.get 2=.int .i64 zero:=hA0 2 _ rfl
 clear hA0
 obtain⟨c0,c1,c2,c3⟩:=b.at (E:=E)
 repeat' (first|with_reducible apply Ws|(apply Wp;focus ((repeat ((with_reducible apply Rr rfl);focus ((try simp +decide only[Oy,n0,q0,q1,q2,Qx,Hx,c1]);with_reducible rfl)));with_reducible exact Rn))|(refine W2 (by simp +decide only[Cx,n0,q0,q1,q2];try with_reducible rfl) (fun hb=>?_) (fun hb=>?_)<;>try contradiction)|apply W3|apply W4|apply W5|apply W6)
 refine (key (bs.length-pos) pos 0 _ g rfl (by omega) hp ?_ ?_ ?_ ?_ ?_ ?_ ?_ (Mod.refl f) b rfl).mono ?_
 ·simp +decide only[Gs,n0]
 ·simp +decide only[Gs,d0]
 ·simp +decide only[Gs,n0,q0]
 ·simp +decide only[Gs,n0,q1]
 ·simp +decide only[Gs,n0,q2]
 ·simp +decide only[Gs,n0]
 ·simp +decide only[Gs,n0]
  rfl
 rintro ex A0 h' ⟨rfl,n0,d0,M,q0,q1,q2,q8,q9,b⟩
 obtain⟨hd1,hd2,hd3⟩:=digRun_pos (bs:=bs) (bs.length-pos) pos 0 hp
 have hd3:=hd3 (by omega)
 have he:rdDec bs most zero pos items=_:=rfl
 unfold rdDec at he
 rw[show (rdDec bs most zero pos items)=_ from he]
 clear he
 generalize digRun bs (bs.length-pos) pos 0=dr at*
 obtain⟨p,m⟩:=dr
 simp only at*
 simp only[if_true]
 obtain⟨c0,c1,c2,c3⟩:=b.at (E:=E)
 have bad:∀ (e:Int),∃ nf g',(ev tab E I nf).call 81 [.pointer (some (own k)),.int .i64 e,.int .i64 (pos:Nat)] h'=some (.bool false,g')∧Mod (fun j=>j=k) g g'∧Src k bs pos e items g':=fun e=>by
  obtain⟨nf,g',ck,m,b'⟩:=fail81 (E:=E) (I:=I) (fun args h=>hI _ args h (.inr rfl)) M.fit b e pos
  exact⟨nf,g',ck,M.trans m,b'⟩
 repeat' (first|(with_reducible apply Wc.seq)|refine Wc.block ?_)
 by_cases h1:p=pos
 ·have e1:decide ((p:Int)=(pos:Int))=true:=decide_eq_true (by omega)
  obtain⟨nf,g',ck,M',b'⟩:=bad 4
  (repeat' (with_reducible apply Ws));(apply Wn 1;focus ((repeat (first|((first|with_reducible apply Rr rfl|((with_reducible apply Rg);(focus rfl);(focus rfl);focus (simp +decide only[Gs,n0,q0,q8,Qx,Hx,c0,c1,e1];done)));focus ((try simp +decide only[Oy,n0,q0,q8,Qx,Hx,c0,c1,e1]);with_reducible rfl))|((with_reducible apply Rs);(focus rfl);(focus rfl);focus (simp +decide only[Gs,n0,q0,q8,Qx,Hx,c0,c1,e1];done))|((with_reducible apply RO.skipU);(focus rfl);(focus rfl);focus (simp +decide only[Gs,n0,q0,q8,Qx,Hx,c0,c1,e1];done))));with_reducible exact Rn))
  repeat' (first|with_reducible apply Ws|(apply Wn nf;focus ((repeat ((with_reducible apply Rr rfl);focus ((try simp +decide only[Oy,n0,q0,q8,Qx,Hx,ck]);with_reducible rfl)));with_reducible exact Rn))|(refine W2 (by simp +decide only[Cx,n0,q0,q8];try with_reducible rfl) (fun hb=>?_) (fun hb=>?_)<;>try contradiction)|apply W3|apply W4|apply W5|apply W6)
  refine done_r2 (v:=.int .i64 0) (x:=.bool false) (.inr rfl) (by simp +decide only[Gs,d0]) rfl (by simp +decide only[Gs,n0]) (by simp +decide only[Gs,n0]) ⟨_,_,rfl,M',?_⟩
  rw[if_pos (.inl h1)]
  exact⟨rfl,rfl,b'⟩
 have e1:decide ((p:Int)=(pos:Int))=false:=decide_eq_false (by omega)
 have hlt:pos<bs.length:=by omega
 obtain⟨x,hx⟩:∃ x,bs[pos]? = some x:=⟨bs[pos],List.getElem?_eq_getElem hlt⟩
 have ix:=qix9 hx
 have w1:IntKind.i64.wrap ((pos:Int)+1)=((pos+1:Nat):Int):=wrap64 (by omega) (by omega)
 by_cases h2:bs[pos]? = some 48∧pos+1<p
 ·have hx48:x=48:=by have:=h2.1;rw[hx] at this;exact Option.some.inj this
  subst hx48
  have e2:decide (((48:UInt8).toNat:Int)=48)=true:=by decide
  have e3:decide ((p:Int)>((pos+1:Nat):Int))=true:=decide_eq_true (by omega)
  obtain⟨nf,g',ck,M',b'⟩:=bad 4
  (repeat' (with_reducible apply Ws));(apply Wn 1;focus ((repeat (first|((first|with_reducible apply Rr rfl|((with_reducible apply Rg);(focus rfl);(focus rfl);focus (simp +decide only[Gs,n0,q0,q8,Qx,Hx,c0,c1,e1,ix,e2,e3,w1];done)));focus ((try simp +decide only[Oy,n0,q0,q8,Qx,Hx,c0,c1,e1,ix,e2,e3,w1]);with_reducible rfl))|((with_reducible apply Rs);(focus rfl);(focus rfl);focus (simp +decide only[Gs,n0,q0,q8,Qx,Hx,c0,c1,e1,ix,e2,e3,w1];done))|((with_reducible apply RO.skipU);(focus rfl);(focus rfl);focus (simp +decide only[Gs,n0,q0,q8,Qx,Hx,c0,c1,e1,ix,e2,e3,w1];done))));with_reducible exact Rn))
  repeat' (first|with_reducible apply Ws|(apply Wn nf;focus ((repeat ((with_reducible apply Rr rfl);focus ((try simp +decide only[Oy,n0,q0,q8,Qx,Hx,ck]);with_reducible rfl)));with_reducible exact Rn))|(refine W2 (by simp +decide only[Cx,n0,q0,q8];try with_reducible rfl) (fun hb=>?_) (fun hb=>?_)<;>try contradiction)|apply W3|apply W4|apply W5|apply W6)
  refine done_r2 (v:=.int .i64 0) (x:=.bool false) (.inr rfl) (by simp +decide only[Gs,d0]) rfl (by simp +decide only[Gs,n0]) (by simp +decide only[Gs,n0]) ⟨_,_,rfl,M',?_⟩
  rw[if_pos (.inr h2)]
  exact⟨rfl,rfl,b'⟩
 rw[if_neg (fun h=>h.elim h1 h2)]
 refine Wc.mono (Q:=fun ex A h=>ex=.normal∧h=h'∧A.n=133∧A.defers=[]∧A.get 0=.pointer (some (own k))∧A.get 1=.int .i64 (most:Nat)∧A.get 2=.int .i64 zero∧A.get 8=.int .i64 (pos:Nat)∧A.get 9=.int .i64 (m:Nat)∧A.get 81=.bool false) ?_ ?_
 ·by_cases h3:x.toNat=48
  ·have e2:decide ((x.toNat:Int)=48)=true:=decide_eq_true (by omega)
   have e3:decide ((p:Int)>((pos+1:Nat):Int))=false:=decide_eq_false (fun h=>h2 ⟨by rw[hx,show x=48 from UInt8.toNat_inj.1 h3],by omega⟩)
   (repeat' (with_reducible apply Ws));(apply Wn 1;focus ((repeat (first|((first|with_reducible apply Rr rfl|((with_reducible apply Rg);(focus rfl);(focus rfl);focus (simp +decide only[Gs,n0,q0,q8,Qx,Hx,c0,c1,e1,ix,e2,e3,w1];done)));focus ((try simp +decide only[Oy,n0,q0,q8,Qx,Hx,c0,c1,e1,ix,e2,e3,w1]);with_reducible rfl))|((with_reducible apply Rs);(focus rfl);(focus rfl);focus (simp +decide only[Gs,n0,q0,q8,Qx,Hx,c0,c1,e1,ix,e2,e3,w1];done))|((with_reducible apply RO.skipU);(focus rfl);(focus rfl);focus (simp +decide only[Gs,n0,q0,q8,Qx,Hx,c0,c1,e1,ix,e2,e3,w1];done))));with_reducible exact Rn))
   exact⟨rfl,rfl,by simp +decide only[Gs,n0],by simp +decide only[Gs,d0],by simp +decide only[Gs,n0,q0],by simp +decide only[Gs,n0,q1],by simp +decide only[Gs,n0,q2],by simp +decide only[Gs,n0,q8],by simp +decide only[Gs,n0,q9],by simp +decide only[Gs,n0]⟩
  ·have e2:decide ((x.toNat:Int)=48)=false:=decide_eq_false (by omega)
   (repeat' (with_reducible apply Ws));(apply Wn 1;focus ((repeat (first|((first|with_reducible apply Rr rfl|((with_reducible apply Rg);(focus rfl);(focus rfl);focus (simp +decide only[Gs,n0,q0,q8,Qx,Hx,c0,c1,e1,ix,e2,w1];done)));focus ((try simp +decide only[Oy,n0,q0,q8,Qx,Hx,c0,c1,e1,ix,e2,w1]);with_reducible rfl))|((with_reducible apply Rs);(focus rfl);(focus rfl);focus (simp +decide only[Gs,n0,q0,q8,Qx,Hx,c0,c1,e1,ix,e2,w1];done))|((with_reducible apply RO.skipU);(focus rfl);(focus rfl);focus (simp +decide only[Gs,n0,q0,q8,Qx,Hx,c0,c1,e1,ix,e2,w1];done))));with_reducible exact Rn))
   exact⟨rfl,rfl,by simp +decide only[Gs,n0],by simp +decide only[Gs,d0],by simp +decide only[Gs,n0,q0],by simp +decide only[Gs,n0,q1],by simp +decide only[Gs,n0,q2],by simp +decide only[Gs,n0,q8],by simp +decide only[Gs,n0,q9],by simp +decide only[Gs,n0]⟩
 clear n0 d0 q0 q1 q2 q8 q9
 rintro ex A0 h'' ⟨rfl,rfl,n0,d0,q0,q1,q2,q8,q9,q81⟩
 simp only[if_true]
 by_cases h3:most<m
 ·have e4:decide ((m:Int)>(most:Int))=true:=decide_eq_true (by omega)
  obtain⟨nf,g',ck,M',b'⟩:=bad 3
  repeat' (first|with_reducible apply Ws|(apply Wn nf;focus ((repeat ((with_reducible apply Rr rfl);focus ((try simp +decide only[Oy,n0,q0,q1,q2,q8,q9,q81,Qx,Hx,e4,ck]);with_reducible rfl)));with_reducible exact Rn))|(refine W2 (by simp +decide only[Cx,n0,q0,q1,q2,q8,q9,q81,e4];try with_reducible rfl) (fun hb=>?_) (fun hb=>?_)<;>try contradiction)|apply W3|apply W4|apply W5|apply W6)
  refine done_r2 (v:=.int .i64 0) (x:=.bool false) (.inr rfl) (by simp +decide only[Gs,d0]) rfl (by simp +decide only[Gs,n0]) (by simp +decide only[Gs,n0]) ⟨_,_,rfl,M',?_⟩
  rw[if_pos h3]
  exact⟨rfl,rfl,b'⟩
 have e4:decide ((m:Int)>(most:Int))=false:=decide_eq_false (by omega)
 rw[if_neg h3]
 by_cases h4:m=0
 ·have e5:decide ((m:Int)=0)=true:=decide_eq_true (by omega)
  obtain⟨nf,g',ck,M',b'⟩:=bad zero
  repeat' (first|with_reducible apply Ws|(apply Wn nf;focus ((repeat ((with_reducible apply Rr rfl);focus ((try simp +decide only[Oy,n0,q0,q1,q2,q8,q9,q81,Qx,Hx,e4,e5,ck]);with_reducible rfl)));with_reducible exact Rn))|(refine W2 (by simp +decide only[Cx,n0,q0,q1,q2,q8,q9,q81,e4,e5];try with_reducible rfl) (fun hb=>?_) (fun hb=>?_)<;>try contradiction)|apply W3|apply W4|apply W5|apply W6)
  refine done_r2 (v:=.int .i64 0) (x:=.bool false) (.inr rfl) (by simp +decide only[Gs,d0]) rfl (by simp +decide only[Gs,n0]) (by simp +decide only[Gs,n0]) ⟨_,_,rfl,M',?_⟩
  rw[if_pos h4]
  exact⟨rfl,rfl,b'⟩
 have e5:decide ((m:Int)=0)=false:=decide_eq_false (by omega)
 rw[if_neg h4]
 repeat' (first|with_reducible apply Ws|(apply Wp;focus ((repeat ((with_reducible apply Rr rfl);focus ((try simp +decide only[Oy,n0,q0,q1,q2,q8,q9,q81,Qx,Hx,e4,e5]);with_reducible rfl)));with_reducible exact Rn))|(refine W2 (by simp +decide only[Cx,n0,q0,q1,q2,q8,q9,q81,e4,e5];try with_reducible rfl) (fun hb=>?_) (fun hb=>?_)<;>try contradiction)|apply W3|apply W4|apply W5|apply W6)
 refine done_r2 (v:=.int .i64 (m:Nat)) (x:=.bool true) (.inr rfl) (by simp +decide only[Gs,d0]) rfl (by simp +decide only[Gs,n0]) (by simp +decide only[Gs,n0]) ⟨_,_,rfl,M,?_⟩
 exact⟨rfl,rfl,b⟩
variable {E:Env}
theorem qty2:tab.ty.get 2=some ⟨.int .i64,1,8,some (.int .i64 0),true⟩:=by kernel_rfl
theorem qld2 (a:Addr) {h:H}:aload tab E 2 a h=h.cell E a:=by unfold aload;rw[qty2];rfl
theorem qty99:tab.ty.get 99=some ⟨.int .u64,1,8,some (.int .u64 0),true⟩:=by kernel_rfl
theorem qld99 (a:Addr) {h:H}:aload tab E 99 a h=h.cell E a:=by unfold aload;rw[qty99];rfl
theorem qty164:tab.ty.get 164=some ⟨.int .u32,1,4,some (.int .u32 0),true⟩:=by kernel_rfl
theorem qld164 (a:Addr) {h:H}:aload tab E 164 a h=h.cell E a:=by unfold aload;rw[qty164];rfl
theorem qty180:tab.ty.get 180=some ⟨.array 24 5 1,24,24,some (.agg #[.int .u8 0,.int .u8 0,.int .u8 0,.int .u8 0,.int .u8 0,.int .u8 0,.int .u8 0,.int .u8 0,.int .u8 0,.int .u8 0,.int .u8 0,.int .u8 0,.int .u8 0,.int .u8 0,.int .u8 0,.int .u8 0,.int .u8 0,.int .u8 0,.int .u8 0,.int .u8 0,.int .u8 0,.int .u8 0,.int .u8 0,.int .u8 0]),true⟩:=by kernel_rfl
theorem qtz180:tzero tab 180=some (.agg #[.int .u8 0,.int .u8 0,.int .u8 0,.int .u8 0,.int .u8 0,.int .u8 0,.int .u8 0,.int .u8 0,.int .u8 0,.int .u8 0,.int .u8 0,.int .u8 0,.int .u8 0,.int .u8 0,.int .u8 0,.int .u8 0,.int .u8 0,.int .u8 0,.int .u8 0,.int .u8 0,.int .u8 0,.int .u8 0,.int .u8 0,.int .u8 0]):=by unfold tzero;rw[qty180]
theorem qld180 (a:Addr) {h:H}:aload tab E 180 a h=match h.cells E a 24 with|some cs=>some (.agg ⟨cs⟩)|none=>none:=by unfold aload;rw[qty180];rfl
theorem qty186:tab.ty.get 186=some ⟨.array 20 99 1,20,160,some (.agg #[.int .u64 0,.int .u64 0,.int .u64 0,.int .u64 0,.int .u64 0,.int .u64 0,.int .u64 0,.int .u64 0,.int .u64 0,.int .u64 0,.int .u64 0,.int .u64 0,.int .u64 0,.int .u64 0,.int .u64 0,.int .u64 0,.int .u64 0,.int .u64 0,.int .u64 0,.int .u64 0]),true⟩:=by kernel_rfl
theorem qld186 (a:Addr) {h:H}:aload tab E 186 a h=match h.cells E a 20 with|some cs=>some (.agg ⟨cs⟩)|none=>none:=by unfold aload;rw[qty186];rfl
theorem qia186 (a:Addr) (i:Int) (hi:inRange i 20=true):aindexAddr tab 186 (.pointer (some a)) (.int .i64 i)=some (.pointer (some (aadd a (i.toNat*1)))):=by unfold aindexAddr;simp only[qty186,hi]
theorem qty104:tab.ty.get 104=some ⟨.pointer 106,1,8,some (.pointer none),true⟩:=by kernel_rfl
theorem qld104 (a:Addr) {h:H}:aload tab E 104 a h=h.cell E a:=by unfold aload;rw[qty104];rfl
theorem qty106:tab.ty.get 106=some ⟨.struct [(0,104,1),(1,31,1)],2,32,some (.agg #[.pointer none,.slice none 0 0]),true⟩:=by kernel_rfl
theorem qtz106:tzero tab 106=some (.agg #[.pointer none,.slice none 0 0]):=by unfold tzero;rw[qty106]
theorem qld106 (a:Addr) {h:H}:aload tab E 106 a h=match h.cells E a 2 with|some cs=>some (.agg ⟨cs⟩)|none=>none:=by unfold aload;rw[qty106];rfl
theorem qfa106_0 (a:Addr):afieldAddr tab 106 (.pointer (some a)) 0=some (.pointer (some (aadd a 0))):=by unfold afieldAddr;rw[qty106];rfl
theorem qfa106_1 (a:Addr):afieldAddr tab 106 (.pointer (some a)) 1=some (.pointer (some (aadd a 1))):=by unfold afieldAddr;rw[qty106];rfl
theorem qty125:tab.ty.get 125=some ⟨.int .u64,1,8,some (.int .u64 0),true⟩:=by kernel_rfl
theorem qld125 (a:Addr) {h:H}:aload tab E 125 a h=h.cell E a:=by unfold aload;rw[qty125];rfl
theorem qty129:tab.ty.get 129=some ⟨.pointer 86,1,8,some (.pointer none),true⟩:=by kernel_rfl
theorem qld129 (a:Addr) {h:H}:aload tab E 129 a h=h.cell E a:=by unfold aload;rw[qty129];rfl
theorem qty153:tab.ty.get 153=some ⟨.array 2 5 1,2,2,some (.agg #[.int .u8 0,.int .u8 0]),true⟩:=by kernel_rfl
theorem qtz153:tzero tab 153=some (.agg #[.int .u8 0,.int .u8 0]):=by unfold tzero;rw[qty153]
theorem qld153 (a:Addr) {h:H}:aload tab E 153 a h=match h.cells E a 2 with|some cs=>some (.agg ⟨cs⟩)|none=>none:=by unfold aload;rw[qty153];rfl
theorem qia153 (a:Addr) (i:Int) (hi:inRange i 2=true):aindexAddr tab 153 (.pointer (some a)) (.int .i64 i)=some (.pointer (some (aadd a (i.toNat*1)))):=by unfold aindexAddr;simp only[qty153,hi]
theorem qty156:tab.ty.get 156=some ⟨.pointer 5,1,8,some (.pointer none),true⟩:=by kernel_rfl
theorem qld156 (a:Addr) {h:H}:aload tab E 156 a h=h.cell E a:=by unfold aload;rw[qty156];rfl
theorem qty170:tab.ty.get 170=some ⟨.map 5 5,1,8,some (.map none),true⟩:=by kernel_rfl
theorem qtz170:tzero tab 170=some (.map none):=by unfold tzero;rw[qty170]
theorem qld170 (a:Addr) {h:H}:aload tab E 170 a h=h.cell E a:=by unfold aload;rw[qty170];rfl
theorem Qi:(∀ (E:Env) (a:Addr) (h:H),aload tab E 2 a h=h.cell E a)∧(∀ (E:Env) (a:Addr) (h:H),aload tab E 99 a h=h.cell E a)∧(∀ (E:Env) (a:Addr) (h:H),aload tab E 164 a h=h.cell E a)∧(∀ (E:Env) (a:Addr) (h:H),aload tab E 180 a h=match h.cells E a 24 with|some cs=>some (.agg ⟨cs⟩)|none=>none)∧(∀ (E:Env) (a:Addr) (h:H),aload tab E 186 a h=match h.cells E a 20 with|some cs=>some (.agg ⟨cs⟩)|none=>none)∧(∀ (E:Env) (a:Addr) (h:H),aload tab E 104 a h=h.cell E a)∧(∀ (E:Env) (a:Addr) (h:H),aload tab E 106 a h=match h.cells E a 2 with|some cs=>some (.agg ⟨cs⟩)|none=>none)∧(∀ (a:Addr),afieldAddr tab 106 (.pointer (some a)) 0=some (.pointer (some (aadd a 0))))∧(∀ (a:Addr),afieldAddr tab 106 (.pointer (some a)) 1=some (.pointer (some (aadd a 1))))∧(∀ (E:Env) (a:Addr) (h:H),aload tab E 125 a h=h.cell E a)∧(∀ (E:Env) (a:Addr) (h:H),aload tab E 129 a h=h.cell E a)∧(∀ (E:Env) (a:Addr) (h:H),aload tab E 153 a h=match h.cells E a 2 with|some cs=>some (.agg ⟨cs⟩)|none=>none)∧(∀ (E:Env) (a:Addr) (h:H),aload tab E 156 a h=h.cell E a)∧(∀ (E:Env) (a:Addr) (h:H),aload tab E 170 a h=h.cell E a):=
 ⟨fun E a h=>by first|exact qld2 _|exact qld2 _ _ _,fun E a h=>by first|exact qld99 _|exact qld99 _ _ _,fun E a h=>by first|exact qld164 _|exact qld164 _ _ _,fun E a h=>by first|exact qld180 _|exact qld180 _ _ _,fun E a h=>by first|exact qld186 _|exact qld186 _ _ _,fun E a h=>by first|exact qld104 _|exact qld104 _ _ _,fun E a h=>by first|exact qld106 _|exact qld106 _ _ _,fun a=>by first|exact qfa106_0 _|exact qfa106_0 _ _ _,fun a=>by first|exact qfa106_1 _|exact qfa106_1 _ _ _,fun E a h=>by first|exact qld125 _|exact qld125 _ _ _,fun E a h=>by first|exact qld129 _|exact qld129 _ _ _,fun E a h=>by first|exact qld153 _|exact qld153 _ _ _,fun E a h=>by first|exact qld156 _|exact qld156 _ _ _,fun E a h=>by first|exact qld170 _|exact qld170 _ _ _⟩
theorem ty3:tab.ty.get 3=some ⟨.int .i64,1,8,some (.int .i64 0),true⟩:=by kernel_rfl
theorem ty9:tab.ty.get 9=some ⟨.string,1,16,some (.string ⟨#[]⟩),true⟩:=by kernel_rfl
theorem ty23:tab.ty.get 23=some ⟨.slice 25 4 56,1,24,some (.slice none 0 0),true⟩:=by kernel_rfl
theorem ty25:tab.ty.get 25=some ⟨.struct [(0,3,1),(1,3,1),(2,9,1),(3,23,1)],4,56,some (.agg #[.int .i64 0,.int .i64 0,.string ⟨#[]⟩,.slice none 0 0]),true⟩:=by kernel_rfl
theorem ty26:tab.ty.get 26=some ⟨.int .i64,1,8,some (.int .i64 0),true⟩:=by kernel_rfl
variable {E:Env} {h:H}
theorem ld3 (a:Addr):aload tab E 3 a h=h.cell E a:=by unfold aload;rw[ty3];rfl
theorem ld9 (a:Addr):aload tab E 9 a h=h.cell E a:=by unfold aload;rw[ty9];rfl
theorem ld23 (a:Addr):aload tab E 23 a h=h.cell E a:=by unfold aload;rw[ty23];rfl
theorem ld25 (a:Addr):aload tab E 25 a h=match h.cells E a 4 with|some cs=>some (.agg ⟨cs⟩)|none=>none:=by unfold aload;rw[ty25];rfl
theorem fa25_0 (a:Addr):afieldAddr tab 25 (.pointer (some a)) 0=some (.pointer (some (aadd a 0))):=by unfold afieldAddr;rw[ty25];rfl
theorem fa25_1 (a:Addr):afieldAddr tab 25 (.pointer (some a)) 1=some (.pointer (some (aadd a 1))):=by unfold afieldAddr;rw[ty25];rfl
theorem fa25_2 (a:Addr):afieldAddr tab 25 (.pointer (some a)) 2=some (.pointer (some (aadd a 2))):=by unfold afieldAddr;rw[ty25];rfl
theorem fa25_3 (a:Addr):afieldAddr tab 25 (.pointer (some a)) 3=some (.pointer (some (aadd a 3))):=by unfold afieldAddr;rw[ty25];rfl
theorem len23 (b:Option Addr) (n c:Nat):alen tab 23 (.slice b n c) h=some (.int .i64 n):=by unfold alen;rw[ty23]
theorem len9 (s:ByteArray):alen tab 9 (.string s) h=some (.int .i64 (s.data.toList.length:Nat)):=by unfold alen;rw[ty9]
theorem ia23 (a:Addr) (n c:Nat) (i:Int) (hi:inRange i n=true):aindexAddr tab 23 (.slice (some a) n c) (.int .i64 i)=some (.pointer (some (aadd a (i.toNat*4)))):=by unfold aindexAddr;simp only[ty23,hi]
set_option maxHeartbeats 4000000
variable {E:Env} {I:Known}
theorem ex0 (a b:Value):(#[a,b]:Array Value).toList[0]? = some a:=rfl
theorem ex1 (a b:Value):(#[a,b]:Array Value).toList[1]? = some b:=rfl
/-! ### levels -/
theorem tz25:tzero tab 25=some (.agg #[.int .i64 0,.int .i64 0,.string ⟨#[]⟩,.slice none 0 0]):=by unfold tzero;rw[ty25]
theorem za23 (b:Option Addr) (n c:Nat):zeroArg tab 23 (.slice b n c)=some false:=by unfold zeroArg;rw[ty23]
theorem bs23 (a b c d:Value) (h1:[a,b,c,d].all isOne=true) {h:H}:abuildSlice tab 23 1 [(0,.agg ⟨[a,b,c,d]⟩)] h=some (.slice (some (own h.next)) 1 1,h.new (.cells [a,b,c,d] 25 none)):=by
 unfold abuildSlice
 simp only[ty23,tz25]
 rfl
theorem ty53:tab.ty.get 53=some ⟨.slice 3 1 8,1,24,some (.slice none 0 0),true⟩:=by kernel_rfl
theorem tz3:tzero tab 3=some (.int .i64 0):=by unfold tzero;rw[ty3]
theorem ia53 (a:Addr) (n c:Nat) (i:Int) (hi:inRange i n=true):aindexAddr tab 53 (.slice (some a) n c) (.int .i64 i)=some (.pointer (some (aadd a (i.toNat*1)))):=by unfold aindexAddr;simp only[ty53,hi]
/-! ### upto -/
/-! ### alike -/
def Cap (E:Env) (h:H) (t:Hs.Item) (p3 p4 p5:Value) (d:Int):Prop:=∃ k3 k4 k5 cs3 cs4,p3=.pointer (some (own k3))∧p4=.pointer (some (own k4))∧p5=.pointer (some (own k5))∧h.blk k3=some (.cells cs3 25 none)∧rep E h t (.agg ⟨cs3⟩)∧h.blk k4=some (.cells cs4 25 none)∧rep E h t (.agg ⟨cs4⟩)∧h.blk k5=some (.cells [.int .i64 d] 3 none)∧0≤d∧d+lvlI t≤400∧isz t≤1000000
variable {E:Env}
theorem ty163:tab.ty.get 163=some ⟨.func,1,8,some .nilFunc,true⟩:=by kernel_rfl
theorem fn70:tab.fn.get 70=some Tryd.f70:=by kernel_rfl
theorem fn109:tab.fn.get 109=some Tryd.f109:=by kernel_rfl
theorem fn110:tab.fn.get 110=some Tryd.f110:=by kernel_rfl
theorem ld163 (a:Addr) {h:H}:aload tab E 163 a h=h.cell E a:=by unfold aload;rw[ty163];rfl
theorem tz163:tzero tab 163=some .nilFunc:=by unfold tzero;rw[ty163]
theorem st25 {k:Nat} {ty:TypeId} {x0 x1 x2 x3 a b c d:Value} {g:H} (hb:g.blk k=some (.cells [x0,x1,x2,x3] ty none)) (h1:[a,b,c,d].all isOne=true) (hm:g.mark≤k):astore tab 25 (own k) (.agg ⟨[a,b,c,d]⟩) g=some (g.setb k (.cells [a,b,c,d] ty none)):=by
 unfold astore
 rw[ty25]
 exact put_own hb (by simp[Value.cells]) rfl h1 hm
structure Vis {σ:Type} (E:Env) (J:Known) (step:Int→Hs.Item→σ→σ×Bool) (hE:H) (l k2 k3:Nat) (M:Nat→Prop) (Iv:Bool→σ→H→Prop):Prop where
 fit:∀ {s g},Iv true s g→Fit g
 grow:∀ {s g},Iv true s g→Grows hE g
 b2:∀ {s g},Iv true s g→g.blk k2=some (.cells [.func (.yield l) ⟨[]⟩ ⟨[]⟩] 163 none)
 b3:∀ {s g},Iv true s g→g.blk k3=some (.cells [.func (.func 110) ⟨[]⟩ ⟨[.pointer (some (own k2)),.pointer (some (own k3))]⟩] 163 none)
 ahd:∀ {s g g'},Iv true s g→Ahd g g'→Iv true s g'
 low:∀ {s g},Iv true s g→∀ k,g.next≤k→¬ M k
 round:∀ {s g lv t xv},Iv true s g→1≤lv→lv≤2000000000→rep E hE t xv→∃ n v g',(ev tab E J n).round l [.int .i64 lv,xv] g=some (v,g')∧(v=.bool (step lv t s).2∧Iv (step lv t s).2 (step lv t s).1 g'∧Keep M g g')
noncomputable def loop110:Code:=loopOf Tryd.f110
theorem visit110 {σ:Type} {J:Known} {step:Int→Hs.Item→σ→σ×Bool} {hE:H} {l k2 k3:Nat} {M:Nat→Prop} {Iv:Bool→σ→H→Prop} (hJ:∀ args h,J 110 args h=none) (V:Vis E J step hE l k2 k3 M Iv) :
  ∀ (z:Nat) (t:Hs.Item) (xv:Value) (lv:Int) (s:σ) (g:H),isz t≤z→isz t≤1000000→rep E hE t xv→1≤lv→lv+isz t≤2000000000→Iv true s g→
   ∃ n v g',(ev tab E J n).call 110 [.int .i64 lv,xv,.pointer (some (own k2)),.pointer (some (own k3))] g=some (v,g')∧(v=.bool (visit step lv t s).2∧Iv (visit step lv t s).2 (visit step lv t s).1 g'∧Keep M g g'):=by
 intro z
 induction z with
 | zero=>intro t xv lv s g hz;obtain⟨k,m,tx,ks⟩:=t;rw[isz] at hz;omega
 | succ z IH=>
 intro t xv lv s g hz hz6 hr hlv1 hlv2 iv
 obtain⟨k,m,tx,ks⟩:=t
 have hr0:=hr
 obtain⟨sb,sc,rfl,hs⟩:=rep_slice hr
 have hlen:ks.length≤1000000:=by
  rw[isz] at hz6
  have:∀ l:List Hs.Item,l.length≤iszL l:=by
   intro l
   induction l with
   | nil=>simp[iszL]
   | cons x l ih=>rw[iszL,List.length_cons];obtain⟨a,b,c,d⟩:=x;rw[isz];omega
  have:=this ks
  omega
 refine Wc.call (hJ _ _) fn110 rfl ?_
 generalize hA0:(⟨T.ofList [.int .i64 lv,.agg ⟨[.int .i64 k,.int .i64 m,.string tx,.slice sb ks.length sc]⟩,.pointer (some (own k2)),.pointer (some (own k3))] 0 .nil,max ([.int .i64 lv,.agg ⟨[.int .i64 k,.int .i64 m,.string tx,.slice sb ks.length sc]⟩,.pointer (some (own k2)),.pointer (some (own k3))]:List Value).length Tryd.f110.ntmps,[]⟩:Ac)=A0
 have n0:A0.n=28:=by rw[← hA0];rfl
 have g00:A0.get 0=.int .i64 lv:=by rw[← hA0];rfl
 have g01:A0.get 1=.agg ⟨[.int .i64 k,.int .i64 m,.string tx,.slice sb ks.length sc]⟩:=by rw[← hA0];rfl
 have g02:A0.get 2=.pointer (some (own k2)):=by rw[← hA0];rfl
 have g03:A0.get 3=.pointer (some (own k3)):=by rw[← hA0];rfl
 have d0:A0.defers=[]:=by rw[← hA0]
 have hfit:=V.fit iv
 apply Wc.seq
 refine Wc.ops (by (repeat ((with_reducible apply Rr rfl);focus ((try simp +decide only[Oz,n0,g00,g01,g02,g03]);with_reducible rfl)));with_reducible exact Rn) ?_
 generalize hh1:g.new (.cells (Value.agg ⟨[.int .i64 k,.int .i64 m,.string tx,.slice sb ks.length sc]⟩).cells.toList 25 none)=h1
 have a1:Ahd g h1:=by rw[← hh1];exact Ahd.new0 hfit rfl
 have b1:h1.blk g.next=some (.cells [.int .i64 k,.int .i64 m,.string tx,.slice sb ks.length sc] 25 none):=by rw[← hh1];exact new_blk_new rfl
 clear hh1
 have iv1:=V.ahd iv a1
 have cl2:h1.cell E (own k2)=some (.func (.yield l) ⟨[]⟩ ⟨[]⟩):=blk_cell0 (V.b2 iv1) rfl
 have cl5:h1.cells E (own g.next) 4=some [.int .i64 k,.int .i64 m,.string tx,.slice sb ks.length sc]:=blk_cells b1 rfl rfl
 obtain⟨nr,v1,g2,hround,rfl,iv2,kp2⟩:=V.round iv1 hlv1 (by omega) hr0
 have kp:Keep M g g2:=a1.keep.trans kp2
 have b2:g2.blk g.next=some (.cells [.int .i64 k,.int .i64 m,.string tx,.slice sb ks.length sc] 25 none):=kp2.blk _ _ (V.low iv _ (Nat.le_refl _)) b1
 cases hst:step lv (.mk k m tx ks) s with
 | mk s1 b=>
 rw[hst] at iv2 hround
 cases b with
 | false=>
  rw[visit_false hst]
  repeat' (first|with_reducible apply Ws|(apply Wn nr;focus ((repeat ((with_reducible apply Rr rfl);focus ((try simp +decide only[Oz,n0,d0,g00,g01,g02,g03,ld163,cl2,ld25,cl5,hround,aun]);with_reducible rfl)));with_reducible exact Rn))|(refine W2 (by simp +decide only[Cz,n0,d0,g00,g01,g02,g03,ld163,cl2,ld25,cl5,hround,aun];try with_reducible rfl) (fun hb=>?_) (fun hb=>?_)<;>try contradiction)|apply W3|apply W4|apply W5|apply W6)
  refine done_q (v:=.bool false) (.inr rfl) (by simp +decide only[Gz,d0]) rfl (by simp +decide only[Gz,n0]) ⟨rfl,iv2,kp⟩
 | true=>
  rw[visit_true hst]
  have key:∀ (r i:Nat) (s':σ) (A:Ac) (g':H),r=ks.length-i→i≤ks.length→A.n=28→A.defers=[]→A.get 0=.int .i64 lv→A.get 3=.pointer (some (own k3))→A.get 15=.slice sb ks.length sc→A.get 16=.int .i64 (ks.length:Nat)→A.get 17=.int .i64 (i:Nat)→
    Iv true s' g'→visitL step (lv+1) ks s1=visitL step (lv+1) (ks.drop i) s'→Keep M g g'→
    Wc tab E J ⟨110,none⟩ (.loop loop110) A g' (fun ex A' g''=>A'.n=28∧A'.defers=[]∧Keep M g g''∧Iv (visitL step (lv+1) ks s1).2 (visitL step (lv+1) ks s1).1 g''∧((ex=.exit 0∧(visitL step (lv+1) ks s1).2=true)∨(ex=.ret∧A'.get 6=.bool false∧(visitL step (lv+1) ks s1).2=false))):=by
   intro r
   induction r with
   | zero=>
    intro i s' A g' hr' hi nA dA p0 p3 p15 p16 p17 iv' hvis kp'
    have hil:i=ks.length:=by omega
    have hlt:decide ((i:Int)<(ks.length:Int))=false:=by simp;omega
    rw[hil,List.drop_length,visitL] at hvis
    rw[hvis]
    apply Wc.loop
    simp only[loop110,loopOf,firstLoop,Option.getD,Tryd.f110]
    repeat' (first|with_reducible apply Ws|(apply Wp;focus ((repeat ((with_reducible apply Rr rfl);focus ((try simp +decide only[Oz,nA,p0,p3,p15,p16,p17,hlt]);with_reducible rfl)));with_reducible exact Rn))|(refine W2 (by simp +decide only[Cz,nA,p0,p3,p15,p16,p17,hlt];try with_reducible rfl) (fun hb=>?_) (fun hb=>?_)<;>try contradiction)|apply W3|apply W4|apply W5|apply W6)
    exact⟨by simp +decide only[Gz,nA],by simp +decide only[Gz,dA],kp',iv',.inl ⟨rfl,by simp⟩⟩
   | succ r ih=>
    intro i s' A g' hr' hi nA dA p0 p3 p15 p16 p17 iv' hvis kp'
    have hil:i<ks.length:=by omega
    have hlt:decide ((i:Int)<(ks.length:Int))=true:=by simp;omega
    have hks:ks.drop i=ks[i]::ks.drop (i+1):=List.drop_eq_getElem_cons hil
    rw[hks] at hvis
    rcases hs with hk0|⟨a,cs,he,hlc,hcs,hrl⟩
    ·rw[hk0] at hil;simp at hil
    subst he
    have hfit':=V.fit iv'
    have hcs1:=cells_grow (V.grow iv') hcs
    obtain⟨hl4,hrk⟩:=repL_get i hrl (List.getElem?_eq_getElem hil)
    have hsub:=cells_sub hcs1 (m:=i*4) (l:=4) (by omega)
    have hmem:ks[i]∈ks:=List.getElem_mem hil
    have hkz:=isz_kid (k:=k) (n:=m) (t:=tx) hmem
    have hq:∃ q0 q1 q2 q3,(cs.drop (i*4)).take 4=[q0,q1,q2,q3]∧[q0,q1,q2,q3].all isOne=true:=by
     generalize hki:ks[i]=ki at hrk
     obtain⟨k',m',tx',ks'⟩:=ki
     obtain⟨sb',sc',e,_⟩:=rep_slice hrk
     simp only[Value.agg.injEq,Array.mk.injEq] at e
     exact⟨_,_,_,_,e,rfl⟩
    obtain⟨q0,q1,q2,q3,hq,hone⟩:=hq
    rw[hq] at hsub hrk
    have hir:inRange (i:Int) ks.length=true:=by
     show Nat.blt i ks.length=true
     rw[Nat.blt_eq];exact hil
    have w3:IntKind.i64.wrap ((i:Int)+1)=(i:Int)+1:=wrap64 (by omega) (by omega)
    have wl:IntKind.i64.wrap (lv+1)=lv+1:=wrap64 (by omega) (by omega)
    generalize hh3:g'.new (.cells (Value.agg #[.int .i64 0,.int .i64 0,.string ⟨#[]⟩,.slice none 0 0]).cells.toList 25 none)=h3
    have a3:Ahd g' h3:=by rw[← hh3];exact Ahd.new0 hfit' rfl
    have c3:h3.blk g'.next=some (.cells [.int .i64 0,.int .i64 0,.string ⟨#[]⟩,.slice none 0 0] 25 none):=by rw[← hh3];exact new_blk_new rfl
    have hn3:h3.next=g'.next+1:=by rw[← hh3];rfl
    have hst3:=st25 (a:=q0) (b:=q1) (c:=q2) (d:=q3) c3 hone (by rw[a3.mark];exact hfit'.ok.2)
    generalize hh4:h3.setb g'.next (.cells [q0,q1,q2,q3] 25 none)=h4 at hst3
    have a4:Ahd g' h4:=by rw[← hh4];exact a3.setb rfl (Nat.le_refl _) (by omega) hfit'
    have c4:h4.blk g'.next=some (.cells [q0,q1,q2,q3] 25 none):=by rw[← hh4];exact setb_same rfl
    have iv4:=V.ahd iv' a4
    have cl3:h4.cell E (own k3)=some (.func (.func 110) ⟨[]⟩ ⟨[.pointer (some (own k2)),.pointer (some (own k3))]⟩):=blk_cell0 (V.b3 iv4) rfl
    have cl4:h4.cells E (own g'.next) 4=some [q0,q1,q2,q3]:=blk_cells c4 rfl hone
    obtain⟨nf,v',g5,hcall,rfl,iv5,kp5⟩:=IH ks[i] _ (lv+1) s' h4 (by omega) (by omega) hrk (by omega) (by omega) iv4
    have kpT:Keep M g g5:=(kp'.ahd a4).trans kp5
    cases hvi:visit step (lv+1) ks[i] s' with
    | mk s2 b=>
    rw[hvi] at iv5 hcall
    apply Wc.loop
    simp only[loop110,loopOf,firstLoop,Option.getD,Tryd.f110]
    cases b with
    | false=>
     rw[visitL_false hvi] at hvis
     rw[hvis]
     repeat' (first|with_reducible apply Ws|(apply Wn nf;focus ((repeat ((with_reducible apply Rr rfl);focus ((try simp +decide only[Oz,nA,p0,p3,p15,p16,p17,hlt,ia23 _ _ _ _ hir,Int.toNat_natCast,ld25,hsub,tz25,hh3,hst3,ld163,cl3,cl4,List.cons_append,hcall,wl,w3,aun]);with_reducible rfl)));with_reducible exact Rn))|(refine W2 (by simp +decide only[Cz,nA,p0,p3,p15,p16,p17,hlt,ia23 _ _ _ _ hir,Int.toNat_natCast,ld25,hsub,tz25,hh3,hst3,ld163,cl3,cl4,List.cons_append,hcall,wl,w3,aun];try with_reducible rfl) (fun hb=>?_) (fun hb=>?_)<;>try contradiction)|apply W3|apply W4|apply W5|apply W6)
     exact⟨by simp +decide only[Gz,nA],by simp +decide only[Gz,dA],kpT,iv5,.inr ⟨rfl,by simp +decide only[Gz,nA],rfl⟩⟩
    | true=>
     rw[visitL_true hvi] at hvis
     repeat' (first|with_reducible apply Ws|(apply Wn nf;focus ((repeat ((with_reducible apply Rr rfl);focus ((try simp +decide only[Oz,nA,p0,p3,p15,p16,p17,hlt,ia23 _ _ _ _ hir,Int.toNat_natCast,ld25,hsub,tz25,hh3,hst3,ld163,cl3,cl4,List.cons_append,hcall,wl,w3,aun]);with_reducible rfl)));with_reducible exact Rn))|(refine W2 (by simp +decide only[Cz,nA,p0,p3,p15,p16,p17,hlt,ia23 _ _ _ _ hir,Int.toNat_natCast,ld25,hsub,tz25,hh3,hst3,ld163,cl3,cl4,List.cons_append,hcall,wl,w3,aun];try with_reducible rfl) (fun hb=>?_) (fun hb=>?_)<;>try contradiction)|apply W3|apply W4|apply W5|apply W6)
     refine (ih (i+1) s2 _ g5 (by omega) (by omega) ?_ ?_ ?_ ?_ ?_ ?_ ?_ iv5 hvis kpT).mono ?_
     ·simp +decide only[Gz,nA]
     ·simp +decide only[Gz,dA]
     ·simp +decide only[Gz,nA,p0]
     ·simp +decide only[Gz,nA,p3]
     ·simp +decide only[Gz,nA,p15]
     ·simp +decide only[Gz,nA,p16]
     ·simp +decide only[Gz,nA]
      rfl
     ·rintro ex A' h' ⟨e1,e2,e3,e4,⟨rfl,e5⟩|⟨rfl,e5⟩⟩
      ·exact⟨e1,e2,e3,e4,.inl ⟨rfl,e5⟩⟩
      ·exact⟨e1,e2,e3,e4,.inr ⟨rfl,e5⟩⟩
  have hc3:g2.cell E (aadd (own g.next) 3)=some (.slice sb ks.length sc):=blk_cell (i:=3) b2 rfl rfl
  repeat' (first|with_reducible apply Ws|(apply Wn nr;focus ((repeat ((with_reducible apply Rr rfl);focus ((try simp +decide only[Oz,n0,d0,g00,g01,g02,g03,ld163,cl2,ld25,cl5,hround,aun,fa25_3,ld23,hc3,len23]);with_reducible rfl)));with_reducible exact Rn))|(refine W2 (by simp +decide only[Cz,n0,d0,g00,g01,g02,g03,ld163,cl2,ld25,cl5,hround,aun,fa25_3,ld23,hc3,len23];try with_reducible rfl) (fun hb=>?_) (fun hb=>?_)<;>try contradiction)|apply W3|apply W4|apply W5|apply W6)
  refine (key ks.length 0 s1 _ g2 rfl (Nat.zero_le _) ?_ ?_ ?_ ?_ ?_ ?_ ?_ iv2 rfl kp).mono ?_
  ·simp +decide only[Gz,n0]
  ·simp +decide only[Gz,d0]
  ·simp +decide only[Gz,n0,g00]
  ·simp +decide only[Gz,n0,g03]
  ·simp +decide only[Gz,n0]
  ·simp +decide only[Gz,n0]
  ·simp +decide only[Gz,n0]
   rfl
  ·rintro ex A' g' ⟨e1,e2,e3,e4,⟨rfl,e5⟩|⟨rfl,e5,e6⟩⟩
   ·simp only[if_true]
    repeat' (first|with_reducible apply Ws|(apply Wp;focus ((repeat ((with_reducible apply Rr rfl);focus ((try simp +decide only[Oz,e1]);with_reducible rfl)));with_reducible exact Rn))|(refine W2 (by simp +decide only[Cz,e1];try with_reducible rfl) (fun hb=>?_) (fun hb=>?_)<;>try contradiction)|apply W3|apply W4|apply W5|apply W6)
    refine done_q (v:=.bool true) (.inr rfl) (by simp +decide only[Gz,e2]) rfl (by simp +decide only[Gz,e1]) ⟨by rw[e5],e4,e3⟩
   ·exact done_q (v:=.bool false) (.inr rfl) e2 rfl e5 ⟨by rw[e6],e4,e3⟩
theorem st163 {k:Nat} {ty:TypeId} {x y:Value} {g:H} (hb:g.blk k=some (.cells [x] ty none)) (h1:isOne y=true) (hm:g.mark≤k):astore tab 163 (own k) y g=some (g.setb k (.cells [y] ty none)):=by
 unfold astore
 rw[ty163,isOne_cells h1]
 exact put_own hb (by simp) rfl (by simp[h1]) hm
theorem st3 {k:Nat} {ty:TypeId} {x:Value} {i:Int} {g:H} (hb:g.blk k=some (.cells [x] ty none)) (hm:g.mark≤k):astore tab 3 (own k) (.int .i64 i) g=some (g.setb k (.cells [.int .i64 i] ty none)):=by
 unfold astore
 rw[ty3]
 exact put_own hb (by simp[Value.cells]) rfl rfl hm
theorem st26 {k:Nat} {ty:TypeId} {x:Value} {i:Int} {g:H} (hb:g.blk k=some (.cells [x] ty none)) (hm:g.mark≤k):astore tab 26 (own k) (.int .i64 i) g=some (g.setb k (.cells [.int .i64 i] ty none)):=by
 unfold astore
 rw[ty26]
 exact put_own hb (by simp[Value.cells]) rfl rfl hm
theorem tz26:tzero tab 26=some (.int .i64 0):=by unfold tzero;rw[ty26]
theorem ld26 (a:Addr) {h:H}:aload tab E 26 a h=h.cell E a:=by unfold aload;rw[ty26];rfl
theorem call70 {J:Known} (hJ:∀ args h,J 70 args h=none) {a b c d:Value} (g:H) :
  ∃ n v g',(ev tab E J n).call 70 [.agg ⟨[a,b,c,d]⟩] g=some (v,g')∧(v=.func (.func 109) ⟨[]⟩ ⟨[.pointer (some (own g.next))]⟩∧g'=g.new (.cells [a,b,c,d] 25 none)):=by
 refine Wc.call (hJ _ _) fn70 rfl ?_
 generalize hA0:(⟨T.ofList [.agg ⟨[a,b,c,d]⟩] 0 .nil,max ([.agg ⟨[a,b,c,d]⟩]:List Value).length Tryd.f70.ntmps,[]⟩:Ac)=A0
 have n0:A0.n=4:=by rw[← hA0];rfl
 have g00:A0.get 0=.agg ⟨[a,b,c,d]⟩:=by rw[← hA0];rfl
 have d0:A0.defers=[]:=by rw[← hA0]
 repeat' (first|with_reducible apply Ws|(apply Wp;focus ((repeat ((with_reducible apply Rr rfl);focus ((try simp +decide only[Oz,n0,d0,g00,roF]);with_reducible rfl)));with_reducible exact Rn))|(refine W2 (by simp +decide only[Cz,n0,d0,g00,roF];try with_reducible rfl) (fun hb=>?_) (fun hb=>?_)<;>try contradiction)|apply W3|apply W4|apply W5|apply W6)
 exact done_q (.inr rfl) (by simp +decide only[Gz,d0]) rfl (by simp +decide only[Gz,n0]) ⟨rfl,rfl⟩
theorem call109 {σ:Type} {J:Known} {step:Int→Hs.Item→σ→σ×Bool} {hE g:H} {l kb:Nat} {M:Nat→Prop} {Iv:Bool→σ→H→Prop} (hJ:∀ f args h,(f=109∨f=110)→J f args h=none) (V:Vis E J step hE l g.next (g.next+1) M Iv)
  (hfit:Fit g) (t:Hs.Item) {a b c d:Value} (h1:[a,b,c,d].all isOne=true) (hb:g.blk kb=some (.cells [a,b,c,d] 25 none)) (hr:rep E hE t (.agg ⟨[a,b,c,d]⟩)) (hz:isz t≤1000000) (s:σ)
  (start:∀ g',Ahd g g'→g'.blk g.next=some (.cells [.func (.yield l) ⟨[]⟩ ⟨[]⟩] 163 none)→g'.blk (g.next+1)=some (.cells [.func (.func 110) ⟨[]⟩ ⟨[.pointer (some (own g.next)),.pointer (some (own (g.next+1)))]⟩] 163 none)→Iv true s g') :
  ∃ n v g',(ev tab E J n).call 109 [.func (.yield l) ⟨[]⟩ ⟨[]⟩,.pointer (some (own kb))] g=some (v,g')∧(v=.tuple #[]∧Iv (visit step 1 t s).2 (visit step 1 t s).1 g'∧Keep M g g'):=by
 refine Wc.call (hJ _ _ _ (.inl rfl)) fn109 rfl ?_
 generalize hA0:(⟨T.ofList [.func (.yield l) ⟨[]⟩ ⟨[]⟩,.pointer (some (own kb))] 0 .nil,max ([.func (.yield l) ⟨[]⟩ ⟨[]⟩,.pointer (some (own kb))]:List Value).length Tryd.f109.ntmps,[]⟩:Ac)=A0
 have n0:A0.n=8:=by rw[← hA0];rfl
 have g00:A0.get 0=.func (.yield l) ⟨[]⟩ ⟨[]⟩:=by rw[← hA0];rfl
 have g01:A0.get 1=.pointer (some (own kb)):=by rw[← hA0];rfl
 have d0:A0.defers=[]:=by rw[← hA0]
 generalize hh1:g.new (.cells (Value.func (.yield l) ⟨[]⟩ ⟨[]⟩).cells.toList 163 none)=h1'
 have a1:Ahd g h1':=by rw[← hh1];exact Ahd.new0 hfit rfl
 have b1:h1'.blk g.next=some (.cells [.func (.yield l) ⟨[]⟩ ⟨[]⟩] 163 none):=by rw[← hh1];exact new_blk_new rfl
 have hn1:h1'.next=g.next+1:=by rw[← hh1];rfl
 generalize hh2:h1'.new (.cells Value.nilFunc.cells.toList 163 none)=h2
 have a2:Ahd h1' h2:=by rw[← hh2];exact Ahd.new0 a1.fit rfl
 have b2:h2.blk h1'.next=some (.cells [.nilFunc] 163 none):=by rw[← hh2];exact new_blk_new rfl
 have hn2:h2.next=g.next+2:=by rw[← hh2];show h1'.next+1=_;rw[hn1]
 rw[hn1] at b2
 have a12:=a1.trans a2
 have hst:=st163 (y:=.func (.func 110) ⟨[]⟩ ⟨[.pointer (some (own g.next)),.pointer (some (own (g.next+1)))]⟩) b2 rfl (by rw[a12.mark];exact Nat.le_succ_of_le hfit.ok.2)
 generalize hh3:h2.setb (g.next+1) (.cells [.func (.func 110) ⟨[]⟩ ⟨[.pointer (some (own g.next)),.pointer (some (own (g.next+1)))]⟩] 163 none)=h3 at hst
 have a3:Ahd g h3:=by rw[← hh3];exact a12.setb rfl (Nat.le_succ _) (by omega) hfit
 have c1:h3.blk g.next=some (.cells [.func (.yield l) ⟨[]⟩ ⟨[]⟩] 163 none):=by rw[← hh3,setb_ne (by omega)];exact a2.grows _ _ b1
 have c2:h3.blk (g.next+1)=some (.cells [.func (.func 110) ⟨[]⟩ ⟨[.pointer (some (own g.next)),.pointer (some (own (g.next+1)))]⟩] 163 none):=by rw[← hh3];exact setb_same rfl
 have iv:=start h3 a3 c1 c2
 obtain⟨n,v,g',hcall,rfl,iv',kp⟩:=visit110 (fun args h=>hJ _ args h (.inr rfl)) V (isz t) t _ 1 s h3 (Nat.le_refl _) hz hr (by omega) (by omega) iv
 have cl2:h3.cell E (own (g.next+1))=some (.func (.func 110) ⟨[]⟩ ⟨[.pointer (some (own g.next)),.pointer (some (own (g.next+1)))]⟩):=blk_cell0 c2 rfl
 have cl1:h3.cells E (own kb) 4=some [a,b,c,d]:=blk_cells (a3.grows _ _ hb) rfl h1
 repeat' (first|with_reducible apply Ws|(apply Wn n;focus ((repeat ((with_reducible apply Rr rfl);focus ((try simp +decide only[Oz,n0,d0,g00,g01,hh1,tz163,hn1,hh2,roF,hst,ld163,ld25,cl1,cl2,List.cons_append,hcall]);with_reducible rfl)));with_reducible exact Rn))|(refine W2 (by simp +decide only[Cz,n0,d0,g00,g01,hh1,tz163,hn1,hh2,roF,hst,ld163,ld25,cl1,cl2,List.cons_append,hcall];try with_reducible rfl) (fun hb=>?_) (fun hb=>?_)<;>try contradiction)|apply W3|apply W4|apply W5|apply W6)
 exact done_unit (.inl rfl) (by simp +decide only[Gz,d0]) rfl ⟨rfl,iv',a3.keep.trans kp⟩
/-! ### 35 -/
theorem fn35:tab.fn.get 35=some Tryd.f35:=by kernel_rfl
noncomputable def asg35:Code:=(rangeOf Tryd.f35).1
noncomputable def bod35:Code:=(rangeOf Tryd.f35).2
structure St35 (g0:H) (kR kN l:Nat) (r0:LoopR) (b:Bool) (s:Int×Int) (g:H):Prop where
 fit:Fit g
 log:g.log=[]
 mark:g.mark=g0.mark
 keep:Keep (fun k=>k=kR∨k=kN∨k=l) g0 g
 bR:g.blk kR=some (.cells [.int .i64 s.2] 26 none)
 bN:g.blk kN=some (.cells [.int .i64 s.1] 3 none)
 bl:g.blk l=some (.loop (if b then r0 else { r0 with state:=.done,pending:=some .ret }))
 cnt:b=true→s.2=0∧0≤s.1∧s.1≤5000
theorem St35.ahd {g0:H} {kR kN l:Nat} {r0:LoopR} {b:Bool} {s:Int×Int} {g g':H} (S:St35 g0 kR kN l r0 b s g) (a:Ahd g g'):St35 g0 kR kN l r0 b s g':=
 ⟨a.fit,a.log.trans S.log,a.mark.trans S.mark,S.keep.ahd a,a.grows _ _ S.bR,a.grows _ _ S.bN,a.grows _ _ S.bl,S.cnt⟩
theorem round35 {J:Known} {g0:H} {kR kN l d:Nat} (o1:kR<kN) (o2:kN<l) (om:g0.mark≤kR) {A:Ac} (nA:A.n=42) (p2:A.get 2=.pointer (some (own kR))) (p3:A.get 3=.pointer (some (own kN))) {s:Int×Int} {g:H}
  (S:St35 g0 kR kN l ⟨.ready,none,35,A.tmps,A.n,#[8,9],asg35,bod35,d⟩ true s g) {lv:Int} (hlv:1≤lv) (hlv2:lv≤2000000000) {t:Hs.Item} {xv:Value} {hE:H} (hr:rep E hE t xv) :
  ∃ n v g',(ev tab E J n).round l [.int .i64 lv,xv] g=some (v,g')∧(v=.bool (stepC lv t s).2∧St35 g0 kR kN l ⟨.ready,none,35,A.tmps,A.n,#[8,9],asg35,bod35,d⟩ (stepC lv t s).2 (stepC lv t s).1 g'∧Keep (fun k=>k=kR∨k=kN∨k=l) g g'):=by
 obtain⟨c,e⟩:=s
 obtain⟨rfl,hc0,hc1⟩:=S.cnt rfl
 replace hc0:0≤c:=hc0
 replace hc1:c≤5000:=hc1
 obtain⟨k,m,tx,ks⟩:=t
 obtain⟨sb,sc,rfl,_⟩:=rep_slice hr
 generalize hr0:(⟨.ready,none,35,A.tmps,A.n,#[8,9],asg35,bod35,d⟩:LoopR)=r0 at S ⊢
 have bl:=S.bl
 rw[if_pos rfl] at bl
 have hln:=S.fit.lt bl
 refine Wr.round bl (A:=((⟨A.tmps,A.n,[]⟩:Ac).put (some 8) (.int .i64 lv)).put (some 9) (.agg ⟨[.int .i64 k,.int .i64 m,.string tx,.slice sb ks.length sc]⟩)) (by rw[← hr0];rfl) ?_
 have hp:∀ i,(⟨A.tmps,A.n,[]⟩:Ac).get i=A.get i:=fun _=>rfl
 have hpn:(⟨A.tmps,A.n,[]⟩:Ac).n=42:=nA
 have q2:=(hp 2).trans p2
 have q3:=(hp 3).trans p3
 generalize (⟨A.tmps,A.n,[]⟩:Ac)=B0 at hpn q2 q3 ⊢
 generalize hh3:g.new (.cells (Value.agg #[.int .i64 0,.int .i64 0,.string ⟨#[]⟩,.slice none 0 0]).cells.toList 25 none)=h3
 have a3:Ahd g h3:=by rw[← hh3];exact Ahd.new0 S.fit rfl
 have c3:h3.blk g.next=some (.cells [.int .i64 0,.int .i64 0,.string ⟨#[]⟩,.slice none 0 0] 25 none):=by rw[← hh3];exact new_blk_new rfl
 have hn3:h3.next=g.next+1:=by rw[← hh3];rfl
 have hst3:=st25 (a:=.int .i64 k) (b:=.int .i64 m) (c:=.string tx) (d:=.slice sb ks.length sc) c3 rfl (by rw[a3.mark];exact S.fit.ok.2)
 generalize hh4:h3.setb g.next (.cells [.int .i64 k,.int .i64 m,.string tx,.slice sb ks.length sc] 25 none)=h4 at hst3
 have a4:Ahd g h4:=by rw[← hh4];exact a3.setb rfl (Nat.le_refl _) (by omega) S.fit
 have c4:h4.blk g.next=some (.cells [.int .i64 k,.int .i64 m,.string tx,.slice sb ks.length sc] 25 none):=by rw[← hh4];exact setb_same rfl
 have asgW:Wc tab E J ⟨r0.fn,some l⟩ r0.assign ((B0.put (some 8) (.int .i64 lv)).put (some 9) (.agg ⟨[.int .i64 k,.int .i64 m,.string tx,.slice sb ks.length sc]⟩)) g (fun ex A1 h1=>ex=.normal∧h1=h4∧A1.n=42∧A1.get 2=.pointer (some (own kR))∧A1.get 3=.pointer (some (own kN))∧A1.get 4=.int .i64 lv∧A1.get 5=.pointer (some (own g.next))):=by
  have hasg:r0.assign=asg35:=by rw[← hr0]
  have hfn0:r0.fn=35:=by rw[← hr0]
  rw[hasg,hfn0]
  simp only[asg35,rangeOf,firstRange,Option.getD,Tryd.f35]
  repeat' (first|with_reducible apply Ws|(apply Wp;focus ((repeat ((with_reducible apply Rr rfl);focus ((try simp +decide only[Oz,hpn,q2,q3,tz25,hh3,hst3]);with_reducible rfl)));with_reducible exact Rn))|(refine W2 (by simp +decide only[Cz,hpn,q2,q3,tz25,hh3,hst3];try with_reducible rfl) (fun hb=>?_) (fun hb=>?_)<;>try contradiction)|apply W3|apply W4|apply W5|apply W6)
  exact⟨rfl,rfl,by simp +decide only[Gz,hpn],by simp +decide only[Gz,hpn,q2],by simp +decide only[Gz,hpn,q3],by simp +decide only[Gz,hpn],by simp +decide only[Gz,hpn]⟩
 have S4:=S.ahd a4
 clear hh3 c3 hst3
 have bl4:=a4.grows _ _ bl
 refine asgW.mono ?_
 clear asgW
 rintro ex A1 h1 ⟨rfl,rfl,nA1,u2,u3,u4,u5⟩
 refine⟨rfl,r0,bl4,by rw[← hr0],?_⟩
 have hml:h1.mark≤l:=by rw[S4.mark];omega
 rw[turn_above hml]
 generalize hh7:h1.setb l (.loop { r0 with state:=.busy })=h7
 have hl1:l<h1.next:=Nat.lt_of_lt_of_le hln a4.next
 have f7:Fit h7:=by rw[← hh7];exact a4.fit.setb rfl hl1
 have R7:h7.blk kR=some (.cells [.int .i64 0] 26 none):=by rw[← hh7,setb_ne (by omega)];exact S4.bR
 have N7:h7.blk kN=some (.cells [.int .i64 c] 3 none):=by rw[← hh7,setb_ne (by omega)];exact S4.bN
 have L7:h7.blk l=some (.loop { r0 with state:=.busy }):=by rw[← hh7];exact setb_same rfl
 have X7:h7.blk g.next=some (.cells [.int .i64 k,.int .i64 m,.string tx,.slice sb ks.length sc] 25 none):=by rw[← hh7,setb_ne (by omega)];exact c4
 have k7:Keep (fun k=>k=kR∨k=kN∨k=l) g h7:=by rw[← hh7];exact a4.keep.setb (.inr (.inr rfl))
 have log7:h7.log=[]:=by rw[← hh7];exact S4.log
 have mark7:h7.mark=g0.mark:=by rw[← hh7];exact S4.mark
 have n7:h7.next=h1.next:=by rw[← hh7];rfl
 have finF:∀ x:Int,∃ r2,(h7.setb kR (.cells [.int .i64 x] 26 none)).blk l=some (.loop r2)∧St35 g0 kR kN l r0 false (c,x) ((h7.setb kR (.cells [.int .i64 x] 26 none)).turn l (.loop { r2 with state:=.done,pending:=some .ret }))∧Keep (fun k=>k=kR∨k=kN∨k=l) g ((h7.setb kR (.cells [.int .i64 x] 26 none)).turn l (.loop { r2 with state:=.done,pending:=some .ret })):=by
  intro x
  refine⟨{ r0 with state:=.busy },by rw[setb_ne (by omega)];exact L7,?_⟩
  rw[turn_above (by show h7.mark≤l;rw[mark7];omega)]
  have kk:=(k7.setb (k:=kR) (B:=.cells [.int .i64 x] 26 none) (.inl rfl)).setb (k:=l) (B:=.loop { r0 with state:=.done,pending:=some .ret }) (.inr (.inr rfl))
  refine⟨⟨(f7.setb rfl (by omega)).setb rfl (by show l<h7.next;omega),log7,mark7,S.keep.trans kk,?_,?_,?_,fun hh=>by cases hh⟩,kk⟩
  ·rw[setb_ne (by omega)];exact setb_same rfl
  ·rw[setb_ne (by omega),setb_ne (by omega)];exact N7
  ·rw[if_neg (by decide)];exact setb_same rfl
 have finT:c<5000→∃ r2,(h7.setb kN (.cells [.int .i64 (c+1)] 3 none)).blk l=some (.loop r2)∧St35 g0 kR kN l r0 true (c+1,0) ((h7.setb kN (.cells [.int .i64 (c+1)] 3 none)).turn l (.loop { r2 with state:=.ready,pending:=none }))∧Keep (fun k=>k=kR∨k=kN∨k=l) g ((h7.setb kN (.cells [.int .i64 (c+1)] 3 none)).turn l (.loop { r2 with state:=.ready,pending:=none })):=by
  intro hlt
  refine⟨{ r0 with state:=.busy },by rw[setb_ne (by omega)];exact L7,?_⟩
  rw[turn_above (by show h7.mark≤l;rw[mark7];omega)]
  have er:({ r0 with state:=.ready,pending:=none }:LoopR)=r0:=by rw[← hr0]
  have kk:=(k7.setb (k:=kN) (B:=.cells [.int .i64 (c+1)] 3 none) (.inr (.inl rfl))).setb (k:=l) (B:=.loop { r0 with state:=.ready,pending:=none }) (.inr (.inr rfl))
  refine⟨⟨(f7.setb rfl (by omega)).setb rfl (by show l<h7.next;omega),log7,mark7,S.keep.trans kk,?_,?_,?_,fun _=>⟨rfl,by show 0≤c+1;omega,by show c+1≤5000;omega⟩⟩,kk⟩
  ·rw[setb_ne (by omega),setb_ne (by omega)];exact R7
  ·rw[setb_ne (by omega)];exact setb_same rfl
  ·rw[if_pos rfl]
   refine (setb_same rfl).trans ?_
   show some (Blk.loop { r0 with state:=.ready,pending:=none })=_
   rw[er]
 have mR:h7.mark≤kR:=by rw[mark7];exact om
 have x0:h7.cell E (aadd (own g.next) 0)=some (.int .i64 k):=blk_cell (i:=0) X7 rfl rfl
 have x1:h7.cell E (aadd (own g.next) 1)=some (.int .i64 m):=blk_cell (i:=1) X7 rfl rfl
 have x2:h7.cell E (aadd (own g.next) 2)=some (.string tx):=blk_cell (i:=2) X7 rfl rfl
 have xN:h7.cell E (own kN)=some (.int .i64 c):=blk_cell0 N7 rfl
 have s11:=st26 (i:=11) R7 mR
 have s2:=st26 (i:=2) R7 mR
 have s3:=st26 (i:=3) R7 mR
 have sN:=st3 (i:=c+1) N7 (by omega)
 have w1:IntKind.i64.wrap (c+1)=c+1:=wrap64 (by omega) (by omega)
 have hbod:r0.body=bod35:=by rw[← hr0]
 have hfn0:r0.fn=35:=by rw[← hr0]
 rw[hbod,hfn0]
 simp only[bod35,rangeOf,firstRange,Option.getD,Tryd.f35]
 by_cases a:lv>250
 ·have e:stepC lv (.mk k m tx ks) (c,0)=((c,11),false):=by simp only[stepC,if_pos a]
  rw[e]
  have da:decide (lv>250)=true:=by simpa using a
  repeat' (first|with_reducible apply Ws|(apply Wp;focus ((repeat ((with_reducible apply Rr rfl);focus ((try simp +decide only[Oz,nA1,u2,u3,u4,u5,da,s11]);with_reducible rfl)));with_reducible exact Rn))|(refine W2 (by simp +decide only[Cz,nA1,u2,u3,u4,u5,da,s11];try with_reducible rfl) (fun hb=>?_) (fun hb=>?_)<;>try contradiction)|apply W3|apply W4|apply W5|apply W6)
  obtain⟨r2,z1,z2,z3⟩:=finF 11
  exact⟨r2,z1,.inr ⟨rfl,rfl,z2,z3⟩⟩
 have da:decide (lv>250)=false:=by simpa using a
 by_cases b:c=5000
 ·have e:stepC lv (.mk k m tx ks) (c,0)=((c,2),false):=by simp only[stepC,if_neg a,if_pos b]
  rw[e]
  have db:decide (c=5000)=true:=by simpa using b
  repeat' (first|with_reducible apply Ws|(apply Wp;focus ((repeat ((with_reducible apply Rr rfl);focus ((try simp +decide only[Oz,nA1,u2,u3,u4,u5,da,ld3,xN,db,s2]);with_reducible rfl)));with_reducible exact Rn))|(refine W2 (by simp +decide only[Cz,nA1,u2,u3,u4,u5,da,ld3,xN,db,s2];try with_reducible rfl) (fun hb=>?_) (fun hb=>?_)<;>try contradiction)|apply W3|apply W4|apply W5|apply W6)
  obtain⟨r2,z1,z2,z3⟩:=finF 2
  exact⟨r2,z1,.inr ⟨rfl,rfl,z2,z3⟩⟩
 have db:decide (c=5000)=false:=by simpa using b
 obtain⟨r3,z1,z2,z3⟩:=finF 3
 by_cases q1:k<1
 ·have e:stepC lv (.mk k m tx ks) (c,0)=((c,3),false):=by simp only[stepC,if_neg a,if_neg b,if_pos (show k<1∨k>63∨m<0∨m>1099511627776 from .inl q1)]
  rw[e]
  have d1:decide (k<1)=true:=by simpa using q1
  repeat' (first|with_reducible apply Ws|(apply Wp;focus ((repeat (first|((first|with_reducible apply Rr rfl|((with_reducible apply Rg);(focus rfl);(focus rfl);focus (simp +decide only[Oz,nA1,u2,u3,u4,u5,da,ld3,xN,db,fa25_0,fa25_1,x0,x1,d1,s3];done)));focus ((try simp +decide only[Oz,nA1,u2,u3,u4,u5,da,ld3,xN,db,fa25_0,fa25_1,x0,x1,d1,s3]);with_reducible rfl))|((with_reducible apply Rs);(focus rfl);(focus rfl);focus (simp +decide only[Oz,nA1,u2,u3,u4,u5,da,ld3,xN,db,fa25_0,fa25_1,x0,x1,d1,s3];done))));with_reducible exact Rn))|(refine W2 (by simp +decide only[Cz,nA1,u2,u3,u4,u5,da,ld3,xN,db,fa25_0,fa25_1,x0,x1,d1,s3];try with_reducible rfl) (fun hb=>?_) (fun hb=>?_)<;>try contradiction)|apply W3|apply W4|apply W5|apply W6)
  exact⟨r3,z1,.inr ⟨rfl,rfl,z2,z3⟩⟩
 have d1:decide (k<1)=false:=by simpa using q1
 by_cases q2':k>63
 ·have e:stepC lv (.mk k m tx ks) (c,0)=((c,3),false):=by simp only[stepC,if_neg a,if_neg b,if_pos (show k<1∨k>63∨m<0∨m>1099511627776 from .inr (.inl q2'))]
  rw[e]
  have d2:decide (k>63)=true:=by simpa using q2'
  repeat' (first|with_reducible apply Ws|(apply Wp;focus ((repeat (first|((first|with_reducible apply Rr rfl|((with_reducible apply Rg);(focus rfl);(focus rfl);focus (simp +decide only[Oz,nA1,u2,u3,u4,u5,da,ld3,xN,db,fa25_0,fa25_1,x0,x1,d1,d2,s3];done)));focus ((try simp +decide only[Oz,nA1,u2,u3,u4,u5,da,ld3,xN,db,fa25_0,fa25_1,x0,x1,d1,d2,s3]);with_reducible rfl))|((with_reducible apply Rs);(focus rfl);(focus rfl);focus (simp +decide only[Oz,nA1,u2,u3,u4,u5,da,ld3,xN,db,fa25_0,fa25_1,x0,x1,d1,d2,s3];done))));with_reducible exact Rn))|(refine W2 (by simp +decide only[Cz,nA1,u2,u3,u4,u5,da,ld3,xN,db,fa25_0,fa25_1,x0,x1,d1,d2,s3];try with_reducible rfl) (fun hb=>?_) (fun hb=>?_)<;>try contradiction)|apply W3|apply W4|apply W5|apply W6)
  exact⟨r3,z1,.inr ⟨rfl,rfl,z2,z3⟩⟩
 have d2:decide (k>63)=false:=by simpa using q2'
 by_cases q3':m<0
 ·have e:stepC lv (.mk k m tx ks) (c,0)=((c,3),false):=by simp only[stepC,if_neg a,if_neg b,if_pos (show k<1∨k>63∨m<0∨m>1099511627776 from .inr (.inr (.inl q3')))]
  rw[e]
  have d3:decide (m<0)=true:=by simpa using q3'
  repeat' (first|with_reducible apply Ws|(apply Wp;focus ((repeat (first|((first|with_reducible apply Rr rfl|((with_reducible apply Rg);(focus rfl);(focus rfl);focus (simp +decide only[Oz,nA1,u2,u3,u4,u5,da,ld3,xN,db,fa25_0,fa25_1,x0,x1,d1,d2,d3,s3];done)));focus ((try simp +decide only[Oz,nA1,u2,u3,u4,u5,da,ld3,xN,db,fa25_0,fa25_1,x0,x1,d1,d2,d3,s3]);with_reducible rfl))|((with_reducible apply Rs);(focus rfl);(focus rfl);focus (simp +decide only[Oz,nA1,u2,u3,u4,u5,da,ld3,xN,db,fa25_0,fa25_1,x0,x1,d1,d2,d3,s3];done))));with_reducible exact Rn))|(refine W2 (by simp +decide only[Cz,nA1,u2,u3,u4,u5,da,ld3,xN,db,fa25_0,fa25_1,x0,x1,d1,d2,d3,s3];try with_reducible rfl) (fun hb=>?_) (fun hb=>?_)<;>try contradiction)|apply W3|apply W4|apply W5|apply W6)
  exact⟨r3,z1,.inr ⟨rfl,rfl,z2,z3⟩⟩
 have d3:decide (m<0)=false:=by simpa using q3'
 by_cases q4:m>1099511627776
 ·have e:stepC lv (.mk k m tx ks) (c,0)=((c,3),false):=by simp only[stepC,if_neg a,if_neg b,if_pos (show k<1∨k>63∨m<0∨m>1099511627776 from .inr (.inr (.inr q4)))]
  rw[e]
  have d4:decide (m>1099511627776)=true:=by simpa using q4
  repeat' (first|with_reducible apply Ws|(apply Wp;focus ((repeat (first|((first|with_reducible apply Rr rfl|((with_reducible apply Rg);(focus rfl);(focus rfl);focus (simp +decide only[Oz,nA1,u2,u3,u4,u5,da,ld3,xN,db,fa25_0,fa25_1,x0,x1,d1,d2,d3,d4,s3];done)));focus ((try simp +decide only[Oz,nA1,u2,u3,u4,u5,da,ld3,xN,db,fa25_0,fa25_1,x0,x1,d1,d2,d3,d4,s3]);with_reducible rfl))|((with_reducible apply Rs);(focus rfl);(focus rfl);focus (simp +decide only[Oz,nA1,u2,u3,u4,u5,da,ld3,xN,db,fa25_0,fa25_1,x0,x1,d1,d2,d3,d4,s3];done))));with_reducible exact Rn))|(refine W2 (by simp +decide only[Cz,nA1,u2,u3,u4,u5,da,ld3,xN,db,fa25_0,fa25_1,x0,x1,d1,d2,d3,d4,s3];try with_reducible rfl) (fun hb=>?_) (fun hb=>?_)<;>try contradiction)|apply W3|apply W4|apply W5|apply W6)
  exact⟨r3,z1,.inr ⟨rfl,rfl,z2,z3⟩⟩
 have d4:decide (m>1099511627776)=false:=by simpa using q4
 have no:¬ (k<1∨k>63∨m<0∨m>1099511627776):=by omega
 by_cases q5:(tx.data.toList.length:Int)>4096
 ·have e:stepC lv (.mk k m tx ks) (c,0)=((c,11),false):=by simp only[stepC,if_neg a,if_neg b,if_neg no,if_pos q5]
  rw[e]
  have d5:decide ((tx.data.toList.length:Int)>4096)=true:=by simpa using q5
  repeat' (first|with_reducible apply Ws|(apply Wp;focus ((repeat (first|((first|with_reducible apply Rr rfl|((with_reducible apply Rg);(focus rfl);(focus rfl);focus (simp +decide only[Oz,nA1,u2,u3,u4,u5,da,ld3,ld9,xN,db,fa25_0,fa25_1,fa25_2,x0,x1,x2,d1,d2,d3,d4,len9,d5,s11];done)));focus ((try simp +decide only[Oz,nA1,u2,u3,u4,u5,da,ld3,ld9,xN,db,fa25_0,fa25_1,fa25_2,x0,x1,x2,d1,d2,d3,d4,len9,d5,s11]);with_reducible rfl))|((with_reducible apply Rs);(focus rfl);(focus rfl);focus (simp +decide only[Oz,nA1,u2,u3,u4,u5,da,ld3,ld9,xN,db,fa25_0,fa25_1,fa25_2,x0,x1,x2,d1,d2,d3,d4,len9,d5,s11];done))));with_reducible exact Rn))|(refine W2 (by simp +decide only[Cz,nA1,u2,u3,u4,u5,da,ld3,ld9,xN,db,fa25_0,fa25_1,fa25_2,x0,x1,x2,d1,d2,d3,d4,len9,d5,s11];try with_reducible rfl) (fun hb=>?_) (fun hb=>?_)<;>try contradiction)|apply W3|apply W4|apply W5|apply W6)
  obtain⟨r2,z1,z2,z3⟩:=finF 11
  exact⟨r2,z1,.inr ⟨rfl,rfl,z2,z3⟩⟩
 have d5:decide ((tx.data.toList.length:Int)>4096)=false:=by simpa using q5
 have e:stepC lv (.mk k m tx ks) (c,0)=((c+1,0),true):=by simp only[stepC,if_neg a,if_neg b,if_neg no,if_neg q5]
 rw[e]
 repeat' (first|with_reducible apply Ws|(apply Wp;focus ((repeat (first|((first|with_reducible apply Rr rfl|((with_reducible apply Rg);(focus rfl);(focus rfl);focus (simp +decide only[Oz,nA1,u2,u3,u4,u5,da,ld3,ld9,xN,db,fa25_0,fa25_1,fa25_2,x0,x1,x2,d1,d2,d3,d4,len9,d5,w1,sN];done)));focus ((try simp +decide only[Oz,nA1,u2,u3,u4,u5,da,ld3,ld9,xN,db,fa25_0,fa25_1,fa25_2,x0,x1,x2,d1,d2,d3,d4,len9,d5,w1,sN]);with_reducible rfl))|((with_reducible apply Rs);(focus rfl);(focus rfl);focus (simp +decide only[Oz,nA1,u2,u3,u4,u5,da,ld3,ld9,xN,db,fa25_0,fa25_1,fa25_2,x0,x1,x2,d1,d2,d3,d4,len9,d5,w1,sN];done))));with_reducible exact Rn))|(refine W2 (by simp +decide only[Cz,nA1,u2,u3,u4,u5,da,ld3,ld9,xN,db,fa25_0,fa25_1,fa25_2,x0,x1,x2,d1,d2,d3,d4,len9,d5,w1,sN];try with_reducible rfl) (fun hb=>?_) (fun hb=>?_)<;>try contradiction)|apply W3|apply W4|apply W5|apply W6)
 obtain⟨r2,z1,z2,z3⟩:=finT (by omega)
 exact⟨r2,z1,.inl ⟨rfl,rfl,z2,z3⟩⟩
end Go.Proofs.YtofijpbmbmbnhaaDoor
