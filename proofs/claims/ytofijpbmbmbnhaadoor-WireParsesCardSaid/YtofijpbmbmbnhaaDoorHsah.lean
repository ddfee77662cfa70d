/- The reader of texts: one byte, numbers. -/
import Derived.Test.YtofijpbmbmbnhaaDoorHsag
set_option linter.unusedSimpArgs false
set_option linter.unusedVariables false
set_option maxRecDepth 100000
set_option maxHeartbeats 16000000
namespace Go.Proofs.YtofijpbmbmbnhaaDoor
open Go Go.Hs Go.Proofs
variable {E:Env} {I:Known}
theorem fn83:tab.fn.get 83=some Tryd.f83:=by kernel_rfl
theorem fn84:tab.fn.get 84=some Tryd.f84:=by kernel_rfl
noncomputable def loop83:Code:=loopOf Tryd.f83
theorem next84 (hI:∀ args h,I 84 args h=none) {k:Nat} {bs:List UInt8} {pos items:Nat} {g:H} (f:Fit g) (b:Src k bs pos 0 items g) (hp:pos≤bs.length) (hl:bs.length≤1000000) (c:UInt8) :
  ∃ n v g',(ev tab E I n).call 84 [.pointer (some (own k)),.int .u8 (c.toNat:Nat)] g=some (v,g')∧(Mod (fun j=>j=k) g g'∧((bs[pos]? = some c∧v=.bool true∧Src k bs (pos+1) 0 items g')∨(bs[pos]? ≠ some c∧v=.bool false∧Src k bs pos 0 items g'))):=by
 have kl:k<g.next:=f.lt b
 obtain⟨c0,c1,c2,c3⟩:=b.at (E:=E)
 apply Wk (hI _ _) fn84 rfl
 intro A0 n0 d0 hA0
 change A0.n=44 at n0
 have q0:A0.get 0=.pointer (some (own k)):=hA0 0 _ rfl
 have q1:A0.get 1=.int .u8 (c.toNat:Nat):=hA0 1 _ rfl
 clear hA0
 by_cases h1:pos<bs.length
 rotate_left
 ·have e1:decide ((pos:Int)<(bs.length:Int))=false:=decide_eq_false (by omega)
  have hn:bs[pos]? = none:=by rw[List.getElem?_eq_none_iff];omega
  (repeat' (with_reducible apply Ws));(apply Wn 1;focus ((repeat ((with_reducible apply Rr rfl);focus ((try simp +decide only[Oy,n0]);with_reducible rfl)));with_reducible exact Rn))
  repeat' (with_reducible apply Wc.seq)
  refine Wc.drawC 1 (by kernel_rfl) ?_
  (iterate 28 (first|((first|apply Fp rfl rfl rfl|apply FC.new rfl rfl|(apply FC.pureG rfl rfl;(focus (simp +decide only[Gs,n0,q0,q1,Qx,Hx,c0,c1,e1];done));focus rfl));focus ((try simp +decide only[Oy,n0,q0,q1,Qx,Hx,c0,c1,e1]);with_reducible rfl))|(apply FC.skipG rfl rfl;focus (simp +decide only[Gs,n0,q0,q1,Qx,Hx,c0,c1,e1];done))))
  refine FC.nil ?_
  repeat' (first|with_reducible apply Ws|(apply Wp;focus ((repeat ((with_reducible apply Rr rfl);focus ((try simp +decide only[Oy,n0]);with_reducible rfl)));with_reducible exact Rn))|(refine W2 (by simp +decide only[Cx,n0];try with_reducible rfl) (fun hb=>?_) (fun hb=>?_)<;>try contradiction)|apply W3|apply W4|apply W5|apply W6)
  refine done_q (v:=.bool false) (.inr rfl) (by simp +decide only[Gs,d0]) rfl (by simp +decide only[Gs,n0]) ⟨Mod.refl f,.inr ⟨by rw[hn];simp,rfl,b⟩⟩
 have e1:decide ((pos:Int)<(bs.length:Int))=true:=decide_eq_true (by omega)
 obtain⟨x,hx⟩:∃ x,bs[pos]? = some x:=⟨bs[pos],List.getElem?_eq_getElem h1⟩
 have ix:=qix9 hx
 by_cases h2:x=c
 rotate_left
 ·have e2:decide ((x.toNat:Int)=(c.toNat:Int))=false:=decide_eq_false (fun h=>h2 (UInt8.toNat_inj.1 (by omega)))
  (repeat' (with_reducible apply Ws));(apply Wn 1;focus ((repeat ((with_reducible apply Rr rfl);focus ((try simp +decide only[Oy,n0]);with_reducible rfl)));with_reducible exact Rn))
  repeat' (with_reducible apply Wc.seq)
  refine Wc.drawC 1 (by kernel_rfl) ?_
  (iterate 28 (first|((first|apply Fp rfl rfl rfl|apply FC.new rfl rfl|(apply FC.pureG rfl rfl;(focus (simp +decide only[Gs,n0,q0,q1,Qx,Hx,c0,c1,e1,e2,ix];done));focus rfl));focus ((try simp +decide only[Oy,n0,q0,q1,Qx,Hx,c0,c1,e1,e2,ix]);with_reducible rfl))|(apply FC.skipG rfl rfl;focus (simp +decide only[Gs,n0,q0,q1,Qx,Hx,c0,c1,e1,e2,ix];done))))
  refine FC.nil ?_
  repeat' (first|with_reducible apply Ws|(apply Wp;focus ((repeat ((with_reducible apply Rr rfl);focus ((try simp +decide only[Oy,n0]);with_reducible rfl)));with_reducible exact Rn))|(refine W2 (by simp +decide only[Cx,n0];try with_reducible rfl) (fun hb=>?_) (fun hb=>?_)<;>try contradiction)|apply W3|apply W4|apply W5|apply W6)
  refine done_q (v:=.bool false) (.inr rfl) (by simp +decide only[Gs,d0]) rfl (by simp +decide only[Gs,n0]) ⟨Mod.refl f,.inr ⟨by rw[hx];simpa using h2,rfl,b⟩⟩
 subst h2
 have e2:decide ((x.toNat:Int)=(x.toNat:Int))=true:=decide_eq_true rfl
 have w1:IntKind.i64.wrap ((pos:Int)+1)=((pos+1:Nat):Int):=wrap64 (by omega) (by omega)
 obtain⟨s1,b1⟩:=b.pos (pos+1)
 have m1:=(Mod.refl (M:=fun j=>j=k) f).setl (B:=.cells [.string ⟨⟨bs⟩⟩,.int .i64 (pos+1:Nat),.int .i64 0,.int .i64 (items:Nat)] 86 none) rfl rfl kl
 (repeat' (with_reducible apply Ws));(apply Wn 1;focus ((repeat ((with_reducible apply Rr rfl);focus ((try simp +decide only[Oy,n0]);with_reducible rfl)));with_reducible exact Rn))
 repeat' (with_reducible apply Wc.seq)
 refine Wc.drawC 1 (by kernel_rfl) ?_
 (iterate 28 (first|((first|apply Fp rfl rfl rfl|apply FC.new rfl rfl|(apply FC.pureG rfl rfl;(focus (simp +decide only[Gs,n0,q0,q1,Qx,Hx,c0,c1,e1,e2,ix];done));focus rfl));focus ((try simp +decide only[Oy,n0,q0,q1,Qx,Hx,c0,c1,e1,e2,ix]);with_reducible rfl))|(apply FC.skipG rfl rfl;focus (simp +decide only[Gs,n0,q0,q1,Qx,Hx,c0,c1,e1,e2,ix];done))))
 refine FC.nil ?_
 repeat' (first|with_reducible apply Ws|(apply Wp;focus ((repeat ((with_reducible apply Rr rfl);focus ((try simp +decide only[Oy,n0,q0,Qx,Hx,c1,w1,s1]);with_reducible rfl)));with_reducible exact Rn))|(refine W2 (by simp +decide only[Cx,n0,q0];try with_reducible rfl) (fun hb=>?_) (fun hb=>?_)<;>try contradiction)|apply W3|apply W4|apply W5|apply W6)
 refine done_q (v:=.bool true) (.inr rfl) (by simp +decide only[Gs,d0]) rfl (by simp +decide only[Gs,n0]) ⟨m1,.inl ⟨hx,rfl,b1⟩⟩
theorem qmin (a b:Nat):amin (fun x y=>if y<x then y else x) [.int .i64 (a:Nat),.int .i64 (b:Nat)]=some (.int .i64 ((min a b:Nat):Int)):=by
 unfold amin aminG aminG
 simp only[decide_true]
 congr 2
 split<;>omega
theorem qmin9 (a:Nat):amin (fun x y=>if y<x then y else x) [.int .i64 (a:Nat),.int .i64 1099511627777]=some (.int .i64 ((min a 1099511627777:Nat):Int)):=qmin a 1099511627777
theorem decimal83 (hI:∀ f args h,(f=83∨f=81)→I f args h=none) {k:Nat} {bs:List UInt8} {pos items:Nat} {g:H} (f:Fit g) (b:Src k bs pos 0 items g) (hp:pos≤bs.length) (hl:bs.length≤1000000) (most:Nat) (hm:most≤1099511627776) (zero:Int) :
  ∃ n v g',(ev tab E I n).call 83 [.pointer (some (own k)),.int .i64 (most:Nat),.int .i64 zero] g=some (v,g')∧(∃ u x,v=.tuple #[u,x]∧Mod (fun j=>j=k) g g'∧NumQ k bs (rdDec bs most zero pos items) u x items g'):=by
 have kl:k<g.next:=f.lt b
 have key:∀ (r p nn:Nat) (A0:Ac) (h:H),r=bs.length-p→nn≤1099511627777→p≤bs.length→A0.n=133→A0.defers=[]→A0.get 0=.pointer (some (own k))→A0.get 1=.int .i64 (most:Nat)→A0.get 2=.int .i64 zero→A0.get 8=.int .i64 (pos:Nat)→A0.get 9=.int .i64 (nn:Nat)→Mod (fun j=>j=k) g h→Src k bs p 0 items h→digRun bs (bs.length-pos) pos 0=digRun bs r p nn→
   Wc tab E I ⟨83,none⟩ (.loop loop83) A0 h (fun ex A' h'=>ex=.exit 0∧A'.n=133∧A'.defers=[]∧Mod (fun j=>j=k) g h'∧A'.get 0=.pointer (some (own k))∧A'.get 1=.int .i64 (most:Nat)∧A'.get 2=.int .i64 zero∧A'.get 8=.int .i64 (pos:Nat)∧A'.get 9=.int .i64 ((digRun bs (bs.length-pos) pos 0).2:Nat)∧Src k bs (digRun bs (bs.length-pos) pos 0).1 0 items h'):=by
  intro r
  induction r with
  | zero=>
   intro p nn A0 h hr hnn hpl n0 d0 q0 q1 q2 q8 q9 M b he
   have e1:decide ((p:Int)<(bs.length:Int))=false:=decide_eq_false (by omega)
   obtain⟨c0,c1,c2,c3⟩:=b.at (E:=E)
   apply Wc.loop
   simp only[loop83,loopOf,firstLoop,Option.getD,Tryd.f83]
   repeat' (with_reducible apply Wc.seq)
   refine Wc.drawC 1 (by kernel_rfl) ?_
   (iterate 40 (first|((first|apply Fp rfl rfl rfl|apply FC.new rfl rfl|(apply FC.pureG rfl rfl;(focus (simp +decide only[Gs,n0,q0,Qx,Hx,c0,c1,e1];done));focus rfl));focus ((try simp +decide only[Oy,n0,q0,Qx,Hx,c0,c1,e1]);with_reducible rfl))|(apply FC.skipG rfl rfl;focus (simp +decide only[Gs,n0,q0,Qx,Hx,c0,c1,e1];done))))
   refine FC.nil ?_
   repeat' (first|with_reducible apply Ws|(apply Wp;focus ((repeat ((with_reducible apply Rr rfl);focus ((try simp +decide only[Oy,n0]);with_reducible rfl)));with_reducible exact Rn))|(refine W2 (by simp +decide only[Cx,n0];try with_reducible rfl) (fun hb=>?_) (fun hb=>?_)<;>try contradiction)|apply W3|apply W4|apply W5|apply W6)
   rw[he,digRun]
   exact⟨rfl,by simp +decide only[Gs,n0],by simp +decide only[Gs,d0],M,by simp +decide only[Gs,n0,q0],by simp +decide only[Gs,n0,q1],by simp +decide only[Gs,n0,q2],by simp +decide only[Gs,n0,q8],by simp +decide only[Gs,n0,q9],b⟩
  | succ r ih=>
   intro p nn A0 h hr hnn hpl n0 d0 q0 q1 q2 q8 q9 M b he
   have hlt:p<bs.length:=by omega
   have e1:decide ((p:Int)<(bs.length:Int))=true:=decide_eq_true (by omega)
   have fh:=M.fit
   have kh:k<h.next:=Nat.lt_of_lt_of_le kl M.next
   obtain⟨c0,c1,c2,c3⟩:=b.at (E:=E)
   obtain⟨c,hc⟩:∃ c,bs[p]? = some c:=⟨bs[p],List.getElem?_eq_getElem hlt⟩
   have hc8:c.toNat<256:=c.toNat_lt
   have ix:=qix9 hc
   rw[digRun,hc] at he
   simp only[] at he
   apply Wc.loop
   simp only[loop83,loopOf,firstLoop,Option.getD,Tryd.f83]
   repeat' (with_reducible apply Wc.seq)
   by_cases h1:48≤c.toNat
   rotate_left
   ·have e2:decide ((c.toNat:Int)≥48)=false:=decide_eq_false (by omega)
    have hd:isDig c=false:=by unfold isDig;rw[decide_eq_false h1];rfl
    rw[hd,if_neg (by decide)] at he
    refine Wc.drawC 1 (by kernel_rfl) ?_
    (iterate 40 (first|((first|apply Fp rfl rfl rfl|apply FC.new rfl rfl|(apply FC.pureG rfl rfl;(focus (simp +decide only[Gs,n0,q0,Qx,Hx,c0,c1,e1,e2,ix];done));focus rfl));focus ((try simp +decide only[Oy,n0,q0,Qx,Hx,c0,c1,e1,e2,ix]);with_reducible rfl))|(apply FC.skipG rfl rfl;focus (simp +decide only[Gs,n0,q0,Qx,Hx,c0,c1,e1,e2,ix];done))))
    refine FC.nil ?_
    repeat' (first|with_reducible apply Ws|(apply Wp;focus ((repeat ((with_reducible apply Rr rfl);focus ((try simp +decide only[Oy,n0]);with_reducible rfl)));with_reducible exact Rn))|(refine W2 (by simp +decide only[Cx,n0];try with_reducible rfl) (fun hb=>?_) (fun hb=>?_)<;>try contradiction)|apply W3|apply W4|apply W5|apply W6)
    rw[he]
    exact⟨rfl,by simp +decide only[Gs,n0],by simp +decide only[Gs,d0],M,by simp +decide only[Gs,n0,q0],by simp +decide only[Gs,n0,q1],by simp +decide only[Gs,n0,q2],by simp +decide only[Gs,n0,q8],by simp +decide only[Gs,n0,q9],b⟩
   have e2:decide ((c.toNat:Int)≥48)=true:=decide_eq_true (by omega)
   by_cases h2:c.toNat≤57
   rotate_left
   ·have e3:decide ((c.toNat:Int)≤57)=false:=decide_eq_false (by omega)
    have hd:isDig c=false:=by unfold isDig;rw[decide_eq_false h2,Bool.and_false]
    rw[hd,if_neg (by decide)] at he
    refine Wc.drawC 1 (by kernel_rfl) ?_
    (iterate 40 (first|((first|apply Fp rfl rfl rfl|apply FC.new rfl rfl|(apply FC.pureG rfl rfl;(focus (simp +decide only[Gs,n0,q0,Qx,Hx,c0,c1,e1,e2,e3,ix];done));focus rfl));focus ((try simp +decide only[Oy,n0,q0,Qx,Hx,c0,c1,e1,e2,e3,ix]);with_reducible rfl))|(apply FC.skipG rfl rfl;focus (simp +decide only[Gs,n0,q0,Qx,Hx,c0,c1,e1,e2,e3,ix];done))))
    refine FC.nil ?_
    repeat' (first|with_reducible apply Ws|(apply Wp;focus ((repeat ((with_reducible apply Rr rfl);focus ((try simp +decide only[Oy,n0]);with_reducible rfl)));with_reducible exact Rn))|(refine W2 (by simp +decide only[Cx,n0];try with_reducible rfl) (fun hb=>?_) (fun hb=>?_)<;>try contradiction)|apply W3|apply W4|apply W5|apply W6)
    rw[he]
    exact⟨rfl,by simp +decide only[Gs,n0],by simp +decide only[Gs,d0],M,by simp +decide only[Gs,n0,q0],by simp +decide only[Gs,n0,q1],by simp +decide only[Gs,n0,q2],by simp +decide only[Gs,n0,q8],by simp +decide only[Gs,n0,q9],b⟩
   have e3:decide ((c.toNat:Int)≤57)=true:=decide_eq_true (by omega)
   have hd:isDig c=true:=by unfold isDig;rw[decide_eq_true h1,decide_eq_true h2];rfl
   rw[if_pos hd] at he
   have w1:IntKind.i64.wrap ((p:Int)+1)=((p+1:Nat):Int):=wrap64 (by omega) (by omega)
   have w2:IntKind.i64.wrap (10*(nn:Int))=((10*nn:Nat):Int):=wrap64 (by omega) (by omega)
   have w3:IntKind.u8.wrap ((c.toNat:Int)-48)=((c.toNat-48:Nat):Int):=by
    rw[show (c.toNat:Int)-48=((c.toNat-48:Nat):Int) by omega]
    exact wrapU8 (by omega)
   have w4:IntKind.i64.wrap ((c.toNat-48:Nat):Int)=((c.toNat-48:Nat):Int):=wrapN (by omega)
   have w5:IntKind.i64.wrap (((10*nn:Nat):Int)+((c.toNat-48:Nat):Int))=((10*nn+(c.toNat-48):Nat):Int):=wrap64 (by omega) (by omega)
   have mn:=qmin9 (10*nn+(c.toNat-48))
   obtain⟨s1,b1⟩:=b.pos (p+1)
   have m1:=(Mod.refl (M:=fun j=>j=k) fh).setl (B:=.cells [.string ⟨⟨bs⟩⟩,.int .i64 (p+1:Nat),.int .i64 0,.int .i64 (items:Nat)] 86 none) rfl rfl kh
   generalize h.setl k (.cells [.string ⟨⟨bs⟩⟩,.int .i64 (p+1:Nat),.int .i64 0,.int .i64 (items:Nat)] 86 none)=h1 at s1 b1 m1
   refine Wc.drawC 1 (by kernel_rfl) ?_
   (iterate 40 (first|((first|apply Fp rfl rfl rfl|apply FC.new rfl rfl|(apply FC.pureG rfl rfl;(focus (simp +decide only[Gs,n0,q0,Qx,Hx,c0,c1,e1,e2,e3,ix];done));focus rfl));focus ((try simp +decide only[Oy,n0,q0,Qx,Hx,c0,c1,e1,e2,e3,ix]);with_reducible rfl))|(apply FC.skipG rfl rfl;focus (simp +decide only[Gs,n0,q0,Qx,Hx,c0,c1,e1,e2,e3,ix];done))))
   refine FC.nil ?_
   repeat' (first|with_reducible apply Ws|(apply Wp;focus ((repeat ((with_reducible apply Rr rfl);focus ((try simp +decide only[Oy,n0]);with_reducible rfl)));with_reducible exact Rn))|(refine W2 (by simp +decide only[Cx,n0];try with_reducible rfl) (fun hb=>?_) (fun hb=>?_)<;>try contradiction)|apply W3|apply W4|apply W5|apply W6)
   refine Wc.drawC 1 (by kernel_rfl) ?_
   (iterate 18 ((first|apply Fp rfl rfl rfl|apply FC.new rfl rfl);focus ((try simp +decide only[Oy,n0,q0,q9,Qx,Hx,c0,c1,ix,w2,w3,w4,w5,qcv5_3,mn]);with_reducible rfl)))
   refine FC.nil ?_
   repeat' (first|with_reducible apply Ws|(apply Wp;focus ((repeat ((with_reducible apply Rr rfl);focus ((try simp +decide only[Oy,n0,q0,Qx,Hx,c1,w1,s1]);with_reducible rfl)));with_reducible exact Rn))|(refine W2 (by simp +decide only[Cx,n0,q0];try with_reducible rfl) (fun hb=>?_) (fun hb=>?_)<;>try contradiction)|apply W3|apply W4|apply W5|apply W6)
   refine (ih (p+1) _ _ h1 (by omega) (Nat.min_le_right (10*nn+(c.toNat-48)) 1099511627777) (by omega) ?_ ?_ ?_ ?_ ?_ ?_ ?_ (M.trans m1) b1 he)
   ·simp +decide only[Gs,n0]
   ·simp +decide only[Gs,d0]
   ·simp +decide only[Gs,n0,q0]
   ·simp +decide only[Gs,n0,q1]
   ·simp +decide only[Gs,n0,q2]
   ·simp +decide only[Gs,n0,q8]
   ·simp +decide only[Gs,n0]
 apply Wk (hI _ _ _ (.inl rfl)) fn83 rfl
 intro A0 n0 d0 hA0
 change A0.n=133 at n0
 have q0:A0.get 0=.pointer (some (own k)):=hA0 0 _ rfl
 have q1:A0.get 1=.int .i64 (most:Nat):=hA0 1 _ rfl
 have q2:A0.get 2=.int .i64 zero:=hA0 2 _ rfl
 clear hA0
 obtain⟨c0,c1,c2,c3⟩:=b.at (E:=E)
 repeat' (first|with_reducible apply Ws|(apply Wp;focus ((repeat ((with_reducible apply Rr rfl);focus ((try simp +decide only[Oy,n0,q0,q1,q2,Qx,Hx,c1]);with_reducible rfl)));with_reducible exact Rn))|(refine W2 (by simp +decide only[Cx,n0,q0,q1,q2];try with_reducible rfl) (fun hb=>?_) (fun hb=>?_)<;>try contradiction)|apply W3|apply W4|apply W5|apply W6)
 refine (key (bs.length-pos) pos 0 _ g rfl (by omega) hp ?_ ?_ ?_ ?_ ?_ ?_ ?_ (Mod.refl f) b rfl).mono ?_
 ·simp +decide only[Gs,n0]
 ·simp +decide only[Gs,d0]
 ·simp +decide only[Gs,n0,q0]
 ·simp +decide only[Gs,n0,q1]
 ·simp +decide only[Gs,n0,q2]
 ·simp +decide only[Gs,n0]
 ·simp +decide only[Gs,n0]
  rfl
 rintro ex A0 h' ⟨rfl,n0,d0,M,q0,q1,q2,q8,q9,b⟩
 obtain⟨hd1,hd2,hd3⟩:=digRun_pos (bs:=bs) (bs.length-pos) pos 0 hp
 have hd3:=hd3 (by omega)
 have he:rdDec bs most zero pos items=_:=rfl
 unfold rdDec at he
 rw[show (rdDec bs most zero pos items)=_ from he]
 clear he
 generalize digRun bs (bs.length-pos) pos 0=dr at*
 obtain⟨p,m⟩:=dr
 simp only at*
 simp only[if_true]
 obtain⟨c0,c1,c2,c3⟩:=b.at (E:=E)
 have bad:∀ (e:Int),∃ nf g',(ev tab E I nf).call 81 [.pointer (some (own k)),.int .i64 e,.int .i64 (pos:Nat)] h'=some (.bool false,g')∧Mod (fun j=>j=k) g g'∧Src k bs pos e items g':=fun e=>by
  obtain⟨nf,g',ck,m,b'⟩:=fail81 (E:=E) (I:=I) (fun args h=>hI _ args h (.inr rfl)) M.fit b e pos
  exact⟨nf,g',ck,M.trans m,b'⟩
 repeat' (first|(with_reducible apply Wc.seq)|refine Wc.block ?_)
 by_cases h1:p=pos
 ·have e1:decide ((p:Int)=(pos:Int))=true:=decide_eq_true (by omega)
  obtain⟨nf,g',ck,M',b'⟩:=bad 4
  (repeat' (with_reducible apply Ws));(apply Wn 1;focus ((repeat (first|((first|with_reducible apply Rr rfl|((with_reducible apply Rg);(focus rfl);(focus rfl);focus (simp +decide only[Gs,n0,q0,q8,Qx,Hx,c0,c1,e1];done)));focus ((try simp +decide only[Oy,n0,q0,q8,Qx,Hx,c0,c1,e1]);with_reducible rfl))|((with_reducible apply Rs);(focus rfl);(focus rfl);focus (simp +decide only[Gs,n0,q0,q8,Qx,Hx,c0,c1,e1];done))|((with_reducible apply RO.skipU);(focus rfl);(focus rfl);focus (simp +decide only[Gs,n0,q0,q8,Qx,Hx,c0,c1,e1];done))));with_reducible exact Rn))
  repeat' (first|with_reducible apply Ws|(apply Wn nf;focus ((repeat ((with_reducible apply Rr rfl);focus ((try simp +decide only[Oy,n0,q0,q8,Qx,Hx,ck]);with_reducible rfl)));with_reducible exact Rn))|(refine W2 (by simp +decide only[Cx,n0,q0,q8];try with_reducible rfl) (fun hb=>?_) (fun hb=>?_)<;>try contradiction)|apply W3|apply W4|apply W5|apply W6)
  refine done_r2 (v:=.int .i64 0) (x:=.bool false) (.inr rfl) (by simp +decide only[Gs,d0]) rfl (by simp +decide only[Gs,n0]) (by simp +decide only[Gs,n0]) ⟨_,_,rfl,M',?_⟩
  rw[if_pos (.inl h1)]
  exact⟨rfl,rfl,b'⟩
 have e1:decide ((p:Int)=(pos:Int))=false:=decide_eq_false (by omega)
 have hlt:pos<bs.length:=by omega
 obtain⟨x,hx⟩:∃ x,bs[pos]? = some x:=⟨bs[pos],List.getElem?_eq_getElem hlt⟩
 have ix:=qix9 hx
 have w1:IntKind.i64.wrap ((pos:Int)+1)=((pos+1:Nat):Int):=wrap64 (by omega) (by omega)
 by_cases h2:bs[pos]? = some 48∧pos+1<p
 ·have hx48:x=48:=by have:=h2.1;rw[hx] at this;exact Option.some.inj this
  subst hx48
  have e2:decide (((48:UInt8).toNat:Int)=48)=true:=by decide
  have e3:decide ((p:Int)>((pos+1:Nat):Int))=true:=decide_eq_true (by omega)
  obtain⟨nf,g',ck,M',b'⟩:=bad 4
  (repeat' (with_reducible apply Ws));(apply Wn 1;focus ((repeat (first|((first|with_reducible apply Rr rfl|((with_reducible apply Rg);(focus rfl);(focus rfl);focus (simp +decide only[Gs,n0,q0,q8,Qx,Hx,c0,c1,e1,ix,e2,e3,w1];done)));focus ((try simp +decide only[Oy,n0,q0,q8,Qx,Hx,c0,c1,e1,ix,e2,e3,w1]);with_reducible rfl))|((with_reducible apply Rs);(focus rfl);(focus rfl);focus (simp +decide only[Gs,n0,q0,q8,Qx,Hx,c0,c1,e1,ix,e2,e3,w1];done))|((with_reducible apply RO.skipU);(focus rfl);(focus rfl);focus (simp +decide only[Gs,n0,q0,q8,Qx,Hx,c0,c1,e1,ix,e2,e3,w1];done))));with_reducible exact Rn))
  repeat' (first|with_reducible apply Ws|(apply Wn nf;focus ((repeat ((with_reducible apply Rr rfl);focus ((try simp +decide only[Oy,n0,q0,q8,Qx,Hx,ck]);with_reducible rfl)));with_reducible exact Rn))|(refine W2 (by simp +decide only[Cx,n0,q0,q8];try with_reducible rfl) (fun hb=>?_) (fun hb=>?_)<;>try contradiction)|apply W3|apply W4|apply W5|apply W6)
  refine done_r2 (v:=.int .i64 0) (x:=.bool false) (.inr rfl) (by simp +decide only[Gs,d0]) rfl (by simp +decide only[Gs,n0]) (by simp +decide only[Gs,n0]) ⟨_,_,rfl,M',?_⟩
  rw[if_pos (.inr h2)]
  exact⟨rfl,rfl,b'⟩
 rw[if_neg (fun h=>h.elim h1 h2)]
 refine Wc.mono (Q:=fun ex A h=>ex=.normal∧h=h'∧A.n=133∧A.defers=[]∧A.get 0=.pointer (some (own k))∧A.get 1=.int .i64 (most:Nat)∧A.get 2=.int .i64 zero∧A.get 8=.int .i64 (pos:Nat)∧A.get 9=.int .i64 (m:Nat)∧A.get 81=.bool false) ?_ ?_
 ·by_cases h3:x.toNat=48
  ·have e2:decide ((x.toNat:Int)=48)=true:=decide_eq_true (by omega)
   have e3:decide ((p:Int)>((pos+1:Nat):Int))=false:=decide_eq_false (fun h=>h2 ⟨by rw[hx,show x=48 from UInt8.toNat_inj.1 h3],by omega⟩)
   (repeat' (with_reducible apply Ws));(apply Wn 1;focus ((repeat (first|((first|with_reducible apply Rr rfl|((with_reducible apply Rg);(focus rfl);(focus rfl);focus (simp +decide only[Gs,n0,q0,q8,Qx,Hx,c0,c1,e1,ix,e2,e3,w1];done)));focus ((try simp +decide only[Oy,n0,q0,q8,Qx,Hx,c0,c1,e1,ix,e2,e3,w1]);with_reducible rfl))|((with_reducible apply Rs);(focus rfl);(focus rfl);focus (simp +decide only[Gs,n0,q0,q8,Qx,Hx,c0,c1,e1,ix,e2,e3,w1];done))|((with_reducible apply RO.skipU);(focus rfl);(focus rfl);focus (simp +decide only[Gs,n0,q0,q8,Qx,Hx,c0,c1,e1,ix,e2,e3,w1];done))));with_reducible exact Rn))
   exact⟨rfl,rfl,by simp +decide only[Gs,n0],by simp +decide only[Gs,d0],by simp +decide only[Gs,n0,q0],by simp +decide only[Gs,n0,q1],by simp +decide only[Gs,n0,q2],by simp +decide only[Gs,n0,q8],by simp +decide only[Gs,n0,q9],by simp +decide only[Gs,n0]⟩
  ·have e2:decide ((x.toNat:Int)=48)=false:=decide_eq_false (by omega)
   (repeat' (with_reducible apply Ws));(apply Wn 1;focus ((repeat (first|((first|with_reducible apply Rr rfl|((with_reducible apply Rg);(focus rfl);(focus rfl);focus (simp +decide only[Gs,n0,q0,q8,Qx,Hx,c0,c1,e1,ix,e2,w1];done)));focus ((try simp +decide only[Oy,n0,q0,q8,Qx,Hx,c0,c1,e1,ix,e2,w1]);with_reducible rfl))|((with_reducible apply Rs);(focus rfl);(focus rfl);focus (simp +decide only[Gs,n0,q0,q8,Qx,Hx,c0,c1,e1,ix,e2,w1];done))|((with_reducible apply RO.skipU);(focus rfl);(focus rfl);focus (simp +decide only[Gs,n0,q0,q8,Qx,Hx,c0,c1,e1,ix,e2,w1];done))));with_reducible exact Rn))
   exact⟨rfl,rfl,by simp +decide only[Gs,n0],by simp +decide only[Gs,d0],by simp +decide only[Gs,n0,q0],by simp +decide only[Gs,n0,q1],by simp +decide only[Gs,n0,q2],by simp +decide only[Gs,n0,q8],by simp +decide only[Gs,n0,q9],by simp +decide only[Gs,n0]⟩
 clear n0 d0 q0 q1 q2 q8 q9
 rintro ex A0 h'' ⟨rfl,rfl,n0,d0,q0,q1,q2,q8,q9,q81⟩
 simp only[if_true]
 by_cases h3:most<m
 ·have e4:decide ((m:Int)>(most:Int))=true:=decide_eq_true (by omega)
  obtain⟨nf,g',ck,M',b'⟩:=bad 3
  repeat' (first|with_reducible apply Ws|(apply Wn nf;focus ((repeat ((with_reducible apply Rr rfl);focus ((try simp +decide only[Oy,n0,q0,q1,q2,q8,q9,q81,Qx,Hx,e4,ck]);with_reducible rfl)));with_reducible exact Rn))|(refine W2 (by simp +decide only[Cx,n0,q0,q1,q2,q8,q9,q81,e4];try with_reducible rfl) (fun hb=>?_) (fun hb=>?_)<;>try contradiction)|apply W3|apply W4|apply W5|apply W6)
  refine done_r2 (v:=.int .i64 0) (x:=.bool false) (.inr rfl) (by simp +decide only[Gs,d0]) rfl (by simp +decide only[Gs,n0]) (by simp +decide only[Gs,n0]) ⟨_,_,rfl,M',?_⟩
  rw[if_pos h3]
  exact⟨rfl,rfl,b'⟩
 have e4:decide ((m:Int)>(most:Int))=false:=decide_eq_false (by omega)
 rw[if_neg h3]
 by_cases h4:m=0
 ·have e5:decide ((m:Int)=0)=true:=decide_eq_true (by omega)
  obtain⟨nf,g',ck,M',b'⟩:=bad zero
  repeat' (first|with_reducible apply Ws|(apply Wn nf;focus ((repeat ((with_reducible apply Rr rfl);focus ((try simp +decide only[Oy,n0,q0,q1,q2,q8,q9,q81,Qx,Hx,e4,e5,ck]);with_reducible rfl)));with_reducible exact Rn))|(refine W2 (by simp +decide only[Cx,n0,q0,q1,q2,q8,q9,q81,e4,e5];try with_reducible rfl) (fun hb=>?_) (fun hb=>?_)<;>try contradiction)|apply W3|apply W4|apply W5|apply W6)
  refine done_r2 (v:=.int .i64 0) (x:=.bool false) (.inr rfl) (by simp +decide only[Gs,d0]) rfl (by simp +decide only[Gs,n0]) (by simp +decide only[Gs,n0]) ⟨_,_,rfl,M',?_⟩
  rw[if_pos h4]
  exact⟨rfl,rfl,b'⟩
 have e5:decide ((m:Int)=0)=false:=decide_eq_false (by omega)
 rw[if_neg h4]
 repeat' (first|with_reducible apply Ws|(apply Wp;focus ((repeat ((with_reducible apply Rr rfl);focus ((try simp +decide only[Oy,n0,q0,q1,q2,q8,q9,q81,Qx,Hx,e4,e5]);with_reducible rfl)));with_reducible exact Rn))|(refine W2 (by simp +decide only[Cx,n0,q0,q1,q2,q8,q9,q81,e4,e5];try with_reducible rfl) (fun hb=>?_) (fun hb=>?_)<;>try contradiction)|apply W3|apply W4|apply W5|apply W6)
 refine done_r2 (v:=.int .i64 (m:Nat)) (x:=.bool true) (.inr rfl) (by simp +decide only[Gs,d0]) rfl (by simp +decide only[Gs,n0]) (by simp +decide only[Gs,n0]) ⟨_,_,rfl,M,?_⟩
 exact⟨rfl,rfl,b⟩
variable {E:Env}
theorem qty2:tab.ty.get 2=some ⟨.int .i64,1,8,some (.int .i64 0),true⟩:=by kernel_rfl
theorem qld2 (a:Addr) {h:H}:aload tab E 2 a h=h.cell E a:=by unfold aload;rw[qty2];rfl
theorem qty99:tab.ty.get 99=some ⟨.int .u64,1,8,some (.int .u64 0),true⟩:=by kernel_rfl
theorem qld99 (a:Addr) {h:H}:aload tab E 99 a h=h.cell E a:=by unfold aload;rw[qty99];rfl
theorem qty164:tab.ty.get 164=some ⟨.int .u32,1,4,some (.int .u32 0),true⟩:=by kernel_rfl
theorem qld164 (a:Addr) {h:H}:aload tab E 164 a h=h.cell E a:=by unfold aload;rw[qty164];rfl
theorem qty180:tab.ty.get 180=some ⟨.array 24 5 1,24,24,some (.agg #[.int .u8 0,.int .u8 0,.int .u8 0,.int .u8 0,.int .u8 0,.int .u8 0,.int .u8 0,.int .u8 0,.int .u8 0,.int .u8 0,.int .u8 0,.int .u8 0,.int .u8 0,.int .u8 0,.int .u8 0,.int .u8 0,.int .u8 0,.int .u8 0,.int .u8 0,.int .u8 0,.int .u8 0,.int .u8 0,.int .u8 0,.int .u8 0]),true⟩:=by kernel_rfl
theorem qld180 (a:Addr) {h:H}:aload tab E 180 a h=match h.cells E a 24 with|some cs=>some (.agg ⟨cs⟩)|none=>none:=by unfold aload;rw[qty180];rfl
theorem qty186:tab.ty.get 186=some ⟨.array 20 99 1,20,160,some (.agg #[.int .u64 0,.int .u64 0,.int .u64 0,.int .u64 0,.int .u64 0,.int .u64 0,.int .u64 0,.int .u64 0,.int .u64 0,.int .u64 0,.int .u64 0,.int .u64 0,.int .u64 0,.int .u64 0,.int .u64 0,.int .u64 0,.int .u64 0,.int .u64 0,.int .u64 0,.int .u64 0]),true⟩:=by kernel_rfl
theorem qld186 (a:Addr) {h:H}:aload tab E 186 a h=match h.cells E a 20 with|some cs=>some (.agg ⟨cs⟩)|none=>none:=by unfold aload;rw[qty186];rfl
theorem qty104:tab.ty.get 104=some ⟨.pointer 106,1,8,some (.pointer none),true⟩:=by kernel_rfl
theorem qld104 (a:Addr) {h:H}:aload tab E 104 a h=h.cell E a:=by unfold aload;rw[qty104];rfl
theorem qty106:tab.ty.get 106=some ⟨.struct [(0,104,1),(1,31,1)],2,32,some (.agg #[.pointer none,.slice none 0 0]),true⟩:=by kernel_rfl
theorem qld106 (a:Addr) {h:H}:aload tab E 106 a h=match h.cells E a 2 with|some cs=>some (.agg ⟨cs⟩)|none=>none:=by unfold aload;rw[qty106];rfl
theorem qfa106_0 (a:Addr):afieldAddr tab 106 (.pointer (some a)) 0=some (.pointer (some (aadd a 0))):=by unfold afieldAddr;rw[qty106];rfl
theorem qfa106_1 (a:Addr):afieldAddr tab 106 (.pointer (some a)) 1=some (.pointer (some (aadd a 1))):=by unfold afieldAddr;rw[qty106];rfl
theorem qty125:tab.ty.get 125=some ⟨.int .u64,1,8,some (.int .u64 0),true⟩:=by kernel_rfl
theorem qld125 (a:Addr) {h:H}:aload tab E 125 a h=h.cell E a:=by unfold aload;rw[qty125];rfl
theorem qty129:tab.ty.get 129=some ⟨.pointer 86,1,8,some (.pointer none),true⟩:=by kernel_rfl
theorem qld129 (a:Addr) {h:H}:aload tab E 129 a h=h.cell E a:=by unfold aload;rw[qty129];rfl
theorem qty153:tab.ty.get 153=some ⟨.array 2 5 1,2,2,some (.agg #[.int .u8 0,.int .u8 0]),true⟩:=by kernel_rfl
theorem qtz153:tzero tab 153=some (.agg #[.int .u8 0,.int .u8 0]):=by unfold tzero;rw[qty153]
theorem qld153 (a:Addr) {h:H}:aload tab E 153 a h=match h.cells E a 2 with|some cs=>some (.agg ⟨cs⟩)|none=>none:=by unfold aload;rw[qty153];rfl
theorem qia153 (a:Addr) (i:Int) (hi:inRange i 2=true):aindexAddr tab 153 (.pointer (some a)) (.int .i64 i)=some (.pointer (some (aadd a (i.toNat*1)))):=by unfold aindexAddr;simp only[qty153,hi]
theorem qty156:tab.ty.get 156=some ⟨.pointer 5,1,8,some (.pointer none),true⟩:=by kernel_rfl
theorem qld156 (a:Addr) {h:H}:aload tab E 156 a h=h.cell E a:=by unfold aload;rw[qty156];rfl
theorem qty170:tab.ty.get 170=some ⟨.map 5 5,1,8,some (.map none),true⟩:=by kernel_rfl
theorem qtz170:tzero tab 170=some (.map none):=by unfold tzero;rw[qty170]
theorem qld170 (a:Addr) {h:H}:aload tab E 170 a h=h.cell E a:=by unfold aload;rw[qty170];rfl
theorem Qi:(∀ (E:Env) (a:Addr) (h:H),aload tab E 2 a h=h.cell E a)∧(∀ (E:Env) (a:Addr) (h:H),aload tab E 99 a h=h.cell E a)∧(∀ (E:Env) (a:Addr) (h:H),aload tab E 164 a h=h.cell E a)∧(∀ (E:Env) (a:Addr) (h:H),aload tab E 180 a h=match h.cells E a 24 with|some cs=>some (.agg ⟨cs⟩)|none=>none)∧(∀ (E:Env) (a:Addr) (h:H),aload tab E 186 a h=match h.cells E a 20 with|some cs=>some (.agg ⟨cs⟩)|none=>none)∧(∀ (E:Env) (a:Addr) (h:H),aload tab E 104 a h=h.cell E a)∧(∀ (E:Env) (a:Addr) (h:H),aload tab E 106 a h=match h.cells E a 2 with|some cs=>some (.agg ⟨cs⟩)|none=>none)∧(∀ (a:Addr),afieldAddr tab 106 (.pointer (some a)) 0=some (.pointer (some (aadd a 0))))∧(∀ (a:Addr),afieldAddr tab 106 (.pointer (some a)) 1=some (.pointer (some (aadd a 1))))∧(∀ (E:Env) (a:Addr) (h:H),aload tab E 125 a h=h.cell E a)∧(∀ (E:Env) (a:Addr) (h:H),aload tab E 129 a h=h.cell E a)∧(∀ (E:Env) (a:Addr) (h:H),aload tab E 153 a h=match h.cells E a 2 with|some cs=>some (.agg ⟨cs⟩)|none=>none)∧(∀ (E:Env) (a:Addr) (h:H),aload tab E 156 a h=h.cell E a)∧(∀ (E:Env) (a:Addr) (h:H),aload tab E 170 a h=h.cell E a):=
 ⟨fun E a h=>by first|exact qld2 _|exact qld2 _ _ _,fun E a h=>by first|exact qld99 _|exact qld99 _ _ _,fun E a h=>by first|exact qld164 _|exact qld164 _ _ _,fun E a h=>by first|exact qld180 _|exact qld180 _ _ _,fun E a h=>by first|exact qld186 _|exact qld186 _ _ _,fun E a h=>by first|exact qld104 _|exact qld104 _ _ _,fun E a h=>by first|exact qld106 _|exact qld106 _ _ _,fun a=>by first|exact qfa106_0 _|exact qfa106_0 _ _ _,fun a=>by first|exact qfa106_1 _|exact qfa106_1 _ _ _,fun E a h=>by first|exact qld125 _|exact qld125 _ _ _,fun E a h=>by first|exact qld129 _|exact qld129 _ _ _,fun E a h=>by first|exact qld153 _|exact qld153 _ _ _,fun E a h=>by first|exact qld156 _|exact qld156 _ _ _,fun E a h=>by first|exact qld170 _|exact qld170 _ _ _⟩
theorem ty3:tab.ty.get 3=some ⟨.int .i64,1,8,some (.int .i64 0),true⟩:=by kernel_rfl
theorem ty9:tab.ty.get 9=some ⟨.string,1,16,some (.string ⟨#[]⟩),true⟩:=by kernel_rfl
theorem ty23:tab.ty.get 23=some ⟨.slice 25 4 56,1,24,some (.slice none 0 0),true⟩:=by kernel_rfl
theorem ty25:tab.ty.get 25=some ⟨.struct [(0,3,1),(1,3,1),(2,9,1),(3,23,1)],4,56,some (.agg #[.int .i64 0,.int .i64 0,.string ⟨#[]⟩,.slice none 0 0]),true⟩:=by kernel_rfl
variable {E:Env} {h:H}
theorem ld3 (a:Addr):aload tab E 3 a h=h.cell E a:=by unfold aload;rw[ty3];rfl
theorem ld9 (a:Addr):aload tab E 9 a h=h.cell E a:=by unfold aload;rw[ty9];rfl
theorem ld23 (a:Addr):aload tab E 23 a h=h.cell E a:=by unfold aload;rw[ty23];rfl
theorem ld25 (a:Addr):aload tab E 25 a h=match h.cells E a 4 with|some cs=>some (.agg ⟨cs⟩)|none=>none:=by unfold aload;rw[ty25];rfl
theorem fa25_0 (a:Addr):afieldAddr tab 25 (.pointer (some a)) 0=some (.pointer (some (aadd a 0))):=by unfold afieldAddr;rw[ty25];rfl
theorem fa25_1 (a:Addr):afieldAddr tab 25 (.pointer (some a)) 1=some (.pointer (some (aadd a 1))):=by unfold afieldAddr;rw[ty25];rfl
theorem fa25_2 (a:Addr):afieldAddr tab 25 (.pointer (some a)) 2=some (.pointer (some (aadd a 2))):=by unfold afieldAddr;rw[ty25];rfl
theorem fa25_3 (a:Addr):afieldAddr tab 25 (.pointer (some a)) 3=some (.pointer (some (aadd a 3))):=by unfold afieldAddr;rw[ty25];rfl
theorem len23 (b:Option Addr) (n c:Nat):alen tab 23 (.slice b n c) h=some (.int .i64 n):=by unfold alen;rw[ty23]
theorem ia23 (a:Addr) (n c:Nat) (i:Int) (hi:inRange i n=true):aindexAddr tab 23 (.slice (some a) n c) (.int .i64 i)=some (.pointer (some (aadd a (i.toNat*4)))):=by unfold aindexAddr;simp only[ty23,hi]
set_option maxHeartbeats 4000000
variable {E:Env} {I:Known}
theorem ty53:tab.ty.get 53=some ⟨.slice 3 1 8,1,24,some (.slice none 0 0),true⟩:=by kernel_rfl
theorem fn14:tab.fn.get 14=some Tryd.f14:=by kernel_rfl
theorem fn53:tab.fn.get 53=some Tryd.f53:=by kernel_rfl
theorem fn54:tab.fn.get 54=some Tryd.f54:=by kernel_rfl
theorem fn55:tab.fn.get 55=some Tryd.f55:=by kernel_rfl
theorem fn89:tab.fn.get 89=some Tryd.f89:=by kernel_rfl
theorem tz3:tzero tab 3=some (.int .i64 0):=by unfold tzero;rw[ty3]
theorem za53 (b:Option Addr) (n c:Nat):zeroArg tab 53 (.slice b n c)=some false:=by unfold zeroArg;rw[ty53]
theorem bs53 (i:Int) {h:H}:abuildSlice tab 53 1 [(0,.int .i64 i)] h=some (.slice (some (own h.next)) 1 1,h.new (.cells [.int .i64 i] 3 none)):=by
 unfold abuildSlice
 simp only[ty53,tz3]
 rfl
theorem len53 {h:H} (b:Option Addr) (n c:Nat):alen tab 53 (.slice b n c) h=some (.int .i64 n):=by unfold alen;rw[ty53]
theorem ia53 (a:Addr) (n c:Nat) (i:Int) (hi:inRange i n=true):aindexAddr tab 53 (.slice (some a) n c) (.int .i64 i)=some (.pointer (some (aadd a (i.toNat*1)))):=by unfold aindexAddr;simp only[ty53,hi]
def ints:Nat→List Value
 | 0=>[]
 | n+1=>ints n++[.int .i64 (n:Nat)]
theorem ints_length:∀ n,(ints n).length=n
 | 0=>rfl
 | n+1=>by rw[ints,List.length_append,ints_length n];rfl
theorem ints_get:∀ (n i:Nat),i<n→(ints n)[i]? = some (.int .i64 (i:Nat))
 | 0,i,h=>by omega
 | n+1,i,h=>by
  rw[ints]
  by_cases hi:i<n
  ·rw[List.getElem?_append_left (by rw[ints_length];exact hi)];exact ints_get n i hi
  ·have:i=n:=by omega
   subst this
   rw[List.getElem?_append_right (by rw[ints_length];exact Nat.le_refl _),ints_length,Nat.sub_self];rfl
def IntsAt (h:H) (v:Value) (n:Nat):Prop:=(n=0∧v=.slice none 0 0)∨∃ k rt,v=.slice (some (own k)) n n∧h.blk k=some (.cells (ints n) 3 rt)
/-! ### upto -/
noncomputable def loop54:Code:=loopOf Tryd.f54
theorem upto54 (hI:∀ args h,I 54 args h=none) (N:Nat) (hN:N≤1000000) (h:H) (hfit:Fit h) :
  ∃ n v h',(ev tab E I n).call 54 [.int .i64 (N:Nat)] h=some (v,h')∧(Ahd h h'∧IntsAt h' v N):=by
 refine Wc.call (hI _ _) fn54 rfl ?_
 generalize hA0:(⟨T.ofList [.int .i64 (N:Nat)] 0 .nil,max ([.int .i64 (N:Nat)]:List Value).length Tryd.f54.ntmps,[]⟩:Ac)=A0
 have n0:A0.n=15:=by rw[← hA0];rfl
 have g00:A0.get 0=.int .i64 (N:Nat):=by rw[← hA0];rfl
 have d0:A0.defers=[]:=by rw[← hA0]
 have key:∀ (r i:Nat) (s:Value) (ro:Option Nat) (A:Ac) (g:H),r=N-i→i≤N→A.n=15→A.defers=[]→A.get 3=s→A.get 5=.int .i64 (N:Nat)→A.get 6=.int .i64 (i:Nat)→Ahd h g→Ap g h.next 3 1 s i (ints i) ro→
   Wc tab E I ⟨54,none⟩ (.loop loop54) A g (fun ex A' g'=>ex=.exit 0∧A'.n=15∧A'.defers=[]∧∃ s ro,A'.get 3=s∧Ahd h g'∧Ap g' h.next 3 1 s N (ints N) ro):=by
  intro r
  induction r with
  | zero=>
   intro i s ro A g hr' hi nA dA p3 p5 p6 ah ap
   have hil:i=N:=by omega
   have hlt:decide ((i:Int)<(N:Int))=false:=by simp;omega
   apply Wc.loop
   simp only[loop54,loopOf,firstLoop,Option.getD,Tryd.f54]
   repeat' (first|with_reducible apply Ws|(apply Wp;focus ((repeat ((with_reducible apply Rr rfl);focus ((try simp +decide only[Oz,nA,p3,p5,p6,hlt]);with_reducible rfl)));with_reducible exact Rn))|(refine W2 (by simp +decide only[Cz,nA,p3,p5,p6,hlt];try with_reducible rfl) (fun hb=>?_) (fun hb=>?_)<;>try contradiction)|apply W3|apply W4|apply W5|apply W6)
   refine⟨rfl,by simp +decide only[Gz,nA],by simp +decide only[Gz,dA],s,ro,by simp +decide only[Gz,nA,p3],ah,?_⟩
   rw[hil] at ap;exact ap
  | succ r ih=>
   intro i s ro A g hr' hi nA dA p3 p5 p6 ah ap
   have hil:i<N:=by omega
   have hlt:decide ((i:Int)<(N:Int))=true:=by simp;omega
   have w3:IntKind.i64.wrap ((i:Int)+1)=(i:Int)+1:=wrap64 (by omega) (by omega)
   have hbs:=bs53 (i:Nat) (h:=g)
   generalize hg2:g.new (.cells [.int .i64 (i:Nat)] 3 none)=g2 at hbs
   have ah2:Ahd g g2:=by rw[← hg2];exact Ahd.new0 ah.fit rfl
   have hx2:g2.cells E (own g.next) 1=some [.int .i64 (i:Nat)]:=by rw[← hg2];exact box_cells rfl rfl
   have ahT:Ahd h g2:=ah.trans ah2
   have hro:∀ r,ro=some r→h.next≤r∧r<g.next:=by
    intro r hr
    rcases ap with ap|⟨kk,rr,_,e2,_,_,e5,_,e7⟩
    ·rw[ap.2.2.2] at hr;cases hr
    ·rw[e7] at hr;cases hr
     exact⟨e5,ah.fit.ok.1 _ _ _ _ _ (H.blk_dyn e2)⟩
   have ap2:Ap g2 h.next 3 1 s i (ints i) ro:=by
    rcases ap with ap|⟨kk,rr,e1,e2,e3,e4,e5,e6,e7⟩
    ·exact .inl ap
    ·refine .inr ⟨kk,rr,e1,ah2.grows _ _ e2,e3,e4,e5,?_,e7⟩
     rw[ah2.chain rr (hro _ e7).2];exact e6
   have hrm:roomy (i+1) 8=true:=by
    unfold roomy
    simp only[Bool.and_eq_true,Nat.ble_eq];omega
   obtain⟨s',g3,ro',happ,ap3,gw,_⟩:=ap_step (E:=E) (t2:=53) (c:=1) ahT.fit (by rw[ahT.mark];exact hfit.ok.2) ahT.next ap2 ty53 tz3 rfl (za53 _ _ _) hx2 rfl rfl hrm
   have ah3:Ahd h g3:=ahT.grew hfit (fun r hr=>(hro r hr).1) gw
   apply Wc.loop
   simp only[loop54,loopOf,firstLoop,Option.getD,Tryd.f54]
   repeat' (first|with_reducible apply Ws|(apply Wp;focus ((repeat ((with_reducible apply Rr rfl);focus ((try simp +decide only[Oz,nA,p3,p5,p6,hlt,hbs,happ,w3]);with_reducible rfl)));with_reducible exact Rn))|(refine W2 (by simp +decide only[Cz,nA,p3,p5,p6,hlt,hbs,happ,w3];try with_reducible rfl) (fun hb=>?_) (fun hb=>?_)<;>try contradiction)|apply W3|apply W4|apply W5|apply W6)
   refine (ih (i+1) s' ro' _ g3 (by omega) (by omega) ?_ ?_ ?_ ?_ ?_ ah3 ap3).mono ?_
   ·simp +decide only[Gz,nA]
   ·simp +decide only[Gz,dA]
   ·simp +decide only[Gz,nA]
   ·simp +decide only[Gz,nA,p5]
   ·simp +decide only[Gz,nA]
    rfl
   ·rintro ex A' h' ⟨rfl,e1⟩
    exact⟨rfl,e1⟩
 repeat' (first|with_reducible apply Ws|(apply Wp;focus ((repeat ((with_reducible apply Rr rfl);focus ((try simp +decide only[Oz,n0,g00,d0]);with_reducible rfl)));with_reducible exact Rn))|(refine W2 (by simp +decide only[Cz,n0,g00,d0];try with_reducible rfl) (fun hb=>?_) (fun hb=>?_)<;>try contradiction)|apply W3|apply W4|apply W5|apply W6)
 refine (key N 0 (.slice none 0 0) none _ h rfl (Nat.zero_le _) ?_ ?_ ?_ ?_ ?_ (Ahd.refl hfit) (.inl ⟨rfl,rfl,rfl,rfl⟩)).mono ?_
 ·simp +decide only[Gz,n0]
 ·simp +decide only[Gz,d0]
 ·simp +decide only[Gz,n0]
 ·simp +decide only[Gz,n0]
 ·simp +decide only[Gz,n0]
  rfl
 ·rintro ex A' g ⟨rfl,e1,e2,s,ro,e3,ah,ap⟩
  simp only[if_true]
  repeat' (first|with_reducible apply Ws|(apply Wp;focus ((repeat ((with_reducible apply Rr rfl);focus ((try simp +decide only[Oz,e1,e3]);with_reducible rfl)));with_reducible exact Rn))|(refine W2 (by simp +decide only[Cz,e1,e3];try with_reducible rfl) (fun hb=>?_) (fun hb=>?_)<;>try contradiction)|apply W3|apply W4|apply W5|apply W6)
  refine done_q (v:=s) (.inr rfl) (by simp +decide only[Gz,e2]) rfl (by simp +decide only[Gz,e1,e3]) ⟨ah,?_⟩
  rcases ap with ap|⟨kk,rr,q1,q2,_⟩
  ·exact .inl ⟨ap.1,ap.2.2.1⟩
  ·exact .inr ⟨kk,_,q1,q2⟩
/-! ### alike -/
def Cap (E:Env) (h:H) (t:Hs.Item) (p3 p4 p5:Value) (d:Int):Prop:=∃ k3 k4 k5 cs3 cs4,p3=.pointer (some (own k3))∧p4=.pointer (some (own k4))∧p5=.pointer (some (own k5))∧h.blk k3=some (.cells cs3 25 none)∧rep E h t (.agg ⟨cs3⟩)∧h.blk k4=some (.cells cs4 25 none)∧rep E h t (.agg ⟨cs4⟩)∧h.blk k5=some (.cells [.int .i64 d] 3 none)∧0≤d∧d+lvlI t≤400∧isz t≤1000000
theorem Cap.grow {E:Env} {h h':H} (g:Grows h h') {t:Hs.Item} {p3 p4 p5:Value} {d:Int} (c:Cap E h t p3 p4 p5 d):Cap E h' t p3 p4 p5 d:=by
 obtain⟨k3,k4,k5,cs3,cs4,e1,e2,e3,e4,e5,e6,e7,e8,e9⟩:=c
 exact⟨k3,k4,k5,cs3,cs4,e1,e2,e3,g _ _ e4,rep_grow g e5,g _ _ e6,rep_grow g e7,g _ _ e8,e9⟩
theorem Cap.one {E:Env} {h:H} {t t':Hs.Item} {p3 p4 p5:Value} {d d':Int} (c:Cap E h t p3 p4 p5 d) (c':Cap E h t' p3 p4 p5 d'):t=t':=by
 obtain⟨k3,k4,k5,cs3,cs4,rfl,e2,e3,e4,e5,e6,e7,e8,e9⟩:=c
 obtain⟨k3',k4',k5',cs3',cs4',f1,f2,f3,f4,f5,f6,f7,f8,f9⟩:=c'
 have:k3=k3':=by simpa [own] using f1
 subst this
 rw[e4] at f4;cases f4
 exact rep_one e5 f5
def says14 (E:Env):Says:=fun s f args h v=>
 (f=14∧∃ t xv yv d,args=[xv,yv,.int .i64 d]∧rep E h t xv∧rep E h t yv∧0≤d∧d+lvlI t≤400∧isz t≤1000000∧s=4*isz t+3∧v=.bool true)∨
 (f=53∧∃ t p3 p4 p5 d sl,args=[sl,.func (.func 55) ⟨[]⟩ ⟨[p3,p4,p5]⟩]∧IntsAt h sl t.kids.length∧Cap E h t p3 p4 p5 d∧s=4*isz t+2∧v=.bool false)∨
 (f=89∧∃ t p3 p4 p5 d sl,args=[sl,.func (.func 55) ⟨[]⟩ ⟨[p3,p4,p5]⟩]∧IntsAt h sl t.kids.length∧Cap E h t p3 p4 p5 d∧s=4*isz t+1∧v=.int .i64 (-1))∨
 (f=55∧∃ t p3 p4 p5 d,∃ i:Nat,args=[.int .i64 i,p3,p4,p5]∧i<t.kids.length∧Cap E h t p3 p4 p5 d∧s=4*isz t∧v=.bool false)
theorem one14 (E:Env):One (says14 E):=by
 rintro s s' f args h v v' (⟨rfl,t,xv,yv,d,rfl,_,_,_,_,_,_,rfl⟩|⟨rfl,t,p3,p4,p5,d,sl,rfl,_,_,_,rfl⟩|⟨rfl,t,p3,p4,p5,d,sl,rfl,_,_,_,rfl⟩|⟨rfl,t,p3,p4,p5,d,i,rfl,_,_,_,rfl⟩) (⟨e,t',xv',yv',d',_,_,_,_,_,_,_,rfl⟩|⟨e,t',p3',p4',p5',d',sl',_,_,_,_,rfl⟩|⟨e,t',p3',p4',p5',d',sl',_,_,_,_,rfl⟩|⟨e,t',p3',p4',p5',d',i',_,_,_,_,rfl⟩)
 all_goals first
  | rfl
  | (exact absurd e (by decide))
theorem rank14 {E:Env} {s s':Nat} {f:FuncId} {args:List Value} {h:H} {v v':Value} (h1:says14 E s f args h v) (h2:says14 E s' f args h v'):s=s':=by
 rcases h1 with⟨rfl,t,xv,yv,d,rfl,r1,_,_,_,_,rfl,_⟩|⟨rfl,t,p3,p4,p5,d,sl,rfl,_,c,rfl,_⟩|⟨rfl,t,p3,p4,p5,d,sl,rfl,_,c,rfl,_⟩|⟨rfl,t,p3,p4,p5,d,i,rfl,_,c,rfl,_⟩<;>
  rcases h2 with⟨e,t',xv',yv',d',ea,r2,_,_,_,_,rfl,_⟩|⟨e,t',p3',p4',p5',d',sl',ea,_,c',rfl,_⟩|⟨e,t',p3',p4',p5',d',sl',ea,_,c',rfl,_⟩|⟨e,t',p3',p4',p5',d',i',ea,_,c',rfl,_⟩
 all_goals first
  | (exact absurd e (by decide))
  | (cases ea;rw[rep_one r1 r2])
  | (cases ea;rw[c.one c'])
theorem says14_back {E:Env} {s:Nat} {f:FuncId} {args:List Value} {h:H} {v:Value} (h1:says14 E s f args (fresh h) v):says14 E s f args h v:=by
 have g:Grows (fresh h) h:=fun _ _ hb=>hb
 rcases h1 with⟨e,t,xv,yv,d,ea,r1,r2,q⟩|⟨e,t,p3,p4,p5,d,sl,ea,ia,c,q⟩|⟨e,t,p3,p4,p5,d,sl,ea,ia,c,q⟩|⟨e,t,p3,p4,p5,d,i,ea,hi,c,q⟩
 ·exact .inl ⟨e,t,xv,yv,d,ea,rep_grow g r1,rep_grow g r2,q⟩
 ·exact .inr (.inl ⟨e,t,p3,p4,p5,d,sl,ea,ia,c.grow g,q⟩)
 ·exact .inr (.inr (.inl ⟨e,t,p3,p4,p5,d,sl,ea,ia,c.grow g,q⟩))
 ·exact .inr (.inr (.inr ⟨e,t,p3,p4,p5,d,i,ea,hi,c.grow g,q⟩))
theorem none14 {E:Env} {I:Known} (hI:∀ f args h,(f=14∨f=53∨f=89∨f=55)→I f args h=none) {s:Nat} {f:FuncId} {args:List Value} {h:H} {v:Value} (h1:says14 E s f args h v) (hf:f=14∨f=53∨f=89∨f=55):upTo (says14 E) I s f args (fresh h)=none:=by
 rw[upTo_none]
 ·exact hI _ _ _ hf
 ·intro v' s' hlt h2
  have:=rank14 h1 (says14_back h2)
  omega
theorem lvl_kid {k n:Int} {t:ByteArray} {ks:List Hs.Item} {x:Hs.Item} (h:x∈ks):lvlI x+1≤lvlI (.mk k n t ks):=by
 rw[lvlI]
 have key:∀ (ks:List Hs.Item) (m:Int),0≤m→x∈ks→lvlI x≤lvlL ks m:=by
  intro ks
  induction ks with
  | nil=>intro m _ h;cases h
  | cons y ys ih=>
   intro m hm h
   rw[lvlL]
   have hy:=lvlI_bound y
   rcases List.mem_cons.1 h with rfl|h
   ·split
    ·exact (lvlL_bound ys _ (by omega)).1
    ·have:=(lvlL_bound ys m hm).1
     omega
   ·split
    ·exact ih _ (by omega) h
    ·exact ih _ hm h
 have:=key ks 0 (Int.le_refl _) h
 omega
noncomputable def loop89:Code:=loopOf Tryd.f89
theorem ev_knownS {D:Tab} {E:Env} {I:Known} {n:Nat} {f:FuncId} {args:List Value} {h:H} {r:Value×H} (hI:I f args h=some (some r)):(ev D E I (n+1)).call f args h=some r:=by
 show doCall D E I (ev D E I n) f args h=_
 simp only[doCall,hI]
theorem ev_later {D:Tab} {E:Env} {I:Known} {n:Nat} {f:FuncId} {args:List Value} {h:H} {r:Value×H} (hc:(ev D E I n).call f args h=some r):(ev D E I (n+1)).call f args h=some r:=(ev_mono I (Nat.le_succ n)).call hc
theorem shown14 (hI:∀ f args h,(f=14∨f=53∨f=89∨f=55∨f=54)→I f args h=none):ShownF tab E I (says14 E):=by
 intro m f args h v hs hfit
 have hnone:=none14 (fun f args h hf=>hI f args h (by rcases hf with h|h|h|h<;>simp[h])) hs
 have hJk:∀ {s f args g v},says14 E s f args g v→s<m→upTo (says14 E) I m f args g=some (some (v,g)):=fun h1 h2=>upTo_eq (one14 E) h1 h2
 have hJ54:∀ args h,upTo (says14 E) I m 54 args h=none:=by
  intro args h
  rw[upTo_none]
  ·exact hI _ _ _ (by simp)
  ·rintro v s _ (⟨e,_⟩|⟨e,_⟩|⟨e,_⟩|⟨e,_⟩)
   all_goals exact absurd e (by decide)
 have hgf:Grows h (fresh h):=fun _ _ hb=>hb
 rcases hs with⟨rfl,t,xv,yv,d,rfl,hr,hr',d1,d2,hz,rfl,rfl⟩|⟨rfl,t,p3,p4,p5,d,sl,rfl,hia,cap,rfl,rfl⟩|⟨rfl,t,p3,p4,p5,d,sl,rfl,hia,cap,rfl,rfl⟩|⟨rfl,t,p3,p4,p5,d,i,rfl,hi,cap,rfl,rfl⟩
 ·-- alike
  refine⟨rfl,?_⟩
  replace hnone:=hnone (by simp)
  obtain⟨k,m,tx,ks⟩:=t
  obtain⟨sb,sc,rfl,hs⟩:=rep_slice hr
  obtain⟨sb',sc',rfl,hs'⟩:=rep_slice hr'
  generalize hJ:upTo (says14 E) I (4*isz (.mk k m tx ks)+3)=J at hnone hJk hJ54 ⊢
  suffices hw:∃ n v h',(ev tab E J n).call 14 [.agg ⟨[.int .i64 k,.int .i64 m,.string tx,.slice sb ks.length sc]⟩,.agg ⟨[.int .i64 k,.int .i64 m,.string tx,.slice sb' ks.length sc']⟩,.int .i64 d] (fresh h)=some (v,h')∧(v=.bool true∧h'.log=[]) by
   obtain⟨n,v,h',h1,rfl,h3⟩:=hw
   exact⟨n,h',h1,h3⟩
  refine Wc.call hnone fn14 rfl ?_
  generalize hA0:(⟨T.ofList [.agg ⟨[.int .i64 k,.int .i64 m,.string tx,.slice sb ks.length sc]⟩,.agg ⟨[.int .i64 k,.int .i64 m,.string tx,.slice sb' ks.length sc']⟩,.int .i64 d] 0 .nil,max ([.agg ⟨[.int .i64 k,.int .i64 m,.string tx,.slice sb ks.length sc]⟩,.agg ⟨[.int .i64 k,.int .i64 m,.string tx,.slice sb' ks.length sc']⟩,.int .i64 d]:List Value).length Tryd.f14.ntmps,[]⟩:Ac)=A0
  have n0:A0.n=48:=by rw[← hA0];rfl
  have g00:A0.get 0=.agg ⟨[.int .i64 k,.int .i64 m,.string tx,.slice sb ks.length sc]⟩:=by rw[← hA0];rfl
  have g01:A0.get 1=.agg ⟨[.int .i64 k,.int .i64 m,.string tx,.slice sb' ks.length sc']⟩:=by rw[← hA0];rfl
  have g02:A0.get 2=.int .i64 d:=by rw[← hA0];rfl
  have d0:A0.defers=[]:=by rw[← hA0]
  have hl0:(fresh h).log=[]:=rfl
  have hgr:Grows h (fresh h):=fun _ _ hb=>hb
  generalize hg:fresh h=g at hl0 hgr hfit
  apply Wc.seq
  refine Wc.ops (by (repeat ((with_reducible apply Rr rfl);focus ((try simp +decide only[Oz,n0,g00,g01,g02]);with_reducible rfl)));with_reducible exact Rn) ?_
  generalize hh1:g.new (.cells (Value.agg ⟨[.int .i64 k,.int .i64 m,.string tx,.slice sb ks.length sc]⟩).cells.toList 25 none)=h1
  have a1:Ahd g h1:=by rw[← hh1];exact Ahd.new0 hfit rfl
  have b1:h1.blk g.next=some (.cells [.int .i64 k,.int .i64 m,.string tx,.slice sb ks.length sc] 25 none):=by rw[← hh1];exact new_blk_new rfl
  generalize hh2:h1.new (.cells (Value.agg ⟨[.int .i64 k,.int .i64 m,.string tx,.slice sb' ks.length sc']⟩).cells.toList 25 none)=h2
  have a2:Ahd h1 h2:=by rw[← hh2];exact Ahd.new0 a1.fit rfl
  have b2:h2.blk h1.next=some (.cells [.int .i64 k,.int .i64 m,.string tx,.slice sb' ks.length sc'] 25 none):=by rw[← hh2];exact new_blk_new rfl
  generalize hh3:h2.new (.cells (Value.int .i64 d).cells.toList 3 none)=h3
  have a3:Ahd h2 h3:=by rw[← hh3];exact Ahd.new0 a2.fit rfl
  have b3:h3.blk h2.next=some (.cells [.int .i64 d] 3 none):=by rw[← hh3];exact new_blk_new rfl
  have b1':=a3.grows _ _ (a2.grows _ _ b1)
  have b2':=a3.grows _ _ b2
  have ag:Ahd g h3:=(a1.trans a2).trans a3
  clear hh1 hh2 hh3
  have hlen:ks.length≤1000000:=by
   rw[isz] at hz
   have:∀ l:List Hs.Item,l.length≤iszL l:=by
    intro l
    induction l with
    | nil=>simp[iszL]
    | cons x l ih=>rw[iszL,List.length_cons];obtain⟨a,b,c,d⟩:=x;rw[isz];omega
   have:=this ks
   omega
  obtain⟨nf,sl,h4,hup,a4,ia4⟩:=upto54 (E:=E) hJ54 ks.length hlen h3 a3.fit
  replace hup:=ev_later hup
  have c53:(ev tab E J (nf+1)).call 53 [sl,.func (.func 55) ⟨[]⟩ ⟨[.pointer (some (own g.next)),.pointer (some (own h1.next)),.pointer (some (own h2.next))]⟩] h4=some (.bool false,h4):=by
   apply ev_knownS
   have gr4:Grows h h4:=hgr.trans (ag.grows.trans a4.grows)
   exact hJk (.inr (.inl ⟨rfl,.mk k m tx ks,_,_,_,d,sl,rfl,ia4,⟨_,_,_,_,_,rfl,rfl,rfl,a4.grows _ _ b1',rep_grow gr4 hr,a4.grows _ _ b2',rep_grow gr4 hr',a4.grows _ _ b3,d1,d2,hz⟩,rfl,rfl⟩)) (by omega)
  have x0:h3.cell E (aadd (own g.next) 0)=some (.int .i64 k):=blk_cell (i:=0) b1' rfl rfl
  have x1:h3.cell E (aadd (own g.next) 1)=some (.int .i64 m):=blk_cell (i:=1) b1' rfl rfl
  have x2:h3.cell E (aadd (own g.next) 2)=some (.string tx):=blk_cell (i:=2) b1' rfl rfl
  have x3:h3.cell E (aadd (own g.next) 3)=some (.slice sb ks.length sc):=blk_cell (i:=3) b1' rfl rfl
  have y0:h3.cell E (aadd (own h1.next) 0)=some (.int .i64 k):=blk_cell (i:=0) b2' rfl rfl
  have y1:h3.cell E (aadd (own h1.next) 1)=some (.int .i64 m):=blk_cell (i:=1) b2' rfl rfl
  have y2:h3.cell E (aadd (own h1.next) 2)=some (.string tx):=blk_cell (i:=2) b2' rfl rfl
  have y3:h3.cell E (aadd (own h1.next) 3)=some (.slice sb' ks.length sc'):=blk_cell (i:=3) b2' rfl rfl
  have z0:h3.cell E (own h2.next)=some (.int .i64 d):=blk_cell0 b3 rfl
  have hbb:(tx.data.toList == tx.data.toList)=true:=by simp
  have h400:decide (d<400)=true:=by
   have:=lvlI_bound (.mk k m tx ks)
   simp;omega
  have hlog4:h4.log=[]:=by rw[a4.log,ag.log,hl0]
  refine Wc.forget (fun A=>A.n=48∧A.defers=[]∧A.get 3=.pointer (some (own g.next))∧A.get 4=.pointer (some (own h1.next))∧A.get 5=.pointer (some (own h2.next))) ⟨by simp +decide only[Gz,n0],by simp +decide only[Gz,d0],by simp +decide only[Gz,n0],by simp +decide only[Gz,n0],by simp +decide only[Gz,n0]⟩ ?_
  clear hA0 n0 g00 g01 g02 d0
  rintro A0 ⟨n0,d0,g3,g4,g5⟩
  apply Wc.seq
  refine Wc.opsQ (nf+1) ?_
  (iterate 6 (first|((with_reducible apply RQ.run (awant_none rfl));focus ((try simp +decide only[Oz,n0,g3,g4,g5,fa25_0,ld3,x0,y0]);with_reducible rfl))|((with_reducible apply RQ.runG);(focus rfl);(focus rfl);(focus (simp +decide only[Oz,n0,g3,g4,g5,fa25_0,ld3,x0,y0];done));focus ((try simp +decide only[Oz,n0,g3,g4,g5,fa25_0,ld3,x0,y0]);with_reducible rfl))|((with_reducible apply RQ.skipG);(focus rfl);(focus rfl);focus (simp +decide only[Oz,n0,g3,g4,g5,fa25_0,ld3,x0,y0];done))))
  refine RQ.forget (fun A=>A.n=48∧A.defers=[]∧A.get 3=.pointer (some (own g.next))∧A.get 4=.pointer (some (own h1.next))∧A.get 5=.pointer (some (own h2.next))∧A.get 12=.bool true) ⟨by simp +decide only[Gz,n0],by simp +decide only[Gz,d0],by simp +decide only[Gz,n0,g3],by simp +decide only[Gz,n0,g4],by simp +decide only[Gz,n0,g5],by simp +decide only[Gz,n0]⟩ ?_
  clear n0 d0 g3 g4 g5
  rintro A0 ⟨n0,d0,g3,g4,g5,gb⟩
  (iterate 7 (first|((with_reducible apply RQ.run (awant_none rfl));focus ((try simp +decide only[Oz,n0,g3,g4,g5,gb,fa25_1,ld3,x1,y1]);with_reducible rfl))|((with_reducible apply RQ.runG);(focus rfl);(focus rfl);(focus (simp +decide only[Oz,n0,g3,g4,g5,gb,fa25_1,ld3,x1,y1];done));focus ((try simp +decide only[Oz,n0,g3,g4,g5,gb,fa25_1,ld3,x1,y1]);with_reducible rfl))|((with_reducible apply RQ.skipG);(focus rfl);(focus rfl);focus (simp +decide only[Oz,n0,g3,g4,g5,gb,fa25_1,ld3,x1,y1];done))))
  refine RQ.forget (fun A=>A.n=48∧A.defers=[]∧A.get 3=.pointer (some (own g.next))∧A.get 4=.pointer (some (own h1.next))∧A.get 5=.pointer (some (own h2.next))∧A.get 19=.bool true) ⟨by simp +decide only[Gz,n0],by simp +decide only[Gz,d0],by simp +decide only[Gz,n0,g3],by simp +decide only[Gz,n0,g4],by simp +decide only[Gz,n0,g5],by simp +decide only[Gz,n0]⟩ ?_
  clear n0 d0 g3 g4 g5 gb
  rintro A0 ⟨n0,d0,g3,g4,g5,gb⟩
  (iterate 7 (first|((with_reducible apply RQ.run (awant_none rfl));focus ((try simp +decide only[Oz,n0,g3,g4,g5,gb,fa25_2,ld9,x2,y2,astr,hbb]);with_reducible rfl))|((with_reducible apply RQ.runG);(focus rfl);(focus rfl);(focus (simp +decide only[Oz,n0,g3,g4,g5,gb,fa25_2,ld9,x2,y2,astr,hbb];done));focus ((try simp +decide only[Oz,n0,g3,g4,g5,gb,fa25_2,ld9,x2,y2,astr,hbb]);with_reducible rfl))|((with_reducible apply RQ.skipG);(focus rfl);(focus rfl);focus (simp +decide only[Oz,n0,g3,g4,g5,gb,fa25_2,ld9,x2,y2,astr,hbb];done))))
  refine RQ.forget (fun A=>A.n=48∧A.defers=[]∧A.get 3=.pointer (some (own g.next))∧A.get 4=.pointer (some (own h1.next))∧A.get 5=.pointer (some (own h2.next))∧A.get 26=.bool true) ⟨by simp +decide only[Gz,n0],by simp +decide only[Gz,d0],by simp +decide only[Gz,n0,g3],by simp +decide only[Gz,n0,g4],by simp +decide only[Gz,n0,g5],by simp +decide only[Gz,n0]⟩ ?_
  clear n0 d0 g3 g4 g5 gb
  rintro A0 ⟨n0,d0,g3,g4,g5,gb⟩
  (iterate 9 (first|((with_reducible apply RQ.run (awant_none rfl));focus ((try simp +decide only[Oz,n0,g3,g4,g5,gb,fa25_3,ld23,x3,y3,len23]);with_reducible rfl))|((with_reducible apply RQ.runG);(focus rfl);(focus rfl);(focus (simp +decide only[Oz,n0,g3,g4,g5,gb,fa25_3,ld23,x3,y3,len23];done));focus ((try simp +decide only[Oz,n0,g3,g4,g5,gb,fa25_3,ld23,x3,y3,len23]);with_reducible rfl))|((with_reducible apply RQ.skipG);(focus rfl);(focus rfl);focus (simp +decide only[Oz,n0,g3,g4,g5,gb,fa25_3,ld23,x3,y3,len23];done))))
  refine RQ.forget (fun A=>A.n=48∧A.defers=[]∧A.get 3=.pointer (some (own g.next))∧A.get 4=.pointer (some (own h1.next))∧A.get 5=.pointer (some (own h2.next))∧A.get 35=.bool true) ⟨by simp +decide only[Gz,n0],by simp +decide only[Gz,d0],by simp +decide only[Gz,n0,g3],by simp +decide only[Gz,n0,g4],by simp +decide only[Gz,n0,g5],by simp +decide only[Gz,n0]⟩ ?_
  clear n0 d0 g3 g4 g5 gb
  rintro A0 ⟨n0,d0,g3,g4,g5,gb⟩
  (iterate 4 (first|((with_reducible apply RQ.run (awant_none rfl));focus ((try simp +decide only[Oz,n0,g3,g4,g5,gb,ld3,z0,h400]);with_reducible rfl))|((with_reducible apply RQ.runG);(focus rfl);(focus rfl);(focus (simp +decide only[Oz,n0,g3,g4,g5,gb,ld3,z0,h400];done));focus ((try simp +decide only[Oz,n0,g3,g4,g5,gb,ld3,z0,h400]);with_reducible rfl))|((with_reducible apply RQ.skipG);(focus rfl);(focus rfl);focus (simp +decide only[Oz,n0,g3,g4,g5,gb,ld3,z0,h400];done))))
  refine RQ.forget (fun A=>A.n=48∧A.defers=[]∧A.get 3=.pointer (some (own g.next))∧A.get 4=.pointer (some (own h1.next))∧A.get 5=.pointer (some (own h2.next))∧A.get 39=.bool true) ⟨by simp +decide only[Gz,n0],by simp +decide only[Gz,d0],by simp +decide only[Gz,n0,g3],by simp +decide only[Gz,n0,g4],by simp +decide only[Gz,n0,g5],by simp +decide only[Gz,n0]⟩ ?_
  clear n0 d0 g3 g4 g5 gb
  rintro A0 ⟨n0,d0,g3,g4,g5,gb⟩
  (iterate 9 (first|((with_reducible apply RQ.run (awant_none rfl));focus ((try simp +decide only[Oz,n0,g3,g4,g5,gb,fa25_3,ld23,x3,len23,hup,c53,roF,aun]);with_reducible rfl))|((with_reducible apply RQ.runG);(focus rfl);(focus rfl);(focus (simp +decide only[Oz,n0,g3,g4,g5,gb,fa25_3,ld23,x3,len23,hup,c53,roF,aun];done));focus ((try simp +decide only[Oz,n0,g3,g4,g5,gb,fa25_3,ld23,x3,len23,hup,c53,roF,aun]);with_reducible rfl))|((with_reducible apply RQ.skipG);(focus rfl);(focus rfl);focus (simp +decide only[Oz,n0,g3,g4,g5,gb,fa25_3,ld23,x3,len23,hup,c53,roF,aun];done))))
  refine RQ.nil ?_
  refine Wc.ret ?_
  refine done_tmp (.inr rfl) (by simp +decide only[Gz,d0]) rfl ?_ hlog4
  simp +decide only[Gz,n0]
 ·-- ContainsFunc
  refine⟨rfl,?_⟩
  replace hnone:=hnone (by simp)
  generalize hJ:upTo (says14 E) I (4*isz t+2)=J at hnone hJk hJ54 ⊢
  suffices hw:∃ n v h',(ev tab E J n).call 53 [sl,.func (.func 55) ⟨[]⟩ ⟨[p3,p4,p5]⟩] (fresh h)=some (v,h')∧(v=.bool false∧h'.log=[]) by
   obtain⟨n,v,h',h1,rfl,h3⟩:=hw
   exact⟨n,h',h1,h3⟩
  refine Wc.call hnone fn53 rfl ?_
  generalize hA0:(⟨T.ofList [sl,.func (.func 55) ⟨[]⟩ ⟨[p3,p4,p5]⟩] 0 .nil,max ([sl,.func (.func 55) ⟨[]⟩ ⟨[p3,p4,p5]⟩]:List Value).length Tryd.f53.ntmps,[]⟩:Ac)=A0
  have n0:A0.n=9:=by rw[← hA0];rfl
  have g00:A0.get 0=sl:=by rw[← hA0];rfl
  have g01:A0.get 1=.func (.func 55) ⟨[]⟩ ⟨[p3,p4,p5]⟩:=by rw[← hA0];rfl
  have d0:A0.defers=[]:=by rw[← hA0]
  have c89:(ev tab E J 1).call 89 [sl,.func (.func 55) ⟨[]⟩ ⟨[p3,p4,p5]⟩] (fresh h)=some (.int .i64 (-1),fresh h):=by
   apply ev_known
   exact hJk (.inr (.inr (.inl ⟨rfl,t,p3,p4,p5,d,sl,rfl,hia,cap.grow hgf,rfl,rfl⟩))) (by omega)
  repeat' (first|with_reducible apply Ws|(apply Wp;focus ((repeat ((with_reducible apply Rr rfl);focus ((try simp +decide only[Oz,n0,g00,g01,c89]);with_reducible rfl)));with_reducible exact Rn))|(refine W2 (by simp +decide only[Cz,n0,g00,g01,c89];try with_reducible rfl) (fun hb=>?_) (fun hb=>?_)<;>try contradiction)|apply W3|apply W4|apply W5|apply W6)
  refine done_tmp (.inr rfl) (by simp +decide only[Gz,d0]) rfl ?_ rfl
  simp +decide only[Gz,n0,decide_false]
 ·-- IndexFunc
  refine⟨rfl,?_⟩
  replace hnone:=hnone (by simp)
  generalize hJ:upTo (says14 E) I (4*isz t+1)=J at hnone hJk hJ54 ⊢
  suffices hw:∃ n v h',(ev tab E J n).call 89 [sl,.func (.func 55) ⟨[]⟩ ⟨[p3,p4,p5]⟩] (fresh h)=some (v,h')∧(v=.int .i64 (-1)∧h'.log=[]) by
   obtain⟨n,v,h',h1,rfl,h3⟩:=hw
   exact⟨n,h',h1,h3⟩
  refine Wc.call hnone fn89 rfl ?_
  generalize hA0:(⟨T.ofList [sl,.func (.func 55) ⟨[]⟩ ⟨[p3,p4,p5]⟩] 0 .nil,max ([sl,.func (.func 55) ⟨[]⟩ ⟨[p3,p4,p5]⟩]:List Value).length Tryd.f89.ntmps,[]⟩:Ac)=A0
  have n0:A0.n=19:=by rw[← hA0];rfl
  have g00:A0.get 0=sl:=by rw[← hA0];rfl
  have g01:A0.get 1=.func (.func 55) ⟨[]⟩ ⟨[p3,p4,p5]⟩:=by rw[← hA0];rfl
  have d0:A0.defers=[]:=by rw[← hA0]
  have hsl:∃ b c,sl=.slice b t.kids.length c:=by
   rcases hia with⟨e1,e2⟩|⟨kk,rt,e1,_⟩
   ·exact⟨none,0,by rw[e2,e1]⟩
   ·exact⟨_,_,e1⟩
  obtain⟨b,c,rfl⟩:=hsl
  have hlen:t.kids.length≤1000000:=by
   obtain⟨_,_,_,_,_,_,_,_,_,_,_,_,_,_,_,hz⟩:=cap
   obtain⟨k,m,tx,ks⟩:=t
   rw[isz] at hz
   have:∀ l:List Hs.Item,l.length≤iszL l:=by
    intro l
    induction l with
    | nil=>simp[iszL]
    | cons x l ih=>rw[iszL,List.length_cons];obtain⟨a,b,c,d⟩:=x;rw[isz];omega
   have:=this ks
   show ks.length≤_
   omega
  have key:∀ (r i:Nat) (A:Ac),r=t.kids.length-i→i≤t.kids.length→A.n=19→A.defers=[]→A.get 0=.slice b t.kids.length c→A.get 1=.func (.func 55) ⟨[]⟩ ⟨[p3,p4,p5]⟩→A.get 7=.int .i64 (t.kids.length:Nat)→A.get 8=.int .i64 (i:Nat)→
    Wc tab E J ⟨89,none⟩ (.loop loop89) A (fresh h) (fun ex A' h'=>ex=.exit 0∧h'=fresh h∧A'.n=19∧A'.defers=[]):=by
   intro r
   induction r with
   | zero=>
    intro i A hr hi nA dA p0 p1 p7 p8
    have hlt:decide ((i:Int)<(t.kids.length:Int))=false:=by simp;omega
    apply Wc.loop
    simp only[loop89,loopOf,firstLoop,Option.getD,Tryd.f89]
    repeat' (first|with_reducible apply Ws|(apply Wp;focus ((repeat ((with_reducible apply Rr rfl);focus ((try simp +decide only[Oz,nA,p0,p1,p7,p8,hlt]);with_reducible rfl)));with_reducible exact Rn))|(refine W2 (by simp +decide only[Cz,nA,p0,p1,p7,p8,hlt];try with_reducible rfl) (fun hb=>?_) (fun hb=>?_)<;>try contradiction)|apply W3|apply W4|apply W5|apply W6)
    exact⟨rfl,rfl,by simp +decide only[Gz,nA],by simp +decide only[Gz,dA]⟩
   | succ r ih=>
    intro i A hr hi nA dA p0 p1 p7 p8
    have hil:i<t.kids.length:=by omega
    have hlt:decide ((i:Int)<(t.kids.length:Int))=true:=by simp;omega
    have hir:inRange (i:Int) t.kids.length=true:=by
     show Nat.blt i t.kids.length=true
     rw[Nat.blt_eq];exact hil
    have w3:IntKind.i64.wrap ((i:Int)+1)=(i:Int)+1:=wrap64 (by omega) (by omega)
    have c55:(ev tab E J 1).call 55 [.int .i64 (i:Nat),p3,p4,p5] (fresh h)=some (.bool false,fresh h):=by
     apply ev_known
     exact hJk (.inr (.inr (.inr ⟨rfl,t,p3,p4,p5,d,i,rfl,hil,cap.grow hgf,rfl,rfl⟩))) (by omega)
    rcases hia with⟨e1,_⟩|⟨kk,rt,e1,e2⟩
    ·omega
    simp only[Value.slice.injEq] at e1
    obtain⟨rfl,_,rfl⟩:=e1
    have hld:(fresh h).cell E (aadd (own kk) (i*1))=some (.int .i64 (i:Nat)):=blk_cell (h:=fresh h) e2 (by rw[Nat.mul_one];exact ints_get _ _ hil) rfl
    apply Wc.loop
    simp only[loop89,loopOf,firstLoop,Option.getD,Tryd.f89]
    repeat' (first|with_reducible apply Ws|(apply Wp;focus ((repeat ((with_reducible apply Rr rfl);focus ((try simp +decide only[Oz,nA,p0,p1,p7,p8,hlt,ia53 _ _ _ _ hir,Int.toNat_natCast,ld3,hld,List.cons_append,c55,w3]);with_reducible rfl)));with_reducible exact Rn))|(refine W2 (by simp +decide only[Cz,nA,p0,p1,p7,p8,hlt,ia53 _ _ _ _ hir,Int.toNat_natCast,ld3,hld,List.cons_append,c55,w3];try with_reducible rfl) (fun hb=>?_) (fun hb=>?_)<;>try contradiction)|apply W3|apply W4|apply W5|apply W6)
    refine (ih (i+1) _ (by omega) (by omega) ?_ ?_ ?_ ?_ ?_ ?_).mono ?_
    ·simp +decide only[Gz,nA]
    ·simp +decide only[Gz,dA]
    ·simp +decide only[Gz,nA,p0]
    ·simp +decide only[Gz,nA,p1]
    ·simp +decide only[Gz,nA,p7]
    ·simp +decide only[Gz,nA]
     rfl
    ·rintro ex A' h' ⟨rfl,e1⟩
     exact⟨rfl,e1⟩
  repeat' (first|with_reducible apply Ws|(apply Wp;focus ((repeat ((with_reducible apply Rr rfl);focus ((try simp +decide only[Oz,n0,g00,g01,len53]);with_reducible rfl)));with_reducible exact Rn))|(refine W2 (by simp +decide only[Cz,n0,g00,g01,len53];try with_reducible rfl) (fun hb=>?_) (fun hb=>?_)<;>try contradiction)|apply W3|apply W4|apply W5|apply W6)
  refine (key t.kids.length 0 _ rfl (Nat.zero_le _) ?_ ?_ ?_ ?_ ?_ ?_).mono ?_
  ·simp +decide only[Gz,n0]
  ·simp +decide only[Gz,d0]
  ·simp +decide only[Gz,n0,g00]
  ·simp +decide only[Gz,n0,g01]
  ·simp +decide only[Gz,n0]
  ·simp +decide only[Gz,n0]
   rfl
  ·rintro ex A' h' ⟨rfl,rfl,e1,e2⟩
   simp only[if_true]
   repeat' (first|with_reducible apply Ws|(apply Wp;focus ((repeat ((with_reducible apply Rr rfl);focus ((try simp +decide only[Oz,e1]);with_reducible rfl)));with_reducible exact Rn))|(refine W2 (by simp +decide only[Cz,e1];try with_reducible rfl) (fun hb=>?_) (fun hb=>?_)<;>try contradiction)|apply W3|apply W4|apply W5|apply W6)
   refine done_tmp (.inr rfl) (by simp +decide only[Gz,e2]) rfl ?_ rfl
   simp +decide only[Gz,e1]
 ·-- the closure
  refine⟨rfl,?_⟩
  replace hnone:=hnone (by simp)
  generalize hJ:upTo (says14 E) I (4*isz t)=J at hnone hJk hJ54 ⊢
  suffices hw:∃ n v h',(ev tab E J n).call 55 [.int .i64 (i:Nat),p3,p4,p5] (fresh h)=some (v,h')∧(v=.bool false∧h'.log=[]) by
   obtain⟨n,v,h',h1,rfl,h3⟩:=hw
   exact⟨n,h',h1,h3⟩
  refine Wc.call hnone fn55 rfl ?_
  generalize hA0:(⟨T.ofList [.int .i64 (i:Nat),p3,p4,p5] 0 .nil,max ([.int .i64 (i:Nat),p3,p4,p5]:List Value).length Tryd.f55.ntmps,[]⟩:Ac)=A0
  have n0:A0.n=20:=by rw[← hA0];rfl
  have g00:A0.get 0=.int .i64 (i:Nat):=by rw[← hA0];rfl
  have g01:A0.get 1=p3:=by rw[← hA0];rfl
  have g02:A0.get 2=p4:=by rw[← hA0];rfl
  have g03:A0.get 3=p5:=by rw[← hA0];rfl
  have d0:A0.defers=[]:=by rw[← hA0]
  obtain⟨k3,k4,k5,cs3,cs4,rfl,rfl,rfl,b3,r3,b4,r4,b5,d1,d2,hz⟩:=cap
  obtain⟨k,m,tx,ks⟩:=t
  have hil:i<ks.length:=hi
  obtain⟨sb,sc,e3,hs⟩:=rep_slice r3
  obtain⟨sb',sc',e4,hs'⟩:=rep_slice r4
  simp only[Value.agg.injEq,Array.mk.injEq] at e3 e4
  subst e3 e4
  rcases hs with hk0|⟨a,cs,he,hlc,hcs,hrl⟩
  ·rw[hk0] at hil;simp at hil
  rcases hs' with hk0|⟨a',cs',he',hlc',hcs',hrl'⟩
  ·rw[hk0] at hil;simp at hil
  subst he he'
  obtain⟨_,hrk⟩:=repL_get i hrl (List.getElem?_eq_getElem hil)
  obtain⟨_,hrk'⟩:=repL_get i hrl' (List.getElem?_eq_getElem hil)
  have hsub:(fresh h).cells E (aadd a (i*4)) 4=some ((cs.drop (i*4)).take 4):=cells_sub (h:=fresh h) hcs (m:=i*4) (l:=4) (by omega)
  have hsub':(fresh h).cells E (aadd a' (i*4)) 4=some ((cs'.drop (i*4)).take 4):=cells_sub (h:=fresh h) hcs' (m:=i*4) (l:=4) (by omega)
  have hmem:ks[i]∈ks:=List.getElem_mem hil
  have hkz:=isz_kid (k:=k) (n:=m) (t:=tx) hmem
  have hkl:=lvl_kid (k:=k) (n:=m) (t:=tx) hmem
  have hlb:=lvlI_bound ks[i]
  have w3:IntKind.i64.wrap (d+1)=d+1:=wrap64 (by omega) (by omega)
  have x3:(fresh h).cell E (aadd (own k3) 3)=some (.slice (some a) ks.length sc):=blk_cell (h:=fresh h) (i:=3) b3 rfl rfl
  have y3:(fresh h).cell E (aadd (own k4) 3)=some (.slice (some a') ks.length sc'):=blk_cell (h:=fresh h) (i:=3) b4 rfl rfl
  have z0:(fresh h).cell E (own k5)=some (.int .i64 d):=blk_cell0 (h:=fresh h) b5 rfl
  have hir:inRange (i:Int) ks.length=true:=by
   show Nat.blt i ks.length=true
   rw[Nat.blt_eq];exact hil
  have c14:(ev tab E J 1).call 14 [.agg ⟨(cs.drop (i*4)).take 4⟩,.agg ⟨(cs'.drop (i*4)).take 4⟩,.int .i64 (d+1)] (fresh h)=some (.bool true,fresh h):=by
   apply ev_known
   exact hJk (.inl ⟨rfl,ks[i],_,_,d+1,rfl,rep_grow hgf hrk,rep_grow hgf hrk',by omega,by omega,by omega,rfl,rfl⟩) (by omega)
  have hff:fresh (fresh h)=fresh h:=rfl
  repeat' (first|with_reducible apply Ws|(apply Wp;focus ((repeat (first|((first|with_reducible apply Rr rfl|((with_reducible apply Rg);(focus rfl);(focus rfl);focus (simp +decide only[Oz,n0,g00,g01,g02,g03,hff,fa25_3,ld3,ld23,ld25,x3,y3,z0,ia23 _ _ _ _ hir,Int.toNat_natCast,hsub,hsub',w3,c14,aun];done)));focus ((try simp +decide only[Oz,n0,g00,g01,g02,g03,hff,fa25_3,ld3,ld23,ld25,x3,y3,z0,ia23 _ _ _ _ hir,Int.toNat_natCast,hsub,hsub',w3,c14,aun]);with_reducible rfl))|((with_reducible apply Rs);(focus rfl);(focus rfl);focus (simp +decide only[Oz,n0,g00,g01,g02,g03,hff,fa25_3,ld3,ld23,ld25,x3,y3,z0,ia23 _ _ _ _ hir,Int.toNat_natCast,hsub,hsub',w3,c14,aun];done))));with_reducible exact Rn))|(refine Wc.quiet (by kernel_rfl) (by repeat' (first|with_reducible exact QO.nil|((with_reducible apply QO.cons rfl rfl);focus ((try simp +decide only[Oz,n0,g00,g01,g02,g03,hff,fa25_3,ld3,ld23,ld25,x3,y3,z0,ia23 _ _ _ _ hir,Int.toNat_natCast,hsub,hsub',w3,c14,aun]);with_reducible rfl)))) ?_)|(refine W2 (by simp +decide only[Cz,n0,g00,g01,g02,g03,hff,fa25_3,ld3,ld23,ld25,x3,y3,z0,ia23 _ _ _ _ hir,Int.toNat_natCast,hsub,hsub',w3,c14,aun];try with_reducible rfl) (fun hb=>?_) (fun hb=>?_)<;>try contradiction)|apply W3|apply W4|apply W5|apply W6)
  refine done_tmp (.inr rfl) (by simp +decide only[Gz,d0]) rfl ?_ rfl
  simp +decide only[Gz,n0]
theorem same {D:Tab} {E:Env} {I:Known} {f:FuncId} {args:List Value} {h:H} {x:Value} (w:∃ n v h',(ev D E I n).call f args h=some (v,h')∧(v=x∧h'=h)):∃ n,(ev D E I n).call f args h=some (x,h):=by
 obtain⟨n,v,h',h1,rfl,rfl⟩:=w
 exact⟨n,h1⟩
set_option maxHeartbeats 8000000
theorem rep_four {h:H} {t:Hs.Item} {v:Value} (hr:rep E h t v):∃ q0 q1 q2 q3,v=.agg ⟨[q0,q1,q2,q3]⟩∧[q0,q1,q2,q3].all isOne=true:=by
 obtain⟨k',m',tx',ks'⟩:=t
 obtain⟨sb',sc',e,_⟩:=rep_slice hr
 exact⟨_,_,_,_,e,rfl⟩
theorem rep_four' {h:H} {t:Hs.Item} {a b c d:Value} (hr:rep E h t (.agg ⟨[a,b,c,d]⟩)):[a,b,c,d].all isOne=true:=by
 obtain⟨q0,q1,q2,q3,e,h1⟩:=rep_four hr
 simp only[Value.agg.injEq,Array.mk.injEq] at e
 rw[e];exact h1
theorem repL_one {h:H}:∀ {ks:List Hs.Item} {cs:List Value},repL E h ks cs→cs.all isOne=true
 | [],cs,hr=>by rw[repL] at hr;rw[hr];rfl
 | x::xs,cs,hr=>by
  rw[repL] at hr
  obtain⟨a,b,c,d,l,rfl,h1,h2⟩:=hr
  have e:=rep_four' h1
  have e2:=repL_one h2
  simp only[List.all_cons,List.all_nil,Bool.and_true,Bool.and_eq_true] at e ⊢
  exact⟨e.1,e.2.1,e.2.2.1,e.2.2.2,e2⟩
set_option maxHeartbeats 16000000
def zeroL:List Value:=[.int .i64 0,.int .i64 0,.string ⟨#[]⟩,.slice none 0 0]
theorem item_four {E:Env} {h:H} {t:Hs.Item} {l:List Value} (hr:rep E h t (.agg ⟨l⟩)):∃ a b c d,l=[a,b,c,d]∧[a,b,c,d].all isOne=true:=by
 obtain⟨k',m',tx',ks'⟩:=t
 obtain⟨sb',sc',e,_⟩:=rep_slice hr
 cases e
 exact⟨_,_,_,_,rfl,rfl⟩
theorem qbs23 {a b c d:Value} (h1:[a,b,c,d].all isOne=true) {h:H}:abuildSlice tab 23 1 [(0,.agg ⟨[a,b,c,d]⟩)] h=some (.slice (some (own h.next)) 1 1,h.new (.cells [a,b,c,d] 25 none)):=by
 unfold abuildSlice
 simp only[qty23,qtz25]
 rfl
theorem qza23 (b:Option Addr) (n c:Nat):zeroArg tab 23 (.slice b n c)=some false:=by unfold zeroArg;rw[qty23]
theorem qbu25z:abuild tab 25 []=some (.agg ⟨zeroL⟩):=by unfold abuild;simp only[qty25];rfl
end Go.Proofs.YtofijpbmbmbnhaaDoor
