/- The program's reader: the item of bytes. -/
import Derived.Test.YtofijpbmbmbnhaaDoorHsah
set_option linter.unusedSimpArgs false
set_option linter.unusedVariables false
set_option maxRecDepth 100000
set_option maxHeartbeats 16000000
namespace Go.Proofs.YtofijpbmbmbnhaaDoor
open Go Go.Hs Go.Proofs
variable {E:Env} {I:Known}
theorem fn49:tab.fn.get 49=some Tryd.f49:=by kernel_rfl
theorem qcv31_9 {h:H} {v:Value} {bs:List UInt8} (b:Byt E h v bs):aconvert tab E 31 9 v h=some (.string ⟨⟨bs⟩⟩,h):=by
 unfold aconvert
 rcases b with⟨rfl,rfl⟩|⟨a,c,rfl,_,hc⟩
 ·simp only[qty31,qty9,qty5]
 ·simp only[qty31,qty9,qty5,hc,allBytes_bytesV]
theorem qbu84 (s:Value) (h:s.cells.toList=[s]):abuild tab 84 [(0,s)]=some (.agg ⟨[s,.int .i64 0,.int .i64 0]⟩):=by
 unfold abuild
 simp only[qty84,afill,h]
 rfl
theorem qbu86 (a b c:Value):abuild tab 86 [(0,.agg ⟨[a,b,c]⟩)]=some (.agg ⟨[a,b,c,.int .i64 0]⟩):=by unfold abuild;simp only[qty86];rfl
theorem done_c3 {D:Tab} {E:Env} {fn:Func} {A:Ac} {h:H} {c t u:Tmp} {ty:TypeId} {a:Addr} {v x y:Value} {ex:Ex} {Q:Value→H→Prop} (hex:ex=.normal∨ex=.ret) (hd:A.defers=[]) (hr:fn.results=#[.cell c ty,.tmp t,.tmp u]) (hc:A.get c=.pointer (some a)) (hl:aload D E ty a h=some v) (hv:A.get t=x) (hx:A.get u=y) (hq:Q (.tuple #[v,x,y]) h) :
  (ex=.normal∨ex=.ret)∧∃ h2 v',takeAll A.defers h=some h2∧ares D E fn A h2=some v'∧Q v' h2:=by
 refine⟨hex,h,_,?_,?_,hq⟩
 ·rw[hd];rfl
 ·unfold ares
  rw[hr]
  simp only[aresL,ares1,hc,hl,hv,hx]
theorem whole49 (hI:∀ f args h,(f=49∨f=81)→I f args h=none) {k:Nat} {bs:List UInt8} {p:Nat} {e:Int} {it:Nat} {g:H} (f:Fit g) (b:Src k bs p e it g) (hp:p≤bs.length) (is:Bool) (l:List Value) (hl:l.length=4) (hl1:l.all isOne=true) :
  ∃ n v g',(ev tab E I n).call 49 [.pointer (some (own k)),.agg ⟨l⟩,.bool is] g=some (v,g')∧(Mod (fun j=>j=k) g g'∧v=if is=true then (if p<bs.length then .tuple #[.agg ⟨zeroL⟩,.int .i64 (p:Nat),.int .i64 4] else .tuple #[.agg ⟨l⟩,.int .i64 0,.int .i64 0]) else .tuple #[.agg ⟨zeroL⟩,.int .i64 (p:Nat),.int .i64 e]):=by
 apply Wk (hI _ _ _ (.inl rfl)) fn49 rfl
 intro A0 n0 d0 hA0
 change A0.n=47 at n0
 have q0:A0.get 0=.pointer (some (own k)):=hA0 0 _ rfl
 have q1:A0.get 1=.agg ⟨l⟩:=hA0 1 _ rfl
 have q2:A0.get 2=.bool is:=hA0 2 _ rfl
 clear hA0
 obtain⟨l0,l1,l2,l3,rfl⟩:=four_of hl
 generalize hh1:g.new (.cells (Value.agg ⟨[l0,l1,l2,l3]⟩).cells.toList 25 none)=h1
 have t1:Ahd g h1:=by rw[← hh1];exact Ahd.new0 f rfl
 have b4:h1.blk g.next=some (.cells [l0,l1,l2,l3] 25 none):=by rw[← hh1];exact new_blk_new rfl
 have n1:h1.next=g.next+1:=by rw[← hh1];rfl
 generalize hh2:h1.new (.cells (Value.agg #[.int .i64 0,.int .i64 0,.string ⟨#[]⟩,.slice none 0 0]).cells.toList 25 none)=h2
 have t2:Ahd h1 h2:=by rw[← hh2];exact Ahd.new0 t1.fit rfl
 have b6:h2.blk h1.next=some (.cells zeroL 25 none):=by rw[← hh2];exact new_blk_new rfl
 have t12:=t1.trans t2
 have b4:=t2.grows _ _ b4
 have kl:k<g.next:=f.lt b
 have b2:=b.mod (t12.mod (M:=fun _=>False)) (fun h=>h)
 obtain⟨c0,c1,c2,c3⟩:=b2.at (E:=E)
 have st6:∀ {h:H} {a c d e:Value},[a,c,d,e].all isOne=true→h.blk h1.next=some (.cells zeroL 25 none)→astore tab 25 (own h1.next) (.agg ⟨[a,c,d,e]⟩) h=some (h.setl h1.next (.cells [a,c,d,e] 25 none)):=fun ho hb=>astore_all qty25 hb rfl rfl ho (by simp)
 have ld6:∀ {h:H} {a c d e:Value},[a,c,d,e].all isOne=true→(h.setl h1.next (.cells [a,c,d,e] 25 none)).cells E (own h1.next) 4=some [a,c,d,e]:=fun ho=>blk_cells (setl_same rfl) rfl ho
 have fr:∀ {h:H} {e':Int},Mod (fun j=>j=k) h2 h→Src k bs p e' it h→∃ h3,astore tab 25 (own h1.next) (.agg ⟨zeroL⟩) (fresh h)=some ((fresh h).setl h1.next (.cells zeroL 25 none))∧h.setl h1.next (.cells zeroL 25 none)=h3∧Mod (fun j=>j=k) g h3∧h3.cells E (own h1.next) 4=some zeroL∧h1.next<h.next:=by
  intro h e' m bb
  have b6':=m.blk _ _ (by omega) b6
  have m3:=(Mod.refl (M:=fun j=>j=h1.next) m.fit).setl (B:=.cells zeroL 25 none) rfl rfl (m.fit.lt b6')
  exact⟨_,st6 (h:=fresh h) rfl b6',rfl,Mod.low f ((t12.mod.trans (m.sub (N:=fun j=>j=k∨g.next≤j) fun _ h=>.inl h)).trans (m3.sub fun j hj=>.inr (by omega))) (fun _ h=>h),ld6 rfl,m.fit.lt b6'⟩
 cases is with
 | false=>
  obtain⟨h3,s3,hh3,m3,l3',lt3⟩:=fr (Mod.refl t12.fit) b2
  repeat' (first|with_reducible apply Ws|(apply Wp;focus ((repeat ((with_reducible apply Rr rfl);focus ((try simp +decide only[Oy,n0,q0,q1,q2,qtz25,hh1,hh2]);with_reducible rfl)));with_reducible exact Rn))|(refine W2 (by simp +decide only[Cx,n0,q0,q1,q2];try with_reducible rfl) (fun hb=>?_) (fun hb=>?_)<;>try contradiction)|apply W3|apply W4|apply W5|apply W6)
  refine Wc.drawC 1 (by kernel_rfl) ?_
  (iterate 15 (first|((first|apply Fp rfl rfl rfl|apply FC.new rfl rfl|(apply FC.pureG rfl rfl;(focus (simp +decide only[Gs,n0,q0,q2,Qx,Hx];done));focus rfl));focus ((try simp +decide only[Oy,n0,q0,q2,Qx,Hx]);with_reducible rfl))|(apply FC.skipG rfl rfl;focus (simp +decide only[Gs,n0,q0,q2,Qx,Hx];done))))
  refine FC.nil ?_
  repeat' (first|with_reducible apply Ws|(apply Wp;focus ((repeat ((with_reducible apply Rr rfl);focus ((try simp +decide only[Oy,n0,q2]);with_reducible rfl)));with_reducible exact Rn))|(refine W2 (by simp +decide only[Cx,n0,q2];try with_reducible rfl) (fun hb=>?_) (fun hb=>?_)<;>try contradiction)|apply W3|apply W4|apply W5|apply W6)
  refine Wc.drawQ 1 (by kernel_rfl) ?_
  (iterate 11 ((first|apply Qp rfl rfl rfl|apply FQ.new rfl rfl);focus ((try simp +decide only[Oy,n0,q0,Qx,Hx,c1,c2,qbu25z]);with_reducible rfl)))
  refine FQ.setl (k:=h1.next) rfl rfl lt3 (by simp +decide only[Oy,n0,s3];with_reducible rfl) ?_
  rw[hh3]
  (iterate 2 ((first|apply Qp rfl rfl rfl|apply FQ.new rfl rfl);focus ((try simp +decide only[Oy,n0]);with_reducible rfl)))
  refine FQ.nil ⟨?_,?_⟩
  ·exact allMeet_but [11] 14 [(1,11),(2,11),(3,11),(4,11),(6,11),(7,11),(8,11),(9,11),(5,11),(10,11)] rfl rfl (by kernel_rfl) (fun _ _ _ _ hU e1 e2=>by simp only[List.mem_cons,Prod.mk.injEq,List.not_mem_nil,or_false] at hU;rcases hU with⟨rfl,rfl⟩|⟨rfl,rfl⟩|⟨rfl,rfl⟩|⟨rfl,rfl⟩|⟨rfl,rfl⟩|⟨rfl,rfl⟩|⟨rfl,rfl⟩|⟨rfl,rfl⟩|⟨rfl,rfl⟩|⟨rfl,rfl⟩;(focus (cases e1;cases e2;exact meets_right (l:=[]) rfl rfl (fun _ _=>List.not_mem_nil) rfl (fun j _=>Nat.lt_or_ge _ _)));(focus (cases e1;cases e2;exact meets_right (l:=[]) rfl rfl (fun _ _=>List.not_mem_nil) rfl (fun j _=>Nat.lt_or_ge _ _)));(focus (cases e1;cases e2;exact meets_right (l:=[]) rfl rfl (fun _ _=>List.not_mem_nil) rfl (fun j _=>Nat.lt_or_ge _ _)));(focus (cases e1;cases e2;exact meets_right (l:=[]) rfl rfl (fun _ _=>List.not_mem_nil) rfl (fun j _=>Nat.lt_or_ge _ _)));(focus (cases e1;cases e2;exact meets_right (l:=[]) rfl rfl (fun _ _=>List.not_mem_nil) rfl (fun j _=>Nat.lt_or_ge _ _)));(focus (cases e1;cases e2;exact meets_right (l:=[]) rfl rfl (fun _ _=>List.not_mem_nil) rfl (fun j _=>Nat.lt_or_ge _ _)));(focus (cases e1;cases e2;exact meets_right (l:=[]) rfl rfl (fun _ _=>List.not_mem_nil) rfl (fun j _=>Nat.lt_or_ge _ _)));(focus (cases e1;cases e2;exact meets_right (l:=[]) rfl rfl (fun _ _=>List.not_mem_nil) rfl (fun j _=>Nat.lt_or_ge _ _)));(focus (cases e1;cases e2;exact meets_right (l:=[k]) rfl (by simp +decide only[Oy,reads,pureOp,atV,n0,q0,aadd,own]) (fun j hj=>by have hj:=List.mem_singleton.1 hj;subst hj;simp only[List.mem_singleton];omega) rfl (fun j _=>Nat.lt_or_ge _ _)));(focus (cases e1;cases e2;exact meets_right (l:=[k]) rfl (by simp +decide only[Oy,reads,pureOp,atV,n0,q0,aadd,own]) (fun j hj=>by have hj:=List.mem_singleton.1 hj;subst hj;simp only[List.mem_singleton];omega) rfl (fun j _=>Nat.lt_or_ge _ _))))
  refine Wc.ret ?_
  exact done_c3 (v:=.agg ⟨zeroL⟩) (x:=.int .i64 (p:Nat)) (y:=.int .i64 e) (.inr rfl) (by simp +decide only[Gs,d0]) rfl (show _=Value.pointer (some (own h1.next)) by simp +decide only[Gs,n0]) (by rw[qld25,l3']) (by simp +decide only[Gs,n0]) (by simp +decide only[Gs,n0]) ⟨m3,by simp⟩
 | true=>
  by_cases hlt:p<bs.length
  ·have e1:decide ((p:Int)<(bs.length:Int))=true:=by simp;omega
   obtain⟨nf,g',ck,m,b'⟩:=fail81 (E:=E) (I:=I) (fun args h=>hI _ args h (.inr rfl)) t12.fit.fresh (show Src k bs p e it (fresh h2) from b2) 4 p
   obtain⟨m',_,_,_⟩:=Mod.back t12.fit m
   have b'':Src k bs p 4 it (back h2 g'):=b'.back
   generalize hh4:back h2 g'=h4 at m' b''
   obtain⟨h3,s3,hh3,m3,l3',lt3⟩:=fr m' b''
   obtain⟨_,d1,d2,_⟩:=b''.at (E:=E)
   repeat' (first|with_reducible apply Ws|(apply Wp;focus ((repeat ((with_reducible apply Rr rfl);focus ((try simp +decide only[Oy,n0,q0,q1,q2,qtz25,hh1,hh2]);with_reducible rfl)));with_reducible exact Rn))|(refine W2 (by simp +decide only[Cx,n0,q0,q1,q2];try with_reducible rfl) (fun hb=>?_) (fun hb=>?_)<;>try contradiction)|apply W3|apply W4|apply W5|apply W6)
   refine Wc.drawC 1 (by kernel_rfl) ?_
   (iterate 15 (first|((first|apply Fp rfl rfl rfl|apply FC.new rfl rfl|(apply FC.pureG rfl rfl;(focus (simp +decide only[Gs,n0,q0,q2,Qx,Hx,c0,c1,e1];done));focus rfl));focus ((try simp +decide only[Oy,n0,q0,q2,Qx,Hx,c0,c1,e1]);with_reducible rfl))|(apply FC.skipG rfl rfl;focus (simp +decide only[Gs,n0,q0,q2,Qx,Hx,c0,c1,e1];done))))
   refine FC.nil ?_
   repeat' (first|with_reducible apply Ws|(apply Wp;focus ((repeat ((with_reducible apply Rr rfl);focus ((try simp +decide only[Oy,n0]);with_reducible rfl)));with_reducible exact Rn))|(refine W2 (by simp +decide only[Cx,n0];try with_reducible rfl) (fun hb=>?_) (fun hb=>?_)<;>try contradiction)|apply W3|apply W4|apply W5|apply W6)
   refine Wc.drawQ nf (by kernel_rfl) ?_
   (iterate 8 ((first|apply Qp rfl rfl rfl|apply FQ.new rfl rfl);focus ((try simp +decide only[Oy,n0,q0,Qx,Hx,c1]);with_reducible rfl)))
   refine FQ.mod (h1:=g') (x:=.bool false) rfl rfl (by simp +decide only[Oy,n0,q0,Qx,Hx,ck]) ?_
   rw[hh4]
   (iterate 1 ((first|apply Qp rfl rfl rfl|apply FQ.new rfl rfl);focus ((try simp +decide only[Oy,n0,q0]);with_reducible rfl)))
   refine FQ.nil ⟨?_,?_⟩
   ·exact allMeet_but0 [8] 10 rfl rfl (by kernel_rfl)
   repeat' (first|with_reducible apply Ws|(apply Wp;focus ((repeat ((with_reducible apply Rr rfl);focus ((try simp +decide only[Oy,n0]);with_reducible rfl)));with_reducible exact Rn))|(refine W2 (by simp +decide only[Cx,n0];try with_reducible rfl) (fun hb=>?_) (fun hb=>?_)<;>try contradiction)|apply W3|apply W4|apply W5|apply W6)
   refine Wc.drawQ 1 (by kernel_rfl) ?_
   (iterate 11 ((first|apply Qp rfl rfl rfl|apply FQ.new rfl rfl);focus ((try simp +decide only[Oy,n0,q0,Qx,Hx,d1,d2,qbu25z]);with_reducible rfl)))
   refine FQ.setl (k:=h1.next) rfl rfl lt3 (by simp +decide only[Oy,n0,s3];with_reducible rfl) ?_
   rw[hh3]
   (iterate 2 ((first|apply Qp rfl rfl rfl|apply FQ.new rfl rfl);focus ((try simp +decide only[Oy,n0]);with_reducible rfl)))
   refine FQ.nil ⟨?_,?_⟩
   ·exact allMeet_but [11] 14 [(1,11),(2,11),(3,11),(4,11),(6,11),(7,11),(8,11),(9,11),(5,11),(10,11)] rfl rfl (by kernel_rfl) (fun _ _ _ _ hU e1 e2=>by simp only[List.mem_cons,Prod.mk.injEq,List.not_mem_nil,or_false] at hU;rcases hU with⟨rfl,rfl⟩|⟨rfl,rfl⟩|⟨rfl,rfl⟩|⟨rfl,rfl⟩|⟨rfl,rfl⟩|⟨rfl,rfl⟩|⟨rfl,rfl⟩|⟨rfl,rfl⟩|⟨rfl,rfl⟩|⟨rfl,rfl⟩;(focus (cases e1;cases e2;exact meets_right (l:=[]) rfl rfl (fun _ _=>List.not_mem_nil) rfl (fun j _=>Nat.lt_or_ge _ _)));(focus (cases e1;cases e2;exact meets_right (l:=[]) rfl rfl (fun _ _=>List.not_mem_nil) rfl (fun j _=>Nat.lt_or_ge _ _)));(focus (cases e1;cases e2;exact meets_right (l:=[]) rfl rfl (fun _ _=>List.not_mem_nil) rfl (fun j _=>Nat.lt_or_ge _ _)));(focus (cases e1;cases e2;exact meets_right (l:=[]) rfl rfl (fun _ _=>List.not_mem_nil) rfl (fun j _=>Nat.lt_or_ge _ _)));(focus (cases e1;cases e2;exact meets_right (l:=[]) rfl rfl (fun _ _=>List.not_mem_nil) rfl (fun j _=>Nat.lt_or_ge _ _)));(focus (cases e1;cases e2;exact meets_right (l:=[]) rfl rfl (fun _ _=>List.not_mem_nil) rfl (fun j _=>Nat.lt_or_ge _ _)));(focus (cases e1;cases e2;exact meets_right (l:=[]) rfl rfl (fun _ _=>List.not_mem_nil) rfl (fun j _=>Nat.lt_or_ge _ _)));(focus (cases e1;cases e2;exact meets_right (l:=[]) rfl rfl (fun _ _=>List.not_mem_nil) rfl (fun j _=>Nat.lt_or_ge _ _)));(focus (cases e1;cases e2;exact meets_right (l:=[k]) rfl (by simp +decide only[Oy,reads,pureOp,atV,n0,q0,aadd,own]) (fun j hj=>by have hj:=List.mem_singleton.1 hj;subst hj;simp only[List.mem_singleton];omega) rfl (fun j _=>Nat.lt_or_ge _ _)));(focus (cases e1;cases e2;exact meets_right (l:=[k]) rfl (by simp +decide only[Oy,reads,pureOp,atV,n0,q0,aadd,own]) (fun j hj=>by have hj:=List.mem_singleton.1 hj;subst hj;simp only[List.mem_singleton];omega) rfl (fun j _=>Nat.lt_or_ge _ _))))
   refine Wc.ret ?_
   exact done_c3 (v:=.agg ⟨zeroL⟩) (x:=.int .i64 (p:Nat)) (y:=.int .i64 4) (.inr rfl) (by simp +decide only[Gs,d0]) rfl (show _=Value.pointer (some (own h1.next)) by simp +decide only[Gs,n0]) (by rw[qld25,l3']) (by simp +decide only[Gs,n0]) (by simp +decide only[Gs,n0]) ⟨m3,by rw[if_pos rfl,if_pos hlt]⟩
  ·have e1:decide ((p:Int)<(bs.length:Int))=false:=by simp;omega
   have s3:=st6 hl1 b6
   have m3:=(Mod.refl (M:=fun j=>j=h1.next) t12.fit).setl (B:=.cells [l0,l1,l2,l3] 25 none) rfl rfl (t12.fit.lt b6)
   have l4:h2.cells E (own g.next) 4=some [l0,l1,l2,l3]:=blk_cells b4 rfl hl1
   repeat' (first|with_reducible apply Ws|(apply Wp;focus ((repeat ((with_reducible apply Rr rfl);focus ((try simp +decide only[Oy,n0,q0,q1,q2,qtz25,hh1,hh2]);with_reducible rfl)));with_reducible exact Rn))|(refine W2 (by simp +decide only[Cx,n0,q0,q1,q2];try with_reducible rfl) (fun hb=>?_) (fun hb=>?_)<;>try contradiction)|apply W3|apply W4|apply W5|apply W6)
   refine Wc.drawC 1 (by kernel_rfl) ?_
   (iterate 15 (first|((first|apply Fp rfl rfl rfl|apply FC.new rfl rfl|(apply FC.pureG rfl rfl;(focus (simp +decide only[Gs,n0,q0,q2,Qx,Hx,c0,c1,e1];done));focus rfl));focus ((try simp +decide only[Oy,n0,q0,q2,Qx,Hx,c0,c1,e1]);with_reducible rfl))|(apply FC.skipG rfl rfl;focus (simp +decide only[Gs,n0,q0,q2,Qx,Hx,c0,c1,e1];done))))
   refine FC.nil ?_
   repeat' (first|with_reducible apply Ws|(apply Wp;focus ((repeat ((with_reducible apply Rr rfl);focus ((try simp +decide only[Oy,n0,q2,Qx,Hx,l4,s3]);with_reducible rfl)));with_reducible exact Rn))|(refine W2 (by simp +decide only[Cx,n0,q2];try with_reducible rfl) (fun hb=>?_) (fun hb=>?_)<;>try contradiction)|apply W3|apply W4|apply W5|apply W6)
   exact done_c3 (v:=.agg ⟨[l0,l1,l2,l3]⟩) (x:=.int .i64 0) (y:=.int .i64 0) (.inr rfl) (by simp +decide only[Gs,d0]) rfl (show _=Value.pointer (some (own h1.next)) by simp +decide only[Gs,n0]) (by rw[qld25,ld6 hl1]) (by simp +decide only[Gs,n0]) (by simp +decide only[Gs,n0]) ⟨Mod.low f (t12.mod.trans (m3.sub (N:=fun j=>j=k∨g.next≤j) fun j hj=>.inr (by omega))) (fun _ h=>h),by rw[if_pos rfl,if_neg hlt]⟩
def DecQ (E:Env) (r:Rd Hs.Item) (v:Value) (g:H):Prop:=match r with
 | .ok t _ _=>∃ l,v=.tuple #[.agg ⟨l⟩,.int .i64 0,.int .i64 0]∧rep E g t (.agg ⟨l⟩)
 | .bad p e=>v=.tuple #[.agg ⟨zeroL⟩,.int .i64 (p:Nat),.int .i64 e]
theorem qcv3_5 (n:Int) {h:H}:aconvert tab E 3 5 (.int .i64 n) h=some (.int .u8 (IntKind.u8.wrap n),h):=by unfold aconvert;simp only[qty5,qty3]
theorem qza31 (b:Option Addr) (n c:Nat):zeroArg tab 31 (.slice b n c)=some false:=by unfold zeroArg;rw[qty31]
theorem qbs31 (x:Int) {h:H}:abuildSlice tab 31 1 [(0,.int .u8 x)] h=some (.slice (some (own h.next)) 1 1,h.new (.cells [.int .u8 x] 5 none)):=by
 unfold abuildSlice
 simp only[qty31,qtz5]
 rfl
theorem one_byte {h:H} (f:Fit h) (x:Nat) (hx:x<256):∃ h1,Ahd h h1∧h.new (.cells [.int .u8 (x:Nat)] 5 none)=h1∧Byt E h1 (.slice (some (own h.next)) 1 1) [UInt8.ofNat x]:=by
 have t:Ahd h (h.new (.cells [.int .u8 (x:Nat)] 5 none)):=Ahd.new0 f rfl
 have b:(h.new (.cells [.int .u8 (x:Nat)] 5 none)).blk h.next=some (.cells [.int .u8 (x:Nat)] 5 none):=new_blk_new rfl
 refine⟨_,t,rfl,.inr ⟨own h.next,1,rfl,Nat.le_refl _,?_⟩⟩
 have:=blk_cells (E:=E) b rfl rfl
 rw[show bytesV [UInt8.ofNat x]=[.int .u8 (x:Nat)] by simp only[bytesV,List.map_cons,List.map_nil,ofNat_toNat hx]]
 exact this
theorem fn101:tab.fn.get 101=some Tryd.f101:=by kernel_rfl
theorem fn102:tab.fn.get 102=some Tryd.f102:=by kernel_rfl
theorem plain101 (hI:∀ args h,I 101 args h=none) {h:H} (c:UInt8) :
  ∃ n v h',(ev tab E I n).call 101 [.int .u8 (c.toNat:Nat)] h=some (v,h')∧(v=.bool (plainB c)∧h'=h):=by
 apply Wk (hI _ _) fn101 rfl
 intro A0 n0 d0 hA0
 change A0.n=17 at n0
 have q0:A0.get 0=.int .u8 (c.toNat:Nat):=hA0 0 _ rfl
 clear hA0
 unfold plainB
 by_cases h1:32≤c.toNat
 rotate_left
 ·have e1:decide ((c.toNat:Int)≥32)=false:=decide_eq_false (by omega)
  rw[decide_eq_false h1]
  (repeat' (with_reducible apply Ws));(apply Wn 1;focus ((repeat ((with_reducible apply Rr rfl);focus ((try simp +decide only[Oz,n0]);with_reducible rfl)));with_reducible exact Rn))
  (repeat' (with_reducible apply Ws));(apply Wn 1;focus ((repeat (first|((first|with_reducible apply Rr rfl|((with_reducible apply Rg);(focus rfl);(focus rfl);focus (simp +decide only[Oz,n0,q0,e1];done)));focus ((try simp +decide only[Oz,n0,q0,e1]);with_reducible rfl))|((with_reducible apply Rs);(focus rfl);(focus rfl);focus (simp +decide only[Oz,n0,q0,e1];done))));with_reducible exact Rn))
  repeat' (first|with_reducible apply Ws|(apply Wp;focus ((repeat ((with_reducible apply Rr rfl);focus ((try simp +decide only[Oz,n0]);with_reducible rfl)));with_reducible exact Rn))|(refine W2 (by simp +decide only[Cz,n0];try with_reducible rfl) (fun hb=>?_) (fun hb=>?_)<;>try contradiction)|apply W3|apply W4|apply W5|apply W6)
  exact done_q (v:=.bool false) (.inr rfl) (by simp +decide only[Gz,d0]) rfl (by simp +decide only[Gz,n0]) ⟨rfl,rfl⟩
 have e1:decide ((c.toNat:Int)≥32)=true:=decide_eq_true (by omega)
 rw[decide_eq_true h1]
 by_cases h2:c.toNat≤126
 rotate_left
 ·have e2:decide ((c.toNat:Int)≤126)=false:=decide_eq_false (by omega)
  rw[decide_eq_false h2]
  (repeat' (with_reducible apply Ws));(apply Wn 1;focus ((repeat ((with_reducible apply Rr rfl);focus ((try simp +decide only[Oz,n0]);with_reducible rfl)));with_reducible exact Rn))
  (repeat' (with_reducible apply Ws));(apply Wn 1;focus ((repeat (first|((first|with_reducible apply Rr rfl|((with_reducible apply Rg);(focus rfl);(focus rfl);focus (simp +decide only[Oz,n0,q0,e1,e2];done)));focus ((try simp +decide only[Oz,n0,q0,e1,e2]);with_reducible rfl))|((with_reducible apply Rs);(focus rfl);(focus rfl);focus (simp +decide only[Oz,n0,q0,e1,e2];done))));with_reducible exact Rn))
  repeat' (first|with_reducible apply Ws|(apply Wp;focus ((repeat ((with_reducible apply Rr rfl);focus ((try simp +decide only[Oz,n0]);with_reducible rfl)));with_reducible exact Rn))|(refine W2 (by simp +decide only[Cz,n0];try with_reducible rfl) (fun hb=>?_) (fun hb=>?_)<;>try contradiction)|apply W3|apply W4|apply W5|apply W6)
  exact done_q (v:=.bool false) (.inr rfl) (by simp +decide only[Gz,d0]) rfl (by simp +decide only[Gz,n0]) ⟨rfl,rfl⟩
 have e2:decide ((c.toNat:Int)≤126)=true:=decide_eq_true (by omega)
 rw[decide_eq_true h2]
 by_cases h3:c.toNat=34
 ·have e3:decide ((c.toNat:Int)=34)=true:=decide_eq_true (by omega)
  rw[decide_eq_true h3]
  (repeat' (with_reducible apply Ws));(apply Wn 1;focus ((repeat ((with_reducible apply Rr rfl);focus ((try simp +decide only[Oz,n0]);with_reducible rfl)));with_reducible exact Rn))
  (repeat' (with_reducible apply Ws));(apply Wn 1;focus ((repeat (first|((first|with_reducible apply Rr rfl|((with_reducible apply Rg);(focus rfl);(focus rfl);focus (simp +decide only[Oz,n0,q0,e1,e2,e3];done)));focus ((try simp +decide only[Oz,n0,q0,e1,e2,e3]);with_reducible rfl))|((with_reducible apply Rs);(focus rfl);(focus rfl);focus (simp +decide only[Oz,n0,q0,e1,e2,e3];done))));with_reducible exact Rn))
  repeat' (first|with_reducible apply Ws|(apply Wp;focus ((repeat ((with_reducible apply Rr rfl);focus ((try simp +decide only[Oz,n0]);with_reducible rfl)));with_reducible exact Rn))|(refine W2 (by simp +decide only[Cz,n0];try with_reducible rfl) (fun hb=>?_) (fun hb=>?_)<;>try contradiction)|apply W3|apply W4|apply W5|apply W6)
  exact done_q (v:=.bool false) (.inr rfl) (by simp +decide only[Gz,d0]) rfl (by simp +decide only[Gz,n0]) ⟨rfl,rfl⟩
 have e3:decide ((c.toNat:Int)=34)=false:=decide_eq_false (by omega)
 rw[decide_eq_false h3]
 by_cases h4:c.toNat=92
 ·have e4:decide ((c.toNat:Int)=92)=true:=decide_eq_true (by omega)
  rw[decide_eq_true h4]
  (repeat' (with_reducible apply Ws));(apply Wn 1;focus ((repeat ((with_reducible apply Rr rfl);focus ((try simp +decide only[Oz,n0]);with_reducible rfl)));with_reducible exact Rn))
  (repeat' (with_reducible apply Ws));(apply Wn 1;focus ((repeat (first|((first|with_reducible apply Rr rfl|((with_reducible apply Rg);(focus rfl);(focus rfl);focus (simp +decide only[Oz,n0,q0,e1,e2,e3,e4];done)));focus ((try simp +decide only[Oz,n0,q0,e1,e2,e3,e4]);with_reducible rfl))|((with_reducible apply Rs);(focus rfl);(focus rfl);focus (simp +decide only[Oz,n0,q0,e1,e2,e3,e4];done))));with_reducible exact Rn))
  repeat' (first|with_reducible apply Ws|(apply Wp;focus ((repeat ((with_reducible apply Rr rfl);focus ((try simp +decide only[Oz,n0]);with_reducible rfl)));with_reducible exact Rn))|(refine W2 (by simp +decide only[Cz,n0];try with_reducible rfl) (fun hb=>?_) (fun hb=>?_)<;>try contradiction)|apply W3|apply W4|apply W5|apply W6)
  exact done_q (v:=.bool false) (.inr rfl) (by simp +decide only[Gz,d0]) rfl (by simp +decide only[Gz,n0]) ⟨rfl,rfl⟩
 have e4:decide ((c.toNat:Int)=92)=false:=decide_eq_false (by omega)
 rw[decide_eq_false h4]
 (repeat' (with_reducible apply Ws));(apply Wn 1;focus ((repeat ((with_reducible apply Rr rfl);focus ((try simp +decide only[Oz,n0]);with_reducible rfl)));with_reducible exact Rn))
 (repeat' (with_reducible apply Ws));(apply Wn 1;focus ((repeat (first|((first|with_reducible apply Rr rfl|((with_reducible apply Rg);(focus rfl);(focus rfl);focus (simp +decide only[Oz,n0,q0,e1,e2,e3,e4];done)));focus ((try simp +decide only[Oz,n0,q0,e1,e2,e3,e4]);with_reducible rfl))|((with_reducible apply Rs);(focus rfl);(focus rfl);focus (simp +decide only[Oz,n0,q0,e1,e2,e3,e4];done))));with_reducible exact Rn))
 repeat' (first|with_reducible apply Ws|(apply Wp;focus ((repeat ((with_reducible apply Rr rfl);focus ((try simp +decide only[Oz,n0]);with_reducible rfl)));with_reducible exact Rn))|(refine W2 (by simp +decide only[Cz,n0];try with_reducible rfl) (fun hb=>?_) (fun hb=>?_)<;>try contradiction)|apply W3|apply W4|apply W5|apply W6)
 exact done_q (v:=.bool true) (.inr rfl) (by simp +decide only[Gz,d0]) rfl (by simp +decide only[Gz,n0]) ⟨rfl,rfl⟩
theorem shrB4 (a:Nat):ashift .shr .u8 (a:Nat) 4=some (.int .u8 ((a / 16:Nat):Int)):=by
 show some (Value.int .u8 ((a:Int).fdiv 16))=_
 rw[Int.fdiv_eq_ediv_of_nonneg _ (by decide)]
 rfl
theorem and15 (c:Nat) (h:c<256):IntKind.u8.wrap (((BitVec.ofInt IntKind.u8.bits (c:Int) &&& BitVec.ofInt IntKind.u8.bits 15).toNat:Nat):Int)=((c % 16:Nat):Int):=by
 have:=and_u8 c 15 h (by omega)
 rw[show c &&& 15=c % 16 from Nat.and_two_pow_sub_one_eq_mod c 4] at this
 exact this
theorem hex_lit:∀ i:Fin 16,([48,49,50,51,52,53,54,55,56,57,97,98,99,100,101,102]:List UInt8)[i.val]? = some (hexB i.val):=by decide +kernel
theorem ixH (k:IntKind) (i:Nat) (hi:i<16):aindex tab 9 (.string ⟨#[48,49,50,51,52,53,54,55,56,57,97,98,99,100,101,102]⟩) (.int k (i:Nat))=some (.int .u8 ((hexB i).toNat:Nat)):=by
 have h1:=hex_lit ⟨i,hi⟩
 generalize hL:([48,49,50,51,52,53,54,55,56,57,97,98,99,100,101,102]:List UInt8)=L at h1 ⊢
 have h2:inRange (i:Nat) L.length=true:=by
  show Nat.blt i _=true
  rw[Nat.blt_eq]
  exact (List.getElem?_eq_some_iff.1 h1).1
 have h3:L[i]? = some (hexB i):=h1
 unfold aindex
 simp only[qty9,List.toList_toArray,h2,Int.toNat_natCast,h3]
theorem bld153 (a b:Int):abuild tab 153 [(0,.int .u8 a),(1,.int .u8 b)]=some (.agg ⟨[.int .u8 a,.int .u8 b]⟩):=by
 unfold abuild
 simp only[qty153]
 rfl
theorem escape102 (hI:∀ args h,I 102 args h=none) {h:H} (f:Fit h) (c:UInt8) :
  ∃ n v h',(ev tab E I n).call 102 [.int .u8 (c.toNat:Nat)] h=some (v,h')∧(v=.agg ⟨[.int .u8 ((hexB (c.toNat / 16)).toNat:Nat),.int .u8 ((hexB (c.toNat % 16)).toNat:Nat)]⟩∧Mod (fun _=>False) h h'):=by
 have hc:c.toNat<256:=c.toNat_lt
 have t1:Ahd h (h.new (.cells (Value.agg #[.int .u8 0,.int .u8 0]).cells.toList 153 none)):=Ahd.new0 f rfl
 have b1:(h.new (.cells (Value.agg #[.int .u8 0,.int .u8 0]).cells.toList 153 none)).blk h.next=some (.cells [.int .u8 0,.int .u8 0] 153 none):=new_blk_new rfl
 generalize hh1:h.new (.cells (Value.agg #[.int .u8 0,.int .u8 0]).cells.toList 153 none)=h1 at t1 b1
 have hk:=t1.fit.lt b1
 have st:astore tab 153 (own h.next) (.agg ⟨[.int .u8 ((hexB (c.toNat / 16)).toNat:Nat),.int .u8 ((hexB (c.toNat % 16)).toNat:Nat)]⟩) (fresh h1)=some ((fresh h1).setl h.next (.cells [.int .u8 ((hexB (c.toNat / 16)).toNat:Nat),.int .u8 ((hexB (c.toNat % 16)).toNat:Nat)] 153 none)):=astore_all (g:=fresh h1) qty153 b1 rfl rfl rfl (by simp)
 have b2:=setl_same (h:=h1) (k:=h.next) (B:=.cells [.int .u8 ((hexB (c.toNat / 16)).toNat:Nat),.int .u8 ((hexB (c.toNat % 16)).toNat:Nat)] 153 none) rfl
 have M2:=(Mod.refl (M:=fun k=>k=h.next) t1.fit).setl (k:=h.next) (B:=.cells [.int .u8 ((hexB (c.toNat / 16)).toNat:Nat),.int .u8 ((hexB (c.toNat % 16)).toNat:Nat)] 153 none) rfl rfl hk
 apply Wk (hI _ _) fn102 rfl
 intro A0 n0 d0 hA0
 change A0.n=10 at n0
 have q0:A0.get 0=.int .u8 (c.toNat:Nat):=hA0 0 _ rfl
 clear hA0
 (repeat' (with_reducible apply Ws));(apply Wn 1;focus ((repeat ((with_reducible apply Rr rfl);focus ((try simp +decide only[Oz,n0,qtz153,hh1]);with_reducible rfl)));with_reducible exact Rn))
 refine Wc.forget (fun A=>A.n=10∧A.defers=[]∧A.get 0=.int .u8 (c.toNat:Nat)∧A.get 2=.pointer (some (own h.next))) (by and_intros<;>simp +decide only[Gz,n0,d0,q0]<;>rfl) ?_
 rintro A0 ⟨n0,d0,q0,q2⟩
 repeat' (with_reducible apply Wc.seq)
 refine Wc.drawQ 1 (by kernel_rfl) ?_
 (iterate 7 ((first|apply Qp rfl rfl rfl|apply FQ.new rfl rfl);focus ((try simp +decide only[Oz,n0,q0,shrB4,ixH _ _ (show c.toNat / 16<16 by omega),and15 _ hc,ixH _ _ (show c.toNat % 16<16 by omega),bld153]);with_reducible rfl)))
 refine FQ.setl (k:=h.next) (B:=.cells [.int .u8 ((hexB (c.toNat / 16)).toNat:Nat),.int .u8 ((hexB (c.toNat % 16)).toNat:Nat)] 153 none) (x:=undef) rfl rfl hk (by simp +decide only[Oz,n0,q2,st]) ?_
 refine FQ.nil ⟨?_,?_⟩
 ·refine allMeet_last (l:=[_,_,_,_,_,_,_]) ?_ (by kernel_rfl)
  simp only[List.all_cons,calm,List.isEmpty_nil,Bool.true_and,List.all_nil,Bool.and_true]
  rfl
 repeat' (first|with_reducible apply Ws|(apply Wp;focus ((repeat ((with_reducible apply Rr rfl);focus ((try simp +decide only[Oz,n0]);with_reducible rfl)));with_reducible exact Rn))|(refine W2 (by simp +decide only[Cz,n0];try with_reducible rfl) (fun hb=>?_) (fun hb=>?_)<;>try contradiction)|apply W3|apply W4|apply W5|apply W6)
 refine done_cell (.inr rfl) (by simp +decide only[Gz,d0]) rfl (show _=Value.pointer (some (own h.next)) by simp +decide only[Gz,n0,q2]) (by rw[qld153,blk_cells b2 (n:=2) rfl rfl]) ⟨rfl,(t1.mod.trans M2).low (M:=fun _=>False) f (fun k hk=>.inr (Nat.le_of_eq (Eq.symm hk)))⟩
def says101:Says:=fun s f args _ v=>(f=101∧s=0∧∃ c:UInt8,args=[.int .u8 (c.toNat:Nat)]∧v=.bool (plainB c))∨(f=102∧s=0∧∃ c:UInt8,args=[.int .u8 (c.toNat:Nat)]∧v=.agg ⟨[.int .u8 ((hexB (c.toNat / 16)).toNat:Nat),.int .u8 ((hexB (c.toNat % 16)).toNat:Nat)]⟩)
theorem byte_one {c c':UInt8} (h:([.int .u8 (c.toNat:Nat)]:List Value)=[.int .u8 (c'.toNat:Nat)]):c=c':=by
 simp only[List.cons.injEq,Value.int.injEq,true_and,and_true] at h
 exact UInt8.toNat_inj.1 (by omega)
theorem one101:One says101:=by
 rintro s s' f args h v v' (⟨rfl,_,c,rfl,rfl⟩|⟨rfl,_,c,rfl,rfl⟩) (⟨e,_,c',he,rfl⟩|⟨e,_,c',he,rfl⟩)
 ·rw[byte_one he]
 ·cases e
 ·cases e
 ·rw[byte_one he]
theorem shown101 (hI:∀ f args h,(f=101∨f=102)→I f args h=none):ShownF tab E I says101:=by
 have hJ:upTo says101 I 0=I:=by funext f args h;exact upTo_none (fun _ _ hs=>absurd hs (Nat.not_lt_zero _))
 rintro sz f args h v (⟨rfl,rfl,c,rfl,rfl⟩|⟨rfl,rfl,c,rfl,rfl⟩) hfit
 ·refine⟨rfl,?_⟩
  rw[hJ]
  obtain⟨n,v,h',c1,rfl,rfl⟩:=plain101 (E:=E) (I:=I) (fun args h=>hI _ args h (.inl rfl)) (h:=fresh h) c
  exact⟨n,_,c1,rfl⟩
 ·refine⟨rfl,?_⟩
  rw[hJ]
  obtain⟨n,v,h',c1,rfl,M⟩:=escape102 (E:=E) (I:=I) (fun args h=>hI _ args h (.inr rfl)) hfit c
  exact⟨n,_,c1,M.quiet⟩
structure Kq (I:Known):Prop where
 k101:∀ (c:UInt8) h,I 101 [.int .u8 (c.toNat:Nat)] h=some (some (.bool (plainB c),h))
 k102:∀ (c:UInt8) h,I 102 [.int .u8 (c.toNat:Nat)] h=some (some (.agg ⟨[.int .u8 ((hexB (c.toNat / 16)).toNat:Nat),.int .u8 ((hexB (c.toNat % 16)).toNat:Nat)]⟩,h))
theorem fn113:tab.fn.get 113=some Tryd.f113:=by kernel_rfl
noncomputable def loop113:Code:=loopOf Tryd.f113
theorem qty21:tab.ty.get 21=some ⟨.int .i32,1,4,some (.int .i32 0),true⟩:=by kernel_rfl
def hexE:Nat→List Ent
 | 0=>[]
 | n+1=>hexE n++[⟨.int .u8 ((hexB n).toNat:Nat),.int .u8 (n:Nat),n⟩]
theorem aeq5 (a b:Int):aeq tab 10000 5 (.int .u8 a) (.int .u8 b)=some (decide (a=b)):=by
 unfold aeq
 simp only[qty5]
 rfl
theorem key5 (a:Int):keyOk tab 5 (.int .u8 a)=true:=by
 unfold keyOk
 rw[qty5]
def findH (c:Nat):Nat→Option Nat
 | 0=>none
 | n+1=>match findH c n with
  | some i=>some i
  | none=>if c=(hexB n).toNat then some n else none
theorem findE_append (D:Tab) (kt:TypeId) (k:Value):∀ (l:List Ent) (e:Ent) (i:Nat) (r:Option (Nat×Value)),findE D kt k l i=some r→findE D kt k (l++[e]) i=match r with
   | some x=>some (some x)
   | none=>match aeq D 10000 kt k e.key with
    | some true=>some (some (i+l.length,e.val))
    | some false=>some none
    | none=>none
 | [],e,i,r,h=>by
  cases h
  rw[List.nil_append,findE]
  simp only[findE]
  rfl
 | x::l,e,i,r,h=>by
  rw[List.cons_append,findE]
  rw[findE] at h
  cases hx:aeq D 10000 kt k x.key with
  | none=>rw[hx] at h;cases h
  | some b=>
   rw[hx] at h
   cases b with
   | true=>cases h;rfl
   | false=>
    have:=findE_append D kt k l e (i+1) r h
    simp only[] at h ⊢
    rw[this]
    cases r with
    | some y=>rfl
    | none=>simp only[List.length_cons];rw[show i+1+l.length=i+(l.length+1) by omega]
theorem hexE_len:∀ n,(hexE n).length=n
 | 0=>rfl
 | n+1=>by rw[hexE,List.length_append,hexE_len n];rfl
theorem find_hexE (c:Nat):∀ n,findE tab 5 (.int .u8 (c:Nat)) (hexE n) 0=some ((findH c n).map fun i=>(i,.int .u8 (i:Nat)))
 | 0=>rfl
 | n+1=>by
  rw[hexE,findE_append _ _ _ _ _ _ _ (find_hexE c n),findH]
  cases h:findH c n with
  | some i=>rfl
  | none=>
   simp only[Option.map_none,aeq5,hexE_len,Nat.zero_add]
   by_cases hc:c=(hexB n).toNat
   ·rw[if_pos hc,decide_eq_true (by omega)];rfl
   ·rw[if_neg hc,decide_eq_false (by omega)];rfl
theorem findH_new:∀ i:Fin 16,findH (hexB i.val).toNat i.val=none:=by decide +kernel
theorem findH_val':∀ i:Fin 256,findH i.val 16=valB (UInt8.ofNat i.val):=by decide +kernel
theorem findH_val (c:UInt8):findH c.toNat 16=valB c:=by
 have:=findH_val' ⟨c.toNat,c.toNat_lt⟩
 simpa using this
theorem decode_hex:∀ i:Fin 16,Utf8.decode ⟨#[48,49,50,51,52,53,54,55,56,57,97,98,99,100,101,102]⟩ i.val=((hexB i.val).toNat,1):=by decide +kernel
theorem valB_hex':∀ i:Fin 256,∀ v,valB (UInt8.ofNat i.val)=some v→v<16∧hexB v=UInt8.ofNat i.val:=by decide +kernel
theorem valB_hex {c:UInt8} {v:Nat} (h:valB c=some v):v<16∧hexB v=c:=by
 have:=valB_hex' ⟨c.toNat,c.toNat_lt⟩ v (by simpa using h)
 simpa using this
def sHex:ByteArray:=⟨#[48,49,50,51,52,53,54,55,56,57,97,98,99,100,101,102]⟩
theorem range113 (h:H):arange tab 9 (.string ⟨#[48,49,50,51,52,53,54,55,56,57,97,98,99,100,101,102]⟩) h=some (.pointer (some (own h.next)),h.new (.siter sHex 0)):=by
 unfold arange
 rw[qty9]
 rfl
theorem next113 {k i:Nat} {h:H} (hb:h.blk k=some (.siter sHex i)) (hi:i<16):anext (.pointer (some (own k))) true h=some (.tuple #[.bool true,.int .i64 (i:Nat),.int .i32 ((hexB i).toNat:Nat)],h.setl k (.siter sHex (i+1))):=by
 have h1:Nat.blt i sHex.data.toList.length=true:=by rw[Nat.blt_eq];exact hi
 have h2:Utf8.decode sHex i=((hexB i).toNat,1):=decode_hex ⟨i,hi⟩
 show (match h.blk k with|some (.siter s pos)=>_|_=>_)=_
 rw[hb]
 simp only[h1,h2]
 rfl
theorem next113e {k:Nat} {h:H} (hb:h.blk k=some (.siter sHex 16)):anext (.pointer (some (own k))) true h=some (.tuple #[.bool false],h):=by
 show (match h.blk k with|some (.siter s pos)=>_|_=>_)=_
 rw[hb]
 rfl
theorem upd113 {k i:Nat} {h:H} (hb:h.blk k=some (.map (hexE i) i)) (hi:i<16):amapUpdate tab 170 (.map (some k)) (.int .u8 ((hexB i).toNat:Nat)) (.int .u8 (i:Nat)) h=some (undef,h.setl k (.map (hexE (i+1)) (i+1))):=by
 unfold amapUpdate
 simp only[qty170,hb,key5,find_hexE,findH_new ⟨i,hi⟩,Option.map_none]
 rfl
theorem look170 {k:Nat} {h:H} (hb:h.blk k=some (.map (hexE 16) 16)) (c:UInt8) (ok:Bool):alookup tab 170 (.map (some k)) (.int .u8 (c.toNat:Nat)) ok h=some (withOk ok (.int .u8 ((valB c).getD 0:Nat)) (valB c).isSome):=by
 unfold alookup aentries
 simp only[qty170,hb,key5,find_hexE,findH_val]
 cases valB c with
 | some v=>rfl
 | none=>simp only[Option.map_none,qtz5];rfl
theorem qcv21 (n:Int) {h:H}:aconvert tab E 21 5 (.int .i32 n) h=some (.int .u8 (IntKind.u8.wrap n),h):=by unfold aconvert;simp only[qty5,qty21]
theorem values113 (hI:∀ args h,I 113 args h=none) {g:H} (f:Fit g) :
  ∃ n v g',(ev tab E I n).call 113 [] g=some (v,g')∧∃ r,v=.map (some r)∧g.next≤r∧g'.blk r=some (.map (hexE 16) 16)∧Ahd g g':=by
 have t1:Ahd g (g.new (.map [] 0)):=Ahd.new0 f rfl
 have b1:(g.new (.map [] 0)).blk g.next=some (.map (hexE 0) 0):=new_blk_new rfl
 have n1:(g.new (.map [] 0)).next=g.next+1:=rfl
 generalize hh1:g.new (.map [] 0)=h1 at t1 b1 n1
 have t2:Ahd h1 (h1.new (.siter sHex 0)):=Ahd.new0 t1.fit rfl
 have b2:(h1.new (.siter sHex 0)).blk h1.next=some (.siter sHex 0):=new_blk_new rfl
 have n2:(h1.new (.siter sHex 0)).next=h1.next+1:=rfl
 have rg:=range113 h1
 generalize h1.new (.siter sHex 0)=h2 at t2 b2 n2 rg
 have b1:=t2.grows _ _ b1
 have hne:h1.next≠g.next:=by omega
 have key:∀ (r i:Nat) (A0:Ac) (h:H),r=16-i→i≤16→A0.n=16→A0.defers=[]→A0.get 1=.map (some g.next)→A0.get 5=.pointer (some (own h1.next))→Ahd g h→h.blk g.next=some (.map (hexE i) i)→h.blk h1.next=some (.siter sHex i)→
   Wc tab E I ⟨113,none⟩ (.loop loop113) A0 h (fun ex A' h'=>ex=.exit 0∧A'.n=16∧A'.defers=[]∧A'.get 1=.map (some g.next)∧Ahd g h'∧h'.blk g.next=some (.map (hexE 16) 16)):=by
  intro r
  induction r with
  | zero=>
   intro i A0 h hr hi n0 d0 q1 q5 T c1 c2
   obtain rfl:i=16:=by omega
   have nx:=next113e c2
   apply Wc.loop
   simp only[loop113,loopOf,firstLoop,Option.getD,Tryd.f113]
   repeat' (first|with_reducible apply Ws|(apply Wp;focus ((repeat ((with_reducible apply Rr rfl);focus ((try simp +decide only[Oz,n0,q1,q5,nx]);with_reducible rfl)));with_reducible exact Rn))|(refine W2 (by simp +decide only[Cz,n0,q1,q5,nx];try with_reducible rfl) (fun hb=>?_) (fun hb=>?_)<;>try contradiction)|apply W3|apply W4|apply W5|apply W6)
   exact⟨rfl,by simp +decide only[Gz,n0],by simp +decide only[Gz,d0],by simp +decide only[Gz,n0,q1],T,c1⟩
  | succ r ih=>
   intro i A0 h hr hi n0 d0 q1 q5 T c1 c2
   have hi16:i<16:=by omega
   have nx:=next113 c2 hi16
   have l1:=T.fit.lt c1
   have l2:=T.fit.lt c2
   have T1:=T.setl (k:=h1.next) (B:=.siter sHex (i+1)) rfl (by omega) l2 f
   have c2':=setl_same (h:=h) (k:=h1.next) (B:=.siter sHex (i+1)) rfl
   have c1':(h.setl h1.next (.siter sHex (i+1))).blk g.next=some (.map (hexE i) i):=by rw[setl_ne (by omega)];exact c1
   generalize h.setl h1.next (.siter sHex (i+1))=h3 at nx T1 c1' c2'
   have up:=upd113 c1' hi16
   have T2:=T1.setl (k:=g.next) (B:=.map (hexE (i+1)) (i+1)) rfl (Nat.le_refl _) (T1.fit.lt c1') f
   have c1'':=setl_same (h:=h3) (k:=g.next) (B:=.map (hexE (i+1)) (i+1)) rfl
   have c2'':(h3.setl g.next (.map (hexE (i+1)) (i+1))).blk h1.next=some (.siter sHex (i+1)):=by rw[setl_ne hne];exact c2'
   have w1:IntKind.u8.wrap (((hexB i).toNat:Nat):Int)=((hexB i).toNat:Nat):=wrapU8 (hexB i).toNat_lt
   have w2:IntKind.u8.wrap ((i:Nat):Int)=(i:Nat):=wrapU8 (by omega)
   apply Wc.loop
   simp only[loop113,loopOf,firstLoop,Option.getD,Tryd.f113]
   repeat' (first|with_reducible apply Ws|(apply Wp;focus ((repeat ((with_reducible apply Rr rfl);focus ((try simp +decide only[Oz,n0,q1,q5,nx,qcv21,qcv3_5,w1,w2,up]);with_reducible rfl)));with_reducible exact Rn))|(refine W2 (by simp +decide only[Cz,n0,q1,q5,nx,qcv21,qcv3_5,w1,w2,up];try with_reducible rfl) (fun hb=>?_) (fun hb=>?_)<;>try contradiction)|apply W3|apply W4|apply W5|apply W6)
   refine ih (i+1) _ _ (by omega) (by omega) ?_ ?_ ?_ ?_ T2 c1'' c2''
   ·simp +decide only[Gz,n0]
   ·simp +decide only[Gz,d0]
   ·simp +decide only[Gz,n0,q1]
   ·simp +decide only[Gz,n0,q5]
 apply Wk (hI _ _) fn113 rfl
 intro A0 n0 d0 hA0
 change A0.n=16 at n0
 clear hA0
 (repeat' (with_reducible apply Ws));(apply Wn 1;focus ((repeat ((with_reducible apply Rr rfl);focus ((try simp +decide only[Oz,n0,qtz170]);with_reducible rfl)));with_reducible exact Rn))
 (repeat' (with_reducible apply Ws));(apply Wn 1;focus ((repeat ((with_reducible apply Rr rfl);focus ((try simp +decide only[Oz,n0,hh1]);with_reducible rfl)));with_reducible exact Rn))
 (repeat' (with_reducible apply Ws));(apply Wn 1;focus ((repeat ((with_reducible apply Rr rfl);focus ((try simp +decide only[Oz,n0,rg]);with_reducible rfl)));with_reducible exact Rn))
 refine Wc.forget (fun A=>A.n=16∧A.defers=[]∧A.get 1=.map (some g.next)∧A.get 5=.pointer (some (own h1.next))) (by and_intros<;>simp +decide only[Gz,n0,d0,n0]<;>rfl) ?_
 rintro A0 ⟨n0,d0,q1,q5⟩
 repeat' (first|with_reducible apply Ws|(apply Wp;focus ((repeat ((with_reducible apply Rr rfl);focus ((try simp +decide only[Oz,n0]);with_reducible rfl)));with_reducible exact Rn))|(refine W2 (by simp +decide only[Cz,n0];try with_reducible rfl) (fun hb=>?_) (fun hb=>?_)<;>try contradiction)|apply W3|apply W4|apply W5|apply W6)
 refine (key 16 0 A0 h2 rfl (by omega) n0 d0 q1 q5 (t1.trans t2) b1 b2).mono ?_
 rintro ex A0 h' ⟨rfl,n0,d0,q1,T,b⟩
 simp only[if_true]
 repeat' (first|with_reducible apply Ws|(apply Wp;focus ((repeat ((with_reducible apply Rr rfl);focus ((try simp +decide only[Oz,n0,q1]);with_reducible rfl)));with_reducible exact Rn))|(refine W2 (by simp +decide only[Cz,n0,q1];try with_reducible rfl) (fun hb=>?_) (fun hb=>?_)<;>try contradiction)|apply W3|apply W4|apply W5|apply W6)
 refine done_q (v:=.map (some g.next)) (.inr rfl) (by simp +decide only[Gz,d0]) rfl (by simp +decide only[Gz,n0,q1]) ⟨_,rfl,Nat.le_refl _,b,T⟩
theorem fn114:tab.fn.get 114=some Tryd.f114:=by kernel_rfl
noncomputable def loop114:Code:=loopOf Tryd.f114
theorem ae153 (a b:Int):aeq tab 10000 153 (.agg ⟨[.int .u8 a,.int .u8 b]⟩) (.agg ⟨[.int .u8 a,.int .u8 b]⟩)=some true:=by
 unfold aeq
 simp only[qty153]
 have h5:∀ x:Int,aeq tab 9999 5 (.int .u8 x) (.int .u8 x)=some true:=by
  intro x
  unfold aeq
  simp only[qty5,decide_true,beq_self_eq_true]
 have p0:apart tab 5 [.int .u8 a,.int .u8 b] (0*1)=some (.int .u8 a):=by unfold apart;rw[qty5];rfl
 have p1:apart tab 5 [.int .u8 a,.int .u8 b] ((0+1)*1)=some (.int .u8 b):=by unfold apart;rw[qty5];rfl
 simp only[eqParts,p0,p1,h5]
theorem shl4 (a:Nat) (ha:a<16):ashift .shl .u8 (a:Nat) 4=some (.int .u8 ((a*16:Nat):Int)):=by
 show some (Value.int .u8 (IntKind.u8.wrap ((a:Int)*2 ^ min 4 IntKind.u8.bits)))=_
 have e:(a:Int)*2 ^ min 4 IntKind.u8.bits=((a*16:Nat):Int):=by
  have:(2:Int) ^ min 4 IntKind.u8.bits=16:=by decide
  rw[this];push_cast;rfl
 rw[e,wrapU8 (by omega)]
theorem or16':∀ a b:Fin 16,IntKind.u8.wrap (((BitVec.ofInt IntKind.u8.bits ((a.val*16:Nat):Int) ||| BitVec.ofInt IntKind.u8.bits (b.val:Int)).toNat:Nat):Int)=((a.val*16+b.val:Nat):Int):=by decide +kernel
theorem or16 (a b:Nat) (ha:a<16) (hb:b<16):IntKind.u8.wrap (((BitVec.ofInt IntKind.u8.bits ((a*16:Nat):Int) ||| BitVec.ofInt IntKind.u8.bits (b:Int)).toNat:Nat):Int)=((a*16+b:Nat):Int):=or16' ⟨a,ha⟩ ⟨b,hb⟩
def BytQ (k:Nat) (bs:List UInt8) (r:Rd UInt8) (v x:Value) (items:Nat) (g:H):Prop:=match r with
 | .ok c p _=>v=.int .u8 (c.toNat:Nat)∧x=.bool true∧Src k bs p 0 items g
 | .bad p e=>v=.int .u8 0∧x=.bool false∧Src k bs p e items g
theorem hidden114 (hI:∀ f args h,(f=114∨f=81)→I f args h=none) (kp:Kq I) {k r:Nat} {bs:List UInt8} {pos items:Nat} {g:H} (f:Fit g) (b:Src k bs pos 0 items g) (hr:g.blk r=some (.map (hexE 16) 16)) (hp1:1≤pos) (hp:pos≤bs.length) (hl:bs.length≤1000000) :
  ∃ n v g',(ev tab E I n).call 114 [.pointer (some (own k)),.map (some r)] g=some (v,g')∧(∃ u x,v=.tuple #[u,x]∧Mod (fun j=>j=k) g g'∧BytQ k bs (rdHid bs pos) u x items g'):=by
 have kl:k<g.next:=f.lt b
 have rl:r<g.next:=f.lt hr
 obtain⟨c0,c1,c2,c3⟩:=b.at (E:=E)
 have wp:IntKind.i64.wrap ((pos:Int)-1)=((pos-1:Nat):Int):=by rw[wrap64 (by omega) (by omega)];omega
 have fl:∀ (p:Nat),∃ nf g',(ev tab E I nf).call 81 [.pointer (some (own k)),.int .i64 4,.int .i64 (p:Nat)] g=some (.bool false,g')∧Mod (fun j=>j=k) g g'∧Src k bs p 4 items g':=fun p=>
  fail81 (E:=E) (I:=I) (fun args h=>hI _ args h (.inr rfl)) f b 4 p
 have key:∀ (rr j:Nat) (A0:Ac),rr=2-j→j≤2→(∀ i,i<j→∃ c v,bs[pos+i]? = some c∧valB c=some v)→A0.n=128→A0.defers=[]→A0.get 0=.pointer (some (own k))→A0.get 1=.map (some r)→A0.get 6=.int .i64 (pos-1:Nat)→A0.get 18=.int .i64 (j:Nat)→
   Wc tab E I ⟨114,none⟩ (.loop loop114) A0 g (fun ex A' h'=>A'.n=128∧A'.defers=[]∧((ex=.exit 0∧h'=g∧(∀ i,i<2→∃ c v,bs[pos+i]? = some c∧valB c=some v)∧A'.get 0=.pointer (some (own k))∧A'.get 1=.map (some r)∧A'.get 6=.int .i64 (pos-1:Nat))∨(ex=.ret∧Mod (fun j=>j=k) g h'∧BytQ k bs (rdHid bs pos) (A'.get 4) (A'.get 5) items h'))):=by
  intro rr
  induction rr with
  | zero=>
   intro j A0 hrr hj hc n0 d0 q0 q1 q6 q18
   obtain rfl:j=2:=by omega
   have e1:decide (((2:Nat):Int)<2)=false:=by decide
   apply Wc.loop
   simp only[loop114,loopOf,firstLoop,Option.getD,Tryd.f114]
   repeat' (first|with_reducible apply Ws|(apply Wp;focus ((repeat ((with_reducible apply Rr rfl);focus ((try simp +decide only[Oy,n0,q18,e1]);with_reducible rfl)));with_reducible exact Rn))|(refine W2 (by simp +decide only[Cx,n0,q18,e1];try with_reducible rfl) (fun hb=>?_) (fun hb=>?_)<;>try contradiction)|apply W3|apply W4|apply W5|apply W6)
   exact⟨by simp +decide only[Gs,n0],by simp +decide only[Gs,d0],.inl ⟨rfl,rfl,hc,by simp +decide only[Gs,n0,q0],by simp +decide only[Gs,n0,q1],by simp +decide only[Gs,n0,q6]⟩⟩
  | succ rr ih=>
   intro j A0 hrr hj hc n0 d0 q0 q1 q6 q18
   have hj2:j<2:=by omega
   have e1:decide ((j:Int)<2)=true:=decide_eq_true (by omega)
   have w1:IntKind.i64.wrap ((pos:Int)+(j:Int))=((pos+j:Nat):Int):=wrap64 (by omega) (by omega)
   have w2:IntKind.i64.wrap ((j:Int)+1)=((j+1:Nat):Int):=wrap64 (by omega) (by omega)
   have hpj:pos+j≤bs.length:=by
    rcases Nat.eq_zero_or_pos j with rfl|hj0
    ·exact hp
    ·obtain⟨c,v,h1,_⟩:=hc (j-1) (by omega)
     have:=(List.getElem?_eq_some_iff.1 h1).1
     omega
   apply Wc.loop
   simp only[loop114,loopOf,firstLoop,Option.getD,Tryd.f114]
   by_cases h1:pos+j=bs.length
   ·have e2:decide (((pos+j:Nat):Int)=(bs.length:Int))=true:=decide_eq_true (by omega)
    have hn:bs[pos+j]? = none:=by rw[List.getElem?_eq_none_iff];omega
    have he:rdHid bs pos=.bad bs.length 4:=by
     rcases (show j=0∨j=1 by omega) with rfl|rfl
     ·unfold rdHid;rw[show bs[pos]? = none from hn]
     ·obtain⟨c,v,h2,h3⟩:=hc 0 (by omega)
      unfold rdHid
      rw[show bs[pos]? = some c from h2]
      simp only[h3]
      rw[hn]
    obtain⟨nf,g',ck,m,b'⟩:=fail81 (E:=E) (I:=I) (fun args h=>hI _ args h (.inr rfl)) f.fresh (show Src k bs pos 0 items (fresh g) from b) 4 bs.length
    obtain⟨m',_,hn,hl⟩:=Mod.back f m
    repeat' (first|with_reducible apply Ws|(apply Wp;focus ((repeat ((with_reducible apply Rr rfl);focus ((try simp +decide only[Oy,n0,q18,e1]);with_reducible rfl)));with_reducible exact Rn))|(refine W2 (by simp +decide only[Cx,n0,q18,e1];try with_reducible rfl) (fun hb=>?_) (fun hb=>?_)<;>try contradiction)|apply W3|apply W4|apply W5|apply W6)
    refine Wc.drawC 1 (by kernel_rfl) ?_
    (iterate 14 ((first|apply Fp rfl rfl rfl|apply FC.new rfl rfl);focus ((try simp +decide only[Oy,n0,q0,Qx,Hx,c0,c1,w1,e2]);with_reducible rfl)))
    refine FC.nil ?_
    repeat' (first|with_reducible apply Ws|(apply Wp;focus ((repeat ((with_reducible apply Rr rfl);focus ((try simp +decide only[Oy,n0]);with_reducible rfl)));with_reducible exact Rn))|(refine W2 (by simp +decide only[Cx,n0];try with_reducible rfl) (fun hb=>?_) (fun hb=>?_)<;>try contradiction)|apply W3|apply W4|apply W5|apply W6)
    refine Wc.drawQ nf (by kernel_rfl) ?_
    (iterate 9 ((first|apply Qp rfl rfl rfl|apply FQ.new rfl rfl);focus ((try simp +decide only[Oy,n0,q0,q1,Qx,Hx,c0]);with_reducible rfl)))
    refine FQ.mod (h1:=g') (x:=.bool false) rfl rfl (by simp +decide only[Oy,n0,q0,Qx,Hx,ck]) ?_
    (iterate 2 ((first|apply Qp rfl rfl rfl|apply FQ.new rfl rfl);focus ((try simp +decide only[Oy,n0,q0]);with_reducible rfl)))
    refine FQ.nil ⟨?_,?_⟩
    ·exact allMeet_but0 [9] 12 rfl rfl (by kernel_rfl)
    refine Wc.ret ?_
    refine⟨by simp +decide only[Gs,n0],by simp +decide only[Gs,d0],.inr ⟨rfl,m',?_⟩⟩
    rw[he]
    exact⟨by simp +decide only[Gs,n0],by simp +decide only[Gs,n0],b'.back⟩
   have e2:decide (((pos+j:Nat):Int)=(bs.length:Int))=false:=decide_eq_false (by omega)
   obtain⟨c,hcc⟩:∃ c,bs[pos+j]? = some c:=⟨bs[pos+j]'(by omega),List.getElem?_eq_getElem (by omega)⟩
   have ix:=qix9 hcc
   have lk:=look170 (h:=fresh g) hr c true
   unfold withOk at lk
   simp only[] at lk
   cases hv:valB c with
   | none=>
    rw[hv] at lk
    simp only[Option.getD_none,Option.isSome_none] at lk
    have he:rdHid bs pos=.bad (pos-1) 4:=by
     rcases (show j=0∨j=1 by omega) with rfl|rfl
     ·unfold rdHid;rw[show bs[pos]? = some c from hcc];simp only[hv]
     ·obtain⟨c',v,h2,h3⟩:=hc 0 (by omega)
      unfold rdHid
      rw[show bs[pos]? = some c' from h2]
      simp only[h3]
      rw[hcc]
      simp only[hv]
    obtain⟨nf,g',ck,m,b'⟩:=fl (pos-1)
    repeat' (first|with_reducible apply Ws|(apply Wp;focus ((repeat ((with_reducible apply Rr rfl);focus ((try simp +decide only[Oy,n0,q18,e1]);with_reducible rfl)));with_reducible exact Rn))|(refine W2 (by simp +decide only[Cx,n0,q18,e1];try with_reducible rfl) (fun hb=>?_) (fun hb=>?_)<;>try contradiction)|apply W3|apply W4|apply W5|apply W6)
    refine Wc.drawC 1 (by kernel_rfl) ?_
    (iterate 14 ((first|apply Fp rfl rfl rfl|apply FC.new rfl rfl);focus ((try simp +decide only[Oy,n0,q0,Qx,Hx,c0,c1,w1,e2]);with_reducible rfl)))
    refine FC.nil ?_
    repeat' (first|with_reducible apply Ws|(apply Wp;focus ((repeat ((with_reducible apply Rr rfl);focus ((try simp +decide only[Oy,n0]);with_reducible rfl)));with_reducible exact Rn))|(refine W2 (by simp +decide only[Cx,n0];try with_reducible rfl) (fun hb=>?_) (fun hb=>?_)<;>try contradiction)|apply W3|apply W4|apply W5|apply W6)
    refine Wc.drawC 1 (by kernel_rfl) ?_
    (iterate 20 ((first|apply Fp rfl rfl rfl|apply FC.new rfl rfl);focus ((try simp +decide only[Oy,n0,q0,q1,Qx,Hx,c0,c1,w1,ix,lk]);with_reducible rfl)))
    refine FC.nil ?_
    repeat' (first|with_reducible apply Ws|(apply Wn nf;focus ((repeat ((with_reducible apply Rr rfl);focus ((try simp +decide only[Oy,n0,q0,q6,Qx,Hx,ck]);with_reducible rfl)));with_reducible exact Rn))|(refine W2 (by simp +decide only[Cx,n0,q0,q6];try with_reducible rfl) (fun hb=>?_) (fun hb=>?_)<;>try contradiction)|apply W3|apply W4|apply W5|apply W6)
    refine⟨by simp +decide only[Gs,n0],by simp +decide only[Gs,d0],.inr ⟨rfl,m,?_⟩⟩
    rw[he]
    exact⟨by simp +decide only[Gs,n0],by simp +decide only[Gs,n0],b'⟩
   | some v=>
    rw[hv] at lk
    simp only[Option.getD_some,Option.isSome_some] at lk
    repeat' (first|with_reducible apply Ws|(apply Wp;focus ((repeat ((with_reducible apply Rr rfl);focus ((try simp +decide only[Oy,n0,q18,e1]);with_reducible rfl)));with_reducible exact Rn))|(refine W2 (by simp +decide only[Cx,n0,q18,e1];try with_reducible rfl) (fun hb=>?_) (fun hb=>?_)<;>try contradiction)|apply W3|apply W4|apply W5|apply W6)
    refine Wc.drawC 1 (by kernel_rfl) ?_
    (iterate 14 ((first|apply Fp rfl rfl rfl|apply FC.new rfl rfl);focus ((try simp +decide only[Oy,n0,q0,Qx,Hx,c0,c1,w1,e2]);with_reducible rfl)))
    refine FC.nil ?_
    repeat' (first|with_reducible apply Ws|(apply Wp;focus ((repeat ((with_reducible apply Rr rfl);focus ((try simp +decide only[Oy,n0]);with_reducible rfl)));with_reducible exact Rn))|(refine W2 (by simp +decide only[Cx,n0];try with_reducible rfl) (fun hb=>?_) (fun hb=>?_)<;>try contradiction)|apply W3|apply W4|apply W5|apply W6)
    refine Wc.drawC 1 (by kernel_rfl) ?_
    (iterate 20 ((first|apply Fp rfl rfl rfl|apply FC.new rfl rfl);focus ((try simp +decide only[Oy,n0,q0,q1,Qx,Hx,c0,c1,w1,ix,lk]);with_reducible rfl)))
    refine FC.nil ?_
    repeat' (first|with_reducible apply Ws|(apply Wp;focus ((repeat ((with_reducible apply Rr rfl);focus ((try simp +decide only[Oy,n0,q18,w2]);with_reducible rfl)));with_reducible exact Rn))|(refine W2 (by simp +decide only[Cx,n0,q18];try with_reducible rfl) (fun hb=>?_) (fun hb=>?_)<;>try contradiction)|apply W3|apply W4|apply W5|apply W6)
    refine ih (j+1) _ (by omega) (by omega) ?_ ?_ ?_ ?_ ?_ ?_ ?_
    ·intro i hi
     rcases Nat.lt_or_ge i j with h2|h2
     ·exact hc i h2
     ·obtain rfl:i=j:=by omega
      exact⟨c,v,hcc,hv⟩
    ·simp +decide only[Gs,n0]
    ·simp +decide only[Gs,d0]
    ·simp +decide only[Gs,n0,q0]
    ·simp +decide only[Gs,n0,q1]
    ·simp +decide only[Gs,n0,q6]
    ·simp +decide only[Gs,n0]
 apply Wk (hI _ _ _ (.inl rfl)) fn114 rfl
 intro A0 n0 d0 hA0
 change A0.n=128 at n0
 have q0:A0.get 0=.pointer (some (own k)):=hA0 0 _ rfl
 have q1:A0.get 1=.map (some r):=hA0 1 _ rfl
 clear hA0
 repeat' (first|with_reducible apply Ws|(apply Wp;focus ((repeat ((with_reducible apply Rr rfl);focus ((try simp +decide only[Oy,n0,q0,q1,Qx,Hx,c1,wp]);with_reducible rfl)));with_reducible exact Rn))|(refine W2 (by simp +decide only[Cx,n0,q0,q1,wp];try with_reducible rfl) (fun hb=>?_) (fun hb=>?_)<;>try contradiction)|apply W3|apply W4|apply W5|apply W6)
 refine (key 2 0 _ rfl (by omega) (fun i hi=>absurd hi (Nat.not_lt_zero _)) ?_ ?_ ?_ ?_ ?_ ?_).mono ?_
 ·simp +decide only[Gs,n0]
 ·simp +decide only[Gs,d0]
 ·simp +decide only[Gs,n0,q0]
 ·simp +decide only[Gs,n0,q1]
 ·simp +decide only[Gs,n0]
 ·simp +decide only[Gs,n0]
  rfl
 rintro ex A0 h' ⟨n0,d0,⟨rfl,rfl,hc,q0,q1,q6⟩|⟨rfl,M,hq⟩⟩
 rotate_left
 ·exact done_r2 (.inr rfl) d0 rfl rfl rfl ⟨_,_,rfl,M,hq⟩
 obtain⟨x1,a,hx1,ha⟩:=hc 0 (by omega)
 obtain⟨x2,d,hx2,hd⟩:=hc 1 (by omega)
 have hx1:bs[pos]? = some x1:=hx1
 obtain⟨ha16,hxa⟩:=valB_hex ha
 obtain⟨hd16,hxd⟩:=valB_hex hd
 have hlt:=(List.getElem?_eq_some_iff.1 hx2).1
 have ix1:=qix9 hx1
 have ix2:=qix9 hx2
 have w1:IntKind.i64.wrap ((pos:Int)+1)=((pos+1:Nat):Int):=wrap64 (by omega) (by omega)
 have w2:IntKind.i64.wrap ((pos:Int)+2)=((pos+2:Nat):Int):=wrap64 (by omega) (by omega)
 have hcn:(UInt8.ofNat (a*16+d)).toNat=a*16+d:=by
  rw[UInt8.toNat_ofNat']
  exact Nat.mod_eq_of_lt (by omega)
 have he:rdHid bs pos=if plainB (UInt8.ofNat (a*16+d))=true then .bad (pos-1) 4 else .ok (UInt8.ofNat (a*16+d)) (pos+2) 0:=by
  unfold rdHid
  rw[hx1]
  simp only[ha]
  rw[hx2]
  simp only[hd]
 rw[he]
 generalize hcdef:UInt8.ofNat (a*16+d)=c at hcn
 have t1:Ahd h' (h'.new (.cells (Value.agg #[.int .u8 0,.int .u8 0]).cells.toList 153 none)):=Ahd.new0 f rfl
 have b1:(h'.new (.cells (Value.agg #[.int .u8 0,.int .u8 0]).cells.toList 153 none)).blk h'.next=some (.cells [.int .u8 0,.int .u8 0] 153 none):=new_blk_new rfl
 generalize hh1:h'.new (.cells (Value.agg #[.int .u8 0,.int .u8 0]).cells.toList 153 none)=h1 at t1 b1
 have hk:=t1.fit.lt b1
 have fnx:(fresh h').next=h'.next:=rfl
 have st:astore tab 153 (own h'.next) (.agg ⟨[.int .u8 (x1.toNat:Nat),.int .u8 (x2.toNat:Nat)]⟩) (fresh h1)=some ((fresh h1).setl h'.next (.cells [.int .u8 (x1.toNat:Nat),.int .u8 (x2.toNat:Nat)] 153 none)):=astore_all (g:=fresh h1) qty153 b1 rfl rfl rfl (by simp)
 have b2:=setl_same (h:=h1) (k:=h'.next) (B:=.cells [.int .u8 (x1.toNat:Nat),.int .u8 (x2.toNat:Nat)] 153 none) rfl
 have T2:=t1.setl (k:=h'.next) (B:=.cells [.int .u8 (x1.toNat:Nat),.int .u8 (x2.toNat:Nat)] 153 none) rfl (Nat.le_refl _) hk f
 generalize hh2:h1.setl h'.next (.cells [.int .u8 (x1.toNat:Nat),.int .u8 (x2.toNat:Nat)] 153 none)=h2 at b2 T2
 have l0:h2.cell E (own h'.next)=some (.int .u8 (x1.toNat:Nat)):=cell_blk0 b2
 have l1:h2.cell E (aadd (own h'.next) 1)=some (.int .u8 (x2.toNat:Nat)):=cell_blk b2 1
 have l2:h2.cells E (own h'.next) 2=some [.int .u8 (x1.toNat:Nat),.int .u8 (x2.toNat:Nat)]:=blk_cells b2 rfl rfl
 have hr2:=T2.grows _ _ hr
 have lk1:=look170 hr2 x1 false
 have lk2:=look170 hr2 x2 false
 unfold withOk at lk1 lk2
 simp only[ha,hd,Option.getD_some] at lk1 lk2
 have i0:aindexAddr tab 153 (.pointer (some (own h'.next))) (.int .i64 0)=some (.pointer (some (own h'.next))):=qia153 _ 0 rfl
 have i1:aindexAddr tab 153 (.pointer (some (own h'.next))) (.int .i64 1)=some (.pointer (some (aadd (own h'.next) 1))):=qia153 _ 1 rfl
 have sh:=shl4 a ha16
 have o1:=or16 a d ha16 hd16
 rw[← hcn] at o1
 have k101:=ev_known (D:=tab) (E:=E) (kp.k101 c (fresh h2))
 have k102:=ev_known (D:=tab) (E:=E) (kp.k102 c (fresh h2))
 have hc1:hexB (c.toNat / 16)=x1:=by rw[hcn,show (a*16+d) / 16=a by omega];exact hxa
 have hc2:hexB (c.toNat % 16)=x2:=by rw[hcn,show (a*16+d) % 16=d by omega];exact hxd
 rw[hc1,hc2] at k102
 have B2:Src k bs pos 0 items h2:=b.mod (T2.mod (M:=fun _=>False)) (fun h=>h)
 obtain⟨d0',d1,d2,d3⟩:=B2.at (E:=E)
 simp only[if_true]
 repeat' (with_reducible apply Wc.seq)
 refine Wc.drawQ 1 (by kernel_rfl) ?_
 (iterate 24 ((first|apply Qp rfl rfl rfl|apply FQ.new rfl rfl);focus ((try simp +decide only[Oy,n0,q0,Qx,Hx,c0,c1,ix1,ix2,w1,bld153]);with_reducible rfl)))
 refine FQ.new (B:=.cells (Value.agg #[.int .u8 0,.int .u8 0]).cells.toList 153 none) rfl rfl (by simp +decide only[Oy,n0,qtz153];with_reducible rfl) ?_
 rw[hh1]
 refine FQ.setl (k:=h'.next) (B:=.cells [.int .u8 (x1.toNat:Nat),.int .u8 (x2.toNat:Nat)] 153 none) (x:=undef) rfl rfl hk (by simp +decide only[Oy,n0,fnx,st]) ?_
 rw[hh2]
 refine FQ.nil ⟨?_,?_⟩
 ·refine allMeet_last (l:=[_,_,_,_,_,_,_,_,_,_,_,_,_,_,_,_,_,_,_,_,_,_,_,_,_]) ?_ (by kernel_rfl)
  simp only[List.all_cons,calm,List.isEmpty_nil,Bool.true_and,List.all_nil,Bool.and_true]
  rfl
 refine Wc.forget (fun A=>A.n=128∧A.defers=[]∧A.get 0=.pointer (some (own k))∧A.get 1=.map (some r)∧A.get 6=.int .i64 (pos-1:Nat)∧A.get 10=.pointer (some (own h'.next))) (by and_intros<;>simp +decide only[Gs,n0,d0,q0,q1,q6]<;>rfl) ?_
 rintro A0 ⟨n0,d0,q0,q1,q6,q10⟩
 repeat' (with_reducible apply Wc.seq)
 (repeat' (with_reducible apply Ws));(apply Wn 1;focus ((repeat ((with_reducible apply Rr rfl);focus ((try simp +decide only[Oy,n0,q1,q10,Qx,Qi,Hx,i0,i1,l0,l1,lk1,lk2,sh,o1]);with_reducible rfl)));with_reducible exact Rn))
 refine Wc.forget (fun A=>A.n=128∧A.defers=[]∧A.get 0=.pointer (some (own k))∧A.get 6=.int .i64 (pos-1:Nat)∧A.get 10=.pointer (some (own h'.next))∧A.get 11=.int .u8 (c.toNat:Nat)) (by and_intros<;>simp +decide only[Gs,n0,d0,q0,q1,q6,q10]<;>rfl) ?_
 rintro A0 ⟨n0,d0,q0,q6,q10,q11⟩
 repeat' (with_reducible apply Wc.seq)
 cases hpl:plainB c with
 | true=>
  rw[hpl] at k101
  obtain⟨nf,g',ck,m,b'⟩:=fail81 (E:=E) (I:=I) (fun args h=>hI _ args h (.inr rfl)) T2.fit B2 4 (pos-1)
  refine Wc.drawC 1 (by kernel_rfl) ?_
  (iterate 8 (first|((first|apply Fp rfl rfl rfl|apply FC.new rfl rfl|(apply FC.pureG rfl rfl;(focus (simp +decide only[Gs,n0,q11,q10,k101];done));focus rfl));focus ((try simp +decide only[Oy,n0,q11,q10,k101]);with_reducible rfl))|(apply FC.skipG rfl rfl;focus (simp +decide only[Gs,n0,q11,q10,k101];done))))
  refine FC.nil ?_
  repeat' (first|with_reducible apply Ws|(apply Wn nf;focus ((repeat ((with_reducible apply Rr rfl);focus ((try simp +decide only[Oy,n0,q0,q6,Qx,Hx,ck]);with_reducible rfl)));with_reducible exact Rn))|(refine W2 (by simp +decide only[Cx,n0,q0,q6];try with_reducible rfl) (fun hb=>?_) (fun hb=>?_)<;>try contradiction)|apply W3|apply W4|apply W5|apply W6)
  refine done_r2 (v:=.int .u8 0) (x:=.bool false) (.inr rfl) (by simp +decide only[Gs,d0]) rfl (by simp +decide only[Gs,n0]) (by simp +decide only[Gs,n0]) ⟨_,_,rfl,(T2.mod.trans m),?_⟩
  rw[if_pos rfl]
  exact⟨rfl,rfl,b'⟩
 | false=>
  rw[hpl] at k101
  have lt2:=T2.fit.lt B2
  obtain⟨s1,b3⟩:=B2.pos (pos+2)
  have m3:=(Mod.refl (M:=fun j=>j=k) T2.fit).setl (B:=.cells [.string ⟨⟨bs⟩⟩,.int .i64 (pos+2:Nat),.int .i64 0,.int .i64 (items:Nat)] 86 none) rfl rfl lt2
  refine Wc.drawC 1 (by kernel_rfl) ?_
  (iterate 8 (first|((first|apply Fp rfl rfl rfl|apply FC.new rfl rfl|(apply FC.pureG rfl rfl;(focus (simp +decide only[Gs,n0,q11,q10,k101,k102,Qi,Hx,l2,ae153];done));focus rfl));focus ((try simp +decide only[Oy,n0,q11,q10,k101,k102,Qi,Hx,l2,ae153]);with_reducible rfl))|(apply FC.skipG rfl rfl;focus (simp +decide only[Gs,n0,q11,q10,k101,k102,Qi,Hx,l2,ae153];done))))
  refine FC.nil ?_
  repeat' (first|with_reducible apply Ws|(apply Wp;focus ((repeat ((with_reducible apply Rr rfl);focus ((try simp +decide only[Oy,n0,q0,q11,Qx,Hx,d1,w2,s1]);with_reducible rfl)));with_reducible exact Rn))|(refine W2 (by simp +decide only[Cx,n0,q0,q11,d1];try with_reducible rfl) (fun hb=>?_) (fun hb=>?_)<;>try contradiction)|apply W3|apply W4|apply W5|apply W6)
  refine done_r2 (v:=.int .u8 (c.toNat:Nat)) (x:=.bool true) (.inr rfl) (by simp +decide only[Gs,d0]) rfl (by simp +decide only[Gs,n0,q11]) (by simp +decide only[Gs,n0]) ⟨_,_,rfl,(T2.mod.trans m3),?_⟩
  rw[if_neg (by simp)]
  exact⟨rfl,rfl,b3⟩
theorem fn85:tab.fn.get 85=some Tryd.f85:=by kernel_rfl
noncomputable def loop85:Code:=loopOf Tryd.f85
def TxtQ (k:Nat) (bs:List UInt8) (r:Rd ByteArray) (v x:Value) (items:Nat) (g:H):Prop:=match r with
 | .ok tx p it=>v=.string tx∧x=.bool true∧Src k bs p 0 it g
 | .bad p e=>v=.string ⟨⟨[]⟩⟩∧x=.bool false∧Src k bs p e items g
theorem quoted85 (hI:∀ f args h,(f=85∨f=113∨f=114∨f=81)→I f args h=none) (kp:Kq I) {k:Nat} {bs:List UInt8} {pos items:Nat} {g:H} (f:Fit g) (b:Src k bs pos 0 items g) (hp1:1≤pos) (hp:pos≤bs.length) (hl:bs.length≤1000000) :
  ∃ n v g',(ev tab E I n).call 85 [.pointer (some (own k))] g=some (v,g')∧(∃ u x,v=.tuple #[u,x]∧Mod (fun j=>j=k) g g'∧TxtQ k bs (rdQuo bs pos items) u x items g'):=by
 have kl:k<g.next:=f.lt b
 obtain⟨c0,c1,c2,c3⟩:=b.at (E:=E)
 have wp:IntKind.i64.wrap ((pos:Int)-1)=((pos-1:Nat):Int):=by rw[wrap64 (by omega) (by omega)];omega
 have fl:∀ {p items:Nat} {h:H} (e':Int) (q:Nat),Mod (fun j=>j=k) g h→Src k bs p 0 items h→∃ nf g',(ev tab E I nf).call 81 [.pointer (some (own k)),.int .i64 e',.int .i64 (q:Nat)] h=some (.bool false,g')∧Mod (fun j=>j=k) g g'∧Src k bs q e' items g':=fun e' q M b=>by
  obtain⟨nf,g',ck,m,b'⟩:=fail81 (E:=E) (I:=I) (fun args h=>hI _ args h (by simp)) M.fit b e' q
  exact⟨nf,g',ck,M.trans m,b'⟩
 obtain⟨nv,_,g1,cv,r,rfl,hr,hb,TV⟩:=values113 (E:=E) (I:=I) (fun args h=>hI _ args h (by simp)) f
 have hrk:r≠k:=by omega
 have key:∀ (kk p:Nat) (acc:List UInt8) (sl:Value) (A0:Ac) (h:H),bs.length+1-p≤kk→pos≤p→p≤bs.length→acc.length≤p→A0.n=126→A0.defers=[]→A0.get 0=.pointer (some (own k))→A0.get 4=.int .i64 (pos-1:Nat)→A0.get 5=.map (some r)→A0.get 6=sl→
   Mod (fun j=>j=k) g h→h.blk r=some (.map (hexE 16) 16)→Src k bs p 0 items h→Bol 5 g.next h.next h sl acc→quoRun bs (bs.length+1-pos) pos []=quoRun bs kk p acc→
   Wc tab E I ⟨85,none⟩ (.loop loop85) A0 h (fun ex A' h'=>A'.n=126∧A'.defers=[]∧Mod (fun j=>j=k) g h'∧((ex=.exit 0∧∃ l p sl,quoRun bs (bs.length+1-pos) pos []=.ok l p 0∧l.length≤bs.length∧A'.get 0=.pointer (some (own k))∧A'.get 4=.int .i64 (pos-1:Nat)∧A'.get 6=sl∧Bol 5 g.next h'.next h' sl l∧Src k bs p 0 items h')∨(ex=.ret∧A'.get 2=.string ⟨⟨[]⟩⟩∧A'.get 3=.bool false∧∃ p e,quoRun bs (bs.length+1-pos) pos []=.bad p e∧Src k bs p e items h'))):=by
  intro kk
  induction kk with
  | zero=>intro p acc sl A0 h hk _ hpl;omega
  | succ kk ih=>
   intro p acc sl A0 h hk hpp hpl hal n0 d0 q0 q4 q5 q6 M hm b K he
   have fh:=M.fit
   have kh:k<h.next:=Nat.lt_of_lt_of_le kl M.next
   obtain⟨c0,c1,c2,c3⟩:=b.at (E:=E)
   have w1:IntKind.i64.wrap ((p:Int)+1)=((p+1:Nat):Int):=wrap64 (by omega) (by omega)
   rw[quoRun] at he
   have app:∀ {p':Nat} {h1:H} (c:UInt8),Mod (fun j=>j=k) g h1→Mod (fun j=>j=k) h h1→h1.blk r=some (.map (hexE 16) 16)→Src k bs p' 0 items h1→∃ h2 sl' q,abuildSlice tab 31 1 [(0,.int .u8 (c.toNat:Nat))] h1=some (.slice (some (own h1.next)) 1 1,h2)∧aappend tab E 31 31 sl (.slice (some (own h1.next)) 1 1) h2=some (sl',q)∧Mod (fun j=>j=k) g q∧q.blk r=some (.map (hexE 16) 16)∧Src k bs p' 0 items q∧Bol 5 g.next q.next q sl' (acc++[c]):=by
    intro p' h1 c M1 m1 hm1 b1
    have hbs:=qbs31 ((c.toNat:Nat):Int) (h:=h1)
    obtain⟨h2,t2,hh2,hby⟩:=one_byte (E:=E) M1.fit c.toNat c.toNat_lt
    rw[hh2] at hbs
    have hcc:UInt8.ofNat c.toNat=c:=by simp
    rw[hcc] at hby
    have K1:=(K.mod m1 (fun j B hj hB=>by
     subst hj
     rw[show h.blk j=_ from b] at hB;cases hB;rfl)).mod (t2.mod (M:=fun _=>False)) (fun _ _ h=>h.elim)
    obtain⟨sl',q,happ,K2,AP⟩:=bol_step (D:=tab) (E:=E) (t:=31) (t2:=31) (by_:=1) t2.fit (Nat.le_trans M1.next t2.next) (Nat.le_trans m1.next t2.next) K1 qty31 qtz5 rfl (qza31 _ _ _) hby (by
     unfold roomy
     simp only[Bool.and_eq_true,Nat.ble_eq,List.length_singleton];omega)
    refine⟨h2,sl',q,hbs,happ,AP.mod f (Nat.le_refl _) (M1.ahd t2),AP.keepP (t2.grows _ _ hm1) rfl,AP.keepP (t2.grows _ _ b1) rfl,K2⟩
   apply Wc.loop
   simp only[loop85,loopOf,firstLoop,Option.getD,Tryd.f85]
   repeat' (first|(with_reducible apply Wc.seq)|refine Wc.block ?_)
   by_cases h1:p=bs.length
   ·have e1:decide ((p:Int)=(bs.length:Int))=true:=decide_eq_true (by omega)
    have hn:bs[p]? = none:=by rw[List.getElem?_eq_none_iff];omega
    rw[hn] at he
    simp only[] at he
    obtain⟨nf,g',ck,m,b'⟩:=fail81 (E:=E) (I:=I) (fun args h=>hI _ args h (by simp)) fh.fresh (show Src k bs p 0 items (fresh h) from b) 4 p
    obtain⟨m',_,_,_⟩:=Mod.back fh m
    refine Wc.drawC 1 (by kernel_rfl) ?_
    (iterate 12 ((first|apply Fp rfl rfl rfl|apply FC.new rfl rfl);focus ((try simp +decide only[Oy,n0,q0,Qx,Hx,c0,c1,e1]);with_reducible rfl)))
    refine FC.nil ?_
    repeat' (first|with_reducible apply Ws|(apply Wp;focus ((repeat ((with_reducible apply Rr rfl);focus ((try simp +decide only[Oy,n0]);with_reducible rfl)));with_reducible exact Rn))|(refine W2 (by simp +decide only[Cx,n0];try with_reducible rfl) (fun hb=>?_) (fun hb=>?_)<;>try contradiction)|apply W3|apply W4|apply W5|apply W6)
    refine Wc.drawQ nf (by kernel_rfl) ?_
    (iterate 8 ((first|apply Qp rfl rfl rfl|apply FQ.new rfl rfl);focus ((try simp +decide only[Oy,n0,q0,Qx,Hx,c1]);with_reducible rfl)))
    refine FQ.mod (h1:=g') (x:=.bool false) rfl rfl (by simp +decide only[Oy,n0,q0,Qx,Hx,ck]) ?_
    (iterate 2 ((first|apply Qp rfl rfl rfl|apply FQ.new rfl rfl);focus ((try simp +decide only[Oy,n0,q0]);with_reducible rfl)))
    refine FQ.nil ⟨?_,?_⟩
    ·exact allMeet_but0 [8] 11 rfl rfl (by kernel_rfl)
    refine Wc.ret ?_
    exact⟨by simp +decide only[Gs,n0],by simp +decide only[Gs,d0],M.trans m',.inr ⟨rfl,by simp +decide only[Gs,n0],by simp +decide only[Gs,n0],p,4,he,b'.back⟩⟩
   have hlt:p<bs.length:=by omega
   have e1:decide ((p:Int)=(bs.length:Int))=false:=decide_eq_false (by omega)
   obtain⟨c,hc⟩:∃ c,bs[p]? = some c:=⟨bs[p],List.getElem?_eq_getElem hlt⟩
   have hc8:c.toNat<256:=c.toNat_lt
   have ix:=qix9 hc
   rw[hc] at he
   simp only[] at he
   obtain⟨s1,b1⟩:=b.pos (p+1)
   have m1:=(Mod.refl (M:=fun j=>j=k) fh).setl (B:=.cells [.string ⟨⟨bs⟩⟩,.int .i64 (p+1:Nat),.int .i64 0,.int .i64 (items:Nat)] 86 none) rfl rfl kh
   have hm1:=m1.blk _ _ hrk hm
   generalize h.setl k (.cells [.string ⟨⟨bs⟩⟩,.int .i64 (p+1:Nat),.int .i64 0,.int .i64 (items:Nat)] 86 none)=h1 at s1 b1 m1 hm1
   have M1:=M.trans m1
   refine Wc.drawC 1 (by kernel_rfl) ?_
   (iterate 12 ((first|apply Fp rfl rfl rfl|apply FC.new rfl rfl);focus ((try simp +decide only[Oy,n0,q0,Qx,Hx,c0,c1,e1]);with_reducible rfl)))
   refine FC.nil ?_
   repeat' (first|with_reducible apply Ws|(apply Wp;focus ((repeat ((with_reducible apply Rr rfl);focus ((try simp +decide only[Oy,n0]);with_reducible rfl)));with_reducible exact Rn))|(refine W2 (by simp +decide only[Cx,n0];try with_reducible rfl) (fun hb=>?_) (fun hb=>?_)<;>try contradiction)|apply W3|apply W4|apply W5|apply W6)
   refine Wc.drawC 1 (by kernel_rfl) ?_
   (iterate 12 ((first|apply Fp rfl rfl rfl|apply FC.new rfl rfl);focus ((try simp +decide only[Oy,n0,q0,Qx,Hx,c0,c1,ix]);with_reducible rfl)))
   refine FC.nil ?_
   refine Wc.forget (fun A=>A.n=126∧A.defers=[]∧A.get 0=.pointer (some (own k))∧A.get 4=.int .i64 (pos-1:Nat)∧A.get 5=.map (some r)∧A.get 6=sl∧A.get 7=.int .u8 (c.toNat:Nat)) (by and_intros<;>simp +decide only[Gs,n0,d0,q0,q4,q5,q6]<;>rfl) ?_
   rintro A0 ⟨n0,d0,q0,q4,q5,q6,q7⟩
   by_cases h2:c=34
   ·rw[if_pos h2] at he
    have e2:decide ((c.toNat:Int)=34)=true:=by rw[h2];decide
    repeat' (first|with_reducible apply Ws|(apply Wp;focus ((repeat ((with_reducible apply Rr rfl);focus ((try simp +decide only[Oy,n0,q0,q7,e2,Qx,Hx,c1,w1,s1]);with_reducible rfl)));with_reducible exact Rn))|(refine W2 (by simp +decide only[Cx,n0,q0,q7,e2];try with_reducible rfl) (fun hb=>?_) (fun hb=>?_)<;>try contradiction)|apply W3|apply W4|apply W5|apply W6)
    exact⟨by simp +decide only[Gs,n0],by simp +decide only[Gs,d0],M1,.inl ⟨rfl,acc,p+1,sl,he,by omega,by simp +decide only[Gs,n0,q0],by simp +decide only[Gs,n0,q4],by simp +decide only[Gs,n0,q6],(K.mod m1 (fun j B hj hB=>by
     subst hj
     rw[show h.blk j=_ from b] at hB;cases hB;rfl)).up m1.next,b1⟩⟩
   rw[if_neg h2] at he
   have e2:decide ((c.toNat:Int)=34)=false:=decide_eq_false (fun h=>h2 (UInt8.toNat_inj.1 (by
    show c.toNat=34
    omega)))
   by_cases h3:c=92
   ·rw[if_pos h3] at he
    have e3:decide ((c.toNat:Int)=92)=true:=by rw[h3];decide
    obtain⟨nh,_,g3,ch,u,x,rfl,m3,hq⟩:=hidden114 (E:=E) (I:=I) (fun f args h hf=>hI f args h (by rcases hf with h|h<;>simp[h])) kp M1.fit b1 hm1 (by omega) (by omega) hl
    have M3:=M1.trans m3
    cases hh:rdHid bs (p+1) with
    | bad p2 e4=>
     rw[hh] at hq he
     obtain⟨rfl,rfl,b3⟩:=hq
     repeat' (first|with_reducible apply Ws|(apply Wn nh;focus ((repeat ((with_reducible apply Rr rfl);focus ((try simp +decide only[Oy,n0,q0,q5,q7,e2,e3,Qx,Hx,c1,w1,s1,ch]);with_reducible rfl)));with_reducible exact Rn))|(refine W2 (by simp +decide only[Cx,n0,q0,q5,q7,e2,e3,ch];try with_reducible rfl) (fun hb=>?_) (fun hb=>?_)<;>try contradiction)|apply W3|apply W4|apply W5|apply W6)
     exact⟨by simp +decide only[Gs,n0],by simp +decide only[Gs,d0],M3,.inr ⟨rfl,by simp +decide only[Gs,n0],by simp +decide only[Gs,n0],p2,e4,he,b3⟩⟩
    | ok y p2 it2=>
     rw[hh] at hq he
     obtain⟨rfl,rfl,b3⟩:=hq
     simp only[] at he
     obtain⟨rfl,hp2⟩:=rdHid_ok hh
     obtain⟨h4,sl',q,ab,ap,M5,hm5,b5,K5⟩:=app y M3 (m1.trans m3) (m3.blk _ _ hrk hm1) b3
     repeat' (first|with_reducible apply Ws|(apply Wn nh;focus ((repeat ((with_reducible apply Rr rfl);focus ((try simp +decide only[Oy,n0,q0,q5,q6,q7,e2,e3,Qx,Hx,c1,w1,s1,ch,ab,ap]);with_reducible rfl)));with_reducible exact Rn))|(refine W2 (by simp +decide only[Cx,n0,q0,q5,q6,q7,e2,e3,ch];try with_reducible rfl) (fun hb=>?_) (fun hb=>?_)<;>try contradiction)|apply W3|apply W4|apply W5|apply W6)
     refine ih (p+1+2) (acc++[y]) sl' _ q (by omega) (by omega) hp2 (by rw[List.length_append,List.length_singleton];omega) ?_ ?_ ?_ ?_ ?_ ?_ M5 hm5 b5 K5 he
     ·simp +decide only[Gs,n0]
     ·simp +decide only[Gs,d0]
     ·simp +decide only[Gs,n0,q0]
     ·simp +decide only[Gs,n0,q4]
     ·simp +decide only[Gs,n0,q5]
     ·simp +decide only[Gs,n0]
   rw[if_neg h3] at he
   have e3:decide ((c.toNat:Int)=92)=false:=decide_eq_false (fun h=>h3 (UInt8.toNat_inj.1 (by
    show c.toNat=92
    omega)))
   have k101:=ev_known (D:=tab) (E:=E) (kp.k101 c h)
   cases hpl:plainB c with
   | false=>
    rw[hpl] at k101 he
    rw[if_neg (by simp)] at he
    obtain⟨nf,g',ck,m,b'⟩:=fail81 (E:=E) (I:=I) (fun args h=>hI _ args h (by simp)) fh.fresh (show Src k bs p 0 items (fresh h) from b) 4 p
    obtain⟨m',_,_,_⟩:=Mod.back fh m
    repeat' (first|with_reducible apply Ws|(apply Wp;focus ((repeat ((with_reducible apply Rr rfl);focus ((try simp +decide only[Oy,n0,q0,q7,e2,e3,k101]);with_reducible rfl)));with_reducible exact Rn))|(refine W2 (by simp +decide only[Cx,n0,q0,q7,e2,e3,k101];try with_reducible rfl) (fun hb=>?_) (fun hb=>?_)<;>try contradiction)|apply W3|apply W4|apply W5|apply W6)
    refine Wc.drawQ nf (by kernel_rfl) ?_
    (iterate 8 ((first|apply Qp rfl rfl rfl|apply FQ.new rfl rfl);focus ((try simp +decide only[Oy,n0,q0,Qx,Hx,c1]);with_reducible rfl)))
    refine FQ.mod (h1:=g') (x:=.bool false) rfl rfl (by simp +decide only[Oy,n0,q0,Qx,Hx,ck]) ?_
    (iterate 2 ((first|apply Qp rfl rfl rfl|apply FQ.new rfl rfl);focus ((try simp +decide only[Oy,n0,q0]);with_reducible rfl)))
    refine FQ.nil ⟨?_,?_⟩
    ·exact allMeet_but0 [8] 11 rfl rfl (by kernel_rfl)
    refine Wc.ret ?_
    exact⟨by simp +decide only[Gs,n0],by simp +decide only[Gs,d0],M.trans m',.inr ⟨rfl,by simp +decide only[Gs,n0],by simp +decide only[Gs,n0],p,4,he,b'.back⟩⟩
   | true=>
    rw[hpl] at k101 he
    rw[if_pos rfl] at he
    obtain⟨h4,sl',q,ab,ap,M5,hm5,b5,K5⟩:=app c M1 m1 hm1 b1
    repeat' (first|with_reducible apply Ws|(apply Wp;focus ((repeat ((with_reducible apply Rr rfl);focus ((try simp +decide only[Oy,n0,q0,q6,q7,e2,e3,k101,Qx,Hx,c1,w1,s1,ab,ap]);with_reducible rfl)));with_reducible exact Rn))|(refine W2 (by simp +decide only[Cx,n0,q0,q6,q7,e2,e3,k101];try with_reducible rfl) (fun hb=>?_) (fun hb=>?_)<;>try contradiction)|apply W3|apply W4|apply W5|apply W6)
    refine ih (p+1) (acc++[c]) sl' _ q (by omega) (by omega) (by omega) (by rw[List.length_append,List.length_singleton];omega) ?_ ?_ ?_ ?_ ?_ ?_ M5 hm5 b5 K5 he
    ·simp +decide only[Gs,n0]
    ·simp +decide only[Gs,d0]
    ·simp +decide only[Gs,n0,q0]
    ·simp +decide only[Gs,n0,q4]
    ·simp +decide only[Gs,n0,q5]
    ·simp +decide only[Gs,n0]
 apply Wk (hI _ _ _ (.inl rfl)) fn85 rfl
 intro A0 n0 d0 hA0
 change A0.n=126 at n0
 have q0:A0.get 0=.pointer (some (own k)):=hA0 0 _ rfl
 clear hA0
 (repeat' (with_reducible apply Ws));(apply Wn 1;focus ((repeat ((with_reducible apply Rr rfl);focus ((try simp +decide only[Oy,n0]);with_reducible rfl)));with_reducible exact Rn))
 refine Wc.scope ?_
 (repeat' (with_reducible apply Ws));(apply Wn 1;focus ((repeat ((with_reducible apply Rr rfl);focus ((try simp +decide only[Oy,n0,q0,Qx,Hx,c1,wp]);with_reducible rfl)));with_reducible exact Rn))
 (repeat' (with_reducible apply Ws));(apply Wn nv;focus ((repeat ((with_reducible apply Rr rfl);focus ((try simp +decide only[Oy,n0,cv]);with_reducible rfl)));with_reducible exact Rn))
 (repeat' (with_reducible apply Ws));(apply Wn 1;focus ((repeat ((with_reducible apply Rr rfl);focus ((try simp +decide only[Oy,n0]);with_reducible rfl)));with_reducible exact Rn))
 refine Wc.forget (fun A=>A.n=126∧A.defers=[]∧A.get 0=.pointer (some (own k))∧A.get 4=.int .i64 (pos-1:Nat)∧A.get 5=.map (some r)∧A.get 6=.slice none 0 0) (by and_intros<;>simp +decide only[Gs,n0,d0,n0,q0]<;>rfl) ?_
 rintro A0 ⟨n0,d0,q0,q4,q5,q6⟩
 repeat' (with_reducible apply Wc.seq)
 refine Wc.label ?_
 show Wc _ _ _ _ _ _ _ _
 repeat' (with_reducible apply Wc.seq)
 refine Wc.block ?_
 refine (key (bs.length+1-pos) pos [] (.slice none 0 0) A0 g1 (Nat.le_refl _) (Nat.le_refl _) hp (by simp) n0 d0 q0 q4 q5 q6 TV.mod hb (b.mod (TV.mod (M:=fun _=>False)) (fun h=>h)) (Bol.nil _ _ _) rfl).mono ?_
 have he:rdQuo bs pos items=match quoRun bs (bs.length+1-pos) pos [] with
   | .bad p e=>.bad p e
   | .ok acc p _=>if acc=[] then .bad (pos-1) 4 else if 4096<acc.length then .bad (pos-1) 11 else .ok ⟨⟨acc⟩⟩ p items:=rfl
 clear n0 d0 q0 q4 q5 q6
 rintro ex A0 h' ⟨n0,d0,M,⟨rfl,l,p,sl,hq,hll,q0,q4,q6,K,b'⟩|⟨rfl,q2,q3,p,e,hq,b'⟩⟩
 rotate_left
 ·rw[hq] at he
  refine done_r2 (v:=.string ⟨⟨[]⟩⟩) (x:=.bool false) (.inr rfl) d0 rfl q2 q3 ⟨_,_,rfl,M,?_⟩
  rw[he]
  exact⟨rfl,rfl,b'⟩
 rw[hq] at he
 simp only[] at he
 obtain⟨b0,rfl⟩:=K.slice
 have ln:∀ h,alen tab 31 (.slice b0 l.length l.length) h=some (.int .i64 (l.length:Nat)):=fun h=>qlen31 _ _ _
 simp only[if_true]
 by_cases h1:l=[]
 ·rw[if_pos h1] at he
  have e1:decide ((l.length:Int)=0)=true:=by rw[h1];rfl
  obtain⟨nf,g',ck,M',b2⟩:=fl 4 (pos-1) M b'
  repeat' (first|with_reducible apply Ws|(apply Wn nf;focus ((repeat ((with_reducible apply Rr rfl);focus ((try simp +decide only[Oy,n0,q0,q4,q6,Qx,Hx,ln,e1,ck]);with_reducible rfl)));with_reducible exact Rn))|(refine W2 (by simp +decide only[Cx,n0,q0,q4,q6,e1];try with_reducible rfl) (fun hb=>?_) (fun hb=>?_)<;>try contradiction)|apply W3|apply W4|apply W5|apply W6)
  refine done_r2 (v:=.string ⟨⟨[]⟩⟩) (x:=.bool false) (.inr rfl) (by simp +decide only[Gs,d0]) rfl (by simp +decide only[Gs,n0]) (by simp +decide only[Gs,n0]) ⟨_,_,rfl,M',?_⟩
  rw[he]
  exact⟨rfl,rfl,b2⟩
 rw[if_neg h1] at he
 have hl0:0<l.length:=List.length_pos_iff.2 h1
 have e1:decide ((l.length:Int)=0)=false:=decide_eq_false (by omega)
 by_cases h2:4096<l.length
 ·rw[if_pos h2] at he
  have e2:decide ((l.length:Int)>4096)=true:=decide_eq_true (by omega)
  obtain⟨nf,g',ck,M',b2⟩:=fl 11 (pos-1) M b'
  repeat' (first|with_reducible apply Ws|(apply Wn nf;focus ((repeat ((with_reducible apply Rr rfl);focus ((try simp +decide only[Oy,n0,q0,q4,q6,Qx,Hx,ln,e1,e2,ck]);with_reducible rfl)));with_reducible exact Rn))|(refine W2 (by simp +decide only[Cx,n0,q0,q4,q6,e1,e2];try with_reducible rfl) (fun hb=>?_) (fun hb=>?_)<;>try contradiction)|apply W3|apply W4|apply W5|apply W6)
  refine done_r2 (v:=.string ⟨⟨[]⟩⟩) (x:=.bool false) (.inr rfl) (by simp +decide only[Gs,d0]) rfl (by simp +decide only[Gs,n0]) (by simp +decide only[Gs,n0]) ⟨_,_,rfl,M',?_⟩
  rw[he]
  exact⟨rfl,rfl,b2⟩
 rw[if_neg h2] at he
 have e2:decide ((l.length:Int)>4096)=false:=decide_eq_false (by omega)
 have cv:=qcv31_9 (K.byt (E:=E))
 repeat' (first|with_reducible apply Ws|(apply Wp;focus ((repeat ((with_reducible apply Rr rfl);focus ((try simp +decide only[Oy,n0,q0,q4,q6,Qx,Hx,ln,e1,e2,cv]);with_reducible rfl)));with_reducible exact Rn))|(refine W2 (by simp +decide only[Cx,n0,q0,q4,q6,e1,e2];try with_reducible rfl) (fun hb=>?_) (fun hb=>?_)<;>try contradiction)|apply W3|apply W4|apply W5|apply W6)
 refine done_r2 (v:=.string ⟨⟨l⟩⟩) (x:=.bool true) (.inr rfl) (by simp +decide only[Gs,d0]) rfl (by simp +decide only[Gs,n0]) (by simp +decide only[Gs,n0]) ⟨_,_,rfl,M,?_⟩
 rw[he]
 exact⟨rfl,rfl,b'⟩
end Go.Proofs.YtofijpbmbmbnhaaDoor
