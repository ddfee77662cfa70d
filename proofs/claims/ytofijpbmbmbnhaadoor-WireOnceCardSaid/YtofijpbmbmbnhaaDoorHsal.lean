/- The program's reader: items. -/
import Derived.Test.YtofijpbmbmbnhaaDoorHsak
set_option linter.unusedSimpArgs false
set_option linter.unusedVariables false
set_option maxRecDepth 100000
set_option maxHeartbeats 16000000
namespace Go.Proofs.YtofijpbmbmbnhaaDoor
open Go Go.Hs Go.Proofs
variable {E:Env} {I:Known}
theorem fn90:tab.fn.get 90=some Tryd.f90:=by kernel_rfl
noncomputable def loop56:Code:=loopOf Tryd.f56
abbrev fnV (f:Nat):Value:=.func (.func f) #[] #[]
def partsL:List Value:=[.int .u8 0,fnV 117,.int .u8 64,fnV 119,.int .u8 128,fnV 120]
theorem qbu141 (n:Int) (f:Nat):abuild tab 141 [(0,.int .u8 n),(1,fnV f)]=some (.agg ⟨[.int .u8 n,fnV f]⟩):=by unfold abuild;simp only[qty141];rfl
theorem qbu142 (a b c d e f:Value):abuild tab 142 [(0,.agg ⟨[a,b]⟩),(1,.agg ⟨[c,d]⟩),(2,.agg ⟨[e,f]⟩)]=some (.agg ⟨[a,b,c,d,e,f]⟩):=by unfold abuild;simp only[qty142];rfl
theorem qbu25z:abuild tab 25 []=some (.agg ⟨zeroL⟩):=by unfold abuild;simp only[qty25];rfl
theorem qbu25k (n:Int):abuild tab 25 [(0,.int .i64 n)]=some (.agg ⟨[.int .i64 n,.int .i64 0,.string ⟨#[]⟩,.slice none 0 0]⟩):=by unfold abuild;simp only[qty25];rfl
theorem qix142_0:aindex tab 142 (.agg ⟨partsL⟩) (.int .i64 0)=some (.agg ⟨[.int .u8 0,fnV 117]⟩):=by unfold aindex;simp only[qty142];unfold apart;simp only[qty141];rfl
theorem qix142_1:aindex tab 142 (.agg ⟨partsL⟩) (.int .i64 1)=some (.agg ⟨[.int .u8 64,fnV 119]⟩):=by unfold aindex;simp only[qty142];unfold apart;simp only[qty141];rfl
theorem qix142_2:aindex tab 142 (.agg ⟨partsL⟩) (.int .i64 2)=some (.agg ⟨[.int .u8 128,fnV 120]⟩):=by unfold aindex;simp only[qty142];unfold apart;simp only[qty141];rfl
theorem parts90 (hI:∀ args h,I 90 args h=none) {g:H} (f:Fit g):∃ n g',(ev tab E I n).call 90 [] g=some (.agg ⟨partsL⟩,g')∧Ahd g g':=by
 suffices hw:∃ n v g',(ev tab E I n).call 90 [] g=some (v,g')∧(v=.agg ⟨partsL⟩∧Ahd g g') by
  obtain⟨n,v,g',h1,rfl,h2⟩:=hw
  exact⟨n,g',h1,h2⟩
 apply Wk (hI _ _) fn90 rfl
 intro A0 n0 d0 hA0
 change A0.n=5 at n0
 clear hA0
 generalize hZ:(Value.agg #[.int .u8 0,.nilFunc,.int .u8 0,.nilFunc,.int .u8 0,.nilFunc]).cells.toList=Z
 generalize hh1:g.new (.cells Z 142 none)=h1
 have a1:Ahd g h1:=by rw[← hh1];exact Ahd.new0 f rfl
 have b1:h1.blk g.next=some (.cells [.int .u8 0,.nilFunc,.int .u8 0,.nilFunc,.int .u8 0,.nilFunc] 142 none):=by rw[← hh1,← hZ];exact new_blk_new rfl
 have s1:astore tab 142 (own g.next) (.agg ⟨partsL⟩) h1=some (h1.setl g.next (.cells partsL 142 none)):=astore_all qty142 b1 rfl rfl rfl (by simp[partsL])
 have a2:Ahd g (h1.setl g.next (.cells partsL 142 none)):=a1.setl rfl (Nat.le_refl _) (a1.fit.lt b1) f
 have l2:(h1.setl g.next (.cells partsL 142 none)).cells E (own g.next) 6=some partsL:=blk_cells (setl_same rfl) rfl rfl
 have e1:=qbu141 0 117
 have e2:=qbu141 64 119
 have e3:=qbu141 128 120
 unfold fnV at e1 e2 e3
 have e4:abuild tab 142 [(0,.agg ⟨[.int .u8 0,.func (.func 117) #[] #[]]⟩),(1,.agg ⟨[.int .u8 64,.func (.func 119) #[] #[]]⟩),(2,.agg ⟨[.int .u8 128,.func (.func 120) #[] #[]]⟩)]=some (.agg ⟨partsL⟩):=qbu142 _ _ _ _ _ _
 repeat' (first|with_reducible apply Ws|(apply Wp;focus ((repeat ((with_reducible apply Rr rfl);focus ((try simp +decide only[Oy,n0,qtz142,hZ,hh1,e1,e2,e3,e4,s1,roL]);with_reducible rfl)));with_reducible exact Rn))|(refine W2 (by simp +decide only[Cx,n0,hZ,e1,e2,e3,e4,roL];try with_reducible rfl) (fun hb=>?_) (fun hb=>?_)<;>try contradiction)|apply W3|apply W4|apply W5|apply W6)
 exact done_cell (.inr rfl) (by simp +decide only[Gs,d0]) rfl (show _=Value.pointer (some (own g.next)) by simp +decide only[Gs,n0]) (by rw[qld142,l2]) ⟨rfl,a2⟩
theorem rdKidsN_ok {bs:List UInt8} {f:Nat} {rec:Nat→Nat→Rd Hs.Item} (R:RdOk bs f rec) {pos items:Nat} {ks:List Hs.Item} {p it:Nat} (h:rdKidsN bs rec pos items=.ok ks p it) (hi:items≤5000):p≤bs.length∧it≤5000∧ks.length≤5000:=by
 rw[rdKidsN] at h
 split at h
 ·cases h
 ·next m q i' hm=>
  obtain⟨c1,c2,c3,c4,c5⟩:=rdN_ok hm
  obtain⟨d1,d2,d3,d4,d5,d6,d7⟩:=rdKids_ok R _ _ _ _ _ _ _ h c2 (by omega) (by rw[goodL];trivial) (by rw[lvlL];omega)
  exact⟨d2,d4,by rw[d7];simpa using c3⟩
theorem item56 (hI:∀ f args h,(f=56∨f=120∨f=119∨f=118∨f=117∨f=90∨f=82∨f=81)→I f args h=none) {k:Nat} {bs:List UInt8} (hl:bs.length≤1000000):∀ fu,fu≤250→Item56 E I k bs fu:=by
 intro fu
 induction fu with
 | zero=>
  intro _ g pos items f b hp hi
  have hI81:∀ args h,I 81 args h=none:=fun args h=>hI _ args h (by simp)
  have hI82:∀ f args h,(f=82∨f=81)→I f args h=none:=fun f args h hf=>hI f args h (by rcases hf with h|h<;>simp[h])
  show ∃ n v g',(ev tab E I n).call 56 [.pointer (some (own k)),.int .i64 (251:Nat)] g=some (v,g')∧_
  apply Wk (hI _ _ _ (.inl rfl)) fn56 rfl
  intro A0 n0 d0 hA0
  change A0.n=99 at n0
  have q0:A0.get 0=.pointer (some (own k)):=hA0 0 _ rfl
  have q1:A0.get 1=.int .i64 (251:Nat):=hA0 1 _ rfl
  clear hA0
  generalize hh1:g.new (.cells (Value.agg #[.int .i64 0,.int .i64 0,.string ⟨#[]⟩,.slice none 0 0]).cells.toList 25 none)=h1
  have t1:Ahd g h1:=by rw[← hh1];exact Ahd.new0 f rfl
  have b4:h1.blk g.next=some (.cells zeroL 25 none):=by rw[← hh1];exact new_blk_new rfl
  have n1:h1.next=g.next+1:=by rw[← hh1];rfl
  have kl:k<g.next:=f.lt b
  have b1:=b.mod (t1.mod (M:=fun _=>False)) (fun h=>h)
  obtain⟨c0,c1,c2,c3⟩:=b1.at (E:=E)
  have st4:∀ {h:H},h.blk g.next=some (.cells zeroL 25 none)→astore tab 25 (own g.next) (.agg ⟨zeroL⟩) h=some (h.setl g.next (.cells zeroL 25 none)):=fun hb=>astore_all qty25 hb rfl rfl rfl (by simp[zeroL])
  have low:∀ {h:H},Mod (fun j=>j=k∨g.next≤j) g h→Mod (fun j=>j=k) g h:=fun m=>m.low f (fun _ h=>h)
  have up:∀ {h h':H},Mod (fun j=>j=k) h h'→Mod (fun j=>j=k∨g.next≤j) h h':=fun m=>m.sub (fun _ h=>.inl h)
  have fin:∀ {h:H} {p it:Nat} {e:Int} {A0:Ac},A0.defers=[]→A0.get 4=.pointer (some (own g.next))→A0.get 5=.bool false→Mod (fun j=>j=k∨g.next≤j) g h→h.blk g.next=some (.cells zeroL 25 none)→Src k bs p e it h→rdItem bs 0 pos items=.bad p e→
    (Ex.ret=.normal∨Ex.ret=.ret)∧∃ h2 v',takeAll A0.defers h=some h2∧ares tab E Tryd.f56 A0 h2=some v'∧(∃ l z,v'=.tuple #[.agg ⟨l⟩,z]∧Mod (fun j=>j=k) g h2∧ItemQ E k bs (rdItem bs 0 pos items) g.next l z h2):=by
   intro h p it e A0 d0 q4 q5 m hb bb he
   refine⟨.inr rfl,h,.tuple #[.agg ⟨zeroL⟩,.bool false],by rw[d0];rfl,?_,zeroL,.bool false,rfl,low m,?_⟩
   ·have hc:h.cells E (own g.next) 4=some zeroL:=blk_cells hb rfl rfl
    unfold ares
    rw[show Tryd.f56.results=#[.cell 4 25,.tmp 5] from rfl]
    simp only[aresL,ares1,q4,q5,qld25,hc]
   ·rw[he]
    exact⟨rfl,rfl,it,bb⟩
  by_cases h1e:pos=bs.length
  ·-- the bytes end
   have e2:decide ((pos:Int)=(bs.length:Int))=true:=by simp;omega
   have hn:bs[pos]? = none:=by rw[List.getElem?_eq_none_iff];omega
   have he:rdItem bs 0 pos items=.bad pos 4:=by rw[rdItem,hn]
   obtain⟨nf,g',ck,m,b'⟩:=fail81 (E:=E) (I:=I) hI81 t1.fit.fresh (show Src k bs pos 0 items (fresh h1) from b1) 4 pos
   obtain⟨m',_,hn',_⟩:=Mod.back t1.fit m
   have b4':=m'.blk _ _ (by omega) b4
   have b'':Src k bs pos 4 items (back h1 g'):=b'.back
   generalize hh2:back h1 g'=h2 at m' b4' b'' hn'
   have s1:=st4 (h:=fresh h2) b4'
   have m2:=(Mod.refl (M:=fun j=>j=g.next) m'.fit).setl (B:=.cells zeroL 25 none) rfl rfl (m'.fit.lt b4')
   repeat' (first|with_reducible apply Ws|(apply Wp;focus ((repeat ((with_reducible apply Rr rfl);focus ((try simp +decide only[Oy,n0,qtz25,hh1]);with_reducible rfl)));with_reducible exact Rn))|(refine W2 (by simp +decide only[Cx,n0];try with_reducible rfl) (fun hb=>?_) (fun hb=>?_)<;>try contradiction)|apply W3|apply W4|apply W5|apply W6)
   refine Wc.drawC 1 (by kernel_rfl) ?_
   (iterate 12 ((first|apply Fp rfl rfl rfl|apply FC.new rfl rfl);focus ((try simp +decide only[Oy,n0,q0,Qx,Hx,c0,c1,e2]);with_reducible rfl)))
   refine FC.nil ?_
   repeat' (first|with_reducible apply Ws|(apply Wp;focus ((repeat ((with_reducible apply Rr rfl);focus ((try simp +decide only[Oy,n0]);with_reducible rfl)));with_reducible exact Rn))|(refine W2 (by simp +decide only[Cx,n0];try with_reducible rfl) (fun hb=>?_) (fun hb=>?_)<;>try contradiction)|apply W3|apply W4|apply W5|apply W6)
   refine Wc.drawQ nf (by kernel_rfl) ?_
   (iterate 9 ((first|apply Qp rfl rfl rfl|apply FQ.new rfl rfl);focus ((try simp +decide only[Oy,n0,q0,Qx,Hx,c1,qbu25z]);with_reducible rfl)))
   refine FQ.mod (h1:=g') (x:=.bool false) rfl rfl (by simp +decide only[Oy,n0,q0,Qx,Hx,ck]) ?_
   rw[hh2]
   refine FQ.setl (k:=g.next) rfl rfl (m'.fit.lt b4') (by simp +decide only[Oy,n0,s1];with_reducible rfl) ?_
   (iterate 1 ((first|apply Qp rfl rfl rfl|apply FQ.new rfl rfl);focus ((try simp +decide only[Oy,n0,q0]);with_reducible rfl)))
   refine FQ.nil ⟨?_,?_⟩
   ·exact allMeet_but [9,10] 12 [(0,9)] rfl rfl (by kernel_rfl) (fun _ _ _ _ hU e1 e2=>by simp only[List.mem_cons,Prod.mk.injEq,List.not_mem_nil,or_false] at hU;rcases hU with⟨rfl,rfl⟩<;>(cases e1;cases e2;exact meets_right (l:=[]) rfl rfl (fun _ _=>List.not_mem_nil) rfl (fun j _=>Nat.lt_or_ge _ _)))
   refine Wc.ret ?_
   exact fin (by simp +decide only[Gs,d0]) (by simp +decide only[Gs,n0]) (by simp +decide only[Gs,n0]) ((up m').sub (fun _ h=>h) |> fun x=>(t1.mod.trans (up m')).trans (m2.sub fun j hj=>.inr (by omega))) (setl_same rfl) (b''.mod m2 (by omega)) he
  have hlt:pos<bs.length:=by omega
  obtain⟨hd,hc⟩:∃ c,bs[pos]? = some c:=⟨bs[pos],List.getElem?_eq_getElem hlt⟩
  have e2:decide ((pos:Int)=(bs.length:Int))=false:=by simp;omega
  have he:rdItem bs 0 pos items=.bad pos 11:=by rw[rdItem,hc]
  obtain⟨nb,vb,h2,cb,mb,hb⟩:=begins82 (E:=E) (I:=I) hI82 t1.fit b1 hi 251
  have b42:=mb.blk _ _ (by omega) b4
  have M2:Mod (fun j=>j=k∨g.next≤j) g h2:=t1.mod.trans (up mb)
  have s1:=st4 b42
  have m3:=(Mod.refl (M:=fun j=>j=g.next) mb.fit).setl (B:=.cells zeroL 25 none) rfl rfl (mb.fit.lt b42)
  rcases hb with⟨_,rfl,bb⟩|⟨hb,_⟩|⟨hb,_⟩
  ·repeat' (first|with_reducible apply Ws|(apply Wp;focus ((repeat ((with_reducible apply Rr rfl);focus ((try simp +decide only[Oy,n0,qtz25,hh1]);with_reducible rfl)));with_reducible exact Rn))|(refine W2 (by simp +decide only[Cx,n0];try with_reducible rfl) (fun hb=>?_) (fun hb=>?_)<;>try contradiction)|apply W3|apply W4|apply W5|apply W6)
   refine Wc.drawC 1 (by kernel_rfl) ?_
   (iterate 12 ((first|apply Fp rfl rfl rfl|apply FC.new rfl rfl);focus ((try simp +decide only[Oy,n0,q0,Qx,Hx,c0,c1,e2]);with_reducible rfl)))
   refine FC.nil ?_
   repeat' (first|with_reducible apply Ws|(apply Wn nb;focus ((repeat ((with_reducible apply Rr rfl);focus ((try simp +decide only[Oy,n0,q0,q1,Qx,Hx,cb,qbu25z,s1]);with_reducible rfl)));with_reducible exact Rn))|(refine W2 (by simp +decide only[Cx,n0,q0,q1,cb];try with_reducible rfl) (fun hb=>?_) (fun hb=>?_)<;>try contradiction)|apply W3|apply W4|apply W5|apply W6)
   exact fin (by simp +decide only[Gs,d0]) (by simp +decide only[Gs,n0]) (by simp +decide only[Gs,n0]) (M2.trans (m3.sub fun j hj=>.inr (by omega))) (setl_same rfl) (bb.mod m3 (by omega)) he
  ·omega
  ·omega
 | succ fu IH=>
 intro hfu g pos items f b hp hi
 have hI81:∀ args h,I 81 args h=none:=fun args h=>hI _ args h (by simp)
 have hI82:∀ f args h,(f=82∨f=81)→I f args h=none:=fun f args h hf=>hI f args h (by rcases hf with h|h<;>simp[h])
 have hI117:∀ f args h,(f=117∨f=118∨f=81)→I f args h=none:=fun f args h hf=>hI f args h (by rcases hf with h|h|h<;>simp[h])
 have hI119:∀ f args h,(f=119∨f=118∨f=81)→I f args h=none:=fun f args h hf=>hI f args h (by rcases hf with h|h|h<;>simp[h])
 have hI120:∀ f args h,(f=120∨f=118∨f=81)→I f args h=none:=fun f args h hf=>hI f args h (by rcases hf with h|h|h<;>simp[h])
 have RI:=IH (by omega)
 have hlv:((251-(fu+1):Nat):Int)=((250-fu:Nat):Int):=by omega
 rw[show 251-(fu+1)=250-fu by omega]
 apply Wk (hI _ _ _ (.inl rfl)) fn56 rfl
 intro A0 n0 d0 hA0
 change A0.n=99 at n0
 have q0:A0.get 0=.pointer (some (own k)):=hA0 0 _ rfl
 have q1:A0.get 1=.int .i64 (250-fu:Nat):=hA0 1 _ rfl
 clear hA0
 generalize hh1:g.new (.cells (Value.agg #[.int .i64 0,.int .i64 0,.string ⟨#[]⟩,.slice none 0 0]).cells.toList 25 none)=h1
 have t1:Ahd g h1:=by rw[← hh1];exact Ahd.new0 f rfl
 have b4:h1.blk g.next=some (.cells zeroL 25 none):=by rw[← hh1];exact new_blk_new rfl
 have n1:h1.next=g.next+1:=by rw[← hh1];rfl
 have kl:k<g.next:=f.lt b
 have b1:=b.mod (t1.mod (M:=fun _=>False)) (fun h=>h)
 obtain⟨c0,c1,c2,c3⟩:=b1.at (E:=E)
 have st4:∀ {h:H},h.blk g.next=some (.cells zeroL 25 none)→astore tab 25 (own g.next) (.agg ⟨zeroL⟩) h=some (h.setl g.next (.cells zeroL 25 none)):=fun hb=>astore_all qty25 hb rfl rfl rfl (by simp[zeroL])
 have low:∀ {h:H},Mod (fun j=>j=k∨g.next≤j) g h→Mod (fun j=>j=k) g h:=fun m=>m.low f (fun _ h=>h)
 have up:∀ {h h':H},Mod (fun j=>j=k) h h'→Mod (fun j=>j=k∨g.next≤j) h h':=fun m=>m.sub (fun _ h=>.inl h)
 have fin:∀ {h:H} {p it:Nat} {e:Int} {A0:Ac},A0.defers=[]→A0.get 4=.pointer (some (own g.next))→A0.get 5=.bool false→Mod (fun j=>j=k∨g.next≤j) g h→h.blk g.next=some (.cells zeroL 25 none)→Src k bs p e it h→rdItem bs (fu+1) pos items=.bad p e→
   (Ex.ret=.normal∨Ex.ret=.ret)∧∃ h2 v',takeAll A0.defers h=some h2∧ares tab E Tryd.f56 A0 h2=some v'∧(∃ l z,v'=.tuple #[.agg ⟨l⟩,z]∧Mod (fun j=>j=k) g h2∧ItemQ E k bs (rdItem bs (fu+1) pos items) g.next l z h2):=by
  intro h p it e A0 d0 q4 q5 m hb bb he
  refine⟨.inr rfl,h,.tuple #[.agg ⟨zeroL⟩,.bool false],by rw[d0];rfl,?_,zeroL,.bool false,rfl,low m,?_⟩
  ·have hc:h.cells E (own g.next) 4=some zeroL:=blk_cells hb rfl rfl
   unfold ares
   rw[show Tryd.f56.results=#[.cell 4 25,.tmp 5] from rfl]
   simp only[aresL,ares1,q4,q5,qld25,hc]
  ·rw[he]
   exact⟨rfl,rfl,it,bb⟩
 by_cases h1e:pos=bs.length
 ·-- the bytes end
  have e2:decide ((pos:Int)=(bs.length:Int))=true:=by simp;omega
  have hn:bs[pos]? = none:=by rw[List.getElem?_eq_none_iff];omega
  have he:rdItem bs (fu+1) pos items=.bad pos 4:=by rw[rdItem,hn]
  obtain⟨nf,g',ck,m,b'⟩:=fail81 (E:=E) (I:=I) hI81 t1.fit.fresh (show Src k bs pos 0 items (fresh h1) from b1) 4 pos
  obtain⟨m',_,hn',_⟩:=Mod.back t1.fit m
  have b4':=m'.blk _ _ (by omega) b4
  have b'':Src k bs pos 4 items (back h1 g'):=b'.back
  generalize hh2:back h1 g'=h2 at m' b4' b'' hn'
  have s1:=st4 (h:=fresh h2) b4'
  have m2:=(Mod.refl (M:=fun j=>j=g.next) m'.fit).setl (B:=.cells zeroL 25 none) rfl rfl (m'.fit.lt b4')
  repeat' (first|with_reducible apply Ws|(apply Wp;focus ((repeat ((with_reducible apply Rr rfl);focus ((try simp +decide only[Oy,n0,qtz25,hh1]);with_reducible rfl)));with_reducible exact Rn))|(refine W2 (by simp +decide only[Cx,n0];try with_reducible rfl) (fun hb=>?_) (fun hb=>?_)<;>try contradiction)|apply W3|apply W4|apply W5|apply W6)
  refine Wc.drawC 1 (by kernel_rfl) ?_
  (iterate 12 ((first|apply Fp rfl rfl rfl|apply FC.new rfl rfl);focus ((try simp +decide only[Oy,n0,q0,Qx,Hx,c0,c1,e2]);with_reducible rfl)))
  refine FC.nil ?_
  repeat' (first|with_reducible apply Ws|(apply Wp;focus ((repeat ((with_reducible apply Rr rfl);focus ((try simp +decide only[Oy,n0]);with_reducible rfl)));with_reducible exact Rn))|(refine W2 (by simp +decide only[Cx,n0];try with_reducible rfl) (fun hb=>?_) (fun hb=>?_)<;>try contradiction)|apply W3|apply W4|apply W5|apply W6)
  refine Wc.drawQ nf (by kernel_rfl) ?_
  (iterate 9 ((first|apply Qp rfl rfl rfl|apply FQ.new rfl rfl);focus ((try simp +decide only[Oy,n0,q0,Qx,Hx,c1,qbu25z]);with_reducible rfl)))
  refine FQ.mod (h1:=g') (x:=.bool false) rfl rfl (by simp +decide only[Oy,n0,q0,Qx,Hx,ck]) ?_
  rw[hh2]
  refine FQ.setl (k:=g.next) rfl rfl (m'.fit.lt b4') (by simp +decide only[Oy,n0,s1];with_reducible rfl) ?_
  (iterate 1 ((first|apply Qp rfl rfl rfl|apply FQ.new rfl rfl);focus ((try simp +decide only[Oy,n0,q0]);with_reducible rfl)))
  refine FQ.nil ⟨?_,?_⟩
  ·exact allMeet_but [9,10] 12 [(0,9)] rfl rfl (by kernel_rfl) (fun _ _ _ _ hU e1 e2=>by simp only[List.mem_cons,Prod.mk.injEq,List.not_mem_nil,or_false] at hU;rcases hU with⟨rfl,rfl⟩<;>(cases e1;cases e2;exact meets_right (l:=[]) rfl rfl (fun _ _=>List.not_mem_nil) rfl (fun j _=>Nat.lt_or_ge _ _)))
  refine Wc.ret ?_
  exact fin (by simp +decide only[Gs,d0]) (by simp +decide only[Gs,n0]) (by simp +decide only[Gs,n0]) ((up m').sub (fun _ h=>h) |> fun x=>(t1.mod.trans (up m')).trans (m2.sub fun j hj=>.inr (by omega))) (setl_same rfl) (b''.mod m2 (by omega)) he
 have hlt:pos<bs.length:=by omega
 obtain⟨hd,hc⟩:∃ c,bs[pos]? = some c:=⟨bs[pos],List.getElem?_eq_getElem hlt⟩
 have hc8:hd.toNat<256:=hd.toNat_lt
 have e2:decide ((pos:Int)=(bs.length:Int))=false:=by simp;omega
 have eR:rdItem bs (fu+1) pos items=(if 5000≤items then .bad pos 2
   else if hd.toNat % 64=0 then .bad pos 4
   else match rdN bs 0 1099511627776 (pos+1) (items+1) with
    | .bad p e=>.bad p e
    | .ok n p items=>match (if hd.toNat / 64 % 2=1 then rdText bs p items else .ok ⟨⟨[]⟩⟩ p items) with
     | .bad p e=>.bad p e
     | .ok tx p items=>match (if 128≤hd.toNat then rdKidsN bs (rdItem bs fu) p items else .ok [] p items) with
      | .bad p e=>.bad p e
      | .ok ks p items=>.ok (.mk (hd.toNat % 64:Nat) (n:Nat) tx ks) p items):=by rw[rdItem,hc];rfl
 generalize rdItem bs (fu+1) pos items=R at eR fin ⊢
 obtain⟨nb,vb,h2,cb,mb,hb⟩:=begins82 (E:=E) (I:=I) hI82 t1.fit b1 hi (250-fu)
 have b42:=mb.blk _ _ (by omega) b4
 have M2:Mod (fun j=>j=k∨g.next≤j) g h2:=t1.mod.trans (up mb)
 repeat' (first|with_reducible apply Ws|(apply Wp;focus ((repeat ((with_reducible apply Rr rfl);focus ((try simp +decide only[Oy,n0,qtz25,hh1]);with_reducible rfl)));with_reducible exact Rn))|(refine W2 (by simp +decide only[Cx,n0];try with_reducible rfl) (fun hb=>?_) (fun hb=>?_)<;>try contradiction)|apply W3|apply W4|apply W5|apply W6)
 refine Wc.drawC 1 (by kernel_rfl) ?_
 (iterate 12 ((first|apply Fp rfl rfl rfl|apply FC.new rfl rfl);focus ((try simp +decide only[Oy,n0,q0,Qx,Hx,c0,c1,e2]);with_reducible rfl)))
 refine FC.nil ?_
 rcases hb with⟨hb,_⟩|⟨_,h5,rfl,bb⟩|⟨_,h5,rfl,bb⟩
 ·omega
 ·-- too many
  have s1:=st4 b42
  have m3:=(Mod.refl (M:=fun j=>j=g.next) mb.fit).setl (B:=.cells zeroL 25 none) rfl rfl (mb.fit.lt b42)
  rw[if_pos (by omega)] at eR
  repeat' (first|with_reducible apply Ws|(apply Wn nb;focus ((repeat ((with_reducible apply Rr rfl);focus ((try simp +decide only[Oy,n0,q0,q1,Qx,Hx,cb,qbu25z,s1]);with_reducible rfl)));with_reducible exact Rn))|(refine W2 (by simp +decide only[Cx,n0,q0,q1,cb];try with_reducible rfl) (fun hb=>?_) (fun hb=>?_)<;>try contradiction)|apply W3|apply W4|apply W5|apply W6)
  exact fin (by simp +decide only[Gs,d0]) (by simp +decide only[Gs,n0]) (by simp +decide only[Gs,n0]) (M2.trans (m3.sub fun j hj=>.inr (by omega))) (setl_same rfl) (bb.mod m3 (by omega)) eR
 rw[if_neg (by omega)] at eR
 obtain⟨c0,c1,c2,c3⟩:=bb.at (E:=E)
 have ix:=qix9 hc
 have a1:=and63 hd.toNat hc8
 have w0:IntKind.i64.wrap ((hd.toNat % 64:Nat):Int)=((hd.toNat % 64:Nat):Int):=wrapN (by omega)
 have bk:=qbu25k ((hd.toNat % 64:Nat):Int)
 generalize hh3:h2.new (.cells (Value.agg #[.int .i64 0,.int .i64 0,.string ⟨#[]⟩,.slice none 0 0]).cells.toList 25 none)=h3
 have t3:Ahd h2 h3:=by rw[← hh3];exact Ahd.new0 mb.fit rfl
 have b7:h3.blk h2.next=some (.cells zeroL 25 none):=by rw[← hh3];exact new_blk_new rfl
 have s7:astore tab 25 (own h2.next) (.agg ⟨[.int .i64 (hd.toNat % 64:Nat),.int .i64 0,.string ⟨#[]⟩,.slice none 0 0]⟩) h3=some (h3.setl h2.next (.cells [.int .i64 (hd.toNat % 64:Nat),.int .i64 0,.string ⟨#[]⟩,.slice none 0 0] 25 none)):=astore_all qty25 b7 rfl rfl rfl (by simp)
 have t4:Ahd h2 (h3.setl h2.next (.cells [.int .i64 (hd.toNat % 64:Nat),.int .i64 0,.string ⟨#[]⟩,.slice none 0 0] 25 none)):=t3.setl rfl (Nat.le_refl _) (t3.fit.lt b7) mb.fit
 have b7:=setl_same (h:=h3) (k:=h2.next) (B:=.cells [.int .i64 (hd.toNat % 64:Nat),.int .i64 0,.string ⟨#[]⟩,.slice none 0 0] 25 none) rfl
 generalize h3.setl h2.next (.cells [.int .i64 (hd.toNat % 64:Nat),.int .i64 0,.string ⟨#[]⟩,.slice none 0 0] 25 none)=h4 at s7 t4 b7
 have hk7:g.next<h2.next:=mb.fit.lt b42
 generalize hk7e:h2.next=k7 at*
 have b44:=t4.grows _ _ b42
 have M4:=M2.ahd t4
 have b5:=bb.mod (t4.mod (M:=fun _=>False)) (fun h=>h)
 have kd0:=cell_blk0 (E:=E) b7
 repeat' (first|with_reducible apply Ws|(apply Wn nb;focus ((repeat ((with_reducible apply Rr rfl);focus ((try simp +decide only[Oy,n0,q0,q1,Qx,Hx,cb]);with_reducible rfl)));with_reducible exact Rn))|(refine W2 (by simp +decide only[Cx,n0,q0,q1,cb];try with_reducible rfl) (fun hb=>?_) (fun hb=>?_)<;>try contradiction)|apply W3|apply W4|apply W5|apply W6)
 refine Wc.drawC 1 (by kernel_rfl) ?_
 (iterate 12 ((first|apply Fp rfl rfl rfl|apply FC.new rfl rfl);focus ((try simp +decide only[Oy,n0,q0,Qx,Hx,c0,c1,ix]);with_reducible rfl)))
 refine FC.nil ?_
 repeat' (first|with_reducible apply Ws|(apply Wp;focus ((repeat ((with_reducible apply Rr rfl);focus ((try simp +decide only[Oy,n0,a1,qcv5_3,w0,bk,qtz25,hh3,hk7e,s7]);with_reducible rfl)));with_reducible exact Rn))|(refine W2 (by simp +decide only[Cx,n0,a1,bk,hk7e];try with_reducible rfl) (fun hb=>?_) (fun hb=>?_)<;>try contradiction)|apply W3|apply W4|apply W5|apply W6)
 refine Wc.forget (fun A=>A.n=99∧A.defers=[]∧A.get 0=.pointer (some (own k))∧A.get 1=.int .i64 (250-fu:Nat)∧A.get 4=.pointer (some (own g.next))∧A.get 6=.int .u8 (hd.toNat:Nat)∧A.get 7=.pointer (some (own k7))) (by and_intros<;>simp +decide only[Gs,n0,d0,q0,q1]<;>rfl) ?_
 rintro A0 ⟨n0,d0,q0,q1,q4,q6,q7⟩
 by_cases hk0:hd.toNat % 64=0
 ·have e3:decide (((hd.toNat % 64:Nat):Int)=0)=true:=by simp;omega
  rw[if_pos hk0] at eR
  obtain⟨nf,g',ck,m,b'⟩:=fail81 (E:=E) (I:=I) hI81 t4.fit.fresh (show Src k bs pos 0 (items+1) (fresh h4) from b5) 4 pos
  obtain⟨m',_,hn',_⟩:=Mod.back t4.fit m
  have b4':=m'.blk _ _ (by omega) b44
  have b'':Src k bs pos 4 (items+1) (back h4 g'):=b'.back
  generalize hh5:back h4 g'=h5 at m' b4' b'' hn'
  have s1:=st4 (h:=fresh h5) b4'
  have m5:=(Mod.refl (M:=fun j=>j=g.next) m'.fit).setl (B:=.cells zeroL 25 none) rfl rfl (m'.fit.lt b4')
  obtain⟨_,c1,_,_⟩:=b5.at (E:=E)
  repeat' (first|with_reducible apply Ws|(apply Wp;focus ((repeat ((with_reducible apply Rr rfl);focus ((try simp +decide only[Oy,n0,q7,Qx,Hx,kd0,e3]);with_reducible rfl)));with_reducible exact Rn))|(refine W2 (by simp +decide only[Cx,n0,q7,kd0,e3];try with_reducible rfl) (fun hb=>?_) (fun hb=>?_)<;>try contradiction)|apply W3|apply W4|apply W5|apply W6)
  refine Wc.drawQ nf (by kernel_rfl) ?_
  (iterate 9 ((first|apply Qp rfl rfl rfl|apply FQ.new rfl rfl);focus ((try simp +decide only[Oy,n0,q0,Qx,Hx,c1,qbu25z]);with_reducible rfl)))
  refine FQ.mod (h1:=g') (x:=.bool false) rfl rfl (by simp +decide only[Oy,n0,q0,Qx,Hx,ck]) ?_
  rw[hh5]
  refine FQ.setl (k:=g.next) rfl rfl (m'.fit.lt b4') (by simp +decide only[Oy,n0,q4,s1];with_reducible rfl) ?_
  (iterate 1 ((first|apply Qp rfl rfl rfl|apply FQ.new rfl rfl);focus ((try simp +decide only[Oy,n0,q0]);with_reducible rfl)))
  refine FQ.nil ⟨?_,?_⟩
  ·exact allMeet_but [9,10] 12 [(0,9)] rfl rfl (by kernel_rfl) (fun _ _ _ _ hU e1 e2=>by simp only[List.mem_cons,Prod.mk.injEq,List.not_mem_nil,or_false] at hU;rcases hU with⟨rfl,rfl⟩<;>(cases e1;cases e2;exact meets_right (l:=[]) rfl rfl (fun _ _=>List.not_mem_nil) rfl (fun j _=>Nat.lt_or_ge _ _)))
  refine Wc.ret ?_
  exact fin (by simp +decide only[Gs,d0]) (by simp +decide only[Gs,n0,q4]) (by simp +decide only[Gs,n0]) ((M4.trans (up m')).trans (m5.sub fun j hj=>.inr (by omega))) (setl_same rfl) (b''.mod m5 (by omega)) eR
 have e3:decide (((hd.toNat % 64:Nat):Int)=0)=false:=by simp;omega
 rw[if_neg hk0] at eR
 obtain⟨_,c1,_,_⟩:=b5.at (E:=E)
 have w1:IntKind.i64.wrap ((pos:Int)+1)=((pos+1:Nat):Int):=by rw[wrap64 (by omega) (by omega)];omega
 obtain⟨s5,b5'⟩:=b5.pos (pos+1)
 have m5:=(Mod.refl (M:=fun j=>j=k) t4.fit).setl (B:=.cells [.string ⟨⟨bs⟩⟩,.int .i64 (pos+1:Nat),.int .i64 0,.int .i64 (items+1:Nat)] 86 none) rfl rfl (t4.fit.lt b5)
 generalize h4.setl k (.cells [.string ⟨⟨bs⟩⟩,.int .i64 (pos+1:Nat),.int .i64 0,.int .i64 (items+1:Nat)] 86 none)=h5 at s5 b5' m5
 have b45:=m5.blk _ _ (by omega) b44
 have b75:=m5.blk _ _ (by omega) b7
 have M5:=M4.trans (up m5)
 obtain⟨n9,h6,c9,t6⟩:=parts90 (E:=E) (I:=I) (fun args h=>hI _ args h (by simp)) m5.fit
 have b46:=t6.grows _ _ b45
 have b76:=t6.grows _ _ b75
 have b6:=b5'.mod (t6.mod (M:=fun _=>False)) (fun h=>h)
 have M6:=M5.ahd t6
 repeat' (first|with_reducible apply Ws|(apply Wn n9;focus ((repeat ((with_reducible apply Rr rfl);focus ((try simp +decide only[Oy,n0,q0,q1,q4,q6,q7,Qx,Hx,kd0,e3,c1,w1,s5,c9]);with_reducible rfl)));with_reducible exact Rn))|(refine W2 (by simp +decide only[Cx,n0,q0,q1,q4,q6,q7,kd0,e3];try with_reducible rfl) (fun hb=>?_) (fun hb=>?_)<;>try contradiction)|apply W3|apply W4|apply W5|apply W6)
 refine Wc.forget (fun A=>A.n=99∧A.defers=[]∧A.get 0=.pointer (some (own k))∧A.get 1=.int .i64 (250-fu:Nat)∧A.get 4=.pointer (some (own g.next))∧A.get 6=.int .u8 (hd.toNat:Nat)∧A.get 7=.pointer (some (own k7))∧A.get 74=.agg ⟨partsL⟩∧A.get 75=.int .i64 0) (by and_intros<;>simp +decide only[Gs,n0,d0,q0,q1,q4,q6,q7]<;>rfl) ?_
 rintro A0 ⟨n0,d0,q0,q1,q4,q6,q7,q74,q75⟩
 have mk9:∀ (h:H) (x y:Value),isOne x=true→isOne y=true→Fit h→∃ hn h',h.new (.cells (Value.agg #[.int .u8 0,.nilFunc]).cells.toList 141 none)=hn∧astore tab 141 (own h.next) (.agg ⟨[x,y]⟩) hn=some h'∧Ahd h h'∧h'.blk h.next=some (.cells [x,y] 141 none):=by
  intro h x y ox oy fh
  have t:Ahd h (h.new (.cells (Value.agg #[.int .u8 0,.nilFunc]).cells.toList 141 none)):=Ahd.new0 fh rfl
  have bb:(h.new (.cells (Value.agg #[.int .u8 0,.nilFunc]).cells.toList 141 none)).blk h.next=some (.cells [.int .u8 0,.nilFunc] 141 none):=new_blk_new rfl
  exact⟨_,_,rfl,astore_all qty141 bb rfl rfl (by simp[ox,oy]) (by simp),t.setl rfl (Nat.le_refl _) (t.fit.lt bb) fh,setl_same rfl⟩
 have w75:∀ i:Nat,i≤10→IntKind.i64.wrap ((i:Int)+1)=((i+1:Nat):Int):=fun i hi=>by rw[wrap64 (by omega) (by omega)];omega
 have L3:∀ (A0:Ac) (h:H) (p it nm base:Nat) (tx:ByteArray) (ks:List Hs.Item) (sl:Value),A0.n=99→A0.defers=[]→A0.get 0=.pointer (some (own k))→A0.get 1=.int .i64 (250-fu:Nat)→A0.get 4=.pointer (some (own g.next))→A0.get 6=.int .u8 (hd.toNat:Nat)→A0.get 7=.pointer (some (own k7))→A0.get 74=.agg ⟨partsL⟩→A0.get 75=.int .i64 3→Mod (fun j=>j=k∨g.next≤j) g h→h.blk g.next=some (.cells zeroL 25 none)→Src k bs p 0 it h→p≤bs.length→it≤5000→g.next≤base→ks.length<1000000000→R=.ok (.mk (hd.toNat % 64:Nat) (nm:Nat) tx ks) p it→h.blk k7=some (.cells [.int .i64 (hd.toNat % 64:Nat),.int .i64 (nm:Nat),.string tx,sl] 25 none)→Kol E 25 base h.next h sl ks→
   Wc tab E I ⟨56,none⟩ (.loop loop56) A0 h (fun ex A' h'=>A'.n=99∧A'.defers=[]∧A'.get 4=.pointer (some (own g.next))∧Mod (fun j=>j=k∨g.next≤j) g h'∧h'.blk g.next=some (.cells zeroL 25 none)∧((ex=.exit 0∧A'.get 7=.pointer (some (own k7))∧∃ (nm:Nat) (tx:ByteArray) (ks:List Hs.Item) (sl:Value) (p it base:Nat),g.next≤base∧ks.length<1000000000∧R=.ok (.mk (hd.toNat % 64:Nat) (nm:Nat) tx ks) p it∧Src k bs p 0 it h'∧h'.blk k7=some (.cells [.int .i64 (hd.toNat % 64:Nat),.int .i64 (nm:Nat),.string tx,sl] 25 none)∧Kol E 25 base h'.next h' sl ks)∨(ex=.ret∧A'.get 5=.bool false∧∃ p e it,R=.bad p e∧Src k bs p e it h'))):=by
  intro A0 h p it nm base tx ks sl n0 d0 q0 q1 q4 q6 q7 q74 q75 M b4 b hp hit hbs hks hR b7 K
  apply Wc.loop
  simp only[loop56,loopOf,firstLoop,Option.getD,Tryd.f56]
  repeat' (first|with_reducible apply Ws|(apply Wp;focus ((repeat ((with_reducible apply Rr rfl);focus ((try simp +decide only[Oy,n0,q75]);with_reducible rfl)));with_reducible exact Rn))|(refine W2 (by simp +decide only[Cx,n0,q75];try with_reducible rfl) (fun hb=>?_) (fun hb=>?_)<;>try contradiction)|apply W3|apply W4|apply W5|apply W6)
  exact⟨by simp +decide only[Gs,n0],by simp +decide only[Gs,d0],by simp +decide only[Gs,n0,q4],M,b4,.inl ⟨rfl,by simp +decide only[Gs,n0,q7],nm,tx,ks,sl,p,it,base,hbs,hks,hR,b,b7,K⟩⟩
 have L2:∀ (A0:Ac) (h:H) (p it nm:Nat) (tx:ByteArray),A0.n=99→A0.defers=[]→A0.get 0=.pointer (some (own k))→A0.get 1=.int .i64 (250-fu:Nat)→A0.get 4=.pointer (some (own g.next))→A0.get 6=.int .u8 (hd.toNat:Nat)→A0.get 7=.pointer (some (own k7))→A0.get 74=.agg ⟨partsL⟩→A0.get 75=.int .i64 2→Mod (fun j=>j=k∨g.next≤j) g h→h.blk g.next=some (.cells zeroL 25 none)→Src k bs p 0 it h→p≤bs.length→it≤5000→R=(match (if 128≤hd.toNat then rdKidsN bs (rdItem bs fu) p it else .ok [] p it) with
      | .bad p e=>.bad p e
      | .ok ks p items=>.ok (.mk (hd.toNat % 64:Nat) (nm:Nat) tx ks) p items)→h.blk k7=some (.cells [.int .i64 (hd.toNat % 64:Nat),.int .i64 (nm:Nat),.string tx,.slice none 0 0] 25 none)→
   Wc tab E I ⟨56,none⟩ (.loop loop56) A0 h (fun ex A' h'=>A'.n=99∧A'.defers=[]∧A'.get 4=.pointer (some (own g.next))∧Mod (fun j=>j=k∨g.next≤j) g h'∧h'.blk g.next=some (.cells zeroL 25 none)∧((ex=.exit 0∧A'.get 7=.pointer (some (own k7))∧∃ (nm:Nat) (tx:ByteArray) (ks:List Hs.Item) (sl:Value) (p it base:Nat),g.next≤base∧ks.length<1000000000∧R=.ok (.mk (hd.toNat % 64:Nat) (nm:Nat) tx ks) p it∧Src k bs p 0 it h'∧h'.blk k7=some (.cells [.int .i64 (hd.toNat % 64:Nat),.int .i64 (nm:Nat),.string tx,sl] 25 none)∧Kol E 25 base h'.next h' sl ks)∨(ex=.ret∧A'.get 5=.bool false∧∃ p e it,R=.bad p e∧Src k bs p e it h'))):=by
  intro A0 h p it nm tx n0 d0 q0 q1 q4 q6 q7 q74 q75 M b4 b hp hit hR b7
  have fh:=M.fit
  obtain⟨hn,h9,hh9,s9,t9,b9⟩:=mk9 h (.int .u8 128) (fnV 120) rfl rfl fh
  have ix:=qix142_2
  have l90:=cell_blk0 (E:=E) b9
  have l91:=cell_blk (E:=E) b9 1
  have a2:=and128 hd.toNat hc8
  have w2:IntKind.i64.wrap (2+1)=3:=by rw[wrap64 (by omega) (by omega)];rfl
  have M9:=M.ahd t9
  have b49:=t9.grows _ _ b4
  have b79:=t9.grows _ _ b7
  have bs9:=b.mod (t9.mod (M:=fun _=>False)) (fun h=>h)
  apply Wc.loop
  simp only[loop56,loopOf,firstLoop,Option.getD,Tryd.f56]
  by_cases ho:128≤hd.toNat
  ·rw[if_pos ho] at hR
   have e5:decide (((128*(hd.toNat / 128):Nat):Int)=0)=false:=by simp;omega
   obtain⟨nf,v,hz,cp,mz,hq⟩:=part120 (E:=E) (I:=I) hI120 (by omega) RI t9.fit bs9 b79 (by omega) hp hit hl
   have Mz:=M9.trans (mz.sub (N:=fun j=>j=k∨g.next≤j) fun j hj=>hj.imp id (fun e=>by omega))
   have b4z:=mz.blk _ _ (by omega) b49
   generalize hr:rdKidsN bs (rdItem bs fu) p it=r at hq hR
   cases r with
   | bad p' e=>
    obtain⟨rfl,it',bz⟩:=hq
    have s4:=st4 b4z
    have m5:=(Mod.refl (M:=fun j=>j=g.next) Mz.fit).setl (B:=.cells zeroL 25 none) rfl rfl (Mz.fit.lt b4z)
    repeat' (first|with_reducible apply Ws|(apply Wn nf;focus ((repeat (first|((first|with_reducible apply Rr rfl|((with_reducible apply Rg);(focus rfl);(focus rfl);focus (simp +decide only[Gs,n0,q0,q1,q4,q6,q7,q74,q75,Qx,Hx,ix,qtz141,hh9,s9,l90,l91,a2,e5,cp,qbu25z,s4];done)));focus ((try simp +decide only[Oy,n0,q0,q1,q4,q6,q7,q74,q75,Qx,Hx,ix,qtz141,hh9,s9,l90,l91,a2,e5,cp,qbu25z,s4]);with_reducible rfl))|((with_reducible apply Rs);(focus rfl);(focus rfl);focus (simp +decide only[Gs,n0,q0,q1,q4,q6,q7,q74,q75,Qx,Hx,ix,qtz141,hh9,s9,l90,l91,a2,e5,cp,qbu25z,s4];done))));with_reducible exact Rn))|(refine W2 (by simp +decide only[Cx,n0,q0,q1,q4,q6,q7,q74,q75,a2,e5,cp];try with_reducible rfl) (fun hb=>?_) (fun hb=>?_)<;>try contradiction)|apply W3|apply W4|apply W5|apply W6)
    exact⟨by simp +decide only[Gs,n0],by simp +decide only[Gs,d0],by simp +decide only[Gs,n0,q4],Mz.trans (m5.sub fun j hj=>.inr (by omega)),setl_same rfl,.inr ⟨rfl,by simp +decide only[Gs,n0],_,_,_,hR,bz.mod m5 (by omega)⟩⟩
   | ok ks p' it'=>
    obtain⟨rfl,bz,sl,b7z,K⟩:=hq
    obtain⟨ok1,ok2,ok3⟩:=rdKidsN_ok (rdItem_ok bs fu) hr hit
    repeat' (first|with_reducible apply Ws|(apply Wn nf;focus ((repeat (first|((first|with_reducible apply Rr rfl|((with_reducible apply Rg);(focus rfl);(focus rfl);focus (simp +decide only[Gs,n0,q0,q1,q4,q6,q7,q74,q75,Qx,Hx,ix,qtz141,hh9,s9,l90,l91,a2,e5,cp,w2];done)));focus ((try simp +decide only[Oy,n0,q0,q1,q4,q6,q7,q74,q75,Qx,Hx,ix,qtz141,hh9,s9,l90,l91,a2,e5,cp,w2]);with_reducible rfl))|((with_reducible apply Rs);(focus rfl);(focus rfl);focus (simp +decide only[Gs,n0,q0,q1,q4,q6,q7,q74,q75,Qx,Hx,ix,qtz141,hh9,s9,l90,l91,a2,e5,cp,w2];done))));with_reducible exact Rn))|(refine W2 (by simp +decide only[Cx,n0,q0,q1,q4,q6,q7,q74,q75,a2,e5,cp];try with_reducible rfl) (fun hb=>?_) (fun hb=>?_)<;>try contradiction)|apply W3|apply W4|apply W5|apply W6)
    refine L3 _ hz p' it' nm h9.next tx ks sl ?_ ?_ ?_ ?_ ?_ ?_ ?_ ?_ ?_ Mz b4z bz ?_ ?_ ?_ ?_ hR b7z K
    ·simp +decide only[Gs,n0]
    ·simp +decide only[Gs,d0]
    ·simp +decide only[Gs,n0,q0]
    ·simp +decide only[Gs,n0,q1]
    ·simp +decide only[Gs,n0,q4]
    ·simp +decide only[Gs,n0,q6]
    ·simp +decide only[Gs,n0,q7]
    ·simp +decide only[Gs,n0,q74]
    ·simp +decide only[Gs,n0]
    ·exact ok1
    ·exact ok2
    ·exact Nat.le_trans M.next t9.next
    ·omega
  ·rw[if_neg ho] at hR
   have e5:decide (((128*(hd.toNat / 128):Nat):Int)=0)=true:=by simp;omega
   repeat' (first|with_reducible apply Ws|(apply Wp;focus ((repeat (first|((first|with_reducible apply Rr rfl|((with_reducible apply Rg);(focus rfl);(focus rfl);focus (simp +decide only[Gs,n0,q0,q1,q4,q6,q7,q74,q75,Qx,Hx,ix,qtz141,hh9,s9,l90,l91,a2,e5,w2];done)));focus ((try simp +decide only[Oy,n0,q0,q1,q4,q6,q7,q74,q75,Qx,Hx,ix,qtz141,hh9,s9,l90,l91,a2,e5,w2]);with_reducible rfl))|((with_reducible apply Rs);(focus rfl);(focus rfl);focus (simp +decide only[Gs,n0,q0,q1,q4,q6,q7,q74,q75,Qx,Hx,ix,qtz141,hh9,s9,l90,l91,a2,e5,w2];done))));with_reducible exact Rn))|(refine W2 (by simp +decide only[Cx,n0,q0,q1,q4,q6,q7,q74,q75,a2,e5];try with_reducible rfl) (fun hb=>?_) (fun hb=>?_)<;>try contradiction)|apply W3|apply W4|apply W5|apply W6)
   refine L3 _ h9 p it nm h9.next tx [] (.slice none 0 0) ?_ ?_ ?_ ?_ ?_ ?_ ?_ ?_ ?_ M9 b49 bs9 hp hit ?_ (by decide) hR b79 (Kol.nil _ _ _)
   ·simp +decide only[Gs,n0]
   ·simp +decide only[Gs,d0]
   ·simp +decide only[Gs,n0,q0]
   ·simp +decide only[Gs,n0,q1]
   ·simp +decide only[Gs,n0,q4]
   ·simp +decide only[Gs,n0,q6]
   ·simp +decide only[Gs,n0,q7]
   ·simp +decide only[Gs,n0,q74]
   ·simp +decide only[Gs,n0]
   ·exact Nat.le_trans M.next t9.next
 have L1:∀ (A0:Ac) (h:H) (p it nm:Nat),A0.n=99→A0.defers=[]→A0.get 0=.pointer (some (own k))→A0.get 1=.int .i64 (250-fu:Nat)→A0.get 4=.pointer (some (own g.next))→A0.get 6=.int .u8 (hd.toNat:Nat)→A0.get 7=.pointer (some (own k7))→A0.get 74=.agg ⟨partsL⟩→A0.get 75=.int .i64 1→Mod (fun j=>j=k∨g.next≤j) g h→h.blk g.next=some (.cells zeroL 25 none)→Src k bs p 0 it h→p≤bs.length→it≤5000→R=(match (if hd.toNat / 64 % 2=1 then rdText bs p it else .ok ⟨⟨[]⟩⟩ p it) with
     | .bad p e=>.bad p e
     | .ok tx p items=>match (if 128≤hd.toNat then rdKidsN bs (rdItem bs fu) p items else .ok [] p items) with
      | .bad p e=>.bad p e
      | .ok ks p items=>.ok (.mk (hd.toNat % 64:Nat) (nm:Nat) tx ks) p items)→h.blk k7=some (.cells [.int .i64 (hd.toNat % 64:Nat),.int .i64 (nm:Nat),.string ⟨#[]⟩,.slice none 0 0] 25 none)→
   Wc tab E I ⟨56,none⟩ (.loop loop56) A0 h (fun ex A' h'=>A'.n=99∧A'.defers=[]∧A'.get 4=.pointer (some (own g.next))∧Mod (fun j=>j=k∨g.next≤j) g h'∧h'.blk g.next=some (.cells zeroL 25 none)∧((ex=.exit 0∧A'.get 7=.pointer (some (own k7))∧∃ (nm:Nat) (tx:ByteArray) (ks:List Hs.Item) (sl:Value) (p it base:Nat),g.next≤base∧ks.length<1000000000∧R=.ok (.mk (hd.toNat % 64:Nat) (nm:Nat) tx ks) p it∧Src k bs p 0 it h'∧h'.blk k7=some (.cells [.int .i64 (hd.toNat % 64:Nat),.int .i64 (nm:Nat),.string tx,sl] 25 none)∧Kol E 25 base h'.next h' sl ks)∨(ex=.ret∧A'.get 5=.bool false∧∃ p e it,R=.bad p e∧Src k bs p e it h'))):=by
  intro A0 h p it nm n0 d0 q0 q1 q4 q6 q7 q74 q75 M b4 b hp hit hR b7
  have fh:=M.fit
  obtain⟨hn,h9,hh9,s9,t9,b9⟩:=mk9 h (.int .u8 64) (fnV 119) rfl rfl fh
  have ix:=qix142_1
  have l90:=cell_blk0 (E:=E) b9
  have l91:=cell_blk (E:=E) b9 1
  have a2:=and64 hd.toNat hc8
  have w2:IntKind.i64.wrap (1+1)=2:=by rw[wrap64 (by omega) (by omega)];rfl
  have M9:=M.ahd t9
  have b49:=t9.grows _ _ b4
  have b79:=t9.grows _ _ b7
  have bs9:=b.mod (t9.mod (M:=fun _=>False)) (fun h=>h)
  apply Wc.loop
  simp only[loop56,loopOf,firstLoop,Option.getD,Tryd.f56]
  by_cases ho:hd.toNat / 64 % 2=1
  ·rw[if_pos ho] at hR
   have e5:decide (((64*(hd.toNat / 64 % 2):Nat):Int)=0)=false:=by rw[ho];decide
   obtain⟨nf,v,hz,cp,mz,hq⟩:=part119 (E:=E) (I:=I) hI119 t9.fit bs9 b79 (by omega) hp hl (.int .i64 (250-fu:Nat))
   have Mz:=M9.trans (mz.sub (N:=fun j=>j=k∨g.next≤j) fun j hj=>hj.imp id (fun e=>by omega))
   have b4z:=mz.blk _ _ (by omega) b49
   generalize hr:rdText bs p it=r at hq hR
   cases r with
   | bad p' e=>
    obtain⟨rfl,it',bz⟩:=hq
    have s4:=st4 b4z
    have m5:=(Mod.refl (M:=fun j=>j=g.next) Mz.fit).setl (B:=.cells zeroL 25 none) rfl rfl (Mz.fit.lt b4z)
    repeat' (first|with_reducible apply Ws|(apply Wn nf;focus ((repeat (first|((first|with_reducible apply Rr rfl|((with_reducible apply Rg);(focus rfl);(focus rfl);focus (simp +decide only[Gs,n0,q0,q1,q4,q6,q7,q74,q75,Qx,Hx,ix,qtz141,hh9,s9,l90,l91,a2,e5,cp,qbu25z,s4];done)));focus ((try simp +decide only[Oy,n0,q0,q1,q4,q6,q7,q74,q75,Qx,Hx,ix,qtz141,hh9,s9,l90,l91,a2,e5,cp,qbu25z,s4]);with_reducible rfl))|((with_reducible apply Rs);(focus rfl);(focus rfl);focus (simp +decide only[Gs,n0,q0,q1,q4,q6,q7,q74,q75,Qx,Hx,ix,qtz141,hh9,s9,l90,l91,a2,e5,cp,qbu25z,s4];done))));with_reducible exact Rn))|(refine W2 (by simp +decide only[Cx,n0,q0,q1,q4,q6,q7,q74,q75,a2,e5,cp];try with_reducible rfl) (fun hb=>?_) (fun hb=>?_)<;>try contradiction)|apply W3|apply W4|apply W5|apply W6)
    exact⟨by simp +decide only[Gs,n0],by simp +decide only[Gs,d0],by simp +decide only[Gs,n0,q4],Mz.trans (m5.sub fun j hj=>.inr (by omega)),setl_same rfl,.inr ⟨rfl,by simp +decide only[Gs,n0],_,_,_,hR,bz.mod m5 (by omega)⟩⟩
   | ok tx p' it'=>
    obtain⟨rfl,bz,b7z⟩:=hq
    obtain⟨_,ok1,_,_,ok2⟩:=rdText_ok hr
    repeat' (first|with_reducible apply Ws|(apply Wn nf;focus ((repeat (first|((first|with_reducible apply Rr rfl|((with_reducible apply Rg);(focus rfl);(focus rfl);focus (simp +decide only[Gs,n0,q0,q1,q4,q6,q7,q74,q75,Qx,Hx,ix,qtz141,hh9,s9,l90,l91,a2,e5,cp,w2];done)));focus ((try simp +decide only[Oy,n0,q0,q1,q4,q6,q7,q74,q75,Qx,Hx,ix,qtz141,hh9,s9,l90,l91,a2,e5,cp,w2]);with_reducible rfl))|((with_reducible apply Rs);(focus rfl);(focus rfl);focus (simp +decide only[Gs,n0,q0,q1,q4,q6,q7,q74,q75,Qx,Hx,ix,qtz141,hh9,s9,l90,l91,a2,e5,cp,w2];done))));with_reducible exact Rn))|(refine W2 (by simp +decide only[Cx,n0,q0,q1,q4,q6,q7,q74,q75,a2,e5,cp];try with_reducible rfl) (fun hb=>?_) (fun hb=>?_)<;>try contradiction)|apply W3|apply W4|apply W5|apply W6)
    refine L2 _ hz p' it' nm tx ?_ ?_ ?_ ?_ ?_ ?_ ?_ ?_ ?_ Mz b4z bz ok1 (by omega) hR b7z
    ·simp +decide only[Gs,n0]
    ·simp +decide only[Gs,d0]
    ·simp +decide only[Gs,n0,q0]
    ·simp +decide only[Gs,n0,q1]
    ·simp +decide only[Gs,n0,q4]
    ·simp +decide only[Gs,n0,q6]
    ·simp +decide only[Gs,n0,q7]
    ·simp +decide only[Gs,n0,q74]
    ·simp +decide only[Gs,n0]
  ·rw[if_neg ho] at hR
   have e5:decide (((64*(hd.toNat / 64 % 2):Nat):Int)=0)=true:=by
    rw[show hd.toNat / 64 % 2=0 by omega];decide
   repeat' (first|with_reducible apply Ws|(apply Wp;focus ((repeat (first|((first|with_reducible apply Rr rfl|((with_reducible apply Rg);(focus rfl);(focus rfl);focus (simp +decide only[Gs,n0,q0,q1,q4,q6,q7,q74,q75,Qx,Hx,ix,qtz141,hh9,s9,l90,l91,a2,e5,w2];done)));focus ((try simp +decide only[Oy,n0,q0,q1,q4,q6,q7,q74,q75,Qx,Hx,ix,qtz141,hh9,s9,l90,l91,a2,e5,w2]);with_reducible rfl))|((with_reducible apply Rs);(focus rfl);(focus rfl);focus (simp +decide only[Gs,n0,q0,q1,q4,q6,q7,q74,q75,Qx,Hx,ix,qtz141,hh9,s9,l90,l91,a2,e5,w2];done))));with_reducible exact Rn))|(refine W2 (by simp +decide only[Cx,n0,q0,q1,q4,q6,q7,q74,q75,a2,e5];try with_reducible rfl) (fun hb=>?_) (fun hb=>?_)<;>try contradiction)|apply W3|apply W4|apply W5|apply W6)
   refine L2 _ h9 p it nm ⟨⟨[]⟩⟩ ?_ ?_ ?_ ?_ ?_ ?_ ?_ ?_ ?_ M9 b49 bs9 hp hit hR b79
   ·simp +decide only[Gs,n0]
   ·simp +decide only[Gs,d0]
   ·simp +decide only[Gs,n0,q0]
   ·simp +decide only[Gs,n0,q1]
   ·simp +decide only[Gs,n0,q4]
   ·simp +decide only[Gs,n0,q6]
   ·simp +decide only[Gs,n0,q7]
   ·simp +decide only[Gs,n0,q74]
   ·simp +decide only[Gs,n0]
 have L0:∀ (A0:Ac) (h:H) (p it:Nat),A0.n=99→A0.defers=[]→A0.get 0=.pointer (some (own k))→A0.get 1=.int .i64 (250-fu:Nat)→A0.get 4=.pointer (some (own g.next))→A0.get 6=.int .u8 (hd.toNat:Nat)→A0.get 7=.pointer (some (own k7))→A0.get 74=.agg ⟨partsL⟩→A0.get 75=.int .i64 0→Mod (fun j=>j=k∨g.next≤j) g h→h.blk g.next=some (.cells zeroL 25 none)→Src k bs p 0 it h→p≤bs.length→it≤5000→R=(match rdN bs 0 1099511627776 p it with
    | .bad p e=>.bad p e
    | .ok n p items=>match (if hd.toNat / 64 % 2=1 then rdText bs p items else .ok ⟨⟨[]⟩⟩ p items) with
     | .bad p e=>.bad p e
     | .ok tx p items=>match (if 128≤hd.toNat then rdKidsN bs (rdItem bs fu) p items else .ok [] p items) with
      | .bad p e=>.bad p e
      | .ok ks p items=>.ok (.mk (hd.toNat % 64:Nat) (n:Nat) tx ks) p items)→h.blk k7=some (.cells [.int .i64 (hd.toNat % 64:Nat),.int .i64 0,.string ⟨#[]⟩,.slice none 0 0] 25 none)→
   Wc tab E I ⟨56,none⟩ (.loop loop56) A0 h (fun ex A' h'=>A'.n=99∧A'.defers=[]∧A'.get 4=.pointer (some (own g.next))∧Mod (fun j=>j=k∨g.next≤j) g h'∧h'.blk g.next=some (.cells zeroL 25 none)∧((ex=.exit 0∧A'.get 7=.pointer (some (own k7))∧∃ (nm:Nat) (tx:ByteArray) (ks:List Hs.Item) (sl:Value) (p it base:Nat),g.next≤base∧ks.length<1000000000∧R=.ok (.mk (hd.toNat % 64:Nat) (nm:Nat) tx ks) p it∧Src k bs p 0 it h'∧h'.blk k7=some (.cells [.int .i64 (hd.toNat % 64:Nat),.int .i64 (nm:Nat),.string tx,sl] 25 none)∧Kol E 25 base h'.next h' sl ks)∨(ex=.ret∧A'.get 5=.bool false∧∃ p e it,R=.bad p e∧Src k bs p e it h'))):=by
  intro A0 h p it n0 d0 q0 q1 q4 q6 q7 q74 q75 M b4 b hp hit hR b7
  have fh:=M.fit
  obtain⟨hn,h9,hh9,s9,t9,b9⟩:=mk9 h (.int .u8 0) (fnV 117) rfl rfl fh
  have ix:=qix142_0
  have l90:=cell_blk0 (E:=E) b9
  have l91:=cell_blk (E:=E) b9 1
  have w2:IntKind.i64.wrap (0+1)=1:=by rw[wrap64 (by omega) (by omega)];rfl
  have M9:=M.ahd t9
  have b49:=t9.grows _ _ b4
  have b79:=t9.grows _ _ b7
  have bs9:=b.mod (t9.mod (M:=fun _=>False)) (fun h=>h)
  apply Wc.loop
  simp only[loop56,loopOf,firstLoop,Option.getD,Tryd.f56]
  obtain⟨nf,v,hz,cp,mz,hq⟩:=part117 (E:=E) (I:=I) hI117 t9.fit bs9 b79 (by omega) hp hl (.int .i64 (250-fu:Nat))
  have Mz:=M9.trans (mz.sub (N:=fun j=>j=k∨g.next≤j) fun j hj=>hj.imp id (fun e=>by omega))
  have b4z:=mz.blk _ _ (by omega) b49
  generalize hr:rdN bs 0 1099511627776 p it=r at hq hR
  cases r with
  | bad p' e=>
   obtain⟨rfl,it',bz⟩:=hq
   have s4:=st4 b4z
   have m5:=(Mod.refl (M:=fun j=>j=g.next) Mz.fit).setl (B:=.cells zeroL 25 none) rfl rfl (Mz.fit.lt b4z)
   repeat' (first|with_reducible apply Ws|(apply Wn nf;focus ((repeat (first|((first|with_reducible apply Rr rfl|((with_reducible apply Rg);(focus rfl);(focus rfl);focus (simp +decide only[Gs,n0,q0,q1,q4,q6,q7,q74,q75,Qx,Hx,ix,qtz141,hh9,s9,l90,l91,cp,qbu25z,s4];done)));focus ((try simp +decide only[Oy,n0,q0,q1,q4,q6,q7,q74,q75,Qx,Hx,ix,qtz141,hh9,s9,l90,l91,cp,qbu25z,s4]);with_reducible rfl))|((with_reducible apply Rs);(focus rfl);(focus rfl);focus (simp +decide only[Gs,n0,q0,q1,q4,q6,q7,q74,q75,Qx,Hx,ix,qtz141,hh9,s9,l90,l91,cp,qbu25z,s4];done))));with_reducible exact Rn))|(refine W2 (by simp +decide only[Cx,n0,q0,q1,q4,q6,q7,q74,q75,cp];try with_reducible rfl) (fun hb=>?_) (fun hb=>?_)<;>try contradiction)|apply W3|apply W4|apply W5|apply W6)
   exact⟨by simp +decide only[Gs,n0],by simp +decide only[Gs,d0],by simp +decide only[Gs,n0,q4],Mz.trans (m5.sub fun j hj=>.inr (by omega)),setl_same rfl,.inr ⟨rfl,by simp +decide only[Gs,n0],_,_,_,hR,bz.mod m5 (by omega)⟩⟩
  | ok nm p' it'=>
   obtain⟨rfl,bz,b7z⟩:=hq
   obtain⟨_,ok1,_,_,ok2⟩:=rdN_ok hr
   repeat' (first|with_reducible apply Ws|(apply Wn nf;focus ((repeat (first|((first|with_reducible apply Rr rfl|((with_reducible apply Rg);(focus rfl);(focus rfl);focus (simp +decide only[Gs,n0,q0,q1,q4,q6,q7,q74,q75,Qx,Hx,ix,qtz141,hh9,s9,l90,l91,cp,w2];done)));focus ((try simp +decide only[Oy,n0,q0,q1,q4,q6,q7,q74,q75,Qx,Hx,ix,qtz141,hh9,s9,l90,l91,cp,w2]);with_reducible rfl))|((with_reducible apply Rs);(focus rfl);(focus rfl);focus (simp +decide only[Gs,n0,q0,q1,q4,q6,q7,q74,q75,Qx,Hx,ix,qtz141,hh9,s9,l90,l91,cp,w2];done))));with_reducible exact Rn))|(refine W2 (by simp +decide only[Cx,n0,q0,q1,q4,q6,q7,q74,q75,cp];try with_reducible rfl) (fun hb=>?_) (fun hb=>?_)<;>try contradiction)|apply W3|apply W4|apply W5|apply W6)
   refine L1 _ hz p' it' nm ?_ ?_ ?_ ?_ ?_ ?_ ?_ ?_ ?_ Mz b4z bz ok1 (by omega) hR b7z
   ·simp +decide only[Gs,n0]
   ·simp +decide only[Gs,d0]
   ·simp +decide only[Gs,n0,q0]
   ·simp +decide only[Gs,n0,q1]
   ·simp +decide only[Gs,n0,q4]
   ·simp +decide only[Gs,n0,q6]
   ·simp +decide only[Gs,n0,q7]
   ·simp +decide only[Gs,n0,q74]
   ·simp +decide only[Gs,n0]
 refine (L0 _ h6 (pos+1) (items+1) n0 d0 q0 q1 q4 q6 q7 q74 q75 M6 b46 b6 (by omega) (by omega) eR b76).mono ?_
 rintro ex A0 h ⟨n0,d0,q4,M,b4,⟨rfl,q7,nm,tx,ks,sl,p,it,base,hbs,hks,hR,bz,b7,K⟩|⟨rfl,q5,p,e,it,hR,bz⟩⟩
 ·simp only[if_true]
  obtain⟨sb,hsl⟩:=K.slice
  have hone:[Value.int .i64 (hd.toNat % 64:Nat),.int .i64 (nm:Nat),.string tx,sl].all isOne=true:=by rw[hsl];rfl
  have l7:h.cells E (own k7) 4=some [.int .i64 (hd.toNat % 64:Nat),.int .i64 (nm:Nat),.string tx,sl]:=blk_cells b7 rfl hone
  have s4:astore tab 25 (own g.next) (.agg ⟨[.int .i64 (hd.toNat % 64:Nat),.int .i64 (nm:Nat),.string tx,sl]⟩) h=some (h.setl g.next (.cells [.int .i64 (hd.toNat % 64:Nat),.int .i64 (nm:Nat),.string tx,sl] 25 none)):=astore_all qty25 b4 rfl rfl hone (by simp)
  have m5:=(Mod.refl (M:=fun j=>j=g.next) M.fit).setl (B:=.cells [.int .i64 (hd.toNat % 64:Nat),.int .i64 (nm:Nat),.string tx,sl] 25 none) rfl rfl (M.fit.lt b4)
  have lz:(h.setl g.next (.cells [.int .i64 (hd.toNat % 64:Nat),.int .i64 (nm:Nat),.string tx,sl] 25 none)).cells E (own g.next) 4=some [.int .i64 (hd.toNat % 64:Nat),.int .i64 (nm:Nat),.string tx,sl]:=blk_cells (setl_same rfl) rfl hone
  have K5:=K.mod M.fit m5 (fun j B hj hB=>by
   subst hj
   rw[b4] at hB;cases hB;rfl)
  have bz5:=bz.mod m5 (by omega)
  have M5:=M.trans (m5.sub (N:=fun j=>j=k∨g.next≤j) fun j hj=>.inr (by omega))
  generalize h.setl g.next (.cells [.int .i64 (hd.toNat % 64:Nat),.int .i64 (nm:Nat),.string tx,sl] 25 none)=h9 at s4 m5 lz K5 bz5 M5
  repeat' (first|with_reducible apply Ws|(apply Wp;focus ((repeat ((with_reducible apply Rr rfl);focus ((try simp +decide only[Oy,n0,q4,q7,Qx,Hx,l7,s4]);with_reducible rfl)));with_reducible exact Rn))|(refine W2 (by simp +decide only[Cx,n0,q4,q7];try with_reducible rfl) (fun hb=>?_) (fun hb=>?_)<;>try contradiction)|apply W3|apply W4|apply W5|apply W6)
  refine⟨.inr rfl,h9,.tuple #[.agg ⟨[.int .i64 (hd.toNat % 64:Nat),.int .i64 (nm:Nat),.string tx,sl]⟩,.bool true],by simp +decide only[Gs,d0];rfl,?_,_,_,rfl,low M5,?_⟩
  ·have g4:∀ A:Ac,A.get 4=.pointer (some (own g.next))→A.get 5=.bool true→ares tab E Tryd.f56 A h9=some (.tuple #[.agg ⟨[.int .i64 (hd.toNat % 64:Nat),.int .i64 (nm:Nat),.string tx,sl]⟩,.bool true]):=by
    intro A a4 a5
    unfold ares
    rw[show Tryd.f56.results=#[.cell 4 25,.tmp 5] from rfl]
    simp only[aresL,ares1,a4,a5,qld25,lz]
   exact g4 _ (by simp +decide only[Gs,n0,q4]) (by simp +decide only[Gs,n0])
  ·rw[hR]
   exact⟨rfl,bz5,K5.rep M5.fit hks _ _ _ hbs⟩
 ·exact fin d0 q4 q5 M b4 bz hR
theorem fn49:tab.fn.get 49=some Tryd.f49:=by kernel_rfl
theorem fn16:tab.fn.get 16=some Tryd.f16:=by kernel_rfl
theorem qcv31_9 {h:H} {v:Value} {bs:List UInt8} (b:Byt E h v bs):aconvert tab E 31 9 v h=some (.string ⟨⟨bs⟩⟩,h):=by
 unfold aconvert
 rcases b with⟨rfl,rfl⟩|⟨a,c,rfl,_,hc⟩
 ·simp only[qty31,qty9,qty5]
 ·simp only[qty31,qty9,qty5,hc,allBytes_bytesV]
theorem qbu84 (s:Value) (h:s.cells.toList=[s]):abuild tab 84 [(0,s)]=some (.agg ⟨[s,.int .i64 0,.int .i64 0]⟩):=by
 unfold abuild
 simp only[qty84,afill,h]
 rfl
theorem qbu86 (a b c:Value):abuild tab 86 [(0,.agg ⟨[a,b,c]⟩)]=some (.agg ⟨[a,b,c,.int .i64 0]⟩):=by unfold abuild;simp only[qty86];rfl
theorem done_c3 {D:Tab} {E:Env} {fn:Func} {A:Ac} {h:H} {c t u:Tmp} {ty:TypeId} {a:Addr} {v x y:Value} {ex:Ex} {Q:Value→H→Prop} (hex:ex=.normal∨ex=.ret) (hd:A.defers=[]) (hr:fn.results=#[.cell c ty,.tmp t,.tmp u]) (hc:A.get c=.pointer (some a)) (hl:aload D E ty a h=some v) (hv:A.get t=x) (hx:A.get u=y) (hq:Q (.tuple #[v,x,y]) h) :
  (ex=.normal∨ex=.ret)∧∃ h2 v',takeAll A.defers h=some h2∧ares D E fn A h2=some v'∧Q v' h2:=by
 refine⟨hex,h,_,?_,?_,hq⟩
 ·rw[hd];rfl
 ·unfold ares
  rw[hr]
  simp only[aresL,ares1,hc,hl,hv,hx]
theorem whole49 (hI:∀ f args h,(f=49∨f=81)→I f args h=none) {k:Nat} {bs:List UInt8} {p:Nat} {e:Int} {it:Nat} {g:H} (f:Fit g) (b:Src k bs p e it g) (hp:p≤bs.length) (is:Bool) (l:List Value) (hl:l.length=4) (hl1:l.all isOne=true) :
  ∃ n v g',(ev tab E I n).call 49 [.pointer (some (own k)),.agg ⟨l⟩,.bool is] g=some (v,g')∧(Mod (fun j=>j=k) g g'∧v=if is=true then (if p<bs.length then .tuple #[.agg ⟨zeroL⟩,.int .i64 (p:Nat),.int .i64 4] else .tuple #[.agg ⟨l⟩,.int .i64 0,.int .i64 0]) else .tuple #[.agg ⟨zeroL⟩,.int .i64 (p:Nat),.int .i64 e]):=by
 apply Wk (hI _ _ _ (.inl rfl)) fn49 rfl
 intro A0 n0 d0 hA0
 change A0.n=47 at n0
 have q0:A0.get 0=.pointer (some (own k)):=hA0 0 _ rfl
 have q1:A0.get 1=.agg ⟨l⟩:=hA0 1 _ rfl
 have q2:A0.get 2=.bool is:=hA0 2 _ rfl
 clear hA0
 obtain⟨l0,l1,l2,l3,rfl⟩:=four_of hl
 generalize hh1:g.new (.cells (Value.agg ⟨[l0,l1,l2,l3]⟩).cells.toList 25 none)=h1
 have t1:Ahd g h1:=by rw[← hh1];exact Ahd.new0 f rfl
 have b4:h1.blk g.next=some (.cells [l0,l1,l2,l3] 25 none):=by rw[← hh1];exact new_blk_new rfl
 have n1:h1.next=g.next+1:=by rw[← hh1];rfl
 generalize hh2:h1.new (.cells (Value.agg #[.int .i64 0,.int .i64 0,.string ⟨#[]⟩,.slice none 0 0]).cells.toList 25 none)=h2
 have t2:Ahd h1 h2:=by rw[← hh2];exact Ahd.new0 t1.fit rfl
 have b6:h2.blk h1.next=some (.cells zeroL 25 none):=by rw[← hh2];exact new_blk_new rfl
 have t12:=t1.trans t2
 have b4:=t2.grows _ _ b4
 have kl:k<g.next:=f.lt b
 have b2:=b.mod (t12.mod (M:=fun _=>False)) (fun h=>h)
 obtain⟨c0,c1,c2,c3⟩:=b2.at (E:=E)
 have st6:∀ {h:H} {a c d e:Value},[a,c,d,e].all isOne=true→h.blk h1.next=some (.cells zeroL 25 none)→astore tab 25 (own h1.next) (.agg ⟨[a,c,d,e]⟩) h=some (h.setl h1.next (.cells [a,c,d,e] 25 none)):=fun ho hb=>astore_all qty25 hb rfl rfl ho (by simp)
 have ld6:∀ {h:H} {a c d e:Value},[a,c,d,e].all isOne=true→(h.setl h1.next (.cells [a,c,d,e] 25 none)).cells E (own h1.next) 4=some [a,c,d,e]:=fun ho=>blk_cells (setl_same rfl) rfl ho
 have fr:∀ {h:H} {e':Int},Mod (fun j=>j=k) h2 h→Src k bs p e' it h→∃ h3,astore tab 25 (own h1.next) (.agg ⟨zeroL⟩) (fresh h)=some ((fresh h).setl h1.next (.cells zeroL 25 none))∧h.setl h1.next (.cells zeroL 25 none)=h3∧Mod (fun j=>j=k) g h3∧h3.cells E (own h1.next) 4=some zeroL∧h1.next<h.next:=by
  intro h e' m bb
  have b6':=m.blk _ _ (by omega) b6
  have m3:=(Mod.refl (M:=fun j=>j=h1.next) m.fit).setl (B:=.cells zeroL 25 none) rfl rfl (m.fit.lt b6')
  exact⟨_,st6 (h:=fresh h) rfl b6',rfl,Mod.low f ((t12.mod.trans (m.sub (N:=fun j=>j=k∨g.next≤j) fun _ h=>.inl h)).trans (m3.sub fun j hj=>.inr (by omega))) (fun _ h=>h),ld6 rfl,m.fit.lt b6'⟩
 cases is with
 | false=>
  obtain⟨h3,s3,hh3,m3,l3',lt3⟩:=fr (Mod.refl t12.fit) b2
  repeat' (first|with_reducible apply Ws|(apply Wp;focus ((repeat ((with_reducible apply Rr rfl);focus ((try simp +decide only[Oy,n0,q0,q1,q2,qtz25,hh1,hh2]);with_reducible rfl)));with_reducible exact Rn))|(refine W2 (by simp +decide only[Cx,n0,q0,q1,q2];try with_reducible rfl) (fun hb=>?_) (fun hb=>?_)<;>try contradiction)|apply W3|apply W4|apply W5|apply W6)
  refine Wc.drawC 1 (by kernel_rfl) ?_
  (iterate 15 (first|((first|apply Fp rfl rfl rfl|apply FC.new rfl rfl|(apply FC.pureG rfl rfl;(focus (simp +decide only[Gs,n0,q0,q2,Qx,Hx];done));focus rfl));focus ((try simp +decide only[Oy,n0,q0,q2,Qx,Hx]);with_reducible rfl))|(apply FC.skipG rfl rfl;focus (simp +decide only[Gs,n0,q0,q2,Qx,Hx];done))))
  refine FC.nil ?_
  repeat' (first|with_reducible apply Ws|(apply Wp;focus ((repeat ((with_reducible apply Rr rfl);focus ((try simp +decide only[Oy,n0,q2]);with_reducible rfl)));with_reducible exact Rn))|(refine W2 (by simp +decide only[Cx,n0,q2];try with_reducible rfl) (fun hb=>?_) (fun hb=>?_)<;>try contradiction)|apply W3|apply W4|apply W5|apply W6)
  refine Wc.drawQ 1 (by kernel_rfl) ?_
  (iterate 11 ((first|apply Qp rfl rfl rfl|apply FQ.new rfl rfl);focus ((try simp +decide only[Oy,n0,q0,Qx,Hx,c1,c2,qbu25z]);with_reducible rfl)))
  refine FQ.setl (k:=h1.next) rfl rfl lt3 (by simp +decide only[Oy,n0,s3];with_reducible rfl) ?_
  rw[hh3]
  (iterate 2 ((first|apply Qp rfl rfl rfl|apply FQ.new rfl rfl);focus ((try simp +decide only[Oy,n0]);with_reducible rfl)))
  refine FQ.nil ⟨?_,?_⟩
  ·exact allMeet_but [11] 14 [(1,11),(2,11),(3,11),(4,11),(6,11),(7,11),(8,11),(9,11),(5,11),(10,11)] rfl rfl (by kernel_rfl) (fun _ _ _ _ hU e1 e2=>by simp only[List.mem_cons,Prod.mk.injEq,List.not_mem_nil,or_false] at hU;rcases hU with⟨rfl,rfl⟩|⟨rfl,rfl⟩|⟨rfl,rfl⟩|⟨rfl,rfl⟩|⟨rfl,rfl⟩|⟨rfl,rfl⟩|⟨rfl,rfl⟩|⟨rfl,rfl⟩|⟨rfl,rfl⟩|⟨rfl,rfl⟩;(focus (cases e1;cases e2;exact meets_right (l:=[]) rfl rfl (fun _ _=>List.not_mem_nil) rfl (fun j _=>Nat.lt_or_ge _ _)));(focus (cases e1;cases e2;exact meets_right (l:=[]) rfl rfl (fun _ _=>List.not_mem_nil) rfl (fun j _=>Nat.lt_or_ge _ _)));(focus (cases e1;cases e2;exact meets_right (l:=[]) rfl rfl (fun _ _=>List.not_mem_nil) rfl (fun j _=>Nat.lt_or_ge _ _)));(focus (cases e1;cases e2;exact meets_right (l:=[]) rfl rfl (fun _ _=>List.not_mem_nil) rfl (fun j _=>Nat.lt_or_ge _ _)));(focus (cases e1;cases e2;exact meets_right (l:=[]) rfl rfl (fun _ _=>List.not_mem_nil) rfl (fun j _=>Nat.lt_or_ge _ _)));(focus (cases e1;cases e2;exact meets_right (l:=[]) rfl rfl (fun _ _=>List.not_mem_nil) rfl (fun j _=>Nat.lt_or_ge _ _)));(focus (cases e1;cases e2;exact meets_right (l:=[]) rfl rfl (fun _ _=>List.not_mem_nil) rfl (fun j _=>Nat.lt_or_ge _ _)));(focus (cases e1;cases e2;exact meets_right (l:=[]) rfl rfl (fun _ _=>List.not_mem_nil) rfl (fun j _=>Nat.lt_or_ge _ _)));(focus (cases e1;cases e2;exact meets_right (l:=[k]) rfl (by simp +decide only[Oy,reads,pureOp,atV,n0,q0,aadd,own]) (fun j hj=>by have hj:=List.mem_singleton.1 hj;subst hj;simp only[List.mem_singleton];omega) rfl (fun j _=>Nat.lt_or_ge _ _)));(focus (cases e1;cases e2;exact meets_right (l:=[k]) rfl (by simp +decide only[Oy,reads,pureOp,atV,n0,q0,aadd,own]) (fun j hj=>by have hj:=List.mem_singleton.1 hj;subst hj;simp only[List.mem_singleton];omega) rfl (fun j _=>Nat.lt_or_ge _ _))))
  refine Wc.ret ?_
  exact done_c3 (v:=.agg ⟨zeroL⟩) (x:=.int .i64 (p:Nat)) (y:=.int .i64 e) (.inr rfl) (by simp +decide only[Gs,d0]) rfl (show _=Value.pointer (some (own h1.next)) by simp +decide only[Gs,n0]) (by rw[qld25,l3']) (by simp +decide only[Gs,n0]) (by simp +decide only[Gs,n0]) ⟨m3,by simp⟩
 | true=>
  by_cases hlt:p<bs.length
  ·have e1:decide ((p:Int)<(bs.length:Int))=true:=by simp;omega
   obtain⟨nf,g',ck,m,b'⟩:=fail81 (E:=E) (I:=I) (fun args h=>hI _ args h (.inr rfl)) t12.fit.fresh (show Src k bs p e it (fresh h2) from b2) 4 p
   obtain⟨m',_,_,_⟩:=Mod.back t12.fit m
   have b'':Src k bs p 4 it (back h2 g'):=b'.back
   generalize hh4:back h2 g'=h4 at m' b''
   obtain⟨h3,s3,hh3,m3,l3',lt3⟩:=fr m' b''
   obtain⟨_,d1,d2,_⟩:=b''.at (E:=E)
   repeat' (first|with_reducible apply Ws|(apply Wp;focus ((repeat ((with_reducible apply Rr rfl);focus ((try simp +decide only[Oy,n0,q0,q1,q2,qtz25,hh1,hh2]);with_reducible rfl)));with_reducible exact Rn))|(refine W2 (by simp +decide only[Cx,n0,q0,q1,q2];try with_reducible rfl) (fun hb=>?_) (fun hb=>?_)<;>try contradiction)|apply W3|apply W4|apply W5|apply W6)
   refine Wc.drawC 1 (by kernel_rfl) ?_
   (iterate 15 (first|((first|apply Fp rfl rfl rfl|apply FC.new rfl rfl|(apply FC.pureG rfl rfl;(focus (simp +decide only[Gs,n0,q0,q2,Qx,Hx,c0,c1,e1];done));focus rfl));focus ((try simp +decide only[Oy,n0,q0,q2,Qx,Hx,c0,c1,e1]);with_reducible rfl))|(apply FC.skipG rfl rfl;focus (simp +decide only[Gs,n0,q0,q2,Qx,Hx,c0,c1,e1];done))))
   refine FC.nil ?_
   repeat' (first|with_reducible apply Ws|(apply Wp;focus ((repeat ((with_reducible apply Rr rfl);focus ((try simp +decide only[Oy,n0]);with_reducible rfl)));with_reducible exact Rn))|(refine W2 (by simp +decide only[Cx,n0];try with_reducible rfl) (fun hb=>?_) (fun hb=>?_)<;>try contradiction)|apply W3|apply W4|apply W5|apply W6)
   refine Wc.drawQ nf (by kernel_rfl) ?_
   (iterate 8 ((first|apply Qp rfl rfl rfl|apply FQ.new rfl rfl);focus ((try simp +decide only[Oy,n0,q0,Qx,Hx,c1]);with_reducible rfl)))
   refine FQ.mod (h1:=g') (x:=.bool false) rfl rfl (by simp +decide only[Oy,n0,q0,Qx,Hx,ck]) ?_
   rw[hh4]
   (iterate 1 ((first|apply Qp rfl rfl rfl|apply FQ.new rfl rfl);focus ((try simp +decide only[Oy,n0,q0]);with_reducible rfl)))
   refine FQ.nil ⟨?_,?_⟩
   ·exact allMeet_but0 [8] 10 rfl rfl (by kernel_rfl)
   repeat' (first|with_reducible apply Ws|(apply Wp;focus ((repeat ((with_reducible apply Rr rfl);focus ((try simp +decide only[Oy,n0]);with_reducible rfl)));with_reducible exact Rn))|(refine W2 (by simp +decide only[Cx,n0];try with_reducible rfl) (fun hb=>?_) (fun hb=>?_)<;>try contradiction)|apply W3|apply W4|apply W5|apply W6)
   refine Wc.drawQ 1 (by kernel_rfl) ?_
   (iterate 11 ((first|apply Qp rfl rfl rfl|apply FQ.new rfl rfl);focus ((try simp +decide only[Oy,n0,q0,Qx,Hx,d1,d2,qbu25z]);with_reducible rfl)))
   refine FQ.setl (k:=h1.next) rfl rfl lt3 (by simp +decide only[Oy,n0,s3];with_reducible rfl) ?_
   rw[hh3]
   (iterate 2 ((first|apply Qp rfl rfl rfl|apply FQ.new rfl rfl);focus ((try simp +decide only[Oy,n0]);with_reducible rfl)))
   refine FQ.nil ⟨?_,?_⟩
   ·exact allMeet_but [11] 14 [(1,11),(2,11),(3,11),(4,11),(6,11),(7,11),(8,11),(9,11),(5,11),(10,11)] rfl rfl (by kernel_rfl) (fun _ _ _ _ hU e1 e2=>by simp only[List.mem_cons,Prod.mk.injEq,List.not_mem_nil,or_false] at hU;rcases hU with⟨rfl,rfl⟩|⟨rfl,rfl⟩|⟨rfl,rfl⟩|⟨rfl,rfl⟩|⟨rfl,rfl⟩|⟨rfl,rfl⟩|⟨rfl,rfl⟩|⟨rfl,rfl⟩|⟨rfl,rfl⟩|⟨rfl,rfl⟩;(focus (cases e1;cases e2;exact meets_right (l:=[]) rfl rfl (fun _ _=>List.not_mem_nil) rfl (fun j _=>Nat.lt_or_ge _ _)));(focus (cases e1;cases e2;exact meets_right (l:=[]) rfl rfl (fun _ _=>List.not_mem_nil) rfl (fun j _=>Nat.lt_or_ge _ _)));(focus (cases e1;cases e2;exact meets_right (l:=[]) rfl rfl (fun _ _=>List.not_mem_nil) rfl (fun j _=>Nat.lt_or_ge _ _)));(focus (cases e1;cases e2;exact meets_right (l:=[]) rfl rfl (fun _ _=>List.not_mem_nil) rfl (fun j _=>Nat.lt_or_ge _ _)));(focus (cases e1;cases e2;exact meets_right (l:=[]) rfl rfl (fun _ _=>List.not_mem_nil) rfl (fun j _=>Nat.lt_or_ge _ _)));(focus (cases e1;cases e2;exact meets_right (l:=[]) rfl rfl (fun _ _=>List.not_mem_nil) rfl (fun j _=>Nat.lt_or_ge _ _)));(focus (cases e1;cases e2;exact meets_right (l:=[]) rfl rfl (fun _ _=>List.not_mem_nil) rfl (fun j _=>Nat.lt_or_ge _ _)));(focus (cases e1;cases e2;exact meets_right (l:=[]) rfl rfl (fun _ _=>List.not_mem_nil) rfl (fun j _=>Nat.lt_or_ge _ _)));(focus (cases e1;cases e2;exact meets_right (l:=[k]) rfl (by simp +decide only[Oy,reads,pureOp,atV,n0,q0,aadd,own]) (fun j hj=>by have hj:=List.mem_singleton.1 hj;subst hj;simp only[List.mem_singleton];omega) rfl (fun j _=>Nat.lt_or_ge _ _)));(focus (cases e1;cases e2;exact meets_right (l:=[k]) rfl (by simp +decide only[Oy,reads,pureOp,atV,n0,q0,aadd,own]) (fun j hj=>by have hj:=List.mem_singleton.1 hj;subst hj;simp only[List.mem_singleton];omega) rfl (fun j _=>Nat.lt_or_ge _ _))))
   refine Wc.ret ?_
   exact done_c3 (v:=.agg ⟨zeroL⟩) (x:=.int .i64 (p:Nat)) (y:=.int .i64 4) (.inr rfl) (by simp +decide only[Gs,d0]) rfl (show _=Value.pointer (some (own h1.next)) by simp +decide only[Gs,n0]) (by rw[qld25,l3']) (by simp +decide only[Gs,n0]) (by simp +decide only[Gs,n0]) ⟨m3,by rw[if_pos rfl,if_pos hlt]⟩
  ·have e1:decide ((p:Int)<(bs.length:Int))=false:=by simp;omega
   have s3:=st6 hl1 b6
   have m3:=(Mod.refl (M:=fun j=>j=h1.next) t12.fit).setl (B:=.cells [l0,l1,l2,l3] 25 none) rfl rfl (t12.fit.lt b6)
   have l4:h2.cells E (own g.next) 4=some [l0,l1,l2,l3]:=blk_cells b4 rfl hl1
   repeat' (first|with_reducible apply Ws|(apply Wp;focus ((repeat ((with_reducible apply Rr rfl);focus ((try simp +decide only[Oy,n0,q0,q1,q2,qtz25,hh1,hh2]);with_reducible rfl)));with_reducible exact Rn))|(refine W2 (by simp +decide only[Cx,n0,q0,q1,q2];try with_reducible rfl) (fun hb=>?_) (fun hb=>?_)<;>try contradiction)|apply W3|apply W4|apply W5|apply W6)
   refine Wc.drawC 1 (by kernel_rfl) ?_
   (iterate 15 (first|((first|apply Fp rfl rfl rfl|apply FC.new rfl rfl|(apply FC.pureG rfl rfl;(focus (simp +decide only[Gs,n0,q0,q2,Qx,Hx,c0,c1,e1];done));focus rfl));focus ((try simp +decide only[Oy,n0,q0,q2,Qx,Hx,c0,c1,e1]);with_reducible rfl))|(apply FC.skipG rfl rfl;focus (simp +decide only[Gs,n0,q0,q2,Qx,Hx,c0,c1,e1];done))))
   refine FC.nil ?_
   repeat' (first|with_reducible apply Ws|(apply Wp;focus ((repeat ((with_reducible apply Rr rfl);focus ((try simp +decide only[Oy,n0,q2,Qx,Hx,l4,s3]);with_reducible rfl)));with_reducible exact Rn))|(refine W2 (by simp +decide only[Cx,n0,q2];try with_reducible rfl) (fun hb=>?_) (fun hb=>?_)<;>try contradiction)|apply W3|apply W4|apply W5|apply W6)
   exact done_c3 (v:=.agg ⟨[l0,l1,l2,l3]⟩) (x:=.int .i64 0) (y:=.int .i64 0) (.inr rfl) (by simp +decide only[Gs,d0]) rfl (show _=Value.pointer (some (own h1.next)) by simp +decide only[Gs,n0]) (by rw[qld25,ld6 hl1]) (by simp +decide only[Gs,n0]) (by simp +decide only[Gs,n0]) ⟨Mod.low f (t12.mod.trans (m3.sub (N:=fun j=>j=k∨g.next≤j) fun j hj=>.inr (by omega))) (fun _ h=>h),by rw[if_pos rfl,if_neg hlt]⟩
def DecQ (E:Env) (r:Rd Hs.Item) (v:Value) (g:H):Prop:=match r with
 | .ok t _ _=>∃ l,v=.tuple #[.agg ⟨l⟩,.int .i64 0,.int .i64 0]∧rep E g t (.agg ⟨l⟩)
 | .bad p e=>v=.tuple #[.agg ⟨zeroL⟩,.int .i64 (p:Nat),.int .i64 e]
theorem dec16 (hI:∀ f args h,(f=16∨f=49∨f=56∨f=120∨f=119∨f=118∨f=117∨f=90∨f=82∨f=81)→I f args h=none) {g:H} {v:Value} {bs:List UInt8} (f:Fit g) (hb:Byt E g v bs) (hl:bs.length≤1000000) :
  ∃ n x g',(ev tab E I n).call 16 [v] g=some (x,g')∧(Mod (fun _=>False) g g'∧DecQ E (decR bs) x g'):=by
 obtain⟨va,vc,hv⟩:=hb.slice
 apply Wk (hI _ _ _ (.inl rfl)) fn16 rfl
 intro A0 n0 d0 hA0
 change A0.n=21 at n0
 have q0:A0.get 0=v:=hA0 0 _ rfl
 clear hA0
 generalize hh1:g.new (.cells (Value.agg #[.int .i64 0,.int .i64 0,.string ⟨#[]⟩,.slice none 0 0]).cells.toList 25 none)=h1
 have t1:Ahd g h1:=by rw[← hh1];exact Ahd.new0 f rfl
 have b2:h1.blk g.next=some (.cells zeroL 25 none):=by rw[← hh1];exact new_blk_new rfl
 have ln:alen tab 31 v h1=some (.int .i64 (bs.length:Nat)):=by rw[hv];exact qlen31 _ _ _
 have st:∀ {h:H} {l:List Value},l.length=4→l.all isOne=true→h.blk g.next=some (.cells zeroL 25 none)→astore tab 25 (own g.next) (.agg ⟨l⟩) h=some (h.setl g.next (.cells l 25 none)):=fun h4 ho hb=>astore_all qty25 hb (by rw[h4]) (by rw[h4];rfl) ho (by intro e;rw[e] at h4;simp at h4)
 have ld:∀ {h:H} {l:List Value},l.length=4→l.all isOne=true→(h.setl g.next (.cells l 25 none)).cells E (own g.next) 4=some l:=fun h4 ho=>blk_cells (setl_same rfl) h4 ho
 unfold decR
 by_cases hlong:65536<bs.length
 ·have e1:decide ((bs.length:Int)>65536)=true:=by simp;omega
  have s1:=st (l:=zeroL) rfl rfl b2
  have m1:=(Mod.refl (M:=fun j=>j=g.next) t1.fit).setl (B:=.cells zeroL 25 none) rfl rfl (t1.fit.lt b2)
  repeat' (first|with_reducible apply Ws|(apply Wp;focus ((repeat ((with_reducible apply Rr rfl);focus ((try simp +decide only[Oy,n0,q0,qtz25,hh1,ln,e1,qbu25z,s1]);with_reducible rfl)));with_reducible exact Rn))|(refine W2 (by simp +decide only[Cx,n0,q0,e1];try with_reducible rfl) (fun hb=>?_) (fun hb=>?_)<;>try contradiction)|apply W3|apply W4|apply W5|apply W6)
  rw[if_pos hlong]
  exact done_c3 (v:=.agg ⟨zeroL⟩) (x:=.int .i64 0) (y:=.int .i64 11) (.inr rfl) (by simp +decide only[Gs,d0]) rfl (show _=Value.pointer (some (own g.next)) by simp +decide only[Gs,n0]) (by rw[qld25,ld rfl rfl]) (by simp +decide only[Gs,n0]) (by simp +decide only[Gs,n0]) ⟨Mod.low f (t1.mod.trans m1) (fun j hj=>.inr (by omega)),rfl⟩
 have e1:decide ((bs.length:Int)>65536)=false:=by simp;omega
 rw[if_neg hlong]
 have cv:=qcv31_9 (hb.grow t1.grows)
 have bu:=qbu84 (.string ⟨⟨bs⟩⟩) rfl
 have bv:=qbu86 (.string ⟨⟨bs⟩⟩) (.int .i64 0) (.int .i64 0)
 generalize hh2:h1.new (.cells (Value.agg #[.string ⟨#[]⟩,.int .i64 0,.int .i64 0,.int .i64 0]).cells.toList 86 none)=h2
 have t2:Ahd h1 h2:=by rw[← hh2];exact Ahd.new0 t1.fit rfl
 have b5:h2.blk h1.next=some (.cells [.string ⟨#[]⟩,.int .i64 0,.int .i64 0,.int .i64 0] 86 none):=by rw[← hh2];exact new_blk_new rfl
 have s5:astore tab 86 (own h1.next) (.agg ⟨[.string ⟨⟨bs⟩⟩,.int .i64 0,.int .i64 0,.int .i64 0]⟩) h2=some (h2.setl h1.next (.cells [.string ⟨⟨bs⟩⟩,.int .i64 0,.int .i64 0,.int .i64 0] 86 none)):=astore_all qty86 b5 rfl rfl rfl (by simp)
 have t3:Ahd h1 (h2.setl h1.next (.cells [.string ⟨⟨bs⟩⟩,.int .i64 0,.int .i64 0,.int .i64 0] 86 none)):=t2.setl rfl (Nat.le_refl _) (t2.fit.lt b5) t1.fit
 have b5:Src h1.next bs 0 0 0 (h2.setl h1.next (.cells [.string ⟨⟨bs⟩⟩,.int .i64 0,.int .i64 0,.int .i64 0] 86 none)):=setl_same rfl
 generalize h2.setl h1.next (.cells [.string ⟨⟨bs⟩⟩,.int .i64 0,.int .i64 0,.int .i64 0] 86 none)=h3 at s5 t3 b5
 have b23:=t3.grows _ _ b2
 have lt1:=t1.fit.lt b2
 obtain⟨n1,v1,h4,c4,l,z,rfl,m4,hq⟩:=item56 (E:=E) (I:=I) (fun f args h hf=>hI f args h (by rcases hf with h|h|h|h|h|h|h|h<;>simp[h])) hl 250 (Nat.le_refl _) h3 0 0 t3.fit b5 (Nat.zero_le _) (by decide)
 have c4':(ev tab E I n1).call 56 [.pointer (some (own h1.next)),.int .i64 1] h3=some (.tuple #[.agg ⟨l⟩,z],h4):=c4
 have hl4:l.length=4∧l.all isOne=true:=by
  unfold ItemQ at hq
  split at hq
  ·obtain⟨_,_,_,_,rfl,h⟩:=item_four hq.2.2
   exact⟨rfl,h⟩
  ·rw[hq.2.1];exact⟨rfl,rfl⟩
 have rok:=rdItem_ok bs 250
 have fin:∀ (is:Bool) (p:Nat) (e:Int) (it:Nat),z=.bool is→Src h1.next bs p e it h4→p≤bs.length→∀ (l5:List Value) (x y:Int),l5.length=4→l5.all isOne=true→(if is=true then (if p<bs.length then .tuple #[.agg ⟨zeroL⟩,.int .i64 (p:Nat),.int .i64 4] else .tuple #[.agg ⟨l⟩,.int .i64 0,.int .i64 0]) else .tuple #[.agg ⟨zeroL⟩,.int .i64 (p:Nat),.int .i64 e])=Value.tuple #[.agg ⟨l5⟩,.int .i64 x,.int .i64 y]→(∀ h,Grows (only (fun r=>Nat.ble h3.next r) h4) h→DecQ E (match rdItem bs 250 0 0 with|.bad p e=>.bad p e|.ok t p items=>if p<bs.length then .bad p 4 else .ok t p items) (.tuple #[.agg ⟨l5⟩,.int .i64 x,.int .i64 y]) h)→
   Wc tab E I ⟨16,none⟩ (match Tryd.f16.body with|some c=>c|none=>.skip) A0 g (fun ex A h=>(ex=.normal∨ex=.ret)∧∃ h2 v,takeAll A.defers h=some h2∧ares tab E Tryd.f16 A h2=some v∧(Mod (fun _=>False) g h2∧DecQ E (match rdItem bs 250 0 0 with|.bad p e=>.bad p e|.ok t p items=>if p<bs.length then .bad p 4 else .ok t p items) v h2)):=by
  intro is p e it hz bb hp l5 x y hl5 ho5 hv5 hQ
  subst hz
  obtain⟨n2,v2,h5,c5,m5,hv2⟩:=whole49 (E:=E) (I:=I) (fun f args h hf=>hI f args h (by rcases hf with h|h<;>simp[h])) m4.fit bb hp is l hl4.1 hl4.2
  rw[hv5] at hv2
  subst hv2
  have b25:=m5.blk _ _ (by omega) (m4.blk _ _ (by omega) b23)
  have s6:=st hl5 ho5 b25
  have m6:=(Mod.refl (M:=fun j=>j=g.next) m5.fit).setl (B:=.cells l5 25 none) rfl rfl (m5.fit.lt b25)
  have c4f:=(ev_mono (D:=tab) (E:=E) I (Nat.le_max_left n1 n2)).call c4'
  have c5f:=(ev_mono (D:=tab) (E:=E) I (Nat.le_max_right n1 n2)).call c5
  simp only[Tryd.f16]
  repeat' (first|with_reducible apply Ws|(apply Wp;focus ((repeat ((with_reducible apply Rr rfl);focus ((try simp +decide only[Oy,n0,q0,qtz25,hh1,ln,e1,cv,bu,bv,qtz86,hh2,s5]);with_reducible rfl)));with_reducible exact Rn))|(refine W2 (by simp +decide only[Cx,n0,q0,e1,bu,bv];try with_reducible rfl) (fun hb=>?_) (fun hb=>?_)<;>try contradiction)|apply W3|apply W4|apply W5|apply W6)
  repeat' (first|with_reducible apply Ws|(apply Wn (max n1 n2);focus ((repeat ((with_reducible apply Rr rfl);focus ((try simp +decide only[Oy,n0,c4f,c5f,s6]);with_reducible rfl)));with_reducible exact Rn))|(refine W2 (by simp +decide only[Cx,n0];try with_reducible rfl) (fun hb=>?_) (fun hb=>?_)<;>try contradiction)|apply W3|apply W4|apply W5|apply W6)
  refine done_c3 (v:=.agg ⟨l5⟩) (x:=.int .i64 x) (y:=.int .i64 y) (.inr rfl) (by simp +decide only[Gs,d0]) rfl (show _=Value.pointer (some (own g.next)) by simp +decide only[Gs,n0]) (by rw[qld25,ld hl5 ho5]) (by simp +decide only[Gs,n0]) (by simp +decide only[Gs,n0]) ⟨?_,?_⟩
  ·refine Mod.low f (((t1.mod.trans t3.mod).trans ((m4.trans m5).sub (N:=fun j=>g.next≤j) fun j hj=>by omega)).trans (m6.sub fun j hj=>by omega)) (fun j hj=>.inr hj)
  ·refine hQ _ (fun j B hj => ?_)
   obtain⟨e1,ys,ty,r,o,rfl,e2⟩:=(only_blk m4.fit).1 hj
   refine m6.blk _ _ (fun e => ?_) (m5.blk _ _ (fun e => ?_) e1)
   ·subst e
    have:=m4.blk _ _ (by omega) b23
    rw[this] at e1
    cases e1
   ·subst e
    rw[show h4.blk h1.next=_ from bb] at e1
    cases e1
 generalize hr:rdItem bs 250 0 0=r at hq fin
 cases r with
 | bad p e=>
  obtain⟨rfl,rfl,it,bb⟩:=hq
  exact fin false p e it rfl bb (rok.2 _ _ _ _ hr (Nat.zero_le _)).2 zeroL p e rfl rfl (by simp) (fun h _=>rfl)
 | ok t p it=>
  obtain⟨rfl,bb,hrt⟩:=hq
  have hp:=(rok.1 _ _ _ _ _ hr).2.1
  by_cases hlt:p<bs.length
  ·refine fin true p 0 it rfl bb hp zeroL p 4 rfl rfl (by rw[if_pos rfl,if_pos hlt]) (fun h _ => ?_)
   simp only[if_pos hlt]
   rfl
  ·refine fin true p 0 it rfl bb hp l 0 0 hl4.1 hl4.2 (by rw[if_pos rfl,if_neg hlt]) (fun h hg => ?_)
   simp only[if_neg hlt]
   exact⟨l,rfl,rep_grow hg hrt⟩
theorem fn97:tab.fn.get 97=some Tryd.f97:=by kernel_rfl
noncomputable def loop97:Code:=loopOf Tryd.f97
theorem qcv3_5 (n:Int) {h:H}:aconvert tab E 3 5 (.int .i64 n) h=some (.int .u8 (IntKind.u8.wrap n),h):=by unfold aconvert;simp only[qty5,qty3]
theorem qza31 (b:Option Addr) (n c:Nat):zeroArg tab 31 (.slice b n c)=some false:=by unfold zeroArg;rw[qty31]
theorem qbs31 (x:Int) {h:H}:abuildSlice tab 31 1 [(0,.int .u8 x)] h=some (.slice (some (own h.next)) 1 1,h.new (.cells [.int .u8 x] 5 none)):=by
 unfold abuildSlice
 simp only[qty31,qtz5]
 rfl
theorem and127i (m:Nat) (h:m<9223372036854775808):IntKind.i64.wrap (((BitVec.ofInt IntKind.i64.bits (m:Int) &&& BitVec.ofInt IntKind.i64.bits 127).toNat:Nat):Int)=((m % 128:Nat):Int):=by
 have e:(BitVec.ofInt IntKind.i64.bits (m:Int) &&& BitVec.ofInt IntKind.i64.bits ((127:Nat):Int)).toNat=m % 128:=by
  rw[BitVec.ofInt_natCast,BitVec.ofInt_natCast,BitVec.toNat_and,BitVec.toNat_ofNat,BitVec.toNat_ofNat]
  rw[show 2 ^ IntKind.i64.bits=18446744073709551616 from rfl,Nat.mod_eq_of_lt (by omega),Nat.mod_eq_of_lt (by omega)]
  exact Nat.and_two_pow_sub_one_eq_mod m 7
 have e':(BitVec.ofInt IntKind.i64.bits (m:Int) &&& BitVec.ofInt IntKind.i64.bits 127).toNat=m % 128:=e
 rw[e']
 exact wrapN (by omega)
theorem or128i (m:Nat) (h:m<128):IntKind.i64.wrap (((BitVec.ofInt IntKind.i64.bits (m:Int) ||| BitVec.ofInt IntKind.i64.bits 128).toNat:Nat):Int)=((m+128:Nat):Int):=or7 m 1 1 (by omega) (by omega) (by omega)
theorem shr7 (m:Nat):ashift .shr .i64 (m:Nat) 7=some (.int .i64 ((m / 128:Nat):Int)):=by
 show some (Value.int .i64 (((m:Nat):Int).fdiv (2 ^ min 7 64)))=_
 rw[show (2:Int) ^ min 7 64=((128:Nat):Int) from rfl,Int.fdiv_eq_ediv_of_nonneg _ (Int.natCast_nonneg _)]
 rfl
theorem numB_len:∀ (n:Nat),n<2 ^ 63→(numB n).length≤20:=by
 have key:∀ (k n:Nat),n<128 ^ k→(numB n).length≤k+1:=by
  intro k
  induction k with
  | zero=>intro n hn;rw[Nat.pow_zero] at hn;rw[numB_small (by omega:n<128)];simp
  | succ k ih=>
   intro n hn
   by_cases h:n<128
   ·rw[numB_small h];simp
   ·rw[numB_large h,List.length_cons]
    have:=ih (n / 128) (by rw[Nat.pow_succ] at hn;omega)
    omega
 intro n hn
 exact Nat.le_trans (key 9 n (by omega)) (by decide)
theorem one_byte {h:H} (f:Fit h) (x:Nat) (hx:x<256):∃ h1,Ahd h h1∧h.new (.cells [.int .u8 (x:Nat)] 5 none)=h1∧Byt E h1 (.slice (some (own h.next)) 1 1) [UInt8.ofNat x]:=by
 have t:Ahd h (h.new (.cells [.int .u8 (x:Nat)] 5 none)):=Ahd.new0 f rfl
 have b:(h.new (.cells [.int .u8 (x:Nat)] 5 none)).blk h.next=some (.cells [.int .u8 (x:Nat)] 5 none):=new_blk_new rfl
 refine⟨_,t,rfl,.inr ⟨own h.next,1,rfl,Nat.le_refl _,?_⟩⟩
 have:=blk_cells (E:=E) b rfl rfl
 rw[show bytesV [UInt8.ofNat x]=[.int .u8 (x:Nat)] by simp only[bytesV,List.map_cons,List.map_nil,ofNat_toNat hx]]
 exact this
theorem numB97 (hI:∀ args h,I 97 args h=none) {g:H} (f:Fit g) (n:Nat) (hn:n≤1099511627776) :
  ∃ k v g',(ev tab E I k).call 97 [.int .i64 (n:Nat)] g=some (v,g')∧(Mod (fun _=>False) g g'∧Bol 5 g.next g'.next g' v (numB n)):=by
 have key:∀ (m:Nat) (acc:List UInt8) (sl:Value) (A0:Ac) (h:H),m≤n→acc++numB m=numB n→acc.length≤100→A0.n=20→A0.defers=[]→A0.get 0=.int .i64 (m:Nat)→A0.get 3=sl→Mod (fun _=>False) g h→Bol 5 g.next h.next h sl acc→
   Wc tab E I ⟨97,none⟩ (.loop loop97) A0 h (fun ex A' h'=>ex=.exit 0∧A'.n=20∧A'.defers=[]∧∃ m acc sl,m<128∧acc++numB m=numB n∧acc.length≤110∧A'.get 0=.int .i64 (m:Nat)∧A'.get 3=sl∧Mod (fun _=>False) g h'∧Bol 5 g.next h'.next h' sl acc):=by
  intro m
  induction m using Nat.strongRecOn with
  | ind m ih=>
  intro acc sl A0 h hm hacc hlen n0 d0 q0 q3 M K
  by_cases hs:m<128
  ·have e1:decide ((m:Int)>127)=false:=by simp;omega
   apply Wc.loop
   simp only[loop97,loopOf,firstLoop,Option.getD,Tryd.f97]
   repeat' (first|with_reducible apply Ws|(apply Wp;focus ((repeat ((with_reducible apply Rr rfl);focus ((try simp +decide only[Oy,n0,q0,q3,e1]);with_reducible rfl)));with_reducible exact Rn))|(refine W2 (by simp +decide only[Cx,n0,q0,q3,e1];try with_reducible rfl) (fun hb=>?_) (fun hb=>?_)<;>try contradiction)|apply W3|apply W4|apply W5|apply W6)
   exact⟨rfl,by simp +decide only[Gs,n0],by simp +decide only[Gs,d0],m,acc,sl,hs,hacc,by omega,by simp +decide only[Gs,n0,q0],by simp +decide only[Gs,n0,q3],M,K⟩
  ·have e1:decide ((m:Int)>127)=true:=by simp;omega
   have fh:=M.fit
   have a1:=and127i m (by omega)
   have o1:=or128i (m % 128) (by omega)
   have w8:IntKind.u8.wrap ((m % 128+128:Nat):Int)=((m % 128+128:Nat):Int):=wrapU8 (by omega)
   have sh:=shr7 m
   have hbs:=qbs31 ((m % 128+128:Nat):Int) (h:=h)
   obtain⟨h1,t1,hh1,hby⟩:=one_byte (E:=E) fh (m % 128+128) (by omega)
   rw[hh1] at hbs
   have K1:=K.mod (t1.mod (M:=fun _=>False)) (fun _ _ h=>h.elim)
   obtain⟨sl',q,happ,K2,AP⟩:=bol_step (D:=tab) (E:=E) (t:=31) (t2:=31) (by_:=1) t1.fit (Nat.le_trans M.next t1.next) t1.next K1 qty31 qtz5 rfl (qza31 _ _ _) hby (by
    unfold roomy
    simp only[Bool.and_eq_true,Nat.ble_eq,List.length_singleton];omega)
   have M2:=AP.mod f (Nat.le_refl _) (M.ahd t1)
   have hnb:=numB_large hs
   have hlt:acc.length+(numB m).length=(numB n).length:=by rw[← hacc,List.length_append]
   apply Wc.loop
   simp only[loop97,loopOf,firstLoop,Option.getD,Tryd.f97]
   repeat' (first|with_reducible apply Ws|(apply Wp;focus ((repeat ((with_reducible apply Rr rfl);focus ((try simp +decide only[Oy,n0,q0,q3,e1,a1,o1,qcv3_5,w8,hbs,happ,sh]);with_reducible rfl)));with_reducible exact Rn))|(refine W2 (by simp +decide only[Cx,n0,q0,q3,e1,a1,o1,hbs,happ,sh];try with_reducible rfl) (fun hb=>?_) (fun hb=>?_)<;>try contradiction)|apply W3|apply W4|apply W5|apply W6)
   refine (ih (m / 128) (by omega) (acc++[UInt8.ofNat (m % 128+128)]) sl' _ q (by omega) (by rw[List.append_assoc,← hacc,hnb];rfl) ?_ ?_ ?_ ?_ ?_ M2 K2)
   ·rw[List.length_append,List.length_singleton]
    have h6:=numB_len n (by omega)
    have:=numB_pos (m / 128)
    rw[hnb,List.length_cons] at hlt
    omega
   ·simp +decide only[Gs,n0]
   ·simp +decide only[Gs,d0]
   ·simp +decide only[Gs,n0]
   ·simp +decide only[Gs,n0]
 apply Wk (hI _ _) fn97 rfl
 intro A0 n0 d0 hA0
 change A0.n=20 at n0
 have q0:A0.get 0=.int .i64 (n:Nat):=hA0 0 _ rfl
 clear hA0
 repeat' (first|with_reducible apply Ws|(apply Wp;focus ((repeat ((with_reducible apply Rr rfl);focus ((try simp +decide only[Oy,n0,q0]);with_reducible rfl)));with_reducible exact Rn))|(refine W2 (by simp +decide only[Cx,n0,q0];try with_reducible rfl) (fun hb=>?_) (fun hb=>?_)<;>try contradiction)|apply W3|apply W4|apply W5|apply W6)
 refine (key n [] (.slice none 0 0) _ g (Nat.le_refl _) rfl (by simp) ?_ ?_ ?_ ?_ (Mod.refl f) (Bol.nil _ _ _)).mono ?_
 ·simp +decide only[Gs,n0]
 ·simp +decide only[Gs,d0]
 ·simp +decide only[Gs,n0,q0]
 ·simp +decide only[Gs,n0]
 ·rintro ex A0 h ⟨rfl,n0,d0,m,acc,sl,hm,hacc,hlen,q0,q3,M,K⟩
  simp only[if_true]
  have fh:=M.fit
  have w8:IntKind.u8.wrap ((m:Nat):Int)=((m:Nat):Int):=wrapU8 (by omega)
  have hbs:=qbs31 ((m:Nat):Int) (h:=h)
  obtain⟨h1,t1,hh1,hby⟩:=one_byte (E:=E) fh m (by omega)
  rw[hh1] at hbs
  have K1:=K.mod (t1.mod (M:=fun _=>False)) (fun _ _ h=>h.elim)
  obtain⟨sl',q,happ,K2,AP⟩:=bol_step (D:=tab) (E:=E) (t:=31) (t2:=31) (by_:=1) t1.fit (Nat.le_trans M.next t1.next) t1.next K1 qty31 qtz5 rfl (qza31 _ _ _) hby (by
   unfold roomy
   simp only[Bool.and_eq_true,Nat.ble_eq,List.length_singleton];omega)
  have M2:=AP.mod f (Nat.le_refl _) (M.ahd t1)
  repeat' (first|with_reducible apply Ws|(apply Wp;focus ((repeat ((with_reducible apply Rr rfl);focus ((try simp +decide only[Oy,n0,q0,q3,qcv3_5,w8,hbs,happ]);with_reducible rfl)));with_reducible exact Rn))|(refine W2 (by simp +decide only[Cx,n0,q0,q3,hbs,happ];try with_reducible rfl) (fun hb=>?_) (fun hb=>?_)<;>try contradiction)|apply W3|apply W4|apply W5|apply W6)
  refine done_q (v:=sl') (.inr rfl) (by simp +decide only[Gs,d0]) rfl (by simp +decide only[Gs,n0]) ⟨M2,?_⟩
  rw[← hacc,numB_small hm]
  exact K2
end Go.Proofs.YtofijpbmbmbnhaaDoor
