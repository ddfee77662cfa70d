/- The reader of texts: Kids. -/
import Derived.Test.YtofijpbmbmbnhaaDoorHsai
set_option linter.unusedSimpArgs false
set_option linter.unusedVariables false
set_option maxRecDepth 100000
set_option maxHeartbeats 16000000
namespace Go.Proofs.YtofijpbmbmbnhaaDoor
open Go Go.Hs Go.Proofs
variable {E:Env} {I:Known}
theorem fn50:tab.fn.get 50=some Tryd.f50:=by kernel_rfl
noncomputable def loop50:Code:=loopOf Tryd.f50
def ItemP (E:Env) (k:Nat) (bs:List UInt8) (r:Rd Hs.Item) (lo:Nat) (l:List Value) (z:Value) (g:H):Prop:=(l.length=4∧l.all isOne=true)∧match r with
 | .ok t p it=>z=.bool true∧Src k bs p 0 it g∧rep E (only (fun r=>Nat.ble lo r) g) t (.agg ⟨l⟩)
 | .bad p e=>z=.bool false∧∃ it,Src k bs p e it g
def Item50 (E:Env) (I:Known) (k:Nat) (bs:List UInt8) (f:Nat):Prop:=∀ (g:H) (pos items:Nat),Fit g→Src k bs pos 0 items g→pos≤bs.length→items≤5000→
 ∃ n v g',(ev tab E I n).call 50 [.pointer (some (own k)),.int .i64 (251-f:Nat)] g=some (v,g')∧(∃ l z,v=.tuple #[.agg ⟨l⟩,z]∧Mod (fun j=>j=k) g g'∧ItemP E k bs (rdPI bs f pos items) g.next l z g')
theorem rl25 {h:H} {k4:Nat} {a b c d:Value} (f:Fit h) (hb:h.blk k4=some (.cells [a,b,c,d] 25 none)) (ho:[a,b,c,d].all isOne=true) :
  ∃ h',h.cells E (own k4) 4=some [a,b,c,d]∧astore tab 25 (own k4) (.agg ⟨[a,b,c,d]⟩) h=some h'∧Mod (fun j=>j=k4) h h'∧h'.blk k4=some (.cells [a,b,c,d] 25 none):=
 ⟨_,blk_cells hb rfl ho,astore_all qty25 hb rfl rfl ho (by simp),(Mod.refl f).setl rfl rfl (f.lt hb),setl_same rfl⟩
theorem kids50 (hI:∀ f args h,(f=50∨f=84∨f=81)→I f args h=none) {k k4:Nat} {bs:List UInt8} {fu:Nat} (hfu:fu<250) (hl:bs.length≤1000000) (R:Item50 E I k bs fu) {a0 a1 a2:Value} (ha:[a0,a1,a2].all isOne=true) {g:H} (f:Fit g) (kl:k<g.next) (hk4:g.next≤k4) :
  ∀ (kk p it:Nat) (acc:List Hs.Item) (sl:Value) (A0:Ac) (h:H),bs.length+1-p≤kk→p≤bs.length→it≤5000→acc.length≤it→A0.n=82→A0.defers=[]→A0.get 0=.pointer (some (own k))→A0.get 1=.int .i64 (250-fu:Nat)→A0.get 4=.pointer (some (own k4))→
   Mod (fun j=>j=k∨g.next≤j) g h→h.blk k4=some (.cells [a0,a1,a2,sl] 25 none)→Src k bs p 0 it h→Kol E 25 g.next h.next h sl acc→
   Wc tab E I ⟨50,none⟩ (.loop loop50) A0 h (fun ex A' h'=>ex=.ret∧A'.n=82∧A'.defers=[]∧A'.get 4=.pointer (some (own k4))∧Mod (fun j=>j=k∨g.next≤j) g h'∧∃ sl',isOne sl'=true∧h'.blk k4=some (.cells [a0,a1,a2,sl'] 25 none)∧match rdPK bs (rdPI bs fu) kk acc p it with
    | .ok ks p it=>A'.get 5=.bool true∧Src k bs p 0 it h'∧Kol E 25 g.next h'.next h' sl' ks∧ks.length≤5000
    | .bad p e=>A'.get 5=.bool false∧∃ it,Src k bs p e it h'):=by
 intro kk
 induction kk with
 | zero=>intro p it acc sl A0 h hk hpl;omega
 | succ kk ih=>
  intro p it acc sl A0 h hk hpl hit hacc n0 d0 q0 q1 q4 M b4 b K
  have fh:=M.fit
  have hk4k:k4≠k:=by omega
  obtain⟨nf,v,h2,ck,l,z,rfl,m2,⟨hl4,ho⟩,hq⟩:=R h p it fh b hpl hit
  have hgood:=rdPI_good (bs:=bs) fu p it hpl hit
  have w1:IntKind.i64.wrap (((250-fu:Nat):Int)+1)=((251-fu:Nat):Int):=by rw[wrap64 (by omega) (by omega)];omega
  obtain⟨l0,l1,l2,l3,rfl⟩:=four_of hl4
  generalize hh3:h2.new (.cells (Value.agg #[.int .i64 0,.int .i64 0,.string ⟨#[]⟩,.slice none 0 0]).cells.toList 25 none)=h3
  have t3:Ahd h2 h3:=by rw[← hh3];exact Ahd.new0 m2.fit rfl
  have b6:h3.blk h2.next=some (.cells zeroL 25 none):=by rw[← hh3];exact new_blk_new rfl
  have s6:astore tab 25 (own h2.next) (.agg ⟨[l0,l1,l2,l3]⟩) h3=some (h3.setl h2.next (.cells [l0,l1,l2,l3] 25 none)):=astore_all qty25 b6 rfl rfl ho (by simp)
  have t4:=t3.setl (k:=h2.next) (B:=.cells [l0,l1,l2,l3] 25 none) rfl (Nat.le_refl _) (t3.fit.lt b6) m2.fit
  have b6:=setl_same (h:=h3) (k:=h2.next) (B:=.cells [l0,l1,l2,l3] 25 none) rfl
  generalize h3.setl h2.next (.cells [l0,l1,l2,l3] 25 none)=h4 at s6 t4 b6
  have M2:Mod (fun j=>j=k∨g.next≤j) g h2:=M.trans (m2.sub fun j hj=>.inl hj)
  have M4:=M2.ahd t4
  have b44:=t4.grows _ _ (m2.blk _ _ hk4k b4)
  obtain⟨sb,hsl⟩:=K.slice
  have ho4:[a0,a1,a2,sl].all isOne=true:=by
   rw[hsl]
   simp only[List.all_cons,List.all_nil,Bool.and_true,Bool.and_eq_true] at ha ⊢
   exact⟨ha.1,ha.2.1,ha.2.2,rfl⟩
  have lk6:h4.cells E (own h2.next) 4=some [l0,l1,l2,l3]:=blk_cells b6 rfl ho
  have K2:=K.mod fh m2 (fun j B hj hB=>by
   subst hj
   rw[show h.blk j=_ from b] at hB;cases hB;rfl)
  rw[rdPK]
  apply Wc.loop
  simp only[loop50,loopOf,firstLoop,Option.getD,Tryd.f50]
  generalize hri:rdPI bs fu p it=ri at hq hgood
  cases ri with
  | bad p' e=>
   obtain⟨rfl,it',b'⟩:=hq
   have b'4:=b'.mod (t4.mod (M:=fun _=>False)) (fun h=>h)
   obtain⟨h5,ld,st,m5,b45⟩:=rl25 (E:=E) t4.fit b44 ho4
   repeat' (first|(with_reducible apply Wc.seq)|refine Wc.block ?_)
   repeat' (first|with_reducible apply Ws|(apply Wn nf;focus ((repeat ((with_reducible apply Rr rfl);focus ((try simp +decide only[Oy,n0,q0,q1,q4,w1,ck,qtz25,hh3,s6,Qx,Hx,ld,st]);with_reducible rfl)));with_reducible exact Rn))|(refine W2 (by simp +decide only[Cx,n0,q0,q1,q4];try with_reducible rfl) (fun hb=>?_) (fun hb=>?_)<;>try contradiction)|apply W3|apply W4|apply W5|apply W6)
   exact⟨rfl,by simp +decide only[Gs,n0],by simp +decide only[Gs,d0],by simp +decide only[Gs,n0,q4],M4.trans (m5.sub fun j hj=>.inr (by omega)),sl,by rw[hsl];rfl,b45,by simp +decide only[Gs,n0],it',b'4.mod m5 (by omega)⟩
  | ok t p' it'=>
   obtain⟨rfl,b',hrt⟩:=hq
   obtain⟨o1,o2,o3,o4,o5,o6⟩:=hgood
   have:=isz_pos t
   have b'4:=b'.mod (t4.mod (M:=fun _=>False)) (fun h=>h)
   have K4:=K2.mod m2.fit (t4.mod (M:=fun _=>False)) (fun _ _ h=>h.elim)
   have R4:=rep_grow (only_ahd (q:=fun r=>Nat.ble h.next r) m2.fit t4 (fun _ h=>h)) hrt
   have c3:h4.cell E (aadd (own k4) 3)=some sl:=blk_cell (i:=3) b44 rfl (by rw[hsl];rfl)
   have hbs:=qbs23 (a:=l0) (b:=l1) (c:=l2) (d:=l3) ho (h:=h4)
   have t5:Ahd h4 (h4.new (.cells [l0,l1,l2,l3] 25 none)):=Ahd.new0 t4.fit rfl
   have b5x:(h4.new (.cells [l0,l1,l2,l3] 25 none)).blk h4.next=some (.cells [l0,l1,l2,l3] 25 none):=new_blk_new rfl
   generalize h4.new (.cells [l0,l1,l2,l3] 25 none)=h5 at hbs t5 b5x
   have K5:=K4.mod t4.fit (t5.mod (M:=fun _=>False)) (fun _ _ h=>h.elim)
   have R5:=rep_grow (only_ahd (q:=fun r=>Nat.ble h.next r) t4.fit t5 (fun _ h=>h)) R4
   have hn5:g.next≤h5.next:=Nat.le_trans M4.next t5.next
   obtain⟨sl',q,happ,K6,AP,hqn⟩:=kol_step (D:=tab) (E:=E) (t:=23) (t2:=23) (by_:=56) (kx:=h4.next) (c:=1) (lo:=h.next) t5.fit hn5 K5 (Nat.le_refl _) M.next qty23 qtz25 rfl (qza23 _ _ _) R5 (blk_cells b5x rfl ho) ho (by
    unfold roomy
    simp only[Bool.and_eq_true,Nat.ble_eq];omega)
   have M6:=AP.mod f (Nat.le_refl _) (M4.ahd t5)
   have b46:=AP.keep (t5.grows _ _ b44)
   have b66:Src k bs p' 0 it' q:=AP.keep (t5.grows _ _ b'4)
   obtain⟨sb',hsl'⟩:=K6.slice
   have ho6:[a0,a1,a2,sl'].all isOne=true:=by
    rw[hsl']
    simp only[List.all_cons,List.all_nil,Bool.and_true,Bool.and_eq_true] at ha ⊢
    exact⟨ha.1,ha.2.1,ha.2.2,rfl⟩
   have s7:astore tab 23 (aadd (own k4) 3) sl' q=some (q.setl k4 (.cells [a0,a1,a2,sl'] 25 none)):=astore_one (g:=q) qty23 rfl b46 (by rw[hsl'];rfl) (by rw[hsl'];rfl) (by simp) rfl
   have m7:=(Mod.refl (M:=fun j=>j=k4) AP.fit).setl (B:=.cells [a0,a1,a2,sl'] 25 none) rfl rfl (AP.fit.lt b46)
   have b47:=setl_same (h:=q) (k:=k4) (B:=.cells [a0,a1,a2,sl'] 25 none) rfl
   have K7:=K6.mod AP.fit m7 (fun j B hj hB=>by
    subst hj
    rw[b46] at hB;cases hB;rfl)
   have hqn7:(q.setl k4 (.cells [a0,a1,a2,sl'] 25 none)).next=q.next:=setl_next _ _ _
   generalize q.setl k4 (.cells [a0,a1,a2,sl'] 25 none)=h7 at s7 m7 b47 K7 hqn7
   have M7:=M6.trans (m7.sub (N:=fun j=>j=k∨g.next≤j) fun j hj=>.inr (by omega))
   have b77:=b66.mod m7 (by omega)
   have K7:Kol E 25 g.next h7.next h7 sl' (acc++[t]):=K7.up (by omega)
   repeat' (first|(with_reducible apply Wc.seq)|refine Wc.block ?_)
   repeat' (first|with_reducible apply Ws|(apply Wn nf;focus ((repeat ((with_reducible apply Rr rfl);focus ((try simp +decide only[Oy,n0,q0,q1,q4,w1,ck,qtz25,hh3,s6,Qx,Hx,c3,lk6,hbs,happ,s7]);with_reducible rfl)));with_reducible exact Rn))|(refine W2 (by simp +decide only[Cx,n0,q0,q1,q4,lk6,hbs,happ];try with_reducible rfl) (fun hb=>?_) (fun hb=>?_)<;>try contradiction)|apply W3|apply W4|apply W5|apply W6)
   refine Wc.forget (fun A=>A.n=82∧A.defers=[]∧A.get 0=.pointer (some (own k))∧A.get 1=.int .i64 (250-fu:Nat)∧A.get 4=.pointer (some (own k4))) (by and_intros<;>simp +decide only[Gs,n0,d0,q0,q1,q4]<;>rfl) ?_
   rintro A0 ⟨n0,d0,q0,q1,q4⟩
   obtain⟨n8,v8,h8,c8,m8,h8c⟩:=next84 (E:=E) (I:=I) (fun args h=>hI _ args h (by simp)) M7.fit b77 o2 hl 41
   have c8:(ev tab E I n8).call 84 [.pointer (some (own k)),.int .u8 41] h7=some (v8,h8):=c8
   have M8:Mod (fun j=>j=k∨g.next≤j) g h8:=M7.trans (m8.sub fun j hj=>.inl hj)
   have b48:=m8.blk _ _ hk4k b47
   have K8:Kol E 25 g.next h8.next h8 sl' (acc++[t]):=(K7.mod M7.fit m8 (fun j B hj hB=>by
    subst hj
    rw[show h7.blk j=_ from b77] at hB;cases hB;rfl)).up m8.next
   have hlen:(acc++[t]).length≤it':=by rw[List.length_append,List.length_singleton];omega
   simp only[]
   rcases h8c with⟨hc8,rfl,b88⟩|⟨hc8,rfl,b88⟩
   ·rw[if_pos hc8]
    obtain⟨h9,ld,st,m9,b49⟩:=rl25 (E:=E) m8.fit b48 ho6
    repeat' (first|with_reducible apply Ws|(apply Wn n8;focus ((repeat ((with_reducible apply Rr rfl);focus ((try simp +decide only[Oy,n0,q0,c8]);with_reducible rfl)));with_reducible exact Rn))|(refine W2 (by simp +decide only[Cx,n0,q0];try with_reducible rfl) (fun hb=>?_) (fun hb=>?_)<;>try contradiction)|apply W3|apply W4|apply W5|apply W6)
    repeat' (first|with_reducible apply Ws|(apply Wp;focus ((repeat ((with_reducible apply Rr rfl);focus ((try simp +decide only[Oy,n0,q4,Qx,Hx,ld,st]);with_reducible rfl)));with_reducible exact Rn))|(refine W2 (by simp +decide only[Cx,n0,q4];try with_reducible rfl) (fun hb=>?_) (fun hb=>?_)<;>try contradiction)|apply W3|apply W4|apply W5|apply W6)
    exact⟨rfl,by simp +decide only[Gs,n0],by simp +decide only[Gs,d0],by simp +decide only[Gs,n0,q4],M8.trans (m9.sub fun j hj=>.inr (by omega)),sl',by rw[hsl'];rfl,b49,by simp +decide only[Gs,n0],b88.mod m9 (by omega),(K8.mod m8.fit m9 (fun j B hj hB=>by
     subst hj
     rw[b48] at hB;cases hB;rfl)).up m9.next,by omega⟩
   rw[if_neg hc8]
   obtain⟨n9,v9,h9,c9,m9,h9c⟩:=next84 (E:=E) (I:=I) (fun args h=>hI _ args h (by simp)) M8.fit b88 o2 hl 32
   have c9:(ev tab E I n9).call 84 [.pointer (some (own k)),.int .u8 32] h8=some (v9,h9):=c9
   have M9:Mod (fun j=>j=k∨g.next≤j) g h9:=M8.trans (m9.sub fun j hj=>.inl hj)
   have b49:=m9.blk _ _ hk4k b48
   have K9:Kol E 25 g.next h9.next h9 sl' (acc++[t]):=(K8.mod M8.fit m9 (fun j B hj hB=>by
    subst hj
    rw[show h8.blk j=_ from b88] at hB;cases hB;rfl)).up m9.next
   rcases h9c with⟨hc9,rfl,b99⟩|⟨hc9,rfl,b99⟩
   ·rw[if_pos hc9]
    have hlt:=(List.getElem?_eq_some_iff.1 hc9).1
    repeat' (first|with_reducible apply Ws|(apply Wn n8;focus ((repeat ((with_reducible apply Rr rfl);focus ((try simp +decide only[Oy,n0,q0,c8]);with_reducible rfl)));with_reducible exact Rn))|(refine W2 (by simp +decide only[Cx,n0,q0];try with_reducible rfl) (fun hb=>?_) (fun hb=>?_)<;>try contradiction)|apply W3|apply W4|apply W5|apply W6)
    repeat' (first|with_reducible apply Ws|(apply Wn n9;focus ((repeat ((with_reducible apply Rr rfl);focus ((try simp +decide only[Oy,n0,q0,c9]);with_reducible rfl)));with_reducible exact Rn))|(refine W2 (by simp +decide only[Cx,n0,q0];try with_reducible rfl) (fun hb=>?_) (fun hb=>?_)<;>try contradiction)|apply W3|apply W4|apply W5|apply W6)
    refine ih (p'+1) it' (acc++[t]) sl' _ h9 (by omega) (by omega) o6 hlen ?_ ?_ ?_ ?_ ?_ M9 b49 b99 K9
    ·simp +decide only[Gs,n0]
    ·simp +decide only[Gs,d0]
    ·simp +decide only[Gs,n0,q0]
    ·simp +decide only[Gs,n0,q1]
    ·simp +decide only[Gs,n0,q4]
   ·rw[if_neg hc9]
    obtain⟨c0,c1,_,_⟩:=b99.at (E:=E)
    obtain⟨nx,gx,cx,mx,bx⟩:=fail81 (E:=E) (I:=I) (fun args h=>hI _ args h (by simp)) M9.fit.fresh (show Src k bs p' 0 it' (fresh h9) from b99) 4 p'
    obtain⟨m',_,_,_⟩:=Mod.back M9.fit mx
    have bx:=bx.back (h:=h9)
    have b4x:=m'.blk _ _ hk4k b49
    generalize hhx:back h9 gx=hx at m' bx b4x
    obtain⟨hy,ld,st,my,b4y⟩:=rl25 (E:=E) m'.fit b4x ho6
    have ld9:h9.cells E (own k4) 4=some [a0,a1,a2,sl']:=blk_cells b49 rfl ho6
    have st:astore tab 25 (own k4) (.agg ⟨[a0,a1,a2,sl']⟩) (fresh hx)=some ((fresh hx).setl k4 (.cells [a0,a1,a2,sl'] 25 none)):=astore_all (g:=fresh hx) qty25 b4x rfl rfl ho6 (by simp)
    have my:=(Mod.refl (M:=fun j=>j=k4) m'.fit).setl (B:=.cells [a0,a1,a2,sl'] 25 none) rfl rfl (m'.fit.lt b4x)
    repeat' (first|with_reducible apply Ws|(apply Wn n8;focus ((repeat ((with_reducible apply Rr rfl);focus ((try simp +decide only[Oy,n0,q0,c8]);with_reducible rfl)));with_reducible exact Rn))|(refine W2 (by simp +decide only[Cx,n0,q0];try with_reducible rfl) (fun hb=>?_) (fun hb=>?_)<;>try contradiction)|apply W3|apply W4|apply W5|apply W6)
    repeat' (first|with_reducible apply Ws|(apply Wn n9;focus ((repeat ((with_reducible apply Rr rfl);focus ((try simp +decide only[Oy,n0,q0,c9]);with_reducible rfl)));with_reducible exact Rn))|(refine W2 (by simp +decide only[Cx,n0,q0];try with_reducible rfl) (fun hb=>?_) (fun hb=>?_)<;>try contradiction)|apply W3|apply W4|apply W5|apply W6)
    refine Wc.forget (fun A=>A.n=82∧A.defers=[]∧A.get 0=.pointer (some (own k))∧A.get 4=.pointer (some (own k4))) (by and_intros<;>simp +decide only[Gs,n0,d0,q0,q1,q4]<;>rfl) ?_
    rintro A0 ⟨n0,d0,q0,q4⟩
    repeat' (with_reducible apply Wc.seq)
    refine Wc.drawQ nx (by kernel_rfl) ?_
    (iterate 9 ((first|apply Qp rfl rfl rfl|apply FQ.new rfl rfl);focus ((try simp +decide only[Oy,n0,q0,q4,Qx,Hx,c1,ld9]);with_reducible rfl)))
    refine FQ.mod (h1:=gx) (x:=.bool false) rfl rfl (by simp +decide only[Oy,n0,q0,Qx,Hx,cx]) ?_
    rw[hhx]
    refine FQ.setl (k:=k4) rfl rfl (m'.fit.lt b4x) (by simp +decide only[Oy,n0,q4,st];with_reducible rfl) ?_
    (iterate 1 ((first|apply Qp rfl rfl rfl|apply FQ.new rfl rfl);focus ((try simp +decide only[Oy,n0,q0]);with_reducible rfl)))
    refine FQ.nil ⟨?_,?_⟩
    ·refine allMeet_but [9,10] 12 [(0,9)] rfl rfl (by kernel_rfl) (fun _ _ _ _ hU e1 e2 => ?_)
     simp only[List.mem_cons,Prod.mk.injEq,List.not_mem_nil,or_false] at hU
     obtain⟨rfl,rfl⟩:=hU
     cases e1;cases e2
     exact meets_right (l:=[k4]) rfl (by simp +decide only[Oy,reads,pureOp,atV,n0,q4,aadd,own]) (fun j hj=>by
      have hj:j∈gx.log:=hj
      rcases mx.log j hj with h|⟨h,_⟩
      ·cases h
      ·subst h
       simp only[List.mem_singleton]
       omega) rfl (fun j _=>Nat.lt_or_ge _ _)
    refine Wc.ret ?_
    exact⟨rfl,by simp +decide only[Gs,n0],by simp +decide only[Gs,d0],by simp +decide only[Gs,n0,q4],(M9.trans (m'.sub fun j hj=>.inl hj)).trans (my.sub fun j hj=>.inr (by omega)),sl',by rw[hsl'];rfl,setl_same rfl,by simp +decide only[Gs,n0],it',bx.mod my (by omega)⟩
def rdP3 (bs:List UInt8) (f:Nat) (k m:Nat) (tx:ByteArray) (p it:Nat):Rd Hs.Item:=
 if bs[p]? = some 40 then match rdPK bs (rdPI bs f) (bs.length+1) [] (p+1) it with
  | .bad p e=>.bad p e
  | .ok ks p it=>.ok (.mk (k:Nat) (m:Nat) tx ks) p it
 else .ok (.mk (k:Nat) (m:Nat) tx []) p it
def rdP2 (bs:List UInt8) (f:Nat) (k m:Nat) (p it:Nat):Rd Hs.Item:=
 match (if bs[p]? = some 34 then rdQuo bs (p+1) it else .ok ⟨⟨[]⟩⟩ p it) with
 | .bad p e=>.bad p e
 | .ok tx p it=>rdP3 bs f k m tx p it
def rdP1 (bs:List UInt8) (f:Nat) (k:Nat) (p it:Nat):Rd Hs.Item:=
 match (if bs[p]? = some 58 then rdDec bs 1099511627776 4 (p+1) it else .ok 0 p it) with
 | .bad p e=>.bad p e
 | .ok m p it=>rdP2 bs f k m p it
theorem rdPI_succ (bs:List UInt8) (f pos items:Nat):rdPI bs (f+1) pos items=if 5000≤items then .bad pos 2 else match rdDec bs 63 3 pos (items+1) with
  | .bad p e=>.bad p e
  | .ok k p it=>rdP1 bs f k p it:=by
 rw[rdPI];rfl
def ItemR (E:Env) (k:Nat) (bs:List UInt8) (r:Rd Hs.Item) (lo:Nat) (l:List Value) (z:Value) (g:H):Prop:=match r with
 | .ok t p it=>z=.bool true∧Src k bs p 0 it g∧rep E (only (fun r=>Nat.ble lo r) g) t (.agg ⟨l⟩)
 | .bad p e=>z=.bool false∧∃ it,Src k bs p e it g
theorem item50 (hI:∀ f args h,(f=50∨f=85∨f=84∨f=83∨f=82∨f=81∨f=113∨f=114)→I f args h=none) (kp:Kq I) {k:Nat} {bs:List UInt8} (hl:bs.length≤1000000):∀ fu,fu≤250→Item50 E I k bs fu:=by
 intro fu
 have hI81:∀ args h,I 81 args h=none:=fun args h=>hI _ args h (by simp)
 have hI82:∀ f args h,(f=82∨f=81)→I f args h=none:=fun f args h hf=>hI f args h (by rcases hf with h|h<;>simp[h])
 have hI83:∀ f args h,(f=83∨f=81)→I f args h=none:=fun f args h hf=>hI f args h (by rcases hf with h|h<;>simp[h])
 have hI84:∀ args h,I 84 args h=none:=fun args h=>hI _ args h (by simp)
 have hI85:∀ f args h,(f=85∨f=113∨f=114∨f=81)→I f args h=none:=fun f args h hf=>hI f args h (by rcases hf with h|h|h|h<;>simp[h])
 have hI50:∀ f args h,(f=50∨f=84∨f=81)→I f args h=none:=fun f args h hf=>hI f args h (by rcases hf with h|h|h<;>simp[h])
 induction fu with
 | zero=>
  intro _ g pos items f b hp hi
  show ∃ n v g',(ev tab E I n).call 50 [.pointer (some (own k)),.int .i64 (251:Nat)] g=some (v,g')∧_
  apply Wk (hI _ _ _ (.inl rfl)) fn50 rfl
  intro A0 n0 d0 hA0
  change A0.n=82 at n0
  have q0:A0.get 0=.pointer (some (own k)):=hA0 0 _ rfl
  have q1:A0.get 1=.int .i64 (251:Nat):=hA0 1 _ rfl
  clear hA0
  generalize hh1:g.new (.cells (Value.agg #[.int .i64 0,.int .i64 0,.string ⟨#[]⟩,.slice none 0 0]).cells.toList 25 none)=h1
  have t1:Ahd g h1:=by rw[← hh1];exact Ahd.new0 f rfl
  have b4:h1.blk g.next=some (.cells zeroL 25 none):=by rw[← hh1];exact new_blk_new rfl
  have kl:k<g.next:=f.lt b
  have b1:=b.mod (t1.mod (M:=fun _=>False)) (fun h=>h)
  obtain⟨nb,vb,h2,cb,mb,hb⟩:=begins82 (E:=E) (I:=I) hI82 t1.fit b1 hi 251
  have b42:=mb.blk _ _ (by omega) b4
  obtain⟨h3,ld,st,m3,b43⟩:=rl25 (E:=E) mb.fit b42 rfl
  rcases hb with⟨_,rfl,bb⟩|⟨hb,_⟩|⟨hb,_⟩
  ·repeat' (first|with_reducible apply Ws|(apply Wn nb;focus ((repeat ((with_reducible apply Rr rfl);focus ((try simp +decide only[Oy,n0,q0,q1,qtz25,hh1,Qx,Hx,cb,ld,st]);with_reducible rfl)));with_reducible exact Rn))|(refine W2 (by simp +decide only[Cx,n0,q0,q1,cb];try with_reducible rfl) (fun hb=>?_) (fun hb=>?_)<;>try contradiction)|apply W3|apply W4|apply W5|apply W6)
   refine⟨.inr rfl,h3,.tuple #[.agg ⟨zeroL⟩,.bool false],by simp +decide only[Gs,d0];rfl,?_,zeroL,.bool false,rfl,(t1.mod.trans ((mb.sub fun j hj=>.inl hj).trans (m3.sub (N:=fun j=>j=k∨g.next≤j) fun j hj=>.inr (by omega)))).low f (fun _ h=>h),⟨rfl,rfl⟩,?_⟩
   ·have g4:∀ A:Ac,A.get 4=.pointer (some (own g.next))→A.get 5=.bool false→ares tab E Tryd.f50 A h3=some (.tuple #[.agg ⟨zeroL⟩,.bool false]):=by
     intro A a4 a5
     have lz:h3.cells E (own g.next) 4=some zeroL:=blk_cells b43 rfl rfl
     unfold ares
     rw[show Tryd.f50.results=#[.cell 4 25,.tmp 5] from rfl]
     simp only[aresL,ares1,a4,a5,qld25,lz]
    exact g4 _ (by simp +decide only[Gs,n0]) (by simp +decide only[Gs,n0])
   ·rw[rdPI]
    exact⟨rfl,items,bb.mod m3 (by omega)⟩
  ·omega
  ·omega
 | succ fu IH=>
 intro hfu g pos items f b hp hi
 have RI:=IH (by omega)
 rw[show 251-(fu+1)=250-fu by omega]
 apply Wk (hI _ _ _ (.inl rfl)) fn50 rfl
 intro A0 n0 d0 hA0
 change A0.n=82 at n0
 have q0:A0.get 0=.pointer (some (own k)):=hA0 0 _ rfl
 have q1:A0.get 1=.int .i64 (250-fu:Nat):=hA0 1 _ rfl
 clear hA0
 generalize hh1:g.new (.cells (Value.agg #[.int .i64 0,.int .i64 0,.string ⟨#[]⟩,.slice none 0 0]).cells.toList 25 none)=h1
 have t1:Ahd g h1:=by rw[← hh1];exact Ahd.new0 f rfl
 have b4:h1.blk g.next=some (.cells zeroL 25 none):=by rw[← hh1];exact new_blk_new rfl
 have kl:k<g.next:=f.lt b
 have b1:=b.mod (t1.mod (M:=fun _=>False)) (fun h=>h)
 have eR:=rdPI_succ bs fu pos items
 generalize rdPI bs (fu+1) pos items=R at eR ⊢
 have up:∀ {h h':H},Mod (fun j=>j=k) h h'→Mod (fun j=>j=k∨g.next≤j) h h':=fun m=>m.sub (fun _ h=>.inl h)
 have u4:∀ {h h':H},Mod (fun j=>j=g.next) h h'→Mod (fun j=>j=k∨g.next≤j) h h':=fun m=>m.sub (fun j hj=>.inr (by omega))
 have ne4:g.next≠k:=by omega
 have res:∀ {h:H} {l:List Value} {z:Bool} {A:Ac},l.length=4→l.all isOne=true→A.n=82→A.defers=[]→A.get 4=.pointer (some (own g.next))→A.get 5=.bool z→Mod (fun j=>j=k∨g.next≤j) g h→h.blk g.next=some (.cells l 25 none)→ItemR E k bs R g.next l (.bool z) h→
   (Ex.ret=.normal∨Ex.ret=.ret)∧∃ h2 v',takeAll A.defers h=some h2∧ares tab E Tryd.f50 A h2=some v'∧(∃ l z,v'=.tuple #[.agg ⟨l⟩,z]∧Mod (fun j=>j=k) g h2∧ItemP E k bs R g.next l z h2):=by
  intro h l z A hl4 ho n0 d0 q4 q5 m hb hq
  refine⟨.inr rfl,h,.tuple #[.agg ⟨l⟩,.bool z],by rw[d0];rfl,?_,l,.bool z,rfl,m.low f (fun _ h=>h),⟨hl4,ho⟩,hq⟩
  have lz:h.cells E (own g.next) 4=some l:=blk_cells hb hl4 ho
  unfold ares
  rw[show Tryd.f50.results=#[.cell 4 25,.tmp 5] from rfl]
  simp only[aresL,ares1,q4,q5,qld25,lz]
 obtain⟨nb,vb,h2,cb,mb,hb⟩:=begins82 (E:=E) (I:=I) hI82 t1.fit b1 hi (250-fu)
 have b42:=mb.blk _ _ ne4 b4
 have M2:Mod (fun j=>j=k∨g.next≤j) g h2:=t1.mod.trans (up mb)
 obtain⟨h3,ld,st,m3,b43⟩:=rl25 (E:=E) mb.fit b42 rfl
 rcases hb with⟨hb,_⟩|⟨_,h5,rfl,bb⟩|⟨_,h5,rfl,bb⟩
 ·omega
 ·rw[if_pos (by omega)] at eR
  repeat' (first|with_reducible apply Ws|(apply Wn nb;focus ((repeat ((with_reducible apply Rr rfl);focus ((try simp +decide only[Oy,n0,q0,q1,qtz25,hh1,Qx,Hx,cb,ld,st]);with_reducible rfl)));with_reducible exact Rn))|(refine W2 (by simp +decide only[Cx,n0,q0,q1,cb];try with_reducible rfl) (fun hb=>?_) (fun hb=>?_)<;>try contradiction)|apply W3|apply W4|apply W5|apply W6)
  refine res (l:=zeroL) (z:=false) rfl rfl (by simp +decide only[Gs,n0]) (by simp +decide only[Gs,d0]) (by simp +decide only[Gs,n0]) (by simp +decide only[Gs,n0]) (M2.trans (u4 m3)) b43 ?_
  rw[eR]
  exact⟨rfl,items,bb.mod m3 (by omega)⟩
 clear ld st m3 b43
 rw[if_neg (by omega)] at eR
 repeat' (first|with_reducible apply Ws|(apply Wn nb;focus ((repeat ((with_reducible apply Rr rfl);focus ((try simp +decide only[Oy,n0,q0,q1,qtz25,hh1,Qx,Hx,cb]);with_reducible rfl)));with_reducible exact Rn))|(refine W2 (by simp +decide only[Cx,n0,q0,q1,cb];try with_reducible rfl) (fun hb=>?_) (fun hb=>?_)<;>try contradiction)|apply W3|apply W4|apply W5|apply W6)
 refine Wc.forget (fun A=>A.n=82∧A.defers=[]∧A.get 0=.pointer (some (own k))∧A.get 1=.int .i64 (250-fu:Nat)∧A.get 4=.pointer (some (own g.next))) (by and_intros<;>simp +decide only[Gs,n0,d0,q0,q1]<;>rfl) ?_
 rintro A0 ⟨n0,d0,q0,q1,q4⟩
 obtain⟨n3,_,h3,c3,u3,x3,rfl,m3,hq3⟩:=decimal83 (E:=E) (I:=I) hI83 mb.fit bb hp hl 63 (by decide) 3
 have c3:(ev tab E I n3).call 83 [.pointer (some (own k)),.int .i64 63,.int .i64 3] h2=some (.tuple #[u3,x3],h3):=c3
 have b43:=m3.blk _ _ ne4 b42
 have M3:=M2.trans (up m3)
 cases hr3:rdDec bs 63 3 pos (items+1) with
 | bad p e=>
  rw[hr3] at hq3 eR
  obtain⟨rfl,rfl,b3⟩:=hq3
  have s0:astore tab 3 (own g.next) (.int .i64 0) h3=some (h3.setl g.next (.cells zeroL 25 none)):=astore_one (o:=0) qty3 rfl b43 rfl rfl (by decide) rfl
  have m4:=(Mod.refl (M:=fun j=>j=g.next) m3.fit).setl (B:=.cells zeroL 25 none) rfl rfl (m3.fit.lt b43)
  have b44:=setl_same (h:=h3) (k:=g.next) (B:=.cells zeroL 25 none) rfl
  generalize h3.setl g.next (.cells zeroL 25 none)=h4 at s0 m4 b44
  obtain⟨h5,ld,st,m5,b45⟩:=rl25 (E:=E) m4.fit b44 rfl
  repeat' (first|with_reducible apply Ws|(apply Wn n3;focus ((repeat ((with_reducible apply Rr rfl);focus ((try simp +decide only[Oy,n0,q0,q4,Qx,Hx,c3,s0,ld,st]);with_reducible rfl)));with_reducible exact Rn))|(refine W2 (by simp +decide only[Cx,n0,q0,q4];try with_reducible rfl) (fun hb=>?_) (fun hb=>?_)<;>try contradiction)|apply W3|apply W4|apply W5|apply W6)
  refine res (l:=zeroL) (z:=false) rfl rfl (by simp +decide only[Gs,n0]) (by simp +decide only[Gs,d0]) (by simp +decide only[Gs,n0,q4]) (by simp +decide only[Gs,n0]) ((M3.trans (u4 m4)).trans (u4 m5)) b45 ?_
  rw[eR]
  exact⟨rfl,items+1,(b3.mod m4 (by omega)).mod m5 (by omega)⟩
 | ok kn p it=>
 rw[hr3] at hq3 eR
 obtain⟨rfl,rfl,b3⟩:=hq3
 obtain⟨_,hp3,_,_,hit⟩:=rdDec_ok hr3 hp
 have s0:astore tab 3 (own g.next) (.int .i64 (kn:Nat)) h3=some (h3.setl g.next (.cells [.int .i64 (kn:Nat),.int .i64 0,.string ⟨#[]⟩,.slice none 0 0] 25 none)):=astore_one (o:=0) qty3 rfl b43 rfl rfl (by decide) rfl
 have m4:=(Mod.refl (M:=fun j=>j=g.next) m3.fit).setl (B:=.cells [.int .i64 (kn:Nat),.int .i64 0,.string ⟨#[]⟩,.slice none 0 0] 25 none) rfl rfl (m3.fit.lt b43)
 have b44:=setl_same (h:=h3) (k:=g.next) (B:=.cells [.int .i64 (kn:Nat),.int .i64 0,.string ⟨#[]⟩,.slice none 0 0] 25 none) rfl
 generalize h3.setl g.next (.cells [.int .i64 (kn:Nat),.int .i64 0,.string ⟨#[]⟩,.slice none 0 0] 25 none)=h4 at s0 m4 b44
 have M4:=M3.trans (u4 m4)
 have b34:=b3.mod m4 (by omega)
 obtain⟨n5,v5,h5,c5,m5,h5c⟩:=next84 (E:=E) (I:=I) hI84 m4.fit b34 hp3 hl 58
 have c5:(ev tab E I n5).call 84 [.pointer (some (own k)),.int .u8 58] h4=some (v5,h5):=c5
 have b45:=m5.blk _ _ ne4 b44
 have M5:=M4.trans (up m5)
 repeat' (first|with_reducible apply Ws|(apply Wn n3;focus ((repeat ((with_reducible apply Rr rfl);focus ((try simp +decide only[Oy,n0,q0,q4,Qx,Hx,c3,s0]);with_reducible rfl)));with_reducible exact Rn))|(refine W2 (by simp +decide only[Cx,n0,q0,q4];try with_reducible rfl) (fun hb=>?_) (fun hb=>?_)<;>try contradiction)|apply W3|apply W4|apply W5|apply W6)
 repeat' (first|with_reducible apply Ws|(apply Wn n5;focus ((repeat ((with_reducible apply Rr rfl);focus ((try simp +decide only[Oy,n0,q0,c5]);with_reducible rfl)));with_reducible exact Rn))|(refine W2 (by simp +decide only[Cx,n0,q0];try with_reducible rfl) (fun hb=>?_) (fun hb=>?_)<;>try contradiction)|apply W3|apply W4|apply W5|apply W6)
 refine Wc.forget (fun A=>A.n=82∧A.defers=[]∧A.get 0=.pointer (some (own k))∧A.get 1=.int .i64 (250-fu:Nat)∧A.get 4=.pointer (some (own g.next))∧A.get 23=v5) (by and_intros<;>simp +decide only[Gs,n0,d0,q0,q1,q4]<;>rfl) ?_
 rintro A0 ⟨n0,d0,q0,q1,q4,q23⟩
 repeat' (with_reducible apply Wc.seq)
 refine Wc.mono (Q:=fun ex A h=>A.n=82∧A.defers=[]∧A.get 4=.pointer (some (own g.next))∧Mod (fun j=>j=k∨g.next≤j) g h∧((ex=.normal∧A.get 0=.pointer (some (own k))∧A.get 1=.int .i64 (250-fu:Nat)∧∃ m p it,R=rdP2 bs fu kn m p it∧p≤bs.length∧Src k bs p 0 it h∧h.blk g.next=some (.cells [.int .i64 (kn:Nat),.int .i64 (m:Nat),.string ⟨#[]⟩,.slice none 0 0] 25 none)∧it≤5000)∨(ex=.ret∧A.get 5=.bool false∧∃ p e it l,l.length=4∧l.all isOne=true∧R=.bad p e∧Src k bs p e it h∧h.blk g.next=some (.cells l 25 none)))) ?_ ?_
 ·simp only[] at eR
  unfold rdP1 at eR
  rcases h5c with⟨hc,rfl,b5⟩|⟨hc,rfl,b5⟩
  rotate_left
  ·rw[if_neg hc] at eR
   repeat' (first|with_reducible apply Ws|(apply Wp;focus ((repeat ((with_reducible apply Rr rfl);focus ((try simp +decide only[Oy,n0,q23]);with_reducible rfl)));with_reducible exact Rn))|(refine W2 (by simp +decide only[Cx,n0,q23];try with_reducible rfl) (fun hb=>?_) (fun hb=>?_)<;>try contradiction)|apply W3|apply W4|apply W5|apply W6)
   exact⟨by simp +decide only[Gs,n0],by simp +decide only[Gs,d0],by simp +decide only[Gs,n0,q4],M5,.inl ⟨rfl,by simp +decide only[Gs,n0,q0],by simp +decide only[Gs,n0,q1],0,p,it,eR,hp3,b5,b45,by omega⟩⟩
  rw[if_pos hc] at eR
  have hlt:=(List.getElem?_eq_some_iff.1 hc).1
  obtain⟨n6,_,h6,c6,u6,x6,rfl,m6,hq6⟩:=decimal83 (E:=E) (I:=I) hI83 m5.fit b5 (by omega) hl 1099511627776 (by decide) 4
  have c6:(ev tab E I n6).call 83 [.pointer (some (own k)),.int .i64 1099511627776,.int .i64 4] h5=some (.tuple #[u6,x6],h6):=c6
  have b46:=m6.blk _ _ ne4 b45
  have M6:=M5.trans (up m6)
  cases hr6:rdDec bs 1099511627776 4 (p+1) it with
  | bad p' e=>
   rw[hr6] at hq6 eR
   obtain⟨rfl,rfl,b6⟩:=hq6
   have s0:astore tab 3 (aadd (own g.next) 1) (.int .i64 0) h6=some (h6.setl g.next (.cells [.int .i64 (kn:Nat),.int .i64 0,.string ⟨#[]⟩,.slice none 0 0] 25 none)):=astore_one (o:=1) qty3 rfl b46 rfl rfl (by simp) rfl
   have m7:=(Mod.refl (M:=fun j=>j=g.next) m6.fit).setl (B:=.cells [.int .i64 (kn:Nat),.int .i64 0,.string ⟨#[]⟩,.slice none 0 0] 25 none) rfl rfl (m6.fit.lt b46)
   have b47:=setl_same (h:=h6) (k:=g.next) (B:=.cells [.int .i64 (kn:Nat),.int .i64 0,.string ⟨#[]⟩,.slice none 0 0] 25 none) rfl
   generalize h6.setl g.next (.cells [.int .i64 (kn:Nat),.int .i64 0,.string ⟨#[]⟩,.slice none 0 0] 25 none)=h7 at s0 m7 b47
   obtain⟨h8,ld,st,m8,b48⟩:=rl25 (E:=E) m7.fit b47 rfl
   repeat' (first|with_reducible apply Ws|(apply Wp;focus ((repeat ((with_reducible apply Rr rfl);focus ((try simp +decide only[Oy,n0,q23]);with_reducible rfl)));with_reducible exact Rn))|(refine W2 (by simp +decide only[Cx,n0,q23];try with_reducible rfl) (fun hb=>?_) (fun hb=>?_)<;>try contradiction)|apply W3|apply W4|apply W5|apply W6)
   repeat' (first|with_reducible apply Ws|(apply Wn n6;focus ((repeat ((with_reducible apply Rr rfl);focus ((try simp +decide only[Oy,n0,q0,q4,Qx,Hx,c6,s0,ld,st]);with_reducible rfl)));with_reducible exact Rn))|(refine W2 (by simp +decide only[Cx,n0,q0,q4];try with_reducible rfl) (fun hb=>?_) (fun hb=>?_)<;>try contradiction)|apply W3|apply W4|apply W5|apply W6)
   exact⟨by simp +decide only[Gs,n0],by simp +decide only[Gs,d0],by simp +decide only[Gs,n0,q4],(M6.trans (u4 m7)).trans (u4 m8),.inr ⟨rfl,by simp +decide only[Gs,n0],p',e,it,_,rfl,rfl,eR,(b6.mod m7 (by omega)).mod m8 (by omega),b48⟩⟩
  | ok mn p' it'=>
   rw[hr6] at hq6 eR
   obtain⟨rfl,rfl,b6⟩:=hq6
   obtain⟨_,hp6,_,_,hit6⟩:=rdDec_ok hr6 (by omega)
   have s0:astore tab 3 (aadd (own g.next) 1) (.int .i64 (mn:Nat)) h6=some (h6.setl g.next (.cells [.int .i64 (kn:Nat),.int .i64 (mn:Nat),.string ⟨#[]⟩,.slice none 0 0] 25 none)):=astore_one (o:=1) qty3 rfl b46 rfl rfl (by simp) rfl
   have m7:=(Mod.refl (M:=fun j=>j=g.next) m6.fit).setl (B:=.cells [.int .i64 (kn:Nat),.int .i64 (mn:Nat),.string ⟨#[]⟩,.slice none 0 0] 25 none) rfl rfl (m6.fit.lt b46)
   have b47:=setl_same (h:=h6) (k:=g.next) (B:=.cells [.int .i64 (kn:Nat),.int .i64 (mn:Nat),.string ⟨#[]⟩,.slice none 0 0] 25 none) rfl
   generalize h6.setl g.next (.cells [.int .i64 (kn:Nat),.int .i64 (mn:Nat),.string ⟨#[]⟩,.slice none 0 0] 25 none)=h7 at s0 m7 b47
   repeat' (first|with_reducible apply Ws|(apply Wp;focus ((repeat ((with_reducible apply Rr rfl);focus ((try simp +decide only[Oy,n0,q23]);with_reducible rfl)));with_reducible exact Rn))|(refine W2 (by simp +decide only[Cx,n0,q23];try with_reducible rfl) (fun hb=>?_) (fun hb=>?_)<;>try contradiction)|apply W3|apply W4|apply W5|apply W6)
   repeat' (first|with_reducible apply Ws|(apply Wn n6;focus ((repeat ((with_reducible apply Rr rfl);focus ((try simp +decide only[Oy,n0,q0,q4,Qx,Hx,c6,s0]);with_reducible rfl)));with_reducible exact Rn))|(refine W2 (by simp +decide only[Cx,n0,q0,q4];try with_reducible rfl) (fun hb=>?_) (fun hb=>?_)<;>try contradiction)|apply W3|apply W4|apply W5|apply W6)
   exact⟨by simp +decide only[Gs,n0],by simp +decide only[Gs,d0],by simp +decide only[Gs,n0,q4],M6.trans (u4 m7),.inl ⟨rfl,by simp +decide only[Gs,n0,q0],by simp +decide only[Gs,n0,q1],mn,p',it',eR,hp6,b6.mod m7 (by omega),b47,by omega⟩⟩
 clear n0 d0 q0 q1 q4 q23 h5c c5 b45 M5 m5 b44 M4 b34 m4 s0 b43 M3 m3 c3 b42 M2 mb cb bb b3 hp3 hit hr3
 rintro ex A0 h ⟨n0,d0,q4,M,⟨rfl,q0,q1,m,p,it,eR,hp3,b3,b44,hit⟩|⟨rfl,q5,p,e,it,l,hl4,ho,hR,bz,hb⟩⟩
 rotate_left
 ·refine res hl4 ho n0 d0 q4 q5 M hb ?_
  rw[hR]
  exact⟨rfl,it,bz⟩
 simp only[]
 obtain⟨n5,v5,h5,c5,m5,h5c⟩:=next84 (E:=E) (I:=I) hI84 M.fit b3 hp3 hl 34
 have c5:(ev tab E I n5).call 84 [.pointer (some (own k)),.int .u8 34] h=some (v5,h5):=c5
 have b45:=m5.blk _ _ ne4 b44
 have M5:=M.trans (up m5)
 repeat' (first|with_reducible apply Ws|(apply Wn n5;focus ((repeat ((with_reducible apply Rr rfl);focus ((try simp +decide only[Oy,n0,q0,c5]);with_reducible rfl)));with_reducible exact Rn))|(refine W2 (by simp +decide only[Cx,n0,q0];try with_reducible rfl) (fun hb=>?_) (fun hb=>?_)<;>try contradiction)|apply W3|apply W4|apply W5|apply W6)
 refine Wc.forget (fun A=>A.n=82∧A.defers=[]∧A.get 0=.pointer (some (own k))∧A.get 1=.int .i64 (250-fu:Nat)∧A.get 4=.pointer (some (own g.next))∧A.get 34=v5) (by and_intros<;>simp +decide only[Gs,n0,d0,q0,q1,q4]<;>rfl) ?_
 rintro A0 ⟨n0,d0,q0,q1,q4,q34⟩
 repeat' (with_reducible apply Wc.seq)
 refine Wc.mono (Q:=fun ex A h=>A.n=82∧A.defers=[]∧A.get 4=.pointer (some (own g.next))∧Mod (fun j=>j=k∨g.next≤j) g h∧((ex=.normal∧A.get 0=.pointer (some (own k))∧A.get 1=.int .i64 (250-fu:Nat)∧∃ tx p it,R=rdP3 bs fu kn m tx p it∧p≤bs.length∧Src k bs p 0 it h∧h.blk g.next=some (.cells [.int .i64 (kn:Nat),.int .i64 (m:Nat),.string tx,.slice none 0 0] 25 none)∧it≤5000)∨(ex=.ret∧A.get 5=.bool false∧∃ p e it l,l.length=4∧l.all isOne=true∧R=.bad p e∧Src k bs p e it h∧h.blk g.next=some (.cells l 25 none)))) ?_ ?_
 ·unfold rdP2 at eR
  rcases h5c with⟨hc,rfl,b5⟩|⟨hc,rfl,b5⟩
  rotate_left
  ·rw[if_neg hc] at eR
   repeat' (first|with_reducible apply Ws|(apply Wp;focus ((repeat ((with_reducible apply Rr rfl);focus ((try simp +decide only[Oy,n0,q34]);with_reducible rfl)));with_reducible exact Rn))|(refine W2 (by simp +decide only[Cx,n0,q34];try with_reducible rfl) (fun hb=>?_) (fun hb=>?_)<;>try contradiction)|apply W3|apply W4|apply W5|apply W6)
   exact⟨by simp +decide only[Gs,n0],by simp +decide only[Gs,d0],by simp +decide only[Gs,n0,q4],M5,.inl ⟨rfl,by simp +decide only[Gs,n0,q0],by simp +decide only[Gs,n0,q1],⟨⟨[]⟩⟩,p,it,eR,hp3,b5,b45,hit⟩⟩
  rw[if_pos hc] at eR
  have hlt:=(List.getElem?_eq_some_iff.1 hc).1
  obtain⟨n6,_,h6,c6,u6,x6,rfl,m6,hq6⟩:=quoted85 (E:=E) (I:=I) hI85 kp m5.fit b5 (by omega) (by omega) hl
  have b46:=m6.blk _ _ ne4 b45
  have M6:=M5.trans (up m6)
  cases hr6:rdQuo bs (p+1) it with
  | bad p' e=>
   rw[hr6] at hq6 eR
   obtain⟨rfl,rfl,b6⟩:=hq6
   have s0:astore tab 9 (aadd (own g.next) 2) (.string ⟨⟨[]⟩⟩) h6=some (h6.setl g.next (.cells [.int .i64 (kn:Nat),.int .i64 (m:Nat),.string ⟨⟨[]⟩⟩,.slice none 0 0] 25 none)):=astore_one (o:=2) qty9 rfl b46 rfl rfl (by simp) rfl
   have m7:=(Mod.refl (M:=fun j=>j=g.next) m6.fit).setl (B:=.cells [.int .i64 (kn:Nat),.int .i64 (m:Nat),.string ⟨⟨[]⟩⟩,.slice none 0 0] 25 none) rfl rfl (m6.fit.lt b46)
   have b47:=setl_same (h:=h6) (k:=g.next) (B:=.cells [.int .i64 (kn:Nat),.int .i64 (m:Nat),.string ⟨⟨[]⟩⟩,.slice none 0 0] 25 none) rfl
   generalize h6.setl g.next (.cells [.int .i64 (kn:Nat),.int .i64 (m:Nat),.string ⟨⟨[]⟩⟩,.slice none 0 0] 25 none)=h7 at s0 m7 b47
   obtain⟨h8,ld,st,m8,b48⟩:=rl25 (E:=E) m7.fit b47 rfl
   repeat' (first|with_reducible apply Ws|(apply Wp;focus ((repeat ((with_reducible apply Rr rfl);focus ((try simp +decide only[Oy,n0,q34]);with_reducible rfl)));with_reducible exact Rn))|(refine W2 (by simp +decide only[Cx,n0,q34];try with_reducible rfl) (fun hb=>?_) (fun hb=>?_)<;>try contradiction)|apply W3|apply W4|apply W5|apply W6)
   repeat' (first|with_reducible apply Ws|(apply Wn n6;focus ((repeat ((with_reducible apply Rr rfl);focus ((try simp +decide only[Oy,n0,q0,q4,Qx,Hx,c6,s0,ld,st]);with_reducible rfl)));with_reducible exact Rn))|(refine W2 (by simp +decide only[Cx,n0,q0,q4];try with_reducible rfl) (fun hb=>?_) (fun hb=>?_)<;>try contradiction)|apply W3|apply W4|apply W5|apply W6)
   exact⟨by simp +decide only[Gs,n0],by simp +decide only[Gs,d0],by simp +decide only[Gs,n0,q4],(M6.trans (u4 m7)).trans (u4 m8),.inr ⟨rfl,by simp +decide only[Gs,n0],p',e,it,_,rfl,rfl,eR,(b6.mod m7 (by omega)).mod m8 (by omega),b48⟩⟩
  | ok tx p' it'=>
   rw[hr6] at hq6 eR
   obtain⟨rfl,rfl,b6⟩:=hq6
   obtain⟨_,hp6,hit6,_⟩:=rdQuo_ok hr6
   have s0:astore tab 9 (aadd (own g.next) 2) (.string tx) h6=some (h6.setl g.next (.cells [.int .i64 (kn:Nat),.int .i64 (m:Nat),.string tx,.slice none 0 0] 25 none)):=astore_one (o:=2) qty9 rfl b46 rfl rfl (by simp) rfl
   have m7:=(Mod.refl (M:=fun j=>j=g.next) m6.fit).setl (B:=.cells [.int .i64 (kn:Nat),.int .i64 (m:Nat),.string tx,.slice none 0 0] 25 none) rfl rfl (m6.fit.lt b46)
   have b47:=setl_same (h:=h6) (k:=g.next) (B:=.cells [.int .i64 (kn:Nat),.int .i64 (m:Nat),.string tx,.slice none 0 0] 25 none) rfl
   generalize h6.setl g.next (.cells [.int .i64 (kn:Nat),.int .i64 (m:Nat),.string tx,.slice none 0 0] 25 none)=h7 at s0 m7 b47
   repeat' (first|with_reducible apply Ws|(apply Wp;focus ((repeat ((with_reducible apply Rr rfl);focus ((try simp +decide only[Oy,n0,q34]);with_reducible rfl)));with_reducible exact Rn))|(refine W2 (by simp +decide only[Cx,n0,q34];try with_reducible rfl) (fun hb=>?_) (fun hb=>?_)<;>try contradiction)|apply W3|apply W4|apply W5|apply W6)
   repeat' (first|with_reducible apply Ws|(apply Wn n6;focus ((repeat ((with_reducible apply Rr rfl);focus ((try simp +decide only[Oy,n0,q0,q4,Qx,Hx,c6,s0]);with_reducible rfl)));with_reducible exact Rn))|(refine W2 (by simp +decide only[Cx,n0,q0,q4];try with_reducible rfl) (fun hb=>?_) (fun hb=>?_)<;>try contradiction)|apply W3|apply W4|apply W5|apply W6)
   exact⟨by simp +decide only[Gs,n0],by simp +decide only[Gs,d0],by simp +decide only[Gs,n0,q4],M6.trans (u4 m7),.inl ⟨rfl,by simp +decide only[Gs,n0,q0],by simp +decide only[Gs,n0,q1],tx,p',it',eR,hp6,b6.mod m7 (by omega),b47,by omega⟩⟩
 clear n0 d0 q0 q1 q4 q34 h5c c5 b45 M5 m5 M b44 b3 hp3 hit
 rintro ex A0 h ⟨n0,d0,q4,M,⟨rfl,q0,q1,tx,p,it,eR,hp3,b3,b44,hit⟩|⟨rfl,q5,p,e,it,l,hl4,ho,hR,bz,hb⟩⟩
 rotate_left
 ·refine res hl4 ho n0 d0 q4 q5 M hb ?_
  rw[hR]
  exact⟨rfl,it,bz⟩
 simp only[]
 obtain⟨n5,v5,h5,c5,m5,h5c⟩:=next84 (E:=E) (I:=I) hI84 M.fit b3 hp3 hl 40
 have c5:(ev tab E I n5).call 84 [.pointer (some (own k)),.int .u8 40] h=some (v5,h5):=c5
 have b45:=m5.blk _ _ ne4 b44
 have M5:=M.trans (up m5)
 unfold rdP3 at eR
 rcases h5c with⟨hc,rfl,b5⟩|⟨hc,rfl,b5⟩
 rotate_left
 ·rw[if_neg hc] at eR
  obtain⟨h6,ld,st,m6,b46⟩:=rl25 (E:=E) m5.fit b45 rfl
  repeat' (first|with_reducible apply Ws|(apply Wn n5;focus ((repeat ((with_reducible apply Rr rfl);focus ((try simp +decide only[Oy,n0,q0,c5]);with_reducible rfl)));with_reducible exact Rn))|(refine W2 (by simp +decide only[Cx,n0,q0];try with_reducible rfl) (fun hb=>?_) (fun hb=>?_)<;>try contradiction)|apply W3|apply W4|apply W5|apply W6)
  repeat' (first|with_reducible apply Ws|(apply Wp;focus ((repeat ((with_reducible apply Rr rfl);focus ((try simp +decide only[Oy,n0,q4,Qx,Hx,ld,st]);with_reducible rfl)));with_reducible exact Rn))|(refine W2 (by simp +decide only[Cx,n0,q4];try with_reducible rfl) (fun hb=>?_) (fun hb=>?_)<;>try contradiction)|apply W3|apply W4|apply W5|apply W6)
  refine res (l:=[.int .i64 (kn:Nat),.int .i64 (m:Nat),.string tx,.slice none 0 0]) (z:=true) rfl rfl (by simp +decide only[Gs,n0]) (by simp +decide only[Gs,d0]) (by simp +decide only[Gs,n0,q4]) (by simp +decide only[Gs,n0]) (M5.trans (u4 m6)) b46 ?_
  rw[eR]
  exact⟨rfl,b5.mod m6 (by omega),Kol.rep (Kol.nil g.next h6.next h6:Kol E 25 _ _ _ _ _) m6.fit (by simp) _ _ _ (Nat.le_refl _)⟩
 rw[if_pos hc] at eR
 have hlt:=(List.getElem?_eq_some_iff.1 hc).1
 repeat' (first|with_reducible apply Ws|(apply Wn n5;focus ((repeat ((with_reducible apply Rr rfl);focus ((try simp +decide only[Oy,n0,q0,c5]);with_reducible rfl)));with_reducible exact Rn))|(refine W2 (by simp +decide only[Cx,n0,q0];try with_reducible rfl) (fun hb=>?_) (fun hb=>?_)<;>try contradiction)|apply W3|apply W4|apply W5|apply W6)
 refine (kids50 (E:=E) (I:=I) hI50 (by omega) hl RI (a0:=.int .i64 (kn:Nat)) (a1:=.int .i64 (m:Nat)) (a2:=.string tx) rfl f kl (Nat.le_refl _) (bs.length+1) (p+1) it [] (.slice none 0 0) _ h5 (by omega) (by omega) hit (by simp) ?_ ?_ ?_ ?_ ?_ M5 b45 b5 (Kol.nil _ _ _)).mono ?_
 ·simp +decide only[Gs,n0]
 ·simp +decide only[Gs,d0]
 ·simp +decide only[Gs,n0,q0]
 ·simp +decide only[Gs,n0,q1]
 ·simp +decide only[Gs,n0,q4]
 rintro ex A1 h6 ⟨rfl,n1,d1,a4,M6,sl',ho,hb6,hq⟩
 have ho4:[.int .i64 (kn:Nat),.int .i64 (m:Nat),.string tx,sl'].all isOne=true:=by
  simp only[List.all_cons,List.all_nil,Bool.and_true,Bool.and_eq_true]
  exact⟨rfl,rfl,rfl,ho⟩
 cases hr:rdPK bs (rdPI bs fu) (bs.length+1) [] (p+1) it with
 | bad p' e=>
  rw[hr] at hq eR
  obtain⟨a5,it',bz⟩:=hq
  refine res rfl ho4 n1 d1 a4 a5 M6 hb6 ?_
  rw[eR]
  exact⟨rfl,it',bz⟩
 | ok ks p' it'=>
  rw[hr] at hq eR
  obtain⟨a5,bz,K,hlen⟩:=hq
  refine res rfl ho4 n1 d1 a4 a5 M6 hb6 ?_
  rw[eR]
  exact⟨rfl,bz,K.rep M6.fit (by omega) _ _ _ (Nat.le_refl _)⟩
theorem fn12:tab.fn.get 12=some Tryd.f12:=by kernel_rfl
theorem parse12 (hI:∀ f args h,(f=12∨f=49∨f=50∨f=85∨f=84∨f=83∨f=82∨f=81∨f=113∨f=114)→I f args h=none) (kp:Kq I) {g:H} {bs:List UInt8} (f:Fit g) (hl:bs.length≤1000000) :
  ∃ n x g',(ev tab E I n).call 12 [.string ⟨⟨bs⟩⟩] g=some (x,g')∧(Mod (fun _=>False) g g'∧DecQ E (prsR bs) x g'):=by
 apply Wk (hI _ _ _ (.inl rfl)) fn12 rfl
 intro A0 n0 d0 hA0
 change A0.n=20 at n0
 have q0:A0.get 0=.string ⟨⟨bs⟩⟩:=hA0 0 _ rfl
 clear hA0
 generalize hh1:g.new (.cells (Value.agg #[.int .i64 0,.int .i64 0,.string ⟨#[]⟩,.slice none 0 0]).cells.toList 25 none)=h1
 have t1:Ahd g h1:=by rw[← hh1];exact Ahd.new0 f rfl
 have b2:h1.blk g.next=some (.cells zeroL 25 none):=by rw[← hh1];exact new_blk_new rfl
 have ln:alen tab 9 (.string ⟨⟨bs⟩⟩) h1=some (.int .i64 (bs.length:Nat)):=qlen9 _
 have st:∀ {h:H} {l:List Value},l.length=4→l.all isOne=true→h.blk g.next=some (.cells zeroL 25 none)→astore tab 25 (own g.next) (.agg ⟨l⟩) h=some (h.setl g.next (.cells l 25 none)):=fun h4 ho hb=>astore_all qty25 hb (by rw[h4]) (by rw[h4];rfl) ho (by intro e;rw[e] at h4;simp at h4)
 have ld:∀ {h:H} {l:List Value},l.length=4→l.all isOne=true→(h.setl g.next (.cells l 25 none)).cells E (own g.next) 4=some l:=fun h4 ho=>blk_cells (setl_same rfl) h4 ho
 unfold prsR
 by_cases hlong:65536<bs.length
 ·have e1:decide ((bs.length:Int)>65536)=true:=by simp;omega
  have s1:=st (l:=zeroL) rfl rfl b2
  have m1:=(Mod.refl (M:=fun j=>j=g.next) t1.fit).setl (B:=.cells zeroL 25 none) rfl rfl (t1.fit.lt b2)
  repeat' (first|with_reducible apply Ws|(apply Wp;focus ((repeat ((with_reducible apply Rr rfl);focus ((try simp +decide only[Oz,n0,q0,qtz25,hh1,ln,e1,qbu25z,s1]);with_reducible rfl)));with_reducible exact Rn))|(refine W2 (by simp +decide only[Cz,n0,q0,qtz25,hh1,ln,e1,qbu25z,s1];try with_reducible rfl) (fun hb=>?_) (fun hb=>?_)<;>try contradiction)|apply W3|apply W4|apply W5|apply W6)
  rw[if_pos hlong]
  exact done_c3 (v:=.agg ⟨zeroL⟩) (x:=.int .i64 0) (y:=.int .i64 11) (.inr rfl) (by simp +decide only[Gz,d0]) rfl (show _=Value.pointer (some (own g.next)) by simp +decide only[Gz,n0]) (by rw[qld25,ld rfl rfl]) (by simp +decide only[Gz,n0]) (by simp +decide only[Gz,n0]) ⟨Mod.low f (t1.mod.trans m1) (fun j hj=>.inr (by omega)),rfl⟩
 have e1:decide ((bs.length:Int)>65536)=false:=by simp;omega
 rw[if_neg hlong]
 have bu:=qbu84 (.string ⟨⟨bs⟩⟩) rfl
 have bv:=qbu86 (.string ⟨⟨bs⟩⟩) (.int .i64 0) (.int .i64 0)
 generalize hh2:h1.new (.cells (Value.agg #[.string ⟨#[]⟩,.int .i64 0,.int .i64 0,.int .i64 0]).cells.toList 86 none)=h2
 have t2:Ahd h1 h2:=by rw[← hh2];exact Ahd.new0 t1.fit rfl
 have b5:h2.blk h1.next=some (.cells [.string ⟨#[]⟩,.int .i64 0,.int .i64 0,.int .i64 0] 86 none):=by rw[← hh2];exact new_blk_new rfl
 have s5:astore tab 86 (own h1.next) (.agg ⟨[.string ⟨⟨bs⟩⟩,.int .i64 0,.int .i64 0,.int .i64 0]⟩) h2=some (h2.setl h1.next (.cells [.string ⟨⟨bs⟩⟩,.int .i64 0,.int .i64 0,.int .i64 0] 86 none)):=astore_all qty86 b5 rfl rfl rfl (by simp)
 have t3:Ahd h1 (h2.setl h1.next (.cells [.string ⟨⟨bs⟩⟩,.int .i64 0,.int .i64 0,.int .i64 0] 86 none)):=t2.setl rfl (Nat.le_refl _) (t2.fit.lt b5) t1.fit
 have b5:Src h1.next bs 0 0 0 (h2.setl h1.next (.cells [.string ⟨⟨bs⟩⟩,.int .i64 0,.int .i64 0,.int .i64 0] 86 none)):=setl_same rfl
 generalize h2.setl h1.next (.cells [.string ⟨⟨bs⟩⟩,.int .i64 0,.int .i64 0,.int .i64 0] 86 none)=h3 at s5 t3 b5
 have b23:=t3.grows _ _ b2
 have lt1:=t1.fit.lt b2
 obtain⟨n1,v1,h4,c4,l,z,rfl,m4,⟨hl4,ho4⟩,hq⟩:=item50 (E:=E) (I:=I) (fun f args h hf=>hI f args h (by rcases hf with h|h|h|h|h|h|h|h<;>simp[h])) kp hl 250 (Nat.le_refl _) h3 0 0 t3.fit b5 (Nat.zero_le _) (by decide)
 have c4':(ev tab E I n1).call 50 [.pointer (some (own h1.next)),.int .i64 1] h3=some (.tuple #[.agg ⟨l⟩,z],h4):=c4
 have rok:=rdPI_good (bs:=bs) 250 0 0 (Nat.zero_le _) (by decide)
 have fin:∀ (is:Bool) (p:Nat) (e:Int) (it:Nat),z=.bool is→Src h1.next bs p e it h4→p≤bs.length→∀ (l5:List Value) (x y:Int),l5.length=4→l5.all isOne=true→(if is=true then (if p<bs.length then .tuple #[.agg ⟨zeroL⟩,.int .i64 (p:Nat),.int .i64 4] else .tuple #[.agg ⟨l⟩,.int .i64 0,.int .i64 0]) else .tuple #[.agg ⟨zeroL⟩,.int .i64 (p:Nat),.int .i64 e])=Value.tuple #[.agg ⟨l5⟩,.int .i64 x,.int .i64 y]→(∀ h,Grows (only (fun r=>Nat.ble h3.next r) h4) h→DecQ E (match rdPI bs 250 0 0 with|.bad p e=>.bad p e|.ok t p items=>if p<bs.length then .bad p 4 else .ok t p items) (.tuple #[.agg ⟨l5⟩,.int .i64 x,.int .i64 y]) h)→
   Wc tab E I ⟨12,none⟩ (match Tryd.f12.body with|some c=>c|none=>.skip) A0 g (fun ex A h=>(ex=.normal∨ex=.ret)∧∃ h2 v,takeAll A.defers h=some h2∧ares tab E Tryd.f12 A h2=some v∧(Mod (fun _=>False) g h2∧DecQ E (match rdPI bs 250 0 0 with|.bad p e=>.bad p e|.ok t p items=>if p<bs.length then .bad p 4 else .ok t p items) v h2)):=by
  intro is p e it hz bb hp l5 x y hl5 ho5 hv5 hQ
  subst hz
  obtain⟨n2,v2,h5,c5,m5,hv2⟩:=whole49 (E:=E) (I:=I) (fun f args h hf=>hI f args h (by rcases hf with h|h<;>simp[h])) m4.fit bb hp is l hl4 ho4
  rw[hv5] at hv2
  subst hv2
  have b25:=m5.blk _ _ (by omega) (m4.blk _ _ (by omega) b23)
  have s6:=st hl5 ho5 b25
  have m6:=(Mod.refl (M:=fun j=>j=g.next) m5.fit).setl (B:=.cells l5 25 none) rfl rfl (m5.fit.lt b25)
  have c4f:=(ev_mono (D:=tab) (E:=E) I (Nat.le_max_left n1 n2)).call c4'
  have c5f:=(ev_mono (D:=tab) (E:=E) I (Nat.le_max_right n1 n2)).call c5
  simp only[Tryd.f12]
  repeat' (first|with_reducible apply Ws|(apply Wp;focus ((repeat ((with_reducible apply Rr rfl);focus ((try simp +decide only[Oz,n0,q0,qtz25,hh1,ln,e1,bu,bv,qtz86,hh2,s5]);with_reducible rfl)));with_reducible exact Rn))|(refine W2 (by simp +decide only[Cz,n0,q0,qtz25,hh1,ln,e1,bu,bv,qtz86,hh2,s5];try with_reducible rfl) (fun hb=>?_) (fun hb=>?_)<;>try contradiction)|apply W3|apply W4|apply W5|apply W6)
  repeat' (first|with_reducible apply Ws|(apply Wn (max n1 n2);focus ((repeat ((with_reducible apply Rr rfl);focus ((try simp +decide only[Oz,n0,c4f,c5f,s6]);with_reducible rfl)));with_reducible exact Rn))|(refine W2 (by simp +decide only[Cz,n0,c4f,c5f,s6];try with_reducible rfl) (fun hb=>?_) (fun hb=>?_)<;>try contradiction)|apply W3|apply W4|apply W5|apply W6)
  refine done_c3 (v:=.agg ⟨l5⟩) (x:=.int .i64 x) (y:=.int .i64 y) (.inr rfl) (by simp +decide only[Gz,d0]) rfl (show _=Value.pointer (some (own g.next)) by simp +decide only[Gz,n0]) (by rw[qld25,ld hl5 ho5]) (by simp +decide only[Gz,n0]) (by simp +decide only[Gz,n0]) ⟨?_,?_⟩
  ·refine Mod.low f (((t1.mod.trans t3.mod).trans ((m4.trans m5).sub (N:=fun j=>g.next≤j) fun j hj=>by omega)).trans (m6.sub fun j hj=>by omega)) (fun j hj=>.inr hj)
  ·refine hQ _ (fun j B hj => ?_)
   obtain⟨e1,ys,ty,r,o,rfl,e2⟩:=(only_blk m4.fit).1 hj
   refine m6.blk _ _ (fun e => ?_) (m5.blk _ _ (fun e => ?_) e1)
   ·subst e
    have:=m4.blk _ _ (by omega) b23
    rw[this] at e1
    cases e1
   ·subst e
    rw[show h4.blk h1.next=_ from bb] at e1
    cases e1
 generalize hr:rdPI bs 250 0 0=r at hq fin rok
 cases r with
 | bad p e=>
  obtain⟨rfl,it,bb⟩:=hq
  exact fin false p e it rfl bb rok.1 zeroL p e rfl rfl (by simp) (fun h _=>rfl)
 | ok t p it=>
  obtain⟨rfl,bb,hrt⟩:=hq
  have hp:=rok.2.1
  by_cases hlt:p<bs.length
  ·refine fin true p 0 it rfl bb hp zeroL p 4 rfl rfl (by rw[if_pos rfl,if_pos hlt]) (fun h _ => ?_)
   simp only[if_pos hlt]
   rfl
  ·refine fin true p 0 it rfl bb hp l 0 0 hl4 ho4 (by rw[if_pos rfl,if_neg hlt]) (fun h hg => ?_)
   simp only[if_neg hlt]
   exact⟨l,rfl,rep_grow hg hrt⟩
theorem fn52:tab.fn.get 52=some Tryd.f52:=by kernel_rfl
def Ref (k:Nat) (v:Value) (pos items:Nat) (w e:Int) (g:H):Prop:=g.blk k=some (.cells [v,.int .i64 (pos:Nat),.int .i64 (items:Nat),.int .i64 w,.int .i64 e] 91 none)
theorem Ref.mod {k:Nat} {v:Value} {pos items:Nat} {w e:Int} {g g':H} {M:Nat→Prop} (b:Ref k v pos items w e g) (m:Mod M g g') (hk:¬ M k):Ref k v pos items w e g':=m.blk _ _ hk b
theorem Ref.at {k:Nat} {v:Value} {pos items:Nat} {w e:Int} {g:H} (b:Ref k v pos items w e g) (ho:isOne v=true):g.cell E (own k)=some v∧g.cell E (aadd (own k) 1)=some (.int .i64 (pos:Nat))∧g.cell E (aadd (own k) 2)=some (.int .i64 (items:Nat))∧g.cell E (aadd (own k) 3)=some (.int .i64 w)∧g.cell E (aadd (own k) 4)=some (.int .i64 e):=
 ⟨(cell_blk0 b).trans (one_of ho),cell_blk b 1,cell_blk b 2,cell_blk b 3,cell_blk b 4⟩
theorem Ref.set {k:Nat} {v:Value} {pos items:Nat} {w e:Int} {g:H} (f:Fit g) (b:Ref k v pos items w e g) {t:TypeId} {ti:TI} (ht:tab.ty.get t=some ti) (hs:ti.size=1) (o:Nat) (x:Int) {pos' items':Nat} {w' e':Int} (ho:o<5) (hy:([v,.int .i64 (pos:Nat),.int .i64 (items:Nat),.int .i64 w,.int .i64 e]:List Value).take o++[.int .i64 x]++([v,.int .i64 (pos:Nat),.int .i64 (items:Nat),.int .i64 w,.int .i64 e]:List Value).drop (o+1)=[v,.int .i64 (pos':Nat),.int .i64 (items':Nat),.int .i64 w',.int .i64 e']) :
  ∃ g',astore tab t (aadd (own k) o) (.int .i64 x) g=some g'∧Ref k v pos' items' w' e' g'∧Mod (fun j=>j=k) g g':=
 ⟨_,astore_one ht hs b rfl rfl ho hy,setl_same rfl,(Mod.refl f).setl rfl rfl (f.lt b)⟩
theorem rfail52 (hI:∀ args h,I 52 args h=none) {k:Nat} {v:Value} {pos items:Nat} {w e:Int} {g:H} (f:Fit g) (b:Ref k v pos items w e g) (e':Int) (p:Nat) :
  ∃ n g',(ev tab E I n).call 52 [.pointer (some (own k)),.int .i64 e',.int .i64 (p:Nat)] g=some (.tuple #[],g')∧Mod (fun j=>j=k) g g'∧Ref k v pos items p e' g':=by
 suffices hw:∃ n x g',(ev tab E I n).call 52 [.pointer (some (own k)),.int .i64 e',.int .i64 (p:Nat)] g=some (x,g')∧(x=.tuple #[]∧Mod (fun j=>j=k) g g'∧Ref k v pos items p e' g') by
  obtain⟨n,x,g',h1,rfl,h2,h3⟩:=hw
  exact⟨n,g',h1,h2,h3⟩
 apply Wk (hI _ _) fn52 rfl
 intro A0 n0 d0 hA0
 change A0.n=14 at n0
 have q0:A0.get 0=.pointer (some (own k)):=hA0 0 _ rfl
 have q1:A0.get 1=.int .i64 e':=hA0 1 _ rfl
 have q2:A0.get 2=.int .i64 (p:Nat):=hA0 2 _ rfl
 clear hA0
 obtain⟨g1,s1,b1,m1⟩:=b.set f qty26 rfl 4 e' (by decide) rfl (pos':=pos) (items':=items) (w':=w) (e':=e')
 obtain⟨g2,s2,b2,m2⟩:=b1.set m1.fit qty3 rfl 3 (p:Nat) (by decide) rfl (pos':=pos) (items':=items) (w':=(p:Nat)) (e':=e')
 repeat' (first|with_reducible apply Ws|(apply Wp;focus ((repeat ((with_reducible apply Rr rfl);focus ((try simp +decide only[Oy,n0,q0,q1,q2,Qx,Hx,s1,s2]);with_reducible rfl)));with_reducible exact Rn))|(refine W2 (by simp +decide only[Cx,n0,q0,q1,q2];try with_reducible rfl) (fun hb=>?_) (fun hb=>?_)<;>try contradiction)|apply W3|apply W4|apply W5|apply W6)
 exact⟨.inl rfl,g2,.tuple #[],by simp +decide only[Gs,d0];rfl,rfl,rfl,m1.trans m2,b2⟩
def RItemQ (E:Env) (k:Nat) (v:Value) (r:Rd Hs.Item) (lo:Nat) (l:List Value) (w:Int) (g:H):Prop:=match r with
 | .ok t p it=>Ref k v p it w 0 g∧rep E (only (fun r=>Nat.ble lo r) g) t (.agg ⟨l⟩)
 | .bad p e=>∃ pos it,Ref k v pos it p e g
end Go.Proofs.YtofijpbmbmbnhaaDoor
