/- Bytes put behind one another. -/
import Derived.Test.YtofijpbmbmbnhaaDoorHsal
set_option linter.unusedSimpArgs false
set_option linter.unusedVariables false
set_option maxRecDepth 100000
set_option maxHeartbeats 16000000
namespace Go.Proofs.YtofijpbmbmbnhaaDoor
open Go Go.Hs Go.Proofs
variable {E:Env} {I:Known}
theorem fn96:tab.fn.get 96=some Tryd.f96:=by kernel_rfl
theorem fn122:tab.fn.get 122=some Tryd.f122:=by kernel_rfl
theorem fn127:tab.fn.get 127=some Tryd.f127:=by kernel_rfl
theorem ty176:tab.ty.get 176=some ⟨.slice 31 1 24,1,24,some (.slice none 0 0),true⟩:=by kernel_rfl
theorem qlen176 {h:H} (b:Option Addr) (n c:Nat):alen tab 176 (.slice b n c) h=some (.int .i64 n):=by unfold alen;rw[ty176]
theorem qia176 (a:Addr) (n c:Nat) (i:Int) (hi:inRange i n=true):aindexAddr tab 176 (.slice (some a) n c) (.int .i64 i)=some (.pointer (some (aadd a (i.toNat*1)))):=by unfold aindexAddr;simp only[ty176,hi]
theorem qcap31 {h:H} (n c:Nat):acap tab 31 (.slice none n c) h=some (.int .i64 c):=by unfold acap;rw[qty31]
theorem qza3 (n:Nat) (hn:n≤70368744177664):zeroArg tab 3 (.int .i64 (n:Nat))=some true:=by
 unfold zeroArg
 rw[qty3]
 have:Nat.ble n 70368744177664=true:=by rw[Nat.ble_eq];exact hn
 show (match Nat.ble n 70368744177664 with|true=>some true|false=>none)=some true
 rw[this]
theorem qslN {h:H}:aslice tab 31 (.slice none 0 0) none (some (.int .i64 0)) none h=some (.slice none 0 0,h):=by
 unfold aslice
 rw[qty31]
 rfl
noncomputable def loop122a:Code:=loopAt Tryd.f122 0
noncomputable def loop122b:Code:=loopAt Tryd.f122 1
theorem _root_.Go.Hs.Mod.gof2 {g h:H} (m:Mod (fun _=>False) g h):Grows g h:=fun j B hj=>m.blk j B (fun h=>h) hj
theorem grow127 (hI:∀ args h,I 127 args h=none) {g:H} (f:Fit g) (n:Nat) (h0:0<n) (hn:n≤1000000000) :
  ∃ k v g',(ev tab E I k).call 127 [.slice none 0 0,.int .i64 (n:Nat)] g=some (v,g')∧(Ahd g g'∧Con 5 g.next n g' v []):=by
 obtain⟨sl',q,happ,hsl,K,t⟩:=con_start (D:=tab) (E:=E) (t:=31) (t2:=3) (by_:=1) f h0 qty31 qtz5 rfl (qza3 n (by omega)) (by
  unfold roomy
  simp only[Bool.and_eq_true,Nat.ble_eq];omega)
 have hsl:=hsl q
 have w0:IntKind.i64.wrap (0-0)=0:=by rw[wrap64 (by omega) (by omega)];rfl
 have w1:IntKind.i64.wrap ((n:Int)-0)=(n:Int):=by rw[wrap64 (by omega) (by omega)];omega
 have e1:decide ((n:Int)<0)=false:=decide_eq_false (by omega)
 have e2:decide ((n:Int)>0)=true:=by simp;omega
 apply Wk (hI _ _) fn127 rfl
 intro A0 n0 d0 hA0
 change A0.n=27 at n0
 have q0:A0.get 0=.slice none 0 0:=hA0 0 _ rfl
 have q1:A0.get 1=.int .i64 (n:Nat):=hA0 1 _ rfl
 clear hA0
 have qc0:∀ h,acap tab 31 (.slice none 0 0) h=some (.int .i64 0):=fun h=>qcap31 0 0
 have ql0:∀ h,alen tab 31 (.slice none 0 0) h=some (.int .i64 0):=fun h=>qlen31 none 0 0
 repeat' (first|with_reducible apply Ws|(apply Wp;focus ((repeat ((with_reducible apply Rr rfl);focus ((try simp +decide only[Oz,n0,q0,q1,e1,qc0,ql0,w0,w1,e2,qslN,happ,hsl]);with_reducible rfl)));with_reducible exact Rn))|(refine W2 (by simp +decide only[Cz,n0,q0,q1,e1,qc0,ql0,w0,w1,e2,qslN,happ,hsl];try with_reducible rfl) (fun hb=>?_) (fun hb=>?_)<;>try contradiction)|apply W3|apply W4|apply W5|apply W6)
 exact done_q (v:=sl') (.inr rfl) (by simp +decide only[Gz,d0]) rfl (by simp +decide only[Gz,n0]) ⟨t,K⟩
def Pcs (E:Env) (g:H) (L:List (Value×List UInt8)):Prop:=∀ x∈L,Byt E g x.1 x.2
def allB (L:List (Value×List UInt8)):List UInt8:=L.flatMap (·.2)
theorem allB_take {L:List (Value×List UInt8)} {i:Nat} (hi:i<L.length):allB (L.take (i+1))=allB (L.take i)++(L[i]).2:=by
 unfold allB
 rw[List.take_succ_eq_append_getElem hi,List.flatMap_append]
 simp
theorem allB_le {L:List (Value×List UInt8)} (i:Nat):(allB (L.take i)).length≤(allB L).length:=by
 have:allB L=allB (L.take i)++allB (L.drop i):=by
  unfold allB
  rw[← List.flatMap_append,List.take_append_drop]
 rw[this,List.length_append];omega
theorem concat122 (hI:∀ f args h,(f=122∨f=127)→I f args h=none) {g:H} {L:List (Value×List UInt8)} {kp c:Nat} (f:Fit g) (hb:g.blk kp=some (.cells (L.map (·.1)) 31 none)) (P:Pcs E g L) (h0:0<(allB L).length) (hn:(allB L).length≤1000000) (hl:L.length≤1000) :
  ∃ k v g',(ev tab E I k).call 122 [.slice (some (own kp)) L.length c] g=some (v,g')∧(Mod (fun _=>False) g g'∧∃ n,Con 5 g.next n g' v (allB L)):=by
 have one:∀ i (hi:i<L.length),isOne (L[i]).1=true∧∃ b c,(L[i]).1=.slice b (L[i]).2.length c:=fun i hi=>by
  obtain⟨b,c,h1⟩:=(P _ (List.getElem_mem hi)).slice
  exact⟨by rw[h1];rfl,b,c,h1⟩
 have ld:∀ (h:H) i (hi:i<L.length),h.blk kp=some (.cells (L.map (·.1)) 31 none)→h.cell E (aadd (own kp) (i*1))=some (L[i]).1:=fun h i hi hb=>by
  rw[cell_blk hb,Nat.mul_one,List.getElem?_map,List.getElem?_eq_getElem hi]
  exact one_of (one i hi).1
 have ln:∀ (h:H) i (hi:i<L.length),alen tab 31 (L[i]).1 h=some (.int .i64 ((L[i]).2.length:Nat)):=fun h i hi=>by
  obtain⟨b,c,h1⟩:=(one i hi).2
  rw[h1];exact qlen31 _ _ _
 have ir:∀ i,i<L.length→inRange (i:Int) L.length=true:=fun i hi=>by
  show Nat.blt i L.length=true
  rw[Nat.blt_eq];exact hi
 have key1:∀ (r i:Nat) (A0:Ac),r=L.length-i→i≤L.length→A0.n=36→A0.defers=[]→A0.get 0=.slice (some (own kp)) L.length c→A0.get 3=.int .i64 ((allB (L.take i)).length:Nat)→A0.get 9=.slice (some (own kp)) L.length c→A0.get 10=.int .i64 (L.length:Nat)→A0.get 11=.int .i64 (i:Nat)→
   Wc tab E I ⟨122,none⟩ (.loop loop122a) A0 g (fun ex A' h'=>ex=.exit 0∧A'.n=36∧A'.defers=[]∧A'.get 0=.slice (some (own kp)) L.length c∧A'.get 3=.int .i64 ((allB L).length:Nat)∧h'=g):=by
  intro r
  induction r with
  | zero=>
   intro i A0 hr hi n0 d0 q0 q3 q9 q10 q11
   obtain rfl:i=L.length:=by omega
   have e1:decide ((L.length:Int)<(L.length:Int))=false:=by simp
   rw[List.take_length] at q3
   apply Wc.loop
   simp only[loop122a,loopAt,loops,List.getD,Option.getD,Tryd.f122,List.append_assoc,List.cons_append,List.nil_append,List.append_nil,List.getElem?_cons_zero,List.getElem?_cons_succ]
   repeat' (first|with_reducible apply Ws|(apply Wp;focus ((repeat ((with_reducible apply Rr rfl);focus ((try simp +decide only[Oz,n0,q10,q11,e1]);with_reducible rfl)));with_reducible exact Rn))|(refine W2 (by simp +decide only[Cz,n0,q10,q11,e1];try with_reducible rfl) (fun hb=>?_) (fun hb=>?_)<;>try contradiction)|apply W3|apply W4|apply W5|apply W6)
   exact⟨rfl,by simp +decide only[Gz,n0],by simp +decide only[Gz,d0],by simp +decide only[Gz,n0,q0],by simp +decide only[Gz,n0,q3],rfl⟩
  | succ r ih=>
   intro i A0 hr hi n0 d0 q0 q3 q9 q10 q11
   have hil:i<L.length:=by omega
   have e1:decide ((i:Int)<(L.length:Int))=true:=by simp;omega
   have hle:=allB_le (L:=L) (i+1)
   have hs:(allB (L.take (i+1))).length=(allB (L.take i)).length+(L[i]).2.length:=by rw[allB_take hil,List.length_append]
   have w1:IntKind.i64.wrap (((allB (L.take i)).length:Int)+((L[i]).2.length:Int))=((allB (L.take (i+1))).length:Int):=by rw[wrap64 (by omega) (by omega)];omega
   have e2:decide (((allB (L.take (i+1))).length:Int)<0)=false:=decide_eq_false (by omega)
   have w3:IntKind.i64.wrap ((i:Int)+1)=((i+1:Nat):Int):=wrap64 (by omega) (by omega)
   have l1:=ld g i hil hb
   have l2:=ln g i hil
   apply Wc.loop
   simp only[loop122a,loopAt,loops,List.getD,Option.getD,Tryd.f122,List.append_assoc,List.cons_append,List.nil_append,List.append_nil,List.getElem?_cons_zero,List.getElem?_cons_succ]
   repeat' (first|with_reducible apply Ws|(apply Wp;focus ((repeat ((with_reducible apply Rr rfl);focus ((try simp +decide only[Oz,n0,q0,q3,q9,q10,q11,e1,qia176 _ _ _ _ (ir i hil),Int.toNat_natCast,Qx,l1,l2,w1,e2,w3]);with_reducible rfl)));with_reducible exact Rn))|(refine W2 (by simp +decide only[Cz,n0,q0,q3,q9,q10,q11,e1,qia176 _ _ _ _ (ir i hil),Int.toNat_natCast,Qx,l1,l2,w1,e2,w3];try with_reducible rfl) (fun hb=>?_) (fun hb=>?_)<;>try contradiction)|apply W3|apply W4|apply W5|apply W6)
   refine ih (i+1) _ (by omega) (by omega) ?_ ?_ ?_ ?_ ?_ ?_ ?_
   ·simp +decide only[Gz,n0]
   ·simp +decide only[Gz,d0]
   ·simp +decide only[Gz,n0,q0]
   ·simp +decide only[Gz,n0]
   ·simp +decide only[Gz,n0,q9]
   ·simp +decide only[Gz,n0,q10]
   ·simp +decide only[Gz,n0]
 have key2:∀ (r i n base:Nat) (sl:Value) (A0:Ac) (h:H),r=L.length-i→i≤L.length→n=(allB L).length→g.next≤base→h.mark≤base→A0.n=36→A0.defers=[]→A0.get 6=sl→A0.get 25=.slice (some (own kp)) L.length c→A0.get 26=.int .i64 (L.length:Nat)→A0.get 27=.int .i64 (i:Nat)→Mod (fun _=>False) g h→Con 5 base n h sl (allB (L.take i))→
   Wc tab E I ⟨122,none⟩ (.loop loop122b) A0 h (fun ex A' h'=>ex=.exit 2∧A'.n=36∧A'.defers=[]∧∃ sl,A'.get 6=sl∧Mod (fun _=>False) g h'∧Con 5 base n h' sl (allB L)):=by
  intro r
  induction r with
  | zero=>
   intro i n base sl A0 h hr hi hnn hbs hm n0 d0 q6 q25 q26 q27 M K
   obtain rfl:i=L.length:=by omega
   have e1:decide ((L.length:Int)<(L.length:Int))=false:=by simp
   rw[List.take_length] at K
   apply Wc.loop
   simp only[loop122b,loopAt,loops,List.getD,Option.getD,Tryd.f122,List.append_assoc,List.cons_append,List.nil_append,List.append_nil,List.getElem?_cons_zero,List.getElem?_cons_succ]
   repeat' (first|with_reducible apply Ws|(apply Wp;focus ((repeat ((with_reducible apply Rr rfl);focus ((try simp +decide only[Oz,n0,q26,q27,e1]);with_reducible rfl)));with_reducible exact Rn))|(refine W2 (by simp +decide only[Cz,n0,q26,q27,e1];try with_reducible rfl) (fun hb=>?_) (fun hb=>?_)<;>try contradiction)|apply W3|apply W4|apply W5|apply W6)
   exact⟨rfl,by simp +decide only[Gz,n0],by simp +decide only[Gz,d0],sl,by simp +decide only[Gz,n0,q6],M,K⟩
  | succ r ih=>
   intro i n base sl A0 h hr hi hnn hbs hm n0 d0 q6 q25 q26 q27 M K
   have hil:i<L.length:=by omega
   have e1:decide ((i:Int)<(L.length:Int))=true:=by simp;omega
   have hle:=allB_le (L:=L) (i+1)
   have hs:(allB (L.take (i+1))).length=(allB (L.take i)).length+(L[i]).2.length:=by rw[allB_take hil,List.length_append]
   have w3:IntKind.i64.wrap ((i:Int)+1)=((i+1:Nat):Int):=wrap64 (by omega) (by omega)
   have l1:=ld h i hil (M.gof2 _ _ hb)
   obtain⟨b,c',hsl⟩:=(one i hil).2
   obtain⟨sl',q,happ,K2,hM⟩:=con_step (D:=tab) (E:=E) (t:=31) (t2:=31) (by_:=1) (x:=(L[i]).1) M.fit hm K qty31 qtz5 rfl (by rw[hsl];exact qza31 _ _ _) ((P _ (List.getElem_mem hil)).grow M.gof2) (by omega) (by
    unfold roomy
    simp only[Bool.and_eq_true,Nat.ble_eq];omega)
   have M2:=hM _ _ f hbs M
   rw[← allB_take hil] at K2
   apply Wc.loop
   simp only[loop122b,loopAt,loops,List.getD,Option.getD,Tryd.f122,List.append_assoc,List.cons_append,List.nil_append,List.append_nil,List.getElem?_cons_zero,List.getElem?_cons_succ]
   repeat' (first|with_reducible apply Ws|(apply Wp;focus ((repeat ((with_reducible apply Rr rfl);focus ((try simp +decide only[Oz,n0,q6,q25,q26,q27,e1,qia176 _ _ _ _ (ir i hil),Int.toNat_natCast,Qx,l1,happ,w3]);with_reducible rfl)));with_reducible exact Rn))|(refine W2 (by simp +decide only[Cz,n0,q6,q25,q26,q27,e1,qia176 _ _ _ _ (ir i hil),Int.toNat_natCast,Qx,l1,happ,w3];try with_reducible rfl) (fun hb=>?_) (fun hb=>?_)<;>try contradiction)|apply W3|apply W4|apply W5|apply W6)
   refine ih (i+1) n base sl' _ q (by omega) (by omega) hnn hbs (by rw[M2.mark,← M.mark];exact hm) ?_ ?_ ?_ ?_ ?_ ?_ M2 K2
   ·simp +decide only[Gz,n0]
   ·simp +decide only[Gz,d0]
   ·simp +decide only[Gz,n0]
   ·simp +decide only[Gz,n0,q25]
   ·simp +decide only[Gz,n0,q26]
   ·simp +decide only[Gz,n0]
 obtain⟨nf,v,g1,cg,t1,K1⟩:=grow127 (E:=E) (I:=I) (fun args h=>hI _ args h (.inr rfl)) f (allB L).length h0 (by omega)
 apply Wk (hI _ _ _ (.inl rfl)) fn122 rfl
 intro A0 n0 d0 hA0
 change A0.n=36 at n0
 have q0:A0.get 0=.slice (some (own kp)) L.length c:=hA0 0 _ rfl
 clear hA0
 repeat' (first|with_reducible apply Ws|(apply Wp;focus ((repeat ((with_reducible apply Rr rfl);focus ((try simp +decide only[Oz,n0,q0,qlen176]);with_reducible rfl)));with_reducible exact Rn))|(refine W2 (by simp +decide only[Cz,n0,q0,qlen176];try with_reducible rfl) (fun hb=>?_) (fun hb=>?_)<;>try contradiction)|apply W3|apply W4|apply W5|apply W6)
 refine (key1 L.length 0 _ rfl (Nat.zero_le _) ?_ ?_ ?_ ?_ ?_ ?_ ?_).mono ?_
 ·simp +decide only[Gz,n0]
 ·simp +decide only[Gz,d0]
 ·simp +decide only[Gz,n0,q0]
 ·simp +decide only[Gz,n0]
  rfl
 ·simp +decide only[Gz,n0]
 ·simp +decide only[Gz,n0]
 ·simp +decide only[Gz,n0]
  rfl
 ·rintro ex A0 h ⟨rfl,n0,d0,q0,q3,rfl⟩
  simp only[if_true]
  repeat' (first|with_reducible apply Ws|(apply Wn nf;focus ((repeat ((with_reducible apply Rr rfl);focus ((try simp +decide only[Oz,n0,q0,q3,cg,qlen176]);with_reducible rfl)));with_reducible exact Rn))|(refine W2 (by simp +decide only[Cz,n0,q0,q3,cg,qlen176];try with_reducible rfl) (fun hb=>?_) (fun hb=>?_)<;>try contradiction)|apply W3|apply W4|apply W5|apply W6)
  refine (key2 L.length 0 _ h.next v _ g1 rfl (Nat.zero_le _) rfl (Nat.le_refl _) (by rw[t1.mark];exact f.ok.2) ?_ ?_ ?_ ?_ ?_ ?_ t1.mod K1).mono ?_
  ·simp +decide only[Gz,n0]
  ·simp +decide only[Gz,d0]
  ·simp +decide only[Gz,n0]
  ·simp +decide only[Gz,n0]
  ·simp +decide only[Gz,n0]
  ·simp +decide only[Gz,n0]
   rfl
  ·rintro ex A0 h2 ⟨rfl,n0,d0,sl,q6,M,K⟩
   simp only[if_true]
   repeat' (first|with_reducible apply Ws|(apply Wp;focus ((repeat ((with_reducible apply Rr rfl);focus ((try simp +decide only[Oz,n0,q6]);with_reducible rfl)));with_reducible exact Rn))|(refine W2 (by simp +decide only[Cz,n0,q6];try with_reducible rfl) (fun hb=>?_) (fun hb=>?_)<;>try contradiction)|apply W3|apply W4|apply W5|apply W6)
   exact done_q (v:=sl) (.inr rfl) (by simp +decide only[Gz,d0]) rfl (by simp +decide only[Gz,n0]) ⟨M,_,K⟩
theorem join96 (hI:∀ f args h,(f=96∨f=122∨f=127)→I f args h=none) {g:H} {L:List (Value×List UInt8)} {kp c:Nat} (f:Fit g) (hb:g.blk kp=some (.cells (L.map (·.1)) 31 none)) (P:Pcs E g L) (h0:0<(allB L).length) (hn:(allB L).length≤1000000) (hl:L.length≤1000) :
  ∃ k v g',(ev tab E I k).call 96 [.slice (some (own kp)) L.length c] g=some (v,g')∧(Mod (fun _=>False) g g'∧∃ n,Con 5 g.next n g' v (allB L)):=by
 obtain⟨nf,v,g1,cg,M,K⟩:=concat122 (E:=E) (I:=I) (fun f args h hf=>hI f args h (.inr hf)) (c:=c) f hb P h0 hn hl
 apply Wk (hI _ _ _ (.inl rfl)) fn96 rfl
 intro A0 n0 d0 hA0
 change A0.n=5 at n0
 have q0:A0.get 0=.slice (some (own kp)) L.length c:=hA0 0 _ rfl
 clear hA0
 repeat' (first|with_reducible apply Ws|(apply Wn nf;focus ((repeat ((with_reducible apply Rr rfl);focus ((try simp +decide only[Oz,n0,q0,cg]);with_reducible rfl)));with_reducible exact Rn))|(refine W2 (by simp +decide only[Cz,n0,q0,cg];try with_reducible rfl) (fun hb=>?_) (fun hb=>?_)<;>try contradiction)|apply W3|apply W4|apply W5|apply W6)
 exact done_q (v:=v) (.inr rfl) (by simp +decide only[Gz,d0]) rfl (by simp +decide only[Gz,n0]) ⟨M,K⟩
theorem fn133:tab.fn.get 133=some Tryd.f133:=by kernel_rfl
noncomputable def loop133:Code:=loopOf Tryd.f133
theorem icv99_164 (n:Int) {h:H}:aconvert tab E 99 164 (.int .u64 n) h=some (.int .u32 (IntKind.u32.wrap n),h):=by unfold aconvert;simp only[qty99,qty164]
theorem icv164_5 (n:Int) {h:H}:aconvert tab E 164 5 (.int .u32 n) h=some (.int .u8 (IntKind.u8.wrap n),h):=by unfold aconvert;simp only[qty5,qty164]
theorem smalls_lit:Lib.smalls=⟨(([48,48,48,49,48,50,48,51,48,52,48,53,48,54,48,55,48,56,48,57,49,48,49,49,49,50,49,51,49,52,49,53,49,54,49,55,49,56,49,57,50,48,50,49,50,50,50,51,50,52].append [50,53,50,54,50,55,50,56,50,57,51,48,51,49,51,50,51,51,51,52,51,53,51,54,51,55,51,56,51,57,52,48,52,49,52,50,52,51,52,52,52,53,52,54,52,55,52,56,52,57]).append ([53,48,53,49,53,50,53,51,53,52,53,53,53,54,53,55,53,56,53,57,54,48,54,49,54,50,54,51,54,52,54,53,54,54,54,55,54,56,54,57,55,48,55,49,55,50,55,51,55,52].append [55,53,55,54,55,55,55,56,55,57,56,48,56,49,56,50,56,51,56,52,56,53,56,54,56,55,56,56,56,57,57,48,57,49,57,50,57,51,57,52,57,53,57,54,57,55,57,56,57,57])).toArray⟩:=by kernel_rfl
theorem ixS (k:IntKind) (i:Nat) (hi:i<200):aindex tab 9 (.string ⟨(([48,48,48,49,48,50,48,51,48,52,48,53,48,54,48,55,48,56,48,57,49,48,49,49,49,50,49,51,49,52,49,53,49,54,49,55,49,56,49,57,50,48,50,49,50,50,50,51,50,52].append [50,53,50,54,50,55,50,56,50,57,51,48,51,49,51,50,51,51,51,52,51,53,51,54,51,55,51,56,51,57,52,48,52,49,52,50,52,51,52,52,52,53,52,54,52,55,52,56,52,57]).append ([53,48,53,49,53,50,53,51,53,52,53,53,53,54,53,55,53,56,53,57,54,48,54,49,54,50,54,51,54,52,54,53,54,54,54,55,54,56,54,57,55,48,55,49,55,50,55,51,55,52].append [55,53,55,54,55,55,55,56,55,57,56,48,56,49,56,50,56,51,56,52,56,53,56,54,56,55,56,56,56,57,57,48,57,49,57,50,57,51,57,52,57,53,57,54,57,55,57,56,57,57])).toArray⟩) (.int k (i:Nat))=some (.int .u8 ((Lib.sm i).toNat:Nat)):=by
 rw[← smalls_lit]
 unfold aindex
 have hl:Lib.smalls.data.toList.length=200:=Lib.smalls_size
 have h1:inRange (i:Nat) Lib.smalls.data.toList.length=true:=by
  show Nat.blt i _=true
  rw[Nat.blt_eq,hl];exact hi
 have h2:Lib.smalls.data.toList[i]? = some (Lib.sm i):=by
  unfold Lib.sm
  rw[List.getD_eq_getElem?_getD,List.getElem?_eq_getElem (by rw[hl];exact hi)]
  rfl
 simp only[qty9,h1,Int.toNat_natCast,h2]
def Row (kb:Nat) (pre post:List Value) (d:Array UInt8) (g:H):Prop:=g.blk kb=some (.cells (pre++bytesV d.toList++post) 180 none)
theorem st_row {kb:Nat} {pre post:List Value} {d:Array UInt8} {g:H} (hp:pre.length=1) (R:Row kb pre post d g) (i:Nat) (hi:i<d.size) (x:UInt8):astore tab 5 (aadd (own kb) (1+i*1)) (.int .u8 (x.toNat:Nat)) (fresh g)=some ((fresh g).setl kb (.cells (pre++bytesV (d.setIfInBounds i x).toList++post) 180 none)):=
 astore_one (g:=fresh g) qty5 rfl R rfl rfl (by rw[row_length];omega) (row_set hi (by omega))
theorem st_row0 {kb:Nat} {pre post:List Value} {d:Array UInt8} {g:H} (hp:pre.length=1) (R:Row kb pre post d g) (i:Nat) (hi:i<d.size) (x:UInt8):astore tab 5 (aadd (own kb) (1+i*1)) (.int .u8 (x.toNat:Nat)) g=some (g.setl kb (.cells (pre++bytesV (d.setIfInBounds i x).toList++post) 180 none)):=
 astore_one (g:=g) qty5 rfl R rfl rfl (by rw[row_length];omega) (row_set hi (by omega))
theorem Row.next {kb:Nat} {pre post:List Value} {d':Array UInt8} {g:H}:Row kb pre post d' (g.setl kb (.cells (pre++bytesV d'.toList++post) 180 none)):=setl_same rfl
theorem mulTwo (x:Nat) (hx:x<100):aint .mul .u32 ((x:Nat):Int) 2=some (.int .u32 ((x*2:Nat):Int)):=by
 show some (Value.int .u32 (IntKind.u32.wrap ((x:Int)*2)))=_
 rw[show ((x:Int)*2)=((x*2:Nat):Int) by omega,wrapU32 (by omega)]
theorem loop133_ok {kb nd c u:Nat} {pre post:List Value} {g:H} (hp:pre.length=1) (hnd:nd≤15) :
  ∀ (i v:Nat) (dA:Array UInt8) (A0:Ac) (hA:H),A0.n=167→A0.defers=[]→A0.get 0=.slice (some (aadd (own kb) 1)) nd c→A0.get 1=.int .u64 (v:Nat)→A0.get 4=.int .i64 (i:Nat)→Lib.FmtInv nd u i v dA→Row kb pre post dA hA→Mod (fun k=>k=kb) g hA→v<18446744073709551616→
   Wc tab E I ⟨133,none⟩ (.loop loop133) A0 hA (fun ex A h'=>ex=.exit 0∧A.n=167∧A.defers=[]∧A.get 0=.slice (some (aadd (own kb) 1)) nd c∧∃ i v d,A.get 1=.int .u64 (v:Nat)∧A.get 4=.int .i64 (i:Nat)∧i<8∧Lib.FmtInv nd u i v d∧Row kb pre post d h'∧Mod (fun k=>k=kb) g h'):=by
 have base:∀ (i v:Nat) (dA:Array UInt8) (A0:Ac) (hA:H),i<8→A0.n=167→A0.defers=[]→A0.get 0=.slice (some (aadd (own kb) 1)) nd c→A0.get 1=.int .u64 (v:Nat)→A0.get 4=.int .i64 (i:Nat)→Lib.FmtInv nd u i v dA→Row kb pre post dA hA→Mod (fun k=>k=kb) g hA→
   Wc tab E I ⟨133,none⟩ (.loop loop133) A0 hA (fun ex A h'=>ex=.exit 0∧A.n=167∧A.defers=[]∧A.get 0=.slice (some (aadd (own kb) 1)) nd c∧∃ i v d,A.get 1=.int .u64 (v:Nat)∧A.get 4=.int .i64 (i:Nat)∧i<8∧Lib.FmtInv nd u i v d∧Row kb pre post d h'∧Mod (fun k=>k=kb) g h'):=by
  intro i v dA A0 hA hi n0 d0 q0 q1 q4 F R M
  have e1:decide ((i:Int)≥8)=false:=decide_eq_false (by omega)
  apply Wc.loop
  simp only[loop133,loopOf,firstLoop,Option.getD,Tryd.f133]
  repeat' (first|with_reducible apply Ws|(apply Wp;focus ((repeat ((with_reducible apply Rr rfl);focus ((try simp +decide only[Oy,n0,q4,e1]);with_reducible rfl)));with_reducible exact Rn))|(refine W2 (by simp +decide only[Cx,n0,q4,e1];try with_reducible rfl) (fun hb=>?_) (fun hb=>?_)<;>try contradiction)|apply W3|apply W4|apply W5|apply W6)
  exact⟨rfl,by simp +decide only[Gs,n0],by simp +decide only[Gs,d0],by simp +decide only[Gs,n0,q0],i,v,dA,by simp +decide only[Gs,n0,q1],by simp +decide only[Gs,n0,q4],hi,F,R,M⟩
 intro i v dA A0 hA n0 d0 q0 q1 q4 FA RA MA hv
 by_cases h8:i<8
 ·exact base i v dA A0 hA h8 n0 d0 q0 q1 q4 FA RA MA
 obtain⟨j,rfl⟩:∃ j,i=j+8:=⟨i-8,by omega⟩
 have hle:=FA.le
 have e1:decide (((j+8:Nat):Int)≥8)=true:=decide_eq_true (by omega)
 have hlo:v % 100000000<100000000:=Nat.mod_lt _ (by decide)
 have r1:aint .rem .u64 (v:Nat) 100000000=some (.int .u64 ((v % 100000000:Nat):Int)):=remU .u64 v 100000000 (by decide)
 have r2:aint .quo .u64 (v:Nat) 100000000=some (.int .u64 ((v / 100000000:Nat):Int)):=quoU .u64 v 100000000 (by decide) (wrapU64 (by omega))
 have w0:=wrapU32 (x:=v % 100000000) (by omega)
 have r3:aint .quo .u32 ((v % 100000000:Nat):Int) 10000=some (.int .u32 ((v / 100 / 100 % 10000:Nat):Int)):=by
  rw[show v / 100 / 100 % 10000=v % 100000000 / 10000 by omega]
  exact quoU .u32 _ 10000 (by decide) (wrapU32 (by omega))
 have r4:aint .rem .u32 ((v % 100000000:Nat):Int) 10000=some (.int .u32 ((v % 10000:Nat):Int)):=by
  rw[show v % 10000=v % 100000000 % 10000 by omega]
  exact remU .u32 _ 10000 (by decide)
 have r5:aint .quo .u32 ((v % 10000:Nat):Int) 100=some (.int .u32 ((v / 100 % 100:Nat):Int)):=by
  rw[show v / 100 % 100=v % 10000 / 100 by omega]
  exact quoU .u32 _ 100 (by decide) (wrapU32 (by omega))
 have r6:aint .rem .u32 ((v % 10000:Nat):Int) 100=some (.int .u32 ((v % 100:Nat):Int)):=by
  rw[show v % 100=v % 10000 % 100 by omega]
  exact remU .u32 _ 100 (by decide)
 have r7:aint .quo .u32 ((v / 100 / 100 % 10000:Nat):Int) 100=some (.int .u32 ((v / 100 / 100 / 100 % 100:Nat):Int)):=by
  rw[show v / 100 / 100 / 100 % 100=v / 100 / 100 % 10000 / 100 by omega]
  exact quoU .u32 _ 100 (by decide) (wrapU32 (by omega))
 have r8:aint .rem .u32 ((v / 100 / 100 % 10000:Nat):Int) 100=some (.int .u32 ((v / 100 / 100 % 100:Nat):Int)):=by
  rw[show v / 100 / 100 % 100=v / 100 / 100 % 10000 % 100 by omega]
  exact remU .u32 _ 100 (by decide)
 have m2:∀ x:Nat,x<100→aint .mul .u32 ((x:Nat):Int) 2=some (.int .u32 ((x*2:Nat):Int)):=fun x hx=>by
  show some (Value.int .u32 (IntKind.u32.wrap ((x:Int)*2)))=_
  rw[show ((x:Int)*2)=((x*2:Nat):Int) by omega,wrapU32 (by omega)]
 have m5:=m2 (v / 100 % 100) (by omega)
 have m6:=m2 (v % 100) (by omega)
 have m7:=m2 (v / 100 / 100 / 100 % 100) (by omega)
 have m8:=m2 (v / 100 / 100 % 100) (by omega)
 apply Wc.loop
 simp only[loop133,loopOf,firstLoop,Option.getD,Tryd.f133]
 repeat' (first|with_reducible apply Ws|(apply Wp;focus ((repeat ((with_reducible apply Rr rfl);focus ((try simp +decide only[Oy,n0,q4,e1]);with_reducible rfl)));with_reducible exact Rn))|(refine W2 (by simp +decide only[Cx,n0,q4,e1];try with_reducible rfl) (fun hb=>?_) (fun hb=>?_)<;>try contradiction)|apply W3|apply W4|apply W5|apply W6)
 (repeat' (with_reducible apply Ws));(apply Wn 1;focus ((repeat ((with_reducible apply Rr rfl);focus ((try simp +decide only[Ot,n0,q1,r1,icv99_164,w0]);with_reducible rfl)));with_reducible exact Rn))
 (repeat' (with_reducible apply Ws));(apply Wn 1;focus ((repeat ((with_reducible apply Rr rfl);focus ((try simp +decide only[Ot,n0,q1,r2]);with_reducible rfl)));with_reducible exact Rn))
 (repeat' (with_reducible apply Ws));(apply Wn 1;focus ((repeat ((with_reducible apply Rr rfl);focus ((try simp +decide only[Ot,n0,r3,r4]);with_reducible rfl)));with_reducible exact Rn))
 (repeat' (with_reducible apply Ws));(apply Wn 1;focus ((repeat ((with_reducible apply Rr rfl);focus ((try simp +decide only[Ot,n0,r5,r6,m5,m6]);with_reducible rfl)));with_reducible exact Rn))
 (repeat' (with_reducible apply Ws));(apply Wn 1;focus ((repeat ((with_reducible apply Rr rfl);focus ((try simp +decide only[Ot,n0,r7,r8,m7,m8]);with_reducible rfl)));with_reducible exact Rn))
 refine Wc.forget (fun A=>A.n=167∧A.defers=[]∧A.get 0=.slice (some (aadd (own kb) 1)) nd c∧A.get 1=.int .u64 ((v / 100000000:Nat):Int)∧A.get 4=.int .i64 ((j+8:Nat):Int)∧A.get 8=.int .u32 ((v / 100 % 100*2:Nat):Int)∧A.get 9=.int .u32 ((v % 100*2:Nat):Int)∧A.get 10=.int .u32 ((v / 100 / 100 / 100 % 100*2:Nat):Int)∧A.get 11=.int .u32 ((v / 100 / 100 % 100*2:Nat):Int)) (by and_intros<;>simp +decide only[Gs,n0,d0,q0,q4]<;>rfl) ?_
 rintro A0 ⟨n0,d0,q0,q1,q4,q8,q9,q10,q11⟩
 have hz:=FA.size
 have hpp:v % 100<100:=Nat.mod_lt _ (by decide)
 have w1:IntKind.i64.wrap (((j+8:Nat):Int)-1)=(((j+7):Nat):Int):=by rw[wrap64 (by omega) (by omega)];omega
 have w2:IntKind.i64.wrap (((j+8:Nat):Int)-2)=(((j+6):Nat):Int):=by rw[wrap64 (by omega) (by omega)];omega
 have wx:IntKind.u32.wrap (((v % 100*2:Nat):Int)+1)=((v % 100*2+1:Nat):Int):=wrapU32 (x:=v % 100*2+1) (by omega)
 have hr1:inRange (((j+7):Nat):Int) nd=true:=by show Nat.blt _ _=true;rw[Nat.blt_eq];omega
 have hr2:inRange (((j+6):Nat):Int) nd=true:=by show Nat.blt _ _=true;rw[Nat.blt_eq];omega
 have x1:=ixS .u32 (v % 100*2+1) (by omega)
 have x2:=ixS .u32 (v % 100*2) (by omega)
 have s1:=st_row hp RA (j+7) (by omega) (Lib.sm (v % 100*2+1))
 have hk1:=MA.fit.lt RA
 have R1:Row kb pre post _ (hA.setl kb (.cells (pre++bytesV (dA.setIfInBounds (j+7) (Lib.sm (v % 100*2+1))).toList++post) 180 none)):=Row.next
 have M1:=MA.setl (k:=kb) (B:=.cells (pre++bytesV (dA.setIfInBounds (j+7) (Lib.sm (v % 100*2+1))).toList++post) 180 none) rfl rfl hk1
 generalize hg1:hA.setl kb (.cells (pre++bytesV (dA.setIfInBounds (j+7) (Lib.sm (v % 100*2+1))).toList++post) 180 none)=g1 at R1 M1
 have s2:=st_row hp R1 (j+6) (by rw[Array.size_setIfInBounds];omega) (Lib.sm (v % 100*2))
 have hk2:=M1.fit.lt R1
 have FB:=FA.step2'
 have RB:Row kb pre post _ (g1.setl kb (.cells (pre++bytesV ((dA.setIfInBounds (j+7) (Lib.sm (v % 100*2+1))).setIfInBounds (j+6) (Lib.sm (v % 100*2))).toList++post) 180 none)):=Row.next
 have MB:=M1.setl (k:=kb) (B:=.cells (pre++bytesV ((dA.setIfInBounds (j+7) (Lib.sm (v % 100*2+1))).setIfInBounds (j+6) (Lib.sm (v % 100*2))).toList++post) 180 none) rfl rfl hk2
 repeat' (with_reducible apply Wc.seq)
 refine Wc.drawQ 1 (by kernel_rfl) ?_
 (iterate 12 ((first|apply Qp rfl rfl rfl|apply FQ.new rfl rfl);focus ((try simp +decide only[Oy,n0,q0,q4,q9,w1,w2,wx,qia31 _ _ _ _ hr1,Hx,Int.toNat_natCast,x1,x2]);with_reducible rfl)))
 refine FQ.setl (k:=kb) (B:=.cells (pre++bytesV (dA.setIfInBounds (j+7) (Lib.sm (v % 100*2+1))).toList++post) 180 none) (x:=undef) rfl rfl hk1 (by simp +decide only[Oy,n0,s1]) ?_
 rw[hg1]
 (iterate 1 ((first|apply Qp rfl rfl rfl|apply FQ.new rfl rfl);focus ((try simp +decide only[Oy,n0,qia31 _ _ _ _ hr2,Hx,Int.toNat_natCast]);with_reducible rfl)))
 refine FQ.setl (k:=kb) (B:=.cells (pre++bytesV ((dA.setIfInBounds (j+7) (Lib.sm (v % 100*2+1))).setIfInBounds (j+6) (Lib.sm (v % 100*2))).toList++post) 180 none) (x:=undef) rfl rfl hk2 (by simp +decide only[Oy,n0,s2]) ?_
 refine FQ.nil ⟨?_,?_⟩
 ·exact allMeet_but [12,14] 15 [(3,12),(4,12),(5,12),(9,12),(10,12)] rfl rfl (by kernel_rfl) (fun _ _ _ _ hU e1 e2=>by simp only[List.mem_cons,Prod.mk.injEq,List.not_mem_nil,or_false] at hU;rcases hU with⟨rfl,rfl⟩|⟨rfl,rfl⟩|⟨rfl,rfl⟩|⟨rfl,rfl⟩|⟨rfl,rfl⟩<;>(cases e1;cases e2;exact meets_right (l:=[]) rfl rfl (fun _ _=>List.not_mem_nil) rfl (fun j _=>Nat.lt_or_ge _ _)))
 generalize g1.setl kb (.cells (pre++bytesV ((dA.setIfInBounds (j+7) (Lib.sm (v % 100*2+1))).setIfInBounds (j+6) (Lib.sm (v % 100*2))).toList++post) 180 none)=hB at RB MB ⊢
 generalize ((dA.setIfInBounds (j+7) (Lib.sm (v % 100*2+1))).setIfInBounds (j+6) (Lib.sm (v % 100*2)))=dB at FB RB
 clear w1 w2 wx hr1 hr2 x1 x2 s1 s2 R1 M1 hk1 hk2 hg1 hz hpp
 refine Wc.forget (fun A=>A.n=167∧A.defers=[]∧A.get 0=.slice (some (aadd (own kb) 1)) nd c∧A.get 1=.int .u64 ((v / 100000000:Nat):Int)∧A.get 4=.int .i64 ((j+8:Nat):Int)∧A.get 8=.int .u32 ((v / 100 % 100*2:Nat):Int)∧A.get 10=.int .u32 ((v / 100 / 100 / 100 % 100*2:Nat):Int)∧A.get 11=.int .u32 ((v / 100 / 100 % 100*2:Nat):Int)) (by and_intros<;>simp +decide only[Gs,n0,d0,q0,q1,q4,q8,q9,q10,q11]<;>rfl) ?_
 rintro A0 ⟨n0,d0,q0,q1,q4,q8,q10,q11⟩
 have hz:=FB.size
 have hpp:(v / 100) % 100<100:=Nat.mod_lt _ (by decide)
 have w1:IntKind.i64.wrap (((j+8:Nat):Int)-3)=(((j+5):Nat):Int):=by rw[wrap64 (by omega) (by omega)];omega
 have w2:IntKind.i64.wrap (((j+8:Nat):Int)-4)=(((j+4):Nat):Int):=by rw[wrap64 (by omega) (by omega)];omega
 have wx:IntKind.u32.wrap ((((v / 100) % 100*2:Nat):Int)+1)=(((v / 100) % 100*2+1:Nat):Int):=wrapU32 (x:=(v / 100) % 100*2+1) (by omega)
 have hr1:inRange (((j+5):Nat):Int) nd=true:=by show Nat.blt _ _=true;rw[Nat.blt_eq];omega
 have hr2:inRange (((j+4):Nat):Int) nd=true:=by show Nat.blt _ _=true;rw[Nat.blt_eq];omega
 have x1:=ixS .u32 ((v / 100) % 100*2+1) (by omega)
 have x2:=ixS .u32 ((v / 100) % 100*2) (by omega)
 have s1:=st_row hp RB (j+5) (by omega) (Lib.sm ((v / 100) % 100*2+1))
 have hk1:=MB.fit.lt RB
 have R1:Row kb pre post _ (hB.setl kb (.cells (pre++bytesV (dB.setIfInBounds (j+5) (Lib.sm ((v / 100) % 100*2+1))).toList++post) 180 none)):=Row.next
 have M1:=MB.setl (k:=kb) (B:=.cells (pre++bytesV (dB.setIfInBounds (j+5) (Lib.sm ((v / 100) % 100*2+1))).toList++post) 180 none) rfl rfl hk1
 generalize hg1:hB.setl kb (.cells (pre++bytesV (dB.setIfInBounds (j+5) (Lib.sm ((v / 100) % 100*2+1))).toList++post) 180 none)=g1 at R1 M1
 have s2:=st_row hp R1 (j+4) (by rw[Array.size_setIfInBounds];omega) (Lib.sm ((v / 100) % 100*2))
 have hk2:=M1.fit.lt R1
 have FC:=FB.step2'
 have RC:Row kb pre post _ (g1.setl kb (.cells (pre++bytesV ((dB.setIfInBounds (j+5) (Lib.sm ((v / 100) % 100*2+1))).setIfInBounds (j+4) (Lib.sm ((v / 100) % 100*2))).toList++post) 180 none)):=Row.next
 have MC:=M1.setl (k:=kb) (B:=.cells (pre++bytesV ((dB.setIfInBounds (j+5) (Lib.sm ((v / 100) % 100*2+1))).setIfInBounds (j+4) (Lib.sm ((v / 100) % 100*2))).toList++post) 180 none) rfl rfl hk2
 repeat' (with_reducible apply Wc.seq)
 refine Wc.drawQ 1 (by kernel_rfl) ?_
 (iterate 12 ((first|apply Qp rfl rfl rfl|apply FQ.new rfl rfl);focus ((try simp +decide only[Oy,n0,q0,q4,q8,w1,w2,wx,qia31 _ _ _ _ hr1,Hx,Int.toNat_natCast,x1,x2]);with_reducible rfl)))
 refine FQ.setl (k:=kb) (B:=.cells (pre++bytesV (dB.setIfInBounds (j+5) (Lib.sm ((v / 100) % 100*2+1))).toList++post) 180 none) (x:=undef) rfl rfl hk1 (by simp +decide only[Oy,n0,s1]) ?_
 rw[hg1]
 (iterate 1 ((first|apply Qp rfl rfl rfl|apply FQ.new rfl rfl);focus ((try simp +decide only[Oy,n0,qia31 _ _ _ _ hr2,Hx,Int.toNat_natCast]);with_reducible rfl)))
 refine FQ.setl (k:=kb) (B:=.cells (pre++bytesV ((dB.setIfInBounds (j+5) (Lib.sm ((v / 100) % 100*2+1))).setIfInBounds (j+4) (Lib.sm ((v / 100) % 100*2))).toList++post) 180 none) (x:=undef) rfl rfl hk2 (by simp +decide only[Oy,n0,s2]) ?_
 refine FQ.nil ⟨?_,?_⟩
 ·exact allMeet_but [12,14] 15 [(3,12),(4,12),(5,12),(9,12),(10,12)] rfl rfl (by kernel_rfl) (fun _ _ _ _ hU e1 e2=>by simp only[List.mem_cons,Prod.mk.injEq,List.not_mem_nil,or_false] at hU;rcases hU with⟨rfl,rfl⟩|⟨rfl,rfl⟩|⟨rfl,rfl⟩|⟨rfl,rfl⟩|⟨rfl,rfl⟩<;>(cases e1;cases e2;exact meets_right (l:=[]) rfl rfl (fun _ _=>List.not_mem_nil) rfl (fun j _=>Nat.lt_or_ge _ _)))
 generalize g1.setl kb (.cells (pre++bytesV ((dB.setIfInBounds (j+5) (Lib.sm ((v / 100) % 100*2+1))).setIfInBounds (j+4) (Lib.sm ((v / 100) % 100*2))).toList++post) 180 none)=hC at RC MC ⊢
 generalize ((dB.setIfInBounds (j+5) (Lib.sm ((v / 100) % 100*2+1))).setIfInBounds (j+4) (Lib.sm ((v / 100) % 100*2)))=dC at FC RC
 clear w1 w2 wx hr1 hr2 x1 x2 s1 s2 R1 M1 hk1 hk2 hg1 hz hpp
 refine Wc.forget (fun A=>A.n=167∧A.defers=[]∧A.get 0=.slice (some (aadd (own kb) 1)) nd c∧A.get 1=.int .u64 ((v / 100000000:Nat):Int)∧A.get 4=.int .i64 ((j+8:Nat):Int)∧A.get 10=.int .u32 ((v / 100 / 100 / 100 % 100*2:Nat):Int)∧A.get 11=.int .u32 ((v / 100 / 100 % 100*2:Nat):Int)) (by and_intros<;>simp +decide only[Gs,n0,d0,q0,q1,q4,q10,q11]<;>rfl) ?_
 rintro A0 ⟨n0,d0,q0,q1,q4,q10,q11⟩
 have hz:=FC.size
 have hpp:(v / 100 / 100) % 100<100:=Nat.mod_lt _ (by decide)
 have w1:IntKind.i64.wrap (((j+8:Nat):Int)-5)=(((j+3):Nat):Int):=by rw[wrap64 (by omega) (by omega)];omega
 have w2:IntKind.i64.wrap (((j+8:Nat):Int)-6)=(((j+2):Nat):Int):=by rw[wrap64 (by omega) (by omega)];omega
 have wx:IntKind.u32.wrap ((((v / 100 / 100) % 100*2:Nat):Int)+1)=(((v / 100 / 100) % 100*2+1:Nat):Int):=wrapU32 (x:=(v / 100 / 100) % 100*2+1) (by omega)
 have hr1:inRange (((j+3):Nat):Int) nd=true:=by show Nat.blt _ _=true;rw[Nat.blt_eq];omega
 have hr2:inRange (((j+2):Nat):Int) nd=true:=by show Nat.blt _ _=true;rw[Nat.blt_eq];omega
 have x1:=ixS .u32 ((v / 100 / 100) % 100*2+1) (by omega)
 have x2:=ixS .u32 ((v / 100 / 100) % 100*2) (by omega)
 have s1:=st_row hp RC (j+3) (by omega) (Lib.sm ((v / 100 / 100) % 100*2+1))
 have hk1:=MC.fit.lt RC
 have R1:Row kb pre post _ (hC.setl kb (.cells (pre++bytesV (dC.setIfInBounds (j+3) (Lib.sm ((v / 100 / 100) % 100*2+1))).toList++post) 180 none)):=Row.next
 have M1:=MC.setl (k:=kb) (B:=.cells (pre++bytesV (dC.setIfInBounds (j+3) (Lib.sm ((v / 100 / 100) % 100*2+1))).toList++post) 180 none) rfl rfl hk1
 generalize hg1:hC.setl kb (.cells (pre++bytesV (dC.setIfInBounds (j+3) (Lib.sm ((v / 100 / 100) % 100*2+1))).toList++post) 180 none)=g1 at R1 M1
 have s2:=st_row hp R1 (j+2) (by rw[Array.size_setIfInBounds];omega) (Lib.sm ((v / 100 / 100) % 100*2))
 have hk2:=M1.fit.lt R1
 have FD:=FC.step2'
 have RD:Row kb pre post _ (g1.setl kb (.cells (pre++bytesV ((dC.setIfInBounds (j+3) (Lib.sm ((v / 100 / 100) % 100*2+1))).setIfInBounds (j+2) (Lib.sm ((v / 100 / 100) % 100*2))).toList++post) 180 none)):=Row.next
 have MD:=M1.setl (k:=kb) (B:=.cells (pre++bytesV ((dC.setIfInBounds (j+3) (Lib.sm ((v / 100 / 100) % 100*2+1))).setIfInBounds (j+2) (Lib.sm ((v / 100 / 100) % 100*2))).toList++post) 180 none) rfl rfl hk2
 repeat' (with_reducible apply Wc.seq)
 refine Wc.drawQ 1 (by kernel_rfl) ?_
 (iterate 12 ((first|apply Qp rfl rfl rfl|apply FQ.new rfl rfl);focus ((try simp +decide only[Oy,n0,q0,q4,q11,w1,w2,wx,qia31 _ _ _ _ hr1,Hx,Int.toNat_natCast,x1,x2]);with_reducible rfl)))
 refine FQ.setl (k:=kb) (B:=.cells (pre++bytesV (dC.setIfInBounds (j+3) (Lib.sm ((v / 100 / 100) % 100*2+1))).toList++post) 180 none) (x:=undef) rfl rfl hk1 (by simp +decide only[Oy,n0,s1]) ?_
 rw[hg1]
 (iterate 1 ((first|apply Qp rfl rfl rfl|apply FQ.new rfl rfl);focus ((try simp +decide only[Oy,n0,qia31 _ _ _ _ hr2,Hx,Int.toNat_natCast]);with_reducible rfl)))
 refine FQ.setl (k:=kb) (B:=.cells (pre++bytesV ((dC.setIfInBounds (j+3) (Lib.sm ((v / 100 / 100) % 100*2+1))).setIfInBounds (j+2) (Lib.sm ((v / 100 / 100) % 100*2))).toList++post) 180 none) (x:=undef) rfl rfl hk2 (by simp +decide only[Oy,n0,s2]) ?_
 refine FQ.nil ⟨?_,?_⟩
 ·exact allMeet_but [12,14] 15 [(3,12),(4,12),(5,12),(9,12),(10,12)] rfl rfl (by kernel_rfl) (fun _ _ _ _ hU e1 e2=>by simp only[List.mem_cons,Prod.mk.injEq,List.not_mem_nil,or_false] at hU;rcases hU with⟨rfl,rfl⟩|⟨rfl,rfl⟩|⟨rfl,rfl⟩|⟨rfl,rfl⟩|⟨rfl,rfl⟩<;>(cases e1;cases e2;exact meets_right (l:=[]) rfl rfl (fun _ _=>List.not_mem_nil) rfl (fun j _=>Nat.lt_or_ge _ _)))
 generalize g1.setl kb (.cells (pre++bytesV ((dC.setIfInBounds (j+3) (Lib.sm ((v / 100 / 100) % 100*2+1))).setIfInBounds (j+2) (Lib.sm ((v / 100 / 100) % 100*2))).toList++post) 180 none)=hD at RD MD ⊢
 generalize ((dC.setIfInBounds (j+3) (Lib.sm ((v / 100 / 100) % 100*2+1))).setIfInBounds (j+2) (Lib.sm ((v / 100 / 100) % 100*2)))=dD at FD RD
 clear w1 w2 wx hr1 hr2 x1 x2 s1 s2 R1 M1 hk1 hk2 hg1 hz hpp
 refine Wc.forget (fun A=>A.n=167∧A.defers=[]∧A.get 0=.slice (some (aadd (own kb) 1)) nd c∧A.get 1=.int .u64 ((v / 100000000:Nat):Int)∧A.get 4=.int .i64 ((j+8:Nat):Int)∧A.get 10=.int .u32 ((v / 100 / 100 / 100 % 100*2:Nat):Int)) (by and_intros<;>simp +decide only[Gs,n0,d0,q0,q1,q4,q10]<;>rfl) ?_
 rintro A0 ⟨n0,d0,q0,q1,q4,q10⟩
 have hz:=FD.size
 have hpp:(v / 100 / 100 / 100) % 100<100:=Nat.mod_lt _ (by decide)
 have w1:IntKind.i64.wrap (((j+8:Nat):Int)-7)=(((j+1):Nat):Int):=by rw[wrap64 (by omega) (by omega)];omega
 have w2:IntKind.i64.wrap (((j+8:Nat):Int)-8)=((j:Nat):Int):=by rw[wrap64 (by omega) (by omega)];omega
 have wx:IntKind.u32.wrap ((((v / 100 / 100 / 100) % 100*2:Nat):Int)+1)=(((v / 100 / 100 / 100) % 100*2+1:Nat):Int):=wrapU32 (x:=(v / 100 / 100 / 100) % 100*2+1) (by omega)
 have hr1:inRange (((j+1):Nat):Int) nd=true:=by show Nat.blt _ _=true;rw[Nat.blt_eq];omega
 have hr2:inRange ((j:Nat):Int) nd=true:=by show Nat.blt _ _=true;rw[Nat.blt_eq];omega
 have x1:=ixS .u32 ((v / 100 / 100 / 100) % 100*2+1) (by omega)
 have x2:=ixS .u32 ((v / 100 / 100 / 100) % 100*2) (by omega)
 have s1:=st_row hp RD (j+1) (by omega) (Lib.sm ((v / 100 / 100 / 100) % 100*2+1))
 have hk1:=MD.fit.lt RD
 have R1:Row kb pre post _ (hD.setl kb (.cells (pre++bytesV (dD.setIfInBounds (j+1) (Lib.sm ((v / 100 / 100 / 100) % 100*2+1))).toList++post) 180 none)):=Row.next
 have M1:=MD.setl (k:=kb) (B:=.cells (pre++bytesV (dD.setIfInBounds (j+1) (Lib.sm ((v / 100 / 100 / 100) % 100*2+1))).toList++post) 180 none) rfl rfl hk1
 generalize hg1:hD.setl kb (.cells (pre++bytesV (dD.setIfInBounds (j+1) (Lib.sm ((v / 100 / 100 / 100) % 100*2+1))).toList++post) 180 none)=g1 at R1 M1
 have s2:=st_row hp R1 j (by rw[Array.size_setIfInBounds];omega) (Lib.sm ((v / 100 / 100 / 100) % 100*2))
 have hk2:=M1.fit.lt R1
 have FE:=FD.step2'
 have RE:Row kb pre post _ (g1.setl kb (.cells (pre++bytesV ((dD.setIfInBounds (j+1) (Lib.sm ((v / 100 / 100 / 100) % 100*2+1))).setIfInBounds j (Lib.sm ((v / 100 / 100 / 100) % 100*2))).toList++post) 180 none)):=Row.next
 have ME:=M1.setl (k:=kb) (B:=.cells (pre++bytesV ((dD.setIfInBounds (j+1) (Lib.sm ((v / 100 / 100 / 100) % 100*2+1))).setIfInBounds j (Lib.sm ((v / 100 / 100 / 100) % 100*2))).toList++post) 180 none) rfl rfl hk2
 repeat' (with_reducible apply Wc.seq)
 refine Wc.drawQ 1 (by kernel_rfl) ?_
 (iterate 12 ((first|apply Qp rfl rfl rfl|apply FQ.new rfl rfl);focus ((try simp +decide only[Oy,n0,q0,q4,q10,w1,w2,wx,qia31 _ _ _ _ hr1,Hx,Int.toNat_natCast,x1,x2]);with_reducible rfl)))
 refine FQ.setl (k:=kb) (B:=.cells (pre++bytesV (dD.setIfInBounds (j+1) (Lib.sm ((v / 100 / 100 / 100) % 100*2+1))).toList++post) 180 none) (x:=undef) rfl rfl hk1 (by simp +decide only[Oy,n0,s1]) ?_
 rw[hg1]
 (iterate 1 ((first|apply Qp rfl rfl rfl|apply FQ.new rfl rfl);focus ((try simp +decide only[Oy,n0,qia31 _ _ _ _ hr2,Hx,Int.toNat_natCast]);with_reducible rfl)))
 refine FQ.setl (k:=kb) (B:=.cells (pre++bytesV ((dD.setIfInBounds (j+1) (Lib.sm ((v / 100 / 100 / 100) % 100*2+1))).setIfInBounds j (Lib.sm ((v / 100 / 100 / 100) % 100*2))).toList++post) 180 none) (x:=undef) rfl rfl hk2 (by simp +decide only[Oy,n0,s2]) ?_
 refine FQ.nil ⟨?_,?_⟩
 ·exact allMeet_but [12,14] 15 [(3,12),(4,12),(5,12),(9,12),(10,12)] rfl rfl (by kernel_rfl) (fun _ _ _ _ hU e1 e2=>by simp only[List.mem_cons,Prod.mk.injEq,List.not_mem_nil,or_false] at hU;rcases hU with⟨rfl,rfl⟩|⟨rfl,rfl⟩|⟨rfl,rfl⟩|⟨rfl,rfl⟩|⟨rfl,rfl⟩<;>(cases e1;cases e2;exact meets_right (l:=[]) rfl rfl (fun _ _=>List.not_mem_nil) rfl (fun j _=>Nat.lt_or_ge _ _)))
 generalize g1.setl kb (.cells (pre++bytesV ((dD.setIfInBounds (j+1) (Lib.sm ((v / 100 / 100 / 100) % 100*2+1))).setIfInBounds j (Lib.sm ((v / 100 / 100 / 100) % 100*2))).toList++post) 180 none)=hE at RE ME ⊢
 generalize ((dD.setIfInBounds (j+1) (Lib.sm ((v / 100 / 100 / 100) % 100*2+1))).setIfInBounds j (Lib.sm ((v / 100 / 100 / 100) % 100*2)))=dE at FE RE
 clear w1 w2 wx hr1 hr2 x1 x2 s1 s2 R1 M1 hk1 hk2 hg1 hz hpp
 refine Wc.forget (fun A=>A.n=167∧A.defers=[]∧A.get 0=.slice (some (aadd (own kb) 1)) nd c∧A.get 1=.int .u64 ((v / 100000000:Nat):Int)∧A.get 4=.int .i64 ((j+8:Nat):Int)) (by and_intros<;>simp +decide only[Gs,n0,d0,q0,q1,q4]<;>rfl) ?_
 rintro A0 ⟨n0,d0,q0,q1,q4⟩
 have wj:IntKind.i64.wrap (((j+8:Nat):Int)-8)=(j:Int):=by rw[wrap64 (by omega) (by omega)];omega
 rw[show v / 100 / 100 / 100 / 100=v / 100000000 by omega] at FE
 repeat' (first|with_reducible apply Ws|(apply Wp;focus ((repeat ((with_reducible apply Rr rfl);focus ((try simp +decide only[Oy,n0,q4,wj]);with_reducible rfl)));with_reducible exact Rn))|(refine W2 (by simp +decide only[Cx,n0,q4,wj];try with_reducible rfl) (fun hb=>?_) (fun hb=>?_)<;>try contradiction)|apply W3|apply W4|apply W5|apply W6)
 exact base j _ _ _ _ (by omega) (by simp +decide only[Gs,n0]) (by simp +decide only[Gs,d0]) (by simp +decide only[Gs,n0,q0]) (by simp +decide only[Gs,n0,q1]) (by simp +decide only[Gs,n0]) FE RE ME
theorem format133 (hI:∀ args h,I 133 args h=none) {kb nd c u:Nat} {pre post:List Value} {g:H} {d0':Array UInt8} (f:Fit g) (hp:pre.length=1) (hnd:nd≤15) (hsz:d0'.size=nd) (hu:u<10 ^ nd) (R0:Row kb pre post d0' g) :
  ∃ n v h',(ev tab E I n).call 133 [.slice (some (aadd (own kb) 1)) nd c,.int .u64 (u:Nat)] g=some (v,h')∧(v=.tuple #[]∧Mod (fun k=>k=kb) g h'∧∃ d,Lib.FmtInv nd u 0 0 d∧Row kb pre post d h'):=by
 have hu64:u<18446744073709551616:=Nat.lt_of_lt_of_le hu (Nat.le_trans (Nat.pow_le_pow_right (by decide) hnd) (by decide))
 have F0:Lib.FmtInv nd u nd u d0':=by
  have:=Lib.FmtInv.start d0' u (by rw[hsz];exact hu)
  rwa [hsz] at this
 apply Wk (hI _ _) fn133 rfl
 intro A0 n0 d0 hA0
 change A0.n=167 at n0
 have q0:A0.get 0=.slice (some (aadd (own kb) 1)) nd c:=hA0 0 _ rfl
 have q1:A0.get 1=.int .u64 (u:Nat):=hA0 1 _ rfl
 clear hA0
 repeat' (first|with_reducible apply Ws|(apply Wp;focus ((repeat ((with_reducible apply Rr rfl);focus ((try simp +decide only[Oy,n0,q0,Qx]);with_reducible rfl)));with_reducible exact Rn))|(refine W2 (by simp +decide only[Cx,n0,q0];try with_reducible rfl) (fun hb=>?_) (fun hb=>?_)<;>try contradiction)|apply W3|apply W4|apply W5|apply W6)
 refine (loop133_ok (E:=E) (I:=I) (kb:=kb) (u:=u) (c:=c) hp hnd nd u d0' _ g ?_ ?_ ?_ ?_ ?_ F0 R0 (Mod.refl f) hu64).mono ?_
 ·simp +decide only[Gs,n0]
 ·simp +decide only[Gs,d0]
 ·simp +decide only[Gs,n0,q0]
 ·simp +decide only[Gs,n0,q1]
 ·simp +decide only[Gs,n0]
 rintro ex A0 hA ⟨rfl,n0,d0,q0,i,v,dA,q1,q4,hi,FA,RA,MA⟩
 simp only[if_true]
 have hv7:=FA.lt7 hi
 have hle:=FA.le
 have wv:=wrapU32 (x:=v) (by omega)
 (repeat' (with_reducible apply Ws));(apply Wn 1;focus ((repeat ((with_reducible apply Rr rfl);focus ((try simp +decide only[Oy,n0,q1,icv99_164,wv]);with_reducible rfl)));with_reducible exact Rn))
 refine Wc.forget (fun A=>A.n=167∧A.defers=[]∧A.get 0=.slice (some (aadd (own kb) 1)) nd c∧A.get 4=.int .i64 (i:Nat)∧A.get 12=.int .u32 (v:Nat)) (by and_intros<;>simp +decide only[Gs,n0,d0,q0,q4]<;>rfl) ?_
 rintro A0 ⟨n0,d0,q0,q4,q12⟩
 (repeat' (with_reducible apply Ws));(apply Wn 1;focus ((repeat ((with_reducible apply Rr rfl);focus ((try simp +decide only[Oy,n0,q4]);with_reducible rfl)));with_reducible exact Rn))
 refine Wc.forget (fun A=>A.n=167∧A.defers=[]∧A.get 0=.slice (some (aadd (own kb) 1)) nd c∧A.get 4=.int .i64 (i:Nat)∧A.get 12=.int .u32 (v:Nat)∧A.get 99=.bool (decide ((i:Int)≥4))) (by and_intros<;>simp +decide only[Gs,n0,d0,q0,q4,q12]<;>rfl) ?_
 rintro A0 ⟨n0,d0,q0,q4,q12,q99⟩
 repeat' (with_reducible apply Wc.seq)
 refine Wc.mono (Q:=fun ex A h=>ex=.normal∧A.n=167∧A.defers=[]∧A.get 0=.slice (some (aadd (own kb) 1)) nd c∧∃ i v d,A.get 4=.int .i64 (i:Nat)∧A.get 12=.int .u32 (v:Nat)∧i<4∧Lib.FmtInv nd u i v d∧Row kb pre post d h∧Mod (fun k=>k=kb) g h) ?_ ?_
 ·by_cases h4:i<4
  ·have e4:decide ((i:Int)≥4)=false:=decide_eq_false (by omega)
   repeat' (first|with_reducible apply Ws|(apply Wp;focus ((repeat ((with_reducible apply Rr rfl);focus ((try simp +decide only[Oy,n0,q99,e4]);with_reducible rfl)));with_reducible exact Rn))|(refine W2 (by simp +decide only[Cx,n0,q99,e4];try with_reducible rfl) (fun hb=>?_) (fun hb=>?_)<;>try contradiction)|apply W3|apply W4|apply W5|apply W6)
   exact⟨rfl,n0,d0,q0,i,v,dA,q4,q12,h4,FA,RA,MA⟩
  obtain⟨j,rfl⟩:∃ j,i=j+4:=⟨i-4,by omega⟩
  have e4:decide (((j+4:Nat):Int)≥4)=true:=decide_eq_true (by omega)
  have r1:aint .rem .u32 (v:Nat) 10000=some (.int .u32 ((v % 10000:Nat):Int)):=remU .u32 v 10000 (by decide)
  have r2:aint .quo .u32 (v:Nat) 10000=some (.int .u32 ((v / 10000:Nat):Int)):=quoU .u32 v 10000 (by decide) (wrapU32 (by omega))
  have r5:aint .quo .u32 ((v % 10000:Nat):Int) 100=some (.int .u32 ((v / 100 % 100:Nat):Int)):=by
   rw[show v / 100 % 100=v % 10000 / 100 by omega]
   exact quoU .u32 _ 100 (by decide) (wrapU32 (by omega))
  have r6:aint .rem .u32 ((v % 10000:Nat):Int) 100=some (.int .u32 ((v % 100:Nat):Int)):=by
   rw[show v % 100=v % 10000 % 100 by omega]
   exact remU .u32 _ 100 (by decide)
  have m5:=mulTwo (v / 100 % 100) (by omega)
  have m6:=mulTwo (v % 100) (by omega)
  repeat' (first|with_reducible apply Ws|(apply Wp;focus ((repeat ((with_reducible apply Rr rfl);focus ((try simp +decide only[Oy,n0,q99,e4]);with_reducible rfl)));with_reducible exact Rn))|(refine W2 (by simp +decide only[Cx,n0,q99,e4];try with_reducible rfl) (fun hb=>?_) (fun hb=>?_)<;>try contradiction)|apply W3|apply W4|apply W5|apply W6)
  (repeat' (with_reducible apply Ws));(apply Wn 1;focus ((repeat ((with_reducible apply Rr rfl);focus ((try simp +decide only[Ot,n0,q12,r1]);with_reducible rfl)));with_reducible exact Rn))
  (repeat' (with_reducible apply Ws));(apply Wn 1;focus ((repeat ((with_reducible apply Rr rfl);focus ((try simp +decide only[Ot,n0,q12,r2]);with_reducible rfl)));with_reducible exact Rn))
  (repeat' (with_reducible apply Ws));(apply Wn 1;focus ((repeat ((with_reducible apply Rr rfl);focus ((try simp +decide only[Ot,n0,r5,r6,m5,m6]);with_reducible rfl)));with_reducible exact Rn))
  refine Wc.forget (fun A=>A.n=167∧A.defers=[]∧A.get 0=.slice (some (aadd (own kb) 1)) nd c∧A.get 4=.int .i64 ((j+4:Nat):Int)∧A.get 12=.int .u32 ((v / 10000:Nat):Int)∧A.get 14=.int .u32 ((v / 100 % 100*2:Nat):Int)∧A.get 15=.int .u32 ((v % 100*2:Nat):Int)) (by and_intros<;>simp +decide only[Gs,n0,d0,q0,q4]<;>rfl) ?_
  rintro A0 ⟨n0,d0,q0,q4,q12,q14,q15⟩
  have hz:=FA.size
  have hpp:v % 100<100:=Nat.mod_lt _ (by decide)
  have w1:IntKind.i64.wrap (((j+4:Nat):Int)-1)=(((j+3):Nat):Int):=by rw[wrap64 (by omega) (by omega)];omega
  have w2:IntKind.i64.wrap (((j+4:Nat):Int)-2)=(((j+2):Nat):Int):=by rw[wrap64 (by omega) (by omega)];omega
  have wx:IntKind.u32.wrap (((v % 100*2:Nat):Int)+1)=((v % 100*2+1:Nat):Int):=wrapU32 (x:=v % 100*2+1) (by omega)
  have hr1:inRange (((j+3):Nat):Int) nd=true:=by show Nat.blt _ _=true;rw[Nat.blt_eq];omega
  have hr2:inRange (((j+2):Nat):Int) nd=true:=by show Nat.blt _ _=true;rw[Nat.blt_eq];omega
  have x1:=ixS .u32 (v % 100*2+1) (by omega)
  have x2:=ixS .u32 (v % 100*2) (by omega)
  have s1:=st_row hp RA (j+3) (by omega) (Lib.sm (v % 100*2+1))
  have hk1:=MA.fit.lt RA
  have R1:Row kb pre post _ (hA.setl kb (.cells (pre++bytesV (dA.setIfInBounds (j+3) (Lib.sm (v % 100*2+1))).toList++post) 180 none)):=Row.next
  have M1:=MA.setl (k:=kb) (B:=.cells (pre++bytesV (dA.setIfInBounds (j+3) (Lib.sm (v % 100*2+1))).toList++post) 180 none) rfl rfl hk1
  generalize hg1:hA.setl kb (.cells (pre++bytesV (dA.setIfInBounds (j+3) (Lib.sm (v % 100*2+1))).toList++post) 180 none)=g1 at R1 M1
  have s2:=st_row hp R1 (j+2) (by rw[Array.size_setIfInBounds];omega) (Lib.sm (v % 100*2))
  have hk2:=M1.fit.lt R1
  have FB:=FA.step2'
  have RB:Row kb pre post _ (g1.setl kb (.cells (pre++bytesV ((dA.setIfInBounds (j+3) (Lib.sm (v % 100*2+1))).setIfInBounds (j+2) (Lib.sm (v % 100*2))).toList++post) 180 none)):=Row.next
  have MB:=M1.setl (k:=kb) (B:=.cells (pre++bytesV ((dA.setIfInBounds (j+3) (Lib.sm (v % 100*2+1))).setIfInBounds (j+2) (Lib.sm (v % 100*2))).toList++post) 180 none) rfl rfl hk2
  repeat' (with_reducible apply Wc.seq)
  refine Wc.drawQ 1 (by kernel_rfl) ?_
  (iterate 12 ((first|apply Qp rfl rfl rfl|apply FQ.new rfl rfl);focus ((try simp +decide only[Oy,n0,q0,q4,q15,w1,w2,wx,qia31 _ _ _ _ hr1,Hx,Int.toNat_natCast,x1,x2]);with_reducible rfl)))
  refine FQ.setl (k:=kb) (B:=.cells (pre++bytesV (dA.setIfInBounds (j+3) (Lib.sm (v % 100*2+1))).toList++post) 180 none) (x:=undef) rfl rfl hk1 (by simp +decide only[Oy,n0,s1]) ?_
  rw[hg1]
  (iterate 1 ((first|apply Qp rfl rfl rfl|apply FQ.new rfl rfl);focus ((try simp +decide only[Oy,n0,qia31 _ _ _ _ hr2,Hx,Int.toNat_natCast]);with_reducible rfl)))
  refine FQ.setl (k:=kb) (B:=.cells (pre++bytesV ((dA.setIfInBounds (j+3) (Lib.sm (v % 100*2+1))).setIfInBounds (j+2) (Lib.sm (v % 100*2))).toList++post) 180 none) (x:=undef) rfl rfl hk2 (by simp +decide only[Oy,n0,s2]) ?_
  refine FQ.nil ⟨?_,?_⟩
  ·exact allMeet_but [12,14] 15 [(3,12),(4,12),(5,12),(9,12),(10,12)] rfl rfl (by kernel_rfl) (fun _ _ _ _ hU e1 e2=>by simp only[List.mem_cons,Prod.mk.injEq,List.not_mem_nil,or_false] at hU;rcases hU with⟨rfl,rfl⟩|⟨rfl,rfl⟩|⟨rfl,rfl⟩|⟨rfl,rfl⟩|⟨rfl,rfl⟩<;>(cases e1;cases e2;exact meets_right (l:=[]) rfl rfl (fun _ _=>List.not_mem_nil) rfl (fun j _=>Nat.lt_or_ge _ _)))
  generalize g1.setl kb (.cells (pre++bytesV ((dA.setIfInBounds (j+3) (Lib.sm (v % 100*2+1))).setIfInBounds (j+2) (Lib.sm (v % 100*2))).toList++post) 180 none)=hB at RB MB ⊢
  generalize ((dA.setIfInBounds (j+3) (Lib.sm (v % 100*2+1))).setIfInBounds (j+2) (Lib.sm (v % 100*2)))=dB at FB RB
  clear w1 w2 wx hr1 hr2 x1 x2 s1 s2 R1 M1 hk1 hk2 hg1 hz hpp
  refine Wc.forget (fun A=>A.n=167∧A.defers=[]∧A.get 0=.slice (some (aadd (own kb) 1)) nd c∧A.get 4=.int .i64 ((j+4:Nat):Int)∧A.get 12=.int .u32 ((v / 10000:Nat):Int)∧A.get 14=.int .u32 ((v / 100 % 100*2:Nat):Int)) (by and_intros<;>simp +decide only[Gs,n0,d0,q0,q4,q12,q14,q15]<;>rfl) ?_
  rintro A0 ⟨n0,d0,q0,q4,q12,q14⟩
  have hz:=FB.size
  have hpp:(v / 100) % 100<100:=Nat.mod_lt _ (by decide)
  have w1:IntKind.i64.wrap (((j+4:Nat):Int)-3)=(((j+1):Nat):Int):=by rw[wrap64 (by omega) (by omega)];omega
  have w2:IntKind.i64.wrap (((j+4:Nat):Int)-4)=((j:Nat):Int):=by rw[wrap64 (by omega) (by omega)];omega
  have wx:IntKind.u32.wrap ((((v / 100) % 100*2:Nat):Int)+1)=(((v / 100) % 100*2+1:Nat):Int):=wrapU32 (x:=(v / 100) % 100*2+1) (by omega)
  have hr1:inRange (((j+1):Nat):Int) nd=true:=by show Nat.blt _ _=true;rw[Nat.blt_eq];omega
  have hr2:inRange ((j:Nat):Int) nd=true:=by show Nat.blt _ _=true;rw[Nat.blt_eq];omega
  have x1:=ixS .u32 ((v / 100) % 100*2+1) (by omega)
  have x2:=ixS .u32 ((v / 100) % 100*2) (by omega)
  have s1:=st_row hp RB (j+1) (by omega) (Lib.sm ((v / 100) % 100*2+1))
  have hk1:=MB.fit.lt RB
  have R1:Row kb pre post _ (hB.setl kb (.cells (pre++bytesV (dB.setIfInBounds (j+1) (Lib.sm ((v / 100) % 100*2+1))).toList++post) 180 none)):=Row.next
  have M1:=MB.setl (k:=kb) (B:=.cells (pre++bytesV (dB.setIfInBounds (j+1) (Lib.sm ((v / 100) % 100*2+1))).toList++post) 180 none) rfl rfl hk1
  generalize hg1:hB.setl kb (.cells (pre++bytesV (dB.setIfInBounds (j+1) (Lib.sm ((v / 100) % 100*2+1))).toList++post) 180 none)=g1 at R1 M1
  have s2:=st_row hp R1 j (by rw[Array.size_setIfInBounds];omega) (Lib.sm ((v / 100) % 100*2))
  have hk2:=M1.fit.lt R1
  have FC:=FB.step2'
  have RC:Row kb pre post _ (g1.setl kb (.cells (pre++bytesV ((dB.setIfInBounds (j+1) (Lib.sm ((v / 100) % 100*2+1))).setIfInBounds j (Lib.sm ((v / 100) % 100*2))).toList++post) 180 none)):=Row.next
  have MC:=M1.setl (k:=kb) (B:=.cells (pre++bytesV ((dB.setIfInBounds (j+1) (Lib.sm ((v / 100) % 100*2+1))).setIfInBounds j (Lib.sm ((v / 100) % 100*2))).toList++post) 180 none) rfl rfl hk2
  repeat' (with_reducible apply Wc.seq)
  refine Wc.drawQ 1 (by kernel_rfl) ?_
  (iterate 12 ((first|apply Qp rfl rfl rfl|apply FQ.new rfl rfl);focus ((try simp +decide only[Oy,n0,q0,q4,q14,w1,w2,wx,qia31 _ _ _ _ hr1,Hx,Int.toNat_natCast,x1,x2]);with_reducible rfl)))
  refine FQ.setl (k:=kb) (B:=.cells (pre++bytesV (dB.setIfInBounds (j+1) (Lib.sm ((v / 100) % 100*2+1))).toList++post) 180 none) (x:=undef) rfl rfl hk1 (by simp +decide only[Oy,n0,s1]) ?_
  rw[hg1]
  (iterate 1 ((first|apply Qp rfl rfl rfl|apply FQ.new rfl rfl);focus ((try simp +decide only[Oy,n0,qia31 _ _ _ _ hr2,Hx,Int.toNat_natCast]);with_reducible rfl)))
  refine FQ.setl (k:=kb) (B:=.cells (pre++bytesV ((dB.setIfInBounds (j+1) (Lib.sm ((v / 100) % 100*2+1))).setIfInBounds j (Lib.sm ((v / 100) % 100*2))).toList++post) 180 none) (x:=undef) rfl rfl hk2 (by simp +decide only[Oy,n0,s2]) ?_
  refine FQ.nil ⟨?_,?_⟩
  ·exact allMeet_but [12,14] 15 [(3,12),(4,12),(5,12),(9,12),(10,12)] rfl rfl (by kernel_rfl) (fun _ _ _ _ hU e1 e2=>by simp only[List.mem_cons,Prod.mk.injEq,List.not_mem_nil,or_false] at hU;rcases hU with⟨rfl,rfl⟩|⟨rfl,rfl⟩|⟨rfl,rfl⟩|⟨rfl,rfl⟩|⟨rfl,rfl⟩<;>(cases e1;cases e2;exact meets_right (l:=[]) rfl rfl (fun _ _=>List.not_mem_nil) rfl (fun j _=>Nat.lt_or_ge _ _)))
  generalize g1.setl kb (.cells (pre++bytesV ((dB.setIfInBounds (j+1) (Lib.sm ((v / 100) % 100*2+1))).setIfInBounds j (Lib.sm ((v / 100) % 100*2))).toList++post) 180 none)=hC at RC MC ⊢
  generalize ((dB.setIfInBounds (j+1) (Lib.sm ((v / 100) % 100*2+1))).setIfInBounds j (Lib.sm ((v / 100) % 100*2)))=dC at FC RC
  clear w1 w2 wx hr1 hr2 x1 x2 s1 s2 R1 M1 hk1 hk2 hg1 hz hpp
  refine Wc.forget (fun A=>A.n=167∧A.defers=[]∧A.get 0=.slice (some (aadd (own kb) 1)) nd c∧A.get 4=.int .i64 ((j+4:Nat):Int)∧A.get 12=.int .u32 ((v / 10000:Nat):Int)) (by and_intros<;>simp +decide only[Gs,n0,d0,q0,q4,q12]<;>rfl) ?_
  rintro A0 ⟨n0,d0,q0,q4,q12⟩
  have wj:IntKind.i64.wrap (((j+4:Nat):Int)-4)=(j:Int):=by rw[wrap64 (by omega) (by omega)];omega
  rw[show v / 100 / 100=v / 10000 by omega] at FC
  repeat' (first|with_reducible apply Ws|(apply Wp;focus ((repeat ((with_reducible apply Rr rfl);focus ((try simp +decide only[Oy,n0,q4,wj]);with_reducible rfl)));with_reducible exact Rn))|(refine W2 (by simp +decide only[Cx,n0,q4,wj];try with_reducible rfl) (fun hb=>?_) (fun hb=>?_)<;>try contradiction)|apply W3|apply W4|apply W5|apply W6)
  exact⟨rfl,by simp +decide only[Gs,n0],by simp +decide only[Gs,d0],by simp +decide only[Gs,n0,q0],j,_,dC,by simp +decide only[Gs,n0],by simp +decide only[Gs,n0,q12],by omega,FC,RC,MC⟩
 rintro ex A0 hA ⟨rfl,n0,d0,q0,i,v,dA,q4,q12,hi,FA,RA,MA⟩
 simp only[]
 have hv7:=FA.lt7 (by omega)
 have hle:=FA.le
 (repeat' (with_reducible apply Ws));(apply Wn 1;focus ((repeat ((with_reducible apply Rr rfl);focus ((try simp +decide only[Oy,n0,q4]);with_reducible rfl)));with_reducible exact Rn))
 refine Wc.forget (fun A=>A.n=167∧A.defers=[]∧A.get 0=.slice (some (aadd (own kb) 1)) nd c∧A.get 4=.int .i64 (i:Nat)∧A.get 12=.int .u32 (v:Nat)∧A.get 139=.bool (decide ((i:Int)≥2))) (by and_intros<;>simp +decide only[Gs,n0,d0,q0,q4,q12]<;>rfl) ?_
 rintro A0 ⟨n0,d0,q0,q4,q12,q139⟩
 repeat' (with_reducible apply Wc.seq)
 refine Wc.mono (Q:=fun ex A h=>ex=.normal∧A.n=167∧A.defers=[]∧A.get 0=.slice (some (aadd (own kb) 1)) nd c∧∃ i v d,A.get 4=.int .i64 (i:Nat)∧A.get 12=.int .u32 (v:Nat)∧i<2∧Lib.FmtInv nd u i v d∧Row kb pre post d h∧Mod (fun k=>k=kb) g h) ?_ ?_
 ·by_cases h4:i<2
  ·have e4:decide ((i:Int)≥2)=false:=decide_eq_false (by omega)
   repeat' (first|with_reducible apply Ws|(apply Wp;focus ((repeat ((with_reducible apply Rr rfl);focus ((try simp +decide only[Oy,n0,q139,e4]);with_reducible rfl)));with_reducible exact Rn))|(refine W2 (by simp +decide only[Cx,n0,q139,e4];try with_reducible rfl) (fun hb=>?_) (fun hb=>?_)<;>try contradiction)|apply W3|apply W4|apply W5|apply W6)
   exact⟨rfl,n0,d0,q0,i,v,dA,q4,q12,h4,FA,RA,MA⟩
  obtain⟨j,rfl⟩:∃ j,i=j+2:=⟨i-2,by omega⟩
  have e4:decide (((j+2:Nat):Int)≥2)=true:=decide_eq_true (by omega)
  have r1:aint .rem .u32 (v:Nat) 100=some (.int .u32 ((v % 100:Nat):Int)):=remU .u32 v 100 (by decide)
  have r2:aint .quo .u32 (v:Nat) 100=some (.int .u32 ((v / 100:Nat):Int)):=quoU .u32 v 100 (by decide) (wrapU32 (by omega))
  have m6:=mulTwo (v % 100) (by omega)
  repeat' (first|with_reducible apply Ws|(apply Wp;focus ((repeat ((with_reducible apply Rr rfl);focus ((try simp +decide only[Oy,n0,q139,e4]);with_reducible rfl)));with_reducible exact Rn))|(refine W2 (by simp +decide only[Cx,n0,q139,e4];try with_reducible rfl) (fun hb=>?_) (fun hb=>?_)<;>try contradiction)|apply W3|apply W4|apply W5|apply W6)
  (repeat' (with_reducible apply Ws));(apply Wn 1;focus ((repeat ((with_reducible apply Rr rfl);focus ((try simp +decide only[Ot,n0,q12,r1,m6]);with_reducible rfl)));with_reducible exact Rn))
  (repeat' (with_reducible apply Ws));(apply Wn 1;focus ((repeat ((with_reducible apply Rr rfl);focus ((try simp +decide only[Ot,n0,q12,r2]);with_reducible rfl)));with_reducible exact Rn))
  refine Wc.forget (fun A=>A.n=167∧A.defers=[]∧A.get 0=.slice (some (aadd (own kb) 1)) nd c∧A.get 4=.int .i64 ((j+2:Nat):Int)∧A.get 12=.int .u32 ((v / 100:Nat):Int)∧A.get 16=.int .u32 ((v % 100*2:Nat):Int)) (by and_intros<;>simp +decide only[Gs,n0,d0,q0,q4]<;>rfl) ?_
  rintro A0 ⟨n0,d0,q0,q4,q12,q16⟩
  have hz:=FA.size
  have hpp:v % 100<100:=Nat.mod_lt _ (by decide)
  have w1:IntKind.i64.wrap (((j+2:Nat):Int)-1)=(((j+1):Nat):Int):=by rw[wrap64 (by omega) (by omega)];omega
  have w2:IntKind.i64.wrap (((j+2:Nat):Int)-2)=((j:Nat):Int):=by rw[wrap64 (by omega) (by omega)];omega
  have wx:IntKind.u32.wrap (((v % 100*2:Nat):Int)+1)=((v % 100*2+1:Nat):Int):=wrapU32 (x:=v % 100*2+1) (by omega)
  have hr1:inRange (((j+1):Nat):Int) nd=true:=by show Nat.blt _ _=true;rw[Nat.blt_eq];omega
  have hr2:inRange ((j:Nat):Int) nd=true:=by show Nat.blt _ _=true;rw[Nat.blt_eq];omega
  have x1:=ixS .u32 (v % 100*2+1) (by omega)
  have x2:=ixS .u32 (v % 100*2) (by omega)
  have s1:=st_row hp RA (j+1) (by omega) (Lib.sm (v % 100*2+1))
  have hk1:=MA.fit.lt RA
  have R1:Row kb pre post _ (hA.setl kb (.cells (pre++bytesV (dA.setIfInBounds (j+1) (Lib.sm (v % 100*2+1))).toList++post) 180 none)):=Row.next
  have M1:=MA.setl (k:=kb) (B:=.cells (pre++bytesV (dA.setIfInBounds (j+1) (Lib.sm (v % 100*2+1))).toList++post) 180 none) rfl rfl hk1
  generalize hg1:hA.setl kb (.cells (pre++bytesV (dA.setIfInBounds (j+1) (Lib.sm (v % 100*2+1))).toList++post) 180 none)=g1 at R1 M1
  have s2:=st_row hp R1 j (by rw[Array.size_setIfInBounds];omega) (Lib.sm (v % 100*2))
  have hk2:=M1.fit.lt R1
  have FB:=FA.step2'
  have RB:Row kb pre post _ (g1.setl kb (.cells (pre++bytesV ((dA.setIfInBounds (j+1) (Lib.sm (v % 100*2+1))).setIfInBounds j (Lib.sm (v % 100*2))).toList++post) 180 none)):=Row.next
  have MB:=M1.setl (k:=kb) (B:=.cells (pre++bytesV ((dA.setIfInBounds (j+1) (Lib.sm (v % 100*2+1))).setIfInBounds j (Lib.sm (v % 100*2))).toList++post) 180 none) rfl rfl hk2
  repeat' (with_reducible apply Wc.seq)
  refine Wc.drawQ 1 (by kernel_rfl) ?_
  (iterate 12 ((first|apply Qp rfl rfl rfl|apply FQ.new rfl rfl);focus ((try simp +decide only[Oy,n0,q0,q4,q16,w1,w2,wx,qia31 _ _ _ _ hr1,Hx,Int.toNat_natCast,x1,x2]);with_reducible rfl)))
  refine FQ.setl (k:=kb) (B:=.cells (pre++bytesV (dA.setIfInBounds (j+1) (Lib.sm (v % 100*2+1))).toList++post) 180 none) (x:=undef) rfl rfl hk1 (by simp +decide only[Oy,n0,s1]) ?_
  rw[hg1]
  (iterate 1 ((first|apply Qp rfl rfl rfl|apply FQ.new rfl rfl);focus ((try simp +decide only[Oy,n0,qia31 _ _ _ _ hr2,Hx,Int.toNat_natCast]);with_reducible rfl)))
  refine FQ.setl (k:=kb) (B:=.cells (pre++bytesV ((dA.setIfInBounds (j+1) (Lib.sm (v % 100*2+1))).setIfInBounds j (Lib.sm (v % 100*2))).toList++post) 180 none) (x:=undef) rfl rfl hk2 (by simp +decide only[Oy,n0,s2]) ?_
  refine FQ.nil ⟨?_,?_⟩
  ·exact allMeet_but [12,14] 15 [(3,12),(4,12),(5,12),(9,12),(10,12)] rfl rfl (by kernel_rfl) (fun _ _ _ _ hU e1 e2=>by simp only[List.mem_cons,Prod.mk.injEq,List.not_mem_nil,or_false] at hU;rcases hU with⟨rfl,rfl⟩|⟨rfl,rfl⟩|⟨rfl,rfl⟩|⟨rfl,rfl⟩|⟨rfl,rfl⟩<;>(cases e1;cases e2;exact meets_right (l:=[]) rfl rfl (fun _ _=>List.not_mem_nil) rfl (fun j _=>Nat.lt_or_ge _ _)))
  generalize g1.setl kb (.cells (pre++bytesV ((dA.setIfInBounds (j+1) (Lib.sm (v % 100*2+1))).setIfInBounds j (Lib.sm (v % 100*2))).toList++post) 180 none)=hB at RB MB ⊢
  generalize ((dA.setIfInBounds (j+1) (Lib.sm (v % 100*2+1))).setIfInBounds j (Lib.sm (v % 100*2)))=dB at FB RB
  clear w1 w2 wx hr1 hr2 x1 x2 s1 s2 R1 M1 hk1 hk2 hg1 hz hpp
  refine Wc.forget (fun A=>A.n=167∧A.defers=[]∧A.get 0=.slice (some (aadd (own kb) 1)) nd c∧A.get 4=.int .i64 ((j+2:Nat):Int)∧A.get 12=.int .u32 ((v / 100:Nat):Int)) (by and_intros<;>simp +decide only[Gs,n0,d0,q0,q4,q12,q16]<;>rfl) ?_
  rintro A0 ⟨n0,d0,q0,q4,q12⟩
  have wj:IntKind.i64.wrap (((j+2:Nat):Int)-2)=(j:Int):=by rw[wrap64 (by omega) (by omega)];omega
  repeat' (first|with_reducible apply Ws|(apply Wp;focus ((repeat ((with_reducible apply Rr rfl);focus ((try simp +decide only[Oy,n0,q4,wj]);with_reducible rfl)));with_reducible exact Rn))|(refine W2 (by simp +decide only[Cx,n0,q4,wj];try with_reducible rfl) (fun hb=>?_) (fun hb=>?_)<;>try contradiction)|apply W3|apply W4|apply W5|apply W6)
  exact⟨rfl,by simp +decide only[Gs,n0],by simp +decide only[Gs,d0],by simp +decide only[Gs,n0,q0],j,_,dB,by simp +decide only[Gs,n0],by simp +decide only[Gs,n0,q12],by omega,FB,RB,MB⟩
 rintro ex A0 hA ⟨rfl,n0,d0,q0,i,v,dA,q4,q12,hi,FA,RA,MA⟩
 simp only[]
 rcases Nat.eq_zero_or_pos i with rfl|hi0
 ·have e4:decide (((0:Nat):Int)>0)=false:=rfl
  have hv:v=0:=by have:=FA.small;simpa using this
  subst hv
  repeat' (first|with_reducible apply Ws|(apply Wp;focus ((repeat ((with_reducible apply Rr rfl);focus ((try simp +decide only[Oy,n0,q4,e4]);with_reducible rfl)));with_reducible exact Rn))|(refine W2 (by simp +decide only[Cx,n0,q4,e4];try with_reducible rfl) (fun hb=>?_) (fun hb=>?_)<;>try contradiction)|apply W3|apply W4|apply W5|apply W6)
  refine⟨.inl rfl,hA,.tuple #[],(by simp +decide only[Gs,d0];rfl),by unfold ares;rfl,rfl,MA,dA,FA,RA⟩
 ·obtain rfl:i=1:=by omega
  have e4:decide (((1:Nat):Int)>0)=true:=rfl
  have hv:v<10:=by have:=FA.small;simpa using this
  have hle:=FA.le
  have hz:=FA.size
  have wa:IntKind.u32.wrap (48+(v:Int))=((48+v:Nat):Int):=by
   rw[show (48+(v:Int))=((48+v:Nat):Int) by omega];exact wrapU32 (by omega)
  have wb:IntKind.u8.wrap ((48+v:Nat):Int)=(((UInt8.ofNat (48+v)).toNat:Nat):Int):=by
   rw[show (UInt8.ofNat (48+v)).toNat=48+v by simp;omega]
   exact wrapU8 (by omega)
  have hr:inRange (0:Int) nd=true:=by show Nat.blt 0 nd=true;rw[Nat.blt_eq];omega
  have s1:=st_row0 hp RA 0 (by omega) (UInt8.ofNat (48+v))
  have hk:=MA.fit.lt RA
  have R1:Row kb pre post _ (hA.setl kb (.cells (pre++bytesV (dA.setIfInBounds 0 (UInt8.ofNat (48+v))).toList++post) 180 none)):=Row.next
  have M1:=MA.setl (k:=kb) (B:=.cells (pre++bytesV (dA.setIfInBounds 0 (UInt8.ofNat (48+v))).toList++post) 180 none) rfl rfl hk
  have F1:=FA.step1
  have s1:astore tab 5 (aadd (own kb) (1+(0:Int).toNat*1)) (.int .u8 ((UInt8.ofNat (48+v)).toNat:Nat)) hA=_:=s1
  repeat' (first|with_reducible apply Ws|(apply Wp;focus ((repeat ((with_reducible apply Rr rfl);focus ((try simp +decide only[Oy,n0,q0,q4,q12,e4,wa,icv164_5,wb,qia31 _ _ _ _ hr,Hx,s1]);with_reducible rfl)));with_reducible exact Rn))|(refine W2 (by simp +decide only[Cx,n0,q0,q4,q12,e4,wa,icv164_5,wb,qia31 _ _ _ _ hr];try with_reducible rfl) (fun hb=>?_) (fun hb=>?_)<;>try contradiction)|apply W3|apply W4|apply W5|apply W6)
  exact⟨.inl rfl,_,.tuple #[],(by simp +decide only[Gs,d0];rfl),by unfold ares;rfl,rfl,M1,_,F1,R1⟩
theorem digits36_lit:Lib.digits36=⟨[48,49,50,51,52,53,54,55,56,57,97,98,99,100,101,102,103,104,105,106,107,108,109,110,111,112,113,114,115,116,117,118,119,120,121,122].toArray⟩:=by kernel_rfl
theorem isl9 {s:ByteArray} {p q:Nat} (h1:p≤q) (h2:q≤s.data.toList.length) {h:H}:aslice tab 9 (.string s) (some (.int .i64 (p:Nat))) (some (.int .i64 (q:Nat))) none h=some (.string ⟨⟨(s.data.toList.drop p).take (q-p)⟩⟩,h):=by
 have e1:inRange ((q:Nat):Int) (s.data.toList.length+1)=true:=by show Nat.blt q _=true;rw[Nat.blt_eq];omega
 have e2:inRange ((p:Nat):Int) (q+1)=true:=by show Nat.blt p _=true;rw[Nat.blt_eq];omega
 unfold aslice
 rw[qty9]
 simp only[abound,e1,e2,Int.toNat_natCast]
theorem sl36 (i:Nat) (hi:i<10) {h:H}:aslice tab 9 (.string ⟨[48,49,50,51,52,53,54,55,56,57,97,98,99,100,101,102,103,104,105,106,107,108,109,110,111,112,113,114,115,116,117,118,119,120,121,122].toArray⟩) (some (.int .i64 (i:Nat))) (some (.int .i64 ((i+1:Nat):Int))) none h=some (.string ⟨⟨Lib.decDigits i⟩⟩,h):=by
 rw[← digits36_lit]
 have hl:Lib.digits36.data.toList.length=36:=Lib.digits36_size
 rw[isl9 (by omega) (by rw[hl];omega),Lib.digits36_piece hi]
theorem sl200 (i:Nat) (h1:¬ i<10) (h2:i<100) {h:H}:aslice tab 9 (.string ⟨(([48,48,48,49,48,50,48,51,48,52,48,53,48,54,48,55,48,56,48,57,49,48,49,49,49,50,49,51,49,52,49,53,49,54,49,55,49,56,49,57,50,48,50,49,50,50,50,51,50,52].append [50,53,50,54,50,55,50,56,50,57,51,48,51,49,51,50,51,51,51,52,51,53,51,54,51,55,51,56,51,57,52,48,52,49,52,50,52,51,52,52,52,53,52,54,52,55,52,56,52,57]).append ([53,48,53,49,53,50,53,51,53,52,53,53,53,54,53,55,53,56,53,57,54,48,54,49,54,50,54,51,54,52,54,53,54,54,54,55,54,56,54,57,55,48,55,49,55,50,55,51,55,52].append [55,53,55,54,55,55,55,56,55,57,56,48,56,49,56,50,56,51,56,52,56,53,56,54,56,55,56,56,56,57,57,48,57,49,57,50,57,51,57,52,57,53,57,54,57,55,57,56,57,57])).toArray⟩) (some (.int .i64 ((i*2:Nat):Int))) (some (.int .i64 ((i*2+2:Nat):Int))) none h=some (.string ⟨⟨Lib.decDigits i⟩⟩,h):=by
 rw[← smalls_lit]
 have hl:Lib.smalls.data.toList.length=200:=Lib.smalls_size
 rw[isl9 (by omega) (by rw[hl];omega),Lib.smalls_piece h1 h2]
theorem len8_lit:∀ i:Fin 256,((([0,1,2,2,3,3,3,3,4,4,4,4,4,4,4,4,5,5,5,5,5,5,5,5,5,5,5,5,5,5,5,5,6,6,6,6,6,6,6,6,6,6,6,6,6,6,6,6,6,6,6,6,6,6,6,6,6,6,6,6,6,6,6,6].append [7,7,7,7,7,7,7,7,7,7,7,7,7,7,7,7,7,7,7,7,7,7,7,7,7,7,7,7,7,7,7,7,7,7,7,7,7,7,7,7,7,7,7,7,7,7,7,7,7,7,7,7,7,7,7,7,7,7,7,7,7,7,7,7]).append ([8,8,8,8,8,8,8,8,8,8,8,8,8,8,8,8,8,8,8,8,8,8,8,8,8,8,8,8,8,8,8,8,8,8,8,8,8,8,8,8,8,8,8,8,8,8,8,8,8,8,8,8,8,8,8,8,8,8,8,8,8,8,8,8].append [8,8,8,8,8,8,8,8,8,8,8,8,8,8,8,8,8,8,8,8,8,8,8,8,8,8,8,8,8,8,8,8,8,8,8,8,8,8,8,8,8,8,8,8,8,8,8,8,8,8,8,8,8,8,8,8,8,8,8,8,8,8,8,8])):List UInt8)[i.val]? = some (UInt8.ofNat (Lib.bitLen i.val)):=by decide +kernel
theorem ixL (i:Nat) (hi:i<256):aindex tab 9 (.string ⟨(([0,1,2,2,3,3,3,3,4,4,4,4,4,4,4,4,5,5,5,5,5,5,5,5,5,5,5,5,5,5,5,5,6,6,6,6,6,6,6,6,6,6,6,6,6,6,6,6,6,6,6,6,6,6,6,6,6,6,6,6,6,6,6,6].append [7,7,7,7,7,7,7,7,7,7,7,7,7,7,7,7,7,7,7,7,7,7,7,7,7,7,7,7,7,7,7,7,7,7,7,7,7,7,7,7,7,7,7,7,7,7,7,7,7,7,7,7,7,7,7,7,7,7,7,7,7,7,7,7]).append ([8,8,8,8,8,8,8,8,8,8,8,8,8,8,8,8,8,8,8,8,8,8,8,8,8,8,8,8,8,8,8,8,8,8,8,8,8,8,8,8,8,8,8,8,8,8,8,8,8,8,8,8,8,8,8,8,8,8,8,8,8,8,8,8].append [8,8,8,8,8,8,8,8,8,8,8,8,8,8,8,8,8,8,8,8,8,8,8,8,8,8,8,8,8,8,8,8,8,8,8,8,8,8,8,8,8,8,8,8,8,8,8,8,8,8,8,8,8,8,8,8,8,8,8,8,8,8,8,8])).toArray⟩) (.int .u8 (i:Nat))=some (.int .u8 ((Lib.bitLen i:Nat):Int)):=by
 have h1:=len8_lit ⟨i,hi⟩
 have hb:=Lib.bitLen_le8 ⟨i,hi⟩
 generalize hL:((([0,1,2,2,3,3,3,3,4,4,4,4,4,4,4,4,5,5,5,5,5,5,5,5,5,5,5,5,5,5,5,5,6,6,6,6,6,6,6,6,6,6,6,6,6,6,6,6,6,6,6,6,6,6,6,6,6,6,6,6,6,6,6,6].append [7,7,7,7,7,7,7,7,7,7,7,7,7,7,7,7,7,7,7,7,7,7,7,7,7,7,7,7,7,7,7,7,7,7,7,7,7,7,7,7,7,7,7,7,7,7,7,7,7,7,7,7,7,7,7,7,7,7,7,7,7,7,7,7]).append ([8,8,8,8,8,8,8,8,8,8,8,8,8,8,8,8,8,8,8,8,8,8,8,8,8,8,8,8,8,8,8,8,8,8,8,8,8,8,8,8,8,8,8,8,8,8,8,8,8,8,8,8,8,8,8,8,8,8,8,8,8,8,8,8].append [8,8,8,8,8,8,8,8,8,8,8,8,8,8,8,8,8,8,8,8,8,8,8,8,8,8,8,8,8,8,8,8,8,8,8,8,8,8,8,8,8,8,8,8,8,8,8,8,8,8,8,8,8,8,8,8,8,8,8,8,8,8,8,8])):List UInt8)=L at h1 ⊢
 have h2:inRange (i:Nat) L.length=true:=by
  show Nat.blt i _=true
  rw[Nat.blt_eq]
  exact (List.getElem?_eq_some_iff.1 h1).1
 have h3:L[i]? = some (UInt8.ofNat (Lib.bitLen i)):=h1
 unfold aindex
 simp only[qty9,List.toList_toArray,h2,Int.toNat_natCast,h3]
 have:(UInt8.ofNat (Lib.bitLen i)).toNat=Lib.bitLen i:=by
  have h4:Lib.bitLen i≤8:=hb
  simp
  omega
 rw[this]
end Go.Proofs.YtofijpbmbmbnhaaDoor
