/- Items as bytes. -/
import Derived.Test.YtofijpbmbmbnhaaDoorHsao
set_option linter.unusedSimpArgs false
set_option linter.unusedVariables false
set_option maxRecDepth 100000
set_option maxHeartbeats 16000000
namespace Go.Proofs.YtofijpbmbmbnhaaDoor
open Go Go.Hs Go.Proofs
variable {E:Env} {I:Known}
theorem fn61:tab.fn.get 61=some Tryd.f61:=by kernel_rfl
noncomputable def loop61:Code:=loopOf Tryd.f61
theorem qbs176_2 {a b:Value} (h1:[a,b].all isOne=true) (h2:a.cells.toList=[a]) (h3:b.cells.toList=[b]) {h:H}:abuildSlice tab 176 2 [(0,a),(1,b)] h=some (.slice (some (own h.next)) 2 2,h.new (.cells [a,b] 31 none)):=by
 unfold abuildSlice
 simp only[ty176,qtz31,afill,h2,h3]
 rfl
theorem qbs176_4 {a b c d:Value} (h2:a.cells.toList=[a]) (h3:b.cells.toList=[b]) (h4:c.cells.toList=[c]) (h5:d.cells.toList=[d]) {h:H}:abuildSlice tab 176 4 [(0,a),(1,b),(2,c),(3,d)] h=some (.slice (some (own h.next)) 4 4,h.new (.cells [a,b,c,d] 31 none)):=by
 unfold abuildSlice
 simp only[ty176,qtz31,afill,h2,h3,h4,h5]
 rfl
theorem qcv9_31 (s:ByteArray) {h:H}:aconvert tab E 9 31 (.string s) h=some (.slice (some (own h.next)) s.data.toList.length s.data.toList.length,h.newOpen (bytesV s.data.toList) 5):=by
 unfold aconvert
 simp only[qty9,qty31,qty5]
theorem byt_one {g:H} {v:Value} {bs:List UInt8} (b:Byt E g v bs):isOne v=true∧v.cells.toList=[v]:=by
 obtain⟨a,c,rfl⟩:=b.slice
 exact⟨rfl,rfl⟩
def txtB (tx:ByteArray):List UInt8:=if tx.data.toList=[] then [] else numB tx.data.toList.length++tx.data.toList
def kidB (ks:List Hs.Item):List UInt8:=if ks.length=0 then [] else numB ks.length++encL ks
theorem encI_eq (k n:Int) (tx:ByteArray) (ks:List Hs.Item):encI (.mk k n tx ks)=UInt8.ofNat (k.toNat+(if tx.data.toList=[] then 0 else 64)+(if ks.length=0 then 0 else 128))::(numB n.toNat++(txtB tx++kidB ks)):=by
 rw[encI];rfl
theorem encL_take:∀ {ks:List Hs.Item} {i:Nat} (hi:i<ks.length),encL (ks.take (i+1))=encL (ks.take i)++encI ks[i]
 | [],i,hi=>by simp at hi
 | x::xs,0,_=>by simp[encL]
 | x::xs,i+1,hi=>by
  rw[List.take_succ_cons,List.take_succ_cons,encL,encL,encL_take (by simpa using hi),List.append_assoc]
  rfl
theorem encL_le:∀ (ks:List Hs.Item) (i:Nat),(encL (ks.take i)).length≤(encL ks).length
 | [],i=>by simp
 | x::xs,0=>by simp[encL]
 | x::xs,i+1=>by
  rw[List.take_succ_cons,encL,encL,List.length_append,List.length_append]
  have:=encL_le xs i
  omega
theorem _root_.Go.Hs.Con.bytO {tb:TypeId} {base n lo:Nat} {g:H} {sl:Value} {bs:List UInt8} (K:Con tb base n g sl bs) (f:Fit g) (hlo:lo≤base):Byt E (only (fun r=>Nat.ble lo r) g) sl bs:=by
 obtain⟨k,rest,rfl,hb,hn,ho,_,hk⟩:=K
 have hb':(only (fun r=>Nat.ble lo r) g).blk k=some (.cells (bytesV bs++rest) tb (some (k,0))):=(only_blk f).2 ⟨hb,_,_,_,_,rfl,by rw[Nat.ble_eq];omega⟩
 refine .inr ⟨own k,n,rfl,by omega,?_⟩
 have h1:=blk_cells (E:=E) hb' rfl (by rw[List.all_append,bytesV_one,ho];rfl)
 have h2:=cells_sub h1 (m:=0) (l:=bs.length) (by rw[List.length_append,bytesV_length];omega)
 rw[aadd_zero,List.drop_zero] at h2
 rw[h2]
 congr 1
 rw[← bytesV_length bs,List.take_left]
theorem enc61 (hI:∀ f args h,(f=61∨f=96∨f=97∨f=122∨f=127)→I f args h=none):∀ (z:Nat) (t:Hs.Item) (xv:Value) (h:H),isz t≤z→rep E h t xv→Fit h→goodI t→isz t≤5000→(encI t).length≤1000000→
  ∃ n v h',(ev tab E I n).call 61 [xv] h=some (v,h')∧(Mod (fun _=>False) h h'∧Byt E (only (fun r=>Nat.ble h.next r) h') v (encI t)):=by
 have hI97:∀ args h,I 97 args h=none:=fun args h=>hI _ args h (by simp)
 have hI96:∀ f args h,(f=96∨f=122∨f=127)→I f args h=none:=fun f args h hf=>hI f args h (by rcases hf with h|h|h<;>simp[h])
 intro z
 induction z with
 | zero=>
  intro t xv h hz
  have:1≤isz t:=by obtain⟨_,_,_,_⟩:=t;rw[isz];omega
  omega
 | succ z IH=>
 intro t xv h hz hr f hg h5 hlen
 obtain⟨k,n,tx,ks⟩:=t
 rw[encI_eq,List.length_cons,List.length_append,List.length_append] at hlen
 rw[isz] at hz h5
 rw[goodI] at hg
 obtain⟨g1,g2,g3,g4,g5,g6⟩:=hg
 obtain⟨sb,sc,rfl,hsk⟩:=rep_slice hr
 have hkl:=len_iszE ks
 apply Wk (hI _ _ _ (.inl rfl)) fn61 rfl
 intro A0 n0 d0 hA0
 change A0.n=56 at n0
 have q0:A0.get 0=.agg ⟨[.int .i64 k,.int .i64 n,.string tx,.slice sb ks.length sc]⟩:=hA0 0 _ rfl
 clear hA0
 generalize hh1:h.new (.cells (Value.agg ⟨[.int .i64 k,.int .i64 n,.string tx,.slice sb ks.length sc]⟩).cells.toList 25 none)=h1
 have t1:Ahd h h1:=by rw[← hh1];exact Ahd.new0 f rfl
 have b1:h1.blk h.next=some (.cells [.int .i64 k,.int .i64 n,.string tx,.slice sb ks.length sc] 25 none):=by rw[← hh1];exact new_blk_new rfl
 have M1:Mod (fun _=>False) h h1:=t1.mod
 have cel:∀ {g:H},Mod (fun _=>False) h1 g→g.cell E (own h.next)=some (.int .i64 k)∧g.cell E (aadd (own h.next) 1)=some (.int .i64 n)∧g.cell E (aadd (own h.next) 2)=some (.string tx)∧g.cell E (aadd (own h.next) 3)=some (.slice sb ks.length sc):=fun m=>by
  have b:=m.gof2 _ _ b1
  exact⟨cell_blk0 b,cell_blk b 1,cell_blk b 2,cell_blk b 3⟩
 obtain⟨c0,c1,c2,c3⟩:=cel (Mod.refl t1.fit)
 obtain⟨kn,hkn⟩:∃ m:Nat,k=(m:Int):=⟨k.toNat,by omega⟩
 obtain⟨nn,hnn⟩:∃ m:Nat,n=(m:Int):=⟨n.toNat,by omega⟩
 subst hkn hnn
 rw[Int.toNat_natCast] at hlen
 have w1:IntKind.u8.wrap ((kn:Nat):Int)=((kn:Nat):Int):=wrapU8 (by omega)
 have w2:IntKind.u8.wrap ((kn:Int)+64)=((kn+64:Nat):Int):=by rw[show ((kn:Int)+64)=((kn+64:Nat):Int) by omega];exact wrapU8 (by omega)
 have en:astr .neq tx.data.toList []=some (.bool (!(tx.data.toList == []))):=rfl
 generalize hh0:(if tx.data.toList=[] then 0 else 64:Nat)=ht at hlen ⊢
 (repeat' (with_reducible apply Ws));(apply Wn 1;focus ((repeat ((with_reducible apply Rr rfl);focus ((try simp +decide only[Oz,n0,q0,hh1]);with_reducible rfl)));with_reducible exact Rn))
 (repeat' (with_reducible apply Ws));(apply Wn 1;focus ((repeat ((with_reducible apply Rr rfl);focus ((try simp +decide only[Oz,n0,Qx,Hx,c0,qcv3_5,w1]);with_reducible rfl)));with_reducible exact Rn))
 (repeat' (with_reducible apply Ws));(apply Wn 1;focus ((repeat ((with_reducible apply Rr rfl);focus ((try simp +decide only[Oz,n0]);with_reducible rfl)));with_reducible exact Rn))
 (repeat' (with_reducible apply Ws));(apply Wn 1;focus ((repeat ((with_reducible apply Rr rfl);focus ((try simp +decide only[Oz,n0,Qx,Hx,c2,en]);with_reducible rfl)));with_reducible exact Rn))
 refine Wc.forget (fun A=>A.n=56∧A.defers=[]∧A.get 1=.pointer (some (own h.next))∧A.get 3=.int .u8 (kn:Nat)∧A.get 4=.slice none 0 0∧A.get 5=.slice none 0 0∧A.get 13=.bool (!(tx.data.toList == []))) (by and_intros<;>simp +decide only[Gz,n0,d0]<;>rfl) ?_
 rintro A0 ⟨n0,d0,q1,q3,q4,q5,q13⟩
 refine Wc.mono (Q:=fun ex A g=>ex=.normal∧A.n=56∧A.defers=[]∧A.get 1=.pointer (some (own h.next))∧A.get 3=.int .u8 (kn+(if tx.data.toList=[] then 0 else 64):Nat)∧A.get 5=.slice none 0 0∧∃ v4,A.get 4=v4∧Mod (fun _=>False) h1 g∧Byt E g v4 (txtB tx)) ?_ ?_
 ·by_cases htx:tx.data.toList=[]
  ·have eb:(tx.data.toList == ([]:List UInt8))=true:=by rw[htx];rfl
   repeat' (first|with_reducible apply Ws|(apply Wp;focus ((repeat ((with_reducible apply Rr rfl);focus ((try simp +decide only[Oz,n0,q13,eb]);with_reducible rfl)));with_reducible exact Rn))|(refine W2 (by simp +decide only[Cz,n0,q13,eb];try with_reducible rfl) (fun hb=>?_) (fun hb=>?_)<;>try contradiction)|apply W3|apply W4|apply W5|apply W6)
   exact⟨rfl,by simp +decide only[Gz,n0],by simp +decide only[Gz,d0],by simp +decide only[Gz,n0,q1],by rw[if_pos htx,Nat.add_zero];simp +decide only[Gz,n0,q3],by simp +decide only[Gz,n0,q5],_,by simp +decide only[Gz,n0,q4],Mod.refl t1.fit,.inl ⟨rfl,by rw[txtB,if_pos htx]⟩⟩
  ·have eb:(tx.data.toList == ([]:List UInt8))=false:=by simpa using htx
   have hpos:=List.length_pos_iff.2 htx
   obtain⟨n7,v7,qa,c7,m7,K7⟩:=numB97 (E:=E) (I:=I) hI97 t1.fit.fresh tx.data.toList.length (by omega)
   obtain⟨ma,ba,na,_⟩:=Mod.back t1.fit m7
   have B7:Byt E (back h1 qa) v7 (numB tx.data.toList.length):=(K7.byt (E:=E)).grow (fun k B hB=>by rw[back_blk];exact hB)
   generalize hh2:back h1 qa=h2 at ma B7
   obtain⟨_,_,c2',_⟩:=cel ma
   have tO:=Ahd.newOpen ma.fit.fresh (bytesV tx.data.toList) 5
   obtain⟨t3,b3,n3,_⟩:=Ahd.back ma.fit tO
   have bO:(back h2 ((fresh h2).newOpen (bytesV tx.data.toList) 5)).blk h2.next=some (.cells (bytesV tx.data.toList) 5 (some (h2.next,0))):=by rw[back_blk];exact newOpen_new (h:=fresh h2)
   generalize hh3:back h2 ((fresh h2).newOpen (bytesV tx.data.toList) 5)=h3 at t3 bO
   have B6:Byt E h3 (.slice (some (own h2.next)) tx.data.toList.length tx.data.toList.length) tx.data.toList:=.inr ⟨own h2.next,_,rfl,Nat.le_refl _,blk_cells bO (bytesV_length _) (bytesV_one _)⟩
   have B73:=B7.grow t3.grows
   obtain⟨o7,e7⟩:=byt_one B7
   have hbs:=qbs176_2 (a:=v7) (b:=.slice (some (own h2.next)) tx.data.toList.length tx.data.toList.length) (by rw[List.all_cons,o7];rfl) e7 rfl (h:=fresh h3)
   generalize hZ:(Blk.cells [v7,.slice (some (own h2.next)) tx.data.toList.length tx.data.toList.length] 31 none)=Z at hbs
   generalize hh4:h3.new Z=h4
   have t4:Ahd h3 h4:=by rw[← hh4,← hZ];exact Ahd.new0 t3.fit rfl
   have b4:h4.blk h3.next=some (.cells [v7,.slice (some (own h2.next)) tx.data.toList.length tx.data.toList.length] 31 none):=by rw[← hh4,← hZ];exact new_blk_new rfl
   have hall:allB [(v7,numB tx.data.toList.length),(.slice (some (own h2.next)) tx.data.toList.length tx.data.toList.length,tx.data.toList)]=txtB tx:=by
    rw[txtB,if_neg htx]
    simp[allB]
   have htl:(txtB tx).length≤1000000:=by omega
   have htp:0<(txtB tx).length:=by rw[txtB,if_neg htx,List.length_append];omega
   obtain⟨n8,v8,qb,c8,m8,nn8,K8⟩:=join96 (E:=E) (I:=I) hI96 (L:=[(v7,numB tx.data.toList.length),(.slice (some (own h2.next)) tx.data.toList.length tx.data.toList.length,tx.data.toList)]) (kp:=h3.next) (c:=2) t4.fit.fresh b4 (fun x hx=>by
    simp only[List.mem_cons,List.not_mem_nil,or_false] at hx
    rcases hx with rfl|rfl
    ·exact (B73.grow t4.grows).grow (g:=Hs.fresh h4) (fun _ _ hB=>hB)
    ·exact (B6.grow t4.grows).grow (g:=Hs.fresh h4) (fun _ _ hB=>hB)) (by rw[hall];exact htp) (by rw[hall];exact htl) (by simp)
   rw[hall] at K8
   have c8:(ev tab E I n8).call 96 [.slice (some (own h3.next)) 2 2] (fresh h4)=some (v8,qb):=c8
   obtain⟨mb,bb,nb,_⟩:=Mod.back t4.fit m8
   have B8:Byt E (back h4 qb) v8 (txtB tx):=(K8.byt (E:=E)).grow (fun k B hB=>by rw[back_blk];exact hB)
   have c7f:=(ev_mono (D:=tab) (E:=E) I (Nat.le_max_left n7 n8)).call c7
   have c8f:=(ev_mono (D:=tab) (E:=E) I (Nat.le_max_right n7 n8)).call c8
   repeat' (first|with_reducible apply Ws|(apply Wp;focus ((repeat ((with_reducible apply Rr rfl);focus ((try simp +decide only[Oz,n0,q3,q13,eb,w2]);with_reducible rfl)));with_reducible exact Rn))|(refine W2 (by simp +decide only[Cz,n0,q3,q13,eb,w2];try with_reducible rfl) (fun hb=>?_) (fun hb=>?_)<;>try contradiction)|apply W3|apply W4|apply W5|apply W6)
   refine Wc.drawC (max n7 n8) (by kernel_rfl) ?_
   (iterate 3 ((first|apply Fp rfl rfl rfl|apply FC.new rfl rfl);focus ((try simp +decide only[Oz,n0,q1,Qx,Hx,c2]);with_reducible rfl)))
   refine FC.call (h1:=qa) (x:=v7) rfl rfl (by simp +decide only[Oz,n0,c7f]) m7.quiet ?_
   rw[hh2]
   (iterate 2 ((first|apply Fp rfl rfl rfl|apply FC.new rfl rfl);focus ((try simp +decide only[Oz,n0,q1,Qx,Hx,c2']);with_reducible rfl)))
   refine FC.call (h1:=(fresh h2).newOpen (bytesV tx.data.toList) 5) (x:=.slice (some (own h2.next)) tx.data.toList.length tx.data.toList.length) rfl rfl (by simp +decide only[Oz,n0,qcv9_31,Hx]) rfl ?_
   rw[hh3]
   refine FC.new (x:=.slice (some (own h3.next)) 2 2) (B:=Z) rfl rfl (by simp +decide only[Oz,n0,hbs,Hx]) ?_
   rw[hh4]
   refine FC.call (h1:=qb) (x:=v8) rfl rfl (by simp +decide only[Oz,n0,c8f]) m8.quiet ?_
   (iterate 1 ((first|apply Fp rfl rfl rfl|apply FC.new rfl rfl);focus ((try simp +decide only[Oz,n0]);with_reducible rfl)))
   refine FC.nil ?_
   exact⟨rfl,by simp +decide only[Gz,n0],by simp +decide only[Gz,d0],by simp +decide only[Gz,n0,q1],by rw[if_neg htx];simp +decide only[Gz,n0],by simp +decide only[Gz,n0,q5],_,by simp +decide only[Gz,n0],(ma.trans t3.mod).trans (t4.mod.trans mb),B8⟩
 rintro ex A0 g ⟨rfl,n0,d0,q1,q3,q5,v4,q4,M,B4⟩
 simp only[]
 rw[hh0] at q3
 obtain⟨c0,c1,_,c3⟩:=cel M
 have hht:ht≤64:=by rw[← hh0];split<;>omega
 have w3:IntKind.u8.wrap (((kn+ht:Nat):Int)+128)=((kn+ht+128:Nat):Int):=by rw[show (((kn+ht:Nat):Int)+128)=((kn+ht+128:Nat):Int) by omega];exact wrapU8 (by omega)
 have e1:decide ((ks.length:Int)>0)=decide (ks.length≠0):=by
  by_cases h:ks.length=0
  ·rw[decide_eq_false (by omega),decide_eq_false (by omega)]
  ·rw[decide_eq_true (by omega),decide_eq_true h]
 (repeat' (with_reducible apply Ws));(apply Wn 1;focus ((repeat ((with_reducible apply Rr rfl);focus ((try simp +decide only[Oz,n0,q1,Qx,Hx,c3,e1]);with_reducible rfl)));with_reducible exact Rn))
 refine Wc.forget (fun A=>A.n=56∧A.defers=[]∧A.get 1=.pointer (some (own h.next))∧A.get 3=.int .u8 (kn+ht:Nat)∧A.get 4=v4∧A.get 5=.slice none 0 0∧A.get 28=.bool (decide (ks.length≠0))) (by and_intros<;>simp +decide only[Gz,n0,d0,q1,q3,q4,q5]<;>rfl) ?_
 rintro A0 ⟨n0,d0,q1,q3,q4,q5,q28⟩
 refine Wc.mono (Q:=fun ex A g'=>ex=.normal∧A.n=56∧A.defers=[]∧A.get 1=.pointer (some (own h.next))∧A.get 3=.int .u8 (kn+ht+(if ks.length=0 then 0 else 128):Nat)∧A.get 4=v4∧∃ v5,A.get 5=v5∧Mod (fun _=>False) g g'∧Byt E g' v5 (kidB ks)) ?_ ?_
 ·by_cases hks:ks.length=0
  ·have eb:decide (ks.length≠0)=false:=decide_eq_false (fun h=>h hks)
   repeat' (first|with_reducible apply Ws|(apply Wp;focus ((repeat ((with_reducible apply Rr rfl);focus ((try simp +decide only[Oz,n0,q28,eb]);with_reducible rfl)));with_reducible exact Rn))|(refine W2 (by simp +decide only[Cz,n0,q28,eb];try with_reducible rfl) (fun hb=>?_) (fun hb=>?_)<;>try contradiction)|apply W3|apply W4|apply W5|apply W6)
   exact⟨rfl,by simp +decide only[Gz,n0],by simp +decide only[Gz,d0],by simp +decide only[Gz,n0,q1],by rw[if_pos hks,Nat.add_zero];simp +decide only[Gz,n0,q3],by simp +decide only[Gz,n0,q4],_,by simp +decide only[Gz,n0,q5],Mod.refl M.fit,.inl ⟨rfl,by rw[kidB,if_pos hks]⟩⟩
  have eb:decide (ks.length≠0)=true:=decide_eq_true hks
  rcases hsk with hk0|⟨a,cs,rfl,hcap,hcs,hrl⟩
  ·rw[hk0] at hks;simp at hks
  have hkB:kidB ks=numB ks.length++encL ks:=by rw[kidB,if_neg hks]
  rw[hkB] at hlen
  rw[List.length_append] at hlen
  obtain⟨n7,v7,g7,c7,m7,K7⟩:=numB97 (E:=E) (I:=I) hI97 M.fit ks.length (by omega)
  obtain⟨_,_,_,c3'⟩:=cel (M.trans m7)
  have key:∀ (r i:Nat) (sl:Value) (A0:Ac) (h2:H),r=ks.length-i→i≤ks.length→A0.n=56→A0.defers=[]→A0.get 1=.pointer (some (own h.next))→A0.get 3=.int .u8 (kn+ht+128:Nat)→A0.get 4=v4→A0.get 5=sl→A0.get 36=.slice (some a) ks.length sc→A0.get 37=.int .i64 (ks.length:Nat)→A0.get 38=.int .i64 (i:Nat)→Mod (fun _=>False) g h2→Bol 5 g.next h2.next h2 sl (numB ks.length++encL (ks.take i))→
    Wc tab E I ⟨61,none⟩ (.loop loop61) A0 h2 (fun ex A' h'=>ex=.exit 0∧A'.n=56∧A'.defers=[]∧A'.get 1=.pointer (some (own h.next))∧A'.get 3=.int .u8 (kn+ht+128:Nat)∧A'.get 4=v4∧∃ sl,A'.get 5=sl∧Mod (fun _=>False) g h'∧Bol 5 g.next h'.next h' sl (numB ks.length++encL ks)):=by
   intro r
   induction r with
   | zero=>
    intro i sl A0 h2 hr hi n0 d0 q1 q3 q4 q5 q36 q37 q38 M2 K
    obtain rfl:i=ks.length:=by omega
    have e1:decide ((ks.length:Int)<(ks.length:Int))=false:=by simp
    rw[List.take_length] at K
    apply Wc.loop
    simp only[loop61,loopOf,firstLoop,Option.getD,Tryd.f61]
    repeat' (first|with_reducible apply Ws|(apply Wp;focus ((repeat ((with_reducible apply Rr rfl);focus ((try simp +decide only[Oz,n0,q37,q38,e1]);with_reducible rfl)));with_reducible exact Rn))|(refine W2 (by simp +decide only[Cz,n0,q37,q38,e1];try with_reducible rfl) (fun hb=>?_) (fun hb=>?_)<;>try contradiction)|apply W3|apply W4|apply W5|apply W6)
    exact⟨rfl,by simp +decide only[Gz,n0],by simp +decide only[Gz,d0],by simp +decide only[Gz,n0,q1],by simp +decide only[Gz,n0,q3],by simp +decide only[Gz,n0,q4],sl,by simp +decide only[Gz,n0,q5],M2,K⟩
   | succ r ih=>
    intro i sl A0 h2 hr hi n0 d0 q1 q3 q4 q5 q36 q37 q38 M2 K
    have hil:i<ks.length:=by omega
    have e1:decide ((i:Int)<(ks.length:Int))=true:=by simp;omega
    have hir:inRange (i:Int) ks.length=true:=by
     show Nat.blt i ks.length=true
     rw[Nat.blt_eq];exact hil
    have w4:IntKind.i64.wrap ((i:Int)+1)=((i+1:Nat):Int):=wrap64 (by omega) (by omega)
    have MM:=(M1.trans M).trans M2
    obtain⟨hl4,hrk⟩:=repL_get i hrl (List.getElem?_eq_getElem hil)
    have hsub:=cells_sub (cells_grow MM.gof2 hcs) (m:=i*4) (l:=4) (by omega)
    obtain⟨l0,l1,l2,l3,hq,ol⟩:=item_four hrk
    rw[hq] at hsub hrk
    have hmem:ks[i]∈ks:=List.getElem_mem hil
    have hsz:=isz_mem hmem
    have hel:=encL_take hil
    have hle:=encL_le ks (i+1)
    have hle0:=encL_le ks i
    rw[hel,List.length_append] at hle
    have t3:Ahd h2 (h2.new (.cells (Value.agg #[.int .i64 0,.int .i64 0,.string ⟨#[]⟩,.slice none 0 0]).cells.toList 25 none)):=Ahd.new0 M2.fit rfl
    have b3:(h2.new (.cells (Value.agg #[.int .i64 0,.int .i64 0,.string ⟨#[]⟩,.slice none 0 0]).cells.toList 25 none)).blk h2.next=some (.cells zeroL 25 none):=new_blk_new rfl
    have s3:=astore_all (ys:=[l0,l1,l2,l3]) qty25 b3 rfl rfl ol (by simp)
    have t4:=t3.setl (k:=h2.next) (B:=.cells [l0,l1,l2,l3] 25 none) rfl (Nat.le_refl _) (t3.fit.lt b3) M2.fit
    have b4:=setl_same (h:=h2.new (.cells (Value.agg #[.int .i64 0,.int .i64 0,.string ⟨#[]⟩,.slice none 0 0]).cells.toList 25 none)) (k:=h2.next) (B:=.cells [l0,l1,l2,l3] 25 none) rfl
    generalize hh3:h2.new (.cells (Value.agg #[.int .i64 0,.int .i64 0,.string ⟨#[]⟩,.slice none 0 0]).cells.toList 25 none)=h3 at s3 t4 b4
    generalize h3.setl h2.next (.cells [l0,l1,l2,l3] 25 none)=h4 at s3 t4 b4
    have x4:h4.cells E (own h2.next) 4=some [l0,l1,l2,l3]:=blk_cells b4 rfl ol
    obtain⟨nf,v,h5,ck,m5,BK⟩:=IH ks[i] _ h4 (by omega) (rep_grow (MM.gof2.trans t4.grows) hrk) t4.fit (goodL_mem g6 hmem) (by omega) (by omega)
    have BK:=BK.grow (only_grows m5.fit)
    have K5:=(K.mod (t4.mod (M:=fun _=>False)) (fun _ _ h=>h.elim)).mod m5 (fun _ _ h=>h.elim)
    have M5:=(M2.trans t4.mod).trans m5
    obtain⟨bv,cv,hv⟩:=BK.slice
    obtain⟨sl',q,happ,K6,AP⟩:=bol_step (D:=tab) (E:=E) (t:=31) (t2:=31) (by_:=1) m5.fit M5.next (Nat.le_trans t4.next m5.next) K5 qty31 qtz5 rfl (by rw[hv];exact qza31 _ _ _) BK (by
     unfold roomy
     simp only[Bool.and_eq_true,Nat.ble_eq,List.length_append];omega)
    have M6:=AP.mod M.fit (Nat.le_refl _) M5
    rw[List.append_assoc,← hel] at K6
    apply Wc.loop
    simp only[loop61,loopOf,firstLoop,Option.getD,Tryd.f61]
    repeat' (first|with_reducible apply Ws|(apply Wn nf;focus ((repeat ((with_reducible apply Rr rfl);focus ((try simp +decide only[Oz,n0,q5,q36,q37,q38,e1,qia23 _ _ _ _ hir,Int.toNat_natCast,Qx,Hx,hsub,qtz25,hh3,s3,x4,ck,happ,w4]);with_reducible rfl)));with_reducible exact Rn))|(refine W2 (by simp +decide only[Cz,n0,q5,q36,q37,q38,e1,qia23 _ _ _ _ hir,Int.toNat_natCast,Qx,Hx,hsub,qtz25,hh3,s3,x4,ck,happ,w4];try with_reducible rfl) (fun hb=>?_) (fun hb=>?_)<;>try contradiction)|apply W3|apply W4|apply W5|apply W6)
    refine ih (i+1) sl' _ q (by omega) (by omega) ?_ ?_ ?_ ?_ ?_ ?_ ?_ ?_ ?_ M6 K6
    ·simp +decide only[Gz,n0]
    ·simp +decide only[Gz,d0]
    ·simp +decide only[Gz,n0,q1]
    ·simp +decide only[Gz,n0,q3]
    ·simp +decide only[Gz,n0,q4]
    ·simp +decide only[Gz,n0]
    ·simp +decide only[Gz,n0,q36]
    ·simp +decide only[Gz,n0,q37]
    ·simp +decide only[Gz,n0]
  repeat' (first|with_reducible apply Ws|(apply Wn n7;focus ((repeat ((with_reducible apply Rr rfl);focus ((try simp +decide only[Oz,n0,q1,q3,q28,eb,w3,Qx,Hx,c3,c7,c3']);with_reducible rfl)));with_reducible exact Rn))|(refine W2 (by simp +decide only[Cz,n0,q1,q3,q28,eb,w3,Qx,Hx,c3,c7,c3'];try with_reducible rfl) (fun hb=>?_) (fun hb=>?_)<;>try contradiction)|apply W3|apply W4|apply W5|apply W6)
  refine (key ks.length 0 v7 _ g7 rfl (Nat.zero_le _) ?_ ?_ ?_ ?_ ?_ ?_ ?_ ?_ ?_ m7 (by rw[List.take_zero,encL,List.append_nil];exact K7)).mono ?_
  ·simp +decide only[Gz,n0]
  ·simp +decide only[Gz,d0]
  ·simp +decide only[Gz,n0,q1]
  ·simp +decide only[Gz,n0]
  ·simp +decide only[Gz,n0,q4]
  ·simp +decide only[Gz,n0]
  ·simp +decide only[Gz,n0]
  ·simp +decide only[Gz,n0]
  ·simp +decide only[Gz,n0]
   rfl
  ·rintro ex A' h' ⟨rfl,a1,a2,a3,a4,a5,sl,a6,a7,a8⟩
   simp only[if_true]
   exact⟨trivial,a1,a2,a3,by rw[if_neg hks];exact a4,a5,sl,a6,a7,by rw[hkB];exact a8.byt⟩
 rintro ex A0 g' ⟨rfl,n0,d0,q1,q3,q4,v5,q5,M',B5⟩
 simp only[]
 generalize hh5:(if ks.length=0 then 0 else 128:Nat)=hk at q3
 have hhk:hk≤128:=by rw[← hh5];split<;>omega
 obtain⟨_,c1,_,_⟩:=cel (M.trans M')
 have hbs:=qbs31 ((kn+ht+hk:Nat):Int) (h:=g')
 obtain⟨g2,t2,hh2,hby⟩:=one_byte (E:=E) M'.fit (kn+ht+hk) (by omega)
 rw[hh2] at hbs
 obtain⟨_,c1,_,_⟩:=cel ((M.trans M').trans t2.mod)
 obtain⟨n7,v7,g3,c7,m7,K7⟩:=numB97 (E:=E) (I:=I) hI97 t2.fit nn (by omega)
 have B4':=B4.grow ((M'.gof2.trans t2.grows).trans m7.gof2)
 have B5':=B5.grow (t2.grows.trans m7.gof2)
 have B1':=hby.grow m7.gof2
 have B7':=K7.byt (E:=E)
 obtain⟨o4,e4⟩:=byt_one B4'
 obtain⟨o5,e5⟩:=byt_one B5'
 obtain⟨o7,e7⟩:=byt_one B7'
 have hbs4:=qbs176_4 (a:=.slice (some (own g'.next)) 1 1) (b:=v7) (c:=v4) (d:=v5) rfl e7 e4 e5 (h:=g3)
 generalize hZ:(Blk.cells [.slice (some (own g'.next)) 1 1,v7,v4,v5] 31 none)=Z at hbs4
 have t4:Ahd g3 (g3.new Z):=by rw[← hZ];exact Ahd.new0 m7.fit rfl
 have b4:(g3.new Z).blk g3.next=some (.cells [.slice (some (own g'.next)) 1 1,v7,v4,v5] 31 none):=by rw[← hZ];exact new_blk_new rfl
 generalize g3.new Z=g4 at hbs4 t4 b4
 have hall:allB [(Value.slice (some (own g'.next)) 1 1,[UInt8.ofNat (kn+ht+hk)]),(v7,numB nn),(v4,txtB tx),(v5,kidB ks)]=UInt8.ofNat (kn+ht+hk)::(numB nn++(txtB tx++kidB ks)):=by simp[allB]
 obtain⟨n8,v8,g5,c8,m8,nn8,K8⟩:=join96 (E:=E) (I:=I) hI96 (L:=[(Value.slice (some (own g'.next)) 1 1,[UInt8.ofNat (kn+ht+hk)]),(v7,numB nn),(v4,txtB tx),(v5,kidB ks)]) (kp:=g3.next) (c:=4) t4.fit b4 (fun x hx=>by
  simp only[List.mem_cons,List.not_mem_nil,or_false] at hx
  rcases hx with rfl|rfl|rfl|rfl
  ·exact B1'.grow t4.grows
  ·exact B7'.grow t4.grows
  ·exact B4'.grow t4.grows
  ·exact B5'.grow t4.grows) (by rw[hall];simp) (by rw[hall,List.length_cons,List.length_append,List.length_append];omega) (by simp)
 rw[hall] at K8
 have c8:(ev tab E I n8).call 96 [.slice (some (own g3.next)) 4 4] g4=some (v8,g5):=c8
 have c7f:=(ev_mono (D:=tab) (E:=E) I (Nat.le_max_left n7 n8)).call c7
 have c8f:=(ev_mono (D:=tab) (E:=E) I (Nat.le_max_right n7 n8)).call c8
 repeat' (first|with_reducible apply Ws|(apply Wn (max n7 n8);focus ((repeat ((with_reducible apply Rr rfl);focus ((try simp +decide only[Oz,n0,q1,q3,q4,q5,hbs,Qx,Hx,c1,c7f,hbs4,c8f]);with_reducible rfl)));with_reducible exact Rn))|(refine W2 (by simp +decide only[Cz,n0,q1,q3,q4,q5,hbs,Qx,Hx,c1,c7f,hbs4,c8f];try with_reducible rfl) (fun hb=>?_) (fun hb=>?_)<;>try contradiction)|apply W3|apply W4|apply W5|apply W6)
 refine done_q (v:=v8) (.inr rfl) (by simp +decide only[Gz,d0]) rfl (by simp +decide only[Gz,n0]) ⟨((((M1.trans M).trans M').trans t2.mod).trans m7).trans (t4.mod.trans m8),?_⟩
 rw[encI_eq,Int.toNat_natCast,Int.toNat_natCast,hh0,hh5]
 exact K8.bytO m8.fit (((((M1.trans M).trans M').trans t2.mod).trans m7).trans t4.mod).next
theorem fn60:tab.fn.get 60=some Tryd.f60:=by kernel_rfl
theorem fn25:tab.fn.get 25=some Tryd.f25:=by kernel_rfl
def Chk (E:Env) (K:Known):Prop:=(∀ t xv h,rep E h t xv→isz t≤1000000→K 35 [xv] h=some (some (.int .i64 (chkI t 0 1).2,h)))∧∀ ks sl h,repK E h ks sl→iszL ks≤1000000→K 65 [sl] h=some (some (.int .i64 (chkAll ks),h))
theorem chkI_fine {t:Hs.Item} (h:goodI t∧lvlI t≤250∧isz t≤5000):(chkI t 0 1).2=0:=chkI_good t 0 1 h.1 (by omega) (by omega) (by omega)
theorem short60 (hI:∀ args h,I 60 args h=none) {g:H} {v:Value} {bs:List UInt8} (hb:Byt E g v bs) (hl:bs.length≤65536) :
  ∃ k x g',(ev tab E I k).call 60 [v] g=some (x,g')∧(x=.tuple #[v,.int .i64 0]∧g'=g):=by
 obtain⟨va,vc,hv⟩:=hb.slice
 have ln:∀ h,alen tab 31 v h=some (.int .i64 (bs.length:Nat)):=fun h=>by rw[hv];exact qlen31 _ _ _
 have e1:decide ((bs.length:Int)>65536)=false:=decide_eq_false (by omega)
 apply Wk (hI _ _) fn60 rfl
 intro A0 n0 d0 hA0
 change A0.n=10 at n0
 have q0:A0.get 0=v:=hA0 0 _ rfl
 clear hA0
 repeat' (first|with_reducible apply Ws|(apply Wp;focus ((repeat ((with_reducible apply Rr rfl);focus ((try simp +decide only[Oy,n0,q0,ln,e1]);with_reducible rfl)));with_reducible exact Rn))|(refine W2 (by simp +decide only[Cx,n0,q0,e1];try with_reducible rfl) (fun hb=>?_) (fun hb=>?_)<;>try contradiction)|apply W3|apply W4|apply W5|apply W6)
 exact done_r2 (v:=v) (x:=.int .i64 0) (.inr rfl) (by simp +decide only[Gs,d0]) rfl (by simp +decide only[Gs,n0,q0]) (by simp +decide only[Gs,n0]) ⟨rfl,rfl⟩
theorem encode25 (hI:∀ f args h,(f=25∨f=60∨f=61∨f=96∨f=97∨f=122∨f=127)→I f args h=none) (kc:Chk E I) {g:H} {t:Hs.Item} {xv:Value} (f:Fit g) (hr:rep E g t xv) (hf:goodI t∧lvlI t≤250∧isz t≤5000) (hl:(encI t).length≤65536) :
  ∃ k x g',(ev tab E I k).call 25 [xv] g=some (x,g')∧(∃ v,x=.tuple #[v,.int .i64 0]∧Mod (fun _=>False) g g'∧Byt E (only (fun r=>Nat.ble g.next r) g') v (encI t)):=by
 obtain⟨la,rfl⟩:∃ l,xv=.agg ⟨l⟩:=by
  obtain⟨k',m',tx',ks'⟩:=t
  obtain⟨sb',sc',rfl,_⟩:=rep_slice hr
  exact⟨_,rfl⟩
 obtain⟨l0,l1,l2,l3,rfl,ol⟩:=item_four hr
 generalize hh1:g.new (.cells (Value.agg ⟨[l0,l1,l2,l3]⟩).cells.toList 25 none)=g1
 have t1:Ahd g g1:=by rw[← hh1];exact Ahd.new0 f rfl
 have b1:g1.blk g.next=some (.cells [l0,l1,l2,l3] 25 none):=by rw[← hh1];exact new_blk_new rfl
 have x1:g1.cells E (own g.next) 4=some [l0,l1,l2,l3]:=blk_cells b1 rfl ol
 have r1:=rep_grow t1.grows hr
 have c35:=ev_known (D:=tab) (E:=E) (kc.1 t _ g1 r1 (by omega))
 rw[chkI_fine hf] at c35
 obtain⟨nf,v,g2,ck,m2,B2⟩:=enc61 (E:=E) (I:=I) (fun f args h hf=>hI f args h (by rcases hf with h|h|h|h|h<;>simp[h])) (isz t) t _ g1 (Nat.le_refl _) r1 t1.fit hf.1 hf.2.2 (by omega)
 obtain⟨ns,_,_,cs,rfl,rfl⟩:=short60 (E:=E) (I:=I) (fun args h=>hI _ _ _ (by simp)) (B2.grow (only_grows m2.fit)) hl
 have c1:=(ev_mono (D:=tab) (E:=E) I (show 1≤nf+ns+1 by omega)).call c35
 have c2:=(ev_mono (D:=tab) (E:=E) I (show nf≤nf+ns+1 by omega)).call ck
 have c3:=(ev_mono (D:=tab) (E:=E) I (show ns≤nf+ns+1 by omega)).call cs
 apply Wk (hI _ _ _ (by simp)) fn25 rfl
 intro A0 n0 d0 hA0
 change A0.n=15 at n0
 have q0:A0.get 0=.agg ⟨[l0,l1,l2,l3]⟩:=hA0 0 _ rfl
 clear hA0
 repeat' (first|with_reducible apply Ws|(apply Wn (nf+ns+1);focus ((repeat ((with_reducible apply Rr rfl);focus ((try simp +decide only[Oy,n0,q0,hh1,Qx,Hx,x1,c1,c2,c3]);with_reducible rfl)));with_reducible exact Rn))|(refine W2 (by simp +decide only[Cx,n0,q0,x1];try with_reducible rfl) (fun hb=>?_) (fun hb=>?_)<;>try contradiction)|apply W3|apply W4|apply W5|apply W6)
 exact done_r2 (v:=v) (x:=.int .i64 0) (.inr rfl) (by simp +decide only[Gs,d0]) rfl (by simp +decide only[Gs,n0]) (by simp +decide only[Gs,n0]) ⟨v,rfl,t1.mod.trans m2,B2.grow (only_sub m2.fit (fun r hr=>by rw[Nat.ble_eq] at hr ⊢; have:=t1.next;omega))⟩
theorem fn15:tab.fn.get 15=some Tryd.f15:=by kernel_rfl
theorem fn22:tab.fn.get 22=some Tryd.f22:=by kernel_rfl
theorem qan31 (b:Option Addr) (n c:Nat):anil tab 31 (.slice b n c) (.slice none 0 0)=some b.isNone:=by
 unfold anil
 rw[qty31]
 cases b<;>rfl
theorem qbs31_0 {h:H}:abuildSlice tab 31 0 [] h=some (.slice (some (own h.next)) 0 0,h.new (.cells [] 5 none)):=by
 unfold abuildSlice
 simp only[qty31,qtz5]
 rfl
theorem clone15 (hI:∀ args h,I 15 args h=none) {g:H} {v:Value} {bs:List UInt8} (f:Fit g) (hb:Byt E g v bs) (hl:bs.length≤1000000) :
  ∃ n x g',(ev tab E I n).call 15 [v] g=some (x,g')∧(Ahd g g'∧Byt E g' x bs):=by
 rcases hb with⟨rfl,rfl⟩|⟨a,c,rfl,hc,hcs⟩
 ·apply Wk (hI _ _) fn15 rfl
  intro A0 n0 d0 hA0
  change A0.n=8 at n0
  have q0:A0.get 0=.slice none 0 0:=hA0 0 _ rfl
  clear hA0
  repeat' (first|with_reducible apply Ws|(apply Wp;focus ((repeat ((with_reducible apply Rr rfl);focus ((try simp +decide only[Oy,n0,q0,qan31,Option.isNone]);with_reducible rfl)));with_reducible exact Rn))|(refine W2 (by simp +decide only[Cx,n0,q0,Option.isNone];try with_reducible rfl) (fun hb=>?_) (fun hb=>?_)<;>try contradiction)|apply W3|apply W4|apply W5|apply W6)
  exact done_q (v:=.slice none 0 0) (.inr rfl) (by simp +decide only[Gs,d0]) rfl (by simp +decide only[Gs,n0]) ⟨Ahd.refl f,.inl ⟨rfl,rfl⟩⟩
 ·apply Wk (hI _ _) fn15 rfl
  intro A0 n0 d0 hA0
  change A0.n=8 at n0
  have q0:A0.get 0=.slice (some a) bs.length c:=hA0 0 _ rfl
  clear hA0
  obtain⟨s,h',happ,hcl⟩:=clone_step (D:=tab) (E:=E) (t:=31) (e:=5) (sz:=1) (by_:=1) (n:=bs.length) (c:=c) (a:=a) (cs:=bytesV bs) f qty31 qtz5 rfl (by rw[Nat.mul_one];exact hcs) (by rw[Nat.mul_one];exact bytesV_length bs) (by
   unfold roomy
   simp only[Bool.and_eq_true,Nat.ble_eq];omega)
  obtain⟨k,rt,rfl,hk,_,_⟩:=hcl.get
  repeat' (first|with_reducible apply Ws|(apply Wp;focus ((repeat ((with_reducible apply Rr rfl);focus ((try simp +decide only[Oy,n0,q0,qan31,Option.isNone,qbs31_0,happ]);with_reducible rfl)));with_reducible exact Rn))|(refine W2 (by simp +decide only[Cx,n0,q0,Option.isNone,happ];try with_reducible rfl) (fun hb=>?_) (fun hb=>?_)<;>try contradiction)|apply W3|apply W4|apply W5|apply W6)
  exact done_q (v:=.slice (some (own k)) bs.length bs.length) (.inr rfl) (by simp +decide only[Gs,d0]) rfl (by simp +decide only[Gs,n0]) ⟨hcl.ahd,.inr ⟨own k,bs.length,rfl,Nat.le_refl _,blk_cells hk (bytesV_length bs) (bytesV_one bs)⟩⟩
theorem equal22 (hI:∀ args h,I 22 args h=none) {g:H} {v u:Value} {bs:List UInt8} (hb:Byt E g v bs) (hb':Byt E g u bs) :
  ∃ n,(ev tab E I n).call 22 [v,u] g=some (.bool true,g):=by
 suffices hw:∃ n x g',(ev tab E I n).call 22 [v,u] g=some (x,g')∧(x=.bool true∧g'=g) by
  obtain⟨n,x,g',h1,rfl,rfl⟩:=hw
  exact⟨n,h1⟩
 apply Wk (hI _ _) fn22 rfl
 intro A0 n0 d0 hA0
 change A0.n=10 at n0
 have q0:A0.get 0=v:=hA0 0 _ rfl
 have q1:A0.get 1=u:=hA0 1 _ rfl
 clear hA0
 have c1:=qcv31_9 hb
 have c2:=qcv31_9 hb'
 repeat' (first|with_reducible apply Ws|(apply Wp;focus ((repeat ((with_reducible apply Rr rfl);focus ((try simp +decide only[Oy,n0,q0,q1,c1,c2,astr,beq_self_eq_true]);with_reducible rfl)));with_reducible exact Rn))|(refine W2 (by simp +decide only[Cx,n0,q0,q1,astr,beq_self_eq_true];try with_reducible rfl) (fun hb=>?_) (fun hb=>?_)<;>try contradiction)|apply W3|apply W4|apply W5|apply W6)
 exact done_q (v:=.bool true) (.inr rfl) (by simp +decide only[Gs,d0]) rfl (by simp +decide only[Gs,n0]) ⟨rfl,rfl⟩
theorem qty40:tab.ty.get 40=some ⟨.int .u16,1,2,some (.int .u16 0),true⟩:=by kernel_rfl
theorem qcv40_3 (n:Int) {h:H}:aconvert tab E 40 3 (.int .u16 n) h=some (.int .i64 (IntKind.i64.wrap n),h):=by unfold aconvert;simp only[qty40,qty3]
theorem remN (a b:Nat) (hb:0<b):aint .rem .i64 (a:Nat) (b:Nat)=some (.int .i64 ((a % b:Nat):Int)):=by
 rw[remI (by omega)]
 congr 2
theorem sfit_empty:Fit H.empty:=by
 refine⟨fun _ _=>T.get_nil _,⟨fun k xs ty r p hd => ?_,Nat.le_refl _⟩⟩
 rw[show H.empty.dyn=T.nil from rfl,T.get_nil] at hd
 cases hd
structure Kp (I:Known):Prop extends Kq I where
 k123:∀ args h,I 123 args h=some (kCheck 106 args h)
 k99:∀ (m:Nat) h,m<10 ^ 15→I 99 [.int .i64 (m:Nat)] h=some (some (.string ⟨⟨Lib.decDigits m⟩⟩,h))
theorem fn62:tab.fn.get 62=some Tryd.f62:=by kernel_rfl
noncomputable def loop62a:Code:=loopAt Tryd.f62 0
noncomputable def loop62b:Code:=loopAt Tryd.f62 1
theorem bsl153 {k6:Nat} {xs:List Value} {h:H} (hb:h.blk k6=some (.cells xs 153 none)):aslice tab 153 (.pointer (some (own k6))) none none none h=some (.slice (some (own k6)) 2 2,h):=by
 have hb':h.blk (own k6).block=some (.cells xs 153 none):=hb
 have hs:(own k6).spot=some 0:=rfl
 unfold aslice
 simp only[qty153,abound,hs,hb']
 rfl
theorem ix9 {l:List UInt8} {i:Nat} (hi:i<l.length):aindex tab 9 (.string ⟨⟨l⟩⟩) (.int .i64 (i:Nat))=some (.int .u8 ((l[i]).toNat:Nat)):=by
 have h1:inRange (i:Nat) l.length=true:=by
  show Nat.blt i _=true
  rw[Nat.blt_eq];exact hi
 unfold aindex
 simp only[qty9,h1,Int.toNat_natCast,List.getElem?_eq_getElem hi]
theorem text62 (hI:∀ f args h,(f=62∨f=98∨f=100∨f=103)→I f args h=none) (kp:Kp I) {base kB k1:Nat} (hB:base≤kB) {g0:H} {l:List UInt8} {v0 v1 v3:Value} (hk1:k1≠kB) (hl:l.length≤4096) {bs1:List UInt8} (hlen:bs1.length+3*l.length≤900000000) :
  ∀ (r i:Nat) (A0:Ac) (g:H),r=l.length-i→i≤l.length→A0.n=74→A0.defers=[]→A0.get 0=.pointer (some (own kB))→A0.get 3=.pointer (some (own k1))→A0.get 31=.int .i64 (l.length:Nat)→A0.get 32=.int .i64 (i:Nat)→
   base≤g0.next→kB<g0.next→Xo base 5 kB none g0 g→g.blk k1=some (.cells [v0,v1,.string ⟨⟨l⟩⟩,v3] 25 none)→Bld 106 kB base g (bs1++escL (l.take i))→
   Wc tab E I ⟨62,none⟩ (.loop loop62a) A0 g (fun ex A g=>ex=.exit 0∧A.n=74∧A.defers=[]∧A.get 0=.pointer (some (own kB))∧A.get 3=.pointer (some (own k1))∧Xo base 5 kB none g0 g∧g.blk k1=some (.cells [v0,v1,.string ⟨⟨l⟩⟩,v3] 25 none)∧Bld 106 kB base g (bs1++escL l)):=by
 intro r
 induction r with
 | zero=>
  intro i A0 g hr hi n0 d0 q0 q3 q31 q32 hbn hkn X b1 B
  obtain rfl:i=l.length:=by omega
  have e1:decide ((l.length:Int)<(l.length:Int))=false:=by simp
  rw[List.take_length] at B
  apply Wc.loop
  simp only[loop62a,loopAt,loops,List.getD,Option.getD,Tryd.f62,List.append_assoc,List.cons_append,List.nil_append,List.append_nil,List.getElem?_cons_zero]
  repeat' (first|with_reducible apply Ws|(apply Wp;focus ((repeat ((with_reducible apply Rr rfl);focus ((try simp +decide only[Oz,n0,q31,q32,e1]);with_reducible rfl)));with_reducible exact Rn))|(refine W2 (by simp +decide only[Cz,n0,q31,q32,e1];try with_reducible rfl) (fun hb=>?_) (fun hb=>?_)<;>try contradiction)|apply W3|apply W4|apply W5|apply W6)
  exact⟨rfl,by simp +decide only[Gz,n0],by simp +decide only[Gz,d0],by simp +decide only[Gz,n0,q0],by simp +decide only[Gz,n0,q3],X,b1,B⟩
 | succ r ih=>
  intro i A0 g hr hi n0 d0 q0 q3 q31 q32 hbn hkn X b1 B
  have hil:i<l.length:=by omega
  have e1:decide ((i:Int)<(l.length:Int))=true:=decide_eq_true (by omega)
  have w4:IntKind.i64.wrap ((i:Int)+1)=((i+1:Nat):Int):=wrap64 (by omega) (by omega)
  have l2:g.cell E (aadd (own k1) 2)=some (.string ⟨⟨l⟩⟩):=blk_cell (i:=2) b1 rfl rfl
  have hel:=(escL_len (l.take i)).2
  have htl:(l.take i).length≤l.length:=by rw[List.length_take];omega
  have k101:=ev_known (D:=tab) (E:=E) (kp.k101 l[i] g)
  have hes:escL (l.take (i+1))=escL (l.take i)++escB l[i]:=by
   rw[List.take_succ_eq_append_getElem hil,escL_append,escL,escL,List.append_nil]
  have hgn:base≤g.next:=Nat.le_trans hbn X.next
  apply Wc.loop
  simp only[loop62a,loopAt,loops,List.getD,Option.getD,Tryd.f62,List.append_assoc,List.cons_append,List.nil_append,List.append_nil,List.getElem?_cons_zero]
  repeat' (first|with_reducible apply Ws|(apply Wp;focus ((repeat ((with_reducible apply Rr rfl);focus ((try simp +decide only[Oz,n0,q31,q32,e1]);with_reducible rfl)));with_reducible exact Rn))|(refine W2 (by simp +decide only[Cz,n0,q31,q32,e1];try with_reducible rfl) (fun hb=>?_) (fun hb=>?_)<;>try contradiction)|apply W3|apply W4|apply W5|apply W6)
  (repeat' (with_reducible apply Ws));(apply Wn 1;focus ((repeat ((with_reducible apply Rr rfl);focus ((try simp +decide only[Oz,n0,q3,qfa25_2,Qx,Hx,l2,ix9 hil]);with_reducible rfl)));with_reducible exact Rn))
  (repeat' (with_reducible apply Ws));(apply Wn 1;focus ((repeat ((with_reducible apply Rr rfl);focus ((try simp +decide only[Oz,n0,k101]);with_reducible rfl)));with_reducible exact Rn))
  refine Wc.forget (fun A=>A.n=74∧A.defers=[]∧A.get 0=.pointer (some (own kB))∧A.get 3=.pointer (some (own k1))∧A.get 5=.int .u8 ((l[i]).toNat:Nat)∧A.get 31=.int .i64 (l.length:Nat)∧A.get 32=.int .i64 (i:Nat)∧A.get 40=.bool (plainB l[i])) (by and_intros<;>simp +decide only[Gz,n0,d0,q0,q3,q31,q32]<;>rfl) ?_
  rintro A0 ⟨n0,d0,q0,q3,q5,q31,q32,q40⟩
  repeat' (with_reducible apply Wc.seq)
  refine Wc.mono (Q:=fun ex A g'=>ex=.normal∧A.n=74∧A.defers=[]∧A.get 0=.pointer (some (own kB))∧A.get 3=.pointer (some (own k1))∧A.get 31=.int .i64 (l.length:Nat)∧A.get 32=.int .i64 (i:Nat)∧Xo base 5 kB none g0 g'∧g'.blk k1=some (.cells [v0,v1,.string ⟨⟨l⟩⟩,v3] 25 none)∧Bld 106 kB base g' (bs1++escL (l.take (i+1)))) ?_ ?_
  ·cases hp:plainB l[i] with
   | true=>
    rw[hp] at q40
    obtain⟨n1,_,g1,c1,rfl,X1,B1⟩:=wbyte100 (E:=E) (I:=I) (c:=l[i]) (fun args h=>hI _ args h (by simp)) kp.k123 X.fit hgn B (by rw[List.length_append];omega)
    repeat' (first|with_reducible apply Ws|(apply Wp;focus ((repeat ((with_reducible apply Rr rfl);focus ((try simp +decide only[Oz,n0,q40]);with_reducible rfl)));with_reducible exact Rn))|(refine W2 (by simp +decide only[Cz,n0,q40];try with_reducible rfl) (fun hb=>?_) (fun hb=>?_)<;>try contradiction)|apply W3|apply W4|apply W5|apply W6)
    (repeat' (with_reducible apply Ws));(apply Wn n1;focus ((repeat ((with_reducible apply Rr rfl);focus ((try simp +decide only[Oz,n0,q0,q5,c1]);with_reducible rfl)));with_reducible exact Rn))
    refine⟨rfl,by simp +decide only[Gz,n0],by simp +decide only[Gz,d0],by simp +decide only[Gz,n0,q0],by simp +decide only[Gz,n0,q3],by simp +decide only[Gz,n0,q31],by simp +decide only[Gz,n0,q32],X.trans X1 (.inl rfl),X1.keep _ _ hk1 b1,?_⟩
    rw[hes,← List.append_assoc]
    unfold escB
    rw[if_pos hp]
    exact B1
   | false=>
    rw[hp] at q40
    have k102:=ev_known (D:=tab) (E:=E) (kp.k102 l[i] g)
    have t2:Ahd g (g.new (.cells (Value.agg #[.int .u8 0,.int .u8 0]).cells.toList 153 none)):=Ahd.new0 X.fit rfl
    have k2:(g.new (.cells (Value.agg #[.int .u8 0,.int .u8 0]).cells.toList 153 none)).blk g.next=some (.cells [.int .u8 0,.int .u8 0] 153 none):=new_blk_new rfl
    generalize hh1:g.new (.cells (Value.agg #[.int .u8 0,.int .u8 0]).cells.toList 153 none)=g1 at t2 k2
    have st:=astore_all (ys:=[.int .u8 ((hexB ((l[i]).toNat / 16)).toNat:Nat),.int .u8 ((hexB ((l[i]).toNat % 16)).toNat:Nat)]) qty153 k2 rfl rfl rfl (by simp)
    have t3:=t2.setl (k:=g.next) (B:=.cells [.int .u8 ((hexB ((l[i]).toNat / 16)).toNat:Nat),.int .u8 ((hexB ((l[i]).toNat % 16)).toNat:Nat)] 153 none) rfl (Nat.le_refl _) (t2.fit.lt k2) X.fit
    have k3:=setl_same (h:=g1) (k:=g.next) (B:=.cells [.int .u8 ((hexB ((l[i]).toNat / 16)).toNat:Nat),.int .u8 ((hexB ((l[i]).toNat % 16)).toNat:Nat)] 153 none) rfl
    generalize g1.setl g.next (.cells [.int .u8 ((hexB ((l[i]).toNat / 16)).toNat:Nat),.int .u8 ((hexB ((l[i]).toNat % 16)).toNat:Nat)] 153 none)=g2 at st t3 k3
    have hne:g.next≠kB:=by have:=X.next;omega
    obtain⟨n1,_,g3,c1,rfl,X3,B3⟩:=wbyte100 (E:=E) (I:=I) (c:=92) (fun args h=>hI _ args h (by simp)) kp.k123 t3.fit (Nat.le_trans hgn t3.next) (B.ahd X.fit t3) (by rw[List.length_append];omega)
    have k4:=X3.keep _ _ hne k3
    obtain⟨n2,_,g4,c2,⟨x5,rfl⟩,X4,B4⟩:=write103 (E:=E) (I:=I) (cs:=[hexB ((l[i]).toNat / 16),hexB ((l[i]).toNat % 16)]) (n:=2) (c6:=2) (fun args h=>hI _ args h (by simp)) kp.k123 X3.fit (Nat.le_trans hgn (Nat.le_trans t3.next X3.next)) B3 k4 rfl hne (by rw[List.length_append,List.length_append];simp only[List.length_cons,List.length_nil];omega)
    have c1:(ev tab E I n1).call 100 [.pointer (some (own kB)),.int .u8 92] g2=some (.nilIface,g3):=c1
    have sl:=bsl153 k4
    repeat' (first|with_reducible apply Ws|(apply Wp;focus ((repeat ((with_reducible apply Rr rfl);focus ((try simp +decide only[Oz,n0,q40]);with_reducible rfl)));with_reducible exact Rn))|(refine W2 (by simp +decide only[Cz,n0,q40];try with_reducible rfl) (fun hb=>?_) (fun hb=>?_)<;>try contradiction)|apply W3|apply W4|apply W5|apply W6)
    (repeat' (with_reducible apply Ws));(apply Wn 1;focus ((repeat ((with_reducible apply Rr rfl);focus ((try simp +decide only[Oz,n0,q5,k102,qtz153,hh1,st]);with_reducible rfl)));with_reducible exact Rn))
    (repeat' (with_reducible apply Ws));(apply Wn n1;focus ((repeat ((with_reducible apply Rr rfl);focus ((try simp +decide only[Oz,n0,q0,c1]);with_reducible rfl)));with_reducible exact Rn))
    (repeat' (with_reducible apply Ws));(apply Wn n2;focus ((repeat ((with_reducible apply Rr rfl);focus ((try simp +decide only[Oz,n0,q0,sl,c2]);with_reducible rfl)));with_reducible exact Rn))
    refine⟨rfl,by simp +decide only[Gz,n0],by simp +decide only[Gz,d0],by simp +decide only[Gz,n0,q0],by simp +decide only[Gz,n0,q3],by simp +decide only[Gz,n0,q31],by simp +decide only[Gz,n0,q32],((X.ahead t3 hbn (fun r hr=>by cases hr)).trans X3 (.inl rfl)).trans X4 (.inl rfl),X4.keep _ _ hk1 (X3.keep _ _ hk1 (t3.grows _ _ b1)),?_⟩
    rw[hes,← List.append_assoc]
    unfold escB
    rw[if_neg (by rw[hp];simp)]
    rw[List.append_assoc] at B4
    exact B4
  rintro ex A0 g' ⟨rfl,n0,d0,q0,q3,q31,q32,X',b1',B'⟩
  simp only[]
  repeat' (first|with_reducible apply Ws|(apply Wp;focus ((repeat ((with_reducible apply Rr rfl);focus ((try simp +decide only[Oz,n0,q32,w4]);with_reducible rfl)));with_reducible exact Rn))|(refine W2 (by simp +decide only[Cz,n0,q32,w4];try with_reducible rfl) (fun hb=>?_) (fun hb=>?_)<;>try contradiction)|apply W3|apply W4|apply W5|apply W6)
  refine ih (i+1) _ g' (by omega) (by omega) ?_ ?_ ?_ ?_ ?_ ?_ hbn hkn X' b1' B'
  ·simp +decide only[Gz,n0]
  ·simp +decide only[Gz,d0]
  ·simp +decide only[Gz,n0,q0]
  ·simp +decide only[Gz,n0,q3]
  ·simp +decide only[Gz,n0,q31]
  ·simp +decide only[Gz,n0]
variable {E:Env}
theorem var25 {g:H} (f:Fit g) {a b c d:Value} (ho:[a,b,c,d].all isOne=true):∃ g1 g2,g.new (.cells (Value.agg #[.int .i64 0,.int .i64 0,.string ⟨#[]⟩,.slice none 0 0]).cells.toList 25 none)=g1∧astore tab 25 (own g.next) (.agg ⟨[a,b,c,d]⟩) g1=some g2∧Ahd g g2∧g2.blk g.next=some (.cells [a,b,c,d] 25 none):=by
 have e1:Ahd g (g.new (.cells (Value.agg #[.int .i64 0,.int .i64 0,.string ⟨#[]⟩,.slice none 0 0]).cells.toList 25 none)):=Ahd.new0 f rfl
 have c8:(g.new (.cells (Value.agg #[.int .i64 0,.int .i64 0,.string ⟨#[]⟩,.slice none 0 0]).cells.toList 25 none)).blk g.next=some (.cells [.int .i64 0,.int .i64 0,.string ⟨#[]⟩,.slice none 0 0] 25 none):=new_blk_new rfl
 generalize g.new (.cells (Value.agg #[.int .i64 0,.int .i64 0,.string ⟨#[]⟩,.slice none 0 0]).cells.toList 25 none)=g1 at e1 c8
 exact⟨g1,_,rfl,astore_all (ys:=[a,b,c,d]) qty25 c8 rfl rfl ho (by simp),e1.setl rfl (Nat.le_refl _) (e1.fit.lt c8) f,setl_same rfl⟩
variable {E:Env} {I:Known}
theorem printed62 (hI:∀ f args h,(f=62∨f=98∨f=100∨f=103)→I f args h=none) (kp:Kp I) {h0:H} (f0:Fit h0) {kB:Nat} (hB:h0.next≤kB) :
  ∀ (s:Nat) (t:Hs.Item) (xv:Value) (bs:List UInt8) (g:H),isz t≤s→rep E h0 t xv→goodI t→isz t≤5000→Grows h0 g→Fit g→h0.next≤g.next→Bld 106 kB h0.next g bs→bs.length+(prtI t).length≤100000000→
   ∃ n v g',(ev tab E I n).call 62 [.pointer (some (own kB)),xv] g=some (v,g')∧(v=.tuple #[]∧Xo h0.next 5 kB none g g'∧Bld 106 kB h0.next g' (bs++prtI t)):=by
 intro s
 induction s with
 | zero=>intro t xv bs g hs;have:=isz_pos t;omega
 | succ s IH=>
 intro t xv bs g hs hr hgd hz hg f hn B hlen
 obtain⟨k,m,tx,ks⟩:=t
 obtain⟨sb,sc,rfl,hsk⟩:=rep_slice hr
 have hgd0:=hgd
 rw[goodI] at hgd
 obtain⟨hk1,hk2,hm1,hm2,htx,hgk⟩:=hgd
 obtain⟨k,rfl⟩:=Int.eq_ofNat_of_zero_le (show 0≤k by omega)
 obtain⟨m,rfl⟩:=Int.eq_ofNat_of_zero_le hm1
 obtain⟨⟨l⟩⟩:=tx
 have htx:l.length≤4096:=htx
 have hp:prtI (.mk (k:Nat) (m:Nat) ⟨⟨l⟩⟩ ks)=Lib.decDigits k++(if m=0 then [] else 58::Lib.decDigits m)++(if l=[] then [] else 34::(escL l++[34]))++(if ks=[] then [] else prtL ks 40++[41]):=by
  rw[prtI]
  congr 3
  ·by_cases h:m=0
   ·rw[if_pos (by omega),if_pos h]
   ·rw[if_neg (by omega),if_neg h];rfl
 rw[hp] at hlen ⊢
 simp only[List.length_append] at hlen
 rw[isz] at hs hz
 have hkl:=len_iszE ks
 have hk15:k<10 ^ 15:=Nat.lt_of_le_of_lt (show k≤63 by omega) (by decide)
 have hm15:m<10 ^ 15:=Nat.lt_of_le_of_lt (show m≤1099511627776 by omega) (by decide)
 generalize hh1:g.new (.cells (Value.agg ⟨[.int .i64 (k:Nat),.int .i64 (m:Nat),.string ⟨⟨l⟩⟩,.slice sb ks.length sc]⟩).cells.toList 25 none)=g1
 have t1:Ahd g g1:=by rw[← hh1];exact Ahd.new0 f rfl
 have b1:g1.blk g.next=some (.cells [.int .i64 (k:Nat),.int .i64 (m:Nat),.string ⟨⟨l⟩⟩,.slice sb ks.length sc] 25 none):=by rw[← hh1];exact new_blk_new rfl
 obtain⟨_,_,_,bB,_⟩:=id B
 have hkn:kB<g.next:=f.lt bB
 have hne:g.next≠kB:=by omega
 have B1:=B.ahd f t1
 have X1:Xo h0.next 5 kB none g g1:=t1.xo hn (fun r hr=>by cases hr)
 have k99:=ev_known (D:=tab) (E:=E) (kp.k99 k g1 hk15)
 obtain⟨n2,_,g2,c2,⟨x2,rfl⟩,X2,B2⟩:=wstr98 (E:=E) (I:=I) (cs:=Lib.decDigits k) (fun args h=>hI _ args h (by simp)) kp.k123 t1.fit (Nat.le_trans hn t1.next) B1 (by omega)
 have X12:=X1.trans X2 (.inl rfl)
 have b2:=X2.keep _ _ hne b1
 have l0:g1.cell E (own g.next)=some (.int .i64 (k:Nat)):=blk_cell0 b1 rfl
 have c99f:=(ev_mono (D:=tab) (E:=E) I (show 1≤n2+1 by omega)).call k99
 have c2f:=(ev_mono (D:=tab) (E:=E) I (show n2≤n2+1 by omega)).call c2
 have l1:g2.cell E (aadd (own g.next) 1)=some (.int .i64 (m:Nat)):=blk_cell (i:=1) b2 rfl rfl
 apply Wk (hI _ _ _ (.inl rfl)) fn62 rfl
 intro A0 n0 d0 hA0
 change A0.n=74 at n0
 have q0:A0.get 0=.pointer (some (own kB)):=hA0 0 _ rfl
 have q1:A0.get 1=.agg ⟨[.int .i64 (k:Nat),.int .i64 (m:Nat),.string ⟨⟨l⟩⟩,.slice sb ks.length sc]⟩:=hA0 1 _ rfl
 clear hA0
 (repeat' (with_reducible apply Ws));(apply Wn 1;focus ((repeat ((with_reducible apply Rr rfl);focus ((try simp +decide only[Oz,n0,q1,hh1]);with_reducible rfl)));with_reducible exact Rn))
 (repeat' (with_reducible apply Ws));(apply Wn (n2+1);focus ((repeat ((with_reducible apply Rr rfl);focus ((try simp +decide only[Oz,n0,q0,qfa25_0,Qx,Hx,l0,c99f,c2f]);with_reducible rfl)));with_reducible exact Rn))
 (repeat' (with_reducible apply Ws));(apply Wn 1;focus ((repeat ((with_reducible apply Rr rfl);focus ((try simp +decide only[Oz,n0,qfa25_1,Qx,Hx,l1]);with_reducible rfl)));with_reducible exact Rn))
 refine Wc.forget (fun A=>A.n=74∧A.defers=[]∧A.get 0=.pointer (some (own kB))∧A.get 3=.pointer (some (own g.next))∧A.get 17=.bool (!decide ((m:Int)=0))) (by and_intros<;>simp +decide only[Gz,n0,d0,q0]<;>rfl) ?_
 rintro A0 ⟨n0,d0,q0,q3,q17⟩
 repeat' (with_reducible apply Wc.seq)
 refine Wc.mono (Q:=fun ex A g'=>ex=.normal∧A.n=74∧A.defers=[]∧A.get 0=.pointer (some (own kB))∧A.get 3=.pointer (some (own g.next))∧Xo h0.next 5 kB none g g'∧g'.blk g.next=some (.cells [.int .i64 (k:Nat),.int .i64 (m:Nat),.string ⟨⟨l⟩⟩,.slice sb ks.length sc] 25 none)∧Bld 106 kB h0.next g' (bs++Lib.decDigits k++(if m=0 then [] else 58::Lib.decDigits m))) ?_ ?_
 ·by_cases hm0:m=0
  ·have e:(!decide ((m:Int)=0))=false:=by rw[decide_eq_true (by omega)];rfl
   repeat' (first|with_reducible apply Ws|(apply Wp;focus ((repeat ((with_reducible apply Rr rfl);focus ((try simp +decide only[Oz,n0,q17,e]);with_reducible rfl)));with_reducible exact Rn))|(refine W2 (by simp +decide only[Cz,n0,q17,e];try with_reducible rfl) (fun hb=>?_) (fun hb=>?_)<;>try contradiction)|apply W3|apply W4|apply W5|apply W6)
   exact⟨rfl,n0,d0,q0,q3,X12,b2,by rw[if_pos hm0,List.append_nil];exact B2⟩
  ·have e:(!decide ((m:Int)=0))=true:=by rw[decide_eq_false (by omega)];rfl
   rw[if_neg hm0] at hlen ⊢
   have k99:=ev_known (D:=tab) (E:=E) (kp.k99 m g2 hm15)
   have hdl:=dec_len15 (m:=(m:Nat)) (by omega) (by omega)
   rw[Int.toNat_natCast] at hdl
   have hadd:astr .add [58] (Lib.decDigits m)=some (.string ⟨⟨58::Lib.decDigits m⟩⟩):=by
    have:Nat.ble (([58]:List UInt8).length+(Lib.decDigits m).length) 70368744177664=true:=by
     rw[Nat.ble_eq]
     simp only[List.length_singleton];omega
    unfold astr
    simp only[this]
    rfl
   obtain⟨n3,_,g3,c3,⟨x3,rfl⟩,X3,B3⟩:=wstr98 (E:=E) (I:=I) (cs:=58::Lib.decDigits m) (fun args h=>hI _ args h (by simp)) kp.k123 X2.fit (Nat.le_trans hn X12.next) B2 (by rw[List.length_append];omega)
   have c99f:=(ev_mono (D:=tab) (E:=E) I (show 1≤n3+1 by omega)).call k99
   have c3f:=(ev_mono (D:=tab) (E:=E) I (show n3≤n3+1 by omega)).call c3
   repeat' (first|with_reducible apply Ws|(apply Wp;focus ((repeat ((with_reducible apply Rr rfl);focus ((try simp +decide only[Oz,n0,q17,e]);with_reducible rfl)));with_reducible exact Rn))|(refine W2 (by simp +decide only[Cz,n0,q17,e];try with_reducible rfl) (fun hb=>?_) (fun hb=>?_)<;>try contradiction)|apply W3|apply W4|apply W5|apply W6)
   (repeat' (with_reducible apply Ws));(apply Wn (n3+1);focus ((repeat ((with_reducible apply Rr rfl);focus ((try simp +decide only[Oz,n0,q0,q3,qfa25_1,Qx,Hx,l1,c99f,List.toList_toArray,hadd,c3f]);with_reducible rfl)));with_reducible exact Rn))
   exact⟨rfl,by simp +decide only[Gz,n0],by simp +decide only[Gz,d0],by simp +decide only[Gz,n0,q0],by simp +decide only[Gz,n0,q3],X12.trans X3 (.inl rfl),X3.keep _ _ hne b2,B3⟩
 rintro ex A0 g3 ⟨rfl,n0,d0,q0,q3,X3,b3,B3⟩
 simp only[]
 generalize hP2:bs++Lib.decDigits k++(if m=0 then [] else 58::Lib.decDigits m)=P2 at B3
 have hP2l:P2.length=bs.length+(Lib.decDigits k).length+(if m=0 then ([]:List UInt8) else 58::Lib.decDigits m).length:=by
  rw[← hP2,List.length_append,List.length_append]
 have l2:g3.cell E (aadd (own g.next) 2)=some (.string ⟨⟨l⟩⟩):=blk_cell (i:=2) b3 rfl rfl
 (repeat' (with_reducible apply Ws));(apply Wn 1;focus ((repeat ((with_reducible apply Rr rfl);focus ((try simp +decide only[Oz,n0,q3,qfa25_2,Qx,Hx,l2,astr,List.toList_toArray]);with_reducible rfl)));with_reducible exact Rn))
 refine Wc.forget (fun A=>A.n=74∧A.defers=[]∧A.get 0=.pointer (some (own kB))∧A.get 3=.pointer (some (own g.next))∧A.get 26=.bool (!(l == []))) (by and_intros<;>simp +decide only[Gz,n0,d0,q0,q3]<;>rfl) ?_
 rintro A0 ⟨n0,d0,q0,q3,q26⟩
 repeat' (with_reducible apply Wc.seq)
 refine Wc.mono (Q:=fun ex A g'=>ex=.normal∧A.n=74∧A.defers=[]∧A.get 0=.pointer (some (own kB))∧A.get 3=.pointer (some (own g.next))∧Xo h0.next 5 kB none g g'∧g'.blk g.next=some (.cells [.int .i64 (k:Nat),.int .i64 (m:Nat),.string ⟨⟨l⟩⟩,.slice sb ks.length sc] 25 none)∧Bld 106 kB h0.next g' (P2++(if l=[] then [] else 34::(escL l++[34])))) ?_ ?_
 ·by_cases hl0:l=[]
  ·have e:(!(l == []))=false:=by rw[hl0];rfl
   repeat' (first|with_reducible apply Ws|(apply Wp;focus ((repeat ((with_reducible apply Rr rfl);focus ((try simp +decide only[Oz,n0,q26,e]);with_reducible rfl)));with_reducible exact Rn))|(refine W2 (by simp +decide only[Cz,n0,q26,e];try with_reducible rfl) (fun hb=>?_) (fun hb=>?_)<;>try contradiction)|apply W3|apply W4|apply W5|apply W6)
   exact⟨rfl,n0,d0,q0,q3,X3,b3,by rw[if_pos hl0,List.append_nil];exact B3⟩
  ·have e:(!(l == []))=true:=by
    rw[beq_false_of_ne hl0];rfl
   rw[if_neg hl0] at hlen ⊢
   have hel:=escL_len l
   simp only[List.length_cons,List.length_append,List.length_nil] at hlen
   obtain⟨n4,_,g4,c4,rfl,X4,B4⟩:=wbyte100 (E:=E) (I:=I) (c:=34) (fun args h=>hI _ args h (by simp)) kp.k123 X3.fit (Nat.le_trans hn X3.next) B3 (by omega)
   have c4:(ev tab E I n4).call 100 [.pointer (some (own kB)),.int .u8 34] g3=some (.nilIface,g4):=c4
   have b4:=X4.keep _ _ hne b3
   have l4:g4.cell E (aadd (own g.next) 2)=some (.string ⟨⟨l⟩⟩):=blk_cell (i:=2) b4 rfl rfl
   repeat' (first|with_reducible apply Ws|(apply Wp;focus ((repeat ((with_reducible apply Rr rfl);focus ((try simp +decide only[Oz,n0,q26,e]);with_reducible rfl)));with_reducible exact Rn))|(refine W2 (by simp +decide only[Cz,n0,q26,e];try with_reducible rfl) (fun hb=>?_) (fun hb=>?_)<;>try contradiction)|apply W3|apply W4|apply W5|apply W6)
   (repeat' (with_reducible apply Ws));(apply Wn n4;focus ((repeat ((with_reducible apply Rr rfl);focus ((try simp +decide only[Oz,n0,q0,c4]);with_reducible rfl)));with_reducible exact Rn))
   repeat' (first|with_reducible apply Ws|(apply Wp;focus ((repeat ((with_reducible apply Rr rfl);focus ((try simp +decide only[Oz,n0,q3,qfa25_2,Qx,Hx,l4]);with_reducible rfl)));with_reducible exact Rn))|(refine W2 (by simp +decide only[Cz,n0,q3,qfa25_2,Qx,Hx,l4];try with_reducible rfl) (fun hb=>?_) (fun hb=>?_)<;>try contradiction)|apply W3|apply W4|apply W5|apply W6)
   refine (text62 (E:=E) (I:=I) hI kp (k1:=g.next) hB hne htx (bs1:=P2++[34]) (g0:=g) (by rw[List.length_append];simp only[List.length_singleton];omega) l.length 0 _ g4 rfl (Nat.zero_le _) ?_ ?_ ?_ ?_ ?_ ?_ hn hkn (X3.trans X4 (.inl rfl)) b4 (by rw[List.take_zero,escL,List.append_nil];exact B4)).mono ?_
   ·simp +decide only[Gz,n0]
   ·simp +decide only[Gz,d0]
   ·simp +decide only[Gz,n0,q0]
   ·simp +decide only[Gz,n0,q3]
   ·simp +decide only[Gz,n0]
   ·simp +decide only[Gz,n0]
    rfl
   rintro ex A0 g5 ⟨rfl,n0,d0,q0,q3,X5,b5,B5⟩
   simp only[if_true]
   obtain⟨n6,_,g6,c6,rfl,X6,B6⟩:=wbyte100 (E:=E) (I:=I) (c:=34) (fun args h=>hI _ args h (by simp)) kp.k123 X5.fit (Nat.le_trans hn X5.next) B5 (by simp only[List.length_append,List.length_singleton];omega)
   have c6:(ev tab E I n6).call 100 [.pointer (some (own kB)),.int .u8 34] g5=some (.nilIface,g6):=c6
   (repeat' (with_reducible apply Ws));(apply Wn n6;focus ((repeat ((with_reducible apply Rr rfl);focus ((try simp +decide only[Oz,n0,q0,c6]);with_reducible rfl)));with_reducible exact Rn))
   exact⟨rfl,by simp +decide only[Gz,n0],by simp +decide only[Gz,d0],by simp +decide only[Gz,n0,q0],by simp +decide only[Gz,n0,q3],X5.trans X6 (.inl rfl),X6.keep _ _ hne b5,by rw[show P2++34::(escL l++[34])=P2++[34]++escL l++[34] by simp];exact B6⟩
 rintro ex A0 g3 ⟨rfl,n0,d0,q0,q3,X3,b3,B3⟩
 simp only[]
 generalize hP3:P2++(if l=[] then [] else 34::(escL l++[34]))=P3 at B3
 have hP3l:P3.length=P2.length+(if l=[] then ([]:List UInt8) else 34::(escL l++[34])).length:=by
  rw[← hP3,List.length_append]
 have hfin:bs++(Lib.decDigits k++(if m=0 then [] else 58::Lib.decDigits m)++(if l=[] then [] else 34::(escL l++[34]))++(if ks=[] then [] else prtL ks 40++[41]))=P3++(if ks=[] then [] else prtL ks 40++[41]):=by
  rw[← hP3,← hP2]
  simp only[List.append_assoc]
 rw[hfin]
 have hP3b:P3.length+(if ks=[] then ([]:List UInt8) else prtL ks 40++[41]).length≤100000000:=by omega
 have l3:g3.cell E (aadd (own g.next) 3)=some (.slice sb ks.length sc):=blk_cell (i:=3) b3 rfl rfl
 by_cases hk0:ks=[]
 ·have e:decide ((ks.length:Int)=0)=true:=by rw[hk0];rfl
  repeat' (first|with_reducible apply Ws|(apply Wp;focus ((repeat ((with_reducible apply Rr rfl);focus ((try simp +decide only[Oz,n0,q3,qfa25_3,Qx,Hx,l3,e]);with_reducible rfl)));with_reducible exact Rn))|(refine W2 (by simp +decide only[Cz,n0,q3,qfa25_3,Qx,Hx,l3,e];try with_reducible rfl) (fun hb=>?_) (fun hb=>?_)<;>try contradiction)|apply W3|apply W4|apply W5|apply W6)
  exact done_unit (.inr rfl) (by simp +decide only[Gz,d0]) rfl ⟨rfl,X3,by rw[if_pos hk0,List.append_nil];exact B3⟩
 have e:decide ((ks.length:Int)=0)=false:=decide_eq_false (fun h=>hk0 (List.length_eq_zero_iff.1 (by omega)))
 rw[if_neg hk0] at hP3b ⊢
 simp only[List.length_append,List.length_singleton] at hP3b
 rcases hsk with h|⟨a,cs,rfl,hcap,hcs,hrl⟩
 ·exact absurd h hk0
 repeat' (first|with_reducible apply Ws|(apply Wp;focus ((repeat ((with_reducible apply Rr rfl);focus ((try simp +decide only[Oz,n0,q3,qfa25_3,Qx,Hx,l3,e]);with_reducible rfl)));with_reducible exact Rn))|(refine W2 (by simp +decide only[Cz,n0,q3,qfa25_3,Qx,Hx,l3,e];try with_reducible rfl) (fun hb=>?_) (fun hb=>?_)<;>try contradiction)|apply W3|apply W4|apply W5|apply W6)
 have key:∀ (r i:Nat) (A0:Ac) (g':H),r=ks.length-i→i≤ks.length→A0.n=74→A0.defers=[]→A0.get 0=.pointer (some (own kB))→A0.get 7=.int .u8 (((if i=0 then 40 else 32:UInt8)).toNat:Nat)→A0.get 59=.slice (some a) ks.length sc→A0.get 60=.int .i64 (ks.length:Nat)→A0.get 61=.int .i64 (i:Nat)→
   Xo h0.next 5 kB none g g'→Bld 106 kB h0.next g' (P3++prtL (ks.take i) 40)→
   Wc tab E I ⟨62,none⟩ (.loop loop62b) A0 g' (fun ex A g'=>ex=.exit 2∧A.n=74∧A.defers=[]∧A.get 0=.pointer (some (own kB))∧Xo h0.next 5 kB none g g'∧Bld 106 kB h0.next g' (P3++prtL ks 40)):=by
  intro r
  induction r with
  | zero=>
   intro i A0 g' hr' hi n0 d0 q0 q7 q59 q60 q61 X B
   obtain rfl:i=ks.length:=by omega
   have e1:decide ((ks.length:Int)<(ks.length:Int))=false:=by simp
   rw[List.take_length] at B
   apply Wc.loop
   simp only[loop62b,loopAt,loops,List.getD,Option.getD,Tryd.f62,List.append_assoc,List.cons_append,List.nil_append,List.append_nil,List.getElem?_cons_zero,List.getElem?_cons_succ]
   repeat' (first|with_reducible apply Ws|(apply Wp;focus ((repeat ((with_reducible apply Rr rfl);focus ((try simp +decide only[Oz,n0,q60,q61,e1]);with_reducible rfl)));with_reducible exact Rn))|(refine W2 (by simp +decide only[Cz,n0,q60,q61,e1];try with_reducible rfl) (fun hb=>?_) (fun hb=>?_)<;>try contradiction)|apply W3|apply W4|apply W5|apply W6)
   exact⟨rfl,by simp +decide only[Gz,n0],by simp +decide only[Gz,d0],by simp +decide only[Gz,n0,q0],X,B⟩
  | succ r ih=>
   intro i A0 g' hr' hi n0 d0 q0 q7 q59 q60 q61 X B
   have hil:i<ks.length:=by omega
   have e1:decide ((i:Int)<(ks.length:Int))=true:=decide_eq_true (by omega)
   have hir:inRange (i:Int) ks.length=true:=by
    show Nat.blt i ks.length=true
    rw[Nat.blt_eq];exact hil
   have w4:IntKind.i64.wrap ((i:Int)+1)=((i+1:Nat):Int):=wrap64 (by omega) (by omega)
   obtain⟨hl4,hrk⟩:=repL_get i hrl (List.getElem?_eq_getElem hil)
   obtain⟨x0,x1,x2,x3,hq,hone⟩:=rep_four hrk
   simp only[Value.agg.injEq,Array.mk.injEq] at hq
   have G0:Grows h0 g':=fun j B hB'=>X.keep j B (by have:=f0.lt hB'; omega) (hg j B hB')
   have hsub:=cells_sub (cells_grow G0 hcs) (m:=i*4) (l:=4) (by omega)
   rw[hq] at hsub hrk
   have hkz:=isz_mem (show ks[i]∈ks from List.getElem_mem hil)
   have hgki:=goodL_get i hgk (List.getElem?_eq_getElem hil)
   have htk:prtL (ks.take (i+1)) 40=prtL (ks.take i) 40++((if i=0 then 40 else 32)::prtI ks[i]):=by
    rw[List.take_succ_eq_append_getElem hil,prtL_append]
    congr 2
    by_cases h:i=0
    ·subst h;rfl
    ·rw[if_neg h,if_neg (fun h2=>h (by
      have:=congrArg List.length h2
      rw[List.length_take] at this
      simp only[List.length_nil] at this
      omega))]
   have hle:(prtL (ks.take (i+1)) 40).length≤(prtL ks 40).length:=by
    have:∀ (a b:List Hs.Item) (c:UInt8),(prtL a c).length≤(prtL (a++b) c).length:=by
     intro a
     induction a with
     | nil=>intro b c;rw[prtL];exact Nat.zero_le _
     | cons x a iha=>
      intro b c
      rw[List.cons_append,prtL,prtL]
      have:=iha b 32
      simp only[List.length_cons,List.length_append]
      omega
    have h2:=this (ks.take (i+1)) (ks.drop (i+1)) 40
    rw[List.take_append_drop] at h2
    exact h2
   have htl:=congrArg List.length htk
   simp only[List.length_append,List.length_cons] at htl
   obtain⟨z1,z2,hh5,s9,u9,b9⟩:=var25 X.fit hone
   have X9:=X.ahead u9 hn (fun r hr=>by cases hr)
   have B9:=B.ahd X.fit u9
   obtain⟨n3,_,z3,c3,rfl,X3',B3'⟩:=wbyte100 (E:=E) (I:=I) (c:=(if i=0 then 40 else 32)) (fun args h=>hI _ args h (by simp)) kp.k123 X9.fit (Nat.le_trans hn X9.next) B9 (by rw[List.length_append];omega)
   have hne9:g'.next≠kB:=by have:=X.next;omega
   have l9:z3.cells E (own g'.next) 4=some [x0,x1,x2,x3]:=blk_cells (X3'.keep _ _ hne9 b9) rfl hone
   have X93:=X9.trans X3' (.inl rfl)
   have G3:Grows h0 z3:=fun j B hB'=>X93.keep j B (by have:=f0.lt hB'; omega) (hg j B hB')
   obtain⟨n4,_,z4,c4,rfl,X4',B4'⟩:=IH ks[i] _ _ z3 (by omega) hrk hgki (by omega) G3 X93.fit (Nat.le_trans hn X93.next) B3' (by simp only[List.length_append,List.length_singleton];omega)
   apply Wc.loop
   simp only[loop62b,loopAt,loops,List.getD,Option.getD,Tryd.f62,List.append_assoc,List.cons_append,List.nil_append,List.append_nil,List.getElem?_cons_zero,List.getElem?_cons_succ]
   repeat' (first|with_reducible apply Ws|(apply Wp;focus ((repeat ((with_reducible apply Rr rfl);focus ((try simp +decide only[Oz,n0,q59,q60,q61,e1,qia23 _ _ _ _ hir,Int.toNat_natCast,Qx,Hx,hsub,qtz25,hh5,s9]);with_reducible rfl)));with_reducible exact Rn))|(refine W2 (by simp +decide only[Cz,n0,q59,q60,q61,e1,qia23 _ _ _ _ hir,Int.toNat_natCast,Qx,Hx,hsub,qtz25,hh5,s9];try with_reducible rfl) (fun hb=>?_) (fun hb=>?_)<;>try contradiction)|apply W3|apply W4|apply W5|apply W6)
   (repeat' (with_reducible apply Ws));(apply Wn n3;focus ((repeat ((with_reducible apply Rr rfl);focus ((try simp +decide only[Oz,n0,q0,q7,c3]);with_reducible rfl)));with_reducible exact Rn))
   (repeat' (with_reducible apply Ws));(apply Wn n4;focus ((repeat ((with_reducible apply Rr rfl);focus ((try simp +decide only[Oz,n0,q0,Qx,Hx,l9,c4]);with_reducible rfl)));with_reducible exact Rn))
   repeat' (first|with_reducible apply Ws|(apply Wp;focus ((repeat ((with_reducible apply Rr rfl);focus ((try simp +decide only[Oz,n0,q61,w4]);with_reducible rfl)));with_reducible exact Rn))|(refine W2 (by simp +decide only[Cz,n0,q61,w4];try with_reducible rfl) (fun hb=>?_) (fun hb=>?_)<;>try contradiction)|apply W3|apply W4|apply W5|apply W6)
   refine ih (i+1) _ z4 (by omega) (by omega) ?_ ?_ ?_ ?_ ?_ ?_ ?_ (X93.trans X4' (.inl rfl)) ?_
   ·simp +decide only[Gz,n0]
   ·simp +decide only[Gz,d0]
   ·simp +decide only[Gz,n0,q0]
   ·rw[if_neg (Nat.succ_ne_zero i)]
    simp +decide only[Gz,n0]
    rfl
   ·simp +decide only[Gz,n0,q59]
   ·simp +decide only[Gz,n0,q60]
   ·simp +decide only[Gz,n0]
   ·rw[htk]
    rw[show P3++(prtL (ks.take i) 40++((if i=0 then 40 else 32)::prtI ks[i]))=P3++prtL (ks.take i) 40++[if i=0 then 40 else 32]++prtI ks[i] by simp]
    exact B4'
 refine (key ks.length 0 _ g3 rfl (Nat.zero_le _) ?_ ?_ ?_ ?_ ?_ ?_ ?_ X3 (by rw[List.take_zero,prtL,List.append_nil];exact B3)).mono ?_
 ·simp +decide only[Gz,n0]
 ·simp +decide only[Gz,d0]
 ·simp +decide only[Gz,n0,q0]
 ·simp +decide only[Gz,n0]
  rfl
 ·simp +decide only[Gz,n0]
 ·simp +decide only[Gz,n0]
 ·simp +decide only[Gz,n0]
  rfl
 rintro ex A0 g7 ⟨rfl,n0,d0,q0,X7,B7⟩
 simp only[if_true]
 obtain⟨n8,_,g8,c8,rfl,X8,B8⟩:=wbyte100 (E:=E) (I:=I) (c:=41) (fun args h=>hI _ args h (by simp)) kp.k123 X7.fit (Nat.le_trans hn X7.next) B7 (by rw[List.length_append];omega)
 have c8:(ev tab E I n8).call 100 [.pointer (some (own kB)),.int .u8 41] g7=some (.nilIface,g8):=c8
 (repeat' (with_reducible apply Ws));(apply Wn n8;focus ((repeat ((with_reducible apply Rr rfl);focus ((try simp +decide only[Oz,n0,q0,c8]);with_reducible rfl)));with_reducible exact Rn))
 exact done_unit (.inl rfl) (by simp +decide only[Gz,d0]) rfl ⟨rfl,X7.trans X8 (.inl rfl),by rw[← List.append_assoc];exact B8⟩
theorem fn26:tab.fn.get 26=some Tryd.f26:=by kernel_rfl
theorem fn63:tab.fn.get 63=some Tryd.f63:=by kernel_rfl
theorem fn64:tab.fn.get 64=some Tryd.f64:=by kernel_rfl
theorem prt_pos:∀ t:Hs.Item,prtI t≠[]
 | .mk k m tx ks=>by
  intro h
  rw[prtI] at h
  simp only[List.append_eq_nil_iff] at h
  have:=congrArg List.length h.1.1.1
  rw[Lib.decDigits_length] at this
  have:=Lib.nDigits_pos k.toNat
  simp at*
  omega
theorem str64 (hI:∀ args h,I 64 args h=none) {kB base:Nat} {g:H} {bs:List UInt8} (f:Fit g) (b:Bld 106 kB base g bs) (hbs:bs≠[]) (hl:bs.length≤1000000000) :
  ∃ n v g',(ev tab E I n).call 64 [.pointer (some (own kB))] g=some (v,g')∧(v=.string ⟨⟨bs⟩⟩∧Lw base g g'∧∀ k B,g.blk k=some B→B.plain=true→g'.blk k=some B):=by
 obtain⟨p,s,ro,hb,hp,ap,hc⟩:=b
 obtain⟨k,q,hs,hd,hu,L,hk⟩:=unsafe_str (D:=tab) (E:=E) (pt:=156) f ap hc hbs hl qty156 qty5
 have l1:g.cell E (aadd (own kB) 1)=some s:=blk_cell (i:=1) hb rfl (by rw[hs];rfl)
 have ln:∀ h,alen tab 31 s h=some (.int .i64 (bs.length:Nat)):=fun h=>by rw[hs];exact qlen31 _ _ _
 apply Wk (hI _ _) fn64 rfl
 intro A0 n0 d0 hA0
 change A0.n=14 at n0
 have q0:A0.get 0=.pointer (some (own kB)):=hA0 0 _ rfl
 clear hA0
 (repeat' (with_reducible apply Ws));(apply Wn 1;focus ((repeat ((with_reducible apply Rr rfl);focus ((try simp +decide only[Oz,n0]);with_reducible rfl)));with_reducible exact Rn))
 repeat' (with_reducible apply Wc.seq)
 refine Wc.drawQ 1 (by kernel_rfl) ?_
 (iterate 10 ((first|apply Qp rfl rfl rfl|apply FQ.new rfl rfl);focus ((try simp +decide only[Oz,n0,q0,qfa106_1,Qx,Hx,l1,hd,ln]);with_reducible rfl)))
 refine FQ.mod (h1:=q) (x:=.string ⟨⟨bs⟩⟩) rfl rfl (by simp +decide only[Oz,n0,hu]) ?_
 (iterate 1 ((first|apply Qp rfl rfl rfl|apply FQ.new rfl rfl);focus ((try simp +decide only[Oz,n0]);with_reducible rfl)))
 refine FQ.nil ⟨?_,?_⟩
 ·exact allMeet_but0 [10] 12 rfl rfl (by kernel_rfl)
 repeat' (first|with_reducible apply Ws|(apply Wp;focus ((repeat ((with_reducible apply Rr rfl);focus ((try simp +decide only[Oz,n0]);with_reducible rfl)));with_reducible exact Rn))|(refine W2 (by simp +decide only[Cz,n0];try with_reducible rfl) (fun hb=>?_) (fun hb=>?_)<;>try contradiction)|apply W3|apply W4|apply W5|apply W6)
 exact done_q (v:=.string ⟨⟨bs⟩⟩) (.inr rfl) (by simp +decide only[Gz,d0]) rfl (by simp +decide only[Gz,n0]) ⟨rfl,L,hk⟩
theorem short63 (hI:∀ args h,I 63 args h=none) {g:H} (bs:List UInt8) :
  ∃ n v g',(ev tab E I n).call 63 [.string ⟨⟨bs⟩⟩] g=some (v,g')∧(v=(if bs.length≤65536 then .tuple #[.string ⟨⟨bs⟩⟩,.int .i64 0] else .tuple #[.string ⟨⟨[]⟩⟩,.int .i64 11])∧g'=g):=by
 apply Wk (hI _ _) fn63 rfl
 intro A0 n0 d0 hA0
 change A0.n=10 at n0
 have q0:A0.get 0=.string ⟨⟨bs⟩⟩:=hA0 0 _ rfl
 clear hA0
 by_cases h:bs.length≤65536
 ·have e:decide ((bs.length:Int)>65536)=false:=decide_eq_false (by omega)
  rw[if_pos h]
  repeat' (first|with_reducible apply Ws|(apply Wp;focus ((repeat ((with_reducible apply Rr rfl);focus ((try simp +decide only[Oz,n0,q0,Qx,List.toList_toArray,e]);with_reducible rfl)));with_reducible exact Rn))|(refine W2 (by simp +decide only[Cz,n0,q0,Qx,List.toList_toArray,e];try with_reducible rfl) (fun hb=>?_) (fun hb=>?_)<;>try contradiction)|apply W3|apply W4|apply W5|apply W6)
  exact done_q2 (v:=.string ⟨⟨bs⟩⟩) (x:=.int .i64 0) (.inr rfl) (by simp +decide only[Gz,d0]) rfl (by simp +decide only[Gz,n0]) (by simp +decide only[Gz,n0]) ⟨rfl,rfl⟩
 ·have e:decide ((bs.length:Int)>65536)=true:=decide_eq_true (by omega)
  rw[if_neg h]
  repeat' (first|with_reducible apply Ws|(apply Wp;focus ((repeat ((with_reducible apply Rr rfl);focus ((try simp +decide only[Oz,n0,q0,Qx,List.toList_toArray,e]);with_reducible rfl)));with_reducible exact Rn))|(refine W2 (by simp +decide only[Cz,n0,q0,Qx,List.toList_toArray,e];try with_reducible rfl) (fun hb=>?_) (fun hb=>?_)<;>try contradiction)|apply W3|apply W4|apply W5|apply W6)
  exact done_q2 (v:=.string ⟨⟨[]⟩⟩) (x:=.int .i64 11) (.inr rfl) (by simp +decide only[Gz,d0]) rfl (by simp +decide only[Gz,n0]) (by simp +decide only[Gz,n0]) ⟨rfl,rfl⟩
def prtV (t:Hs.Item):Value:=if (prtI t).length≤65536 then .tuple #[.string ⟨⟨prtI t⟩⟩,.int .i64 0] else .tuple #[.string ⟨⟨[]⟩⟩,.int .i64 11]
theorem print26 (hI:∀ f args h,(f=26∨f=62∨f=63∨f=64∨f=98∨f=100∨f=103)→I f args h=none) (kp:Kp I) (kc:Chk E I) {g:H} {t:Hs.Item} {xv:Value} (f:Fit g) (hr:rep E g t xv) (ft:goodI t∧lvlI t≤250∧isz t≤5000) :
  ∃ n v g',(ev tab E I n).call 26 [xv] g=some (v,g')∧(v=prtV t∧Mod (fun _=>False) g g'):=by
 obtain⟨x0,x1,x2,x3,rfl,xone⟩:=rep_four hr
 have hpl:=prtI_len t ft.1
 generalize hh1:g.new (.cells (Value.agg ⟨[x0,x1,x2,x3]⟩).cells.toList 25 none)=g1
 have t1:Ahd g g1:=by rw[← hh1];exact Ahd.new0 f rfl
 have b1:g1.blk g.next=some (.cells [x0,x1,x2,x3] 25 none):=by rw[← hh1];exact new_blk_new rfl
 have l1:g1.cells E (own g.next) 4=some [x0,x1,x2,x3]:=blk_cells b1 rfl xone
 have c35:=ev_known (D:=tab) (E:=E) (kc.1 t _ g1 (rep_grow t1.grows hr) (by omega))
 rw[chkI_fine ft] at c35
 have t2:Ahd g1 (g1.new (.cells (Value.agg #[.pointer none,.slice none 0 0]).cells.toList 106 none)):=Ahd.new0 t1.fit rfl
 have b2:(g1.new (.cells (Value.agg #[.pointer none,.slice none 0 0]).cells.toList 106 none)).blk g1.next=some (.cells [.pointer none,.slice none 0 0] 106 none):=new_blk_new rfl
 generalize hh2:g1.new (.cells (Value.agg #[.pointer none,.slice none 0 0]).cells.toList 106 none)=g2 at t2 b2
 have T2:=t1.trans t2
 have l2:g2.cells E (own g.next) 4=some [x0,x1,x2,x3]:=blk_cells (t2.grows _ _ b1) rfl xone
 have B2:Bld 106 g1.next g.next g2 []:=⟨.pointer none,.slice none 0 0,none,b2,.inl rfl,.inl ⟨rfl,rfl,rfl,rfl⟩,fun r hr=>by cases hr⟩
 obtain⟨n62,_,g3,c62,rfl,X,B3⟩:=printed62 (E:=E) (I:=I) (fun f args h hf=>hI f args h (by rcases hf with h|h|h|h<;>simp[h])) kp f (kB:=g1.next) t1.next (isz t) t _ [] g2 (Nat.le_refl _) hr ft.1 ft.2.2 T2.grows T2.fit T2.next B2 (by simp only[List.length_nil];omega)
 rw[List.nil_append] at B3
 obtain⟨n64,_,g4,c64,rfl,L,_⟩:=str64 (E:=E) (I:=I) (fun args h=>hI _ args h (by simp)) X.fit B3 (prt_pos t) (by omega)
 obtain⟨n63,_,g5,c63,e63,f63⟩:=short63 (E:=E) (I:=I) (fun args h=>hI _ args h (by simp)) (g:=g4) (prtI t)
 rw[f63] at c63
 have M:Mod (fun _=>False) g g4:=((X.lw t1.next).trans L).mod f T2.mod
 have c64f:=(ev_mono (D:=tab) (E:=E) I (show n64≤n64+n63 by omega)).call c64
 have c63f:=(ev_mono (D:=tab) (E:=E) I (show n63≤n64+n63 by omega)).call c63
 have e0:(!decide ((0:Int)=0))=false:=rfl
 have fin:∀ a b,(if (prtI t).length≤65536 then Value.tuple #[.string ⟨⟨prtI t⟩⟩,.int .i64 0] else .tuple #[.string ⟨⟨[]⟩⟩,.int .i64 11])=.tuple #[a,b]→prtV t=.tuple #[a,b]:=fun a b h=>h
 obtain⟨va,vb,hv⟩:∃ a b,(if (prtI t).length≤65536 then Value.tuple #[.string ⟨⟨prtI t⟩⟩,.int .i64 0] else .tuple #[.string ⟨⟨[]⟩⟩,.int .i64 11])=.tuple #[a,b]:=by
  split
  ·exact⟨_,_,rfl⟩
  ·exact⟨_,_,rfl⟩
 rw[e63,hv] at c63f
 apply Wk (hI _ _ _ (.inl rfl)) fn26 rfl
 intro A0 n0 d0 hA0
 change A0.n=17 at n0
 have q0:A0.get 0=.agg ⟨[x0,x1,x2,x3]⟩:=hA0 0 _ rfl
 clear hA0
 (repeat' (with_reducible apply Ws));(apply Wn 1;focus ((repeat ((with_reducible apply Rr rfl);focus ((try simp +decide only[Oz,n0,q0,hh1]);with_reducible rfl)));with_reducible exact Rn))
 (repeat' (with_reducible apply Ws));(apply Wn 1;focus ((repeat ((with_reducible apply Rr rfl);focus ((try simp +decide only[Oz,n0,Qx,Hx,l1,c35]);with_reducible rfl)));with_reducible exact Rn))
 repeat' (first|with_reducible apply Ws|(apply Wp;focus ((repeat ((with_reducible apply Rr rfl);focus ((try simp +decide only[Oz,n0,e0]);with_reducible rfl)));with_reducible exact Rn))|(refine W2 (by simp +decide only[Cz,n0,e0];try with_reducible rfl) (fun hb=>?_) (fun hb=>?_)<;>try contradiction)|apply W3|apply W4|apply W5|apply W6)
 (repeat' (with_reducible apply Ws));(apply Wn 1;focus ((repeat ((with_reducible apply Rr rfl);focus ((try simp +decide only[Oz,n0,qtz106,hh2]);with_reducible rfl)));with_reducible exact Rn))
 (repeat' (with_reducible apply Ws));(apply Wn n62;focus ((repeat ((with_reducible apply Rr rfl);focus ((try simp +decide only[Oz,n0,Qx,Hx,l2,c62]);with_reducible rfl)));with_reducible exact Rn))
 (repeat' (with_reducible apply Ws));(apply Wn (n64+n63);focus ((repeat ((with_reducible apply Rr rfl);focus ((try simp +decide only[Oz,n0,c64f,c63f,ex0,ex1]);with_reducible rfl)));with_reducible exact Rn))
 repeat' (first|with_reducible apply Ws|(apply Wp;focus ((repeat ((with_reducible apply Rr rfl);focus ((try simp +decide only[Oz,n0]);with_reducible rfl)));with_reducible exact Rn))|(refine W2 (by simp +decide only[Cz,n0];try with_reducible rfl) (fun hb=>?_) (fun hb=>?_)<;>try contradiction)|apply W3|apply W4|apply W5|apply W6)
 exact done_q2 (v:=va) (x:=vb) (.inr rfl) (by simp +decide only[Gz,d0]) rfl (by simp +decide only[Gz,n0]) (by simp +decide only[Gz,n0]) ⟨(fin _ _ hv).symm,M⟩
end Go.Proofs.YtofijpbmbmbnhaaDoor
