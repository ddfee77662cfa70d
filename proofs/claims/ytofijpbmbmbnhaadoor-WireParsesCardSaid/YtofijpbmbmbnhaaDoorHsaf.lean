/- Bytes that are collected. -/
import Derived.Test.YtofijpbmbmbnhaaDoorHsae
set_option linter.unusedSimpArgs false
set_option linter.unusedVariables false
namespace Go.Hs
theorem apn_step {D:Tab} {E:Env} {h:H} {base:Nat} {t t2 e:TypeId} {sz by_ n m c i6 i7:Nat} {ax:Addr} {i8:Option Value} {i9:Bool} {s ze:Value} {xs cs:List Value} {ro:Option Nat} (f:Fit h) (hbn:base≤h.next) (ap:Ap2 h base e sz s n xs ro)
  (ht:D.ty.get t=some ⟨.slice e sz by_,i6,i7,i8,i9⟩) (hz:tzero D e=some ze) (hzz:(Nat.beq ze.cells.toList.length sz&&Nat.blt 0 sz&&ze.cells.toList.all isOne)=true) (hzt:zeroArg D t2 (.slice (some ax) (m+1) c)=some false)
  (hx:h.cells E ax ((m+1)*sz)=some cs) (hcl:cs.length=(m+1)*sz) (hc1:cs.all isOne=true) (hrm:roomy (n+(m+1)) by_=true) :
  ∃ s' h' ro',aappend D E t t2 s (.slice (some ax) (m+1) c) h=some (s',h')∧Ap2 h' base e sz s' (n+(m+1)) (xs++cs) ro'∧Grew base ro h h'∧(ro=none∧ro'=some h.next∨ro≠none∧ro'=ro)∧∀ r',r'<h.next→ro≠some r'→h'.chain r'=h.chain r':=by
 have hel:aelems E sz ze.cells.toList (.slice (some ax) (m+1) c) h=some (m+1,cs):=by
  simp only[aelems,hx]
 have hbl:Nat.beq cs.length ((m+1)*sz)=true:=by rw[hcl];exact Nat.beq_refl _
 have hsz:0<sz:=by
  simp only[Bool.and_eq_true,Nat.blt_eq] at hzz
  exact hzz.1.2
 rcases ap with⟨rfl,rfl,rfl,rfl⟩|⟨k,r,rfl,hb,hl,h1,hbr,hrx,hch,rfl⟩
 ·rw[Nat.zero_add] at hrm ⊢
  refine⟨.slice (some (own h.next)) (m+1) (m+1),h.newOpen cs e,some h.next,?_,.inr ⟨h.next,h.next,rfl,?_,?_,?_,hbn,Nat.lt_succ_self _,?_,rfl⟩,⟨newOpen_fit f,fun k B hb _=>newOpen_old f hb,rfl,rfl,Nat.le_succ _,fun r hr => ?_⟩,.inl ⟨rfl,rfl⟩,fun r' hr' _=>by simp only[H.chain,H.newOpen];rw[T.get_set_ne _ _ _ _ (by omega)]⟩
  ·unfold aappend
   rw[ht]
   simp only[hz,hzt,hzz,hel,hbl,hrm]
  ·exact newOpen_new
  ·rw[List.nil_append];exact hcl
  ·rw[List.nil_append];exact hc1
  ·intro j hj
   simp only[H.chain,H.newOpen,T.get_set_same,Option.getD,List.mem_singleton] at hj
   subst hj
   exact⟨cs,e,0,T.get_set_same _ _ _,by rw[Nat.zero_add,hcl];exact Nat.le_refl _⟩
  ·simp only[H.chain,H.newOpen]
   rw[T.get_set_ne _ _ _ _ (by omega)]
 ·have hkn:=f.lt hb
  have hd:=H.blk_dyn hb
  have hrn:=f.ok.1 _ _ _ _ _ hd
  have hgr:h.grow e r (0+(own k).off) (n*sz) (own k).block (xs.drop (own k).off) cs={ h with next:=h.next+1,dyn:=h.dyn.set h.next (.cells (xs++cs) e (some (r,0))),chains:=h.chains.set r (h.next::h.spare r k (0+n*sz) (0+n*sz+cs.length)) }:=by
   unfold H.grow
   simp only[own,Nat.add_zero,List.drop_zero]
   have hgone:h.gone r k (0+n*sz) (0+n*sz+cs.length)=[]:=by
    rw[List.eq_nil_iff_forall_not_mem]
    intro j hj
    obtain⟨hj1,hj2⟩:=mem_gone.1 hj
    obtain⟨ys,ty,p,hd,hle⟩:=hch j hj1
    unfold H.hits at hj2
    split at hj2
    ·cases hj2
    ·rw[hd] at hj2
     simp only[Bool.and_eq_true,Nat.blt_eq] at hj2
     omega
   rw[hgone]
   exact note_nil _
  generalize hg:({ h with next:=h.next+1,dyn:=h.dyn.set h.next (.cells (xs++cs) e (some (r,0))),chains:=h.chains.set r (h.next::h.spare r k (0+n*sz) (0+n*sz+cs.length)) }:H)=g at hgr
  have hcr:g.chain r=h.next::h.spare r k (0+n*sz) (0+n*sz+cs.length):=by
   rw[← hg];simp only[H.chain,T.get_set_same,Option.getD]
  have hcn:∀ r',r'≠r→g.chain r'=h.chain r':=by
   intro r' hr'
   rw[← hg];simp only[H.chain];rw[T.get_set_ne _ _ _ _ hr']
  have hgn:g.next=h.next+1:=by rw[← hg]
  have hnew:g.blk h.next=some (.cells (xs++cs) e (some (r,0))):=by
   have hdd:g.dyn.get h.next=some (.cells (xs++cs) e (some (r,0))):=by rw[← hg];exact T.get_set_same _ _ _
   unfold H.blk
   rw[hdd]
   simp only[hcr,List.contains_cons,beq_self_eq_true,Bool.true_or]
  have hold:∀ j,j≠h.next→g.dyn.get j=h.dyn.get j:=by
   intro j hj
   rw[← hg];exact T.get_set_ne _ _ _ _ hj
  refine⟨.slice (some (own h.next)) (n+(m+1)) (n+(m+1)),g,some r,?_,.inr ⟨h.next,r,rfl,hnew,?_,?_,hbr,by rw[hgn];omega,?_,rfl⟩,⟨⟨fun j hj => ?_,fun j ys ty r' p hd' => ?_,?_⟩,?_,?_,?_,?_,?_⟩,.inr ⟨by simp,rfl⟩,fun r' _ hr'=>hcn r' (fun e=>hr' (by rw[e]))⟩
  ·unfold aappend
   rw[ht]
   simp only[hz,hzt,hzz,hel,hbl,hrm]
   have e1:(own k).spot=some 0:=rfl
   have e2:(own k).block=k:=rfl
   have e3:(own k).off=0:=rfl
   have e4:Nat.ble (n+(m+1)) n=false:=by
    cases hq:Nat.ble (n+(m+1)) n
    ·rfl
    ·rw[Nat.ble_eq] at hq;omega
   simp only[e1,e2,hb,e4]
   have e5:(Nat.beq n n&&Nat.beq ((own k).off+n*sz) xs.length&&Nat.beq e e&&(xs.drop (own k).off).all isOne&&Nat.ble (own k).off xs.length)=true:=by
    rw[e3,Nat.zero_add,hl,List.drop_zero,h1,Nat.beq_refl,Nat.beq_refl,Nat.beq_refl]
    simp[Nat.ble]
   simp only[e5]
   rw[← hgr];rfl
  ·rw[List.length_append,hl,hcl,← Nat.add_mul]
  ·rw[List.all_append,h1,hc1];rfl
  ·intro j hj
   rw[hcr] at hj
   rcases List.mem_cons.1 hj with rfl|hj
   ·exact⟨xs++cs,e,0,H.blk_dyn hnew,by rw[List.length_append,hl,hcl,Nat.add_mul n];omega⟩
   ·obtain⟨ys,ty,p,hd,hle⟩:=hch j (mem_spare.1 hj).1
    have hjn:j≠h.next:=by
     intro e
     subst e
     rw[f.free _ (Nat.le_refl _)] at hd;cases hd
    refine⟨ys,ty,p,by rw[hold j hjn];exact hd,?_⟩
    rw[Nat.add_mul n];omega
  ·rw[hgn] at hj
   rw[hold j (by omega)];exact f.free j (by omega)
  ·rw[hgn]
   by_cases hj:j=h.next
   ·subst hj
    have:=H.blk_dyn hnew
    rw[this] at hd'; cases hd'; omega
   ·rw[hold j hj] at hd'
    have:=f.ok.1 _ _ _ _ _ hd'; omega
  ·rw[hgn]
   have:=f.ok.2
   rw[← hg];exact Nat.le_succ_of_le this
  ·intro j B hbj hro
   have hjn:=f.lt hbj
   rw[← hbj]
   refine blk_congr (hold j (by omega)) (fun ys u r' q hd' => ?_)
   have:B=.cells ys u (some (r',q)):=by
    have:=H.blk_dyn hbj
    rw[hd'] at this;cases this;rfl
   have hne:=hro _ _ _ _ this
   rw[hcn r' (fun h=>hne (by rw[h]))]
  ·rw[← hg]
  ·rw[← hg]
  ·rw[hgn];omega
  ·intro r' hr'
   exact hcn r' (by omega)
section
variable {D:Tab} {E:Env} {tb:TypeId}
def Bol (tb:TypeId) (base top:Nat) (g:H) (sl:Value) (bs:List UInt8):Prop:=∃ ro,Ap2 g base tb 1 sl bs.length (bytesV bs) ro∧∀ r,ro=some r→base≤r∧r<top
theorem Bol.nil (base top:Nat) (g:H):Bol tb base top g (.slice none 0 0) []:=⟨none,.inl ⟨rfl,rfl,rfl,rfl⟩,fun _ h=>by cases h⟩
theorem Bol.mod {M:Nat→Prop} {base top:Nat} {g g':H} {sl:Value} {bs:List UInt8} (K:Bol tb base top g sl bs) (m:Mod M g g') (hp:∀ k B,M k→g.blk k=some B→B.plain=true):Bol tb base top g' sl bs:=by
 obtain⟨ro,h1,h3⟩:=K
 exact⟨ro,h1.mod m hp,h3⟩
theorem Bol.up {base top top':Nat} {g:H} {sl:Value} {bs:List UInt8} (K:Bol tb base top g sl bs) (h:top≤top'):Bol tb base top' g sl bs:=by
 obtain⟨ro,h1,h3⟩:=K
 exact⟨ro,h1,fun r hr=>⟨(h3 r hr).1,Nat.lt_of_lt_of_le (h3 r hr).2 h⟩⟩
theorem Bol.slice {base top:Nat} {g:H} {sl:Value} {bs:List UInt8} (K:Bol tb base top g sl bs):∃ b,sl=.slice b bs.length bs.length:=by
 obtain⟨ro,h1,_⟩:=K
 rcases h1 with⟨e,_,rfl,_⟩|⟨k,r,rfl,_⟩
 ·exact⟨none,by rw[e]⟩
 ·exact⟨_,rfl⟩
theorem Bol.byt {base top:Nat} {g:H} {sl:Value} {bs:List UInt8} (K:Bol tb base top g sl bs):Byt E g sl bs:=by
 obtain⟨ro,h1,_⟩:=K
 rcases h1 with⟨e,_,rfl,_⟩|⟨k,r,rfl,hb,hl,ho,_⟩
 ·exact .inl ⟨rfl,List.length_eq_zero_iff.1 e⟩
 ·exact .inr ⟨own k,_,rfl,Nat.le_refl _,blk_cells hb (bytesV_length bs) ho⟩
theorem bytesV_append (a b:List UInt8):bytesV (a++b)=bytesV a++bytesV b:=by simp[bytesV]
theorem bol_step {t t2 by_ i6 i7:Nat} {i8:Option Value} {i9:Bool} {ze:Value} {base top:Nat} {g:H} {sl x:Value} {bs cs:List UInt8} (f:Fit g) (hbn:base≤g.next) (htop:top≤g.next) (K:Bol tb base top g sl bs)
  (ht:D.ty.get t=some ⟨.slice tb 1 by_,i6,i7,i8,i9⟩) (hz:tzero D tb=some ze) (hzz:(Nat.beq ze.cells.toList.length 1&&Nat.blt 0 1&&ze.cells.toList.all isOne)=true) (hzt:zeroArg D t2 x=some false)
  (hx:Byt E g x cs) (hrm:roomy (bs.length+cs.length) by_=true) :
  ∃ sl' q,aappend D E t t2 sl x g=some (sl',q)∧Bol tb base q.next q sl' (bs++cs)∧Aps base g q:=by
 have zero:cs.length=0→aelems E 1 ze.cells.toList x g=some (0,[])→∃ sl' q,aappend D E t t2 sl x g=some (sl',q)∧Bol tb base q.next q sl' (bs++cs)∧Aps base g q:=by
  intro h0 hel
  obtain rfl:=List.length_eq_zero_iff.1 h0
  refine⟨sl,g,?_,by rw[List.append_nil];exact K.up htop,none,(fun _ h=>by cases h),⟨f,fun _ _ h _=>h,rfl,rfl,Nat.le_refl _,fun _ _=>rfl⟩⟩
  obtain⟨b,rfl⟩:=K.slice
  obtain⟨ro,h1,_⟩:=K
  unfold aappend
  rw[ht]
  have hb0:Nat.beq ([]:List Value).length (0*1)=true:=rfl
  simp only[hz,hzt,hzz,hel,hb0]
  rcases h1 with⟨e,_,e2,_⟩|⟨k,r,e2,_⟩
  ·rw[e2];rfl
  ·rw[e2]
   simp only[Nat.ble_self_eq_true]
 rcases hx with⟨rfl,rfl⟩|⟨a,c,rfl,hc,hcs⟩
 ·exact zero rfl rfl
 obtain⟨l,hn⟩:∃ l,cs.length=l:=⟨_,rfl⟩
 cases l with
 | zero=>
  refine zero hn ?_
  simp only[aelems,hn,Nat.zero_mul,H.cells]
 | succ m=>
  rw[hn] at hcs hrm hzt ⊢
  obtain⟨ro,h1,h3⟩:=K
  obtain⟨s',q,ro',happ,ap4,gw,hroo⟩:=apn_step f hbn h1 ht hz hzz hzt (by rw[Nat.mul_one];exact hcs) (by rw[Nat.mul_one,bytesV_length,hn]) (bytesV_one cs) hrm
  refine⟨s',q,happ,⟨ro',?_,fun r hr => ?_⟩,ro,fun r hr=>(h3 r hr).1,gw⟩
  ·rw[List.length_append,hn,bytesV_append];exact ap4
  ·rcases ap4 with⟨_,_,_,e3⟩|⟨_,rr,_,_,_,_,e5,e6,_,e8⟩
   ·rw[e3] at hr;cases hr
   ·rw[e8] at hr;cases hr;exact⟨e5,e6⟩
end
section
variable {D:Tab} {E:Env} {tb:TypeId}
theorem Mod.quiet {g h:H} (m:Mod (fun _=>False) (fresh g) h):h.log=[]:=by
 refine List.eq_nil_iff_forall_not_mem.2 fun j hj => ?_
 rcases m.log j hj with h1|⟨h1,_⟩
 ·cases h1
 ·exact h1
end
def plainB (c:UInt8):Bool:=decide (32≤c.toNat)&&decide (c.toNat≤126) && !decide (c.toNat=34) && !decide (c.toNat=92)
def hexB (n:Nat):UInt8:=UInt8.ofNat (if n<10 then 48+n else 87+n)
theorem lvlL_lei:∀ (ks:List Item) (m B:Int),lvlL ks m≤B↔m≤B∧∀ t∈ks,lvlI t≤B
 | [],m,B=>by rw[lvlL];simp
 | x::ks,m,B=>by
  rw[lvlL]
  split
  ·rw[lvlL_lei ks _ B]
   simp only[List.mem_cons,forall_eq_or_imp]
   constructor
   ·rintro⟨h1,h2⟩;exact⟨by omega,h1,h2⟩
   ·rintro⟨h1,h2,h3⟩;exact⟨h2,h3⟩
  ·rw[lvlL_lei ks _ B]
   simp only[List.mem_cons,forall_eq_or_imp]
   constructor
   ·rintro⟨h1,h2⟩;exact⟨h1,by omega,h2⟩
   ·rintro⟨h1,h2,h3⟩;exact⟨h1,h3⟩
def isDig (c:UInt8):Bool:=decide (48≤c.toNat)&&decide (c.toNat≤57)
def digRun (bs:List UInt8):Nat→Nat→Nat→Nat×Nat
 | 0,pos,n=>(pos,n)
 | k+1,pos,n=>match bs[pos]? with
  | none=>(pos,n)
  | some c=>if isDig c=true then digRun bs k (pos+1) (min (10*n+(c.toNat-48)) 1099511627777) else (pos,n)
def rdDec (bs:List UInt8) (most:Nat) (zero:Int) (pos items:Nat):Rd Nat:=
 if (digRun bs (bs.length-pos) pos 0).1=pos∨(bs[pos]? = some 48∧pos+1<(digRun bs (bs.length-pos) pos 0).1) then .bad pos 4
 else if most<(digRun bs (bs.length-pos) pos 0).2 then .bad pos 3
 else if (digRun bs (bs.length-pos) pos 0).2=0 then .bad pos zero
 else .ok (digRun bs (bs.length-pos) pos 0).2 (digRun bs (bs.length-pos) pos 0).1 items
def valB (c:UInt8):Option Nat:=if isDig c=true then some (c.toNat-48) else if 97≤c.toNat∧c.toNat≤102 then some (c.toNat-87) else none
def rdHid (bs:List UInt8) (pos:Nat):Rd UInt8:=
 match bs[pos]? with
 | none=>.bad bs.length 4
 | some c1=>match valB c1 with
  | none=>.bad (pos-1) 4
  | some a=>match bs[pos+1]? with
   | none=>.bad bs.length 4
   | some c2=>match valB c2 with
    | none=>.bad (pos-1) 4
    | some b=>if plainB (UInt8.ofNat (a*16+b))=true then .bad (pos-1) 4 else .ok (UInt8.ofNat (a*16+b)) (pos+2) 0
def quoRun (bs:List UInt8):Nat→Nat→List UInt8→Rd (List UInt8)
 | 0,pos,_=>.bad pos 4
 | k+1,pos,acc=>match bs[pos]? with
  | none=>.bad pos 4
  | some c=>
   if c=34 then .ok acc (pos+1) 0
   else if c=92 then match rdHid bs (pos+1) with
    | .bad p e=>.bad p e
    | .ok x p _=>quoRun bs k p (acc++[x])
   else if plainB c=true then quoRun bs k (pos+1) (acc++[c])
   else .bad pos 4
def rdQuo (bs:List UInt8) (pos items:Nat):Rd ByteArray:=
 match quoRun bs (bs.length+1-pos) pos [] with
 | .bad p e=>.bad p e
 | .ok acc p _=>if acc=[] then .bad (pos-1) 4 else if 4096<acc.length then .bad (pos-1) 11 else .ok ⟨⟨acc⟩⟩ p items
def rdPK (bs:List UInt8) (rec:Nat→Nat→Rd Item):Nat→List Item→Nat→Nat→Rd (List Item)
 | 0,_,pos,_=>.bad pos 4
 | k+1,acc,pos,items=>match rec pos items with
  | .bad p e=>.bad p e
  | .ok t p it=>
   if bs[p]? = some 41 then .ok (acc++[t]) (p+1) it
   else if bs[p]? = some 32 then rdPK bs rec k (acc++[t]) (p+1) it
   else .bad p 4
def rdPI (bs:List UInt8):Nat→Nat→Nat→Rd Item
 | 0,pos,_=>.bad pos 11
 | f+1,pos,items=>
  if 5000≤items then .bad pos 2
  else match rdDec bs 63 3 pos (items+1) with
   | .bad p e=>.bad p e
   | .ok k p it=>match (if bs[p]? = some 58 then rdDec bs 1099511627776 4 (p+1) it else .ok 0 p it) with
    | .bad p e=>.bad p e
    | .ok m p it=>match (if bs[p]? = some 34 then rdQuo bs (p+1) it else .ok ⟨⟨[]⟩⟩ p it) with
     | .bad p e=>.bad p e
     | .ok tx p it=>
      if bs[p]? = some 40 then match rdPK bs (rdPI bs f) (bs.length+1) [] (p+1) it with
       | .bad p e=>.bad p e
       | .ok ks p it=>.ok (.mk (k:Nat) (m:Nat) tx ks) p it
      else .ok (.mk (k:Nat) (m:Nat) tx []) p it
def prsR (bs:List UInt8):Rd Item:=
 if 65536<bs.length then .bad 0 11
 else match rdPI bs 250 0 0 with
  | .bad p e=>.bad p e
  | .ok t p items=>if p<bs.length then .bad p 4 else .ok t p items
/-! ### What is so of what is read -/
theorem digRun_pos {bs:List UInt8}:∀ (k pos n:Nat),pos≤bs.length→pos≤(digRun bs k pos n).1∧(digRun bs k pos n).1≤bs.length∧(n≤1099511627777→(digRun bs k pos n).2≤1099511627777)
 | 0,pos,n,h=>⟨Nat.le_refl _,h,fun h=>h⟩
 | k+1,pos,n,h=>by
  rw[digRun]
  split
  ·exact⟨Nat.le_refl _,h,fun h=>h⟩
  ·next c hc=>
   have hlt:=(List.getElem?_eq_some_iff.1 hc).1
   split
   ·obtain⟨h1,h2,h3⟩:=digRun_pos (bs:=bs) k (pos+1) (min (10*n+(c.toNat-48)) 1099511627777) (by omega)
    exact⟨by omega,h2,fun _=>h3 (by omega)⟩
   ·exact⟨Nat.le_refl _,h,fun h=>h⟩
theorem rdDec_ok {bs:List UInt8} {most:Nat} {zero:Int} {pos items v p it:Nat} (h:rdDec bs most zero pos items=.ok v p it) (hp:pos≤bs.length):pos<p∧p≤bs.length∧1≤v∧v≤most∧it=items:=by
 unfold rdDec at h
 obtain⟨h1,h2,_⟩:=digRun_pos (bs:=bs) (bs.length-pos) pos 0 hp
 split at h
 ·cases h
 ·next hc=>
  split at h
  ·cases h
  ·split at h
   ·cases h
   ·cases h
    exact⟨by omega,h2,by omega,by omega,rfl⟩
theorem rdDec_bad {bs:List UInt8} {most:Nat} {zero:Int} {pos items p:Nat} {e:Int} (h:rdDec bs most zero pos items=.bad p e) (hp:pos≤bs.length) (hz:zero=3∨zero=4):p=pos∧(e=3∨e=4):=by
 unfold rdDec at h
 split at h
 ·cases h;exact⟨rfl,.inr rfl⟩
 ·split at h
  ·cases h;exact⟨rfl,.inl rfl⟩
  ·split at h
   ·cases h;exact⟨rfl,hz⟩
   ·cases h
theorem rdHid_ok {bs:List UInt8} {pos p it:Nat} {x:UInt8} (h:rdHid bs pos=.ok x p it):p=pos+2∧p≤bs.length:=by
 unfold rdHid at h
 split at h
 ·cases h
 ·split at h
  ·cases h
  ·split at h
   ·cases h
   ·next c2 hc2=>
    have:=(List.getElem?_eq_some_iff.1 hc2).1
    split at h
    ·cases h
    ·split at h
     ·cases h
     ·cases h;exact⟨rfl,by omega⟩
theorem rdHid_bad {bs:List UInt8} {pos p:Nat} {e:Int} (h:rdHid bs pos=.bad p e) (hp:pos≤bs.length):p≤bs.length∧e=4:=by
 unfold rdHid at h
 split at h
 ·cases h;exact⟨Nat.le_refl _,rfl⟩
 ·split at h
  ·cases h;exact⟨by omega,rfl⟩
  ·split at h
   ·cases h;exact⟨Nat.le_refl _,rfl⟩
   ·split at h
    ·cases h;exact⟨by omega,rfl⟩
    ·split at h
     ·cases h;exact⟨by omega,rfl⟩
     ·cases h
theorem quoRun_ok {bs:List UInt8}:∀ (k pos:Nat) (acc l:List UInt8) (p it:Nat),quoRun bs k pos acc=.ok l p it→pos<p∧p≤bs.length∧l.length≤acc.length+(p-pos)
 | 0,_,_,_,_,_,h=>by cases h
 | k+1,pos,acc,l,p,it,h=>by
  rw[quoRun] at h
  split at h
  ·cases h
  ·next c hc=>
   have hlt:=(List.getElem?_eq_some_iff.1 hc).1
   split at h
   ·cases h;exact⟨by omega,by omega,by omega⟩
   ·split at h
    ·split at h
     ·cases h
     ·next x p' it' hx=>
      obtain⟨h1,h2⟩:=rdHid_ok hx
      obtain⟨h3,h4,h5⟩:=quoRun_ok k _ _ _ _ _ h
      rw[List.length_append,List.length_singleton] at h5
      exact⟨by omega,h4,by omega⟩
    ·split at h
     ·obtain⟨h3,h4,h5⟩:=quoRun_ok k _ _ _ _ _ h
      rw[List.length_append,List.length_singleton] at h5
      exact⟨by omega,h4,by omega⟩
     ·cases h
theorem quoRun_bad {bs:List UInt8}:∀ (k pos:Nat) (acc:List UInt8) (p:Nat) (e:Int),quoRun bs k pos acc=.bad p e→pos≤bs.length→p≤bs.length∧e=4
 | 0,_,_,_,_,h,hp=>by cases h;exact⟨hp,rfl⟩
 | k+1,pos,acc,p,e,h,hp=>by
  rw[quoRun] at h
  split at h
  ·cases h;exact⟨hp,rfl⟩
  ·next c hc=>
   have hlt:=(List.getElem?_eq_some_iff.1 hc).1
   split at h
   ·cases h
   ·split at h
    ·split at h
     ·next hx=>cases h;exact rdHid_bad hx (by omega)
     ·next x p' it' hx=>
      obtain⟨h1,h2⟩:=rdHid_ok hx
      exact quoRun_bad k _ _ _ _ h h2
    ·split at h
     ·exact quoRun_bad k _ _ _ _ h (by omega)
     ·cases h;exact⟨hp,rfl⟩
theorem rdQuo_ok {bs:List UInt8} {pos items p it:Nat} {x:ByteArray} (h:rdQuo bs pos items=.ok x p it):pos<p∧p≤bs.length∧it=items∧∃ l,x=⟨⟨l⟩⟩∧l≠[]∧l.length≤4096∧quoRun bs (bs.length+1-pos) pos []=.ok l p 0:=by
 unfold rdQuo at h
 split at h
 ·cases h
 ·next acc p' it' hq=>
  have h1:=quoRun_ok _ _ _ _ _ _ hq
  have hit:∀ (k pos:Nat) (acc l:List UInt8) (p it:Nat),quoRun bs k pos acc=.ok l p it→it=0:=by
   intro k
   induction k with
   | zero=>intro _ _ _ _ _ h;cases h
   | succ k ih=>
    intro pos acc l p it h
    rw[quoRun] at h
    split at h
    ·cases h
    ·split at h
     ·cases h;rfl
     ·split at h
      ·split at h
       ·cases h
       ·exact ih _ _ _ _ _ h
      ·split at h
       ·exact ih _ _ _ _ _ h
       ·cases h
  have hi:=hit _ _ _ _ _ _ hq
  subst hi
  split at h
  ·cases h
  ·next hne=>
   split at h
   ·cases h
   ·next hlen=>
    cases h
    exact⟨h1.1,h1.2.1,rfl,acc,rfl,hne,by omega,hq⟩
theorem rdQuo_bad {bs:List UInt8} {pos items p:Nat} {e:Int} (h:rdQuo bs pos items=.bad p e) (hp:pos≤bs.length):p≤bs.length∧(e=4∨e=11):=by
 unfold rdQuo at h
 split at h
 ·next hq=>
  cases h
  obtain⟨h1,h2⟩:=quoRun_bad _ _ _ _ _ hq hp
  exact⟨h1,.inl h2⟩
 ·split at h
  ·cases h;exact⟨by omega,.inl rfl⟩
  ·split at h
   ·cases h;exact⟨by omega,.inr rfl⟩
   ·cases h
def PGood (bs:List UInt8) (f pos items:Nat):Rd Item→Prop
 | .ok t p it=>pos<p∧p≤bs.length∧goodI t∧lvlI t≤f∧it=items+isz t∧it≤5000
 | .bad p e=>p≤bs.length∧e≠0
theorem rdPK_good {bs:List UInt8} {f:Nat} {rec:Nat→Nat→Rd Item} (hr:∀ pos items,pos≤bs.length→items≤5000→PGood bs f pos items (rec pos items)) :
  ∀ (k:Nat) (acc:List Item) (pos items:Nat),pos≤bs.length→items≤5000→goodL acc→(∀ t∈acc,lvlI t≤f)→match rdPK bs rec k acc pos items with
   | .ok l p it=>pos<p∧p≤bs.length∧goodL l∧(∀ t∈l,lvlI t≤f)∧it+iszL acc=items+iszL l∧it≤5000∧l≠[]
   | .bad p e=>p≤bs.length∧e≠0
 | 0,acc,pos,items,hp,hi,_,_=>⟨hp,by decide⟩
 | k+1,acc,pos,items,hp,hi,ga,la=>by
  have h1:=hr pos items hp hi
  rw[rdPK]
  cases hq:rec pos items with
  | bad p e=>rw[hq] at h1;exact h1
  | ok t p it=>
   rw[hq] at h1
   obtain⟨e1,e2,e3,e4,e5,e6⟩:=h1
   have ga':=goodL_append ga e3
   have la':∀ u∈acc++[t],lvlI u≤f:=fun u hu=>by
    rcases List.mem_append.1 hu with h|h
    ·exact la u h
    ·rw[List.mem_singleton.1 h];exact e4
   have hs:=iszL_append acc t
   simp only
   by_cases c1:bs[p]? = some 41
   ·rw[if_pos c1]
    have:=(List.getElem?_eq_some_iff.1 c1).1
    exact⟨by omega,by omega,ga',la',by omega,e6,by simp⟩
   ·rw[if_neg c1]
    by_cases c2:bs[p]? = some 32
    ·rw[if_pos c2]
     have hlt:=(List.getElem?_eq_some_iff.1 c2).1
     have:=rdPK_good hr k (acc++[t]) (p+1) it (by omega) e6 ga' la'
     split at this
     ·obtain⟨f1,f2,f3,f4,f5,f6⟩:=this
      exact⟨by omega,f2,f3,f4,by omega,f6⟩
     ·exact this
    ·rw[if_neg c2]
     exact⟨e2,by decide⟩
theorem rdPI_good {bs:List UInt8}:∀ (f pos items:Nat),pos≤bs.length→items≤5000→PGood bs f pos items (rdPI bs f pos items)
 | 0,pos,items,hp,hi=>⟨hp,by decide⟩
 | f+1,pos,items,hp,hi=>by
  rw[rdPI]
  by_cases c0:5000≤items
  ·rw[if_pos c0];exact⟨hp,by decide⟩
  rw[if_neg c0]
  cases h1:rdDec bs 63 3 pos (items+1) with
  | bad p e=>
   obtain⟨rfl,he⟩:=rdDec_bad h1 hp (.inl rfl)
   exact⟨hp,by rcases he with rfl|rfl<;>decide⟩
  | ok k p it=>
   obtain⟨a1,a2,a3,a4,rfl⟩:=rdDec_ok h1 hp
   simp only
   have hm:∀ r,(if bs[p]? = some 58 then rdDec bs 1099511627776 4 (p+1) (items+1) else .ok 0 p (items+1))=r→match r with
     | .ok m p' it'=>p≤p'∧p'≤bs.length∧m≤1099511627776∧it'=items+1
     | .bad p' e=>p'≤bs.length∧e≠0:=by
    rintro r rfl
    by_cases c:bs[p]? = some 58
    ·rw[if_pos c]
     have hlt:=(List.getElem?_eq_some_iff.1 c).1
     cases h2:rdDec bs 1099511627776 4 (p+1) (items+1) with
     | bad p' e=>
      obtain⟨rfl,he⟩:=rdDec_bad h2 (by omega) (.inr rfl)
      exact⟨by omega,by rcases he with rfl|rfl<;>decide⟩
     | ok m p' it'=>
      obtain⟨b1,b2,b3,b4,rfl⟩:=rdDec_ok h2 (by omega)
      exact⟨by omega,b2,b4,rfl⟩
    ·rw[if_neg c];exact⟨Nat.le_refl _,a2,by decide,rfl⟩
   generalize (if bs[p]? = some 58 then rdDec bs 1099511627776 4 (p+1) (items+1) else .ok 0 p (items+1))=r at hm ⊢
   have hm:=hm r rfl
   cases r with
   | bad p' e=>exact hm
   | ok m p2 it2=>
    obtain⟨b1,b2,b3,rfl⟩:=hm
    simp only
    have ht:∀ r,(if bs[p2]? = some 34 then rdQuo bs (p2+1) (items+1) else .ok ⟨⟨[]⟩⟩ p2 (items+1))=r→match r with
      | .ok tx p' it'=>p2≤p'∧p'≤bs.length∧tx.data.toList.length≤4096∧it'=items+1
      | .bad p' e=>p'≤bs.length∧e≠0:=by
     rintro r rfl
     by_cases c:bs[p2]? = some 34
     ·rw[if_pos c]
      have hlt:=(List.getElem?_eq_some_iff.1 c).1
      cases h2:rdQuo bs (p2+1) (items+1) with
      | bad p' e=>
       obtain⟨h3,he⟩:=rdQuo_bad h2 (by omega)
       exact⟨h3,by rcases he with rfl|rfl<;>decide⟩
      | ok tx p' it'=>
       obtain⟨c1,c2,rfl,l,rfl,_,c4,_⟩:=rdQuo_ok h2
       exact⟨by omega,c2,c4,rfl⟩
     ·rw[if_neg c];exact⟨Nat.le_refl _,b2,by decide,rfl⟩
    generalize (if bs[p2]? = some 34 then rdQuo bs (p2+1) (items+1) else .ok ⟨⟨[]⟩⟩ p2 (items+1))=r at ht ⊢
    have ht:=ht r rfl
    cases r with
    | bad p' e=>exact ht
    | ok tx p3 it3=>
     obtain⟨c1,c2,c3,rfl⟩:=ht
     simp only
     by_cases c:bs[p3]? = some 40
     ·rw[if_pos c]
      have hlt:=(List.getElem?_eq_some_iff.1 c).1
      have hk:=rdPK_good (bs:=bs) (f:=f) (fun pos items h1 h2=>rdPI_good f pos items h1 h2) (bs.length+1) [] (p3+1) (items+1) (by omega) (by omega) (by rw[goodL];trivial) (fun _ h=>by cases h)
      cases h2:rdPK bs (rdPI bs f) (bs.length+1) [] (p3+1) (items+1) with
      | bad p' e=>rw[h2] at hk;exact hk
      | ok ks p' it'=>
       rw[h2] at hk
       obtain⟨k1,k2,k3,k4,k5,k6,k7⟩:=hk
       rw[iszL] at k5
       refine⟨by omega,k2,?_,?_,by rw[isz];omega,k6⟩
       ·rw[goodI];exact⟨by omega,by omega,by omega,by omega,c3,k3⟩
       ·rw[lvlI]
        have:=(lvlL_lei ks 0 f).2 ⟨by omega,k4⟩
        push_cast
        omega
     ·rw[if_neg c]
      refine⟨by omega,c2,?_,?_,by rw[isz,iszL],by omega⟩
      ·rw[goodI];exact⟨by omega,by omega,by omega,by omega,c3,by rw[goodL];trivial⟩
      ·rw[lvlI,lvlL];push_cast;omega
variable {D:Tab} {E:Env}
theorem RO.skipU {v:Ev} {ops:Array Oper} {o:Oper} {rest:List Oper} {A:Ac} {h:H} {res:Option (Ac×H)} {j:Nat} {w:Bool} {d:Tmp} (hg:o.guard=some (j,w)) (hd:(ops[j]?).bind (·.dst)=some d) (hv:A.get d=undef) (r:runOps D E v ops rest (A.put o.dst undef) h=res):runOps D E v ops (o::rest) A h=res:=by
 refine RO.skip ?_ r
 unfold awant
 rw[hg]
 simp only[ayield_get,hd,hv]
 cases w<;>rfl
theorem Wc.label {I:Known} {F:Fx} {l:Nat} {A:Ac} {h:H} {Q:Ex→Ac→H→Prop} (hq:Q .normal A h):Wc D E I F (.label l) A h Q:=⟨1,_,A,h,rfl,hq⟩
theorem Aps.keepP {base:Nat} {g q:H} (a:Aps base g q) {k:Nat} {B:Blk} (hk:g.blk k=some B) (hp:B.plain=true):q.blk k=some B:=by
 obtain⟨_,_,t⟩:=a
 exact t.keep k B hk (fun _ _ _ _ he=>by subst he;cases hp)
/-! ### Texts -/
theorem valB_hexB':∀ i:Fin 256,∀ v,valB (UInt8.ofNat i.val)=some v→v<16∧hexB v=UInt8.ofNat i.val:=by decide +kernel
theorem valB_hexB {c:UInt8} {v:Nat} (h:valB c=some v):v<16∧hexB v=c:=by
 have:=valB_hexB' ⟨c.toNat,c.toNat_lt⟩ v (by simpa using h)
 simpa using this
def rdDig (bs:List UInt8) (pos items:Nat):Rd Nat:=
 if (digRun bs (bs.length-pos) pos 0).1=pos∨(bs[pos]? = some 48∧pos+1<(digRun bs (bs.length-pos) pos 0).1) then .bad pos 4
 else if 1099511627776<(digRun bs (bs.length-pos) pos 0).2 then .bad pos 3
 else .ok (digRun bs (bs.length-pos) pos 0).2 (digRun bs (bs.length-pos) pos 0).1 items
theorem rdDec_dig {bs:List UInt8} {most:Nat} {zero:Int} {pos items:Nat} (hm:most≤1099511627776):rdDec bs most zero pos items=match rdDig bs pos items with
  | .bad p e=>.bad p e
  | .ok v p it=>if most<v then .bad pos 3 else if v=0 then .bad pos zero else .ok v p it:=by
 unfold rdDec rdDig
 generalize digRun bs (bs.length-pos) pos 0=r
 by_cases h1:r.1=pos∨(bs[pos]? = some 48∧pos+1<r.1)
 ·rw[if_pos h1,if_pos h1]
 ·rw[if_neg h1,if_neg h1]
  by_cases h2:1099511627776<r.2
  ·rw[if_pos h2,if_pos (by omega)]
  ·rw[if_neg h2]
theorem rdDig_ok {bs:List UInt8} {pos items v p it:Nat} (h:rdDig bs pos items=.ok v p it) (hp:pos≤bs.length):pos<p∧p≤bs.length∧v≤1099511627776∧it=items:=by
 unfold rdDig at h
 obtain⟨h1,h2,_⟩:=digRun_pos (bs:=bs) (bs.length-pos) pos 0 hp
 split at h
 ·cases h
 ·next hc=>
  split at h
  ·cases h
  ·cases h
   exact⟨by omega,h2,by omega,rfl⟩
theorem rdDig_bad {bs:List UInt8} {pos items p:Nat} {e:Int} (h:rdDig bs pos items=.bad p e):p=pos∧(e=3∨e=4):=by
 unfold rdDig at h
 split at h
 ·cases h;exact⟨rfl,.inr rfl⟩
 ·split at h
  ·cases h;exact⟨rfl,.inl rfl⟩
  ·cases h
def digI (c:UInt8):Int:=match valB c with
 | some a=>(a:Nat)
 | none => -1
theorem digI_hex:∀ i:Fin 16,digI (hexB i.val)=((i.val:Nat):Int):=by decide +kernel
theorem digI_not {c:UInt8} (h:∀ i,i<16→hexB i≠c):digI c = -1:=by
 unfold digI
 cases hv:valB c with
 | none=>rfl
 | some a=>
  obtain⟨h1,h2⟩:=valB_hexB hv
  exact absurd h2 (h a h1)
theorem valB_lt {c:UInt8} {v:Nat} (h:valB c=some v):v<16:=(valB_hexB h).1
def HexAt (bs:List UInt8) (p j n:Nat):Prop:=match j with
 | 0=>n=0
 | 1=>∃ c a,bs[p]? = some c∧valB c=some a∧n=a
 | _=>∃ c a c' b,bs[p]? = some c∧valB c=some a∧bs[p+1]? = some c'∧valB c'=some b∧n=a*16+b
theorem HexAt.step {bs:List UInt8} {p j n x:Nat} {c:UInt8} (h:HexAt bs p j n) (hj:j<2) (hc:bs[p+j]? = some c) (hx:valB c=some x):HexAt bs p (j+1) (16*n+x):=by
 rcases (show j=0∨j=1 by omega) with rfl|rfl
 ·have h:n=0:=h
  exact⟨c,x,hc,hx,by omega⟩
 ·obtain⟨c',a,h1,h2,h3⟩:=h
  exact⟨c',a,c,x,h1,h2,hc,hx,by omega⟩
theorem HexAt.small {bs:List UInt8} {p j n:Nat} (h:HexAt bs p j n) (hj:j<2):n<16:=by
 rcases (show j=0∨j=1 by omega) with rfl|rfl
 ·have h:n=0:=h
  omega
 ·obtain⟨c',a,h1,h2,h3⟩:=h
  have:=valB_lt h2
  omega
theorem HexAt.lt {bs:List UInt8} {p j n:Nat} (h:HexAt bs p j n) (hp:p≤bs.length) (hj:j≤2):p+j≤bs.length:=by
 rcases (show j=0∨j=1∨j=2 by omega) with rfl|rfl|rfl
 ·exact hp
 ·obtain⟨c',a,h1,h2,h3⟩:=h
  have:=(List.getElem?_eq_some_iff.1 h1).1
  omega
 ·obtain⟨c',a,c2,b,h1,h2,h3,h4,h5⟩:=h
  have:=(List.getElem?_eq_some_iff.1 h3).1
  omega
theorem HexAt.stop {bs:List UInt8} {p j n:Nat} (h:HexAt bs p j n) (hj:j<2) (hc:bs[p+j]? = none):rdHid bs p=.bad bs.length 4:=by
 unfold rdHid
 rcases (show j=0∨j=1 by omega) with rfl|rfl
 ·rw[show bs[p]? = none from hc]
 ·obtain⟨c',a,h1,h2,h3⟩:=h
  rw[h1]
  simp only[h2,hc]
theorem HexAt.not {bs:List UInt8} {p j n:Nat} {c:UInt8} (h:HexAt bs p j n) (hj:j<2) (hc:bs[p+j]? = some c) (hx:valB c=none):rdHid bs p=.bad (p-1) 4:=by
 unfold rdHid
 rcases (show j=0∨j=1 by omega) with rfl|rfl
 ·rw[show bs[p]? = some c from hc]
  simp only[hx]
 ·obtain⟨c',a,h1,h2,h3⟩:=h
  rw[h1]
  simp only[h2,hc,hx]
theorem HexAt.both {bs:List UInt8} {p n:Nat} (h:HexAt bs p 2 n):n<256∧rdHid bs p=if plainB (UInt8.ofNat n)=true then .bad (p-1) 4 else .ok (UInt8.ofNat n) (p+2) 0:=by
 obtain⟨c',a,c2,b,h1,h2,h3,h4,rfl⟩:=h
 have:=valB_lt h2
 have:=valB_lt h4
 refine⟨by omega,?_⟩
 unfold rdHid
 rw[h1]
 simp only[h2,h3,h4]
end Go.Hs
