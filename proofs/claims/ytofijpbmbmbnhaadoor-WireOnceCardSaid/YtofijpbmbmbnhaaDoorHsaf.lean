/- Bits of numbers, reckoned. -/
import Derived.Test.YtofijpbmbmbnhaaDoorHsae
import Derived.Lib.SmallJoins
import Derived.Lib.ItoaNum
set_option linter.unusedSimpArgs false
set_option linter.unusedVariables false
namespace Go.Hs
theorem wrapU8 {x:Nat} (h:x<256):IntKind.u8.wrap (x:Nat)=(x:Nat):=by
 simp only[IntKind.wrap,IntKind.bits,IntKind.signed]
 simp
 omega
theorem wrapN {x:Nat} (h:x<9223372036854775808):IntKind.i64.wrap (x:Nat)=(x:Nat):=wrap64 (by omega) (by omega)
theorem and_u8 (c m:Nat) (h:c<256) (hm:m<256):IntKind.u8.wrap (((BitVec.ofInt IntKind.u8.bits (c:Int) &&& BitVec.ofInt IntKind.u8.bits (m:Int)).toNat:Nat):Int)=((c &&& m:Nat):Int):=by
 have e:(BitVec.ofInt IntKind.u8.bits (c:Int) &&& BitVec.ofInt IntKind.u8.bits (m:Int)).toNat=c &&& m:=by
  rw[BitVec.ofInt_natCast,BitVec.ofInt_natCast,BitVec.toNat_and,BitVec.toNat_ofNat,BitVec.toNat_ofNat]
  rw[show 2 ^ IntKind.u8.bits=256 from rfl,Nat.mod_eq_of_lt h,Nat.mod_eq_of_lt hm]
 rw[e]
 exact wrapU8 (Nat.lt_of_le_of_lt Nat.and_le_left h)
theorem and127 (c:Nat) (h:c<256):IntKind.u8.wrap (((BitVec.ofInt IntKind.u8.bits (c:Int) &&& BitVec.ofInt IntKind.u8.bits 127).toNat:Nat):Int)=((c % 128:Nat):Int):=by
 have:=and_u8 c 127 h (by omega)
 rw[show c &&& 127=c % 128 from Nat.and_two_pow_sub_one_eq_mod c 7] at this
 exact this
theorem and63 (c:Nat) (h:c<256):IntKind.u8.wrap (((BitVec.ofInt IntKind.u8.bits (c:Int) &&& BitVec.ofInt IntKind.u8.bits 63).toNat:Nat):Int)=((c % 64:Nat):Int):=by
 have:=and_u8 c 63 h (by omega)
 rw[show c &&& 63=c % 64 from Nat.and_two_pow_sub_one_eq_mod c 6] at this
 exact this
theorem and_64:∀ c:Nat,c<256→c &&& 64=64*(c / 64 % 2):=by decide +kernel
theorem and_128:∀ c:Nat,c<256→c &&& 128=128*(c / 128):=by decide +kernel
theorem and64 (c:Nat) (h:c<256):IntKind.u8.wrap (((BitVec.ofInt IntKind.u8.bits (c:Int) &&& BitVec.ofInt IntKind.u8.bits 64).toNat:Nat):Int)=((64*(c / 64 % 2):Nat):Int):=by
 have:=and_u8 c 64 h (by omega)
 rw[and_64 c h] at this
 exact this
theorem and128 (c:Nat) (h:c<256):IntKind.u8.wrap (((BitVec.ofInt IntKind.u8.bits (c:Int) &&& BitVec.ofInt IntKind.u8.bits 128).toNat:Nat):Int)=((128*(c / 128):Nat):Int):=by
 have:=and_u8 c 128 h (by omega)
 rw[and_128 c h] at this
 exact this
theorem pow128 (i:Nat):128 ^ i=2 ^ (7*i):=by rw[Nat.pow_mul]
theorem pow128_le {i j:Nat} (h:i≤j):128 ^ i≤128 ^ j:=Nat.pow_le_pow_right (by decide) h
theorem shl7 (m i:Nat) (hm:m<128) (hi:i≤5):ashift .shl .i64 (m:Nat) ((7*i:Nat):Int)=some (.int .i64 ((m*128 ^ i:Nat):Int)):=by
 show some (Value.int .i64 (IntKind.i64.wrap ((m:Int)*2 ^ min (7*i) IntKind.i64.bits)))=_
 have e:min (7*i) IntKind.i64.bits=7*i:=by
  show min (7*i) 64=7*i
  omega
 rw[e]
 have e2:(m:Int)*2 ^ (7*i)=((m*128 ^ i:Nat):Int):=by
  rw[pow128];push_cast;rfl
 have h1:=pow128_le hi
 have h2:m*128 ^ i≤127*128 ^ 5:=Nat.mul_le_mul (by omega) h1
 rw[e2,wrapN (by omega)]
theorem or7 (x m i:Nat) (hx:x<128 ^ i) (hm:m<128) (hi:i≤5):IntKind.i64.wrap (((BitVec.ofInt IntKind.i64.bits (x:Int) ||| BitVec.ofInt IntKind.i64.bits ((m*128 ^ i:Nat):Int)).toNat:Nat):Int)=((x+m*128 ^ i:Nat):Int):=by
 have h1:=pow128_le hi
 have h2:m*128 ^ i≤127*128 ^ 5:=Nat.mul_le_mul (by omega) h1
 have e:(BitVec.ofInt IntKind.i64.bits (x:Int) ||| BitVec.ofInt IntKind.i64.bits ((m*128 ^ i:Nat):Int)).toNat=x+m*128 ^ i:=by
  rw[BitVec.ofInt_natCast,BitVec.ofInt_natCast,BitVec.toNat_or,BitVec.toNat_ofNat,BitVec.toNat_ofNat]
  rw[show 2 ^ IntKind.i64.bits=18446744073709551616 from rfl,Nat.mod_eq_of_lt (by omega),Nat.mod_eq_of_lt (by omega),Nat.or_comm]
  rw[pow128] at hx ⊢
  rw[Nat.mul_comm m,← Nat.two_pow_add_eq_or_of_lt hx m,Nat.add_comm]
 rw[e,wrapN (by omega)]
def calmBut (S:List Nat):Nat→List Tch→Bool
 | _,[]=>true
 | i,t::ts=>(S.contains i||calm t)&&calmBut S (i+1) ts
theorem calmBut_get {S:List Nat}:∀ (ts:List Tch) (o i:Nat) (e:Tch),calmBut S o ts=true→ts[i]? = some e→S.contains (o+i)=false→calm e=true
 | [],_,_,_,_,h,_=>by simp at h
 | t::ts,o,0,e,hc,h,hs=>by
  simp at h
  subst h
  simp only[calmBut,Bool.and_eq_true] at hc
  rw[Nat.add_zero] at hs
  rw[hs,Bool.false_or] at hc
  exact hc.1
 | t::ts,o,i+1,e,hc,h,hs=>by
  simp only[calmBut,Bool.and_eq_true] at hc
  rw[List.getElem?_cons_succ] at h
  exact calmBut_get ts (o+1) i e hc.2 h (by rw[show o+1+i=o+(i+1) by omega];exact hs)
theorem allMeet_but {b:Array Nat} {ts:List Tch} (S:List Nat) (n:Nat) (U:List (Nat×Nat)) (hn:ts.length=n) (hc:calmBut S 0 ts=true) (hp:((List.range n).all fun i=>(List.range n).all fun j => !(Nat.blt i j) || !(S.contains i||S.contains j)||ordered b i j||U.contains (i,j))=true)
  (hU:∀ i j s t,(i,j)∈U→ts[i]? = some s→ts[j]? = some t→meets s t=true):allMeet b ts=true:=by
 refine allMeet_by S (fun i e hi hs=>calmBut_get ts 0 i e hc hi (by rw[Nat.zero_add];exact hs)) (fun i j s t hij hs w1 w2 ho => ?_)
 have hj:j<n:=by rw[← hn];exact (List.getElem?_eq_some_iff.1 w2).1
 exact hU i j s t (pairs_of hp hij hj hs ho) w1 w2
theorem allMeet_but0 {b:Array Nat} {ts:List Tch} (S:List Nat) (n:Nat) (hn:ts.length=n) (hc:calmBut S 0 ts=true) (hp:((List.range n).all fun i=>(List.range n).all fun j => !(Nat.blt i j) || !(S.contains i||S.contains j)||ordered b i j||([]:List (Nat×Nat)).contains (i,j))=true):allMeet b ts=true:=
 allMeet_but S n [] hn hc hp (fun _ _ _ _ h=>by cases h)
def numB (m:Nat):List UInt8:=if m<128 then [UInt8.ofNat m] else UInt8.ofNat (m % 128+128)::numB (m / 128)
termination_by m
decreasing_by omega
theorem numB_small {m:Nat} (h:m<128):numB m=[UInt8.ofNat m]:=by rw[numB,if_pos h]
theorem numB_large {m:Nat} (h:¬ m<128):numB m=UInt8.ofNat (m % 128+128)::numB (m / 128):=by rw[numB,if_neg h]
theorem numB_pos (m:Nat):1≤(numB m).length:=by
 rw[numB]
 split<;>simp
mutual
def encI:Item→List UInt8
 | .mk k n t ks=>UInt8.ofNat (k.toNat+(if t.data.toList=[] then 0 else 64)+(if ks.length=0 then 0 else 128))::(numB n.toNat++((if t.data.toList=[] then [] else numB t.data.toList.length++t.data.toList)++(if ks.length=0 then [] else numB ks.length++encL ks)))
def encL:List Item→List UInt8
 | []=>[]
 | x::xs=>encI x++encL xs
end
theorem ofNat_toNat {m:Nat} (h:m<256):(UInt8.ofNat m).toNat=m:=by
 rw[UInt8.toNat_ofNat']
 exact Nat.mod_eq_of_lt h
theorem goodL_mem:∀ {ks:List Item} {x:Item},goodL ks→x∈ks→goodI x
 | [],_,_,h=>by cases h
 | y::ks,x,hg,h=>by
  rw[goodL] at hg
  rcases List.mem_cons.1 h with rfl|h
  ·exact hg.1
  ·exact goodL_mem hg.2 h
theorem len_iszE:∀ ks:List Item,ks.length≤iszL ks
 | []=>Nat.zero_le _
 | x::xs=>by
  have:=len_iszE xs
  have h1:1≤isz x:=by obtain⟨_,_,_,_⟩:=x;rw[isz];omega
  rw[iszL,List.length_cons];omega
/-! ### Bytes that are cut off -/
theorem ap3_step {D:Tab} {E:Env} {h:H} {base:Nat} {t t2 e:TypeId} {sz by_ n kx c i6 i7:Nat} {i8:Option Value} {i9:Bool} {s ze:Value} {xs cs:List Value} {ro:Option Nat} (f:Fit h) (hbn:base≤h.next) (ap:Ap2 h base e sz s n xs ro)
  (ht:D.ty.get t=some ⟨.slice e sz by_,i6,i7,i8,i9⟩) (hz:tzero D e=some ze) (hzz:(Nat.beq ze.cells.toList.length sz&&Nat.blt 0 sz&&ze.cells.toList.all isOne)=true) (hzt:zeroArg D t2 (.slice (some (own kx)) 1 c)=some false)
  (hx:h.cells E (own kx) sz=some cs) (hcl:cs.length=sz) (hc1:cs.all isOne=true) (hrm:roomy (n+1) by_=true) :
  ∃ s' h' ro',aappend D E t t2 s (.slice (some (own kx)) 1 c) h=some (s',h')∧Ap2 h' base e sz s' (n+1) (xs++cs) ro'∧Grew base ro h h'∧(ro=none∧ro'=some h.next∨ro≠none∧ro'=ro)∧s'=.slice (some (own h.next)) (n+1) (n+1)∧h'.next=h.next+1∧(∀ j∈h'.chain (ro'.getD 0),j=h.next∨∃ ys ty p,h'.dyn.get j=some (.cells ys ty (some (ro'.getD 0,p)))∧p+ys.length≤n*sz):=by
 have hel:aelems E sz ze.cells.toList (.slice (some (own kx)) 1 c) h=some (1,cs):=by
  simp only[aelems,Nat.one_mul,hx]
 have hbl:Nat.beq cs.length (1*sz)=true:=by rw[Nat.one_mul,hcl];exact Nat.beq_refl sz
 have hsz:0<sz:=by
  simp only[Bool.and_eq_true,Nat.blt_eq] at hzz
  exact hzz.1.2
 rcases ap with⟨rfl,rfl,rfl,rfl⟩|⟨k,r,rfl,hb,hl,h1,hbr,hrx,hch,rfl⟩
 ·refine⟨.slice (some (own h.next)) 1 1,h.newOpen cs e,some h.next,?_,.inr ⟨h.next,h.next,rfl,?_,?_,?_,hbn,Nat.lt_succ_self _,?_,rfl⟩,⟨newOpen_fit f,fun k B hb _=>newOpen_old f hb,rfl,rfl,Nat.le_succ _,fun r hr => ?_⟩,.inl ⟨rfl,rfl⟩,rfl,rfl,fun j hj=>.inl (by simpa only[H.chain,H.newOpen,T.get_set_same,Option.getD,List.mem_singleton] using hj)⟩
  ·unfold aappend
   rw[ht]
   simp only[hz,hzt,hzz,hel,hbl,hrm]
  ·exact newOpen_new
  ·rw[List.nil_append];simp[hcl]
  ·rw[List.nil_append];exact hc1
  ·intro j hj
   simp only[H.chain,H.newOpen,T.get_set_same,Option.getD,List.mem_singleton] at hj
   subst hj
   exact⟨cs,e,0,T.get_set_same _ _ _,by simp[hcl]⟩
  ·simp only[H.chain,H.newOpen]
   rw[T.get_set_ne _ _ _ _ (by omega)]
 ·have hkn:=f.lt hb
  have hd:=H.blk_dyn hb
  have hrn:=f.ok.1 _ _ _ _ _ hd
  have hgr:h.grow e r (0+(own k).off) (n*sz) (own k).block (xs.drop (own k).off) cs={ h with next:=h.next+1,dyn:=h.dyn.set h.next (.cells (xs++cs) e (some (r,0))),chains:=h.chains.set r (h.next::h.spare r k (0+n*sz) (0+n*sz+cs.length)) }:=by
   unfold H.grow
   simp only[own,Nat.add_zero,List.drop_zero]
   have hgone:h.gone r k (0+n*sz) (0+n*sz+cs.length)=[]:=by
    rw[List.eq_nil_iff_forall_not_mem]
    intro j hj
    obtain⟨hj1,hj2⟩:=mem_gone.1 hj
    obtain⟨ys,ty,p,hd,hle⟩:=hch j hj1
    unfold H.hits at hj2
    split at hj2
    ·cases hj2
    ·rw[hd] at hj2
     simp only[Bool.and_eq_true,Nat.blt_eq] at hj2
     omega
   rw[hgone]
   exact note_nil _
  generalize hg:({ h with next:=h.next+1,dyn:=h.dyn.set h.next (.cells (xs++cs) e (some (r,0))),chains:=h.chains.set r (h.next::h.spare r k (0+n*sz) (0+n*sz+cs.length)) }:H)=g at hgr
  have hcr:g.chain r=h.next::h.spare r k (0+n*sz) (0+n*sz+cs.length):=by
   rw[← hg];simp only[H.chain,T.get_set_same,Option.getD]
  have hcn:∀ r',r'≠r→g.chain r'=h.chain r':=by
   intro r' hr'
   rw[← hg];simp only[H.chain];rw[T.get_set_ne _ _ _ _ hr']
  have hgn:g.next=h.next+1:=by rw[← hg]
  have hnew:g.blk h.next=some (.cells (xs++cs) e (some (r,0))):=by
   have hdd:g.dyn.get h.next=some (.cells (xs++cs) e (some (r,0))):=by rw[← hg];exact T.get_set_same _ _ _
   unfold H.blk
   rw[hdd]
   simp only[hcr,List.contains_cons,beq_self_eq_true,Bool.true_or]
  have hold:∀ j,j≠h.next→g.dyn.get j=h.dyn.get j:=by
   intro j hj
   rw[← hg];exact T.get_set_ne _ _ _ _ hj
  refine⟨.slice (some (own h.next)) (n+1) (n+1),g,some r,?_,.inr ⟨h.next,r,rfl,hnew,?_,?_,hbr,by rw[hgn];omega,?_,rfl⟩,⟨⟨fun j hj => ?_,fun j ys ty r' p hd' => ?_,?_⟩,?_,?_,?_,?_,?_⟩,.inr ⟨by simp,rfl⟩,rfl,hgn,fun j hj => ?_⟩
  ·unfold aappend
   rw[ht]
   simp only[hz,hzt,hzz,hel,hbl,hrm]
   have e1:(own k).spot=some 0:=rfl
   have e2:(own k).block=k:=rfl
   have e3:(own k).off=0:=rfl
   have e4:Nat.ble (n+1) n=false:=by
    cases hq:Nat.ble (n+1) n
    ·rfl
    ·rw[Nat.ble_eq] at hq;omega
   simp only[e1,e2,hb,e4]
   have e5:(Nat.beq n n&&Nat.beq ((own k).off+n*sz) xs.length&&Nat.beq e e&&(xs.drop (own k).off).all isOne&&Nat.ble (own k).off xs.length)=true:=by
    rw[e3,Nat.zero_add,hl,List.drop_zero,h1,Nat.beq_refl,Nat.beq_refl,Nat.beq_refl]
    simp[Nat.ble]
   simp only[e5]
   rw[← hgr];rfl
  ·rw[List.length_append,hl,hcl];rw[Nat.add_mul,Nat.one_mul]
  ·rw[List.all_append,h1,hc1];rfl
  ·intro j hj
   rw[hcr] at hj
   rcases List.mem_cons.1 hj with rfl|hj
   ·exact⟨xs++cs,e,0,H.blk_dyn hnew,by rw[List.length_append,hl,hcl,Nat.add_mul,Nat.one_mul];omega⟩
   ·obtain⟨ys,ty,p,hd,hle⟩:=hch j (mem_spare.1 hj).1
    have hjn:j≠h.next:=by
     intro e
     subst e
     rw[f.free _ (Nat.le_refl _)] at hd;cases hd
    refine⟨ys,ty,p,by rw[hold j hjn];exact hd,?_⟩
    rw[Nat.add_mul];omega
  ·rw[hgn] at hj
   rw[hold j (by omega)];exact f.free j (by omega)
  ·rw[hgn]
   by_cases hj:j=h.next
   ·subst hj
    have:=H.blk_dyn hnew
    rw[this] at hd'; cases hd'; omega
   ·rw[hold j hj] at hd'
    have:=f.ok.1 _ _ _ _ _ hd'; omega
  ·rw[hgn]
   have:=f.ok.2
   rw[← hg];exact Nat.le_succ_of_le this
  ·intro j B hbj hro
   have hjn:=f.lt hbj
   rw[← hbj]
   refine blk_congr (hold j (by omega)) (fun ys u r' q hd' => ?_)
   have:B=.cells ys u (some (r',q)):=by
    have:=H.blk_dyn hbj
    rw[hd'] at this;cases this;rfl
   have hne:=hro _ _ _ _ this
   rw[hcn r' (fun h=>hne (by rw[h]))]
  ·rw[← hg]
  ·rw[← hg]
  ·rw[hgn];omega
  ·intro r' hr'
   exact hcn r' (by omega)
  ·simp only[Option.getD] at hj ⊢
   rw[hcr] at hj
   rcases List.mem_cons.1 hj with rfl|hj
   ·exact .inl rfl
   ·obtain⟨ys,ty,p,hd,hle⟩:=hch j (mem_spare.1 hj).1
    have hjn:j≠h.next:=by
     intro e
     subst e
     rw[f.free _ (Nat.le_refl _)] at hd;cases hd
    exact .inr ⟨ys,ty,p,by rw[hold j hjn];exact hd,hle⟩
theorem put_chain {g:H} {k r0 o:Nat} {vs xs:List Value} {e:TypeId} (f:Fit g) (hb:g.blk k=some (.cells xs e (some (r0,0)))) (hch:∀ j∈g.chain r0,j=k∨∃ ys ty p,g.dyn.get j=some (.cells ys ty (some (r0,p)))∧p+ys.length≤o) (hv:vs≠[]) (hl:o+vs.length≤xs.length) (h1:vs.all isOne=true) :
  ∃ q,(fresh g).put (aadd (own k) o) vs=some q∧q.log=[k]∧q.next=g.next∧Fit (back g q)∧(back g q).blk k=some (.cells (xs.take o++vs++xs.drop (o+vs.length)) e (some (r0,0)))∧(∀ j,j≠k→(back g q).blk j=g.blk j)∧(∀ r,(back g q).chain r=g.chain r)∧(g.mark≤k→(back g q).log=g.log):=by
 have hkn:=f.lt hb
 have hkc:(g.chain r0).contains k=true:=by
  have hd:=H.blk_dyn hb
  unfold H.blk at hb
  rw[hd] at hb
  simp only at hb
  split at hb
  ·assumption
  ·cases hb
 have hnh:∀ j∈g.chain r0,g.hits k (0+o) (0+o+vs.length) j=false:=by
  intro j hj
  rcases hch j hj with rfl|⟨ys,ty,p,hd,hle⟩
  ·unfold H.hits
   rw[Nat.beq_refl]
  ·unfold H.hits
   split
   ·rfl
   ·rw[hd]
    simp only
    have:Nat.blt (0+o) (p+ys.length)=false:=by
     cases q:Nat.blt (0+o) (p+ys.length)
     ·rfl
     ·rw[Nat.blt_eq] at q;omega
    rw[this];rfl
 have hsp:g.spare r0 k (0+o) (0+o+vs.length)=g.chain r0:=by
  unfold H.spare
  rw[List.filter_eq_self]
  intro j hj
  rw[hnh j hj];rfl
 have hgn:g.gone r0 k (0+o) (0+o+vs.length)=[]:=by
  unfold H.gone
  rw[List.filter_eq_nil_iff]
  intro j hj
  rw[hnh j hj];simp
 have hput:(fresh g).put (aadd (own k) o) vs=some (({ fresh g with dyn:=g.dyn.set k (.cells (xs.take o++vs++xs.drop (o+vs.length)) e (some (r0,0))),chains:=g.chains.set r0 (g.chain r0) }:H).note [k]):=by
  have hb':(fresh g).blk k=some (.cells xs e (some (r0,0))):=hb
  have hsp':(fresh g).spare r0 k (0+o) (0+o+vs.length)=g.chain r0:=hsp
  have hgn':(fresh g).gone r0 k (0+o) (0+o+vs.length)=[]:=hgn
  unfold H.put
  cases vs with
  | nil=>exact absurd rfl hv
  | cons v vs=>
   simp only[aadd,own,Nat.zero_add,hb'] at hsp' hgn' ⊢
   rw[h1,show Nat.ble (o+(v::vs).length) xs.length=true from by rw[Nat.ble_eq];exact hl]
   simp only[Bool.and_self,hsp',hgn']
   rfl
 obtain⟨m,hm1,hm2⟩:∃ m,g.next=m+1∧k≤m:=by cases hn:g.next with|zero=>omega|succ m=>exact⟨m,rfl,by omega⟩
 have hble:Nat.ble k m=true:=by rw[Nat.ble_eq];exact hm2
 generalize hB:(Blk.cells (xs.take o++vs++xs.drop (o+vs.length)) e (some (r0,0)))=B at hput
 have hq:(({ fresh g with dyn:=g.dyn.set k B,chains:=g.chains.set r0 (g.chain r0) }:H).note [k])={ g with dyn:=g.dyn.set k B,chains:=g.chains.set r0 (g.chain r0),mark:=g.next,log:=[k] }:=by
  unfold H.note
  have:({ fresh g with dyn:=g.dyn.set k B,chains:=g.chains.set r0 (g.chain r0) }:H).mark=m+1:=hm1
  rw[this]
  simp only[List.filter_cons,hble,if_true,List.filter_nil]
  rw[← hm1]
  rfl
 rw[hq] at hput
 generalize hqq:({ g with dyn:=g.dyn.set k B,chains:=g.chains.set r0 (g.chain r0),mark:=g.next,log:=[k] }:H)=q at hput
 have hqn:q.next=g.next:=by rw[← hqq]
 have hql:q.log=[k]:=by rw[← hqq]
 have hqd:q.dyn=g.dyn.set k B:=by rw[← hqq]
 have hqc:∀ r,q.chain r=g.chain r:=by
  intro r
  rw[← hqq]
  simp only[H.chain,T.get_set]
  split
  ·next h=>subst h;rfl
  ·rfl
 have hfq:Fit q:=by
  refine⟨fun j hj => ?_,⟨fun j ys ty r p hd => ?_,?_⟩⟩
  ·rw[hqn] at hj
   rw[hqd,T.get_set_ne _ _ _ _ (by omega)];exact f.free j hj
  ·rw[hqn]
   rw[hqd] at hd
   by_cases hj:j=k
   ·subst hj
    rw[T.get_set_same,← hB] at hd
    cases hd;exact f.ok.1 _ _ _ _ _ (H.blk_dyn hb)
   ·rw[T.get_set_ne _ _ _ _ hj] at hd
    exact f.ok.1 _ _ _ _ _ hd
  ·rw[← hqq];exact Nat.le_refl _
 refine⟨q,hput,hql,hqn,back_fit f hfq (by rw[hqn];exact Nat.le_refl _),?_,fun j hj => ?_,fun r=>by rw[back_chain];exact hqc r,fun hm => ?_⟩
 ·rw[back_blk]
  have hdd:q.dyn.get k=some B:=by rw[hqd];exact T.get_set_same _ _ _
  unfold H.blk
  rw[hdd,← hB]
  simp only[hqc]
  rw[hkc]
 ·rw[back_blk]
  refine blk_congr (by rw[hqd,T.get_set_ne _ _ _ _ hj]) (fun _ _ r _ _=>by rw[hqc])
 ·unfold back
  rw[note_above]
  intro j hj
  rw[hql] at hj
  obtain rfl:=List.mem_singleton.1 hj
  exact hm
theorem Mod.grew {M:Nat→Prop} {h g q:H} {base:Nat} {ro:Option Nat} (f:Fit h) (m:Mod M h g) (hb:h.next≤base) (hro:∀ r,ro=some r→base≤r) (t:Grew base ro g q):Mod M h q:=
 ⟨t.fit,fun k B hk hB=>t.keep k B (m.blk k B hk hB) (fun xs ty r p he hr=>by
  subst he
  have h1:=f.ok.1 _ _ _ _ _ (H.blk_dyn hB)
  have:=hro r hr
  omega),t.mark.trans m.mark,Nat.le_trans m.next t.next,fun r hr=>(t.chain r (by omega)).trans (m.chain r hr),fun j hj=>by rw[t.log] at hj;exact m.log j hj⟩
section
variable {D:Tab} {E:Env} {ti:TypeId}
def Kol (E:Env) (ti:TypeId) (base top:Nat) (g:H) (sl:Value) (ks:List Item):Prop:=
 ∃ xs ro,Ap2 g base ti 4 sl ks.length xs ro∧repL E (only (fun r=>Nat.ble base r && !(ro == some r)) g) ks xs∧∀ r,ro=some r→base≤r∧r<top
theorem Kol.nil (base top:Nat) (g:H):Kol E ti base top g (.slice none 0 0) []:=⟨[],none,.inl ⟨rfl,rfl,rfl,rfl⟩,by rw[repL],fun _ h=>by cases h⟩
theorem Kol.mod {M:Nat→Prop} {base top:Nat} {g g':H} {sl:Value} {ks:List Item} (K:Kol E ti base top g sl ks) (f:Fit g) (m:Mod M g g') (hp:∀ k B,M k→g.blk k=some B→B.plain=true):Kol E ti base top g' sl ks:=by
 obtain⟨xs,ro,h1,h2,h3⟩:=K
 exact⟨xs,ro,h1.mod m hp,repL_grow (only_mod f m hp (fun r h=>h)) h2,h3⟩
theorem Kol.slice {base top:Nat} {g:H} {sl:Value} {ks:List Item} (K:Kol E ti base top g sl ks):∃ b,sl=.slice b ks.length ks.length:=by
 obtain⟨xs,ro,h1,_⟩:=K
 rcases h1 with⟨e,_,rfl,_⟩|⟨k,r,rfl,_⟩
 ·exact⟨none,by rw[e]⟩
 ·exact⟨_,rfl⟩
theorem Kol.up {base top top':Nat} {g:H} {sl:Value} {ks:List Item} (K:Kol E ti base top g sl ks) (h:top≤top'):Kol E ti base top' g sl ks:=by
 obtain⟨xs,ro,h1,h2,h3⟩:=K
 exact⟨xs,ro,h1,h2,fun r hr=>⟨(h3 r hr).1,Nat.lt_of_lt_of_le (h3 r hr).2 h⟩⟩
theorem Kol.rep {base top:Nat} {g:H} {sl:Value} {ks:List Item} (K:Kol E ti base top g sl ks) (f:Fit g) (hz:ks.length<1000000000) (k m:Int) (tx:ByteArray) {lo:Nat} (hlo:lo≤base):Hs.rep E (only (fun r=>Nat.ble lo r) g) (.mk k m tx ks) (.agg ⟨[.int .i64 k,.int .i64 m,.string tx,sl]⟩):=by
 obtain⟨xs,ro,h1,h2,h3⟩:=K
 rw[Hs.rep]
 refine⟨sl,rfl,?_⟩
 rcases h1 with⟨e1,_,e2,_⟩|⟨kk,r,q1,q2,q3,q4,q5,q6,q7,q8⟩
 ·exact .inl ⟨List.length_eq_zero_iff.1 e1,e2⟩
 ·refine .inr ⟨own kk,ks.length,xs,q1,⟨Nat.le_refl _,by omega⟩,?_,?_⟩
  ·exact blk_cells ((only_blk f).2 ⟨q2,_,_,_,_,rfl,by rw[Nat.ble_eq];omega⟩) q3 q4
  ·refine repL_grow (only_sub f (fun r hh => ?_)) h2
   simp only[Bool.and_eq_true,Nat.ble_eq] at hh
   rw[Nat.ble_eq];omega
def Aps (base:Nat) (g q:H):Prop:=∃ ro,(∀ r,ro=some r→base≤r)∧Grew base ro g q
theorem Aps.fit {base:Nat} {g q:H} (a:Aps base g q):Fit q:=by obtain⟨_,_,t⟩:=a;exact t.fit
theorem Aps.log {base:Nat} {g q:H} (a:Aps base g q):q.log=g.log:=by obtain⟨_,_,t⟩:=a;exact t.log
theorem Aps.keep {base:Nat} {g q:H} (a:Aps base g q) {k:Nat} {xs:List Value} {ty:TypeId} (hk:g.blk k=some (.cells xs ty none)):q.blk k=some (.cells xs ty none):=by
 obtain⟨_,_,t⟩:=a
 exact t.keep k _ hk (fun _ _ _ _ he=>by cases he)
theorem Aps.mod {base:Nat} {g q:H} (a:Aps base g q) {M:Nat→Prop} {h:H} (f:Fit h) (hb:h.next≤base) (m:Mod M h g):Mod M h q:=by
 obtain⟨_,hr,t⟩:=a
 exact m.grew f hb hr t
theorem Aps.back {base:Nat} {g q:H} (f:Fit g) (a:Aps base (fresh g) q):Aps base g (Hs.back g q):=by
 obtain⟨ro,hr,t⟩:=a
 have hl:q.log=[]:=t.log
 exact⟨ro,hr,back_fit f t.fit t.next,fun k B hB hro=>by rw[back_blk];exact t.keep k B hB hro,back_log hl,back_mark _ _,by rw[back_next];exact t.next,fun r hr=>by rw[back_chain];exact t.chain r hr⟩
theorem Kol.fresh {base top:Nat} {g:H} {sl:Value} {ks:List Item} (K:Kol E ti base top g sl ks):Kol E ti base top (Hs.fresh g) sl ks:=by
 obtain⟨xs,ro,h1,h2,h3⟩:=K
 exact⟨xs,ro,h1,repL_grow (show Grows (only _ g) (only _ (Hs.fresh g)) from fun _ _ h=>h) h2,h3⟩
theorem rep_fresh {p:Nat→Bool} {g:H} {t:Item} {v:Value} (h:Hs.rep E (only p g) t v):Hs.rep E (only p (Hs.fresh g)) t v:=rep_grow (show Grows (only p g) (only p (Hs.fresh g)) from fun _ _ h=>h) h
theorem meets_two {s t:Tch} {a b:Nat} (h1:s.writes=[a]) (h2:t.writes=[b]) (hne:a≠b) (r1:s.reads=some []) (r2:t.reads=some []) (ht:t.rooted=false) (hb:b<s.lo):meets s t=true:=by
 unfold meets
 rw[h1,h2,r1,r2,ht]
 have e1:Nat.beq a b=false:=by
  cases q:Nat.beq a b
  ·rfl
  ·exact absurd (Nat.eq_of_beq_eq_true q) hne
 have e2:Nat.blt b s.lo=true:=by rw[Nat.blt_eq];exact hb
 simp[apart?,e1,e2]
theorem kol_step {t t2 by_ kx c i6 i7:Nat} {i8:Option Value} {i9:Bool} {ze:Value} {base top lo:Nat} {g:H} {sl:Value} {ks:List Item} {x:Item} {va vb vc vd:Value} (f:Fit g) (hbn:base≤g.next) (K:Kol E ti base top g sl ks) (htop:top≤lo) (hblo:base≤lo)
  (ht:D.ty.get t=some ⟨.slice ti 4 by_,i6,i7,i8,i9⟩) (hz:tzero D ti=some ze) (hzz:(Nat.beq ze.cells.toList.length 4&&Nat.blt 0 4&&ze.cells.toList.all isOne)=true) (hzt:zeroArg D t2 (.slice (some (own kx)) 1 c)=some false)
  (hr:Hs.rep E (only (fun r=>Nat.ble lo r) g) x (.agg ⟨[va,vb,vc,vd]⟩)) (hx:g.cells E (own kx) 4=some [va,vb,vc,vd]) (hone:[va,vb,vc,vd].all isOne=true) (hrm:roomy (ks.length+1) by_=true) :
  ∃ sl' q,aappend D E t t2 sl (.slice (some (own kx)) 1 c) g=some (sl',q)∧Kol E ti base q.next q sl' (ks++[x])∧Aps base g q∧q.next=g.next+1:=by
 obtain⟨xs,ro,h1,h2,h3⟩:=K
 obtain⟨s',q,ro',happ,ap4,gw,hroo,hs',hqn,_⟩:=ap3_step f hbn h1 ht hz hzz hzt hx rfl hone hrm
 have hro':∀ r,r<g.next→(ro == some r)=false→(ro' == some r)=false:=by
  intro r a b
  rcases hroo with⟨e1,e2⟩|⟨e1,e2⟩
  ·rw[e2]
   have:g.next≠r:=by omega
   simpa using this
  ·rw[e2];exact b
 have grow4:∀ (p:Nat→Bool),(∀ r,p r=true→Nat.ble base r=true∧(ro == some r)=false)→Grows (only p g) (only (fun r=>Nat.ble base r && !(ro' == some r)) q):=by
  intro p hp kx B hb
  obtain⟨e1,ys,ty,r,o,rfl,e2⟩:=(only_blk f).1 hb
  have hrl:=f.ok.1 _ _ _ _ _ (H.blk_dyn e1)
  obtain⟨e3,e4⟩:=hp r e2
  refine (only_blk gw.fit).2 ⟨gw.keep kx (.cells ys ty (some (r,o))) e1 ?_,ys,ty,r,o,rfl,?_⟩
  ·rintro _ _ _ _ he hr
   cases he
   rw[hr] at e4;simp at e4
  ·simp only[Bool.and_eq_true,Bool.not_eq_true']
   exact⟨e3,hro' r hrl e4⟩
 refine⟨s',q,happ,⟨xs++[va,vb,vc,vd],ro',by rw[List.length_append];exact ap4,?_,fun r hr => ?_⟩,⟨ro,fun r hr=>(h3 r hr).1,gw⟩,hqn⟩
 ·refine repL_append (repL_grow (grow4 _ (fun r hr=>by simpa using hr)) h2) (rep_grow (grow4 _ (fun r hr => ?_)) hr)
  rw[Nat.ble_eq] at hr
  refine⟨by rw[Nat.ble_eq];omega,?_⟩
  cases hh:ro with
  | none=>rfl
  | some r0=>
   have:=(h3 r0 hh).2
   have hne:r0≠r:=by omega
   simpa using hne
 ·rcases hroo with⟨e1,e2⟩|⟨e1,e2⟩
  ·rw[e2] at hr;cases hr;exact⟨hbn,by omega⟩
  ·rw[e2] at hr
   rcases h1 with⟨_,_,_,e3⟩|⟨_,rr,_,_,_,_,e5,e6,_,e8⟩
   ·exact absurd e3 e1
   ·rw[e8] at hr;cases hr;exact⟨e5,by omega⟩
def Room (E:Env) (ti:TypeId) (base lo nx:Nat) (g:H) (sl:Value) (ks:List Item):Prop:=
 ∃ k r xs zs,sl=.slice (some (own k)) (ks.length+1) (ks.length+1)∧g.blk k=some (.cells (xs++zs) ti (some (r,0)))∧xs.length=ks.length*4∧zs.length=4∧xs.all isOne=true∧base≤r∧r<g.next∧base≤k∧(∀ j∈g.chain r,j=k∨∃ ys ty p,g.dyn.get j=some (.cells ys ty (some (r,p)))∧p+ys.length≤ks.length*4)∧repL E (only (fun r'=>Nat.ble base r' && !(some r == some r')) g) ks xs∧∀ r',lo≤r'→r'<nx→r'≠r
theorem kol_room {t t2 by_ kx c i6 i7:Nat} {i8:Option Value} {i9:Bool} {ze:Value} {base top lo:Nat} {g:H} {sl:Value} {ks:List Item} {zs:List Value} (f:Fit g) (hbn:base≤g.next) (K:Kol E ti base top g sl ks) (htop:top≤lo)
  (ht:D.ty.get t=some ⟨.slice ti 4 by_,i6,i7,i8,i9⟩) (hz:tzero D ti=some ze) (hzz:(Nat.beq ze.cells.toList.length 4&&Nat.blt 0 4&&ze.cells.toList.all isOne)=true) (hzt:zeroArg D t2 (.slice (some (own kx)) 1 c)=some false)
  (hx:g.cells E (own kx) 4=some zs) (hlen:zs.length=4) (hone:zs.all isOne=true) (hrm:roomy (ks.length+1) by_=true) :
  ∃ sl' q,aappend D E t t2 sl (.slice (some (own kx)) 1 c) g=some (sl',q)∧Room E ti base lo g.next q sl' ks∧Aps base g q∧q.next=g.next+1∧sl'=.slice (some (own g.next)) (ks.length+1) (ks.length+1)∧∀ x v,Hs.rep E (only (fun r=>Nat.ble lo r) g) x v→Hs.rep E (only (fun r=>Nat.ble lo r&&Nat.blt r g.next) q) x v:=by
 obtain⟨xs,ro,h1,h2,h3⟩:=K
 obtain⟨s',q,ro',happ,ap4,gw,hroo,hs',hqn,hch⟩:=ap3_step f hbn h1 ht hz hzz hzt hx hlen hone hrm
 have hxl:xs.length=ks.length*4∧xs.all isOne=true:=by
  rcases h1 with⟨e1,e2,_⟩|⟨_,_,_,_,e3,e4,_⟩
  ·rw[e1,e2];exact⟨rfl,rfl⟩
  ·exact⟨e3,e4⟩
 have hro':∀ r,r<g.next→(ro == some r)=false→(ro' == some r)=false:=by
  intro r a b
  rcases hroo with⟨e1,e2⟩|⟨e1,e2⟩
  ·rw[e2]
   have:g.next≠r:=by omega
   simpa using this
  ·rw[e2];exact b
 have grow4:Grows (only (fun r=>Nat.ble base r && !(ro == some r)) g) (only (fun r=>Nat.ble base r && !(ro' == some r)) q):=by
  intro kx B hb
  obtain⟨e1,ys,ty,r,o,rfl,e2⟩:=(only_blk f).1 hb
  have hrl:=f.ok.1 _ _ _ _ _ (H.blk_dyn e1)
  simp only[Bool.and_eq_true,Bool.not_eq_true'] at e2
  obtain⟨e3,e4⟩:=e2
  refine (only_blk gw.fit).2 ⟨gw.keep kx (.cells ys ty (some (r,o))) e1 ?_,ys,ty,r,o,rfl,?_⟩
  ·rintro _ _ _ _ he hr
   cases he
   rw[hr] at e4;simp at e4
  ·simp only[Bool.and_eq_true,Bool.not_eq_true']
   exact⟨e3,hro' r hrl e4⟩
 subst hs'
 rcases ap4 with⟨e1,_⟩|⟨kk,r,q1,q2,q3,q4,q5,q6,q7,q8⟩
 ·omega
 have hkk:kk=g.next:=by
  simp only[Value.slice.injEq,Option.some.injEq,own,Addr.mk.injEq] at q1
  exact q1.1.1.symm
 subst hkk
 subst q8
 refine⟨_,q,happ,⟨g.next,r,xs,zs,rfl,q2,hxl.1,hlen,hxl.2,q5,q6,hbn,hch,repL_grow grow4 h2,fun r' a b e => ?_⟩,⟨ro,fun r hr=>(h3 r hr).1,gw⟩,hqn,rfl,fun x v hr=>rep_grow (fun j B hj => ?_) hr⟩
 ·subst e
  rcases hroo with⟨_,e2⟩|⟨_,e2⟩
  ·cases e2;omega
  ·have:=(h3 _ e2.symm).2
   omega
 ·obtain⟨e1,ys,ty,r',o,rfl,e2⟩:=(only_blk f).1 hj
  have hrl:=f.ok.1 _ _ _ _ _ (H.blk_dyn e1)
  rw[Nat.ble_eq] at e2
  refine (only_blk gw.fit).2 ⟨gw.keep j _ e1 (fun _ _ _ _ he hr => ?_),ys,ty,r',o,rfl,by rw[Bool.and_eq_true,Nat.ble_eq,Nat.blt_eq];exact⟨e2,hrl⟩⟩
  cases he
  have:=(h3 _ hr).2
  omega
theorem Room.back {base lo nx:Nat} {g q:H} {sl:Value} {ks:List Item} (R:Room E ti base lo nx q sl ks) (f:Fit g) (fq:Fit q) (hn:g.next≤q.next):Room E ti base lo nx (Hs.back g q) sl ks:=by
 obtain⟨k,r,xs,zs,e1,hb,hxl,hzl,hx1,hbr,hrn,hbk,hch,hrp,hne⟩:=R
 exact⟨k,r,xs,zs,e1,by rw[back_blk];exact hb,hxl,hzl,hx1,hbr,by rw[back_next];exact hrn,hbk,fun j hj=>by
  rw[back_chain] at hj
  rw[back_dyn];exact hch j hj,repL_grow (back_only f fq hn _) hrp,hne⟩
theorem kol_fill {base lo nx:Nat} {g:H} {sl:Value} {ks:List Item} {x:Item} {va vb vc vd:Value} (f:Fit g) (R:Room E ti base lo nx g sl ks) (hblo:base≤lo) (hr:Hs.rep E (only (fun r=>Nat.ble lo r&&Nat.blt r nx) g) x (.agg ⟨[va,vb,vc,vd]⟩)) (hone:[va,vb,vc,vd].all isOne=true) :
  ∃ k q,sl=.slice (some (own k)) (ks.length+1) (ks.length+1)∧(fresh g).put (aadd (own k) (ks.length*4)) [va,vb,vc,vd]=some q∧q.log=[k]∧q.next=g.next∧base≤k∧k<g.next∧Kol E ti base g.next (back g q) sl (ks++[x])∧Fit (back g q)∧(∀ j,j≠k→(back g q).blk j=g.blk j)∧∀ M h,Fit h→h.next≤base→Mod M h g→Mod M h (back g q):=by
 obtain⟨k,r,xs,zs,rfl,hb,hxl,hzl,hx1,hbr,hrn,hbk,hch,hrp,hne⟩:=R
 have hkn:=f.lt hb
 obtain⟨q,hput,hql,hqn,hqf,hqb,hqo,hqc,hqlog⟩:=put_chain (o:=ks.length*4) (vs:=[va,vb,vc,vd]) f hb hch (by simp) (by rw[List.length_append,hxl,hzl];exact Nat.le_refl _) hone
 have hys:(xs++zs).take (ks.length*4)++[va,vb,vc,vd]++(xs++zs).drop (ks.length*4+[va,vb,vc,vd].length)=xs++[va,vb,vc,vd]:=by
  rw[← hxl,List.take_left,List.drop_of_length_le (by rw[List.length_append,hzl];exact Nat.le_refl _),List.append_nil]
 rw[hys] at hqb
 have hyl:(xs++[va,vb,vc,vd]).length=(ks.length+1)*4:=by
  rw[List.length_append,hxl,Nat.add_mul];rfl
 have hdyn:∀ j,j≠k→(back g q).dyn.get j=g.dyn.get j:=by
  intro j hj
  rw[back_dyn]
  unfold H.put at hput
  simp only[aadd,own,Nat.zero_add] at hput
  rw[show (fresh g).blk k=some (.cells (xs++zs) ti (some (r,0))) from hb] at hput
  simp only at hput
  split at hput
  ·cases hput
   rw[H.note_dyn]
   exact T.get_set_ne _ _ _ _ hj
  ·cases hput
 have grow:∀ (p p':Nat→Bool),(∀ r',p r'=true→p' r'=true)→(∀ j B,(only p g).blk j=some B→∃ ys ty r' o,B=.cells ys ty (some (r',o))∧r'≠r)→Grows (only p g) (only p' (back g q)):=by
  intro p p' hp hne j B hj
  obtain⟨ys,ty,r',o,rfl,hrr⟩:=hne j B hj
  obtain⟨e1,_,_,_,_,he,e2⟩:=(only_blk f).1 hj
  cases he
  refine (only_blk hqf).2 ⟨?_,ys,ty,r',o,rfl,hp _ e2⟩
  rw[hqo j ?_]
  ·exact e1
  ·intro e
   subst e
   rw[hb] at e1
   cases e1
   exact hrr rfl
 have gsub:∀ j B,(only (fun r'=>Nat.ble base r' && !(some r == some r')) g).blk j=some B→∃ ys ty r' o,B=.cells ys ty (some (r',o))∧r'≠r:=by
  intro j B hj
  obtain⟨_,ys,ty,r',o,rfl,e2⟩:=(only_blk f).1 hj
  refine⟨ys,ty,r',o,rfl,fun e => ?_⟩
  subst e
  simp at e2
 refine⟨k,q,rfl,hput,hql,hqn,hbk,hkn,⟨xs++[va,vb,vc,vd],some r,?_,?_,fun r' hr'=>by cases hr'; exact⟨hbr,hrn⟩⟩,hqf,hqo,fun M h fh hhb m => ?_⟩
 ·rw[List.length_append]
  refine .inr ⟨k,r,rfl,hqb,hyl,by rw[List.all_append,hx1,hone];rfl,hbr,by rw[back_next,hqn];exact hrn,fun j hj => ?_,rfl⟩
  rw[hqc] at hj
  by_cases hjk:j=k
  ·subst hjk
   exact⟨_,ti,0,H.blk_dyn hqb,by rw[Nat.zero_add,hyl];exact Nat.le_refl _⟩
  ·rcases hch j hj with h|⟨ys,ty,p,hd,hle⟩
   ·exact absurd h hjk
   ·refine⟨ys,ty,p,by rw[hdyn j hjk];exact hd,?_⟩
    simp only[List.length_singleton]
    omega
 ·refine repL_append (repL_grow (grow _ _ (fun r' h=>h) gsub) hrp) (rep_grow ?_ hr)
  intro j B hj
  obtain⟨e1,ys,ty,r',o,rfl,e2⟩:=(only_blk f).1 hj
  have hrr:r'≠r:=by
   rw[Bool.and_eq_true,Nat.ble_eq,Nat.blt_eq] at e2
   exact hne r' e2.1 e2.2
  refine (only_blk hqf).2 ⟨?_,ys,ty,r',o,rfl,?_⟩
  ·rw[hqo j ?_]
   ·exact e1
   ·intro e
    subst e
    rw[hb] at e1
    cases e1
    exact hrr rfl
  ·simp only[Bool.and_eq_true,Nat.ble_eq,Nat.blt_eq,Bool.not_eq_true'] at e2 ⊢
   refine⟨by omega,?_⟩
   have:r≠r':=fun e=>hrr e.symm
   simpa using this
 ·refine⟨hqf,fun j B hj hB => ?_,(back_mark _ _).trans m.mark,by rw[back_next,hqn];exact m.next,fun r' hr'=>(hqc r').trans (m.chain r' hr'),fun j hj => ?_⟩
  ·by_cases hjk:j=k
   ·subst hjk
    have h1:=m.blk _ _ hj hB
    rw[hb] at h1
    cases h1
    have:=fh.ok.1 _ _ _ _ _ (H.blk_dyn hB)
    omega
   ·rw[hqo j hjk];exact m.blk _ _ hj hB
  ·rw[hqlog (by rw[m.mark];have:=fh.ok.2;omega)] at hj
   exact m.log j hj
theorem FQ.pureJ {v:Ev} {ops:Array Oper} {j:Nat} {o:Oper} {rest:List Oper} {A:Ac} {h:H} {x:Value} {Q:Ac→H→List Tch→Prop} (hg:o.guard=none) (ho:oper1 D E v A o (fresh h)=some (x,fresh h))
  (r:FQ D E v ops (j+1) rest (A.put o.dst x) h (fun A' h' ts=>Q A' h' (⟨reads D A o,[],h.next,h.next,rootedStore A h o.op⟩::ts))):FQ D E v ops j (o::rest) A h Q:=by
 obtain⟨A',h',ts,h2,hq⟩:=r
 refine⟨A',h',_,?_,hq⟩
 have ho':oper1 D E v A o { h with mark:=h.next,log:=[] }=some (x,fresh h):=ho
 have hn:Nat.beq (fresh h).next h.next=true:=Nat.beq_refl _
 simp only[runFree,awant_none hg,ho',hn,Bool.or_true,Bool.true_or]
 have h2':runFree D E v ops (j+1) rest (A.put o.dst x) ({ (fresh h) with mark:=h.mark,log:=h.log }.note (fresh h).log)=some (A',h',ts):=by
  have e:({ (fresh h) with mark:=h.mark,log:=h.log }:H).note (fresh h).log=h:=back_fresh h
  rw[e];exact h2
 rw[h2']
 rfl
end
def dec:Value→Value
 | .slice (some a) n c=>match a.spot with
  | none=>.slice (some a) n c
  | some s=>.slice (some ⟨a.block,a.off,some (s+1)⟩) n c
 | v=>v
def envOf (w:World):Env:=fun b o=>
 match w.cell? ⟨b,o,none⟩ with
 | some v=>match foV (dec v) with
  | true=>some (dec v)
  | false=>none
 | none=>none
theorem dec_ren {φ:Ph} {v:Value} (h:foV (dec v)=true):ren φ (dec v)=v:=by
 cases v with
 | slice b n c=>cases b with
  | none=>rfl
  | some a=>
   cases hs:a.spot with
   | none=>simp[dec,hs,ren,renA,extA]
   | some s=>
    simp only[dec,hs,ren,renA,extA,Nat.add_zero]
    rw[← hs]
 | _=>exact (roV.ok φ (show roV _=true from h)).2
theorem envOf_ro {w:World} {b o:Nat} {v:Value} (h:envOf w b o=some v):b<w.heap.size∧w.cell? ⟨b,o,none⟩=some (ren (fun _=>none) v)∧foV v=true:=by
 unfold envOf at h
 split at h
 ·next x hx=>
  split at h
  ·next hf=>
   cases h
   refine⟨?_,by rw[dec_ren hf];exact hx,hf⟩
   simp only[World.cell?] at hx
   split at hx
   ·next hb=>exact (Array.getElem?_eq_some_iff.1 hb).1
   ·cases hx
  ·cases h
 ·cases h
theorem envOf_at {w:World} {b o:Nat} {v:Value} (h:w.cell? ⟨b,o,none⟩=some v) (hf:foV (dec v)=true):envOf w b o=some (dec v):=by
 unfold envOf
 simp only[h,hf]
theorem roCells_append {E:Env}:∀ (n m b o:Nat) (xs ys:List Value),roCells E b o n=some xs→roCells E b (o+n) m=some ys→roCells E b o (n+m)=some (xs++ys)
 | 0,m,b,o,xs,ys,h1,h2=>by
  simp only[roCells,Option.some.injEq] at h1
  subst h1
  rw[Nat.zero_add];exact h2
 | n+1,m,b,o,xs,ys,h1,h2=>by
  simp only[roCells] at h1
  split at h1
  ·next v hv=>
   split at h1
   ·next vs hvs=>
    cases h1
    have:=roCells_append n m b (o+1) vs ys hvs (by rw[show o+1+n=o+(n+1) by omega];exact h2)
    rw[show n+1+m=(n+m)+1 by omega]
    simp only[roCells,hv,this,List.cons_append]
   ·cases h1
  ·cases h1
section
variable {H0:Type} {enc:TypeId×Value→H0} {P:Program} {w:World} {sp:Nat→Bool} {held:Bool} {ti tn ts tk:TypeId}
theorem four_of {l:List Value} (h:l.length=4):∃ a b c d,l=[a,b,c,d]:=by
 match l,h with
 | [a,b,c,d],_=>exact⟨a,b,c,d,rfl⟩
end
section
variable {H0:Type} {enc:TypeId×Value→H0} {P:Program} {w:World} {sp:Nat→Bool} {held:Bool} {ts te:TypeId}
theorem cells1 {a:Addr} {cs:List Value} (h:w.cells? 0 a 1=some cs):∃ c0,cs=[c0]∧w.cell? a=some c0:=by
 simp only[World.cells?,Nat.zero_le,if_true,show List.range 1=[0] from rfl,List.mapM_cons,List.mapM_nil,Option.bind_eq_bind,Option.bind_eq_some_iff] at h
 obtain⟨c0,h0,l1,h1,h2⟩:=h
 cases h1;cases h2
 exact⟨c0,rfl,h0⟩
theorem bytes_of_trod (hs:P.underlying ts=some (.slice te)) (he:P.underlying te=some (.int .u8)) (hc:P.cellsOf te=1) (h:H) {fuel:Nat} {cs:List Value} {x:DataW H0×List MemPlace} (hx:DataW.trod enc P w 0 sp held fuel ts cs=some x) :
  ∃ c0,cs=[c0]∧foV (dec c0)=true∧∃ bs:List Int,(dec c0=.slice none 0 0∧bs=[])∨∃ a c,dec c0=.slice (some a) bs.length c∧bs.length≤c∧h.cells (envOf w) a bs.length=some (bs.map (Value.int .u8))∧a.spot≠some 0:=by
 rcases DataW.trod_slice hs hx with⟨rfl,_⟩|⟨a,len,cap,elems,rest,n',hn,rfl,_,_,hlc,hcap,hel,hele,_⟩
 ·exact⟨_,rfl,rfl,[],.inl ⟨rfl,rfl⟩⟩
 ·have hd:∃ a',dec (.slice (some a) len cap)=.slice (some a') len cap∧foV (.slice (some a') len cap)=true∧(a.spot=none→a'=a)∧a'.spot≠some 0:=by
   unfold dec
   cases hsp:a.spot with
   | none=>exact⟨a,by simp only[hsp],by simp only[foV,hsp],fun _=>rfl,by rw[hsp];simp⟩
   | some s=>exact⟨⟨a.block,a.off,some (s+1)⟩,by simp only[hsp],rfl,(fun h=>by cases h),by simp⟩
  obtain⟨a',hda,hfa,haa,hsa⟩:=hd
  refine⟨_,rfl,by rw[hda];exact hfa,?_⟩
  have each:∀ i,i<len→a.spot=none∧∃ k:Int,envOf w a.block (a.off+i)=some (.int .u8 k):=by
   intro i hi
   have hb:=hele i hi
   rw[hc,Nat.mul_one,List.getElem?_eq_getElem (by omega),Option.bind_eq_some_iff] at hb
   obtain⟨ci,h1,h2⟩:=hb
   obtain⟨d0,rfl,q0⟩:=cells1 h1
   obtain⟨k,k1,_⟩:=DataW.trod_int he h2
   replace k1:d0=.int .u8 k:=by simpa using k1
   subst k1
   have hsp:a.spot=none:=by
    by_cases hi0:i=0
    ·rw[hi0] at q0
     simp only[Addr.add,if_true,World.cell?] at q0
     split at q0
     ·split at q0
      ·cases q0
      ·next hh=>simpa using hh
     ·cases q0
    ·have:=hele 0 (by omega)
     rw[hc,List.getElem?_eq_getElem (by omega),Option.bind_eq_some_iff] at this
     obtain⟨c0,g1,_⟩:=this
     obtain⟨_,_,q0⟩:=cells1 g1
     simp only[Nat.zero_mul,Addr.add,if_true,World.cell?] at q0
     split at q0
     ·split at q0
      ·cases q0
      ·next hh=>simpa using hh
     ·cases q0
   refine⟨hsp,k,?_⟩
   have ha:a=⟨a.block,a.off,none⟩:=by cases a;simp_all
   rw[ha] at q0
   simp only[Addr.add_plain] at q0
   exact envOf_at q0 rfl
  have build:∀ j,j≤len→∃ bs:List Int,bs.length=j∧roCells (envOf w) a.block a.off j=some (bs.map (Value.int .u8)):=by
   intro j
   induction j with
   | zero=>intro _;exact⟨[],rfl,rfl⟩
   | succ j ihj=>
    intro hj
    obtain⟨bs,g1,g3⟩:=ihj (by omega)
    obtain⟨_,k,g5⟩:=each j (by omega)
    refine⟨bs++[k],by simp[g1],?_⟩
    rw[List.map_append]
    refine roCells_append _ _ _ _ _ _ g3 ?_
    simp only[roCells,g5,one?,isOne,List.map_cons,List.map_nil]
  obtain⟨bs,g1,g3⟩:=build len (Nat.le_refl _)
  refine⟨bs,.inr ⟨a',cap,by rw[hda,g1],by omega,?_,hsa⟩⟩
  cases hle:len with
  | zero=>
   subst hle
   obtain rfl:=List.length_eq_zero_iff.1 g1
   rfl
  | succ m=>
   obtain⟨hsp,_⟩:=each 0 (by omega)
   rw[haa hsp,g1,hle]
   unfold H.cells
   simp only[hsp]
   rw[← hle];exact g3
end
section
variable {D:Tab} {E:Env}
theorem FQ.skipG {v:Ev} {ops:Array Oper} {j:Nat} {o:Oper} {rest:List Oper} {A:Ac} {h:H} {Q:Ac→H→List Tch→Prop} {i:Nat} {w:Bool} {d:Tmp} (hg:o.guard=some (i,w)) (hd:(ops[i]?).bind (·.dst)=some d) (hv:A.get d=.bool (!w))
  (r:FQ D E v ops (j+1) rest (A.put o.dst undef) h (fun A' h' ts=>Q A' h' (⟨some [],[],h.next,h.next,false⟩::ts))):FQ D E v ops j (o::rest) A h Q:=by
 obtain⟨A',h',ts,h2,hq⟩:=r
 refine⟨A',h',_,?_,hq⟩
 have hw:awant ops A o=false:=by
  unfold awant
  rw[hg]
  simp only[ayield_get,hd,hv]
  cases w<;>rfl
 simp only[runFree,hw,h2]
theorem FC.skipG {v:Ev} {ops:Array Oper} {j:Nat} {o:Oper} {rest:List Oper} {A:Ac} {h:H} {Q:Ac→H→Prop} {i:Nat} {w:Bool} {d:Tmp} (hg:o.guard=some (i,w)) (hd:(ops[i]?).bind (·.dst)=some d) (hv:A.get d=.bool (!w))
  (r:FC D E v ops (j+1) rest (A.put o.dst undef) h Q):FC D E v ops j (o::rest) A h Q:=
 FQ.skipG hg hd hv (r.mono fun _ _ _ ⟨a,b⟩=>⟨by rw[List.all_cons,a];rfl,b⟩)
def Byt (E:Env) (h:H) (v:Value) (bs:List UInt8):Prop:=(v=.slice none 0 0∧bs=[])∨∃ a c,v=.slice (some a) bs.length c∧bs.length≤c∧h.cells E a bs.length=some (bytesV bs)
theorem Byt.grow {h g:H} {v:Value} {bs:List UInt8} (b:Byt E h v bs) (hg:Grows h g):Byt E g v bs:=by
 rcases b with b|⟨a,c,h1,h2,h3⟩
 ·exact .inl b
 ·exact .inr ⟨a,c,h1,h2,cells_grow hg h3⟩
theorem Byt.slice {h:H} {v:Value} {bs:List UInt8} (b:Byt E h v bs):∃ a c,v=.slice a bs.length c:=by
 rcases b with⟨rfl,rfl⟩|⟨a,c,h1,_,_⟩
 ·exact⟨none,0,rfl⟩
 ·exact⟨some a,c,h1⟩
theorem bytesV_length (bs:List UInt8):(bytesV bs).length=bs.length:=by simp[bytesV]
theorem bytesV_one (bs:List UInt8):(bytesV bs).all isOne=true:=by
 rw[List.all_eq_true]
 intro v hv
 simp only[bytesV,List.mem_map] at hv
 obtain⟨b,_,rfl⟩:=hv
 rfl
theorem allBytes_bytesV:∀ bs:List UInt8,allBytes (bytesV bs)=some bs
 | []=>rfl
 | b::bs=>by
  have e:bytesV (b::bs)=.int .u8 (b.toNat:Nat)::bytesV bs:=rfl
  rw[e,allBytes,allBytes_bytesV bs]
  simp
end
theorem apn_step {D:Tab} {E:Env} {h:H} {base:Nat} {t t2 e:TypeId} {sz by_ n m c i6 i7:Nat} {ax:Addr} {i8:Option Value} {i9:Bool} {s ze:Value} {xs cs:List Value} {ro:Option Nat} (f:Fit h) (hbn:base≤h.next) (ap:Ap2 h base e sz s n xs ro)
  (ht:D.ty.get t=some ⟨.slice e sz by_,i6,i7,i8,i9⟩) (hz:tzero D e=some ze) (hzz:(Nat.beq ze.cells.toList.length sz&&Nat.blt 0 sz&&ze.cells.toList.all isOne)=true) (hzt:zeroArg D t2 (.slice (some ax) (m+1) c)=some false)
  (hx:h.cells E ax ((m+1)*sz)=some cs) (hcl:cs.length=(m+1)*sz) (hc1:cs.all isOne=true) (hrm:roomy (n+(m+1)) by_=true) :
  ∃ s' h' ro',aappend D E t t2 s (.slice (some ax) (m+1) c) h=some (s',h')∧Ap2 h' base e sz s' (n+(m+1)) (xs++cs) ro'∧Grew base ro h h'∧(ro=none∧ro'=some h.next∨ro≠none∧ro'=ro)∧∀ r',r'<h.next→ro≠some r'→h'.chain r'=h.chain r':=by
 have hel:aelems E sz ze.cells.toList (.slice (some ax) (m+1) c) h=some (m+1,cs):=by
  simp only[aelems,hx]
 have hbl:Nat.beq cs.length ((m+1)*sz)=true:=by rw[hcl];exact Nat.beq_refl _
 have hsz:0<sz:=by
  simp only[Bool.and_eq_true,Nat.blt_eq] at hzz
  exact hzz.1.2
 rcases ap with⟨rfl,rfl,rfl,rfl⟩|⟨k,r,rfl,hb,hl,h1,hbr,hrx,hch,rfl⟩
 ·rw[Nat.zero_add] at hrm ⊢
  refine⟨.slice (some (own h.next)) (m+1) (m+1),h.newOpen cs e,some h.next,?_,.inr ⟨h.next,h.next,rfl,?_,?_,?_,hbn,Nat.lt_succ_self _,?_,rfl⟩,⟨newOpen_fit f,fun k B hb _=>newOpen_old f hb,rfl,rfl,Nat.le_succ _,fun r hr => ?_⟩,.inl ⟨rfl,rfl⟩,fun r' hr' _=>by simp only[H.chain,H.newOpen];rw[T.get_set_ne _ _ _ _ (by omega)]⟩
  ·unfold aappend
   rw[ht]
   simp only[hz,hzt,hzz,hel,hbl,hrm]
  ·exact newOpen_new
  ·rw[List.nil_append];exact hcl
  ·rw[List.nil_append];exact hc1
  ·intro j hj
   simp only[H.chain,H.newOpen,T.get_set_same,Option.getD,List.mem_singleton] at hj
   subst hj
   exact⟨cs,e,0,T.get_set_same _ _ _,by rw[Nat.zero_add,hcl];exact Nat.le_refl _⟩
  ·simp only[H.chain,H.newOpen]
   rw[T.get_set_ne _ _ _ _ (by omega)]
 ·have hkn:=f.lt hb
  have hd:=H.blk_dyn hb
  have hrn:=f.ok.1 _ _ _ _ _ hd
  have hgr:h.grow e r (0+(own k).off) (n*sz) (own k).block (xs.drop (own k).off) cs={ h with next:=h.next+1,dyn:=h.dyn.set h.next (.cells (xs++cs) e (some (r,0))),chains:=h.chains.set r (h.next::h.spare r k (0+n*sz) (0+n*sz+cs.length)) }:=by
   unfold H.grow
   simp only[own,Nat.add_zero,List.drop_zero]
   have hgone:h.gone r k (0+n*sz) (0+n*sz+cs.length)=[]:=by
    rw[List.eq_nil_iff_forall_not_mem]
    intro j hj
    obtain⟨hj1,hj2⟩:=mem_gone.1 hj
    obtain⟨ys,ty,p,hd,hle⟩:=hch j hj1
    unfold H.hits at hj2
    split at hj2
    ·cases hj2
    ·rw[hd] at hj2
     simp only[Bool.and_eq_true,Nat.blt_eq] at hj2
     omega
   rw[hgone]
   exact note_nil _
  generalize hg:({ h with next:=h.next+1,dyn:=h.dyn.set h.next (.cells (xs++cs) e (some (r,0))),chains:=h.chains.set r (h.next::h.spare r k (0+n*sz) (0+n*sz+cs.length)) }:H)=g at hgr
  have hcr:g.chain r=h.next::h.spare r k (0+n*sz) (0+n*sz+cs.length):=by
   rw[← hg];simp only[H.chain,T.get_set_same,Option.getD]
  have hcn:∀ r',r'≠r→g.chain r'=h.chain r':=by
   intro r' hr'
   rw[← hg];simp only[H.chain];rw[T.get_set_ne _ _ _ _ hr']
  have hgn:g.next=h.next+1:=by rw[← hg]
  have hnew:g.blk h.next=some (.cells (xs++cs) e (some (r,0))):=by
   have hdd:g.dyn.get h.next=some (.cells (xs++cs) e (some (r,0))):=by rw[← hg];exact T.get_set_same _ _ _
   unfold H.blk
   rw[hdd]
   simp only[hcr,List.contains_cons,beq_self_eq_true,Bool.true_or]
  have hold:∀ j,j≠h.next→g.dyn.get j=h.dyn.get j:=by
   intro j hj
   rw[← hg];exact T.get_set_ne _ _ _ _ hj
  refine⟨.slice (some (own h.next)) (n+(m+1)) (n+(m+1)),g,some r,?_,.inr ⟨h.next,r,rfl,hnew,?_,?_,hbr,by rw[hgn];omega,?_,rfl⟩,⟨⟨fun j hj => ?_,fun j ys ty r' p hd' => ?_,?_⟩,?_,?_,?_,?_,?_⟩,.inr ⟨by simp,rfl⟩,fun r' _ hr'=>hcn r' (fun e=>hr' (by rw[e]))⟩
  ·unfold aappend
   rw[ht]
   simp only[hz,hzt,hzz,hel,hbl,hrm]
   have e1:(own k).spot=some 0:=rfl
   have e2:(own k).block=k:=rfl
   have e3:(own k).off=0:=rfl
   have e4:Nat.ble (n+(m+1)) n=false:=by
    cases hq:Nat.ble (n+(m+1)) n
    ·rfl
    ·rw[Nat.ble_eq] at hq;omega
   simp only[e1,e2,hb,e4]
   have e5:(Nat.beq n n&&Nat.beq ((own k).off+n*sz) xs.length&&Nat.beq e e&&(xs.drop (own k).off).all isOne&&Nat.ble (own k).off xs.length)=true:=by
    rw[e3,Nat.zero_add,hl,List.drop_zero,h1,Nat.beq_refl,Nat.beq_refl,Nat.beq_refl]
    simp[Nat.ble]
   simp only[e5]
   rw[← hgr];rfl
  ·rw[List.length_append,hl,hcl,← Nat.add_mul]
  ·rw[List.all_append,h1,hc1];rfl
  ·intro j hj
   rw[hcr] at hj
   rcases List.mem_cons.1 hj with rfl|hj
   ·exact⟨xs++cs,e,0,H.blk_dyn hnew,by rw[List.length_append,hl,hcl,Nat.add_mul n];omega⟩
   ·obtain⟨ys,ty,p,hd,hle⟩:=hch j (mem_spare.1 hj).1
    have hjn:j≠h.next:=by
     intro e
     subst e
     rw[f.free _ (Nat.le_refl _)] at hd;cases hd
    refine⟨ys,ty,p,by rw[hold j hjn];exact hd,?_⟩
    rw[Nat.add_mul n];omega
  ·rw[hgn] at hj
   rw[hold j (by omega)];exact f.free j (by omega)
  ·rw[hgn]
   by_cases hj:j=h.next
   ·subst hj
    have:=H.blk_dyn hnew
    rw[this] at hd'; cases hd'; omega
   ·rw[hold j hj] at hd'
    have:=f.ok.1 _ _ _ _ _ hd'; omega
  ·rw[hgn]
   have:=f.ok.2
   rw[← hg];exact Nat.le_succ_of_le this
  ·intro j B hbj hro
   have hjn:=f.lt hbj
   rw[← hbj]
   refine blk_congr (hold j (by omega)) (fun ys u r' q hd' => ?_)
   have:B=.cells ys u (some (r',q)):=by
    have:=H.blk_dyn hbj
    rw[hd'] at this;cases this;rfl
   have hne:=hro _ _ _ _ this
   rw[hcn r' (fun h=>hne (by rw[h]))]
  ·rw[← hg]
  ·rw[← hg]
  ·rw[hgn];omega
  ·intro r' hr'
   exact hcn r' (by omega)
section
variable {D:Tab} {E:Env} {tb:TypeId}
def Bol (tb:TypeId) (base top:Nat) (g:H) (sl:Value) (bs:List UInt8):Prop:=∃ ro,Ap2 g base tb 1 sl bs.length (bytesV bs) ro∧∀ r,ro=some r→base≤r∧r<top
theorem Bol.nil (base top:Nat) (g:H):Bol tb base top g (.slice none 0 0) []:=⟨none,.inl ⟨rfl,rfl,rfl,rfl⟩,fun _ h=>by cases h⟩
theorem Bol.mod {M:Nat→Prop} {base top:Nat} {g g':H} {sl:Value} {bs:List UInt8} (K:Bol tb base top g sl bs) (m:Mod M g g') (hp:∀ k B,M k→g.blk k=some B→B.plain=true):Bol tb base top g' sl bs:=by
 obtain⟨ro,h1,h3⟩:=K
 exact⟨ro,h1.mod m hp,h3⟩
theorem Bol.up {base top top':Nat} {g:H} {sl:Value} {bs:List UInt8} (K:Bol tb base top g sl bs) (h:top≤top'):Bol tb base top' g sl bs:=by
 obtain⟨ro,h1,h3⟩:=K
 exact⟨ro,h1,fun r hr=>⟨(h3 r hr).1,Nat.lt_of_lt_of_le (h3 r hr).2 h⟩⟩
theorem Bol.slice {base top:Nat} {g:H} {sl:Value} {bs:List UInt8} (K:Bol tb base top g sl bs):∃ b,sl=.slice b bs.length bs.length:=by
 obtain⟨ro,h1,_⟩:=K
 rcases h1 with⟨e,_,rfl,_⟩|⟨k,r,rfl,_⟩
 ·exact⟨none,by rw[e]⟩
 ·exact⟨_,rfl⟩
theorem Bol.byt {base top:Nat} {g:H} {sl:Value} {bs:List UInt8} (K:Bol tb base top g sl bs):Byt E g sl bs:=by
 obtain⟨ro,h1,_⟩:=K
 rcases h1 with⟨e,_,rfl,_⟩|⟨k,r,rfl,hb,hl,ho,_⟩
 ·exact .inl ⟨rfl,List.length_eq_zero_iff.1 e⟩
 ·exact .inr ⟨own k,_,rfl,Nat.le_refl _,blk_cells hb (bytesV_length bs) ho⟩
theorem bytesV_append (a b:List UInt8):bytesV (a++b)=bytesV a++bytesV b:=by simp[bytesV]
theorem bol_step {t t2 by_ i6 i7:Nat} {i8:Option Value} {i9:Bool} {ze:Value} {base top:Nat} {g:H} {sl x:Value} {bs cs:List UInt8} (f:Fit g) (hbn:base≤g.next) (htop:top≤g.next) (K:Bol tb base top g sl bs)
  (ht:D.ty.get t=some ⟨.slice tb 1 by_,i6,i7,i8,i9⟩) (hz:tzero D tb=some ze) (hzz:(Nat.beq ze.cells.toList.length 1&&Nat.blt 0 1&&ze.cells.toList.all isOne)=true) (hzt:zeroArg D t2 x=some false)
  (hx:Byt E g x cs) (hrm:roomy (bs.length+cs.length) by_=true) :
  ∃ sl' q,aappend D E t t2 sl x g=some (sl',q)∧Bol tb base q.next q sl' (bs++cs)∧Aps base g q:=by
 have zero:cs.length=0→aelems E 1 ze.cells.toList x g=some (0,[])→∃ sl' q,aappend D E t t2 sl x g=some (sl',q)∧Bol tb base q.next q sl' (bs++cs)∧Aps base g q:=by
  intro h0 hel
  obtain rfl:=List.length_eq_zero_iff.1 h0
  refine⟨sl,g,?_,by rw[List.append_nil];exact K.up htop,none,(fun _ h=>by cases h),⟨f,fun _ _ h _=>h,rfl,rfl,Nat.le_refl _,fun _ _=>rfl⟩⟩
  obtain⟨b,rfl⟩:=K.slice
  obtain⟨ro,h1,_⟩:=K
  unfold aappend
  rw[ht]
  have hb0:Nat.beq ([]:List Value).length (0*1)=true:=rfl
  simp only[hz,hzt,hzz,hel,hb0]
  rcases h1 with⟨e,_,e2,_⟩|⟨k,r,e2,_⟩
  ·rw[e2];rfl
  ·rw[e2]
   simp only[Nat.ble_self_eq_true]
 rcases hx with⟨rfl,rfl⟩|⟨a,c,rfl,hc,hcs⟩
 ·exact zero rfl rfl
 obtain⟨l,hn⟩:∃ l,cs.length=l:=⟨_,rfl⟩
 cases l with
 | zero=>
  refine zero hn ?_
  simp only[aelems,hn,Nat.zero_mul,H.cells]
 | succ m=>
  rw[hn] at hcs hrm hzt ⊢
  obtain⟨ro,h1,h3⟩:=K
  obtain⟨s',q,ro',happ,ap4,gw,hroo⟩:=apn_step f hbn h1 ht hz hzz hzt (by rw[Nat.mul_one];exact hcs) (by rw[Nat.mul_one,bytesV_length,hn]) (bytesV_one cs) hrm
  refine⟨s',q,happ,⟨ro',?_,fun r hr => ?_⟩,ro,fun r hr=>(h3 r hr).1,gw⟩
  ·rw[List.length_append,hn,bytesV_append];exact ap4
  ·rcases ap4 with⟨_,_,_,e3⟩|⟨_,rr,_,_,_,_,e5,e6,_,e8⟩
   ·rw[e3] at hr;cases hr
   ·rw[e8] at hr;cases hr;exact⟨e5,e6⟩
end
theorem put_in {g:H} {k o:Nat} {vs xs:List Value} {e:TypeId} (f:Fit g) (hb:g.blk k=some (.cells xs e (some (k,0)))) (hc:g.chain k=[k]) (hm:g.mark≤k) (hv:vs≠[]) (hl:o+vs.length≤xs.length) (h1:vs.all isOne=true) :
  ∃ q,g.put (aadd (own k) o) vs=some q∧Fit q∧q.blk k=some (.cells (xs.take o++vs++xs.drop (o+vs.length)) e (some (k,0)))∧(∀ j,j≠k→q.blk j=g.blk j)∧(∀ r,q.chain r=g.chain r)∧q.next=g.next∧q.log=g.log∧q.mark=g.mark:=by
 have hkn:=f.lt hb
 have hsp:g.spare k k (0+o) (0+o+vs.length)=[k]:=by
  unfold H.spare
  rw[hc]
  have:g.hits k (0+o) (0+o+vs.length) k=false:=by
   unfold H.hits
   rw[Nat.beq_refl]
  simp only[List.filter_cons,this,Bool.not_false,if_true,List.filter_nil]
 have hgn:g.gone k k (0+o) (0+o+vs.length)=[]:=by
  unfold H.gone
  rw[hc]
  have:g.hits k (0+o) (0+o+vs.length) k=false:=by
   unfold H.hits
   rw[Nat.beq_refl]
  simp only[List.filter_cons,this,List.filter_nil]
  rfl
 generalize hB:(Blk.cells (xs.take o++vs++xs.drop (o+vs.length)) e (some (k,0)))=B
 have hput:g.put (aadd (own k) o) vs=some ({ g with dyn:=g.dyn.set k B,chains:=g.chains.set k [k] }:H):=by
  rw[← hB]
  unfold H.put
  cases vs with
  | nil=>exact absurd rfl hv
  | cons v vs=>
   simp only[aadd,own,Nat.zero_add,hb] at hsp hgn ⊢
   rw[h1,show Nat.ble (o+(v::vs).length) xs.length=true from by rw[Nat.ble_eq];exact hl]
   simp only[Bool.and_self,hsp,hgn]
   congr 1
   exact note_above (h:={ g with dyn:=_,chains:=_ }) (fun j hj=>by simp at hj;subst hj;exact hm)
 generalize hq:({ g with dyn:=g.dyn.set k B,chains:=g.chains.set k [k] }:H)=q at hput
 have hqd:q.dyn=g.dyn.set k B:=by rw[← hq]
 have hqn:q.next=g.next:=by rw[← hq]
 have hqc:∀ r,q.chain r=g.chain r:=by
  intro r
  rw[← hq]
  simp only[H.chain,T.get_set]
  split
  ·next h=>subst h;simpa [H.chain,Option.getD] using hc.symm
  ·rfl
 refine⟨q,hput,⟨fun j hj => ?_,⟨fun j ys ty r p hd => ?_,?_⟩⟩,?_,fun j hj => ?_,hqc,hqn,by rw[← hq],by rw[← hq]⟩
 ·rw[hqn] at hj
  rw[hqd,T.get_set_ne _ _ _ _ (by omega)];exact f.free j hj
 ·rw[hqn]
  rw[hqd] at hd
  by_cases hj:j=k
  ·subst hj
   rw[T.get_set_same,← hB] at hd
   cases hd;exact hkn
  ·rw[T.get_set_ne _ _ _ _ hj] at hd
   exact f.ok.1 _ _ _ _ _ hd
 ·rw[← hq];exact f.ok.2
 ·have hdd:q.dyn.get k=some B:=by rw[hqd];exact T.get_set_same _ _ _
  unfold H.blk
  rw[hdd,← hB]
  simp only[hqc,hc,List.contains_cons,beq_self_eq_true,Bool.true_or]
 ·exact blk_congr (by rw[hqd,T.get_set_ne _ _ _ _ hj]) (fun _ _ r _ _=>by rw[hqc])
section
variable {D:Tab} {E:Env} {tb:TypeId}
theorem FC.call {v:Ev} {ops:Array Oper} {j:Nat} {o:Oper} {rest:List Oper} {A:Ac} {h h1:H} {x:Value} {Q:Ac→H→Prop} (hg:o.guard=none) (hm:(mayJoin o.op||isStore o.op)=false) (ho:oper1 D E v A o (fresh h)=some (x,h1)) (hl:h1.log=[]) (r:FC D E v ops (j+1) rest (A.put o.dst x) (back h h1) Q):FC D E v ops j (o::rest) A h Q:=by
 rw[Bool.or_eq_false_iff] at hm
 exact FQ.call hg hm.1 ho hl (r.mono fun _ _ _ ⟨a,b⟩=>⟨calm_cons hm.2 a,b⟩)
theorem Mod.quiet {g h:H} (m:Mod (fun _=>False) (fresh g) h):h.log=[]:=by
 refine List.eq_nil_iff_forall_not_mem.2 fun j hj => ?_
 rcases m.log j hj with h1|⟨h1,_⟩
 ·cases h1
 ·exact h1
def Con (tb:TypeId) (base n:Nat) (g:H) (sl:Value) (bs:List UInt8):Prop:=∃ k rest,sl=.slice (some (own k)) bs.length n∧g.blk k=some (.cells (bytesV bs++rest) tb (some (k,0)))∧bs.length+rest.length=n∧rest.all isOne=true∧g.chain k=[k]∧base≤k
theorem Con.byt {base n:Nat} {g:H} {sl:Value} {bs:List UInt8} (K:Con tb base n g sl bs):Byt E g sl bs:=by
 obtain⟨k,rest,rfl,hb,hn,ho,_,_⟩:=K
 refine .inr ⟨own k,n,rfl,by omega,?_⟩
 have h1:=blk_cells (E:=E) hb rfl (by rw[List.all_append,bytesV_one,ho];rfl)
 have h2:=cells_sub h1 (m:=0) (l:=bs.length) (by rw[List.length_append,bytesV_length];omega)
 rw[aadd_zero,List.drop_zero] at h2
 rw[h2]
 congr 1
 rw[← bytesV_length bs,List.take_left]
theorem con_start {t t2 by_ i6 i7:Nat} {i8:Option Value} {i9:Bool} {ze:Value} {g:H} {n:Nat} (f:Fit g) (hn:0<n)
  (ht:D.ty.get t=some ⟨.slice tb 1 by_,i6,i7,i8,i9⟩) (hz:tzero D tb=some ze) (hz1:ze.cells.toList=[.int .u8 0]) (hzt:zeroArg D t2 (.int .i64 (n:Nat))=some true) (hrm:roomy n by_=true) :
  ∃ sl' q,aappend D E t t2 (.slice none 0 0) (.int .i64 (n:Nat)) g=some (.slice (some (own g.next)) n n,q)∧(∀ h,aslice D t (.slice (some (own g.next)) n n) none (some (.int .i64 0)) none h=some (sl',h))∧Con tb g.next n q sl' []∧Ahd g q:=by
 have zr:∀ n,zeroRow [Value.int .u8 0] n=List.replicate n (.int .u8 0):=by
  intro n
  induction n with
  | zero=>rfl
  | succ n ih=>rw[zeroRow,ih];rfl
 refine⟨.slice (some (own g.next)) 0 n,g.newOpen (List.replicate n (.int .u8 0)) tb,?_,fun h => ?_,⟨g.next,List.replicate n (.int .u8 0),rfl,newOpen_new,by simp,by simp[isOne],by simp only[H.chain,H.newOpen,T.get_set_same,Option.getD],Nat.le_refl _⟩,Ahd.newOpen f _ _⟩
 ·unfold aappend
  rw[ht]
  have hel:aelems E 1 ze.cells.toList (.int .i64 ((n:Nat):Int)) g=some (n,List.replicate n (.int .u8 0)):=by
   rw[hz1,← zr];rfl
  have hzz:(Nat.beq ze.cells.toList.length 1&&Nat.blt 0 1&&ze.cells.toList.all isOne)=true:=by rw[hz1];rfl
  have hb:Nat.beq (List.replicate n (Value.int .u8 0)).length (n*1)=true:=by rw[List.length_replicate,Nat.mul_one];exact Nat.beq_refl n
  simp only[hz,hzt,hzz,hel,hb]
  cases n with
  | zero=>omega
  | succ n=>simp only[hrm]
 ·have e1:Nat.ble n n=true:=by rw[Nat.ble_eq];exact Nat.le_refl _
  have e2:Nat.beq n 0=false:=by
   cases q:Nat.beq n 0
   ·rfl
   ·have:=Nat.eq_of_beq_eq_true q;omega
  have e3:inRange 0 (n+1)=true:=by
   show Nat.blt 0 (n+1)=true
   rw[Nat.blt_eq];omega
  unfold aslice
  rw[ht]
  simp only[e1,asliceS,abound,e3,Int.toNat_zero,e2,Nat.zero_mul,Nat.sub_zero]
  rfl
theorem con_step {t t2 by_ i6 i7:Nat} {i8:Option Value} {i9:Bool} {ze:Value} {base n:Nat} {g:H} {sl x:Value} {bs cs:List UInt8} (f:Fit g) (hm:g.mark≤base) (K:Con tb base n g sl bs)
  (ht:D.ty.get t=some ⟨.slice tb 1 by_,i6,i7,i8,i9⟩) (hz:tzero D tb=some ze) (hzz:(Nat.beq ze.cells.toList.length 1&&Nat.blt 0 1&&ze.cells.toList.all isOne)=true) (hzt:zeroArg D t2 x=some false)
  (hx:Byt E g x cs) (hle:bs.length+cs.length≤n) (hrm:roomy (bs.length+cs.length) by_=true) :
  ∃ sl' q,aappend D E t t2 sl x g=some (sl',q)∧Con tb base n q sl' (bs++cs)∧(∀ M h,Fit h→h.next≤base→Mod M h g→Mod M h q):=by
 obtain⟨k,rest,rfl,hb,hn,ho,hc,hk⟩:=K
 have zero:cs.length=0→aelems E 1 ze.cells.toList x g=some (0,[])→∃ sl' q,aappend D E t t2 (.slice (some (own k)) bs.length n) x g=some (sl',q)∧Con tb base n q sl' (bs++cs)∧(∀ M h,Fit h→h.next≤base→Mod M h g→Mod M h q):=by
  intro h0 hel
  obtain rfl:=List.length_eq_zero_iff.1 h0
  refine⟨_,g,?_,by rw[List.append_nil];exact⟨k,rest,rfl,hb,hn,ho,hc,hk⟩,fun _ _ _ _ m=>m⟩
  unfold aappend
  rw[ht]
  have hb0:Nat.beq ([]:List Value).length (0*1)=true:=rfl
  have e1:Nat.ble bs.length n=true:=by rw[Nat.ble_eq];omega
  simp only[hz,hzt,hzz,hel,hb0,e1]
 rcases hx with⟨rfl,rfl⟩|⟨a,c,rfl,hcc,hcs⟩
 ·exact zero rfl rfl
 obtain⟨l,hl⟩:∃ l,cs.length=l:=⟨_,rfl⟩
 cases l with
 | zero=>
  refine zero hl ?_
  simp only[aelems,hl,Nat.zero_mul,H.cells]
 | succ m=>
  obtain⟨q,hput,fq,hqb,hqo,hqc,hqn,hql,hqm⟩:=put_in (o:=bs.length) (vs:=bytesV cs) f hb hc (Nat.le_trans hm hk) (by intro e;have:=bytesV_length cs;rw[e,hl] at this;simp at this) (by rw[List.length_append,bytesV_length,bytesV_length];omega) (bytesV_one cs)
  refine⟨.slice (some (own k)) (bs.length+cs.length) n,q,?_,⟨k,rest.drop cs.length,by rw[List.length_append],?_,by rw[List.length_append,List.length_drop];omega,?_,by rw[hqc];exact hc,hk⟩,fun M h fh hhb mm => ?_⟩
  ·unfold aappend
   rw[ht]
   have hel:aelems E 1 ze.cells.toList (.slice (some a) cs.length c) g=some (cs.length,bytesV cs):=by simp only[aelems,Nat.mul_one,hcs]
   have hbl:Nat.beq (bytesV cs).length (cs.length*1)=true:=by rw[bytesV_length,Nat.mul_one];exact Nat.beq_refl _
   have e1:Nat.ble (bs.length+cs.length) n=true:=by rw[Nat.ble_eq];omega
   have hb':g.blk (own k).block=some (.cells (bytesV bs++rest) tb (some (k,0))):=hb
   have hsp:(own k).spot=some 0:=rfl
   simp only[hz,hzt,hzz,hel,hbl]
   rw[hl] at hrm e1 ⊢
   simp only[hrm,hsp,hb',e1,Nat.mul_one,hput]
  ·rw[hqb]
   congr 2
   have e1:(bytesV bs++rest).take bs.length=bytesV bs:=by rw[← bytesV_length bs,List.take_left]
   rw[e1,bytesV_append,bytesV_length]
   congr 1
   rw[← List.drop_drop,← bytesV_length bs,List.drop_left]
  ·rw[List.all_eq_true] at ho ⊢
   exact fun v hv=>ho v (List.mem_of_mem_drop hv)
  ·refine⟨fq,fun j B hj hB => ?_,hqm.trans mm.mark,by rw[hqn];exact mm.next,fun r hr=>(hqc r).trans (mm.chain r hr),fun j hj=>by rw[hql] at hj;exact mm.log j hj⟩
   rw[hqo j (by have:=fh.lt hB;omega)]
   exact mm.blk j B hj hB
end
mutual
def smlI:Item→Prop
 | .mk k n tx ks=>1≤k∧k≤63∧0≤n∧n≤1099511627776∧tx.data.toList.length≤5∧smlL ks
def smlL:List Item→Prop
 | []=>True
 | x::xs=>smlI x∧smlL xs
end
theorem smlL_append:∀ {xs:List Item} {y:Item},smlL xs→smlI y→smlL (xs++[y])
 | [],y,_,hy=>by rw[List.nil_append,smlL,smlL];exact⟨hy,trivial⟩
 | x::xs,y,h,hy=>by
  rw[smlL] at h
  rw[List.cons_append,smlL]
  exact⟨h.1,smlL_append h.2 hy⟩
mutual
theorem smlI.good:∀ {t:Item},smlI t→goodI t
 | .mk k n tx ks,h=>by
  rw[smlI] at h
  rw[goodI]
  exact⟨h.1,h.2.1,h.2.2.1,h.2.2.2.1,by omega,smlL.good h.2.2.2.2.2⟩
theorem smlL.good:∀ {ks:List Item},smlL ks→goodL ks
 | [],_=>by rw[goodL];trivial
 | x::xs,h=>by
  rw[smlL] at h
  rw[goodL]
  exact⟨smlI.good h.1,smlL.good h.2⟩
end
theorem numB_le:∀ (k n:Nat),n<128 ^ k→(numB n).length≤k+1:=by
 intro k
 induction k with
 | zero=>intro n hn;rw[Nat.pow_zero] at hn;rw[numB_small (by omega:n<128)];simp
 | succ k ih=>
  intro n hn
  by_cases h:n<128
  ·rw[numB_small h];simp
  ·rw[numB_large h,List.length_cons]
   have:=ih (n / 128) (by rw[Nat.pow_succ] at hn;omega)
   omega
theorem encI_form (k n:Int) (tx:ByteArray) (ks:List Item):∃ hd tB kB,encI (.mk k n tx ks)=hd::(numB n.toNat++(tB++kB))∧tB.length≤(numB tx.data.toList.length).length+tx.data.toList.length∧kB.length≤(numB ks.length).length+(encL ks).length:=by
 rw[encI]
 refine⟨_,_,_,rfl,?_,?_⟩
 ·split
  ·simp
  ·rw[List.length_append];omega
 ·split
  ·simp
  ·rw[List.length_append];omega
theorem encI_pos (t:Item):1≤(encI t).length:=by
 obtain⟨k,n,tx,ks⟩:=t
 obtain⟨hd,tB,kB,e,_⟩:=encI_form k n tx ks
 rw[e,List.length_cons];omega
mutual
theorem encI_short:∀ {t:Item},smlI t→isz t≤5000→(encI t).length≤100*isz t
 | .mk k n tx ks,h,hz=>by
  rw[smlI] at h
  obtain⟨g1,g2,g3,g4,g5,g6⟩:=h
  rw[isz] at hz ⊢
  have ih:=encL_short g6 (by omega)
  obtain⟨hd,tB,kB,e,h1,h2⟩:=encI_form k n tx ks
  have a1:=numB_le 9 n.toNat (by omega)
  have a2:=numB_le 9 tx.data.toList.length (by omega)
  have a3:=numB_le 9 ks.length (by have:=len_iszE ks;omega)
  rw[e,List.length_cons,List.length_append,List.length_append]
  omega
theorem encL_short:∀ {ks:List Item},smlL ks→iszL ks≤5000→(encL ks).length≤100*iszL ks
 | [],_,_=>by rw[encL];simp
 | x::xs,h,hz=>by
  rw[smlL] at h
  rw[iszL] at hz ⊢
  rw[encL,List.length_append]
  have:=encI_short h.1 (by omega)
  have:=encL_short h.2 (by omega)
  omega
end
section
variable {D:Tab} {E:Env}
variable {b top:Nat} {h g:H} {s1 s2 s3:Value} {ts:List Item} {bs:List UInt8} {ns:List Nat}
theorem ap2_root {h:H} {base:Nat} {e:TypeId} {sz:Nat} {s:Value} {n:Nat} {xs:List Value} {ro:Option Nat} (a:Ap2 h base e sz s n xs ro):∀ r,ro=some r→base≤r∧r<h.next:=fun r hr=>by
 rcases a with⟨_,_,_,e3⟩|⟨_,rr,_,_,_,_,e5,e6,_,e8⟩
 ·rw[e3] at hr;cases hr
 ·rw[e8] at hr;cases hr;exact⟨e5,e6⟩
end
structure Gk (ro:Option Nat) (h g:H):Prop where
 fit:Fit g
 grows:Grows h g
 log:g.log=h.log
 mark:g.mark=h.mark
 next:h.next≤g.next
 chain:∀ r,r<h.next→ro≠some r→g.chain r=h.chain r
theorem Ahd.gk {h g:H} {ro:Option Nat} (a:Ahd h g):Gk ro h g:=⟨a.fit,a.grows,a.log,a.mark,a.next,fun r hr _=>a.chain r hr⟩
def Ap3 (h:H) (base:Nat) (e:TypeId) (sz:Nat) (s:Value) (n:Nat) (xs:List Value) (ro:Option Nat):Prop:=
 Ap2 h base e sz s n xs ro∨∃ k,s=.slice (some (own k)) n n∧h.blk k=some (.cells xs e none)∧xs.length=n*sz∧xs.all isOne=true∧ro=none
theorem Ap3.get {h:H} {base:Nat} {e:TypeId} {sz:Nat} {s:Value} {n:Nat} {xs:List Value} {ro:Option Nat} (a:Ap3 h base e sz s n xs ro):(n=0∧xs=[]∧s=.slice none 0 0)∨∃ k rt,s=.slice (some (own k)) n n∧h.blk k=some (.cells xs e rt)∧xs.length=n*sz∧xs.all isOne=true:=by
 rcases a with (⟨h1,h2,h3,_⟩|⟨k,r,e1,e2,e3,e4,_⟩)|⟨k,e1,e2,e3,e4,_⟩
 ·exact .inl ⟨h1,h2,h3⟩
 ·exact .inr ⟨k,_,e1,e2,e3,e4⟩
 ·exact .inr ⟨k,_,e1,e2,e3,e4⟩
/-! ### Lists of numbers, and lists of those -/
theorem set_mid {pre d post:List Value} {i:Nat} {x:Value} (hi:i<d.length):(pre++d++post).take (pre.length+i)++[x]++(pre++d++post).drop (pre.length+i+1)=pre++d.set i x++post:=by
 rw[List.append_assoc pre d post,List.take_append,List.take_of_length_le (by omega),show pre.length+i-pre.length=i by omega,show pre.length+i+1=pre.length+(i+1) by omega,← List.drop_drop,List.drop_left]
 rw[List.take_append_of_le_length (by omega),List.drop_append_of_le_length (by omega),List.set_eq_take_append_cons_drop,if_pos hi]
 simp
theorem bytesV_set (d:List UInt8) (i:Nat) (x:UInt8):bytesV (d.set i x)=(bytesV d).set i (.int .u8 (x.toNat:Nat)):=by
 simp only[bytesV,List.map_set]
theorem row_set {pre post:List Value} {d:Array UInt8} {i o:Nat} {x:UInt8} (hi:i<d.size) (ho:o=pre.length+i):(pre++bytesV d.toList++post).take o++[.int .u8 (x.toNat:Nat)]++(pre++bytesV d.toList++post).drop (o+1)=pre++bytesV (d.setIfInBounds i x).toList++post:=by
 rw[ho,set_mid (by rw[bytesV_length];simpa using hi),Array.toList_setIfInBounds,bytesV_set]
theorem row_length {pre post:List Value} {d:Array UInt8}:(pre++bytesV d.toList++post).length=pre.length+d.size+post.length:=by
 simp[bytesV_length];omega
theorem fmt_done {u:Nat} {v:Nat} {d:Array UInt8} (h:Lib.FmtInv (Lib.nDigits u) u 0 v d):d.toList=Lib.decDigits u:=by
 rw[Lib.decDigits_eq]
 apply List.ext_getElem
 ·simp[h.size]
 ·intro t h1 h2
  have ht:t<Lib.nDigits u:=by simpa [h.size] using h1
  have:=h.done t (Nat.zero_le _) ht
  rw[getElem!_pos d t (by rw[h.size];exact ht)] at this
  simp only[Array.getElem_toList,List.getElem_map,List.getElem_range]
  rw[this]
theorem dec_len {n k:Nat} (h:n<10 ^ k) (hk:1≤k):Lib.nDigits n≤k:=by
 apply Classical.byContradiction
 intro hc
 have h1:∀ (j u:Nat),j<Lib.nDigits u→1≤j→10 ^ j≤u:=by
  intro j
  induction j with
  | zero=>intro u _ h;omega
  | succ j ih=>
   intro u hj _
   by_cases hu:u<10
   ·rw[Lib.nDigits_small hu] at hj;omega
   ·rw[Lib.nDigits_big hu] at hj
    rcases Nat.eq_zero_or_pos j with rfl|hj0
    ·simpa using Nat.le_of_not_lt hu
    ·have:=ih (u / 10) (by omega) hj0
     rw[Nat.pow_succ]
     have h2:=Nat.mul_le_mul_right 10 this
     omega
 have:=h1 k n (by omega) hk
 omega
theorem quoU (k:IntKind) (a b:Nat) (hb:0<b) (hw:k.wrap ((a / b:Nat):Int)=((a / b:Nat):Int)):aint .quo k (a:Nat) (b:Nat)=some (.int k ((a / b:Nat):Int)):=by
 match b,hb with
 | b+1,_=>
  show some (Value.int k (k.wrap ((a:Int).tdiv ((b+1:Nat):Int))))=_
  rw[show ((a:Int).tdiv ((b+1:Nat):Int))=((a / (b+1):Nat):Int) from rfl,hw]
theorem remU (k:IntKind) (a b:Nat) (hb:0<b):aint .rem k (a:Nat) (b:Nat)=some (.int k ((a % b:Nat):Int)):=by
 match b,hb with
 | b+1,_=>rfl
theorem wrapU64 {x:Nat} (h:x<18446744073709551616):IntKind.u64.wrap (x:Nat)=(x:Nat):=by
 simp only[IntKind.wrap,IntKind.bits,IntKind.signed]
 simp
 omega
theorem wrapU32 {x:Nat} (h:x<4294967296):IntKind.u32.wrap (x:Nat)=(x:Nat):=by
 simp only[IntKind.wrap,IntKind.bits,IntKind.signed]
 simp
 omega
def plainB (c:UInt8):Bool:=decide (32≤c.toNat)&&decide (c.toNat≤126) && !decide (c.toNat=34) && !decide (c.toNat=92)
def hexB (n:Nat):UInt8:=UInt8.ofNat (if n<10 then 48+n else 87+n)
def escB (c:UInt8):List UInt8:=if plainB c=true then [c] else [92,hexB (c.toNat / 16),hexB (c.toNat % 16)]
def escL:List UInt8→List UInt8
 | []=>[]
 | c::cs=>escB c++escL cs
theorem escL_append:∀ a b:List UInt8,escL (a++b)=escL a++escL b
 | [],b=>rfl
 | c::a,b=>by rw[List.cons_append,escL,escL,escL_append a b,List.append_assoc]
theorem escB_len (c:UInt8):1≤(escB c).length∧(escB c).length≤3:=by
 unfold escB
 split<;>simp
theorem escL_len:∀ l:List UInt8,l.length≤(escL l).length∧(escL l).length≤3*l.length
 | []=>⟨Nat.le_refl _,Nat.le_refl _⟩
 | c::l=>by
  have h1:=escB_len c
  have h2:=escL_len l
  rw[escL,List.length_append,List.length_cons]
  omega
mutual
def prtI:Item→List UInt8
 | .mk k m tx ks=>Lib.decDigits k.toNat++(if m=0 then [] else 58::Lib.decDigits m.toNat)++(if tx.data.toList=[] then [] else 34::(escL tx.data.toList++[34]))++(if ks=[] then [] else prtL ks 40++[41])
def prtL:List Item→UInt8→List UInt8
 | [],_=>[]
 | x::xs,b=>b::(prtI x++prtL xs 32)
end
theorem prtL_append:∀ (a:List Item) (x:Item) (b:UInt8),prtL (a++[x]) b=prtL a b++((if a=[] then b else 32)::prtI x)
 | [],x,b=>by rw[List.nil_append,prtL,prtL,prtL];simp
 | y::a,x,b=>by
  rw[List.cons_append,prtL,prtL,prtL_append a x 32]
  simp
theorem dec_len15 {m:Int} (h0:0≤m) (h1:m≤1099511627776):(Lib.decDigits m.toNat).length≤15:=by
 rw[Lib.decDigits_length]
 exact dec_len (Nat.lt_of_le_of_lt (show m.toNat≤1099511627776 by omega) (by decide)) (by decide)
mutual
theorem prtI_len:∀ t:Item,goodI t→(prtI t).length+1≤12400*isz t
 | .mk k m tx ks,g=>by
  rw[goodI] at g
  obtain⟨g1,g2,g3,g4,g5,g6⟩:=g
  have h1:=dec_len15 (m:=k) (by omega) (by omega)
  have h2:=dec_len15 (m:=m) g3 g4
  have h3:=(escL_len tx.data.toList).2
  have h4:=prtL_len ks 40 g6
  rw[prtI,isz]
  simp only[List.length_append]
  have e1:(if m=0 then ([]:List UInt8) else 58::Lib.decDigits m.toNat).length≤16:=by split<;>simp<;>omega
  have e2:(if tx.data.toList=[] then ([]:List UInt8) else 34::(escL tx.data.toList++[34])).length≤12290:=by split<;>simp<;>omega
  have e3:(if ks=[] then ([]:List UInt8) else prtL ks 40++[41]).length≤(prtL ks 40).length+1:=by split<;>simp
  omega
theorem prtL_len:∀ (ks:List Item) (b:UInt8),goodL ks→(prtL ks b).length≤12400*iszL ks
 | [],b,_=>by rw[prtL,iszL];simp
 | x::xs,b,g=>by
  rw[goodL] at g
  have h1:=prtI_len x g.1
  have h2:=prtL_len xs 32 g.2
  have h3:=isz_pos x
  rw[prtL,iszL,List.length_cons,List.length_append]
  omega
end
theorem goodL_get:∀ {ks:List Item} {y:Item} (i:Nat),goodL ks→ks[i]? = some y→goodI y
 | [],y,i,_,h=>by simp at h
 | x::ks,y,0,h,hy=>by
  rw[goodL] at h
  obtain rfl:x=y:=by simpa using hy
  exact h.1
 | x::ks,y,i+1,h,hy=>by
  rw[goodL] at h
  exact goodL_get i h.2 (by simpa using hy)
theorem lvlL_lei:∀ (ks:List Item) (m B:Int),lvlL ks m≤B↔m≤B∧∀ t∈ks,lvlI t≤B
 | [],m,B=>by rw[lvlL];simp
 | x::ks,m,B=>by
  rw[lvlL]
  split
  ·rw[lvlL_lei ks _ B]
   simp only[List.mem_cons,forall_eq_or_imp]
   constructor
   ·rintro⟨h1,h2⟩;exact⟨by omega,h1,h2⟩
   ·rintro⟨h1,h2,h3⟩;exact⟨h2,h3⟩
  ·rw[lvlL_lei ks _ B]
   simp only[List.mem_cons,forall_eq_or_imp]
   constructor
   ·rintro⟨h1,h2⟩;exact⟨h1,by omega,h2⟩
   ·rintro⟨h1,h2,h3⟩;exact⟨h1,h3⟩
def isDig (c:UInt8):Bool:=decide (48≤c.toNat)&&decide (c.toNat≤57)
def digRun (bs:List UInt8):Nat→Nat→Nat→Nat×Nat
 | 0,pos,n=>(pos,n)
 | k+1,pos,n=>match bs[pos]? with
  | none=>(pos,n)
  | some c=>if isDig c=true then digRun bs k (pos+1) (min (10*n+(c.toNat-48)) 1099511627777) else (pos,n)
def rdDec (bs:List UInt8) (most:Nat) (zero:Int) (pos items:Nat):Rd Nat:=
 if (digRun bs (bs.length-pos) pos 0).1=pos∨(bs[pos]? = some 48∧pos+1<(digRun bs (bs.length-pos) pos 0).1) then .bad pos 4
 else if most<(digRun bs (bs.length-pos) pos 0).2 then .bad pos 3
 else if (digRun bs (bs.length-pos) pos 0).2=0 then .bad pos zero
 else .ok (digRun bs (bs.length-pos) pos 0).2 (digRun bs (bs.length-pos) pos 0).1 items
def valB (c:UInt8):Option Nat:=if isDig c=true then some (c.toNat-48) else if 97≤c.toNat∧c.toNat≤102 then some (c.toNat-87) else none
def rdHid (bs:List UInt8) (pos:Nat):Rd UInt8:=
 match bs[pos]? with
 | none=>.bad bs.length 4
 | some c1=>match valB c1 with
  | none=>.bad (pos-1) 4
  | some a=>match bs[pos+1]? with
   | none=>.bad bs.length 4
   | some c2=>match valB c2 with
    | none=>.bad (pos-1) 4
    | some b=>if plainB (UInt8.ofNat (a*16+b))=true then .bad (pos-1) 4 else .ok (UInt8.ofNat (a*16+b)) (pos+2) 0
def quoRun (bs:List UInt8):Nat→Nat→List UInt8→Rd (List UInt8)
 | 0,pos,_=>.bad pos 4
 | k+1,pos,acc=>match bs[pos]? with
  | none=>.bad pos 4
  | some c=>
   if c=34 then .ok acc (pos+1) 0
   else if c=92 then match rdHid bs (pos+1) with
    | .bad p e=>.bad p e
    | .ok x p _=>quoRun bs k p (acc++[x])
   else if plainB c=true then quoRun bs k (pos+1) (acc++[c])
   else .bad pos 4
def rdQuo (bs:List UInt8) (pos items:Nat):Rd ByteArray:=
 match quoRun bs (bs.length+1-pos) pos [] with
 | .bad p e=>.bad p e
 | .ok acc p _=>if acc=[] then .bad (pos-1) 4 else if 4096<acc.length then .bad (pos-1) 11 else .ok ⟨⟨acc⟩⟩ p items
def rdPK (bs:List UInt8) (rec:Nat→Nat→Rd Item):Nat→List Item→Nat→Nat→Rd (List Item)
 | 0,_,pos,_=>.bad pos 4
 | k+1,acc,pos,items=>match rec pos items with
  | .bad p e=>.bad p e
  | .ok t p it=>
   if bs[p]? = some 41 then .ok (acc++[t]) (p+1) it
   else if bs[p]? = some 32 then rdPK bs rec k (acc++[t]) (p+1) it
   else .bad p 4
def rdPI (bs:List UInt8):Nat→Nat→Nat→Rd Item
 | 0,pos,_=>.bad pos 11
 | f+1,pos,items=>
  if 5000≤items then .bad pos 2
  else match rdDec bs 63 3 pos (items+1) with
   | .bad p e=>.bad p e
   | .ok k p it=>match (if bs[p]? = some 58 then rdDec bs 1099511627776 4 (p+1) it else .ok 0 p it) with
    | .bad p e=>.bad p e
    | .ok m p it=>match (if bs[p]? = some 34 then rdQuo bs (p+1) it else .ok ⟨⟨[]⟩⟩ p it) with
     | .bad p e=>.bad p e
     | .ok tx p it=>
      if bs[p]? = some 40 then match rdPK bs (rdPI bs f) (bs.length+1) [] (p+1) it with
       | .bad p e=>.bad p e
       | .ok ks p it=>.ok (.mk (k:Nat) (m:Nat) tx ks) p it
      else .ok (.mk (k:Nat) (m:Nat) tx []) p it
def prsR (bs:List UInt8):Rd Item:=
 if 65536<bs.length then .bad 0 11
 else match rdPI bs 250 0 0 with
  | .bad p e=>.bad p e
  | .ok t p items=>if p<bs.length then .bad p 4 else .ok t p items
/-! ### What is so of what is read -/
theorem digRun_pos {bs:List UInt8}:∀ (k pos n:Nat),pos≤bs.length→pos≤(digRun bs k pos n).1∧(digRun bs k pos n).1≤bs.length∧(n≤1099511627777→(digRun bs k pos n).2≤1099511627777)
 | 0,pos,n,h=>⟨Nat.le_refl _,h,fun h=>h⟩
 | k+1,pos,n,h=>by
  rw[digRun]
  split
  ·exact⟨Nat.le_refl _,h,fun h=>h⟩
  ·next c hc=>
   have hlt:=(List.getElem?_eq_some_iff.1 hc).1
   split
   ·obtain⟨h1,h2,h3⟩:=digRun_pos (bs:=bs) k (pos+1) (min (10*n+(c.toNat-48)) 1099511627777) (by omega)
    exact⟨by omega,h2,fun _=>h3 (by omega)⟩
   ·exact⟨Nat.le_refl _,h,fun h=>h⟩
theorem rdDec_ok {bs:List UInt8} {most:Nat} {zero:Int} {pos items v p it:Nat} (h:rdDec bs most zero pos items=.ok v p it) (hp:pos≤bs.length):pos<p∧p≤bs.length∧1≤v∧v≤most∧it=items:=by
 unfold rdDec at h
 obtain⟨h1,h2,_⟩:=digRun_pos (bs:=bs) (bs.length-pos) pos 0 hp
 split at h
 ·cases h
 ·next hc=>
  split at h
  ·cases h
  ·split at h
   ·cases h
   ·cases h
    exact⟨by omega,h2,by omega,by omega,rfl⟩
theorem rdDec_bad {bs:List UInt8} {most:Nat} {zero:Int} {pos items p:Nat} {e:Int} (h:rdDec bs most zero pos items=.bad p e) (hp:pos≤bs.length) (hz:zero=3∨zero=4):p=pos∧(e=3∨e=4):=by
 unfold rdDec at h
 split at h
 ·cases h;exact⟨rfl,.inr rfl⟩
 ·split at h
  ·cases h;exact⟨rfl,.inl rfl⟩
  ·split at h
   ·cases h;exact⟨rfl,hz⟩
   ·cases h
theorem rdHid_ok {bs:List UInt8} {pos p it:Nat} {x:UInt8} (h:rdHid bs pos=.ok x p it):p=pos+2∧p≤bs.length:=by
 unfold rdHid at h
 split at h
 ·cases h
 ·split at h
  ·cases h
  ·split at h
   ·cases h
   ·next c2 hc2=>
    have:=(List.getElem?_eq_some_iff.1 hc2).1
    split at h
    ·cases h
    ·split at h
     ·cases h
     ·cases h;exact⟨rfl,by omega⟩
theorem rdHid_bad {bs:List UInt8} {pos p:Nat} {e:Int} (h:rdHid bs pos=.bad p e) (hp:pos≤bs.length):p≤bs.length∧e=4:=by
 unfold rdHid at h
 split at h
 ·cases h;exact⟨Nat.le_refl _,rfl⟩
 ·split at h
  ·cases h;exact⟨by omega,rfl⟩
  ·split at h
   ·cases h;exact⟨Nat.le_refl _,rfl⟩
   ·split at h
    ·cases h;exact⟨by omega,rfl⟩
    ·split at h
     ·cases h;exact⟨by omega,rfl⟩
     ·cases h
theorem quoRun_ok {bs:List UInt8}:∀ (k pos:Nat) (acc l:List UInt8) (p it:Nat),quoRun bs k pos acc=.ok l p it→pos<p∧p≤bs.length∧l.length≤acc.length+(p-pos)
 | 0,_,_,_,_,_,h=>by cases h
 | k+1,pos,acc,l,p,it,h=>by
  rw[quoRun] at h
  split at h
  ·cases h
  ·next c hc=>
   have hlt:=(List.getElem?_eq_some_iff.1 hc).1
   split at h
   ·cases h;exact⟨by omega,by omega,by omega⟩
   ·split at h
    ·split at h
     ·cases h
     ·next x p' it' hx=>
      obtain⟨h1,h2⟩:=rdHid_ok hx
      obtain⟨h3,h4,h5⟩:=quoRun_ok k _ _ _ _ _ h
      rw[List.length_append,List.length_singleton] at h5
      exact⟨by omega,h4,by omega⟩
    ·split at h
     ·obtain⟨h3,h4,h5⟩:=quoRun_ok k _ _ _ _ _ h
      rw[List.length_append,List.length_singleton] at h5
      exact⟨by omega,h4,by omega⟩
     ·cases h
theorem quoRun_bad {bs:List UInt8}:∀ (k pos:Nat) (acc:List UInt8) (p:Nat) (e:Int),quoRun bs k pos acc=.bad p e→pos≤bs.length→p≤bs.length∧e=4
 | 0,_,_,_,_,h,hp=>by cases h;exact⟨hp,rfl⟩
 | k+1,pos,acc,p,e,h,hp=>by
  rw[quoRun] at h
  split at h
  ·cases h;exact⟨hp,rfl⟩
  ·next c hc=>
   have hlt:=(List.getElem?_eq_some_iff.1 hc).1
   split at h
   ·cases h
   ·split at h
    ·split at h
     ·next hx=>cases h;exact rdHid_bad hx (by omega)
     ·next x p' it' hx=>
      obtain⟨h1,h2⟩:=rdHid_ok hx
      exact quoRun_bad k _ _ _ _ h h2
    ·split at h
     ·exact quoRun_bad k _ _ _ _ h (by omega)
     ·cases h;exact⟨hp,rfl⟩
theorem rdQuo_ok {bs:List UInt8} {pos items p it:Nat} {x:ByteArray} (h:rdQuo bs pos items=.ok x p it):pos<p∧p≤bs.length∧it=items∧∃ l,x=⟨⟨l⟩⟩∧l≠[]∧l.length≤4096∧quoRun bs (bs.length+1-pos) pos []=.ok l p 0:=by
 unfold rdQuo at h
 split at h
 ·cases h
 ·next acc p' it' hq=>
  have h1:=quoRun_ok _ _ _ _ _ _ hq
  have hit:∀ (k pos:Nat) (acc l:List UInt8) (p it:Nat),quoRun bs k pos acc=.ok l p it→it=0:=by
   intro k
   induction k with
   | zero=>intro _ _ _ _ _ h;cases h
   | succ k ih=>
    intro pos acc l p it h
    rw[quoRun] at h
    split at h
    ·cases h
    ·split at h
     ·cases h;rfl
     ·split at h
      ·split at h
       ·cases h
       ·exact ih _ _ _ _ _ h
      ·split at h
       ·exact ih _ _ _ _ _ h
       ·cases h
  have hi:=hit _ _ _ _ _ _ hq
  subst hi
  split at h
  ·cases h
  ·next hne=>
   split at h
   ·cases h
   ·next hlen=>
    cases h
    exact⟨h1.1,h1.2.1,rfl,acc,rfl,hne,by omega,hq⟩
theorem rdQuo_bad {bs:List UInt8} {pos items p:Nat} {e:Int} (h:rdQuo bs pos items=.bad p e) (hp:pos≤bs.length):p≤bs.length∧(e=4∨e=11):=by
 unfold rdQuo at h
 split at h
 ·next hq=>
  cases h
  obtain⟨h1,h2⟩:=quoRun_bad _ _ _ _ _ hq hp
  exact⟨h1,.inl h2⟩
 ·split at h
  ·cases h;exact⟨by omega,.inl rfl⟩
  ·split at h
   ·cases h;exact⟨by omega,.inr rfl⟩
   ·cases h
def PGood (bs:List UInt8) (f pos items:Nat):Rd Item→Prop
 | .ok t p it=>pos<p∧p≤bs.length∧goodI t∧lvlI t≤f∧it=items+isz t∧it≤5000
 | .bad p e=>p≤bs.length∧e≠0
theorem rdPK_good {bs:List UInt8} {f:Nat} {rec:Nat→Nat→Rd Item} (hr:∀ pos items,pos≤bs.length→items≤5000→PGood bs f pos items (rec pos items)) :
  ∀ (k:Nat) (acc:List Item) (pos items:Nat),pos≤bs.length→items≤5000→goodL acc→(∀ t∈acc,lvlI t≤f)→match rdPK bs rec k acc pos items with
   | .ok l p it=>pos<p∧p≤bs.length∧goodL l∧(∀ t∈l,lvlI t≤f)∧it+iszL acc=items+iszL l∧it≤5000∧l≠[]
   | .bad p e=>p≤bs.length∧e≠0
 | 0,acc,pos,items,hp,hi,_,_=>⟨hp,by decide⟩
 | k+1,acc,pos,items,hp,hi,ga,la=>by
  have h1:=hr pos items hp hi
  rw[rdPK]
  cases hq:rec pos items with
  | bad p e=>rw[hq] at h1;exact h1
  | ok t p it=>
   rw[hq] at h1
   obtain⟨e1,e2,e3,e4,e5,e6⟩:=h1
   have ga':=goodL_append ga e3
   have la':∀ u∈acc++[t],lvlI u≤f:=fun u hu=>by
    rcases List.mem_append.1 hu with h|h
    ·exact la u h
    ·rw[List.mem_singleton.1 h];exact e4
   have hs:=iszL_append acc t
   simp only
   by_cases c1:bs[p]? = some 41
   ·rw[if_pos c1]
    have:=(List.getElem?_eq_some_iff.1 c1).1
    exact⟨by omega,by omega,ga',la',by omega,e6,by simp⟩
   ·rw[if_neg c1]
    by_cases c2:bs[p]? = some 32
    ·rw[if_pos c2]
     have hlt:=(List.getElem?_eq_some_iff.1 c2).1
     have:=rdPK_good hr k (acc++[t]) (p+1) it (by omega) e6 ga' la'
     split at this
     ·obtain⟨f1,f2,f3,f4,f5,f6⟩:=this
      exact⟨by omega,f2,f3,f4,by omega,f6⟩
     ·exact this
    ·rw[if_neg c2]
     exact⟨e2,by decide⟩
theorem rdPI_good {bs:List UInt8}:∀ (f pos items:Nat),pos≤bs.length→items≤5000→PGood bs f pos items (rdPI bs f pos items)
 | 0,pos,items,hp,hi=>⟨hp,by decide⟩
 | f+1,pos,items,hp,hi=>by
  rw[rdPI]
  by_cases c0:5000≤items
  ·rw[if_pos c0];exact⟨hp,by decide⟩
  rw[if_neg c0]
  cases h1:rdDec bs 63 3 pos (items+1) with
  | bad p e=>
   obtain⟨rfl,he⟩:=rdDec_bad h1 hp (.inl rfl)
   exact⟨hp,by rcases he with rfl|rfl<;>decide⟩
  | ok k p it=>
   obtain⟨a1,a2,a3,a4,rfl⟩:=rdDec_ok h1 hp
   simp only
   have hm:∀ r,(if bs[p]? = some 58 then rdDec bs 1099511627776 4 (p+1) (items+1) else .ok 0 p (items+1))=r→match r with
     | .ok m p' it'=>p≤p'∧p'≤bs.length∧m≤1099511627776∧it'=items+1
     | .bad p' e=>p'≤bs.length∧e≠0:=by
    rintro r rfl
    by_cases c:bs[p]? = some 58
    ·rw[if_pos c]
     have hlt:=(List.getElem?_eq_some_iff.1 c).1
     cases h2:rdDec bs 1099511627776 4 (p+1) (items+1) with
     | bad p' e=>
      obtain⟨rfl,he⟩:=rdDec_bad h2 (by omega) (.inr rfl)
      exact⟨by omega,by rcases he with rfl|rfl<;>decide⟩
     | ok m p' it'=>
      obtain⟨b1,b2,b3,b4,rfl⟩:=rdDec_ok h2 (by omega)
      exact⟨by omega,b2,b4,rfl⟩
    ·rw[if_neg c];exact⟨Nat.le_refl _,a2,by decide,rfl⟩
   generalize (if bs[p]? = some 58 then rdDec bs 1099511627776 4 (p+1) (items+1) else .ok 0 p (items+1))=r at hm ⊢
   have hm:=hm r rfl
   cases r with
   | bad p' e=>exact hm
   | ok m p2 it2=>
    obtain⟨b1,b2,b3,rfl⟩:=hm
    simp only
    have ht:∀ r,(if bs[p2]? = some 34 then rdQuo bs (p2+1) (items+1) else .ok ⟨⟨[]⟩⟩ p2 (items+1))=r→match r with
      | .ok tx p' it'=>p2≤p'∧p'≤bs.length∧tx.data.toList.length≤4096∧it'=items+1
      | .bad p' e=>p'≤bs.length∧e≠0:=by
     rintro r rfl
     by_cases c:bs[p2]? = some 34
     ·rw[if_pos c]
      have hlt:=(List.getElem?_eq_some_iff.1 c).1
      cases h2:rdQuo bs (p2+1) (items+1) with
      | bad p' e=>
       obtain⟨h3,he⟩:=rdQuo_bad h2 (by omega)
       exact⟨h3,by rcases he with rfl|rfl<;>decide⟩
      | ok tx p' it'=>
       obtain⟨c1,c2,rfl,l,rfl,_,c4,_⟩:=rdQuo_ok h2
       exact⟨by omega,c2,c4,rfl⟩
     ·rw[if_neg c];exact⟨Nat.le_refl _,b2,by decide,rfl⟩
    generalize (if bs[p2]? = some 34 then rdQuo bs (p2+1) (items+1) else .ok ⟨⟨[]⟩⟩ p2 (items+1))=r at ht ⊢
    have ht:=ht r rfl
    cases r with
    | bad p' e=>exact ht
    | ok tx p3 it3=>
     obtain⟨c1,c2,c3,rfl⟩:=ht
     simp only
     by_cases c:bs[p3]? = some 40
     ·rw[if_pos c]
      have hlt:=(List.getElem?_eq_some_iff.1 c).1
      have hk:=rdPK_good (bs:=bs) (f:=f) (fun pos items h1 h2=>rdPI_good f pos items h1 h2) (bs.length+1) [] (p3+1) (items+1) (by omega) (by omega) (by rw[goodL];trivial) (fun _ h=>by cases h)
      cases h2:rdPK bs (rdPI bs f) (bs.length+1) [] (p3+1) (items+1) with
      | bad p' e=>rw[h2] at hk;exact hk
      | ok ks p' it'=>
       rw[h2] at hk
       obtain⟨k1,k2,k3,k4,k5,k6,k7⟩:=hk
       rw[iszL] at k5
       refine⟨by omega,k2,?_,?_,by rw[isz];omega,k6⟩
       ·rw[goodI];exact⟨by omega,by omega,by omega,by omega,c3,k3⟩
       ·rw[lvlI]
        have:=(lvlL_lei ks 0 f).2 ⟨by omega,k4⟩
        push_cast
        omega
     ·rw[if_neg c]
      refine⟨by omega,c2,?_,?_,by rw[isz,iszL],by omega⟩
      ·rw[goodI];exact⟨by omega,by omega,by omega,by omega,c3,by rw[goodL];trivial⟩
      ·rw[lvlI,lvlL];push_cast;omega
variable {D:Tab} {E:Env}
theorem RO.skipU {v:Ev} {ops:Array Oper} {o:Oper} {rest:List Oper} {A:Ac} {h:H} {res:Option (Ac×H)} {j:Nat} {w:Bool} {d:Tmp} (hg:o.guard=some (j,w)) (hd:(ops[j]?).bind (·.dst)=some d) (hv:A.get d=undef) (r:runOps D E v ops rest (A.put o.dst undef) h=res):runOps D E v ops (o::rest) A h=res:=by
 refine RO.skip ?_ r
 unfold awant
 rw[hg]
 simp only[ayield_get,hd,hv]
 cases w<;>rfl
theorem Wc.label {I:Known} {F:Fx} {l:Nat} {A:Ac} {h:H} {Q:Ex→Ac→H→Prop} (hq:Q .normal A h):Wc D E I F (.label l) A h Q:=⟨1,_,A,h,rfl,hq⟩
theorem Aps.keepP {base:Nat} {g q:H} (a:Aps base g q) {k:Nat} {B:Blk} (hk:g.blk k=some B) (hp:B.plain=true):q.blk k=some B:=by
 obtain⟨_,_,t⟩:=a
 exact t.keep k B hk (fun _ _ _ _ he=>by subst he;cases hp)
theorem apx_step {D:Tab} {E:Env} {h:H} {base:Nat} {t t2 e:TypeId} {sz by_ n m i6 i7:Nat} {i8:Option Value} {i9 b0:Bool} {s ze x:Value} {xs cs:List Value} {ro:Option Nat} (f:Fit h) (hbn:base≤h.next) (ap:Ap3 h base e sz s n xs ro)
  (ht:D.ty.get t=some ⟨.slice e sz by_,i6,i7,i8,i9⟩) (hz:tzero D e=some ze) (hzz:(Nat.beq ze.cells.toList.length sz&&Nat.blt 0 sz&&ze.cells.toList.all isOne)=true) (hzt:zeroArg D t2 x=some b0)
  (hel:aelems E sz ze.cells.toList x h=some (m+1,cs)) (hcl:cs.length=(m+1)*sz) (hc1:cs.all isOne=true) (hrm:roomy (n+(m+1)) by_=true) :
  ∃ s' h' ro',aappend D E t t2 s x h=some (s',h')∧Ap2 h' base e sz s' (n+(m+1)) (xs++cs) ro'∧Gk ro h h'∧(ro=none∧ro'=some h.next∨ro≠none∧ro'=ro)∧(∀ r,ro'=some r→∀ j∈h'.chain r,j=h.next∨ro=some r∧j∈h.chain r):=by
 have hbl:Nat.beq cs.length ((m+1)*sz)=true:=by rw[hcl];exact Nat.beq_refl _
 rcases ap with (⟨rfl,rfl,rfl,rfl⟩|⟨k,r,rfl,hb,hl,h1,hbr,hrx,hch,rfl⟩)|⟨k,rfl,hb,hl,h1,rfl⟩
 ·rw[Nat.zero_add] at hrm ⊢
  refine⟨.slice (some (own h.next)) (m+1) (m+1),h.newOpen cs e,some h.next,?_,.inr ⟨h.next,h.next,rfl,newOpen_new,?_,?_,hbn,Nat.lt_succ_self _,?_,rfl⟩,(Ahd.newOpen f _ _).gk,.inl ⟨rfl,rfl⟩,fun r hr j hj => ?_⟩
  ·unfold aappend
   rw[ht]
   simp only[hz,hzt,hzz,hel,hbl,hrm]
  ·rw[List.nil_append];exact hcl
  ·rw[List.nil_append];exact hc1
  ·intro j hj
   simp only[H.chain,H.newOpen,T.get_set_same,Option.getD,List.mem_singleton] at hj
   subst hj
   exact⟨cs,e,0,T.get_set_same _ _ _,by rw[Nat.zero_add,hcl];exact Nat.le_refl _⟩
  ·cases hr
   simp only[H.chain,H.newOpen,T.get_set_same,Option.getD,List.mem_singleton] at hj
   exact .inl hj
 ·have hkn:=f.lt hb
  have hd:=H.blk_dyn hb
  have hrn:=f.ok.1 _ _ _ _ _ hd
  have nohit:∀ j∈h.chain r,h.hits k (0+n*sz) (0+n*sz+cs.length) j=false:=by
   intro j hj
   obtain⟨ys,ty,p,hd,hle⟩:=hch j hj
   unfold H.hits
   split
   ·rfl
   ·rw[hd]
    have:Nat.blt (0+n*sz) (p+ys.length)=false:=by
     cases hq:Nat.blt (0+n*sz) (p+ys.length)
     ·rfl
     ·rw[Nat.blt_eq] at hq;omega
    simp only[this,Bool.false_and]
  have hgr:h.grow e r (0+(own k).off) (n*sz) (own k).block (xs.drop (own k).off) cs={ h with next:=h.next+1,dyn:=h.dyn.set h.next (.cells (xs++cs) e (some (r,0))),chains:=h.chains.set r (h.next::h.spare r k (0+n*sz) (0+n*sz+cs.length)) }:=by
   unfold H.grow
   simp only[own,Nat.add_zero,List.drop_zero]
   have hgone:h.gone r k (0+n*sz) (0+n*sz+cs.length)=[]:=by
    rw[List.eq_nil_iff_forall_not_mem]
    intro j hj
    obtain⟨hj1,hj2⟩:=mem_gone.1 hj
    rw[nohit j hj1] at hj2
    cases hj2
   rw[hgone]
   exact note_nil _
  generalize hg:({ h with next:=h.next+1,dyn:=h.dyn.set h.next (.cells (xs++cs) e (some (r,0))),chains:=h.chains.set r (h.next::h.spare r k (0+n*sz) (0+n*sz+cs.length)) }:H)=g at hgr
  have hcr:g.chain r=h.next::h.spare r k (0+n*sz) (0+n*sz+cs.length):=by
   rw[← hg];simp only[H.chain,T.get_set_same,Option.getD]
  have hcn:∀ r',r'≠r→g.chain r'=h.chain r':=by
   intro r' hr'
   rw[← hg];simp only[H.chain];rw[T.get_set_ne _ _ _ _ hr']
  have hgn:g.next=h.next+1:=by rw[← hg]
  have hnew:g.blk h.next=some (.cells (xs++cs) e (some (r,0))):=by
   have hdd:g.dyn.get h.next=some (.cells (xs++cs) e (some (r,0))):=by rw[← hg];exact T.get_set_same _ _ _
   unfold H.blk
   rw[hdd]
   simp only[hcr,List.contains_cons,beq_self_eq_true,Bool.true_or]
  have hold:∀ j,j≠h.next→g.dyn.get j=h.dyn.get j:=by
   intro j hj
   rw[← hg];exact T.get_set_ne _ _ _ _ hj
  refine⟨.slice (some (own h.next)) (n+(m+1)) (n+(m+1)),g,some r,?_,.inr ⟨h.next,r,rfl,hnew,?_,?_,hbr,by rw[hgn];omega,?_,rfl⟩,⟨⟨fun j hj => ?_,fun j ys ty r' p hd' => ?_,?_⟩,?_,?_,?_,?_,fun r' _ hr'=>hcn r' (fun e=>hr' (by rw[e]))⟩,.inr ⟨by simp,rfl⟩,fun r' hr j hj => ?_⟩
  ·unfold aappend
   rw[ht]
   simp only[hz,hzt,hzz,hel,hbl,hrm]
   have e1:(own k).spot=some 0:=rfl
   have e2:(own k).block=k:=rfl
   have e3:(own k).off=0:=rfl
   have e4:Nat.ble (n+(m+1)) n=false:=by
    cases hq:Nat.ble (n+(m+1)) n
    ·rfl
    ·rw[Nat.ble_eq] at hq;omega
   simp only[e1,e2,hb,e4]
   have e5:(Nat.beq n n&&Nat.beq ((own k).off+n*sz) xs.length&&Nat.beq e e&&(xs.drop (own k).off).all isOne&&Nat.ble (own k).off xs.length)=true:=by
    rw[e3,Nat.zero_add,hl,List.drop_zero,h1,Nat.beq_refl,Nat.beq_refl,Nat.beq_refl]
    simp[Nat.ble]
   simp only[e5]
   rw[← hgr];rfl
  ·rw[List.length_append,hl,hcl,← Nat.add_mul]
  ·rw[List.all_append,h1,hc1];rfl
  ·intro j hj
   rw[hcr] at hj
   rcases List.mem_cons.1 hj with rfl|hj
   ·exact⟨xs++cs,e,0,H.blk_dyn hnew,by rw[List.length_append,hl,hcl,Nat.add_mul n];omega⟩
   ·obtain⟨ys,ty,p,hd,hle⟩:=hch j (mem_spare.1 hj).1
    have hjn:j≠h.next:=by
     intro e
     subst e
     rw[f.free _ (Nat.le_refl _)] at hd;cases hd
    refine⟨ys,ty,p,by rw[hold j hjn];exact hd,?_⟩
    rw[Nat.add_mul n];omega
  ·rw[hgn] at hj
   rw[hold j (by omega)];exact f.free j (by omega)
  ·rw[hgn]
   by_cases hj:j=h.next
   ·subst hj
    have:=H.blk_dyn hnew
    rw[this] at hd'; cases hd'; omega
   ·rw[hold j hj] at hd'
    have:=f.ok.1 _ _ _ _ _ hd'; omega
  ·rw[hgn]
   have:=f.ok.2
   rw[← hg];exact Nat.le_succ_of_le this
  ·intro j B hB
   have hjn:=f.lt hB
   rw[← hB]
   refine blk_congr (hold j (by omega)) (fun ys u r' q hd' => ?_)
   by_cases hrr:r'=r
   ·subst hrr
    rw[hcr]
    constructor
    ·intro hj
     rcases List.mem_cons.1 hj with rfl|hj
     ·omega
     ·exact (mem_spare.1 hj).1
    ·intro hj
     exact List.mem_cons_of_mem _ (mem_spare.2 ⟨hj,nohit j hj⟩)
   ·rw[hcn r' hrr]
  ·rw[← hg]
  ·rw[← hg]
  ·rw[hgn];omega
  ·cases hr
   rw[hcr] at hj
   rcases List.mem_cons.1 hj with rfl|hj
   ·exact .inl rfl
   ·exact .inr ⟨rfl,(mem_spare.1 hj).1⟩
 ·refine⟨.slice (some (own h.next)) (n+(m+1)) (n+(m+1)),h.newOpen (xs++cs) e,some h.next,?_,.inr ⟨h.next,h.next,rfl,newOpen_new,?_,?_,hbn,Nat.lt_succ_self _,?_,rfl⟩,(Ahd.newOpen f _ _).gk,.inl ⟨rfl,rfl⟩,fun r hr j hj => ?_⟩
  ·unfold aappend
   rw[ht]
   simp only[hz,hzt,hzz,hel,hbl,hrm]
   have q1:(own k).spot=some 0:=rfl
   have q2:(own k).block=k:=rfl
   have q4:Nat.ble (n+(m+1)) n=false:=by
    cases hq:Nat.ble (n+(m+1)) n
    ·rfl
    ·rw[Nat.ble_eq] at hq;omega
   have q6:h.cells E (own k) (n*sz)=some xs:=blk_cells hb hl h1
   simp only[q1,q2,hb,q4,q6]
  ·rw[List.length_append,hl,hcl,← Nat.add_mul]
  ·rw[List.all_append,h1,hc1];rfl
  ·intro j hj
   simp only[H.chain,H.newOpen,T.get_set_same,Option.getD,List.mem_singleton] at hj
   subst hj
   exact⟨xs++cs,e,0,T.get_set_same _ _ _,by rw[Nat.zero_add,List.length_append,hl,hcl,← Nat.add_mul];exact Nat.le_refl _⟩
  ·cases hr
   simp only[H.chain,H.newOpen,T.get_set_same,Option.getD,List.mem_singleton] at hj
   exact .inl hj
theorem apx_zero {D:Tab} {E:Env} {h:H} {base:Nat} {t t2 e:TypeId} {sz by_ n i6 i7:Nat} {i8:Option Value} {i9 b0:Bool} {s ze x:Value} {xs:List Value} {ro:Option Nat} (ap:Ap3 h base e sz s n xs ro)
  (ht:D.ty.get t=some ⟨.slice e sz by_,i6,i7,i8,i9⟩) (hz:tzero D e=some ze) (hzz:(Nat.beq ze.cells.toList.length sz&&Nat.blt 0 sz&&ze.cells.toList.all isOne)=true) (hzt:zeroArg D t2 x=some b0)
  (hel:aelems E sz ze.cells.toList x h=some (0,[])):aappend D E t t2 s x h=some (s,h):=by
 have hb0:Nat.beq ([]:List Value).length (0*sz)=true:=by rw[Nat.zero_mul];rfl
 unfold aappend
 rw[ht]
 simp only[hz,hzt,hzz,hel,hb0]
 rcases ap with (⟨rfl,_,rfl,_⟩|⟨k,r,rfl,_⟩)|⟨k,rfl,_⟩
 ·rfl
 ·simp only[Nat.ble_self_eq_true]
 ·simp only[Nat.ble_self_eq_true]
def Bld (tb kB base:Nat) (g:H) (bs:List UInt8):Prop:=∃ p s ro,g.blk kB=some (.cells [p,s] tb none)∧(p=.pointer none∨p=.pointer (some (own kB)))∧Ap2 g base 5 1 s bs.length (bytesV bs) ro∧∀ r,ro=some r→∀ j∈g.chain r,base≤j
theorem Bld.ahd {tb kB base:Nat} {g g':H} {bs:List UInt8} (b:Bld tb kB base g bs) (f:Fit g) (a:Ahd g g'):Bld tb kB base g' bs:=by
 obtain⟨p,s,ro,h1,h2,h3,h4⟩:=b
 exact⟨p,s,ro,a.grows _ _ h1,h2,h3.mod (M:=fun _=>False) a.mod (fun _ _ h=>h.elim),fun r hr j hj=>h4 r hr j (by rw[← a.chain r (ap2_root h3 r hr).2];exact hj)⟩
theorem bld_step {D:Tab} {E:Env} {tb kB base:Nat} {g:H} {bs cs:List UInt8} {t t2 by_ i6 i7:Nat} {i8:Option Value} {i9 b0:Bool} {ze x p s:Value} {ro:Option Nat} (f:Fit g) (hbn:base≤g.next) (hb:g.blk kB=some (.cells [p,s] tb none)) (htb:tb≠5) (ap:Ap2 g base 5 1 s bs.length (bytesV bs) ro) (hch:∀ r,ro=some r→∀ j∈g.chain r,base≤j)
  (ht:D.ty.get t=some ⟨.slice 5 1 by_,i6,i7,i8,i9⟩) (hz:tzero D 5=some ze) (hzz:(Nat.beq ze.cells.toList.length 1&&Nat.blt 0 1&&ze.cells.toList.all isOne)=true) (hzt:zeroArg D t2 x=some b0)
  (hel:aelems E 1 ze.cells.toList x g=some (cs.length,bytesV cs)) (hrm:roomy (bs.length+cs.length) by_=true) :
  ∃ s' g',aappend D E t t2 s x g=some (s',g')∧isOne s'=true∧s'.cells.toList=[s']∧Fit g'∧Grows g g'∧g'.log=g.log∧g'.mark=g.mark∧g.next≤g'.next∧(∀ r,r<base→g'.chain r=g.chain r)∧∃ ro',Ap2 g' base 5 1 s' (bs++cs).length (bytesV (bs++cs)) ro'∧∀ r,ro'=some r→∀ j∈g'.chain r,base≤j:=by
 have hs:isOne s=true∧s.cells.toList=[s]:=by
  rcases (show Ap3 g base 5 1 s _ _ ro from .inl ap).get with⟨_,_,rfl⟩|⟨_,_,rfl,_⟩<;>exact⟨rfl,rfl⟩
 obtain⟨l,hl⟩:∃ l,cs.length=l:=⟨_,rfl⟩
 cases l with
 | zero=>
  obtain rfl:=List.length_eq_zero_iff.1 hl
  refine⟨s,g,apx_zero (.inl ap) ht hz hzz hzt hel,hs.1,hs.2,f,fun _ _ h=>h,rfl,rfl,Nat.le_refl _,fun _ _=>rfl,ro,?_,hch⟩
  rw[List.append_nil];exact ap
 | succ m=>
  rw[hl] at hel hrm
  obtain⟨s',g',ro',happ,ap2,gk,_,hcc⟩:=apx_step f hbn (.inl ap) ht hz hzz hzt hel (by rw[bytesV_length,hl,Nat.mul_one]) (bytesV_one cs) hrm
  have hs':isOne s'=true∧s'.cells.toList=[s']:=by
   rcases (show Ap3 g' base 5 1 s' _ _ ro' from .inl ap2).get with⟨h1,_⟩|⟨_,_,rfl,_⟩
   ·omega
   ·exact⟨rfl,rfl⟩
  refine⟨s',g',happ,hs'.1,hs'.2,gk.fit,gk.grows,gk.log,gk.mark,gk.next,fun r hr=>gk.chain r (by omega) (fun e => ?_),ro',?_,fun r hr j hj => ?_⟩
  ·have:=(ap2_root ap r e).1
   omega
  ·rw[List.length_append,hl,bytesV_append];exact ap2
  ·rcases hcc r hr j hj with rfl|⟨e1,e2⟩
   ·exact hbn
   ·exact hch r e1 j e2
theorem ap2_setl {g:H} {kO base sz n:Nat} {e ty ty':TypeId} {s:Value} {xs ys zs:List Value} {ro:Option Nat} (fg:Fit g) (hb:g.blk kO=some (.cells xs ty none)) (a:Ap2 g base e sz s n ys ro):Ap2 (g.setl kO (.cells zs ty' none)) base e sz s n ys ro:=by
 have m:Mod (fun k=>k=kO) g (g.setl kO (.cells zs ty' none)):=(Mod.refl fg).setl rfl rfl (fg.lt hb)
 exact a.mod m (fun k B hk hB=>by subst hk;rw[hb] at hB;cases hB;rfl)
structure Xo (b:Nat) (e:TypeId) (kO:Nat) (rt:Option Nat) (h g:H):Prop where
 fit:Fit g
 keep:∀ k B,k≠kO→h.blk k=some B→g.blk k=some B
 log:∀ j∈g.log,j∈h.log∨(j=kO∧kO<h.mark)
 mark:g.mark=h.mark
 next:h.next≤g.next
 chain:∀ r,r<b→g.chain r=h.chain r
 ok:∀ r,rt=some r→∀ P,ChainOk b e h r P→ChainOk b e g r (fun j l=>P j l∨h.next≤j)
variable {b:Nat} {e:TypeId} {kO:Nat} {rt rt':Option Nat} {h g f:H}
theorem Ahd.xo (a:Ahd h g) (hb:b≤h.next) (hr:∀ r,rt=some r→r<h.next):Xo b e kO rt h g:=
 ⟨a.fit,fun k B _ hB=>a.grows k B hB,fun j hj=>.inl (by rw[← a.log];exact hj),a.mark,a.next,fun r h1=>a.chain r (by omega),fun r h1 P hP=>(a.chainOk (hr r h1) hP).mono fun _ _ h=>.inl h⟩
theorem Xo.refl (fh:Fit h) (hb:b≤h.next) (hr:∀ r,rt=some r→r<h.next):Xo b e kO rt h h:=(Ahd.refl fh).xo hb hr
theorem Xo.trans (x:Xo b e kO rt h g) (y:Xo b e kO rt' g f) (h1:rt=none∨rt'=rt):Xo b e kO rt h f:=
 ⟨y.fit,fun k B hk hB=>y.keep k B hk (x.keep k B hk hB),fun j hj=>by
  rcases y.log j hj with h2|⟨h2,h3⟩
  ·exact x.log j h2
  ·exact .inr ⟨h2,by rw[← x.mark];exact h3⟩,y.mark.trans x.mark,Nat.le_trans x.next y.next,fun r hr=>(y.chain r hr).trans (x.chain r hr),fun r hr P hP=>by
  have hc:rt'=some r:=by
   rcases h1 with h1|h1
   ·rw[h1] at hr;cases hr
   ·rw[h1];exact hr
  refine (y.ok r hc _ (x.ok r hr P hP)).mono ?_
  rintro j l ((h3|h3)|h3)
  ·exact .inl h3
  ·exact .inr h3
  ·exact .inr (Nat.le_trans x.next h3)⟩
theorem Xo.ahead (x:Xo b e kO rt h g) (y:Ahd g f) (hb:b≤h.next) (hr:∀ r,rt=some r→r<g.next):Xo b e kO rt h f:=x.trans (y.xo (Nat.le_trans hb x.next) hr) (.inr rfl)
theorem Xo.setl (x:Xo b e kO rt h g) {xs ys:List Value} {ty:TypeId} (hb:g.blk kO=some (.cells xs ty none)) (hm:kO<h.mark∨h.mark≤kO):Xo b e kO rt h (g.setl kO (.cells ys ty none)):=by
 have hlt:=x.fit.lt hb
 refine⟨x.fit.setl rfl hlt,fun k B hk hB=>by rw[setl_ne hk];exact x.keep k B hk hB,fun j hj => ?_,(setl_mark _ _ _).trans x.mark,by rw[setl_next];exact x.next,fun r hr=>by rw[setl_chain];exact x.chain r hr,fun r hr P hP j hj => ?_⟩
 ·rcases setl_log hj with h2|⟨h2,h3⟩
  ·exact x.log j h2
  ·subst h2
   exact .inr ⟨rfl,by rw[← x.mark];exact h3⟩
 ·rw[setl_chain] at hj
  obtain⟨q1,zs,q2,q3⟩:=x.ok r hr P hP j hj
  refine⟨q1,zs,?_,q3⟩
  have hne:j≠kO:=fun e=>by
   rw[e,H.blk_dyn hb] at q2
   cases q2
  rw[setl_dyn,T.get_set_ne _ _ _ _ hne];exact q2
/-! ### Paths that are collected in a variable -/
theorem Xo.grew {b kO:Nat} {e:TypeId} {h g g':H} (x:Xo b e kO none h g) (hf:Fit g') (hg:Grows g g') (hl:g'.log=g.log) (hm:g'.mark=g.mark) (hn:g.next≤g'.next) (hc:∀ r,r<b→g'.chain r=g.chain r):Xo b e kO none h g':=
 ⟨hf,fun k B hk hB=>hg _ _ (x.keep k B hk hB),fun j hj=>x.log j (by rw[← hl];exact hj),hm.trans x.mark,Nat.le_trans x.next hn,fun r hr=>(hc r hr).trans (x.chain r hr),fun r hr=>by cases hr⟩
theorem chk_bld {tb kB base:Nat} {g:H} {bs:List UInt8} (f:Fit g) (htb:tb≠5) (hbn:base≤g.next) (b:Bld tb kB base g bs) :
  ∃ g1 s ro,kCheck tb [.pointer (some (own kB))] g=some (.tuple #[],g1)∧Xo base 5 kB none g g1∧g1.blk kB=some (.cells [.pointer (some (own kB)),s] tb none)∧Ap2 g1 base 5 1 s bs.length (bytesV bs) ro∧∀ r,ro=some r→∀ j∈g1.chain r,base≤j:=by
 obtain⟨p,s,ro,h1,h2,h3,h4⟩:=b
 have h1':g.blk (own kB).block=some (.cells [p,s] tb none):=h1
 have ho:Nat.beq (own kB).off 0=true:=rfl
 have hs:(own kB).spot=some 0:=rfl
 rcases h2 with rfl|rfl
 ·have hput:g.put (own kB) [.pointer (some (own kB))]=some (g.setl kB (.cells [.pointer (some (own kB)),s] tb none)):=put_setl (o:=0) h1 (by simp) (by simp) rfl
  refine⟨_,s,ro,?_,(Xo.refl f hbn (fun r hr=>by cases hr)).setl h1 (by omega),setl_same rfl,ap2_setl f h1 h3,fun r hr j hj=>h4 r hr j (by rw[setl_chain] at hj;exact hj)⟩
  unfold kCheck
  simp only[hs,ho,h1',Nat.beq_refl,hput,Option.map_some]
 ·refine⟨g,s,ro,?_,Xo.refl f hbn (fun r hr=>by cases hr),h1,h3,h4⟩
  unfold kCheck
  simp only[hs,ho,h1',Nat.beq_refl]
  rfl
structure Lw (b:Nat) (g g':H):Prop where
 fit:Fit g'
 blk:∀ k B,k<b→g.blk k=some B→g'.blk k=some B
 mark:g'.mark=g.mark
 next:g.next≤g'.next
 chain:∀ r,r<b→g'.chain r=g.chain r
 log:∀ j∈g'.log,j∈g.log∨(b≤j∧j<g.mark)
theorem Lw.trans {b:Nat} {g g' g'':H} (x:Lw b g g') (y:Lw b g' g''):Lw b g g'':=
 ⟨y.fit,fun k B hk hB=>y.blk k B hk (x.blk k B hk hB),y.mark.trans x.mark,Nat.le_trans x.next y.next,fun r hr=>(y.chain r hr).trans (x.chain r hr),fun j hj=>by
  rcases y.log j hj with h1|⟨h1,h2⟩
  ·exact x.log j h1
  ·exact .inr ⟨h1,by rw[← x.mark];exact h2⟩⟩
theorem Xo.lw {b kO:Nat} {e:TypeId} {rt:Option Nat} {g g':H} (x:Xo b e kO rt g g') (hk:b≤kO):Lw b g g':=
 ⟨x.fit,fun k B hb hB=>x.keep k B (by omega) hB,x.mark,x.next,x.chain,fun j hj=>by
  rcases x.log j hj with h1|⟨rfl,h2⟩
  ·exact .inl h1
  ·exact .inr ⟨hk,h2⟩⟩
theorem Lw.mod {g0 g g':H} (f0:Fit g0) (a:Mod (fun _=>False) g0 g) (l:Lw g0.next g g'):Mod (fun _=>False) g0 g':=
 ⟨l.fit,fun k B hk hB=>l.blk k B (f0.lt hB) (a.blk k B hk hB),l.mark.trans a.mark,Nat.le_trans a.next l.next,fun r hr=>(l.chain r hr).trans (a.chain r hr),fun j hj=>by
  rcases l.log j hj with h1|⟨h1,h2⟩
  ·exact a.log j h1
  ·rw[a.mark] at h2
   have:=f0.ok.2
   omega⟩
theorem unsafe_str {D:Tab} {E:Env} {base:Nat} {pt:TypeId} {g:H} {s:Value} {bs:List UInt8} {ro:Option Nat} {i6 i7 j7:Nat} {i8 j8:Option Value} {i9 j9:Bool} {td:TD} (f:Fit g) (a:Ap2 g base 5 1 s bs.length (bytesV bs) ro) (hc:∀ r,ro=some r→∀ j∈g.chain r,base≤j) (hbs:bs≠[]) (hl:bs.length≤1000000000)
  (hpt:D.ty.get pt=some ⟨.pointer 5,i6,i7,i8,i9⟩) (h5:D.ty.get 5=some ⟨td,1,j7,j8,j9⟩) :
  ∃ k q,s=.slice (some (own k)) bs.length bs.length∧asliceData s=some (.pointer (some (own k)))∧aunsafeS D E pt (.pointer (some (own k))) (.int .i64 (bs.length:Nat)) (fresh g)=some (.string ⟨⟨bs⟩⟩,q)∧Lw base g (back g q)∧(∀ k B,g.blk k=some B→B.plain=true→(back g q).blk k=some B):=by
 obtain⟨n,hn⟩:∃ n,bs.length=n+1:=⟨bs.length-1,by have:=List.length_pos_iff.2 hbs;omega⟩
 rcases a with⟨h0,_⟩|⟨k,r,rfl,hb,hlen,h1,hbr,hrx,hch,rfl⟩
 ·omega
 have hcs:(fresh g).cells E (own k) (n+1)=some (bytesV bs):=by
  rw[← hn]
  exact blk_cells (h:=fresh g) hb (bytesV_length bs) (bytesV_one bs)
 have hble:Nat.ble n 70368744177664=true:=by rw[Nat.ble_eq];omega
 have hb':(fresh g).blk (own k).block=some (.cells (bytesV bs) 5 (some (r,0))):=hb
 have hsp:(own k).spot=some 0:=rfl
 refine⟨k,({ fresh g with chains:=g.chains.set r [] }:H).note (g.chain r),rfl,?_,?_,?_⟩
 ·rw[hn];rfl
 ·rw[hn]
  show aunsafeS D E pt (.pointer (some (own k))) (.int .i64 (.ofNat (n+1))) (fresh g)=_
  unfold aunsafeS
  simp only[hpt,hsp,hb',h5,Nat.beq_refl,hcs,hble,allBytes_bytesV]
  rfl
 generalize hq:({ fresh g with chains:=g.chains.set r [] }:H).note (g.chain r)=q
 have hqn:q.next=g.next:=by rw[← hq,H.note_next];rfl
 have hqd:q.dyn=g.dyn:=by rw[← hq,H.note_dyn];rfl
 have hqc:∀ r',r'≠r→q.chain r'=g.chain r':=by
  intro r' hr'
  rw[← hq]
  unfold H.chain
  rw[note_chains]
  simp only
  rw[T.get_set_ne _ _ _ _ hr']
 have hql:∀ j∈q.log,j∈g.chain r:=by
  intro j hj
  rw[← hq] at hj
  rcases note_log hj with h2|⟨h2,_⟩
  ·cases h2
  ·exact h2
 have hqm:q.mark=g.next:=by rw[← hq,note_mark];rfl
 have hfq:Fit q:=⟨fun j hj=>by rw[hqd];exact f.free j (by rw[hqn] at hj;exact hj),fun j ys ty r' p hd=>by rw[hqn];rw[hqd] at hd;exact f.ok.1 _ _ _ _ _ hd,by rw[hqm,hqn];exact Nat.le_refl _⟩
 have keep:∀ j B,g.blk j=some B→(∀ ys u p',B≠.cells ys u (some (r,p')))→q.blk j=some B:=by
  intro j B hB hne
  rw[← hB]
  refine blk_congr (by rw[hqd]) (fun ys u r' p' hd => ?_)
  have hrr:r'≠r:=by
   intro e
   subst e
   have:=H.blk_dyn hB
   rw[hd] at this
   exact hne _ _ _ (Option.some.inj this).symm
  rw[hqc r' hrr]
 refine⟨⟨back_fit f hfq (by rw[hqn];exact Nat.le_refl _),fun j B hj hB => ?_,back_mark _ _,by rw[back_next,hqn];exact Nat.le_refl _,fun r' hr' => ?_,fun j hj => ?_⟩,fun j B hB hp => ?_⟩
 ·rw[back_blk]
  refine keep j B hB (fun ys u p' e => ?_)
  subst e
  have hj2:j∈g.chain r:=by
   unfold H.blk at hB
   rw[H.blk_dyn (h:=g) (k:=j) (B:=.cells ys u (some (r,p'))) (by unfold H.blk;exact hB)] at hB
   simp only at hB
   split at hB
   ·next hc=>simpa using hc
   ·cases hB
  have:=hc r rfl j hj2
  omega
 ·rw[back_chain]
  exact hqc r' (by omega)
 ·unfold back at hj
  rcases note_log hj with h2|⟨h2,h3⟩
  ·exact .inl h2
  ·exact .inr ⟨hc r rfl j (hql j h2),h3⟩
 ·rw[back_blk]
  refine keep j B hB (fun ys u p' e => ?_)
  subst e
  simp[Blk.plain] at hp
theorem drop_at {bs:List UInt8} {pos:Nat} {c:UInt8} (h:bs[pos]? = some c):bs.drop pos=c::bs.drop (pos+1):=by
 obtain⟨h1,h2⟩:=List.getElem?_eq_some_iff.1 h
 rw[← h2]
 exact List.drop_eq_getElem_cons h1
theorem ofNat_self (c:UInt8):UInt8.ofNat c.toNat=c:=by simp
theorem rdNum_back {bs:List UInt8} {least most frm items:Nat}:∀ (k i pos n v p it:Nat),rdNum bs least most frm items k i pos n=.ok v p it→∃ m,v=n+m*128 ^ i∧bs.drop pos=numB m++bs.drop p∧(i=0∨0<m)
 | 0,_,_,_,_,_,_,h=>by cases h
 | k+1,i,pos,n,v,p,it,h=>by
  rw[rdNum] at h
  split at h
  ·cases h
  ·next c hc=>
   have hc8:=c.toNat_lt
   split at h
   ·next h1=>
    obtain⟨m,e1,e2,e3⟩:=rdNum_back k (i+1) (pos+1) _ v p it h
    have hm:0<m:=by rcases e3 with e3|e3;omega;exact e3
    refine⟨m*128+c.toNat % 128,?_,?_,.inr (by omega)⟩
    ·rw[e1,Nat.pow_succ,Nat.add_mul]
     have:m*(128 ^ i*128)=m*128*128 ^ i:=by rw[Nat.mul_comm (128 ^ i) 128,Nat.mul_assoc]
     omega
    ·rw[numB_large (by omega),drop_at hc,e2]
     have q1:(m*128+c.toNat % 128) % 128=c.toNat % 128:=by omega
     have q2:(m*128+c.toNat % 128) / 128=m:=by omega
     rw[q1,q2,show c.toNat % 128+128=c.toNat by omega,ofNat_self]
     rfl
   ·split at h
    ·cases h
    ·next h1 h2=>
     split at h
     ·cases h
     ·split at h
      ·cases h
      ·cases h
       rw[Nat.mod_eq_of_lt (by omega)]
       refine⟨c.toNat,rfl,?_,by omega⟩
       rw[numB_small (by omega),drop_at hc,ofNat_self]
       rfl
theorem rdN_back {bs:List UInt8} {least most pos items v p it:Nat} (h:rdN bs least most pos items=.ok v p it):bs.drop pos=numB v++bs.drop p:=by
 obtain⟨m,e1,e2,_⟩:=rdNum_back 6 0 pos 0 v p it h
 rw[Nat.pow_zero,Nat.mul_one,Nat.zero_add] at e1
 rw[e1];exact e2
theorem rdText_back {bs:List UInt8} {pos items p it:Nat} {tx:ByteArray} (h:rdText bs pos items=.ok tx p it):bs.drop pos=(numB tx.data.toList.length++tx.data.toList)++bs.drop p:=by
 unfold rdText at h
 split at h
 ·cases h
 ·next n q i' hn=>
  have h1:=rdN_back hn
  have h2:=rdN_ok hn
  split at h
  ·cases h
  ·next hlen=>
   cases h
   have e1:((bs.drop q).take n).length=n:=by rw[List.length_take,List.length_drop];omega
   show bs.drop pos=(numB ((bs.drop q).take n).length++(bs.drop q).take n)++bs.drop (q+n)
   rw[e1,List.append_assoc,← List.drop_drop,List.take_append_drop,h1]
theorem rdKids_back {bs:List UInt8} {rec:Nat→Nat→Rd Item} (hr:∀ pos items t p it,rec pos items=.ok t p it→bs.drop pos=encI t++bs.drop p):∀ (n:Nat) (acc:List Item) (pos items:Nat) (ks:List Item) (p it:Nat),rdKids rec n acc pos items=.ok ks p it→∃ l,ks=acc++l∧l.length=n∧bs.drop pos=encL l++bs.drop p
 | 0,acc,pos,items,ks,p,it,h=>by
  cases h
  exact⟨[],(List.append_nil _).symm,rfl,by rw[encL];rfl⟩
 | n+1,acc,pos,items,ks,p,it,h=>by
  rw[rdKids] at h
  split at h
  ·cases h
  ·next t q i' ht=>
   obtain⟨l,e1,e2,e3⟩:=rdKids_back hr n _ _ _ _ _ _ h
   refine⟨t::l,by rw[e1];simp,by rw[List.length_cons,e2],?_⟩
   rw[hr _ _ _ _ _ ht,e3,encL,List.append_assoc]
theorem rdItem_back {bs:List UInt8}:∀ (f pos items:Nat) (t:Item) (p it:Nat),rdItem bs f pos items=.ok t p it→bs.drop pos=encI t++bs.drop p
 | 0,pos,items,t,p,it,h=>by
  rw[rdItem] at h
  split at h<;>cases h
 | f+1,pos,items,t,p,it,h=>by
  rw[rdItem] at h
  split at h
  ·cases h
  ·next hd hc=>
   have hc8:=hd.toNat_lt
   split at h
   ·cases h
   split at h
   ·cases h
   split at h
   ·cases h
   next n q i1 hn=>
   have e1:=rdN_back hn
   have ht:∀ r,(if hd.toNat / 64 % 2=1 then rdText bs q i1 else .ok ⟨⟨[]⟩⟩ q i1)=r→match r with
     | .ok tx p' _=>bs.drop q=(if tx.data.toList=[] then [] else numB tx.data.toList.length++tx.data.toList)++bs.drop p'∧(if tx.data.toList=[] then 0 else 64)=64*(hd.toNat / 64 % 2)
     | .bad _ _=>True:=by
    rintro r rfl
    split
    ·next tx p' _ hx=>
     by_cases c1:hd.toNat / 64 % 2=1
     ·rw[if_pos c1] at hx
      have h1:=rdText_ok hx
      have hne:tx.data.toList≠[]:=by intro e;rw[e] at h1;simp at h1
      rw[if_neg hne,if_neg hne,c1]
      exact⟨rdText_back hx,rfl⟩
     ·rw[if_neg c1] at hx
      cases hx
      refine⟨rfl,?_⟩
      show 0=_
      omega
    ·trivial
   generalize (if hd.toNat / 64 % 2=1 then rdText bs q i1 else .ok ⟨⟨[]⟩⟩ q i1)=r at ht h
   have ht:=ht r rfl
   cases r with
   | bad p' e=>cases h
   | ok tx p2 i2=>
    obtain⟨t1,t2⟩:=ht
    simp only at h
    have hk:∀ r,(if 128≤hd.toNat then rdKidsN bs (rdItem bs f) p2 i2 else .ok [] p2 i2)=r→match r with
      | .ok ks p' _=>bs.drop p2=(if ks.length=0 then [] else numB ks.length++encL ks)++bs.drop p'∧(if ks.length=0 then 0 else 128)=128*(hd.toNat / 128)
      | .bad _ _=>True:=by
     rintro r rfl
     split
     ·next ks p' _ hx=>
      by_cases c1:128≤hd.toNat
      ·rw[if_pos c1] at hx
       unfold rdKidsN at hx
       split at hx
       ·cases hx
       ·next m q3 i3 hm=>
        obtain⟨l,e3,e4,e5⟩:=rdKids_back (fun pos items t p it h=>rdItem_back f pos items t p it h) _ _ _ _ _ _ _ hx
        rw[List.nil_append] at e3
        subst e3
        have h1:=rdN_ok hm
        have hne:ks.length≠0:=by omega
        rw[if_neg hne,if_neg hne,rdN_back hm,e5,e4,List.append_assoc]
        exact⟨rfl,by omega⟩
      ·rw[if_neg c1] at hx
       cases hx
       refine⟨rfl,?_⟩
       show 0=_
       omega
     ·trivial
    generalize (if 128≤hd.toNat then rdKidsN bs (rdItem bs f) p2 i2 else .ok [] p2 i2)=r at hk h
    have hk:=hk r rfl
    cases r with
    | bad p' e=>cases h
    | ok ks p3 i3=>
     obtain⟨k1,k2⟩:=hk
     simp only at h
     cases h
     rw[encI,t2,k2,drop_at hc,e1,t1,k1]
     have:(((hd.toNat % 64:Nat):Int)).toNat+64*(hd.toNat / 64 % 2)+128*(hd.toNat / 128)=hd.toNat:=by
      rw[Int.toNat_natCast];omega
     rw[this,ofNat_self,Int.toNat_natCast]
     simp only[List.cons_append,List.append_assoc]
theorem decR_back {bs:List UInt8} {t:Item} {p it:Nat} (h:decR bs=.ok t p it):encI t=bs:=by
 unfold decR at h
 split at h
 ·cases h
 ·split at h
  ·cases h
  ·next t' q i' hr=>
   have h1:=rdItem_back 250 0 0 _ _ _ hr
   split at h
   ·cases h
   ·cases h
    rw[List.drop_zero,List.drop_of_length_le (by omega),List.append_nil] at h1
    exact h1.symm
theorem decR_pos {bs:List UInt8} {p:Nat} {e:Int} (h:decR bs=.bad p e):p≤bs.length∧e≠0:=by
 unfold decR at h
 have rok:=rdItem_ok bs 250
 split at h
 ·cases h;exact⟨Nat.zero_le _,by decide⟩
 ·split at h
  ·next hr=>cases h;exact⟨(rok.2 _ _ _ _ hr (Nat.zero_le _)).2,by rcases (rok.2 _ _ _ _ hr (Nat.zero_le _)).1 with h|h|h|h<;>omega⟩
  ·next hr=>
   split at h
   ·cases h;exact⟨by omega,by decide⟩
   ·cases h
/-! ### Texts -/
theorem isDig_iff {c:UInt8} (h:isDig c=true):48≤c.toNat∧c.toNat≤57:=by
 unfold isDig at h
 simpa using h
theorem digRun_ge {bs:List UInt8}:∀ (k pos n:Nat),n≤1099511627777→n≤(digRun bs k pos n).2
 | 0,_,_,_=>Nat.le_refl _
 | k+1,pos,n,h=>by
  rw[digRun]
  split
  ·exact Nat.le_refl _
  ·split
   ·next c _ _=>exact Nat.le_trans (by omega) (digRun_ge k (pos+1) (min (10*n+(c.toNat-48)) 1099511627777) (by omega))
   ·exact Nat.le_refl _
theorem digRun_stay {bs:List UInt8} {k pos n:Nat} (hp:pos≤bs.length) (h:(digRun bs k pos n).1≤pos):(digRun bs k pos n).2=n:=by
 cases k with
 | zero=>rfl
 | succ k=>
  rw[digRun] at h ⊢
  split
  ·rfl
  ·next c hc=>
   rw[hc] at h
   simp only[] at h
   split
   ·next hd=>
    rw[if_pos hd] at h
    have:=(digRun_pos (bs:=bs) k (pos+1) (min (10*n+(c.toNat-48)) 1099511627777) (by have:=(List.getElem?_eq_some_iff.1 hc).1;omega)).1
    omega
   ·rfl
theorem dig_more (n d:Nat) (hn:1≤n) (hd:d<10):Lib.decDigits (10*n+d)=Lib.decDigits n++[UInt8.ofNat (48+d)]:=by
 rw[Lib.decDigits,dif_neg (by omega),show (10*n+d) / 10=n by omega,show (10*n+d) % 10=d by omega]
theorem digRun_back {bs:List UInt8}:∀ (k pos n:Nat),1≤n→n≤1099511627777→(digRun bs k pos n).2≤1099511627776→Lib.decDigits (digRun bs k pos n).2++bs.drop (digRun bs k pos n).1=Lib.decDigits n++bs.drop pos
 | 0,_,_,_,_,_=>rfl
 | k+1,pos,n,h1,h2,h3=>by
  rw[digRun] at h3 ⊢
  split
  ·rfl
  ·next c hc=>
   rw[hc] at h3
   simp only[] at h3
   split
   ·next hd=>
    rw[if_pos hd] at h3
    have hdd:=isDig_iff hd
    have hge:=digRun_ge (bs:=bs) k (pos+1) (min (10*n+(c.toNat-48)) 1099511627777) (by omega)
    have he:min (10*n+(c.toNat-48)) 1099511627777=10*n+(c.toNat-48):=by omega
    rw[he] at h3 ⊢
    rw[digRun_back k (pos+1) _ (by omega) (by omega) h3,dig_more n _ h1 (by omega),drop_at hc,show 48+(c.toNat-48)=c.toNat by omega,ofNat_self,List.append_assoc]
    rfl
   ·rfl
theorem rdDec_back {bs:List UInt8} {most:Nat} {zero:Int} {pos items v p it:Nat} (h:rdDec bs most zero pos items=.ok v p it) (hm:most≤1099511627776):bs.drop pos=Lib.decDigits v++bs.drop p:=by
 unfold rdDec at h
 split at h
 ·cases h
 ·next hc=>
  split at h
  ·cases h
  ·next hm2=>
   split at h
   ·cases h
   ·next hz=>
    cases h
    cases hk:bs.length-pos with
    | zero=>rw[hk] at hc;exact absurd (.inl rfl) hc
    | succ k=>
     rw[hk] at hc hm2 hz
     rw[digRun] at hc hm2 hz ⊢
     cases hb:bs[pos]? with
     | none=>rw[hb] at hc;exact absurd (.inl rfl) hc
     | some c=>
      rw[hb] at hc hm2 hz
      simp only[] at hc hm2 hz ⊢
      have hlt:=(List.getElem?_eq_some_iff.1 hb).1
      by_cases hd:isDig c=true
      ·rw[if_pos hd] at hc hm2 hz ⊢
       have hdd:=isDig_iff hd
       have he:min (10*0+(c.toNat-48)) 1099511627777=c.toNat-48:=by omega
       rw[he] at hc hm2 hz ⊢
       by_cases h0:c.toNat=48
       ·exfalso
        have hc48:c=48:=UInt8.toNat_inj.1 h0
        have hle:¬ pos+1<(digRun bs k (pos+1) (c.toNat-48)).1:=fun hx=>hc (.inr ⟨by rw[hc48],hx⟩)
        have:=digRun_stay (bs:=bs) (k:=k) (pos:=pos+1) (n:=c.toNat-48) (by omega) (by omega)
        omega
       ·rw[digRun_back k (pos+1) _ (by omega) (by omega) (by omega),Lib.decDigits_one (by omega),drop_at hb,show 48+(c.toNat-48)=c.toNat by omega,ofNat_self]
        rfl
      ·rw[if_neg hd] at hc
       exact absurd (.inl rfl) hc
theorem valB_hexB':∀ i:Fin 256,∀ v,valB (UInt8.ofNat i.val)=some v→v<16∧hexB v=UInt8.ofNat i.val:=by decide +kernel
theorem valB_hexB {c:UInt8} {v:Nat} (h:valB c=some v):v<16∧hexB v=c:=by
 have:=valB_hexB' ⟨c.toNat,c.toNat_lt⟩ v (by simpa using h)
 simpa using this
theorem rdHid_back {bs:List UInt8} {pos p it:Nat} {x:UInt8} (h:rdHid bs pos=.ok x p it):92::bs.drop pos=escB x++bs.drop p:=by
 unfold rdHid at h
 split at h
 ·cases h
 ·next c1 h1=>
  split at h
  ·cases h
  ·next a ha=>
   split at h
   ·cases h
   ·next c2 h2=>
    split at h
    ·cases h
    ·next b hb=>
     split at h
     ·cases h
     ·next hp=>
      cases h
      obtain⟨a1,a2⟩:=valB_hexB ha
      obtain⟨b1,b2⟩:=valB_hexB hb
      have hx:(UInt8.ofNat (a*16+b)).toNat=a*16+b:=ofNat_toNat (by omega)
      unfold escB
      rw[if_neg hp,hx,show (a*16+b) / 16=a by omega,show (a*16+b) % 16=b by omega,a2,b2,drop_at h1,drop_at h2]
      rfl
theorem quoRun_back {bs:List UInt8}:∀ (k pos:Nat) (acc l:List UInt8) (p it:Nat),quoRun bs k pos acc=.ok l p it→∃ l',l=acc++l'∧bs.drop pos=escL l'++34::bs.drop p
 | 0,_,_,_,_,_,h=>by cases h
 | k+1,pos,acc,l,p,it,h=>by
  rw[quoRun] at h
  split at h
  ·cases h
  ·next c hc=>
   split at h
   ·next h1=>
    cases h
    exact⟨[],(List.append_nil _).symm,by rw[drop_at hc,h1];rfl⟩
   ·split at h
    ·next h1=>
     split at h
     ·cases h
     ·next x q i' hx=>
      obtain⟨l',e1,e2⟩:=quoRun_back k _ _ _ _ _ h
      refine⟨x::l',by rw[e1];simp,?_⟩
      rw[drop_at hc,h1,rdHid_back hx,e2,escL,List.append_assoc]
    ·split at h
     ·next hp=>
      obtain⟨l',e1,e2⟩:=quoRun_back k _ _ _ _ _ h
      refine⟨c::l',by rw[e1];simp,?_⟩
      rw[drop_at hc,e2,escL]
      unfold escB
      rw[if_pos hp]
      rfl
     ·cases h
theorem rdPK_back {bs:List UInt8} {rec:Nat→Nat→Rd Item} (hr:∀ pos items t p it,pos≤bs.length→items≤5000→rec pos items=.ok t p it→(bs.drop pos=prtI t++bs.drop p)∧p≤bs.length∧it≤5000):∀ (k:Nat) (acc:List Item) (pos items:Nat) (ks:List Item) (p it:Nat),pos≤bs.length→items≤5000→rdPK bs rec k acc pos items=.ok ks p it→∃ l,ks=acc++l∧l≠[]∧∀ b,b::bs.drop pos=prtL l b++41::bs.drop p
 | 0,_,_,_,_,_,_,_,_,h=>by cases h
 | k+1,acc,pos,items,ks,p,it,hp,hi,h=>by
  rw[rdPK] at h
  split at h
  ·cases h
  ·next t q i' ht=>
   obtain⟨e1,e2,e3⟩:=hr _ _ _ _ _ hp hi ht
   split at h
   ·next h1=>
    cases h
    refine⟨[t],rfl,by simp,fun b => ?_⟩
    rw[prtL,prtL,List.append_nil,e1,drop_at h1]
    rfl
   ·split at h
    ·next h1=>
     have hlt:=(List.getElem?_eq_some_iff.1 h1).1
     obtain⟨l,f1,f2,f3⟩:=rdPK_back hr k _ _ _ _ _ _ (by omega) e3 h
     refine⟨t::l,by rw[f1];simp,by simp,fun b => ?_⟩
     rw[prtL,e1,drop_at h1,f3 32]
     simp only[List.cons_append,List.append_assoc]
    ·cases h
theorem rdPI_back {bs:List UInt8}:∀ (f pos items:Nat) (t:Item) (p it:Nat),pos≤bs.length→items≤5000→rdPI bs f pos items=.ok t p it→bs.drop pos=prtI t++bs.drop p
 | 0,_,_,_,_,_,_,_,h=>by rw[rdPI] at h;cases h
 | f+1,pos,items,t,p,it,hp,hi,h=>by
  rw[rdPI] at h
  split at h
  ·cases h
  next h5=>
  split at h
  ·cases h
  next k q i1 hk=>
  have e1:=rdDec_back hk (by decide)
  obtain⟨k1,k2,k3,k4,k5⟩:=rdDec_ok hk hp
  have hm:∀ r,(if bs[q]? = some 58 then rdDec bs 1099511627776 4 (q+1) i1 else .ok 0 q i1)=r→match r with
    | .ok m p' i'=>bs.drop q=(if ((m:Nat):Int)=0 then [] else 58::Lib.decDigits m)++bs.drop p'∧p'≤bs.length∧i'=i1
    | .bad _ _=>True:=by
   rintro r rfl
   split
   ·next m p' i' hx=>
    by_cases c1:bs[q]? = some 58
    ·rw[if_pos c1] at hx
     have hlt:=(List.getElem?_eq_some_iff.1 c1).1
     obtain⟨_,m2,m3,_,m5⟩:=rdDec_ok hx (by omega)
     rw[if_neg (by omega),drop_at c1,rdDec_back hx (by decide)]
     exact⟨rfl,m2,m5⟩
    ·rw[if_neg c1] at hx
     cases hx
     exact⟨rfl,k2,rfl⟩
   ·trivial
  generalize (if bs[q]? = some 58 then rdDec bs 1099511627776 4 (q+1) i1 else .ok 0 q i1)=r at hm h
  have hm:=hm r rfl
  cases r with
  | bad p' e=>cases h
  | ok m p2 i2=>
   obtain⟨m1,m2,m3⟩:=hm
   simp only at h
   have ht:∀ r,(if bs[p2]? = some 34 then rdQuo bs (p2+1) i2 else .ok ⟨⟨[]⟩⟩ p2 i2)=r→match r with
     | .ok tx p' i'=>bs.drop p2=(if tx.data.toList=[] then [] else 34::(escL tx.data.toList++[34]))++bs.drop p'∧p'≤bs.length∧i'=i2
     | .bad _ _=>True:=by
    rintro r rfl
    split
    ·next tx p' i' hx=>
     by_cases c1:bs[p2]? = some 34
     ·rw[if_pos c1] at hx
      obtain⟨_,t2,t3,l,rfl,t5,_,t7⟩:=rdQuo_ok hx
      obtain⟨l',f1,f2⟩:=quoRun_back _ _ _ _ _ _ t7
      rw[List.nil_append] at f1
      subst f1
      show _=(if l=[] then [] else 34::(escL l++[34]))++_∧_
      rw[if_neg t5,drop_at c1,f2]
      exact⟨by simp,t2,t3⟩
     ·rw[if_neg c1] at hx
      cases hx
      exact⟨rfl,m2,rfl⟩
    ·trivial
   generalize (if bs[p2]? = some 34 then rdQuo bs (p2+1) i2 else .ok ⟨⟨[]⟩⟩ p2 i2)=r at ht h
   have ht:=ht r rfl
   cases r with
   | bad p' e=>cases h
   | ok tx p3 i3=>
    obtain⟨t1,t2,t3⟩:=ht
    simp only at h
    split at h
    ·next c1=>
     have hlt:=(List.getElem?_eq_some_iff.1 c1).1
     split at h
     ·cases h
     ·next ks p4 i4 hx=>
      cases h
      obtain⟨l,f1,f2,f3⟩:=rdPK_back (bs:=bs) (rec:=rdPI bs f) (fun pos items t p it h1 h2 h3=>by
       have hg:=rdPI_good (bs:=bs) f pos items h1 h2
       rw[h3] at hg
       exact⟨rdPI_back f pos items t p it h1 h2 h3,hg.2.1,hg.2.2.2.2.2⟩) _ _ _ _ _ _ _ (by omega) (by omega) hx
      rw[List.nil_append] at f1
      subst f1
      rw[prtI,if_neg f2,e1,m1,t1,drop_at c1,f3 40,Int.toNat_natCast,Int.toNat_natCast]
      simp only[List.append_assoc,List.cons_append,List.nil_append]
    ·cases h
     rw[prtI,if_pos rfl,e1,m1,t1,Int.toNat_natCast,Int.toNat_natCast]
     simp only[List.append_assoc,List.append_nil,List.cons_append,List.nil_append]
theorem prsR_back {bs:List UInt8} {t:Item} {p it:Nat} (h:prsR bs=.ok t p it):prtI t=bs∧lvlI t≤250∧isz t≤5000∧goodI t∧bs.length≤65536:=by
 unfold prsR at h
 have rok:=rdPI_good (bs:=bs) 250 0 0 (Nat.zero_le _) (by decide)
 split at h
 ·cases h
 ·next hlen=>
  split at h
  ·cases h
  ·next t' q i' hr=>
   rw[hr] at rok
   obtain⟨r1,r2,r3,r4,r5,r6⟩:=rok
   have h1:=rdPI_back 250 0 0 _ _ _ (Nat.zero_le _) (by decide) hr
   split at h
   ·cases h
   ·cases h
    rw[List.drop_zero,List.drop_of_length_le (by omega),List.append_nil] at h1
    exact⟨h1.symm,r4,by omega,r3,by omega⟩
theorem prsR_pos {bs:List UInt8} {p:Nat} {e:Int} (h:prsR bs=.bad p e):p≤bs.length∧e≠0:=by
 unfold prsR at h
 have rok:=rdPI_good (bs:=bs) 250 0 0 (Nat.zero_le _) (by decide)
 split at h
 ·cases h;exact⟨Nat.zero_le _,by decide⟩
 ·split at h
  ·next hr=>
   rw[hr] at rok
   cases h;exact rok
  ·next hr=>
   rw[hr] at rok
   split at h
   ·cases h;exact⟨rok.2.1,by decide⟩
   ·cases h
theorem put_root_at {g:H} {k o:Nat} {vs xs:List Value} {e:TypeId} (f:Fit g) (hb:g.blk k=some (.cells xs e (some (k,0)))) (hc:g.chain k=[k]) (hv:vs≠[]) (hl:o+vs.length≤xs.length) (h1:vs.all isOne=true) (hm:g.mark≤k) :
  ∃ q,g.put (aadd (own k) o) vs=some q∧q.next=g.next∧Fit q∧q.blk k=some (.cells (xs.take o++vs++xs.drop (o+vs.length)) e (some (k,0)))∧(∀ j,j≠k→q.blk j=g.blk j)∧(∀ r,q.chain r=g.chain r)∧q.mark=g.mark∧q.log=g.log:=by
 have hkn:=f.lt hb
 have hsp:g.spare k k (0+o) (0+o+vs.length)=[k]:=by
  unfold H.spare
  rw[hc]
  have:g.hits k (0+o) (0+o+vs.length) k=false:=by
   unfold H.hits
   rw[Nat.beq_refl]
  simp only[List.filter_cons,this,Bool.not_false,if_true,List.filter_nil]
 have hgn:g.gone k k (0+o) (0+o+vs.length)=[]:=by
  unfold H.gone
  rw[hc]
  have:g.hits k (0+o) (0+o+vs.length) k=false:=by
   unfold H.hits
   rw[Nat.beq_refl]
  simp only[List.filter_cons,this,List.filter_nil]
  rfl
 have hput:g.put (aadd (own k) o) vs=some (({ g with dyn:=g.dyn.set k (.cells (xs.take o++vs++xs.drop (o+vs.length)) e (some (k,0))),chains:=g.chains.set k [k] }:H).note [k]):=by
  unfold H.put
  cases vs with
  | nil=>exact absurd rfl hv
  | cons v vs=>
   simp only[aadd,own,Nat.zero_add,hb] at hsp hgn ⊢
   rw[h1,show Nat.ble (o+(v::vs).length) xs.length=true from by rw[Nat.ble_eq];exact hl]
   simp only[Bool.and_self,hsp,hgn]
 generalize hB:(Blk.cells (xs.take o++vs++xs.drop (o+vs.length)) e (some (k,0)))=B at hput
 rw[note_above (h:={ g with dyn:=g.dyn.set k B,chains:=g.chains.set k [k] }) (fun j hj=>by simp at hj;subst hj;exact hm)] at hput
 generalize hqq:({ g with dyn:=g.dyn.set k B,chains:=g.chains.set k [k] }:H)=q at hput
 have hqn:q.next=g.next:=by rw[← hqq]
 have hqd:q.dyn=g.dyn.set k B:=by rw[← hqq]
 have hqc:∀ r,q.chain r=g.chain r:=by
  intro r
  rw[← hqq]
  simp only[H.chain,T.get_set]
  split
  ·next h=>subst h;simpa [H.chain,Option.getD] using hc.symm
  ·rfl
 refine⟨q,hput,hqn,⟨fun j hj => ?_,⟨fun j ys ty r p hd => ?_,?_⟩⟩,?_,fun j hj => ?_,hqc,by rw[← hqq],by rw[← hqq]⟩
 ·rw[hqn] at hj
  rw[hqd,T.get_set_ne _ _ _ _ (by omega)];exact f.free j hj
 ·rw[hqn]
  rw[hqd] at hd
  by_cases hj:j=k
  ·subst hj
   rw[T.get_set_same,← hB] at hd
   cases hd;exact hkn
  ·rw[T.get_set_ne _ _ _ _ hj] at hd
   exact f.ok.1 _ _ _ _ _ hd
 ·rw[← hqq];exact f.ok.2
 ·have hdd:q.dyn.get k=some B:=by rw[hqd];exact T.get_set_same _ _ _
  unfold H.blk
  rw[hdd,← hB]
  simp only[hqc,hc,List.contains_cons,beq_self_eq_true,Bool.true_or]
 ·refine blk_congr (by rw[hqd,T.get_set_ne _ _ _ _ hj]) (fun _ _ r _ _=>by rw[hqc])
theorem bytes_set {bs:List UInt8} {i:Nat} (c:UInt8) (hi:i<bs.length):(bytesV bs).take i++[.int .u8 (c.toNat:Nat)]++(bytesV bs).drop (i+1)=bytesV (bs.set i c):=by
 have:=set_mid (pre:=[]) (post:=[]) (d:=bytesV bs) (i:=i) (x:=.int .u8 (c.toNat:Nat)) (by rw[bytesV_length];exact hi)
 simp only[List.nil_append,List.append_nil,List.length_nil,Nat.zero_add] at this
 rw[this,bytesV_set]
theorem wrapU8_ex (x:Int):∃ c:UInt8,IntKind.u8.wrap x=(c.toNat:Nat):=by
 have h:IntKind.u8.wrap x=x % 256:=by
  simp only[IntKind.wrap,IntKind.bits,IntKind.signed]
  simp
 refine⟨UInt8.ofNat (x % 256).toNat,?_⟩
 rw[h,ofNat_toNat (by omega)]
 omega
mutual
theorem prtI_short:∀ {t:Item},smlI t→(prtI t).length+1≤60*isz t
 | .mk k m tx ks,g=>by
  rw[smlI] at g
  obtain⟨g1,g2,g3,g4,g5,g6⟩:=g
  have h1:=dec_len15 (m:=k) (by omega) (by omega)
  have h2:=dec_len15 (m:=m) g3 g4
  have h3:=(escL_len tx.data.toList).2
  have h4:=prtL_short (b:=40) g6
  rw[prtI,isz]
  simp only[List.length_append]
  have e1:(if m=0 then ([]:List UInt8) else 58::Lib.decDigits m.toNat).length≤16:=by split<;>simp<;>omega
  have e2:(if tx.data.toList=[] then ([]:List UInt8) else 34::(escL tx.data.toList++[34])).length≤17:=by split<;>simp<;>omega
  have e3:(if ks=[] then ([]:List UInt8) else prtL ks 40++[41]).length≤(prtL ks 40).length+1:=by split<;>simp
  omega
theorem prtL_short:∀ {ks:List Item} {b:UInt8},smlL ks→(prtL ks b).length≤60*iszL ks
 | [],b,_=>by rw[prtL,iszL];simp
 | x::xs,b,g=>by
  rw[smlL] at g
  have h1:=prtI_short g.1
  have h2:=prtL_short (b:=32) g.2
  rw[prtL,iszL,List.length_cons,List.length_append]
  omega
end
end Go.Hs
