/- Cells of own blocks that are read and written, by rewriting. -/
import Derived.Test.YtofijpbmbmbnhaaGreatDoorHsae
import Derived.Lib.SmallJoins
set_option linter.unusedSimpArgs false
set_option linter.unusedVariables false
namespace Go.Hs
section
variable {D:Tab} {E:Env}
theorem XT (k i j:Nat):aadd (aadd (own k) i) j=aadd (own k) (i+j):=by
 show (⟨k,0+i+j,some 0⟩:Addr)=⟨k,0+(i+j),some 0⟩;rw[Nat.add_assoc]
theorem YU {v:Value} (h:isOne v=true):one? (some v)=some v:=by simp only[one?,h]
theorem Aq {g:H} {k:Nat} {xs:List Value} {ty:TypeId} {rt:Option (Nat×Nat)} (hb:g.blk k=some (.cells xs ty rt)) (i:Nat):g.cell E (aadd (own k) i)=one? xs[i]? := by
 simp only[H.cell,aadd,own,hb,Z1]
theorem BJ {g:H} {k:Nat} {xs:List Value} {ty:TypeId} {rt:Option (Nat×Nat)} (hb:g.blk k=some (.cells xs ty rt)):g.cell E (own k)=one? xs[0]? := by
 simp only[H.cell,own,hb]
theorem Hx:(∀ (E:Env) (h:H) (a:Addr),(fresh h).cell E a=h.cell E a)/\(∀ (E:Env) (h:H) (a:Addr) (n:Nat),(fresh h).cells E a n=h.cells E a n)/\(∀ h:H,(fresh h).next=h.next)/\(∀ k i j:Nat,aadd (aadd (own k) i) j=aadd (own k) (i+j))/\(∀ k:Nat,aadd (own k) 0=own k)/\
  (∀ (k:IntKind) (n:Int),one? (some (.int k n))=some (.int k n))/\(∀ s:ByteArray,one? (some (.string s))=some (.string s))/\(∀ (b:Option Addr) (n c:Nat),one? (some (.slice b n c))=some (.slice b n c))/\(∀ b:Option Addr,one? (some (.pointer b))=some (.pointer b))/\(∀ (f:Fn) (a b:Array Value),one? (some (.func f a b))=some (.func f a b))/\(∀ b:Bool,one? (some (.bool b))=some (.bool b)):=
 ⟨fun _ _ _=>rfl,fun _ _ _ _=>rfl,fun _=>rfl,XT,fun _=>rfl,fun _ _=>rfl,fun _=>rfl,fun _ _ _=>rfl,fun _=>rfl,fun _ _ _=>rfl,fun _=>rfl⟩
theorem Gx:(∀ (A:Ac) (d t:Tmp) (v:Value),d≠t->(A.put (some d) v).get t=A.get t)/\(∀ (A:Ac) (d:Tmp) (v:Value),d<A.n->(A.put (some d) v).get d=v)/\(∀ (A:Ac) (v:Value) (t:Tmp),(A.put none v).get t=A.get t):=
 ⟨fun A d t v h=>by rw[Ac.az];simp[h],fun A d v h=>by rw[Ac.az];simp[h],fun A v t=>by rw[Ac.az]⟩
theorem Aj {t:TypeId} {i:TI} (ht:D.ty.get t=some i) (hs:i.size=1) {g:H} {k o:Nat} {xs ys:List Value} {ty:TypeId} {v:Value} (hb:g.blk k=some (.cells xs ty none)) (hv:v.cells.toList=[v]) (h1:isOne v=true) (hl:o<xs.length) (hy:xs.take o++[v]++xs.drop (o+1)=ys):AO D t (aadd (own k) o) v g=some (g.aa k (.cells ys ty none)):=by
 unfold AO;simp only[ht,hs,hv];rw[<- hy];exact CX hb (by simp) (by simp only[W1];omega) (by simp[h1])
theorem AU {t:TypeId} {i:TI} (ht:D.ty.get t=some i) {g:H} {k:Nat} {xs ys:List Value} {ty:TypeId} (hb:g.blk k=some (.cells xs ty none)) (hs:i.size=ys.length) (hl:ys.length=xs.length) (h1:ys.all isOne=true) (hn:ys≠[]):AO D t (own k) (.agg ⟨ys⟩) g=some (g.aa k (.cells ys ty none)):=by
 unfold AO;have e:Nat.beq (Value.agg ⟨ys⟩).cells.toList.length i.size=true:=by
  rw[hs];exact V1 _
 simp only[ht,e];exact Eu hb hn hl h1
theorem Jl {h:H} {k:Nat} {B:Blk} (hm:h.mark<=k):h.aa k B=h.ak k B:=
 DN (h:=h.ak k B) (fun j hj=>by simp at hj;subst hj;exact hm)
theorem Ahd.aa {h g:H} (s:Ahd h g) {k:Nat} {B:Blk} (hB:B.plain=true) (hk:h.next<=k) (hg:k<g.next) (f:Fit h):Ahd h (g.aa k B):=by
 rw[Jl (by rw[s.mark];exact Y0 f.ok.2 hk)];exact s.ak hB hk hg f
end
theorem Ob:(∀ (α β:Type) (x:Option α) (f:α->Option β),(x >>= f)=x.bind f)/\(∀ (α β:Type) (f:α->Option β),Option.bind none f=none)/\(∀ (α β:Type) (a:α) (f:α->Option β),Option.bind (some a) f=f a):=⟨fun _ _ _ _=>rfl,fun _ _ _=>rfl,fun _ _ _ _=>rfl⟩
theorem Gs:type_of% (And.intro Gx (Sx)):=And.intro Gx (Sx)
theorem Gz:type_of% (And.intro @Ac.az (Sx)):=And.intro @Ac.az (Sx)
theorem Oi:type_of% (And.intro @Bk.eq_1 (And.intro @Bk.eq_2 (And.intro @Bk.eq_3 (And.intro @Bk.eq_4 (And.intro @Bk.eq_5 (And.intro @Bk.eq_6 (And.intro @Bk.eq_7 (And.intro @Bk.eq_8 (And.intro @Bk.eq_9 (And.intro @Bk.eq_10 (And.intro @Bk.eq_11 (And.intro @Bk.eq_12 (And.intro @Bk.eq_13 (And.intro @Bk.eq_14 (And.intro @Bk.eq_15 (And.intro @Bk.eq_16 (And.intro @Bk.eq_17 (@Bk.eq_18)))))))))))))))))):=And.intro @Bk.eq_1 (And.intro @Bk.eq_2 (And.intro @Bk.eq_3 (And.intro @Bk.eq_4 (And.intro @Bk.eq_5 (And.intro @Bk.eq_6 (And.intro @Bk.eq_7 (And.intro @Bk.eq_8 (And.intro @Bk.eq_9 (And.intro @Bk.eq_10 (And.intro @Bk.eq_11 (And.intro @Bk.eq_12 (And.intro @Bk.eq_13 (And.intro @Bk.eq_14 (And.intro @Bk.eq_15 (And.intro @Bk.eq_16 (And.intro @Bk.eq_17 (@Bk.eq_18)))))))))))))))))
theorem Ot:type_of% (And.intro Ox (And.intro Ob (Gs))):=And.intro Ox (And.intro Ob (Gs))
theorem Oy:type_of% (And.intro Oi (Ot)):=And.intro Oi (Ot)
theorem Ou:type_of% (And.intro Ox (And.intro Ob (Gz))):=And.intro Ox (And.intro Ob (Gz))
theorem Oz:type_of% (And.intro Oi (Ou)):=And.intro Oi (Ou)
theorem Cx:type_of% (And.intro @opv.eq_1 (And.intro @opv.eq_2 (And.intro @opv.eq_3 (And.intro @opv.eq_4 (Gs))))):=And.intro @opv.eq_1 (And.intro @opv.eq_2 (And.intro @opv.eq_3 (And.intro @opv.eq_4 (Gs))))
theorem Cz:type_of% (And.intro @opv.eq_1 (And.intro @opv.eq_2 (And.intro @opv.eq_3 (And.intro @opv.eq_4 (Gz))))):=And.intro @opv.eq_1 (And.intro @opv.eq_2 (And.intro @opv.eq_3 (And.intro @opv.eq_4 (Gz))))
section
variable {D:Tab} {E:Env} {I:Aa}
theorem Ws:type_of% (@Wc.seq):=@Wc.seq
theorem Wp:type_of% (@Wc.ops):=@Wc.ops
theorem Wn:type_of% (@Wc.dt):=@Wc.dt
theorem W2:type_of% (@Wc.dy):=@Wc.dy
theorem W3:type_of% (@Wc.skip):=@Wc.skip
theorem W4:type_of% (@Wc.ret):=@Wc.ret
theorem W5:type_of% (@Wc.exit):=@Wc.exit
theorem W6:type_of% (@Wc.block):=@Wc.block
theorem Rg:type_of% (@RO.bq):=@RO.bq
theorem Rs:type_of% (@RO.aw):=@RO.aw
theorem Wk {f:FuncId} {fn:Func} {body:Code} {args:List Value} {h:H} {Q:Value->H->Prop} (hI:I f args h=none) (hf:D.fn.get f=some fn) (hb:fn.body=some body)
  (w:∀ A0:Ac,A0.n=max args.length fn.ntmps->A0.defers=[]->(∀ i v,args[i]? = some v->A0.get i=v)->Wc D E I ⟨f,none⟩ body A0 h fun ex A h=>(ex=.normal\/ex=.ret)/\∃ h2 v,Ay A.defers h=some h2/\ED D E fn A h2=some v/\Q v h2) :
  ∃ n v h',(ev D E I n).call f args h=some (v,h')/\Q v h':=by
 refine Wc.call hI hf hb (w _ rfl rfl (fun i v hv => ?_));show ((T.ofList args 0 .nil).get i).getD undef=v;have:=(O0.1 hv).1;rw[T.get_ofList,if_pos ⟨C2 _,by omega⟩,Nat.sub_zero,hv];rfl
end
theorem Ee {x:Nat} (h:x<256):IntKind.u8.wrap (x:Nat)=(x:Nat):=by
 simp only[IntKind.wrap,IntKind.bits,IntKind.signed];simp;omega
theorem QS {x:Nat} (h:x<9223372036854775808):IntKind.i64.wrap (x:Nat)=(x:Nat):=wrap64 (by omega) (by omega)
theorem NI (c m:Nat) (h:c<256) (hm:m<256):IntKind.u8.wrap (((BitVec.ofInt IntKind.u8.bits (c:Int) &&& BitVec.ofInt IntKind.u8.bits (m:Int)).toNat:Nat):Int)=((c &&& m:Nat):Int):=by
 have e:(BitVec.ofInt IntKind.u8.bits (c:Int) &&& BitVec.ofInt IntKind.u8.bits (m:Int)).toNat=c &&& m:=by
  rw[Y5,Y5,BitVec.toNat_and,F6,F6];rw[show 2 ^ IntKind.u8.bits=256 from rfl,L4 h,L4 hm]
 rw[e];exact Ee (Nat.lt_of_le_of_lt Nat.and_le_left h)
theorem ACN (c:Nat) (h:c<256):IntKind.u8.wrap (((BitVec.ofInt IntKind.u8.bits (c:Int) &&& BitVec.ofInt IntKind.u8.bits 127).toNat:Nat):Int)=((c % 128:Nat):Int):=by
 have:=NI c 127 h (by omega);rw[show c &&& 127=c % 128 from F7 c 7] at this;exact this
theorem AEe (c:Nat) (h:c<256):IntKind.u8.wrap (((BitVec.ofInt IntKind.u8.bits (c:Int) &&& BitVec.ofInt IntKind.u8.bits 63).toNat:Nat):Int)=((c % 64:Nat):Int):=by
 have:=NI c 63 h (by omega);rw[show c &&& 63=c % 64 from F7 c 6] at this;exact this
theorem ACL:∀ c:Nat,c<256->c &&& 64=64*(c / 64 % 2):=by decide +kernel
theorem AAR:∀ c:Nat,c<256->c &&& 128=128*(c / 128):=by decide +kernel
theorem AEd (c:Nat) (h:c<256):IntKind.u8.wrap (((BitVec.ofInt IntKind.u8.bits (c:Int) &&& BitVec.ofInt IntKind.u8.bits 64).toNat:Nat):Int)=((64*(c / 64 % 2):Nat):Int):=by
 have:=NI c 64 h (by omega);rw[ACL c h] at this;exact this
theorem ACM (c:Nat) (h:c<256):IntKind.u8.wrap (((BitVec.ofInt IntKind.u8.bits (c:Int) &&& BitVec.ofInt IntKind.u8.bits 128).toNat:Nat):Int)=((128*(c / 128):Nat):Int):=by
 have:=NI c 128 h (by omega);rw[AAR c h] at this;exact this
theorem YS (i:Nat):128 ^ i=2 ^ (7*i):=by rw[Nat.pow_mul]
theorem MK {i j:Nat} (h:i<=j):128 ^ i<=128 ^ j:=Nat.pow_le_pow_right (by decide) h
theorem AFk (m i:Nat) (hm:m<128) (hi:i<=5):DF .shl .i64 (m:Nat) ((7*i:Nat):Int)=some (.int .i64 ((m*128 ^ i:Nat):Int)):=by
 show some (Value.int .i64 (IntKind.i64.wrap ((m:Int)*2 ^ min (7*i) IntKind.i64.bits)))=_;have e:min (7*i) IntKind.i64.bits=7*i:=by
  show min (7*i) 64=7*i;omega
 rw[e];have e2:(m:Int)*2 ^ (7*i)=((m*128 ^ i:Nat):Int):=by
  rw[YS];push_cast;rfl
 have h1:=MK hi;have h2:m*128 ^ i<=127*128 ^ 5:=Nat.mul_le_mul (by omega) h1;rw[e2,QS (by omega)]
theorem or7 (x m i:Nat) (hx:x<128 ^ i) (hm:m<128) (hi:i<=5):IntKind.i64.wrap (((BitVec.ofInt IntKind.i64.bits (x:Int) ||| BitVec.ofInt IntKind.i64.bits ((m*128 ^ i:Nat):Int)).toNat:Nat):Int)=((x+m*128 ^ i:Nat):Int):=by
 have h1:=MK hi;have h2:m*128 ^ i<=127*128 ^ 5:=Nat.mul_le_mul (by omega) h1;have e:(BitVec.ofInt IntKind.i64.bits (x:Int) ||| BitVec.ofInt IntKind.i64.bits ((m*128 ^ i:Nat):Int)).toNat=x+m*128 ^ i:=by
  rw[Y5,Y5,BitVec.toNat_or,F6,F6];rw[show 2 ^ IntKind.i64.bits=18446744073709551616 from rfl,L4 (by omega),L4 (by omega),Nat.or_comm];rw[YS] at hx ⊢;rw[Nat.mul_comm m,<- Nat.two_pow_add_eq_or_of_lt hx m,Nat.add_comm]
 rw[e,QS (by omega)]
def HP (S:List Nat):Nat->List Tch->Bool
 | _,[]=>true
 | i,t::ts=>(S.contains i||calm t)&&HP S (i+1) ts
theorem JD {S:List Nat}:∀ (ts:List Tch) (o i:Nat) (e:Tch),HP S o ts=true->ts[i]? = some e->S.contains (o+i)=false->calm e=true
 | [],_,_,_,_,h,_=>by simp at h
 | t::ts,o,0,e,hc,h,hs=>by
  simp at h;subst h;simp only[HP,K0] at hc;rw[E3] at hs;rw[hs,Bool.false_or] at hc;exact hc.1
 | t::ts,o,i+1,e,hc,h,hs=>by
  simp only[HP,K0] at hc;rw[E2] at h;exact JD ts (o+1) i e hc.2 h (by rw[show o+1+i=o+(i+1) by omega];exact hs)
theorem Az {b:Array Nat} {ts:List Tch} (S:List Nat) (n:Nat) (U:List (Nat×Nat)) (hn:ts.length=n) (hc:HP S 0 ts=true) (hp:((List.range n).all fun i=>(List.range n).all fun j => !(Nat.blt i j) || !(S.contains i||S.contains j)||ordered b i j||U.contains (i,j))=true)
  (hU:∀ i j s t,(i,j)∈U->ts[i]? = some s->ts[j]? = some t->meets s t=true):DB b ts=true:=by
 refine Fh S (fun i e hi hs=>JD ts 0 i e hc hi (by rw[Z1];exact hs)) (fun i j s t hij hs w1 w2 ho => ?_);have hj:j<n:=by rw[<- hn];exact (O0.1 w2).1
 exact hU i j s t (Km hp hij hj hs ho) w1 w2
theorem Ah {b:Array Nat} {ts:List Tch} (S:List Nat) (n:Nat) (hn:ts.length=n) (hc:HP S 0 ts=true) (hp:((List.range n).all fun i=>(List.range n).all fun j => !(Nat.blt i j) || !(S.contains i||S.contains j)||ordered b i j||([]:List (Nat×Nat)).contains (i,j))=true):DB b ts=true:=
 Az S n [] hn hc hp (fun _ _ _ _ h=>by cases h)
theorem QB {D:Tab} {E:Env} {h:H} {base:Nat} {t t2 e:TypeId} {sz by_ n kx c i6 i7:Nat} {i8:Option Value} {i9:Bool} {s ze:Value} {xs cs:List Value} {ro:Option Nat} (f:Fit h) (hbn:base<=h.next) (ap:Ap2 h base e sz s n xs ro)
  (ht:D.ty.get t=some ⟨.slice e sz by_,i6,i7,i8,i9⟩) (hz:Ak D e=some ze) (hzz:(Nat.beq ze.cells.toList.length sz&&Nat.blt 0 sz&&ze.cells.toList.all isOne)=true) (hzt:Ax D t2 (.slice (some (own kx)) 1 c)=some false)
  (hx:h.cells E (own kx) sz=some cs) (hcl:cs.length=sz) (hc1:cs.all isOne=true) (hrm:roomy (n+1) by_=true) :
  ∃ s' h' ro',Ab D E t t2 s (.slice (some (own kx)) 1 c) h=some (s',h')/\Ap2 h' base e sz s' (n+1) (xs++cs) ro'/\Ys base ro h h'/\(ro=none/\ro'=some h.next\/ro≠none/\ro'=ro)/\s'=.slice (some (own h.next)) (n+1) (n+1)/\h'.next=h.next+1/\(∀ j∈h'.chain (ro'.getD 0),j=h.next\/∃ ys ty p,h'.dyn.get j=some (.cells ys ty (some (ro'.getD 0,p)))/\p+ys.length<=n*sz):=by
 have hel:BO E sz ze.cells.toList (.slice (some (own kx)) 1 c) h=some (1,cs):=by
  simp only[BO,C6,hx]
 have hbl:Nat.beq cs.length (1*sz)=true:=by rw[C6,hcl];exact V1 sz
 have hsz:0<sz:=by
  simp only[K0,P0] at hzz;exact hzz.1.2
 rcases ap with⟨rfl,rfl,rfl,rfl⟩|⟨k,r,rfl,hb,hl,h1,hbr,hrx,hch,rfl⟩
 ·refine⟨.slice (some (own h.next)) 1 1,h.af cs e,some h.next,?_,.inr ⟨h.next,h.next,rfl,?_,?_,?_,hbn,I5 _,?_,rfl⟩,⟨Db f,fun k B hb _=>Da f hb,rfl,rfl,U1 _,fun r hr => ?_⟩,.inl ⟨rfl,rfl⟩,rfl,rfl,fun j hj=>.inl (by simpa only[H.chain,H.af,T.get_set_same,Option.getD,H1] using hj)⟩
  ·unfold Ab;rw[ht];simp only[hz,hzt,hzz,hel,hbl,hrm]
  ·exact Bg
  ·rw[V0];simp[hcl]
  ·rw[V0];exact hc1
  ·intro j hj;simp only[H.chain,H.af,T.get_set_same,Option.getD,H1] at hj;subst hj;exact⟨cs,e,0,T.get_set_same _ _ _,by simp[hcl]⟩
  ·simp only[H.chain,H.af];rw[T.get_set_ne _ _ _ _ (by omega)]
 ·have hkn:=f.lt hb;have hd:=H.ae hb;have hrn:=f.ok.1 _ _ _ _ _ hd;have hgr:h.grow e r (0+(own k).off) (n*sz) (own k).block (xs.drop (own k).off) cs={ h with next:=h.next+1,dyn:=h.dyn.set h.next (.cells (xs++cs) e (some (r,0))),chains:=h.chains.set r (h.next::h.spare r k (0+n*sz) (0+n*sz+cs.length)) }:=by
   unfold H.grow;simp only[own,E3,F2];have hgone:h.gone r k (0+n*sz) (0+n*sz+cs.length)=[]:=by
    rw[J5];intro j hj;obtain⟨hj1,hj2⟩:=Fd.1 hj;obtain⟨ys,ty,p,hd,hle⟩:=hch j hj1;unfold H.ay at hj2;split at hj2
    ·cases hj2
    ·rw[hd] at hj2;simp only[K0,P0] at hj2;omega
   rw[hgone];exact Cr _
  generalize hg:({ h with next:=h.next+1,dyn:=h.dyn.set h.next (.cells (xs++cs) e (some (r,0))),chains:=h.chains.set r (h.next::h.spare r k (0+n*sz) (0+n*sz+cs.length)) }:H)=g at hgr;have hcr:g.chain r=h.next::h.spare r k (0+n*sz) (0+n*sz+cs.length):=by
   rw[<- hg];simp only[H.chain,T.get_set_same,Option.getD]
  have hcn:∀ r',r'≠r->g.chain r'=h.chain r':=by
   intro r' hr';rw[<- hg];simp only[H.chain];rw[T.get_set_ne _ _ _ _ hr']
  have hgn:g.next=h.next+1:=by rw[<- hg]
  have hnew:g.blk h.next=some (.cells (xs++cs) e (some (r,0))):=by
   have hdd:g.dyn.get h.next=some (.cells (xs++cs) e (some (r,0))):=by rw[<- hg];exact T.get_set_same _ _ _
   unfold H.blk;rw[hdd];simp only[hcr,E6,beq_self_eq_true,Bool.true_or]
  have hold:∀ j,j≠h.next->g.dyn.get j=h.dyn.get j:=by
   intro j hj;rw[<- hg];exact T.get_set_ne _ _ _ _ hj
  refine⟨.slice (some (own h.next)) (n+1) (n+1),g,some r,?_,.inr ⟨h.next,r,rfl,hnew,?_,?_,hbr,by rw[hgn];omega,?_,rfl⟩,⟨⟨fun j hj => ?_,fun j ys ty r' p hd' => ?_,?_⟩,?_,?_,?_,?_,?_⟩,.inr ⟨by simp,rfl⟩,rfl,hgn,fun j hj => ?_⟩
  ·unfold Ab;rw[ht];simp only[hz,hzt,hzz,hel,hbl,hrm];have e1:(own k).spot=some 0:=rfl;have e2:(own k).block=k:=rfl;have e3:(own k).off=0:=rfl;have e4:Nat.ble (n+1) n=false:=by
    cases hq:Nat.ble (n+1) n
    ·rfl
    ·rw[Z0] at hq;omega
   simp only[e1,e2,hb,e4];have e5:(Nat.beq n n&&Nat.beq ((own k).off+n*sz) xs.length&&Nat.beq e e&&(xs.drop (own k).off).all isOne&&Nat.ble (own k).off xs.length)=true:=by
    rw[e3,Z1,hl,F2,h1,V1,V1,V1];simp[Nat.ble]
   simp only[e5];rw[<- hgr];rfl
  ·rw[D0,hl,hcl];rw[U3,C6]
  ·rw[J4,h1,hc1];rfl
  ·intro j hj;rw[hcr] at hj;rcases O1.1 hj with rfl|hj
   ·exact⟨xs++cs,e,0,H.ae hnew,by rw[D0,hl,hcl,U3,C6];omega⟩
   ·obtain⟨ys,ty,p,hd,hle⟩:=hch j (BS.1 hj).1;have hjn:j≠h.next:=by
     intro e;subst e;rw[f.free _ (C0 _)] at hd;cases hd
    refine⟨ys,ty,p,by rw[hold j hjn];exact hd,?_⟩;rw[U3];omega
  ·rw[hgn] at hj;rw[hold j (by omega)];exact f.free j (by omega)
  ·rw[hgn];by_cases hj:j=h.next
   ·subst hj;have:=H.ae hnew;rw[this] at hd'; cases hd'; omega
   ·rw[hold j hj] at hd';have:=f.ok.1 _ _ _ _ _ hd'; omega
  ·rw[hgn];have:=f.ok.2;rw[<- hg];exact O6 this
  ·intro j B hbj hro;have hjn:=f.lt hbj;rw[<- hbj];refine Ar (hold j (by omega)) (fun ys u r' q hd' => ?_);have:B=.cells ys u (some (r',q)):=by
    have:=H.ae hbj;rw[hd'] at this;cases this;rfl
   have hne:=hro _ _ _ _ this;rw[hcn r' (fun h=>hne (by rw[h]))]
  ·rw[<- hg]
  ·rw[<- hg]
  ·rw[hgn];omega
  ·intro r' hr';exact hcn r' (by omega)
  ·simp only[Option.getD] at hj ⊢;rw[hcr] at hj;rcases O1.1 hj with rfl|hj
   ·exact .inl rfl
   ·obtain⟨ys,ty,p,hd,hle⟩:=hch j (BS.1 hj).1;have hjn:j≠h.next:=by
     intro e;subst e;rw[f.free _ (C0 _)] at hd;cases hd
    exact .inr ⟨ys,ty,p,by rw[hold j hjn];exact hd,hle⟩
theorem TC {g:H} {k r0 o:Nat} {vs xs:List Value} {e:TypeId} (f:Fit g) (hb:g.blk k=some (.cells xs e (some (r0,0)))) (hch:∀ j∈g.chain r0,j=k\/∃ ys ty p,g.dyn.get j=some (.cells ys ty (some (r0,p)))/\p+ys.length<=o) (hv:vs≠[]) (hl:o+vs.length<=xs.length) (h1:vs.all isOne=true) :
  ∃ q,(fresh g).put (aadd (own k) o) vs=some q/\q.log=[k]/\q.next=g.next/\Fit (back g q)/\(back g q).blk k=some (.cells (xs.take o++vs++xs.drop (o+vs.length)) e (some (r0,0)))/\(∀ j,j≠k->(back g q).blk j=g.blk j)/\(∀ r,(back g q).chain r=g.chain r)/\(g.mark<=k->(back g q).log=g.log):=by
 have hkn:=f.lt hb;have hkc:(g.chain r0).contains k=true:=by
  have hd:=H.ae hb;unfold H.blk at hb;rw[hd] at hb;simp only at hb;split at hb
  ·assumption
  ·cases hb
 have hnh:∀ j∈g.chain r0,g.ay k (0+o) (0+o+vs.length) j=false:=by
  intro j hj;rcases hch j hj with rfl|⟨ys,ty,p,hd,hle⟩
  ·unfold H.ay;rw[V1]
  ·unfold H.ay;split
   ·rfl
   ·rw[hd];simp only;have:Nat.blt (0+o) (p+ys.length)=false:=by
     cases q:Nat.blt (0+o) (p+ys.length)
     ·rfl
     ·rw[P0] at q;omega
    rw[this];rfl
 have hsp:g.spare r0 k (0+o) (0+o+vs.length)=g.chain r0:=by
  unfold H.spare;rw[List.filter_eq_self];intro j hj;rw[hnh j hj];rfl
 have hgn:g.gone r0 k (0+o) (0+o+vs.length)=[]:=by
  unfold H.gone;rw[List.filter_eq_nil_iff];intro j hj;rw[hnh j hj];simp
 have hput:(fresh g).put (aadd (own k) o) vs=some (({ fresh g with dyn:=g.dyn.set k (.cells (xs.take o++vs++xs.drop (o+vs.length)) e (some (r0,0))),chains:=g.chains.set r0 (g.chain r0) }:H).note [k]):=by
  have hb':(fresh g).blk k=some (.cells xs e (some (r0,0))):=hb;have hsp':(fresh g).spare r0 k (0+o) (0+o+vs.length)=g.chain r0:=hsp;have hgn':(fresh g).gone r0 k (0+o) (0+o+vs.length)=[]:=hgn;unfold H.put;cases vs with
  | nil=>exact absurd rfl hv
  | cons v vs=>
   simp only[aadd,own,Z1,hb'] at hsp' hgn' ⊢;rw[h1,show Nat.ble (o+(v::vs).length) xs.length=true from by rw[Z0];exact hl];simp only[Bool.and_self,hsp',hgn'];rfl
 obtain⟨m,hm1,hm2⟩:∃ m,g.next=m+1/\k<=m:=by cases hn:g.next with|zero=>omega|succ m=>exact⟨m,rfl,by omega⟩
 have hble:Nat.ble k m=true:=by rw[Z0];exact hm2
 generalize hB:(Blk.cells (xs.take o++vs++xs.drop (o+vs.length)) e (some (r0,0)))=B at hput;have hq:(({ fresh g with dyn:=g.dyn.set k B,chains:=g.chains.set r0 (g.chain r0) }:H).note [k])={ g with dyn:=g.dyn.set k B,chains:=g.chains.set r0 (g.chain r0),mark:=g.next,log:=[k] }:=by
  unfold H.note;have:({ fresh g with dyn:=g.dyn.set k B,chains:=g.chains.set r0 (g.chain r0) }:H).mark=m+1:=hm1;rw[this];simp only[List.filter_cons,hble,if_true,List.filter_nil];rw[<- hm1];rfl
 rw[hq] at hput;generalize hqq:({ g with dyn:=g.dyn.set k B,chains:=g.chains.set r0 (g.chain r0),mark:=g.next,log:=[k] }:H)=q at hput;have hqn:q.next=g.next:=by rw[<- hqq]
 have hql:q.log=[k]:=by rw[<- hqq]
 have hqd:q.dyn=g.dyn.set k B:=by rw[<- hqq]
 have hqc:∀ r,q.chain r=g.chain r:=by
  intro r;rw[<- hqq];simp only[H.chain,T.get_set];split
  ·next h=>subst h;rfl
  ·rfl
 have hfq:Fit q:=by
  refine⟨fun j hj => ?_,⟨fun j ys ty r p hd => ?_,?_⟩⟩
  ·rw[hqn] at hj;rw[hqd,T.get_set_ne _ _ _ _ (by omega)];exact f.free j hj
  ·rw[hqn];rw[hqd] at hd;by_cases hj:j=k
   ·subst hj;rw[T.get_set_same,<- hB] at hd;cases hd;exact f.ok.1 _ _ _ _ _ (H.ae hb)
   ·rw[T.get_set_ne _ _ _ _ hj] at hd;exact f.ok.1 _ _ _ _ _ hd
  ·rw[<- hqq];exact C0 _
 refine⟨q,hput,hql,hqn,Gh f hfq (by rw[hqn];exact C0 _),?_,fun j hj => ?_,fun r=>by rw[DP];exact hqc r,fun hm => ?_⟩
 ·rw[BQ];have hdd:q.dyn.get k=some B:=by rw[hqd];exact T.get_set_same _ _ _
  unfold H.blk;rw[hdd,<- hB];simp only[hqc];rw[hkc]
 ·rw[BQ];refine Ar (by rw[hqd,T.get_set_ne _ _ _ _ hj]) (fun _ _ r _ _=>by rw[hqc])
 ·unfold back;rw[DN];intro j hj;rw[hql] at hj;obtain rfl:=H1.1 hj;exact hm
theorem Mod.df {M:Nat->Prop} {h g q:H} {base:Nat} {ro:Option Nat} (f:Fit h) (m:Mod M h g) (hb:h.next<=base) (hro:∀ r,ro=some r->base<=r) (t:Ys base ro g q):Mod M h q:=
 ⟨t.fit,fun k B hk hB=>t.keep k B (m.blk k B hk hB) (fun xs ty r p he hr=>by
  subst he;have h1:=f.ok.1 _ _ _ _ _ (H.ae hB);have:=hro r hr
  omega),t.mark.trans m.mark,Y0 m.next t.next,fun r hr=>(t.chain r (by omega)).trans (m.chain r hr),fun j hj=>by rw[t.log] at hj;exact m.log j hj⟩
section
variable {D:Tab} {E:Env} {ti:TypeId}
def Kol (E:Env) (ti:TypeId) (base top:Nat) (g:H) (sl:Value) (ks:List Item):Prop:=
 ∃ xs ro,Ap2 g base ti 4 sl ks.length xs ro/\Es E (only (fun r=>Nat.ble base r && !(ro == some r)) g) ks xs/\∀ r,ro=some r->base<=r/\r<top
theorem Kol.nil (base top:Nat) (g:H):Kol E ti base top g (.slice none 0 0) []:=⟨[],none,.inl ⟨rfl,rfl,rfl,rfl⟩,by rw[Es],fun _ h=>by cases h⟩
theorem Kol.mod {M:Nat->Prop} {base top:Nat} {g g':H} {sl:Value} {ks:List Item} (K:Kol E ti base top g sl ks) (f:Fit g) (m:Mod M g g') (hp:∀ k B,M k->g.blk k=some B->B.plain=true):Kol E ti base top g' sl ks:=by
 obtain⟨xs,ro,h1,h2,h3⟩:=K;exact⟨xs,ro,h1.mod m hp,BR (Dv f m hp (fun r h=>h)) h2,h3⟩
theorem Kol.slice {base top:Nat} {g:H} {sl:Value} {ks:List Item} (K:Kol E ti base top g sl ks):∃ b,sl=.slice b ks.length ks.length:=by
 obtain⟨xs,ro,h1,_⟩:=K;rcases h1 with⟨e,_,rfl,_⟩|⟨k,r,rfl,_⟩
 ·exact⟨none,by rw[e]⟩
 ·exact⟨_,rfl⟩
theorem Kol.up {base top top':Nat} {g:H} {sl:Value} {ks:List Item} (K:Kol E ti base top g sl ks) (h:top<=top'):Kol E ti base top' g sl ks:=by
 obtain⟨xs,ro,h1,h2,h3⟩:=K;exact⟨xs,ro,h1,h2,fun r hr=>⟨(h3 r hr).1,Q1 (h3 r hr).2 h⟩⟩
theorem Kol.rep {base top:Nat} {g:H} {sl:Value} {ks:List Item} (K:Kol E ti base top g sl ks) (f:Fit g) (hz:ks.length<1000000000) (k m:Int) (tx:ByteArray) {lo:Nat} (hlo:lo<=base):Hs.rep E (only (fun r=>Nat.ble lo r) g) (.mk k m tx ks) (.agg ⟨[.int .i64 k,.int .i64 m,.string tx,sl]⟩):=by
 obtain⟨xs,ro,h1,h2,h3⟩:=K;rw[Hs.rep];refine⟨sl,rfl,?_⟩;rcases h1 with⟨e1,_,e2,_⟩|⟨kk,r,q1,q2,q3,q4,q5,q6,q7,q8⟩
 ·exact .inl ⟨O3.1 e1,e2⟩
 ·refine .inr ⟨own kk,ks.length,xs,q1,⟨C0 _,by omega⟩,?_,?_⟩
  ·exact AG ((BN f).2 ⟨q2,_,_,_,_,rfl,by rw[Z0];omega⟩) q3 q4
  ·refine BR (Pi f (fun r hh => ?_)) h2;simp only[K0,Z0] at hh;rw[Z0];omega
def Aps (base:Nat) (g q:H):Prop:=∃ ro,(∀ r,ro=some r->base<=r)/\Ys base ro g q
theorem Aps.fit {base:Nat} {g q:H} (a:Aps base g q):Fit q:=by obtain⟨_,_,t⟩:=a;exact t.fit
theorem Aps.log {base:Nat} {g q:H} (a:Aps base g q):q.log=g.log:=by obtain⟨_,_,t⟩:=a;exact t.log
theorem Aps.keep {base:Nat} {g q:H} (a:Aps base g q) {k:Nat} {xs:List Value} {ty:TypeId} (hk:g.blk k=some (.cells xs ty none)):q.blk k=some (.cells xs ty none):=by
 obtain⟨_,_,t⟩:=a;exact t.keep k _ hk (fun _ _ _ _ he=>by cases he)
theorem Aps.mod {base:Nat} {g q:H} (a:Aps base g q) {M:Nat->Prop} {h:H} (f:Fit h) (hb:h.next<=base) (m:Mod M h g):Mod M h q:=by
 obtain⟨_,hr,t⟩:=a;exact m.df f hb hr t
theorem Aps.back {base:Nat} {g q:H} (f:Fit g) (a:Aps base (fresh g) q):Aps base g (Hs.back g q):=by
 obtain⟨ro,hr,t⟩:=a;have hl:q.log=[]:=t.log;exact⟨ro,hr,Gh f t.fit t.next,fun k B hB hro=>by rw[BQ];exact t.keep k B hB hro,P8 hl,Gg _ _,by rw[Au];exact t.next,fun r hr=>by rw[DP];exact t.chain r hr⟩
theorem Kol.fresh {base top:Nat} {g:H} {sl:Value} {ks:List Item} (K:Kol E ti base top g sl ks):Kol E ti base top (Hs.fresh g) sl ks:=by
 obtain⟨xs,ro,h1,h2,h3⟩:=K;exact⟨xs,ro,h1,BR (show BL (only _ g) (only _ (Hs.fresh g)) from fun _ _ h=>h) h2,h3⟩
theorem SU {p:Nat->Bool} {g:H} {t:Item} {v:Value} (h:Hs.rep E (only p g) t v):Hs.rep E (only p (Hs.fresh g)) t v:=AJ (show BL (only p g) (only p (Hs.fresh g)) from fun _ _ h=>h) h
theorem Tb {s t:Tch} {a b:Nat} (h1:s.writes=[a]) (h2:t.writes=[b]) (hne:a≠b) (r1:s.reads=some []) (r2:t.reads=some []) (ht:t.rooted=false) (hb:b<s.lo):meets s t=true:=by
 unfold meets;rw[h1,h2,r1,r2,ht];have e1:Nat.beq a b=false:=by
  cases q:Nat.beq a b
  ·rfl
  ·exact absurd (U0 q) hne
 have e2:Nat.blt b s.lo=true:=by rw[P0];exact hb
 simp[apart?,e1,e2]
theorem WV {t t2 by_ kx c i6 i7:Nat} {i8:Option Value} {i9:Bool} {ze:Value} {base top lo:Nat} {g:H} {sl:Value} {ks:List Item} {x:Item} {va vb vc vd:Value} (f:Fit g) (hbn:base<=g.next) (K:Kol E ti base top g sl ks) (htop:top<=lo) (hblo:base<=lo)
  (ht:D.ty.get t=some ⟨.slice ti 4 by_,i6,i7,i8,i9⟩) (hz:Ak D ti=some ze) (hzz:(Nat.beq ze.cells.toList.length 4&&Nat.blt 0 4&&ze.cells.toList.all isOne)=true) (hzt:Ax D t2 (.slice (some (own kx)) 1 c)=some false)
  (hr:Hs.rep E (only (fun r=>Nat.ble lo r) g) x (.agg ⟨[va,vb,vc,vd]⟩)) (hx:g.cells E (own kx) 4=some [va,vb,vc,vd]) (hone:[va,vb,vc,vd].all isOne=true) (hrm:roomy (ks.length+1) by_=true) :
  ∃ sl' q,Ab D E t t2 sl (.slice (some (own kx)) 1 c) g=some (sl',q)/\Kol E ti base q.next q sl' (ks++[x])/\Aps base g q/\q.next=g.next+1:=by
 obtain⟨xs,ro,h1,h2,h3⟩:=K;obtain⟨s',q,ro',happ,ap4,gw,hroo,hs',hqn,_⟩:=QB f hbn h1 ht hz hzz hzt hx rfl hone hrm;have hro':∀ r,r<g.next->(ro == some r)=false->(ro' == some r)=false:=by
  intro r a b;rcases hroo with⟨e1,e2⟩|⟨e1,e2⟩
  ·rw[e2];have:g.next≠r:=by omega
   simpa using this
  ·rw[e2];exact b
 have grow4:∀ (p:Nat->Bool),(∀ r,p r=true->Nat.ble base r=true/\(ro == some r)=false)->BL (only p g) (only (fun r=>Nat.ble base r && !(ro' == some r)) q):=by
  intro p hp kx B hb;obtain⟨e1,ys,ty,r,o,rfl,e2⟩:=(BN f).1 hb;have hrl:=f.ok.1 _ _ _ _ _ (H.ae e1);obtain⟨e3,e4⟩:=hp r e2;refine (BN gw.fit).2 ⟨gw.keep kx (.cells ys ty (some (r,o))) e1 ?_,ys,ty,r,o,rfl,?_⟩
  ·rintro _ _ _ _ he hr;cases he;rw[hr] at e4;simp at e4
  ·simp only[K0,C3];exact⟨e3,hro' r hrl e4⟩
 refine⟨s',q,happ,⟨xs++[va,vb,vc,vd],ro',by rw[D0];exact ap4,?_,fun r hr => ?_⟩,⟨ro,fun r hr=>(h3 r hr).1,gw⟩,hqn⟩
 ·refine ET (BR (grow4 _ (fun r hr=>by simpa using hr)) h2) (AJ (grow4 _ (fun r hr => ?_)) hr);rw[Z0] at hr;refine⟨by rw[Z0];omega,?_⟩;cases hh:ro with
  | none=>rfl
  | some r0=>
   have:=(h3 r0 hh).2;have hne:r0≠r:=by omega
   simpa using hne
 ·rcases hroo with⟨e1,e2⟩|⟨e1,e2⟩
  ·rw[e2] at hr;cases hr;exact⟨hbn,by omega⟩
  ·rw[e2] at hr;rcases h1 with⟨_,_,_,e3⟩|⟨_,rr,_,_,_,_,e5,e6,_,e8⟩
   ·exact absurd e3 e1
   ·rw[e8] at hr;cases hr;exact⟨e5,by omega⟩
def Room (E:Env) (ti:TypeId) (base lo nx:Nat) (g:H) (sl:Value) (ks:List Item):Prop:=
 ∃ k r xs zs,sl=.slice (some (own k)) (ks.length+1) (ks.length+1)/\g.blk k=some (.cells (xs++zs) ti (some (r,0)))/\xs.length=ks.length*4/\zs.length=4/\xs.all isOne=true/\base<=r/\r<g.next/\base<=k/\(∀ j∈g.chain r,j=k\/∃ ys ty p,g.dyn.get j=some (.cells ys ty (some (r,p)))/\p+ys.length<=ks.length*4)/\Es E (only (fun r'=>Nat.ble base r' && !(some r == some r')) g) ks xs/\∀ r',lo<=r'->r'<nx->r'≠r
theorem WW {t t2 by_ kx c i6 i7:Nat} {i8:Option Value} {i9:Bool} {ze:Value} {base top lo:Nat} {g:H} {sl:Value} {ks:List Item} {zs:List Value} (f:Fit g) (hbn:base<=g.next) (K:Kol E ti base top g sl ks) (htop:top<=lo)
  (ht:D.ty.get t=some ⟨.slice ti 4 by_,i6,i7,i8,i9⟩) (hz:Ak D ti=some ze) (hzz:(Nat.beq ze.cells.toList.length 4&&Nat.blt 0 4&&ze.cells.toList.all isOne)=true) (hzt:Ax D t2 (.slice (some (own kx)) 1 c)=some false)
  (hx:g.cells E (own kx) 4=some zs) (hlen:zs.length=4) (hone:zs.all isOne=true) (hrm:roomy (ks.length+1) by_=true) :
  ∃ sl' q,Ab D E t t2 sl (.slice (some (own kx)) 1 c) g=some (sl',q)/\Room E ti base lo g.next q sl' ks/\Aps base g q/\q.next=g.next+1/\sl'=.slice (some (own g.next)) (ks.length+1) (ks.length+1)/\∀ x v,Hs.rep E (only (fun r=>Nat.ble lo r) g) x v->Hs.rep E (only (fun r=>Nat.ble lo r&&Nat.blt r g.next) q) x v:=by
 obtain⟨xs,ro,h1,h2,h3⟩:=K;obtain⟨s',q,ro',happ,ap4,gw,hroo,hs',hqn,hch⟩:=QB f hbn h1 ht hz hzz hzt hx hlen hone hrm;have hxl:xs.length=ks.length*4/\xs.all isOne=true:=by
  rcases h1 with⟨e1,e2,_⟩|⟨_,_,_,_,e3,e4,_⟩
  ·rw[e1,e2];exact⟨rfl,rfl⟩
  ·exact⟨e3,e4⟩
 have hro':∀ r,r<g.next->(ro == some r)=false->(ro' == some r)=false:=by
  intro r a b;rcases hroo with⟨e1,e2⟩|⟨e1,e2⟩
  ·rw[e2];have:g.next≠r:=by omega
   simpa using this
  ·rw[e2];exact b
 have grow4:BL (only (fun r=>Nat.ble base r && !(ro == some r)) g) (only (fun r=>Nat.ble base r && !(ro' == some r)) q):=by
  intro kx B hb;obtain⟨e1,ys,ty,r,o,rfl,e2⟩:=(BN f).1 hb;have hrl:=f.ok.1 _ _ _ _ _ (H.ae e1);simp only[K0,C3] at e2;obtain⟨e3,e4⟩:=e2;refine (BN gw.fit).2 ⟨gw.keep kx (.cells ys ty (some (r,o))) e1 ?_,ys,ty,r,o,rfl,?_⟩
  ·rintro _ _ _ _ he hr;cases he;rw[hr] at e4;simp at e4
  ·simp only[K0,C3];exact⟨e3,hro' r hrl e4⟩
 subst hs';rcases ap4 with⟨e1,_⟩|⟨kk,r,q1,q2,q3,q4,q5,q6,q7,q8⟩
 ·omega
 have hkk:kk=g.next:=by
  simp only[Value.slice.injEq,Option.some.injEq,own,Addr.mk.injEq] at q1;exact q1.1.1.symm
 subst hkk;subst q8;refine⟨_,q,happ,⟨g.next,r,xs,zs,rfl,q2,hxl.1,hlen,hxl.2,q5,q6,hbn,hch,BR grow4 h2,fun r' a b e => ?_⟩,⟨ro,fun r hr=>(h3 r hr).1,gw⟩,hqn,rfl,fun x v hr=>AJ (fun j B hj => ?_) hr⟩
 ·subst e;rcases hroo with⟨_,e2⟩|⟨_,e2⟩
  ·cases e2;omega
  ·have:=(h3 _ e2.symm).2;omega
 ·obtain⟨e1,ys,ty,r',o,rfl,e2⟩:=(BN f).1 hj;have hrl:=f.ok.1 _ _ _ _ _ (H.ae e1);rw[Z0] at e2;refine (BN gw.fit).2 ⟨gw.keep j _ e1 (fun _ _ _ _ he hr => ?_),ys,ty,r',o,rfl,by rw[K0,Z0,P0];exact⟨e2,hrl⟩⟩;cases he;have:=(h3 _ hr).2;omega
theorem Room.back {base lo nx:Nat} {g q:H} {sl:Value} {ks:List Item} (R:Room E ti base lo nx q sl ks) (f:Fit g) (fq:Fit q) (hn:g.next<=q.next):Room E ti base lo nx (Hs.back g q) sl ks:=by
 obtain⟨k,r,xs,zs,e1,hb,hxl,hzl,hx1,hbr,hrn,hbk,hch,hrp,hne⟩:=R
 exact⟨k,r,xs,zs,e1,by rw[BQ];exact hb,hxl,hzl,hx1,hbr,by rw[Au];exact hrn,hbk,fun j hj=>by
  rw[DP] at hj;rw[Cs];exact hch j hj,BR (FK f fq hn _) hrp,hne⟩
theorem WX {base lo nx:Nat} {g:H} {sl:Value} {ks:List Item} {x:Item} {va vb vc vd:Value} (f:Fit g) (R:Room E ti base lo nx g sl ks) (hblo:base<=lo) (hr:Hs.rep E (only (fun r=>Nat.ble lo r&&Nat.blt r nx) g) x (.agg ⟨[va,vb,vc,vd]⟩)) (hone:[va,vb,vc,vd].all isOne=true) :
  ∃ k q,sl=.slice (some (own k)) (ks.length+1) (ks.length+1)/\(fresh g).put (aadd (own k) (ks.length*4)) [va,vb,vc,vd]=some q/\q.log=[k]/\q.next=g.next/\base<=k/\k<g.next/\Kol E ti base g.next (back g q) sl (ks++[x])/\Fit (back g q)/\(∀ j,j≠k->(back g q).blk j=g.blk j)/\∀ M h,Fit h->h.next<=base->Mod M h g->Mod M h (back g q):=by
 obtain⟨k,r,xs,zs,rfl,hb,hxl,hzl,hx1,hbr,hrn,hbk,hch,hrp,hne⟩:=R;have hkn:=f.lt hb;obtain⟨q,hput,hql,hqn,hqf,hqb,hqo,hqc,hqlog⟩:=TC (o:=ks.length*4) (vs:=[va,vb,vc,vd]) f hb hch (by simp) (by rw[D0,hxl,hzl];exact C0 _) hone;have hys:(xs++zs).take (ks.length*4)++[va,vb,vc,vd]++(xs++zs).drop (ks.length*4+[va,vb,vc,vd].length)=xs++[va,vb,vc,vd]:=by
  rw[<- hxl,List.take_left,P5 (by rw[D0,hzl];exact C0 _),X0]
 rw[hys] at hqb;have hyl:(xs++[va,vb,vc,vd]).length=(ks.length+1)*4:=by
  rw[D0,hxl,U3];rfl
 have hdyn:∀ j,j≠k->(back g q).dyn.get j=g.dyn.get j:=by
  intro j hj;rw[Cs];unfold H.put at hput;simp only[aadd,own,Z1] at hput;rw[show (fresh g).blk k=some (.cells (xs++zs) ti (some (r,0))) from hb] at hput;simp only at hput;split at hput
  ·cases hput;rw[H.au];exact T.get_set_ne _ _ _ _ hj
  ·cases hput
 have grow:∀ (p p':Nat->Bool),(∀ r',p r'=true->p' r'=true)->(∀ j B,(only p g).blk j=some B->∃ ys ty r' o,B=.cells ys ty (some (r',o))/\r'≠r)->BL (only p g) (only p' (back g q)):=by
  intro p p' hp hne j B hj;obtain⟨ys,ty,r',o,rfl,hrr⟩:=hne j B hj;obtain⟨e1,_,_,_,_,he,e2⟩:=(BN f).1 hj;cases he;refine (BN hqf).2 ⟨?_,ys,ty,r',o,rfl,hp _ e2⟩;rw[hqo j ?_]
  ·exact e1
  ·intro e;subst e;rw[hb] at e1;cases e1;exact hrr rfl
 have gsub:∀ j B,(only (fun r'=>Nat.ble base r' && !(some r == some r')) g).blk j=some B->∃ ys ty r' o,B=.cells ys ty (some (r',o))/\r'≠r:=by
  intro j B hj;obtain⟨_,ys,ty,r',o,rfl,e2⟩:=(BN f).1 hj;refine⟨ys,ty,r',o,rfl,fun e => ?_⟩;subst e;simp at e2
 refine⟨k,q,rfl,hput,hql,hqn,hbk,hkn,⟨xs++[va,vb,vc,vd],some r,?_,?_,fun r' hr'=>by cases hr'; exact⟨hbr,hrn⟩⟩,hqf,hqo,fun M h fh hhb m => ?_⟩
 ·rw[D0];refine .inr ⟨k,r,rfl,hqb,hyl,by rw[J4,hx1,hone];rfl,hbr,by rw[Au,hqn];exact hrn,fun j hj => ?_,rfl⟩;rw[hqc] at hj;by_cases hjk:j=k
  ·subst hjk;exact⟨_,ti,0,H.ae hqb,by rw[Z1,hyl];exact C0 _⟩
  ·rcases hch j hj with h|⟨ys,ty,p,hd,hle⟩
   ·exact absurd h hjk
   ·refine⟨ys,ty,p,by rw[hdyn j hjk];exact hd,?_⟩;simp only[W1];omega
 ·refine ET (BR (grow _ _ (fun r' h=>h) gsub) hrp) (AJ ?_ hr);intro j B hj;obtain⟨e1,ys,ty,r',o,rfl,e2⟩:=(BN f).1 hj;have hrr:r'≠r:=by
   rw[K0,Z0,P0] at e2;exact hne r' e2.1 e2.2
  refine (BN hqf).2 ⟨?_,ys,ty,r',o,rfl,?_⟩
  ·rw[hqo j ?_]
   ·exact e1
   ·intro e;subst e;rw[hb] at e1;cases e1;exact hrr rfl
  ·simp only[K0,Z0,P0,C3] at e2 ⊢;refine⟨by omega,?_⟩;have:r≠r':=fun e=>hrr e.symm;simpa using this
 ·refine⟨hqf,fun j B hj hB => ?_,(Gg _ _).trans m.mark,by rw[Au,hqn];exact m.next,fun r' hr'=>(hqc r').trans (m.chain r' hr'),fun j hj => ?_⟩
  ·by_cases hjk:j=k
   ·subst hjk;have h1:=m.blk _ _ hj hB;rw[hb] at h1;cases h1;have:=fh.ok.1 _ _ _ _ _ (H.ae hB);omega
   ·rw[hqo j hjk];exact m.blk _ _ hj hB
  ·rw[hqlog (by rw[m.mark];have:=fh.ok.2;omega)] at hj;exact m.log j hj
theorem FQ.ef {v:Ev} {ops:Array Oper} {j:Nat} {o:Oper} {rest:List Oper} {A:Ac} {h:H} {x:Value} {Q:Ac->H->List Tch->Prop} (hg:o.guard=none) (ho:BC D E v A o (fresh h)=some (x,fresh h))
  (r:FQ D E v ops (j+1) rest (A.put o.dst x) h (fun A' h' ts=>Q A' h' (⟨reads D A o,[],h.next,h.next,rootedStore A h o.op⟩::ts))):FQ D E v ops j (o::rest) A h Q:=by
 obtain⟨A',h',ts,h2,hq⟩:=r;refine⟨A',h',_,?_,hq⟩;have ho':BC D E v A o { h with mark:=h.next,log:=[] }=some (x,fresh h):=ho;have hn:Nat.beq (fresh h).next h.next=true:=V1 _;simp only[BA,Ai hg,ho',hn,Bool.or_true,Bool.true_or];have h2':BA D E v ops (j+1) rest (A.put o.dst x) ({ (fresh h) with mark:=h.mark,log:=h.log }.note (fresh h).log)=some (A',h',ts):=by
  have e:({ (fresh h) with mark:=h.mark,log:=h.log }:H).note (fresh h).log=h:=Bq h;rw[e];exact h2
 rw[h2'];rfl
end
inductive Rd (α:Type) where
 | ok (v:α) (pos items:Nat)
 | bad (pos:Nat) (e:Int)
def rdNum (bs:List UInt8) (least most frm items:Nat):Nat->Nat->Nat->Nat->Rd Nat
 | 0,_,_,_=>.bad frm 3
 | k+1,i,pos,n=>match bs[pos]? with
  | none=>.bad pos 4
  | some c=>
   if 128<=c.toNat then rdNum bs least most frm items k (i+1) (pos+1) (n+c.toNat % 128*128 ^ i)
   else if c.toNat=0/\0<i then .bad frm 4
   else if most<n+c.toNat % 128*128 ^ i then .bad frm 3
   else if n+c.toNat % 128*128 ^ i<least then .bad frm 4
   else .ok (n+c.toNat % 128*128 ^ i) (pos+1) items
def rdN (bs:List UInt8) (least most pos items:Nat):Rd Nat:=rdNum bs least most pos items 6 0 pos 0
def Du (bs:List UInt8) (pos items:Nat):Rd ByteArray:=
 match rdN bs 1 4096 pos items with
 | .bad p e=>.bad p e
 | .ok n p items=>if bs.length-p<n then .bad bs.length 4 else .ok ⟨⟨(bs.drop p).take n⟩⟩ (p+n) items
def rdKids (rec:Nat->Nat->Rd Item):Nat->List Item->Nat->Nat->Rd (List Item)
 | 0,acc,pos,items=>.ok acc pos items
 | n+1,acc,pos,items=>match rec pos items with
  | .bad p e=>.bad p e
  | .ok t p items=>rdKids rec n (acc++[t]) p items
def CK (bs:List UInt8) (rec:Nat->Nat->Rd Item) (pos items:Nat):Rd (List Item):=
 match rdN bs 1 5000 pos items with
 | .bad p e=>.bad p e
 | .ok n p items=>rdKids rec n [] p items
def rdItem (bs:List UInt8):Nat->Nat->Nat->Rd Item
 | 0,pos,_=>match bs[pos]? with
  | none=>.bad pos 4
  | some _=>.bad pos 11
 | f+1,pos,items=>match bs[pos]? with
  | none=>.bad pos 4
  | some hd=>
   if 5000<=items then .bad pos 2
   else if hd.toNat % 64=0 then .bad pos 4
   else match rdN bs 0 1099511627776 (pos+1) (items+1) with
    | .bad p e=>.bad p e
    | .ok n p items=>match (if hd.toNat / 64 % 2=1 then Du bs p items else .ok ⟨⟨[]⟩⟩ p items) with
     | .bad p e=>.bad p e
     | .ok tx p items=>match (if 128<=hd.toNat then CK bs (rdItem bs f) p items else .ok [] p items) with
      | .bad p e=>.bad p e
      | .ok ks p items=>.ok (.mk (hd.toNat % 64:Nat) (n:Nat) tx ks) p items
def ACm (bs:List UInt8):Rd Item:=
 if 65536<bs.length then .bad 0 11
 else match rdItem bs 250 0 0 with
  | .bad p e=>.bad p e
  | .ok t p items=>if p<bs.length then .bad p 4 else .ok t p items
/-! ### What is so of what is read -/
theorem PV {bs:List UInt8} {least most frm items:Nat}:∀ (k i pos n v p it:Nat),rdNum bs least most frm items k i pos n=.ok v p it->pos<p/\p<=bs.length/\v<=most/\least<=v/\it=items/\p<=pos+k
 | 0,_,_,_,_,_,_,h=>by cases h
 | k+1,i,pos,n,v,p,it,h=>by
  rw[rdNum] at h;split at h
  ·cases h
  ·next c hc=>
   have hlt:pos<bs.length:=(O0.1 hc).1;split at h
   ·obtain⟨h1,h2,h3,h4,h5,h6⟩:=PV _ _ _ _ _ _ _ h;exact⟨by omega,h2,h3,h4,h5,by omega⟩
   ·split at h
    ·cases h
    ·split at h
     ·cases h
     ·split at h
      ·cases h
      ·cases h;exact⟨by omega,by omega,by omega,by omega,rfl,by omega⟩
theorem MH {bs:List UInt8} {least most frm items:Nat}:∀ (k i pos n p:Nat) (e:Int),rdNum bs least most frm items k i pos n=.bad p e->pos<=bs.length->frm<=bs.length->(e=3\/e=4)/\p<=bs.length
 | 0,_,_,_,_,_,h,_,hf=>by cases h;exact⟨.inl rfl,hf⟩
 | k+1,i,pos,n,p,e,h,hp,hf=>by
  rw[rdNum] at h;split at h
  ·cases h;exact⟨.inr rfl,hp⟩
  ·next c hc=>
   have hlt:pos<bs.length:=(O0.1 hc).1;split at h
   ·exact MH _ _ _ _ _ _ h (by omega) hf
   ·split at h
    ·cases h;exact⟨.inr rfl,hf⟩
    ·split at h
     ·cases h;exact⟨.inl rfl,hf⟩
     ·split at h
      ·cases h;exact⟨.inr rfl,hf⟩
      ·cases h
theorem GQ {bs:List UInt8} {least most pos items v p it:Nat} (h:rdN bs least most pos items=.ok v p it):pos<p/\p<=bs.length/\v<=most/\least<=v/\it=items:=by
 obtain⟨h1,h2,h3,h4,h5,_⟩:=PV _ _ _ _ _ _ _ h;exact⟨h1,h2,h3,h4,h5⟩
theorem Nn {bs:List UInt8} {least most pos items p:Nat} {e:Int} (h:rdN bs least most pos items=.bad p e) (hp:pos<=bs.length):(e=3\/e=4)/\p<=bs.length:=MH _ _ _ _ _ _ h hp hp
theorem IW {bs:List UInt8} {pos items p it:Nat} {v:ByteArray} (h:Du bs pos items=.ok v p it):pos<p/\p<=bs.length/\v.data.toList.length<=4096/\1<=v.data.toList.length/\it=items:=by
 rw[Du] at h;split at h
 ·cases h
 ·next n q it' hn=>
  obtain⟨h1,h2,h3,h4,h5⟩:=GQ hn;split at h
  ·cases h
  ·next hl=>
   cases h;have hb:((bs.drop q).take n).length=n:=by
    rw[C5,Y3];omega
   refine⟨by omega,by omega,?_,?_,h5⟩
   ·show ((bs.drop q).take n).length<=4096;omega
   ·show 1<=((bs.drop q).take n).length;omega
theorem Qd {bs:List UInt8} {pos items p:Nat} {e:Int} (h:Du bs pos items=.bad p e) (hp:pos<=bs.length):(e=3\/e=4)/\p<=bs.length:=by
 rw[Du] at h;split at h
 ·next hn=>cases h;exact Nn hn hp
 ·split at h
  ·cases h;exact⟨.inr rfl,C0 _⟩
  ·cases h
def ACo (bs:List UInt8) (f:Nat) (rec:Nat->Nat->Rd Item):Prop:=
 (∀ pos items t p it,rec pos items=.ok t p it->pos<p/\p<=bs.length/\it=items+isz t/\it<=5000/\Cd t<=f/\Bu t)/\
 (∀ pos items p e,rec pos items=.bad p e->pos<=bs.length->(e=2\/e=3\/e=4\/e=11)/\p<=bs.length)
theorem IY {bs:List UInt8} {f:Nat} {rec:Nat->Nat->Rd Item} (R:ACo bs f rec):∀ (n:Nat) (acc:List Item) (pos items:Nat) (ks:List Item) (p it:Nat),rdKids rec n acc pos items=.ok ks p it->pos<=bs.length->items<=5000->goodL acc->lvlL acc 0<=f->
  pos<=p/\p<=bs.length/\it+iszL acc=items+iszL ks/\it<=5000/\lvlL ks 0<=f/\goodL ks/\ks.length=acc.length+n
 | 0,acc,pos,items,ks,p,it,h,hp,hi,hg,hl=>by
  rw[rdKids] at h;cases h;exact⟨C0 _,hp,rfl,hi,hl,hg,rfl⟩
 | n+1,acc,pos,items,ks,p,it,h,hp,hi,hg,hl=>by
  rw[rdKids] at h;split at h
  ·cases h
  ·next t q it' ht=>
   obtain⟨h1,h2,h3,h4,h5,h6⟩:=R.1 _ _ _ _ _ ht;obtain⟨g1,g2,g3,g4,g5,g6,g7⟩:=IY R n _ _ _ _ _ _ h h2 h4 (FF hg h6) (by rw[Io];omega);rw[De] at g3;rw[D0,W1] at g7;exact⟨by omega,g2,by omega,g4,g5,g6,by omega⟩
theorem Jq {bs:List UInt8} {f:Nat} {rec:Nat->Nat->Rd Item} (R:ACo bs f rec):∀ (n:Nat) (acc:List Item) (pos items:Nat) (p:Nat) (e:Int),rdKids rec n acc pos items=.bad p e->pos<=bs.length->(e=2\/e=3\/e=4\/e=11)/\p<=bs.length
 | 0,acc,pos,items,p,e,h,hp=>by cases h
 | n+1,acc,pos,items,p,e,h,hp=>by
  rw[rdKids] at h;split at h
  ·next hb=>cases h;exact R.2 _ _ _ _ hb hp
  ·next t q it' ht=>
   exact Jq R n _ _ _ _ _ h (R.1 _ _ _ _ _ ht).2.1
theorem GR (bs:List UInt8):∀ f,ACo bs f (rdItem bs f)
 | 0=>by
  refine⟨fun pos items t p it h => ?_,fun pos items p e h hp => ?_⟩
  ·rw[rdItem] at h;split at h<;>cases h
  ·rw[rdItem] at h;split at h
   ·cases h;exact⟨by simp,hp⟩
   ·cases h;exact⟨by simp,hp⟩
 | f+1=>by
  have R:=GR bs f;refine⟨fun pos items t p it h => ?_,fun pos items p e h hp => ?_⟩
  ·rw[rdItem] at h;split at h
   ·cases h
   ·next hd hhd=>
    split at h
    ·cases h
    ·next hit=>
     split at h
     ·cases h
     ·next hk=>
      split at h
      ·cases h
      ·next n p1 i1 hn=>
       obtain⟨a1,a2,a3,_,a5⟩:=GQ hn;split at h
       ·cases h
       ·next tx p2 i2 ht=>
        have ht':p1<=p2/\p2<=bs.length/\tx.data.toList.length<=4096/\i2=i1:=by
         split at ht
         ·obtain⟨b1,b2,b3,b4,b5⟩:=IW ht;exact⟨by omega,b2,b3,b5⟩
         ·cases ht;exact⟨C0 _,a2,C2 _,rfl⟩
        obtain⟨b1,b2,b3,b4⟩:=ht';split at h
        ·cases h
        ·next ks p3 i3 hks=>
         have hks':p2<=p3/\p3<=bs.length/\i3=i2+iszL ks/\i3<=5000/\lvlL ks 0<=f/\goodL ks:=by
          split at hks
          ·rw[CK] at hks;split at hks
           ·cases hks
           ·next m q i' hm=>
            obtain⟨c1,c2,c3,c4,c5⟩:=GQ hm;obtain⟨d1,d2,d3,d4,d5,d6,d7⟩:=IY R _ _ _ _ _ _ _ hks c2 (by omega) (by rw[goodL];trivial) (by rw[lvlL];omega);rw[iszL] at d3;exact⟨by omega,d2,by omega,d4,d5,d6⟩
          ·cases hks;exact⟨C0 _,b2,by rw[iszL];omega,by omega,by rw[lvlL];omega,by rw[goodL];trivial⟩
         obtain⟨c1,c2,c3,c4,c5,c6⟩:=hks';cases h;refine⟨by omega,c2,by rw[isz];omega,c4,by rw[Cd];omega,?_⟩;rw[Bu];refine⟨by omega,by omega,by omega,by omega,b3,c6⟩
  ·rw[rdItem] at h;split at h
   ·cases h;exact⟨by simp,hp⟩
   ·next hd hhd=>
    have hlt:pos<bs.length:=(O0.1 hhd).1;split at h
    ·cases h;exact⟨by simp,hp⟩
    ·split at h
     ·cases h;exact⟨by simp,hp⟩
     ·split at h
      ·next hn=>
       cases h;have:=Nn hn (by omega);exact⟨by rcases this.1 with h|h<;>simp[h],this.2⟩
      ·next n p1 i1 hn=>
       obtain⟨a1,a2,a3,_,a5⟩:=GQ hn;split at h
       ·next ht=>
        cases h;split at ht
        ·have:=Qd ht a2;exact⟨by rcases this.1 with h|h<;>simp[h],this.2⟩
        ·cases ht
       ·next tx p2 i2 ht=>
        have b2:p2<=bs.length:=by
         split at ht
         ·exact (IW ht).2.1
         ·cases ht;exact a2
        split at h
        ·next hks=>
         cases h;split at hks
         ·rw[CK] at hks;split at hks
          ·next hm=>
           cases hks;have:=Nn hm b2;exact⟨by rcases this.1 with h|h<;>simp[h],this.2⟩
          ·next m q i' hm=>exact Jq R _ _ _ _ _ _ hks (GQ hm).2.1
         ·cases hks
        ·cases h
def dec:Value->Value
 | .slice (some a) n c=>match a.spot with
  | none=>.slice (some a) n c
  | some s=>.slice (some ⟨a.block,a.off,some (s+1)⟩) n c
 | v=>v
def EA (w:World):Env:=fun b o=>
 match w.cell? ⟨b,o,none⟩ with
 | some v=>match foV (dec v) with
  | true=>some (dec v)
  | false=>none
 | none=>none
theorem US {φ:Ph} {v:Value} (h:foV (dec v)=true):ren φ (dec v)=v:=by
 cases v with
 | slice b n c=>cases b with
  | none=>rfl
  | some a=>
   cases hs:a.spot with
   | none=>simp[dec,hs,ren,renA,extA]
   | some s=>
    simp only[dec,hs,ren,renA,extA,E3];rw[<- hs]
 | _=>exact (roV.ok φ (show roV _=true from h)).2
theorem Wj {w:World} {b o:Nat} {v:Value} (h:EA w b o=some v):b<w.heap.size/\w.cell? ⟨b,o,none⟩=some (ren (fun _=>none) v)/\foV v=true:=by
 unfold EA at h;split at h
 ·next x hx=>
  split at h
  ·next hf=>
   cases h;refine⟨?_,by rw[US hf];exact hx,hf⟩;simp only[World.cell?] at hx;split at hx
   ·next hb=>exact (Q6.1 hb).1
   ·cases hx
  ·cases h
 ·cases h
theorem Hy {w:World} {b o:Nat} {v:Value} (h:w.cell? ⟨b,o,none⟩=some v) (hf:foV (dec v)=true):EA w b o=some (dec v):=by
 unfold EA;simp only[h,hf]
theorem Fo {E:Env}:∀ (n m b o:Nat) (xs ys:List Value),Bm E b o n=some xs->Bm E b (o+n) m=some ys->Bm E b o (n+m)=some (xs++ys)
 | 0,m,b,o,xs,ys,h1,h2=>by
  simp only[Bm,Option.some.injEq] at h1;subst h1;rw[Z1];exact h2
 | n+1,m,b,o,xs,ys,h1,h2=>by
  simp only[Bm] at h1;split at h1
  ·next v hv=>
   split at h1
   ·next vs hvs=>
    cases h1;have:=Fo n m b (o+1) vs ys hvs (by rw[show o+1+n=o+(n+1) by omega];exact h2);rw[show n+1+m=(n+m)+1 by omega];simp only[Bm,hv,this,W0]
   ·cases h1
  ·cases h1
section
variable {H0:Type} {enc:TypeId×Value->H0} {P:Program} {w:World} {sp:Nat->Bool} {held:Bool} {ti tn ts tk:TypeId}
theorem Tz {l:List Value} (h:l.length=4):∃ a b c d,l=[a,b,c,d]:=by
 match l,h with
 | [a,b,c,d],_=>exact⟨a,b,c,d,rfl⟩
end
section
variable {H0:Type} {enc:TypeId×Value->H0} {P:Program} {w:World} {sp:Nat->Bool} {held:Bool} {ts te:TypeId}
theorem Yn {a:Addr} {cs:List Value} (h:w.cells? 0 a 1=some cs):∃ c0,cs=[c0]/\w.cell? a=some c0:=by
 simp only[World.cells?,C2,if_true,show List.range 1=[0] from rfl,List.mapM_cons,List.mapM_nil,Option.bind_eq_bind,N5] at h;obtain⟨c0,h0,l1,h1,h2⟩:=h;cases h1;cases h2;exact⟨c0,rfl,h0⟩
theorem LL (hs:P.underlying ts=some (.slice te)) (he:P.underlying te=some (.int .u8)) (hc:P.cellsOf te=1) (h:H) {fuel:Nat} {cs:List Value} {x:DataW H0×List MemPlace} (hx:DataW.trod enc P w 0 sp held fuel ts cs=some x) :
  ∃ c0,cs=[c0]/\foV (dec c0)=true/\∃ bs:List Int,(dec c0=.slice none 0 0/\bs=[])\/∃ a c,dec c0=.slice (some a) bs.length c/\bs.length<=c/\h.cells (EA w) a bs.length=some (bs.map (Value.int .u8))/\a.spot≠some 0:=by
 rcases DataW.trod_slice hs hx with⟨rfl,_⟩|⟨a,len,cap,elems,rest,n',hn,rfl,_,_,hlc,hcap,hel,hele,_⟩
 ·exact⟨_,rfl,rfl,[],.inl ⟨rfl,rfl⟩⟩
 ·have hd:∃ a',dec (.slice (some a) len cap)=.slice (some a') len cap/\foV (.slice (some a') len cap)=true/\(a.spot=none->a'=a)/\a'.spot≠some 0:=by
   unfold dec;cases hsp:a.spot with
   | none=>exact⟨a,by simp only[hsp],by simp only[foV,hsp],fun _=>rfl,by rw[hsp];simp⟩
   | some s=>exact⟨⟨a.block,a.off,some (s+1)⟩,by simp only[hsp],rfl,(fun h=>by cases h),by simp⟩
  obtain⟨a',hda,hfa,haa,hsa⟩:=hd;refine⟨_,rfl,by rw[hda];exact hfa,?_⟩;have each:∀ i,i<len->a.spot=none/\∃ k:Int,EA w a.block (a.off+i)=some (.int .u8 k):=by
   intro i hi;have hb:=hele i hi;rw[hc,V2,Q0 (by omega),N5] at hb;obtain⟨ci,h1,h2⟩:=hb;obtain⟨d0,rfl,q0⟩:=Yn h1;obtain⟨k,k1,_⟩:=DataW.trod_int he h2;replace k1:d0=.int .u8 k:=by simpa using k1
   subst k1;have hsp:a.spot=none:=by
    by_cases hi0:i=0
    ·rw[hi0] at q0;simp only[Addr.add,if_true,World.cell?] at q0;split at q0
     ·split at q0
      ·cases q0
      ·next hh=>simpa using hh
     ·cases q0
    ·have:=hele 0 (by omega);rw[hc,Q0 (by omega),N5] at this;obtain⟨c0,g1,_⟩:=this;obtain⟨_,_,q0⟩:=Yn g1;simp only[U5,Addr.add,if_true,World.cell?] at q0;split at q0
     ·split at q0
      ·cases q0
      ·next hh=>simpa using hh
     ·cases q0
   refine⟨hsp,k,?_⟩;have ha:a=⟨a.block,a.off,none⟩:=by cases a;simp_all
   rw[ha] at q0;simp only[Addr.add_plain] at q0;exact Hy q0 rfl
  have build:∀ j,j<=len->∃ bs:List Int,bs.length=j/\Bm (EA w) a.block a.off j=some (bs.map (Value.int .u8)):=by
   intro j;induction j with
   | zero=>intro _;exact⟨[],rfl,rfl⟩
   | succ j ihj=>
    intro hj;obtain⟨bs,g1,g3⟩:=ihj (by omega);obtain⟨_,k,g5⟩:=each j (by omega);refine⟨bs++[k],by simp[g1],?_⟩;rw[List.map_append];refine Fo _ _ _ _ _ _ g3 ?_;simp only[Bm,g5,one?,isOne,I3,List.map_nil]
  obtain⟨bs,g1,g3⟩:=build len (C0 _);refine⟨bs,.inr ⟨a',cap,by rw[hda,g1],by omega,?_,hsa⟩⟩;cases hle:len with
  | zero=>
   subst hle;obtain rfl:=O3.1 g1;rfl
  | succ m=>
   obtain⟨hsp,_⟩:=each 0 (by omega);rw[haa hsp,g1,hle];unfold H.cells;simp only[hsp];rw[<- hle];exact g3
end
section
variable {D:Tab} {E:Env}
theorem FQ.aw {v:Ev} {ops:Array Oper} {j:Nat} {o:Oper} {rest:List Oper} {A:Ac} {h:H} {Q:Ac->H->List Tch->Prop} {i:Nat} {w:Bool} {d:Tmp} (hg:o.guard=some (i,w)) (hd:(ops[i]?).bind (·.dst)=some d) (hv:A.get d=.bool (!w))
  (r:FQ D E v ops (j+1) rest (A.put o.dst undef) h (fun A' h' ts=>Q A' h' (⟨some [],[],h.next,h.next,false⟩::ts))):FQ D E v ops j (o::rest) A h Q:=by
 obtain⟨A',h',ts,h2,hq⟩:=r;refine⟨A',h',_,?_,hq⟩;have hw:Bo ops A o=false:=by
  unfold Bo;rw[hg];simp only[Br,hd,hv];cases w<;>rfl
 simp only[BA,hw,h2]
theorem FC.aw {v:Ev} {ops:Array Oper} {j:Nat} {o:Oper} {rest:List Oper} {A:Ac} {h:H} {Q:Ac->H->Prop} {i:Nat} {w:Bool} {d:Tmp} (hg:o.guard=some (i,w)) (hd:(ops[i]?).bind (·.dst)=some d) (hv:A.get d=.bool (!w))
  (r:FC D E v ops (j+1) rest (A.put o.dst undef) h Q):FC D E v ops j (o::rest) A h Q:=
 FQ.aw hg hd hv (r.mono fun _ _ _ ⟨a,b⟩=>⟨by rw[V3,a];rfl,b⟩)
def Byt (E:Env) (h:H) (v:Value) (bs:List UInt8):Prop:=(v=.slice none 0 0/\bs=[])\/∃ a c,v=.slice (some a) bs.length c/\bs.length<=c/\h.cells E a bs.length=some (bytesV bs)
theorem Byt.grow {h g:H} {v:Value} {bs:List UInt8} (b:Byt E h v bs) (hg:BL h g):Byt E g v bs:=by
 rcases b with b|⟨a,c,h1,h2,h3⟩
 ·exact .inl b
 ·exact .inr ⟨a,c,h1,h2,AV hg h3⟩
theorem Byt.slice {h:H} {v:Value} {bs:List UInt8} (b:Byt E h v bs):∃ a c,v=.slice a bs.length c:=by
 rcases b with⟨rfl,rfl⟩|⟨a,c,h1,_,_⟩
 ·exact⟨none,0,rfl⟩
 ·exact⟨some a,c,h1⟩
theorem AM (bs:List UInt8):(bytesV bs).length=bs.length:=by simp[bytesV]
theorem BF (bs:List UInt8):(bytesV bs).all isOne=true:=by
 rw[O2];intro v hv;simp only[bytesV,List.mem_map] at hv;obtain⟨b,_,rfl⟩:=hv;rfl
theorem Ca:∀ bs:List UInt8,allBytes (bytesV bs)=some bs
 | []=>rfl
 | b::bs=>by
  have e:bytesV (b::bs)=.int .u8 (b.toNat:Nat)::bytesV bs:=rfl;rw[e,allBytes,Ca bs];simp
theorem HQ {bs:List UInt8} {i:Nat} {c:UInt8} (h:bs[i]? = some c):(bytesV bs)[i]? = some (.int .u8 (c.toNat:Nat)):=by
 simp only[bytesV,J3,h,H6]
theorem Ff (bs:List UInt8) (p n:Nat):((bytesV bs).drop p).take n=bytesV ((bs.drop p).take n):=by
 simp only[bytesV,List.map_drop,List.map_take]
theorem Qz {h:H} {a:Addr} {n i:Nat} {cs:List Value} {v:Value} (hc:h.cells E a n=some cs) (hi:i<n) (hv:cs[i]? = some v):h.cell E (aadd a i)=some v:=by
 have h1:=BD hc (m:=i) (l:=1) (by omega);have hl:i<cs.length:=(O0.1 hv).1;have e:(cs.drop i).take 1=[v]:=by
  rw[H2 hl,U6,List.take_zero,(O0.1 hv).2]
 rw[e] at h1;generalize aadd a i=b at h1;obtain⟨k,o,sp⟩:=b
 match sp,h1 with
 | none,h1=>
  have h1:(match one? (E k o) with|some v=>(match some [] with|some vs=>some (v::vs)|none=>none)|none=>none:Option (List Value))=some [v]:=h1;show one? (E k o)=some v;split at h1
  ·next w hw=>
   cases h1;rw[hw]
  ·cases h1
 | some (_+1),h1=>cases h1
 | some 0,h1=>
  have h1:(match h.blk k with|some (.cells xs _ _)=>(match Nat.ble (o+1) xs.length&&((xs.drop o).take 1).all isOne with|true=>some ((xs.drop o).take 1)|false=>none)|_=>none:Option (List Value))=some [v]:=h1;show (match h.blk k with|some (.cells xs _ _)=>one? xs[o]? | _=>none)=some v;cases hb:h.blk k with
  | none=>rw[hb] at h1;cases h1
  | some B=>cases B with
   | cells xs ty rt=>
    rw[hb] at h1;simp only at h1 ⊢;split at h1
    ·next hh=>
     have h1:=Option.some.inj h1;simp only[K0,Z0] at hh;have hlt:o<xs.length:=by omega
     rw[H2 hlt,U6,List.take_zero] at h1 hh;simp only[List.cons.injEq,and_true] at h1;rw[Q0 hlt,h1];rw[h1] at hh;simp only[V3,List.all_nil,Bool.and_true] at hh;simp only[one?,hh.2]
    ·cases h1
   | _=>rw[hb] at h1;cases h1
end
theorem QA {D:Tab} {E:Env} {h:H} {base:Nat} {t t2 e:TypeId} {sz by_ n m c i6 i7:Nat} {ax:Addr} {i8:Option Value} {i9:Bool} {s ze:Value} {xs cs:List Value} {ro:Option Nat} (f:Fit h) (hbn:base<=h.next) (ap:Ap2 h base e sz s n xs ro)
  (ht:D.ty.get t=some ⟨.slice e sz by_,i6,i7,i8,i9⟩) (hz:Ak D e=some ze) (hzz:(Nat.beq ze.cells.toList.length sz&&Nat.blt 0 sz&&ze.cells.toList.all isOne)=true) (hzt:Ax D t2 (.slice (some ax) (m+1) c)=some false)
  (hx:h.cells E ax ((m+1)*sz)=some cs) (hcl:cs.length=(m+1)*sz) (hc1:cs.all isOne=true) (hrm:roomy (n+(m+1)) by_=true) :
  ∃ s' h' ro',Ab D E t t2 s (.slice (some ax) (m+1) c) h=some (s',h')/\Ap2 h' base e sz s' (n+(m+1)) (xs++cs) ro'/\Ys base ro h h'/\(ro=none/\ro'=some h.next\/ro≠none/\ro'=ro)/\∀ r',r'<h.next->ro≠some r'->h'.chain r'=h.chain r':=by
 have hel:BO E sz ze.cells.toList (.slice (some ax) (m+1) c) h=some (m+1,cs):=by
  simp only[BO,hx]
 have hbl:Nat.beq cs.length ((m+1)*sz)=true:=by rw[hcl];exact V1 _
 have hsz:0<sz:=by
  simp only[K0,P0] at hzz;exact hzz.1.2
 rcases ap with⟨rfl,rfl,rfl,rfl⟩|⟨k,r,rfl,hb,hl,h1,hbr,hrx,hch,rfl⟩
 ·rw[Z1] at hrm ⊢;refine⟨.slice (some (own h.next)) (m+1) (m+1),h.af cs e,some h.next,?_,.inr ⟨h.next,h.next,rfl,?_,?_,?_,hbn,I5 _,?_,rfl⟩,⟨Db f,fun k B hb _=>Da f hb,rfl,rfl,U1 _,fun r hr => ?_⟩,.inl ⟨rfl,rfl⟩,fun r' hr' _=>by simp only[H.chain,H.af];rw[T.get_set_ne _ _ _ _ (by omega)]⟩
  ·unfold Ab;rw[ht];simp only[hz,hzt,hzz,hel,hbl,hrm]
  ·exact Bg
  ·rw[V0];exact hcl
  ·rw[V0];exact hc1
  ·intro j hj;simp only[H.chain,H.af,T.get_set_same,Option.getD,H1] at hj;subst hj;exact⟨cs,e,0,T.get_set_same _ _ _,by rw[Z1,hcl];exact C0 _⟩
  ·simp only[H.chain,H.af];rw[T.get_set_ne _ _ _ _ (by omega)]
 ·have hkn:=f.lt hb;have hd:=H.ae hb;have hrn:=f.ok.1 _ _ _ _ _ hd;have hgr:h.grow e r (0+(own k).off) (n*sz) (own k).block (xs.drop (own k).off) cs={ h with next:=h.next+1,dyn:=h.dyn.set h.next (.cells (xs++cs) e (some (r,0))),chains:=h.chains.set r (h.next::h.spare r k (0+n*sz) (0+n*sz+cs.length)) }:=by
   unfold H.grow;simp only[own,E3,F2];have hgone:h.gone r k (0+n*sz) (0+n*sz+cs.length)=[]:=by
    rw[J5];intro j hj;obtain⟨hj1,hj2⟩:=Fd.1 hj;obtain⟨ys,ty,p,hd,hle⟩:=hch j hj1;unfold H.ay at hj2;split at hj2
    ·cases hj2
    ·rw[hd] at hj2;simp only[K0,P0] at hj2;omega
   rw[hgone];exact Cr _
  generalize hg:({ h with next:=h.next+1,dyn:=h.dyn.set h.next (.cells (xs++cs) e (some (r,0))),chains:=h.chains.set r (h.next::h.spare r k (0+n*sz) (0+n*sz+cs.length)) }:H)=g at hgr;have hcr:g.chain r=h.next::h.spare r k (0+n*sz) (0+n*sz+cs.length):=by
   rw[<- hg];simp only[H.chain,T.get_set_same,Option.getD]
  have hcn:∀ r',r'≠r->g.chain r'=h.chain r':=by
   intro r' hr';rw[<- hg];simp only[H.chain];rw[T.get_set_ne _ _ _ _ hr']
  have hgn:g.next=h.next+1:=by rw[<- hg]
  have hnew:g.blk h.next=some (.cells (xs++cs) e (some (r,0))):=by
   have hdd:g.dyn.get h.next=some (.cells (xs++cs) e (some (r,0))):=by rw[<- hg];exact T.get_set_same _ _ _
   unfold H.blk;rw[hdd];simp only[hcr,E6,beq_self_eq_true,Bool.true_or]
  have hold:∀ j,j≠h.next->g.dyn.get j=h.dyn.get j:=by
   intro j hj;rw[<- hg];exact T.get_set_ne _ _ _ _ hj
  refine⟨.slice (some (own h.next)) (n+(m+1)) (n+(m+1)),g,some r,?_,.inr ⟨h.next,r,rfl,hnew,?_,?_,hbr,by rw[hgn];omega,?_,rfl⟩,⟨⟨fun j hj => ?_,fun j ys ty r' p hd' => ?_,?_⟩,?_,?_,?_,?_,?_⟩,.inr ⟨by simp,rfl⟩,fun r' _ hr'=>hcn r' (fun e=>hr' (by rw[e]))⟩
  ·unfold Ab;rw[ht];simp only[hz,hzt,hzz,hel,hbl,hrm];have e1:(own k).spot=some 0:=rfl;have e2:(own k).block=k:=rfl;have e3:(own k).off=0:=rfl;have e4:Nat.ble (n+(m+1)) n=false:=by
    cases hq:Nat.ble (n+(m+1)) n
    ·rfl
    ·rw[Z0] at hq;omega
   simp only[e1,e2,hb,e4];have e5:(Nat.beq n n&&Nat.beq ((own k).off+n*sz) xs.length&&Nat.beq e e&&(xs.drop (own k).off).all isOne&&Nat.ble (own k).off xs.length)=true:=by
    rw[e3,Z1,hl,F2,h1,V1,V1,V1];simp[Nat.ble]
   simp only[e5];rw[<- hgr];rfl
  ·rw[D0,hl,hcl,<- U3]
  ·rw[J4,h1,hc1];rfl
  ·intro j hj;rw[hcr] at hj;rcases O1.1 hj with rfl|hj
   ·exact⟨xs++cs,e,0,H.ae hnew,by rw[D0,hl,hcl,U3 n];omega⟩
   ·obtain⟨ys,ty,p,hd,hle⟩:=hch j (BS.1 hj).1;have hjn:j≠h.next:=by
     intro e;subst e;rw[f.free _ (C0 _)] at hd;cases hd
    refine⟨ys,ty,p,by rw[hold j hjn];exact hd,?_⟩;rw[U3 n];omega
  ·rw[hgn] at hj;rw[hold j (by omega)];exact f.free j (by omega)
  ·rw[hgn];by_cases hj:j=h.next
   ·subst hj;have:=H.ae hnew;rw[this] at hd'; cases hd'; omega
   ·rw[hold j hj] at hd';have:=f.ok.1 _ _ _ _ _ hd'; omega
  ·rw[hgn];have:=f.ok.2;rw[<- hg];exact O6 this
  ·intro j B hbj hro;have hjn:=f.lt hbj;rw[<- hbj];refine Ar (hold j (by omega)) (fun ys u r' q hd' => ?_);have:B=.cells ys u (some (r',q)):=by
    have:=H.ae hbj;rw[hd'] at this;cases this;rfl
   have hne:=hro _ _ _ _ this;rw[hcn r' (fun h=>hne (by rw[h]))]
  ·rw[<- hg]
  ·rw[<- hg]
  ·rw[hgn];omega
  ·intro r' hr';exact hcn r' (by omega)
section
variable {D:Tab} {E:Env} {tb:TypeId}
def Bol (tb:TypeId) (base top:Nat) (g:H) (sl:Value) (bs:List UInt8):Prop:=∃ ro,Ap2 g base tb 1 sl bs.length (bytesV bs) ro/\∀ r,ro=some r->base<=r/\r<top
theorem Bol.nil (base top:Nat) (g:H):Bol tb base top g (.slice none 0 0) []:=⟨none,.inl ⟨rfl,rfl,rfl,rfl⟩,fun _ h=>by cases h⟩
theorem Bol.mod {M:Nat->Prop} {base top:Nat} {g g':H} {sl:Value} {bs:List UInt8} (K:Bol tb base top g sl bs) (m:Mod M g g') (hp:∀ k B,M k->g.blk k=some B->B.plain=true):Bol tb base top g' sl bs:=by
 obtain⟨ro,h1,h3⟩:=K;exact⟨ro,h1.mod m hp,h3⟩
theorem Bol.up {base top top':Nat} {g:H} {sl:Value} {bs:List UInt8} (K:Bol tb base top g sl bs) (h:top<=top'):Bol tb base top' g sl bs:=by
 obtain⟨ro,h1,h3⟩:=K;exact⟨ro,h1,fun r hr=>⟨(h3 r hr).1,Q1 (h3 r hr).2 h⟩⟩
theorem Bol.slice {base top:Nat} {g:H} {sl:Value} {bs:List UInt8} (K:Bol tb base top g sl bs):∃ b,sl=.slice b bs.length bs.length:=by
 obtain⟨ro,h1,_⟩:=K;rcases h1 with⟨e,_,rfl,_⟩|⟨k,r,rfl,_⟩
 ·exact⟨none,by rw[e]⟩
 ·exact⟨_,rfl⟩
theorem Bol.byt {base top:Nat} {g:H} {sl:Value} {bs:List UInt8} (K:Bol tb base top g sl bs):Byt E g sl bs:=by
 obtain⟨ro,h1,_⟩:=K;rcases h1 with⟨e,_,rfl,_⟩|⟨k,r,rfl,hb,hl,ho,_⟩
 ·exact .inl ⟨rfl,O3.1 e⟩
 ·exact .inr ⟨own k,_,rfl,C0 _,AG hb (AM bs) ho⟩
theorem DK (a b:List UInt8):bytesV (a++b)=bytesV a++bytesV b:=by simp[bytesV]
theorem H7 {t t2 by_ i6 i7:Nat} {i8:Option Value} {i9:Bool} {ze:Value} {base top:Nat} {g:H} {sl x:Value} {bs cs:List UInt8} (f:Fit g) (hbn:base<=g.next) (htop:top<=g.next) (K:Bol tb base top g sl bs)
  (ht:D.ty.get t=some ⟨.slice tb 1 by_,i6,i7,i8,i9⟩) (hz:Ak D tb=some ze) (hzz:(Nat.beq ze.cells.toList.length 1&&Nat.blt 0 1&&ze.cells.toList.all isOne)=true) (hzt:Ax D t2 x=some false)
  (hx:Byt E g x cs) (hrm:roomy (bs.length+cs.length) by_=true) :
  ∃ sl' q,Ab D E t t2 sl x g=some (sl',q)/\Bol tb base q.next q sl' (bs++cs)/\Aps base g q:=by
 have zero:cs.length=0->BO E 1 ze.cells.toList x g=some (0,[])->∃ sl' q,Ab D E t t2 sl x g=some (sl',q)/\Bol tb base q.next q sl' (bs++cs)/\Aps base g q:=by
  intro h0 hel;obtain rfl:=O3.1 h0;refine⟨sl,g,?_,by rw[X0];exact K.up htop,none,(fun _ h=>by cases h),⟨f,fun _ _ h _=>h,rfl,rfl,C0 _,fun _ _=>rfl⟩⟩;obtain⟨b,rfl⟩:=K.slice;obtain⟨ro,h1,_⟩:=K;unfold Ab;rw[ht];have hb0:Nat.beq ([]:List Value).length (0*1)=true:=rfl;simp only[hz,hzt,hzz,hel,hb0];rcases h1 with⟨e,_,e2,_⟩|⟨k,r,e2,_⟩
  ·rw[e2];rfl
  ·rw[e2];simp only[Nat.ble_self_eq_true]
 rcases hx with⟨rfl,rfl⟩|⟨a,c,rfl,hc,hcs⟩
 ·exact zero rfl rfl
 obtain⟨l,hn⟩:∃ l,cs.length=l:=⟨_,rfl⟩;cases l with
 | zero=>
  refine zero hn ?_;simp only[BO,hn,U5,H.cells]
 | succ m=>
  rw[hn] at hcs hrm hzt ⊢;obtain⟨ro,h1,h3⟩:=K;obtain⟨s',q,ro',happ,ap4,gw,hroo⟩:=QA f hbn h1 ht hz hzz hzt (by rw[V2];exact hcs) (by rw[V2,AM,hn]) (BF cs) hrm;refine⟨s',q,happ,⟨ro',?_,fun r hr => ?_⟩,ro,fun r hr=>(h3 r hr).1,gw⟩
  ·rw[D0,hn,DK];exact ap4
  ·rcases ap4 with⟨_,_,_,e3⟩|⟨_,rr,_,_,_,_,e5,e6,_,e8⟩
   ·rw[e3] at hr;cases hr
   ·rw[e8] at hr;cases hr;exact⟨e5,e6⟩
end
variable {D:Tab} {E:Env}
theorem RO.cy {v:Ev} {ops:Array Oper} {o:Oper} {rest:List Oper} {A:Ac} {h:H} {res:Option (Ac×H)} {j:Nat} {w:Bool} {d:Tmp} (hg:o.guard=some (j,w)) (hd:(ops[j]?).bind (·.dst)=some d) (hv:A.get d=undef) (r:BP D E v ops rest (A.put o.dst undef) h=res):BP D E v ops (o::rest) A h=res:=by
 refine RO.skip ?_ r;unfold Bo;rw[hg];simp only[Br,hd,hv];cases w<;>rfl
theorem Wc.label {I:Aa} {F:Fx} {l:Nat} {A:Ac} {h:H} {Q:Ex->Ac->H->Prop} (hq:Q .normal A h):Wc D E I F (.label l) A h Q:=⟨1,_,A,h,rfl,hq⟩
theorem Aps.fa {base:Nat} {g q:H} (a:Aps base g q) {k:Nat} {B:Blk} (hk:g.blk k=some B) (hp:B.plain=true):q.blk k=some B:=by
 obtain⟨_,_,t⟩:=a;exact t.keep k B hk (fun _ _ _ _ he=>by subst he;cases hp)
def Fuel (_:Nat):Prop:=True
structure Hid (p:Prop):Prop where
 out:p
theorem Z2 {A0 A1:Prop} (a0:A0) (a1:A1):A0/\A1:=⟨a0,a1⟩
theorem Z3 {A0 A1 A2:Prop} (a0:A0) (a1:A1) (a2:A2):A0/\A1/\A2:=⟨a0,a1,a2⟩
theorem Z4 {A0 A1 A2 A3:Prop} (a0:A0) (a1:A1) (a2:A2) (a3:A3):A0/\A1/\A2/\A3:=⟨a0,a1,a2,a3⟩
theorem Z5 {A0 A1 A2 A3 A4:Prop} (a0:A0) (a1:A1) (a2:A2) (a3:A3) (a4:A4):A0/\A1/\A2/\A3/\A4:=⟨a0,a1,a2,a3,a4⟩
theorem Z6 {A0 A1 A2 A3 A4 A5:Prop} (a0:A0) (a1:A1) (a2:A2) (a3:A3) (a4:A4) (a5:A5):A0/\A1/\A2/\A3/\A4/\A5:=⟨a0,a1,a2,a3,a4,a5⟩
theorem Z7 {A0 A1 A2 A3 A4 A5 A6:Prop} (a0:A0) (a1:A1) (a2:A2) (a3:A3) (a4:A4) (a5:A5) (a6:A6):A0/\A1/\A2/\A3/\A4/\A5/\A6:=⟨a0,a1,a2,a3,a4,a5,a6⟩
theorem Z8 {A0 A1 A2 A3 A4 A5 A6 A7:Prop} (a0:A0) (a1:A1) (a2:A2) (a3:A3) (a4:A4) (a5:A5) (a6:A6) (a7:A7):A0/\A1/\A2/\A3/\A4/\A5/\A6/\A7:=⟨a0,a1,a2,a3,a4,a5,a6,a7⟩
theorem Z9 {A0 A1 A2 A3 A4 A5 A6 A7 A8:Prop} (a0:A0) (a1:A1) (a2:A2) (a3:A3) (a4:A4) (a5:A5) (a6:A6) (a7:A7) (a8:A8):A0/\A1/\A2/\A3/\A4/\A5/\A6/\A7/\A8:=⟨a0,a1,a2,a3,a4,a5,a6,a7,a8⟩
theorem Z10 {A0 A1 A2 A3 A4 A5 A6 A7 A8 A9:Prop} (a0:A0) (a1:A1) (a2:A2) (a3:A3) (a4:A4) (a5:A5) (a6:A6) (a7:A7) (a8:A8) (a9:A9):A0/\A1/\A2/\A3/\A4/\A5/\A6/\A7/\A8/\A9:=⟨a0,a1,a2,a3,a4,a5,a6,a7,a8,a9⟩
theorem Z11 {A0 A1 A2 A3 A4 A5 A6 A7 A8 A9 A10:Prop} (a0:A0) (a1:A1) (a2:A2) (a3:A3) (a4:A4) (a5:A5) (a6:A6) (a7:A7) (a8:A8) (a9:A9) (a10:A10):A0/\A1/\A2/\A3/\A4/\A5/\A6/\A7/\A8/\A9/\A10:=⟨a0,a1,a2,a3,a4,a5,a6,a7,a8,a9,a10⟩
theorem Z12 {A0 A1 A2 A3 A4 A5 A6 A7 A8 A9 A10 A11:Prop} (a0:A0) (a1:A1) (a2:A2) (a3:A3) (a4:A4) (a5:A5) (a6:A6) (a7:A7) (a8:A8) (a9:A9) (a10:A10) (a11:A11):A0/\A1/\A2/\A3/\A4/\A5/\A6/\A7/\A8/\A9/\A10/\A11:=⟨a0,a1,a2,a3,a4,a5,a6,a7,a8,a9,a10,a11⟩
theorem Z13 {A0 A1 A2 A3 A4 A5 A6 A7 A8 A9 A10 A11 A12:Prop} (a0:A0) (a1:A1) (a2:A2) (a3:A3) (a4:A4) (a5:A5) (a6:A6) (a7:A7) (a8:A8) (a9:A9) (a10:A10) (a11:A11) (a12:A12):A0/\A1/\A2/\A3/\A4/\A5/\A6/\A7/\A8/\A9/\A10/\A11/\A12:=⟨a0,a1,a2,a3,a4,a5,a6,a7,a8,a9,a10,a11,a12⟩
theorem Z14 {A0 A1 A2 A3 A4 A5 A6 A7 A8 A9 A10 A11 A12 A13:Prop} (a0:A0) (a1:A1) (a2:A2) (a3:A3) (a4:A4) (a5:A5) (a6:A6) (a7:A7) (a8:A8) (a9:A9) (a10:A10) (a11:A11) (a12:A12) (a13:A13):A0/\A1/\A2/\A3/\A4/\A5/\A6/\A7/\A8/\A9/\A10/\A11/\A12/\A13:=⟨a0,a1,a2,a3,a4,a5,a6,a7,a8,a9,a10,a11,a12,a13⟩
theorem Z15 {A0 A1 A2 A3 A4 A5 A6 A7 A8 A9 A10 A11 A12 A13 A14:Prop} (a0:A0) (a1:A1) (a2:A2) (a3:A3) (a4:A4) (a5:A5) (a6:A6) (a7:A7) (a8:A8) (a9:A9) (a10:A10) (a11:A11) (a12:A12) (a13:A13) (a14:A14):A0/\A1/\A2/\A3/\A4/\A5/\A6/\A7/\A8/\A9/\A10/\A11/\A12/\A13/\A14:=⟨a0,a1,a2,a3,a4,a5,a6,a7,a8,a9,a10,a11,a12,a13,a14⟩
theorem Z16 {A0 A1 A2 A3 A4 A5 A6 A7 A8 A9 A10 A11 A12 A13 A14 A15:Prop} (a0:A0) (a1:A1) (a2:A2) (a3:A3) (a4:A4) (a5:A5) (a6:A6) (a7:A7) (a8:A8) (a9:A9) (a10:A10) (a11:A11) (a12:A12) (a13:A13) (a14:A14) (a15:A15):A0/\A1/\A2/\A3/\A4/\A5/\A6/\A7/\A8/\A9/\A10/\A11/\A12/\A13/\A14/\A15:=⟨a0,a1,a2,a3,a4,a5,a6,a7,a8,a9,a10,a11,a12,a13,a14,a15⟩
theorem Z17 {A0 A1 A2 A3 A4 A5 A6 A7 A8 A9 A10 A11 A12 A13 A14 A15 A16:Prop} (a0:A0) (a1:A1) (a2:A2) (a3:A3) (a4:A4) (a5:A5) (a6:A6) (a7:A7) (a8:A8) (a9:A9) (a10:A10) (a11:A11) (a12:A12) (a13:A13) (a14:A14) (a15:A15) (a16:A16):A0/\A1/\A2/\A3/\A4/\A5/\A6/\A7/\A8/\A9/\A10/\A11/\A12/\A13/\A14/\A15/\A16:=⟨a0,a1,a2,a3,a4,a5,a6,a7,a8,a9,a10,a11,a12,a13,a14,a15,a16⟩
theorem Z18 {A0 A1 A2 A3 A4 A5 A6 A7 A8 A9 A10 A11 A12 A13 A14 A15 A16 A17:Prop} (a0:A0) (a1:A1) (a2:A2) (a3:A3) (a4:A4) (a5:A5) (a6:A6) (a7:A7) (a8:A8) (a9:A9) (a10:A10) (a11:A11) (a12:A12) (a13:A13) (a14:A14) (a15:A15) (a16:A16) (a17:A17):A0/\A1/\A2/\A3/\A4/\A5/\A6/\A7/\A8/\A9/\A10/\A11/\A12/\A13/\A14/\A15/\A16/\A17:=⟨a0,a1,a2,a3,a4,a5,a6,a7,a8,a9,a10,a11,a12,a13,a14,a15,a16,a17⟩
theorem Z19 {A0 A1 A2 A3 A4 A5 A6 A7 A8 A9 A10 A11 A12 A13 A14 A15 A16 A17 A18:Prop} (a0:A0) (a1:A1) (a2:A2) (a3:A3) (a4:A4) (a5:A5) (a6:A6) (a7:A7) (a8:A8) (a9:A9) (a10:A10) (a11:A11) (a12:A12) (a13:A13) (a14:A14) (a15:A15) (a16:A16) (a17:A17) (a18:A18):A0/\A1/\A2/\A3/\A4/\A5/\A6/\A7/\A8/\A9/\A10/\A11/\A12/\A13/\A14/\A15/\A16/\A17/\A18:=⟨a0,a1,a2,a3,a4,a5,a6,a7,a8,a9,a10,a11,a12,a13,a14,a15,a16,a17,a18⟩
theorem Z20 {A0 A1 A2 A3 A4 A5 A6 A7 A8 A9 A10 A11 A12 A13 A14 A15 A16 A17 A18 A19:Prop} (a0:A0) (a1:A1) (a2:A2) (a3:A3) (a4:A4) (a5:A5) (a6:A6) (a7:A7) (a8:A8) (a9:A9) (a10:A10) (a11:A11) (a12:A12) (a13:A13) (a14:A14) (a15:A15) (a16:A16) (a17:A17) (a18:A18) (a19:A19):A0/\A1/\A2/\A3/\A4/\A5/\A6/\A7/\A8/\A9/\A10/\A11/\A12/\A13/\A14/\A15/\A16/\A17/\A18/\A19:=⟨a0,a1,a2,a3,a4,a5,a6,a7,a8,a9,a10,a11,a12,a13,a14,a15,a16,a17,a18,a19⟩
theorem Z21 {A0 A1 A2 A3 A4 A5 A6 A7 A8 A9 A10 A11 A12 A13 A14 A15 A16 A17 A18 A19 A20:Prop} (a0:A0) (a1:A1) (a2:A2) (a3:A3) (a4:A4) (a5:A5) (a6:A6) (a7:A7) (a8:A8) (a9:A9) (a10:A10) (a11:A11) (a12:A12) (a13:A13) (a14:A14) (a15:A15) (a16:A16) (a17:A17) (a18:A18) (a19:A19) (a20:A20):A0/\A1/\A2/\A3/\A4/\A5/\A6/\A7/\A8/\A9/\A10/\A11/\A12/\A13/\A14/\A15/\A16/\A17/\A18/\A19/\A20:=⟨a0,a1,a2,a3,a4,a5,a6,a7,a8,a9,a10,a11,a12,a13,a14,a15,a16,a17,a18,a19,a20⟩
theorem Z23 {A0 A1 A2 A3 A4 A5 A6 A7 A8 A9 A10 A11 A12 A13 A14 A15 A16 A17 A18 A19 A20 A21 A22:Prop} (a0:A0) (a1:A1) (a2:A2) (a3:A3) (a4:A4) (a5:A5) (a6:A6) (a7:A7) (a8:A8) (a9:A9) (a10:A10) (a11:A11) (a12:A12) (a13:A13) (a14:A14) (a15:A15) (a16:A16) (a17:A17) (a18:A18) (a19:A19) (a20:A20) (a21:A21) (a22:A22):A0/\A1/\A2/\A3/\A4/\A5/\A6/\A7/\A8/\A9/\A10/\A11/\A12/\A13/\A14/\A15/\A16/\A17/\A18/\A19/\A20/\A21/\A22:=⟨a0,a1,a2,a3,a4,a5,a6,a7,a8,a9,a10,a11,a12,a13,a14,a15,a16,a17,a18,a19,a20,a21,a22⟩
theorem Z24 {A0 A1 A2 A3 A4 A5 A6 A7 A8 A9 A10 A11 A12 A13 A14 A15 A16 A17 A18 A19 A20 A21 A22 A23:Prop} (a0:A0) (a1:A1) (a2:A2) (a3:A3) (a4:A4) (a5:A5) (a6:A6) (a7:A7) (a8:A8) (a9:A9) (a10:A10) (a11:A11) (a12:A12) (a13:A13) (a14:A14) (a15:A15) (a16:A16) (a17:A17) (a18:A18) (a19:A19) (a20:A20) (a21:A21) (a22:A22) (a23:A23):A0/\A1/\A2/\A3/\A4/\A5/\A6/\A7/\A8/\A9/\A10/\A11/\A12/\A13/\A14/\A15/\A16/\A17/\A18/\A19/\A20/\A21/\A22/\A23:=⟨a0,a1,a2,a3,a4,a5,a6,a7,a8,a9,a10,a11,a12,a13,a14,a15,a16,a17,a18,a19,a20,a21,a22,a23⟩
theorem Z26 {A0 A1 A2 A3 A4 A5 A6 A7 A8 A9 A10 A11 A12 A13 A14 A15 A16 A17 A18 A19 A20 A21 A22 A23 A24 A25:Prop} (a0:A0) (a1:A1) (a2:A2) (a3:A3) (a4:A4) (a5:A5) (a6:A6) (a7:A7) (a8:A8) (a9:A9) (a10:A10) (a11:A11) (a12:A12) (a13:A13) (a14:A14) (a15:A15) (a16:A16) (a17:A17) (a18:A18) (a19:A19) (a20:A20) (a21:A21) (a22:A22) (a23:A23) (a24:A24) (a25:A25):A0/\A1/\A2/\A3/\A4/\A5/\A6/\A7/\A8/\A9/\A10/\A11/\A12/\A13/\A14/\A15/\A16/\A17/\A18/\A19/\A20/\A21/\A22/\A23/\A24/\A25:=⟨a0,a1,a2,a3,a4,a5,a6,a7,a8,a9,a10,a11,a12,a13,a14,a15,a16,a17,a18,a19,a20,a21,a22,a23,a24,a25⟩
theorem nA {g:H} (f:Fit g) (l:List Value) (T:Nat):∃ g1,g.new (.cells (Value.agg ⟨l⟩).cells.toList T none)=g1/\Ahd g g1/\g1.blk g.next=some (.cells l T none):=⟨_,rfl,Ahd.aj f rfl,AA rfl⟩
theorem nT {g:H} (f:Fit g) (l:List Value) (T:Nat):∃ g1,g.new (.cells (Value.agg l.toArray).cells.toList T none)=g1/\Ahd g g1/\g1.blk g.next=some (.cells l T none):=⟨_,rfl,Ahd.aj f rfl,AA rfl⟩
theorem S0 {P Q:Prop} (p:P) (he:P->Q:=by intro F;simp +decide only[Gs,F]):Q:=he p
theorem S0z {P Q:Prop} (p:P) (he:P->Q:=by intro F;simp +decide only[Gz,F]):Q:=he p
section
variable {D:Tab} {E:Env} {I:Aa} {f:Fx} {c:Code} {A:Ac} {h:H} {Q:Ex->Ac->H->Prop} {P:Prop}
theorem Wm {n:Nat} (_:Fuel n) {F:Fx} {id:Nat} {l:List Oper} {A A':Ac} {h h':H} {Q:Ex->Ac->H->Prop} (he:BP D E (ev D E I n) l.toArray l A h=some (A',h')) (hq:Q .normal A' h'):Wc D E I F (.region id l.toArray false) A h Q:=Wc.dt n he hq
theorem Vw {GK:Prop} (p:P) (k:GK) (he:P->Hid GK->Wc D E I f c A h Q:=by intro F K;(repeat' (first|with_reducible apply Ws|(apply Wp;focus ((repeat ((with_reducible apply Rr rfl);focus ((try simp +decide only[Oy,F]);with_reducible rfl)));with_reducible exact Rn))|(refine W2 (by simp +decide only[Cx,F];try with_reducible rfl) (fun hb=>?_) (fun hb=>?_)<;>try contradiction)|apply W3|apply W4|apply W5|apply W6));exact K.out):Wc D E I f c A h Q:=he p ⟨k⟩
theorem Vn {GK:Prop} (n:Nat) (p:P) (k:GK) (he:Fuel n->P->Hid GK->Wc D E I f c A h Q:=by intro N F K;(repeat' (first|with_reducible apply Ws|(apply (Wm N);focus ((repeat ((with_reducible apply Rr rfl);focus ((try simp +decide only[Oy,F]);with_reducible rfl)));with_reducible exact Rn))|(refine W2 (by simp +decide only[Cx,F];try with_reducible rfl) (fun hb=>?_) (fun hb=>?_)<;>try contradiction)|apply W3|apply W4|apply W5|apply W6));exact K.out):Wc D E I f c A h Q:=he trivial p ⟨k⟩
theorem VW {GK:Prop} (p:P) (k:GK) (he:P->Hid GK->Wc D E I f c A h Q:=by intro F K;(repeat' (first|with_reducible apply Ws|(apply Wp;focus ((repeat (first|((first|with_reducible apply Rr rfl|((with_reducible apply Rg);(focus rfl);(focus rfl);focus (simp +decide only[Gs,F];done)));focus ((try simp +decide only[Oy,F]);with_reducible rfl))|((with_reducible apply Rs);(focus rfl);(focus rfl);focus (simp +decide only[Gs,F];done))|((with_reducible apply RO.cy);(focus rfl);(focus rfl);focus (simp +decide only[Gs,F];done))));with_reducible exact Rn))|(refine Wc.quiet (by kernel_rfl) (by repeat' (first|with_reducible exact QO.nil|((with_reducible apply QO.cons rfl rfl);focus ((try simp +decide only[Oy,F]);with_reducible rfl)))) ?_)|(refine W2 (by simp +decide only[Cx,F];try with_reducible rfl) (fun hb=>?_) (fun hb=>?_)<;>try contradiction)|apply W3|apply W4|apply W5|apply W6));exact K.out):Wc D E I f c A h Q:=he p ⟨k⟩
theorem VN {GK:Prop} (n:Nat) (p:P) (k:GK) (he:Fuel n->P->Hid GK->Wc D E I f c A h Q:=by intro N F K;(repeat' (first|with_reducible apply Ws|(apply (Wm N);focus ((repeat (first|((first|with_reducible apply Rr rfl|((with_reducible apply Rg);(focus rfl);(focus rfl);focus (simp +decide only[Gs,F];done)));focus ((try simp +decide only[Oy,F]);with_reducible rfl))|((with_reducible apply Rs);(focus rfl);(focus rfl);focus (simp +decide only[Gs,F];done))|((with_reducible apply RO.cy);(focus rfl);(focus rfl);focus (simp +decide only[Gs,F];done))));with_reducible exact Rn))|(refine Wc.quiet (by kernel_rfl) (by repeat' (first|with_reducible exact QO.nil|((with_reducible apply QO.cons rfl rfl);focus ((try simp +decide only[Oy,F]);with_reducible rfl)))) ?_)|(refine W2 (by simp +decide only[Cx,F];try with_reducible rfl) (fun hb=>?_) (fun hb=>?_)<;>try contradiction)|apply W3|apply W4|apply W5|apply W6));exact K.out):Wc D E I f c A h Q:=he trivial p ⟨k⟩
theorem Vo {GK:Prop} (n:Nat) (p:P) (k:GK) (he:Fuel n->P->Hid GK->Wc D E I f c A h Q:=by intro N F K;(repeat' (with_reducible apply Ws));(apply Wm N;focus ((repeat ((with_reducible apply Rr rfl);focus ((try simp +decide only[Oy,F]);with_reducible rfl)));with_reducible exact Rn));exact K.out):Wc D E I f c A h Q:=he trivial p ⟨k⟩
theorem VO {GK:Prop} (n:Nat) (p:P) (k:GK) (he:Fuel n->P->Hid GK->Wc D E I f c A h Q:=by intro N F K;(repeat' (with_reducible apply Ws));(apply Wm N;focus ((repeat (first|((first|with_reducible apply Rr rfl|((with_reducible apply Rg);(focus rfl);(focus rfl);focus (simp +decide only[Gs,F];done)));focus ((try simp +decide only[Oy,F]);with_reducible rfl))|((with_reducible apply Rs);(focus rfl);(focus rfl);focus (simp +decide only[Gs,F];done))|((with_reducible apply RO.cy);(focus rfl);(focus rfl);focus (simp +decide only[Gs,F];done))));with_reducible exact Rn));exact K.out):Wc D E I f c A h Q:=he trivial p ⟨k⟩
theorem VU {GK:Prop} (n:Nat) (p:P) (k:GK) (he:Fuel n->P->Hid GK->Wc D E I f c A h Q:=by intro N F K;(repeat' (with_reducible apply Ws));(apply Wm N;focus ((repeat ((with_reducible apply Rr rfl);focus ((try simp +decide only[Ot,F]);with_reducible rfl)));with_reducible exact Rn));exact K.out):Wc D E I f c A h Q:=he trivial p ⟨k⟩
theorem Vwz {GK:Prop} (p:P) (k:GK) (he:P->Hid GK->Wc D E I f c A h Q:=by intro F K;(repeat' (first|with_reducible apply Ws|(apply Wp;focus ((repeat ((with_reducible apply Rr rfl);focus ((try simp +decide only[Oz,F]);with_reducible rfl)));with_reducible exact Rn))|(refine W2 (by simp +decide only[Cz,F];try with_reducible rfl) (fun hb=>?_) (fun hb=>?_)<;>try contradiction)|apply W3|apply W4|apply W5|apply W6));exact K.out):Wc D E I f c A h Q:=he p ⟨k⟩
theorem Vnz {GK:Prop} (n:Nat) (p:P) (k:GK) (he:Fuel n->P->Hid GK->Wc D E I f c A h Q:=by intro N F K;(repeat' (first|with_reducible apply Ws|(apply (Wm N);focus ((repeat ((with_reducible apply Rr rfl);focus ((try simp +decide only[Oz,F]);with_reducible rfl)));with_reducible exact Rn))|(refine W2 (by simp +decide only[Cz,F];try with_reducible rfl) (fun hb=>?_) (fun hb=>?_)<;>try contradiction)|apply W3|apply W4|apply W5|apply W6));exact K.out):Wc D E I f c A h Q:=he trivial p ⟨k⟩
theorem VWz {GK:Prop} (p:P) (k:GK) (he:P->Hid GK->Wc D E I f c A h Q:=by intro F K;(repeat' (first|with_reducible apply Ws|(apply Wp;focus ((repeat (first|((first|with_reducible apply Rr rfl|((with_reducible apply Rg);(focus rfl);(focus rfl);focus (simp +decide only[Gz,F];done)));focus ((try simp +decide only[Oz,F]);with_reducible rfl))|((with_reducible apply Rs);(focus rfl);(focus rfl);focus (simp +decide only[Gz,F];done))|((with_reducible apply RO.cy);(focus rfl);(focus rfl);focus (simp +decide only[Gz,F];done))));with_reducible exact Rn))|(refine Wc.quiet (by kernel_rfl) (by repeat' (first|with_reducible exact QO.nil|((with_reducible apply QO.cons rfl rfl);focus ((try simp +decide only[Oz,F]);with_reducible rfl)))) ?_)|(refine W2 (by simp +decide only[Cz,F];try with_reducible rfl) (fun hb=>?_) (fun hb=>?_)<;>try contradiction)|apply W3|apply W4|apply W5|apply W6));exact K.out):Wc D E I f c A h Q:=he p ⟨k⟩
theorem VNz {GK:Prop} (n:Nat) (p:P) (k:GK) (he:Fuel n->P->Hid GK->Wc D E I f c A h Q:=by intro N F K;(repeat' (first|with_reducible apply Ws|(apply (Wm N);focus ((repeat (first|((first|with_reducible apply Rr rfl|((with_reducible apply Rg);(focus rfl);(focus rfl);focus (simp +decide only[Gz,F];done)));focus ((try simp +decide only[Oz,F]);with_reducible rfl))|((with_reducible apply Rs);(focus rfl);(focus rfl);focus (simp +decide only[Gz,F];done))|((with_reducible apply RO.cy);(focus rfl);(focus rfl);focus (simp +decide only[Gz,F];done))));with_reducible exact Rn))|(refine Wc.quiet (by kernel_rfl) (by repeat' (first|with_reducible exact QO.nil|((with_reducible apply QO.cons rfl rfl);focus ((try simp +decide only[Oz,F]);with_reducible rfl)))) ?_)|(refine W2 (by simp +decide only[Cz,F];try with_reducible rfl) (fun hb=>?_) (fun hb=>?_)<;>try contradiction)|apply W3|apply W4|apply W5|apply W6));exact K.out):Wc D E I f c A h Q:=he trivial p ⟨k⟩
theorem Voz {GK:Prop} (n:Nat) (p:P) (k:GK) (he:Fuel n->P->Hid GK->Wc D E I f c A h Q:=by intro N F K;(repeat' (with_reducible apply Ws));(apply Wm N;focus ((repeat ((with_reducible apply Rr rfl);focus ((try simp +decide only[Oz,F]);with_reducible rfl)));with_reducible exact Rn));exact K.out):Wc D E I f c A h Q:=he trivial p ⟨k⟩
theorem VOz {GK:Prop} (n:Nat) (p:P) (k:GK) (he:Fuel n->P->Hid GK->Wc D E I f c A h Q:=by intro N F K;(repeat' (with_reducible apply Ws));(apply Wm N;focus ((repeat (first|((first|with_reducible apply Rr rfl|((with_reducible apply Rg);(focus rfl);(focus rfl);focus (simp +decide only[Gz,F];done)));focus ((try simp +decide only[Oz,F]);with_reducible rfl))|((with_reducible apply Rs);(focus rfl);(focus rfl);focus (simp +decide only[Gz,F];done))|((with_reducible apply RO.cy);(focus rfl);(focus rfl);focus (simp +decide only[Gz,F];done))));with_reducible exact Rn));exact K.out):Wc D E I f c A h Q:=he trivial p ⟨k⟩
theorem VUz {GK:Prop} (n:Nat) (p:P) (k:GK) (he:Fuel n->P->Hid GK->Wc D E I f c A h Q:=by intro N F K;(repeat' (with_reducible apply Ws));(apply Wm N;focus ((repeat ((with_reducible apply Rr rfl);focus ((try simp +decide only[Ou,F]);with_reducible rfl)));with_reducible exact Rn));exact K.out):Wc D E I f c A h Q:=he trivial p ⟨k⟩
end
section
variable {D:Tab} {E:Env} {v:Ev} {ops:Array Oper} {j:Nat} {l:List Oper} {A:Ac} {h:H} {P:Prop}
theorem UF {Q:Ac->H->Prop} {GK:Prop} (p:P) (k:GK) (he:P->Hid GK->FC D E v ops j l A h Q:=by intro F K;(first|((first|apply Fp rfl rfl rfl|apply FC.new rfl rfl|(apply FC.eg rfl rfl;(focus (simp +decide only[Gs,F];done));focus rfl));focus ((try simp +decide only[Oy,F]);with_reducible rfl))|(apply FC.aw rfl rfl;focus (simp +decide only[Gs,F];done)));exact K.out):FC D E v ops j l A h Q:=he p ⟨k⟩
theorem Uf {Q:Ac->H->Prop} {GK:Prop} (p:P) (k:GK) (he:P->Hid GK->FC D E v ops j l A h Q:=by intro F K;((first|apply Fp rfl rfl rfl|apply FC.new rfl rfl);focus ((try simp +decide only[Oy,F]);with_reducible rfl));exact K.out):FC D E v ops j l A h Q:=he p ⟨k⟩
theorem Ug {Q:Ac->H->List Tch->Prop} {GK:Prop} (p:P) (k:GK) (he:P->Hid GK->FQ D E v ops j l A h Q:=by intro F K;((first|apply Qp rfl rfl rfl|apply FQ.new rfl rfl);focus ((try simp +decide only[Oy,F]);with_reducible rfl));exact K.out):FQ D E v ops j l A h Q:=he p ⟨k⟩
theorem Uj {Q:Ac->H->Prop} {GK:Prop} (p:P) (k:GK) (he:P->Hid GK->FC D E v ops j l A h Q:=by intro F K;((first|apply Fp rfl rfl rfl|apply FC.new rfl rfl);focus ((try simp +decide only[Ot,F]);with_reducible rfl));exact K.out):FC D E v ops j l A h Q:=he p ⟨k⟩
theorem Ufz {Q:Ac->H->Prop} {GK:Prop} (p:P) (k:GK) (he:P->Hid GK->FC D E v ops j l A h Q:=by intro F K;((first|apply Fp rfl rfl rfl|apply FC.new rfl rfl);focus ((try simp +decide only[Oz,F]);with_reducible rfl));exact K.out):FC D E v ops j l A h Q:=he p ⟨k⟩
theorem Ugz {Q:Ac->H->List Tch->Prop} {GK:Prop} (p:P) (k:GK) (he:P->Hid GK->FQ D E v ops j l A h Q:=by intro F K;((first|apply Qp rfl rfl rfl|apply FQ.new rfl rfl);focus ((try simp +decide only[Oz,F]);with_reducible rfl));exact K.out):FQ D E v ops j l A h Q:=he p ⟨k⟩
end
def T.cn {α:Type}:T α->(Nat->Nat)->List (Nat×α)
 | .nil,_=>[]
 | .node l v r,f=>(match v with|some x=>[(f 0,x)]|none=>[])++(l.cn (fun m=>f (2*m+1))++r.cn (fun m=>f (2*m+2)))
theorem T.bn {α:Type} {x:α}:∀ (t:T α) (f:Nat->Nat) (k:Nat),t.get k=some x->(f k,x)∈t.cn f
 | .nil,_,k,h=>by rw[T.get_nil] at h;cases h
 | .node l v r,f,0,h=>by
  obtain rfl:v=some x:=h;exact V5 _ (H1.2 rfl)
 | .node l v r,f,k+1,h=>by
  rw[T.get_node_succ] at h;refine N6 _ ?_;split at h
  ·next e=>
   have e:=U0 e;have:=T.bn l (fun m=>f (2*m+1)) _ h;rw[show 2*(k / 2)+1=k+1 by omega] at this;exact V5 _ this
  ·next e=>
   have e:k % 2≠0:=fun h0=>by rw[h0] at e;cases e
   have:=T.bn r (fun m=>f (2*m+2)) _ h;rw[show 2*(k / 2)+2=k+1 by omega] at this;exact N6 _ this
theorem HJ {α β:Type} {f g:α->β} {a:α}:∀ {l:List α},l.map f=l.map g->a∈l->f a=g a
 | _::_,h,hm=>by
  rw[I3,I3,List.cons.injEq] at h;rcases O1.1 hm with rfl|hm
  ·exact h.1
  ·exact HJ h.2 hm
theorem Tab.eo {P:Program} {ty:T TI} {fn:T Func} (h1:(ty.cn id).map (fun x=>AC1 P x.1)=(ty.cn id).map (fun x=>some x.2)) (h2:(fn.cn id).map (fun x=>P.funcs[x.1]?)=(fn.cn id).map (fun x=>some x.2)):Tab.Of ⟨ty,fn⟩ P:=
 ⟨fun t i h=>HJ h1 (T.bn ty id t h),fun f x h=>HJ h2 (T.bn fn id f h)⟩
theorem VS (n:Int):IntKind.u32.wrap n=n % 4294967296:=by
 simp only[IntKind.wrap,IntKind.bits,IntKind.signed];simp
theorem ofW (x:BitVec 32):BitVec.ofInt IntKind.u32.bits ((x.toNat:Nat):Int)=x:=by
 show BitVec.ofInt 32 ((x.toNat:Nat):Int)=x;rw[Y5,BitVec.ofNat_toNat,BitVec.setWidth_eq]
theorem Yz (x:BitVec 32):IntKind.u32.wrap ((x.toNat:Nat):Int)=((x.toNat:Nat):Int):=by
 rw[VS];have:=x.isLt;omega
theorem Up (x y:BitVec 32):Bk .and .u32 (x.toNat:Nat) (y.toNat:Nat)=some (.int .u32 ((x &&& y).toNat:Nat)):=by
 show some (Value.int .u32 (IntKind.u32.wrap ((BitVec.ofInt IntKind.u32.bits ((x.toNat:Nat):Int) &&& BitVec.ofInt IntKind.u32.bits ((y.toNat:Nat):Int)).toNat:Nat)))=_;rw[ofW,ofW];exact congrArg (fun z=>some (Value.int .u32 z)) (Yz (x &&& y))
theorem AE9 (x y:BitVec 32):Bk .or .u32 (x.toNat:Nat) (y.toNat:Nat)=some (.int .u32 ((x ||| y).toNat:Nat)):=by
 show some (Value.int .u32 (IntKind.u32.wrap ((BitVec.ofInt IntKind.u32.bits ((x.toNat:Nat):Int) ||| BitVec.ofInt IntKind.u32.bits ((y.toNat:Nat):Int)).toNat:Nat)))=_;rw[ofW,ofW];exact congrArg (fun z=>some (Value.int .u32 z)) (Yz (x ||| y))
theorem Nb (x y:BitVec 32):Bk .xor .u32 (x.toNat:Nat) (y.toNat:Nat)=some (.int .u32 ((x ^^^ y).toNat:Nat)):=by
 show some (Value.int .u32 (IntKind.u32.wrap ((BitVec.ofInt IntKind.u32.bits ((x.toNat:Nat):Int) ^^^ BitVec.ofInt IntKind.u32.bits ((y.toNat:Nat):Int)).toNat:Nat)))=_;rw[ofW,ofW];exact congrArg (fun z=>some (Value.int .u32 z)) (Yz (x ^^^ y))
theorem AEk (x y:BitVec 32):Bk .add .u32 (x.toNat:Nat) (y.toNat:Nat)=some (.int .u32 ((x+y).toNat:Nat)):=by
 show some (Value.int .u32 (IntKind.u32.wrap (((x.toNat:Nat):Int)+((y.toNat:Nat):Int))))=_;rw[VS,BitVec.toNat_add];congr 2
theorem ADo (x:BitVec 32):aun .xor (.int .u32 (x.toNat:Nat))=some (.int .u32 ((~~~x).toNat:Nat)):=by
 have h:aun .xor (.int .u32 (x.toNat:Nat))=Bk .xor .u32 ((BitVec.allOnes 32).toNat:Nat) (x.toNat:Nat):=rfl;rw[h,Nb];have:BitVec.allOnes 32 ^^^ x = ~~~x:=by
  rw[BitVec.allOnes_xor]
 rw[this]
theorem ABC (x:BitVec 32) (n:Nat):DF .shl .u32 (x.toNat:Nat) (n:Nat)=some (.int .u32 ((x <<< n).toNat:Nat)):=by
 show some (Value.int .u32 (IntKind.u32.wrap (((x.toNat:Nat):Int)*2 ^ min n 32)))=_;rw[VS,BitVec.toNat_shiftLeft,Nat.shiftLeft_eq];have e:((x.toNat:Nat):Int)*2 ^ min n 32=((x.toNat*2 ^ min n 32:Nat):Int):=by push_cast;rfl
 rw[e,show (4294967296:Int)=((4294967296:Nat):Int) from rfl,<- Int.natCast_emod];congr 3;by_cases h:n<=32
 ·rw[Nat.min_eq_left h]
 ·have h:=Nat.le_of_not_le h;rw[Nat.min_eq_right h];obtain⟨d,rfl⟩:∃ d,n=32+d:=⟨n-32,by omega⟩;rw[Nat.pow_add,<- Nat.mul_assoc,Nat.mul_mod_left,Nat.mul_comm (x.toNat*2 ^ 32),<- Nat.mul_assoc,Nat.mul_mod_left]
theorem ZF (x:BitVec 32) (n:Nat):DF .shr .u32 (x.toNat:Nat) (n:Nat)=some (.int .u32 ((x >>> n).toNat:Nat)):=by
 show some (Value.int .u32 (((x.toNat:Nat):Int).fdiv (2 ^ min n 32)))=_;rw[BitVec.toNat_ushiftRight,Nat.shiftRight_eq_div_pow];have e:(2:Int) ^ min n 32=((2 ^ min n 32:Nat):Int):=by push_cast;rfl
 rw[e,D4 _ (Int.natCast_nonneg _),<- Int.natCast_ediv];congr 3;by_cases h:n<=32
 ·rw[Nat.min_eq_left h]
 ·have h:=Nat.le_of_not_le h;rw[Nat.min_eq_right h];have hx:=x.isLt;have h2:2 ^ 32<=2 ^ n:=Nat.pow_le_pow_right (by decide) h;rw[Nat.div_eq_of_lt hx,Nat.div_eq_of_lt (by omega)]
def Lz (x:BitVec 32) (n:Nat):BitVec 32:=(x <<< (32-n)) ||| (x >>> n)
def mixW (a b c:Nat) (lost:Bool) (x:BitVec 32):BitVec 32:=Lz x a ^^^ Lz x b ^^^ (if lost=true then x >>> c else Lz x c)
def sumW (l:List (BitVec 32)):BitVec 32:=l.foldl (· + ·) 0
def AE (l:List (BitVec 32)):List Value:=l.map fun x=>.int .u32 (x.toNat:Nat)
theorem CW (l:List (BitVec 32)):(AE l).length=l.length:=by simp[AE]
theorem Gq {l:List (BitVec 32)} {i:Nat} {x:BitVec 32} (h:l[i]? = some x):(AE l)[i]? = some (.int .u32 (x.toNat:Nat)):=by
 simp[AE,h]
theorem CC:∀ l:List (BitVec 32),(AE l).all isOne=true
 | []=>rfl
 | _::l=>by
  have:=CC l;simp only[AE,I3,V3,K0] at this ⊢;exact⟨rfl,this⟩
theorem ADc:IntKind.u32.signed=false:=rfl
theorem ADp (x:BitVec 32):Bk .xor .u32 IntKind.u32.max (x.toNat:Nat)=some (.int .u32 ((~~~x).toNat:Nat)):=ADo x
def rndA (e f g h:BitVec 32):BitVec 32:=sumW [h,mixW 6 11 25 false e,(e &&& f) ^^^ (~~~e &&& g)]
def rndB (a b c:BitVec 32):BitVec 32:=sumW [mixW 2 13 22 false a,(a &&& b) ^^^ (a &&& c) ^^^ (b &&& c)]
theorem ABh {g:H} {k o:Nat} {vs xs:List Value} {e:TypeId} (f:Fit g) (hb:g.blk k=some (.cells xs e (some (k,0)))) (hc:g.chain k=[k]) (hm:g.mark<=k) (hv:vs≠[]) (hl:o+vs.length<=xs.length) (h1:vs.all isOne=true) :
  ∃ q,g.put (aadd (own k) o) vs=some q/\Fit q/\q.blk k=some (.cells (xs.take o++vs++xs.drop (o+vs.length)) e (some (k,0)))/\(∀ j,j≠k->q.blk j=g.blk j)/\(∀ r,q.chain r=g.chain r)/\q.next=g.next/\q.log=g.log/\q.mark=g.mark:=by
 have hkn:=f.lt hb;have hsp:g.spare k k (0+o) (0+o+vs.length)=[k]:=by
  unfold H.spare;rw[hc];have:g.ay k (0+o) (0+o+vs.length) k=false:=by
   unfold H.ay;rw[V1]
  simp only[List.filter_cons,this,Bool.not_false,if_true,List.filter_nil]
 have hgn:g.gone k k (0+o) (0+o+vs.length)=[]:=by
  unfold H.gone;rw[hc];have:g.ay k (0+o) (0+o+vs.length) k=false:=by
   unfold H.ay;rw[V1]
  simp only[List.filter_cons,this,List.filter_nil];rfl
 generalize hB:(Blk.cells (xs.take o++vs++xs.drop (o+vs.length)) e (some (k,0)))=B;have hput:g.put (aadd (own k) o) vs=some ({ g with dyn:=g.dyn.set k B,chains:=g.chains.set k [k] }:H):=by
  rw[<- hB];unfold H.put;cases vs with
  | nil=>exact absurd rfl hv
  | cons v vs=>
   simp only[aadd,own,Z1,hb] at hsp hgn ⊢;rw[h1,show Nat.ble (o+(v::vs).length) xs.length=true from by rw[Z0];exact hl];simp only[Bool.and_self,hsp,hgn];congr 1;exact DN (h:={ g with dyn:=_,chains:=_ }) (fun j hj=>by simp at hj;subst hj;exact hm)
 generalize hq:({ g with dyn:=g.dyn.set k B,chains:=g.chains.set k [k] }:H)=q at hput;have hqd:q.dyn=g.dyn.set k B:=by rw[<- hq]
 have hqn:q.next=g.next:=by rw[<- hq]
 have hqc:∀ r,q.chain r=g.chain r:=by
  intro r;rw[<- hq];simp only[H.chain,T.get_set];split
  ·next h=>subst h;simpa [H.chain,Option.getD] using hc.symm
  ·rfl
 refine⟨q,hput,⟨fun j hj => ?_,⟨fun j ys ty r p hd => ?_,?_⟩⟩,?_,fun j hj => ?_,hqc,hqn,by rw[<- hq],by rw[<- hq]⟩
 ·rw[hqn] at hj;rw[hqd,T.get_set_ne _ _ _ _ (by omega)];exact f.free j hj
 ·rw[hqn];rw[hqd] at hd;by_cases hj:j=k
  ·subst hj;rw[T.get_set_same,<- hB] at hd;cases hd;exact hkn
  ·rw[T.get_set_ne _ _ _ _ hj] at hd;exact f.ok.1 _ _ _ _ _ hd
 ·rw[<- hq];exact f.ok.2
 ·have hdd:q.dyn.get k=some B:=by rw[hqd];exact T.get_set_same _ _ _
  unfold H.blk;rw[hdd,<- hB];simp only[hqc,hc,E6,beq_self_eq_true,Bool.true_or]
 ·exact Ar (by rw[hqd,T.get_set_ne _ _ _ _ hj]) (fun _ _ r _ _=>by rw[hqc])
section
variable {D:Tab} {E:Env} {tb:TypeId}
theorem FC.call {v:Ev} {ops:Array Oper} {j:Nat} {o:Oper} {rest:List Oper} {A:Ac} {h h1:H} {x:Value} {Q:Ac->H->Prop} (hg:o.guard=none) (hm:(BG o.op||Bi o.op)=false) (ho:BC D E v A o (fresh h)=some (x,h1)) (hl:h1.log=[]) (r:FC D E v ops (j+1) rest (A.put o.dst x) (back h h1) Q):FC D E v ops j (o::rest) A h Q:=by
 rw[Y2] at hm;exact FQ.call hg hm.1 ho hl (r.mono fun _ _ _ ⟨a,b⟩=>⟨FI hm.2 a,b⟩)
theorem Mod.quiet {g h:H} (m:Mod (fun _=>False) (fresh g) h):h.log=[]:=by
 refine J5.2 fun j hj => ?_;rcases m.log j hj with h1|⟨h1,_⟩
 ·cases h1
 ·exact h1
def Con (tb:TypeId) (base n:Nat) (g:H) (sl:Value) (bs:List UInt8):Prop:=∃ k rest,sl=.slice (some (own k)) bs.length n/\g.blk k=some (.cells (bytesV bs++rest) tb (some (k,0)))/\bs.length+rest.length=n/\rest.all isOne=true/\g.chain k=[k]/\base<=k
theorem Con.byt {base n:Nat} {g:H} {sl:Value} {bs:List UInt8} (K:Con tb base n g sl bs):Byt E g sl bs:=by
 obtain⟨k,rest,rfl,hb,hn,ho,_,_⟩:=K;refine .inr ⟨own k,n,rfl,by omega,?_⟩;have h1:=AG (E:=E) hb rfl (by rw[J4,BF,ho];rfl);have h2:=BD h1 (m:=0) (l:=bs.length) (by rw[D0,AM];omega);rw[DA,F2] at h2;rw[h2];congr 1;rw[<- AM bs,List.take_left]
theorem UU {t t2 by_ i6 i7:Nat} {i8:Option Value} {i9:Bool} {ze:Value} {g:H} {n:Nat} (f:Fit g) (hn:0<n)
  (ht:D.ty.get t=some ⟨.slice tb 1 by_,i6,i7,i8,i9⟩) (hz:Ak D tb=some ze) (hz1:ze.cells.toList=[.int .u8 0]) (hzt:Ax D t2 (.int .i64 (n:Nat))=some true) (hrm:roomy n by_=true) :
  ∃ sl' q,Ab D E t t2 (.slice none 0 0) (.int .i64 (n:Nat)) g=some (.slice (some (own g.next)) n n,q)/\(∀ h,Av D t (.slice (some (own g.next)) n n) none (some (.int .i64 0)) none h=some (sl',h))/\Con tb g.next n q sl' []/\Ahd g q:=by
 have zr:∀ n,BB [Value.int .u8 0] n=List.replicate n (.int .u8 0):=by
  intro n;induction n with
  | zero=>rfl
  | succ n ih=>rw[BB,ih];rfl
 refine⟨.slice (some (own g.next)) 0 n,g.af (List.replicate n (.int .u8 0)) tb,?_,fun h => ?_,⟨g.next,List.replicate n (.int .u8 0),rfl,Bg,by simp,by simp[isOne],by simp only[H.chain,H.af,T.get_set_same,Option.getD],C0 _⟩,Ahd.af f _ _⟩
 ·unfold Ab;rw[ht];have hel:BO E 1 ze.cells.toList (.int .i64 ((n:Nat):Int)) g=some (n,List.replicate n (.int .u8 0)):=by
   rw[hz1,<- zr];rfl
  have hzz:(Nat.beq ze.cells.toList.length 1&&Nat.blt 0 1&&ze.cells.toList.all isOne)=true:=by rw[hz1];rfl
  have hb:Nat.beq (List.replicate n (Value.int .u8 0)).length (n*1)=true:=by rw[I4,V2];exact V1 n
  simp only[hz,hzt,hzz,hel,hb];cases n with
  | zero=>omega
  | succ n=>simp only[hrm]
 ·have e1:Nat.ble n n=true:=by rw[Z0];exact C0 _
  have e2:Nat.beq n 0=false:=by
   cases q:Nat.beq n 0
   ·rfl
   ·have:=U0 q;omega
  have e3:AN 0 (n+1)=true:=by
   show Nat.blt 0 (n+1)=true;rw[P0];omega
  unfold Av;rw[ht];simp only[e1,asliceS,abound,e3,Int.toNat_zero,e2,U5,Nat.sub_zero];rfl
theorem Wu {t t2 by_ i6 i7:Nat} {i8:Option Value} {i9:Bool} {ze:Value} {base n:Nat} {g:H} {sl x:Value} {bs cs:List UInt8} (f:Fit g) (hm:g.mark<=base) (K:Con tb base n g sl bs)
  (ht:D.ty.get t=some ⟨.slice tb 1 by_,i6,i7,i8,i9⟩) (hz:Ak D tb=some ze) (hzz:(Nat.beq ze.cells.toList.length 1&&Nat.blt 0 1&&ze.cells.toList.all isOne)=true) (hzt:Ax D t2 x=some false)
  (hx:Byt E g x cs) (hle:bs.length+cs.length<=n) (hrm:roomy (bs.length+cs.length) by_=true) :
  ∃ sl' q,Ab D E t t2 sl x g=some (sl',q)/\Con tb base n q sl' (bs++cs)/\(∀ M h,Fit h->h.next<=base->Mod M h g->Mod M h q):=by
 obtain⟨k,rest,rfl,hb,hn,ho,hc,hk⟩:=K;have zero:cs.length=0->BO E 1 ze.cells.toList x g=some (0,[])->∃ sl' q,Ab D E t t2 (.slice (some (own k)) bs.length n) x g=some (sl',q)/\Con tb base n q sl' (bs++cs)/\(∀ M h,Fit h->h.next<=base->Mod M h g->Mod M h q):=by
  intro h0 hel;obtain rfl:=O3.1 h0;refine⟨_,g,?_,by rw[X0];exact⟨k,rest,rfl,hb,hn,ho,hc,hk⟩,fun _ _ _ _ m=>m⟩;unfold Ab;rw[ht];have hb0:Nat.beq ([]:List Value).length (0*1)=true:=rfl;have e1:Nat.ble bs.length n=true:=by rw[Z0];omega
  simp only[hz,hzt,hzz,hel,hb0,e1]
 rcases hx with⟨rfl,rfl⟩|⟨a,c,rfl,hcc,hcs⟩
 ·exact zero rfl rfl
 obtain⟨l,hl⟩:∃ l,cs.length=l:=⟨_,rfl⟩;cases l with
 | zero=>
  refine zero hl ?_;simp only[BO,hl,U5,H.cells]
 | succ m=>
  obtain⟨q,hput,fq,hqb,hqo,hqc,hqn,hql,hqm⟩:=ABh (o:=bs.length) (vs:=bytesV cs) f hb hc (Y0 hm hk) (by intro e;have:=AM cs;rw[e,hl] at this;simp at this) (by rw[D0,AM,AM];omega) (BF cs);refine⟨.slice (some (own k)) (bs.length+cs.length) n,q,?_,⟨k,rest.drop cs.length,by rw[D0],?_,by rw[D0,Y3];omega,?_,by rw[hqc];exact hc,hk⟩,fun M h fh hhb mm => ?_⟩
  ·unfold Ab;rw[ht];have hel:BO E 1 ze.cells.toList (.slice (some a) cs.length c) g=some (cs.length,bytesV cs):=by simp only[BO,V2,hcs]
   have hbl:Nat.beq (bytesV cs).length (cs.length*1)=true:=by rw[AM,V2];exact V1 _
   have e1:Nat.ble (bs.length+cs.length) n=true:=by rw[Z0];omega
   have hb':g.blk (own k).block=some (.cells (bytesV bs++rest) tb (some (k,0))):=hb;have hsp:(own k).spot=some 0:=rfl;simp only[hz,hzt,hzz,hel,hbl];rw[hl] at hrm e1 ⊢;simp only[hrm,hsp,hb',e1,V2,hput]
  ·rw[hqb];congr 2;have e1:(bytesV bs++rest).take bs.length=bytesV bs:=by rw[<- AM bs,List.take_left]
   rw[e1,DK,AM];congr 1;rw[<- List.drop_drop,<- AM bs,List.drop_left]
  ·rw[O2] at ho ⊢;exact fun v hv=>ho v (List.mem_of_mem_drop hv)
  ·refine⟨fq,fun j B hj hB => ?_,hqm.trans mm.mark,by rw[hqn];exact mm.next,fun r hr=>(hqc r).trans (mm.chain r hr),fun j hj=>by rw[hql] at hj;exact mm.log j hj⟩;rw[hqo j (by have:=fh.lt hB;omega)];exact mm.blk j B hj hB
end
def DE (m:Nat):List UInt8:=if m<128 then [UInt8.ofNat m] else UInt8.ofNat (m % 128+128)::DE (m / 128)
termination_by m
decreasing_by omega
theorem Cm {m:Nat} (h:m<128):DE m=[UInt8.ofNat m]:=by rw[DE,if_pos h]
theorem Fb {m:Nat} (h:¬ m<128):DE m=UInt8.ofNat (m % 128+128)::DE (m / 128):=by rw[DE,if_neg h]
theorem WK (m:Nat):1<=(DE m).length:=by
 rw[DE]
 split<;>simp
mutual
def EQ:Item->List UInt8
 | .mk k n t ks=>UInt8.ofNat (k.toNat+(if t.data.toList=[] then 0 else 64)+(if ks.length=0 then 0 else 128))::(DE n.toNat++((if t.data.toList=[] then [] else DE t.data.toList.length++t.data.toList)++(if ks.length=0 then [] else DE ks.length++encL ks)))
def encL:List Item->List UInt8
 | []=>[]
 | x::xs=>EQ x++encL xs
end
theorem BU {bs l:List UInt8} {pos:Nat} {c:UInt8} (h:bs.drop pos=c::l):bs[pos]? = some c/\bs.drop (pos+1)=l:=by
 constructor
 ·rw[<- List.head?_drop,h];rfl
 ·rw[<- List.drop_drop,h];rfl
theorem CB {bs x l:List UInt8} {pos:Nat} (h:bs.drop pos=x++l):bs.drop (pos+x.length)=l:=by
 rw[<- List.drop_drop,h,List.drop_left]
theorem ofNat_toNat {m:Nat} (h:m<256):(UInt8.ofNat m).toNat=m:=by
 rw[UInt8.toNat_ofNat'];exact L4 h
theorem Se {least most frm items:Nat} {bs rest:List UInt8}:∀ (k m i pos n:Nat),bs.drop pos=DE m++rest->m<128 ^ (k+1)->(i=0\/0<m)->least<=n+m*128 ^ i->n+m*128 ^ i<=most->rdNum bs least most frm items (k+1) i pos n=.ok (n+m*128 ^ i) (pos+(DE m).length) items:=by
 intro k;induction k with
 | zero=>
  intro m i pos n hd hm hi hl hmo;have hm:m<128:=by simpa using hm
  rw[Cm hm] at hd ⊢;obtain⟨h1,h2⟩:=BU hd;have hc:=ofNat_toNat (m:=m) (by omega);rw[rdNum,h1];simp only[hc];rw[L4 hm,if_neg (by omega),if_neg (by omega),if_neg (by omega),if_neg (by omega)];rfl
 | succ k ih=>
  intro m i pos n hd hm hi hl hmo;by_cases q:m<128
  ·rw[Cm q] at hd ⊢;obtain⟨h1,h2⟩:=BU hd;have hc:=ofNat_toNat (m:=m) (by omega);rw[rdNum,h1];simp only[hc];rw[L4 q,if_neg (by omega),if_neg (by omega),if_neg (by omega),if_neg (by omega)];rfl
  ·rw[Fb q] at hd ⊢;obtain⟨h1,h2⟩:=BU hd;have hc:=ofNat_toNat (m:=m % 128+128) (by omega);have e:n+m % 128*128 ^ i+m / 128*128 ^ (i+1)=n+m*128 ^ i:=by
    have h3:=Nat.div_add_mod m 128;have h4:m*128 ^ i=(128*(m / 128)+m % 128)*128 ^ i:=by rw[h3]
    rw[h4,U3,Nat.pow_succ,Nat.mul_comm (128 ^ i) 128,<- Nat.mul_assoc,Nat.mul_comm (m / 128) 128];omega
   have hp:(m % 128+128) % 128=m % 128:=by omega
   rw[rdNum,h1];simp only[hc];rw[hp,if_pos (by omega),ih (m / 128) (i+1) (pos+1) _ h2 (by rw[Nat.pow_succ] at hm;omega) (.inr (by omega)) (by rw[e];exact hl) (by rw[e];exact hmo),e,I1];congr 1;omega
theorem Nm {least most items m pos:Nat} {bs rest:List UInt8} (hd:bs.drop pos=DE m++rest) (hm:m<=1099511627776) (hl:least<=m) (hmo:m<=most):rdN bs least most pos items=.ok m (pos+(DE m).length) items:=by
 have:=Se (least:=least) (most:=most) (frm:=pos) (items:=items) 5 m 0 pos 0 hd (by omega) (.inl rfl) (by simpa using hl) (by simpa using hmo);simpa [rdN] using this
theorem UY {a:ByteArray} {l:List UInt8} (h:a.data.toList=l):a=⟨⟨l⟩⟩:=by
 obtain⟨⟨x⟩⟩:=a;cases h;rfl
theorem Qc {items pos:Nat} {bs rest:List UInt8} {t:ByteArray} (hd:bs.drop pos=DE t.data.toList.length++(t.data.toList++rest)) (h1:1<=t.data.toList.length) (h2:t.data.toList.length<=4096):Du bs pos items=.ok t (pos+((DE t.data.toList.length).length+t.data.toList.length)) items:=by
 rw[Du,Nm hd (by omega) h1 h2];have hd2:=CB hd;have hl:bs.length-(pos+(DE t.data.toList.length).length)=t.data.toList.length+rest.length:=by
  rw[<- Y3,hd2,D0]
 simp only[hl];rw[if_neg (by omega),hd2,List.take_left];rw[<- UY (a:=t) rfl];congr 1;omega
theorem MX:∀ {ks:List Item} {x:Item},goodL ks->x∈ks->Bu x
 | [],_,_,h=>by cases h
 | y::ks,x,hg,h=>by
  rw[goodL] at hg;rcases O1.1 h with rfl|h
  ·exact hg.1
  ·exact MX hg.2 h
theorem Dw:∀ ks:List Item,ks.length<=iszL ks
 | []=>C2 _
 | x::xs=>by
  have:=Dw xs;have h1:1<=isz x:=by obtain⟨_,_,_,_⟩:=x;rw[isz];omega
  rw[iszL,I1];omega
def ACR (bs:List UInt8) (f:Nat) (rec:Nat->Nat->Rd Item):Prop:=∀ (t:Item) (pos items:Nat) (rest:List UInt8),bs.drop pos=EQ t++rest->Bu t->Cd t<=f->items+isz t<=5000->rec pos items=.ok t (pos+(EQ t).length) (items+isz t)
theorem Jp {bs:List UInt8} {f:Nat} {rec:Nat->Nat->Rd Item} (R:ACR bs f rec):∀ (ks acc:List Item) (pos items:Nat) (rest:List UInt8),bs.drop pos=encL ks++rest->goodL ks->lvlL ks 0<=f->items+iszL ks<=5000->rdKids rec ks.length acc pos items=.ok (acc++ks) (pos+(encL ks).length) (items+iszL ks)
 | [],acc,pos,items,rest,hd,hg,hl,hz=>by
  rw[H4,rdKids,encL,iszL,X0];rfl
 | x::xs,acc,pos,items,rest,hd,hg,hl,hz=>by
  rw[goodL] at hg;rw[iszL] at hz ⊢;rw[encL,E1] at hd;have hx:=CG x;rw[lvlL,if_pos (by omega),GX _ _ (by omega)] at hl;rw[I1,rdKids,R x pos items _ hd hg.1 (by omega) (by omega)];have:=Jp R xs (acc++[x]) (pos+(EQ x).length) (items+isz x) rest (CB hd) hg.2 (by omega) (by omega);simp only[this];rw[encL,E1,D0];simp only[List.singleton_append,Rd.ok.injEq,true_and];omega
theorem FX (bs:List UInt8):∀ f,ACR bs f (rdItem bs f)
 | 0=>by
  intro t pos items rest hd hg hl hz;have:=CG t;omega
 | f+1=>by
  have R:=FX bs f;intro t pos items rest hd hg hl hz;obtain⟨k,n,tx,ks⟩:=t;rw[Bu] at hg;obtain⟨g1,g2,g3,g4,g5,g6⟩:=hg;rw[Cd] at hl;rw[isz] at hz;rw[EQ,W0] at hd;obtain⟨h1,h2⟩:=BU hd;generalize hhd:k.toNat+(if tx.data.toList=[] then 0 else 64)+(if ks.length=0 then 0 else 128)=hd0 at h1 hd;have hlt:hd0<256:=by rw[<- hhd];split<;>split<;>omega
  have hc:=ofNat_toNat hlt;have hk:hd0 % 64=k.toNat:=by rw[<- hhd];split<;>split<;>omega
  have b6:hd0 / 64 % 2=1↔tx.data.toList≠[]:=by rw[<- hhd];split<;>split<;>simp_all<;>omega
  have b7:128<=hd0↔ks.length≠0:=by rw[<- hhd];split<;>split<;>simp_all<;>omega
  rw[rdItem,h1];simp only[hc,hk];rw[if_neg (by omega),if_neg (by omega)];rw[E1,E1] at h2;rw[Nm h2 (by omega) (C2 _) (by omega)];have h3:=CB h2;simp only[];have ht:(if hd0 / 64 % 2=1 then Du bs (pos+1+(DE n.toNat).length) (items+1) else .ok ⟨⟨[]⟩⟩ (pos+1+(DE n.toNat).length) (items+1))=.ok tx (pos+1+(DE n.toNat).length+(if tx.data.toList=[] then [] else DE tx.data.toList.length++tx.data.toList:List UInt8).length) (items+1):=by
   by_cases q:tx.data.toList=[]
   ·rw[if_neg (fun h=>(b6.1 h) q),if_pos q,UY q];rfl
   ·rw[if_pos (b6.2 q),if_neg q,D0];rw[if_neg q,E1] at h3;refine Qc h3 ?_ g5;have:=V6.2 q;omega
  rw[ht];have h4:=CB h3;simp only[];generalize hp2:pos+1+(DE n.toNat).length+(if tx.data.toList=[] then [] else DE tx.data.toList.length++tx.data.toList:List UInt8).length=p2 at h4 ⊢;have hk:(if 128<=hd0 then CK bs (rdItem bs f) p2 (items+1) else .ok [] p2 (items+1))=.ok ks (p2+(if ks.length=0 then [] else DE ks.length++encL ks:List UInt8).length) (items+1+iszL ks):=by
   by_cases q:ks.length=0
   ·rw[if_neg (fun h=>(b7.1 h) q),if_pos q,O3.1 q,iszL];rfl
   ·rw[if_pos (b7.2 q),if_neg q,D0];rw[if_neg q,E1] at h4;have hkl:=Dw ks;rw[CK,Nm h4 (by omega) (by omega) (by omega)];simp only[];rw[Jp R ks [] _ _ _ (CB h4) g6 (by omega) (by omega)];rw[V0,Nat.add_assoc]
  rw[hk];simp only[Rd.ok.injEq];refine⟨?_,?_,?_⟩
  ·rw[Int.toNat_of_nonneg (by omega),Int.toNat_of_nonneg (by omega)]
  ·rw[EQ,I1,D0,D0,<- hp2];omega
  ·rw[isz];omega
/-! ### Bytes that are cut off -/
mutual
def PI:Item->Prop
 | .mk k n tx ks=>1<=k/\k<=63/\0<=n/\n<=1099511627776/\tx.data.toList.length<=5/\smlL ks
def smlL:List Item->Prop
 | []=>True
 | x::xs=>PI x/\smlL xs
end
theorem IR:∀ {xs:List Item} {y:Item},smlL xs->PI y->smlL (xs++[y])
 | [],y,_,hy=>by rw[V0,smlL,smlL];exact⟨hy,trivial⟩
 | x::xs,y,h,hy=>by
  rw[smlL] at h;rw[W0,smlL];exact⟨h.1,IR h.2 hy⟩
mutual
theorem PI.dk:∀ {t:Item},PI t->Bu t
 | .mk k n tx ks,h=>by
  rw[PI] at h;rw[Bu];exact⟨h.1,h.2.1,h.2.2.1,h.2.2.2.1,by omega,smlL.dk h.2.2.2.2.2⟩
theorem smlL.dk:∀ {ks:List Item},smlL ks->goodL ks
 | [],_=>by rw[goodL];trivial
 | x::xs,h=>by
  rw[smlL] at h;rw[goodL];exact⟨PI.dk h.1,smlL.dk h.2⟩
end
theorem Nt:∀ (k n:Nat),n<128 ^ k->(DE n).length<=k+1:=by
 intro k;induction k with
 | zero=>intro n hn;rw[Nat.pow_zero] at hn;rw[Cm (by omega:n<128)];simp
 | succ k ih=>
  intro n hn;by_cases h:n<128
  ·rw[Cm h];simp
  ·rw[Fb h,I1];have:=ih (n / 128) (by rw[Nat.pow_succ] at hn;omega);omega
theorem Mj (k n:Int) (tx:ByteArray) (ks:List Item):∃ hd tB kB,EQ (.mk k n tx ks)=hd::(DE n.toNat++(tB++kB))/\tB.length<=(DE tx.data.toList.length).length+tx.data.toList.length/\kB.length<=(DE ks.length).length+(encL ks).length:=by
 rw[EQ];refine⟨_,_,_,rfl,?_,?_⟩
 ·split
  ·simp
  ·rw[D0];omega
 ·split
  ·simp
  ·rw[D0];omega
theorem Pw (t:Item):1<=(EQ t).length:=by
 obtain⟨k,n,tx,ks⟩:=t;obtain⟨hd,tB,kB,e,_⟩:=Mj k n tx ks;rw[e,I1];omega
mutual
theorem HN:∀ {t:Item},PI t->isz t<=5000->(EQ t).length<=100*isz t
 | .mk k n tx ks,h,hz=>by
  rw[PI] at h;obtain⟨g1,g2,g3,g4,g5,g6⟩:=h;rw[isz] at hz ⊢;have ih:=KA g6 (by omega);obtain⟨hd,tB,kB,e,h1,h2⟩:=Mj k n tx ks;have a1:=Nt 9 n.toNat (by omega);have a2:=Nt 9 tx.data.toList.length (by omega);have a3:=Nt 9 ks.length (by have:=Dw ks;omega);rw[e,I1,D0,D0];omega
theorem KA:∀ {ks:List Item},smlL ks->iszL ks<=5000->(encL ks).length<=100*iszL ks
 | [],_,_=>by rw[encL];simp
 | x::xs,h,hz=>by
  rw[smlL] at h;rw[iszL] at hz ⊢;rw[encL,D0];have:=HN h.1 (by omega);have:=KA h.2 (by omega);omega
end
def VH (w:BitVec 32) (c:UInt8):BitVec 32:=(w <<< 8) ||| BitVec.ofNat 32 c.toNat
def spr1 (bs:List UInt8):Nat->Nat->List (BitVec 32)->List (BitVec 32)
 | 0,_,W=>W
 | r+1,i,W=>spr1 bs r (i+1) (W.set i (((bs.drop (4*i)).take 4).foldl VH (W.getD i 0)))
def ZE:Nat->Nat->List (BitVec 32)->List (BitVec 32)
 | 0,_,W=>W
 | r+1,i,W=>ZE r (i+1) (W.set i (sumW [W.getD (i-16) 0,W.getD (i-7) 0,mixW 7 18 3 true (W.getD (i-15) 0),mixW 17 19 10 true (W.getD (i-2) 0)]))
def spread (bs:List UInt8):List (BitVec 32):=ZE 48 16 (spr1 bs 16 0 (List.replicate 64 0))
theorem Ft (bs:List UInt8):∀ (r i:Nat) (W:List (BitVec 32)),(spr1 bs r i W).length=W.length
 | 0,_,_=>rfl
 | r+1,i,W=>by rw[spr1,Ft bs r,J6]
theorem IQ:∀ (r i:Nat) (W:List (BitVec 32)),(ZE r i W).length=W.length
 | 0,_,_=>rfl
 | r+1,i,W=>by rw[ZE,IQ r,J6]
theorem GJ (bs:List UInt8):(spread bs).length=64:=by
 unfold spread;rw[IQ,Ft,I4]
def Rj:List (BitVec 32):=[
 0x428a2f98,0x71374491,0xb5c0fbcf,0xe9b5dba5,0x3956c25b,0x59f111f1,0x923f82a4,0xab1c5ed5,
 0xd807aa98,0x12835b01,0x243185be,0x550c7dc3,0x72be5d74,0x80deb1fe,0x9bdc06a7,0xc19bf174,
 0xe49b69c1,0xefbe4786,0x0fc19dc6,0x240ca1cc,0x2de92c6f,0x4a7484aa,0x5cb0a9dc,0x76f988da,
 0x983e5152,0xa831c66d,0xb00327c8,0xbf597fc7,0xc6e00bf3,0xd5a79147,0x06ca6351,0x14292967,
 0x27b70a85,0x2e1b2138,0x4d2c6dfc,0x53380d13,0x650a7354,0x766a0abb,0x81c2c92e,0x92722c85,
 0xa2bfe8a1,0xa81a664b,0xc24b8b70,0xc76c51a3,0xd192e819,0xd6990624,0xf40e3585,0x106aa070,
 0x19a4c116,0x1e376c08,0x2748774c,0x34b0bcb5,0x391c0cb3,0x4ed8aa4a,0x5b9cca4f,0x682e6ff3,
 0x748f82ee,0x78a5636f,0x84c87814,0x8cc70208,0x90befffa,0xa4506ceb,0xbef9a3f7,0xc67178f2]
structure W8 where
 a:BitVec 32
 b:BitVec 32
 c:BitVec 32
 d:BitVec 32
 e:BitVec 32
 f:BitVec 32
 g:BitVec 32
 h:BitVec 32
def W8.list (x:W8):List (BitVec 32):=[x.a,x.b,x.c,x.d,x.e,x.f,x.g,x.h]
def W8.round (x:W8) (k w:BitVec 32):W8:=
 let p:=sumW [rndA x.e x.f x.g x.h,k,w]
 ⟨sumW [p,rndB x.a x.b x.c],x.a,x.b,x.c,sumW [x.d,p],x.e,x.f,x.g⟩
def rounds (W:List (BitVec 32)):Nat->Nat->W8->W8
 | 0,_,x=>x
 | r+1,i,x=>rounds W r (i+1) (x.round (Rj.getD i 0) (W.getD i 0))
def W8.plus (x y:W8):W8:=⟨sumW [x.a,y.a],sumW [x.b,y.b],sumW [x.c,y.c],sumW [x.d,y.d],sumW [x.e,y.e],sumW [x.f,y.f],sumW [x.g,y.g],sumW [x.h,y.h]⟩
def taken (x:W8) (bs:List UInt8):W8:=(rounds (spread bs) 64 0 x).plus x
def takens:Nat->W8->List UInt8->W8×List UInt8
 | 0,x,bs=>(x,bs)
 | r+1,x,bs=>if 64<=bs.length then takens r (taken x (bs.take 64)) (bs.drop 64) else (x,bs)
theorem SB {W:List (BitVec 32)} {i:Nat} (hi:i<W.length) (w:BitVec 32):(AE W).take i++[.int .u32 (w.toNat:Nat)]++(AE W).drop (i+1)=AE (W.set i w):=by
 rw[List.set_eq_take_append_cons_drop,if_pos hi];simp[AE]
theorem Gp {W:List (BitVec 32)} {i:Nat} (hi:i<W.length):(AE W)[i]? = some (.int .u32 ((W.getD i 0).toNat:Nat)):=by
 rw[Gq (x:=W.getD i 0)];simp[List.getD,hi]
theorem AB9 (c:UInt8):IntKind.u32.wrap ((c.toNat:Nat):Int)=(((BitVec.ofNat 32 c.toNat).toNat:Nat):Int):=by
 have:=c.toNat_lt;rw[VS,F6,L4 (by omega)];omega
set_option linter.unusedSectionVars false
section
variable {D:Tab} {E:Env} {tb:TypeId}
theorem WZ {h:H} (f:Fit h) {ys:List Value} {ty:TypeId} {r p:Nat} (hr:r<h.next) :
  Fit (h.join ys ty r p (h.chain r))/\BL h (h.join ys ty r p (h.chain r))/\∀ M g,g.next<=r->Mod M g h->Mod M g (h.join ys ty r p (h.chain r)):=by
 have hd:∀ j,j≠h.next->(h.join ys ty r p (h.chain r)).dyn.get j=h.dyn.get j:=fun j hj=>by
  simp only[H.join];rw[T.get_set_ne _ _ _ _ hj]
 have hc:∀ j,j≠r->(h.join ys ty r p (h.chain r)).chain j=h.chain j:=fun j hj=>by
  simp only[H.join,H.chain];rw[T.get_set_ne _ _ _ _ hj]
 have hcr:(h.join ys ty r p (h.chain r)).chain r=h.next::h.chain r:=by
  simp only[H.join,H.chain,T.get_set_same,Option.getD]
 have fq:Fit (h.join ys ty r p (h.chain r)):=⟨fun k hk=>by
  have hk:h.next+1<=k:=hk;rw[hd k (by omega)];exact f.free k (by omega),(Lg.join f.ok ys ty r p (h.chain r) (by omega) (fun _ _=>Iff.rfl)).ok f.ok⟩
 have hg:BL h (h.join ys ty r p (h.chain r)):=fun j B hB=>by
  have hj:=f.lt hB;rw[<- hB];refine Ar (hd j (by omega)) (fun xs u r' p' _ => ?_);by_cases e:r'=r
  ·subst e;rw[hcr,O1];exact⟨fun h=>h.elim (fun e=>by omega) id,.inr⟩
  ·rw[hc r' e]
 refine⟨fq,hg,fun M g hgr m=>⟨fq,fun j B hj hB=>hg j B (m.blk j B hj hB),m.mark,O6 m.next,fun r' hr' => ?_,m.log⟩⟩;rw[hc r' (by omega)];exact m.chain r' hr'
def Tl (E:Env) (tb:TypeId) (base:Nat) (h:H) (sv:Value) (bs:List UInt8):Prop:=Byt E h sv bs/\(bs≠[]->∃ k o c xs,sv=.slice (some (aadd (own k) o)) bs.length c/\h.blk k=some (.cells xs tb (some (k,0)))/\o+c=xs.length/\bs.length<=c/\base<=k)
theorem Tl.grow {base:Nat} {h h':H} {sv:Value} {bs:List UInt8} (T:Tl E tb base h sv bs) (hg:BL h h'):Tl E tb base h' sv bs:=
 ⟨T.1.grow hg,fun hn=>by
  obtain⟨k,o,c,xs,e,hb,h1,h2,h3⟩:=T.2 hn;exact⟨k,o,c,xs,e,hg _ _ hb,h1,h2,h3⟩⟩
theorem Con.tl {base n:Nat} {g:H} {sl:Value} {bs:List UInt8} (K:Con tb base n g sl bs):Tl E tb base g sl bs:=by
 refine⟨K.byt,fun _ => ?_⟩;obtain⟨k,rest,rfl,hb,hn,_,_,hk⟩:=K;exact⟨k,0,n,_,by rw[DA],hb,by rw[D0,AM];omega,by omega,hk⟩
theorem QE (a:Addr) (m n:Nat):aadd (aadd a m) n=aadd a (m+n):=by
 obtain⟨b,o,sp⟩:=a
 match sp,m,n with
 | none,_,_=>simp only[aadd,Nat.add_assoc]
 | some 0,_,_=>simp only[aadd,Nat.add_assoc]
 | some (_+1),0,0=>rfl
 | some (_+1),0,_+1=>simp[aadd]
 | some (_+1),_+1,0=>simp[aadd]
 | some (_+1),_+1,_+1=>simp[aadd,Nat.add_assoc]
theorem Tl.front {base t by_ i6 i7:Nat} {i8:Option Value} {i9:Bool} {h:H} {sv:Value} {bs:List UInt8} (T:Tl E tb base h sv bs)
  (ht:D.ty.get t=some ⟨.slice tb 1 by_,i6,i7,i8,i9⟩) {m:Nat} (hm:0<m) (hl:m<=bs.length) :
  ∃ b,(∀ h',Av D t sv none (some (.int .i64 (m:Nat))) none h'=some (b,h'))/\Byt E h b (bs.take m):=by
 have hne:bs≠[]:=by intro e;rw[e] at hl;simp at hl;omega
 obtain⟨k,o,c,xs,rfl,hb,h1,h2,h3⟩:=T.2 hne;have i1:AN ((m:Nat):Int) (c+1)=true:=by
  show Nat.blt m (c+1)=true;rw[P0];omega
 have i3:Nat.beq c 0=false:=by
  cases q:Nat.beq c 0
  ·rfl
  ·have:=U0 q;omega
 have i4:Nat.ble bs.length c=true:=by rw[Z0];exact h2
 have hlen:(bs.take m).length=m:=by rw[C5];omega
 refine⟨.slice (some (aadd (own k) o)) m c,fun h' => ?_,.inr ⟨aadd (own k) o,c,by rw[hlen],by omega,?_⟩⟩
 ·unfold Av;rw[ht];simp only[i4,asliceS,abound,i1,i3,M0,U5,Nat.sub_zero];rw[DA]
 ·rcases T.1 with⟨e,_⟩|⟨a,c',e,_,hcs⟩
  ·cases e
  ·cases e;have:=BD hcs (m:=0) (l:=m) (by omega);rw[DA,Ff] at this;rw[hlen,this,F2]
theorem Tl.cut {base t by_ i6 i7:Nat} {i8:Option Value} {i9:Bool} {h:H} {sv:Value} {bs:List UInt8} (f:Fit h) (T:Tl E tb base h sv bs)
  (ht:D.ty.get t=some ⟨.slice tb 1 by_,i6,i7,i8,i9⟩) {m:Nat} (hm:0<m) (hl:m<=bs.length) :
  ∃ sv' q,Av D t sv (some (.int .i64 (m:Nat))) none none (fresh h)=some (sv',q)/\q.log=[]/\Fit (back h q)/\BL h (back h q)/\h.next<=(back h q).next/\Tl E tb base (back h q) sv' (bs.drop m)/\∀ M g,g.next<=base->Mod M g h->Mod M g (back h q):=by
 have hne:bs≠[]:=by intro e;rw[e] at hl;simp at hl;omega
 obtain⟨k,o,c,xs,rfl,hb,h1,h2,h3⟩:=T.2 hne;have i1:AN ((m:Nat):Int) (bs.length+1)=true:=by
  show Nat.blt m (bs.length+1)=true;rw[P0];omega
 have i4:Nat.ble bs.length c=true:=by rw[Z0];exact h2
 have hlen:(bs.drop m).length=bs.length-m:=by rw[Y3]
 cases i3:Nat.beq c m with
 | false=>
  refine⟨.slice (some (aadd (own k) (o+m))) (bs.length-m) (c-m),fresh h,?_,rfl,?_,?_,?_,⟨?_,fun _=>⟨k,o+m,c-m,xs,by rw[hlen],?_,?_,by omega,h3⟩⟩,?_⟩
  ·unfold Av;rw[ht];simp only[i4,asliceS,abound,i1,i3,M0,V2];rw[QE]
  ·rw[Bq];exact f
  ·rw[Bq];exact fun _ _ h=>h
  ·rw[Bq];exact C0 _
  ·rw[Bq];rcases T.1 with⟨e,_⟩|⟨a,c',e,_,hcs⟩
   ·cases e
   ·cases e;refine .inr ⟨aadd (own k) (o+m),c-m,by rw[hlen],by omega,?_⟩;have:=BD hcs (m:=m) (l:=bs.length-m) (by omega);rw[QE,Ff] at this;rw[hlen,this];congr 2;rw[<- hlen,List.take_length]
  ·rw[Bq];exact hb
  ·have:=Nat.ne_of_beq_eq_false i3;omega
  ·rw[Bq];exact fun _ _ _ m=>m
 | true=>
  have hcm:=U0 i3;have hkn:=f.lt hb;have hdr:bs.drop m=[]:=List.drop_eq_nil_of_le (by omega);have hbk:(fresh h).blk (aadd (own k) o).block=some (.cells xs tb (some (k,0))):=hb;have hoff:Nat.beq ((aadd (own k) o).off+c*1) xs.length=true:=by
   have:(aadd (own k) o).off=o:=by simp[aadd,own]
   rw[this,V2,h1];exact V1 _
  have hsp:(aadd (own k) o).spot=some 0:=rfl;obtain⟨j1,j2,j3⟩:=WZ f (ys:=[]) (ty:=tb) (r:=k) (p:=0+xs.length) hkn;have hbq:back h ((fresh h).join [] tb k (0+xs.length) ((fresh h).chain k))=h.join [] tb k (0+xs.length) (h.chain k):=Cr _;refine⟨.slice (some (own h.next)) 0 0,(fresh h).join [] tb k (0+xs.length) ((fresh h).chain k),?_,rfl,by rw[hbq];exact j1,by rw[hbq];exact j2,by rw[hbq];exact U1 _,?_,?_⟩
  ·unfold Av;rw[ht];simp only[i4,asliceS,abound,i1,i3,M0,hsp,hbk,hoff];rfl
  ·rw[hdr];exact⟨.inr ⟨own h.next,0,rfl,C0 _,rfl⟩,fun h=>absurd rfl h⟩
  ·rw[hbq];exact fun M g hg m=>j3 M g (by omega) m
theorem Byt.keep {h h':H} {v:Value} {bs:List UInt8} (b:Byt E h v bs) {k:Nat} (hx:∀ xs ty rt,h.blk k=some (.cells xs ty rt)->∀ v∈xs,∀ c:Int,v≠.int .u8 c) (hg:∀ j B,j≠k->h.blk j=some B->h'.blk j=some B):Byt E h' v bs:=by
 rcases b with b|⟨a,c,h1,h2,h3⟩
 ·exact .inl b
 refine .inr ⟨a,c,h1,h2,?_⟩;cases bs with
 | nil=>rfl
 | cons b0 bs=>
  rw[I1] at h3 ⊢;unfold H.cells at h3 ⊢;simp only at h3 ⊢;cases hs:a.spot with
  | none=>rw[hs] at h3;exact h3
  | some s=>
   rw[hs] at h3;cases s with
   | succ s=>cases h3
   | zero=>
    simp only at h3 ⊢;by_cases e:a.block=k
    ·rw[e] at h3;split at h3
     ·next xs ty rt hb=>
      split at h3
      ·injection h3 with h3;have hm:Value.int .u8 (b0.toNat:Nat)∈(xs.drop a.off).take (bs.length+1):=by
        rw[h3];exact List.mem_cons_self ..
       exact absurd rfl (hx _ _ _ hb _ (List.mem_of_mem_drop (List.mem_of_mem_take hm)) _)
      ·cases h3
     ·cases h3
    ·cases hB:h.blk a.block with
     | none=>rw[hB] at h3;cases h3
     | some B=>rw[hg _ _ e hB];rw[hB] at h3;exact h3
theorem Tl.keep {base:Nat} {h h':H} {sv:Value} {bs:List UInt8} (T:Tl E tb base h sv bs) {k:Nat} (hx:∀ xs ty rt,h.blk k=some (.cells xs ty rt)->rt=none/\∀ v∈xs,∀ c:Int,v≠.int .u8 c) (hg:∀ j B,j≠k->h.blk j=some B->h'.blk j=some B):Tl E tb base h' sv bs:=
 ⟨T.1.keep (fun xs ty rt h=>(hx xs ty rt h).2) hg,fun hn=>by
  obtain⟨k',o,c,xs',e,hb',h1,h2,h3⟩:=T.2 hn;exact⟨k',o,c,xs',e,hg _ _ (fun e=>by subst e;cases (hx _ _ _ hb').1) hb',h1,h2,h3⟩⟩
theorem FQ.join {v:Ev} {ops:Array Oper} {j:Nat} {o:Oper} {rest:List Oper} {A:Ac} {h h1:H} {x:Value} {Q:Ac->H->List Tch->Prop} (hg:o.guard=none) (hs:GN ops j=true) (ho:BC D E v A o (fresh h)=some (x,h1)) (hl:h1.log=[])
  (r:FQ D E v ops (j+1) rest (A.put o.dst x) (back h h1) (fun A' h' ts=>Q A' h' (⟨reads D A o,[],h.next,h1.next,rootedStore A h o.op⟩::ts))):FQ D E v ops j (o::rest) A h Q:=by
 obtain⟨A',h',ts,h2,hq⟩:=r;refine⟨A',h',_,?_,hq⟩;have ho':BC D E v A o { h with mark:=h.next,log:=[] }=some (x,h1):=ho;simp only[BA,Ai hg,ho',hs,Bool.or_true];have h2':BA D E v ops (j+1) rest (A.put o.dst x) ({ h1 with mark:=h.mark,log:=h.log }.note h1.log)=some (A',h',ts):=h2;rw[h2',hl]
end
def TP (l:Nat):Nat:=(120-l % 64) % 64
def YT (l:Nat):List UInt8:=128::List.replicate (TP (l+1)) 0
def NB (v:Nat):Nat->List UInt8
 | 0=>[]
 | r+1=>UInt8.ofNat (v / 2 ^ (8*r))::NB v r
def byteW (w:BitVec 32) (s:Nat):UInt8:=UInt8.ofNat (w >>> s).toNat
def Zg (W:List (BitVec 32)):Nat->Nat->List UInt8->List UInt8
 | 0,_,D=>D
 | r+1,i,D=>Zg W r (i+1) (D.set i (byteW (W.getD (i / 4) 0) (24-8*(i % 4))))
def IN (rest:List UInt8) (n:Nat):List UInt8:=rest++(YT rest.length++NB (8*n) 8)
def endB (x:W8) (rest:List UInt8) (n:Nat):List UInt8:=Zg (takens (IN rest n).length x (IN rest n)).1.list 32 0 (List.replicate 32 0)
def begin8:W8:=⟨0x6a09e667,0xbb67ae85,0x3c6ef372,0xa54ff53a,0x510e527f,0x9b05688c,0x1f83d9ab,0x5be0cd19⟩
def PG (bs:List UInt8):List UInt8:=endB (takens bs.length begin8 bs).1 (takens bs.length begin8 bs).2 bs.length
theorem Fw (W:List (BitVec 32)):∀ (r i:Nat) (D:List UInt8),(Zg W r i D).length=D.length
 | 0,_,_=>rfl
 | r+1,i,D=>by rw[Zg,Fw W r,J6]
theorem DS (bs:List UInt8):(PG bs).length=32:=by
 unfold PG endB;rw[Fw,I4]
theorem TM {l:Nat} (h:TP l=0):l % 64=56:=by unfold TP at h;omega
theorem TN {l r:Nat} (h:TP l=r+1):l % 64≠56/\TP (l+1)=r:=by unfold TP at h ⊢; omega
theorem TO (l:Nat):TP l<64:=by unfold TP;omega
theorem FJ (v:Nat):∀ r,(NB v r).length=r
 | 0=>rfl
 | r+1=>by rw[NB,I1,FJ v r]
theorem Nr (l:Nat):(YT l).length<=64:=by
 unfold YT;have:=TO (l+1);simp only[I1,I4];omega
theorem WG (l:Nat):0<(YT l).length:=by unfold YT;simp
theorem AAr (x:Nat):IntKind.u8.wrap (x:Nat)=(((UInt8.ofNat x).toNat:Nat):Int):=by
 simp only[IntKind.wrap,IntKind.bits,IntKind.signed];simp
theorem ZG (v n:Nat) (hn:n<=64):DF .shr .u64 (v:Nat) (n:Nat)=some (.int .u64 ((v / 2 ^ n:Nat):Int)):=by
 show some (Value.int .u64 (((v:Nat):Int).fdiv (2 ^ min n 64)))=_;rw[Nat.min_eq_left hn];have e:(2:Int) ^ n=((2 ^ n:Nat):Int):=by push_cast;rfl
 rw[e,D4 _ (Int.natCast_nonneg _),<- Int.natCast_ediv]
theorem HW:∀ (r:Nat) (x:W8) (bs:List UInt8),bs.length<64*(r+1)->(takens r x bs).2.length<64
 | 0,_,bs,h=>by rw[takens];omega
 | r+1,x,bs,h=>by
  rw[takens];split
  ·exact HW r _ _ (by rw[Y3];omega)
  ·show bs.length<64;omega
theorem JV (p:List UInt8) (r:Nat):(p++[0])++List.replicate r 0=p++List.replicate (r+1) 0:=by
 rw[E1,List.replicate_succ];rfl
mutual
def NM:Item->Item->Bool
 | .mk k m tx ks,.mk k' m' tx' ks'=>decide (k=k')&&decide (m=m')&&decide (tx=tx')&&decide (ks.length=ks'.length)&&Rp ks ks'
def Rp:List Item->List Item->Bool
 | [],_=>true
 | _::_,[]=>true
 | x::xs,y::ys=>NM x y&&Rp xs ys
end
mutual
theorem IB:∀ (t u:Item),NM t u=true↔t=u
 | .mk k m tx ks,.mk k' m' tx' ks'=>by
  rw[NM];simp only[K0,decide_eq_true_eq,Item.mk.injEq];constructor
  ·rintro⟨⟨⟨⟨h1,h2⟩,h3⟩,h4⟩,h5⟩;exact⟨h1,h2,h3,(LW ks ks' h4).1 h5⟩
  ·rintro⟨h1,h2,h3,h4⟩;exact⟨⟨⟨⟨h1,h2⟩,h3⟩,by rw[h4]⟩,(LW ks ks' (by rw[h4])).2 h4⟩
theorem LW:∀ (ks ks':List Item),ks.length=ks'.length->(Rp ks ks'=true↔ks=ks')
 | [],[],_=>by rw[Rp];simp
 | [],_::_,h=>by simp at h
 | _::_,[],h=>by simp at h
 | x::xs,y::ys,h=>by
  rw[Rp];simp only[K0,List.cons.injEq];rw[IB x y,LW xs ys (by simpa using h)]
end
end Go.Hs
