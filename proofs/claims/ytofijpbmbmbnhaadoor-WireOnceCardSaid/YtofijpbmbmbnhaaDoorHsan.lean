/- Itoa: what a number is as a text. -/
import Derived.Test.YtofijpbmbmbnhaaDoorHsam
set_option linter.unusedSimpArgs false
set_option linter.unusedVariables false
set_option maxRecDepth 100000
set_option maxHeartbeats 16000000
namespace Go.Proofs.YtofijpbmbmbnhaaDoor
open Go Go.Hs Go.Proofs
variable {E:Env} {I:Known}
def PowT (E:Env):Prop:=∀ i:Nat,i<20→E 1 i=some (.int .u64 ((10 ^ i:Nat):Int))
theorem fn99:tab.fn.get 99=some Tryd.f99:=by kernel_rfl
theorem fn124:tab.fn.get 124=some Tryd.f124:=by kernel_rfl
theorem fn129:tab.fn.get 129=some Tryd.f129:=by kernel_rfl
theorem fn131:tab.fn.get 131=some Tryd.f131:=by kernel_rfl
theorem fn132:tab.fn.get 132=some Tryd.f132:=by kernel_rfl
theorem fn135:tab.fn.get 135=some Tryd.f135:=by kernel_rfl
theorem fn136:tab.fn.get 136=some Tryd.f136:=by kernel_rfl
theorem fn137:tab.fn.get 137=some Tryd.f137:=by kernel_rfl
theorem shr32 (a:Nat):ashift .shr .u64 (a:Nat) 32=some (.int .u64 ((a / 4294967296:Nat):Int)):=by
 show some (Value.int .u64 ((a:Int).fdiv 4294967296))=_
 rw[Int.fdiv_eq_ediv_of_nonneg _ (by decide)]
 rfl
theorem shr16 (a:Nat):ashift .shr .u64 (a:Nat) 16=some (.int .u64 ((a / 65536:Nat):Int)):=by
 show some (Value.int .u64 ((a:Int).fdiv 65536))=_
 rw[Int.fdiv_eq_ediv_of_nonneg _ (by decide)]
 rfl
theorem shr8 (a:Nat):ashift .shr .u64 (a:Nat) 8=some (.int .u64 ((a / 256:Nat):Int)):=by
 show some (Value.int .u64 ((a:Int).fdiv 256))=_
 rw[Int.fdiv_eq_ediv_of_nonneg _ (by decide)]
 rfl
theorem shr18 (a:Nat):ashift .shr .i64 (a:Nat) 18=some (.int .i64 ((a / 262144:Nat):Int)):=by
 show some (Value.int .i64 ((a:Int).fdiv 262144))=_
 rw[Int.fdiv_eq_ediv_of_nonneg _ (by decide)]
 rfl
theorem icv99_5 (n:Int) {h:H}:aconvert tab E 99 5 (.int .u64 n) h=some (.int .u8 (IntKind.u8.wrap n),h):=by unfold aconvert;simp only[qty99,qty5]
theorem icv5_3 (n:Int) {h:H}:aconvert tab E 5 3 (.int .u8 n) h=some (.int .i64 (IntKind.i64.wrap n),h):=by unfold aconvert;simp only[qty5,qty3]
theorem icv2_99 (n:Int) {h:H}:aconvert tab E 2 99 (.int .i64 n) h=some (.int .u64 (IntKind.u64.wrap n),h):=by unfold aconvert;simp only[qty2,qty99]
theorem len136 (hI:∀ args h,I 136 args h=none) {h:H} (u:Nat) (hu:u<18446744073709551616) :
  ∃ n v h',(ev tab E I n).call 136 [.int .u64 (u:Nat)] h=some (v,h')∧(v=.int .i64 ((Lib.bitLen u:Nat):Int)∧h'=h):=by
 apply Wk (hI _ _) fn136 rfl
 intro A0 n0 d0 hA0
 change A0.n=25 at n0
 have q0:A0.get 0=.int .u64 (u:Nat):=hA0 0 _ rfl
 clear hA0
 (repeat' (with_reducible apply Ws));(apply Wn 1;focus ((repeat ((with_reducible apply Rr rfl);focus ((try simp +decide only[Oz,n0]);with_reducible rfl)));with_reducible exact Rn))
 (repeat' (with_reducible apply Ws));(apply Wn 1;focus ((repeat ((with_reducible apply Rr rfl);focus ((try simp +decide only[Oz,n0,q0]);with_reducible rfl)));with_reducible exact Rn))
 refine Wc.forget (fun A=>A.n=25∧A.defers=[]∧A.get 0=.int .u64 (u:Nat)∧A.get 2=.int .i64 0∧A.get 4=.bool (decide ((u:Int)≥4294967296))) (by and_intros<;>simp +decide only[Gz,n0,d0,q0]<;>rfl) ?_
 rintro A0 ⟨n0,d0,q0,q2,q4⟩
 have key:∀ (b:Nat) (x:Nat),b≤56→x<256→Lib.bitLen x≤8:=fun b x _ hx=>Lib.bitLen_le8 ⟨x,hx⟩
 repeat' (with_reducible apply Wc.seq)
 refine Wc.mono (Q:=fun ex A g=>ex=.normal∧g=h∧A.n=25∧A.defers=[]∧∃ b x:Nat,A.get 0=.int .u64 (x:Nat)∧A.get 2=.int .i64 (b:Nat)∧b≤32∧x<4294967296∧Lib.bitLen u=b+Lib.bitLen x) ?_ ?_
 ·by_cases hc:4294967296≤u
  ·have e:decide ((u:Int)≥4294967296)=true:=decide_eq_true (by omega)
   repeat' (first|with_reducible apply Ws|(apply Wp;focus ((repeat ((with_reducible apply Rr rfl);focus ((try simp +decide only[Oz,n0,q0,q4,e,shr32]);with_reducible rfl)));with_reducible exact Rn))|(refine W2 (by simp +decide only[Cz,n0,q0,q4,e,shr32];try with_reducible rfl) (fun hb=>?_) (fun hb=>?_)<;>try contradiction)|apply W3|apply W4|apply W5|apply W6)
   exact⟨rfl,rfl,by simp +decide only[Gz,n0],by simp +decide only[Gz,d0],32,u / 4294967296,by simp +decide only[Gz,n0],by simp +decide only[Gz,n0];rfl,by decide,by omega,Lib.bitLen_shift32 u hc hu⟩
  ·have e:decide ((u:Int)≥4294967296)=false:=decide_eq_false (by omega)
   repeat' (first|with_reducible apply Ws|(apply Wp;focus ((repeat ((with_reducible apply Rr rfl);focus ((try simp +decide only[Oz,n0,q0,q4,e]);with_reducible rfl)));with_reducible exact Rn))|(refine W2 (by simp +decide only[Cz,n0,q0,q4,e];try with_reducible rfl) (fun hb=>?_) (fun hb=>?_)<;>try contradiction)|apply W3|apply W4|apply W5|apply W6)
   exact⟨rfl,rfl,n0,d0,0,u,q0,q2,by decide,by omega,by omega⟩
 rintro ex A0 g ⟨rfl,rfl,n0,d0,b,x,q0,q2,hb,hx,he⟩
 simp only[]
 (repeat' (with_reducible apply Ws));(apply Wn 1;focus ((repeat ((with_reducible apply Rr rfl);focus ((try simp +decide only[Oz,n0,q0]);with_reducible rfl)));with_reducible exact Rn))
 refine Wc.forget (fun A=>A.n=25∧A.defers=[]∧A.get 0=.int .u64 (x:Nat)∧A.get 2=.int .i64 (b:Nat)∧A.get 8=.bool (decide ((x:Int)≥65536))) (by and_intros<;>simp +decide only[Gz,n0,d0,q0,q2]<;>rfl) ?_
 rintro A0 ⟨n0,d0,q0,q2,q8⟩
 repeat' (with_reducible apply Wc.seq)
 refine Wc.mono (Q:=fun ex A g'=>ex=.normal∧g'=g∧A.n=25∧A.defers=[]∧∃ b x:Nat,A.get 0=.int .u64 (x:Nat)∧A.get 2=.int .i64 (b:Nat)∧b≤48∧x<65536∧Lib.bitLen u=b+Lib.bitLen x) ?_ ?_
 ·by_cases hc:65536≤x
  ·have e:decide ((x:Int)≥65536)=true:=decide_eq_true (by omega)
   have w1:IntKind.i64.wrap ((b:Int)+16)=((b+16:Nat):Int):=wrap64 (by omega) (by omega)
   repeat' (first|with_reducible apply Ws|(apply Wp;focus ((repeat ((with_reducible apply Rr rfl);focus ((try simp +decide only[Oz,n0,q0,q2,q8,e,shr16,w1]);with_reducible rfl)));with_reducible exact Rn))|(refine W2 (by simp +decide only[Cz,n0,q0,q2,q8,e,shr16,w1];try with_reducible rfl) (fun hb=>?_) (fun hb=>?_)<;>try contradiction)|apply W3|apply W4|apply W5|apply W6)
   exact⟨rfl,rfl,by simp +decide only[Gz,n0],by simp +decide only[Gz,d0],b+16,x / 65536,by simp +decide only[Gz,n0],by simp +decide only[Gz,n0],by omega,by omega,by rw[he,Lib.bitLen_shift16 x hc (by omega)];omega⟩
  ·have e:decide ((x:Int)≥65536)=false:=decide_eq_false (by omega)
   repeat' (first|with_reducible apply Ws|(apply Wp;focus ((repeat ((with_reducible apply Rr rfl);focus ((try simp +decide only[Oz,n0,q0,q8,e]);with_reducible rfl)));with_reducible exact Rn))|(refine W2 (by simp +decide only[Cz,n0,q0,q8,e];try with_reducible rfl) (fun hb=>?_) (fun hb=>?_)<;>try contradiction)|apply W3|apply W4|apply W5|apply W6)
   exact⟨rfl,rfl,n0,d0,b,x,q0,q2,by omega,by omega,he⟩
 rintro ex A0 g' ⟨rfl,hg,n0,d0,b,x,q0,q2,hb,hx,he⟩
 simp only[]
 rw[hg]
 (repeat' (with_reducible apply Ws));(apply Wn 1;focus ((repeat ((with_reducible apply Rr rfl);focus ((try simp +decide only[Oz,n0,q0]);with_reducible rfl)));with_reducible exact Rn))
 refine Wc.forget (fun A=>A.n=25∧A.defers=[]∧A.get 0=.int .u64 (x:Nat)∧A.get 2=.int .i64 (b:Nat)∧A.get 14=.bool (decide ((x:Int)≥256))) (by and_intros<;>simp +decide only[Gz,n0,d0,q0,q2]<;>rfl) ?_
 rintro A0 ⟨n0,d0,q0,q2,q14⟩
 repeat' (with_reducible apply Wc.seq)
 refine Wc.mono (Q:=fun ex A g'=>ex=.normal∧g'=g∧A.n=25∧A.defers=[]∧∃ b x:Nat,A.get 0=.int .u64 (x:Nat)∧A.get 2=.int .i64 (b:Nat)∧b≤56∧x<256∧Lib.bitLen u=b+Lib.bitLen x) ?_ ?_
 ·by_cases hc:256≤x
  ·have e:decide ((x:Int)≥256)=true:=decide_eq_true (by omega)
   have w1:IntKind.i64.wrap ((b:Int)+8)=((b+8:Nat):Int):=wrap64 (by omega) (by omega)
   repeat' (first|with_reducible apply Ws|(apply Wp;focus ((repeat ((with_reducible apply Rr rfl);focus ((try simp +decide only[Oz,n0,q0,q2,q14,e,shr8,w1]);with_reducible rfl)));with_reducible exact Rn))|(refine W2 (by simp +decide only[Cz,n0,q0,q2,q14,e,shr8,w1];try with_reducible rfl) (fun hb=>?_) (fun hb=>?_)<;>try contradiction)|apply W3|apply W4|apply W5|apply W6)
   exact⟨rfl,rfl,by simp +decide only[Gz,n0],by simp +decide only[Gz,d0],b+8,x / 256,by simp +decide only[Gz,n0],by simp +decide only[Gz,n0],by omega,by omega,by rw[he,Lib.bitLen_shift8 x hc (by omega)];omega⟩
  ·have e:decide ((x:Int)≥256)=false:=decide_eq_false (by omega)
   repeat' (first|with_reducible apply Ws|(apply Wp;focus ((repeat ((with_reducible apply Rr rfl);focus ((try simp +decide only[Oz,n0,q0,q14,e]);with_reducible rfl)));with_reducible exact Rn))|(refine W2 (by simp +decide only[Cz,n0,q0,q14,e];try with_reducible rfl) (fun hb=>?_) (fun hb=>?_)<;>try contradiction)|apply W3|apply W4|apply W5|apply W6)
   exact⟨rfl,rfl,n0,d0,b,x,q0,q2,by omega,by omega,he⟩
 rintro ex A0 g' ⟨rfl,hg',n0,d0,b,x,q0,q2,hb,hx,he⟩
 simp only[]
 rw[hg']
 have hx8:=key b x hb hx
 have w8:=wrapU8 (x:=x) hx
 have wl:IntKind.i64.wrap ((Lib.bitLen x:Nat):Int)=((Lib.bitLen x:Nat):Int):=wrap64 (by omega) (by omega)
 have wr:IntKind.i64.wrap ((b:Int)+((Lib.bitLen x:Nat):Int))=((Lib.bitLen u:Nat):Int):=by rw[he,wrap64 (by omega) (by omega)];omega
 repeat' (first|with_reducible apply Ws|(apply Wp;focus ((repeat ((with_reducible apply Rr rfl);focus ((try simp +decide only[Oz,n0,q0,q2,icv99_5,w8,ixL _ hx,icv5_3,wl,wr]);with_reducible rfl)));with_reducible exact Rn))|(refine W2 (by simp +decide only[Cz,n0,q0,q2,icv99_5,w8,ixL _ hx,icv5_3,wl,wr];try with_reducible rfl) (fun hb=>?_) (fun hb=>?_)<;>try contradiction)|apply W3|apply W4|apply W5|apply W6)
 exact done_q (v:=.int .i64 ((Lib.bitLen u:Nat):Int)) (.inr rfl) (by simp +decide only[Gz,d0]) rfl (by simp +decide only[Gz,n0]) ⟨rfl,rfl⟩
theorem log135 (hI:∀ args h,I 135 args h=none) {h:H} (x:Nat) (hx:x≤64) :
  ∃ n v h',(ev tab E I n).call 135 [.int .i64 (x:Nat)] h=some (v,h')∧(v=.int .i64 ((Lib.l10 x:Nat):Int)∧h'=h):=by
 apply Wk (hI _ _) fn135 rfl
 intro A0 n0 d0 hA0
 change A0.n=6 at n0
 have q0:A0.get 0=.int .i64 (x:Nat):=hA0 0 _ rfl
 clear hA0
 have w1:IntKind.i64.wrap ((x:Int)*78913)=((x*78913:Nat):Int):=by rw[wrap64 (by omega) (by omega)];omega
 repeat' (first|with_reducible apply Ws|(apply Wp;focus ((repeat ((with_reducible apply Rr rfl);focus ((try simp +decide only[Oz,n0,q0,w1,shr18]);with_reducible rfl)));with_reducible exact Rn))|(refine W2 (by simp +decide only[Cz,n0,q0,w1,shr18];try with_reducible rfl) (fun hb=>?_) (fun hb=>?_)<;>try contradiction)|apply W3|apply W4|apply W5|apply W6)
 exact done_q (v:=.int .i64 ((Lib.l10 x:Nat):Int)) (.inr rfl) (by simp +decide only[Gz,d0]) rfl (by simp +decide only[Gz,n0];rfl) ⟨rfl,rfl⟩
theorem bool137 (hI:∀ args h,I 137 args h=none) {h:H} (b:Bool) :
  ∃ n v h',(ev tab E I n).call 137 [.bool b] h=some (v,h')∧(v=.int .i64 (if b=true then 1 else 0)∧h'=h):=by
 apply Wk (hI _ _) fn137 rfl
 intro A0 n0 d0 hA0
 change A0.n=4 at n0
 have q0:A0.get 0=.bool b:=hA0 0 _ rfl
 clear hA0
 cases b with
 | true=>
  repeat' (first|with_reducible apply Ws|(apply Wp;focus ((repeat ((with_reducible apply Rr rfl);focus ((try simp +decide only[Oz,n0,q0]);with_reducible rfl)));with_reducible exact Rn))|(refine W2 (by simp +decide only[Cz,n0,q0];try with_reducible rfl) (fun hb=>?_) (fun hb=>?_)<;>try contradiction)|apply W3|apply W4|apply W5|apply W6)
  exact done_q (v:=.int .i64 1) (.inr rfl) (by simp +decide only[Gz,d0]) rfl (by simp +decide only[Gz,n0]) ⟨rfl,rfl⟩
 | false=>
  repeat' (first|with_reducible apply Ws|(apply Wp;focus ((repeat ((with_reducible apply Rr rfl);focus ((try simp +decide only[Oz,n0,q0]);with_reducible rfl)));with_reducible exact Rn))|(refine W2 (by simp +decide only[Cz,n0,q0];try with_reducible rfl) (fun hb=>?_) (fun hb=>?_)<;>try contradiction)|apply W3|apply W4|apply W5|apply W6)
  exact done_q (v:=.int .i64 0) (.inr rfl) (by simp +decide only[Gz,d0]) rfl (by simp +decide only[Gz,n0]) ⟨rfl,rfl⟩
theorem digits132 (hT:PowT E) (hI:∀ f args h,(f=132∨f=136∨f=135∨f=137)→I f args h=none) {h:H} (u:Nat) (h1:1≤u) (hu:u<18446744073709551616) :
  ∃ n v h',(ev tab E I n).call 132 [.int .u64 (u:Nat)] h=some (v,h')∧(v=.int .i64 ((Lib.nDigits u:Nat):Int)∧h'=h):=by
 obtain⟨e1,e2⟩:=Lib.numDigits_eq u h1 hu
 have hL:Lib.bitLen u≤64:=Lib.bitLen_le u 64 (Nat.le_refl _) hu
 obtain⟨n1,v1,g1,c1,rfl,rfl⟩:=len136 (E:=E) (I:=I) (fun args h=>hI _ args h (by simp)) (h:=h) u hu
 obtain⟨n2,v2,g2,c2,rfl,f2⟩:=log135 (E:=E) (I:=I) (fun args h=>hI _ args h (by simp)) (h:=g1) (Lib.bitLen u) hL
 rw[f2] at c2
 obtain⟨n3,v3,g3,c3,e3,f3⟩:=bool137 (E:=E) (I:=I) (fun args h=>hI _ args h (by simp)) (h:=g1) (decide ((u:Int)≥((10 ^ Lib.l10 (Lib.bitLen u):Nat):Int)))
 rw[e3,f3] at c3
 have hir:inRange ((Lib.l10 (Lib.bitLen u):Nat):Int) 20=true:=by
  show Nat.blt _ _=true
  rw[Nat.blt_eq];omega
 have lt:g1.cell E (aadd ⟨1,0,none⟩ (Lib.l10 (Lib.bitLen u)*1))=some (.int .u64 ((10 ^ Lib.l10 (Lib.bitLen u):Nat):Int)):=by
  simp only[H.cell,aadd,Nat.mul_one,Nat.zero_add]
  rw[hT _ (by omega)]
  rfl
 have hnd:Lib.nDigits u≤20:=by
  rw[← e1]
  split<;>omega
 have ws:IntKind.i64.wrap (((Lib.l10 (Lib.bitLen u):Nat):Int)+(if decide ((u:Int)≥((10 ^ Lib.l10 (Lib.bitLen u):Nat):Int))=true then 1 else 0))=((Lib.nDigits u:Nat):Int):=by
  rw[← e1]
  by_cases hc:10 ^ Lib.l10 (Lib.bitLen u)≤u
  ·rw[if_pos (decide_eq_true (Int.ofNat_le.2 hc)),if_pos hc,wrap64 (by omega) (by omega)];rfl
  ·rw[if_neg (by rw[decide_eq_false (fun hh=>hc (Int.ofNat_le.1 hh))];simp),if_neg hc,wrap64 (by omega) (by omega)];rfl
 have c1f:=(ev_mono (D:=tab) (E:=E) I (show n1≤n1+n2 by omega)).call c1
 have c2f:=(ev_mono (D:=tab) (E:=E) I (show n2≤n1+n2 by omega)).call c2
 apply Wk (hI _ _ _ (.inl rfl)) fn132 rfl
 intro A0 n0 d0 hA0
 change A0.n=15 at n0
 have q0:A0.get 0=.int .u64 (u:Nat):=hA0 0 _ rfl
 clear hA0
 (repeat' (with_reducible apply Ws));(apply Wn 1;focus ((repeat ((with_reducible apply Rr rfl);focus ((try simp +decide only[Oz,n0]);with_reducible rfl)));with_reducible exact Rn))
 (repeat' (with_reducible apply Ws));(apply Wn (n1+n2);focus ((repeat ((with_reducible apply Rr rfl);focus ((try simp +decide only[Oz,n0,q0,c1f,c2f]);with_reducible rfl)));with_reducible exact Rn))
 (repeat' (with_reducible apply Ws));(apply Wn n3;focus ((repeat ((with_reducible apply Rr rfl);focus ((try simp +decide only[Oz,n0,q0,qia186 _ _ hir,Int.toNat_natCast,Qi,lt,c3,ws]);with_reducible rfl)));with_reducible exact Rn))
 repeat' (first|with_reducible apply Ws|(apply Wp;focus ((repeat ((with_reducible apply Rr rfl);focus ((try simp +decide only[Oz,n0]);with_reducible rfl)));with_reducible exact Rn))|(refine W2 (by simp +decide only[Cz,n0];try with_reducible rfl) (fun hb=>?_) (fun hb=>?_)<;>try contradiction)|apply W3|apply W4|apply W5|apply W6)
 exact done_q (v:=.int .i64 ((Lib.nDigits u:Nat):Int)) (.inr rfl) (by simp +decide only[Gz,d0]) rfl (by simp +decide only[Gz,n0]) ⟨rfl,rfl⟩
theorem small131 (hI:∀ args h,I 131 args h=none) {h:H} (i:Nat) (hi:i<100) :
  ∃ n v h',(ev tab E I n).call 131 [.int .i64 (i:Nat)] h=some (v,h')∧(v=.string ⟨⟨Lib.decDigits i⟩⟩∧h'=h):=by
 apply Wk (hI _ _) fn131 rfl
 intro A0 n0 d0 hA0
 change A0.n=15 at n0
 have q0:A0.get 0=.int .i64 (i:Nat):=hA0 0 _ rfl
 clear hA0
 by_cases h10:i<10
 ·have e:decide ((i:Int)<10)=true:=decide_eq_true (by omega)
  have w1:IntKind.i64.wrap ((i:Int)+1)=((i+1:Nat):Int):=wrap64 (by omega) (by omega)
  repeat' (first|with_reducible apply Ws|(apply Wp;focus ((repeat ((with_reducible apply Rr rfl);focus ((try simp +decide only[Oz,n0,q0,e,w1,sl36 i h10]);with_reducible rfl)));with_reducible exact Rn))|(refine W2 (by simp +decide only[Cz,n0,q0,e,w1,sl36 i h10];try with_reducible rfl) (fun hb=>?_) (fun hb=>?_)<;>try contradiction)|apply W3|apply W4|apply W5|apply W6)
  exact done_q (v:=.string ⟨⟨Lib.decDigits i⟩⟩) (.inr rfl) (by simp +decide only[Gz,d0]) rfl (by simp +decide only[Gz,n0]) ⟨rfl,rfl⟩
 ·have e:decide ((i:Int)<10)=false:=decide_eq_false (by omega)
  have w1:IntKind.i64.wrap ((i:Int)*2)=((i*2:Nat):Int):=by rw[wrap64 (by omega) (by omega)];omega
  have w2:IntKind.i64.wrap (((i*2:Nat):Int)+2)=((i*2+2:Nat):Int):=by rw[wrap64 (by omega) (by omega)];omega
  repeat' (first|with_reducible apply Ws|(apply Wp;focus ((repeat ((with_reducible apply Rr rfl);focus ((try simp +decide only[Oz,n0,q0,e,w1,w2,sl200 i h10 hi]);with_reducible rfl)));with_reducible exact Rn))|(refine W2 (by simp +decide only[Cz,n0,q0,e,w1,w2,sl200 i h10 hi];try with_reducible rfl) (fun hb=>?_) (fun hb=>?_)<;>try contradiction)|apply W3|apply W4|apply W5|apply W6)
  exact done_q (v:=.string ⟨⟨Lib.decDigits i⟩⟩) (.inr rfl) (by simp +decide only[Gz,d0]) rfl (by simp +decide only[Gz,n0]) ⟨rfl,rfl⟩
theorem isl180 {kb m:Nat} {xs:List Value} {h:H} (hb:h.blk kb=some (.cells xs 180 none)) (hm:m≤23):aslice tab 180 (.pointer (some (own kb))) (some (.int .i64 1)) (some (.int .i64 ((1+m:Nat):Int))) none h=some (.slice (some (aadd (own kb) 1)) m 23,h):=by
 have e1:inRange ((1+m:Nat):Int) (24+1)=true:=by show Nat.blt _ _=true;rw[Nat.blt_eq];omega
 have e2:inRange (1:Int) (1+m+1)=true:=by show Nat.blt 1 _=true;rw[Nat.blt_eq];omega
 have hb':h.blk (own kb).block=some (.cells xs 180 none):=hb
 have hs:(own kb).spot=some 0:=rfl
 unfold aslice
 simp only[qty180,abound,e1,e2,Int.toNat_natCast,hs,hb',show (1:Int).toNat=1 from rfl]
 rw[show 1+m-1=m by omega]
theorem icv31_9 {a:Addr} {n c:Nat} {bs:List UInt8} {h:H} (hc:h.cells E a n=some (bytesV bs)):aconvert tab E 31 9 (.slice (some a) n c) h=some (.string ⟨⟨bs⟩⟩,h):=by
 unfold aconvert
 simp only[qty31,qty9,qty5,hc,allBytes_bytesV]
theorem format129 (hT:PowT E) (hI:∀ f args h,(f=129∨f=131∨f=132∨f=133∨f=135∨f=136∨f=137)→I f args h=none) {h:H} (f:Fit h) (m:Nat) (hm:m<10 ^ 15) :
  ∃ n v h',(ev tab E I n).call 129 [.int .i64 (m:Nat),.int .i64 10] h=some (v,h')∧(v=.string ⟨⟨Lib.decDigits m⟩⟩∧Mod (fun _=>False) h h'):=by
 have e0:decide ((0:Int)≤(m:Int))=true:=decide_eq_true (by omega)
 have e10:decide ((10:Int)=10)=true:=rfl
 by_cases h100:m<100
 ·obtain⟨n1,v1,g1,c1,e1,f1⟩:=small131 (E:=E) (I:=I) (fun args h=>hI _ args h (by simp)) (h:=h) m h100
  rw[e1,f1] at c1
  have e2:decide ((m:Int)<100)=true:=decide_eq_true (by omega)
  apply Wk (hI _ _ _ (.inl rfl)) fn129 rfl
  intro A0 n0 d0 hA0
  change A0.n=54 at n0
  have q0:A0.get 0=.int .i64 (m:Nat):=hA0 0 _ rfl
  have q1:A0.get 1=.int .i64 10:=hA0 1 _ rfl
  clear hA0
  (repeat' (with_reducible apply Ws));(apply Wn 1;focus ((repeat ((with_reducible apply Rr rfl);focus ((try simp +decide only[Oz,n0]);with_reducible rfl)));with_reducible exact Rn))
  (repeat' (with_reducible apply Ws));(apply Wn 1;focus ((repeat ((with_reducible apply Rr rfl);focus ((try simp +decide only[Oz,n0,q1,e10]);with_reducible rfl)));with_reducible exact Rn))
  repeat' (first|with_reducible apply Ws|(apply Wp;focus ((repeat ((with_reducible apply Rr rfl);focus ((try simp +decide only[Oz,n0]);with_reducible rfl)));with_reducible exact Rn))|(refine W2 (by simp +decide only[Cz,n0];try with_reducible rfl) (fun hb=>?_) (fun hb=>?_)<;>try contradiction)|apply W3|apply W4|apply W5|apply W6)
  (repeat' (with_reducible apply Ws));(apply Wn 1;focus ((repeat (first|((first|with_reducible apply Rr rfl|((with_reducible apply Rg);(focus rfl);(focus rfl);focus (simp +decide only[Oz,n0,q0,e0,e2];done)));focus ((try simp +decide only[Oz,n0,q0,e0,e2]);with_reducible rfl))|((with_reducible apply Rs);(focus rfl);(focus rfl);focus (simp +decide only[Oz,n0,q0,e0,e2];done))));with_reducible exact Rn))
  repeat' (first|with_reducible apply Ws|(apply Wn n1;focus ((repeat ((with_reducible apply Rr rfl);focus ((try simp +decide only[Oz,n0,q0,c1]);with_reducible rfl)));with_reducible exact Rn))|(refine W2 (by simp +decide only[Cz,n0,q0,c1];try with_reducible rfl) (fun hb=>?_) (fun hb=>?_)<;>try contradiction)|apply W3|apply W4|apply W5|apply W6)
  exact done_q (v:=.string ⟨⟨Lib.decDigits m⟩⟩) (.inr rfl) (by simp +decide only[Gz,d0]) rfl (by simp +decide only[Gz,n0]) ⟨rfl,Mod.refl f⟩
 ·have e2:decide ((m:Int)<100)=false:=decide_eq_false (by omega)
  have hnd:Lib.nDigits m≤15:=dec_len hm (by decide)
  have hp15:(10:Nat) ^ 15=1000000000000000:=by decide
  have hpos:=Lib.nDigits_pos m
  obtain⟨n1,v1,g1,c1,e1,f1⟩:=digits132 (E:=E) hT (I:=I) (fun f args h hf=>hI f args h (by rcases hf with h|h|h|h<;>simp[h])) (h:=h.new (.cells (Value.agg #[.int .u8 0,.int .u8 0,.int .u8 0,.int .u8 0,.int .u8 0,.int .u8 0,.int .u8 0,.int .u8 0,.int .u8 0,.int .u8 0,.int .u8 0,.int .u8 0,.int .u8 0,.int .u8 0,.int .u8 0,.int .u8 0,.int .u8 0,.int .u8 0,.int .u8 0,.int .u8 0,.int .u8 0,.int .u8 0,.int .u8 0,.int .u8 0]).cells.toList 180 none)) m (by omega) (by omega)
  rw[e1,f1] at c1
  have t1:Ahd h (h.new (.cells (Value.agg #[.int .u8 0,.int .u8 0,.int .u8 0,.int .u8 0,.int .u8 0,.int .u8 0,.int .u8 0,.int .u8 0,.int .u8 0,.int .u8 0,.int .u8 0,.int .u8 0,.int .u8 0,.int .u8 0,.int .u8 0,.int .u8 0,.int .u8 0,.int .u8 0,.int .u8 0,.int .u8 0,.int .u8 0,.int .u8 0,.int .u8 0,.int .u8 0]).cells.toList 180 none)):=Ahd.new0 f rfl
  have b1:(h.new (.cells (Value.agg #[.int .u8 0,.int .u8 0,.int .u8 0,.int .u8 0,.int .u8 0,.int .u8 0,.int .u8 0,.int .u8 0,.int .u8 0,.int .u8 0,.int .u8 0,.int .u8 0,.int .u8 0,.int .u8 0,.int .u8 0,.int .u8 0,.int .u8 0,.int .u8 0,.int .u8 0,.int .u8 0,.int .u8 0,.int .u8 0,.int .u8 0,.int .u8 0]).cells.toList 180 none)).blk h.next=some (.cells (List.replicate 24 (.int .u8 0)) 180 none):=new_blk_new rfl
  generalize hh1:h.new (.cells (Value.agg #[.int .u8 0,.int .u8 0,.int .u8 0,.int .u8 0,.int .u8 0,.int .u8 0,.int .u8 0,.int .u8 0,.int .u8 0,.int .u8 0,.int .u8 0,.int .u8 0,.int .u8 0,.int .u8 0,.int .u8 0,.int .u8 0,.int .u8 0,.int .u8 0,.int .u8 0,.int .u8 0,.int .u8 0,.int .u8 0,.int .u8 0,.int .u8 0]).cells.toList 180 none)=h1 at c1 t1 b1
  have hrow:Row h.next [.int .u8 0] (List.replicate (23-Lib.nDigits m) (.int .u8 0)) (Array.replicate (Lib.nDigits m) 0) h1:=by
   unfold Row
   rw[b1]
   congr 2
   have hz:bytesV (Array.replicate (Lib.nDigits m) (0:UInt8)).toList=List.replicate (Lib.nDigits m) (.int .u8 0):=by simp[bytesV]
   rw[hz,show ([Value.int .u8 0]:List Value)=List.replicate 1 (.int .u8 0) from rfl,List.replicate_append_replicate,List.replicate_append_replicate]
   congr 1
   omega
  obtain⟨n2,v2,h2,c2,e22,M2,d,F,R⟩:=format133 (E:=E) (I:=I) (fun args h=>hI _ args h (by simp)) (kb:=h.next) (c:=23) (u:=m) t1.fit rfl hnd (by simp) (Lib.lt_pow_nDigits m) hrow
  rw[e22] at c2
  have hd:=fmt_done F
  have hc:h2.cells E (aadd (own h.next) 1) (Lib.nDigits m)=some (bytesV (Lib.decDigits m)):=by
   have hlen:(([Value.int .u8 0]:List Value)++bytesV d.toList++List.replicate (23-Lib.nDigits m) (Value.int .u8 0)).length=24:=by
    rw[row_length,F.size,List.length_replicate]
    simp only[List.length_singleton]
    omega
   have hone:(([Value.int .u8 0]:List Value)++bytesV d.toList++List.replicate (23-Lib.nDigits m) (Value.int .u8 0)).all isOne=true:=by
    rw[List.all_append,List.all_append,bytesV_one]
    simp[isOne]
   have h3:=cells_sub (E:=E) (m:=1) (l:=Lib.nDigits m) (blk_cells (E:=E) R hlen hone) (by omega)
   rw[h3,hd,List.append_assoc]
   congr 1
   show (bytesV (Lib.decDigits m)++_).take _=_
   rw[List.take_left' (by rw[bytesV_length,Lib.decDigits_length])]
  have wm:IntKind.u64.wrap (m:Int)=(m:Int):=wrapU64 (by omega)
  have w1:IntKind.i64.wrap (1+((Lib.nDigits m:Nat):Int))=((1+Lib.nDigits m:Nat):Int):=by rw[wrap64 (by omega) (by omega)];omega
  have e3:decide ((m:Int)<0)=false:=decide_eq_false (by omega)
  have sl1:=isl180 (m:=Lib.nDigits m) b1 (by omega)
  have sl2:=isl180 (m:=Lib.nDigits m) R (by omega)
  apply Wk (hI _ _ _ (.inl rfl)) fn129 rfl
  intro A0 n0 d0 hA0
  change A0.n=54 at n0
  have q0:A0.get 0=.int .i64 (m:Nat):=hA0 0 _ rfl
  have q1:A0.get 1=.int .i64 10:=hA0 1 _ rfl
  clear hA0
  (repeat' (with_reducible apply Ws));(apply Wn 1;focus ((repeat ((with_reducible apply Rr rfl);focus ((try simp +decide only[Oz,n0]);with_reducible rfl)));with_reducible exact Rn))
  (repeat' (with_reducible apply Ws));(apply Wn 1;focus ((repeat ((with_reducible apply Rr rfl);focus ((try simp +decide only[Oz,n0,q1,e10]);with_reducible rfl)));with_reducible exact Rn))
  repeat' (first|with_reducible apply Ws|(apply Wp;focus ((repeat ((with_reducible apply Rr rfl);focus ((try simp +decide only[Oz,n0]);with_reducible rfl)));with_reducible exact Rn))|(refine W2 (by simp +decide only[Cz,n0];try with_reducible rfl) (fun hb=>?_) (fun hb=>?_)<;>try contradiction)|apply W3|apply W4|apply W5|apply W6)
  (repeat' (with_reducible apply Ws));(apply Wn 1;focus ((repeat (first|((first|with_reducible apply Rr rfl|((with_reducible apply Rg);(focus rfl);(focus rfl);focus (simp +decide only[Oz,n0,q0,e0,e2];done)));focus ((try simp +decide only[Oz,n0,q0,e0,e2]);with_reducible rfl))|((with_reducible apply Rs);(focus rfl);(focus rfl);focus (simp +decide only[Oz,n0,q0,e0,e2];done))));with_reducible exact Rn))
  repeat' (first|with_reducible apply Ws|(apply Wp;focus ((repeat ((with_reducible apply Rr rfl);focus ((try simp +decide only[Oz,n0]);with_reducible rfl)));with_reducible exact Rn))|(refine W2 (by simp +decide only[Cz,n0];try with_reducible rfl) (fun hb=>?_) (fun hb=>?_)<;>try contradiction)|apply W3|apply W4|apply W5|apply W6)
  (repeat' (with_reducible apply Ws));(apply Wn 1;focus ((repeat ((with_reducible apply Rr rfl);focus ((try simp +decide only[Oz,n0,qtz180,hh1]);with_reducible rfl)));with_reducible exact Rn))
  (repeat' (with_reducible apply Ws));(apply Wn 1;focus ((repeat ((with_reducible apply Rr rfl);focus ((try simp +decide only[Oz,n0,q0,icv2_99,wm]);with_reducible rfl)));with_reducible exact Rn))
  repeat' (first|with_reducible apply Ws|(apply Wp;focus ((repeat ((with_reducible apply Rr rfl);focus ((try simp +decide only[Oz,n0,q0,e3]);with_reducible rfl)));with_reducible exact Rn))|(refine W2 (by simp +decide only[Cz,n0,q0,e3];try with_reducible rfl) (fun hb=>?_) (fun hb=>?_)<;>try contradiction)|apply W3|apply W4|apply W5|apply W6)
  (repeat' (with_reducible apply Ws));(apply Wn n1;focus ((repeat ((with_reducible apply Rr rfl);focus ((try simp +decide only[Oz,n0,c1]);with_reducible rfl)));with_reducible exact Rn))
  (repeat' (with_reducible apply Ws));(apply Wn n2;focus ((repeat ((with_reducible apply Rr rfl);focus ((try simp +decide only[Oz,n0,w1,sl1,c2]);with_reducible rfl)));with_reducible exact Rn))
  repeat' (first|with_reducible apply Ws|(apply Wp;focus ((repeat ((with_reducible apply Rr rfl);focus ((try simp +decide only[Oz,n0,q0,e3,w1,sl2,icv31_9 hc]);with_reducible rfl)));with_reducible exact Rn))|(refine W2 (by simp +decide only[Cz,n0,q0,e3,w1,sl2,icv31_9 hc];try with_reducible rfl) (fun hb=>?_) (fun hb=>?_)<;>try contradiction)|apply W3|apply W4|apply W5|apply W6)
  refine done_q (v:=.string ⟨⟨Lib.decDigits m⟩⟩) (.inr rfl) (by simp +decide only[Gz,d0]) rfl (by simp +decide only[Gz,n0]) ⟨rfl,(t1.mod.trans (M2.low t1.fit (fun k hk=>.inl (hk▸rfl)))).low (M:=fun _=>False) f (fun k hk=>.inr (Nat.le_of_eq (Eq.symm hk)))⟩
theorem itoa99 (hT:PowT E) (hI:∀ f args h,(f=99∨f=124∨f=129∨f=131∨f=132∨f=133∨f=135∨f=136∨f=137)→I f args h=none) {h:H} (f:Fit h) (m:Nat) (hm:m<10 ^ 15) :
  ∃ n v h',(ev tab E I n).call 99 [.int .i64 (m:Nat)] h=some (v,h')∧(v=.string ⟨⟨Lib.decDigits m⟩⟩∧Mod (fun _=>False) h h'):=by
 obtain⟨n1,v1,g1,c1,e1,M1⟩:=format129 (E:=E) hT (I:=I) (fun f args h hf=>hI f args h (by rcases hf with h|h|h|h|h|h|h<;>simp[h])) f m hm
 rw[e1] at c1
 have c124:∃ n v h',(ev tab E I n).call 124 [.int .i64 (m:Nat)] h=some (v,h')∧(v=.string ⟨⟨Lib.decDigits m⟩⟩∧h'=g1):=by
  apply Wk (hI _ _ _ (by simp)) fn124 rfl
  intro A0 n0 d0 hA0
  change A0.n=5 at n0
  have q0:A0.get 0=.int .i64 (m:Nat):=hA0 0 _ rfl
  clear hA0
  (repeat' (with_reducible apply Ws));(apply Wn 1;focus ((repeat ((with_reducible apply Rr rfl);focus ((try simp +decide only[Oz,n0]);with_reducible rfl)));with_reducible exact Rn))
  (repeat' (with_reducible apply Ws));(apply Wn n1;focus ((repeat ((with_reducible apply Rr rfl);focus ((try simp +decide only[Oz,n0,q0,c1]);with_reducible rfl)));with_reducible exact Rn))
  repeat' (first|with_reducible apply Ws|(apply Wp;focus ((repeat ((with_reducible apply Rr rfl);focus ((try simp +decide only[Oz,n0]);with_reducible rfl)));with_reducible exact Rn))|(refine W2 (by simp +decide only[Cz,n0];try with_reducible rfl) (fun hb=>?_) (fun hb=>?_)<;>try contradiction)|apply W3|apply W4|apply W5|apply W6)
  exact done_q (v:=.string ⟨⟨Lib.decDigits m⟩⟩) (.inr rfl) (by simp +decide only[Gz,d0]) rfl (by simp +decide only[Gz,n0]) ⟨rfl,rfl⟩
 obtain⟨n2,v2,g2,c2,e2,f2⟩:=c124
 rw[e2,f2] at c2
 apply Wk (hI _ _ _ (.inl rfl)) fn99 rfl
 intro A0 n0 d0 hA0
 change A0.n=5 at n0
 have q0:A0.get 0=.int .i64 (m:Nat):=hA0 0 _ rfl
 clear hA0
 (repeat' (with_reducible apply Ws));(apply Wn 1;focus ((repeat ((with_reducible apply Rr rfl);focus ((try simp +decide only[Oz,n0]);with_reducible rfl)));with_reducible exact Rn))
 (repeat' (with_reducible apply Ws));(apply Wn n2;focus ((repeat ((with_reducible apply Rr rfl);focus ((try simp +decide only[Oz,n0,q0,c2]);with_reducible rfl)));with_reducible exact Rn))
 repeat' (first|with_reducible apply Ws|(apply Wp;focus ((repeat ((with_reducible apply Rr rfl);focus ((try simp +decide only[Oz,n0]);with_reducible rfl)));with_reducible exact Rn))|(refine W2 (by simp +decide only[Cz,n0];try with_reducible rfl) (fun hb=>?_) (fun hb=>?_)<;>try contradiction)|apply W3|apply W4|apply W5|apply W6)
 exact done_q (v:=.string ⟨⟨Lib.decDigits m⟩⟩) (.inr rfl) (by simp +decide only[Gz,d0]) rfl (by simp +decide only[Gz,n0]) ⟨rfl,M1⟩
def says99:Says:=fun s f args _ v=>f=99∧s=0∧∃ m:Nat,args=[.int .i64 (m:Nat)]∧m<10 ^ 15∧v=.string ⟨⟨Lib.decDigits m⟩⟩
theorem one99:One says99:=by
 rintro s s' f args h v v' ⟨_,_,m,rfl,_,rfl⟩ ⟨_,_,m',he,_,rfl⟩
 simp only[List.cons.injEq,Value.int.injEq,true_and,and_true] at he
 obtain rfl:m=m':=by omega
 rfl
theorem shown99 (hT:PowT E) (hI:∀ f args h,(f=99∨f=124∨f=129∨f=131∨f=132∨f=133∨f=135∨f=136∨f=137)→I f args h=none):ShownF tab E I says99:=by
 rintro sz f args h v ⟨rfl,rfl,m,rfl,hm,rfl⟩ hfit
 refine⟨rfl,?_⟩
 have hJ:upTo says99 I 0=I:=by funext f args h;exact upTo_none (fun _ _ hs=>absurd hs (Nat.not_lt_zero _))
 rw[hJ]
 obtain⟨n,v,h',c,rfl,M⟩:=itoa99 (E:=E) hT (I:=I) hI hfit m hm
 exact⟨n,h',c,M.quiet⟩
theorem fn101:tab.fn.get 101=some Tryd.f101:=by kernel_rfl
theorem fn102:tab.fn.get 102=some Tryd.f102:=by kernel_rfl
theorem plain101 (hI:∀ args h,I 101 args h=none) {h:H} (c:UInt8) :
  ∃ n v h',(ev tab E I n).call 101 [.int .u8 (c.toNat:Nat)] h=some (v,h')∧(v=.bool (plainB c)∧h'=h):=by
 apply Wk (hI _ _) fn101 rfl
 intro A0 n0 d0 hA0
 change A0.n=17 at n0
 have q0:A0.get 0=.int .u8 (c.toNat:Nat):=hA0 0 _ rfl
 clear hA0
 unfold plainB
 by_cases h1:32≤c.toNat
 rotate_left
 ·have e1:decide ((c.toNat:Int)≥32)=false:=decide_eq_false (by omega)
  rw[decide_eq_false h1]
  (repeat' (with_reducible apply Ws));(apply Wn 1;focus ((repeat ((with_reducible apply Rr rfl);focus ((try simp +decide only[Oz,n0]);with_reducible rfl)));with_reducible exact Rn))
  (repeat' (with_reducible apply Ws));(apply Wn 1;focus ((repeat (first|((first|with_reducible apply Rr rfl|((with_reducible apply Rg);(focus rfl);(focus rfl);focus (simp +decide only[Oz,n0,q0,e1];done)));focus ((try simp +decide only[Oz,n0,q0,e1]);with_reducible rfl))|((with_reducible apply Rs);(focus rfl);(focus rfl);focus (simp +decide only[Oz,n0,q0,e1];done))));with_reducible exact Rn))
  repeat' (first|with_reducible apply Ws|(apply Wp;focus ((repeat ((with_reducible apply Rr rfl);focus ((try simp +decide only[Oz,n0]);with_reducible rfl)));with_reducible exact Rn))|(refine W2 (by simp +decide only[Cz,n0];try with_reducible rfl) (fun hb=>?_) (fun hb=>?_)<;>try contradiction)|apply W3|apply W4|apply W5|apply W6)
  exact done_q (v:=.bool false) (.inr rfl) (by simp +decide only[Gz,d0]) rfl (by simp +decide only[Gz,n0]) ⟨rfl,rfl⟩
 have e1:decide ((c.toNat:Int)≥32)=true:=decide_eq_true (by omega)
 rw[decide_eq_true h1]
 by_cases h2:c.toNat≤126
 rotate_left
 ·have e2:decide ((c.toNat:Int)≤126)=false:=decide_eq_false (by omega)
  rw[decide_eq_false h2]
  (repeat' (with_reducible apply Ws));(apply Wn 1;focus ((repeat ((with_reducible apply Rr rfl);focus ((try simp +decide only[Oz,n0]);with_reducible rfl)));with_reducible exact Rn))
  (repeat' (with_reducible apply Ws));(apply Wn 1;focus ((repeat (first|((first|with_reducible apply Rr rfl|((with_reducible apply Rg);(focus rfl);(focus rfl);focus (simp +decide only[Oz,n0,q0,e1,e2];done)));focus ((try simp +decide only[Oz,n0,q0,e1,e2]);with_reducible rfl))|((with_reducible apply Rs);(focus rfl);(focus rfl);focus (simp +decide only[Oz,n0,q0,e1,e2];done))));with_reducible exact Rn))
  repeat' (first|with_reducible apply Ws|(apply Wp;focus ((repeat ((with_reducible apply Rr rfl);focus ((try simp +decide only[Oz,n0]);with_reducible rfl)));with_reducible exact Rn))|(refine W2 (by simp +decide only[Cz,n0];try with_reducible rfl) (fun hb=>?_) (fun hb=>?_)<;>try contradiction)|apply W3|apply W4|apply W5|apply W6)
  exact done_q (v:=.bool false) (.inr rfl) (by simp +decide only[Gz,d0]) rfl (by simp +decide only[Gz,n0]) ⟨rfl,rfl⟩
 have e2:decide ((c.toNat:Int)≤126)=true:=decide_eq_true (by omega)
 rw[decide_eq_true h2]
 by_cases h3:c.toNat=34
 ·have e3:decide ((c.toNat:Int)=34)=true:=decide_eq_true (by omega)
  rw[decide_eq_true h3]
  (repeat' (with_reducible apply Ws));(apply Wn 1;focus ((repeat ((with_reducible apply Rr rfl);focus ((try simp +decide only[Oz,n0]);with_reducible rfl)));with_reducible exact Rn))
  (repeat' (with_reducible apply Ws));(apply Wn 1;focus ((repeat (first|((first|with_reducible apply Rr rfl|((with_reducible apply Rg);(focus rfl);(focus rfl);focus (simp +decide only[Oz,n0,q0,e1,e2,e3];done)));focus ((try simp +decide only[Oz,n0,q0,e1,e2,e3]);with_reducible rfl))|((with_reducible apply Rs);(focus rfl);(focus rfl);focus (simp +decide only[Oz,n0,q0,e1,e2,e3];done))));with_reducible exact Rn))
  repeat' (first|with_reducible apply Ws|(apply Wp;focus ((repeat ((with_reducible apply Rr rfl);focus ((try simp +decide only[Oz,n0]);with_reducible rfl)));with_reducible exact Rn))|(refine W2 (by simp +decide only[Cz,n0];try with_reducible rfl) (fun hb=>?_) (fun hb=>?_)<;>try contradiction)|apply W3|apply W4|apply W5|apply W6)
  exact done_q (v:=.bool false) (.inr rfl) (by simp +decide only[Gz,d0]) rfl (by simp +decide only[Gz,n0]) ⟨rfl,rfl⟩
 have e3:decide ((c.toNat:Int)=34)=false:=decide_eq_false (by omega)
 rw[decide_eq_false h3]
 by_cases h4:c.toNat=92
 ·have e4:decide ((c.toNat:Int)=92)=true:=decide_eq_true (by omega)
  rw[decide_eq_true h4]
  (repeat' (with_reducible apply Ws));(apply Wn 1;focus ((repeat ((with_reducible apply Rr rfl);focus ((try simp +decide only[Oz,n0]);with_reducible rfl)));with_reducible exact Rn))
  (repeat' (with_reducible apply Ws));(apply Wn 1;focus ((repeat (first|((first|with_reducible apply Rr rfl|((with_reducible apply Rg);(focus rfl);(focus rfl);focus (simp +decide only[Oz,n0,q0,e1,e2,e3,e4];done)));focus ((try simp +decide only[Oz,n0,q0,e1,e2,e3,e4]);with_reducible rfl))|((with_reducible apply Rs);(focus rfl);(focus rfl);focus (simp +decide only[Oz,n0,q0,e1,e2,e3,e4];done))));with_reducible exact Rn))
  repeat' (first|with_reducible apply Ws|(apply Wp;focus ((repeat ((with_reducible apply Rr rfl);focus ((try simp +decide only[Oz,n0]);with_reducible rfl)));with_reducible exact Rn))|(refine W2 (by simp +decide only[Cz,n0];try with_reducible rfl) (fun hb=>?_) (fun hb=>?_)<;>try contradiction)|apply W3|apply W4|apply W5|apply W6)
  exact done_q (v:=.bool false) (.inr rfl) (by simp +decide only[Gz,d0]) rfl (by simp +decide only[Gz,n0]) ⟨rfl,rfl⟩
 have e4:decide ((c.toNat:Int)=92)=false:=decide_eq_false (by omega)
 rw[decide_eq_false h4]
 (repeat' (with_reducible apply Ws));(apply Wn 1;focus ((repeat ((with_reducible apply Rr rfl);focus ((try simp +decide only[Oz,n0]);with_reducible rfl)));with_reducible exact Rn))
 (repeat' (with_reducible apply Ws));(apply Wn 1;focus ((repeat (first|((first|with_reducible apply Rr rfl|((with_reducible apply Rg);(focus rfl);(focus rfl);focus (simp +decide only[Oz,n0,q0,e1,e2,e3,e4];done)));focus ((try simp +decide only[Oz,n0,q0,e1,e2,e3,e4]);with_reducible rfl))|((with_reducible apply Rs);(focus rfl);(focus rfl);focus (simp +decide only[Oz,n0,q0,e1,e2,e3,e4];done))));with_reducible exact Rn))
 repeat' (first|with_reducible apply Ws|(apply Wp;focus ((repeat ((with_reducible apply Rr rfl);focus ((try simp +decide only[Oz,n0]);with_reducible rfl)));with_reducible exact Rn))|(refine W2 (by simp +decide only[Cz,n0];try with_reducible rfl) (fun hb=>?_) (fun hb=>?_)<;>try contradiction)|apply W3|apply W4|apply W5|apply W6)
 exact done_q (v:=.bool true) (.inr rfl) (by simp +decide only[Gz,d0]) rfl (by simp +decide only[Gz,n0]) ⟨rfl,rfl⟩
theorem shrB4 (a:Nat):ashift .shr .u8 (a:Nat) 4=some (.int .u8 ((a / 16:Nat):Int)):=by
 show some (Value.int .u8 ((a:Int).fdiv 16))=_
 rw[Int.fdiv_eq_ediv_of_nonneg _ (by decide)]
 rfl
theorem and15 (c:Nat) (h:c<256):IntKind.u8.wrap (((BitVec.ofInt IntKind.u8.bits (c:Int) &&& BitVec.ofInt IntKind.u8.bits 15).toNat:Nat):Int)=((c % 16:Nat):Int):=by
 have:=and_u8 c 15 h (by omega)
 rw[show c &&& 15=c % 16 from Nat.and_two_pow_sub_one_eq_mod c 4] at this
 exact this
theorem hex_lit:∀ i:Fin 16,([48,49,50,51,52,53,54,55,56,57,97,98,99,100,101,102]:List UInt8)[i.val]? = some (hexB i.val):=by decide +kernel
theorem ixH (k:IntKind) (i:Nat) (hi:i<16):aindex tab 9 (.string ⟨#[48,49,50,51,52,53,54,55,56,57,97,98,99,100,101,102]⟩) (.int k (i:Nat))=some (.int .u8 ((hexB i).toNat:Nat)):=by
 have h1:=hex_lit ⟨i,hi⟩
 generalize hL:([48,49,50,51,52,53,54,55,56,57,97,98,99,100,101,102]:List UInt8)=L at h1 ⊢
 have h2:inRange (i:Nat) L.length=true:=by
  show Nat.blt i _=true
  rw[Nat.blt_eq]
  exact (List.getElem?_eq_some_iff.1 h1).1
 have h3:L[i]? = some (hexB i):=h1
 unfold aindex
 simp only[qty9,List.toList_toArray,h2,Int.toNat_natCast,h3]
theorem bld153 (a b:Int):abuild tab 153 [(0,.int .u8 a),(1,.int .u8 b)]=some (.agg ⟨[.int .u8 a,.int .u8 b]⟩):=by
 unfold abuild
 simp only[qty153]
 rfl
theorem escape102 (hI:∀ args h,I 102 args h=none) {h:H} (f:Fit h) (c:UInt8) :
  ∃ n v h',(ev tab E I n).call 102 [.int .u8 (c.toNat:Nat)] h=some (v,h')∧(v=.agg ⟨[.int .u8 ((hexB (c.toNat / 16)).toNat:Nat),.int .u8 ((hexB (c.toNat % 16)).toNat:Nat)]⟩∧Mod (fun _=>False) h h'):=by
 have hc:c.toNat<256:=c.toNat_lt
 have t1:Ahd h (h.new (.cells (Value.agg #[.int .u8 0,.int .u8 0]).cells.toList 153 none)):=Ahd.new0 f rfl
 have b1:(h.new (.cells (Value.agg #[.int .u8 0,.int .u8 0]).cells.toList 153 none)).blk h.next=some (.cells [.int .u8 0,.int .u8 0] 153 none):=new_blk_new rfl
 generalize hh1:h.new (.cells (Value.agg #[.int .u8 0,.int .u8 0]).cells.toList 153 none)=h1 at t1 b1
 have hk:=t1.fit.lt b1
 have st:astore tab 153 (own h.next) (.agg ⟨[.int .u8 ((hexB (c.toNat / 16)).toNat:Nat),.int .u8 ((hexB (c.toNat % 16)).toNat:Nat)]⟩) (fresh h1)=some ((fresh h1).setl h.next (.cells [.int .u8 ((hexB (c.toNat / 16)).toNat:Nat),.int .u8 ((hexB (c.toNat % 16)).toNat:Nat)] 153 none)):=astore_all (g:=fresh h1) qty153 b1 rfl rfl rfl (by simp)
 have b2:=setl_same (h:=h1) (k:=h.next) (B:=.cells [.int .u8 ((hexB (c.toNat / 16)).toNat:Nat),.int .u8 ((hexB (c.toNat % 16)).toNat:Nat)] 153 none) rfl
 have M2:=(Mod.refl (M:=fun k=>k=h.next) t1.fit).setl (k:=h.next) (B:=.cells [.int .u8 ((hexB (c.toNat / 16)).toNat:Nat),.int .u8 ((hexB (c.toNat % 16)).toNat:Nat)] 153 none) rfl rfl hk
 apply Wk (hI _ _) fn102 rfl
 intro A0 n0 d0 hA0
 change A0.n=10 at n0
 have q0:A0.get 0=.int .u8 (c.toNat:Nat):=hA0 0 _ rfl
 clear hA0
 (repeat' (with_reducible apply Ws));(apply Wn 1;focus ((repeat ((with_reducible apply Rr rfl);focus ((try simp +decide only[Oz,n0,qtz153,hh1]);with_reducible rfl)));with_reducible exact Rn))
 refine Wc.forget (fun A=>A.n=10∧A.defers=[]∧A.get 0=.int .u8 (c.toNat:Nat)∧A.get 2=.pointer (some (own h.next))) (by and_intros<;>simp +decide only[Gz,n0,d0,q0]<;>rfl) ?_
 rintro A0 ⟨n0,d0,q0,q2⟩
 repeat' (with_reducible apply Wc.seq)
 refine Wc.drawQ 1 (by kernel_rfl) ?_
 (iterate 7 ((first|apply Qp rfl rfl rfl|apply FQ.new rfl rfl);focus ((try simp +decide only[Oz,n0,q0,shrB4,ixH _ _ (show c.toNat / 16<16 by omega),and15 _ hc,ixH _ _ (show c.toNat % 16<16 by omega),bld153]);with_reducible rfl)))
 refine FQ.setl (k:=h.next) (B:=.cells [.int .u8 ((hexB (c.toNat / 16)).toNat:Nat),.int .u8 ((hexB (c.toNat % 16)).toNat:Nat)] 153 none) (x:=undef) rfl rfl hk (by simp +decide only[Oz,n0,q2,st]) ?_
 refine FQ.nil ⟨?_,?_⟩
 ·refine allMeet_last (l:=[_,_,_,_,_,_,_]) ?_ (by kernel_rfl)
  simp only[List.all_cons,calm,List.isEmpty_nil,Bool.true_and,List.all_nil,Bool.and_true]
  rfl
 repeat' (first|with_reducible apply Ws|(apply Wp;focus ((repeat ((with_reducible apply Rr rfl);focus ((try simp +decide only[Oz,n0]);with_reducible rfl)));with_reducible exact Rn))|(refine W2 (by simp +decide only[Cz,n0];try with_reducible rfl) (fun hb=>?_) (fun hb=>?_)<;>try contradiction)|apply W3|apply W4|apply W5|apply W6)
 refine done_cell (.inr rfl) (by simp +decide only[Gz,d0]) rfl (show _=Value.pointer (some (own h.next)) by simp +decide only[Gz,n0,q2]) (by rw[qld153,blk_cells b2 (n:=2) rfl rfl]) ⟨rfl,(t1.mod.trans M2).low (M:=fun _=>False) f (fun k hk=>.inr (Nat.le_of_eq (Eq.symm hk)))⟩
def says101:Says:=fun s f args _ v=>(f=101∧s=0∧∃ c:UInt8,args=[.int .u8 (c.toNat:Nat)]∧v=.bool (plainB c))∨(f=102∧s=0∧∃ c:UInt8,args=[.int .u8 (c.toNat:Nat)]∧v=.agg ⟨[.int .u8 ((hexB (c.toNat / 16)).toNat:Nat),.int .u8 ((hexB (c.toNat % 16)).toNat:Nat)]⟩)
theorem byte_one {c c':UInt8} (h:([.int .u8 (c.toNat:Nat)]:List Value)=[.int .u8 (c'.toNat:Nat)]):c=c':=by
 simp only[List.cons.injEq,Value.int.injEq,true_and,and_true] at h
 exact UInt8.toNat_inj.1 (by omega)
theorem one101:One says101:=by
 rintro s s' f args h v v' (⟨rfl,_,c,rfl,rfl⟩|⟨rfl,_,c,rfl,rfl⟩) (⟨e,_,c',he,rfl⟩|⟨e,_,c',he,rfl⟩)
 ·rw[byte_one he]
 ·cases e
 ·cases e
 ·rw[byte_one he]
theorem shown101 (hI:∀ f args h,(f=101∨f=102)→I f args h=none):ShownF tab E I says101:=by
 have hJ:upTo says101 I 0=I:=by funext f args h;exact upTo_none (fun _ _ hs=>absurd hs (Nat.not_lt_zero _))
 rintro sz f args h v (⟨rfl,rfl,c,rfl,rfl⟩|⟨rfl,rfl,c,rfl,rfl⟩) hfit
 ·refine⟨rfl,?_⟩
  rw[hJ]
  obtain⟨n,v,h',c1,rfl,rfl⟩:=plain101 (E:=E) (I:=I) (fun args h=>hI _ args h (.inl rfl)) (h:=fresh h) c
  exact⟨n,_,c1,rfl⟩
 ·refine⟨rfl,?_⟩
  rw[hJ]
  obtain⟨n,v,h',c1,rfl,M⟩:=escape102 (E:=E) (I:=I) (fun args h=>hI _ args h (.inr rfl)) hfit c
  exact⟨n,_,c1,M.quiet⟩
structure Kq (I:Known):Prop where
 k101:∀ (c:UInt8) h,I 101 [.int .u8 (c.toNat:Nat)] h=some (some (.bool (plainB c),h))
 k102:∀ (c:UInt8) h,I 102 [.int .u8 (c.toNat:Nat)] h=some (some (.agg ⟨[.int .u8 ((hexB (c.toNat / 16)).toNat:Nat),.int .u8 ((hexB (c.toNat % 16)).toNat:Nat)]⟩,h))
theorem fn113:tab.fn.get 113=some Tryd.f113:=by kernel_rfl
noncomputable def loop113:Code:=loopOf Tryd.f113
theorem qty21:tab.ty.get 21=some ⟨.int .i32,1,4,some (.int .i32 0),true⟩:=by kernel_rfl
def hexE:Nat→List Ent
 | 0=>[]
 | n+1=>hexE n++[⟨.int .u8 ((hexB n).toNat:Nat),.int .u8 (n:Nat),n⟩]
theorem aeq5 (a b:Int):aeq tab 10000 5 (.int .u8 a) (.int .u8 b)=some (decide (a=b)):=by
 unfold aeq
 simp only[qty5]
 rfl
theorem key5 (a:Int):keyOk tab 5 (.int .u8 a)=true:=by
 unfold keyOk
 rw[qty5]
def findH (c:Nat):Nat→Option Nat
 | 0=>none
 | n+1=>match findH c n with
  | some i=>some i
  | none=>if c=(hexB n).toNat then some n else none
theorem findE_append (D:Tab) (kt:TypeId) (k:Value):∀ (l:List Ent) (e:Ent) (i:Nat) (r:Option (Nat×Value)),findE D kt k l i=some r→findE D kt k (l++[e]) i=match r with
   | some x=>some (some x)
   | none=>match aeq D 10000 kt k e.key with
    | some true=>some (some (i+l.length,e.val))
    | some false=>some none
    | none=>none
 | [],e,i,r,h=>by
  cases h
  rw[List.nil_append,findE]
  simp only[findE]
  rfl
 | x::l,e,i,r,h=>by
  rw[List.cons_append,findE]
  rw[findE] at h
  cases hx:aeq D 10000 kt k x.key with
  | none=>rw[hx] at h;cases h
  | some b=>
   rw[hx] at h
   cases b with
   | true=>cases h;rfl
   | false=>
    have:=findE_append D kt k l e (i+1) r h
    simp only[] at h ⊢
    rw[this]
    cases r with
    | some y=>rfl
    | none=>simp only[List.length_cons];rw[show i+1+l.length=i+(l.length+1) by omega]
theorem hexE_len:∀ n,(hexE n).length=n
 | 0=>rfl
 | n+1=>by rw[hexE,List.length_append,hexE_len n];rfl
theorem find_hexE (c:Nat):∀ n,findE tab 5 (.int .u8 (c:Nat)) (hexE n) 0=some ((findH c n).map fun i=>(i,.int .u8 (i:Nat)))
 | 0=>rfl
 | n+1=>by
  rw[hexE,findE_append _ _ _ _ _ _ _ (find_hexE c n),findH]
  cases h:findH c n with
  | some i=>rfl
  | none=>
   simp only[Option.map_none,aeq5,hexE_len,Nat.zero_add]
   by_cases hc:c=(hexB n).toNat
   ·rw[if_pos hc,decide_eq_true (by omega)];rfl
   ·rw[if_neg hc,decide_eq_false (by omega)];rfl
theorem findH_new:∀ i:Fin 16,findH (hexB i.val).toNat i.val=none:=by decide +kernel
theorem findH_val':∀ i:Fin 256,findH i.val 16=valB (UInt8.ofNat i.val):=by decide +kernel
theorem findH_val (c:UInt8):findH c.toNat 16=valB c:=by
 have:=findH_val' ⟨c.toNat,c.toNat_lt⟩
 simpa using this
theorem decode_hex:∀ i:Fin 16,Utf8.decode ⟨#[48,49,50,51,52,53,54,55,56,57,97,98,99,100,101,102]⟩ i.val=((hexB i.val).toNat,1):=by decide +kernel
theorem valB_hex':∀ i:Fin 256,∀ v,valB (UInt8.ofNat i.val)=some v→v<16∧hexB v=UInt8.ofNat i.val:=by decide +kernel
theorem valB_hex {c:UInt8} {v:Nat} (h:valB c=some v):v<16∧hexB v=c:=by
 have:=valB_hex' ⟨c.toNat,c.toNat_lt⟩ v (by simpa using h)
 simpa using this
def sHex:ByteArray:=⟨#[48,49,50,51,52,53,54,55,56,57,97,98,99,100,101,102]⟩
theorem range113 (h:H):arange tab 9 (.string ⟨#[48,49,50,51,52,53,54,55,56,57,97,98,99,100,101,102]⟩) h=some (.pointer (some (own h.next)),h.new (.siter sHex 0)):=by
 unfold arange
 rw[qty9]
 rfl
theorem next113 {k i:Nat} {h:H} (hb:h.blk k=some (.siter sHex i)) (hi:i<16):anext (.pointer (some (own k))) true h=some (.tuple #[.bool true,.int .i64 (i:Nat),.int .i32 ((hexB i).toNat:Nat)],h.setl k (.siter sHex (i+1))):=by
 have h1:Nat.blt i sHex.data.toList.length=true:=by rw[Nat.blt_eq];exact hi
 have h2:Utf8.decode sHex i=((hexB i).toNat,1):=decode_hex ⟨i,hi⟩
 show (match h.blk k with|some (.siter s pos)=>_|_=>_)=_
 rw[hb]
 simp only[h1,h2]
 rfl
theorem next113e {k:Nat} {h:H} (hb:h.blk k=some (.siter sHex 16)):anext (.pointer (some (own k))) true h=some (.tuple #[.bool false],h):=by
 show (match h.blk k with|some (.siter s pos)=>_|_=>_)=_
 rw[hb]
 rfl
theorem upd113 {k i:Nat} {h:H} (hb:h.blk k=some (.map (hexE i) i)) (hi:i<16):amapUpdate tab 170 (.map (some k)) (.int .u8 ((hexB i).toNat:Nat)) (.int .u8 (i:Nat)) h=some (undef,h.setl k (.map (hexE (i+1)) (i+1))):=by
 unfold amapUpdate
 simp only[qty170,hb,key5,find_hexE,findH_new ⟨i,hi⟩,Option.map_none]
 rfl
theorem look170 {k:Nat} {h:H} (hb:h.blk k=some (.map (hexE 16) 16)) (c:UInt8) (ok:Bool):alookup tab 170 (.map (some k)) (.int .u8 (c.toNat:Nat)) ok h=some (withOk ok (.int .u8 ((valB c).getD 0:Nat)) (valB c).isSome):=by
 unfold alookup aentries
 simp only[qty170,hb,key5,find_hexE,findH_val]
 cases valB c with
 | some v=>rfl
 | none=>simp only[Option.map_none,qtz5];rfl
theorem qcv21 (n:Int) {h:H}:aconvert tab E 21 5 (.int .i32 n) h=some (.int .u8 (IntKind.u8.wrap n),h):=by unfold aconvert;simp only[qty5,qty21]
theorem values113 (hI:∀ args h,I 113 args h=none) {g:H} (f:Fit g) :
  ∃ n v g',(ev tab E I n).call 113 [] g=some (v,g')∧∃ r,v=.map (some r)∧g.next≤r∧g'.blk r=some (.map (hexE 16) 16)∧Ahd g g':=by
 have t1:Ahd g (g.new (.map [] 0)):=Ahd.new0 f rfl
 have b1:(g.new (.map [] 0)).blk g.next=some (.map (hexE 0) 0):=new_blk_new rfl
 have n1:(g.new (.map [] 0)).next=g.next+1:=rfl
 generalize hh1:g.new (.map [] 0)=h1 at t1 b1 n1
 have t2:Ahd h1 (h1.new (.siter sHex 0)):=Ahd.new0 t1.fit rfl
 have b2:(h1.new (.siter sHex 0)).blk h1.next=some (.siter sHex 0):=new_blk_new rfl
 have n2:(h1.new (.siter sHex 0)).next=h1.next+1:=rfl
 have rg:=range113 h1
 generalize h1.new (.siter sHex 0)=h2 at t2 b2 n2 rg
 have b1:=t2.grows _ _ b1
 have hne:h1.next≠g.next:=by omega
 have key:∀ (r i:Nat) (A0:Ac) (h:H),r=16-i→i≤16→A0.n=16→A0.defers=[]→A0.get 1=.map (some g.next)→A0.get 5=.pointer (some (own h1.next))→Ahd g h→h.blk g.next=some (.map (hexE i) i)→h.blk h1.next=some (.siter sHex i)→
   Wc tab E I ⟨113,none⟩ (.loop loop113) A0 h (fun ex A' h'=>ex=.exit 0∧A'.n=16∧A'.defers=[]∧A'.get 1=.map (some g.next)∧Ahd g h'∧h'.blk g.next=some (.map (hexE 16) 16)):=by
  intro r
  induction r with
  | zero=>
   intro i A0 h hr hi n0 d0 q1 q5 T c1 c2
   obtain rfl:i=16:=by omega
   have nx:=next113e c2
   apply Wc.loop
   simp only[loop113,loopOf,firstLoop,Option.getD,Tryd.f113]
   repeat' (first|with_reducible apply Ws|(apply Wp;focus ((repeat ((with_reducible apply Rr rfl);focus ((try simp +decide only[Oz,n0,q1,q5,nx]);with_reducible rfl)));with_reducible exact Rn))|(refine W2 (by simp +decide only[Cz,n0,q1,q5,nx];try with_reducible rfl) (fun hb=>?_) (fun hb=>?_)<;>try contradiction)|apply W3|apply W4|apply W5|apply W6)
   exact⟨rfl,by simp +decide only[Gz,n0],by simp +decide only[Gz,d0],by simp +decide only[Gz,n0,q1],T,c1⟩
  | succ r ih=>
   intro i A0 h hr hi n0 d0 q1 q5 T c1 c2
   have hi16:i<16:=by omega
   have nx:=next113 c2 hi16
   have l1:=T.fit.lt c1
   have l2:=T.fit.lt c2
   have T1:=T.setl (k:=h1.next) (B:=.siter sHex (i+1)) rfl (by omega) l2 f
   have c2':=setl_same (h:=h) (k:=h1.next) (B:=.siter sHex (i+1)) rfl
   have c1':(h.setl h1.next (.siter sHex (i+1))).blk g.next=some (.map (hexE i) i):=by rw[setl_ne (by omega)];exact c1
   generalize h.setl h1.next (.siter sHex (i+1))=h3 at nx T1 c1' c2'
   have up:=upd113 c1' hi16
   have T2:=T1.setl (k:=g.next) (B:=.map (hexE (i+1)) (i+1)) rfl (Nat.le_refl _) (T1.fit.lt c1') f
   have c1'':=setl_same (h:=h3) (k:=g.next) (B:=.map (hexE (i+1)) (i+1)) rfl
   have c2'':(h3.setl g.next (.map (hexE (i+1)) (i+1))).blk h1.next=some (.siter sHex (i+1)):=by rw[setl_ne hne];exact c2'
   have w1:IntKind.u8.wrap (((hexB i).toNat:Nat):Int)=((hexB i).toNat:Nat):=wrapU8 (hexB i).toNat_lt
   have w2:IntKind.u8.wrap ((i:Nat):Int)=(i:Nat):=wrapU8 (by omega)
   apply Wc.loop
   simp only[loop113,loopOf,firstLoop,Option.getD,Tryd.f113]
   repeat' (first|with_reducible apply Ws|(apply Wp;focus ((repeat ((with_reducible apply Rr rfl);focus ((try simp +decide only[Oz,n0,q1,q5,nx,qcv21,qcv3_5,w1,w2,up]);with_reducible rfl)));with_reducible exact Rn))|(refine W2 (by simp +decide only[Cz,n0,q1,q5,nx,qcv21,qcv3_5,w1,w2,up];try with_reducible rfl) (fun hb=>?_) (fun hb=>?_)<;>try contradiction)|apply W3|apply W4|apply W5|apply W6)
   refine ih (i+1) _ _ (by omega) (by omega) ?_ ?_ ?_ ?_ T2 c1'' c2''
   ·simp +decide only[Gz,n0]
   ·simp +decide only[Gz,d0]
   ·simp +decide only[Gz,n0,q1]
   ·simp +decide only[Gz,n0,q5]
 apply Wk (hI _ _) fn113 rfl
 intro A0 n0 d0 hA0
 change A0.n=16 at n0
 clear hA0
 (repeat' (with_reducible apply Ws));(apply Wn 1;focus ((repeat ((with_reducible apply Rr rfl);focus ((try simp +decide only[Oz,n0,qtz170]);with_reducible rfl)));with_reducible exact Rn))
 (repeat' (with_reducible apply Ws));(apply Wn 1;focus ((repeat ((with_reducible apply Rr rfl);focus ((try simp +decide only[Oz,n0,hh1]);with_reducible rfl)));with_reducible exact Rn))
 (repeat' (with_reducible apply Ws));(apply Wn 1;focus ((repeat ((with_reducible apply Rr rfl);focus ((try simp +decide only[Oz,n0,rg]);with_reducible rfl)));with_reducible exact Rn))
 refine Wc.forget (fun A=>A.n=16∧A.defers=[]∧A.get 1=.map (some g.next)∧A.get 5=.pointer (some (own h1.next))) (by and_intros<;>simp +decide only[Gz,n0,d0,n0]<;>rfl) ?_
 rintro A0 ⟨n0,d0,q1,q5⟩
 repeat' (first|with_reducible apply Ws|(apply Wp;focus ((repeat ((with_reducible apply Rr rfl);focus ((try simp +decide only[Oz,n0]);with_reducible rfl)));with_reducible exact Rn))|(refine W2 (by simp +decide only[Cz,n0];try with_reducible rfl) (fun hb=>?_) (fun hb=>?_)<;>try contradiction)|apply W3|apply W4|apply W5|apply W6)
 refine (key 16 0 A0 h2 rfl (by omega) n0 d0 q1 q5 (t1.trans t2) b1 b2).mono ?_
 rintro ex A0 h' ⟨rfl,n0,d0,q1,T,b⟩
 simp only[if_true]
 repeat' (first|with_reducible apply Ws|(apply Wp;focus ((repeat ((with_reducible apply Rr rfl);focus ((try simp +decide only[Oz,n0,q1]);with_reducible rfl)));with_reducible exact Rn))|(refine W2 (by simp +decide only[Cz,n0,q1];try with_reducible rfl) (fun hb=>?_) (fun hb=>?_)<;>try contradiction)|apply W3|apply W4|apply W5|apply W6)
 refine done_q (v:=.map (some g.next)) (.inr rfl) (by simp +decide only[Gz,d0]) rfl (by simp +decide only[Gz,n0,q1]) ⟨_,rfl,Nat.le_refl _,b,T⟩
theorem fn114:tab.fn.get 114=some Tryd.f114:=by kernel_rfl
noncomputable def loop114:Code:=loopOf Tryd.f114
theorem ae153 (a b:Int):aeq tab 10000 153 (.agg ⟨[.int .u8 a,.int .u8 b]⟩) (.agg ⟨[.int .u8 a,.int .u8 b]⟩)=some true:=by
 unfold aeq
 simp only[qty153]
 have h5:∀ x:Int,aeq tab 9999 5 (.int .u8 x) (.int .u8 x)=some true:=by
  intro x
  unfold aeq
  simp only[qty5,decide_true,beq_self_eq_true]
 have p0:apart tab 5 [.int .u8 a,.int .u8 b] (0*1)=some (.int .u8 a):=by unfold apart;rw[qty5];rfl
 have p1:apart tab 5 [.int .u8 a,.int .u8 b] ((0+1)*1)=some (.int .u8 b):=by unfold apart;rw[qty5];rfl
 simp only[eqParts,p0,p1,h5]
theorem shl4 (a:Nat) (ha:a<16):ashift .shl .u8 (a:Nat) 4=some (.int .u8 ((a*16:Nat):Int)):=by
 show some (Value.int .u8 (IntKind.u8.wrap ((a:Int)*2 ^ min 4 IntKind.u8.bits)))=_
 have e:(a:Int)*2 ^ min 4 IntKind.u8.bits=((a*16:Nat):Int):=by
  have:(2:Int) ^ min 4 IntKind.u8.bits=16:=by decide
  rw[this];push_cast;rfl
 rw[e,wrapU8 (by omega)]
theorem or16':∀ a b:Fin 16,IntKind.u8.wrap (((BitVec.ofInt IntKind.u8.bits ((a.val*16:Nat):Int) ||| BitVec.ofInt IntKind.u8.bits (b.val:Int)).toNat:Nat):Int)=((a.val*16+b.val:Nat):Int):=by decide +kernel
theorem or16 (a b:Nat) (ha:a<16) (hb:b<16):IntKind.u8.wrap (((BitVec.ofInt IntKind.u8.bits ((a*16:Nat):Int) ||| BitVec.ofInt IntKind.u8.bits (b:Int)).toNat:Nat):Int)=((a*16+b:Nat):Int):=or16' ⟨a,ha⟩ ⟨b,hb⟩
def BytQ (k:Nat) (bs:List UInt8) (r:Rd UInt8) (v x:Value) (items:Nat) (g:H):Prop:=match r with
 | .ok c p _=>v=.int .u8 (c.toNat:Nat)∧x=.bool true∧Src k bs p 0 items g
 | .bad p e=>v=.int .u8 0∧x=.bool false∧Src k bs p e items g
theorem hidden114 (hI:∀ f args h,(f=114∨f=81)→I f args h=none) (kp:Kq I) {k r:Nat} {bs:List UInt8} {pos items:Nat} {g:H} (f:Fit g) (b:Src k bs pos 0 items g) (hr:g.blk r=some (.map (hexE 16) 16)) (hp1:1≤pos) (hp:pos≤bs.length) (hl:bs.length≤1000000) :
  ∃ n v g',(ev tab E I n).call 114 [.pointer (some (own k)),.map (some r)] g=some (v,g')∧(∃ u x,v=.tuple #[u,x]∧Mod (fun j=>j=k) g g'∧BytQ k bs (rdHid bs pos) u x items g'):=by
 have kl:k<g.next:=f.lt b
 have rl:r<g.next:=f.lt hr
 obtain⟨c0,c1,c2,c3⟩:=b.at (E:=E)
 have wp:IntKind.i64.wrap ((pos:Int)-1)=((pos-1:Nat):Int):=by rw[wrap64 (by omega) (by omega)];omega
 have fl:∀ (p:Nat),∃ nf g',(ev tab E I nf).call 81 [.pointer (some (own k)),.int .i64 4,.int .i64 (p:Nat)] g=some (.bool false,g')∧Mod (fun j=>j=k) g g'∧Src k bs p 4 items g':=fun p=>
  fail81 (E:=E) (I:=I) (fun args h=>hI _ args h (.inr rfl)) f b 4 p
 have key:∀ (rr j:Nat) (A0:Ac),rr=2-j→j≤2→(∀ i,i<j→∃ c v,bs[pos+i]? = some c∧valB c=some v)→A0.n=128→A0.defers=[]→A0.get 0=.pointer (some (own k))→A0.get 1=.map (some r)→A0.get 6=.int .i64 (pos-1:Nat)→A0.get 18=.int .i64 (j:Nat)→
   Wc tab E I ⟨114,none⟩ (.loop loop114) A0 g (fun ex A' h'=>A'.n=128∧A'.defers=[]∧((ex=.exit 0∧h'=g∧(∀ i,i<2→∃ c v,bs[pos+i]? = some c∧valB c=some v)∧A'.get 0=.pointer (some (own k))∧A'.get 1=.map (some r)∧A'.get 6=.int .i64 (pos-1:Nat))∨(ex=.ret∧Mod (fun j=>j=k) g h'∧BytQ k bs (rdHid bs pos) (A'.get 4) (A'.get 5) items h'))):=by
  intro rr
  induction rr with
  | zero=>
   intro j A0 hrr hj hc n0 d0 q0 q1 q6 q18
   obtain rfl:j=2:=by omega
   have e1:decide (((2:Nat):Int)<2)=false:=by decide
   apply Wc.loop
   simp only[loop114,loopOf,firstLoop,Option.getD,Tryd.f114]
   repeat' (first|with_reducible apply Ws|(apply Wp;focus ((repeat ((with_reducible apply Rr rfl);focus ((try simp +decide only[Oy,n0,q18,e1]);with_reducible rfl)));with_reducible exact Rn))|(refine W2 (by simp +decide only[Cx,n0,q18,e1];try with_reducible rfl) (fun hb=>?_) (fun hb=>?_)<;>try contradiction)|apply W3|apply W4|apply W5|apply W6)
   exact⟨by simp +decide only[Gs,n0],by simp +decide only[Gs,d0],.inl ⟨rfl,rfl,hc,by simp +decide only[Gs,n0,q0],by simp +decide only[Gs,n0,q1],by simp +decide only[Gs,n0,q6]⟩⟩
  | succ rr ih=>
   intro j A0 hrr hj hc n0 d0 q0 q1 q6 q18
   have hj2:j<2:=by omega
   have e1:decide ((j:Int)<2)=true:=decide_eq_true (by omega)
   have w1:IntKind.i64.wrap ((pos:Int)+(j:Int))=((pos+j:Nat):Int):=wrap64 (by omega) (by omega)
   have w2:IntKind.i64.wrap ((j:Int)+1)=((j+1:Nat):Int):=wrap64 (by omega) (by omega)
   have hpj:pos+j≤bs.length:=by
    rcases Nat.eq_zero_or_pos j with rfl|hj0
    ·exact hp
    ·obtain⟨c,v,h1,_⟩:=hc (j-1) (by omega)
     have:=(List.getElem?_eq_some_iff.1 h1).1
     omega
   apply Wc.loop
   simp only[loop114,loopOf,firstLoop,Option.getD,Tryd.f114]
   by_cases h1:pos+j=bs.length
   ·have e2:decide (((pos+j:Nat):Int)=(bs.length:Int))=true:=decide_eq_true (by omega)
    have hn:bs[pos+j]? = none:=by rw[List.getElem?_eq_none_iff];omega
    have he:rdHid bs pos=.bad bs.length 4:=by
     rcases (show j=0∨j=1 by omega) with rfl|rfl
     ·unfold rdHid;rw[show bs[pos]? = none from hn]
     ·obtain⟨c,v,h2,h3⟩:=hc 0 (by omega)
      unfold rdHid
      rw[show bs[pos]? = some c from h2]
      simp only[h3]
      rw[hn]
    obtain⟨nf,g',ck,m,b'⟩:=fail81 (E:=E) (I:=I) (fun args h=>hI _ args h (.inr rfl)) f.fresh (show Src k bs pos 0 items (fresh g) from b) 4 bs.length
    obtain⟨m',_,hn,hl⟩:=Mod.back f m
    repeat' (first|with_reducible apply Ws|(apply Wp;focus ((repeat ((with_reducible apply Rr rfl);focus ((try simp +decide only[Oy,n0,q18,e1]);with_reducible rfl)));with_reducible exact Rn))|(refine W2 (by simp +decide only[Cx,n0,q18,e1];try with_reducible rfl) (fun hb=>?_) (fun hb=>?_)<;>try contradiction)|apply W3|apply W4|apply W5|apply W6)
    refine Wc.drawC 1 (by kernel_rfl) ?_
    (iterate 14 ((first|apply Fp rfl rfl rfl|apply FC.new rfl rfl);focus ((try simp +decide only[Oy,n0,q0,Qx,Hx,c0,c1,w1,e2]);with_reducible rfl)))
    refine FC.nil ?_
    repeat' (first|with_reducible apply Ws|(apply Wp;focus ((repeat ((with_reducible apply Rr rfl);focus ((try simp +decide only[Oy,n0]);with_reducible rfl)));with_reducible exact Rn))|(refine W2 (by simp +decide only[Cx,n0];try with_reducible rfl) (fun hb=>?_) (fun hb=>?_)<;>try contradiction)|apply W3|apply W4|apply W5|apply W6)
    refine Wc.drawQ nf (by kernel_rfl) ?_
    (iterate 9 ((first|apply Qp rfl rfl rfl|apply FQ.new rfl rfl);focus ((try simp +decide only[Oy,n0,q0,q1,Qx,Hx,c0]);with_reducible rfl)))
    refine FQ.mod (h1:=g') (x:=.bool false) rfl rfl (by simp +decide only[Oy,n0,q0,Qx,Hx,ck]) ?_
    (iterate 2 ((first|apply Qp rfl rfl rfl|apply FQ.new rfl rfl);focus ((try simp +decide only[Oy,n0,q0]);with_reducible rfl)))
    refine FQ.nil ⟨?_,?_⟩
    ·exact allMeet_but0 [9] 12 rfl rfl (by kernel_rfl)
    refine Wc.ret ?_
    refine⟨by simp +decide only[Gs,n0],by simp +decide only[Gs,d0],.inr ⟨rfl,m',?_⟩⟩
    rw[he]
    exact⟨by simp +decide only[Gs,n0],by simp +decide only[Gs,n0],b'.back⟩
   have e2:decide (((pos+j:Nat):Int)=(bs.length:Int))=false:=decide_eq_false (by omega)
   obtain⟨c,hcc⟩:∃ c,bs[pos+j]? = some c:=⟨bs[pos+j]'(by omega),List.getElem?_eq_getElem (by omega)⟩
   have ix:=qix9 hcc
   have lk:=look170 (h:=fresh g) hr c true
   unfold withOk at lk
   simp only[] at lk
   cases hv:valB c with
   | none=>
    rw[hv] at lk
    simp only[Option.getD_none,Option.isSome_none] at lk
    have he:rdHid bs pos=.bad (pos-1) 4:=by
     rcases (show j=0∨j=1 by omega) with rfl|rfl
     ·unfold rdHid;rw[show bs[pos]? = some c from hcc];simp only[hv]
     ·obtain⟨c',v,h2,h3⟩:=hc 0 (by omega)
      unfold rdHid
      rw[show bs[pos]? = some c' from h2]
      simp only[h3]
      rw[hcc]
      simp only[hv]
    obtain⟨nf,g',ck,m,b'⟩:=fl (pos-1)
    repeat' (first|with_reducible apply Ws|(apply Wp;focus ((repeat ((with_reducible apply Rr rfl);focus ((try simp +decide only[Oy,n0,q18,e1]);with_reducible rfl)));with_reducible exact Rn))|(refine W2 (by simp +decide only[Cx,n0,q18,e1];try with_reducible rfl) (fun hb=>?_) (fun hb=>?_)<;>try contradiction)|apply W3|apply W4|apply W5|apply W6)
    refine Wc.drawC 1 (by kernel_rfl) ?_
    (iterate 14 ((first|apply Fp rfl rfl rfl|apply FC.new rfl rfl);focus ((try simp +decide only[Oy,n0,q0,Qx,Hx,c0,c1,w1,e2]);with_reducible rfl)))
    refine FC.nil ?_
    repeat' (first|with_reducible apply Ws|(apply Wp;focus ((repeat ((with_reducible apply Rr rfl);focus ((try simp +decide only[Oy,n0]);with_reducible rfl)));with_reducible exact Rn))|(refine W2 (by simp +decide only[Cx,n0];try with_reducible rfl) (fun hb=>?_) (fun hb=>?_)<;>try contradiction)|apply W3|apply W4|apply W5|apply W6)
    refine Wc.drawC 1 (by kernel_rfl) ?_
    (iterate 20 ((first|apply Fp rfl rfl rfl|apply FC.new rfl rfl);focus ((try simp +decide only[Oy,n0,q0,q1,Qx,Hx,c0,c1,w1,ix,lk]);with_reducible rfl)))
    refine FC.nil ?_
    repeat' (first|with_reducible apply Ws|(apply Wn nf;focus ((repeat ((with_reducible apply Rr rfl);focus ((try simp +decide only[Oy,n0,q0,q6,Qx,Hx,ck]);with_reducible rfl)));with_reducible exact Rn))|(refine W2 (by simp +decide only[Cx,n0,q0,q6];try with_reducible rfl) (fun hb=>?_) (fun hb=>?_)<;>try contradiction)|apply W3|apply W4|apply W5|apply W6)
    refine⟨by simp +decide only[Gs,n0],by simp +decide only[Gs,d0],.inr ⟨rfl,m,?_⟩⟩
    rw[he]
    exact⟨by simp +decide only[Gs,n0],by simp +decide only[Gs,n0],b'⟩
   | some v=>
    rw[hv] at lk
    simp only[Option.getD_some,Option.isSome_some] at lk
    repeat' (first|with_reducible apply Ws|(apply Wp;focus ((repeat ((with_reducible apply Rr rfl);focus ((try simp +decide only[Oy,n0,q18,e1]);with_reducible rfl)));with_reducible exact Rn))|(refine W2 (by simp +decide only[Cx,n0,q18,e1];try with_reducible rfl) (fun hb=>?_) (fun hb=>?_)<;>try contradiction)|apply W3|apply W4|apply W5|apply W6)
    refine Wc.drawC 1 (by kernel_rfl) ?_
    (iterate 14 ((first|apply Fp rfl rfl rfl|apply FC.new rfl rfl);focus ((try simp +decide only[Oy,n0,q0,Qx,Hx,c0,c1,w1,e2]);with_reducible rfl)))
    refine FC.nil ?_
    repeat' (first|with_reducible apply Ws|(apply Wp;focus ((repeat ((with_reducible apply Rr rfl);focus ((try simp +decide only[Oy,n0]);with_reducible rfl)));with_reducible exact Rn))|(refine W2 (by simp +decide only[Cx,n0];try with_reducible rfl) (fun hb=>?_) (fun hb=>?_)<;>try contradiction)|apply W3|apply W4|apply W5|apply W6)
    refine Wc.drawC 1 (by kernel_rfl) ?_
    (iterate 20 ((first|apply Fp rfl rfl rfl|apply FC.new rfl rfl);focus ((try simp +decide only[Oy,n0,q0,q1,Qx,Hx,c0,c1,w1,ix,lk]);with_reducible rfl)))
    refine FC.nil ?_
    repeat' (first|with_reducible apply Ws|(apply Wp;focus ((repeat ((with_reducible apply Rr rfl);focus ((try simp +decide only[Oy,n0,q18,w2]);with_reducible rfl)));with_reducible exact Rn))|(refine W2 (by simp +decide only[Cx,n0,q18];try with_reducible rfl) (fun hb=>?_) (fun hb=>?_)<;>try contradiction)|apply W3|apply W4|apply W5|apply W6)
    refine ih (j+1) _ (by omega) (by omega) ?_ ?_ ?_ ?_ ?_ ?_ ?_
    ·intro i hi
     rcases Nat.lt_or_ge i j with h2|h2
     ·exact hc i h2
     ·obtain rfl:i=j:=by omega
      exact⟨c,v,hcc,hv⟩
    ·simp +decide only[Gs,n0]
    ·simp +decide only[Gs,d0]
    ·simp +decide only[Gs,n0,q0]
    ·simp +decide only[Gs,n0,q1]
    ·simp +decide only[Gs,n0,q6]
    ·simp +decide only[Gs,n0]
 apply Wk (hI _ _ _ (.inl rfl)) fn114 rfl
 intro A0 n0 d0 hA0
 change A0.n=128 at n0
 have q0:A0.get 0=.pointer (some (own k)):=hA0 0 _ rfl
 have q1:A0.get 1=.map (some r):=hA0 1 _ rfl
 clear hA0
 repeat' (first|with_reducible apply Ws|(apply Wp;focus ((repeat ((with_reducible apply Rr rfl);focus ((try simp +decide only[Oy,n0,q0,q1,Qx,Hx,c1,wp]);with_reducible rfl)));with_reducible exact Rn))|(refine W2 (by simp +decide only[Cx,n0,q0,q1,wp];try with_reducible rfl) (fun hb=>?_) (fun hb=>?_)<;>try contradiction)|apply W3|apply W4|apply W5|apply W6)
 refine (key 2 0 _ rfl (by omega) (fun i hi=>absurd hi (Nat.not_lt_zero _)) ?_ ?_ ?_ ?_ ?_ ?_).mono ?_
 ·simp +decide only[Gs,n0]
 ·simp +decide only[Gs,d0]
 ·simp +decide only[Gs,n0,q0]
 ·simp +decide only[Gs,n0,q1]
 ·simp +decide only[Gs,n0]
 ·simp +decide only[Gs,n0]
  rfl
 rintro ex A0 h' ⟨n0,d0,⟨rfl,rfl,hc,q0,q1,q6⟩|⟨rfl,M,hq⟩⟩
 rotate_left
 ·exact done_r2 (.inr rfl) d0 rfl rfl rfl ⟨_,_,rfl,M,hq⟩
 obtain⟨x1,a,hx1,ha⟩:=hc 0 (by omega)
 obtain⟨x2,d,hx2,hd⟩:=hc 1 (by omega)
 have hx1:bs[pos]? = some x1:=hx1
 obtain⟨ha16,hxa⟩:=valB_hex ha
 obtain⟨hd16,hxd⟩:=valB_hex hd
 have hlt:=(List.getElem?_eq_some_iff.1 hx2).1
 have ix1:=qix9 hx1
 have ix2:=qix9 hx2
 have w1:IntKind.i64.wrap ((pos:Int)+1)=((pos+1:Nat):Int):=wrap64 (by omega) (by omega)
 have w2:IntKind.i64.wrap ((pos:Int)+2)=((pos+2:Nat):Int):=wrap64 (by omega) (by omega)
 have hcn:(UInt8.ofNat (a*16+d)).toNat=a*16+d:=by
  rw[UInt8.toNat_ofNat']
  exact Nat.mod_eq_of_lt (by omega)
 have he:rdHid bs pos=if plainB (UInt8.ofNat (a*16+d))=true then .bad (pos-1) 4 else .ok (UInt8.ofNat (a*16+d)) (pos+2) 0:=by
  unfold rdHid
  rw[hx1]
  simp only[ha]
  rw[hx2]
  simp only[hd]
 rw[he]
 generalize hcdef:UInt8.ofNat (a*16+d)=c at hcn
 have t1:Ahd h' (h'.new (.cells (Value.agg #[.int .u8 0,.int .u8 0]).cells.toList 153 none)):=Ahd.new0 f rfl
 have b1:(h'.new (.cells (Value.agg #[.int .u8 0,.int .u8 0]).cells.toList 153 none)).blk h'.next=some (.cells [.int .u8 0,.int .u8 0] 153 none):=new_blk_new rfl
 generalize hh1:h'.new (.cells (Value.agg #[.int .u8 0,.int .u8 0]).cells.toList 153 none)=h1 at t1 b1
 have hk:=t1.fit.lt b1
 have fnx:(fresh h').next=h'.next:=rfl
 have st:astore tab 153 (own h'.next) (.agg ⟨[.int .u8 (x1.toNat:Nat),.int .u8 (x2.toNat:Nat)]⟩) (fresh h1)=some ((fresh h1).setl h'.next (.cells [.int .u8 (x1.toNat:Nat),.int .u8 (x2.toNat:Nat)] 153 none)):=astore_all (g:=fresh h1) qty153 b1 rfl rfl rfl (by simp)
 have b2:=setl_same (h:=h1) (k:=h'.next) (B:=.cells [.int .u8 (x1.toNat:Nat),.int .u8 (x2.toNat:Nat)] 153 none) rfl
 have T2:=t1.setl (k:=h'.next) (B:=.cells [.int .u8 (x1.toNat:Nat),.int .u8 (x2.toNat:Nat)] 153 none) rfl (Nat.le_refl _) hk f
 generalize hh2:h1.setl h'.next (.cells [.int .u8 (x1.toNat:Nat),.int .u8 (x2.toNat:Nat)] 153 none)=h2 at b2 T2
 have l0:h2.cell E (own h'.next)=some (.int .u8 (x1.toNat:Nat)):=cell_blk0 b2
 have l1:h2.cell E (aadd (own h'.next) 1)=some (.int .u8 (x2.toNat:Nat)):=cell_blk b2 1
 have l2:h2.cells E (own h'.next) 2=some [.int .u8 (x1.toNat:Nat),.int .u8 (x2.toNat:Nat)]:=blk_cells b2 rfl rfl
 have hr2:=T2.grows _ _ hr
 have lk1:=look170 hr2 x1 false
 have lk2:=look170 hr2 x2 false
 unfold withOk at lk1 lk2
 simp only[ha,hd,Option.getD_some] at lk1 lk2
 have i0:aindexAddr tab 153 (.pointer (some (own h'.next))) (.int .i64 0)=some (.pointer (some (own h'.next))):=qia153 _ 0 rfl
 have i1:aindexAddr tab 153 (.pointer (some (own h'.next))) (.int .i64 1)=some (.pointer (some (aadd (own h'.next) 1))):=qia153 _ 1 rfl
 have sh:=shl4 a ha16
 have o1:=or16 a d ha16 hd16
 rw[← hcn] at o1
 have k101:=ev_known (D:=tab) (E:=E) (kp.k101 c (fresh h2))
 have k102:=ev_known (D:=tab) (E:=E) (kp.k102 c (fresh h2))
 have hc1:hexB (c.toNat / 16)=x1:=by rw[hcn,show (a*16+d) / 16=a by omega];exact hxa
 have hc2:hexB (c.toNat % 16)=x2:=by rw[hcn,show (a*16+d) % 16=d by omega];exact hxd
 rw[hc1,hc2] at k102
 have B2:Src k bs pos 0 items h2:=b.mod (T2.mod (M:=fun _=>False)) (fun h=>h)
 obtain⟨d0',d1,d2,d3⟩:=B2.at (E:=E)
 simp only[if_true]
 repeat' (with_reducible apply Wc.seq)
 refine Wc.drawQ 1 (by kernel_rfl) ?_
 (iterate 24 ((first|apply Qp rfl rfl rfl|apply FQ.new rfl rfl);focus ((try simp +decide only[Oy,n0,q0,Qx,Hx,c0,c1,ix1,ix2,w1,bld153]);with_reducible rfl)))
 refine FQ.new (B:=.cells (Value.agg #[.int .u8 0,.int .u8 0]).cells.toList 153 none) rfl rfl (by simp +decide only[Oy,n0,qtz153];with_reducible rfl) ?_
 rw[hh1]
 refine FQ.setl (k:=h'.next) (B:=.cells [.int .u8 (x1.toNat:Nat),.int .u8 (x2.toNat:Nat)] 153 none) (x:=undef) rfl rfl hk (by simp +decide only[Oy,n0,fnx,st]) ?_
 rw[hh2]
 refine FQ.nil ⟨?_,?_⟩
 ·refine allMeet_last (l:=[_,_,_,_,_,_,_,_,_,_,_,_,_,_,_,_,_,_,_,_,_,_,_,_,_]) ?_ (by kernel_rfl)
  simp only[List.all_cons,calm,List.isEmpty_nil,Bool.true_and,List.all_nil,Bool.and_true]
  rfl
 refine Wc.forget (fun A=>A.n=128∧A.defers=[]∧A.get 0=.pointer (some (own k))∧A.get 1=.map (some r)∧A.get 6=.int .i64 (pos-1:Nat)∧A.get 10=.pointer (some (own h'.next))) (by and_intros<;>simp +decide only[Gs,n0,d0,q0,q1,q6]<;>rfl) ?_
 rintro A0 ⟨n0,d0,q0,q1,q6,q10⟩
 repeat' (with_reducible apply Wc.seq)
 (repeat' (with_reducible apply Ws));(apply Wn 1;focus ((repeat ((with_reducible apply Rr rfl);focus ((try simp +decide only[Oy,n0,q1,q10,Qx,Qi,Hx,i0,i1,l0,l1,lk1,lk2,sh,o1]);with_reducible rfl)));with_reducible exact Rn))
 refine Wc.forget (fun A=>A.n=128∧A.defers=[]∧A.get 0=.pointer (some (own k))∧A.get 6=.int .i64 (pos-1:Nat)∧A.get 10=.pointer (some (own h'.next))∧A.get 11=.int .u8 (c.toNat:Nat)) (by and_intros<;>simp +decide only[Gs,n0,d0,q0,q1,q6,q10]<;>rfl) ?_
 rintro A0 ⟨n0,d0,q0,q6,q10,q11⟩
 repeat' (with_reducible apply Wc.seq)
 cases hpl:plainB c with
 | true=>
  rw[hpl] at k101
  obtain⟨nf,g',ck,m,b'⟩:=fail81 (E:=E) (I:=I) (fun args h=>hI _ args h (.inr rfl)) T2.fit B2 4 (pos-1)
  refine Wc.drawC 1 (by kernel_rfl) ?_
  (iterate 8 (first|((first|apply Fp rfl rfl rfl|apply FC.new rfl rfl|(apply FC.pureG rfl rfl;(focus (simp +decide only[Gs,n0,q11,q10,k101];done));focus rfl));focus ((try simp +decide only[Oy,n0,q11,q10,k101]);with_reducible rfl))|(apply FC.skipG rfl rfl;focus (simp +decide only[Gs,n0,q11,q10,k101];done))))
  refine FC.nil ?_
  repeat' (first|with_reducible apply Ws|(apply Wn nf;focus ((repeat ((with_reducible apply Rr rfl);focus ((try simp +decide only[Oy,n0,q0,q6,Qx,Hx,ck]);with_reducible rfl)));with_reducible exact Rn))|(refine W2 (by simp +decide only[Cx,n0,q0,q6];try with_reducible rfl) (fun hb=>?_) (fun hb=>?_)<;>try contradiction)|apply W3|apply W4|apply W5|apply W6)
  refine done_r2 (v:=.int .u8 0) (x:=.bool false) (.inr rfl) (by simp +decide only[Gs,d0]) rfl (by simp +decide only[Gs,n0]) (by simp +decide only[Gs,n0]) ⟨_,_,rfl,(T2.mod.trans m),?_⟩
  rw[if_pos rfl]
  exact⟨rfl,rfl,b'⟩
 | false=>
  rw[hpl] at k101
  have lt2:=T2.fit.lt B2
  obtain⟨s1,b3⟩:=B2.pos (pos+2)
  have m3:=(Mod.refl (M:=fun j=>j=k) T2.fit).setl (B:=.cells [.string ⟨⟨bs⟩⟩,.int .i64 (pos+2:Nat),.int .i64 0,.int .i64 (items:Nat)] 86 none) rfl rfl lt2
  refine Wc.drawC 1 (by kernel_rfl) ?_
  (iterate 8 (first|((first|apply Fp rfl rfl rfl|apply FC.new rfl rfl|(apply FC.pureG rfl rfl;(focus (simp +decide only[Gs,n0,q11,q10,k101,k102,Qi,Hx,l2,ae153];done));focus rfl));focus ((try simp +decide only[Oy,n0,q11,q10,k101,k102,Qi,Hx,l2,ae153]);with_reducible rfl))|(apply FC.skipG rfl rfl;focus (simp +decide only[Gs,n0,q11,q10,k101,k102,Qi,Hx,l2,ae153];done))))
  refine FC.nil ?_
  repeat' (first|with_reducible apply Ws|(apply Wp;focus ((repeat ((with_reducible apply Rr rfl);focus ((try simp +decide only[Oy,n0,q0,q11,Qx,Hx,d1,w2,s1]);with_reducible rfl)));with_reducible exact Rn))|(refine W2 (by simp +decide only[Cx,n0,q0,q11,d1];try with_reducible rfl) (fun hb=>?_) (fun hb=>?_)<;>try contradiction)|apply W3|apply W4|apply W5|apply W6)
  refine done_r2 (v:=.int .u8 (c.toNat:Nat)) (x:=.bool true) (.inr rfl) (by simp +decide only[Gs,d0]) rfl (by simp +decide only[Gs,n0,q11]) (by simp +decide only[Gs,n0]) ⟨_,_,rfl,(T2.mod.trans m3),?_⟩
  rw[if_neg (by simp)]
  exact⟨rfl,rfl,b3⟩
end Go.Proofs.YtofijpbmbmbnhaaDoor
