/- Bytes of a text: plain ones, and those that are escaped. -/
import Derived.Test.YtofijpbmbmbnhaaGreatDoorHsao
set_option linter.unusedSimpArgs false
set_option linter.unusedVariables false
set_option maxRecDepth 100000
set_option maxHeartbeats 16000000
namespace Go.Proofs.YtofijpbmbmbnhaaGreatDoor
open Go Go.Hs Go.Proofs
variable {E:Env} {I:Aa}
theorem AF0:tab.fn.get 95=some Tryz.f95:=by kernel_rfl
theorem AFz:tab.fn.get 96=some Tryz.f96:=by kernel_rfl
theorem WF (hI:∀ args h,I 95 args h=none) {h:H} (c:UInt8) :
  ∃ n v h',(ev tab E I n).call 95 [.int .u8 (c.toNat:Nat)] h=some (v,h')/\(v=.bool (DX c)/\h'=h):=by
 apply Wk (hI _ _) AF0 rfl;intro A0 n0 d0 hA0;change A0.n=17 at n0;have q0:A0.get 0=.int .u8 (c.toNat:Nat):=hA0 0 _ rfl;clear hA0;unfold DX;by_cases h1:32<=c.toNat;rotate_left
 ·have e1:decide ((c.toNat:Int)>=32)=false:=decide_eq_false (by omega);rw[decide_eq_false h1];refine Voz 1 n0 ?_;refine VOz 1 (Z3 n0 q0 e1) ?_;refine Vwz n0 ?_;exact AW (v:=.bool false) (.inr rfl) (S0z d0) rfl (S0z n0) ⟨rfl,rfl⟩
 have e1:decide ((c.toNat:Int)>=32)=true:=decide_eq_true (by omega);rw[decide_eq_true h1];by_cases h2:c.toNat<=126;rotate_left
 ·have e2:decide ((c.toNat:Int)<=126)=false:=decide_eq_false (by omega);rw[decide_eq_false h2];refine Voz 1 n0 ?_;refine VOz 1 (Z4 n0 q0 e1 e2) ?_;refine Vwz n0 ?_;exact AW (v:=.bool false) (.inr rfl) (S0z d0) rfl (S0z n0) ⟨rfl,rfl⟩
 have e2:decide ((c.toNat:Int)<=126)=true:=decide_eq_true (by omega);rw[decide_eq_true h2];by_cases h3:c.toNat=34
 ·have e3:decide ((c.toNat:Int)=34)=true:=decide_eq_true (by omega);rw[decide_eq_true h3];refine Voz 1 n0 ?_;refine VOz 1 (Z5 n0 q0 e1 e2 e3) ?_;refine Vwz n0 ?_;exact AW (v:=.bool false) (.inr rfl) (S0z d0) rfl (S0z n0) ⟨rfl,rfl⟩
 have e3:decide ((c.toNat:Int)=34)=false:=decide_eq_false (by omega);rw[decide_eq_false h3];by_cases h4:c.toNat=92
 ·have e4:decide ((c.toNat:Int)=92)=true:=decide_eq_true (by omega);rw[decide_eq_true h4];refine Voz 1 n0 ?_;refine VOz 1 (Z6 n0 q0 e1 e2 e3 e4) ?_;refine Vwz n0 ?_;exact AW (v:=.bool false) (.inr rfl) (S0z d0) rfl (S0z n0) ⟨rfl,rfl⟩
 have e4:decide ((c.toNat:Int)=92)=false:=decide_eq_false (by omega);rw[decide_eq_false h4];refine Voz 1 n0 ?_;refine VOz 1 (Z6 n0 q0 e1 e2 e3 e4) ?_;refine Vwz n0 ?_;exact AW (v:=.bool true) (.inr rfl) (S0z d0) rfl (S0z n0) ⟨rfl,rfl⟩
theorem shrB4 (a:Nat):DF .shr .u8 (a:Nat) 4=some (.int .u8 ((a / 16:Nat):Int)):=by
 show some (Value.int .u8 ((a:Int).fdiv 16))=_;rw[D4 _ (by decide)];rfl
theorem AEg (c:Nat) (h:c<256):IntKind.u8.wrap (((BitVec.ofInt IntKind.u8.bits (c:Int) &&& BitVec.ofInt IntKind.u8.bits 15).toNat:Nat):Int)=((c % 16:Nat):Int):=by
 have:=NI c 15 h (by omega);rw[show c &&& 15=c % 16 from F7 c 4] at this;exact this
theorem Zp:∀ i:Fin 16,([48,49,50,51,52,53,54,55,56,57,97,98,99,100,101,102]:List UInt8)[i.val]? = some (C9 i.val):=by decide +kernel
theorem ixH (k:IntKind) (i:Nat) (hi:i<16):CP tab 9 (.string ⟨#[48,49,50,51,52,53,54,55,56,57,97,98,99,100,101,102]⟩) (.int k (i:Nat))=some (.int .u8 ((C9 i).toNat:Nat)):=by
 have h1:=Zp ⟨i,hi⟩;generalize hL:([48,49,50,51,52,53,54,55,56,57,97,98,99,100,101,102]:List UInt8)=L at h1 ⊢;have h2:AN (i:Nat) L.length=true:=by
  show Nat.blt i _=true;rw[P0];exact (O0.1 h1).1
 have h3:L[i]? = some (C9 i):=h1;unfold CP;simp only[qty9,F3,h2,M0,h3]
theorem Yo (a b:Int):BX tab 145 [(0,.int .u8 a),(1,.int .u8 b)]=some (.agg ⟨[.int .u8 a,.int .u8 b]⟩):=by
 unfold BX;simp only[GS];rfl
theorem UM (hI:∀ args h,I 96 args h=none) {h:H} (f:Fit h) (c:UInt8) :
  ∃ n v h',(ev tab E I n).call 96 [.int .u8 (c.toNat:Nat)] h=some (v,h')/\(v=.agg ⟨[.int .u8 ((C9 (c.toNat / 16)).toNat:Nat),.int .u8 ((C9 (c.toNat % 16)).toNat:Nat)]⟩/\Mod (fun _=>False) h h'):=by
 have hc:c.toNat<256:=c.toNat_lt;have t1:Ahd h (h.new (.cells (Value.agg #[.int .u8 0,.int .u8 0]).cells.toList 145 none)):=Ahd.aj f rfl;have b1:(h.new (.cells (Value.agg #[.int .u8 0,.int .u8 0]).cells.toList 145 none)).blk h.next=some (.cells [.int .u8 0,.int .u8 0] 145 none):=AA rfl;generalize hh1:h.new (.cells (Value.agg #[.int .u8 0,.int .u8 0]).cells.toList 145 none)=h1 at t1 b1;have hk:=t1.fit.lt b1;have st:AO tab 145 (own h.next) (.agg ⟨[.int .u8 ((C9 (c.toNat / 16)).toNat:Nat),.int .u8 ((C9 (c.toNat % 16)).toNat:Nat)]⟩) (fresh h1)=some ((fresh h1).aa h.next (.cells [.int .u8 ((C9 (c.toNat / 16)).toNat:Nat),.int .u8 ((C9 (c.toNat % 16)).toNat:Nat)] 145 none)):=AU (g:=fresh h1) GS b1 rfl rfl rfl (by simp);have b2:=AD (h:=h1) (k:=h.next) (B:=.cells [.int .u8 ((C9 (c.toNat / 16)).toNat:Nat),.int .u8 ((C9 (c.toNat % 16)).toNat:Nat)] 145 none) rfl;have M2:=(Mod.refl (M:=fun k=>k=h.next) t1.fit).aa (k:=h.next) (B:=.cells [.int .u8 ((C9 (c.toNat / 16)).toNat:Nat),.int .u8 ((C9 (c.toNat % 16)).toNat:Nat)] 145 none) rfl rfl hk;apply Wk (hI _ _) AFz rfl;intro A0 n0 d0 hA0;change A0.n=10 at n0;have q0:A0.get 0=.int .u8 (c.toNat:Nat):=hA0 0 _ rfl;clear hA0;refine Voz 1 (Z3 n0 @Sk @hh1) ?_;refine Wc.forget (fun A=>A.n=10/\A.defers=[]/\A.get 0=.int .u8 (c.toNat:Nat)/\A.get 2=.pointer (some (own h.next))) (by and_intros<;>simp +decide only[Gz,n0,d0,q0]<;>rfl) ?_;rintro A0 ⟨n0,d0,q0,q2⟩
 repeat' (with_reducible apply Wc.seq)
 refine Wc.ao 1 (by kernel_rfl) ?_
 (iterate 7 ((first|apply Qp rfl rfl rfl|apply FQ.new rfl rfl);focus ((try simp +decide only[Oz,n0,q0,shrB4,ixH _ _ (show c.toNat / 16<16 by omega),AEg _ hc,ixH _ _ (show c.toNat % 16<16 by omega),Yo]);with_reducible rfl)))
 refine FQ.aa (k:=h.next) (B:=.cells [.int .u8 ((C9 (c.toNat / 16)).toNat:Nat),.int .u8 ((C9 (c.toNat % 16)).toNat:Nat)] 145 none) (x:=undef) rfl rfl hk (by simp +decide only[Oz,n0,q2,st]) ?_;refine FQ.nil ⟨?_,?_⟩
 ·refine FO (l:=[_,_,_,_,_,_,_]) ?_ (by kernel_rfl);simp only[V3,calm,List.isEmpty_nil,Bool.true_and,List.all_nil,Bool.and_true];rfl
 refine Vwz n0 ?_;refine CO (.inr rfl) (S0z d0) rfl (show _=Value.pointer (some (own h.next)) by simp +decide only[Gz,n0,q2]) (by rw[Sr,AG b2 (n:=2) rfl rfl]) ⟨rfl,(t1.mod.trans M2).low (M:=fun _=>False) f (fun k hk=>.inr (N4 (Eq.symm hk)))⟩
def KY:Lb:=fun s f args _ v=>(f=95/\s=0/\∃ c:UInt8,args=[.int .u8 (c.toNat:Nat)]/\v=.bool (DX c))\/(f=96/\s=0/\∃ c:UInt8,args=[.int .u8 (c.toNat:Nat)]/\v=.agg ⟨[.int .u8 ((C9 (c.toNat / 16)).toNat:Nat),.int .u8 ((C9 (c.toNat % 16)).toNat:Nat)]⟩)
theorem Py {c c':UInt8} (h:([.int .u8 (c.toNat:Nat)]:List Value)=[.int .u8 (c'.toNat:Nat)]):c=c':=by
 simp only[List.cons.injEq,Value.int.injEq,true_and,and_true] at h;exact UInt8.toNat_inj.1 (by omega)
theorem YY:One KY:=by
 rintro s s' f args h v v' (⟨rfl,_,c,rfl,rfl⟩|⟨rfl,_,c,rfl,rfl⟩) (⟨e,_,c',he,rfl⟩|⟨e,_,c',he,rfl⟩)
 ·rw[Py he]
 ·cases e
 ·cases e
 ·rw[Py he]
theorem Vj (hI:∀ f args h,(f=95\/f=96)->I f args h=none):FR tab E I KY:=by
 have hJ:Fm KY I 0=I:=by funext f args h;exact Bw (fun _ _ hs=>absurd hs (I6 _))
 rintro sz f args h v (⟨rfl,rfl,c,rfl,rfl⟩|⟨rfl,rfl,c,rfl,rfl⟩) hfit
 ·refine⟨rfl,?_⟩;rw[hJ];obtain⟨n,v,h',c1,rfl,rfl⟩:=WF (E:=E) (I:=I) (fun args h=>hI _ args h (.inl rfl)) (h:=fresh h) c;exact⟨n,_,c1,rfl⟩
 ·refine⟨rfl,?_⟩;rw[hJ];obtain⟨n,v,h',c1,rfl,M⟩:=UM (E:=E) (I:=I) (fun args h=>hI _ args h (.inr rfl)) hfit c;exact⟨n,_,c1,M.quiet⟩
structure Kq (I:Aa):Prop where
 k101:∀ (c:UInt8) h,I 95 [.int .u8 (c.toNat:Nat)] h=some (some (.bool (DX c),h))
 k102:∀ (c:UInt8) h,I 96 [.int .u8 (c.toNat:Nat)] h=some (some (.agg ⟨[.int .u8 ((C9 (c.toNat / 16)).toNat:Nat),.int .u8 ((C9 (c.toNat % 16)).toNat:Nat)]⟩,h))
theorem AD7:tab.fn.get 129=some Tryz.f129:=by kernel_rfl
noncomputable def OC:Code:=loopOf Tryz.f129
theorem ADf:tab.ty.get 21=some ⟨.int .i32,1,4,some (.int .i32 0),true⟩:=by kernel_rfl
def Jy:Nat->List Ent
 | 0=>[]
 | n+1=>Jy n++[⟨.int .u8 ((C9 n).toNat:Nat),.int .u8 (n:Nat),n⟩]
theorem aeq5 (a b:Int):aeq tab 10000 5 (.int .u8 a) (.int .u8 b)=some (decide (a=b)):=by
 unfold aeq;simp only[qty5];rfl
theorem key5 (a:Int):LD tab 5 (.int .u8 a)=true:=by
 unfold LD;rw[qty5]
def OJ (c:Nat):Nat->Option Nat
 | 0=>none
 | n+1=>match OJ c n with
  | some i=>some i
  | none=>if c=(C9 n).toNat then some n else none
theorem Hc (D:Tab) (kt:TypeId) (k:Value):∀ (l:List Ent) (e:Ent) (i:Nat) (r:Option (Nat×Value)),Dk D kt k l i=some r->Dk D kt k (l++[e]) i=match r with
   | some x=>some (some x)
   | none=>match aeq D 10000 kt k e.key with
    | some true=>some (some (i+l.length,e.val))
    | some false=>some none
    | none=>none
 | [],e,i,r,h=>by
  cases h;rw[V0,Dk];simp only[Dk];rfl
 | x::l,e,i,r,h=>by
  rw[W0,Dk];rw[Dk] at h;cases hx:aeq D 10000 kt k x.key with
  | none=>rw[hx] at h;cases h
  | some b=>
   rw[hx] at h;cases b with
   | true=>cases h;rfl
   | false=>
    have:=Hc D kt k l e (i+1) r h;simp only[] at h ⊢;rw[this];cases r with
    | some y=>rfl
    | none=>simp only[I1];rw[show i+1+l.length=i+(l.length+1) by omega]
theorem Pq:∀ n,(Jy n).length=n
 | 0=>rfl
 | n+1=>by rw[Jy,D0,Pq n];rfl
theorem Iy (c:Nat):∀ n,Dk tab 5 (.int .u8 (c:Nat)) (Jy n) 0=some ((OJ c n).map fun i=>(i,.int .u8 (i:Nat)))
 | 0=>rfl
 | n+1=>by
  rw[Jy,Hc _ _ _ _ _ _ _ (Iy c n),OJ];cases h:OJ c n with
  | some i=>rfl
  | none=>
   simp only[Option.map_none,aeq5,Pq,Z1];by_cases hc:c=(C9 n).toNat
   ·rw[if_pos hc,decide_eq_true (by omega)];rfl
   ·rw[if_neg hc,decide_eq_false (by omega)];rfl
theorem UE:∀ i:Fin 16,OJ (C9 i.val).toNat i.val=none:=by decide +kernel
theorem Qo:∀ i:Fin 256,OJ i.val 16=valB (UInt8.ofNat i.val):=by decide +kernel
theorem UD (c:UInt8):OJ c.toNat 16=valB c:=by
 have:=Qo ⟨c.toNat,c.toNat_lt⟩;simpa using this
theorem Qv:∀ i:Fin 16,Utf8.decode ⟨#[48,49,50,51,52,53,54,55,56,57,97,98,99,100,101,102]⟩ i.val=((C9 i.val).toNat,1):=by decide +kernel
theorem GH:∀ i:Fin 256,∀ v,valB (UInt8.ofNat i.val)=some v->v<16/\C9 v=UInt8.ofNat i.val:=by decide +kernel
theorem PE {c:UInt8} {v:Nat} (h:valB c=some v):v<16/\C9 v=c:=by
 have:=GH ⟨c.toNat,c.toNat_lt⟩ v (by simpa using h);simpa using this
def Lu:ByteArray:=⟨#[48,49,50,51,52,53,54,55,56,57,97,98,99,100,101,102]⟩
theorem Vq (h:H):FL tab 9 (.string ⟨#[48,49,50,51,52,53,54,55,56,57,97,98,99,100,101,102]⟩) h=some (.pointer (some (own h.next)),h.new (.siter Lu 0)):=by
 unfold FL;rw[qty9];rfl
theorem Zj {k i:Nat} {h:H} (hb:h.blk k=some (.siter Lu i)) (hi:i<16):LS (.pointer (some (own k))) true h=some (.tuple #[.bool true,.int .i64 (i:Nat),.int .i32 ((C9 i).toNat:Nat)],h.aa k (.siter Lu (i+1))):=by
 have h1:Nat.blt i Lu.data.toList.length=true:=by rw[P0];exact hi
 have h2:Utf8.decode Lu i=((C9 i).toNat,1):=Qv ⟨i,hi⟩;show (match h.blk k with|some (.siter s pos)=>_|_=>_)=_;rw[hb];simp only[h1,h2];rfl
theorem WO {k:Nat} {h:H} (hb:h.blk k=some (.siter Lu 16)):LS (.pointer (some (own k))) true h=some (.tuple #[.bool false],h):=by
 show (match h.blk k with|some (.siter s pos)=>_|_=>_)=_;rw[hb];rfl
theorem AAv {k i:Nat} {h:H} (hb:h.blk k=some (.map (Jy i) i)) (hi:i<16):BY tab 186 (.map (some k)) (.int .u8 ((C9 i).toNat:Nat)) (.int .u8 (i:Nat)) h=some (undef,h.aa k (.map (Jy (i+1)) (i+1))):=by
 unfold BY;simp only[PX,hb,key5,Iy,UE ⟨i,hi⟩,Option.map_none];rfl
theorem OE {k:Nat} {h:H} (hb:h.blk k=some (.map (Jy 16) 16)) (c:UInt8) (ok:Bool):FN tab 186 (.map (some k)) (.int .u8 (c.toNat:Nat)) ok h=some (GG ok (.int .u8 ((valB c).getD 0:Nat)) (valB c).isSome):=by
 unfold FN Fi;simp only[PX,hb,key5,Iy,UD];cases valB c with
 | some v=>rfl
 | none=>simp only[Option.map_none,Rl];rfl
theorem ADh (n:Int) {h:H}:AQ tab E 21 5 (.int .i32 n) h=some (.int .u8 (IntKind.u8.wrap n),h):=by unfold AQ;simp only[qty5,ADf]
theorem SE (hI:∀ args h,I 129 args h=none) {g:H} (f:Fit g) :
  ∃ n v g',(ev tab E I n).call 129 [] g=some (v,g')/\∃ r,v=.map (some r)/\g.next<=r/\g'.blk r=some (.map (Jy 16) 16)/\Ahd g g':=by
 have t1:Ahd g (g.new (.map [] 0)):=Ahd.aj f rfl;have b1:(g.new (.map [] 0)).blk g.next=some (.map (Jy 0) 0):=AA rfl;have n1:(g.new (.map [] 0)).next=g.next+1:=rfl;generalize hh1:g.new (.map [] 0)=h1 at t1 b1 n1;have t2:Ahd h1 (h1.new (.siter Lu 0)):=Ahd.aj t1.fit rfl;have b2:(h1.new (.siter Lu 0)).blk h1.next=some (.siter Lu 0):=AA rfl;have n2:(h1.new (.siter Lu 0)).next=h1.next+1:=rfl;have rg:=Vq h1;generalize h1.new (.siter Lu 0)=h2 at t2 b2 n2 rg;have b1:=t2.grows _ _ b1;have hne:h1.next≠g.next:=by omega
 have key:∀ (r i:Nat) (A0:Ac) (h:H),r=16-i->i<=16->A0.n=16->A0.defers=[]->A0.get 1=.map (some g.next)->A0.get 5=.pointer (some (own h1.next))->Ahd g h->h.blk g.next=some (.map (Jy i) i)->h.blk h1.next=some (.siter Lu i)->
   Wc tab E I ⟨129,none⟩ (.loop OC) A0 h (fun ex A' h'=>ex=.exit 0/\A'.n=16/\A'.defers=[]/\A'.get 1=.map (some g.next)/\Ahd g h'/\h'.blk g.next=some (.map (Jy 16) 16)):=by
  intro r;induction r with
  | zero=>
   intro i A0 h hr hi n0 d0 q1 q5 T c1 c2;obtain rfl:i=16:=by omega
   have nx:=WO c2;apply Wc.loop;simp only[OC,loopOf,firstLoop,Option.getD,Tryz.f129];refine Vwz (Z4 n0 q1 q5 @nx) ?_;exact⟨rfl,by simp +decide only[Gz,n0],by simp +decide only[Gz,d0],by simp +decide only[Gz,n0,q1],T,c1⟩
  | succ r ih=>
   intro i A0 h hr hi n0 d0 q1 q5 T c1 c2;have hi16:i<16:=by omega
   have nx:=Zj c2 hi16;have l1:=T.fit.lt c1;have l2:=T.fit.lt c2;have T1:=T.aa (k:=h1.next) (B:=.siter Lu (i+1)) rfl (by omega) l2 f;have c2':=AD (h:=h) (k:=h1.next) (B:=.siter Lu (i+1)) rfl;have c1':(h.aa h1.next (.siter Lu (i+1))).blk g.next=some (.map (Jy i) i):=by rw[KQ (by omega)];exact c1
   generalize h.aa h1.next (.siter Lu (i+1))=h3 at nx T1 c1' c2';have up:=AAv c1' hi16;have T2:=T1.aa (k:=g.next) (B:=.map (Jy (i+1)) (i+1)) rfl (C0 _) (T1.fit.lt c1') f;have c1'':=AD (h:=h3) (k:=g.next) (B:=.map (Jy (i+1)) (i+1)) rfl;have c2'':(h3.aa g.next (.map (Jy (i+1)) (i+1))).blk h1.next=some (.siter Lu (i+1)):=by rw[KQ hne];exact c2'
   have w1:IntKind.u8.wrap (((C9 i).toNat:Nat):Int)=((C9 i).toNat:Nat):=Ee (C9 i).toNat_lt;have w2:IntKind.u8.wrap ((i:Nat):Int)=(i:Nat):=Ee (by omega);apply Wc.loop;simp only[OC,loopOf,firstLoop,Option.getD,Tryz.f129];refine Vwz (Z9 n0 q1 q5 @nx @ADh @Pd @w1 @w2 @up) ?_;refine ih (i+1) _ _ (by omega) (by omega) ?_ ?_ ?_ ?_ T2 c1'' c2''
   ·simp +decide only[Gz,n0]
   ·simp +decide only[Gz,d0]
   ·simp +decide only[Gz,n0,q1]
   ·simp +decide only[Gz,n0,q5]
 apply Wk (hI _ _) AD7 rfl;intro A0 n0 d0 hA0;change A0.n=16 at n0;clear hA0;refine Voz 1 (Z2 n0 @ABL) ?_;refine Voz 1 (Z2 n0 @hh1) ?_;refine Voz 1 (Z2 n0 @rg) ?_;refine Wc.forget (fun A=>A.n=16/\A.defers=[]/\A.get 1=.map (some g.next)/\A.get 5=.pointer (some (own h1.next))) (by and_intros<;>simp +decide only[Gz,n0,d0,n0]<;>rfl) ?_;rintro A0 ⟨n0,d0,q1,q5⟩;refine Vwz n0 ?_;refine (key 16 0 A0 h2 rfl (by omega) n0 d0 q1 q5 (t1.trans t2) b1 b2).mono ?_;rintro ex A0 h' ⟨rfl,n0,d0,q1,T,b⟩;simp only[if_true];refine Vwz (Z2 n0 q1) ?_;refine AW (v:=.map (some g.next)) (.inr rfl) (S0z d0) rfl (S0z (Z2 n0 q1)) ⟨_,rfl,C0 _,b,T⟩
theorem AD6:tab.fn.get 130=some Tryz.f130:=by kernel_rfl
noncomputable def OB:Code:=loopOf Tryz.f130
theorem AEj (a b:Int):aeq tab 10000 145 (.agg ⟨[.int .u8 a,.int .u8 b]⟩) (.agg ⟨[.int .u8 a,.int .u8 b]⟩)=some true:=by
 unfold aeq;simp only[GS];have h5:∀ x:Int,aeq tab 9999 5 (.int .u8 x) (.int .u8 x)=some true:=by
  intro x;unfold aeq;simp only[qty5,decide_true,beq_self_eq_true]
 have p0:apart tab 5 [.int .u8 a,.int .u8 b] (0*1)=some (.int .u8 a):=by unfold apart;rw[qty5];rfl
 have p1:apart tab 5 [.int .u8 a,.int .u8 b] ((0+1)*1)=some (.int .u8 b):=by unfold apart;rw[qty5];rfl
 simp only[D8,p0,p1,h5]
theorem AFl (a:Nat) (ha:a<16):DF .shl .u8 (a:Nat) 4=some (.int .u8 ((a*16:Nat):Int)):=by
 show some (Value.int .u8 (IntKind.u8.wrap ((a:Int)*2 ^ min 4 IntKind.u8.bits)))=_;have e:(a:Int)*2 ^ min 4 IntKind.u8.bits=((a*16:Nat):Int):=by
  have:(2:Int) ^ min 4 IntKind.u8.bits=16:=by decide
  rw[this];push_cast;rfl
 rw[e,Ee (by omega)]
theorem ADl:∀ a b:Fin 16,IntKind.u8.wrap (((BitVec.ofInt IntKind.u8.bits ((a.val*16:Nat):Int) ||| BitVec.ofInt IntKind.u8.bits (b.val:Int)).toNat:Nat):Int)=((a.val*16+b.val:Nat):Int):=by decide +kernel
theorem AFq (a b:Nat) (ha:a<16) (hb:b<16):IntKind.u8.wrap (((BitVec.ofInt IntKind.u8.bits ((a*16:Nat):Int) ||| BitVec.ofInt IntKind.u8.bits (b:Int)).toNat:Nat):Int)=((a*16+b:Nat):Int):=ADl ⟨a,ha⟩ ⟨b,hb⟩
def AFI (k:Nat) (bs:List UInt8) (r:Rd UInt8) (v x:Value) (items:Nat) (g:H):Prop:=match r with
 | .ok c p _=>v=.int .u8 (c.toNat:Nat)/\x=.bool true/\Src k bs p 0 items g
 | .bad p e=>v=.int .u8 0/\x=.bool false/\Src k bs p e items g
theorem Tt (hI:∀ f args h,(f=130\/f=101)->I f args h=none) (kp:Kq I) {k r:Nat} {bs:List UInt8} {pos items:Nat} {g:H} (f:Fit g) (b:Src k bs pos 0 items g) (hr:g.blk r=some (.map (Jy 16) 16)) (hp1:1<=pos) (hp:pos<=bs.length) (hl:bs.length<=1000000) :
  ∃ n v g',(ev tab E I n).call 130 [.pointer (some (own k)),.map (some r)] g=some (v,g')/\(∃ u x,v=.tuple #[u,x]/\Mod (fun j=>j=k) g g'/\AFI k bs (Em bs pos) u x items g'):=by
 have kl:k<g.next:=f.lt b;have rl:r<g.next:=f.lt hr;obtain⟨c0,c1,c2,c3⟩:=b.at (E:=E);have wp:IntKind.i64.wrap ((pos:Int)-1)=((pos-1:Nat):Int):=by rw[wrap64 (by omega) (by omega)];omega
 have fl:∀ (p:Nat),∃ nf g',(ev tab E I nf).call 101 [.pointer (some (own k)),.int .i64 4,.int .i64 (p:Nat)] g=some (.bool false,g')/\Mod (fun j=>j=k) g g'/\Src k bs p 4 items g':=fun p=>
  Ce (E:=E) (I:=I) (fun args h=>hI _ args h (.inr rfl)) f b 4 p
 have key:∀ (rr j:Nat) (A0:Ac),rr=2-j->j<=2->(∀ i,i<j->∃ c v,bs[pos+i]? = some c/\valB c=some v)->A0.n=128->A0.defers=[]->A0.get 0=.pointer (some (own k))->A0.get 1=.map (some r)->A0.get 6=.int .i64 (pos-1:Nat)->A0.get 18=.int .i64 (j:Nat)->
   Wc tab E I ⟨130,none⟩ (.loop OB) A0 g (fun ex A' h'=>A'.n=128/\A'.defers=[]/\((ex=.exit 0/\h'=g/\(∀ i,i<2->∃ c v,bs[pos+i]? = some c/\valB c=some v)/\A'.get 0=.pointer (some (own k))/\A'.get 1=.map (some r)/\A'.get 6=.int .i64 (pos-1:Nat))\/(ex=.ret/\Mod (fun j=>j=k) g h'/\AFI k bs (Em bs pos) (A'.get 4) (A'.get 5) items h'))):=by
  intro rr;induction rr with
  | zero=>
   intro j A0 hrr hj hc n0 d0 q0 q1 q6 q18;obtain rfl:j=2:=by omega
   have e1:decide (((2:Nat):Int)<2)=false:=by decide
   apply Wc.loop;simp only[OB,loopOf,firstLoop,Option.getD,Tryz.f130];refine Vw (Z3 n0 q18 e1) ?_;exact⟨by simp +decide only[Gs,n0],by simp +decide only[Gs,d0],.inl ⟨rfl,rfl,hc,by simp +decide only[Gs,n0,q0],by simp +decide only[Gs,n0,q1],by simp +decide only[Gs,n0,q6]⟩⟩
  | succ rr ih=>
   intro j A0 hrr hj hc n0 d0 q0 q1 q6 q18;have hj2:j<2:=by omega
   have e1:decide ((j:Int)<2)=true:=decide_eq_true (by omega);have w1:IntKind.i64.wrap ((pos:Int)+(j:Int))=((pos+j:Nat):Int):=wrap64 (by omega) (by omega);have w2:IntKind.i64.wrap ((j:Int)+1)=((j+1:Nat):Int):=wrap64 (by omega) (by omega);have hpj:pos+j<=bs.length:=by
    rcases Nat.eq_zero_or_pos j with rfl|hj0
    ·exact hp
    ·obtain⟨c,v,h1,_⟩:=hc (j-1) (by omega);have:=(O0.1 h1).1;omega
   apply Wc.loop;simp only[OB,loopOf,firstLoop,Option.getD,Tryz.f130];by_cases h1:pos+j=bs.length
   ·have e2:decide (((pos+j:Nat):Int)=(bs.length:Int))=true:=decide_eq_true (by omega);have hn:bs[pos+j]? = none:=by rw[S5];omega
    have he:Em bs pos=.bad bs.length 4:=by
     rcases (show j=0\/j=1 by omega) with rfl|rfl
     ·unfold Em;rw[show bs[pos]? = none from hn]
     ·obtain⟨c,v,h2,h3⟩:=hc 0 (by omega);unfold Em;rw[show bs[pos]? = some c from h2];simp only[h3];rw[hn]
    obtain⟨nf,g',ck,m,b'⟩:=Ce (E:=E) (I:=I) (fun args h=>hI _ args h (.inr rfl)) f.fresh (show Src k bs pos 0 items (fresh g) from b) 4 bs.length;obtain⟨m',_,hn,hl⟩:=Mod.back f m;refine Vw (Z3 n0 q18 e1) ?_;refine Wc.al 1 (by kernel_rfl) ?_
    (iterate 14 refine Uf (Z8 n0 q0 @Qx @Hx @c0 @c1 @w1 e2) ?_)
    refine FC.nil ?_;refine Vw n0 ?_;refine Wc.ao nf (by kernel_rfl) ?_
    (iterate 9 refine Ug (Z6 n0 q0 q1 @Qx @Hx @c0) ?_)
    refine FQ.mod (h1:=g') (x:=.bool false) rfl rfl (by simp +decide only[Oy,n0,q0,Qx,Hx,ck]) ?_
    (iterate 2 refine Ug (Z2 n0 q0) ?_)
    refine FQ.nil ⟨?_,?_⟩
    ·exact Ah [9] 12 rfl rfl (by kernel_rfl)
    refine Wc.ret ?_;refine⟨by simp +decide only[Gs,n0],by simp +decide only[Gs,d0],.inr ⟨rfl,m',?_⟩⟩;rw[he];exact⟨by simp +decide only[Gs,n0],by simp +decide only[Gs,n0],b'.back⟩
   have e2:decide (((pos+j:Nat):Int)=(bs.length:Int))=false:=decide_eq_false (by omega);obtain⟨c,hcc⟩:∃ c,bs[pos+j]? = some c:=⟨bs[pos+j]'(by omega),Q0 (by omega)⟩;have ix:=Vu hcc;have lk:=OE (h:=fresh g) hr c true;unfold GG at lk;simp only[] at lk;cases hv:valB c with
   | none=>
    rw[hv] at lk;simp only[Option.getD_none,Option.isSome_none] at lk;have he:Em bs pos=.bad (pos-1) 4:=by
     rcases (show j=0\/j=1 by omega) with rfl|rfl
     ·unfold Em;rw[show bs[pos]? = some c from hcc];simp only[hv]
     ·obtain⟨c',v,h2,h3⟩:=hc 0 (by omega);unfold Em;rw[show bs[pos]? = some c' from h2];simp only[h3];rw[hcc];simp only[hv]
    obtain⟨nf,g',ck,m,b'⟩:=fl (pos-1);refine Vw (Z3 n0 q18 e1) ?_;refine Wc.al 1 (by kernel_rfl) ?_
    (iterate 14 refine Uf (Z8 n0 q0 @Qx @Hx @c0 @c1 @w1 e2) ?_)
    refine FC.nil ?_;refine Vw n0 ?_;refine Wc.al 1 (by kernel_rfl) ?_
    (iterate 20 refine Uf (Z10 n0 q0 q1 @Qx @Hx @c0 @c1 @w1 @ix @lk) ?_)
    refine FC.nil ?_;refine Vn nf (Z6 n0 q0 q6 @Qx @Hx @ck) ?_;refine⟨by simp +decide only[Gs,n0],by simp +decide only[Gs,d0],.inr ⟨rfl,m,?_⟩⟩;rw[he];exact⟨by simp +decide only[Gs,n0],by simp +decide only[Gs,n0],b'⟩
   | some v=>
    rw[hv] at lk;simp only[H5,Option.isSome_some] at lk;refine Vw (Z3 n0 q18 e1) ?_;refine Wc.al 1 (by kernel_rfl) ?_
    (iterate 14 refine Uf (Z8 n0 q0 @Qx @Hx @c0 @c1 @w1 e2) ?_)
    refine FC.nil ?_;refine Vw n0 ?_;refine Wc.al 1 (by kernel_rfl) ?_
    (iterate 20 refine Uf (Z10 n0 q0 q1 @Qx @Hx @c0 @c1 @w1 @ix @lk) ?_)
    refine FC.nil ?_;refine Vw (Z3 n0 q18 @w2) ?_;refine ih (j+1) _ (by omega) (by omega) ?_ ?_ ?_ ?_ ?_ ?_ ?_
    ·intro i hi;rcases P1 i j with h2|h2
     ·exact hc i h2
     ·obtain rfl:i=j:=by omega
      exact⟨c,v,hcc,hv⟩
    ·simp +decide only[Gs,n0]
    ·simp +decide only[Gs,d0]
    ·simp +decide only[Gs,n0,q0]
    ·simp +decide only[Gs,n0,q1]
    ·simp +decide only[Gs,n0,q6]
    ·simp +decide only[Gs,n0]
 apply Wk (hI _ _ _ (.inl rfl)) AD6 rfl;intro A0 n0 d0 hA0;change A0.n=128 at n0;have q0:A0.get 0=.pointer (some (own k)):=hA0 0 _ rfl;have q1:A0.get 1=.map (some r):=hA0 1 _ rfl;clear hA0;refine Vw (Z7 n0 q0 q1 @Qx @Hx @c1 @wp) ?_;refine (key 2 0 _ rfl (by omega) (fun i hi=>absurd hi (I6 _)) ?_ ?_ ?_ ?_ ?_ ?_).mono ?_
 ·simp +decide only[Gs,n0]
 ·simp +decide only[Gs,d0]
 ·simp +decide only[Gs,n0,q0]
 ·simp +decide only[Gs,n0,q1]
 ·simp +decide only[Gs,n0]
 ·simp +decide only[Gs,n0];rfl
 rintro ex A0 h' ⟨n0,d0,⟨rfl,rfl,hc,q0,q1,q6⟩|⟨rfl,M,hq⟩⟩;rotate_left
 ·exact CL (.inr rfl) d0 rfl rfl rfl ⟨_,_,rfl,M,hq⟩
 obtain⟨x1,a,hx1,ha⟩:=hc 0 (by omega);obtain⟨x2,d,hx2,hd⟩:=hc 1 (by omega);have hx1:bs[pos]? = some x1:=hx1;obtain⟨ha16,hxa⟩:=PE ha;obtain⟨hd16,hxd⟩:=PE hd;have hlt:=(O0.1 hx2).1;have ix1:=Vu hx1;have ix2:=Vu hx2;have w1:IntKind.i64.wrap ((pos:Int)+1)=((pos+1:Nat):Int):=wrap64 (by omega) (by omega);have w2:IntKind.i64.wrap ((pos:Int)+2)=((pos+2:Nat):Int):=wrap64 (by omega) (by omega);have hcn:(UInt8.ofNat (a*16+d)).toNat=a*16+d:=by
  rw[UInt8.toNat_ofNat'];exact L4 (by omega)
 have he:Em bs pos=if DX (UInt8.ofNat (a*16+d))=true then .bad (pos-1) 4 else .ok (UInt8.ofNat (a*16+d)) (pos+2) 0:=by
  unfold Em;rw[hx1];simp only[ha];rw[hx2];simp only[hd]
 rw[he];generalize hcdef:UInt8.ofNat (a*16+d)=c at hcn;have t1:Ahd h' (h'.new (.cells (Value.agg #[.int .u8 0,.int .u8 0]).cells.toList 145 none)):=Ahd.aj f rfl;have b1:(h'.new (.cells (Value.agg #[.int .u8 0,.int .u8 0]).cells.toList 145 none)).blk h'.next=some (.cells [.int .u8 0,.int .u8 0] 145 none):=AA rfl;generalize hh1:h'.new (.cells (Value.agg #[.int .u8 0,.int .u8 0]).cells.toList 145 none)=h1 at t1 b1;have hk:=t1.fit.lt b1;have fnx:(fresh h').next=h'.next:=rfl;have st:AO tab 145 (own h'.next) (.agg ⟨[.int .u8 (x1.toNat:Nat),.int .u8 (x2.toNat:Nat)]⟩) (fresh h1)=some ((fresh h1).aa h'.next (.cells [.int .u8 (x1.toNat:Nat),.int .u8 (x2.toNat:Nat)] 145 none)):=AU (g:=fresh h1) GS b1 rfl rfl rfl (by simp);have b2:=AD (h:=h1) (k:=h'.next) (B:=.cells [.int .u8 (x1.toNat:Nat),.int .u8 (x2.toNat:Nat)] 145 none) rfl;have T2:=t1.aa (k:=h'.next) (B:=.cells [.int .u8 (x1.toNat:Nat),.int .u8 (x2.toNat:Nat)] 145 none) rfl (C0 _) hk f;generalize hh2:h1.aa h'.next (.cells [.int .u8 (x1.toNat:Nat),.int .u8 (x2.toNat:Nat)] 145 none)=h2 at b2 T2;have l0:h2.cell E (own h'.next)=some (.int .u8 (x1.toNat:Nat)):=BJ b2;have l1:h2.cell E (aadd (own h'.next) 1)=some (.int .u8 (x2.toNat:Nat)):=Aq b2 1;have l2:h2.cells E (own h'.next) 2=some [.int .u8 (x1.toNat:Nat),.int .u8 (x2.toNat:Nat)]:=AG b2 rfl rfl;have hr2:=T2.grows _ _ hr;have lk1:=OE hr2 x1 false;have lk2:=OE hr2 x2 false;unfold GG at lk1 lk2;simp only[ha,hd,H5] at lk1 lk2;have i0:AL tab 145 (.pointer (some (own h'.next))) (.int .i64 0)=some (.pointer (some (own h'.next))):=YR _ 0 rfl;have i1:AL tab 145 (.pointer (some (own h'.next))) (.int .i64 1)=some (.pointer (some (aadd (own h'.next) 1))):=YR _ 1 rfl;have sh:=AFl a ha16;have o1:=AFq a d ha16 hd16;rw[<- hcn] at o1;have k101:=Al (D:=tab) (E:=E) (kp.k101 c (fresh h2));have k102:=Al (D:=tab) (E:=E) (kp.k102 c (fresh h2));have hc1:C9 (c.toNat / 16)=x1:=by rw[hcn,show (a*16+d) / 16=a by omega];exact hxa
 have hc2:C9 (c.toNat % 16)=x2:=by rw[hcn,show (a*16+d) % 16=d by omega];exact hxd
 rw[hc1,hc2] at k102;have B2:Src k bs pos 0 items h2:=b.mod (T2.mod (M:=fun _=>False)) (fun h=>h);obtain⟨d0',d1,d2,d3⟩:=B2.at (E:=E);simp only[if_true]
 repeat' (with_reducible apply Wc.seq)
 refine Wc.ao 1 (by kernel_rfl) ?_
 (iterate 24 refine Ug (Z10 n0 q0 @Qx @Hx @c0 @c1 @ix1 @ix2 @w1 @Yo) ?_)
 refine FQ.new (B:=.cells (Value.agg #[.int .u8 0,.int .u8 0]).cells.toList 145 none) rfl rfl (by simp +decide only[Oy,n0,Sk];with_reducible rfl) ?_;rw[hh1];refine FQ.aa (k:=h'.next) (B:=.cells [.int .u8 (x1.toNat:Nat),.int .u8 (x2.toNat:Nat)] 145 none) (x:=undef) rfl rfl hk (by simp +decide only[Oy,n0,fnx,st]) ?_;rw[hh2];refine FQ.nil ⟨?_,?_⟩
 ·refine FO (l:=[_,_,_,_,_,_,_,_,_,_,_,_,_,_,_,_,_,_,_,_,_,_,_,_,_]) ?_ (by kernel_rfl);simp only[V3,calm,List.isEmpty_nil,Bool.true_and,List.all_nil,Bool.and_true];rfl
 refine Wc.forget (fun A=>A.n=128/\A.defers=[]/\A.get 0=.pointer (some (own k))/\A.get 1=.map (some r)/\A.get 6=.int .i64 (pos-1:Nat)/\A.get 10=.pointer (some (own h'.next))) (by and_intros<;>simp +decide only[Gs,n0,d0,q0,q1,q6]<;>rfl) ?_;rintro A0 ⟨n0,d0,q0,q1,q6,q10⟩
 repeat' (with_reducible apply Wc.seq)
 refine Vo 1 (Z14 n0 q1 q10 @Qx @Qi @Hx @i0 @i1 @l0 @l1 @lk1 @lk2 @sh @o1) ?_;refine Wc.forget (fun A=>A.n=128/\A.defers=[]/\A.get 0=.pointer (some (own k))/\A.get 6=.int .i64 (pos-1:Nat)/\A.get 10=.pointer (some (own h'.next))/\A.get 11=.int .u8 (c.toNat:Nat)) (by and_intros<;>simp +decide only[Gs,n0,d0,q0,q1,q6,q10]<;>rfl) ?_;rintro A0 ⟨n0,d0,q0,q6,q10,q11⟩
 repeat' (with_reducible apply Wc.seq)
 cases hpl:DX c with
 | true=>
  rw[hpl] at k101;obtain⟨nf,g',ck,m,b'⟩:=Ce (E:=E) (I:=I) (fun args h=>hI _ args h (.inr rfl)) T2.fit B2 4 (pos-1);refine Wc.al 1 (by kernel_rfl) ?_
  (iterate 8 refine UF (Z4 n0 q11 q10 @k101) ?_)
  refine FC.nil ?_;refine Vn nf (Z6 n0 q0 q6 @Qx @Hx @ck) ?_;refine CL (v:=.int .u8 0) (x:=.bool false) (.inr rfl) (S0 d0) rfl (S0 n0) (S0 n0) ⟨_,_,rfl,(T2.mod.trans m),?_⟩;rw[if_pos rfl];exact⟨rfl,rfl,b'⟩
 | false=>
  rw[hpl] at k101;have lt2:=T2.fit.lt B2;obtain⟨s1,b3⟩:=B2.pos (pos+2);have m3:=(Mod.refl (M:=fun j=>j=k) T2.fit).aa (B:=.cells [.string ⟨⟨bs⟩⟩,.int .i64 (pos+2:Nat),.int .i64 0,.int .i64 (items:Nat)] 116 none) rfl rfl lt2;refine Wc.al 1 (by kernel_rfl) ?_
  (iterate 8 refine UF (Z9 n0 q11 q10 @k101 @k102 @Qi @Hx @l2 @AEj) ?_)
  refine FC.nil ?_;refine Vw (Z8 n0 q0 q11 @Qx @Hx @d1 @w2 @s1) ?_;refine CL (v:=.int .u8 (c.toNat:Nat)) (x:=.bool true) (.inr rfl) (S0 d0) rfl (S0 (Z2 n0 q11)) (S0 n0) ⟨_,_,rfl,(T2.mod.trans m3),?_⟩;rw[if_neg (by simp)];exact⟨rfl,rfl,b3⟩
theorem AEN:tab.fn.get 106=some Tryz.f106:=by kernel_rfl
noncomputable def Ya:Code:=loopOf Tryz.f106
def AGo (k:Nat) (bs:List UInt8) (r:Rd ByteArray) (v x:Value) (items:Nat) (g:H):Prop:=match r with
 | .ok tx p it=>v=.string tx/\x=.bool true/\Src k bs p 0 it g
 | .bad p e=>v=.string ⟨⟨[]⟩⟩/\x=.bool false/\Src k bs p e items g
theorem Vs (hI:∀ f args h,(f=106\/f=129\/f=130\/f=101)->I f args h=none) (kp:Kq I) {k:Nat} {bs:List UInt8} {pos items:Nat} {g:H} (f:Fit g) (b:Src k bs pos 0 items g) (hp1:1<=pos) (hp:pos<=bs.length) (hl:bs.length<=1000000) :
  ∃ n v g',(ev tab E I n).call 106 [.pointer (some (own k))] g=some (v,g')/\(∃ u x,v=.tuple #[u,x]/\Mod (fun j=>j=k) g g'/\AGo k bs (Fu bs pos items) u x items g'):=by
 have kl:k<g.next:=f.lt b;obtain⟨c0,c1,c2,c3⟩:=b.at (E:=E);have wp:IntKind.i64.wrap ((pos:Int)-1)=((pos-1:Nat):Int):=by rw[wrap64 (by omega) (by omega)];omega
 have fl:∀ {p items:Nat} {h:H} (e':Int) (q:Nat),Mod (fun j=>j=k) g h->Src k bs p 0 items h->∃ nf g',(ev tab E I nf).call 101 [.pointer (some (own k)),.int .i64 e',.int .i64 (q:Nat)] h=some (.bool false,g')/\Mod (fun j=>j=k) g g'/\Src k bs q e' items g':=fun e' q M b=>by
  obtain⟨nf,g',ck,m,b'⟩:=Ce (E:=E) (I:=I) (fun args h=>hI _ args h (by simp)) M.fit b e' q;exact⟨nf,g',ck,M.trans m,b'⟩
 obtain⟨nv,_,g1,cv,r,rfl,hr,hb,TV⟩:=SE (E:=E) (I:=I) (fun args h=>hI _ args h (by simp)) f;have hrk:r≠k:=by omega
 have key:∀ (kk p:Nat) (acc:List UInt8) (sl:Value) (A0:Ac) (h:H),bs.length+1-p<=kk->pos<=p->p<=bs.length->acc.length<=p->A0.n=126->A0.defers=[]->A0.get 0=.pointer (some (own k))->A0.get 4=.int .i64 (pos-1:Nat)->A0.get 5=.map (some r)->A0.get 6=sl->
   Mod (fun j=>j=k) g h->h.blk r=some (.map (Jy 16) 16)->Src k bs p 0 items h->Bol 5 g.next h.next h sl acc->CT bs (bs.length+1-pos) pos []=CT bs kk p acc->
   Wc tab E I ⟨106,none⟩ (.loop Ya) A0 h (fun ex A' h'=>A'.n=126/\A'.defers=[]/\Mod (fun j=>j=k) g h'/\((ex=.exit 0/\∃ l p sl,CT bs (bs.length+1-pos) pos []=.ok l p 0/\l.length<=bs.length/\A'.get 0=.pointer (some (own k))/\A'.get 4=.int .i64 (pos-1:Nat)/\A'.get 6=sl/\Bol 5 g.next h'.next h' sl l/\Src k bs p 0 items h')\/(ex=.ret/\A'.get 2=.string ⟨⟨[]⟩⟩/\A'.get 3=.bool false/\∃ p e,CT bs (bs.length+1-pos) pos []=.bad p e/\Src k bs p e items h'))):=by
  intro kk;induction kk with
  | zero=>intro p acc sl A0 h hk _ hpl;omega
  | succ kk ih=>
   intro p acc sl A0 h hk hpp hpl hal n0 d0 q0 q4 q5 q6 M hm b K he;have fh:=M.fit;have kh:k<h.next:=Q1 kl M.next;obtain⟨c0,c1,c2,c3⟩:=b.at (E:=E);have w1:IntKind.i64.wrap ((p:Int)+1)=((p+1:Nat):Int):=wrap64 (by omega) (by omega);rw[CT] at he;have app:∀ {p':Nat} {h1:H} (c:UInt8),Mod (fun j=>j=k) g h1->Mod (fun j=>j=k) h h1->h1.blk r=some (.map (Jy 16) 16)->Src k bs p' 0 items h1->∃ h2 sl' q,AH tab 44 1 [(0,.int .u8 (c.toNat:Nat))] h1=some (.slice (some (own h1.next)) 1 1,h2)/\Ab tab E 44 44 sl (.slice (some (own h1.next)) 1 1) h2=some (sl',q)/\Mod (fun j=>j=k) g q/\q.blk r=some (.map (Jy 16) 16)/\Src k bs p' 0 items q/\Bol 5 g.next q.next q sl' (acc++[c]):=by
    intro p' h1 c M1 m1 hm1 b1;have hbs:=Vz ((c.toNat:Nat):Int) (h:=h1);obtain⟨h2,t2,hh2,hby⟩:=Hq (E:=E) M1.fit c.toNat c.toNat_lt;rw[hh2] at hbs;have hcc:UInt8.ofNat c.toNat=c:=by simp
    rw[hcc] at hby
    have K1:=(K.mod m1 (fun j B hj hB=>by
     subst hj;rw[show h.blk j=_ from b] at hB;cases hB;rfl)).mod (t2.mod (M:=fun _=>False)) (fun _ _ h=>h.elim)
    obtain⟨sl',q,happ,K2,AP⟩:=H7 (D:=tab) (E:=E) (t:=44) (t2:=44) (by_:=1) t2.fit (Y0 M1.next t2.next) (Y0 m1.next t2.next) K1 qty31 Rl rfl (Sj _ _ _) hby (by
     unfold roomy;simp only[K0,Z0,W1];omega)
    refine⟨h2,sl',q,hbs,happ,AP.mod f (C0 _) (M1.ahd t2),AP.fa (t2.grows _ _ hm1) rfl,AP.fa (t2.grows _ _ b1) rfl,K2⟩
   apply Wc.loop;simp only[Ya,loopOf,firstLoop,Option.getD,Tryz.f106]
   repeat' (first|(with_reducible apply Wc.seq)|refine Wc.block ?_)
   by_cases h1:p=bs.length
   ·have e1:decide ((p:Int)=(bs.length:Int))=true:=decide_eq_true (by omega);have hn:bs[p]? = none:=by rw[S5];omega
    rw[hn] at he;simp only[] at he;obtain⟨nf,g',ck,m,b'⟩:=Ce (E:=E) (I:=I) (fun args h=>hI _ args h (by simp)) fh.fresh (show Src k bs p 0 items (fresh h) from b) 4 p;obtain⟨m',_,_,_⟩:=Mod.back fh m;refine Wc.al 1 (by kernel_rfl) ?_
    (iterate 12 refine Uf (Z7 n0 q0 @Qx @Hx @c0 @c1 e1) ?_)
    refine FC.nil ?_;refine Vw n0 ?_;refine Wc.ao nf (by kernel_rfl) ?_
    (iterate 8 refine Ug (Z5 n0 q0 @Qx @Hx @c1) ?_)
    refine FQ.mod (h1:=g') (x:=.bool false) rfl rfl (by simp +decide only[Oy,n0,q0,Qx,Hx,ck]) ?_
    (iterate 2 refine Ug (Z2 n0 q0) ?_)
    refine FQ.nil ⟨?_,?_⟩
    ·exact Ah [8] 11 rfl rfl (by kernel_rfl)
    refine Wc.ret ?_;exact⟨by simp +decide only[Gs,n0],by simp +decide only[Gs,d0],M.trans m',.inr ⟨rfl,by simp +decide only[Gs,n0],by simp +decide only[Gs,n0],p,4,he,b'.back⟩⟩
   have hlt:p<bs.length:=by omega
   have e1:decide ((p:Int)=(bs.length:Int))=false:=decide_eq_false (by omega);obtain⟨c,hc⟩:∃ c,bs[p]? = some c:=⟨bs[p],Q0 hlt⟩;have hc8:c.toNat<256:=c.toNat_lt;have ix:=Vu hc;rw[hc] at he;simp only[] at he;obtain⟨s1,b1⟩:=b.pos (p+1);have m1:=(Mod.refl (M:=fun j=>j=k) fh).aa (B:=.cells [.string ⟨⟨bs⟩⟩,.int .i64 (p+1:Nat),.int .i64 0,.int .i64 (items:Nat)] 116 none) rfl rfl kh;have hm1:=m1.blk _ _ hrk hm;generalize h.aa k (.cells [.string ⟨⟨bs⟩⟩,.int .i64 (p+1:Nat),.int .i64 0,.int .i64 (items:Nat)] 116 none)=h1 at s1 b1 m1 hm1;have M1:=M.trans m1;refine Wc.al 1 (by kernel_rfl) ?_
   (iterate 12 refine Uf (Z7 n0 q0 @Qx @Hx @c0 @c1 e1) ?_)
   refine FC.nil ?_;refine Vw n0 ?_;refine Wc.al 1 (by kernel_rfl) ?_
   (iterate 12 refine Uf (Z7 n0 q0 @Qx @Hx @c0 @c1 @ix) ?_)
   refine FC.nil ?_;refine Wc.forget (fun A=>A.n=126/\A.defers=[]/\A.get 0=.pointer (some (own k))/\A.get 4=.int .i64 (pos-1:Nat)/\A.get 5=.map (some r)/\A.get 6=sl/\A.get 7=.int .u8 (c.toNat:Nat)) (by and_intros<;>simp +decide only[Gs,n0,d0,q0,q4,q5,q6]<;>rfl) ?_;rintro A0 ⟨n0,d0,q0,q4,q5,q6,q7⟩;by_cases h2:c=34
   ·rw[if_pos h2] at he;have e2:decide ((c.toNat:Int)=34)=true:=by rw[h2];decide
    refine Vw (Z9 n0 q0 q7 e2 @Qx @Hx @c1 @w1 @s1) ?_
    exact⟨by simp +decide only[Gs,n0],by simp +decide only[Gs,d0],M1,.inl ⟨rfl,acc,p+1,sl,he,by omega,by simp +decide only[Gs,n0,q0],by simp +decide only[Gs,n0,q4],by simp +decide only[Gs,n0,q6],(K.mod m1 (fun j B hj hB=>by
     subst hj;rw[show h.blk j=_ from b] at hB;cases hB;rfl)).up m1.next,b1⟩⟩
   rw[if_neg h2] at he
   have e2:decide ((c.toNat:Int)=34)=false:=decide_eq_false (fun h=>h2 (UInt8.toNat_inj.1 (by
    show c.toNat=34
    omega)))
   by_cases h3:c=92
   ·rw[if_pos h3] at he;have e3:decide ((c.toNat:Int)=92)=true:=by rw[h3];decide
    obtain⟨nh,_,g3,ch,u,x,rfl,m3,hq⟩:=Tt (E:=E) (I:=I) (fun f args h hf=>hI f args h (by rcases hf with h|h<;>simp[h])) kp M1.fit b1 hm1 (by omega) (by omega) hl;have M3:=M1.trans m3;cases hh:Em bs (p+1) with
    | bad p2 e4=>
     rw[hh] at hq he;obtain⟨rfl,rfl,b3⟩:=hq;refine Vn nh (Z12 n0 q0 q5 q7 e2 e3 @Qx @Hx @c1 @w1 @s1 @ch) ?_;exact⟨by simp +decide only[Gs,n0],by simp +decide only[Gs,d0],M3,.inr ⟨rfl,by simp +decide only[Gs,n0],by simp +decide only[Gs,n0],p2,e4,he,b3⟩⟩
    | ok y p2 it2=>
     rw[hh] at hq he;obtain⟨rfl,rfl,b3⟩:=hq;simp only[] at he;obtain⟨rfl,hp2⟩:=Kc hh;obtain⟨h4,sl',q,ab,ap,M5,hm5,b5,K5⟩:=app y M3 (m1.trans m3) (m3.blk _ _ hrk hm1) b3;refine Vn nh (Z15 n0 q0 q5 q6 q7 e2 e3 @Qx @Hx @c1 @w1 @s1 @ch @ab @ap) ?_;refine ih (p+1+2) (acc++[y]) sl' _ q (by omega) (by omega) hp2 (by rw[D0,W1];omega) ?_ ?_ ?_ ?_ ?_ ?_ M5 hm5 b5 K5 he
     ·simp +decide only[Gs,n0]
     ·simp +decide only[Gs,d0]
     ·simp +decide only[Gs,n0,q0]
     ·simp +decide only[Gs,n0,q4]
     ·simp +decide only[Gs,n0,q5]
     ·simp +decide only[Gs,n0]
   rw[if_neg h3] at he
   have e3:decide ((c.toNat:Int)=92)=false:=decide_eq_false (fun h=>h3 (UInt8.toNat_inj.1 (by
    show c.toNat=92
    omega)))
   have k101:=Al (D:=tab) (E:=E) (kp.k101 c h);cases hpl:DX c with
   | false=>
    rw[hpl] at k101 he;rw[if_neg (by simp)] at he;obtain⟨nf,g',ck,m,b'⟩:=Ce (E:=E) (I:=I) (fun args h=>hI _ args h (by simp)) fh.fresh (show Src k bs p 0 items (fresh h) from b) 4 p;obtain⟨m',_,_,_⟩:=Mod.back fh m;refine Vw (Z6 n0 q0 q7 e2 e3 @k101) ?_;refine Wc.ao nf (by kernel_rfl) ?_
    (iterate 8 refine Ug (Z5 n0 q0 @Qx @Hx @c1) ?_)
    refine FQ.mod (h1:=g') (x:=.bool false) rfl rfl (by simp +decide only[Oy,n0,q0,Qx,Hx,ck]) ?_
    (iterate 2 refine Ug (Z2 n0 q0) ?_)
    refine FQ.nil ⟨?_,?_⟩
    ·exact Ah [8] 11 rfl rfl (by kernel_rfl)
    refine Wc.ret ?_;exact⟨by simp +decide only[Gs,n0],by simp +decide only[Gs,d0],M.trans m',.inr ⟨rfl,by simp +decide only[Gs,n0],by simp +decide only[Gs,n0],p,4,he,b'.back⟩⟩
   | true=>
    rw[hpl] at k101 he;rw[if_pos rfl] at he;obtain⟨h4,sl',q,ab,ap,M5,hm5,b5,K5⟩:=app c M1 m1 hm1 b1;refine Vw (Z14 n0 q0 q6 q7 e2 e3 @k101 @Qx @Hx @c1 @w1 @s1 @ab @ap) ?_;refine ih (p+1) (acc++[c]) sl' _ q (by omega) (by omega) (by omega) (by rw[D0,W1];omega) ?_ ?_ ?_ ?_ ?_ ?_ M5 hm5 b5 K5 he
    ·simp +decide only[Gs,n0]
    ·simp +decide only[Gs,d0]
    ·simp +decide only[Gs,n0,q0]
    ·simp +decide only[Gs,n0,q4]
    ·simp +decide only[Gs,n0,q5]
    ·simp +decide only[Gs,n0]
 apply Wk (hI _ _ _ (.inl rfl)) AEN rfl;intro A0 n0 d0 hA0;change A0.n=126 at n0;have q0:A0.get 0=.pointer (some (own k)):=hA0 0 _ rfl;clear hA0;refine Vo 1 n0 ?_;refine Wc.scope ?_;refine Vo 1 (Z6 n0 q0 @Qx @Hx @c1 @wp) ?_;refine Vo nv (Z2 n0 @cv) ?_;refine Vo 1 n0 ?_;refine Wc.forget (fun A=>A.n=126/\A.defers=[]/\A.get 0=.pointer (some (own k))/\A.get 4=.int .i64 (pos-1:Nat)/\A.get 5=.map (some r)/\A.get 6=.slice none 0 0) (by and_intros<;>simp +decide only[Gs,n0,d0,n0,q0]<;>rfl) ?_;rintro A0 ⟨n0,d0,q0,q4,q5,q6⟩
 repeat' (with_reducible apply Wc.seq)
 refine Wc.label ?_;show Wc _ _ _ _ _ _ _ _
 repeat' (with_reducible apply Wc.seq)
 refine Wc.block ?_;refine (key (bs.length+1-pos) pos [] (.slice none 0 0) A0 g1 (C0 _) (C0 _) hp (by simp) n0 d0 q0 q4 q5 q6 TV.mod hb (b.mod (TV.mod (M:=fun _=>False)) (fun h=>h)) (Bol.nil _ _ _) rfl).mono ?_;have he:Fu bs pos items=match CT bs (bs.length+1-pos) pos [] with
   | .bad p e=>.bad p e
   | .ok acc p _=>if acc=[] then .bad (pos-1) 4 else if 4096<acc.length then .bad (pos-1) 11 else .ok ⟨⟨acc⟩⟩ p items:=rfl
 clear n0 d0 q0 q4 q5 q6;rintro ex A0 h' ⟨n0,d0,M,⟨rfl,l,p,sl,hq,hll,q0,q4,q6,K,b'⟩|⟨rfl,q2,q3,p,e,hq,b'⟩⟩;rotate_left
 ·rw[hq] at he;refine CL (v:=.string ⟨⟨[]⟩⟩) (x:=.bool false) (.inr rfl) d0 rfl q2 q3 ⟨_,_,rfl,M,?_⟩;rw[he];exact⟨rfl,rfl,b'⟩
 rw[hq] at he;simp only[] at he;obtain⟨b0,rfl⟩:=K.slice;have ln:∀ h,Cp tab 44 (.slice b0 l.length l.length) h=some (.int .i64 (l.length:Nat)):=fun h=>Fq _ _ _;simp only[if_true];by_cases h1:l=[]
 ·rw[if_pos h1] at he;have e1:decide ((l.length:Int)=0)=true:=by rw[h1];rfl
  obtain⟨nf,g',ck,M',b2⟩:=fl 4 (pos-1) M b';refine Vn nf (Z9 n0 q0 q4 q6 @Qx @Hx @ln e1 @ck) ?_;refine CL (v:=.string ⟨⟨[]⟩⟩) (x:=.bool false) (.inr rfl) (S0 d0) rfl (S0 n0) (S0 n0) ⟨_,_,rfl,M',?_⟩;rw[he];exact⟨rfl,rfl,b2⟩
 rw[if_neg h1] at he;have hl0:0<l.length:=V6.2 h1;have e1:decide ((l.length:Int)=0)=false:=decide_eq_false (by omega);by_cases h2:4096<l.length
 ·rw[if_pos h2] at he;have e2:decide ((l.length:Int)>4096)=true:=decide_eq_true (by omega);obtain⟨nf,g',ck,M',b2⟩:=fl 11 (pos-1) M b';refine Vn nf (Z10 n0 q0 q4 q6 @Qx @Hx @ln e1 e2 @ck) ?_;refine CL (v:=.string ⟨⟨[]⟩⟩) (x:=.bool false) (.inr rfl) (S0 d0) rfl (S0 n0) (S0 n0) ⟨_,_,rfl,M',?_⟩;rw[he];exact⟨rfl,rfl,b2⟩
 rw[if_neg h2] at he;have e2:decide ((l.length:Int)>4096)=false:=decide_eq_false (by omega);have cv:=Ki (K.byt (E:=E));refine Vw (Z10 n0 q0 q4 q6 @Qx @Hx @ln e1 e2 @cv) ?_;refine CL (v:=.string ⟨⟨l⟩⟩) (x:=.bool true) (.inr rfl) (S0 d0) rfl (S0 n0) (S0 n0) ⟨_,_,rfl,M,?_⟩;rw[he];exact⟨rfl,rfl,b'⟩
theorem AFE:tab.fn.get 72=some Tryz.f72:=by kernel_rfl
noncomputable def Yb:Code:=loopOf Tryz.f72
def ACY (E:Env) (k:Nat) (bs:List UInt8) (r:Rd Hs.Item) (lo:Nat) (l:List Value) (z:Value) (g:H):Prop:=(l.length=4/\l.all isOne=true)/\match r with
 | .ok t p it=>z=.bool true/\Src k bs p 0 it g/\rep E (only (fun r=>Nat.ble lo r) g) t (.agg ⟨l⟩)
 | .bad p e=>z=.bool false/\∃ it,Src k bs p e it g
def Yr (E:Env) (I:Aa) (k:Nat) (bs:List UInt8) (f:Nat):Prop:=∀ (g:H) (pos items:Nat),Fit g->Src k bs pos 0 items g->pos<=bs.length->items<=5000->
 ∃ n v g',(ev tab E I n).call 72 [.pointer (some (own k)),.int .i64 (251-f:Nat)] g=some (v,g')/\(∃ l z,v=.tuple #[.agg ⟨l⟩,z]/\Mod (fun j=>j=k) g g'/\ACY E k bs (rdPI bs f pos items) g.next l z g')
theorem Vk {h:H} {k4:Nat} {a b c d:Value} (f:Fit h) (hb:h.blk k4=some (.cells [a,b,c,d] 24 none)) (ho:[a,b,c,d].all isOne=true) :
  ∃ h',h.cells E (own k4) 4=some [a,b,c,d]/\AO tab 24 (own k4) (.agg ⟨[a,b,c,d]⟩) h=some h'/\Mod (fun j=>j=k4) h h'/\h'.blk k4=some (.cells [a,b,c,d] 24 none):=
 ⟨_,AG hb rfl ho,AU DW hb rfl rfl ho (by simp),(Mod.refl f).aa rfl rfl (f.lt hb),AD rfl⟩
theorem ABv (hI:∀ f args h,(f=72\/f=105\/f=101)->I f args h=none) {k k4:Nat} {bs:List UInt8} {fu:Nat} (hfu:fu<250) (hl:bs.length<=1000000) (R:Yr E I k bs fu) {a0 a1 a2:Value} (ha:[a0,a1,a2].all isOne=true) {g:H} (f:Fit g) (kl:k<g.next) (hk4:g.next<=k4) :
  ∀ (kk p it:Nat) (acc:List Hs.Item) (sl:Value) (A0:Ac) (h:H),bs.length+1-p<=kk->p<=bs.length->it<=5000->acc.length<=it->A0.n=82->A0.defers=[]->A0.get 0=.pointer (some (own k))->A0.get 1=.int .i64 (250-fu:Nat)->A0.get 4=.pointer (some (own k4))->
   Mod (fun j=>j=k\/g.next<=j) g h->h.blk k4=some (.cells [a0,a1,a2,sl] 24 none)->Src k bs p 0 it h->Kol E 24 g.next h.next h sl acc->
   Wc tab E I ⟨72,none⟩ (.loop Yb) A0 h (fun ex A' h'=>ex=.ret/\A'.n=82/\A'.defers=[]/\A'.get 4=.pointer (some (own k4))/\Mod (fun j=>j=k\/g.next<=j) g h'/\∃ sl',isOne sl'=true/\h'.blk k4=some (.cells [a0,a1,a2,sl'] 24 none)/\match Rk bs (rdPI bs fu) kk acc p it with
    | .ok ks p it=>A'.get 5=.bool true/\Src k bs p 0 it h'/\Kol E 24 g.next h'.next h' sl' ks/\ks.length<=5000
    | .bad p e=>A'.get 5=.bool false/\∃ it,Src k bs p e it h'):=by
 intro kk;induction kk with
 | zero=>intro p it acc sl A0 h hk hpl;omega
 | succ kk ih=>
  intro p it acc sl A0 h hk hpl hit hacc n0 d0 q0 q1 q4 M b4 b K;have fh:=M.fit;have hk4k:k4≠k:=by omega
  obtain⟨nf,v,h2,ck,l,z,rfl,m2,⟨hl4,ho⟩,hq⟩:=R h p it fh b hpl hit;have hgood:=IX (bs:=bs) fu p it hpl hit;have w1:IntKind.i64.wrap (((250-fu:Nat):Int)+1)=((251-fu:Nat):Int):=by rw[wrap64 (by omega) (by omega)];omega
  obtain⟨l0,l1,l2,l3,rfl⟩:=Tz hl4;generalize hh3:h2.new (.cells (Value.agg #[.int .i64 0,.int .i64 0,.string ⟨#[]⟩,.slice none 0 0]).cells.toList 24 none)=h3;have t3:Ahd h2 h3:=by rw[<- hh3];exact Ahd.aj m2.fit rfl
  have b6:h3.blk h2.next=some (.cells zeroL 24 none):=by rw[<- hh3];exact AA rfl
  have s6:AO tab 24 (own h2.next) (.agg ⟨[l0,l1,l2,l3]⟩) h3=some (h3.aa h2.next (.cells [l0,l1,l2,l3] 24 none)):=AU DW b6 rfl rfl ho (by simp);have t4:=t3.aa (k:=h2.next) (B:=.cells [l0,l1,l2,l3] 24 none) rfl (C0 _) (t3.fit.lt b6) m2.fit;have b6:=AD (h:=h3) (k:=h2.next) (B:=.cells [l0,l1,l2,l3] 24 none) rfl;generalize h3.aa h2.next (.cells [l0,l1,l2,l3] 24 none)=h4 at s6 t4 b6;have M2:Mod (fun j=>j=k\/g.next<=j) g h2:=M.trans (m2.sub fun j hj=>.inl hj);have M4:=M2.ahd t4;have b44:=t4.grows _ _ (m2.blk _ _ hk4k b4);obtain⟨sb,hsl⟩:=K.slice;have ho4:[a0,a1,a2,sl].all isOne=true:=by
   rw[hsl];simp only[V3,List.all_nil,Bool.and_true,K0] at ha ⊢;exact⟨ha.1,ha.2.1,ha.2.2,rfl⟩
  have lk6:h4.cells E (own h2.next) 4=some [l0,l1,l2,l3]:=AG b6 rfl ho
  have K2:=K.mod fh m2 (fun j B hj hB=>by
   subst hj;rw[show h.blk j=_ from b] at hB;cases hB;rfl)
  rw[Rk];apply Wc.loop;simp only[Yb,loopOf,firstLoop,Option.getD,Tryz.f72];generalize hri:rdPI bs fu p it=ri at hq hgood;cases ri with
  | bad p' e=>
   obtain⟨rfl,it',b'⟩:=hq;have b'4:=b'.mod (t4.mod (M:=fun _=>False)) (fun h=>h);obtain⟨h5,ld,st,m5,b45⟩:=Vk (E:=E) t4.fit b44 ho4
   repeat' (first|(with_reducible apply Wc.seq)|refine Wc.block ?_)
   refine Vn nf (Z13 n0 q0 q1 q4 @w1 @ck @Cc @hh3 @s6 @Qx @Hx @ld @st) ?_;exact⟨rfl,by simp +decide only[Gs,n0],by simp +decide only[Gs,d0],by simp +decide only[Gs,n0,q4],M4.trans (m5.sub fun j hj=>.inr (by omega)),sl,by rw[hsl];rfl,b45,by simp +decide only[Gs,n0],it',b'4.mod m5 (by omega)⟩
  | ok t p' it'=>
   obtain⟨rfl,b',hrt⟩:=hq;obtain⟨o1,o2,o3,o4,o5,o6⟩:=hgood;have:=HK t;have b'4:=b'.mod (t4.mod (M:=fun _=>False)) (fun h=>h);have K4:=K2.mod m2.fit (t4.mod (M:=fun _=>False)) (fun _ _ h=>h.elim);have R4:=AJ (GV (q:=fun r=>Nat.ble h.next r) m2.fit t4 (fun _ h=>h)) hrt;have c3:h4.cell E (aadd (own k4) 3)=some sl:=AS (i:=3) b44 rfl (by rw[hsl];rfl);have hbs:=ABg (a:=l0) (b:=l1) (c:=l2) (d:=l3) ho (h:=h4);have t5:Ahd h4 (h4.new (.cells [l0,l1,l2,l3] 24 none)):=Ahd.aj t4.fit rfl;have b5x:(h4.new (.cells [l0,l1,l2,l3] 24 none)).blk h4.next=some (.cells [l0,l1,l2,l3] 24 none):=AA rfl;generalize h4.new (.cells [l0,l1,l2,l3] 24 none)=h5 at hbs t5 b5x;have K5:=K4.mod t4.fit (t5.mod (M:=fun _=>False)) (fun _ _ h=>h.elim);have R5:=AJ (GV (q:=fun r=>Nat.ble h.next r) t4.fit t5 (fun _ h=>h)) R4;have hn5:g.next<=h5.next:=Y0 M4.next t5.next
   obtain⟨sl',q,happ,K6,AP,hqn⟩:=WV (D:=tab) (E:=E) (t:=22) (t2:=22) (by_:=56) (kx:=h4.next) (c:=1) (lo:=h.next) t5.fit hn5 K5 (C0 _) M.next Kf Cc rfl (ABI _ _ _) R5 (AG b5x rfl ho) ho (by
    unfold roomy;simp only[K0,Z0];omega)
   have M6:=AP.mod f (C0 _) (M4.ahd t5);have b46:=AP.keep (t5.grows _ _ b44);have b66:Src k bs p' 0 it' q:=AP.keep (t5.grows _ _ b'4);obtain⟨sb',hsl'⟩:=K6.slice;have ho6:[a0,a1,a2,sl'].all isOne=true:=by
    rw[hsl'];simp only[V3,List.all_nil,Bool.and_true,K0] at ha ⊢;exact⟨ha.1,ha.2.1,ha.2.2,rfl⟩
   have s7:AO tab 22 (aadd (own k4) 3) sl' q=some (q.aa k4 (.cells [a0,a1,a2,sl'] 24 none)):=Aj (g:=q) Kf rfl b46 (by rw[hsl'];rfl) (by rw[hsl'];rfl) (by simp) rfl;have m7:=(Mod.refl (M:=fun j=>j=k4) AP.fit).aa (B:=.cells [a0,a1,a2,sl'] 24 none) rfl rfl (AP.fit.lt b46);have b47:=AD (h:=q) (k:=k4) (B:=.cells [a0,a1,a2,sl'] 24 none) rfl
   have K7:=K6.mod AP.fit m7 (fun j B hj hB=>by
    subst hj;rw[b46] at hB;cases hB;rfl)
   have hqn7:(q.aa k4 (.cells [a0,a1,a2,sl'] 24 none)).next=q.next:=Bx _ _ _;generalize q.aa k4 (.cells [a0,a1,a2,sl'] 24 none)=h7 at s7 m7 b47 K7 hqn7;have M7:=M6.trans (m7.sub (N:=fun j=>j=k\/g.next<=j) fun j hj=>.inr (by omega));have b77:=b66.mod m7 (by omega);have K7:Kol E 24 g.next h7.next h7 sl' (acc++[t]):=K7.up (by omega)
   repeat' (first|(with_reducible apply Wc.seq)|refine Wc.block ?_)
   refine Vn nf (Z16 n0 q0 q1 q4 @w1 @ck @Cc @hh3 @s6 @Qx @Hx @c3 @lk6 @hbs @happ @s7) ?_;refine Wc.forget (fun A=>A.n=82/\A.defers=[]/\A.get 0=.pointer (some (own k))/\A.get 1=.int .i64 (250-fu:Nat)/\A.get 4=.pointer (some (own k4))) (by and_intros<;>simp +decide only[Gs,n0,d0,q0,q1,q4]<;>rfl) ?_;rintro A0 ⟨n0,d0,q0,q1,q4⟩;obtain⟨n8,v8,h8,c8,m8,h8c⟩:=MR (E:=E) (I:=I) (fun args h=>hI _ args h (by simp)) M7.fit b77 o2 hl 41;have c8:(ev tab E I n8).call 105 [.pointer (some (own k)),.int .u8 41] h7=some (v8,h8):=c8;have M8:Mod (fun j=>j=k\/g.next<=j) g h8:=M7.trans (m8.sub fun j hj=>.inl hj);have b48:=m8.blk _ _ hk4k b47
   have K8:Kol E 24 g.next h8.next h8 sl' (acc++[t]):=(K7.mod M7.fit m8 (fun j B hj hB=>by
    subst hj;rw[show h7.blk j=_ from b77] at hB;cases hB;rfl)).up m8.next
   have hlen:(acc++[t]).length<=it':=by rw[D0,W1];omega
   simp only[];rcases h8c with⟨hc8,rfl,b88⟩|⟨hc8,rfl,b88⟩
   ·rw[if_pos hc8];obtain⟨h9,ld,st,m9,b49⟩:=Vk (E:=E) m8.fit b48 ho6;refine Vn n8 (Z3 n0 q0 @c8) ?_;refine Vw (Z6 n0 q4 @Qx @Hx @ld @st) ?_
    exact⟨rfl,by simp +decide only[Gs,n0],by simp +decide only[Gs,d0],by simp +decide only[Gs,n0,q4],M8.trans (m9.sub fun j hj=>.inr (by omega)),sl',by rw[hsl'];rfl,b49,by simp +decide only[Gs,n0],b88.mod m9 (by omega),(K8.mod m8.fit m9 (fun j B hj hB=>by
     subst hj;rw[b48] at hB;cases hB;rfl)).up m9.next,by omega⟩
   rw[if_neg hc8];obtain⟨n9,v9,h9,c9,m9,h9c⟩:=MR (E:=E) (I:=I) (fun args h=>hI _ args h (by simp)) M8.fit b88 o2 hl 32;have c9:(ev tab E I n9).call 105 [.pointer (some (own k)),.int .u8 32] h8=some (v9,h9):=c9;have M9:Mod (fun j=>j=k\/g.next<=j) g h9:=M8.trans (m9.sub fun j hj=>.inl hj);have b49:=m9.blk _ _ hk4k b48
   have K9:Kol E 24 g.next h9.next h9 sl' (acc++[t]):=(K8.mod M8.fit m9 (fun j B hj hB=>by
    subst hj;rw[show h8.blk j=_ from b88] at hB;cases hB;rfl)).up m9.next
   rcases h9c with⟨hc9,rfl,b99⟩|⟨hc9,rfl,b99⟩
   ·rw[if_pos hc9];have hlt:=(O0.1 hc9).1;refine Vn n8 (Z3 n0 q0 @c8) ?_;refine Vn n9 (Z3 n0 q0 @c9) ?_;refine ih (p'+1) it' (acc++[t]) sl' _ h9 (by omega) (by omega) o6 hlen ?_ ?_ ?_ ?_ ?_ M9 b49 b99 K9
    ·simp +decide only[Gs,n0]
    ·simp +decide only[Gs,d0]
    ·simp +decide only[Gs,n0,q0]
    ·simp +decide only[Gs,n0,q1]
    ·simp +decide only[Gs,n0,q4]
   ·rw[if_neg hc9];obtain⟨c0,c1,_,_⟩:=b99.at (E:=E);obtain⟨nx,gx,cx,mx,bx⟩:=Ce (E:=E) (I:=I) (fun args h=>hI _ args h (by simp)) M9.fit.fresh (show Src k bs p' 0 it' (fresh h9) from b99) 4 p';obtain⟨m',_,_,_⟩:=Mod.back M9.fit mx;have bx:=bx.back (h:=h9);have b4x:=m'.blk _ _ hk4k b49;generalize hhx:back h9 gx=hx at m' bx b4x;obtain⟨hy,ld,st,my,b4y⟩:=Vk (E:=E) m'.fit b4x ho6;have ld9:h9.cells E (own k4) 4=some [a0,a1,a2,sl']:=AG b49 rfl ho6;have st:AO tab 24 (own k4) (.agg ⟨[a0,a1,a2,sl']⟩) (fresh hx)=some ((fresh hx).aa k4 (.cells [a0,a1,a2,sl'] 24 none)):=AU (g:=fresh hx) DW b4x rfl rfl ho6 (by simp);have my:=(Mod.refl (M:=fun j=>j=k4) m'.fit).aa (B:=.cells [a0,a1,a2,sl'] 24 none) rfl rfl (m'.fit.lt b4x);refine Vn n8 (Z3 n0 q0 @c8) ?_;refine Vn n9 (Z3 n0 q0 @c9) ?_;refine Wc.forget (fun A=>A.n=82/\A.defers=[]/\A.get 0=.pointer (some (own k))/\A.get 4=.pointer (some (own k4))) (by and_intros<;>simp +decide only[Gs,n0,d0,q0,q1,q4]<;>rfl) ?_;rintro A0 ⟨n0,d0,q0,q4⟩
    repeat' (with_reducible apply Wc.seq)
    refine Wc.ao nx (by kernel_rfl) ?_
    (iterate 9 refine Ug (Z7 n0 q0 q4 @Qx @Hx @c1 @ld9) ?_)
    refine FQ.mod (h1:=gx) (x:=.bool false) rfl rfl (by simp +decide only[Oy,n0,q0,Qx,Hx,cx]) ?_;rw[hhx];refine FQ.aa (k:=k4) rfl rfl (m'.fit.lt b4x) (by simp +decide only[Oy,n0,q4,st];with_reducible rfl) ?_
    (iterate 1 refine Ug (Z2 n0 q0) ?_)
    refine FQ.nil ⟨?_,?_⟩
    ·refine Az [9,10] 12 [(0,9)] rfl rfl (by kernel_rfl) (fun _ _ _ _ hU e1 e2 => ?_);simp only[O1,Prod.mk.injEq,C1,or_false] at hU;obtain⟨rfl,rfl⟩:=hU;cases e1;cases e2
     exact AK (l:=[k4]) rfl (by simp +decide only[Oy,reads,pureOp,atV,n0,q4,aadd,own]) (fun j hj=>by
      have hj:j∈gx.log:=hj;rcases mx.log j hj with h|⟨h,_⟩
      ·cases h
      ·subst h;simp only[H1]
       omega) rfl (fun j _=>P1 _ _)
    refine Wc.ret ?_;exact⟨rfl,by simp +decide only[Gs,n0],by simp +decide only[Gs,d0],by simp +decide only[Gs,n0,q4],(M9.trans (m'.sub fun j hj=>.inl hj)).trans (my.sub fun j hj=>.inr (by omega)),sl',by rw[hsl'];rfl,AD rfl,by simp +decide only[Gs,n0],it',bx.mod my (by omega)⟩
def ADd (bs:List UInt8) (f:Nat) (k m:Nat) (tx:ByteArray) (p it:Nat):Rd Hs.Item:=
 if bs[p]? = some 40 then match Rk bs (rdPI bs f) (bs.length+1) [] (p+1) it with
  | .bad p e=>.bad p e
  | .ok ks p it=>.ok (.mk (k:Nat) (m:Nat) tx ks) p it
 else .ok (.mk (k:Nat) (m:Nat) tx []) p it
def ADe (bs:List UInt8) (f:Nat) (k m:Nat) (p it:Nat):Rd Hs.Item:=
 match (if bs[p]? = some 34 then Fu bs (p+1) it else .ok ⟨⟨[]⟩⟩ p it) with
 | .bad p e=>.bad p e
 | .ok tx p it=>ADd bs f k m tx p it
def AE1 (bs:List UInt8) (f:Nat) (k:Nat) (p it:Nat):Rd Hs.Item:=
 match (if bs[p]? = some 58 then Dz bs 1099511627776 4 (p+1) it else .ok 0 p it) with
 | .bad p e=>.bad p e
 | .ok m p it=>ADe bs f k m p it
theorem Sc (bs:List UInt8) (f pos items:Nat):rdPI bs (f+1) pos items=if 5000<=items then .bad pos 2 else match Dz bs 63 3 pos (items+1) with
  | .bad p e=>.bad p e
  | .ok k p it=>AE1 bs f k p it:=by
 rw[rdPI];rfl
def AEm (E:Env) (k:Nat) (bs:List UInt8) (r:Rd Hs.Item) (lo:Nat) (l:List Value) (z:Value) (g:H):Prop:=match r with
 | .ok t p it=>z=.bool true/\Src k bs p 0 it g/\rep E (only (fun r=>Nat.ble lo r) g) t (.agg ⟨l⟩)
 | .bad p e=>z=.bool false/\∃ it,Src k bs p e it g
theorem ABy (hI:∀ f args h,(f=72\/f=106\/f=105\/f=104\/f=102\/f=101\/f=129\/f=130)->I f args h=none) (kp:Kq I) {k:Nat} {bs:List UInt8} (hl:bs.length<=1000000):∀ fu,fu<=250->Yr E I k bs fu:=by
 intro fu;have hI81:∀ args h,I 101 args h=none:=fun args h=>hI _ args h (by simp);have hI82:∀ f args h,(f=102\/f=101)->I f args h=none:=fun f args h hf=>hI f args h (by rcases hf with h|h<;>simp[h]);have hI83:∀ f args h,(f=104\/f=101)->I f args h=none:=fun f args h hf=>hI f args h (by rcases hf with h|h<;>simp[h]);have hI84:∀ args h,I 105 args h=none:=fun args h=>hI _ args h (by simp);have hI85:∀ f args h,(f=106\/f=129\/f=130\/f=101)->I f args h=none:=fun f args h hf=>hI f args h (by rcases hf with h|h|h|h<;>simp[h]);have hI50:∀ f args h,(f=72\/f=105\/f=101)->I f args h=none:=fun f args h hf=>hI f args h (by rcases hf with h|h|h<;>simp[h]);induction fu with
 | zero=>
  intro _ g pos items f b hp hi;show ∃ n v g',(ev tab E I n).call 72 [.pointer (some (own k)),.int .i64 (251:Nat)] g=some (v,g')/\_;apply Wk (hI _ _ _ (.inl rfl)) AFE rfl;intro A0 n0 d0 hA0;change A0.n=82 at n0;have q0:A0.get 0=.pointer (some (own k)):=hA0 0 _ rfl;have q1:A0.get 1=.int .i64 (251:Nat):=hA0 1 _ rfl;clear hA0;generalize hh1:g.new (.cells (Value.agg #[.int .i64 0,.int .i64 0,.string ⟨#[]⟩,.slice none 0 0]).cells.toList 24 none)=h1;have t1:Ahd g h1:=by rw[<- hh1];exact Ahd.aj f rfl
  have b4:h1.blk g.next=some (.cells zeroL 24 none):=by rw[<- hh1];exact AA rfl
  have kl:k<g.next:=f.lt b;have b1:=b.mod (t1.mod (M:=fun _=>False)) (fun h=>h);obtain⟨nb,vb,h2,cb,mb,hb⟩:=H8 (E:=E) (I:=I) hI82 t1.fit b1 hi 251;have b42:=mb.blk _ _ (by omega) b4;obtain⟨h3,ld,st,m3,b43⟩:=Vk (E:=E) mb.fit b42 rfl;rcases hb with⟨_,rfl,bb⟩|⟨hb,_⟩|⟨hb,_⟩
  ·refine Vn nb (Z10 n0 q0 q1 @Cc @hh1 @Qx @Hx @cb @ld @st) ?_;refine⟨.inr rfl,h3,.tuple #[.agg ⟨zeroL⟩,.bool false],by simp +decide only[Gs,d0];rfl,?_,zeroL,.bool false,rfl,(t1.mod.trans ((mb.sub fun j hj=>.inl hj).trans (m3.sub (N:=fun j=>j=k\/g.next<=j) fun j hj=>.inr (by omega)))).low f (fun _ h=>h),⟨rfl,rfl⟩,?_⟩
   ·have g4:∀ A:Ac,A.get 4=.pointer (some (own g.next))->A.get 5=.bool false->ED tab E Tryz.f72 A h3=some (.tuple #[.agg ⟨zeroL⟩,.bool false]):=by
     intro A a4 a5;have lz:h3.cells E (own g.next) 4=some zeroL:=AG b43 rfl rfl;unfold ED;rw[show Tryz.f72.results=#[.cell 4 24,.tmp 5] from rfl];simp only[Dl,ares1,a4,a5,qld25,lz]
    exact g4 _ (S0 n0) (S0 n0)
   ·rw[rdPI];exact⟨rfl,items,bb.mod m3 (by omega)⟩
  ·omega
  ·omega
 | succ fu IH=>
 intro hfu g pos items f b hp hi;have RI:=IH (by omega);rw[show 251-(fu+1)=250-fu by omega];apply Wk (hI _ _ _ (.inl rfl)) AFE rfl;intro A0 n0 d0 hA0;change A0.n=82 at n0;have q0:A0.get 0=.pointer (some (own k)):=hA0 0 _ rfl;have q1:A0.get 1=.int .i64 (250-fu:Nat):=hA0 1 _ rfl;clear hA0;generalize hh1:g.new (.cells (Value.agg #[.int .i64 0,.int .i64 0,.string ⟨#[]⟩,.slice none 0 0]).cells.toList 24 none)=h1;have t1:Ahd g h1:=by rw[<- hh1];exact Ahd.aj f rfl
 have b4:h1.blk g.next=some (.cells zeroL 24 none):=by rw[<- hh1];exact AA rfl
 have kl:k<g.next:=f.lt b;have b1:=b.mod (t1.mod (M:=fun _=>False)) (fun h=>h);have eR:=Sc bs fu pos items;generalize rdPI bs (fu+1) pos items=R at eR ⊢;have up:∀ {h h':H},Mod (fun j=>j=k) h h'->Mod (fun j=>j=k\/g.next<=j) h h':=fun m=>m.sub (fun _ h=>.inl h);have u4:∀ {h h':H},Mod (fun j=>j=g.next) h h'->Mod (fun j=>j=k\/g.next<=j) h h':=fun m=>m.sub (fun j hj=>.inr (by omega));have ne4:g.next≠k:=by omega
 have res:∀ {h:H} {l:List Value} {z:Bool} {A:Ac},l.length=4->l.all isOne=true->A.n=82->A.defers=[]->A.get 4=.pointer (some (own g.next))->A.get 5=.bool z->Mod (fun j=>j=k\/g.next<=j) g h->h.blk g.next=some (.cells l 24 none)->AEm E k bs R g.next l (.bool z) h->
   (Ex.ret=.normal\/Ex.ret=.ret)/\∃ h2 v',Ay A.defers h=some h2/\ED tab E Tryz.f72 A h2=some v'/\(∃ l z,v'=.tuple #[.agg ⟨l⟩,z]/\Mod (fun j=>j=k) g h2/\ACY E k bs R g.next l z h2):=by
  intro h l z A hl4 ho n0 d0 q4 q5 m hb hq;refine⟨.inr rfl,h,.tuple #[.agg ⟨l⟩,.bool z],by rw[d0];rfl,?_,l,.bool z,rfl,m.low f (fun _ h=>h),⟨hl4,ho⟩,hq⟩;have lz:h.cells E (own g.next) 4=some l:=AG hb hl4 ho;unfold ED;rw[show Tryz.f72.results=#[.cell 4 24,.tmp 5] from rfl];simp only[Dl,ares1,q4,q5,qld25,lz]
 obtain⟨nb,vb,h2,cb,mb,hb⟩:=H8 (E:=E) (I:=I) hI82 t1.fit b1 hi (250-fu);have b42:=mb.blk _ _ ne4 b4;have M2:Mod (fun j=>j=k\/g.next<=j) g h2:=t1.mod.trans (up mb);obtain⟨h3,ld,st,m3,b43⟩:=Vk (E:=E) mb.fit b42 rfl;rcases hb with⟨hb,_⟩|⟨_,h5,rfl,bb⟩|⟨_,h5,rfl,bb⟩
 ·omega
 ·rw[if_pos (by omega)] at eR;refine Vn nb (Z10 n0 q0 q1 @Cc @hh1 @Qx @Hx @cb @ld @st) ?_;refine res (l:=zeroL) (z:=false) rfl rfl (S0 n0) (S0 d0) (S0 n0) (S0 n0) (M2.trans (u4 m3)) b43 ?_;rw[eR];exact⟨rfl,items,bb.mod m3 (by omega)⟩
 clear ld st m3 b43;rw[if_neg (by omega)] at eR;refine Vn nb (Z8 n0 q0 q1 @Cc @hh1 @Qx @Hx @cb) ?_;refine Wc.forget (fun A=>A.n=82/\A.defers=[]/\A.get 0=.pointer (some (own k))/\A.get 1=.int .i64 (250-fu:Nat)/\A.get 4=.pointer (some (own g.next))) (by and_intros<;>simp +decide only[Gs,n0,d0,q0,q1]<;>rfl) ?_;rintro A0 ⟨n0,d0,q0,q1,q4⟩;obtain⟨n3,_,h3,c3,u3,x3,rfl,m3,hq3⟩:=Mo (E:=E) (I:=I) hI83 mb.fit bb hp hl 63 (by decide) 3;have c3:(ev tab E I n3).call 104 [.pointer (some (own k)),.int .i64 63,.int .i64 3] h2=some (.tuple #[u3,x3],h3):=c3;have b43:=m3.blk _ _ ne4 b42;have M3:=M2.trans (up m3);cases hr3:Dz bs 63 3 pos (items+1) with
 | bad p e=>
  rw[hr3] at hq3 eR;obtain⟨rfl,rfl,b3⟩:=hq3;have s0:AO tab 3 (own g.next) (.int .i64 0) h3=some (h3.aa g.next (.cells zeroL 24 none)):=Aj (o:=0) Rm rfl b43 rfl rfl (by decide) rfl;have m4:=(Mod.refl (M:=fun j=>j=g.next) m3.fit).aa (B:=.cells zeroL 24 none) rfl rfl (m3.fit.lt b43);have b44:=AD (h:=h3) (k:=g.next) (B:=.cells zeroL 24 none) rfl;generalize h3.aa g.next (.cells zeroL 24 none)=h4 at s0 m4 b44;obtain⟨h5,ld,st,m5,b45⟩:=Vk (E:=E) m4.fit b44 rfl;refine Vn n3 (Z9 n0 q0 q4 @Qx @Hx @c3 @s0 @ld @st) ?_;refine res (l:=zeroL) (z:=false) rfl rfl (S0 n0) (S0 d0) (S0 (Z2 n0 q4)) (S0 n0) ((M3.trans (u4 m4)).trans (u4 m5)) b45 ?_;rw[eR];exact⟨rfl,items+1,(b3.mod m4 (by omega)).mod m5 (by omega)⟩
 | ok kn p it=>
 rw[hr3] at hq3 eR;obtain⟨rfl,rfl,b3⟩:=hq3;obtain⟨_,hp3,_,_,hit⟩:=Hn hr3 hp;have s0:AO tab 3 (own g.next) (.int .i64 (kn:Nat)) h3=some (h3.aa g.next (.cells [.int .i64 (kn:Nat),.int .i64 0,.string ⟨#[]⟩,.slice none 0 0] 24 none)):=Aj (o:=0) Rm rfl b43 rfl rfl (by decide) rfl;have m4:=(Mod.refl (M:=fun j=>j=g.next) m3.fit).aa (B:=.cells [.int .i64 (kn:Nat),.int .i64 0,.string ⟨#[]⟩,.slice none 0 0] 24 none) rfl rfl (m3.fit.lt b43);have b44:=AD (h:=h3) (k:=g.next) (B:=.cells [.int .i64 (kn:Nat),.int .i64 0,.string ⟨#[]⟩,.slice none 0 0] 24 none) rfl;generalize h3.aa g.next (.cells [.int .i64 (kn:Nat),.int .i64 0,.string ⟨#[]⟩,.slice none 0 0] 24 none)=h4 at s0 m4 b44;have M4:=M3.trans (u4 m4);have b34:=b3.mod m4 (by omega);obtain⟨n5,v5,h5,c5,m5,h5c⟩:=MR (E:=E) (I:=I) hI84 m4.fit b34 hp3 hl 58;have c5:(ev tab E I n5).call 105 [.pointer (some (own k)),.int .u8 58] h4=some (v5,h5):=c5;have b45:=m5.blk _ _ ne4 b44;have M5:=M4.trans (up m5);refine Vn n3 (Z7 n0 q0 q4 @Qx @Hx @c3 @s0) ?_;refine Vn n5 (Z3 n0 q0 @c5) ?_;refine Wc.forget (fun A=>A.n=82/\A.defers=[]/\A.get 0=.pointer (some (own k))/\A.get 1=.int .i64 (250-fu:Nat)/\A.get 4=.pointer (some (own g.next))/\A.get 23=v5) (by and_intros<;>simp +decide only[Gs,n0,d0,q0,q1,q4]<;>rfl) ?_;rintro A0 ⟨n0,d0,q0,q1,q4,q23⟩
 repeat' (with_reducible apply Wc.seq)
 refine Wc.mono (Q:=fun ex A h=>A.n=82/\A.defers=[]/\A.get 4=.pointer (some (own g.next))/\Mod (fun j=>j=k\/g.next<=j) g h/\((ex=.normal/\A.get 0=.pointer (some (own k))/\A.get 1=.int .i64 (250-fu:Nat)/\∃ m p it,R=ADe bs fu kn m p it/\p<=bs.length/\Src k bs p 0 it h/\h.blk g.next=some (.cells [.int .i64 (kn:Nat),.int .i64 (m:Nat),.string ⟨#[]⟩,.slice none 0 0] 24 none)/\it<=5000)\/(ex=.ret/\A.get 5=.bool false/\∃ p e it l,l.length=4/\l.all isOne=true/\R=.bad p e/\Src k bs p e it h/\h.blk g.next=some (.cells l 24 none)))) ?_ ?_
 ·simp only[] at eR;unfold AE1 at eR;rcases h5c with⟨hc,rfl,b5⟩|⟨hc,rfl,b5⟩
  rotate_left
  ·rw[if_neg hc] at eR;refine Vw (Z2 n0 q23) ?_;exact⟨by simp +decide only[Gs,n0],by simp +decide only[Gs,d0],by simp +decide only[Gs,n0,q4],M5,.inl ⟨rfl,by simp +decide only[Gs,n0,q0],by simp +decide only[Gs,n0,q1],0,p,it,eR,hp3,b5,b45,by omega⟩⟩
  rw[if_pos hc] at eR;have hlt:=(O0.1 hc).1;obtain⟨n6,_,h6,c6,u6,x6,rfl,m6,hq6⟩:=Mo (E:=E) (I:=I) hI83 m5.fit b5 (by omega) hl 1099511627776 (by decide) 4;have c6:(ev tab E I n6).call 104 [.pointer (some (own k)),.int .i64 1099511627776,.int .i64 4] h5=some (.tuple #[u6,x6],h6):=c6;have b46:=m6.blk _ _ ne4 b45;have M6:=M5.trans (up m6);cases hr6:Dz bs 1099511627776 4 (p+1) it with
  | bad p' e=>
   rw[hr6] at hq6 eR;obtain⟨rfl,rfl,b6⟩:=hq6;have s0:AO tab 3 (aadd (own g.next) 1) (.int .i64 0) h6=some (h6.aa g.next (.cells [.int .i64 (kn:Nat),.int .i64 0,.string ⟨#[]⟩,.slice none 0 0] 24 none)):=Aj (o:=1) Rm rfl b46 rfl rfl (by simp) rfl;have m7:=(Mod.refl (M:=fun j=>j=g.next) m6.fit).aa (B:=.cells [.int .i64 (kn:Nat),.int .i64 0,.string ⟨#[]⟩,.slice none 0 0] 24 none) rfl rfl (m6.fit.lt b46);have b47:=AD (h:=h6) (k:=g.next) (B:=.cells [.int .i64 (kn:Nat),.int .i64 0,.string ⟨#[]⟩,.slice none 0 0] 24 none) rfl;generalize h6.aa g.next (.cells [.int .i64 (kn:Nat),.int .i64 0,.string ⟨#[]⟩,.slice none 0 0] 24 none)=h7 at s0 m7 b47;obtain⟨h8,ld,st,m8,b48⟩:=Vk (E:=E) m7.fit b47 rfl;refine Vw (Z2 n0 q23) ?_;refine Vn n6 (Z9 n0 q0 q4 @Qx @Hx @c6 @s0 @ld @st) ?_;exact⟨by simp +decide only[Gs,n0],by simp +decide only[Gs,d0],by simp +decide only[Gs,n0,q4],(M6.trans (u4 m7)).trans (u4 m8),.inr ⟨rfl,by simp +decide only[Gs,n0],p',e,it,_,rfl,rfl,eR,(b6.mod m7 (by omega)).mod m8 (by omega),b48⟩⟩
  | ok mn p' it'=>
   rw[hr6] at hq6 eR;obtain⟨rfl,rfl,b6⟩:=hq6;obtain⟨_,hp6,_,_,hit6⟩:=Hn hr6 (by omega);have s0:AO tab 3 (aadd (own g.next) 1) (.int .i64 (mn:Nat)) h6=some (h6.aa g.next (.cells [.int .i64 (kn:Nat),.int .i64 (mn:Nat),.string ⟨#[]⟩,.slice none 0 0] 24 none)):=Aj (o:=1) Rm rfl b46 rfl rfl (by simp) rfl;have m7:=(Mod.refl (M:=fun j=>j=g.next) m6.fit).aa (B:=.cells [.int .i64 (kn:Nat),.int .i64 (mn:Nat),.string ⟨#[]⟩,.slice none 0 0] 24 none) rfl rfl (m6.fit.lt b46);have b47:=AD (h:=h6) (k:=g.next) (B:=.cells [.int .i64 (kn:Nat),.int .i64 (mn:Nat),.string ⟨#[]⟩,.slice none 0 0] 24 none) rfl;generalize h6.aa g.next (.cells [.int .i64 (kn:Nat),.int .i64 (mn:Nat),.string ⟨#[]⟩,.slice none 0 0] 24 none)=h7 at s0 m7 b47;refine Vw (Z2 n0 q23) ?_;refine Vn n6 (Z7 n0 q0 q4 @Qx @Hx @c6 @s0) ?_;exact⟨by simp +decide only[Gs,n0],by simp +decide only[Gs,d0],by simp +decide only[Gs,n0,q4],M6.trans (u4 m7),.inl ⟨rfl,by simp +decide only[Gs,n0,q0],by simp +decide only[Gs,n0,q1],mn,p',it',eR,hp6,b6.mod m7 (by omega),b47,by omega⟩⟩
 clear n0 d0 q0 q1 q4 q23 h5c c5 b45 M5 m5 b44 M4 b34 m4 s0 b43 M3 m3 c3 b42 M2 mb cb bb b3 hp3 hit hr3;rintro ex A0 h ⟨n0,d0,q4,M,⟨rfl,q0,q1,m,p,it,eR,hp3,b3,b44,hit⟩|⟨rfl,q5,p,e,it,l,hl4,ho,hR,bz,hb⟩⟩;rotate_left
 ·refine res hl4 ho n0 d0 q4 q5 M hb ?_;rw[hR];exact⟨rfl,it,bz⟩
 simp only[];obtain⟨n5,v5,h5,c5,m5,h5c⟩:=MR (E:=E) (I:=I) hI84 M.fit b3 hp3 hl 34;have c5:(ev tab E I n5).call 105 [.pointer (some (own k)),.int .u8 34] h=some (v5,h5):=c5;have b45:=m5.blk _ _ ne4 b44;have M5:=M.trans (up m5);refine Vn n5 (Z3 n0 q0 @c5) ?_;refine Wc.forget (fun A=>A.n=82/\A.defers=[]/\A.get 0=.pointer (some (own k))/\A.get 1=.int .i64 (250-fu:Nat)/\A.get 4=.pointer (some (own g.next))/\A.get 34=v5) (by and_intros<;>simp +decide only[Gs,n0,d0,q0,q1,q4]<;>rfl) ?_;rintro A0 ⟨n0,d0,q0,q1,q4,q34⟩
 repeat' (with_reducible apply Wc.seq)
 refine Wc.mono (Q:=fun ex A h=>A.n=82/\A.defers=[]/\A.get 4=.pointer (some (own g.next))/\Mod (fun j=>j=k\/g.next<=j) g h/\((ex=.normal/\A.get 0=.pointer (some (own k))/\A.get 1=.int .i64 (250-fu:Nat)/\∃ tx p it,R=ADd bs fu kn m tx p it/\p<=bs.length/\Src k bs p 0 it h/\h.blk g.next=some (.cells [.int .i64 (kn:Nat),.int .i64 (m:Nat),.string tx,.slice none 0 0] 24 none)/\it<=5000)\/(ex=.ret/\A.get 5=.bool false/\∃ p e it l,l.length=4/\l.all isOne=true/\R=.bad p e/\Src k bs p e it h/\h.blk g.next=some (.cells l 24 none)))) ?_ ?_
 ·unfold ADe at eR;rcases h5c with⟨hc,rfl,b5⟩|⟨hc,rfl,b5⟩
  rotate_left
  ·rw[if_neg hc] at eR;refine Vw (Z2 n0 q34) ?_;exact⟨by simp +decide only[Gs,n0],by simp +decide only[Gs,d0],by simp +decide only[Gs,n0,q4],M5,.inl ⟨rfl,by simp +decide only[Gs,n0,q0],by simp +decide only[Gs,n0,q1],⟨⟨[]⟩⟩,p,it,eR,hp3,b5,b45,hit⟩⟩
  rw[if_pos hc] at eR;have hlt:=(O0.1 hc).1;obtain⟨n6,_,h6,c6,u6,x6,rfl,m6,hq6⟩:=Vs (E:=E) (I:=I) hI85 kp m5.fit b5 (by omega) (by omega) hl;have b46:=m6.blk _ _ ne4 b45;have M6:=M5.trans (up m6);cases hr6:Fu bs (p+1) it with
  | bad p' e=>
   rw[hr6] at hq6 eR;obtain⟨rfl,rfl,b6⟩:=hq6;have s0:AO tab 9 (aadd (own g.next) 2) (.string ⟨⟨[]⟩⟩) h6=some (h6.aa g.next (.cells [.int .i64 (kn:Nat),.int .i64 (m:Nat),.string ⟨⟨[]⟩⟩,.slice none 0 0] 24 none)):=Aj (o:=2) qty9 rfl b46 rfl rfl (by simp) rfl;have m7:=(Mod.refl (M:=fun j=>j=g.next) m6.fit).aa (B:=.cells [.int .i64 (kn:Nat),.int .i64 (m:Nat),.string ⟨⟨[]⟩⟩,.slice none 0 0] 24 none) rfl rfl (m6.fit.lt b46);have b47:=AD (h:=h6) (k:=g.next) (B:=.cells [.int .i64 (kn:Nat),.int .i64 (m:Nat),.string ⟨⟨[]⟩⟩,.slice none 0 0] 24 none) rfl;generalize h6.aa g.next (.cells [.int .i64 (kn:Nat),.int .i64 (m:Nat),.string ⟨⟨[]⟩⟩,.slice none 0 0] 24 none)=h7 at s0 m7 b47;obtain⟨h8,ld,st,m8,b48⟩:=Vk (E:=E) m7.fit b47 rfl;refine Vw (Z2 n0 q34) ?_;refine Vn n6 (Z9 n0 q0 q4 @Qx @Hx @c6 @s0 @ld @st) ?_;exact⟨by simp +decide only[Gs,n0],by simp +decide only[Gs,d0],by simp +decide only[Gs,n0,q4],(M6.trans (u4 m7)).trans (u4 m8),.inr ⟨rfl,by simp +decide only[Gs,n0],p',e,it,_,rfl,rfl,eR,(b6.mod m7 (by omega)).mod m8 (by omega),b48⟩⟩
  | ok tx p' it'=>
   rw[hr6] at hq6 eR;obtain⟨rfl,rfl,b6⟩:=hq6;obtain⟨_,hp6,hit6,_⟩:=PT hr6;have s0:AO tab 9 (aadd (own g.next) 2) (.string tx) h6=some (h6.aa g.next (.cells [.int .i64 (kn:Nat),.int .i64 (m:Nat),.string tx,.slice none 0 0] 24 none)):=Aj (o:=2) qty9 rfl b46 rfl rfl (by simp) rfl;have m7:=(Mod.refl (M:=fun j=>j=g.next) m6.fit).aa (B:=.cells [.int .i64 (kn:Nat),.int .i64 (m:Nat),.string tx,.slice none 0 0] 24 none) rfl rfl (m6.fit.lt b46);have b47:=AD (h:=h6) (k:=g.next) (B:=.cells [.int .i64 (kn:Nat),.int .i64 (m:Nat),.string tx,.slice none 0 0] 24 none) rfl;generalize h6.aa g.next (.cells [.int .i64 (kn:Nat),.int .i64 (m:Nat),.string tx,.slice none 0 0] 24 none)=h7 at s0 m7 b47;refine Vw (Z2 n0 q34) ?_;refine Vn n6 (Z7 n0 q0 q4 @Qx @Hx @c6 @s0) ?_;exact⟨by simp +decide only[Gs,n0],by simp +decide only[Gs,d0],by simp +decide only[Gs,n0,q4],M6.trans (u4 m7),.inl ⟨rfl,by simp +decide only[Gs,n0,q0],by simp +decide only[Gs,n0,q1],tx,p',it',eR,hp6,b6.mod m7 (by omega),b47,by omega⟩⟩
 clear n0 d0 q0 q1 q4 q34 h5c c5 b45 M5 m5 M b44 b3 hp3 hit;rintro ex A0 h ⟨n0,d0,q4,M,⟨rfl,q0,q1,tx,p,it,eR,hp3,b3,b44,hit⟩|⟨rfl,q5,p,e,it,l,hl4,ho,hR,bz,hb⟩⟩;rotate_left
 ·refine res hl4 ho n0 d0 q4 q5 M hb ?_;rw[hR];exact⟨rfl,it,bz⟩
 simp only[];obtain⟨n5,v5,h5,c5,m5,h5c⟩:=MR (E:=E) (I:=I) hI84 M.fit b3 hp3 hl 40;have c5:(ev tab E I n5).call 105 [.pointer (some (own k)),.int .u8 40] h=some (v5,h5):=c5;have b45:=m5.blk _ _ ne4 b44;have M5:=M.trans (up m5);unfold ADd at eR;rcases h5c with⟨hc,rfl,b5⟩|⟨hc,rfl,b5⟩
 rotate_left
 ·rw[if_neg hc] at eR;obtain⟨h6,ld,st,m6,b46⟩:=Vk (E:=E) m5.fit b45 rfl;refine Vn n5 (Z3 n0 q0 @c5) ?_;refine Vw (Z6 n0 q4 @Qx @Hx @ld @st) ?_;refine res (l:=[.int .i64 (kn:Nat),.int .i64 (m:Nat),.string tx,.slice none 0 0]) (z:=true) rfl rfl (S0 n0) (S0 d0) (S0 (Z2 n0 q4)) (S0 n0) (M5.trans (u4 m6)) b46 ?_;rw[eR];exact⟨rfl,b5.mod m6 (by omega),Kol.rep (Kol.nil g.next h6.next h6:Kol E 24 _ _ _ _ _) m6.fit (by simp) _ _ _ (C0 _)⟩
 rw[if_pos hc] at eR;have hlt:=(O0.1 hc).1;refine Vn n5 (Z3 n0 q0 @c5) ?_;refine (ABv (E:=E) (I:=I) hI50 (by omega) hl RI (a0:=.int .i64 (kn:Nat)) (a1:=.int .i64 (m:Nat)) (a2:=.string tx) rfl f kl (C0 _) (bs.length+1) (p+1) it [] (.slice none 0 0) _ h5 (by omega) (by omega) hit (by simp) ?_ ?_ ?_ ?_ ?_ M5 b45 b5 (Kol.nil _ _ _)).mono ?_
 ·simp +decide only[Gs,n0]
 ·simp +decide only[Gs,d0]
 ·simp +decide only[Gs,n0,q0]
 ·simp +decide only[Gs,n0,q1]
 ·simp +decide only[Gs,n0,q4]
 rintro ex A1 h6 ⟨rfl,n1,d1,a4,M6,sl',ho,hb6,hq⟩;have ho4:[.int .i64 (kn:Nat),.int .i64 (m:Nat),.string tx,sl'].all isOne=true:=by
  simp only[V3,List.all_nil,Bool.and_true,K0];exact⟨rfl,rfl,rfl,ho⟩
 cases hr:Rk bs (rdPI bs fu) (bs.length+1) [] (p+1) it with
 | bad p' e=>
  rw[hr] at hq eR;obtain⟨a5,it',bz⟩:=hq;refine res rfl ho4 n1 d1 a4 a5 M6 hb6 ?_;rw[eR];exact⟨rfl,it',bz⟩
 | ok ks p' it'=>
  rw[hr] at hq eR;obtain⟨a5,bz,K,hlen⟩:=hq;refine res rfl ho4 n1 d1 a4 a5 M6 hb6 ?_;rw[eR];exact⟨rfl,bz,K.rep M6.fit (by omega) _ _ _ (C0 _)⟩
end Go.Proofs.YtofijpbmbmbnhaaGreatDoor
