/- Itoa: the walk (printed by tools/itoa.py). -/
import Derived.Test.YtofijpbmbmbnhaaGreatDoorHsai
set_option linter.unusedSimpArgs false
set_option linter.unusedVariables false
set_option maxRecDepth 100000
set_option maxHeartbeats 16000000
namespace Go.Proofs.YtofijpbmbmbnhaaGreatDoor
open Go Go.Hs Go.Proofs
variable {E:Env} {I:Aa}
theorem AD0:tab.fn.get 143=some Tryz.f143:=by kernel_rfl
noncomputable def Ks:Code:=loopOf Tryz.f143
theorem MW (n:Int) {h:H}:AQ tab E 93 104 (.int .u64 n) h=some (.int .u32 (IntKind.u32.wrap n),h):=by unfold AQ;simp only[Vt,Sn]
theorem Wa (n:Int) {h:H}:AQ tab E 104 5 (.int .u32 n) h=some (.int .u8 (IntKind.u8.wrap n),h):=by unfold AQ;simp only[qty5,Sn]
theorem Jk:Lib.smalls=⟨(([48,48,48,49,48,50,48,51,48,52,48,53,48,54,48,55,48,56,48,57,49,48,49,49,49,50,49,51,49,52,49,53,49,54,49,55,49,56,49,57,50,48,50,49,50,50,50,51,50,52].append [50,53,50,54,50,55,50,56,50,57,51,48,51,49,51,50,51,51,51,52,51,53,51,54,51,55,51,56,51,57,52,48,52,49,52,50,52,51,52,52,52,53,52,54,52,55,52,56,52,57]).append ([53,48,53,49,53,50,53,51,53,52,53,53,53,54,53,55,53,56,53,57,54,48,54,49,54,50,54,51,54,52,54,53,54,54,54,55,54,56,54,57,55,48,55,49,55,50,55,51,55,52].append [55,53,55,54,55,55,55,56,55,57,56,48,56,49,56,50,56,51,56,52,56,53,56,54,56,55,56,56,56,57,57,48,57,49,57,50,57,51,57,52,57,53,57,54,57,55,57,56,57,57])).toArray⟩:=by kernel_rfl
theorem ixS (k:IntKind) (i:Nat) (hi:i<200):CP tab 9 (.string ⟨(([48,48,48,49,48,50,48,51,48,52,48,53,48,54,48,55,48,56,48,57,49,48,49,49,49,50,49,51,49,52,49,53,49,54,49,55,49,56,49,57,50,48,50,49,50,50,50,51,50,52].append [50,53,50,54,50,55,50,56,50,57,51,48,51,49,51,50,51,51,51,52,51,53,51,54,51,55,51,56,51,57,52,48,52,49,52,50,52,51,52,52,52,53,52,54,52,55,52,56,52,57]).append ([53,48,53,49,53,50,53,51,53,52,53,53,53,54,53,55,53,56,53,57,54,48,54,49,54,50,54,51,54,52,54,53,54,54,54,55,54,56,54,57,55,48,55,49,55,50,55,51,55,52].append [55,53,55,54,55,55,55,56,55,57,56,48,56,49,56,50,56,51,56,52,56,53,56,54,56,55,56,56,56,57,57,48,57,49,57,50,57,51,57,52,57,53,57,54,57,55,57,56,57,57])).toArray⟩) (.int k (i:Nat))=some (.int .u8 ((Lib.sm i).toNat:Nat)):=by
 rw[<- Jk];unfold CP;have hl:Lib.smalls.data.toList.length=200:=Lib.smalls_size;have h1:AN (i:Nat) Lib.smalls.data.toList.length=true:=by
  show Nat.blt i _=true;rw[P0,hl];exact hi
 have h2:Lib.smalls.data.toList[i]? = some (Lib.sm i):=by
  unfold Lib.sm;rw[List.getD_eq_getElem?_getD,Q0 (by rw[hl];exact hi)];rfl
 simp only[qty9,h1,M0,h2]
def Row (kb:Nat) (pre post:List Value) (d:Array UInt8) (g:H):Prop:=g.blk kb=some (.cells (pre++bytesV d.toList++post) 198 none)
theorem Dr {kb:Nat} {pre post:List Value} {d:Array UInt8} {g:H} (hp:pre.length=1) (R:Row kb pre post d g) (i:Nat) (hi:i<d.size) (x:UInt8):AO tab 5 (aadd (own kb) (1+i*1)) (.int .u8 (x.toNat:Nat)) (fresh g)=some ((fresh g).aa kb (.cells (pre++bytesV (d.setIfInBounds i x).toList++post) 198 none)):=
 Aj (g:=fresh g) qty5 rfl R rfl rfl (by rw[Gv];omega) (SQ hi (by omega))
theorem ZC {kb:Nat} {pre post:List Value} {d:Array UInt8} {g:H} (hp:pre.length=1) (R:Row kb pre post d g) (i:Nat) (hi:i<d.size) (x:UInt8):AO tab 5 (aadd (own kb) (1+i*1)) (.int .u8 (x.toNat:Nat)) g=some (g.aa kb (.cells (pre++bytesV (d.setIfInBounds i x).toList++post) 198 none)):=
 Aj (g:=g) qty5 rfl R rfl rfl (by rw[Gv];omega) (SQ hi (by omega))
theorem Row.next {kb:Nat} {pre post:List Value} {d':Array UInt8} {g:H}:Row kb pre post d' (g.aa kb (.cells (pre++bytesV d'.toList++post) 198 none)):=AD rfl
theorem Ta (x:Nat) (hx:x<100):Bk .mul .u32 ((x:Nat):Int) 2=some (.int .u32 ((x*2:Nat):Int)):=by
 show some (Value.int .u32 (IntKind.u32.wrap ((x:Int)*2)))=_;rw[show ((x:Int)*2)=((x*2:Nat):Int) by omega,Bs (by omega)]
theorem Qg {kb nd c u:Nat} {pre post:List Value} {g:H} (hp:pre.length=1) (hnd:nd<=15) :
  ∀ (i v:Nat) (dA:Array UInt8) (A0:Ac) (hA:H),A0.n=167->A0.defers=[]->A0.get 0=.slice (some (aadd (own kb) 1)) nd c->A0.get 1=.int .u64 (v:Nat)->A0.get 4=.int .i64 (i:Nat)->Lib.FmtInv nd u i v dA->Row kb pre post dA hA->Mod (fun k=>k=kb) g hA->v<18446744073709551616->
   Wc tab E I ⟨143,none⟩ (.loop Ks) A0 hA (fun ex A h'=>ex=.exit 0/\A.n=167/\A.defers=[]/\A.get 0=.slice (some (aadd (own kb) 1)) nd c/\∃ i v d,A.get 1=.int .u64 (v:Nat)/\A.get 4=.int .i64 (i:Nat)/\i<8/\Lib.FmtInv nd u i v d/\Row kb pre post d h'/\Mod (fun k=>k=kb) g h'):=by
 have base:∀ (i v:Nat) (dA:Array UInt8) (A0:Ac) (hA:H),i<8->A0.n=167->A0.defers=[]->A0.get 0=.slice (some (aadd (own kb) 1)) nd c->A0.get 1=.int .u64 (v:Nat)->A0.get 4=.int .i64 (i:Nat)->Lib.FmtInv nd u i v dA->Row kb pre post dA hA->Mod (fun k=>k=kb) g hA->
   Wc tab E I ⟨143,none⟩ (.loop Ks) A0 hA (fun ex A h'=>ex=.exit 0/\A.n=167/\A.defers=[]/\A.get 0=.slice (some (aadd (own kb) 1)) nd c/\∃ i v d,A.get 1=.int .u64 (v:Nat)/\A.get 4=.int .i64 (i:Nat)/\i<8/\Lib.FmtInv nd u i v d/\Row kb pre post d h'/\Mod (fun k=>k=kb) g h'):=by
  intro i v dA A0 hA hi n0 d0 q0 q1 q4 F R M;have e1:decide ((i:Int)>=8)=false:=decide_eq_false (by omega);apply Wc.loop;simp only[Ks,loopOf,firstLoop,Option.getD,Tryz.f143];refine Vw (Z3 n0 q4 e1) ?_;exact⟨rfl,by simp +decide only[Gs,n0],by simp +decide only[Gs,d0],by simp +decide only[Gs,n0,q0],i,v,dA,by simp +decide only[Gs,n0,q1],by simp +decide only[Gs,n0,q4],hi,F,R,M⟩
 intro i v dA A0 hA n0 d0 q0 q1 q4 FA RA MA hv;by_cases h8:i<8
 ·exact base i v dA A0 hA h8 n0 d0 q0 q1 q4 FA RA MA
 obtain⟨j,rfl⟩:∃ j,i=j+8:=⟨i-8,by omega⟩;have hle:=FA.le;have e1:decide (((j+8:Nat):Int)>=8)=true:=decide_eq_true (by omega);have hlo:v % 100000000<100000000:=Nat.mod_lt _ (by decide);have r1:Bk .rem .u64 (v:Nat) 100000000=some (.int .u64 ((v % 100000000:Nat):Int)):=VF .u64 v 100000000 (by decide);have r2:Bk .quo .u64 (v:Nat) 100000000=some (.int .u64 ((v / 100000000:Nat):Int)):=YB .u64 v 100000000 (by decide) (KN (by omega));have w0:=Bs (x:=v % 100000000) (by omega);have r3:Bk .quo .u32 ((v % 100000000:Nat):Int) 10000=some (.int .u32 ((v / 100 / 100 % 10000:Nat):Int)):=by
  rw[show v / 100 / 100 % 10000=v % 100000000 / 10000 by omega];exact YB .u32 _ 10000 (by decide) (Bs (by omega))
 have r4:Bk .rem .u32 ((v % 100000000:Nat):Int) 10000=some (.int .u32 ((v % 10000:Nat):Int)):=by
  rw[show v % 10000=v % 100000000 % 10000 by omega];exact VF .u32 _ 10000 (by decide)
 have r5:Bk .quo .u32 ((v % 10000:Nat):Int) 100=some (.int .u32 ((v / 100 % 100:Nat):Int)):=by
  rw[show v / 100 % 100=v % 10000 / 100 by omega];exact YB .u32 _ 100 (by decide) (Bs (by omega))
 have r6:Bk .rem .u32 ((v % 10000:Nat):Int) 100=some (.int .u32 ((v % 100:Nat):Int)):=by
  rw[show v % 100=v % 10000 % 100 by omega];exact VF .u32 _ 100 (by decide)
 have r7:Bk .quo .u32 ((v / 100 / 100 % 10000:Nat):Int) 100=some (.int .u32 ((v / 100 / 100 / 100 % 100:Nat):Int)):=by
  rw[show v / 100 / 100 / 100 % 100=v / 100 / 100 % 10000 / 100 by omega];exact YB .u32 _ 100 (by decide) (Bs (by omega))
 have r8:Bk .rem .u32 ((v / 100 / 100 % 10000:Nat):Int) 100=some (.int .u32 ((v / 100 / 100 % 100:Nat):Int)):=by
  rw[show v / 100 / 100 % 100=v / 100 / 100 % 10000 % 100 by omega];exact VF .u32 _ 100 (by decide)
 have m2:∀ x:Nat,x<100->Bk .mul .u32 ((x:Nat):Int) 2=some (.int .u32 ((x*2:Nat):Int)):=fun x hx=>by
  show some (Value.int .u32 (IntKind.u32.wrap ((x:Int)*2)))=_;rw[show ((x:Int)*2)=((x*2:Nat):Int) by omega,Bs (by omega)]
 have m5:=m2 (v / 100 % 100) (by omega);have m6:=m2 (v % 100) (by omega);have m7:=m2 (v / 100 / 100 / 100 % 100) (by omega);have m8:=m2 (v / 100 / 100 % 100) (by omega);apply Wc.loop;simp only[Ks,loopOf,firstLoop,Option.getD,Tryz.f143];refine Vw (Z3 n0 q4 e1) ?_;refine VU 1 (Z5 n0 q1 @r1 @MW @w0) ?_;refine VU 1 (Z3 n0 q1 @r2) ?_;refine VU 1 (Z3 n0 @r3 @r4) ?_;refine VU 1 (Z5 n0 @r5 @r6 @m5 @m6) ?_;refine VU 1 (Z5 n0 @r7 @r8 @m7 @m8) ?_;refine Wc.forget (fun A=>A.n=167/\A.defers=[]/\A.get 0=.slice (some (aadd (own kb) 1)) nd c/\A.get 1=.int .u64 ((v / 100000000:Nat):Int)/\A.get 4=.int .i64 ((j+8:Nat):Int)/\A.get 8=.int .u32 ((v / 100 % 100*2:Nat):Int)/\A.get 9=.int .u32 ((v % 100*2:Nat):Int)/\A.get 10=.int .u32 ((v / 100 / 100 / 100 % 100*2:Nat):Int)/\A.get 11=.int .u32 ((v / 100 / 100 % 100*2:Nat):Int)) (by and_intros<;>simp +decide only[Gs,n0,d0,q0,q4]<;>rfl) ?_;rintro A0 ⟨n0,d0,q0,q1,q4,q8,q9,q10,q11⟩;have hz:=FA.size;have hpp:v % 100<100:=Nat.mod_lt _ (by decide);have w1:IntKind.i64.wrap (((j+8:Nat):Int)-1)=(((j+7):Nat):Int):=by rw[wrap64 (by omega) (by omega)];omega
 have w2:IntKind.i64.wrap (((j+8:Nat):Int)-2)=(((j+6):Nat):Int):=by rw[wrap64 (by omega) (by omega)];omega
 have wx:IntKind.u32.wrap (((v % 100*2:Nat):Int)+1)=((v % 100*2+1:Nat):Int):=Bs (x:=v % 100*2+1) (by omega);have hr1:AN (((j+7):Nat):Int) nd=true:=by show Nat.blt _ _=true;rw[P0];omega
 have hr2:AN (((j+6):Nat):Int) nd=true:=by show Nat.blt _ _=true;rw[P0];omega
 have x1:=ixS .u32 (v % 100*2+1) (by omega);have x2:=ixS .u32 (v % 100*2) (by omega);have s1:=Dr hp RA (j+7) (by omega) (Lib.sm (v % 100*2+1));have hk1:=MA.fit.lt RA;have R1:Row kb pre post _ (hA.aa kb (.cells (pre++bytesV (dA.setIfInBounds (j+7) (Lib.sm (v % 100*2+1))).toList++post) 198 none)):=Row.next;have M1:=MA.aa (k:=kb) (B:=.cells (pre++bytesV (dA.setIfInBounds (j+7) (Lib.sm (v % 100*2+1))).toList++post) 198 none) rfl rfl hk1;generalize hg1:hA.aa kb (.cells (pre++bytesV (dA.setIfInBounds (j+7) (Lib.sm (v % 100*2+1))).toList++post) 198 none)=g1 at R1 M1;have s2:=Dr hp R1 (j+6) (by rw[V4];omega) (Lib.sm (v % 100*2));have hk2:=M1.fit.lt R1;have FB:=FA.step2';have RB:Row kb pre post _ (g1.aa kb (.cells (pre++bytesV ((dA.setIfInBounds (j+7) (Lib.sm (v % 100*2+1))).setIfInBounds (j+6) (Lib.sm (v % 100*2))).toList++post) 198 none)):=Row.next;have MB:=M1.aa (k:=kb) (B:=.cells (pre++bytesV ((dA.setIfInBounds (j+7) (Lib.sm (v % 100*2+1))).setIfInBounds (j+6) (Lib.sm (v % 100*2))).toList++post) 198 none) rfl rfl hk2
 repeat' (with_reducible apply Wc.seq)
 refine Wc.ao 1 (by kernel_rfl) ?_
 (iterate 12 refine Ug (Z12 n0 q0 q4 q9 @w1 @w2 @wx (fun a c=>Fv a _ c _ hr1) @Hx @M0 @x1 @x2) ?_)
 refine FQ.aa (k:=kb) (B:=.cells (pre++bytesV (dA.setIfInBounds (j+7) (Lib.sm (v % 100*2+1))).toList++post) 198 none) (x:=undef) rfl rfl hk1 (by simp +decide only[Oy,n0,s1]) ?_;rw[hg1]
 (iterate 1 refine Ug (Z4 n0 (fun a c=>Fv a _ c _ hr2) @Hx @M0) ?_)
 refine FQ.aa (k:=kb) (B:=.cells (pre++bytesV ((dA.setIfInBounds (j+7) (Lib.sm (v % 100*2+1))).setIfInBounds (j+6) (Lib.sm (v % 100*2))).toList++post) 198 none) (x:=undef) rfl rfl hk2 (by simp +decide only[Oy,n0,s2]) ?_;refine FQ.nil ⟨?_,?_⟩
 ·exact Az [12,14] 15 [(3,12),(4,12),(5,12),(9,12),(10,12)] rfl rfl (by kernel_rfl) (fun _ _ _ _ hU e1 e2=>by simp only[O1,Prod.mk.injEq,C1,or_false] at hU;rcases hU with⟨rfl,rfl⟩|⟨rfl,rfl⟩|⟨rfl,rfl⟩|⟨rfl,rfl⟩|⟨rfl,rfl⟩<;>(cases e1;cases e2;exact AK (l:=[]) rfl rfl (fun _ _=>C1) rfl (fun j _=>P1 _ _)))
 generalize g1.aa kb (.cells (pre++bytesV ((dA.setIfInBounds (j+7) (Lib.sm (v % 100*2+1))).setIfInBounds (j+6) (Lib.sm (v % 100*2))).toList++post) 198 none)=hB at RB MB ⊢;generalize ((dA.setIfInBounds (j+7) (Lib.sm (v % 100*2+1))).setIfInBounds (j+6) (Lib.sm (v % 100*2)))=dB at FB RB;clear w1 w2 wx hr1 hr2 x1 x2 s1 s2 R1 M1 hk1 hk2 hg1 hz hpp;refine Wc.forget (fun A=>A.n=167/\A.defers=[]/\A.get 0=.slice (some (aadd (own kb) 1)) nd c/\A.get 1=.int .u64 ((v / 100000000:Nat):Int)/\A.get 4=.int .i64 ((j+8:Nat):Int)/\A.get 8=.int .u32 ((v / 100 % 100*2:Nat):Int)/\A.get 10=.int .u32 ((v / 100 / 100 / 100 % 100*2:Nat):Int)/\A.get 11=.int .u32 ((v / 100 / 100 % 100*2:Nat):Int)) (by and_intros<;>simp +decide only[Gs,n0,d0,q0,q1,q4,q8,q9,q10,q11]<;>rfl) ?_;rintro A0 ⟨n0,d0,q0,q1,q4,q8,q10,q11⟩;have hz:=FB.size;have hpp:(v / 100) % 100<100:=Nat.mod_lt _ (by decide);have w1:IntKind.i64.wrap (((j+8:Nat):Int)-3)=(((j+5):Nat):Int):=by rw[wrap64 (by omega) (by omega)];omega
 have w2:IntKind.i64.wrap (((j+8:Nat):Int)-4)=(((j+4):Nat):Int):=by rw[wrap64 (by omega) (by omega)];omega
 have wx:IntKind.u32.wrap ((((v / 100) % 100*2:Nat):Int)+1)=(((v / 100) % 100*2+1:Nat):Int):=Bs (x:=(v / 100) % 100*2+1) (by omega);have hr1:AN (((j+5):Nat):Int) nd=true:=by show Nat.blt _ _=true;rw[P0];omega
 have hr2:AN (((j+4):Nat):Int) nd=true:=by show Nat.blt _ _=true;rw[P0];omega
 have x1:=ixS .u32 ((v / 100) % 100*2+1) (by omega);have x2:=ixS .u32 ((v / 100) % 100*2) (by omega);have s1:=Dr hp RB (j+5) (by omega) (Lib.sm ((v / 100) % 100*2+1));have hk1:=MB.fit.lt RB;have R1:Row kb pre post _ (hB.aa kb (.cells (pre++bytesV (dB.setIfInBounds (j+5) (Lib.sm ((v / 100) % 100*2+1))).toList++post) 198 none)):=Row.next;have M1:=MB.aa (k:=kb) (B:=.cells (pre++bytesV (dB.setIfInBounds (j+5) (Lib.sm ((v / 100) % 100*2+1))).toList++post) 198 none) rfl rfl hk1;generalize hg1:hB.aa kb (.cells (pre++bytesV (dB.setIfInBounds (j+5) (Lib.sm ((v / 100) % 100*2+1))).toList++post) 198 none)=g1 at R1 M1;have s2:=Dr hp R1 (j+4) (by rw[V4];omega) (Lib.sm ((v / 100) % 100*2));have hk2:=M1.fit.lt R1;have FC:=FB.step2';have RC:Row kb pre post _ (g1.aa kb (.cells (pre++bytesV ((dB.setIfInBounds (j+5) (Lib.sm ((v / 100) % 100*2+1))).setIfInBounds (j+4) (Lib.sm ((v / 100) % 100*2))).toList++post) 198 none)):=Row.next;have MC:=M1.aa (k:=kb) (B:=.cells (pre++bytesV ((dB.setIfInBounds (j+5) (Lib.sm ((v / 100) % 100*2+1))).setIfInBounds (j+4) (Lib.sm ((v / 100) % 100*2))).toList++post) 198 none) rfl rfl hk2
 repeat' (with_reducible apply Wc.seq)
 refine Wc.ao 1 (by kernel_rfl) ?_
 (iterate 12 refine Ug (Z12 n0 q0 q4 q8 @w1 @w2 @wx (fun a c=>Fv a _ c _ hr1) @Hx @M0 @x1 @x2) ?_)
 refine FQ.aa (k:=kb) (B:=.cells (pre++bytesV (dB.setIfInBounds (j+5) (Lib.sm ((v / 100) % 100*2+1))).toList++post) 198 none) (x:=undef) rfl rfl hk1 (by simp +decide only[Oy,n0,s1]) ?_;rw[hg1]
 (iterate 1 refine Ug (Z4 n0 (fun a c=>Fv a _ c _ hr2) @Hx @M0) ?_)
 refine FQ.aa (k:=kb) (B:=.cells (pre++bytesV ((dB.setIfInBounds (j+5) (Lib.sm ((v / 100) % 100*2+1))).setIfInBounds (j+4) (Lib.sm ((v / 100) % 100*2))).toList++post) 198 none) (x:=undef) rfl rfl hk2 (by simp +decide only[Oy,n0,s2]) ?_;refine FQ.nil ⟨?_,?_⟩
 ·exact Az [12,14] 15 [(3,12),(4,12),(5,12),(9,12),(10,12)] rfl rfl (by kernel_rfl) (fun _ _ _ _ hU e1 e2=>by simp only[O1,Prod.mk.injEq,C1,or_false] at hU;rcases hU with⟨rfl,rfl⟩|⟨rfl,rfl⟩|⟨rfl,rfl⟩|⟨rfl,rfl⟩|⟨rfl,rfl⟩<;>(cases e1;cases e2;exact AK (l:=[]) rfl rfl (fun _ _=>C1) rfl (fun j _=>P1 _ _)))
 generalize g1.aa kb (.cells (pre++bytesV ((dB.setIfInBounds (j+5) (Lib.sm ((v / 100) % 100*2+1))).setIfInBounds (j+4) (Lib.sm ((v / 100) % 100*2))).toList++post) 198 none)=hC at RC MC ⊢;generalize ((dB.setIfInBounds (j+5) (Lib.sm ((v / 100) % 100*2+1))).setIfInBounds (j+4) (Lib.sm ((v / 100) % 100*2)))=dC at FC RC;clear w1 w2 wx hr1 hr2 x1 x2 s1 s2 R1 M1 hk1 hk2 hg1 hz hpp;refine Wc.forget (fun A=>A.n=167/\A.defers=[]/\A.get 0=.slice (some (aadd (own kb) 1)) nd c/\A.get 1=.int .u64 ((v / 100000000:Nat):Int)/\A.get 4=.int .i64 ((j+8:Nat):Int)/\A.get 10=.int .u32 ((v / 100 / 100 / 100 % 100*2:Nat):Int)/\A.get 11=.int .u32 ((v / 100 / 100 % 100*2:Nat):Int)) (by and_intros<;>simp +decide only[Gs,n0,d0,q0,q1,q4,q10,q11]<;>rfl) ?_;rintro A0 ⟨n0,d0,q0,q1,q4,q10,q11⟩;have hz:=FC.size;have hpp:(v / 100 / 100) % 100<100:=Nat.mod_lt _ (by decide);have w1:IntKind.i64.wrap (((j+8:Nat):Int)-5)=(((j+3):Nat):Int):=by rw[wrap64 (by omega) (by omega)];omega
 have w2:IntKind.i64.wrap (((j+8:Nat):Int)-6)=(((j+2):Nat):Int):=by rw[wrap64 (by omega) (by omega)];omega
 have wx:IntKind.u32.wrap ((((v / 100 / 100) % 100*2:Nat):Int)+1)=(((v / 100 / 100) % 100*2+1:Nat):Int):=Bs (x:=(v / 100 / 100) % 100*2+1) (by omega);have hr1:AN (((j+3):Nat):Int) nd=true:=by show Nat.blt _ _=true;rw[P0];omega
 have hr2:AN (((j+2):Nat):Int) nd=true:=by show Nat.blt _ _=true;rw[P0];omega
 have x1:=ixS .u32 ((v / 100 / 100) % 100*2+1) (by omega);have x2:=ixS .u32 ((v / 100 / 100) % 100*2) (by omega);have s1:=Dr hp RC (j+3) (by omega) (Lib.sm ((v / 100 / 100) % 100*2+1));have hk1:=MC.fit.lt RC;have R1:Row kb pre post _ (hC.aa kb (.cells (pre++bytesV (dC.setIfInBounds (j+3) (Lib.sm ((v / 100 / 100) % 100*2+1))).toList++post) 198 none)):=Row.next;have M1:=MC.aa (k:=kb) (B:=.cells (pre++bytesV (dC.setIfInBounds (j+3) (Lib.sm ((v / 100 / 100) % 100*2+1))).toList++post) 198 none) rfl rfl hk1;generalize hg1:hC.aa kb (.cells (pre++bytesV (dC.setIfInBounds (j+3) (Lib.sm ((v / 100 / 100) % 100*2+1))).toList++post) 198 none)=g1 at R1 M1;have s2:=Dr hp R1 (j+2) (by rw[V4];omega) (Lib.sm ((v / 100 / 100) % 100*2));have hk2:=M1.fit.lt R1;have FD:=FC.step2';have RD:Row kb pre post _ (g1.aa kb (.cells (pre++bytesV ((dC.setIfInBounds (j+3) (Lib.sm ((v / 100 / 100) % 100*2+1))).setIfInBounds (j+2) (Lib.sm ((v / 100 / 100) % 100*2))).toList++post) 198 none)):=Row.next;have MD:=M1.aa (k:=kb) (B:=.cells (pre++bytesV ((dC.setIfInBounds (j+3) (Lib.sm ((v / 100 / 100) % 100*2+1))).setIfInBounds (j+2) (Lib.sm ((v / 100 / 100) % 100*2))).toList++post) 198 none) rfl rfl hk2
 repeat' (with_reducible apply Wc.seq)
 refine Wc.ao 1 (by kernel_rfl) ?_
 (iterate 12 refine Ug (Z12 n0 q0 q4 q11 @w1 @w2 @wx (fun a c=>Fv a _ c _ hr1) @Hx @M0 @x1 @x2) ?_)
 refine FQ.aa (k:=kb) (B:=.cells (pre++bytesV (dC.setIfInBounds (j+3) (Lib.sm ((v / 100 / 100) % 100*2+1))).toList++post) 198 none) (x:=undef) rfl rfl hk1 (by simp +decide only[Oy,n0,s1]) ?_;rw[hg1]
 (iterate 1 refine Ug (Z4 n0 (fun a c=>Fv a _ c _ hr2) @Hx @M0) ?_)
 refine FQ.aa (k:=kb) (B:=.cells (pre++bytesV ((dC.setIfInBounds (j+3) (Lib.sm ((v / 100 / 100) % 100*2+1))).setIfInBounds (j+2) (Lib.sm ((v / 100 / 100) % 100*2))).toList++post) 198 none) (x:=undef) rfl rfl hk2 (by simp +decide only[Oy,n0,s2]) ?_;refine FQ.nil ⟨?_,?_⟩
 ·exact Az [12,14] 15 [(3,12),(4,12),(5,12),(9,12),(10,12)] rfl rfl (by kernel_rfl) (fun _ _ _ _ hU e1 e2=>by simp only[O1,Prod.mk.injEq,C1,or_false] at hU;rcases hU with⟨rfl,rfl⟩|⟨rfl,rfl⟩|⟨rfl,rfl⟩|⟨rfl,rfl⟩|⟨rfl,rfl⟩<;>(cases e1;cases e2;exact AK (l:=[]) rfl rfl (fun _ _=>C1) rfl (fun j _=>P1 _ _)))
 generalize g1.aa kb (.cells (pre++bytesV ((dC.setIfInBounds (j+3) (Lib.sm ((v / 100 / 100) % 100*2+1))).setIfInBounds (j+2) (Lib.sm ((v / 100 / 100) % 100*2))).toList++post) 198 none)=hD at RD MD ⊢;generalize ((dC.setIfInBounds (j+3) (Lib.sm ((v / 100 / 100) % 100*2+1))).setIfInBounds (j+2) (Lib.sm ((v / 100 / 100) % 100*2)))=dD at FD RD;clear w1 w2 wx hr1 hr2 x1 x2 s1 s2 R1 M1 hk1 hk2 hg1 hz hpp;refine Wc.forget (fun A=>A.n=167/\A.defers=[]/\A.get 0=.slice (some (aadd (own kb) 1)) nd c/\A.get 1=.int .u64 ((v / 100000000:Nat):Int)/\A.get 4=.int .i64 ((j+8:Nat):Int)/\A.get 10=.int .u32 ((v / 100 / 100 / 100 % 100*2:Nat):Int)) (by and_intros<;>simp +decide only[Gs,n0,d0,q0,q1,q4,q10]<;>rfl) ?_;rintro A0 ⟨n0,d0,q0,q1,q4,q10⟩;have hz:=FD.size;have hpp:(v / 100 / 100 / 100) % 100<100:=Nat.mod_lt _ (by decide);have w1:IntKind.i64.wrap (((j+8:Nat):Int)-7)=(((j+1):Nat):Int):=by rw[wrap64 (by omega) (by omega)];omega
 have w2:IntKind.i64.wrap (((j+8:Nat):Int)-8)=((j:Nat):Int):=by rw[wrap64 (by omega) (by omega)];omega
 have wx:IntKind.u32.wrap ((((v / 100 / 100 / 100) % 100*2:Nat):Int)+1)=(((v / 100 / 100 / 100) % 100*2+1:Nat):Int):=Bs (x:=(v / 100 / 100 / 100) % 100*2+1) (by omega);have hr1:AN (((j+1):Nat):Int) nd=true:=by show Nat.blt _ _=true;rw[P0];omega
 have hr2:AN ((j:Nat):Int) nd=true:=by show Nat.blt _ _=true;rw[P0];omega
 have x1:=ixS .u32 ((v / 100 / 100 / 100) % 100*2+1) (by omega);have x2:=ixS .u32 ((v / 100 / 100 / 100) % 100*2) (by omega);have s1:=Dr hp RD (j+1) (by omega) (Lib.sm ((v / 100 / 100 / 100) % 100*2+1));have hk1:=MD.fit.lt RD;have R1:Row kb pre post _ (hD.aa kb (.cells (pre++bytesV (dD.setIfInBounds (j+1) (Lib.sm ((v / 100 / 100 / 100) % 100*2+1))).toList++post) 198 none)):=Row.next;have M1:=MD.aa (k:=kb) (B:=.cells (pre++bytesV (dD.setIfInBounds (j+1) (Lib.sm ((v / 100 / 100 / 100) % 100*2+1))).toList++post) 198 none) rfl rfl hk1;generalize hg1:hD.aa kb (.cells (pre++bytesV (dD.setIfInBounds (j+1) (Lib.sm ((v / 100 / 100 / 100) % 100*2+1))).toList++post) 198 none)=g1 at R1 M1;have s2:=Dr hp R1 j (by rw[V4];omega) (Lib.sm ((v / 100 / 100 / 100) % 100*2));have hk2:=M1.fit.lt R1;have FE:=FD.step2';have RE:Row kb pre post _ (g1.aa kb (.cells (pre++bytesV ((dD.setIfInBounds (j+1) (Lib.sm ((v / 100 / 100 / 100) % 100*2+1))).setIfInBounds j (Lib.sm ((v / 100 / 100 / 100) % 100*2))).toList++post) 198 none)):=Row.next;have ME:=M1.aa (k:=kb) (B:=.cells (pre++bytesV ((dD.setIfInBounds (j+1) (Lib.sm ((v / 100 / 100 / 100) % 100*2+1))).setIfInBounds j (Lib.sm ((v / 100 / 100 / 100) % 100*2))).toList++post) 198 none) rfl rfl hk2
 repeat' (with_reducible apply Wc.seq)
 refine Wc.ao 1 (by kernel_rfl) ?_
 (iterate 12 refine Ug (Z12 n0 q0 q4 q10 @w1 @w2 @wx (fun a c=>Fv a _ c _ hr1) @Hx @M0 @x1 @x2) ?_)
 refine FQ.aa (k:=kb) (B:=.cells (pre++bytesV (dD.setIfInBounds (j+1) (Lib.sm ((v / 100 / 100 / 100) % 100*2+1))).toList++post) 198 none) (x:=undef) rfl rfl hk1 (by simp +decide only[Oy,n0,s1]) ?_;rw[hg1]
 (iterate 1 refine Ug (Z4 n0 (fun a c=>Fv a _ c _ hr2) @Hx @M0) ?_)
 refine FQ.aa (k:=kb) (B:=.cells (pre++bytesV ((dD.setIfInBounds (j+1) (Lib.sm ((v / 100 / 100 / 100) % 100*2+1))).setIfInBounds j (Lib.sm ((v / 100 / 100 / 100) % 100*2))).toList++post) 198 none) (x:=undef) rfl rfl hk2 (by simp +decide only[Oy,n0,s2]) ?_;refine FQ.nil ⟨?_,?_⟩
 ·exact Az [12,14] 15 [(3,12),(4,12),(5,12),(9,12),(10,12)] rfl rfl (by kernel_rfl) (fun _ _ _ _ hU e1 e2=>by simp only[O1,Prod.mk.injEq,C1,or_false] at hU;rcases hU with⟨rfl,rfl⟩|⟨rfl,rfl⟩|⟨rfl,rfl⟩|⟨rfl,rfl⟩|⟨rfl,rfl⟩<;>(cases e1;cases e2;exact AK (l:=[]) rfl rfl (fun _ _=>C1) rfl (fun j _=>P1 _ _)))
 generalize g1.aa kb (.cells (pre++bytesV ((dD.setIfInBounds (j+1) (Lib.sm ((v / 100 / 100 / 100) % 100*2+1))).setIfInBounds j (Lib.sm ((v / 100 / 100 / 100) % 100*2))).toList++post) 198 none)=hE at RE ME ⊢;generalize ((dD.setIfInBounds (j+1) (Lib.sm ((v / 100 / 100 / 100) % 100*2+1))).setIfInBounds j (Lib.sm ((v / 100 / 100 / 100) % 100*2)))=dE at FE RE;clear w1 w2 wx hr1 hr2 x1 x2 s1 s2 R1 M1 hk1 hk2 hg1 hz hpp;refine Wc.forget (fun A=>A.n=167/\A.defers=[]/\A.get 0=.slice (some (aadd (own kb) 1)) nd c/\A.get 1=.int .u64 ((v / 100000000:Nat):Int)/\A.get 4=.int .i64 ((j+8:Nat):Int)) (by and_intros<;>simp +decide only[Gs,n0,d0,q0,q1,q4]<;>rfl) ?_;rintro A0 ⟨n0,d0,q0,q1,q4⟩;have wj:IntKind.i64.wrap (((j+8:Nat):Int)-8)=(j:Int):=by rw[wrap64 (by omega) (by omega)];omega
 rw[show v / 100 / 100 / 100 / 100=v / 100000000 by omega] at FE;refine Vw (Z3 n0 q4 @wj) ?_;exact base j _ _ _ _ (by omega) (S0 n0) (S0 d0) (S0 (Z2 n0 q0)) (S0 (Z2 n0 q1)) (S0 n0) FE RE ME
theorem UA (hI:∀ args h,I 143 args h=none) {kb nd c u:Nat} {pre post:List Value} {g:H} {d0':Array UInt8} (f:Fit g) (hp:pre.length=1) (hnd:nd<=15) (hsz:d0'.size=nd) (hu:u<10 ^ nd) (R0:Row kb pre post d0' g) :
  ∃ n v h',(ev tab E I n).call 143 [.slice (some (aadd (own kb) 1)) nd c,.int .u64 (u:Nat)] g=some (v,h')/\(v=.tuple #[]/\Mod (fun k=>k=kb) g h'/\∃ d,Lib.FmtInv nd u 0 0 d/\Row kb pre post d h'):=by
 have hu64:u<18446744073709551616:=Q1 hu (Y0 (Nat.pow_le_pow_right (by decide) hnd) (by decide));have F0:Lib.FmtInv nd u nd u d0':=by
  have:=Lib.FmtInv.start d0' u (by rw[hsz];exact hu)
  rwa [hsz] at this
 apply Wk (hI _ _) AD0 rfl;intro A0 n0 d0 hA0;change A0.n=167 at n0;have q0:A0.get 0=.slice (some (aadd (own kb) 1)) nd c:=hA0 0 _ rfl;have q1:A0.get 1=.int .u64 (u:Nat):=hA0 1 _ rfl;clear hA0;refine Vw (Z3 n0 q0 @Qx) ?_;refine (Qg (E:=E) (I:=I) (kb:=kb) (u:=u) (c:=c) hp hnd nd u d0' _ g ?_ ?_ ?_ ?_ ?_ F0 R0 (Mod.refl f) hu64).mono ?_
 ·simp +decide only[Gs,n0]
 ·simp +decide only[Gs,d0]
 ·simp +decide only[Gs,n0,q0]
 ·simp +decide only[Gs,n0,q1]
 ·simp +decide only[Gs,n0]
 rintro ex A0 hA ⟨rfl,n0,d0,q0,i,v,dA,q1,q4,hi,FA,RA,MA⟩;simp only[if_true];have hv7:=FA.lt7 hi;have hle:=FA.le;have wv:=Bs (x:=v) (by omega);refine Vo 1 (Z4 n0 q1 @MW @wv) ?_;refine Wc.forget (fun A=>A.n=167/\A.defers=[]/\A.get 0=.slice (some (aadd (own kb) 1)) nd c/\A.get 4=.int .i64 (i:Nat)/\A.get 12=.int .u32 (v:Nat)) (by and_intros<;>simp +decide only[Gs,n0,d0,q0,q4]<;>rfl) ?_;rintro A0 ⟨n0,d0,q0,q4,q12⟩;refine Vo 1 (Z2 n0 q4) ?_;refine Wc.forget (fun A=>A.n=167/\A.defers=[]/\A.get 0=.slice (some (aadd (own kb) 1)) nd c/\A.get 4=.int .i64 (i:Nat)/\A.get 12=.int .u32 (v:Nat)/\A.get 99=.bool (decide ((i:Int)>=4))) (by and_intros<;>simp +decide only[Gs,n0,d0,q0,q4,q12]<;>rfl) ?_;rintro A0 ⟨n0,d0,q0,q4,q12,q99⟩
 repeat' (with_reducible apply Wc.seq)
 refine Wc.mono (Q:=fun ex A h=>ex=.normal/\A.n=167/\A.defers=[]/\A.get 0=.slice (some (aadd (own kb) 1)) nd c/\∃ i v d,A.get 4=.int .i64 (i:Nat)/\A.get 12=.int .u32 (v:Nat)/\i<4/\Lib.FmtInv nd u i v d/\Row kb pre post d h/\Mod (fun k=>k=kb) g h) ?_ ?_
 ·by_cases h4:i<4
  ·have e4:decide ((i:Int)>=4)=false:=decide_eq_false (by omega);refine Vw (Z3 n0 q99 e4) ?_;exact⟨rfl,n0,d0,q0,i,v,dA,q4,q12,h4,FA,RA,MA⟩
  obtain⟨j,rfl⟩:∃ j,i=j+4:=⟨i-4,by omega⟩;have e4:decide (((j+4:Nat):Int)>=4)=true:=decide_eq_true (by omega);have r1:Bk .rem .u32 (v:Nat) 10000=some (.int .u32 ((v % 10000:Nat):Int)):=VF .u32 v 10000 (by decide);have r2:Bk .quo .u32 (v:Nat) 10000=some (.int .u32 ((v / 10000:Nat):Int)):=YB .u32 v 10000 (by decide) (Bs (by omega));have r5:Bk .quo .u32 ((v % 10000:Nat):Int) 100=some (.int .u32 ((v / 100 % 100:Nat):Int)):=by
   rw[show v / 100 % 100=v % 10000 / 100 by omega];exact YB .u32 _ 100 (by decide) (Bs (by omega))
  have r6:Bk .rem .u32 ((v % 10000:Nat):Int) 100=some (.int .u32 ((v % 100:Nat):Int)):=by
   rw[show v % 100=v % 10000 % 100 by omega];exact VF .u32 _ 100 (by decide)
  have m5:=Ta (v / 100 % 100) (by omega);have m6:=Ta (v % 100) (by omega);refine Vw (Z3 n0 q99 e4) ?_;refine VU 1 (Z3 n0 q12 @r1) ?_;refine VU 1 (Z3 n0 q12 @r2) ?_;refine VU 1 (Z5 n0 @r5 @r6 @m5 @m6) ?_;refine Wc.forget (fun A=>A.n=167/\A.defers=[]/\A.get 0=.slice (some (aadd (own kb) 1)) nd c/\A.get 4=.int .i64 ((j+4:Nat):Int)/\A.get 12=.int .u32 ((v / 10000:Nat):Int)/\A.get 14=.int .u32 ((v / 100 % 100*2:Nat):Int)/\A.get 15=.int .u32 ((v % 100*2:Nat):Int)) (by and_intros<;>simp +decide only[Gs,n0,d0,q0,q4]<;>rfl) ?_;rintro A0 ⟨n0,d0,q0,q4,q12,q14,q15⟩;have hz:=FA.size;have hpp:v % 100<100:=Nat.mod_lt _ (by decide);have w1:IntKind.i64.wrap (((j+4:Nat):Int)-1)=(((j+3):Nat):Int):=by rw[wrap64 (by omega) (by omega)];omega
  have w2:IntKind.i64.wrap (((j+4:Nat):Int)-2)=(((j+2):Nat):Int):=by rw[wrap64 (by omega) (by omega)];omega
  have wx:IntKind.u32.wrap (((v % 100*2:Nat):Int)+1)=((v % 100*2+1:Nat):Int):=Bs (x:=v % 100*2+1) (by omega);have hr1:AN (((j+3):Nat):Int) nd=true:=by show Nat.blt _ _=true;rw[P0];omega
  have hr2:AN (((j+2):Nat):Int) nd=true:=by show Nat.blt _ _=true;rw[P0];omega
  have x1:=ixS .u32 (v % 100*2+1) (by omega);have x2:=ixS .u32 (v % 100*2) (by omega);have s1:=Dr hp RA (j+3) (by omega) (Lib.sm (v % 100*2+1));have hk1:=MA.fit.lt RA;have R1:Row kb pre post _ (hA.aa kb (.cells (pre++bytesV (dA.setIfInBounds (j+3) (Lib.sm (v % 100*2+1))).toList++post) 198 none)):=Row.next;have M1:=MA.aa (k:=kb) (B:=.cells (pre++bytesV (dA.setIfInBounds (j+3) (Lib.sm (v % 100*2+1))).toList++post) 198 none) rfl rfl hk1;generalize hg1:hA.aa kb (.cells (pre++bytesV (dA.setIfInBounds (j+3) (Lib.sm (v % 100*2+1))).toList++post) 198 none)=g1 at R1 M1;have s2:=Dr hp R1 (j+2) (by rw[V4];omega) (Lib.sm (v % 100*2));have hk2:=M1.fit.lt R1;have FB:=FA.step2';have RB:Row kb pre post _ (g1.aa kb (.cells (pre++bytesV ((dA.setIfInBounds (j+3) (Lib.sm (v % 100*2+1))).setIfInBounds (j+2) (Lib.sm (v % 100*2))).toList++post) 198 none)):=Row.next;have MB:=M1.aa (k:=kb) (B:=.cells (pre++bytesV ((dA.setIfInBounds (j+3) (Lib.sm (v % 100*2+1))).setIfInBounds (j+2) (Lib.sm (v % 100*2))).toList++post) 198 none) rfl rfl hk2
  repeat' (with_reducible apply Wc.seq)
  refine Wc.ao 1 (by kernel_rfl) ?_
  (iterate 12 refine Ug (Z12 n0 q0 q4 q15 @w1 @w2 @wx (fun a c=>Fv a _ c _ hr1) @Hx @M0 @x1 @x2) ?_)
  refine FQ.aa (k:=kb) (B:=.cells (pre++bytesV (dA.setIfInBounds (j+3) (Lib.sm (v % 100*2+1))).toList++post) 198 none) (x:=undef) rfl rfl hk1 (by simp +decide only[Oy,n0,s1]) ?_;rw[hg1]
  (iterate 1 refine Ug (Z4 n0 (fun a c=>Fv a _ c _ hr2) @Hx @M0) ?_)
  refine FQ.aa (k:=kb) (B:=.cells (pre++bytesV ((dA.setIfInBounds (j+3) (Lib.sm (v % 100*2+1))).setIfInBounds (j+2) (Lib.sm (v % 100*2))).toList++post) 198 none) (x:=undef) rfl rfl hk2 (by simp +decide only[Oy,n0,s2]) ?_;refine FQ.nil ⟨?_,?_⟩
  ·exact Az [12,14] 15 [(3,12),(4,12),(5,12),(9,12),(10,12)] rfl rfl (by kernel_rfl) (fun _ _ _ _ hU e1 e2=>by simp only[O1,Prod.mk.injEq,C1,or_false] at hU;rcases hU with⟨rfl,rfl⟩|⟨rfl,rfl⟩|⟨rfl,rfl⟩|⟨rfl,rfl⟩|⟨rfl,rfl⟩<;>(cases e1;cases e2;exact AK (l:=[]) rfl rfl (fun _ _=>C1) rfl (fun j _=>P1 _ _)))
  generalize g1.aa kb (.cells (pre++bytesV ((dA.setIfInBounds (j+3) (Lib.sm (v % 100*2+1))).setIfInBounds (j+2) (Lib.sm (v % 100*2))).toList++post) 198 none)=hB at RB MB ⊢;generalize ((dA.setIfInBounds (j+3) (Lib.sm (v % 100*2+1))).setIfInBounds (j+2) (Lib.sm (v % 100*2)))=dB at FB RB;clear w1 w2 wx hr1 hr2 x1 x2 s1 s2 R1 M1 hk1 hk2 hg1 hz hpp;refine Wc.forget (fun A=>A.n=167/\A.defers=[]/\A.get 0=.slice (some (aadd (own kb) 1)) nd c/\A.get 4=.int .i64 ((j+4:Nat):Int)/\A.get 12=.int .u32 ((v / 10000:Nat):Int)/\A.get 14=.int .u32 ((v / 100 % 100*2:Nat):Int)) (by and_intros<;>simp +decide only[Gs,n0,d0,q0,q4,q12,q14,q15]<;>rfl) ?_;rintro A0 ⟨n0,d0,q0,q4,q12,q14⟩;have hz:=FB.size;have hpp:(v / 100) % 100<100:=Nat.mod_lt _ (by decide);have w1:IntKind.i64.wrap (((j+4:Nat):Int)-3)=(((j+1):Nat):Int):=by rw[wrap64 (by omega) (by omega)];omega
  have w2:IntKind.i64.wrap (((j+4:Nat):Int)-4)=((j:Nat):Int):=by rw[wrap64 (by omega) (by omega)];omega
  have wx:IntKind.u32.wrap ((((v / 100) % 100*2:Nat):Int)+1)=(((v / 100) % 100*2+1:Nat):Int):=Bs (x:=(v / 100) % 100*2+1) (by omega);have hr1:AN (((j+1):Nat):Int) nd=true:=by show Nat.blt _ _=true;rw[P0];omega
  have hr2:AN ((j:Nat):Int) nd=true:=by show Nat.blt _ _=true;rw[P0];omega
  have x1:=ixS .u32 ((v / 100) % 100*2+1) (by omega);have x2:=ixS .u32 ((v / 100) % 100*2) (by omega);have s1:=Dr hp RB (j+1) (by omega) (Lib.sm ((v / 100) % 100*2+1));have hk1:=MB.fit.lt RB;have R1:Row kb pre post _ (hB.aa kb (.cells (pre++bytesV (dB.setIfInBounds (j+1) (Lib.sm ((v / 100) % 100*2+1))).toList++post) 198 none)):=Row.next;have M1:=MB.aa (k:=kb) (B:=.cells (pre++bytesV (dB.setIfInBounds (j+1) (Lib.sm ((v / 100) % 100*2+1))).toList++post) 198 none) rfl rfl hk1;generalize hg1:hB.aa kb (.cells (pre++bytesV (dB.setIfInBounds (j+1) (Lib.sm ((v / 100) % 100*2+1))).toList++post) 198 none)=g1 at R1 M1;have s2:=Dr hp R1 j (by rw[V4];omega) (Lib.sm ((v / 100) % 100*2));have hk2:=M1.fit.lt R1;have FC:=FB.step2';have RC:Row kb pre post _ (g1.aa kb (.cells (pre++bytesV ((dB.setIfInBounds (j+1) (Lib.sm ((v / 100) % 100*2+1))).setIfInBounds j (Lib.sm ((v / 100) % 100*2))).toList++post) 198 none)):=Row.next;have MC:=M1.aa (k:=kb) (B:=.cells (pre++bytesV ((dB.setIfInBounds (j+1) (Lib.sm ((v / 100) % 100*2+1))).setIfInBounds j (Lib.sm ((v / 100) % 100*2))).toList++post) 198 none) rfl rfl hk2
  repeat' (with_reducible apply Wc.seq)
  refine Wc.ao 1 (by kernel_rfl) ?_
  (iterate 12 refine Ug (Z12 n0 q0 q4 q14 @w1 @w2 @wx (fun a c=>Fv a _ c _ hr1) @Hx @M0 @x1 @x2) ?_)
  refine FQ.aa (k:=kb) (B:=.cells (pre++bytesV (dB.setIfInBounds (j+1) (Lib.sm ((v / 100) % 100*2+1))).toList++post) 198 none) (x:=undef) rfl rfl hk1 (by simp +decide only[Oy,n0,s1]) ?_;rw[hg1]
  (iterate 1 refine Ug (Z4 n0 (fun a c=>Fv a _ c _ hr2) @Hx @M0) ?_)
  refine FQ.aa (k:=kb) (B:=.cells (pre++bytesV ((dB.setIfInBounds (j+1) (Lib.sm ((v / 100) % 100*2+1))).setIfInBounds j (Lib.sm ((v / 100) % 100*2))).toList++post) 198 none) (x:=undef) rfl rfl hk2 (by simp +decide only[Oy,n0,s2]) ?_;refine FQ.nil ⟨?_,?_⟩
  ·exact Az [12,14] 15 [(3,12),(4,12),(5,12),(9,12),(10,12)] rfl rfl (by kernel_rfl) (fun _ _ _ _ hU e1 e2=>by simp only[O1,Prod.mk.injEq,C1,or_false] at hU;rcases hU with⟨rfl,rfl⟩|⟨rfl,rfl⟩|⟨rfl,rfl⟩|⟨rfl,rfl⟩|⟨rfl,rfl⟩<;>(cases e1;cases e2;exact AK (l:=[]) rfl rfl (fun _ _=>C1) rfl (fun j _=>P1 _ _)))
  generalize g1.aa kb (.cells (pre++bytesV ((dB.setIfInBounds (j+1) (Lib.sm ((v / 100) % 100*2+1))).setIfInBounds j (Lib.sm ((v / 100) % 100*2))).toList++post) 198 none)=hC at RC MC ⊢;generalize ((dB.setIfInBounds (j+1) (Lib.sm ((v / 100) % 100*2+1))).setIfInBounds j (Lib.sm ((v / 100) % 100*2)))=dC at FC RC;clear w1 w2 wx hr1 hr2 x1 x2 s1 s2 R1 M1 hk1 hk2 hg1 hz hpp;refine Wc.forget (fun A=>A.n=167/\A.defers=[]/\A.get 0=.slice (some (aadd (own kb) 1)) nd c/\A.get 4=.int .i64 ((j+4:Nat):Int)/\A.get 12=.int .u32 ((v / 10000:Nat):Int)) (by and_intros<;>simp +decide only[Gs,n0,d0,q0,q4,q12]<;>rfl) ?_;rintro A0 ⟨n0,d0,q0,q4,q12⟩;have wj:IntKind.i64.wrap (((j+4:Nat):Int)-4)=(j:Int):=by rw[wrap64 (by omega) (by omega)];omega
  rw[show v / 100 / 100=v / 10000 by omega] at FC;refine Vw (Z3 n0 q4 @wj) ?_;exact⟨rfl,by simp +decide only[Gs,n0],by simp +decide only[Gs,d0],by simp +decide only[Gs,n0,q0],j,_,dC,by simp +decide only[Gs,n0],by simp +decide only[Gs,n0,q12],by omega,FC,RC,MC⟩
 rintro ex A0 hA ⟨rfl,n0,d0,q0,i,v,dA,q4,q12,hi,FA,RA,MA⟩;simp only[];have hv7:=FA.lt7 (by omega);have hle:=FA.le;refine Vo 1 (Z2 n0 q4) ?_;refine Wc.forget (fun A=>A.n=167/\A.defers=[]/\A.get 0=.slice (some (aadd (own kb) 1)) nd c/\A.get 4=.int .i64 (i:Nat)/\A.get 12=.int .u32 (v:Nat)/\A.get 139=.bool (decide ((i:Int)>=2))) (by and_intros<;>simp +decide only[Gs,n0,d0,q0,q4,q12]<;>rfl) ?_;rintro A0 ⟨n0,d0,q0,q4,q12,q139⟩
 repeat' (with_reducible apply Wc.seq)
 refine Wc.mono (Q:=fun ex A h=>ex=.normal/\A.n=167/\A.defers=[]/\A.get 0=.slice (some (aadd (own kb) 1)) nd c/\∃ i v d,A.get 4=.int .i64 (i:Nat)/\A.get 12=.int .u32 (v:Nat)/\i<2/\Lib.FmtInv nd u i v d/\Row kb pre post d h/\Mod (fun k=>k=kb) g h) ?_ ?_
 ·by_cases h4:i<2
  ·have e4:decide ((i:Int)>=2)=false:=decide_eq_false (by omega);refine Vw (Z3 n0 q139 e4) ?_;exact⟨rfl,n0,d0,q0,i,v,dA,q4,q12,h4,FA,RA,MA⟩
  obtain⟨j,rfl⟩:∃ j,i=j+2:=⟨i-2,by omega⟩;have e4:decide (((j+2:Nat):Int)>=2)=true:=decide_eq_true (by omega);have r1:Bk .rem .u32 (v:Nat) 100=some (.int .u32 ((v % 100:Nat):Int)):=VF .u32 v 100 (by decide);have r2:Bk .quo .u32 (v:Nat) 100=some (.int .u32 ((v / 100:Nat):Int)):=YB .u32 v 100 (by decide) (Bs (by omega));have m6:=Ta (v % 100) (by omega);refine Vw (Z3 n0 q139 e4) ?_;refine VU 1 (Z4 n0 q12 @r1 @m6) ?_;refine VU 1 (Z3 n0 q12 @r2) ?_;refine Wc.forget (fun A=>A.n=167/\A.defers=[]/\A.get 0=.slice (some (aadd (own kb) 1)) nd c/\A.get 4=.int .i64 ((j+2:Nat):Int)/\A.get 12=.int .u32 ((v / 100:Nat):Int)/\A.get 16=.int .u32 ((v % 100*2:Nat):Int)) (by and_intros<;>simp +decide only[Gs,n0,d0,q0,q4]<;>rfl) ?_;rintro A0 ⟨n0,d0,q0,q4,q12,q16⟩;have hz:=FA.size;have hpp:v % 100<100:=Nat.mod_lt _ (by decide);have w1:IntKind.i64.wrap (((j+2:Nat):Int)-1)=(((j+1):Nat):Int):=by rw[wrap64 (by omega) (by omega)];omega
  have w2:IntKind.i64.wrap (((j+2:Nat):Int)-2)=((j:Nat):Int):=by rw[wrap64 (by omega) (by omega)];omega
  have wx:IntKind.u32.wrap (((v % 100*2:Nat):Int)+1)=((v % 100*2+1:Nat):Int):=Bs (x:=v % 100*2+1) (by omega);have hr1:AN (((j+1):Nat):Int) nd=true:=by show Nat.blt _ _=true;rw[P0];omega
  have hr2:AN ((j:Nat):Int) nd=true:=by show Nat.blt _ _=true;rw[P0];omega
  have x1:=ixS .u32 (v % 100*2+1) (by omega);have x2:=ixS .u32 (v % 100*2) (by omega);have s1:=Dr hp RA (j+1) (by omega) (Lib.sm (v % 100*2+1));have hk1:=MA.fit.lt RA;have R1:Row kb pre post _ (hA.aa kb (.cells (pre++bytesV (dA.setIfInBounds (j+1) (Lib.sm (v % 100*2+1))).toList++post) 198 none)):=Row.next;have M1:=MA.aa (k:=kb) (B:=.cells (pre++bytesV (dA.setIfInBounds (j+1) (Lib.sm (v % 100*2+1))).toList++post) 198 none) rfl rfl hk1;generalize hg1:hA.aa kb (.cells (pre++bytesV (dA.setIfInBounds (j+1) (Lib.sm (v % 100*2+1))).toList++post) 198 none)=g1 at R1 M1;have s2:=Dr hp R1 j (by rw[V4];omega) (Lib.sm (v % 100*2));have hk2:=M1.fit.lt R1;have FB:=FA.step2';have RB:Row kb pre post _ (g1.aa kb (.cells (pre++bytesV ((dA.setIfInBounds (j+1) (Lib.sm (v % 100*2+1))).setIfInBounds j (Lib.sm (v % 100*2))).toList++post) 198 none)):=Row.next;have MB:=M1.aa (k:=kb) (B:=.cells (pre++bytesV ((dA.setIfInBounds (j+1) (Lib.sm (v % 100*2+1))).setIfInBounds j (Lib.sm (v % 100*2))).toList++post) 198 none) rfl rfl hk2
  repeat' (with_reducible apply Wc.seq)
  refine Wc.ao 1 (by kernel_rfl) ?_
  (iterate 12 refine Ug (Z12 n0 q0 q4 q16 @w1 @w2 @wx (fun a c=>Fv a _ c _ hr1) @Hx @M0 @x1 @x2) ?_)
  refine FQ.aa (k:=kb) (B:=.cells (pre++bytesV (dA.setIfInBounds (j+1) (Lib.sm (v % 100*2+1))).toList++post) 198 none) (x:=undef) rfl rfl hk1 (by simp +decide only[Oy,n0,s1]) ?_;rw[hg1]
  (iterate 1 refine Ug (Z4 n0 (fun a c=>Fv a _ c _ hr2) @Hx @M0) ?_)
  refine FQ.aa (k:=kb) (B:=.cells (pre++bytesV ((dA.setIfInBounds (j+1) (Lib.sm (v % 100*2+1))).setIfInBounds j (Lib.sm (v % 100*2))).toList++post) 198 none) (x:=undef) rfl rfl hk2 (by simp +decide only[Oy,n0,s2]) ?_;refine FQ.nil ⟨?_,?_⟩
  ·exact Az [12,14] 15 [(3,12),(4,12),(5,12),(9,12),(10,12)] rfl rfl (by kernel_rfl) (fun _ _ _ _ hU e1 e2=>by simp only[O1,Prod.mk.injEq,C1,or_false] at hU;rcases hU with⟨rfl,rfl⟩|⟨rfl,rfl⟩|⟨rfl,rfl⟩|⟨rfl,rfl⟩|⟨rfl,rfl⟩<;>(cases e1;cases e2;exact AK (l:=[]) rfl rfl (fun _ _=>C1) rfl (fun j _=>P1 _ _)))
  generalize g1.aa kb (.cells (pre++bytesV ((dA.setIfInBounds (j+1) (Lib.sm (v % 100*2+1))).setIfInBounds j (Lib.sm (v % 100*2))).toList++post) 198 none)=hB at RB MB ⊢;generalize ((dA.setIfInBounds (j+1) (Lib.sm (v % 100*2+1))).setIfInBounds j (Lib.sm (v % 100*2)))=dB at FB RB;clear w1 w2 wx hr1 hr2 x1 x2 s1 s2 R1 M1 hk1 hk2 hg1 hz hpp;refine Wc.forget (fun A=>A.n=167/\A.defers=[]/\A.get 0=.slice (some (aadd (own kb) 1)) nd c/\A.get 4=.int .i64 ((j+2:Nat):Int)/\A.get 12=.int .u32 ((v / 100:Nat):Int)) (by and_intros<;>simp +decide only[Gs,n0,d0,q0,q4,q12,q16]<;>rfl) ?_;rintro A0 ⟨n0,d0,q0,q4,q12⟩;have wj:IntKind.i64.wrap (((j+2:Nat):Int)-2)=(j:Int):=by rw[wrap64 (by omega) (by omega)];omega
  refine Vw (Z3 n0 q4 @wj) ?_;exact⟨rfl,by simp +decide only[Gs,n0],by simp +decide only[Gs,d0],by simp +decide only[Gs,n0,q0],j,_,dB,by simp +decide only[Gs,n0],by simp +decide only[Gs,n0,q12],by omega,FB,RB,MB⟩
 rintro ex A0 hA ⟨rfl,n0,d0,q0,i,v,dA,q4,q12,hi,FA,RA,MA⟩;simp only[];rcases Nat.eq_zero_or_pos i with rfl|hi0
 ·have e4:decide (((0:Nat):Int)>0)=false:=rfl;have hv:v=0:=by have:=FA.small;simpa using this
  subst hv;refine Vw (Z3 n0 q4 e4) ?_;refine⟨.inl rfl,hA,.tuple #[],(by simp +decide only[Gs,d0];rfl),by unfold ED;rfl,rfl,MA,dA,FA,RA⟩
 ·obtain rfl:i=1:=by omega
  have e4:decide (((1:Nat):Int)>0)=true:=rfl;have hv:v<10:=by have:=FA.small;simpa using this
  have hle:=FA.le;have hz:=FA.size;have wa:IntKind.u32.wrap (48+(v:Int))=((48+v:Nat):Int):=by
   rw[show (48+(v:Int))=((48+v:Nat):Int) by omega];exact Bs (by omega)
  have wb:IntKind.u8.wrap ((48+v:Nat):Int)=(((UInt8.ofNat (48+v)).toNat:Nat):Int):=by
   rw[show (UInt8.ofNat (48+v)).toNat=48+v by simp;omega];exact Ee (by omega)
  have hr:AN (0:Int) nd=true:=by show Nat.blt 0 nd=true;rw[P0];omega
  have s1:=ZC hp RA 0 (by omega) (UInt8.ofNat (48+v));have hk:=MA.fit.lt RA;have R1:Row kb pre post _ (hA.aa kb (.cells (pre++bytesV (dA.setIfInBounds 0 (UInt8.ofNat (48+v))).toList++post) 198 none)):=Row.next;have M1:=MA.aa (k:=kb) (B:=.cells (pre++bytesV (dA.setIfInBounds 0 (UInt8.ofNat (48+v))).toList++post) 198 none) rfl rfl hk;have F1:=FA.step1;have s1:AO tab 5 (aadd (own kb) (1+(0:Int).toNat*1)) (.int .u8 ((UInt8.ofNat (48+v)).toNat:Nat)) hA=_:=s1;refine Vw (Z11 n0 q0 q4 q12 e4 @wa @Wa @wb (fun a c=>Fv a _ c _ hr) @Hx @s1) ?_;exact⟨.inl rfl,_,.tuple #[],(by simp +decide only[Gs,d0];rfl),by unfold ED;rfl,rfl,M1,_,F1,R1⟩
theorem Mn:Lib.digits36=⟨[48,49,50,51,52,53,54,55,56,57,97,98,99,100,101,102,103,104,105,106,107,108,109,110,111,112,113,114,115,116,117,118,119,120,121,122].toArray⟩:=by kernel_rfl
theorem AFD {s:ByteArray} {p q:Nat} (h1:p<=q) (h2:q<=s.data.toList.length) {h:H}:Av tab 9 (.string s) (some (.int .i64 (p:Nat))) (some (.int .i64 (q:Nat))) none h=some (.string ⟨⟨(s.data.toList.drop p).take (q-p)⟩⟩,h):=by
 have e1:AN ((q:Nat):Int) (s.data.toList.length+1)=true:=by show Nat.blt q _=true;rw[P0];omega
 have e2:AN ((p:Nat):Int) (q+1)=true:=by show Nat.blt p _=true;rw[P0];omega
 unfold Av;rw[qty9];simp only[abound,e1,e2,M0]
theorem AEz (i:Nat) (hi:i<10) {h:H}:Av tab 9 (.string ⟨[48,49,50,51,52,53,54,55,56,57,97,98,99,100,101,102,103,104,105,106,107,108,109,110,111,112,113,114,115,116,117,118,119,120,121,122].toArray⟩) (some (.int .i64 (i:Nat))) (some (.int .i64 ((i+1:Nat):Int))) none h=some (.string ⟨⟨Lib.decDigits i⟩⟩,h):=by
 rw[<- Mn];have hl:Lib.digits36.data.toList.length=36:=Lib.digits36_size;rw[AFD (by omega) (by rw[hl];omega),Lib.digits36_piece hi]
theorem ABA (i:Nat) (h1:¬ i<10) (h2:i<100) {h:H}:Av tab 9 (.string ⟨(([48,48,48,49,48,50,48,51,48,52,48,53,48,54,48,55,48,56,48,57,49,48,49,49,49,50,49,51,49,52,49,53,49,54,49,55,49,56,49,57,50,48,50,49,50,50,50,51,50,52].append [50,53,50,54,50,55,50,56,50,57,51,48,51,49,51,50,51,51,51,52,51,53,51,54,51,55,51,56,51,57,52,48,52,49,52,50,52,51,52,52,52,53,52,54,52,55,52,56,52,57]).append ([53,48,53,49,53,50,53,51,53,52,53,53,53,54,53,55,53,56,53,57,54,48,54,49,54,50,54,51,54,52,54,53,54,54,54,55,54,56,54,57,55,48,55,49,55,50,55,51,55,52].append [55,53,55,54,55,55,55,56,55,57,56,48,56,49,56,50,56,51,56,52,56,53,56,54,56,55,56,56,56,57,57,48,57,49,57,50,57,51,57,52,57,53,57,54,57,55,57,56,57,57])).toArray⟩) (some (.int .i64 ((i*2:Nat):Int))) (some (.int .i64 ((i*2+2:Nat):Int))) none h=some (.string ⟨⟨Lib.decDigits i⟩⟩,h):=by
 rw[<- Jk];have hl:Lib.smalls.data.toList.length=200:=Lib.smalls_size;rw[AFD (by omega) (by rw[hl];omega),Lib.smalls_piece h1 h2]
theorem WS:∀ i:Fin 256,((([0,1,2,2,3,3,3,3,4,4,4,4,4,4,4,4,5,5,5,5,5,5,5,5,5,5,5,5,5,5,5,5,6,6,6,6,6,6,6,6,6,6,6,6,6,6,6,6,6,6,6,6,6,6,6,6,6,6,6,6,6,6,6,6].append [7,7,7,7,7,7,7,7,7,7,7,7,7,7,7,7,7,7,7,7,7,7,7,7,7,7,7,7,7,7,7,7,7,7,7,7,7,7,7,7,7,7,7,7,7,7,7,7,7,7,7,7,7,7,7,7,7,7,7,7,7,7,7,7]).append ([8,8,8,8,8,8,8,8,8,8,8,8,8,8,8,8,8,8,8,8,8,8,8,8,8,8,8,8,8,8,8,8,8,8,8,8,8,8,8,8,8,8,8,8,8,8,8,8,8,8,8,8,8,8,8,8,8,8,8,8,8,8,8,8].append [8,8,8,8,8,8,8,8,8,8,8,8,8,8,8,8,8,8,8,8,8,8,8,8,8,8,8,8,8,8,8,8,8,8,8,8,8,8,8,8,8,8,8,8,8,8,8,8,8,8,8,8,8,8,8,8,8,8,8,8,8,8,8,8])):List UInt8)[i.val]? = some (UInt8.ofNat (Lib.bitLen i.val)):=by decide +kernel
theorem ixL (i:Nat) (hi:i<256):CP tab 9 (.string ⟨(([0,1,2,2,3,3,3,3,4,4,4,4,4,4,4,4,5,5,5,5,5,5,5,5,5,5,5,5,5,5,5,5,6,6,6,6,6,6,6,6,6,6,6,6,6,6,6,6,6,6,6,6,6,6,6,6,6,6,6,6,6,6,6,6].append [7,7,7,7,7,7,7,7,7,7,7,7,7,7,7,7,7,7,7,7,7,7,7,7,7,7,7,7,7,7,7,7,7,7,7,7,7,7,7,7,7,7,7,7,7,7,7,7,7,7,7,7,7,7,7,7,7,7,7,7,7,7,7,7]).append ([8,8,8,8,8,8,8,8,8,8,8,8,8,8,8,8,8,8,8,8,8,8,8,8,8,8,8,8,8,8,8,8,8,8,8,8,8,8,8,8,8,8,8,8,8,8,8,8,8,8,8,8,8,8,8,8,8,8,8,8,8,8,8,8].append [8,8,8,8,8,8,8,8,8,8,8,8,8,8,8,8,8,8,8,8,8,8,8,8,8,8,8,8,8,8,8,8,8,8,8,8,8,8,8,8,8,8,8,8,8,8,8,8,8,8,8,8,8,8,8,8,8,8,8,8,8,8,8,8])).toArray⟩) (.int .u8 (i:Nat))=some (.int .u8 ((Lib.bitLen i:Nat):Int)):=by
 have h1:=WS ⟨i,hi⟩;have hb:=Lib.bitLen_le8 ⟨i,hi⟩;generalize hL:((([0,1,2,2,3,3,3,3,4,4,4,4,4,4,4,4,5,5,5,5,5,5,5,5,5,5,5,5,5,5,5,5,6,6,6,6,6,6,6,6,6,6,6,6,6,6,6,6,6,6,6,6,6,6,6,6,6,6,6,6,6,6,6,6].append [7,7,7,7,7,7,7,7,7,7,7,7,7,7,7,7,7,7,7,7,7,7,7,7,7,7,7,7,7,7,7,7,7,7,7,7,7,7,7,7,7,7,7,7,7,7,7,7,7,7,7,7,7,7,7,7,7,7,7,7,7,7,7,7]).append ([8,8,8,8,8,8,8,8,8,8,8,8,8,8,8,8,8,8,8,8,8,8,8,8,8,8,8,8,8,8,8,8,8,8,8,8,8,8,8,8,8,8,8,8,8,8,8,8,8,8,8,8,8,8,8,8,8,8,8,8,8,8,8,8].append [8,8,8,8,8,8,8,8,8,8,8,8,8,8,8,8,8,8,8,8,8,8,8,8,8,8,8,8,8,8,8,8,8,8,8,8,8,8,8,8,8,8,8,8,8,8,8,8,8,8,8,8,8,8,8,8,8,8,8,8,8,8,8,8])):List UInt8)=L at h1 ⊢;have h2:AN (i:Nat) L.length=true:=by
  show Nat.blt i _=true;rw[P0];exact (O0.1 h1).1
 have h3:L[i]? = some (UInt8.ofNat (Lib.bitLen i)):=h1;unfold CP;simp only[qty9,F3,h2,M0,h3];have:(UInt8.ofNat (Lib.bitLen i)).toNat=Lib.bitLen i:=by
  have h4:Lib.bitLen i<=8:=hb;simp;omega
 rw[this]
def XW (E:Env):Prop:=∀ i:Nat,i<20->E 3 i=some (.int .u64 ((10 ^ i:Nat):Int))
theorem AF2:tab.fn.get 93=some Tryz.f93:=by kernel_rfl
theorem AEH:tab.fn.get 119=some Tryz.f119:=by kernel_rfl
theorem ABz:tab.fn.get 135=some Tryz.f135:=by kernel_rfl
theorem AD2:tab.fn.get 141=some Tryz.f141:=by kernel_rfl
theorem AD1:tab.fn.get 142=some Tryz.f142:=by kernel_rfl
theorem ADx:tab.fn.get 147=some Tryz.f147:=by kernel_rfl
theorem ADw:tab.fn.get 148=some Tryz.f148:=by kernel_rfl
theorem ADv:tab.fn.get 149=some Tryz.f149:=by kernel_rfl
theorem ADZ (a:Nat):DF .shr .u64 (a:Nat) 32=some (.int .u64 ((a / 4294967296:Nat):Int)):=by
 show some (Value.int .u64 ((a:Int).fdiv 4294967296))=_;rw[D4 _ (by decide)];rfl
theorem ADb (a:Nat):DF .shr .u64 (a:Nat) 16=some (.int .u64 ((a / 65536:Nat):Int)):=by
 show some (Value.int .u64 ((a:Int).fdiv 65536))=_;rw[D4 _ (by decide)];rfl
theorem AFi (a:Nat):DF .shr .u64 (a:Nat) 8=some (.int .u64 ((a / 256:Nat):Int)):=by
 show some (Value.int .u64 ((a:Int).fdiv 256))=_;rw[D4 _ (by decide)];rfl
theorem ADa (a:Nat):DF .shr .i64 (a:Nat) 18=some (.int .i64 ((a / 262144:Nat):Int)):=by
 show some (Value.int .i64 ((a:Int).fdiv 262144))=_;rw[D4 _ (by decide)];rfl
theorem Tp (n:Int) {h:H}:AQ tab E 93 5 (.int .u64 n) h=some (.int .u8 (IntKind.u8.wrap n),h):=by unfold AQ;simp only[Vt,qty5]
theorem Yh (n:Int) {h:H}:AQ tab E 5 3 (.int .u8 n) h=some (.int .i64 (IntKind.i64.wrap n),h):=by unfold AQ;simp only[qty5,Rm]
theorem Zo (n:Int) {h:H}:AQ tab E 2 93 (.int .i64 n) h=some (.int .u64 (IntKind.u64.wrap n),h):=by unfold AQ;simp only[AE2,Vt]
theorem ABu (hI:∀ args h,I 148 args h=none) {h:H} (u:Nat) (hu:u<18446744073709551616) :
  ∃ n v h',(ev tab E I n).call 148 [.int .u64 (u:Nat)] h=some (v,h')/\(v=.int .i64 ((Lib.bitLen u:Nat):Int)/\h'=h):=by
 apply Wk (hI _ _) ADw rfl;intro A0 n0 d0 hA0;change A0.n=25 at n0;have q0:A0.get 0=.int .u64 (u:Nat):=hA0 0 _ rfl;clear hA0;refine Voz 1 n0 ?_;refine Voz 1 (Z2 n0 q0) ?_;refine Wc.forget (fun A=>A.n=25/\A.defers=[]/\A.get 0=.int .u64 (u:Nat)/\A.get 2=.int .i64 0/\A.get 4=.bool (decide ((u:Int)>=4294967296))) (by and_intros<;>simp +decide only[Gz,n0,d0,q0]<;>rfl) ?_;rintro A0 ⟨n0,d0,q0,q2,q4⟩;have key:∀ (b:Nat) (x:Nat),b<=56->x<256->Lib.bitLen x<=8:=fun b x _ hx=>Lib.bitLen_le8 ⟨x,hx⟩
 repeat' (with_reducible apply Wc.seq)
 refine Wc.mono (Q:=fun ex A g=>ex=.normal/\g=h/\A.n=25/\A.defers=[]/\∃ b x:Nat,A.get 0=.int .u64 (x:Nat)/\A.get 2=.int .i64 (b:Nat)/\b<=32/\x<4294967296/\Lib.bitLen u=b+Lib.bitLen x) ?_ ?_
 ·by_cases hc:4294967296<=u
  ·have e:decide ((u:Int)>=4294967296)=true:=decide_eq_true (by omega);refine Vwz (Z5 n0 q0 q4 @e @ADZ) ?_;exact⟨rfl,rfl,by simp +decide only[Gz,n0],by simp +decide only[Gz,d0],32,u / 4294967296,by simp +decide only[Gz,n0],by simp +decide only[Gz,n0];rfl,by decide,by omega,Lib.bitLen_shift32 u hc hu⟩
  ·have e:decide ((u:Int)>=4294967296)=false:=decide_eq_false (by omega);refine Vwz (Z4 n0 q0 q4 @e) ?_;exact⟨rfl,rfl,n0,d0,0,u,q0,q2,by decide,by omega,by omega⟩
 rintro ex A0 g ⟨rfl,rfl,n0,d0,b,x,q0,q2,hb,hx,he⟩;simp only[];refine Voz 1 (Z2 n0 q0) ?_;refine Wc.forget (fun A=>A.n=25/\A.defers=[]/\A.get 0=.int .u64 (x:Nat)/\A.get 2=.int .i64 (b:Nat)/\A.get 8=.bool (decide ((x:Int)>=65536))) (by and_intros<;>simp +decide only[Gz,n0,d0,q0,q2]<;>rfl) ?_;rintro A0 ⟨n0,d0,q0,q2,q8⟩
 repeat' (with_reducible apply Wc.seq)
 refine Wc.mono (Q:=fun ex A g'=>ex=.normal/\g'=g/\A.n=25/\A.defers=[]/\∃ b x:Nat,A.get 0=.int .u64 (x:Nat)/\A.get 2=.int .i64 (b:Nat)/\b<=48/\x<65536/\Lib.bitLen u=b+Lib.bitLen x) ?_ ?_
 ·by_cases hc:65536<=x
  ·have e:decide ((x:Int)>=65536)=true:=decide_eq_true (by omega);have w1:IntKind.i64.wrap ((b:Int)+16)=((b+16:Nat):Int):=wrap64 (by omega) (by omega);refine Vwz (Z7 n0 q0 q2 q8 @e @ADb @w1) ?_;exact⟨rfl,rfl,by simp +decide only[Gz,n0],by simp +decide only[Gz,d0],b+16,x / 65536,by simp +decide only[Gz,n0],by simp +decide only[Gz,n0],by omega,by omega,by rw[he,Lib.bitLen_shift16 x hc (by omega)];omega⟩
  ·have e:decide ((x:Int)>=65536)=false:=decide_eq_false (by omega);refine Vwz (Z4 n0 q0 q8 @e) ?_;exact⟨rfl,rfl,n0,d0,b,x,q0,q2,by omega,by omega,he⟩
 rintro ex A0 g' ⟨rfl,hg,n0,d0,b,x,q0,q2,hb,hx,he⟩;simp only[];rw[hg];refine Voz 1 (Z2 n0 q0) ?_;refine Wc.forget (fun A=>A.n=25/\A.defers=[]/\A.get 0=.int .u64 (x:Nat)/\A.get 2=.int .i64 (b:Nat)/\A.get 14=.bool (decide ((x:Int)>=256))) (by and_intros<;>simp +decide only[Gz,n0,d0,q0,q2]<;>rfl) ?_;rintro A0 ⟨n0,d0,q0,q2,q14⟩
 repeat' (with_reducible apply Wc.seq)
 refine Wc.mono (Q:=fun ex A g'=>ex=.normal/\g'=g/\A.n=25/\A.defers=[]/\∃ b x:Nat,A.get 0=.int .u64 (x:Nat)/\A.get 2=.int .i64 (b:Nat)/\b<=56/\x<256/\Lib.bitLen u=b+Lib.bitLen x) ?_ ?_
 ·by_cases hc:256<=x
  ·have e:decide ((x:Int)>=256)=true:=decide_eq_true (by omega);have w1:IntKind.i64.wrap ((b:Int)+8)=((b+8:Nat):Int):=wrap64 (by omega) (by omega);refine Vwz (Z7 n0 q0 q2 q14 @e @AFi @w1) ?_;exact⟨rfl,rfl,by simp +decide only[Gz,n0],by simp +decide only[Gz,d0],b+8,x / 256,by simp +decide only[Gz,n0],by simp +decide only[Gz,n0],by omega,by omega,by rw[he,Lib.bitLen_shift8 x hc (by omega)];omega⟩
  ·have e:decide ((x:Int)>=256)=false:=decide_eq_false (by omega);refine Vwz (Z4 n0 q0 q14 @e) ?_;exact⟨rfl,rfl,n0,d0,b,x,q0,q2,by omega,by omega,he⟩
 rintro ex A0 g' ⟨rfl,hg',n0,d0,b,x,q0,q2,hb,hx,he⟩;simp only[];rw[hg'];have hx8:=key b x hb hx;have w8:=Ee (x:=x) hx;have wl:IntKind.i64.wrap ((Lib.bitLen x:Nat):Int)=((Lib.bitLen x:Nat):Int):=wrap64 (by omega) (by omega);have wr:IntKind.i64.wrap ((b:Int)+((Lib.bitLen x:Nat):Int))=((Lib.bitLen u:Nat):Int):=by rw[he,wrap64 (by omega) (by omega)];omega
 repeat' (first|with_reducible apply Ws|(apply Wp;focus ((repeat ((with_reducible apply Rr rfl);focus ((try simp +decide only[Oz,n0,q0,q2,Tp,w8,ixL _ hx,Yh,wl,wr]);with_reducible rfl)));with_reducible exact Rn))|(refine W2 (by simp +decide only[Cz,n0,q0,q2,Tp,w8,ixL _ hx,Yh,wl,wr];try with_reducible rfl) (fun hb=>?_) (fun hb=>?_)<;>try contradiction)|apply W3|apply W4|apply W5|apply W6)
 exact AW (v:=.int .i64 ((Lib.bitLen u:Nat):Int)) (.inr rfl) (S0z d0) rfl (S0z n0) ⟨rfl,rfl⟩
theorem ABr (hI:∀ args h,I 147 args h=none) {h:H} (x:Nat) (hx:x<=64) :
  ∃ n v h',(ev tab E I n).call 147 [.int .i64 (x:Nat)] h=some (v,h')/\(v=.int .i64 ((Lib.l10 x:Nat):Int)/\h'=h):=by
 apply Wk (hI _ _) ADx rfl;intro A0 n0 d0 hA0;change A0.n=6 at n0;have q0:A0.get 0=.int .i64 (x:Nat):=hA0 0 _ rfl;clear hA0;have w1:IntKind.i64.wrap ((x:Int)*78913)=((x*78913:Nat):Int):=by rw[wrap64 (by omega) (by omega)];omega
 refine Vwz (Z4 n0 q0 @w1 @ADa) ?_;exact AW (v:=.int .i64 ((Lib.l10 x:Nat):Int)) (.inr rfl) (S0z d0) rfl (by simp +decide only[Gz,n0];rfl) ⟨rfl,rfl⟩
theorem AAM (hI:∀ args h,I 149 args h=none) {h:H} (b:Bool) :
  ∃ n v h',(ev tab E I n).call 149 [.bool b] h=some (v,h')/\(v=.int .i64 (if b=true then 1 else 0)/\h'=h):=by
 apply Wk (hI _ _) ADv rfl;intro A0 n0 d0 hA0;change A0.n=4 at n0;have q0:A0.get 0=.bool b:=hA0 0 _ rfl;clear hA0;cases b with
 | true=>
  refine Vwz (Z2 n0 q0) ?_;exact AW (v:=.int .i64 1) (.inr rfl) (S0z d0) rfl (S0z n0) ⟨rfl,rfl⟩
 | false=>
  refine Vwz (Z2 n0 q0) ?_;exact AW (v:=.int .i64 0) (.inr rfl) (S0z d0) rfl (S0z n0) ⟨rfl,rfl⟩
theorem UR (hT:XW E) (hI:∀ f args h,(f=142\/f=148\/f=147\/f=149)->I f args h=none) {h:H} (u:Nat) (h1:1<=u) (hu:u<18446744073709551616) :
  ∃ n v h',(ev tab E I n).call 142 [.int .u64 (u:Nat)] h=some (v,h')/\(v=.int .i64 ((Lib.nDigits u:Nat):Int)/\h'=h):=by
 obtain⟨e1,e2⟩:=Lib.numDigits_eq u h1 hu;have hL:Lib.bitLen u<=64:=Lib.bitLen_le u 64 (C0 _) hu;obtain⟨n1,v1,g1,c1,rfl,rfl⟩:=ABu (E:=E) (I:=I) (fun args h=>hI _ args h (by simp)) (h:=h) u hu;obtain⟨n2,v2,g2,c2,rfl,f2⟩:=ABr (E:=E) (I:=I) (fun args h=>hI _ args h (by simp)) (h:=g1) (Lib.bitLen u) hL;rw[f2] at c2;obtain⟨n3,v3,g3,c3,e3,f3⟩:=AAM (E:=E) (I:=I) (fun args h=>hI _ args h (by simp)) (h:=g1) (decide ((u:Int)>=((10 ^ Lib.l10 (Lib.bitLen u):Nat):Int)));rw[e3,f3] at c3;have hir:AN ((Lib.l10 (Lib.bitLen u):Nat):Int) 20=true:=by
  show Nat.blt _ _=true;rw[P0];omega
 have lt:g1.cell E (aadd ⟨3,0,none⟩ (Lib.l10 (Lib.bitLen u)*1))=some (.int .u64 ((10 ^ Lib.l10 (Lib.bitLen u):Nat):Int)):=by
  simp only[H.cell,aadd,V2,Z1];rw[hT _ (by omega)];rfl
 have hnd:Lib.nDigits u<=20:=by
  rw[<- e1]
  split<;>omega
 have ws:IntKind.i64.wrap (((Lib.l10 (Lib.bitLen u):Nat):Int)+(if decide ((u:Int)>=((10 ^ Lib.l10 (Lib.bitLen u):Nat):Int))=true then 1 else 0))=((Lib.nDigits u:Nat):Int):=by
  rw[<- e1];by_cases hc:10 ^ Lib.l10 (Lib.bitLen u)<=u
  ·rw[if_pos (decide_eq_true (Int.ofNat_le.2 hc)),if_pos hc,wrap64 (by omega) (by omega)];rfl
  ·rw[if_neg (by rw[decide_eq_false (fun hh=>hc (Int.ofNat_le.1 hh))];simp),if_neg hc,wrap64 (by omega) (by omega)];rfl
 have c1f:=(AX (D:=tab) (E:=E) I (show n1<=n1+n2 by omega)).call c1;have c2f:=(AX (D:=tab) (E:=E) I (show n2<=n1+n2 by omega)).call c2;apply Wk (hI _ _ _ (.inl rfl)) AD1 rfl;intro A0 n0 d0 hA0;change A0.n=15 at n0;have q0:A0.get 0=.int .u64 (u:Nat):=hA0 0 _ rfl;clear hA0;refine Voz 1 n0 ?_;refine Voz (n1+n2) (Z4 n0 q0 @c1f @c2f) ?_;refine Voz n3 (Z8 n0 q0 (fun a=>ABa a _ hir) @M0 @Qi @lt @c3 @ws) ?_;refine Vwz n0 ?_;exact AW (v:=.int .i64 ((Lib.nDigits u:Nat):Int)) (.inr rfl) (S0z d0) rfl (S0z n0) ⟨rfl,rfl⟩
theorem Ve (hI:∀ args h,I 141 args h=none) {h:H} (i:Nat) (hi:i<100) :
  ∃ n v h',(ev tab E I n).call 141 [.int .i64 (i:Nat)] h=some (v,h')/\(v=.string ⟨⟨Lib.decDigits i⟩⟩/\h'=h):=by
 apply Wk (hI _ _) AD2 rfl;intro A0 n0 d0 hA0;change A0.n=15 at n0;have q0:A0.get 0=.int .i64 (i:Nat):=hA0 0 _ rfl;clear hA0;by_cases h10:i<10
 ·have e:decide ((i:Int)<10)=true:=decide_eq_true (by omega);have w1:IntKind.i64.wrap ((i:Int)+1)=((i+1:Nat):Int):=wrap64 (by omega) (by omega)
  repeat' (first|with_reducible apply Ws|(apply Wp;focus ((repeat ((with_reducible apply Rr rfl);focus ((try simp +decide only[Oz,n0,q0,e,w1,AEz i h10]);with_reducible rfl)));with_reducible exact Rn))|(refine W2 (by simp +decide only[Cz,n0,q0,e,w1,AEz i h10];try with_reducible rfl) (fun hb=>?_) (fun hb=>?_)<;>try contradiction)|apply W3|apply W4|apply W5|apply W6)
  exact AW (v:=.string ⟨⟨Lib.decDigits i⟩⟩) (.inr rfl) (S0z d0) rfl (S0z n0) ⟨rfl,rfl⟩
 ·have e:decide ((i:Int)<10)=false:=decide_eq_false (by omega);have w1:IntKind.i64.wrap ((i:Int)*2)=((i*2:Nat):Int):=by rw[wrap64 (by omega) (by omega)];omega
  have w2:IntKind.i64.wrap (((i*2:Nat):Int)+2)=((i*2+2:Nat):Int):=by rw[wrap64 (by omega) (by omega)];omega
  repeat' (first|with_reducible apply Ws|(apply Wp;focus ((repeat ((with_reducible apply Rr rfl);focus ((try simp +decide only[Oz,n0,q0,e,w1,w2,ABA i h10 hi]);with_reducible rfl)));with_reducible exact Rn))|(refine W2 (by simp +decide only[Cz,n0,q0,e,w1,w2,ABA i h10 hi];try with_reducible rfl) (fun hb=>?_) (fun hb=>?_)<;>try contradiction)|apply W3|apply W4|apply W5|apply W6)
  exact AW (v:=.string ⟨⟨Lib.decDigits i⟩⟩) (.inr rfl) (S0z d0) rfl (S0z n0) ⟨rfl,rfl⟩
theorem ADy:tab.fn.get 146=some Tryz.f146:=by kernel_rfl
theorem ADz:tab.fn.get 145=some Tryz.f145:=by kernel_rfl
theorem AD4:tab.fn.get 137=some Tryz.f137:=by kernel_rfl
theorem AEC:tab.fn.get 124=some Tryz.f124:=by kernel_rfl
noncomputable def N9:Code:=loopOf Tryz.f124
theorem VL (n:Int) {h:H}:AQ tab E 3 174 (.int .i64 n) h=some (.int .u64 (IntKind.u64.wrap n),h):=by unfold AQ;simp only[ACd,Xh]
theorem AEf (n:Nat) (h1:1<=n) (h2:n<=31):Bk .and .u64 ((18446744073709551616-n:Nat):Int) 31=some (.int .u64 ((32-n:Nat):Int)):=by
 have key:∀ n:Fin 31,IntKind.u64.wrap (((BitVec.ofInt IntKind.u64.bits ((18446744073709551616-(n.val+1):Nat):Int) &&& BitVec.ofInt IntKind.u64.bits 31).toNat:Nat):Int)=((32-(n.val+1):Nat):Int):=by decide +kernel
 have:=key ⟨n-1,by omega⟩;simp only[show n-1+1=n by omega] at this;exact congrArg (fun z=>some (Value.int .u64 z)) this
theorem ABD (hI:∀ args h,I 146 args h=none) {h:H} (x:BitVec 32) (n:Nat) (h1:1<=n) (h2:n<=31) :
  ∃ nf v h',(ev tab E I nf).call 146 [.int .u32 (x.toNat:Nat),.int .i64 (-(n:Int))] h=some (v,h')/\(v=.int .u32 ((Lz x n).toNat:Nat)/\h=h'):=by
 apply Wk (hI _ _) ADy rfl;intro A0 n0 d0 hA0;change A0.n=17 at n0;have q0:A0.get 0=.int .u32 (x.toNat:Nat):=hA0 0 _ rfl;have q1:A0.get 1=.int .i64 (-(n:Int)):=hA0 1 _ rfl;clear hA0;have w1:IntKind.u64.wrap (-(n:Int))=((18446744073709551616-n:Nat):Int):=by
  simp only[IntKind.wrap,IntKind.bits,IntKind.signed];simp;omega
 have a1:=AEf n h1 h2;have s1:=ABC x (32-n);have b1:Bk .sub .u64 32 ((32-n:Nat):Int)=some (.int .u64 ((n:Nat):Int)):=by
  show some (Value.int .u64 (IntKind.u64.wrap (32-((32-n:Nat):Int))))=_;rw[show (32:Int)-((32-n:Nat):Int)=(n:Int) by omega];simp only[IntKind.wrap,IntKind.bits,IntKind.signed];congr 2;simp;omega
 have s2:=ZF x n;have o1:=AE9 (x <<< (32-n)) (x >>> n);refine VU 1 n0 ?_;refine VU 1 (Z5 n0 q1 @VL @w1 @a1) ?_;refine VU 1 (Z6 n0 q0 @s1 @b1 @s2 @o1) ?_;refine Vw n0 ?_;exact AW (v:=.int .u32 ((Lz x n).toNat:Nat)) (.inr rfl) (S0 d0) rfl (by simp +decide only[Gs,n0];rfl) ⟨rfl,rfl⟩
theorem Nd (hI:∀ f args h,(f=145\/f=146)->I f args h=none) {h:H} (x:BitVec 32) (n:Nat) (h1:1<=n) (h2:n<=31) {k:Nat} (hk:h.blk k=some (.cells [.int .u32 (x.toNat:Nat)] 104 none)) :
  ∃ nf v h',(ev tab E I nf).call 145 [.int .i64 (n:Nat),.pointer (some (own k))] h=some (v,h')/\(v=.int .u32 ((Lz x n).toNat:Nat)/\h=h'):=by
 apply Wk (hI _ _ _ (.inl rfl)) ADz rfl;intro A0 n0 d0 hA0;change A0.n=8 at n0;have q0:A0.get 0=.int .i64 (n:Nat):=hA0 0 _ rfl;have q1:A0.get 1=.pointer (some (own k)):=hA0 1 _ rfl;clear hA0;have c0:h.cell E (own k)=some (.int .u32 (x.toNat:Nat)):=BJ hk;obtain⟨nr,_,_,cr,rfl,rfl⟩:=ABD (E:=E) (I:=I) (fun args h=>hI _ args h (.inr rfl)) (h:=h) x n h1 h2;have w1:IntKind.i64.wrap (0-(n:Int)) = -(n:Int):=by rw[wrap64 (by omega) (by omega)];omega
 refine Vo 1 n0 ?_;refine Vo nr (Z8 n0 q0 q1 @Zx @Hx @c0 @w1 @cr) ?_;refine Vw n0 ?_;exact AW (v:=.int .u32 ((Lz x n).toNat:Nat)) (.inr rfl) (S0 d0) rfl (S0 n0) ⟨rfl,rfl⟩
theorem WP (hI:∀ f args h,(f=137\/f=145\/f=146)->I f args h=none) {h:H} (f:Fit h) (a b c:Nat) (lost:Bool) (x:BitVec 32) (ha1:1<=a) (ha2:a<=31) (hb1:1<=b) (hb2:b<=31) (hc1:1<=c) (hc2:c<=31) :
  ∃ nf v h',(ev tab E I nf).call 137 [.agg ⟨[.int .i64 (a:Nat),.int .i64 (b:Nat),.int .i64 (c:Nat),.bool lost]⟩,.int .u32 (x.toNat:Nat)] h=some (v,h')/\(v=.int .u32 ((mixW a b c lost x).toNat:Nat)/\Ahd h h'):=by
 have hI145:∀ f args h,(f=145\/f=146)->I f args h=none:=fun f args h hf=>hI f args h (.inr hf);apply Wk (hI _ _ _ (.inl rfl)) AD4 rfl;intro A0 n0 d0 hA0;change A0.n=29 at n0;have q0:A0.get 0=.agg ⟨[.int .i64 (a:Nat),.int .i64 (b:Nat),.int .i64 (c:Nat),.bool lost]⟩:=hA0 0 _ rfl;have q1:A0.get 1=.int .u32 (x.toNat:Nat):=hA0 1 _ rfl;clear hA0;obtain⟨h1,hh1,t1,b1⟩:=nA f [.int .i64 (a:Nat),.int .i64 (b:Nat),.int .i64 (c:Nat),.bool lost] 194;generalize hh2:h1.new (.cells (Value.int .u32 (x.toNat:Nat)).cells.toList 104 none)=h2;have t2:Ahd h1 h2:=by rw[<- hh2];exact Ahd.aj t1.fit rfl
 have b2:h2.blk h1.next=some (.cells [.int .u32 (x.toNat:Nat)] 104 none):=by rw[<- hh2];exact AA rfl
 have b1:=t2.grows _ _ b1;have c0:h2.cell E (own h.next)=some (.int .i64 (a:Nat)):=BJ b1;have c1:h2.cell E (aadd (own h.next) 1)=some (.int .i64 (b:Nat)):=Aq b1 1;have c2:h2.cell E (aadd (own h.next) 2)=some (.int .i64 (c:Nat)):=Aq b1 2;have c3:h2.cell E (aadd (own h.next) 3)=some (.bool lost):=Aq b1 3;have x0:h2.cell E (own h1.next)=some (.int .u32 (x.toNat:Nat)):=BJ b2;obtain⟨na,_,_,ka,rfl,rfl⟩:=Nd (E:=E) (I:=I) hI145 (h:=fresh h2) x a ha1 ha2 b2;obtain⟨nb,_,_,kb,rfl,rfl⟩:=Nd (E:=E) (I:=I) hI145 (h:=fresh h2) x b hb1 hb2 b2;obtain⟨nc,_,_,kc,rfl,rfl⟩:=Nd (E:=E) (I:=I) hI145 (h:=h2) x c hc1 hc2 b2;have ka:=(AX (D:=tab) (E:=E) I (E4 na nb)).call ka;have kb:=(AX (D:=tab) (E:=E) I (C4 na nb)).call kb;have hrf:roF (.func 145)=true:=rfl;refine Vo 1 (Z5 n0 q0 q1 @hh1 @hh2) ?_;refine Vo 1 (Z2 n0 @hrf) ?_;refine Vo nc (Z6 n0 @Zx @Hx @c2 (@W0 Value) @kc) ?_;refine Vo 1 (Z4 n0 @Zx @Hx @c3) ?_;have x1:=Nb (Lz x a) (Lz x b);have hm:mixW a b c lost x=Lz x a ^^^ Lz x b ^^^ (if lost=true then x >>> c else Lz x c):=rfl;cases lost with
 | true=>
  have s1:=ZF x c;have x2:=Nb (Lz x a ^^^ Lz x b) (x >>> c);refine Vw (Z6 n0 @Zx @Hx @x0 @c2 @s1) ?_;refine Wc.al (max na nb) (by kernel_rfl) ?_
  (iterate 12 refine Uj (Z10 n0 @Zx @Hx @c0 @c1 (@W0 Value) @ka @kb @x1 @x2) ?_)
  refine FC.nil ?_;refine Vw n0 ?_;exact AW (v:=.int .u32 ((mixW a b c true x).toNat:Nat)) (.inr rfl) (S0 d0) rfl (by simp +decide only[Gs,n0];rfl) ⟨rfl,t1.trans t2⟩
 | false=>
  have x2:=Nb (Lz x a ^^^ Lz x b) (Lz x c);refine Vw n0 ?_;refine Wc.al (max na nb) (by kernel_rfl) ?_
  (iterate 12 refine Uj (Z10 n0 @Zx @Hx @c0 @c1 (@W0 Value) @ka @kb @x1 @x2) ?_)
  refine FC.nil ?_;refine Vw n0 ?_;exact AW (v:=.int .u32 ((mixW a b c false x).toNat:Nat)) (.inr rfl) (S0 d0) rfl (by simp +decide only[Gs,n0];rfl) ⟨rfl,t1.trans t2⟩
theorem Fj (hI:∀ args h,I 124 args h=none) {h:H} (l:List (BitVec 32)) (hl:l.length<=1000) {k c:Nat} {r:Option (Nat×Nat)} (hk:h.blk k=some (.cells (AE l) 104 r)) :
  ∃ nf v h',(ev tab E I nf).call 124 [.slice (some (own k)) l.length c] h=some (v,h')/\(v=.int .u32 ((sumW l).toNat:Nat)/\h=h'):=by
 have key:∀ (rr i:Nat) (s:BitVec 32) (A0:Ac),rr=l.length-i->i<=l.length->A0.n=17->A0.defers=[]->A0.get 3=.int .u32 (s.toNat:Nat)->A0.get 6=.slice (some (own k)) l.length c->A0.get 7=.int .i64 (l.length:Nat)->A0.get 8=.int .i64 (i:Nat)->(l.drop i).foldl (· + ·) s=sumW l->
   Wc tab E I ⟨124,none⟩ (.loop N9) A0 h (fun ex A' h'=>ex=.exit 0/\h=h'/\A'.n=17/\A'.defers=[]/\A'.get 3=.int .u32 ((sumW l).toNat:Nat)):=by
  intro rr;induction rr with
  | zero=>
   intro i s A0 hr hi n0 d0 q3 q6 q7 q8 he;obtain rfl:i=l.length:=by omega
   have e1:decide ((l.length:Int)<(l.length:Int))=false:=decide_eq_false (by omega);rw[T6,List.foldl_nil] at he;subst he;apply Wc.loop;simp only[N9,loopOf,firstLoop,Option.getD,Tryz.f124];refine Vw (Z4 n0 q7 q8 e1) ?_;exact⟨rfl,rfl,by simp +decide only[Gs,n0],by simp +decide only[Gs,d0],by simp +decide only[Gs,n0,q3]⟩
  | succ rr ih=>
   intro i s A0 hr hi n0 d0 q3 q6 q7 q8 he;have hil:i<l.length:=by omega
   have e1:decide ((i:Int)<(l.length:Int))=true:=decide_eq_true (by omega);have w1:IntKind.i64.wrap ((i:Int)+1)=((i+1:Nat):Int):=wrap64 (by omega) (by omega);have hir:AN (i:Int) l.length=true:=by
    show Nat.blt i _=true;rw[P0];exact hil
   have ix:=AAp (own k) l.length c i hir;rw[M0,V2] at ix;have ld:h.cell E (aadd (own k) i)=some (.int .u32 ((l[i]).toNat:Nat)):=by
    have:=Aq (E:=E) hk i;rw[this,Gq (Q0 hil)];rfl
   have a1:=AEk s l[i];rw[H2 hil,L6] at he;apply Wc.loop;simp only[N9,loopOf,firstLoop,Option.getD,Tryz.f124]
   repeat' (first|(with_reducible apply Wc.seq)|refine Wc.block ?_)
   refine Vo 1 (Z4 n0 q7 q8 e1) ?_;refine Wc.forget (fun A=>A.n=17/\A.defers=[]/\A.get 3=.int .u32 (s.toNat:Nat)/\A.get 6=.slice (some (own k)) l.length c/\A.get 7=.int .i64 (l.length:Nat)/\A.get 8=.int .i64 (i:Nat)/\A.get 9=.bool true) (by and_intros<;>simp +decide only[Gs,n0,d0,q3,q6,q7,q8]<;>rfl) ?_;rintro A0 ⟨n0,d0,q3,q6,q7,q8,q9⟩
   repeat' (first|(with_reducible apply Wc.seq)|refine Wc.block ?_)
   (refine W2 (by simp +decide only[Cx,n0,q9];try with_reducible rfl) (fun hb=>?_) (fun hb=>?_)<;>try contradiction)
   refine Wc.skip ?_
   repeat' (first|(with_reducible apply Wc.seq)|refine Wc.block ?_)
   refine Vo 1 (Z7 n0 q6 q8 @Zx @Hx @ix @ld) ?_;refine VU 1 (Z3 n0 q3 @a1) ?_;refine Vo 1 (Z3 n0 q8 @w1) ?_;refine ih (i+1) (s+l[i]) _ (by omega) (by omega) ?_ ?_ ?_ ?_ ?_ ?_ he
   ·simp +decide only[Gs,n0]
   ·simp +decide only[Gs,d0]
   ·simp +decide only[Gs,n0]
   ·simp +decide only[Gs,n0,q6]
   ·simp +decide only[Gs,n0,q7]
   ·simp +decide only[Gs,n0]
 apply Wk (hI _ _) AEC rfl;intro A0 n0 d0 hA0;change A0.n=17 at n0;have q0:A0.get 0=.slice (some (own k)) l.length c:=hA0 0 _ rfl;clear hA0;refine Vw (Z3 n0 q0 @NY) ?_;refine (key l.length 0 0 _ rfl (by omega) ?_ ?_ ?_ ?_ ?_ ?_ rfl).mono ?_
 ·simp +decide only[Gs,n0]
 ·simp +decide only[Gs,d0]
 ·simp +decide only[Gs,n0];rfl
 ·simp +decide only[Gs,n0,q0]
 ·simp +decide only[Gs,n0]
 ·simp +decide only[Gs,n0];rfl
 rintro ex A1 h' ⟨rfl,rfl,n1,d1,a3⟩;simp only[if_true];refine Vw (Z2 @n1 @a3) ?_;exact AW (v:=.int .u32 ((sumW l).toNat:Nat)) (.inr rfl) (S0 @d1) rfl (S0 @n1) ⟨rfl,rfl⟩
theorem ty3:tab.ty.get 3=some ⟨.int .i64,1,8,some (.int .i64 0),true⟩:=by kernel_rfl
theorem ty9:tab.ty.get 9=some ⟨.string,1,16,some (.string ⟨#[]⟩),true⟩:=by kernel_rfl
theorem Xz:tab.ty.get 22=some ⟨.slice 24 4 56,1,24,some (.slice none 0 0),true⟩:=by kernel_rfl
theorem VY:tab.ty.get 24=some ⟨.struct [(0,3,1),(1,3,1),(2,9,1),(3,22,1)],4,56,some (.agg #[.int .i64 0,.int .i64 0,.string ⟨#[]⟩,.slice none 0 0]),true⟩:=by kernel_rfl
theorem AC0:tab.ty.get 30=some ⟨.int .i64,1,8,some (.int .i64 0),true⟩:=by kernel_rfl
variable {E:Env} {h:H}
theorem ld3 (a:Addr):AI tab E 3 a h=h.cell E a:=by unfold AI;rw[ty3];rfl
theorem ld9 (a:Addr):AI tab E 9 a h=h.cell E a:=by unfold AI;rw[ty9];rfl
theorem ld23 (a:Addr):AI tab E 22 a h=h.cell E a:=by unfold AI;rw[Xz];rfl
theorem MS (a:Addr):AI tab E 24 a h=match h.cells E a 4 with|some cs=>some (.agg ⟨cs⟩)|none=>none:=by unfold AI;rw[VY];rfl
theorem Ej (a:Addr):AC tab 24 (.pointer (some a)) 0=some (.pointer (some (aadd a 0))):=by unfold AC;rw[VY];rfl
theorem EM (a:Addr):AC tab 24 (.pointer (some a)) 1=some (.pointer (some (aadd a 1))):=by unfold AC;rw[VY];rfl
theorem GZ (a:Addr):AC tab 24 (.pointer (some a)) 2=some (.pointer (some (aadd a 2))):=by unfold AC;rw[VY];rfl
theorem EL (a:Addr):AC tab 24 (.pointer (some a)) 3=some (.pointer (some (aadd a 3))):=by unfold AC;rw[VY];rfl
theorem len23 (b:Option Addr) (n c:Nat):Cp tab 22 (.slice b n c) h=some (.int .i64 n):=by unfold Cp;rw[Xz]
theorem AFB (s:ByteArray):Cp tab 9 (.string s) h=some (.int .i64 (s.data.toList.length:Nat)):=by unfold Cp;rw[ty9]
theorem Ts (a:Addr) (n c:Nat) (i:Int) (hi:AN i n=true):AL tab 22 (.slice (some a) n c) (.int .i64 i)=some (.pointer (some (aadd a (i.toNat*4)))):=by unfold AL;simp only[Xz,hi]
set_option maxHeartbeats 4000000
variable {E:Env} {I:Aa}
theorem ex0 (a b:Value):(#[a,b]:Array Value).toList[0]? = some a:=rfl
theorem ex1 (a b:Value):(#[a,b]:Array Value).toList[1]? = some b:=rfl
/-! ### levels -/
theorem tz25:Ak tab 24=some (.agg #[.int .i64 0,.int .i64 0,.string ⟨#[]⟩,.slice none 0 0]):=by unfold Ak;rw[VY]
theorem AFK (b:Option Addr) (n c:Nat):Ax tab 22 (.slice b n c)=some false:=by unfold Ax;rw[Xz]
theorem AGk (a b c d:Value) (h1:[a,b,c,d].all isOne=true) {h:H}:AH tab 22 1 [(0,.agg ⟨[a,b,c,d]⟩)] h=some (.slice (some (own h.next)) 1 1,h.new (.cells [a,b,c,d] 24 none)):=by
 unfold AH;simp only[Xz,tz25];rfl
theorem Xy:tab.ty.get 25=some ⟨.slice 3 1 8,1,24,some (.slice none 0 0),true⟩:=by kernel_rfl
theorem AGf:tab.fn.get 18=some Tryz.f18:=by kernel_rfl
theorem AGR:tab.fn.get 56=some Tryz.f56:=by kernel_rfl
theorem AGQ:tab.fn.get 57=some Tryz.f57:=by kernel_rfl
theorem AGP:tab.fn.get 58=some Tryz.f58:=by kernel_rfl
theorem AF9:tab.fn.get 86=some Tryz.f86:=by kernel_rfl
theorem tz3:Ak tab 3=some (.int .i64 0):=by unfold Ak;rw[ty3]
theorem AFJ (b:Option Addr) (n c:Nat):Ax tab 25 (.slice b n c)=some false:=by unfold Ax;rw[Xy]
theorem AGj (i:Int) {h:H}:AH tab 25 1 [(0,.int .i64 i)] h=some (.slice (some (own h.next)) 1 1,h.new (.cells [.int .i64 i] 3 none)):=by
 unfold AH;simp only[Xy,tz3];rfl
theorem ABt {h:H} (b:Option Addr) (n c:Nat):Cp tab 25 (.slice b n c) h=some (.int .i64 n):=by unfold Cp;rw[Xy]
theorem AAY (a:Addr) (n c:Nat) (i:Int) (hi:AN i n=true):AL tab 25 (.slice (some a) n c) (.int .i64 i)=some (.pointer (some (aadd a (i.toNat*1)))):=by unfold AL;simp only[Xy,hi]
def ints:Nat->List Value
 | 0=>[]
 | n+1=>ints n++[.int .i64 (n:Nat)]
theorem EY:∀ n,(ints n).length=n
 | 0=>rfl
 | n+1=>by rw[ints,D0,EY n];rfl
theorem Pp:∀ (n i:Nat),i<n->(ints n)[i]? = some (.int .i64 (i:Nat))
 | 0,i,h=>by omega
 | n+1,i,h=>by
  rw[ints];by_cases hi:i<n
  ·rw[O4 (by rw[EY];exact hi)];exact Pp n i hi
  ·have:i=n:=by omega
   subst this;rw[P6 (by rw[EY];exact C0 _),EY,Nat.sub_self];rfl
def U7 (h:H) (v:Value) (n:Nat):Prop:=(n=0/\v=.slice none 0 0)\/∃ k rt,v=.slice (some (own k)) n n/\h.blk k=some (.cells (ints n) 3 rt)
/-! ### upto -/
noncomputable def Tg:Code:=loopOf Tryz.f57
theorem AAu (hI:∀ args h,I 57 args h=none) (N:Nat) (hN:N<=1000000) (h:H) (hfit:Fit h) :
  ∃ n v h',(ev tab E I n).call 57 [.int .i64 (N:Nat)] h=some (v,h')/\(Ahd h h'/\U7 h' v N):=by
 refine Wc.call (hI _ _) AGQ rfl ?_;generalize hA0:(⟨T.ofList [.int .i64 (N:Nat)] 0 .nil,max ([.int .i64 (N:Nat)]:List Value).length Tryz.f57.ntmps,[]⟩:Ac)=A0;have n0:A0.n=15:=by rw[<- hA0];rfl
 have g00:A0.get 0=.int .i64 (N:Nat):=by rw[<- hA0];rfl
 have d0:A0.defers=[]:=by rw[<- hA0]
 have key:∀ (r i:Nat) (s:Value) (ro:Option Nat) (A:Ac) (g:H),r=N-i->i<=N->A.n=15->A.defers=[]->A.get 3=s->A.get 5=.int .i64 (N:Nat)->A.get 6=.int .i64 (i:Nat)->Ahd h g->Ap g h.next 3 1 s i (ints i) ro->
   Wc tab E I ⟨57,none⟩ (.loop Tg) A g (fun ex A' g'=>ex=.exit 0/\A'.n=15/\A'.defers=[]/\∃ s ro,A'.get 3=s/\Ahd h g'/\Ap g' h.next 3 1 s N (ints N) ro):=by
  intro r;induction r with
  | zero=>
   intro i s ro A g hr' hi nA dA p3 p5 p6 ah ap;have hil:i=N:=by omega
   have hlt:decide ((i:Int)<(N:Int))=false:=by simp;omega
   apply Wc.loop;simp only[Tg,loopOf,firstLoop,Option.getD,Tryz.f57];refine Vwz (Z5 nA p3 p5 p6 @hlt) ?_;refine⟨rfl,by simp +decide only[Gz,nA],by simp +decide only[Gz,dA],s,ro,by simp +decide only[Gz,nA,p3],ah,?_⟩;rw[hil] at ap;exact ap
  | succ r ih=>
   intro i s ro A g hr' hi nA dA p3 p5 p6 ah ap;have hil:i<N:=by omega
   have hlt:decide ((i:Int)<(N:Int))=true:=by simp;omega
   have w3:IntKind.i64.wrap ((i:Int)+1)=(i:Int)+1:=wrap64 (by omega) (by omega);have hbs:=AGj (i:Nat) (h:=g);generalize hg2:g.new (.cells [.int .i64 (i:Nat)] 3 none)=g2 at hbs;have ah2:Ahd g g2:=by rw[<- hg2];exact Ahd.aj ah.fit rfl
   have hx2:g2.cells E (own g.next) 1=some [.int .i64 (i:Nat)]:=by rw[<- hg2];exact Ua rfl rfl
   have ahT:Ahd h g2:=ah.trans ah2;have hro:∀ r,ro=some r->h.next<=r/\r<g.next:=by
    intro r hr;rcases ap with ap|⟨kk,rr,_,e2,_,_,e5,_,e7⟩
    ·rw[ap.2.2.2] at hr;cases hr
    ·rw[e7] at hr;cases hr;exact⟨e5,ah.fit.ok.1 _ _ _ _ _ (H.ae e2)⟩
   have ap2:Ap g2 h.next 3 1 s i (ints i) ro:=by
    rcases ap with ap|⟨kk,rr,e1,e2,e3,e4,e5,e6,e7⟩
    ·exact .inl ap
    ·refine .inr ⟨kk,rr,e1,ah2.grows _ _ e2,e3,e4,e5,?_,e7⟩;rw[ah2.chain rr (hro _ e7).2];exact e6
   have hrm:roomy (i+1) 8=true:=by
    unfold roomy;simp only[K0,Z0];omega
   obtain⟨s',g3,ro',happ,ap3,gw,_⟩:=AAP (E:=E) (t2:=25) (c:=1) ahT.fit (by rw[ahT.mark];exact hfit.ok.2) ahT.next ap2 Xy tz3 rfl (AFJ _ _ _) hx2 rfl rfl hrm;have ah3:Ahd h g3:=ahT.df hfit (fun r hr=>(hro r hr).1) gw;apply Wc.loop;simp only[Tg,loopOf,firstLoop,Option.getD,Tryz.f57];refine Vwz (Z8 nA p3 p5 p6 @hlt @hbs @happ @w3) ?_;refine (ih (i+1) s' ro' _ g3 (by omega) (by omega) ?_ ?_ ?_ ?_ ?_ ah3 ap3).mono ?_
   ·simp +decide only[Gz,nA]
   ·simp +decide only[Gz,dA]
   ·simp +decide only[Gz,nA]
   ·simp +decide only[Gz,nA,p5]
   ·simp +decide only[Gz,nA];rfl
   ·rintro ex A' h' ⟨rfl,e1⟩;exact⟨rfl,e1⟩
 refine Vwz (Z3 n0 g00 d0) ?_;refine (key N 0 (.slice none 0 0) none _ h rfl (C2 _) ?_ ?_ ?_ ?_ ?_ (Ahd.refl hfit) (.inl ⟨rfl,rfl,rfl,rfl⟩)).mono ?_
 ·simp +decide only[Gz,n0]
 ·simp +decide only[Gz,d0]
 ·simp +decide only[Gz,n0]
 ·simp +decide only[Gz,n0]
 ·simp +decide only[Gz,n0];rfl
 ·rintro ex A' g ⟨rfl,e1,e2,s,ro,e3,ah,ap⟩;simp only[if_true];refine Vwz (Z2 e1 e3) ?_;refine AW (v:=s) (.inr rfl) (S0z e2) rfl (S0z (Z2 e1 e3)) ⟨ah,?_⟩;rcases ap with ap|⟨kk,rr,q1,q2,_⟩
  ·exact .inl ⟨ap.1,ap.2.2.1⟩
  ·exact .inr ⟨kk,_,q1,q2⟩
/-! ### alike -/
def Cap (E:Env) (h:H) (t:Hs.Item) (p3 p4 p5:Value) (d:Int):Prop:=∃ k3 k4 k5 cs3 cs4,p3=.pointer (some (own k3))/\p4=.pointer (some (own k4))/\p5=.pointer (some (own k5))/\h.blk k3=some (.cells cs3 24 none)/\rep E h t (.agg ⟨cs3⟩)/\h.blk k4=some (.cells cs4 24 none)/\rep E h t (.agg ⟨cs4⟩)/\h.blk k5=some (.cells [.int .i64 d] 3 none)/\0<=d/\d+Cd t<=400/\isz t<=1000000
theorem Zm {k n:Int} {t:ByteArray} {ks:List Hs.Item} {x:Hs.Item} (h:x∈ks):Cd x+1<=Cd (.mk k n t ks):=by
 rw[Cd];have key:∀ (ks:List Hs.Item) (m:Int),0<=m->x∈ks->Cd x<=lvlL ks m:=by
  intro ks;induction ks with
  | nil=>intro m _ h;cases h
  | cons y ys ih=>
   intro m hm h;rw[lvlL];have hy:=CG y;rcases O1.1 h with rfl|h
   ·split
    ·exact (DO ys _ (by omega)).1
    ·have:=(DO ys m hm).1;omega
   ·split
    ·exact ih _ (by omega) h
    ·exact ih _ hm h
 have:=key ks 0 (Int.le_refl _) h;omega
noncomputable def Pn:Code:=loopOf Tryz.f86
theorem Dg {D:Tab} {E:Env} {I:Aa} {n:Nat} {f:FuncId} {args:List Value} {h:H} {r:Value×H} (hI:I f args h=some (some r)):(ev D E I (n+1)).call f args h=some r:=by
 show Dh D E I (ev D E I n) f args h=_;simp only[Dh,hI]
theorem Wh {D:Tab} {E:Env} {I:Aa} {n:Nat} {f:FuncId} {args:List Value} {h:H} {r:Value×H} (hc:(ev D E I n).call f args h=some r):(ev D E I (n+1)).call f args h=some r:=(AX I (U1 n)).call hc
end Go.Proofs.YtofijpbmbmbnhaaGreatDoor
