/- Operations: what the evaluator reckons is what the machine does. Values built; slices of slices. -/
import Derived.Test.YtofijpbmbmbnhaaGreatDoorHsaa
import Derived.Laws.Tables
import Derived.Deep.AppendSrc
import Derived.ChangeKeysEq
import Derived.Laws.IdiomStrings
set_option linter.unusedSimpArgs false
set_option linter.unusedVariables false
namespace Go.Hs
section ops
variable {P:Program} {D:Tab} {E:Env} {n0:Nat} {V:Nat->Prop} {φ:Ph} {h h':H} {w:World}
theorem Iz:∀ {l:List Field} {fs:List (Nat×TypeId×Nat)},fieldsOf P l=some fs->l.mapM (fun f=>(P.info? f.type).map fun i=>(f.offset,i.size))=some (fs.map fun x=>(x.1,x.2.2)):=by
 intro l;induction l with
 | nil=>intro fs h;simp only[fieldsOf] at h;cases h;rfl
 | cons f l ih=>
  intro fs h;simp only[fieldsOf] at h;split at h
  ·next i l' hi hl=>
   split at h
   ·cases h
   ·cases h;simp[List.mapM_cons,hi,ih hl]
  ·cases h
theorem RZ (T:D.Of P) {t:TypeId} {ps:List (Nat×Value)} {v:Value} (hp:∀ p∈ps,okV φ p.2) (hb:BX D t ps=some v) :
  (Instr.build t (ps.map fun p=>(p.1,ren φ p.2)).toArray).run P w=.ok (ren φ v) w/\okV φ v:=by
 have fin:∀ {z:Value} {place:Nat->Option (Nat×Nat)} {res:List Value},roV z=true->afill place z.cells.toList ps=some res->
   Instr.fill place z.cells (ps.map fun p=>(p.1,ren φ p.2))=some (res.map (ren φ)).toArray/\∀ x∈res,okV φ x:=by
  intro z place res hz hf;have hro:=EH hz;obtain⟨g1,g2⟩:=Pu ps z.cells.toList res hp (fun x hx=>(roV.ok φ (hro x hx)).1) hf;rw[CF hro] at g1;exact⟨g1,g2⟩
 unfold BX at hb;split at hb
 ·next fs _ _ z _ hi=>
  obtain⟨f,d,h1,h2,h3,h4,h5,h6,h7⟩:=T.get hi;obtain⟨F,rfl,hF⟩:=DR h3.symm;obtain⟨hz,hro⟩:=LE h6.symm;split at hb
  ·next cs hcs=>
   cases hb;obtain⟨g1,g2⟩:=fin hro hcs;refine⟨?_,(DY φ cs).2 g2⟩;rw[Ck];apply run_build;simp only[Program.built,h1,h2,hz,Iz hF];rw[<- g1];congr 1
   funext i
   simp only[List.getElem?_toArray,J3];cases fs[i]? with
   | none=>rfl
   | some x=>rfl
  ·cases hb
 ·next n e sz _ _ z _ hi=>
  obtain⟨f,d,h1,h2,h3,h4,h5,h6,h7⟩:=T.get hi;obtain⟨rfl,fe,k1,k2⟩:=CE h3.symm;obtain⟨hz,hro⟩:=LE h6.symm;split at hb
  ·next cs hcs=>
   cases hb;obtain⟨g1,g2⟩:=fin hro hcs;refine⟨?_,(DY φ cs).2 g2⟩;rw[Ck];apply run_build;simp only[Program.built,h1,h2,hz,k1,k2];exact g1
  ·cases hb
 ·cases hb
theorem Jw (f:Nat->Value):Array.map f (Array.range 0)=#[]:=by simp
theorem Ek (T:D.Of P) (R:Tie D E n0 V φ h w) {t:TypeId} {len:Nat} {ps:List (Nat×Value)} {v:Value} (hp:∀ p∈ps,okV φ p.2) (hb:AH D t len ps h=some (v,h')) :
  FS D E n0 V φ h w ((Instr.buildSlice t len (ps.map fun p=>(p.1,ren φ p.2)).toArray).run P w) v h':=by
 unfold AH at hb;split at hb
 ·next e sz by_ _ _ _ _ hi=>
  obtain⟨f,d,h1,h2,h3,h4,h5,h6,h7⟩:=T.get hi;obtain⟨rfl,fe,k1,k2,k3⟩:=BE h3.symm;split at hb
  ·next z hz hle=>
   simp only[K0,Z0,P0] at hle;obtain⟨fz,z1,z2,z3⟩:=T.zero hz;rw[k1] at z1;cases z1;split at hb
   ·next hs hcs=>
    next cs=>
    cases hb;have hs:=U0 hs;have hro:=EH z3;have hzs:z.cells.size=fe.size:=by rw[<- Q4,hs,k2]
    obtain⟨g1,g2⟩:=Pu ps _ cs hp (fun x hx=>(roV.ok φ (hro x (Bv hx))).1) hcs;rw[CF (fun c hc=>hro c (Bv hc))] at g1;have hn:¬ (len*fe.size>2 ^ 24):=by rw[k2];simp;omega
    have hrow:(Array.range (len*fe.size)).map (fun i=>z.cells[i % z.cells.size]!)=(BB z.cells.toList len).toArray:=by
     rw[<- hzs];exact ER _ _ (by omega)
    have hG:=Ey R cs e len len g2;have hrun:(Instr.buildSlice t len (ps.map fun p=>(p.1,ren φ p.2)).toArray).run P w=.ok (.slice (some ⟨w.heap.size,0,none⟩) len len) (wpush w (.cells (cs.map (ren φ)).toArray e (0,0))):=by
     subst k2;by_cases h0:len*fe.size=0
     ·have hl0:len=0:=by rcases Nat.mul_eq_zero.1 h0 with h|h<;>omega
      subst hl0;simp only[U5] at hrow;simp only[BB] at g1;simp[Instr.buildSlice,EI h2,DV k1,newRow,wpush,Jw,g1]
     ·simp only[Instr.buildSlice,Sem.run_bind,EI h2,Result.andThen_ok,DV k1,hn,if_false,h0,Si k1 z2,Sem.run_pure,hrow,F3,g1,newRow,run_newObj];rfl
    rw[hrun];exact hG
   ·cases hb
  ·cases hb
 ·cases hb
theorem JM (T:D.Of P) (R:Tie D E n0 V φ h w) {t:TypeId} {len:Nat} {ps:List (Nat×Value)} {v:Value} (hp:∀ p∈ps,okV φ p.2) (hb:AH D t len ps h=some (v,h')) :
  AZ D E n0 V φ h w ((Instr.buildSlice t len (ps.map fun p=>(p.1,ren φ p.2)).toArray).run P w) v h':=(Ek T R hp hb).gives
theorem FM (T:D.Of P) (R:Tie D E n0 V φ h w) {t:TypeId} {x y v:Value} (hb:Bj D t x y h=some (v,h')) :
  FS D E n0 V φ h w ((Instr.makeSlice t (ren φ x) (ren φ y)).run P w) v h':=by
 unfold Bj at hb;split at hb
 ·next e sz by_ _ _ _ _ l c hi=>
  obtain⟨f,d,h1,h2,h3,h4,h5,h6,h7⟩:=T.get hi;obtain⟨rfl,fe,k1,k2,k3⟩:=BE h3.symm;split at hb
  ·next z hz hle=>
   simp only[K0,Z0,P0,roomy] at hle;obtain⟨fz,z1,z2,z3⟩:=T.zero hz;rw[k1] at z1;cases z1;split at hb
   ·next hs=>
    cases hb;have hs:=U0 hs;have hro:=EH z3;have hzs:z.cells.size=fe.size:=by rw[<- Q4,hs,k2]
    have hG:=Ey R (BB z.cells.toList c) e l c (fun x hx=>(roV.ok φ (hro x (Bv hx))).1);rw[CF (fun c hc=>hro c (Bv hc))] at hG;have hrow:(Array.range (c*fe.size)).map (fun i=>z.cells[i % z.cells.size]!)=(BB z.cells.toList c).toArray:=by
     rw[<- hzs];exact ER _ _ (by omega)
    have hlc':l<=c:=hle.1.1;have hcb:c*by_<=70368744177664:=hle.1.2.1;have hcn:c<=70368744177664:=hle.1.2.2;have hw0:∀ l:Nat,l<=70368744177664->IntKind.i64.wrap (l:Int)=(l:Int):=by
     intro l hl;simp only[IntKind.wrap,IntKind.bits,IntKind.signed];simp;omega
    have hwl:=hw0 l (by omega);have hwc:=hw0 c hcn;have hrun:(Instr.makeSlice t (.int .i64 (Int.ofNat l)) (.int .i64 (Int.ofNat c))).run P w=.ok (.slice (some ⟨w.heap.size,0,none⟩) l c) (wpush w (.cells (BB z.cells.toList c).toArray e (0,0))):=by
     have hb1:¬ (281474976710656<(fe.bytes:Int)*(c:Int)):=by
      have:(fe.bytes:Int)*(c:Int)=((c*by_:Nat):Int):=by rw[k3];push_cast;exact Int.mul_comm _ _
      rw[this];omega
     have hc0:¬ ((c:Int)<0):=by omega
     have hl0:¬ ((l:Int)<0):=by omega
     have hlc:¬ ((c:Int)<(l:Int)):=by omega
     by_cases h0:c*fe.size=0
     ·have hl0':c=0:=by rcases Nat.mul_eq_zero.1 h0 with h|h<;>omega
      have hl1:l=0:=by omega
      subst hl0' hl1;have hw00:IntKind.i64.wrap 0=0:=by decide
      simp[Instr.makeSlice,EI h2,DV k1,PW k1,newRow,wpush,asInt,asIntOf,hw00,Jw,BB]
     ·simp[Instr.makeSlice,EI h2,DV k1,PW k1,newRow,wpush,asInt,asIntOf,hwl,hwc,hb1,hc0,hl0,hlc,h0,Si k1 z2,hrow]
    simp only[Bt];rw[hrun];exact hG
   ·cases hb
  ·cases hb
 ·cases hb
theorem JZ (T:D.Of P) (R:Tie D E n0 V φ h w) {t:TypeId} {x y v:Value} (hb:Bj D t x y h=some (v,h')) :
  AZ D E n0 V φ h w ((Instr.makeSlice t (ren φ x) (ren φ y)).run P w) v h':=(FM T R hb).gives
end ops
section place
variable {D:Tab} {E:Env} {n0:Nat} {V:Nat->Prop} {φ φ':Ph} {h h':H} {w w':World}
theorem Tie.place (R:Tie D E n0 V φ h w) {ys:List Value} {ty:TypeId} {c b:Nat} (hn:n0<=c) (hc:c<w.heap.size) (hT:V h.next->CV D (upd φ h.next (c,b,0)) w c b 0 (.cells ys ty none))
  (hap:ys≠[]->∀ k B b' e',h.blk k=some B->φ k=some (c,b',e')->B.hollow e'=true) :
  Tie D E n0 V (upd φ h.next (c,b,0)) (h.new (.cells ys ty none)) w:=by
 have hle:Le φ (upd φ h.next (c,b,0)):=Dn (R.ar (C0 h.next));have hbk:=Uc R (B:=.cells ys ty none) rfl;have hys:(Blk.cells ys ty none).hollow 0=false->ys≠[]:=by intro h1 h2;subst h2;cases h1
 refine⟨R.ro,R.size,?_,?_,?_,?_,?_,?_⟩
 ·intro k c' b' e' hk;by_cases ek:k=h.next
  ·subst ek;rw[AR] at hk;cases hk;exact⟨by simp[H.new],hn,hc⟩
  ·rw[BH _ _ ek] at hk;obtain⟨g1,g2,g3⟩:=R.dom _ _ _ _ hk;exact⟨by simp[H.new];omega,g2,g3⟩
 ·intro k B' c' b' e' hV hb hk;rw[hbk] at hb;by_cases ek:k=h.next
  ·subst ek;rw[if_pos rfl] at hb;cases hb;rw[AR] at hk;cases hk;exact hT hV
  ·rw[if_neg ek] at hb;rw[BH _ _ ek] at hk;exact (R.blk _ _ _ _ _ hV hb hk).le hle rfl
 ·intro j k B1 B2 c1 b1 e1 b2 e2 hjk h1 h2 n1 n2 hj hk;rw[hbk] at h1 h2;by_cases ej:j=h.next
  ·subst ej;rw[AR] at hj;cases hj;rw[if_pos rfl] at h1;cases h1;by_cases ek:k=h.next
   ·exact absurd ek.symm hjk
   ·rw[if_neg ek] at h2;rw[BH _ _ ek] at hk;rw[hap (hys n1) _ _ _ _ h2 hk] at n2;cases n2
  ·rw[if_neg ej] at h1;rw[BH _ _ ej] at hj;by_cases ek:k=h.next
   ·subst ek;rw[AR] at hk;cases hk;rw[if_pos rfl] at h2;cases h2;rw[hap (hys n2) _ _ _ _ h1 hj] at n1;cases n1
   ·rw[if_neg ek] at h2;rw[BH _ _ ek] at hk;exact R.apart _ _ _ _ _ _ _ _ _ hjk h1 h2 n1 n2 hj hk
 ·intro k xs u c' b' e' hd hk;by_cases ek:k=h.next
  ·subst ek;rw[AR] at hk;cases hk;rfl
  ·rw[BH _ _ ek] at hk;simp only[H.new,T.get_set_ne _ _ _ _ ek] at hd;exact R.exact _ _ _ _ _ _ hd hk
 ·intro k hk;simp only[H.new] at hk ⊢;rw[T.get_set_ne _ _ _ _ (by omega)];exact R.fresh k (by omega)
 ·intro k xs u r p hd;simp only[H.new] at hd ⊢;by_cases ek:k=h.next
  ·subst ek;rw[T.get_set_same] at hd;cases hd
  ·rw[T.get_set_ne _ _ _ _ ek] at hd;have:=R.root _ _ _ _ _ hd;omega
end place
section ops
variable {P:Program} {D:Tab} {E:Env} {n0:Nat} {V:Nat->Prop} {φ:Ph} {h h':H} {w:World}
theorem FP {x:Option Value} {y d n:Nat} (hx:abound x y d=some n) (hd:d<=y):n<=y:=by
 unfold abound at hx;split at hx
 ·cases hx;exact hd
 ·split at hx
  ·next hr=>cases hx;obtain⟨r1,r2⟩:=Cn hr;omega
  ·cases hx
 ·cases hx
theorem CI {v:Value} {y Y d n:Nat} (hx:abound (some v) y d=some n) (hY:y<=Y) (code:BoundsCode):(Instr.sliceBound (ren φ v) Y code).run P w=.ok n w:=by
 unfold abound at hx;split at hx
 ·next he=>cases he
 ·next k i he=>
  cases he;split at hx
  ·next hr=>
   cases hx;obtain⟨r1,r2⟩:=Cn hr;have:0<=i/\i<=(Y:Int):=by omega
   simp[Instr.sliceBound,Bt,asIntOf,this]
  ·cases hx
 ·cases hx
theorem Eb {isS:Bool} {len cap Cap l hh:Nat} {lo hi:Option Value} (h1:abound hi cap len=some hh) (h2:abound lo hh 0=some l) (hC:cap<=Cap) (hl:len<=cap) :
  (Instr.sliceBounds isS len Cap (lo.map (ren φ)) (hi.map (ren φ)) none).run P w=.ok (l,hh,Cap) w/\l<=hh/\hh<=cap:=by
 refine⟨?_,FP h2 (C2 _),FP h1 hl⟩;cases hi with
 | none=>
  have:hh=len:=by simp[abound] at h1;exact h1.symm
  subst this;cases lo with
  | none=>
   have:l=0:=by simp[abound] at h2;exact h2.symm
   subst this;simp[Instr.sliceBounds]
  | some lo=>simp[Instr.sliceBounds,CI h2 (C0 _)]
 | some hi=>
  cases lo with
  | none=>
   have:l=0:=by simp[abound] at h2;exact h2.symm
   subst this;simp[Instr.sliceBounds,CI h1 hC]
  | some lo=>simp[Instr.sliceBounds,CI h1 hC,CI h2 (C0 _)]
theorem OT {isS:Bool} {len cap Cap l hh m:Nat} {mx hi:Value} {lo:Option Value} (h0:abound (some mx) cap cap=some m) (h1:abound (some hi) m m=some hh) (h2:abound lo hh 0=some l) (hC:cap<=Cap) :
  (Instr.sliceBounds isS len Cap (lo.map (ren φ)) (some (ren φ hi)) (some (ren φ mx))).run P w=.ok (l,hh,m) w/\l<=hh/\hh<=m/\m<=cap:=by
 refine⟨?_,FP h2 (C2 _),FP h1 (C0 _),FP h0 (C0 _)⟩;cases lo with
 | none=>
  have:l=0:=by simp[abound] at h2;exact h2.symm
  subst this;simp[Instr.sliceBounds,CI h0 hC,CI h1 (C0 _)]
 | some lo=>simp[Instr.sliceBounds,CI h0 hC,CI h1 (C0 _),CI h2 (C0 _)]
theorem GW (R:Tie D E n0 V φ h w) {a:Addr} (ha:okA φ a) (hs:a.spot=some 0):∃ c b e,φ a.block=some (c,b,e)/\renA φ a=⟨c,b+a.off,none⟩/\extA φ a=e/\n0<=c/\c<w.heap.size:=by
 rcases ha with ha|⟨ha,hk⟩|⟨_,ha⟩
 rotate_left 2
 ·rw[hs] at ha;cases ha
 ·rw[hs] at ha;cases ha
 ·obtain⟨⟨c,b,e⟩,hk⟩:=J1.1 hk;have:=R.dom _ _ _ _ hk;exact⟨c,b,e,hk,by simp[renA,hs,hk],by simp[extA,hs,hk],this.2.1,this.2.2⟩
theorem OX (R:Tie D E n0 V φ h w) (hV:∀ k,V k) {e:Nat} {a:Addr} {len cap:Nat} {lo hi mx:Option Value} {v:Value} (ha:okA φ a) (hlc:len<=cap) (hs:asliceS e a len cap lo hi mx h=some (v,h')) :
  ∃ l hh m,(∀ isS,(Instr.sliceBounds isS len (cap+extA φ a) (lo.map (ren φ)) (hi.map (ren φ)) (mx.map (ren φ))).run P w=.ok (l,hh,m) w)/\
   AZ D E n0 V φ h w (.ok (.slice (some (if m=l then renA φ a else (renA φ a).add (l*e))) (hh-l) (m-l)) w) v h':=by
 unfold asliceS at hs;split at hs
 ·-- two indices
  split at hs
  ·cases hs
  ·next hh hhi=>
   split at hs
   ·cases hs
   ·next l hlo=>
    have B:=fun isS=>Eb (P:=P) (φ:=φ) (w:=w) (isS:=isS) (Cap:=cap+extA φ a) hhi hlo (Nat.le_add_right _ _) hlc;obtain⟨_,l1,l2⟩:=B true;refine⟨l,hh,cap+extA φ a,fun isS=>(B isS).1,?_⟩;split at hs
    ·next hb=>
     cases hs;have hne:cap≠l:=fun e=>by subst e;rw[show Nat.beq cap cap=true from V1 cap] at hb;cases hb
     obtain⟨g1,g2,g3⟩:=CM ha (l*e);refine AZ.same R ?_ g2;rw[Ad,g1,g3,if_neg (by omega)];have:cap+extA φ a-l=cap-l+extA φ a:=by omega
     rw[this]
    ·next hb=>
     have hcl:cap=l:=U0 hb;have hhl:hh=l:=by omega
     have same:extA φ a=0->AZ D E n0 V φ h w (.ok (.slice (some (if cap+extA φ a=l then renA φ a else (renA φ a).add (l*e))) (hh-l) (cap+extA φ a-l)) w) (.slice (some a) 0 0) h:=by
      intro h0;refine AZ.same R ?_ ha;rw[Ad,h0,if_pos (by omega),hhl,hcl];simp
     split at hs
     ·next hsp=>
      cases hs;exact same (by simp[extA,hsp])
     ·next hsp=>
      cases hs;exact same (by simp[extA,hsp])
     ·next hsp=>
      obtain⟨c,b,ex,hk,hren,hext,hn,hc⟩:=GW R ha hsp;split at hs
      ·next hbk=>
       cases hs;exact same (by rw[hext];exact R.exact _ _ _ _ _ _ (H.ae hbk) hk)
      ·next xs ty r p hbk=>
       split at hs
       ·next hend=>
        cases hs;have hend:a.off+cap*e=xs.length:=U0 hend;have hr:=R.root _ _ _ _ _ (H.ae hbk);by_cases h0:ex=0
        ·subst h0;have J:=R.join (w':=w) (ys:=[]) (ty:=ty) (r:=r) (p:=p+xs.length) (c:=c) (b:=b+a.off) (e:=0) (l:=h.chain r) (Y1 hr) (fun _ hj=>hj) hn hc (C0 _) (fun _ _ _=>rfl)
          (fun _=>.inl ⟨rfl,.inr rfl⟩) (fun k B b' e' hVk hkb _ hφ=>(R.blk _ _ _ _ _ hVk hkb hφ).le (Dn (R.ar (C0 _))) rfl) (fun _ _ _ _ hh0=>by cases hh0)
         refine⟨_,w,?_,?_,J,DQ (.inr ⟨_,_,_,hk⟩),Kept.refl _ _⟩
         ·obtain⟨g1,g2,g3⟩:=Be (AR φ h.next (c,b+a.off,0));rw[Ad,g1,g3,hren,hext,if_pos (by omega),hhl,hcl];simp
         ·exact (Be (AR φ h.next (c,b+a.off,0))).2.1
        ·rcases R.blk _ _ _ _ _ (hV _) hbk hk with⟨_,hx⟩|⟨cs,u,fz,L⟩
         ·rcases hx with hx|hx
          ·cases hx
          ·exact absurd hx h0
         ·have J:=R.join (w':=w) (ys:=[]) (ty:=ty) (r:=r) (p:=p+xs.length) (c:=c) (b:=b+xs.length) (e:=ex) (l:=h.chain r) (Y1 hr) (fun _ hj=>hj) hn hc (C0 _) (fun _ _ _=>rfl)
           (fun _=>.inr ⟨cs,u,fz,L.block,L.opn,fun i x hx=>by simp at hx,fun _=>by
            obtain⟨g1,i,g2,g3⟩:=L.room rfl;exact⟨g1,i,g2,by simpa using g3⟩,fun h1 _=>by cases h1⟩)
           (fun k B b' e' hVk hkb _ hφ=>(R.blk _ _ _ _ _ hVk hkb hφ).le (Dn (R.ar (C0 _))) rfl)
           (fun k B b' e' _ hkb hnh hφ=>by
            by_cases ek:k=a.block
            ·subst ek;rw[hbk] at hkb;cases hkb;rw[hk] at hφ;cases hφ;exact⟨_,_,_,rfl,by omega⟩
            ·have hnh2:(Blk.cells xs ty (some (r,p))).hollow ex=false:=by
              cases xs with
              | nil=>cases ex with
               | zero=>exact absurd rfl h0
               | succ n=>rfl
              | cons _ _=>rfl
             obtain⟨xs1,ty1,r1,p1,xs2,ty2,p2,rfl,hB2,hp⟩:=R.apart _ _ _ _ _ _ _ _ _ ek hkb hbk hnh hnh2 hφ hk;cases hB2;exact⟨_,_,_,rfl,by omega⟩)
          refine⟨_,w,?_,?_,J,DQ (.inr ⟨_,_,_,hk⟩),Kept.refl _ _⟩
          ·obtain⟨g1,g2,g3⟩:=Be (AR φ h.next (c,b+xs.length,ex));have hle:l*e=cap*e:=by rw[hcl]
           rw[Ad,g1,g3,hren,hext,if_neg (by omega),hhl,Addr.add_plain];have:b+a.off+l*e=b+xs.length:=by omega
           rw[this];have:cap+ex-l=0+ex:=by omega
           rw[this,Nat.sub_self]
          ·exact (Be (AR φ h.next (c,b+xs.length,ex))).2.1
       ·cases hs
      ·cases hs
 ·-- three
  next mx=>
  split at hs
  ·cases hs
  ·next m hm=>
   split at hs
   ·cases hs
   ·next hh hhi=>
    split at hs
    ·next hi l hlo=>
     have B:=fun isS=>OT (P:=P) (φ:=φ) (w:=w) (isS:=isS) (len:=len) (Cap:=cap+extA φ a) hm hhi hlo (Nat.le_add_right _ _);obtain⟨_,l1,l2,l3⟩:=B true;refine⟨l,hh,m,fun isS=>(B isS).1,?_⟩;have same:extA φ a=0->AZ D E n0 V φ h w (.ok (.slice (some (if m=l then renA φ a else (renA φ a).add (l*e))) (hh-l) (m-l)) w) (.slice (some (match Nat.beq m l with|true=>a|false=>aadd a (l*e))) (hh-l) (m-l)) h:=by
      intro h0;obtain⟨g1,g2,g3⟩:=CM ha (l*e);cases hb:Nat.beq m l with
      | true=>
       have:=U0 hb;refine AZ.same R ?_ ha;rw[if_pos this];simp only[Ad,h0,E3]
      | false=>
       have hne:m≠l:=fun e=>by subst e;rw[show Nat.beq m m=true from V1 m] at hb;cases hb
       refine AZ.same R ?_ g2;rw[if_neg hne];simp only[Ad,g1,g3,h0,E3]
     split at hs
     ·next hsp=>
      cases hs;exact same (by simp[extA,hsp])
     ·next hsp=>
      cases hs;exact same (by simp[extA,hsp])
     ·next hsp=>
      obtain⟨c,b,ex,hk,hren,hext,hn,hc⟩:=GW R ha hsp;split at hs
      ·next hb=>
       have hml:=U0 hb;split at hs
       ·next xs ty rt hbk=>
        cases hs;have J:=R.place (ys:=[]) (ty:=ty) (c:=c) (b:=b+a.off) hn hc (fun _=>.inl ⟨rfl,.inl rfl⟩) (fun hne=>absurd rfl hne);refine⟨_,w,?_,?_,J,DQ (.inr ⟨_,_,_,hk⟩),Kept.refl _ _⟩
        ·obtain⟨g1,g2,g3⟩:=Be (AR φ h.next (c,b+a.off,0));have hhl:hh-l=0:=by omega
         rw[Ad,g1,g3,hren,if_pos hml,hml,hhl,Nat.sub_self]
        ·exact (Be (AR φ h.next (c,b+a.off,0))).2.1
       ·cases hs
      ·next hb=>
       have hne:m≠l:=fun e=>by subst e;rw[show Nat.beq m m=true from V1 m] at hb;cases hb
       split at hs
       ·next xs ty hbk=>
        cases hs;have:=same (by rw[hext];exact R.exact _ _ _ _ _ _ (H.ae hbk) hk);rw[hb] at this;exact this
       ·next xs ty r p hbk=>
        split at hs
        ·next hle=>
         rw[Z0] at hle;cases hs;have hlt:(m-l)*e+l*e<=cap*e:=by rw[<- U3];exact Nat.mul_le_mul_right _ (by omega)
         have J0:=R.drop r [] (fun j hj=>by cases hj);have J:=J0.place (ys:=(xs.drop (a.off+l*e)).take ((m-l)*e)) (ty:=ACi) (c:=c) (b:=b+a.off+l*e) hn hc ?_ ?_
         ·refine⟨_,w,?_,?_,J.note _,(DQ (k:=h.next) (.inr ⟨_,_,_,hk⟩)).of_next (by rw[H.ai]),Kept.refl _ _⟩
          ·obtain⟨g1,g2,g3⟩:=Be (AR φ h.next (c,b+a.off+l*e,0));rw[if_neg hne,hren,Addr.add_plain];exact congrArg (Result.ok · w) (by rw[Ad];exact (by rw[g1,g3];rfl))
          ·exact (Be (AR φ h.next (c,b+a.off+l*e,0))).2.1
         ·intro _;rcases R.blk _ _ _ _ _ (hV _) hbk hk with⟨hx,_⟩|⟨cs,u,fz,L⟩
          ·subst hx;exact .inl ⟨by simp,.inl rfl⟩
          ·refine .inr ⟨cs,u,fz,L.block,L.opn,fun i x hx => ?_,fun hr=>(by cases hr),fun _ h2=>absurd rfl h2⟩;rw[List.getElem?_take] at hx;split at hx
           ·rw[D6] at hx;obtain⟨y,hy,ht⟩:=(L.le (Dn (R.ar (C0 _))) rfl).cell _ _ hx;exact⟨y,by rw[<- hy];congr 1;omega,ht⟩
           ·cases hx
         ·intro hys k B b' e' hkb hφ;have hd:h.dyn.get k=some B:=H.ae (h:={ h with chains:=h.chains.set r [] }) hkb;cases hho:B.hollow e' with
          | true=>rfl
          | false=>
           exfalso;have hxs:xs≠[]:=by rintro rfl;simp at hys
           have hnh2:(Blk.cells xs ty (some (r,p))).hollow ex=false:=by cases xs with|nil=>exact absurd rfl hxs|cons _ _=>rfl
           have hlive:h.blk k=some B/\∀ ys u q,B≠.cells ys u (some (r,q)):=by
            cases B with
            | cells ys u rt=>cases rt with
             | none=>exact⟨by unfold H.blk;rw[hd],fun _ _ _ he=>by cases he⟩
             | some rq=>
              obtain⟨r',q⟩:=rq;have hm:=Ec hkb;rw[JB] at hm;split at hm
              ·cases hm
              ·next hrr=>exact⟨by rw[Dj hd,if_pos (by simpa using hm)],fun _ _ _ he=>by cases he;exact hrr rfl⟩
            | map es c=>exact⟨by unfold H.blk;rw[hd],fun _ _ _ he=>by cases he⟩
            | siter s p=>exact⟨by unfold H.blk;rw[hd],fun _ _ _ he=>by cases he⟩
            | defd t=>exact⟨by unfold H.blk;rw[hd],fun _ _ _ he=>by cases he⟩
            | loop r=>exact⟨by unfold H.blk;rw[hd],fun _ _ _ he=>by cases he⟩
           have ek:k≠a.block:=by
            rintro rfl;rw[hbk] at hlive;exact hlive.2 xs ty p (by have:=hlive.1;cases this;rfl)
           obtain⟨xs1,ty1,r1,p1,xs2,ty2,p2,rfl,hB2,hp⟩:=R.apart _ _ _ _ _ _ _ _ _ ek hlive.1 hbk hho hnh2 hφ hk;cases hB2;exact hlive.2 _ _ _ rfl
        ·cases hs
       ·cases hs
    ·cases hs
end ops
section ops
variable {P:Program} {D:Tab} {E:Env} {n0:Nat} {V:Nat->Prop} {φ:Ph} {h h':H} {w:World}
theorem Gf {a b:ByteArray} (h:a.data.toList=b.data.toList):a=b:=by
 cases a with|mk a=>cases b with|mk b=>cases a;cases b;simp_all
theorem CU (s:ByteArray):s.data.toList.length=s.size:=Q4
theorem UX (s:ByteArray) (l hh:Nat):s.extract l hh=⟨⟨(s.data.toList.drop l).take (hh-l)⟩⟩:=by
 apply Gf;simp[ByteArray.data_extract,List.extract_eq_take_drop]
theorem Lr (φ:Ph) (a:Addr):(Instr.sureAddr (ren φ (.pointer (some a)))).run P w=.ok (renA φ a) w:=by
 simp[Am,Instr.sureAddr]
theorem Jg {x:Option Value} (h:isZero x=true):abound x 0 0=some 0:=by
 unfold isZero at h;split at h
 ·rfl
 ·rfl
 ·cases h
theorem RG (T:D.Of P) (R:Tie D E n0 V φ h w) (hV:∀ k,V k) {t:TypeId} {x:Value} {lo hi mx:Option Value} {v:Value} (hx:okV φ x) (hs:Av D t x lo hi mx h=some (v,h')) :
  AZ D E n0 V φ h w ((Instr.sliceAt t (ren φ x) (lo.map (ren φ)) (hi.map (ren φ)) (mx.map (ren φ))).run P w) v h':=by
 unfold Av at hs;split at hs
 ·next n e sz _ _ _ _ hi'=>
  obtain⟨f,d,h1,h2,h3,h4,_⟩:=T.get hi';obtain⟨rfl,fe,k1,k2⟩:=CE h3.symm;split at hs
  ·next a=>
   split at hs
   ·next hh hhi=>
    split at hs
    ·next l hlo=>
     have ha:okA φ a:=hx;obtain⟨B,l1,l2⟩:=Eb (P:=P) (φ:=φ) (w:=w) (isS:=false) (Cap:=n) hhi hlo (C0 _) (C0 _);have same:extA φ a=0->AZ D E n0 V φ h w ((Instr.sliceAt t (ren φ (.pointer (some a))) (lo.map (ren φ)) (hi.map (ren φ)) none).run P w) (.slice (some (match Nat.beq n l with|true=>a|false=>aadd a (l*sz))) (hh-l) (n-l)) h:=by
      intro h0;obtain⟨g1,g2,g3⟩:=CM ha (l*sz);have hrun:(Instr.sliceAt t (ren φ (.pointer (some a))) (lo.map (ren φ)) (hi.map (ren φ)) none).run P w=.ok (.slice (some (if n=l then renA φ a else (renA φ a).add (l*sz))) (hh-l) (n-l)) w:=by
       simp only[Instr.sliceAt,Sem.run_bind,EI h2,Result.andThen_ok,Lr,B,DV k1,k2,Sem.run_pure]
      rw[hrun];cases hb:Nat.beq n l with
      | true=>
       have:=U0 hb;refine AZ.same R ?_ ha;rw[if_pos this];simp only[Ad,h0,E3]
      | false=>
       have hne:n≠l:=fun e=>by subst e;rw[show Nat.beq n n=true from V1 n] at hb;cases hb
       refine AZ.same R ?_ g2;rw[if_neg hne];simp only[Ad,g1,g3,h0,E3]
     split at hs
     ·next hsp=>
      cases hs;exact same (by simp[extA,hsp])
     ·cases hs
     ·next hsp=>
      obtain⟨c,b,ex,hk,hren,hext,hn,hc⟩:=GW R ha hsp;split at hs
      ·next hbk=>
       cases hs;exact same (by rw[hext];exact R.exact _ _ _ _ _ _ (H.ae hbk) hk)
      ·cases hs
    ·cases hs
   ·cases hs
  ·cases hs
 ·next hi'=>
  obtain⟨f,d,h1,h2,h3,h4,_⟩:=T.get hi';have hd:=BM h3.symm;subst hd;split at hs
  ·next s=>
   split at hs
   ·next hh hhi=>
    split at hs
    ·next l hlo=>
     cases hs;obtain⟨B,l1,l2⟩:=Eb (P:=P) (φ:=φ) (w:=w) (isS:=false) (Cap:=s.data.toList.length) hhi hlo (C0 _) (C0 _);rw[CU] at B;refine AZ.same R ?_ trivial;simp only[Option.map_none,Instr.sliceAt,Instr.slice,CS,Sem.run_bind,EI h2,Result.andThen_ok,Option.isSome_none,Bool.false_eq_true,if_false,Sem.run_pure,B,UX]
    ·cases hs
   ·cases hs
  ·cases hs
 ·next e sz by_ _ _ _ _ hi'=>
  obtain⟨f,d,h1,h2,h3,h4,_⟩:=T.get hi';obtain⟨rfl,fe,k1,k2,k3⟩:=BE h3.symm;split at hs
  ·split at hs
   ·next hz=>
    cases hs;simp only[K0] at hz;refine AZ.same R ?_ trivial;have hlo:=Jg hz.1.1;have hhi:=Jg hz.1.2;have hmx:mx=none:=by simpa using hz.2
    subst hmx;have B:=(Eb (P:=P) (φ:=φ) (w:=w) (isS:=true) hhi hlo (C0 _) (C0 _)).1;simp only[Instr.sliceAt,Instr.slice,Sem.run_bind,EI h2,Result.andThen_ok,ren,Option.map_none,B,DV k1,if_true,Sem.run_pure]
   ·cases hs
  ·next a len cap=>
   split at hs
   ·next hlc=>
    rw[Z0] at hlc;have ha:okA φ a:=hx;obtain⟨l,hh,m,B,hG⟩:=OX (P:=P) R hV ha hlc hs;have hrun:(Instr.sliceAt t (ren φ (.slice (some a) len cap)) (lo.map (ren φ)) (hi.map (ren φ)) (mx.map (ren φ))).run P w=.ok (.slice (some (if m=l then renA φ a else (renA φ a).add (l*sz))) (hh-l) (m-l)) w:=by
     simp only[Instr.sliceAt,Instr.slice,Ad,Sem.run_bind,EI h2,Result.andThen_ok,B,DV k1,k2,Sem.run_pure]
     split<;>rfl
    rw[hrun];exact hG
   ·cases hs
  ·cases hs
 ·cases hs
end ops
theorem Hw (w:World) (need old:Nat) (e:TypeId):need<=grownCap w need old e:=by
 simp only[grownCap,Question.cut];omega
structure App (P:Program) (i:TypeInfo) (tx:TypeId) (x:Value) (n:Nat) (news:List Value) (w:World):Prop where
 src:(((∃ e',P.underlying tx=some (.slice e'))\/P.underlying tx=some .string)/\(∀ w':World,(Builtin.lenOf x).run P w'=.ok n w')/\(Builtin.firstCells i.size n x).run P w=.ok news.toArray w/\(Builtin.firstCells i.size n x).run P w.drew=.ok news.toArray w.drew)\/
  (∃ k z,P.underlying tx=some (.int k)/\i.zero=some z/\x=.int .i64 (Int.ofNat n)/\news=BB z.cells.toList n/\z.cells.size=i.size/\0<i.size/\n<=70368744177664/\n*i.bytes<=70368744177664)
 len:news.length=n*i.size
section ops
variable {P:Program} {D:Tab} {E:Env} {n0:Nat} {V:Nat->Prop} {φ:Ph} {h h':H} {w:World}
theorem wrap_small {l:Nat} (hl:l<=70368744177664):IntKind.i64.wrap (l:Int)=(l:Int):=by
 simp only[IntKind.wrap,IntKind.bits,IntKind.signed];simp;omega
theorem LP {t tx ty e:TypeId} {i:TypeInfo} (ht:P.underlying t=some (.slice e)) (hi:P.info? e=some i) {a:Addr} {sLen sCap n:Nat} {x:Value} {news:List Value} (A:App P i tx x n news w)
  (hroom:sLen+n<=sCap) {w':World} (hst:(storeCells (a.add (sLen*i.size)) news).run P w=.ok () w') :
  (Builtin.append_ #[t,tx] ty #[.slice (some a) sLen sCap,x]).run P w=.ok (.slice (some a) (sLen+n) sCap) w':=by
 rcases A.src with⟨hk,hl,hf,_⟩|⟨k,z,hk,hz,rfl,rfl,hzs,h0,hn,hnb⟩
 ·rcases hk with⟨e',hd⟩|hd<;>simp[Builtin.append_,run_underlying ht,run_underlying hd,sizeOf,typeInfo,hi,hl,hroom,hf,hst]
 ·have hw:=wrap_small hn;have h1:¬ ((n:Int)<0):=by omega
  have h2:¬ (281474976710656<(n:Int)*(i.bytes:Int)):=by
   have:(n:Int)*(i.bytes:Int)=((n*i.bytes:Nat):Int):=by push_cast;rfl
   rw[this];omega
  by_cases hn0:n=0
  ·subst hn0;simp only[BB] at hst;have hw0:IntKind.i64.wrap 0=0:=by decide
   have hr:sLen<=sCap:=by omega
   simp[Builtin.append_,run_underlying ht,run_underlying hk,sizeOf,typeInfo,hi,asInt,asIntOf,hw0,hr,hst]
  ·have hn1:¬ (n*i.size=0):=by
    intro hh;rcases Nat.mul_eq_zero.1 hh with h|h<;>omega
   rw[<- hzs] at h0;have hzr:=ES z.cells n h0;simp[Builtin.append_,run_underlying ht,run_underlying hk,sizeOf,typeInfo,zeroValue,hi,hz,asInt,asIntOf,hw,h1,h2,hroom,hn1,hzr,hst]
theorem LQ {t tx ty e:TypeId} {i:TypeInfo} {z:Value} (ht:P.underlying t=some (.slice e)) (hi:P.info? e=some i) (hz:i.zero=some z) {base:Option Addr} {sLen sCap n:Nat} {x:Value} {olds news:List Value} (A:App P i tx x n news w)
  (hold:(Builtin.firstCells i.size sLen (.slice base sLen sCap)).run P w.drew=.ok olds.toArray w.drew) (hg:sCap<sLen+n) (hb:(sLen+n)*i.bytes<=70368744177664) (hbn:sLen+n<=70368744177664) :
  (Builtin.append_ #[t,tx] ty #[.slice base sLen sCap,x]).run P w=
   .ok (.slice (some ⟨w.heap.size,0,none⟩) (sLen+n) (grownCap w (sLen+n) sCap e))
    (w.drew.alloc (.cells ((olds++news).toArray++Builtin.zeroCells z.cells (grownCap w (sLen+n) sCap e-(sLen+n))) e)):=by
 have hn:¬ (sLen+n<=sCap):=by omega
 have h63':¬ (9223372036854775807<((sLen:Int)+(n:Int))):=by omega
 have h48':¬ (281474976710656<Builtin.nextslicecap (sLen+n) sCap*i.bytes):=by
  have:=growslice_fits (bytes:=i.bytes) hg (by omega);omega
 rcases A.src with⟨hk,hl,_,hf⟩|⟨k,z',hk,hz',rfl,rfl,hzs,h0,hn',hnb⟩
 ·rcases hk with⟨e',hd⟩|hd<;>
   (simp[Builtin.append_,run_underlying ht,run_underlying hd,sizeOf,typeInfo,zeroValue,hi,hz,hl,hn,h63',h48',Question.forced,hf,hold,newRow,grownCap]
    congr 2;apply L5;simp[E1])
 ·have hw:=wrap_small hn';have h1:¬ ((n:Int)<0):=by omega
  have h2:¬ (281474976710656<(n:Int)*(i.bytes:Int)):=by
   have:(n:Int)*(i.bytes:Int)=((n*i.bytes:Nat):Int):=by push_cast;rfl
   rw[this];omega
  rw[hz] at hz'; cases hz';by_cases hn0:n=0
  ·subst hn0;have hw0:IntKind.i64.wrap 0=0:=by decide
   have hr:¬ (sLen<=sCap):=by omega
   have h63'':¬ (9223372036854775807<(sLen:Int)):=by omega
   simp only[E3] at h48';simp[Builtin.append_,run_underlying ht,run_underlying hk,sizeOf,typeInfo,zeroValue,hi,hz,asInt,asIntOf,hw0,hr,h63'',h48',Question.forced,hold,newRow,grownCap,BB]
  ·have hn1:¬ (n*i.size=0):=by
    intro hh;rcases Nat.mul_eq_zero.1 hh with h|h<;>omega
   rw[<- hzs] at h0;have hzr:=ES z.cells n h0;simp[Builtin.append_,run_underlying ht,run_underlying hk,sizeOf,typeInfo,zeroValue,hi,hz,asInt,asIntOf,hw,h1,h2,hn,hn1,h63',h48',hzr,Question.forced,hold,newRow,grownCap];congr 2;apply L5;simp[E1]
end ops
section ops
variable {P:Program} {D:Tab} {E:Env} {n0:Nat} {V:Nat->Prop} {φ:Ph} {h h':H} {w:World}
theorem beq_true {a b:Nat} (h:Nat.beq a b=true):a=b:=U0 h
theorem CN (P:Program) (R:Tie D E n0 V φ h w) {a:Addr} {n sz len cap:Nat} {cs:List Value} (ha:okA φ a) (hV:∀ k,V k) (hc:h.cells E a (n*sz)=some cs) :
  (Builtin.firstCells sz n (.slice (some (renA φ a)) len cap)).run P w=.ok (cs.map (ren φ)).toArray w:=by
 simp only[Builtin.firstCells];exact Ci P R ha (fun _=>hV _) hc
theorem RV (T:D.Of P) (R:Tie D E n0 V φ h w) (hV:∀ k,V k) {fe:TypeInfo} {z x:Value} {t2:TypeId} {n:Nat} {cs:List Value} {b:Bool} (hx:okV φ x) (hz:fe.zero=some z) (hro:roV z=true) (hzs:z.cells.size=fe.size) (h0:0<fe.size) (hz1:∀ c∈z.cells.toList,isOne c=true)
  (hza:Ax D t2 x=some b) (he:BO E fe.size z.cells.toList x h=some (n,cs)) (hl:cs.length=n*fe.size) (hroom:n<=70368744177664/\n*fe.bytes<=70368744177664\/n=0) :
  App P fe t2 (ren φ x) n (cs.map (ren φ)) w/\∀ c∈cs,okV φ c/\isOne c=true:=by
 have R':Tie D E n0 V φ h w.drew:=R.of_heap rfl;have hro':=EH hro;unfold Ax at hza;split at hza
 ·next i hi=>
  obtain⟨f,d,h1,h2,h3,h4,_⟩:=T.get hi;split at hza
  ·next k m htd=>
   rw[h3] at htd;have hd:=CD htd;subst hd;simp only[BO] at he;cases he;refine⟨⟨.inr ⟨k,z,h2,hz,by rw[Bt],by rw[CF (fun c hc=>hro' c (Bv hc))],hzs,h0,?_⟩,by simpa using hl⟩,fun c hc=>⟨(roV.ok φ (hro' c (Bv hc))).1,hz1 c (Bv hc)⟩⟩;rcases hroom with hr|hr
   ·exact hr
   ·subst hr;simp
  ·next e' sz' by' s k c htd=>
   rw[h3] at htd;obtain⟨rfl,_⟩:=BE htd;cases s with
   | none=>
    cases k with
    | zero=>
     simp only[BO] at he;cases he;exact⟨⟨.inl ⟨.inl ⟨e',h2⟩,fun _=>rfl,run_firstCells_none w _ _ _ _,run_firstCells_none w.drew _ _ _ _⟩,by simp⟩,fun c hc=>by cases hc⟩
    | succ _=>simp[BO] at he
   | some a=>
    simp only[BO] at he;split at he
    ·next cs' hcs=>
     cases he;have ha:okA φ a:=hx;refine⟨⟨.inl ⟨.inl ⟨e',h2⟩,?_,?_,?_⟩,by simpa using hl⟩,?_⟩
     ·intro w'; rw[Ad];rfl
     ·rw[Ad];exact CN P R ha hV hcs
     ·rw[Ad];exact CN P R' ha hV hcs
     ·intro c hc;obtain⟨j,hj⟩:=List.getElem?_of_mem hc;exact ((R.bh ha (fun _=>hV _) hcs).2 j c hj).2
    ·cases he
  ·next s htd=>
   rw[h3] at htd;have hd:=BM htd;subst hd;simp only[BO] at he;cases he;have hb:∀ c∈bytesV s.data.toList,roV c=true:=by
    intro c hc;obtain⟨_,_,rfl⟩:=List.mem_map.1 hc;rfl
   have hb1:∀ c∈bytesV s.data.toList,isOne c=true:=by
    intro c hc;obtain⟨_,_,rfl⟩:=List.mem_map.1 hc;rfl
   have hf:∀ w':World,(Builtin.firstCells fe.size s.data.toList.length (.string s)).run P w'=.ok ((bytesV s.data.toList).map (ren φ)).toArray w':=by
    intro w';rw[CF hb];simp[Builtin.firstCells,bytesV];apply L5;simp
   refine⟨⟨.inl ⟨.inr h2,?_,?_,?_⟩,by simpa using hl⟩,fun c hc=>⟨(roV.ok φ (hb c hc)).1,hb1 c hc⟩⟩
   ·intro w'; rw[CS];simp[Builtin.lenOf,CU]
   ·rw[CS];exact hf w
   ·rw[CS];exact hf w.drew
  ·cases hza
 ·cases hza
theorem Iu (R:Tie D E n0 V φ h w) {e:TypeId} {i:TI} {z:Value} (hi:D.ty.get e=some i) (hzs:z.cells.size=i.size) {xs:List Value} {need nc:Nat} (hx:∀ x∈xs,okV φ x) (hl:xs.length=need*i.size) (hge:need<=nc) :
  AZ D E n0 V φ h w (.ok (.slice (some ⟨w.heap.size,0,none⟩) need nc) (w.drew.alloc (.cells ((xs.map (ren φ)).toArray++Builtin.zeroCells z.cells (nc-need)) e))) (.slice (some (own h.next)) need need) (h.af xs e):=by
 obtain⟨g1,g2,g3⟩:=Be (AR φ h.next (w.heap.size,0,nc-need));refine⟨upd φ h.next (w.heap.size,0,nc-need),w.drew.alloc (.cells ((xs.map (ren φ)).toArray++Builtin.zeroCells z.cells (nc-need)) e),?_,g2,R.af hi (fz:=(0,0)) rfl (.inl rfl) ?_ ?_,DQ (.inl (C0 _)),Kept.push φ _ rfl rfl rfl rfl⟩
 ·rw[Ad,g1,g3,Nat.add_sub_cancel' hge]
 ·intro j x hj;have hjl:=(O0.1 hj).1;refine⟨ren φ x,?_,fun _=>⟨hx x (H3 hj),rfl⟩⟩;rw[Array.getElem?_append_left (by simpa using hjl)];simp[hj]
 ·simp[Builtin.zeroCells,hzs]
theorem Zs (h:H) (e:TypeId) (r p len self:Nat) (xs cs:List Value) :
  h.grow e r p len self xs cs=(h.join (xs++cs) e r p (h.spare r self (p+len) (p+len+cs.length))).note (h.gone r self (p+len) (p+len+cs.length)):=rfl
theorem Oj (T:D.Of P) (R:Tie D E n0 V φ h w) (hV:∀ k,V k) {t t2 ty:TypeId} {s x v:Value} (hs:okV φ s) (hx:okV φ x) (ha:Ab D E t t2 s x h=some (v,h')) :
  AZ D E n0 V φ h w ((Builtin.append_ #[t,t2] ty #[ren φ s,ren φ x]).run P w) v h':=by
 unfold Ab at ha;split at ha
 ·next e sz by_ _ _ _ _ hi=>
  obtain⟨f,d,h1,h2,h3,h4,_⟩:=T.get hi;obtain⟨rfl,fe,k1,rfl,rfl⟩:=BE h3.symm;split at ha
  ·next ze b hz hza=>
   obtain⟨fz,z1,z2,z3⟩:=T.zero hz;rw[k1] at z1;cases z1;obtain⟨ie,hie⟩:∃ i,D.ty.get e=some i:=by
    unfold Ak at hz;split at hz
    ·exact⟨_,by assumption⟩
    ·cases hz
   have hies:ie.size=fe.size:=by
    obtain⟨f',d',g1,_,_,g4,_⟩:=T.get hie;rw[k1] at g1;cases g1;exact g4
   split at ha
   ·next n cs hok hel=>
    simp only[K0,P0,O2] at hok;have hzs:ze.cells.size=fe.size:=by rw[<- Q4];exact beq_true hok.1.1
    have h0:0<fe.size:=hok.1.2;split at ha
    ·cases ha
    ·next hcl=>
     have hcl:=beq_true hcl;have hroomy:∀ {m},roomy m fe.bytes=true->m*fe.bytes<=70368744177664/\m<=70368744177664:=by
      intro m hm;simpa [roomy] using hm
     have hsub:∀ {m len},m=len+n->roomy m fe.bytes=true->n<=70368744177664/\n*fe.bytes<=70368744177664:=by
      intro m len hm hr;have:=hroomy hr;have hle:n*fe.bytes<=m*fe.bytes:=Nat.mul_le_mul_right _ (by omega);omega
     have APP:=fun hr=>RV (w:=w) T R hV hx z2 z3 hzs h0 hok.2 hza hel hcl hr;have R':Tie D E n0 V φ h w.drew:=R.of_heap rfl;split at ha
     ·-- onto nothing
      split at ha
      ·cases ha;obtain⟨A,_⟩:=APP (.inr rfl);have hcs:cs=[]:=by simpa using hcl
       subst hcs;refine AZ.same R ?_ trivial;rcases A.src with⟨hk,hl,hf,_⟩|⟨k,z,hk,hz',hx',hnews,hzs',h0',hn,hnb⟩
       ·rcases hk with⟨e',hd⟩|hd<;>simp[Builtin.append_,run_underlying h2,run_underlying hd,sizeOf,typeInfo,k1,hl,hf,ren]
       ·rw[hx'];have hw0:IntKind.i64.wrap 0=0:=by decide
        simp[Builtin.append_,run_underlying h2,run_underlying hk,sizeOf,typeInfo,k1,asInt,asIntOf,hw0,ren]
      ·next m hn0=>
       split at ha
       ·next hr=>
        cases ha;obtain⟨A,hcs1⟩:=APP (.inl (hsub (Z1 n).symm hr));have hcs:=fun c hc=>(hcs1 c hc).1;have hn:0<n:=by cases n with|zero=>exact absurd rfl hn0|succ _=>omega
        have hrun:=LQ (P:=P) (w:=w) (ty:=ty) (olds:=[]) (base:=none) (sLen:=0) (sCap:=0) h2 k1 z2 A (by simp[Builtin.firstCells]) (by omega) (by have:=hroomy hr;simpa using this.1) (by have:=hroomy hr;simpa using this.2);simp only[Z1,V0] at hrun;have hren:ren φ (.slice none 0 0)=.slice none 0 0:=by simp only[ren]
        rw[hren,hrun];exact Iu R hie (by rw[hzs,hies]) hcs (by rw[hcl,hies]) (Hw _ _ _ _)
       ·cases ha
     ·next a len cap=>
      have hA:okA φ a:=hs;rw[Ad];split at ha
      ·-- nothing
       split at ha
       ·next hlc=>
        cases ha;rw[Z0] at hlc;obtain⟨A,_⟩:=APP (.inr rfl);have hcs:cs=[]:=by simpa using hcl
        subst hcs;have hrun:=LP (P:=P) (w:=w) (w':=w) (ty:=ty) (a:=renA φ a) (sLen:=len) (sCap:=cap+extA φ a) h2 k1 A (by omega) (by simp[storeCells]);rw[hrun];exact AZ.same R (by rw[Ad];rfl) hA
       ·cases ha
      ·next hn0=>
       have hn:0<n:=by cases n with|zero=>exact absurd rfl hn0|succ _=>omega
       split at ha
       ·cases ha
       ·next hr=>
        obtain⟨A,hcs1⟩:=APP (.inl (hsub rfl hr));have hcs:=fun c hc=>(hcs1 c hc).1;obtain⟨hb1,hb2⟩:=hroomy hr;have grow:∀ old,h.cells E a (len*fe.size)=some old->cap+extA φ a<len+n->
          AZ D E n0 V φ h w ((Builtin.append_ #[t,t2] ty #[.slice (some (renA φ a)) len (cap+extA φ a),ren φ x]).run P w) (.slice (some (own h.next)) (len+n) (len+n)) (h.af (old++cs) e):=by
         intro old hold hlt;have hrun:=LQ (P:=P) (w:=w) (ty:=ty) h2 k1 z2 A (CN P R' hA hV hold) hlt hb1 hb2;obtain⟨ho1,ho2⟩:=R.bh hA (fun _=>hV _) hold;rw[hrun,<- List.map_append];refine Iu R hie (by rw[hzs,hies]) ?_ ?_ (Hw _ _ _ _)
         ·intro c hc;rcases Y4.1 hc with hc|hc
          ·obtain⟨j,hj⟩:=List.getElem?_of_mem hc;exact (ho2 j c hj).2.1
          ·exact hcs c hc
         ·rw[D0,ho1,hcl,hies,U3]
        split at ha
        ·next hsp=>
         have hext:extA φ a=0:=by simp[extA,hsp]
         split at ha
         ·next old hlt hold=>
          cases ha;have hlt:¬ (len+n<=cap):=fun hh=>by rw[Z0.mpr hh] at hlt;cases hlt
          exact grow old hold (by omega)
         ·cases ha
        ·cases ha
        ·next hsp=>
         obtain⟨c,b,ex,hk,hren,hext,hnc,hc⟩:=GW R hA hsp;split at ha
         ·next xs ty1 root hbk=>
          split at ha
          ·-- room that is known
           next hle=>
           rw[Z0] at hle;split at ha
           ·next hput=>
            cases ha;obtain⟨g1,g2,_⟩:=CM hA (len*fe.size);obtain⟨w',r1,r2,r3⟩:=R.put P g2 (fun _=>hV _) hput hcs;rw[g1] at r1;have hrun:=LP (P:=P) (w:=w) (w':=w') (ty:=ty) (a:=renA φ a) (sLen:=len) (sCap:=cap+extA φ a) h2 k1 A (by omega) r1;rw[hrun];exact⟨φ,w',by rw[Ad],hA,r2,Ext.same (Bf hput),r3⟩
           ·cases ha
          ·next hnle=>
           have hlt:¬ (len+n<=cap):=fun hh=>by rw[Z0.mpr hh] at hnle;cases hnle
           split at ha
           ·split at ha
            ·next old hold=>
             cases ha;have h00:=R.exact _ _ _ _ _ _ (H.ae hbk) hk;exact grow old hold (by omega)
            ·cases ha
           ·next r p=>
            split at ha
            ·next hcond=>
             cases ha;simp only[K0,Z0] at hcond;obtain⟨⟨⟨⟨hc1,hc2⟩,hc3⟩,hc4⟩,hc5⟩:=hcond;have hc1:=beq_true hc1;have hc2:=beq_true hc2;have hc3:=beq_true hc3;subst hc1;subst hc3;have hroot:=R.root _ _ _ _ _ (H.ae hbk);have hdl:(xs.drop a.off).length=len*fe.size:=by simp;omega
             have hcells:h.cells E a (len*fe.size)=some (xs.drop a.off):=by
              unfold H.cells;split
              ·next hz0=>rw[hz0] at hdl;rw[O3.1 hdl]
              ·simp only[hsp,hbk];have htk:(xs.drop a.off).take (len*fe.size)=xs.drop a.off:=List.take_of_length_le (by omega);rw[htk,hc4,Z0.mpr (by omega)];rfl
             obtain⟨ho1,ho2⟩:=R.bh hA (fun _=>hV _) hcells;have hall:∀ c∈xs.drop a.off++cs,okV φ c:=by
              intro c hc;rcases Y4.1 hc with hc|hc
              ·obtain⟨j,hj⟩:=List.getElem?_of_mem hc;exact (ho2 j c hj).2.1
              ·exact hcs c hc
             have hlen:(xs.drop a.off++cs).length=(len+n)*fe.size:=by rw[D0,hdl,hcl,U3]
             rw[Zs,hext];by_cases hex:n<=ex
             ·-- room behind: in place
              rcases R.blk _ _ _ _ _ (hV _) hbk hk with⟨_,hx0⟩|⟨cs0,u,fz0,L⟩
              ·rcases hx0 with hx0|hx0
               ·cases hx0
               ·omega
              obtain⟨hu,i',hi',hsz⟩:=L.room rfl;rw[hie] at hi'; cases hi';rw[hies] at hsz;have hmul:n*fe.size<=ex*fe.size:=Nat.mul_le_mul_right _ hex;have hsum:(len+n)*fe.size=len*fe.size+n*fe.size:=U3 _ _ _;have h0l:0<cs.length:=by rw[hcl];exact Nat.mul_pos hn h0
              have hpos:b+a.off+len*fe.size=b+xs.length:=by omega
              have hone:∀ v∈cs.map (ren φ),v.oneCell'=true:=by
               intro v hv;obtain⟨y,hy,rfl⟩:=List.mem_map.1 hv;exact Ju (by rw[MV];exact (hcs1 y hy).2)
              obtain⟨w',cs',r1,r2,r3,r4,r5,r6,r7,r8,r9⟩:=DD P c (b+xs.length) u fz0 (cs.map (ren φ)) 0 cs0 w L.block (by simp;omega) L.opn hone;have hst:(storeCells ((renA φ a).add (len*fe.size)) (cs.map (ren φ))).run P w=.ok () w':=by rw[hren,Addr.add_plain,hpos];exact r1
              have hrun:=LP (P:=P) (w:=w) (w':=w') (ty:=ty) (a:=renA φ a) (sLen:=len) (sCap:=len+ex) h2 k1 A (by omega) hst;rw[hrun];have hle:Le φ (upd φ h.next (c,b+a.off,ex-n)):=Dn (R.ar (C0 _));have hnh2:(Blk.cells xs ty1 (some (r,p))).hollow ex=false:=by
               cases xs with
               | nil=>cases ex with
                | zero=>omega
                | succ n=>rfl
               | cons _ _=>rfl
              have J:=R.join (w':=w') (ys:=xs.drop a.off++cs) (ty:=ty1) (r:=r) (p:=p+a.off) (c:=c) (b:=b+a.off) (e:=ex-n)
               (l:=h.spare r a.block (p+a.off+len*fe.size) (p+a.off+len*fe.size+cs.length)) (Y1 hroot) (fun j hj=>(O5.1 hj).1) hnc (by omega) (by omega) (fun d _ hd=>r3 d hd) ?_ ?_ ?_
              ·refine⟨_,w',?_,?_,J.note _,(DQ (k:=h.next) (.inr ⟨_,_,_,hk⟩)).of_next (by rw[H.ai];rfl),⟨r7,r8,r9,by omega,fun d _ hnd=>r3 d (fun ed=>hnd a.block b ex (ed▸hk))⟩⟩
               ·obtain⟨g1,g2,g3⟩:=Be (AR φ h.next (c,b+a.off,ex-n));rw[Ad,g1,g3,hren];have:len+n+(ex-n)=len+ex:=by omega
                rw[this]
               ·exact (Be (AR φ h.next (c,b+a.off,ex-n))).2.1
              ·intro _;refine .inr ⟨cs',u,fz0,r2,by rw[r5];exact L.opn,?_,fun _=>⟨hu,_,hie,?_⟩,fun h1 _=>(by cases h1)⟩
               ·intro j y hj;have hok:=hall y (H3 hj);have hok':=okV.le hle hok;refine⟨ren φ y,?_,fun _=>⟨hok'.1,hok'.2.symm⟩⟩;rw[r6];simp only[E3,T5];by_cases hjl:j<(xs.drop a.off).length
                ·rw[O4 hjl] at hj;rw[if_neg (by omega)];have hj1:isOne y=true:=(O2.1 hc4) y (H3 hj);rw[D6] at hj;obtain⟨z,hz1,hz2⟩:=L.cell _ _ hj;rw[<- Nat.add_assoc] at hz1;rw[hz1,(hz2 hj1).2]
                ·have hjl':=(O0.1 hj).1;rw[P6 (by omega)] at hj;rw[if_pos (by omega),J3];have:b+a.off+j-(b+xs.length)=j-(xs.drop a.off).length:=by omega
                 rw[this,hj];rfl
               ·have hm2:ex*ie.size=n*ie.size+(ex-n)*ie.size:=by rw[<- U3];congr 1;omega
                rw[r5,hsz,hlen,<- hies,U3,hm2];rw[hies];omega
              ·intro k B b' e' hVk hkb hin hφ;by_cases hh:B.hollow e'=true
               ·exact CV.bp hh
               ·have hh:B.hollow e'=false:=by simpa using hh
                obtain⟨ys,uy,q,rfl,hq⟩:∃ ys uy q,B=.cells ys uy (some (r,q))/\b'+p=b+q:=by
                 by_cases ek:k=a.block
                 ·subst ek;rw[hbk] at hkb;cases hkb;rw[hk] at hφ;cases hφ;exact⟨_,_,_,rfl,rfl⟩
                 ·obtain⟨xs1,ty1,r1,p1,xs2,ty2,p2,rfl,hB2,hp⟩:=R.apart _ _ _ _ _ _ _ _ _ ek hkb hbk hh hnh2 hφ hk;cases hB2;exact⟨_,_,_,rfl,hp⟩
                have hkin:=hin _ _ _ rfl;simp only[H.spare,O5] at hkin;have hnhit:h.ay a.block (p+a.off+len*fe.size) (p+a.off+len*fe.size+cs.length) k=false:=by simpa using hkin.2
                have T0:=R.blk _ _ _ _ _ hVk hkb hφ;rcases T0 with⟨hy,hr0⟩|⟨cs1,u1,fz1,L1⟩
                ·exact .inl ⟨hy,hr0⟩
                ·have e1:cs1=cs0/\u1=u/\fz1=fz0:=by
                  have:=L1.block;rw[L.block] at this;cases this;exact⟨rfl,rfl,rfl⟩
                 obtain⟨rfl,rfl,rfl⟩:=e1;refine .inr ⟨cs',u1,fz1,r2,by rw[r5];exact L1.opn,?_,?_,fun h1 _=>(by cases h1)⟩
                 ·intro j y hj;have hjl:=(O0.1 hj).1;rw[r6,if_neg]
                  ·obtain⟨z,hz1,hz2⟩:=L1.cell j y hj;refine⟨z,hz1,fun h1 => ?_⟩;obtain⟨ok,rfl⟩:=hz2 h1;have:=okV.le hle ok;exact⟨this.1,this.2.symm⟩
                  ·simp only[E3,T5];rintro⟨q1,q2⟩;by_cases ek:k=a.block
                   ·subst ek;rw[hbk] at hkb;cases hkb;omega
                   ·simp only[H.ay,H.ae hkb] at hnhit;have hjk:Nat.beq k a.block=false:=by cases hb2:Nat.beq k a.block with|false=>rfl|true=>exact absurd (beq_true hb2) ek
                    rw[hjk] at hnhit;simp only[Bool.and_eq_false_iff] at hnhit;rcases hnhit with (hnh|hnh)|hnh
                    ·have:¬ (p+a.off+len*fe.size<q+ys.length):=fun hlt=>by rw[show Nat.blt _ _=true from by rw[P0];exact hlt] at hnh;cases hnh
                     omega
                    ·have:¬ (q<p+a.off+len*fe.size+cs.length):=fun hlt=>by rw[show Nat.blt _ _=true from by rw[P0];exact hlt] at hnh;cases hnh
                     omega
                    ·have:¬ (0<ys.length):=fun hlt=>by rw[show Nat.blt _ _=true from by rw[P0];exact hlt] at hnh;cases hnh
                     omega
                 ·intro hr;obtain⟨g1,i2,g2,g3⟩:=L1.room hr;exact⟨g1,i2,g2,by rw[r5];exact g3⟩
              ·intro k B b' e' _ hkb hh hφ;by_cases ek:k=a.block
               ·subst ek;rw[hbk] at hkb;cases hkb;rw[hk] at hφ;cases hφ;exact⟨_,_,_,rfl,by omega⟩
               ·obtain⟨xs1,ty1,r1,p1,xs2,ty2,p2,rfl,hB2,hp⟩:=R.apart _ _ _ _ _ _ _ _ _ ek hkb hbk hh hnh2 hφ hk;cases hB2;exact⟨_,_,_,rfl,by omega⟩
             ·-- none: a new row
              have hrun:=LQ (P:=P) (w:=w) (ty:=ty) (sCap:=len+ex) h2 k1 z2 A (CN P R' hA hV hcells) (by omega) hb1 hb2;rw[hrun,<- List.map_append];have hge:=Hw w (len+n) (len+ex) ty1;generalize grownCap w (len+n) (len+ex) ty1=nc at hge ⊢;have hle:Le φ (upd φ h.next (w.heap.size,0,nc-(len+n))):=Dn (R.ar (C0 _));have J:=R.join (w':=w.drew.alloc (.cells (((xs.drop a.off++cs).map (ren φ)).toArray++Builtin.zeroCells ze.cells (nc-(len+n))) ty1)) (ys:=xs.drop a.off++cs) (ty:=ty1) (r:=r) (p:=p+a.off) (c:=w.heap.size) (b:=0) (e:=nc-(len+n))
               (l:=h.spare r a.block (p+a.off+len*fe.size) (p+a.off+len*fe.size+cs.length)) (Y1 hroot) (fun j hj=>(O5.1 hj).1) R.size (by show _<(w.heap.push _).size;simp) (by show _<=(w.heap.push _).size;simp) (fun d hd _=>CH w _ hd) ?_ ?_ ?_
              ·refine⟨_,_,?_,?_,J.note _,(DQ (k:=h.next) (.inl (C0 _))).of_next (by rw[H.ai];rfl),Kept.push φ _ rfl rfl rfl rfl⟩
               ·obtain⟨g1,g2,g3⟩:=Be (AR φ h.next (w.heap.size,0,nc-(len+n)));rw[Ad,g1,g3,Nat.add_sub_cancel' hge]
               ·exact (Be (AR φ h.next (w.heap.size,0,nc-(len+n)))).2.1
              ·intro _;refine .inr ⟨_,ty1,(0,0),(by show (w.heap.push _)[w.heap.size]? = _;rw[Y6]),.inl rfl,?_,fun _=>⟨rfl,_,hie,?_⟩,fun h1 _=>(by cases h1)⟩
               ·intro j y hj;have hjl:=(O0.1 hj).1;have hok':=okV.le hle (hall y (H3 hj));refine⟨ren φ y,?_,fun _=>⟨hok'.1,hok'.2.symm⟩⟩;rw[Z1,Array.getElem?_append_left (by simpa using hjl)];simp only[List.getElem?_toArray,J3,hj];rfl
               ·simp[Builtin.zeroCells,hzs,hies]
              ·intro k B b' e' _ _ _ hφ;have:=(R.dom _ _ _ _ hφ).2.2;omega
              ·intro k B b' e' _ _ _ hφ;have:=(R.dom _ _ _ _ hφ).2.2;omega
            ·cases ha
         ·cases ha
     ·cases ha
   ·cases ha
  ·cases ha
 ·cases ha
end ops
section ops
variable {P:Program} {D:Tab} {E:Env} {n0:Nat} {V:Nat->Prop} {φ:Ph} {h h':H} {w:World}
def WM:Obj->Bool
 | .cells _ _ _=>false
 | _=>true
theorem Co {c:Nat} {o:Obj} (h:w.heap[c]? = some o) (hc:WM o=true):(getObj c).run P w=.ok o w:=by
 cases o<;>first|(simp[WM] at hc;done)|simp[getObj,Sem.run,h]
theorem Ch {c:Nat} {o:Obj} (h:w.heap[c]? = some o) (hc:WM o=true) (o':Obj):(setObj c o').run P w=.ok () { w with heap:=w.heap.setIfInBounds c o' }:=by
 cases o<;>first|(simp[WM] at hc;done)|simp[setObj,Sem.run,h]
theorem Vl (φ:Ph):ren φ (.tuple #[])=.tuple #[]:=by
 rw[show (#[]:Array Value)=⟨[]⟩ from rfl,GP];rfl
theorem AZ.put (P:Program) (R:Tie D E n0 V φ h w) {a:Addr} {vs:List Value} {v:Value} {r:Result Value} (ha:okA φ a) (hV:a.spot=some 0->V a.block) (hp:h.put a vs=some h') (hv:∀ v∈vs,okV φ v) (hok:okV φ v)
  (hr:∀ w',(storeCells (renA φ a) (vs.map (ren φ))).run P w=.ok () w'->r=.ok (ren φ v) w'):AZ D E n0 V φ h w r v h':=by
 obtain⟨w',r1,r2,r3⟩:=R.put P ha hV hp hv;exact⟨φ,w',hr w' r1,hok,r2,Ext.same (Bf hp),r3⟩
theorem NA (l:List UInt8):∀ c∈bytesV l,roV c=true:=by
 intro c hc;obtain⟨_,_,rfl⟩:=List.mem_map.1 hc;rfl
theorem ABE {l:List Value} (h:∀ c∈l,roV c=true) (φ:Ph):∀ c∈l,okV φ c:=fun c hc=>(roV.ok φ (h c hc)).1
theorem Ei (P:Program) (w:World) (sz n:Nat) (s:ByteArray) (hn:n<=s.data.toList.length):(Builtin.firstCells sz n (.string s)).run P w=.ok ((bytesV s.data.toList).take n).toArray w:=by
 simp[Builtin.firstCells,bytesV];apply L5;simp[ByteArray.data_extract,List.extract_eq_take_drop,List.map_take]
theorem Uu (T:D.Of P) (R:Tie D E n0 V φ h w) (hV:∀ k,V k) {t t2 ty:TypeId} {d x v:Value} {ts:Array TypeId} (hts:ts[0]? = some t) (hd:okV φ d) (hx:okV φ x) (ha:LY D E t d x h=some (v,h')) :
  AZ D E n0 V φ h w ((Builtin.copy_ ts ty #[ren φ d,ren φ x]).run P w) v h':=by
 unfold LY at ha;split at ha
 ·next e sz by_ _ _ _ _ hi=>
  obtain⟨f,d',h1,h2,h3,h4,_⟩:=T.get hi;obtain⟨rfl,fe,k1,rfl,rfl⟩:=BE h3.symm;split at ha
  ·split at ha
   ·next b m c=>
    cases ha;refine AZ.same R ?_ trivial;cases b with
    | none=>simp[Builtin.copy_,hts,run_underlying h2,ren,Builtin.lenOf,sizeOf,typeInfo,k1,Builtin.firstCells,goInt]
    | some b=>simp[Builtin.copy_,hts,run_underlying h2,ren,Builtin.lenOf,sizeOf,typeInfo,k1,Builtin.firstCells,goInt,loadCells,loadCellsFrom]
   ·next s=>
    cases ha;refine AZ.same R ?_ trivial;have:=Ei P w fe.size 0 s (C2 _);simp[Builtin.copy_,hts,run_underlying h2,ren,Builtin.lenOf,sizeOf,typeInfo,k1,this,goInt]
   ·cases ha
  ·next a len c=>
   have hA:okA φ a:=hd;split at ha
   ·next b m c2=>
    have hB:okA φ b:=hx;split at ha
    ·next cs hcs=>
     split at ha
     ·next hp=>
      cases ha;have hf:=CN P R (len:=m) (cap:=c2+extA φ b) hB hV hcs;refine AZ.put P R hA (fun _=>hV _) hp ?_ trivial ?_
      ·intro c hc;obtain⟨j,hj⟩:=List.getElem?_of_mem hc;exact ((R.bh hB (fun _=>hV _) hcs).2 j c hj).2.1
      ·intro w' hw;simp[Builtin.copy_,hts,run_underlying h2,Ad,Bt,Builtin.lenOf,sizeOf,typeInfo,k1,hf,hw,goInt]
     ·cases ha
    ·cases ha
   ·cases ha;refine AZ.same R ?_ trivial;simp[Builtin.copy_,hts,run_underlying h2,ren,Builtin.lenOf,sizeOf,typeInfo,k1,Builtin.firstCells,goInt,storeCells]
   ·next s=>
    split at ha
    ·next hp=>
     cases ha;have hf:=Ei P w fe.size (Nat.min s.data.toList.length len) s (Nat.min_le_left _ _);have hro:∀ c∈(bytesV s.data.toList).take (Nat.min s.data.toList.length len),roV c=true:=fun c hc=>NA _ c (List.mem_of_mem_take hc);refine AZ.put P R hA (fun _=>hV _) hp (ABE hro φ) trivial ?_;intro w' hw;rw[CF hro] at hw;rw[CU] at hf hw ⊢;simp[Builtin.copy_,hts,run_underlying h2,Ad,Bt,CS,Builtin.lenOf,sizeOf,typeInfo,k1,hf,hw,goInt]
    ·cases ha
   ·cases ha
  ·cases ha
 ·cases ha
theorem JQ (z:Array Value) (n:Nat):Builtin.zeroCells z n=(BB z.toList n).toArray:=by
 rcases Nat.eq_zero_or_pos z.size with h0|h0
 ·have:z=#[]:=Array.size_eq_zero_iff.1 h0;subst this;have hz:∀ n,BB [] n=[]:=by
   intro n;induction n with
   | zero=>rfl
   | succ n ih=>simp[BB,ih]
  simp[Builtin.zeroCells,hz]
 ·exact ES z n h0
theorem RY (T:D.Of P) (R:Tie D E n0 V φ h w) (hV:∀ k,V k) {t ty:TypeId} {x v:Value} (hx:okV φ x) (ha:JK D t x h=some (v,h')) :
  AZ D E n0 V φ h w ((Builtin.clear_ #[t] ty #[ren φ x]).run P w) v h':=by
 unfold JK at ha;split at ha
 ·next e sz by_ _ _ _ _ hi=>
  obtain⟨f,d',h1,h2,h3,h4,_⟩:=T.get hi;obtain⟨rfl,fe,k1,rfl,rfl⟩:=BE h3.symm;split at ha
  ·cases ha;refine AZ.same R ?_ ((Bh φ []).2 (by simp));simp[Builtin.clear_,run_underlying h2,ren,renL]
  ·next c=>
   cases ha;refine AZ.same R ?_ ((Bh φ []).2 (by simp));simp[Builtin.clear_,run_underlying h2,ren,renL]
  ·next a n c=>
   split at ha
   ·next z hz=>
    obtain⟨fz,z1,z2,z3⟩:=T.zero hz;rw[k1] at z1;cases z1;split at ha
    ·next hp=>
     cases ha;have hro:∀ c∈BB z.cells.toList (n+1),roV c=true:=fun c hc=>EH z3 c (Bv hc);refine AZ.put P R (show okA φ a from hx) (fun _=>hV _) hp (ABE hro φ) ((Bh φ []).2 (by simp)) ?_;intro w' hw;rw[CF hro] at hw;simp[Builtin.clear_,run_underlying h2,Ad,zeroValue,typeInfo,k1,z2,JQ,hw,ren,renL]
    ·cases ha
   ·cases ha
  ·cases ha
 ·next ky el _ _ _ _ hi=>
  obtain⟨f,d',h1,h2,h3,h4,_⟩:=T.get hi;have hd:=DG h3.symm;subst hd;split at ha
  ·cases ha;refine AZ.same R ?_ ((Bh φ []).2 (by simp));simp[Builtin.clear_,run_underlying h2,ren,renL]
  ·next r=>
   split at ha
   ·next es cl hb=>
    cases ha;obtain⟨⟨c,b,e⟩,hk⟩:=J1.1 (show (φ r).isSome=true from hx);obtain⟨hm,_⟩:=R.blk _ _ _ _ _ (hV _) hb hk;have hN:renN φ r=c:=by simp[renN,hk]
    refine⟨φ,{ w with heap:=w.heap.setIfInBounds c (.map #[] cl) },?_,(Bh φ []).2 (by simp),R.aq hb (by intros;simp) (by intros;simp) hk (o:=.map #[] cl) rfl ?_,Ext.same (Ag _ _ _),?_⟩
    ·simp[Builtin.clear_,run_underlying h2,ren,renL,hN,Co hm rfl,Ch hm rfl]
    ·intro _;refine⟨?_,by simp⟩;have:=(R.dom _ _ _ _ hk).2.2;simp[this]
    ·refine⟨rfl,rfl,rfl,by simp,fun d _ hn => ?_⟩;have:c≠d:=fun ed=>hn r b e (ed▸hk);simp[Q3,this]
   ·cases ha
  ·cases ha
 ·cases ha
theorem XM (T:D.Of P) (R:Tie D E n0 V φ h w) {t ty:TypeId} {x v:Value} (hx:okV φ x) (hV:∀ r,x=.map (some r)->(∃ i ky el,D.ty.get t=some i/\i.td=.map ky el)->V r) (ha:Cp D t x h=some v) :
  (Builtin.len_ #[t] ty #[ren φ x]).run P w=.ok (ren φ v) w/\okV φ v:=by
 unfold Cp at ha;split at ha
 ·next hi=>
  obtain⟨f,d',h1,h2,h3,h4,_⟩:=T.get hi;have hd:=BM h3.symm;subst hd;split at ha
  ·cases ha;exact⟨by simp[Builtin.len_,run_underlying h2,ren,goInt],trivial⟩
  ·cases ha
 ·next n e sz _ _ _ _ hi=>
  obtain⟨f,d',h1,h2,h3,h4,_⟩:=T.get hi;obtain⟨rfl,fe,k1,k2⟩:=CE h3.symm;cases ha;exact⟨by simp[Builtin.len_,run_underlying h2,ren,goInt],trivial⟩
 ·next e sz by_ _ _ _ _ hi=>
  obtain⟨f,d',h1,h2,h3,h4,_⟩:=T.get hi;obtain⟨rfl,fe,k1,rfl,rfl⟩:=BE h3.symm;split at ha
  ·next b n c=>
   cases ha;refine⟨?_,trivial⟩;cases b<;>simp[Builtin.len_,run_underlying h2,ren,goInt]
  ·cases ha
 ·next ky el _ _ _ _ hi=>
  obtain⟨f,d',h1,h2,h3,h4,_⟩:=T.get hi;have hd:=DG h3.symm;subst hd;split at ha
  ·cases ha;exact⟨by simp[Builtin.len_,run_underlying h2,ren,goInt],trivial⟩
  ·next r=>
   split at ha
   ·next es cl hb=>
    cases ha;obtain⟨⟨c,b,e⟩,hk⟩:=J1.1 (show (φ r).isSome=true from hx);obtain⟨hm,_⟩:=R.blk _ _ _ _ _ (hV _ rfl ⟨_,_,_,hi,rfl⟩) hb hk;have hN:renN φ r=c:=by simp[renN,hk]
    exact⟨by simp[Builtin.len_,run_underlying h2,ren,hN,Co hm rfl,goInt],trivial⟩
   ·cases ha
  ·cases ha
 ·cases ha
theorem XQ (T:D.Of P) (R:Tie D E n0 V φ h w) {t ty:TypeId} {x v:Value} (hx:okV φ x) (ha:XR D t x h=some v) :
  (Builtin.cap_ #[t] ty #[ren φ x]).run P w=.ok (ren φ v) w/\okV φ v:=by
 unfold XR at ha;split at ha
 ·next e sz by_ _ _ _ _ hi=>
  obtain⟨f,d',h1,h2,h3,h4,_⟩:=T.get hi;obtain⟨rfl,fe,k1,rfl,rfl⟩:=BE h3.symm;split at ha
  ·cases ha;exact⟨by simp[Builtin.cap_,run_underlying h2,ren,goInt],trivial⟩
  ·next a n c=>
   have hA:okA φ a:=hx;split at ha
   ·next hsp=>
    cases ha;have hext:extA φ a=0:=by simp[extA,hsp]
    exact⟨by simp[Builtin.cap_,run_underlying h2,ren,goInt,hext],trivial⟩
   ·next hsp=>
    cases ha;have hext:extA φ a=0:=by simp[extA,hsp]
    exact⟨by simp[Builtin.cap_,run_underlying h2,ren,goInt,hext],trivial⟩
   ·next hsp=>
    obtain⟨c',b,ex,hk,hren,hext,hnc,hc⟩:=GW R hA hsp;split at ha
    ·next hbk=>
     cases ha;have h00:=R.exact _ _ _ _ _ _ (H.ae hbk) hk;exact⟨by simp[Builtin.cap_,run_underlying h2,ren,goInt,hext,h00],trivial⟩
    ·cases ha
  ·cases ha
 ·cases ha
theorem NJ (P:Program) (f:Int->Int->Int) (g:Value->Value->Sem Value) (hg:∀ k x k' y,g (.int k x) (.int k' y)=pure (.int k (f x y))) (k:IntKind):∀ (l:List Value) (x:Int) (v:Value),NK f k x l=some v->((l.map (ren φ)).foldlM g (.int k x)).run P w=.ok (ren φ v) w/\okV φ v:=by
 intro l;induction l with
 | nil=>intro x v hv;simp only[NK] at hv;cases hv;exact⟨by simp[Bt],trivial⟩
 | cons y l ih=>
  intro x v hv;simp only[NK] at hv;split at hv
  ·split at hv
   ·obtain⟨g1,g2⟩:=ih _ _ hv;refine⟨?_,g2⟩;simp only[I3,List.foldlM_cons,Bt,hg,Sem.run_bind,Sem.run_pure,Result.andThen_ok];exact g1
   ·cases hv
  ·cases hv
theorem XK {ts:Array TypeId} {ty:TypeId} {l:List Value} {v:Value} (ha:Uq (fun x y=>if y<x then y else x) l=some v) :
  (Builtin.min_ ts ty (l.map (ren φ)).toArray).run P w=.ok (ren φ v) w/\okV φ v:=by
 unfold Uq at ha;split at ha
 ·next k x rest=>
  obtain⟨g1,g2⟩:=NJ (φ:=φ) (w:=w) P (fun x y=>if y<x then y else x) Builtin.min2 (fun _ _ _ _=>rfl) k rest x v ha;exact⟨by simpa only[Builtin.min_,I3,F3,Bt] using g1,g2⟩
 ·cases ha
theorem XL {ts:Array TypeId} {ty:TypeId} {l:List Value} {v:Value} (ha:Uq (fun x y=>if y>x then y else x) l=some v) :
  (Builtin.max_ ts ty (l.map (ren φ)).toArray).run P w=.ok (ren φ v) w/\okV φ v:=by
 unfold Uq at ha;split at ha
 ·next k x rest=>
  obtain⟨g1,g2⟩:=NJ (φ:=φ) (w:=w) P (fun x y=>if y>x then y else x) Builtin.max2 (fun _ _ _ _=>rfl) k rest x v ha;exact⟨by simpa only[Builtin.max_,I3,F3,Bt] using g1,g2⟩
 ·cases ha
end ops
section ops
variable {P:Program} {D:Tab} {E:Env} {n0:Nat} {V:Nat->Prop} {φ:Ph} {h h':H} {w:World}
theorem LX (T:D.Of P):∀ (d:Nat) (t:TypeId) (x y:Value) (b:Bool),okV φ x->okV φ y->aeq D d t x y=some b->(Op.equalIn d t (ren φ x) (ren φ y)).run P w=.ok b w:=by
 intro d;induction d with
 | zero=>intro t x y b _ _ h;simp[aeq] at h
 | succ d ih=>
  intro t x y b hx hy h;simp only[aeq] at h;split at h
  ·cases h
  ·next i hi=>
   obtain⟨f,td,h1,h2,h3,h4,_,_,h5⟩:=T.get hi;split at h
   ·next htd=>
    rw[h3] at htd;have:=IL htd;subst this;cases h;simp[Op.equalIn,run_underlying h2,ren]
   ·next k a k' b' htd=>
    rw[h3] at htd;have:=CD htd;subst this;split at h
    ·next hk=>
     cases h;have hk:=of_decide_eq_true hk;simp[Op.equalIn,run_underlying h2,ren,hk]
    ·cases h
   ·next htd=>
    rw[h3] at htd;have:=BM htd;subst this;cases h;simp[Op.equalIn,run_underlying h2,ren]
   ·next n e sz xs ys htd=>
    rw[h3] at htd;obtain⟨rfl,fe,k1,rfl⟩:=CE htd;split at h
    ·obtain⟨xs⟩:=xs;obtain⟨ys⟩:=ys;have hxs:=(DY φ xs).1 hx;have hys:=(DY φ ys).1 hy;rw[Ck,Ck,run_equalIn_array w d _ _ h2 k1];have hc:P.cellsOf e=fe.size:=by simp[Program.cellsOf,k1]
     rw[hc];have key:∀ (m k:Nat) (b:Bool),D8 D (aeq D d e) e fe.size m k xs ys=some b->(Op.eqItems d e fe.size (xs.map (ren φ)).toArray (ys.map (ren φ)).toArray (List.range' k m)).run P w=.ok b w:=by
      intro m;induction m with
      | zero=>intro k b hb;simp only[D8] at hb;cases hb;simp[Op.eqItems]
      | succ m ihm=>
       intro k b hb;simp only[D8] at hb;split at hb
       ·next a c ha hc=>
        obtain⟨p1,o1⟩:=EN (w:=w) T hxs ha;obtain⟨p2,o2⟩:=EN (w:=w) T hys hc;simp only[List.range'_succ,Op.eqItems,Sem.run_bind,p1,p2,Result.andThen_ok];split at hb
        ·next he=>
         rw[ih e a c true o1 o2 he];simpa using ihm (k+1) b hb
        ·next r hr=>
         cases b with
         | true=>exact absurd hb (by intro h9;exact hr h9)
         | false=>rw[ih e a c false o1 o2 hb];simp
       ·cases hb
     rw[List.range_eq_range'];exact key n 0 b h
    ·cases h
   ·next fs xs ys htd=>
    rw[h3] at htd;obtain⟨F,rfl,hF⟩:=DR htd;split at h
    ·next heq=>
     obtain⟨xs⟩:=xs;obtain⟨ys⟩:=ys;have hxs:=(DY φ xs).1 hx;have hys:=(DY φ ys).1 hy;rw[h5] at heq;simp only[K0,C3] at heq;have hf:P.fieldsOf t=F:=by simp[Program.fieldsOf,h2]
     rw[Ck,Ck,run_equalIn_struct w d t _ _ (by rw[hf];exact h2) heq.1,hf];have key:∀ (l:List Field) (fs:List (Nat×TypeId×Nat)) (b:Bool),fieldsOf P l=some fs->eqFields D (aeq D d) fs xs ys=some b->(Op.eqFields d (xs.map (ren φ)).toArray (ys.map (ren φ)).toArray l).run P w=.ok b w:=by
      intro l;induction l with
      | nil=>intro fs b hl hb;simp only[fieldsOf] at hl;cases hl;simp only[eqFields] at hb;cases hb;simp[Op.eqFields]
      | cons fd l ihl=>
       intro fs b hl hb;simp only[fieldsOf] at hl;split at hl
       ·next i l' _ hl'=>
        split at hl
        ·cases hl
        ·next hnm=>
         cases hl;simp only[eqFields] at hb;split at hb
         ·next a c ha hc=>
          obtain⟨p1,o1⟩:=EN (w:=w) T hxs ha;obtain⟨p2,o2⟩:=EN (w:=w) T hys hc;have hnm':fd.name ≠ "_" := by simpa using hnm
          simp only[Op.eqFields,hnm',ne_eq,not_false_eq_true,if_true,Sem.run_bind,p1,p2,Result.andThen_ok];split at hb
          ·next he=>
           rw[ih fd.type a c true o1 o2 he];simpa using ihl l' b hl' hb
          ·next r hr=>
           cases b with
           | true=>exact absurd hb (by intro h9;exact hr h9)
           | false=>rw[ih fd.type a c false o1 o2 hb];simp
         ·cases hb
       ·cases hl
     exact key F.toList fs b hF h
    ·cases h
   ·cases h
theorem XG (T:D.Of P) {t:TypeId} {x y:Value} {b:Bool} (h:RP D t x y=some b):(Op.equal t (ren φ x) (ren φ y)).run P w=.ok b w:=by
 unfold RP at h;split at h
 ·next i hi=>
  obtain⟨f,td,h1,h2,h3,h4,_,_,h5⟩:=T.get hi;obtain⟨d,hd⟩:∃ d,Op.maxDepth=d+1:=⟨9999,rfl⟩;unfold Op.equal;rw[hd];split at h
  ·next _ _ _ _ _ b _ _ htd=>
   rw[h3] at htd;obtain⟨rfl,_⟩:=BE htd;cases h;cases b<;>simp[Op.equalIn,run_underlying h2,ren]
  ·next htd=>
   rw[h3] at htd;obtain⟨rfl,_⟩:=BE htd;cases h;simp[Op.equalIn,run_underlying h2,ren]
  ·next htd=>
   rw[h3] at htd;have:=DG htd;subst this;cases h
   next b=>cases b<;>simp[Op.equalIn,run_underlying h2,ren]
  ·next htd=>
   rw[h3] at htd;have:=DG htd;subst this;cases h;simp[Op.equalIn,run_underlying h2,ren]
  ·next htd=>
   rw[h3] at htd;obtain⟨_,_,_,rfl⟩:=IK htd;cases h;simp[Op.equalIn,run_underlying h2,ren]
  ·next fx xs ys htd=>
   rw[h3] at htd;obtain⟨_,_,_,rfl⟩:=IK htd;cases h;obtain⟨xs⟩:=xs;obtain⟨ys⟩:=ys;simp[Op.equalIn,run_underlying h2,ren]
  ·next fx xs ys htd=>
   rw[h3] at htd;obtain⟨_,_,_,rfl⟩:=IK htd;cases h;obtain⟨xs⟩:=xs;obtain⟨ys⟩:=ys;simp[Op.equalIn,run_underlying h2,ren]
  ·next b htd=>
   rw[h3] at htd;obtain⟨_,rfl⟩:=Er htd;cases h;cases b<;>simp[Op.equalIn,run_underlying h2,ren]
  ·next htd=>
   rw[h3] at htd;obtain⟨_,rfl⟩:=Er htd;cases h;simp[Op.equalIn,run_underlying h2,ren]
  ·cases h
 ·cases h
end ops
section ops
variable {P:Program} {D:Tab} {E:Env} {n0:Nat} {V:Nat->Prop} {φ:Ph} {h h':H} {w:World}
theorem XN (t:TypeId) {op:BinOp} {k:IntKind} {a b:Int} {v:Value} (hs:EX op=false) (h:Bk op k a b=some v) :
  (binOp op t (.int k a) (.int k b)).run P w=.ok (ren φ v) w/\okV φ v:=by
 cases op<;>simp only[Bk] at h<;>first|(cases h;done)|(simp[EX] at hs;done)|(cases h;refine⟨?_,trivial⟩;simp[binOp,Op.intArith,Op.intBits,Op.intCmp,ren];done)|skip
 ·split at h
  ·cases h
  ·next hb=>
   cases h;refine⟨?_,trivial⟩;have:b≠0:=fun e=>hb e;simp[binOp,Op.intDiv,this,ren]
 ·split at h
  ·cases h
  ·next hb=>
   cases h;refine⟨?_,trivial⟩;have:b≠0:=fun e=>hb e;simp[binOp,Op.intDiv,this,ren]
 all_goals
  (cases h
   refine⟨?_,trivial⟩;simp only[binOp,ren,Op.intCmp,ne_eq,not_true_eq_false,if_false,Sem.run_pure]
   first
   | rfl
   | (congr 2;done)
   | (congr 2;simp[bne];done)
   | (congr 2;by_cases hab:a=b<;>simp[bne,hab]))
theorem RK (t:TypeId) {op:BinOp} {k k':IntKind} {a b:Int} {v:Value} (h:DF op k a b=some v) :
  (binOp op t (.int k a) (.int k' b)).run P w=.ok (ren φ v) w/\okV φ v:=by
 unfold DF at h;split at h
 ·next n=>
  have h0:¬ ((n:Int)<0):=by omega
  split at h
  ·cases h;exact⟨by simp[binOp,Op.shift,h0,ren],trivial⟩
  ·cases h;exact⟨by simp[binOp,Op.shift,h0,ren],trivial⟩
  ·cases h
 ·cases h
theorem My (a b:ByteArray):a++b=⟨⟨a.data.toList++b.data.toList⟩⟩:=by
 apply Gf;simp[ByteArray.data_append]
theorem W7 (t:TypeId) {op:BinOp} {a b:ByteArray} {v:Value} (h:astr op a.data.toList b.data.toList=some v) :
  (binOp op t (.string a) (.string b)).run P w=.ok (ren φ v) w/\okV φ v:=by
 cases op<;>simp only[astr] at h<;>first|(cases h;done)|(cases h;refine⟨?_,trivial⟩;simp[binOp,Op.stringOp,ren,ByteArray.toList_eq];done)|skip
 split at h
 ·next hle=>
  rw[Z0,CU,CU] at hle;cases h;refine⟨?_,trivial⟩;have:¬ (((a.size+b.size:Nat):Int)>9223372036854775807):=by omega
  have h2:¬ ((9223372036854775807:Int)<(a.size:Int)+(b.size:Int)):=by omega
  simp[binOp,Op.stringOp,ren,My,h2]
 ·cases h
theorem AAU (T:D.Of P) {d:Nat} {t:TypeId} {xs:Array Value} {y:Value} {b:Bool} (h:aeq D d t (.agg xs) y=some b):(∃ ys,y=.agg ys)/\P.eqGuardType P.depth t=false:=by
 cases d with
 | zero=>simp[aeq] at h
 | succ d=>
  simp only[aeq] at h;split at h
  ·cases h
  ·next i hi=>
   obtain⟨f,td,h1,h2,h3,h4,_,_,h5⟩:=T.get hi;have fin:i.eqok=true->P.eqGuardType P.depth t=false:=by
    intro hk;rw[h5] at hk;simp only[K0,C3] at hk;exact hk.2
   split at h
   ·contradiction
   ·contradiction
   ·contradiction
   ·split at h
    ·next hk=>exact⟨⟨_,rfl⟩,fin hk⟩
    ·cases h
   ·split at h
    ·next hk=>exact⟨⟨_,rfl⟩,fin hk⟩
    ·cases h
   ·cases h
theorem XO {d:Nat} {t:TypeId} {a:Bool} {y:Value} {b:Bool} (h:aeq D d t (.bool a) y=some b):∃ c,y=.bool c:=by
 cases d with
 | zero=>simp[aeq] at h
 | succ d=>
  simp only[aeq] at h;split at h
  ·cases h
  ·next i hi=>
   split at h
   ·exact⟨_,rfl⟩
   ·contradiction
   ·contradiction
   ·contradiction
   ·contradiction
   ·cases h
def aeq? (D:Tab) (t:TypeId) (x y:Value):Option Bool:=match x with|.agg _|.bool _=>aeq D 10000 t x y|_=>RP D t x y
def CA:Value->Value->Bool
 | .agg _,.agg _|.bool _,.bool _|.slice _ _ _,.slice _ _ _|.map _,.map _|.pointer _,.pointer _|.nilFunc,.nilFunc|.nilFunc,.func _ _ _|.func _ _ _,.nilFunc=>true
 | _,_=>false
theorem Ea (φ:Ph) {x y:Value} (h:CA x y=true):CA (ren φ x) (ren φ y)=true:=by
 unfold CA at h;split at h
 ·next xs ys=>obtain⟨xs⟩:=xs;obtain⟨ys⟩:=ys;simp[ren,CA]
 ·simp[ren,CA]
 ·next a _ _ b _ _=>cases a<;>cases b<;>simp[ren,CA]
 ·next a b=>cases a<;>cases b<;>simp[ren,CA]
 ·next a b=>cases a<;>cases b<;>simp[ren,CA]
 ·simp[ren,CA]
 ·next xs ys=>obtain⟨xs⟩:=xs;obtain⟨ys⟩:=ys;simp[ren,CA]
 ·next xs ys=>obtain⟨xs⟩:=xs;obtain⟨ys⟩:=ys;simp[ren,CA]
 ·cases h
theorem UO {x y:Value} (h:CA x y=true) (t:TypeId):(binOp .eql t x y).run P w=((Op.equal t x y).run P w).andThen (fun b w=>.ok (.bool b) w)/\(binOp .neq t x y).run P w=((Op.equal t x y).run P w).andThen (fun b w=>.ok (.bool (!b)) w):=by
 unfold CA at h;split at h<;>first|(cases h;done)|exact⟨by simp[binOp],by simp[binOp]⟩
theorem Jz {x y:Value} (h:CA x y=true) {t:TypeId} (hg:∀ xs,x=.agg xs->P.eqGuardType P.depth t=false) (op:BinOp) (X Y:Operand):(eqGuard op t X Y x y).run P w=.ok () w:=by
 unfold CA at h;split at h<;>first|(cases h;done)|skip
 ·cases op<;>simp[eqGuard,hg _ rfl]
 all_goals (cases op<;>simp[eqGuard])
theorem RN {t:TypeId} {x y:Value} {b:Bool} (h:RP D t x y=some b):CA x y=true:=by
 unfold RP at h;split at h
 ·split at h<;>first|(cases h;done)|rfl
 ·cases h
theorem QC (T:D.Of P) {t:TypeId} {x y:Value} {b:Bool} (hx:okV φ x) (hy:okV φ y) (h:aeq? D t x y=some b) :
  CA x y=true/\(∀ xs,x=.agg xs->P.eqGuardType P.depth t=false)/\(Op.equal t (ren φ x) (ren φ y)).run P w=.ok b w:=by
 unfold aeq? at h;split at h
 ·obtain⟨⟨ys,rfl⟩,hg⟩:=AAU T h;exact⟨rfl,fun _ _=>hg,LX T 10000 t _ _ b hx hy h⟩
 ·obtain⟨c,rfl⟩:=XO h;exact⟨rfl,(fun _ he=>by cases he),LX T 10000 t _ _ b hx hy h⟩
 ·next hn1 hn2=>exact⟨RN h,fun xs he=>absurd he (by intro he;exact hn1 xs he),XG T h⟩
theorem XS (T:D.Of P) {op:BinOp} {t:TypeId} {x y v:Value} (hx:okV φ x) (hy:okV φ y) (h:Jd D op t x y=some v) (X Y:Operand) :
  (eqGuard op t X Y (ren φ x) (ren φ y)).run P w=.ok () w/\(binOp op t (ren φ x) (ren φ y)).run P w=.ok (ren φ v) w/\okV φ v:=by
 unfold Jd at h;split at h
 ·next k a k' b=>
  have hg:(eqGuard op t X Y (.int k a) (.int k' b)).run P w=.ok () w:=by simp[eqGuard]
  simp only[Bt];split at h
  ·exact⟨hg,RK t h⟩
  ·next hs=>
   split at h
   ·next hk=>
    have hk:=of_decide_eq_true hk;subst hk;exact⟨hg,XN t hs h⟩
   ·cases h
 ·next a b=>
  have hg:(eqGuard op t X Y (.string a) (.string b)).run P w=.ok () w:=by simp[eqGuard]
  simp only[CS];exact⟨hg,W7 t h⟩
 ·next hn1 hn2=>
  have hgd:∀ {x:Value},(∀ xs,x=.agg xs->P.eqGuardType P.depth t=false)->∀ xs,ren φ x=.agg xs->P.eqGuardType P.depth t=false:=by
   intro x hh xs he;cases x with
   | agg ys=>exact hh ys rfl
   | pointer a=>cases a<;>simp[ren] at he
   | slice a n c=>cases a<;>simp[ren] at he
   | map r=>cases r<;>simp[ren] at he
   | func f xs ys=>cases xs;cases ys;simp[ren] at he
   | tuple xs=>cases xs;simp[ren] at he
   | _=>simp[ren] at he
  split at h
  ·have h:(match aeq? D t x y with|some b=>some (Value.bool b)|none=>none)=some v:=h;split at h
   ·next b hb=>
    cases h;obtain⟨g1,g2,g3⟩:=QC (w:=w) T hx hy hb;refine⟨Jz (Ea φ g1) (hgd g2) _ X Y,?_,trivial⟩;rw[(UO (Ea φ g1) t).1,g3,DI];rfl
   ·cases h
  ·have h:(match aeq? D t x y with|some b=>some (Value.bool !b)|none=>none)=some v:=h;split at h
   ·next b hb=>
    cases h;obtain⟨g1,g2,g3⟩:=QC (w:=w) T hx hy hb;refine⟨Jz (Ea φ g1) (hgd g2) _ X Y,?_,trivial⟩;rw[(UO (Ea φ g1) t).2,g3,DI];rfl
   ·cases h
  ·cases h
theorem AAO {op:UnOp} {x v:Value} (h:aun op x=some v):(Op.unary op (ren φ x)).run P w=.ok (ren φ v) w/\okV φ v:=by
 unfold aun at h;split at h
 ·cases h;exact⟨by simp[Op.unary,ren,Op.intArith],trivial⟩
 ·next k n=>
  simp only[Bk] at h;cases h;refine⟨?_,trivial⟩;cases hk:k.signed<;>simp[Op.unary,ren,Op.intBits,hk]
 ·cases h;exact⟨by simp[Op.unary,ren],trivial⟩
 ·cases h
end ops
section ops
variable {P:Program} {D:Tab} {E:Env} {n0:Nat} {V:Nat->Prop} {φ:Ph} {h h':H} {w:World}
theorem Gj:∀ {cs:List Value} {bs:List UInt8},allBytes cs=some bs->∃ ns:List Int,cs=ns.map (Value.int .u8)/\bs=ns.map (fun n=>UInt8.ofNat n.toNat):=by
 intro cs;induction cs with
 | nil=>intro bs h;simp only[allBytes] at h;cases h;exact⟨[],rfl,rfl⟩
 | cons c cs ih=>
  intro bs h;unfold allBytes at h;split at h
  ·next he=>cases he
  ·next n l he=>
   cases he;split at h
   ·next bs' hb=>
    cases h;obtain⟨ns,rfl,rfl⟩:=ih hb;exact⟨n::ns,rfl,rfl⟩
   ·cases h
  ·cases h
theorem foldl_push_bytes:∀ (l:List Int) (r:ByteArray),l.foldl (fun r n=>r.push (UInt8.ofNat n.toNat)) r=⟨⟨r.data.toList++l.map (fun n=>UInt8.ofNat n.toNat)⟩⟩
 | [],r=>by apply Gf;simp
 | b::l,r=>by
  simp only[L6];rw[foldl_push_bytes l];apply Gf;simp[ByteArray.push]
theorem JL (R:Tie D E n0 V φ h w) {e t t':TypeId} {x1:Nat} {x2:Option Value} {x3:Bool} {s:ByteArray} (h2:P.underlying t=some .string) (g2:P.underlying t'=some (.slice e)) (q2:P.underlying e=some (.int .u8)) (he:D.ty.get e=some ⟨.int .u8,1,x1,x2,x3⟩) :
  FS D E n0 V φ h w ((convert t t' (ren φ (.string s))).run P w) (.slice (some (own h.next)) s.data.toList.length s.data.toList.length) (h.af (bytesV s.data.toList) e):=by
 have hrun:=run_bytes_of_string w _ _ e s h2 g2 q2;have hge:=Hw w s.size 0 e;generalize grownCap w s.size 0 e=nc at hrun hge;have hsz:(bytesRow s nc).size=s.size+(nc-s.size):=by
  simp[bytesRow]
 have hl:s.data.toList.length=s.size:=CU s;obtain⟨b1,b2,b3⟩:=Be (AR φ h.next (w.heap.size,0,nc-s.size));have hbl:(bytesV s.data.toList).length=s.size:=by rw[bytesV,T5,hl]
 refine⟨nc-s.size,w.drew.alloc (.cells (bytesRow s nc) e ((bytesRow s nc).size,(bytesRow s nc).size+1)),hrun.trans ?_,b2,R.af he rfl (.inr (C0 _)) ?_ ?_,Kept.push φ (.cells (bytesRow s nc) e ((bytesRow s nc).size,(bytesRow s nc).size+1)) rfl rfl rfl rfl,fun c hc=>CH w _ hc,rfl⟩
 ·rw[Ad,b1,b3,hl,Nat.add_sub_cancel' hge]
 ·intro j y hj;have hjl:=(O0.1 hj).1;rw[hbl] at hjl;have hro:=NA s.data.toList y (H3 hj);obtain⟨ok,hren⟩:=roV.ok φ hro;refine⟨y,?_,fun _=>⟨ok,hren.symm⟩⟩;unfold bytesRow;rw[Array.getElem?_append_left (by simpa using hjl)];rw[<- hj];simp[bytesV]
 ·rw[hsz,hbl];simp
theorem Tie.mark {w':World} (R:Tie D E n0 V φ h w) {c:Nat} (hn:n0<=c) {cs:Array Value} {u:TypeId} {fz fz':Nat×Nat} (hb:w.heap[c]? = some (.cells cs u fz)) (hb':w'.heap[c]? = some (.cells cs u fz')) (ho:Open cs.size fz') (hsz:w'.heap.size=w.heap.size) (hd:∀ d,d≠c->w'.heap[d]? = w.heap[d]?):Tie D E n0 V φ h w':=by
 refine⟨fun b o v hv => ?_,by rw[hsz];exact R.size,by rw[hsz];exact R.dom,fun k B c' b e hV hB hk => ?_,R.apart,R.exact,R.fresh,R.root⟩
 ·obtain⟨h1,h2,h3⟩:=R.ro b o v hv;refine⟨h1,?_,h3⟩;rw[<- h2];simp only[World.cell?,hd b (by omega)]
 ·have hB0:=R.blk k B c' b e hV hB hk;by_cases ec:c'=c
  ·subst ec;cases B with
   | cells xs ty root=>
    rcases hB0 with hB0|⟨cs1,u1,fz1,L⟩
    ·exact .inl hB0
    ·have:=L.block;rw[hb] at this;cases this;exact .inr ⟨cs,u,fz',hb',ho,L.cell,L.room,L.whole⟩
   | map es cl=>have h1:=hB0.1;rw[hb] at h1;cases h1
   | siter s p=>have h1:=hB0.1;rw[hb] at h1;cases h1
   | defd t=>
    cases t with
    | false=>have h1:w.heap[c']? = some (.deferred (some [])):=hB0;rw[hb] at h1;cases h1
    | true=>obtain⟨o,h1⟩:=hB0;rw[hb] at h1;cases h1
   | loop r=>obtain⟨l,h1,_⟩:=hB0;rw[hb] at h1;cases h1
  ·exact hB0.le (Le.refl _) (hd c' ec)
theorem NO (T:D.Of P) (R:Tie D E n0 V φ h w) (hV:∀ k,V k) {s d:TypeId} {x v:Value} (hx:okV φ x) (hc:AQ D E s d x h=some (v,h')) :
  AZ D E n0 V φ h w ((convert s d (ren φ x)).run P w) v h':=by
 unfold AQ at hc;split at hc
 ·next i j hi hj=>
  obtain⟨f,td,h1,h2,h3,h4,_⟩:=T.get hi;obtain⟨f',td',g1,g2,g3,g4,_⟩:=T.get hj;split at hc
  ·next e1 e2=>
   rw[h3] at e1;rw[g3] at e2;have:=CD e1;subst this;have:=CD e2;subst this;cases hc;exact AZ.same R (by simp[convert,run_underlying h2,run_underlying g2,ren,Conv.intToInt]) trivial
  ·next e1 e2=>
   rw[h3] at e1;rw[g3] at e2;have:=BM e1;subst this;have:=BM e2;subst this;cases hc;exact AZ.same R (by simp[convert,run_underlying h2,run_underlying g2,ren]) trivial
  ·next e sz by_ s e1 e2=>
   rw[h3] at e1;rw[g3] at e2;have:=BM e1;subst this;obtain⟨rfl,fe,k1,rfl,rfl⟩:=BE e2;split at hc
   ·next sz1 _ _ _ he=>
    obtain⟨f'',td'',q1,q2,q3,q4,_⟩:=T.get he;have:=CD q3.symm;subst this;split at hc
    ·next hs1=>
     have hs1:=beq_true hs1;subst hs1;cases hc;exact (JL R h2 g2 q2 he).gives
    ·cases hc
   ·cases hc
  ·next e sz by_ b n c e1 e2=>
   rw[h3] at e1;rw[g3] at e2;have:=BM e2;subst this;obtain⟨rfl,fe,k1,rfl,rfl⟩:=BE e1;split at hc
   ·next he=>
    obtain⟨f'',td'',q1,q2,q3,q4,_⟩:=T.get he;have:=CD q3.symm;subst this;split at hc
    ·cases hc;refine AZ.same R ?_ trivial;simp only[ren];rw[run_convert_bytes_string w _ _ e none n c h2 q2 g2];simp[Conv.bytesToString];rfl
    ·next a=>
     have hA:okA φ a:=hx;split at hc
     ·next cs hcs=>
      split at hc
      ·next bs hbs=>
       cases hc;refine AZ.same R ?_ trivial;obtain⟨ns,rfl,rfl⟩:=Gj hbs;have hl:=Ci P R hA (fun _=>hV _) hcs;have hro:∀ c∈ns.map (Value.int .u8),roV c=true:=by
        intro c hc;obtain⟨_,_,rfl⟩:=List.mem_map.1 hc;rfl
       rw[CF hro] at hl;rw[Ad,run_convert_bytes_string w _ _ e _ n _ h2 q2 g2,run_bytesToString w _ _ _ _ hl,foldl_push_bytes,CS];rfl
      ·cases hc
     ·cases hc
   ·cases hc
  ·next e sz by_ e0 sz0 by0 a n c e1 e2=>
   split at hc
   ·next x0 xs0 ty0 rt0 hbq he hsp hbk=>
    obtain rfl:=U0 hbq;rw[h3] at e1;obtain⟨rfl,fe,k1,rfl,rfl⟩:=BE e1;obtain⟨f'',td'',q1,q2,q3,q4,_⟩:=T.get he;have:=CD q3.symm;subst this;cases hc;have hA:okA φ a:=hx;have hφ:(φ a.block).isSome=true:=by
     rcases hA with hA|hA|⟨_,hA⟩
     ·rw[hsp] at hA;cases hA
     ·exact hA.2
     ·rw[hsp] at hA;cases hA
    obtain⟨⟨cc,b,ex⟩,hk⟩:=J1.1 hφ;obtain⟨hkn,hnc,hcs'⟩:=R.dom _ _ _ _ hk;have hren:renA φ a=⟨cc,b+a.off,none⟩:=by simp only[renA,hsp,hk]
    rcases R.blk _ _ _ _ _ (hV _) hbk hk with⟨hx0,_⟩|⟨mcs,u,fz,L⟩
    ·cases hx0
    obtain⟨lo,hi'⟩:=fz;have hshape:w.shape? cc=some (u,mcs.size):=by simp[World.shape?,L.block]
    have hfd:∀ d,d≠cc->(w.freeze ⟨cc,mcs.size,none⟩ 1).heap[d]? = w.heap[d]? := by
     intro d hd;simp only[World.freeze,Nat.succ_ne_zero,if_false,E7];rw[if_neg (fun e=>hd e.symm)]
    have hfs:(w.freeze ⟨cc,mcs.size,none⟩ 1).heap.size=w.heap.size:=by
     simp[World.freeze]
    have hfc:(w.freeze ⟨cc,mcs.size,none⟩ 1).heap[cc]? = some (.cells mcs u (if lo == hi' then (mcs.size,mcs.size+1) else (min lo mcs.size,max hi' (mcs.size+1)))):=by
     simp only[World.freeze,Nat.succ_ne_zero,if_false,E7,L.block];rfl
    have hop:Open mcs.size (if lo == hi' then (mcs.size,mcs.size+1) else (min lo mcs.size,max hi' (mcs.size+1))):=by
     split
     ·exact .inr (C0 _)
     ·next hne=>
      rcases L.opn with ho|ho
      ·exact absurd (by simpa using ho) hne
      ·refine .inr ?_;have ho:mcs.size<=lo:=ho;show mcs.size<=min lo mcs.size;omega
    refine⟨φ,w.freeze ⟨cc,mcs.size,none⟩ 1,?_,hx,R.mark hnc L.block hfc hop hfs hfd,Ext.refl _ _ _,⟨rfl,rfl,rfl,by rw[hfs];exact C0 _,fun d _ hnd=>hfd d (fun e=>hnd a.block b ex (e▸hk))⟩⟩;rw[Ad,hren];simp[convert,run_underlying h2,run_underlying q2,markStringish,hshape]
   ·cases hc
  ·cases hc
 ·cases hc
end ops
section ops
variable {P:Program} {D:Tab} {E:Env} {n0:Nat} {V:Nat->Prop} {φ:Ph} {h h':H} {w:World}
theorem Dy (T:D.Of P) {kt:TypeId} {k:Value} (em:Bool) (hk:LD D kt k=true):(Instr.checkKey em 10000 kt (ren φ k)).run P w=.ok () w:=by
 unfold LD at hk;split at hk
 ·next i hi=>
  obtain⟨f,td,h1,h2,h3,h4,_⟩:=T.get hi;rw[show (10000:Nat)=9998+1+1 from rfl];generalize 9998=m;split at hk
  ·next e1=>
   rw[h3] at e1;have:=CD e1;subst this;simp[Instr.checkKey,run_underlying h2]
  ·next e1=>
   rw[h3] at e1;have:=BM e1;subst this;simp[Instr.checkKey,run_underlying h2]
  ·next e1=>
   rw[h3] at e1;have:=IL e1;subst this;simp[Instr.checkKey,run_underlying h2]
  ·next n e sz cs e1=>
   rw[h3] at e1;obtain⟨rfl,fe,k1,rfl⟩:=CE e1;split at hk
   ·next he=>
    simp only[K0,Z0] at hk;have hs1:=beq_true hk.1;obtain⟨f'',td'',q1,q2,q3,q4,_⟩:=T.get he;have:=CD q3.symm;subst this;obtain⟨l⟩:=cs;have hlen:n<=l.length:=hk.2;rw[Ck,Instr.checkKey];simp only[Sem.run_bind,run_underlying h2,Result.andThen_ok];simp only[Std.Legacy.Range.forIn_eq_forIn_range',Std.Legacy.Range.size,Nat.sub_zero,Nat.add_one_sub_one,Nat.div_one];have hall:∀ j∈List.range' 0 n,j<n:=by intro j hj;simp at hj;exact hj
    generalize List.range' 0 n=is at hall;induction is with
    | nil=>simp
    | cons j is ih=>
     have hj:j<l.length:=Q1 (hall j (by simp)) hlen;have hp:(part e (l.map (ren φ)).toArray (j*fe.size)).run P w=.ok (ren φ l[j]) w:=by
      simp[part,isAgg,run_underlying q2,hs1,hj]
     have hcc:(Instr.checkKey em (m+1) e (ren φ l[j])).run P w=.ok () w:=by simp[Instr.checkKey,run_underlying q2]
     simp only[List.forIn_cons,Sem.run_bind,DV k1,Result.andThen_ok,hp,hcc,Sem.run_pure];exact ih (fun y hy=>hall y (by simp[hy]))
   ·cases hk
  ·cases hk
 ·cases hk
theorem IT (T:D.Of P) {d:Nat} {kt:TypeId} {x y:Value} {b c:Bool} {kind:TypeDesc} (hu:P.underlying kt=some kind) (h:aeq D d kt x y=some b) (hn:Instr.sameNow kind (ren φ x) (ren φ y)=some c):c=b:=by
 cases d with
 | zero=>simp[aeq] at h
 | succ d=>
  simp only[aeq] at h;split at h
  ·cases h
  ·next i hi=>
   obtain⟨f,td,h1,h2,h3,h4,_⟩:=T.get hi;rw[hu] at h2;cases h2;split at h
   ·next e1=>
    rw[h3] at e1;have:=IL e1;subst this;cases h;simp[Instr.sameNow,ren] at hn;exact hn.symm
   ·next e1=>
    rw[h3] at e1;have:=CD e1;subst this;split at h
    ·next hk=>
     cases h;simp[Instr.sameNow,ren,of_decide_eq_true hk] at hn;exact hn.symm
    ·cases h
   ·next e1=>
    rw[h3] at e1;have:=BM e1;subst this;cases h;simp[Instr.sameNow,ren] at hn;exact hn.symm
   ·next xs ys e1=>
    rw[h3] at e1;obtain⟨rfl,_⟩:=CE e1;simp[Instr.sameNow] at hn
   ·next xs ys e1=>
    rw[h3] at e1;obtain⟨F,rfl,_⟩:=DR e1;simp[Instr.sameNow] at hn
   ·cases h
theorem EK (T:D.Of P) {kt:TypeId} {k:Value} {es:List Ent} {r:Option (Nat×Value)} (hk:okV φ k) (hes:∀ x∈es,okV φ x.key/\okV φ x.val) (h:Dk D kt k es 0=some r) {kind:TypeDesc} (hu:P.underlying kt=some kind) :
  (Instr.findKey kt (ren φ k) (es.map (renE φ))).run P w=.ok (r.map fun p=>(p.1,ren φ p.2)) w:=by
 have ask:∀ (es:List Ent) (i:Nat) (r:Option (Nat×Value)),(∀ x∈es,okV φ x.key/\okV φ x.val)->Dk D kt k es i=some r->
   (Instr.findAsking kt (ren φ k) (es.map (renE φ)) i).run P w=.ok (r.map fun p=>(p.1,ren φ p.2)) w:=by
  intro es;induction es with
  | nil=>intro i r _ h;simp only[Dk] at h;cases h;simp[Instr.findAsking]
  | cons e es ih=>
   intro i r hes h;simp only[Dk] at h;have hke:=(hes e (by simp)).1;split at h
   ·next he=>
    cases h;have:=LX (w:=w) T 10000 kt k e.key true hk hke he;simp only[I3,Instr.findAsking,renE,Op.equal,Op.maxDepth,Sem.run_bind,this,Result.andThen_ok,if_true,Sem.run_pure,H6]
   ·next he=>
    have:=LX (w:=w) T 10000 kt k e.key false hk hke he;simp only[I3,Instr.findAsking,renE,Op.equal,Op.maxDepth,Sem.run_bind,this,Result.andThen_ok,Bool.false_eq_true,if_false];exact ih (i+1) r (fun x hx=>hes x (by simp[hx])) h
   ·cases h
 have now:∀ (es:List Ent) (i:Nat) (r r':Option (Nat×Value)),Dk D kt k es i=some r->Instr.findNow kind (ren φ k) (es.map (renE φ)) i=some r'->r'=r.map fun p=>(p.1,ren φ p.2):=by
  intro es;induction es with
  | nil=>intro i r r' h hn;simp only[Dk] at h;cases h;simp[Instr.findNow] at hn;exact hn.symm
  | cons e es ih=>
   intro i r r' h hn;simp only[Dk] at h;simp only[I3,Instr.findNow] at hn;split at hn
   ·next hs=>
    cases hn;split at h
    ·cases h;rfl
    ·next he=>exact absurd (IT T hu he hs) (by simp)
    ·cases h
   ·next hs=>
    split at h
    ·next he=>exact absurd (IT T hu he hs) (by simp)
    ·exact ih _ _ _ h hn
    ·cases h
   ·cases hn
 simp only[Instr.findKey,Sem.run_bind,EI hu,Result.andThen_ok];split
 ·next r' hr=>
  rw[now es 0 r r' h hr];rfl
 ·exact ask es 0 r hes h
theorem OG (T:D.Of P) {kt:TypeId} {k:Value} (hk:LD D kt k=true):∃ kind,P.underlying kt=some kind:=by
 unfold LD at hk;split at hk
 ·next i hi=>
  obtain⟨f,td,h1,h2,_⟩:=T.get hi;exact⟨td,h2⟩
 ·cases hk
theorem Tc (R:Tie D E n0 V φ h w) {r:Nat} {es:List Ent} {cl:Nat} (hx:(φ r).isSome=true) (hV:V r) (hb:h.blk r=some (.map es cl)) :
  ∃ c b e,φ r=some (c,b,e)/\renN φ r=c/\c<w.heap.size/\(getObj c).run P w=.ok (.map (es.map (renE φ)).toArray cl) w/\(∀ o',(setObj c o').run P w=.ok () { w with heap:=w.heap.setIfInBounds c o' })/\∀ x∈es,okV φ x.key/\okV φ x.val:=by
 obtain⟨⟨c,b,e⟩,hk⟩:=J1.1 hx;obtain⟨hm,ho⟩:=R.blk _ _ _ _ _ hV hb hk;exact⟨c,b,e,hk,by simp[renN,hk],(R.dom _ _ _ _ hk).2.2,Co hm rfl,Ch hm rfl,ho⟩
theorem Fe (R:Tie D E n0 V φ h w) {r c b e:Nat} {es es':List Ent} {cl cl':Nat} (hb:h.blk r=some (.map es cl)) (hk:φ r=some (c,b,e)) (ho:∀ x∈es',okV φ x.key/\okV φ x.val) :
  Tie D E n0 V φ (h.aq r (.map es' cl')) { w with heap:=w.heap.setIfInBounds c (.map (es'.map (renE φ)).toArray cl') }/\Kept φ w { w with heap:=w.heap.setIfInBounds c (.map (es'.map (renE φ)).toArray cl') }:=by
 refine⟨R.aq hb (by intros;simp) (by intros;simp) hk (o:=.map (es'.map (renE φ)).toArray cl') rfl ?_,?_⟩
 ·intro _;refine⟨?_,ho⟩;have:=(R.dom _ _ _ _ hk).2.2;simp[this]
 ·refine⟨rfl,rfl,rfl,by simp,fun d _ hn => ?_⟩;have:c≠d:=fun ed=>hn r b e (ed▸hk);simp[Q3,this]
theorem C8 (φ:Ph):okV φ undef:=by simp[undef,okV,okL]
theorem Mb {kt:TypeId} {k:Value}:∀ {es:List Ent} {i j:Nat} {v:Value},Dk D kt k es i=some (some (j,v))->∃ e,e∈es/\e.val=v/\i<=j/\es[j-i]? = some e:=by
 intro es;induction es with
 | nil=>intro i j v h;simp[Dk] at h
 | cons e es ih=>
  intro i j v h;simp only[Dk] at h;split at h
  ·cases h;exact⟨e,by simp,rfl,C0 _,by simp⟩
  ·obtain⟨e',h1,h2,h3,h4⟩:=ih h;refine⟨e',by simp[h1],h2,by omega,?_⟩;have:j-i=(j-(i+1))+1:=by omega
   rw[this,E2];exact h4
  ·cases h
theorem Jn (φ:Ph) (ok:Bool) (v:Value) (b:Bool):ren φ (GG ok v b)=if ok then .tuple #[ren φ v,.bool b] else ren φ v:=by
 cases ok
 ·simp[GG]
 ·simp only[GG,if_true];rw[show (#[v,Value.bool b]:Array Value)=⟨[v,.bool b]⟩ from rfl,GP];simp[DI]
theorem Jv {φ:Ph} {ok:Bool} {v:Value} {b:Bool} (hv:okV φ v):okV φ (GG ok v b):=by
 cases ok
 ·exact hv
 ·show okV φ (.tuple ⟨[v,.bool b]⟩);rw[Bh];intro x hx;simp at hx;rcases hx with rfl|rfl
  ·exact hv
  ·trivial
theorem OZ (T:D.Of P) (R:Tie D E n0 V φ h w) (hV:∀ k,V k) {t:TypeId} {m k v:Value} {ok:Bool} (hm:okV φ m) (hk:okV φ k) (hl:FN D t m k ok h=some v) :
  (Instr.lookup t (ren φ m) (ren φ k) ok).run P w=.ok (ren φ v) w/\okV φ v:=by
 unfold FN at hl;split at hl
 ·next kt el _ _ _ _ hi=>
  obtain⟨f,td,h1,h2,h3,h4,_⟩:=T.get hi;have:=DG h3.symm;subst this;split at hl
  ·next es hes hko=>
   obtain⟨kind,hkd⟩:=OG T hko;have hck:=fun em=>Dy (w:=w) (φ:=φ) T em hko;have hread:(∀ x∈es,okV φ x.key/\okV φ x.val)/\∀ (r:Option (Nat×Value)),Dk D kt k es 0=some r->
     (Instr.lookup t (ren φ m) (ren φ k) ok).run P w=((do
      let (v,okk) <- match (r.map fun p=>(p.1,ren φ p.2)) with
       | some (_,v)=>pure (v,true)
       | none=>do pure (<- zeroValue el,false)
      pure (if ok then Value.tuple #[v,.bool okk] else v):Sem Value)).run P w:=by
    unfold Fi at hes;split at hes
    ·cases hes;refine⟨by simp,fun r hr => ?_⟩;have hf:=EK (w:=w) T hk (by simp) hr hkd;simp only[Instr.lookup,Sem.run_bind,EI h2,Result.andThen_ok,ren,Sem.run_pure];rw[hck];simp only[Result.andThen_ok];rw[show ([]:List MapEntry)=([]:List Ent).map (renE φ) from rfl,hf];rfl
    ·next r0=>
     split at hes
     ·next es' cl hb=>
      cases hes;obtain⟨c,b,e,q1,q2,q3,q4,q5,q6⟩:=Tc (P:=P) R (show (φ r0).isSome=true from hm) (hV _) hb;refine⟨q6,fun r hr => ?_⟩;have hf:=EK (w:=w) T hk q6 hr hkd;simp only[Instr.lookup,Sem.run_bind,EI h2,Result.andThen_ok,ren,q2,q4,Sem.run_pure];rw[hck];simp only[Result.andThen_ok,F3];rw[hf];rfl
     ·cases hes
    ·cases hes
   obtain⟨hokE,hrun⟩:=hread;split at hl
   ·next j v' hfe=>
    cases hl;rw[hrun _ hfe];obtain⟨e',e1,e2,_,_⟩:=Mb hfe;refine⟨?_,Jv (e2▸(hokE e' e1).2)⟩;rw[Jn];simp
   ·next hfe=>
    split at hl
    ·next z hz=>
     cases hl;obtain⟨fz,z1,z2,z3⟩:=T.zero hz;obtain⟨zo,zr⟩:=roV.ok φ z3;rw[hrun _ hfe];refine⟨?_,Jv zo⟩;rw[Jn,zr];simp[zeroValue,typeInfo,z1,z2]
    ·cases hl
   ·cases hl
  ·cases hl
 ·cases hl
theorem HX (φ:Ph) {a b:Value} (h:sameKey a b=true) (n:Nat):Instr.sameBits n (ren φ a) (ren φ b)=true:=by
 unfold sameKey at h;split at h
 ·simp only[K0,decide_eq_true_eq] at h;simp[ren,Instr.sameBits,h]
 ·simpa [ren,Instr.sameBits] using h
 ·simpa [ren,Instr.sameBits] using h
 ·cases h
theorem KZ (φ:Ph) (n:Nat):∀ {a b:List Value},FW a b=true->a.length=b.length/\((a.map (ren φ)).zip (b.map (ren φ))).all (fun (x,y)=>Instr.sameBits n x y)=true:=by
 intro a;induction a with
 | nil=>intro b h;cases b with
  | nil=>exact⟨rfl,rfl⟩
  | cons _ _=>simp[FW] at h
 | cons x a ih=>
  intro b h;cases b with
  | nil=>simp[FW] at h
  | cons y b=>
   simp only[FW,K0] at h;obtain⟨g1,g2⟩:=ih h.2;refine⟨by simp[g1],?_⟩;simp only[I3,List.zip_cons_cons,V3,K0];exact⟨HX φ h.1 n,g2⟩
theorem QX (φ:Ph) {a b:Value} (h:stays a b=true):Instr.sameBits 10000 (ren φ a) (ren φ b)=true:=by
 unfold stays at h;split at h
 ·next xs ys=>
  obtain⟨xs⟩:=xs;obtain⟨ys⟩:=ys;rw[Ck,Ck,show (10000:Nat)=9999+1 from rfl];obtain⟨g1,g2⟩:=KZ φ 9999 h;simp only[Instr.sameBits,K0];refine⟨by simpa using g1,g2⟩
 ·exact HX φ h _
theorem PL (φ:Ph) (k v:Value):∀ (i:Nat) (es:List Ent),(SN k v i es).map (renE φ)=(es.map (renE φ)).modify i (fun e=>{ e with key:=ren φ k,val:=ren φ v })
 | i,[]=>by simp[SN]
 | 0,e::es=>by simp[SN,renE]
 | i+1,e::es=>by simp[SN,PL φ k v i es]
theorem SM {φ:Ph} {k v:Value} (hk:okV φ k) (hv:okV φ v):∀ (i:Nat) (es:List Ent),(∀ x∈es,okV φ x.key/\okV φ x.val)->∀ x∈SN k v i es,okV φ x.key/\okV φ x.val
 | i,[],_=>by simp[SN]
 | 0,e::es,h=>by
  intro x hx;simp only[SN,O1] at hx;rcases hx with rfl|hx
  ·exact⟨hk,hv⟩
  ·exact h x (by simp[hx])
 | i+1,e::es,h=>by
  intro x hx;simp only[SN,O1] at hx;rcases hx with rfl|hx
  ·exact h x (by simp)
  ·exact SM hk hv i es (fun y hy=>h y (by simp[hy])) x hx
theorem Fr (T:D.Of P) (R:Tie D E n0 V φ h w) (hV:∀ k,V k) {t:TypeId} {m k x v:Value} (hm:okV φ m) (hk:okV φ k) (hx:okV φ x) (hu:BY D t m k x h=some (v,h')) :
  v=undef/\∃ w',(Instr.mapUpdate t (ren φ m) (ren φ k) (ren φ x)).run P w=.ok () w'/\Tie D E n0 V φ h' w'/\Kept φ w w':=by
 unfold BY at hu;split at hu
 ·next kt el _ _ _ _ r0 hi=>
  obtain⟨f,td,h1,h2,h3,h4,_⟩:=T.get hi;have:=DG h3.symm;subst this;split at hu
  ·next es cl hb hko=>
   obtain⟨kind,hkd⟩:=OG T hko;have hck:=Dy (w:=w) (φ:=φ) T false hko;obtain⟨c,b,e,q1,q2,q3,q4,q5,q6⟩:=Tc (P:=P) R (show (φ r0).isSome=true from hm) (hV _) hb;split at hu
   ·next i v0 hfe=>
    have hf:=EK (w:=w) T hk q6 hfe hkd;split at hu
    ·next e0 he0=>
     split at hu
     ·next hst=>
      cases hu;have hb9:=QX φ hst;refine⟨rfl,{ w with heap:=w.heap.setIfInBounds c (.map ((SN k x i es).map (renE φ)).toArray cl) },?_,?_⟩
      ·have hk0:((es.map (renE φ)).toArray)[i]? = some (renE φ e0):=by simp[he0]
       have hke:(renE φ e0).key=ren φ e0.key:=rfl;simp only[Instr.mapUpdate,Sem.run_bind,EI h2,Result.andThen_ok,ren,q2,q4,hck,F3,hf,H6,Instr.keyThatStays,hk0,H5,hke,hb9,if_true,Sem.run_pure,q5];congr 2;rw[PL];simp
      ·exact Fe R hb q1 (SM hk hx i es q6)
     ·cases hu
    ·cases hu
   ·next hfe=>
    have hf:=EK (w:=w) T hk q6 hfe hkd;cases hu;refine⟨rfl,{ w with heap:=w.heap.setIfInBounds c (.map ((es++[({ key:=k,val:=x,born:=cl }:Ent)]).map (renE φ)).toArray (cl+1)) },?_,Fe R hb q1 ?_⟩
    ·simp only[Instr.mapUpdate,Sem.run_bind,EI h2,Result.andThen_ok,ren,q2,q4,hck,F3,hf,Option.map_none,q5];congr 2;simp[renE]
    ·intro y hy;rcases Y4.1 hy with hy|hy
     ·exact q6 y hy
     ·simp at hy;subst hy;exact⟨hk,hx⟩
   ·cases hu
  ·cases hu
 ·cases hu
theorem EZ {α β:Type} (f:α->β):∀ (l:List α) (i:Nat),(l.map f).eraseIdx i=(l.eraseIdx i).map f
 | [],i=>by simp
 | a::l,0=>by simp
 | a::l,i+1=>by simp[EZ f l i]
theorem OP {es:List Ent} {i:Nat} (h:∀ x∈es,okV φ x.key/\okV φ x.val):∀ x∈es.eraseIdx i,okV φ x.key/\okV φ x.val:=fun x hx=>h x (List.mem_of_mem_eraseIdx hx)
theorem Oc (T:D.Of P) (R:Tie D E n0 V φ h w) (hV:∀ k,V k) {t t2 ty:TypeId} {ts:Array TypeId} (hts:ts[0]? = some t) {m k v:Value} (hm:okV φ m) (hk:okV φ k) (hu:F9 D t m k h=some (v,h')) :
  AZ D E n0 V φ h w ((Builtin.delete_ ts ty #[ren φ m,ren φ k]).run P w) v h':=by
 unfold F9 at hu;split at hu
 ·next kt el _ _ _ _ hi=>
  obtain⟨f,td,h1,h2,h3,h4,_⟩:=T.get hi;have:=DG h3.symm;subst this;split at hu
  ·next hko=>
   have hck:=fun em=>Dy (w:=w) (φ:=φ) T em hko;cases hu;refine AZ.same R ?_ ((Bh φ []).2 (by simp));simp[Builtin.delete_,hts,run_underlying h2,ren,renL,hck]
  ·next r0 hko=>
   obtain⟨kind,hkd⟩:=OG T hko;have hck:=fun em=>Dy (w:=w) (φ:=φ) T em hko;split at hu
   ·next es cl hb=>
    obtain⟨c,b,e,q1,q2,q3,q4,q5,q6⟩:=Tc (P:=P) R (show (φ r0).isSome=true from hm) (hV _) hb;split at hu
    ·next i v0 hfe=>
     have hf:=EK (w:=w) T hk q6 hfe hkd;cases hu;obtain⟨g1,g2⟩:=Fe (cl':=cl) R hb q1 (OP (i:=i) q6);refine⟨φ,_,?_,(Bh φ []).2 (by simp),g1,Ext.same (Ag _ _ _),g2⟩;obtain⟨e',e1,e2,_,e4⟩:=Mb hfe;have hil:i<es.length:=by
      have:=(O0.1 e4).1;omega
     have hilt:i<(es.map (renE φ)).toArray.size:=by simpa using hil
     have her:((es.map (renE φ)).toArray).eraseIdxIfInBounds i=((es.eraseIdx i).map (renE φ)).toArray:=by
      apply L5;simp only[Array.eraseIdxIfInBounds,hilt,dif_pos];simp[EZ]
     simp[Builtin.delete_,hts,run_underlying h2,ren,renL,hck,q2,q4,hf,her,q5,EZ]
    ·next hfe=>
     have hf:=EK (w:=w) T hk q6 hfe hkd;cases hu;obtain⟨g1,g2⟩:=Fe (cl':=cl) R hb q1 q6;refine⟨φ,_,?_,(Bh φ []).2 (by simp),g1,Ext.same (Ag _ _ _),g2⟩;simp[Builtin.delete_,hts,run_underlying h2,ren,renL,hck,q2,q4,hf,q5]
    ·cases hu
   ·cases hu
  ·cases hu
 ·cases hu
theorem E9 (R:Tie D E n0 V φ h w):FS D E n0 V φ h w (.ok (.map (some w.heap.size)) (wpush w (.map #[] 0))) (.map (some h.next)) (h.new (.map [] 0)):=by
 refine⟨0,wpush w (.map #[] 0),?_,by simp[okV,AR],R.new rfl _ rfl ⟨?_,by simp⟩,Kept.push φ _ rfl rfl rfl rfl,II,rfl⟩
 ·simp[ren,renN,AR]
 ·show (w.heap.push _)[w.heap.size]? = _;rw[Y6];rfl
theorem Im (R:Tie D E n0 V φ h w):AZ D E n0 V φ h w (.ok (.map (some w.heap.size)) (wpush w (.map #[] 0))) (.map (some h.next)) (h.new (.map [] 0)):=(E9 R).gives
theorem RL (T:D.Of P) (R:Tie D E n0 V φ h w) {t:TypeId} {x v:Value} (hr:FL D t x h=some (v,h')) :
  AZ D E n0 V φ h w ((Instr.range t (ren φ x)).run P w) v h':=by
 unfold FL at hr;split at hr
 ·next s hi=>
  obtain⟨f,td,h1,h2,h3,h4,_⟩:=T.get hi;have:=BM h3.symm;subst this;cases hr;obtain⟨g1,g2,g3⟩:=Be (AR φ h.next (w.heap.size,0,0));refine⟨upd φ h.next (w.heap.size,0,0),wpush w (.stringIter s 0),?_,g2,R.new rfl _ rfl ?_,DQ (.inl (C0 _)),Kept.push φ _ rfl rfl rfl rfl⟩
  ·rw[Am,g1];simp[Instr.range,run_underlying h2,ren,wpush]
  ·refine⟨?_,rfl⟩;show (w.heap.push _)[w.heap.size]? = _;rw[Y6]
 ·cases hr
theorem Uo (R:Tie D E n0 V φ h w) (hV:∀ k,V k) {x v:Value} {isS:Bool} {ty:TypeId} (hx:okV φ x) (hr:LS x isS h=some (v,h')) :
  AZ D E n0 V φ h w ((Instr.next (ren φ x) isS ty).run P w) v h':=by
 unfold LS at hr;split at hr
 ·next r=>
  split at hr
  ·next s pos hb=>
   rcases (show okA φ ⟨r,0,some 0⟩ from hx) with ha|⟨_,ha⟩|⟨_,ha⟩
   ·cases ha
   rotate_left
   ·cases ha
   obtain⟨⟨c,b,e⟩,hk⟩:=J1.1 ha;have hb0:φ r=some (c,b,e):=hk;obtain⟨hT,rfl⟩:w.heap[c]? = some (.stringIter s pos)/\b=0:=R.blk _ _ _ _ _ (hV _) hb hk;have hren:renA φ ⟨r,0,some 0⟩=⟨c,0,none⟩:=by simp[renA,hb0]
   have hcs:=(R.dom _ _ _ _ hk).2.2;split at hr
   ·next hlt=>
    rw[P0,CU] at hlt;cases hr;refine⟨φ,{ w with heap:=w.heap.setIfInBounds c (.stringIter s (pos+(Utf8.decode s pos).2)) },?_,?_,R.aq hb (by intros;simp) (by intros;simp) hk rfl ?_,Ext.same (Ag _ _ _),?_⟩
    ·rw[Am,hren];simp[Instr.next,Co hT rfl,Ch hT rfl,hlt,goInt,ren,renL]
    ·show okV φ (.tuple ⟨[_,_,_]⟩);rw[Bh];simp[okV]
    ·intro _;exact⟨by simp[hcs],rfl⟩
    ·refine⟨rfl,rfl,rfl,by simp,fun d _ hn => ?_⟩;have:c≠d:=fun ed=>hn r 0 e (ed▸hk);simp[Q3,this]
   ·next hlt=>
    have hlt:¬ (pos<s.size):=fun hh=>by rw[show Nat.blt pos s.data.toList.length=true from by rw[P0,CU];exact hh] at hlt;cases hlt
    cases hr;refine AZ.same R ?_ ?_
    ·rw[Am,hren];simp[Instr.next,Co hT rfl,hlt,ren,renL]
    ·show okV φ (.tuple ⟨[_]⟩);rw[Bh];simp[okV]
  ·cases hr
 ·cases hr
end ops
theorem Nj {P:Program} {e:TypeId} {fits:TypeId->Bool} (hc:P.cellsOf e=1) (hf:fits e=true) (d count off n:Nat) (hn:off+n<=count):rowAt P fits (d+1) e count off n=true:=by
 simp[rowAt,hc,hn,hf,Nat.mod_one]
theorem IU {P:Program} (d:Nat) (t:TypeId):sameLayout P (d+1) t t=true:=by
 simp[sameLayout]
theorem Qh {P:Program} {e:TypeId} (hc:P.cellsOf e=1) (count off n:Nat) (hn:off+n<=count):liesAt P P.depth e count off e n=true:=by
 have hd:P.depth=(2*(P.types.size+Made.depth)+1)+1:=rfl;rw[hd];simp only[liesAt,F5];left;rw[hd];exact Nj (fits:=fun x=>sameLayout P (2*(P.types.size+Made.depth)+1+1) x e) hc (IU _ _) _ _ _ _ hn
theorem Ds {P:Program} {w:World}:∀ (l:List Int) (a:Addr) (acc:ByteArray),(∀ j x,l[j]? = some x->w.cell? (a.add j)=some (.int .u8 x))->
  (loadBytes a acc l.length).run P w=.ok ⟨acc.data++(l.map fun n=>UInt8.ofNat n.toNat).toArray⟩ w
 | [],a,acc,_=>by simp[loadBytes]
 | x::l,a,acc,h=>by
  have h0:w.cell? a=some (.int .u8 x):=by
   have:=h 0 x rfl;simpa [Addr.add] using this
  have ih:=Ds (P:=P) (w:=w) l (a.add 1) (acc.push (UInt8.ofNat x.toNat)) (fun j y hy=>by
   have:=h (j+1) y (by simpa using hy);have e:(a.add 1).add j=a.add (j+1):=by
    unfold Addr.add;by_cases hj:j=0
    ·subst hj;simp
    ·simp[hj];omega
   rw[e];exact this)
  have hx:x.toNat.toUInt8=UInt8.ofNat x.toNat:=rfl;simp only[I1,loadBytes,Sem.run_bind,run_load,h0,Result.andThen,hx];rw[ih];congr 1;apply ByteArray.ext;simp[ByteArray.push]
section ops
variable {P:Program} {D:Tab} {E:Env} {n0:Nat} {V:Nat->Prop} {φ:Ph} {h h':H} {w:World}
theorem Tie.free {w':World} (R:Tie D E n0 V φ h w) (c:Nat) (hn:n0<=c) (hf:∀ k B b e,h.blk k=some B->φ k=some (c,b,e)->B.hollow e=true) (hsz:w'.heap.size=w.heap.size) (hb:∀ d,d≠c->w'.heap[d]? = w.heap[d]?):Tie D E n0 V φ h w':=by
 refine⟨fun b o v hv => ?_,by rw[hsz];exact R.size,by rw[hsz];exact R.dom,fun k B c' b e hV hB hk => ?_,R.apart,R.exact,R.fresh,R.root⟩
 ·obtain⟨h1,h2,h3⟩:=R.ro b o v hv;refine⟨h1,?_,h3⟩;rw[<- h2];simp only[World.cell?,hb b (by omega)]
 ·by_cases ec:c'=c
  ·subst ec;exact CV.bp (hf k B b e hB hk)
  ·exact (R.blk k B c' b e hV hB hk).le (Le.refl _) (hb c' ec)
theorem JY {x v:Value} {ts:Array TypeId} {ty:TypeId} (hx:okV φ x) (hp:Fg x=some v):(Builtin.unsafeSliceData_ ts ty #[ren φ x]).run P w=.ok (ren φ v) w/\okV φ v:=by
 unfold Fg at hp;split at hp
 ·cases hp;exact⟨rfl,trivial⟩
 ·next a n c=>
  cases hp;refine⟨?_,hx⟩;rw[Ad,Am];obtain⟨k,hk⟩:∃ k,c+1+extA φ a=k+1:=⟨c+extA φ a,by omega⟩;rw[hk];rfl
 ·cases hp
theorem Ef (pt it ty:TypeId) (a:Addr) (n:Int):Builtin.unsafeString_ #[pt,it] ty #[.pointer (some a),.int .i64 n]=
   (do
    let n <- asInt (.int .i64 n)
    if n<0 then runtimePanic (.error "unsafe.String: len out of range")
    if n>IntKind.i64.max then unsupported (.unsafePointer "String: a length above the largest int")
    if n=0 then pure (.string .empty)
    else if <- variablesAt a (<- elemOf pt) n.toNat then do
     let s <- loadBytes a .empty n.toNat
     freeze a n.toNat
     pure (.string s)
    else unsupported (.unsafePointer "String: not so many bytes at ptr")):=rfl
theorem EF (pt it ty:TypeId) (p:Option Addr):(Builtin.unsafeString_ #[pt,it] ty #[.pointer p,.int .i64 0]).run P w=.ok (.string .empty) w:=by
 have hmax:IntKind.i64.max=9223372036854775807:=rfl;cases p with
 | none=>
  have hdef:Builtin.unsafeString_ #[pt,it] ty #[.pointer none,.int .i64 0]=
    (do
     let n <- asInt (.int .i64 0)
     if n<0 then runtimePanic (.error "unsafe.String: len out of range")
     if n>IntKind.i64.max then unsupported (.unsafePointer "String: a length above the largest int")
     if n=0 then pure (.string .empty)
     else runtimePanic (.error "unsafe.String: ptr is nil and len is not zero")):=rfl
  rw[hdef];simp[asInt,asIntOf,hmax]
 | some a=>
  rw[Ef];simp[asInt,asIntOf,hmax]
theorem ND (T:D.Of P) (R:Tie D E n0 V φ h w) (hV:∀ k,V k) {pt it ty:TypeId} {p n v:Value} (hp:okV φ p) (hs:Ct D E pt p n h=some (v,h')) :
  AZ D E n0 V φ h w ((Builtin.unsafeString_ #[pt,it] ty #[ren φ p,ren φ n]).run P w) v h':=by
 unfold Ct at hs;split at hs
 ·next q=>
  cases hs;refine AZ.same R ?_ trivial;cases q with
  | none=>exact EF pt it ty none
  | some a=>exact EF pt it ty _
 ·next a n=>
  split at hs
  ·next e _ _ _ _ xs ty1 r p1 hpt hsp hbk=>
   split at hs
   ·next td _ _ _ cs he hty hcs hle=>
    split at hs
    ·next bs hbs=>
     cases hs;have hty:=U0 hty;subst hty;rw[Z0] at hle;obtain⟨f,d,h1,h2,h3,_⟩:=T.get hpt;have:=Er h3.symm;subst this;obtain⟨fe,de,k1,k2,k3,k4,_⟩:=T.get he;have hA:okA φ a:=hp;have hφ:(φ a.block).isSome=true:=by
      rcases hA with hA|hA|⟨_,hA⟩
      ·rw[hsp] at hA;cases hA
      ·exact hA.2
      ·rw[hsp] at hA;cases hA
     obtain⟨⟨c,b,ex⟩,hk⟩:=J1.1 hφ;obtain⟨hkn,hnc,hcs'⟩:=R.dom _ _ _ _ hk;obtain⟨ns,e1,e2⟩:=Gj hbs;subst e1 e2;obtain⟨hlen,hcell⟩:=R.bh hA (fun _=>hV _) hcs;have hlen':ns.length=n+1:=by simpa using hlen
     have hren:renA φ a=⟨c,b+a.off,none⟩:=by simp only[renA,hsp,hk]
     have hxs:a.off+(n+1)<=xs.length:=by
      unfold H.cells at hcs;simp only[hsp,hbk] at hcs;split at hcs
      ·next hh=>simp only[K0,Z0] at hh;exact hh.1
      ·cases hcs
     rcases R.blk _ _ _ _ _ (hV _) hbk hk with⟨hx0,_⟩|⟨mcs,u,fz,L⟩
     ·subst hx0;simp at hxs
     obtain⟨hu,i,hi,hsz⟩:=L.room rfl;rw[he] at hi;cases hi;subst hu;have hshape:w.shape? c=some (u,mcs.size):=by simp[World.shape?,L.block]
     have hcof:P.cellsOf u=1:=by simp[Program.cellsOf,k1,<- k4]
     have hlies:=Qh (P:=P) hcof (mcs.size / P.cellsOf u) (b+a.off) (n+1) (by rw[hcof,Nat.div_one];omega)
     have hload:=Ds (P:=P) (w:=w) ns ⟨c,b+a.off,none⟩ .empty (fun j x hj=>by
      have:=(hcell j (.int .u8 x) (by rw[J3,hj];rfl)).1;rw[hren] at this;simpa [ren] using this)
     rw[hlen'] at hload;have hrun:(Builtin.unsafeString_ #[pt,it] ty #[.pointer (some ⟨c,b+a.off,none⟩),.int .i64 (Int.ofNat (n+1))]).run P w=.ok (.string ⟨(ns.map fun n=>UInt8.ofNat n.toNat).toArray⟩) (w.freeze ⟨c,b+a.off,none⟩ (n+1)):=by
      rw[Ef];have hmax:IntKind.i64.max=9223372036854775807:=rfl;have hneg:¬ ((n:Int)+1)<0:=by omega
      have h63:¬ (9223372036854775807:Int)<(n:Int)+1:=by omega
      have hne:¬ ((n:Int)+1=0):=by omega
      have htn:((n:Int)+1).toNat=n+1:=by omega
      simp[asInt,asIntOf,hmax,h63,hneg,hne,htn,variablesAt,hshape,elemOf,run_underlying h2,hlies,hload]
     have hfz:∀ d,d≠c->(w.freeze ⟨c,b+a.off,none⟩ (n+1)).heap[d]? = w.heap[d]? := by
      intro d hd;simp only[World.freeze,Nat.succ_ne_zero,if_false,E7];rw[if_neg (fun e=>hd e.symm)]
     have hfs:(w.freeze ⟨c,b+a.off,none⟩ (n+1)).heap.size=w.heap.size:=by
      simp[World.freeze]
     have J:=R.drop r [] (fun j hj=>by cases hj);have hhid:∀ k B b' e',({ h with chains:=h.chains.set r [] }:H).blk k=some B->φ k=some (c,b',e')->B.hollow e'=true:=by
      intro k B b' e' hB hkk;have hd:h.dyn.get k=some B:=H.ae (h:={ h with chains:=h.chains.set r [] }) hB;have hold:h.blk k=some B/\∀ zs u' p',B≠.cells zs u' (some (r,p')):=by
       cases B with
       | cells zs u' rt=>
        cases rt with
        | none=>exact⟨by unfold H.blk;rw[hd],fun _ _ _ he=>by cases he⟩
        | some rq=>
         obtain⟨r',q⟩:=rq;have hm:=Ec hB;rw[JB] at hm;split at hm
         ·cases hm
         ·next hne=>exact⟨by rw[Dj hd,if_pos (by simpa using hm)],fun _ _ _ he=>by cases he;exact hne rfl⟩
       | _=>exact⟨by unfold H.blk;rw[hd],fun _ _ _ he=>by cases he⟩
      cases hh:B.hollow e' with
      | true=>rfl
      | false=>
       exfalso;by_cases ek:k=a.block
       ·subst ek;rw[hbk] at hold;exact hold.2 _ _ _ (Option.some.inj hold.1).symm
       ·have hnh2:(Blk.cells xs u (some (r,p1))).hollow ex=false:=by
         cases xs with
         | nil=>simp at hxs
         | cons _ _=>rfl
        obtain⟨zs,tz,rr,pz,xs',ty',p',hB1,hB2,_⟩:=R.apart _ _ _ _ _ _ _ _ _ ek hold.1 hbk hh hnh2 hkk hk;cases hB2;exact hold.2 _ _ _ hB1
     have J2:=J.free c hnc hhid hfs hfz;refine⟨φ,w.freeze ⟨c,b+a.off,none⟩ (n+1),?_,trivial,J2.note _,Ext.same (by rw[H.ai]),⟨rfl,rfl,rfl,by rw[hfs];exact C0 _,fun d _ hnd=>hfz d (fun e=>hnd a.block b ex (e▸hk))⟩⟩;have e3:ren φ (.pointer (some a))=.pointer (some ⟨c,b+a.off,none⟩):=by rw[Am,hren]
     rw[e3,Bt];exact hrun
    ·cases hs
   ·cases hs
  ·cases hs
 ·cases hs
end ops
end Go.Hs
