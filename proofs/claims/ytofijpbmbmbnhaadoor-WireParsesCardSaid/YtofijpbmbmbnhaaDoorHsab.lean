/- Operations: what the evaluator reckons is what the machine does. Values built; slices of slices. -/
import Derived.Test.YtofijpbmbmbnhaaDoorHsaa
import Derived.Laws.Tables
import Derived.Deep.AppendSrc
import Derived.ChangeKeysEq
import Derived.Laws.IdiomStrings
set_option linter.unusedSimpArgs false
set_option linter.unusedVariables false
namespace Go.Hs
section ops
variable {P:Program} {D:Tab} {E:Env} {n0:Nat} {V:Nat→Prop} {φ:Ph} {h h':H} {w:World}
theorem fieldsOf_places:∀ {l:List Field} {fs:List (Nat×TypeId×Nat)},fieldsOf P l=some fs→l.mapM (fun f=>(P.info? f.type).map fun i=>(f.offset,i.size))=some (fs.map fun x=>(x.1,x.2.2)):=by
 intro l
 induction l with
 | nil=>intro fs h;simp only[fieldsOf] at h;cases h;rfl
 | cons f l ih=>
  intro fs h
  simp only[fieldsOf] at h
  split at h
  ·next i l' hi hl=>
   split at h
   ·cases h
   ·cases h
    simp[List.mapM_cons,hi,ih hl]
  ·cases h
theorem abuild_run (T:D.Of P) {t:TypeId} {ps:List (Nat×Value)} {v:Value} (hp:∀ p∈ps,okV φ p.2) (hb:abuild D t ps=some v) :
  (Instr.build t (ps.map fun p=>(p.1,ren φ p.2)).toArray).run P w=.ok (ren φ v) w∧okV φ v:=by
 have fin:∀ {z:Value} {place:Nat→Option (Nat×Nat)} {res:List Value},roV z=true→afill place z.cells.toList ps=some res→
   Instr.fill place z.cells (ps.map fun p=>(p.1,ren φ p.2))=some (res.map (ren φ)).toArray∧∀ x∈res,okV φ x:=by
  intro z place res hz hf
  have hro:=roV_cells hz
  obtain⟨g1,g2⟩:=fill_run ps z.cells.toList res hp (fun x hx=>(roV.ok φ (hro x hx)).1) hf
  rw[map_ren_ro hro] at g1
  exact⟨g1,g2⟩
 unfold abuild at hb
 split at hb
 ·next fs _ _ z _ hi=>
  obtain⟨f,d,h1,h2,h3,h4,h5,h6,h7⟩:=T.get hi
  obtain⟨F,rfl,hF⟩:=tdOf_struct h3.symm
  obtain⟨hz,hro⟩:=isZ_some h6.symm
  split at hb
  ·next cs hcs=>
   cases hb
   obtain⟨g1,g2⟩:=fin hro hcs
   refine⟨?_,(okV_agg φ cs).2 g2⟩
   rw[ren_agg]
   apply run_build
   simp only[Program.built,h1,h2,hz,fieldsOf_places hF]
   rw[← g1]
   congr 1
   funext i
   simp only[List.getElem?_toArray,List.getElem?_map]
   cases fs[i]? with
   | none=>rfl
   | some x=>rfl
  ·cases hb
 ·next n e sz _ _ z _ hi=>
  obtain⟨f,d,h1,h2,h3,h4,h5,h6,h7⟩:=T.get hi
  obtain⟨rfl,fe,k1,k2⟩:=tdOf_array h3.symm
  obtain⟨hz,hro⟩:=isZ_some h6.symm
  split at hb
  ·next cs hcs=>
   cases hb
   obtain⟨g1,g2⟩:=fin hro hcs
   refine⟨?_,(okV_agg φ cs).2 g2⟩
   rw[ren_agg]
   apply run_build
   simp only[Program.built,h1,h2,hz,k1,k2]
   exact g1
  ·cases hb
 ·cases hb
theorem map_range0 (f:Nat→Value):Array.map f (Array.range 0)=#[]:=by simp
theorem abuildSlice_runF (T:D.Of P) (R:Tie D E n0 V φ h w) {t:TypeId} {len:Nat} {ps:List (Nat×Value)} {v:Value} (hp:∀ p∈ps,okV φ p.2) (hb:abuildSlice D t len ps h=some (v,h')) :
  GivesF D E n0 V φ h w ((Instr.buildSlice t len (ps.map fun p=>(p.1,ren φ p.2)).toArray).run P w) v h':=by
 unfold abuildSlice at hb
 split at hb
 ·next e sz by_ _ _ _ _ hi=>
  obtain⟨f,d,h1,h2,h3,h4,h5,h6,h7⟩:=T.get hi
  obtain⟨rfl,fe,k1,k2,k3⟩:=tdOf_slice h3.symm
  split at hb
  ·next z hz hle=>
   simp only[Bool.and_eq_true,Nat.ble_eq,Nat.blt_eq] at hle
   obtain⟨fz,z1,z2,z3⟩:=T.zero hz
   rw[k1] at z1;cases z1
   split at hb
   ·next hs hcs=>
    next cs=>
    cases hb
    have hs:=Nat.eq_of_beq_eq_true hs
    have hro:=roV_cells z3
    have hzs:z.cells.size=fe.size:=by rw[← Array.length_toList,hs,k2]
    obtain⟨g1,g2⟩:=fill_run ps _ cs hp (fun x hx=>(roV.ok φ (hro x (zeroRow_mem hx))).1) hcs
    rw[map_ren_ro (fun c hc=>hro c (zeroRow_mem hc))] at g1
    have hn:¬ (len*fe.size>2 ^ 24):=by rw[k2];simp;omega
    have hrow:(Array.range (len*fe.size)).map (fun i=>z.cells[i % z.cells.size]!)=(zeroRow z.cells.toList len).toArray:=by
     rw[← hzs];exact zeroRow_range _ _ (by omega)
    have hG:=newCells_sliceF R cs e len len g2
    have hrun:(Instr.buildSlice t len (ps.map fun p=>(p.1,ren φ p.2)).toArray).run P w=.ok (.slice (some ⟨w.heap.size,0,none⟩) len len) (wpush w (.cells (cs.map (ren φ)).toArray e (0,0))):=by
     subst k2
     by_cases h0:len*fe.size=0
     ·have hl0:len=0:=by rcases Nat.mul_eq_zero.1 h0 with h|h<;>omega
      subst hl0
      simp only[Nat.zero_mul] at hrow
      simp only[zeroRow] at g1
      simp[Instr.buildSlice,r_und h2,r_size k1,newRow,wpush,map_range0,g1]
     ·simp only[Instr.buildSlice,Sem.run_bind,r_und h2,Result.andThen_ok,r_size k1,hn,if_false,h0,r_zero k1 z2,Sem.run_pure,hrow,List.toList_toArray,g1,newRow,run_newObj]
      rfl
    rw[hrun];exact hG
   ·cases hb
  ·cases hb
 ·cases hb
theorem abuildSlice_run (T:D.Of P) (R:Tie D E n0 V φ h w) {t:TypeId} {len:Nat} {ps:List (Nat×Value)} {v:Value} (hp:∀ p∈ps,okV φ p.2) (hb:abuildSlice D t len ps h=some (v,h')) :
  Gives D E n0 V φ h w ((Instr.buildSlice t len (ps.map fun p=>(p.1,ren φ p.2)).toArray).run P w) v h':=(abuildSlice_runF T R hp hb).gives
theorem amakeSlice_runF (T:D.Of P) (R:Tie D E n0 V φ h w) {t:TypeId} {x y v:Value} (hb:amakeSlice D t x y h=some (v,h')) :
  GivesF D E n0 V φ h w ((Instr.makeSlice t (ren φ x) (ren φ y)).run P w) v h':=by
 unfold amakeSlice at hb
 split at hb
 ·next e sz by_ _ _ _ _ l c hi=>
  obtain⟨f,d,h1,h2,h3,h4,h5,h6,h7⟩:=T.get hi
  obtain⟨rfl,fe,k1,k2,k3⟩:=tdOf_slice h3.symm
  split at hb
  ·next z hz hle=>
   simp only[Bool.and_eq_true,Nat.ble_eq,Nat.blt_eq,roomy] at hle
   obtain⟨fz,z1,z2,z3⟩:=T.zero hz
   rw[k1] at z1;cases z1
   split at hb
   ·next hs=>
    cases hb
    have hs:=Nat.eq_of_beq_eq_true hs
    have hro:=roV_cells z3
    have hzs:z.cells.size=fe.size:=by rw[← Array.length_toList,hs,k2]
    have hG:=newCells_sliceF R (zeroRow z.cells.toList c) e l c (fun x hx=>(roV.ok φ (hro x (zeroRow_mem hx))).1)
    rw[map_ren_ro (fun c hc=>hro c (zeroRow_mem hc))] at hG
    have hrow:(Array.range (c*fe.size)).map (fun i=>z.cells[i % z.cells.size]!)=(zeroRow z.cells.toList c).toArray:=by
     rw[← hzs];exact zeroRow_range _ _ (by omega)
    have hlc':l≤c:=hle.1.1
    have hcb:c*by_≤70368744177664:=hle.1.2.1
    have hcn:c≤70368744177664:=hle.1.2.2
    have hw0:∀ l:Nat,l≤70368744177664→IntKind.i64.wrap (l:Int)=(l:Int):=by
     intro l hl
     simp only[IntKind.wrap,IntKind.bits,IntKind.signed];simp;omega
    have hwl:=hw0 l (by omega)
    have hwc:=hw0 c hcn
    have hrun:(Instr.makeSlice t (.int .i64 (Int.ofNat l)) (.int .i64 (Int.ofNat c))).run P w=.ok (.slice (some ⟨w.heap.size,0,none⟩) l c) (wpush w (.cells (zeroRow z.cells.toList c).toArray e (0,0))):=by
     have hb1:¬ (281474976710656<(fe.bytes:Int)*(c:Int)):=by
      have:(fe.bytes:Int)*(c:Int)=((c*by_:Nat):Int):=by rw[k3];push_cast;exact Int.mul_comm _ _
      rw[this];omega
     have hc0:¬ ((c:Int)<0):=by omega
     have hl0:¬ ((l:Int)<0):=by omega
     have hlc:¬ ((c:Int)<(l:Int)):=by omega
     by_cases h0:c*fe.size=0
     ·have hl0':c=0:=by rcases Nat.mul_eq_zero.1 h0 with h|h<;>omega
      have hl1:l=0:=by omega
      subst hl0' hl1
      have hw00:IntKind.i64.wrap 0=0:=by decide
      simp[Instr.makeSlice,r_und h2,r_size k1,r_info k1,newRow,wpush,asInt,asIntOf,hw00,map_range0,zeroRow]
     ·simp[Instr.makeSlice,r_und h2,r_size k1,r_info k1,newRow,wpush,asInt,asIntOf,hwl,hwc,hb1,hc0,hl0,hlc,h0,r_zero k1 z2,hrow]
    simp only[ren_int]
    rw[hrun];exact hG
   ·cases hb
  ·cases hb
 ·cases hb
theorem amakeSlice_run (T:D.Of P) (R:Tie D E n0 V φ h w) {t:TypeId} {x y v:Value} (hb:amakeSlice D t x y h=some (v,h')) :
  Gives D E n0 V φ h w ((Instr.makeSlice t (ren φ x) (ren φ y)).run P w) v h':=(amakeSlice_runF T R hb).gives
end ops
section place
variable {D:Tab} {E:Env} {n0:Nat} {V:Nat→Prop} {φ φ':Ph} {h h':H} {w w':World}
theorem Tie.place (R:Tie D E n0 V φ h w) {ys:List Value} {ty:TypeId} {c b:Nat} (hn:n0≤c) (hc:c<w.heap.size) (hT:V h.next→BlkTie D (upd φ h.next (c,b,0)) w c b 0 (.cells ys ty none))
  (hap:ys≠[]→∀ k B b' e',h.blk k=some B→φ k=some (c,b',e')→B.hollow e'=true) :
  Tie D E n0 V (upd φ h.next (c,b,0)) (h.new (.cells ys ty none)) w:=by
 have hle:Le φ (upd φ h.next (c,b,0)):=upd_le (R.next_none (Nat.le_refl h.next))
 have hbk:=blk_new R (B:=.cells ys ty none) rfl
 have hys:(Blk.cells ys ty none).hollow 0=false→ys≠[]:=by intro h1 h2;subst h2;cases h1
 refine⟨R.ro,R.size,?_,?_,?_,?_,?_,?_⟩
 ·intro k c' b' e' hk
  by_cases ek:k=h.next
  ·subst ek
   rw[upd_same] at hk;cases hk
   exact⟨by simp[H.new],hn,hc⟩
  ·rw[upd_ne _ _ ek] at hk
   obtain⟨g1,g2,g3⟩:=R.dom _ _ _ _ hk
   exact⟨by simp[H.new];omega,g2,g3⟩
 ·intro k B' c' b' e' hV hb hk
  rw[hbk] at hb
  by_cases ek:k=h.next
  ·subst ek
   rw[if_pos rfl] at hb;cases hb
   rw[upd_same] at hk;cases hk
   exact hT hV
  ·rw[if_neg ek] at hb
   rw[upd_ne _ _ ek] at hk
   exact (R.blk _ _ _ _ _ hV hb hk).le hle rfl
 ·intro j k B1 B2 c1 b1 e1 b2 e2 hjk h1 h2 n1 n2 hj hk
  rw[hbk] at h1 h2
  by_cases ej:j=h.next
  ·subst ej
   rw[upd_same] at hj;cases hj
   rw[if_pos rfl] at h1;cases h1
   by_cases ek:k=h.next
   ·exact absurd ek.symm hjk
   ·rw[if_neg ek] at h2
    rw[upd_ne _ _ ek] at hk
    rw[hap (hys n1) _ _ _ _ h2 hk] at n2;cases n2
  ·rw[if_neg ej] at h1
   rw[upd_ne _ _ ej] at hj
   by_cases ek:k=h.next
   ·subst ek
    rw[upd_same] at hk;cases hk
    rw[if_pos rfl] at h2;cases h2
    rw[hap (hys n2) _ _ _ _ h1 hj] at n1;cases n1
   ·rw[if_neg ek] at h2
    rw[upd_ne _ _ ek] at hk
    exact R.apart _ _ _ _ _ _ _ _ _ hjk h1 h2 n1 n2 hj hk
 ·intro k xs u c' b' e' hd hk
  by_cases ek:k=h.next
  ·subst ek
   rw[upd_same] at hk;cases hk;rfl
  ·rw[upd_ne _ _ ek] at hk
   simp only[H.new,T.get_set_ne _ _ _ _ ek] at hd
   exact R.exact _ _ _ _ _ _ hd hk
 ·intro k hk
  simp only[H.new] at hk ⊢
  rw[T.get_set_ne _ _ _ _ (by omega)]
  exact R.fresh k (by omega)
 ·intro k xs u r p hd
  simp only[H.new] at hd ⊢
  by_cases ek:k=h.next
  ·subst ek
   rw[T.get_set_same] at hd;cases hd
  ·rw[T.get_set_ne _ _ _ _ ek] at hd
   have:=R.root _ _ _ _ _ hd
   omega
end place
section ops
variable {P:Program} {D:Tab} {E:Env} {n0:Nat} {V:Nat→Prop} {φ:Ph} {h h':H} {w:World}
theorem abound_le {x:Option Value} {y d n:Nat} (hx:abound x y d=some n) (hd:d≤y):n≤y:=by
 unfold abound at hx
 split at hx
 ·cases hx;exact hd
 ·split at hx
  ·next hr=>cases hx;obtain⟨r1,r2⟩:=inRange_iff hr;omega
  ·cases hx
 ·cases hx
theorem abound_run {v:Value} {y Y d n:Nat} (hx:abound (some v) y d=some n) (hY:y≤Y) (code:BoundsCode):(Instr.sliceBound (ren φ v) Y code).run P w=.ok n w:=by
 unfold abound at hx
 split at hx
 ·next he=>cases he
 ·next k i he=>
  cases he
  split at hx
  ·next hr=>
   cases hx
   obtain⟨r1,r2⟩:=inRange_iff hr
   have:0≤i∧i≤(Y:Int):=by omega
   simp[Instr.sliceBound,ren_int,asIntOf,this]
  ·cases hx
 ·cases hx
theorem bounds2_run {isS:Bool} {len cap Cap l hh:Nat} {lo hi:Option Value} (h1:abound hi cap len=some hh) (h2:abound lo hh 0=some l) (hC:cap≤Cap) (hl:len≤cap) :
  (Instr.sliceBounds isS len Cap (lo.map (ren φ)) (hi.map (ren φ)) none).run P w=.ok (l,hh,Cap) w∧l≤hh∧hh≤cap:=by
 refine⟨?_,abound_le h2 (Nat.zero_le _),abound_le h1 hl⟩
 cases hi with
 | none=>
  have:hh=len:=by simp[abound] at h1;exact h1.symm
  subst this
  cases lo with
  | none=>
   have:l=0:=by simp[abound] at h2;exact h2.symm
   subst this
   simp[Instr.sliceBounds]
  | some lo=>simp[Instr.sliceBounds,abound_run h2 (Nat.le_refl _)]
 | some hi=>
  cases lo with
  | none=>
   have:l=0:=by simp[abound] at h2;exact h2.symm
   subst this
   simp[Instr.sliceBounds,abound_run h1 hC]
  | some lo=>simp[Instr.sliceBounds,abound_run h1 hC,abound_run h2 (Nat.le_refl _)]
theorem bounds3_run {isS:Bool} {len cap Cap l hh m:Nat} {mx hi:Value} {lo:Option Value} (h0:abound (some mx) cap cap=some m) (h1:abound (some hi) m m=some hh) (h2:abound lo hh 0=some l) (hC:cap≤Cap) :
  (Instr.sliceBounds isS len Cap (lo.map (ren φ)) (some (ren φ hi)) (some (ren φ mx))).run P w=.ok (l,hh,m) w∧l≤hh∧hh≤m∧m≤cap:=by
 refine⟨?_,abound_le h2 (Nat.zero_le _),abound_le h1 (Nat.le_refl _),abound_le h0 (Nat.le_refl _)⟩
 cases lo with
 | none=>
  have:l=0:=by simp[abound] at h2;exact h2.symm
  subst this
  simp[Instr.sliceBounds,abound_run h0 hC,abound_run h1 (Nat.le_refl _)]
 | some lo=>simp[Instr.sliceBounds,abound_run h0 hC,abound_run h1 (Nat.le_refl _),abound_run h2 (Nat.le_refl _)]
theorem okA_some (R:Tie D E n0 V φ h w) {a:Addr} (ha:okA φ a) (hs:a.spot=some 0):∃ c b e,φ a.block=some (c,b,e)∧renA φ a=⟨c,b+a.off,none⟩∧extA φ a=e∧n0≤c∧c<w.heap.size:=by
 rcases ha with ha|⟨ha,hk⟩|⟨_,ha⟩
 rotate_left 2
 ·rw[hs] at ha;cases ha
 ·rw[hs] at ha;cases ha
 ·obtain⟨⟨c,b,e⟩,hk⟩:=Option.isSome_iff_exists.1 hk
  have:=R.dom _ _ _ _ hk
  exact⟨c,b,e,hk,by simp[renA,hs,hk],by simp[extA,hs,hk],this.2.1,this.2.2⟩
theorem asliceS_run (R:Tie D E n0 V φ h w) (hV:∀ k,V k) {e:Nat} {a:Addr} {len cap:Nat} {lo hi mx:Option Value} {v:Value} (ha:okA φ a) (hlc:len≤cap) (hs:asliceS e a len cap lo hi mx h=some (v,h')) :
  ∃ l hh m,(∀ isS,(Instr.sliceBounds isS len (cap+extA φ a) (lo.map (ren φ)) (hi.map (ren φ)) (mx.map (ren φ))).run P w=.ok (l,hh,m) w)∧
   Gives D E n0 V φ h w (.ok (.slice (some (if m=l then renA φ a else (renA φ a).add (l*e))) (hh-l) (m-l)) w) v h':=by
 unfold asliceS at hs
 split at hs
 ·-- two indices
  split at hs
  ·cases hs
  ·next hh hhi=>
   split at hs
   ·cases hs
   ·next l hlo=>
    have B:=fun isS=>bounds2_run (P:=P) (φ:=φ) (w:=w) (isS:=isS) (Cap:=cap+extA φ a) hhi hlo (Nat.le_add_right _ _) hlc
    obtain⟨_,l1,l2⟩:=B true
    refine⟨l,hh,cap+extA φ a,fun isS=>(B isS).1,?_⟩
    split at hs
    ·next hb=>
     cases hs
     have hne:cap≠l:=fun e=>by subst e;rw[show Nat.beq cap cap=true from Nat.beq_refl cap] at hb;cases hb
     obtain⟨g1,g2,g3⟩:=renA_aadd ha (l*e)
     refine Gives.same R ?_ g2
     rw[ren_slice,g1,g3,if_neg (by omega)]
     have:cap+extA φ a-l=cap-l+extA φ a:=by omega
     rw[this]
    ·next hb=>
     have hcl:cap=l:=Nat.eq_of_beq_eq_true hb
     have hhl:hh=l:=by omega
     have same:extA φ a=0→Gives D E n0 V φ h w (.ok (.slice (some (if cap+extA φ a=l then renA φ a else (renA φ a).add (l*e))) (hh-l) (cap+extA φ a-l)) w) (.slice (some a) 0 0) h:=by
      intro h0
      refine Gives.same R ?_ ha
      rw[ren_slice,h0,if_pos (by omega),hhl,hcl];simp
     split at hs
     ·next hsp=>
      cases hs
      exact same (by simp[extA,hsp])
     ·next hsp=>
      cases hs
      exact same (by simp[extA,hsp])
     ·next hsp=>
      obtain⟨c,b,ex,hk,hren,hext,hn,hc⟩:=okA_some R ha hsp
      split at hs
      ·next hbk=>
       cases hs
       exact same (by rw[hext];exact R.exact _ _ _ _ _ _ (H.blk_dyn hbk) hk)
      ·next xs ty r p hbk=>
       split at hs
       ·next hend=>
        cases hs
        have hend:a.off+cap*e=xs.length:=Nat.eq_of_beq_eq_true hend
        have hr:=R.root _ _ _ _ _ (H.blk_dyn hbk)
        by_cases h0:ex=0
        ·subst h0
         have J:=R.join (w':=w) (ys:=[]) (ty:=ty) (r:=r) (p:=p+xs.length) (c:=c) (b:=b+a.off) (e:=0) (l:=h.chain r) (Nat.le_of_lt hr) (fun _ hj=>hj) hn hc (Nat.le_refl _) (fun _ _ _=>rfl)
          (fun _=>.inl ⟨rfl,.inr rfl⟩) (fun k B b' e' hVk hkb _ hφ=>(R.blk _ _ _ _ _ hVk hkb hφ).le (upd_le (R.next_none (Nat.le_refl _))) rfl) (fun _ _ _ _ hh0=>by cases hh0)
         refine⟨_,w,?_,?_,J,upd_ext (.inr ⟨_,_,_,hk⟩),Kept.refl _ _⟩
         ·obtain⟨g1,g2,g3⟩:=renA_own (upd_same φ h.next (c,b+a.off,0))
          rw[ren_slice,g1,g3,hren,hext,if_pos (by omega),hhl,hcl];simp
         ·exact (renA_own (upd_same φ h.next (c,b+a.off,0))).2.1
        ·rcases R.blk _ _ _ _ _ (hV _) hbk hk with⟨_,hx⟩|⟨cs,u,fz,L⟩
         ·rcases hx with hx|hx
          ·cases hx
          ·exact absurd hx h0
         ·have J:=R.join (w':=w) (ys:=[]) (ty:=ty) (r:=r) (p:=p+xs.length) (c:=c) (b:=b+xs.length) (e:=ex) (l:=h.chain r) (Nat.le_of_lt hr) (fun _ hj=>hj) hn hc (Nat.le_refl _) (fun _ _ _=>rfl)
           (fun _=>.inr ⟨cs,u,fz,L.block,L.opn,fun i x hx=>by simp at hx,fun _=>by
            obtain⟨g1,i,g2,g3⟩:=L.room rfl
            exact⟨g1,i,g2,by simpa using g3⟩,fun h1 _=>by cases h1⟩)
           (fun k B b' e' hVk hkb _ hφ=>(R.blk _ _ _ _ _ hVk hkb hφ).le (upd_le (R.next_none (Nat.le_refl _))) rfl)
           (fun k B b' e' _ hkb hnh hφ=>by
            by_cases ek:k=a.block
            ·subst ek
             rw[hbk] at hkb;cases hkb
             rw[hk] at hφ;cases hφ
             exact⟨_,_,_,rfl,by omega⟩
            ·have hnh2:(Blk.cells xs ty (some (r,p))).hollow ex=false:=by
              cases xs with
              | nil=>cases ex with
               | zero=>exact absurd rfl h0
               | succ n=>rfl
              | cons _ _=>rfl
             obtain⟨xs1,ty1,r1,p1,xs2,ty2,p2,rfl,hB2,hp⟩:=R.apart _ _ _ _ _ _ _ _ _ ek hkb hbk hnh hnh2 hφ hk
             cases hB2
             exact⟨_,_,_,rfl,by omega⟩)
          refine⟨_,w,?_,?_,J,upd_ext (.inr ⟨_,_,_,hk⟩),Kept.refl _ _⟩
          ·obtain⟨g1,g2,g3⟩:=renA_own (upd_same φ h.next (c,b+xs.length,ex))
           have hle:l*e=cap*e:=by rw[hcl]
           rw[ren_slice,g1,g3,hren,hext,if_neg (by omega),hhl,Addr.add_plain]
           have:b+a.off+l*e=b+xs.length:=by omega
           rw[this]
           have:cap+ex-l=0+ex:=by omega
           rw[this,Nat.sub_self]
          ·exact (renA_own (upd_same φ h.next (c,b+xs.length,ex))).2.1
       ·cases hs
      ·cases hs
 ·-- three
  next mx=>
  split at hs
  ·cases hs
  ·next m hm=>
   split at hs
   ·cases hs
   ·next hh hhi=>
    split at hs
    ·next hi l hlo=>
     have B:=fun isS=>bounds3_run (P:=P) (φ:=φ) (w:=w) (isS:=isS) (len:=len) (Cap:=cap+extA φ a) hm hhi hlo (Nat.le_add_right _ _)
     obtain⟨_,l1,l2,l3⟩:=B true
     refine⟨l,hh,m,fun isS=>(B isS).1,?_⟩
     have same:extA φ a=0→Gives D E n0 V φ h w (.ok (.slice (some (if m=l then renA φ a else (renA φ a).add (l*e))) (hh-l) (m-l)) w) (.slice (some (match Nat.beq m l with|true=>a|false=>aadd a (l*e))) (hh-l) (m-l)) h:=by
      intro h0
      obtain⟨g1,g2,g3⟩:=renA_aadd ha (l*e)
      cases hb:Nat.beq m l with
      | true=>
       have:=Nat.eq_of_beq_eq_true hb
       refine Gives.same R ?_ ha
       rw[if_pos this]
       simp only[ren_slice,h0,Nat.add_zero]
      | false=>
       have hne:m≠l:=fun e=>by subst e;rw[show Nat.beq m m=true from Nat.beq_refl m] at hb;cases hb
       refine Gives.same R ?_ g2
       rw[if_neg hne]
       simp only[ren_slice,g1,g3,h0,Nat.add_zero]
     split at hs
     ·next hsp=>
      cases hs
      exact same (by simp[extA,hsp])
     ·next hsp=>
      cases hs
      exact same (by simp[extA,hsp])
     ·next hsp=>
      obtain⟨c,b,ex,hk,hren,hext,hn,hc⟩:=okA_some R ha hsp
      split at hs
      ·next hb=>
       have hml:=Nat.eq_of_beq_eq_true hb
       split at hs
       ·next xs ty rt hbk=>
        cases hs
        have J:=R.place (ys:=[]) (ty:=ty) (c:=c) (b:=b+a.off) hn hc (fun _=>.inl ⟨rfl,.inl rfl⟩) (fun hne=>absurd rfl hne)
        refine⟨_,w,?_,?_,J,upd_ext (.inr ⟨_,_,_,hk⟩),Kept.refl _ _⟩
        ·obtain⟨g1,g2,g3⟩:=renA_own (upd_same φ h.next (c,b+a.off,0))
         have hhl:hh-l=0:=by omega
         rw[ren_slice,g1,g3,hren,if_pos hml,hml,hhl,Nat.sub_self]
        ·exact (renA_own (upd_same φ h.next (c,b+a.off,0))).2.1
       ·cases hs
      ·next hb=>
       have hne:m≠l:=fun e=>by subst e;rw[show Nat.beq m m=true from Nat.beq_refl m] at hb;cases hb
       split at hs
       ·next xs ty hbk=>
        cases hs
        have:=same (by rw[hext];exact R.exact _ _ _ _ _ _ (H.blk_dyn hbk) hk)
        rw[hb] at this
        exact this
       ·next xs ty r p hbk=>
        split at hs
        ·next hle=>
         rw[Nat.ble_eq] at hle
         cases hs
         have hlt:(m-l)*e+l*e≤cap*e:=by rw[← Nat.add_mul];exact Nat.mul_le_mul_right _ (by omega)
         have J0:=R.drop r [] (fun j hj=>by cases hj)
         have J:=J0.place (ys:=(xs.drop (a.off+l*e)).take ((m-l)*e)) (ty:=noTy) (c:=c) (b:=b+a.off+l*e) hn hc ?_ ?_
         ·refine⟨_,w,?_,?_,J.note _,(upd_ext (k:=h.next) (.inr ⟨_,_,_,hk⟩)).of_next (by rw[H.note_next]),Kept.refl _ _⟩
          ·obtain⟨g1,g2,g3⟩:=renA_own (upd_same φ h.next (c,b+a.off+l*e,0))
           rw[if_neg hne,hren,Addr.add_plain]
           exact congrArg (Result.ok · w) (by rw[ren_slice];exact (by rw[g1,g3];rfl))
          ·exact (renA_own (upd_same φ h.next (c,b+a.off+l*e,0))).2.1
         ·intro _
          rcases R.blk _ _ _ _ _ (hV _) hbk hk with⟨hx,_⟩|⟨cs,u,fz,L⟩
          ·subst hx
           exact .inl ⟨by simp,.inl rfl⟩
          ·refine .inr ⟨cs,u,fz,L.block,L.opn,fun i x hx => ?_,fun hr=>(by cases hr),fun _ h2=>absurd rfl h2⟩
           rw[List.getElem?_take] at hx
           split at hx
           ·rw[List.getElem?_drop] at hx
            obtain⟨y,hy,ht⟩:=(L.le (upd_le (R.next_none (Nat.le_refl _))) rfl).cell _ _ hx
            exact⟨y,by rw[← hy];congr 1;omega,ht⟩
           ·cases hx
         ·intro hys k B b' e' hkb hφ
          have hd:h.dyn.get k=some B:=H.blk_dyn (h:={ h with chains:=h.chains.set r [] }) hkb
          cases hho:B.hollow e' with
          | true=>rfl
          | false=>
           exfalso
           have hxs:xs≠[]:=by rintro rfl;simp at hys
           have hnh2:(Blk.cells xs ty (some (r,p))).hollow ex=false:=by cases xs with|nil=>exact absurd rfl hxs|cons _ _=>rfl
           have hlive:h.blk k=some B∧∀ ys u q,B≠.cells ys u (some (r,q)):=by
            cases B with
            | cells ys u rt=>cases rt with
             | none=>exact⟨by unfold H.blk;rw[hd],fun _ _ _ he=>by cases he⟩
             | some rq=>
              obtain⟨r',q⟩:=rq
              have hm:=blk_root hkb
              rw[chain_set] at hm
              split at hm
              ·cases hm
              ·next hrr=>exact⟨by rw[blk_of hd,if_pos (by simpa using hm)],fun _ _ _ he=>by cases he;exact hrr rfl⟩
            | map es c=>exact⟨by unfold H.blk;rw[hd],fun _ _ _ he=>by cases he⟩
            | siter s p=>exact⟨by unfold H.blk;rw[hd],fun _ _ _ he=>by cases he⟩
            | defd t=>exact⟨by unfold H.blk;rw[hd],fun _ _ _ he=>by cases he⟩
            | loop r=>exact⟨by unfold H.blk;rw[hd],fun _ _ _ he=>by cases he⟩
           have ek:k≠a.block:=by
            rintro rfl
            rw[hbk] at hlive
            exact hlive.2 xs ty p (by have:=hlive.1;cases this;rfl)
           obtain⟨xs1,ty1,r1,p1,xs2,ty2,p2,rfl,hB2,hp⟩:=R.apart _ _ _ _ _ _ _ _ _ ek hlive.1 hbk hho hnh2 hφ hk
           cases hB2
           exact hlive.2 _ _ _ rfl
        ·cases hs
       ·cases hs
    ·cases hs
end ops
section ops
variable {P:Program} {D:Tab} {E:Env} {n0:Nat} {V:Nat→Prop} {φ:Ph} {h h':H} {w:World}
theorem bytes_ext {a b:ByteArray} (h:a.data.toList=b.data.toList):a=b:=by
 cases a with|mk a=>cases b with|mk b=>cases a;cases b;simp_all
theorem bytes_size (s:ByteArray):s.data.toList.length=s.size:=Array.length_toList
theorem bytes_cut (s:ByteArray) (l hh:Nat):s.extract l hh=⟨⟨(s.data.toList.drop l).take (hh-l)⟩⟩:=by
 apply bytes_ext
 simp[ByteArray.data_extract,List.extract_eq_take_drop]
theorem sureAddr_run (φ:Ph) (a:Addr):(Instr.sureAddr (ren φ (.pointer (some a)))).run P w=.ok (renA φ a) w:=by
 simp[ren_pointer,Instr.sureAddr]
theorem zero_bound {x:Option Value} (h:isZero x=true):abound x 0 0=some 0:=by
 unfold isZero at h
 split at h
 ·rfl
 ·rfl
 ·cases h
theorem aslice_run (T:D.Of P) (R:Tie D E n0 V φ h w) (hV:∀ k,V k) {t:TypeId} {x:Value} {lo hi mx:Option Value} {v:Value} (hx:okV φ x) (hs:aslice D t x lo hi mx h=some (v,h')) :
  Gives D E n0 V φ h w ((Instr.sliceAt t (ren φ x) (lo.map (ren φ)) (hi.map (ren φ)) (mx.map (ren φ))).run P w) v h':=by
 unfold aslice at hs
 split at hs
 ·next n e sz _ _ _ _ hi'=>
  obtain⟨f,d,h1,h2,h3,h4,_⟩:=T.get hi'
  obtain⟨rfl,fe,k1,k2⟩:=tdOf_array h3.symm
  split at hs
  ·next a=>
   split at hs
   ·next hh hhi=>
    split at hs
    ·next l hlo=>
     have ha:okA φ a:=hx
     obtain⟨B,l1,l2⟩:=bounds2_run (P:=P) (φ:=φ) (w:=w) (isS:=false) (Cap:=n) hhi hlo (Nat.le_refl _) (Nat.le_refl _)
     have same:extA φ a=0→Gives D E n0 V φ h w ((Instr.sliceAt t (ren φ (.pointer (some a))) (lo.map (ren φ)) (hi.map (ren φ)) none).run P w) (.slice (some (match Nat.beq n l with|true=>a|false=>aadd a (l*sz))) (hh-l) (n-l)) h:=by
      intro h0
      obtain⟨g1,g2,g3⟩:=renA_aadd ha (l*sz)
      have hrun:(Instr.sliceAt t (ren φ (.pointer (some a))) (lo.map (ren φ)) (hi.map (ren φ)) none).run P w=.ok (.slice (some (if n=l then renA φ a else (renA φ a).add (l*sz))) (hh-l) (n-l)) w:=by
       simp only[Instr.sliceAt,Sem.run_bind,r_und h2,Result.andThen_ok,sureAddr_run,B,r_size k1,k2,Sem.run_pure]
      rw[hrun]
      cases hb:Nat.beq n l with
      | true=>
       have:=Nat.eq_of_beq_eq_true hb
       refine Gives.same R ?_ ha
       rw[if_pos this]
       simp only[ren_slice,h0,Nat.add_zero]
      | false=>
       have hne:n≠l:=fun e=>by subst e;rw[show Nat.beq n n=true from Nat.beq_refl n] at hb;cases hb
       refine Gives.same R ?_ g2
       rw[if_neg hne]
       simp only[ren_slice,g1,g3,h0,Nat.add_zero]
     split at hs
     ·next hsp=>
      cases hs
      exact same (by simp[extA,hsp])
     ·cases hs
     ·next hsp=>
      obtain⟨c,b,ex,hk,hren,hext,hn,hc⟩:=okA_some R ha hsp
      split at hs
      ·next hbk=>
       cases hs
       exact same (by rw[hext];exact R.exact _ _ _ _ _ _ (H.blk_dyn hbk) hk)
      ·cases hs
    ·cases hs
   ·cases hs
  ·cases hs
 ·next hi'=>
  obtain⟨f,d,h1,h2,h3,h4,_⟩:=T.get hi'
  have hd:=tdOf_string h3.symm
  subst hd
  split at hs
  ·next s=>
   split at hs
   ·next hh hhi=>
    split at hs
    ·next l hlo=>
     cases hs
     obtain⟨B,l1,l2⟩:=bounds2_run (P:=P) (φ:=φ) (w:=w) (isS:=false) (Cap:=s.data.toList.length) hhi hlo (Nat.le_refl _) (Nat.le_refl _)
     rw[bytes_size] at B
     refine Gives.same R ?_ trivial
     simp only[Option.map_none,Instr.sliceAt,Instr.slice,ren_string,Sem.run_bind,r_und h2,Result.andThen_ok,Option.isSome_none,Bool.false_eq_true,if_false,Sem.run_pure,B,bytes_cut]
    ·cases hs
   ·cases hs
  ·cases hs
 ·next e sz by_ _ _ _ _ hi'=>
  obtain⟨f,d,h1,h2,h3,h4,_⟩:=T.get hi'
  obtain⟨rfl,fe,k1,k2,k3⟩:=tdOf_slice h3.symm
  split at hs
  ·split at hs
   ·next hz=>
    cases hs
    simp only[Bool.and_eq_true] at hz
    refine Gives.same R ?_ trivial
    have hlo:=zero_bound hz.1.1
    have hhi:=zero_bound hz.1.2
    have hmx:mx=none:=by simpa using hz.2
    subst hmx
    have B:=(bounds2_run (P:=P) (φ:=φ) (w:=w) (isS:=true) hhi hlo (Nat.le_refl _) (Nat.le_refl _)).1
    simp only[Instr.sliceAt,Instr.slice,Sem.run_bind,r_und h2,Result.andThen_ok,ren,Option.map_none,B,r_size k1,if_true,Sem.run_pure]
   ·cases hs
  ·next a len cap=>
   split at hs
   ·next hlc=>
    rw[Nat.ble_eq] at hlc
    have ha:okA φ a:=hx
    obtain⟨l,hh,m,B,hG⟩:=asliceS_run (P:=P) R hV ha hlc hs
    have hrun:(Instr.sliceAt t (ren φ (.slice (some a) len cap)) (lo.map (ren φ)) (hi.map (ren φ)) (mx.map (ren φ))).run P w=.ok (.slice (some (if m=l then renA φ a else (renA φ a).add (l*sz))) (hh-l) (m-l)) w:=by
     simp only[Instr.sliceAt,Instr.slice,ren_slice,Sem.run_bind,r_und h2,Result.andThen_ok,B,r_size k1,k2,Sem.run_pure]
     split<;>rfl
    rw[hrun];exact hG
   ·cases hs
  ·cases hs
 ·cases hs
end ops
theorem grown_ge (w:World) (need old:Nat) (e:TypeId):need≤grownCap w need old e:=by
 simp only[grownCap,Question.cut];omega
structure App (P:Program) (i:TypeInfo) (tx:TypeId) (x:Value) (n:Nat) (news:List Value) (w:World):Prop where
 src:(((∃ e',P.underlying tx=some (.slice e'))∨P.underlying tx=some .string)∧(∀ w':World,(Builtin.lenOf x).run P w'=.ok n w')∧(Builtin.firstCells i.size n x).run P w=.ok news.toArray w∧(Builtin.firstCells i.size n x).run P w.drew=.ok news.toArray w.drew)∨
  (∃ k z,P.underlying tx=some (.int k)∧i.zero=some z∧x=.int .i64 (Int.ofNat n)∧news=zeroRow z.cells.toList n∧z.cells.size=i.size∧0<i.size∧n≤70368744177664∧n*i.bytes≤70368744177664)
 len:news.length=n*i.size
section ops
variable {P:Program} {D:Tab} {E:Env} {n0:Nat} {V:Nat→Prop} {φ:Ph} {h h':H} {w:World}
theorem wrap_small {l:Nat} (hl:l≤70368744177664):IntKind.i64.wrap (l:Int)=(l:Int):=by
 simp only[IntKind.wrap,IntKind.bits,IntKind.signed];simp;omega
theorem app_room {t tx ty e:TypeId} {i:TypeInfo} (ht:P.underlying t=some (.slice e)) (hi:P.info? e=some i) {a:Addr} {sLen sCap n:Nat} {x:Value} {news:List Value} (A:App P i tx x n news w)
  (hroom:sLen+n≤sCap) {w':World} (hst:(storeCells (a.add (sLen*i.size)) news).run P w=.ok () w') :
  (Builtin.append_ #[t,tx] ty #[.slice (some a) sLen sCap,x]).run P w=.ok (.slice (some a) (sLen+n) sCap) w':=by
 rcases A.src with⟨hk,hl,hf,_⟩|⟨k,z,hk,hz,rfl,rfl,hzs,h0,hn,hnb⟩
 ·rcases hk with⟨e',hd⟩|hd<;>simp[Builtin.append_,run_underlying ht,run_underlying hd,sizeOf,typeInfo,hi,hl,hroom,hf,hst]
 ·have hw:=wrap_small hn
  have h1:¬ ((n:Int)<0):=by omega
  have h2:¬ (281474976710656<(n:Int)*(i.bytes:Int)):=by
   have:(n:Int)*(i.bytes:Int)=((n*i.bytes:Nat):Int):=by push_cast;rfl
   rw[this];omega
  by_cases hn0:n=0
  ·subst hn0
   simp only[zeroRow] at hst
   have hw0:IntKind.i64.wrap 0=0:=by decide
   have hr:sLen≤sCap:=by omega
   simp[Builtin.append_,run_underlying ht,run_underlying hk,sizeOf,typeInfo,hi,asInt,asIntOf,hw0,hr,hst]
  ·have hn1:¬ (n*i.size=0):=by
    intro hh;rcases Nat.mul_eq_zero.1 hh with h|h<;>omega
   rw[← hzs] at h0
   have hzr:=zeroCells_row z.cells n h0
   simp[Builtin.append_,run_underlying ht,run_underlying hk,sizeOf,typeInfo,zeroValue,hi,hz,asInt,asIntOf,hw,h1,h2,hroom,hn1,hzr,hst]
theorem app_grow {t tx ty e:TypeId} {i:TypeInfo} {z:Value} (ht:P.underlying t=some (.slice e)) (hi:P.info? e=some i) (hz:i.zero=some z) {base:Option Addr} {sLen sCap n:Nat} {x:Value} {olds news:List Value} (A:App P i tx x n news w)
  (hold:(Builtin.firstCells i.size sLen (.slice base sLen sCap)).run P w.drew=.ok olds.toArray w.drew) (hg:sCap<sLen+n) (hb:(sLen+n)*i.bytes≤70368744177664) (hbn:sLen+n≤70368744177664) :
  (Builtin.append_ #[t,tx] ty #[.slice base sLen sCap,x]).run P w=
   .ok (.slice (some ⟨w.heap.size,0,none⟩) (sLen+n) (grownCap w (sLen+n) sCap e))
    (w.drew.alloc (.cells ((olds++news).toArray++Builtin.zeroCells z.cells (grownCap w (sLen+n) sCap e-(sLen+n))) e)):=by
 have hn:¬ (sLen+n≤sCap):=by omega
 have h63':¬ (9223372036854775807<((sLen:Int)+(n:Int))):=by omega
 have h48':¬ (281474976710656<Builtin.nextslicecap (sLen+n) sCap*i.bytes):=by
  have:=growslice_fits (bytes:=i.bytes) hg (by omega);omega
 rcases A.src with⟨hk,hl,_,hf⟩|⟨k,z',hk,hz',rfl,rfl,hzs,h0,hn',hnb⟩
 ·rcases hk with⟨e',hd⟩|hd<;>
   (simp[Builtin.append_,run_underlying ht,run_underlying hd,sizeOf,typeInfo,zeroValue,hi,hz,hl,hn,h63',h48',Question.forced,hf,hold,newRow,grownCap]
    congr 2
    apply Array.ext'
    simp[List.append_assoc])
 ·have hw:=wrap_small hn'
  have h1:¬ ((n:Int)<0):=by omega
  have h2:¬ (281474976710656<(n:Int)*(i.bytes:Int)):=by
   have:(n:Int)*(i.bytes:Int)=((n*i.bytes:Nat):Int):=by push_cast;rfl
   rw[this];omega
  rw[hz] at hz'; cases hz'
  by_cases hn0:n=0
  ·subst hn0
   have hw0:IntKind.i64.wrap 0=0:=by decide
   have hr:¬ (sLen≤sCap):=by omega
   have h63'':¬ (9223372036854775807<(sLen:Int)):=by omega
   simp only[Nat.add_zero] at h48'
   simp[Builtin.append_,run_underlying ht,run_underlying hk,sizeOf,typeInfo,zeroValue,hi,hz,asInt,asIntOf,hw0,hr,h63'',h48',Question.forced,hold,newRow,grownCap,zeroRow]
  ·have hn1:¬ (n*i.size=0):=by
    intro hh;rcases Nat.mul_eq_zero.1 hh with h|h<;>omega
   rw[← hzs] at h0
   have hzr:=zeroCells_row z.cells n h0
   simp[Builtin.append_,run_underlying ht,run_underlying hk,sizeOf,typeInfo,zeroValue,hi,hz,asInt,asIntOf,hw,h1,h2,hn,hn1,h63',h48',hzr,Question.forced,hold,newRow,grownCap]
   congr 2
   apply Array.ext'
   simp[List.append_assoc]
end ops
section ops
variable {P:Program} {D:Tab} {E:Env} {n0:Nat} {V:Nat→Prop} {φ:Ph} {h h':H} {w:World}
theorem beq_true {a b:Nat} (h:Nat.beq a b=true):a=b:=Nat.eq_of_beq_eq_true h
theorem firstCells_tie (P:Program) (R:Tie D E n0 V φ h w) {a:Addr} {n sz len cap:Nat} {cs:List Value} (ha:okA φ a) (hV:∀ k,V k) (hc:h.cells E a (n*sz)=some cs) :
  (Builtin.firstCells sz n (.slice (some (renA φ a)) len cap)).run P w=.ok (cs.map (ren φ)).toArray w:=by
 simp only[Builtin.firstCells]
 exact run_loadCells_tie P R ha (fun _=>hV _) hc
theorem aelems_app (T:D.Of P) (R:Tie D E n0 V φ h w) (hV:∀ k,V k) {fe:TypeInfo} {z x:Value} {t2:TypeId} {n:Nat} {cs:List Value} {b:Bool} (hx:okV φ x) (hz:fe.zero=some z) (hro:roV z=true) (hzs:z.cells.size=fe.size) (h0:0<fe.size) (hz1:∀ c∈z.cells.toList,isOne c=true)
  (hza:zeroArg D t2 x=some b) (he:aelems E fe.size z.cells.toList x h=some (n,cs)) (hl:cs.length=n*fe.size) (hroom:n≤70368744177664∧n*fe.bytes≤70368744177664∨n=0) :
  App P fe t2 (ren φ x) n (cs.map (ren φ)) w∧∀ c∈cs,okV φ c∧isOne c=true:=by
 have R':Tie D E n0 V φ h w.drew:=R.of_heap rfl
 have hro':=roV_cells hro
 unfold zeroArg at hza
 split at hza
 ·next i hi=>
  obtain⟨f,d,h1,h2,h3,h4,_⟩:=T.get hi
  split at hza
  ·next k m htd=>
   rw[h3] at htd
   have hd:=tdOf_int htd
   subst hd
   simp only[aelems] at he
   cases he
   refine⟨⟨.inr ⟨k,z,h2,hz,by rw[ren_int],by rw[map_ren_ro (fun c hc=>hro' c (zeroRow_mem hc))],hzs,h0,?_⟩,by simpa using hl⟩,fun c hc=>⟨(roV.ok φ (hro' c (zeroRow_mem hc))).1,hz1 c (zeroRow_mem hc)⟩⟩
   rcases hroom with hr|hr
   ·exact hr
   ·subst hr;simp
  ·next e' sz' by' s k c htd=>
   rw[h3] at htd
   obtain⟨rfl,_⟩:=tdOf_slice htd
   cases s with
   | none=>
    cases k with
    | zero=>
     simp only[aelems] at he;cases he
     exact⟨⟨.inl ⟨.inl ⟨e',h2⟩,fun _=>rfl,run_firstCells_none w _ _ _ _,run_firstCells_none w.drew _ _ _ _⟩,by simp⟩,fun c hc=>by cases hc⟩
    | succ _=>simp[aelems] at he
   | some a=>
    simp only[aelems] at he
    split at he
    ·next cs' hcs=>
     cases he
     have ha:okA φ a:=hx
     refine⟨⟨.inl ⟨.inl ⟨e',h2⟩,?_,?_,?_⟩,by simpa using hl⟩,?_⟩
     ·intro w'; rw[ren_slice];rfl
     ·rw[ren_slice];exact firstCells_tie P R ha hV hcs
     ·rw[ren_slice];exact firstCells_tie P R' ha hV hcs
     ·intro c hc
      obtain⟨j,hj⟩:=List.getElem?_of_mem hc
      exact ((R.cellsAt ha (fun _=>hV _) hcs).2 j c hj).2
    ·cases he
  ·next s htd=>
   rw[h3] at htd
   have hd:=tdOf_string htd
   subst hd
   simp only[aelems] at he;cases he
   have hb:∀ c∈bytesV s.data.toList,roV c=true:=by
    intro c hc
    obtain⟨_,_,rfl⟩:=List.mem_map.1 hc
    rfl
   have hb1:∀ c∈bytesV s.data.toList,isOne c=true:=by
    intro c hc
    obtain⟨_,_,rfl⟩:=List.mem_map.1 hc
    rfl
   have hf:∀ w':World,(Builtin.firstCells fe.size s.data.toList.length (.string s)).run P w'=.ok ((bytesV s.data.toList).map (ren φ)).toArray w':=by
    intro w'
    rw[map_ren_ro hb]
    simp[Builtin.firstCells,bytesV]
    apply Array.ext'
    simp
   refine⟨⟨.inl ⟨.inr h2,?_,?_,?_⟩,by simpa using hl⟩,fun c hc=>⟨(roV.ok φ (hb c hc)).1,hb1 c hc⟩⟩
   ·intro w'; rw[ren_string];simp[Builtin.lenOf,bytes_size]
   ·rw[ren_string];exact hf w
   ·rw[ren_string];exact hf w.drew
  ·cases hza
 ·cases hza
theorem grown_gives (R:Tie D E n0 V φ h w) {e:TypeId} {i:TI} {z:Value} (hi:D.ty.get e=some i) (hzs:z.cells.size=i.size) {xs:List Value} {need nc:Nat} (hx:∀ x∈xs,okV φ x) (hl:xs.length=need*i.size) (hge:need≤nc) :
  Gives D E n0 V φ h w (.ok (.slice (some ⟨w.heap.size,0,none⟩) need nc) (w.drew.alloc (.cells ((xs.map (ren φ)).toArray++Builtin.zeroCells z.cells (nc-need)) e))) (.slice (some (own h.next)) need need) (h.newOpen xs e):=by
 obtain⟨g1,g2,g3⟩:=renA_own (upd_same φ h.next (w.heap.size,0,nc-need))
 refine⟨upd φ h.next (w.heap.size,0,nc-need),w.drew.alloc (.cells ((xs.map (ren φ)).toArray++Builtin.zeroCells z.cells (nc-need)) e),?_,g2,R.newOpen hi (fz:=(0,0)) rfl (.inl rfl) ?_ ?_,upd_ext (.inl (Nat.le_refl _)),Kept.push φ _ rfl rfl rfl rfl⟩
 ·rw[ren_slice,g1,g3,Nat.add_sub_cancel' hge]
 ·intro j x hj
  have hjl:=(List.getElem?_eq_some_iff.1 hj).1
  refine⟨ren φ x,?_,fun _=>⟨hx x (List.mem_of_getElem? hj),rfl⟩⟩
  rw[Array.getElem?_append_left (by simpa using hjl)]
  simp[hj]
 ·simp[Builtin.zeroCells,hzs]
theorem grow_eq (h:H) (e:TypeId) (r p len self:Nat) (xs cs:List Value) :
  h.grow e r p len self xs cs=(h.join (xs++cs) e r p (h.spare r self (p+len) (p+len+cs.length))).note (h.gone r self (p+len) (p+len+cs.length)):=rfl
theorem aappend_run (T:D.Of P) (R:Tie D E n0 V φ h w) (hV:∀ k,V k) {t t2 ty:TypeId} {s x v:Value} (hs:okV φ s) (hx:okV φ x) (ha:aappend D E t t2 s x h=some (v,h')) :
  Gives D E n0 V φ h w ((Builtin.append_ #[t,t2] ty #[ren φ s,ren φ x]).run P w) v h':=by
 unfold aappend at ha
 split at ha
 ·next e sz by_ _ _ _ _ hi=>
  obtain⟨f,d,h1,h2,h3,h4,_⟩:=T.get hi
  obtain⟨rfl,fe,k1,rfl,rfl⟩:=tdOf_slice h3.symm
  split at ha
  ·next ze b hz hza=>
   obtain⟨fz,z1,z2,z3⟩:=T.zero hz
   rw[k1] at z1;cases z1
   obtain⟨ie,hie⟩:∃ i,D.ty.get e=some i:=by
    unfold tzero at hz
    split at hz
    ·exact⟨_,by assumption⟩
    ·cases hz
   have hies:ie.size=fe.size:=by
    obtain⟨f',d',g1,_,_,g4,_⟩:=T.get hie
    rw[k1] at g1;cases g1;exact g4
   split at ha
   ·next n cs hok hel=>
    simp only[Bool.and_eq_true,Nat.blt_eq,List.all_eq_true] at hok
    have hzs:ze.cells.size=fe.size:=by rw[← Array.length_toList];exact beq_true hok.1.1
    have h0:0<fe.size:=hok.1.2
    split at ha
    ·cases ha
    ·next hcl=>
     have hcl:=beq_true hcl
     have hroomy:∀ {m},roomy m fe.bytes=true→m*fe.bytes≤70368744177664∧m≤70368744177664:=by
      intro m hm;simpa [roomy] using hm
     have hsub:∀ {m len},m=len+n→roomy m fe.bytes=true→n≤70368744177664∧n*fe.bytes≤70368744177664:=by
      intro m len hm hr
      have:=hroomy hr
      have hle:n*fe.bytes≤m*fe.bytes:=Nat.mul_le_mul_right _ (by omega)
      omega
     have APP:=fun hr=>aelems_app (w:=w) T R hV hx z2 z3 hzs h0 hok.2 hza hel hcl hr
     have R':Tie D E n0 V φ h w.drew:=R.of_heap rfl
     split at ha
     ·-- onto nothing
      split at ha
      ·cases ha
       obtain⟨A,_⟩:=APP (.inr rfl)
       have hcs:cs=[]:=by simpa using hcl
       subst hcs
       refine Gives.same R ?_ trivial
       rcases A.src with⟨hk,hl,hf,_⟩|⟨k,z,hk,hz',hx',hnews,hzs',h0',hn,hnb⟩
       ·rcases hk with⟨e',hd⟩|hd<;>simp[Builtin.append_,run_underlying h2,run_underlying hd,sizeOf,typeInfo,k1,hl,hf,ren]
       ·rw[hx']
        have hw0:IntKind.i64.wrap 0=0:=by decide
        simp[Builtin.append_,run_underlying h2,run_underlying hk,sizeOf,typeInfo,k1,asInt,asIntOf,hw0,ren]
      ·next m hn0=>
       split at ha
       ·next hr=>
        cases ha
        obtain⟨A,hcs1⟩:=APP (.inl (hsub (Nat.zero_add n).symm hr))
        have hcs:=fun c hc=>(hcs1 c hc).1
        have hn:0<n:=by cases n with|zero=>exact absurd rfl hn0|succ _=>omega
        have hrun:=app_grow (P:=P) (w:=w) (ty:=ty) (olds:=[]) (base:=none) (sLen:=0) (sCap:=0) h2 k1 z2 A (by simp[Builtin.firstCells]) (by omega) (by have:=hroomy hr;simpa using this.1) (by have:=hroomy hr;simpa using this.2)
        simp only[Nat.zero_add,List.nil_append] at hrun
        have hren:ren φ (.slice none 0 0)=.slice none 0 0:=by simp only[ren]
        rw[hren,hrun]
        exact grown_gives R hie (by rw[hzs,hies]) hcs (by rw[hcl,hies]) (grown_ge _ _ _ _)
       ·cases ha
     ·next a len cap=>
      have hA:okA φ a:=hs
      rw[ren_slice]
      split at ha
      ·-- nothing
       split at ha
       ·next hlc=>
        cases ha
        rw[Nat.ble_eq] at hlc
        obtain⟨A,_⟩:=APP (.inr rfl)
        have hcs:cs=[]:=by simpa using hcl
        subst hcs
        have hrun:=app_room (P:=P) (w:=w) (w':=w) (ty:=ty) (a:=renA φ a) (sLen:=len) (sCap:=cap+extA φ a) h2 k1 A (by omega) (by simp[storeCells])
        rw[hrun]
        exact Gives.same R (by rw[ren_slice];rfl) hA
       ·cases ha
      ·next hn0=>
       have hn:0<n:=by cases n with|zero=>exact absurd rfl hn0|succ _=>omega
       split at ha
       ·cases ha
       ·next hr=>
        obtain⟨A,hcs1⟩:=APP (.inl (hsub rfl hr))
        have hcs:=fun c hc=>(hcs1 c hc).1
        obtain⟨hb1,hb2⟩:=hroomy hr
        have grow:∀ old,h.cells E a (len*fe.size)=some old→cap+extA φ a<len+n→
          Gives D E n0 V φ h w ((Builtin.append_ #[t,t2] ty #[.slice (some (renA φ a)) len (cap+extA φ a),ren φ x]).run P w) (.slice (some (own h.next)) (len+n) (len+n)) (h.newOpen (old++cs) e):=by
         intro old hold hlt
         have hrun:=app_grow (P:=P) (w:=w) (ty:=ty) h2 k1 z2 A (firstCells_tie P R' hA hV hold) hlt hb1 hb2
         obtain⟨ho1,ho2⟩:=R.cellsAt hA (fun _=>hV _) hold
         rw[hrun,← List.map_append]
         refine grown_gives R hie (by rw[hzs,hies]) ?_ ?_ (grown_ge _ _ _ _)
         ·intro c hc
          rcases List.mem_append.1 hc with hc|hc
          ·obtain⟨j,hj⟩:=List.getElem?_of_mem hc
           exact (ho2 j c hj).2.1
          ·exact hcs c hc
         ·rw[List.length_append,ho1,hcl,hies,Nat.add_mul]
        split at ha
        ·next hsp=>
         have hext:extA φ a=0:=by simp[extA,hsp]
         split at ha
         ·next old hlt hold=>
          cases ha
          have hlt:¬ (len+n≤cap):=fun hh=>by rw[Nat.ble_eq.mpr hh] at hlt;cases hlt
          exact grow old hold (by omega)
         ·cases ha
        ·cases ha
        ·next hsp=>
         obtain⟨c,b,ex,hk,hren,hext,hnc,hc⟩:=okA_some R hA hsp
         split at ha
         ·next xs ty1 root hbk=>
          split at ha
          ·-- room that is known
           next hle=>
           rw[Nat.ble_eq] at hle
           split at ha
           ·next hput=>
            cases ha
            obtain⟨g1,g2,_⟩:=renA_aadd hA (len*fe.size)
            obtain⟨w',r1,r2,r3⟩:=R.put P g2 (fun _=>hV _) hput hcs
            rw[g1] at r1
            have hrun:=app_room (P:=P) (w:=w) (w':=w') (ty:=ty) (a:=renA φ a) (sLen:=len) (sCap:=cap+extA φ a) h2 k1 A (by omega) r1
            rw[hrun]
            exact⟨φ,w',by rw[ren_slice],hA,r2,Ext.same (put_next hput),r3⟩
           ·cases ha
          ·next hnle=>
           have hlt:¬ (len+n≤cap):=fun hh=>by rw[Nat.ble_eq.mpr hh] at hnle;cases hnle
           split at ha
           ·split at ha
            ·next old hold=>
             cases ha
             have h00:=R.exact _ _ _ _ _ _ (H.blk_dyn hbk) hk
             exact grow old hold (by omega)
            ·cases ha
           ·next r p=>
            split at ha
            ·next hcond=>
             cases ha
             simp only[Bool.and_eq_true,Nat.ble_eq] at hcond
             obtain⟨⟨⟨⟨hc1,hc2⟩,hc3⟩,hc4⟩,hc5⟩:=hcond
             have hc1:=beq_true hc1
             have hc2:=beq_true hc2
             have hc3:=beq_true hc3
             subst hc1;subst hc3
             have hroot:=R.root _ _ _ _ _ (H.blk_dyn hbk)
             have hdl:(xs.drop a.off).length=len*fe.size:=by simp;omega
             have hcells:h.cells E a (len*fe.size)=some (xs.drop a.off):=by
              unfold H.cells
              split
              ·next hz0=>rw[hz0] at hdl;rw[List.length_eq_zero_iff.1 hdl]
              ·simp only[hsp,hbk]
               have htk:(xs.drop a.off).take (len*fe.size)=xs.drop a.off:=List.take_of_length_le (by omega)
               rw[htk,hc4,Nat.ble_eq.mpr (by omega)]
               rfl
             obtain⟨ho1,ho2⟩:=R.cellsAt hA (fun _=>hV _) hcells
             have hall:∀ c∈xs.drop a.off++cs,okV φ c:=by
              intro c hc
              rcases List.mem_append.1 hc with hc|hc
              ·obtain⟨j,hj⟩:=List.getElem?_of_mem hc
               exact (ho2 j c hj).2.1
              ·exact hcs c hc
             have hlen:(xs.drop a.off++cs).length=(len+n)*fe.size:=by rw[List.length_append,hdl,hcl,Nat.add_mul]
             rw[grow_eq,hext]
             by_cases hex:n≤ex
             ·-- room behind: in place
              rcases R.blk _ _ _ _ _ (hV _) hbk hk with⟨_,hx0⟩|⟨cs0,u,fz0,L⟩
              ·rcases hx0 with hx0|hx0
               ·cases hx0
               ·omega
              obtain⟨hu,i',hi',hsz⟩:=L.room rfl
              rw[hie] at hi'; cases hi'
              rw[hies] at hsz
              have hmul:n*fe.size≤ex*fe.size:=Nat.mul_le_mul_right _ hex
              have hsum:(len+n)*fe.size=len*fe.size+n*fe.size:=Nat.add_mul _ _ _
              have h0l:0<cs.length:=by rw[hcl];exact Nat.mul_pos hn h0
              have hpos:b+a.off+len*fe.size=b+xs.length:=by omega
              have hone:∀ v∈cs.map (ren φ),v.oneCell'=true:=by
               intro v hv
               obtain⟨y,hy,rfl⟩:=List.mem_map.1 hv
               exact oneCell_of (by rw[isOne_ren];exact (hcs1 y hy).2)
              obtain⟨w',cs',r1,r2,r3,r4,r5,r6,r7,r8,r9⟩:=run_storeCells_block P c (b+xs.length) u fz0 (cs.map (ren φ)) 0 cs0 w L.block (by simp;omega) L.opn hone
              have hst:(storeCells ((renA φ a).add (len*fe.size)) (cs.map (ren φ))).run P w=.ok () w':=by rw[hren,Addr.add_plain,hpos];exact r1
              have hrun:=app_room (P:=P) (w:=w) (w':=w') (ty:=ty) (a:=renA φ a) (sLen:=len) (sCap:=len+ex) h2 k1 A (by omega) hst
              rw[hrun]
              have hle:Le φ (upd φ h.next (c,b+a.off,ex-n)):=upd_le (R.next_none (Nat.le_refl _))
              have hnh2:(Blk.cells xs ty1 (some (r,p))).hollow ex=false:=by
               cases xs with
               | nil=>cases ex with
                | zero=>omega
                | succ n=>rfl
               | cons _ _=>rfl
              have J:=R.join (w':=w') (ys:=xs.drop a.off++cs) (ty:=ty1) (r:=r) (p:=p+a.off) (c:=c) (b:=b+a.off) (e:=ex-n)
               (l:=h.spare r a.block (p+a.off+len*fe.size) (p+a.off+len*fe.size+cs.length)) (Nat.le_of_lt hroot) (fun j hj=>(List.mem_filter.1 hj).1) hnc (by omega) (by omega) (fun d _ hd=>r3 d hd) ?_ ?_ ?_
              ·refine⟨_,w',?_,?_,J.note _,(upd_ext (k:=h.next) (.inr ⟨_,_,_,hk⟩)).of_next (by rw[H.note_next];rfl),⟨r7,r8,r9,by omega,fun d _ hnd=>r3 d (fun ed=>hnd a.block b ex (ed▸hk))⟩⟩
               ·obtain⟨g1,g2,g3⟩:=renA_own (upd_same φ h.next (c,b+a.off,ex-n))
                rw[ren_slice,g1,g3,hren]
                have:len+n+(ex-n)=len+ex:=by omega
                rw[this]
               ·exact (renA_own (upd_same φ h.next (c,b+a.off,ex-n))).2.1
              ·intro _
               refine .inr ⟨cs',u,fz0,r2,by rw[r5];exact L.opn,?_,fun _=>⟨hu,_,hie,?_⟩,fun h1 _=>(by cases h1)⟩
               ·intro j y hj
                have hok:=hall y (List.mem_of_getElem? hj)
                have hok':=okV.le hle hok
                refine⟨ren φ y,?_,fun _=>⟨hok'.1,hok'.2.symm⟩⟩
                rw[r6]
                simp only[Nat.add_zero,List.length_map]
                by_cases hjl:j<(xs.drop a.off).length
                ·rw[List.getElem?_append_left hjl] at hj
                 rw[if_neg (by omega)]
                 have hj1:isOne y=true:=(List.all_eq_true.1 hc4) y (List.mem_of_getElem? hj)
                 rw[List.getElem?_drop] at hj
                 obtain⟨z,hz1,hz2⟩:=L.cell _ _ hj
                 rw[← Nat.add_assoc] at hz1
                 rw[hz1,(hz2 hj1).2]
                ·have hjl':=(List.getElem?_eq_some_iff.1 hj).1
                 rw[List.getElem?_append_right (by omega)] at hj
                 rw[if_pos (by omega),List.getElem?_map]
                 have:b+a.off+j-(b+xs.length)=j-(xs.drop a.off).length:=by omega
                 rw[this,hj];rfl
               ·have hm2:ex*ie.size=n*ie.size+(ex-n)*ie.size:=by rw[← Nat.add_mul];congr 1;omega
                rw[r5,hsz,hlen,← hies,Nat.add_mul,hm2]
                rw[hies];omega
              ·intro k B b' e' hVk hkb hin hφ
               by_cases hh:B.hollow e'=true
               ·exact BlkTie.of_hollow hh
               ·have hh:B.hollow e'=false:=by simpa using hh
                obtain⟨ys,uy,q,rfl,hq⟩:∃ ys uy q,B=.cells ys uy (some (r,q))∧b'+p=b+q:=by
                 by_cases ek:k=a.block
                 ·subst ek
                  rw[hbk] at hkb;cases hkb
                  rw[hk] at hφ;cases hφ
                  exact⟨_,_,_,rfl,rfl⟩
                 ·obtain⟨xs1,ty1,r1,p1,xs2,ty2,p2,rfl,hB2,hp⟩:=R.apart _ _ _ _ _ _ _ _ _ ek hkb hbk hh hnh2 hφ hk
                  cases hB2
                  exact⟨_,_,_,rfl,hp⟩
                have hkin:=hin _ _ _ rfl
                simp only[H.spare,List.mem_filter] at hkin
                have hnhit:h.hits a.block (p+a.off+len*fe.size) (p+a.off+len*fe.size+cs.length) k=false:=by simpa using hkin.2
                have T0:=R.blk _ _ _ _ _ hVk hkb hφ
                rcases T0 with⟨hy,hr0⟩|⟨cs1,u1,fz1,L1⟩
                ·exact .inl ⟨hy,hr0⟩
                ·have e1:cs1=cs0∧u1=u∧fz1=fz0:=by
                  have:=L1.block
                  rw[L.block] at this;cases this;exact⟨rfl,rfl,rfl⟩
                 obtain⟨rfl,rfl,rfl⟩:=e1
                 refine .inr ⟨cs',u1,fz1,r2,by rw[r5];exact L1.opn,?_,?_,fun h1 _=>(by cases h1)⟩
                 ·intro j y hj
                  have hjl:=(List.getElem?_eq_some_iff.1 hj).1
                  rw[r6,if_neg]
                  ·obtain⟨z,hz1,hz2⟩:=L1.cell j y hj
                   refine⟨z,hz1,fun h1 => ?_⟩
                   obtain⟨ok,rfl⟩:=hz2 h1
                   have:=okV.le hle ok
                   exact⟨this.1,this.2.symm⟩
                  ·simp only[Nat.add_zero,List.length_map]
                   rintro⟨q1,q2⟩
                   by_cases ek:k=a.block
                   ·subst ek
                    rw[hbk] at hkb;cases hkb
                    omega
                   ·simp only[H.hits,H.blk_dyn hkb] at hnhit
                    have hjk:Nat.beq k a.block=false:=by cases hb2:Nat.beq k a.block with|false=>rfl|true=>exact absurd (beq_true hb2) ek
                    rw[hjk] at hnhit
                    simp only[Bool.and_eq_false_iff] at hnhit
                    rcases hnhit with (hnh|hnh)|hnh
                    ·have:¬ (p+a.off+len*fe.size<q+ys.length):=fun hlt=>by rw[show Nat.blt _ _=true from by rw[Nat.blt_eq];exact hlt] at hnh;cases hnh
                     omega
                    ·have:¬ (q<p+a.off+len*fe.size+cs.length):=fun hlt=>by rw[show Nat.blt _ _=true from by rw[Nat.blt_eq];exact hlt] at hnh;cases hnh
                     omega
                    ·have:¬ (0<ys.length):=fun hlt=>by rw[show Nat.blt _ _=true from by rw[Nat.blt_eq];exact hlt] at hnh;cases hnh
                     omega
                 ·intro hr
                  obtain⟨g1,i2,g2,g3⟩:=L1.room hr
                  exact⟨g1,i2,g2,by rw[r5];exact g3⟩
              ·intro k B b' e' _ hkb hh hφ
               by_cases ek:k=a.block
               ·subst ek
                rw[hbk] at hkb;cases hkb
                rw[hk] at hφ;cases hφ
                exact⟨_,_,_,rfl,by omega⟩
               ·obtain⟨xs1,ty1,r1,p1,xs2,ty2,p2,rfl,hB2,hp⟩:=R.apart _ _ _ _ _ _ _ _ _ ek hkb hbk hh hnh2 hφ hk
                cases hB2
                exact⟨_,_,_,rfl,by omega⟩
             ·-- none: a new row
              have hrun:=app_grow (P:=P) (w:=w) (ty:=ty) (sCap:=len+ex) h2 k1 z2 A (firstCells_tie P R' hA hV hcells) (by omega) hb1 hb2
              rw[hrun,← List.map_append]
              have hge:=grown_ge w (len+n) (len+ex) ty1
              generalize grownCap w (len+n) (len+ex) ty1=nc at hge ⊢
              have hle:Le φ (upd φ h.next (w.heap.size,0,nc-(len+n))):=upd_le (R.next_none (Nat.le_refl _))
              have J:=R.join (w':=w.drew.alloc (.cells (((xs.drop a.off++cs).map (ren φ)).toArray++Builtin.zeroCells ze.cells (nc-(len+n))) ty1)) (ys:=xs.drop a.off++cs) (ty:=ty1) (r:=r) (p:=p+a.off) (c:=w.heap.size) (b:=0) (e:=nc-(len+n))
               (l:=h.spare r a.block (p+a.off+len*fe.size) (p+a.off+len*fe.size+cs.length)) (Nat.le_of_lt hroot) (fun j hj=>(List.mem_filter.1 hj).1) R.size (by show _<(w.heap.push _).size;simp) (by show _≤(w.heap.push _).size;simp) (fun d hd _=>heap_push_old w _ hd) ?_ ?_ ?_
              ·refine⟨_,_,?_,?_,J.note _,(upd_ext (k:=h.next) (.inl (Nat.le_refl _))).of_next (by rw[H.note_next];rfl),Kept.push φ _ rfl rfl rfl rfl⟩
               ·obtain⟨g1,g2,g3⟩:=renA_own (upd_same φ h.next (w.heap.size,0,nc-(len+n)))
                rw[ren_slice,g1,g3,Nat.add_sub_cancel' hge]
               ·exact (renA_own (upd_same φ h.next (w.heap.size,0,nc-(len+n)))).2.1
              ·intro _
               refine .inr ⟨_,ty1,(0,0),(by show (w.heap.push _)[w.heap.size]? = _;rw[Array.getElem?_push_size]),.inl rfl,?_,fun _=>⟨rfl,_,hie,?_⟩,fun h1 _=>(by cases h1)⟩
               ·intro j y hj
                have hjl:=(List.getElem?_eq_some_iff.1 hj).1
                have hok':=okV.le hle (hall y (List.mem_of_getElem? hj))
                refine⟨ren φ y,?_,fun _=>⟨hok'.1,hok'.2.symm⟩⟩
                rw[Nat.zero_add,Array.getElem?_append_left (by simpa using hjl)]
                simp only[List.getElem?_toArray,List.getElem?_map,hj];rfl
               ·simp[Builtin.zeroCells,hzs,hies]
              ·intro k B b' e' _ _ _ hφ
               have:=(R.dom _ _ _ _ hφ).2.2;omega
              ·intro k B b' e' _ _ _ hφ
               have:=(R.dom _ _ _ _ hφ).2.2;omega
            ·cases ha
         ·cases ha
     ·cases ha
   ·cases ha
  ·cases ha
 ·cases ha
end ops
section ops
variable {P:Program} {D:Tab} {E:Env} {n0:Nat} {V:Nat→Prop} {φ:Ph} {h h':H} {w:World}
def noRow:Obj→Bool
 | .cells _ _ _=>false
 | _=>true
theorem getObj_run {c:Nat} {o:Obj} (h:w.heap[c]? = some o) (hc:noRow o=true):(getObj c).run P w=.ok o w:=by
 cases o<;>first|(simp[noRow] at hc;done)|simp[getObj,Sem.run,h]
theorem setObj_run {c:Nat} {o:Obj} (h:w.heap[c]? = some o) (hc:noRow o=true) (o':Obj):(setObj c o').run P w=.ok () { w with heap:=w.heap.setIfInBounds c o' }:=by
 cases o<;>first|(simp[noRow] at hc;done)|simp[setObj,Sem.run,h]
theorem ren_unit (φ:Ph):ren φ (.tuple #[])=.tuple #[]:=by
 rw[show (#[]:Array Value)=⟨[]⟩ from rfl,ren_tuple];rfl
theorem Gives.put (P:Program) (R:Tie D E n0 V φ h w) {a:Addr} {vs:List Value} {v:Value} {r:Result Value} (ha:okA φ a) (hV:a.spot=some 0→V a.block) (hp:h.put a vs=some h') (hv:∀ v∈vs,okV φ v) (hok:okV φ v)
  (hr:∀ w',(storeCells (renA φ a) (vs.map (ren φ))).run P w=.ok () w'→r=.ok (ren φ v) w'):Gives D E n0 V φ h w r v h':=by
 obtain⟨w',r1,r2,r3⟩:=R.put P ha hV hp hv
 exact⟨φ,w',hr w' r1,hok,r2,Ext.same (put_next hp),r3⟩
theorem bytesV_ro (l:List UInt8):∀ c∈bytesV l,roV c=true:=by
 intro c hc
 obtain⟨_,_,rfl⟩:=List.mem_map.1 hc
 rfl
theorem ro_ok {l:List Value} (h:∀ c∈l,roV c=true) (φ:Ph):∀ c∈l,okV φ c:=fun c hc=>(roV.ok φ (h c hc)).1
theorem firstCells_bytes (P:Program) (w:World) (sz n:Nat) (s:ByteArray) (hn:n≤s.data.toList.length):(Builtin.firstCells sz n (.string s)).run P w=.ok ((bytesV s.data.toList).take n).toArray w:=by
 simp[Builtin.firstCells,bytesV]
 apply Array.ext'
 simp[ByteArray.data_extract,List.extract_eq_take_drop,List.map_take]
theorem acopy_run (T:D.Of P) (R:Tie D E n0 V φ h w) (hV:∀ k,V k) {t t2 ty:TypeId} {d x v:Value} {ts:Array TypeId} (hts:ts[0]? = some t) (hd:okV φ d) (hx:okV φ x) (ha:acopy D E t d x h=some (v,h')) :
  Gives D E n0 V φ h w ((Builtin.copy_ ts ty #[ren φ d,ren φ x]).run P w) v h':=by
 unfold acopy at ha
 split at ha
 ·next e sz by_ _ _ _ _ hi=>
  obtain⟨f,d',h1,h2,h3,h4,_⟩:=T.get hi
  obtain⟨rfl,fe,k1,rfl,rfl⟩:=tdOf_slice h3.symm
  split at ha
  ·split at ha
   ·next b m c=>
    cases ha
    refine Gives.same R ?_ trivial
    cases b with
    | none=>simp[Builtin.copy_,hts,run_underlying h2,ren,Builtin.lenOf,sizeOf,typeInfo,k1,Builtin.firstCells,goInt]
    | some b=>simp[Builtin.copy_,hts,run_underlying h2,ren,Builtin.lenOf,sizeOf,typeInfo,k1,Builtin.firstCells,goInt,loadCells,loadCellsFrom]
   ·next s=>
    cases ha
    refine Gives.same R ?_ trivial
    have:=firstCells_bytes P w fe.size 0 s (Nat.zero_le _)
    simp[Builtin.copy_,hts,run_underlying h2,ren,Builtin.lenOf,sizeOf,typeInfo,k1,this,goInt]
   ·cases ha
  ·next a len c=>
   have hA:okA φ a:=hd
   split at ha
   ·next b m c2=>
    have hB:okA φ b:=hx
    split at ha
    ·next cs hcs=>
     split at ha
     ·next hp=>
      cases ha
      have hf:=firstCells_tie P R (len:=m) (cap:=c2+extA φ b) hB hV hcs
      refine Gives.put P R hA (fun _=>hV _) hp ?_ trivial ?_
      ·intro c hc
       obtain⟨j,hj⟩:=List.getElem?_of_mem hc
       exact ((R.cellsAt hB (fun _=>hV _) hcs).2 j c hj).2.1
      ·intro w' hw
       simp[Builtin.copy_,hts,run_underlying h2,ren_slice,ren_int,Builtin.lenOf,sizeOf,typeInfo,k1,hf,hw,goInt]
     ·cases ha
    ·cases ha
   ·cases ha
    refine Gives.same R ?_ trivial
    simp[Builtin.copy_,hts,run_underlying h2,ren,Builtin.lenOf,sizeOf,typeInfo,k1,Builtin.firstCells,goInt,storeCells]
   ·next s=>
    split at ha
    ·next hp=>
     cases ha
     have hf:=firstCells_bytes P w fe.size (Nat.min s.data.toList.length len) s (Nat.min_le_left _ _)
     have hro:∀ c∈(bytesV s.data.toList).take (Nat.min s.data.toList.length len),roV c=true:=fun c hc=>bytesV_ro _ c (List.mem_of_mem_take hc)
     refine Gives.put P R hA (fun _=>hV _) hp (ro_ok hro φ) trivial ?_
     intro w' hw
     rw[map_ren_ro hro] at hw
     rw[bytes_size] at hf hw ⊢
     simp[Builtin.copy_,hts,run_underlying h2,ren_slice,ren_int,ren_string,Builtin.lenOf,sizeOf,typeInfo,k1,hf,hw,goInt]
    ·cases ha
   ·cases ha
  ·cases ha
 ·cases ha
theorem zeroCells_row' (z:Array Value) (n:Nat):Builtin.zeroCells z n=(zeroRow z.toList n).toArray:=by
 rcases Nat.eq_zero_or_pos z.size with h0|h0
 ·have:z=#[]:=Array.size_eq_zero_iff.1 h0
  subst this
  have hz:∀ n,zeroRow [] n=[]:=by
   intro n
   induction n with
   | zero=>rfl
   | succ n ih=>simp[zeroRow,ih]
  simp[Builtin.zeroCells,hz]
 ·exact zeroCells_row z n h0
theorem aclear_run (T:D.Of P) (R:Tie D E n0 V φ h w) (hV:∀ k,V k) {t ty:TypeId} {x v:Value} (hx:okV φ x) (ha:aclear D t x h=some (v,h')) :
  Gives D E n0 V φ h w ((Builtin.clear_ #[t] ty #[ren φ x]).run P w) v h':=by
 unfold aclear at ha
 split at ha
 ·next e sz by_ _ _ _ _ hi=>
  obtain⟨f,d',h1,h2,h3,h4,_⟩:=T.get hi
  obtain⟨rfl,fe,k1,rfl,rfl⟩:=tdOf_slice h3.symm
  split at ha
  ·cases ha
   refine Gives.same R ?_ ((okV_tuple φ []).2 (by simp))
   simp[Builtin.clear_,run_underlying h2,ren,renL]
  ·next c=>
   cases ha
   refine Gives.same R ?_ ((okV_tuple φ []).2 (by simp))
   simp[Builtin.clear_,run_underlying h2,ren,renL]
  ·next a n c=>
   split at ha
   ·next z hz=>
    obtain⟨fz,z1,z2,z3⟩:=T.zero hz
    rw[k1] at z1;cases z1
    split at ha
    ·next hp=>
     cases ha
     have hro:∀ c∈zeroRow z.cells.toList (n+1),roV c=true:=fun c hc=>roV_cells z3 c (zeroRow_mem hc)
     refine Gives.put P R (show okA φ a from hx) (fun _=>hV _) hp (ro_ok hro φ) ((okV_tuple φ []).2 (by simp)) ?_
     intro w' hw
     rw[map_ren_ro hro] at hw
     simp[Builtin.clear_,run_underlying h2,ren_slice,zeroValue,typeInfo,k1,z2,zeroCells_row',hw,ren,renL]
    ·cases ha
   ·cases ha
  ·cases ha
 ·next ky el _ _ _ _ hi=>
  obtain⟨f,d',h1,h2,h3,h4,_⟩:=T.get hi
  have hd:=tdOf_map h3.symm
  subst hd
  split at ha
  ·cases ha
   refine Gives.same R ?_ ((okV_tuple φ []).2 (by simp))
   simp[Builtin.clear_,run_underlying h2,ren,renL]
  ·next r=>
   split at ha
   ·next es cl hb=>
    cases ha
    obtain⟨⟨c,b,e⟩,hk⟩:=Option.isSome_iff_exists.1 (show (φ r).isSome=true from hx)
    obtain⟨hm,_⟩:=R.blk _ _ _ _ _ (hV _) hb hk
    have hN:renN φ r=c:=by simp[renN,hk]
    refine⟨φ,{ w with heap:=w.heap.setIfInBounds c (.map #[] cl) },?_,(okV_tuple φ []).2 (by simp),R.turn hb (by intros;simp) (by intros;simp) hk (o:=.map #[] cl) rfl ?_,Ext.same (turn_next _ _ _),?_⟩
    ·simp[Builtin.clear_,run_underlying h2,ren,renL,hN,getObj_run hm rfl,setObj_run hm rfl]
    ·intro _
     refine⟨?_,by simp⟩
     have:=(R.dom _ _ _ _ hk).2.2
     simp[this]
    ·refine⟨rfl,rfl,rfl,by simp,fun d _ hn => ?_⟩
     have:c≠d:=fun ed=>hn r b e (ed▸hk)
     simp[Array.getElem?_setIfInBounds,this]
   ·cases ha
  ·cases ha
 ·cases ha
theorem alen_run (T:D.Of P) (R:Tie D E n0 V φ h w) {t ty:TypeId} {x v:Value} (hx:okV φ x) (hV:∀ r,x=.map (some r)→(∃ i ky el,D.ty.get t=some i∧i.td=.map ky el)→V r) (ha:alen D t x h=some v) :
  (Builtin.len_ #[t] ty #[ren φ x]).run P w=.ok (ren φ v) w∧okV φ v:=by
 unfold alen at ha
 split at ha
 ·next hi=>
  obtain⟨f,d',h1,h2,h3,h4,_⟩:=T.get hi
  have hd:=tdOf_string h3.symm
  subst hd
  split at ha
  ·cases ha
   exact⟨by simp[Builtin.len_,run_underlying h2,ren,goInt],trivial⟩
  ·cases ha
 ·next n e sz _ _ _ _ hi=>
  obtain⟨f,d',h1,h2,h3,h4,_⟩:=T.get hi
  obtain⟨rfl,fe,k1,k2⟩:=tdOf_array h3.symm
  cases ha
  exact⟨by simp[Builtin.len_,run_underlying h2,ren,goInt],trivial⟩
 ·next e sz by_ _ _ _ _ hi=>
  obtain⟨f,d',h1,h2,h3,h4,_⟩:=T.get hi
  obtain⟨rfl,fe,k1,rfl,rfl⟩:=tdOf_slice h3.symm
  split at ha
  ·next b n c=>
   cases ha
   refine⟨?_,trivial⟩
   cases b<;>simp[Builtin.len_,run_underlying h2,ren,goInt]
  ·cases ha
 ·next ky el _ _ _ _ hi=>
  obtain⟨f,d',h1,h2,h3,h4,_⟩:=T.get hi
  have hd:=tdOf_map h3.symm
  subst hd
  split at ha
  ·cases ha
   exact⟨by simp[Builtin.len_,run_underlying h2,ren,goInt],trivial⟩
  ·next r=>
   split at ha
   ·next es cl hb=>
    cases ha
    obtain⟨⟨c,b,e⟩,hk⟩:=Option.isSome_iff_exists.1 (show (φ r).isSome=true from hx)
    obtain⟨hm,_⟩:=R.blk _ _ _ _ _ (hV _ rfl ⟨_,_,_,hi,rfl⟩) hb hk
    have hN:renN φ r=c:=by simp[renN,hk]
    exact⟨by simp[Builtin.len_,run_underlying h2,ren,hN,getObj_run hm rfl,goInt],trivial⟩
   ·cases ha
  ·cases ha
 ·cases ha
theorem acap_run (T:D.Of P) (R:Tie D E n0 V φ h w) {t ty:TypeId} {x v:Value} (hx:okV φ x) (ha:acap D t x h=some v) :
  (Builtin.cap_ #[t] ty #[ren φ x]).run P w=.ok (ren φ v) w∧okV φ v:=by
 unfold acap at ha
 split at ha
 ·next e sz by_ _ _ _ _ hi=>
  obtain⟨f,d',h1,h2,h3,h4,_⟩:=T.get hi
  obtain⟨rfl,fe,k1,rfl,rfl⟩:=tdOf_slice h3.symm
  split at ha
  ·cases ha
   exact⟨by simp[Builtin.cap_,run_underlying h2,ren,goInt],trivial⟩
  ·next a n c=>
   have hA:okA φ a:=hx
   split at ha
   ·next hsp=>
    cases ha
    have hext:extA φ a=0:=by simp[extA,hsp]
    exact⟨by simp[Builtin.cap_,run_underlying h2,ren,goInt,hext],trivial⟩
   ·next hsp=>
    cases ha
    have hext:extA φ a=0:=by simp[extA,hsp]
    exact⟨by simp[Builtin.cap_,run_underlying h2,ren,goInt,hext],trivial⟩
   ·next hsp=>
    obtain⟨c',b,ex,hk,hren,hext,hnc,hc⟩:=okA_some R hA hsp
    split at ha
    ·next hbk=>
     cases ha
     have h00:=R.exact _ _ _ _ _ _ (H.blk_dyn hbk) hk
     exact⟨by simp[Builtin.cap_,run_underlying h2,ren,goInt,hext,h00],trivial⟩
    ·cases ha
  ·cases ha
 ·cases ha
theorem aminG_run (P:Program) (f:Int→Int→Int) (g:Value→Value→Sem Value) (hg:∀ k x k' y,g (.int k x) (.int k' y)=pure (.int k (f x y))) (k:IntKind):∀ (l:List Value) (x:Int) (v:Value),aminG f k x l=some v→((l.map (ren φ)).foldlM g (.int k x)).run P w=.ok (ren φ v) w∧okV φ v:=by
 intro l
 induction l with
 | nil=>intro x v hv;simp only[aminG] at hv;cases hv;exact⟨by simp[ren_int],trivial⟩
 | cons y l ih=>
  intro x v hv
  simp only[aminG] at hv
  split at hv
  ·split at hv
   ·obtain⟨g1,g2⟩:=ih _ _ hv
    refine⟨?_,g2⟩
    simp only[List.map_cons,List.foldlM_cons,ren_int,hg,Sem.run_bind,Sem.run_pure,Result.andThen_ok]
    exact g1
   ·cases hv
  ·cases hv
theorem amin_run {ts:Array TypeId} {ty:TypeId} {l:List Value} {v:Value} (ha:amin (fun x y=>if y<x then y else x) l=some v) :
  (Builtin.min_ ts ty (l.map (ren φ)).toArray).run P w=.ok (ren φ v) w∧okV φ v:=by
 unfold amin at ha
 split at ha
 ·next k x rest=>
  obtain⟨g1,g2⟩:=aminG_run (φ:=φ) (w:=w) P (fun x y=>if y<x then y else x) Builtin.min2 (fun _ _ _ _=>rfl) k rest x v ha
  exact⟨by simpa only[Builtin.min_,List.map_cons,List.toList_toArray,ren_int] using g1,g2⟩
 ·cases ha
theorem amax_run {ts:Array TypeId} {ty:TypeId} {l:List Value} {v:Value} (ha:amin (fun x y=>if y>x then y else x) l=some v) :
  (Builtin.max_ ts ty (l.map (ren φ)).toArray).run P w=.ok (ren φ v) w∧okV φ v:=by
 unfold amin at ha
 split at ha
 ·next k x rest=>
  obtain⟨g1,g2⟩:=aminG_run (φ:=φ) (w:=w) P (fun x y=>if y>x then y else x) Builtin.max2 (fun _ _ _ _=>rfl) k rest x v ha
  exact⟨by simpa only[Builtin.max_,List.map_cons,List.toList_toArray,ren_int] using g1,g2⟩
 ·cases ha
end ops
section ops
variable {P:Program} {D:Tab} {E:Env} {n0:Nat} {V:Nat→Prop} {φ:Ph} {h h':H} {w:World}
theorem aeq_run (T:D.Of P):∀ (d:Nat) (t:TypeId) (x y:Value) (b:Bool),okV φ x→okV φ y→aeq D d t x y=some b→(Op.equalIn d t (ren φ x) (ren φ y)).run P w=.ok b w:=by
 intro d
 induction d with
 | zero=>intro t x y b _ _ h;simp[aeq] at h
 | succ d ih=>
  intro t x y b hx hy h
  simp only[aeq] at h
  split at h
  ·cases h
  ·next i hi=>
   obtain⟨f,td,h1,h2,h3,h4,_,_,h5⟩:=T.get hi
   split at h
   ·next htd=>
    rw[h3] at htd
    have:=tdOf_bool htd;subst this
    cases h
    simp[Op.equalIn,run_underlying h2,ren]
   ·next k a k' b' htd=>
    rw[h3] at htd
    have:=tdOf_int htd;subst this
    split at h
    ·next hk=>
     cases h
     have hk:=of_decide_eq_true hk
     simp[Op.equalIn,run_underlying h2,ren,hk]
    ·cases h
   ·next htd=>
    rw[h3] at htd
    have:=tdOf_string htd;subst this
    cases h
    simp[Op.equalIn,run_underlying h2,ren]
   ·next n e sz xs ys htd=>
    rw[h3] at htd
    obtain⟨rfl,fe,k1,rfl⟩:=tdOf_array htd
    split at h
    ·obtain⟨xs⟩:=xs
     obtain⟨ys⟩:=ys
     have hxs:=(okV_agg φ xs).1 hx
     have hys:=(okV_agg φ ys).1 hy
     rw[ren_agg,ren_agg,run_equalIn_array w d _ _ h2 k1]
     have hc:P.cellsOf e=fe.size:=by simp[Program.cellsOf,k1]
     rw[hc]
     have key:∀ (m k:Nat) (b:Bool),eqParts D (aeq D d e) e fe.size m k xs ys=some b→(Op.eqItems d e fe.size (xs.map (ren φ)).toArray (ys.map (ren φ)).toArray (List.range' k m)).run P w=.ok b w:=by
      intro m
      induction m with
      | zero=>intro k b hb;simp only[eqParts] at hb;cases hb;simp[Op.eqItems]
      | succ m ihm=>
       intro k b hb
       simp only[eqParts] at hb
       split at hb
       ·next a c ha hc=>
        obtain⟨p1,o1⟩:=apart_run (w:=w) T hxs ha
        obtain⟨p2,o2⟩:=apart_run (w:=w) T hys hc
        simp only[List.range'_succ,Op.eqItems,Sem.run_bind,p1,p2,Result.andThen_ok]
        split at hb
        ·next he=>
         rw[ih e a c true o1 o2 he]
         simpa using ihm (k+1) b hb
        ·next r hr=>
         cases b with
         | true=>exact absurd hb (by intro h9;exact hr h9)
         | false=>rw[ih e a c false o1 o2 hb];simp
       ·cases hb
     rw[List.range_eq_range']
     exact key n 0 b h
    ·cases h
   ·next fs xs ys htd=>
    rw[h3] at htd
    obtain⟨F,rfl,hF⟩:=tdOf_struct htd
    split at h
    ·next heq=>
     obtain⟨xs⟩:=xs
     obtain⟨ys⟩:=ys
     have hxs:=(okV_agg φ xs).1 hx
     have hys:=(okV_agg φ ys).1 hy
     rw[h5] at heq
     simp only[Bool.and_eq_true,Bool.not_eq_true'] at heq
     have hf:P.fieldsOf t=F:=by simp[Program.fieldsOf,h2]
     rw[ren_agg,ren_agg,run_equalIn_struct w d t _ _ (by rw[hf];exact h2) heq.1,hf]
     have key:∀ (l:List Field) (fs:List (Nat×TypeId×Nat)) (b:Bool),fieldsOf P l=some fs→eqFields D (aeq D d) fs xs ys=some b→(Op.eqFields d (xs.map (ren φ)).toArray (ys.map (ren φ)).toArray l).run P w=.ok b w:=by
      intro l
      induction l with
      | nil=>intro fs b hl hb;simp only[fieldsOf] at hl;cases hl;simp only[eqFields] at hb;cases hb;simp[Op.eqFields]
      | cons fd l ihl=>
       intro fs b hl hb
       simp only[fieldsOf] at hl
       split at hl
       ·next i l' _ hl'=>
        split at hl
        ·cases hl
        ·next hnm=>
         cases hl
         simp only[eqFields] at hb
         split at hb
         ·next a c ha hc=>
          obtain⟨p1,o1⟩:=apart_run (w:=w) T hxs ha
          obtain⟨p2,o2⟩:=apart_run (w:=w) T hys hc
          have hnm':fd.name ≠ "_" := by simpa using hnm
          simp only[Op.eqFields,hnm',ne_eq,not_false_eq_true,if_true,Sem.run_bind,p1,p2,Result.andThen_ok]
          split at hb
          ·next he=>
           rw[ih fd.type a c true o1 o2 he]
           simpa using ihl l' b hl' hb
          ·next r hr=>
           cases b with
           | true=>exact absurd hb (by intro h9;exact hr h9)
           | false=>rw[ih fd.type a c false o1 o2 hb];simp
         ·cases hb
       ·cases hl
     exact key F.toList fs b hF h
    ·cases h
   ·cases h
theorem anil_run (T:D.Of P) {t:TypeId} {x y:Value} {b:Bool} (h:anil D t x y=some b):(Op.equal t (ren φ x) (ren φ y)).run P w=.ok b w:=by
 unfold anil at h
 split at h
 ·next i hi=>
  obtain⟨f,td,h1,h2,h3,h4,_,_,h5⟩:=T.get hi
  obtain⟨d,hd⟩:∃ d,Op.maxDepth=d+1:=⟨9999,rfl⟩
  unfold Op.equal
  rw[hd]
  split at h
  ·next _ _ _ _ _ b _ _ htd=>
   rw[h3] at htd
   obtain⟨rfl,_⟩:=tdOf_slice htd
   cases h
   cases b<;>simp[Op.equalIn,run_underlying h2,ren]
  ·next htd=>
   rw[h3] at htd
   obtain⟨rfl,_⟩:=tdOf_slice htd
   cases h
   simp[Op.equalIn,run_underlying h2,ren]
  ·next htd=>
   rw[h3] at htd
   have:=tdOf_map htd;subst this
   cases h
   next b=>cases b<;>simp[Op.equalIn,run_underlying h2,ren]
  ·next htd=>
   rw[h3] at htd
   have:=tdOf_map htd;subst this
   cases h
   simp[Op.equalIn,run_underlying h2,ren]
  ·next htd=>
   rw[h3] at htd
   obtain⟨_,_,_,rfl⟩:=tdOf_func htd
   cases h
   simp[Op.equalIn,run_underlying h2,ren]
  ·next fx xs ys htd=>
   rw[h3] at htd
   obtain⟨_,_,_,rfl⟩:=tdOf_func htd
   cases h
   obtain⟨xs⟩:=xs
   obtain⟨ys⟩:=ys
   simp[Op.equalIn,run_underlying h2,ren]
  ·next fx xs ys htd=>
   rw[h3] at htd
   obtain⟨_,_,_,rfl⟩:=tdOf_func htd
   cases h
   obtain⟨xs⟩:=xs
   obtain⟨ys⟩:=ys
   simp[Op.equalIn,run_underlying h2,ren]
  ·next b htd=>
   rw[h3] at htd
   obtain⟨_,rfl⟩:=tdOf_pointer htd
   cases h
   cases b<;>simp[Op.equalIn,run_underlying h2,ren]
  ·next htd=>
   rw[h3] at htd
   obtain⟨_,rfl⟩:=tdOf_pointer htd
   cases h
   simp[Op.equalIn,run_underlying h2,ren]
  ·cases h
 ·cases h
end ops
section ops
variable {P:Program} {D:Tab} {E:Env} {n0:Nat} {V:Nat→Prop} {φ:Ph} {h h':H} {w:World}
theorem aint_run (t:TypeId) {op:BinOp} {k:IntKind} {a b:Int} {v:Value} (hs:isShift op=false) (h:aint op k a b=some v) :
  (binOp op t (.int k a) (.int k b)).run P w=.ok (ren φ v) w∧okV φ v:=by
 cases op<;>simp only[aint] at h<;>first|(cases h;done)|(simp[isShift] at hs;done)|(cases h;refine⟨?_,trivial⟩;simp[binOp,Op.intArith,Op.intBits,Op.intCmp,ren];done)|skip
 ·split at h
  ·cases h
  ·next hb=>
   cases h
   refine⟨?_,trivial⟩
   have:b≠0:=fun e=>hb e
   simp[binOp,Op.intDiv,this,ren]
 ·split at h
  ·cases h
  ·next hb=>
   cases h
   refine⟨?_,trivial⟩
   have:b≠0:=fun e=>hb e
   simp[binOp,Op.intDiv,this,ren]
 all_goals
  (cases h
   refine⟨?_,trivial⟩
   simp only[binOp,ren,Op.intCmp,ne_eq,not_true_eq_false,if_false,Sem.run_pure]
   first
   | rfl
   | (congr 2;done)
   | (congr 2;simp[bne];done)
   | (congr 2;by_cases hab:a=b<;>simp[bne,hab]))
theorem ashift_run (t:TypeId) {op:BinOp} {k k':IntKind} {a b:Int} {v:Value} (h:ashift op k a b=some v) :
  (binOp op t (.int k a) (.int k' b)).run P w=.ok (ren φ v) w∧okV φ v:=by
 unfold ashift at h
 split at h
 ·next n=>
  have h0:¬ ((n:Int)<0):=by omega
  split at h
  ·cases h;exact⟨by simp[binOp,Op.shift,h0,ren],trivial⟩
  ·cases h;exact⟨by simp[binOp,Op.shift,h0,ren],trivial⟩
  ·cases h
 ·cases h
theorem bytes_append (a b:ByteArray):a++b=⟨⟨a.data.toList++b.data.toList⟩⟩:=by
 apply bytes_ext
 simp[ByteArray.data_append]
theorem astr_run (t:TypeId) {op:BinOp} {a b:ByteArray} {v:Value} (h:astr op a.data.toList b.data.toList=some v) :
  (binOp op t (.string a) (.string b)).run P w=.ok (ren φ v) w∧okV φ v:=by
 cases op<;>simp only[astr] at h<;>first|(cases h;done)|(cases h;refine⟨?_,trivial⟩;simp[binOp,Op.stringOp,ren,ByteArray.toList_eq];done)|skip
 split at h
 ·next hle=>
  rw[Nat.ble_eq,bytes_size,bytes_size] at hle
  cases h
  refine⟨?_,trivial⟩
  have:¬ (((a.size+b.size:Nat):Int)>9223372036854775807):=by omega
  have h2:¬ ((9223372036854775807:Int)<(a.size:Int)+(b.size:Int)):=by omega
  simp[binOp,Op.stringOp,ren,bytes_append,h2]
 ·cases h
theorem aeq_agg (T:D.Of P) {d:Nat} {t:TypeId} {xs:Array Value} {y:Value} {b:Bool} (h:aeq D d t (.agg xs) y=some b):(∃ ys,y=.agg ys)∧P.eqGuardType P.depth t=false:=by
 cases d with
 | zero=>simp[aeq] at h
 | succ d=>
  simp only[aeq] at h
  split at h
  ·cases h
  ·next i hi=>
   obtain⟨f,td,h1,h2,h3,h4,_,_,h5⟩:=T.get hi
   have fin:i.eqok=true→P.eqGuardType P.depth t=false:=by
    intro hk
    rw[h5] at hk
    simp only[Bool.and_eq_true,Bool.not_eq_true'] at hk
    exact hk.2
   split at h
   ·contradiction
   ·contradiction
   ·contradiction
   ·split at h
    ·next hk=>exact⟨⟨_,rfl⟩,fin hk⟩
    ·cases h
   ·split at h
    ·next hk=>exact⟨⟨_,rfl⟩,fin hk⟩
    ·cases h
   ·cases h
theorem aeq_bool {d:Nat} {t:TypeId} {a:Bool} {y:Value} {b:Bool} (h:aeq D d t (.bool a) y=some b):∃ c,y=.bool c:=by
 cases d with
 | zero=>simp[aeq] at h
 | succ d=>
  simp only[aeq] at h
  split at h
  ·cases h
  ·next i hi=>
   split at h
   ·exact⟨_,rfl⟩
   ·contradiction
   ·contradiction
   ·contradiction
   ·contradiction
   ·cases h
def aeq? (D:Tab) (t:TypeId) (x y:Value):Option Bool:=match x with|.agg _|.bool _=>aeq D 10000 t x y|_=>anil D t x y
def eqShape:Value→Value→Bool
 | .agg _,.agg _|.bool _,.bool _|.slice _ _ _,.slice _ _ _|.map _,.map _|.pointer _,.pointer _|.nilFunc,.nilFunc|.nilFunc,.func _ _ _|.func _ _ _,.nilFunc=>true
 | _,_=>false
theorem eqShape_ren (φ:Ph) {x y:Value} (h:eqShape x y=true):eqShape (ren φ x) (ren φ y)=true:=by
 unfold eqShape at h
 split at h
 ·next xs ys=>obtain⟨xs⟩:=xs;obtain⟨ys⟩:=ys;simp[ren,eqShape]
 ·simp[ren,eqShape]
 ·next a _ _ b _ _=>cases a<;>cases b<;>simp[ren,eqShape]
 ·next a b=>cases a<;>cases b<;>simp[ren,eqShape]
 ·next a b=>cases a<;>cases b<;>simp[ren,eqShape]
 ·simp[ren,eqShape]
 ·next xs ys=>obtain⟨xs⟩:=xs;obtain⟨ys⟩:=ys;simp[ren,eqShape]
 ·next xs ys=>obtain⟨xs⟩:=xs;obtain⟨ys⟩:=ys;simp[ren,eqShape]
 ·cases h
theorem eq_runs {x y:Value} (h:eqShape x y=true) (t:TypeId):(binOp .eql t x y).run P w=((Op.equal t x y).run P w).andThen (fun b w=>.ok (.bool b) w)∧(binOp .neq t x y).run P w=((Op.equal t x y).run P w).andThen (fun b w=>.ok (.bool (!b)) w):=by
 unfold eqShape at h
 split at h<;>first|(cases h;done)|exact⟨by simp[binOp],by simp[binOp]⟩
theorem guard_runs {x y:Value} (h:eqShape x y=true) {t:TypeId} (hg:∀ xs,x=.agg xs→P.eqGuardType P.depth t=false) (op:BinOp) (X Y:Operand):(eqGuard op t X Y x y).run P w=.ok () w:=by
 unfold eqShape at h
 split at h<;>first|(cases h;done)|skip
 ·cases op<;>simp[eqGuard,hg _ rfl]
 all_goals (cases op<;>simp[eqGuard])
theorem anil_shape {t:TypeId} {x y:Value} {b:Bool} (h:anil D t x y=some b):eqShape x y=true:=by
 unfold anil at h
 split at h
 ·split at h<;>first|(cases h;done)|rfl
 ·cases h
theorem aeqv_run (T:D.Of P) {t:TypeId} {x y:Value} {b:Bool} (hx:okV φ x) (hy:okV φ y) (h:aeq? D t x y=some b) :
  eqShape x y=true∧(∀ xs,x=.agg xs→P.eqGuardType P.depth t=false)∧(Op.equal t (ren φ x) (ren φ y)).run P w=.ok b w:=by
 unfold aeq? at h
 split at h
 ·obtain⟨⟨ys,rfl⟩,hg⟩:=aeq_agg T h
  exact⟨rfl,fun _ _=>hg,aeq_run T 10000 t _ _ b hx hy h⟩
 ·obtain⟨c,rfl⟩:=aeq_bool h
  exact⟨rfl,(fun _ he=>by cases he),aeq_run T 10000 t _ _ b hx hy h⟩
 ·next hn1 hn2=>exact⟨anil_shape h,fun xs he=>absurd he (by intro he;exact hn1 xs he),anil_run T h⟩
theorem abin_run (T:D.Of P) {op:BinOp} {t:TypeId} {x y v:Value} (hx:okV φ x) (hy:okV φ y) (h:abin D op t x y=some v) (X Y:Operand) :
  (eqGuard op t X Y (ren φ x) (ren φ y)).run P w=.ok () w∧(binOp op t (ren φ x) (ren φ y)).run P w=.ok (ren φ v) w∧okV φ v:=by
 unfold abin at h
 split at h
 ·next k a k' b=>
  have hg:(eqGuard op t X Y (.int k a) (.int k' b)).run P w=.ok () w:=by simp[eqGuard]
  simp only[ren_int]
  split at h
  ·exact⟨hg,ashift_run t h⟩
  ·next hs=>
   split at h
   ·next hk=>
    have hk:=of_decide_eq_true hk
    subst hk
    exact⟨hg,aint_run t hs h⟩
   ·cases h
 ·next a b=>
  have hg:(eqGuard op t X Y (.string a) (.string b)).run P w=.ok () w:=by simp[eqGuard]
  simp only[ren_string]
  exact⟨hg,astr_run t h⟩
 ·next hn1 hn2=>
  have hgd:∀ {x:Value},(∀ xs,x=.agg xs→P.eqGuardType P.depth t=false)→∀ xs,ren φ x=.agg xs→P.eqGuardType P.depth t=false:=by
   intro x hh xs he
   cases x with
   | agg ys=>exact hh ys rfl
   | pointer a=>cases a<;>simp[ren] at he
   | slice a n c=>cases a<;>simp[ren] at he
   | map r=>cases r<;>simp[ren] at he
   | func f xs ys=>cases xs;cases ys;simp[ren] at he
   | tuple xs=>cases xs;simp[ren] at he
   | _=>simp[ren] at he
  split at h
  ·have h:(match aeq? D t x y with|some b=>some (Value.bool b)|none=>none)=some v:=h
   split at h
   ·next b hb=>
    cases h
    obtain⟨g1,g2,g3⟩:=aeqv_run (w:=w) T hx hy hb
    refine⟨guard_runs (eqShape_ren φ g1) (hgd g2) _ X Y,?_,trivial⟩
    rw[(eq_runs (eqShape_ren φ g1) t).1,g3,ren_bool];rfl
   ·cases h
  ·have h:(match aeq? D t x y with|some b=>some (Value.bool !b)|none=>none)=some v:=h
   split at h
   ·next b hb=>
    cases h
    obtain⟨g1,g2,g3⟩:=aeqv_run (w:=w) T hx hy hb
    refine⟨guard_runs (eqShape_ren φ g1) (hgd g2) _ X Y,?_,trivial⟩
    rw[(eq_runs (eqShape_ren φ g1) t).2,g3,ren_bool];rfl
   ·cases h
  ·cases h
theorem aun_run {op:UnOp} {x v:Value} (h:aun op x=some v):(Op.unary op (ren φ x)).run P w=.ok (ren φ v) w∧okV φ v:=by
 unfold aun at h
 split at h
 ·cases h
  exact⟨by simp[Op.unary,ren,Op.intArith],trivial⟩
 ·next k n=>
  simp only[aint] at h
  cases h
  refine⟨?_,trivial⟩
  cases hk:k.signed<;>simp[Op.unary,ren,Op.intBits,hk]
 ·cases h
  exact⟨by simp[Op.unary,ren],trivial⟩
 ·cases h
end ops
section ops
variable {P:Program} {D:Tab} {E:Env} {n0:Nat} {V:Nat→Prop} {φ:Ph} {h h':H} {w:World}
theorem allBytes_some:∀ {cs:List Value} {bs:List UInt8},allBytes cs=some bs→∃ ns:List Int,cs=ns.map (Value.int .u8)∧bs=ns.map (fun n=>UInt8.ofNat n.toNat):=by
 intro cs
 induction cs with
 | nil=>intro bs h;simp only[allBytes] at h;cases h;exact⟨[],rfl,rfl⟩
 | cons c cs ih=>
  intro bs h
  unfold allBytes at h
  split at h
  ·next he=>cases he
  ·next n l he=>
   cases he
   split at h
   ·next bs' hb=>
    cases h
    obtain⟨ns,rfl,rfl⟩:=ih hb
    exact⟨n::ns,rfl,rfl⟩
   ·cases h
  ·cases h
theorem foldl_push_bytes:∀ (l:List Int) (r:ByteArray),l.foldl (fun r n=>r.push (UInt8.ofNat n.toNat)) r=⟨⟨r.data.toList++l.map (fun n=>UInt8.ofNat n.toNat)⟩⟩
 | [],r=>by apply bytes_ext;simp
 | b::l,r=>by
  simp only[List.foldl_cons]
  rw[foldl_push_bytes l]
  apply bytes_ext
  simp[ByteArray.push]
theorem abytes_runF (R:Tie D E n0 V φ h w) {e t t':TypeId} {x1:Nat} {x2:Option Value} {x3:Bool} {s:ByteArray} (h2:P.underlying t=some .string) (g2:P.underlying t'=some (.slice e)) (q2:P.underlying e=some (.int .u8)) (he:D.ty.get e=some ⟨.int .u8,1,x1,x2,x3⟩) :
  GivesF D E n0 V φ h w ((convert t t' (ren φ (.string s))).run P w) (.slice (some (own h.next)) s.data.toList.length s.data.toList.length) (h.newOpen (bytesV s.data.toList) e):=by
 have hrun:=run_bytes_of_string w _ _ e s h2 g2 q2
 have hge:=grown_ge w s.size 0 e
 generalize grownCap w s.size 0 e=nc at hrun hge
 have hsz:(bytesRow s nc).size=s.size+(nc-s.size):=by
  simp[bytesRow]
 have hl:s.data.toList.length=s.size:=bytes_size s
 obtain⟨b1,b2,b3⟩:=renA_own (upd_same φ h.next (w.heap.size,0,nc-s.size))
 have hbl:(bytesV s.data.toList).length=s.size:=by rw[bytesV,List.length_map,hl]
 refine⟨nc-s.size,w.drew.alloc (.cells (bytesRow s nc) e ((bytesRow s nc).size,(bytesRow s nc).size+1)),hrun.trans ?_,b2,R.newOpen he rfl (.inr (Nat.le_refl _)) ?_ ?_,Kept.push φ (.cells (bytesRow s nc) e ((bytesRow s nc).size,(bytesRow s nc).size+1)) rfl rfl rfl rfl,fun c hc=>heap_push_old w _ hc,rfl⟩
 ·rw[ren_slice,b1,b3,hl,Nat.add_sub_cancel' hge]
 ·intro j y hj
  have hjl:=(List.getElem?_eq_some_iff.1 hj).1
  rw[hbl] at hjl
  have hro:=bytesV_ro s.data.toList y (List.mem_of_getElem? hj)
  obtain⟨ok,hren⟩:=roV.ok φ hro
  refine⟨y,?_,fun _=>⟨ok,hren.symm⟩⟩
  unfold bytesRow
  rw[Array.getElem?_append_left (by simpa using hjl)]
  rw[← hj]
  simp[bytesV]
 ·rw[hsz,hbl];simp
theorem Tie.mark {w':World} (R:Tie D E n0 V φ h w) {c:Nat} (hn:n0≤c) {cs:Array Value} {u:TypeId} {fz fz':Nat×Nat} (hb:w.heap[c]? = some (.cells cs u fz)) (hb':w'.heap[c]? = some (.cells cs u fz')) (ho:Open cs.size fz') (hsz:w'.heap.size=w.heap.size) (hd:∀ d,d≠c→w'.heap[d]? = w.heap[d]?):Tie D E n0 V φ h w':=by
 refine⟨fun b o v hv => ?_,by rw[hsz];exact R.size,by rw[hsz];exact R.dom,fun k B c' b e hV hB hk => ?_,R.apart,R.exact,R.fresh,R.root⟩
 ·obtain⟨h1,h2,h3⟩:=R.ro b o v hv
  refine⟨h1,?_,h3⟩
  rw[← h2]
  simp only[World.cell?,hd b (by omega)]
 ·have hB0:=R.blk k B c' b e hV hB hk
  by_cases ec:c'=c
  ·subst ec
   cases B with
   | cells xs ty root=>
    rcases hB0 with hB0|⟨cs1,u1,fz1,L⟩
    ·exact .inl hB0
    ·have:=L.block
     rw[hb] at this
     cases this
     exact .inr ⟨cs,u,fz',hb',ho,L.cell,L.room,L.whole⟩
   | map es cl=>have h1:=hB0.1;rw[hb] at h1;cases h1
   | siter s p=>have h1:=hB0.1;rw[hb] at h1;cases h1
   | defd t=>
    cases t with
    | false=>have h1:w.heap[c']? = some (.deferred (some [])):=hB0;rw[hb] at h1;cases h1
    | true=>obtain⟨o,h1⟩:=hB0;rw[hb] at h1;cases h1
   | loop r=>obtain⟨l,h1,_⟩:=hB0;rw[hb] at h1;cases h1
  ·exact hB0.le (Le.refl _) (hd c' ec)
theorem aconvert_run (T:D.Of P) (R:Tie D E n0 V φ h w) (hV:∀ k,V k) {s d:TypeId} {x v:Value} (hx:okV φ x) (hc:aconvert D E s d x h=some (v,h')) :
  Gives D E n0 V φ h w ((convert s d (ren φ x)).run P w) v h':=by
 unfold aconvert at hc
 split at hc
 ·next i j hi hj=>
  obtain⟨f,td,h1,h2,h3,h4,_⟩:=T.get hi
  obtain⟨f',td',g1,g2,g3,g4,_⟩:=T.get hj
  split at hc
  ·next e1 e2=>
   rw[h3] at e1;rw[g3] at e2
   have:=tdOf_int e1;subst this
   have:=tdOf_int e2;subst this
   cases hc
   exact Gives.same R (by simp[convert,run_underlying h2,run_underlying g2,ren,Conv.intToInt]) trivial
  ·next e1 e2=>
   rw[h3] at e1;rw[g3] at e2
   have:=tdOf_string e1;subst this
   have:=tdOf_string e2;subst this
   cases hc
   exact Gives.same R (by simp[convert,run_underlying h2,run_underlying g2,ren]) trivial
  ·next e sz by_ s e1 e2=>
   rw[h3] at e1;rw[g3] at e2
   have:=tdOf_string e1;subst this
   obtain⟨rfl,fe,k1,rfl,rfl⟩:=tdOf_slice e2
   split at hc
   ·next sz1 _ _ _ he=>
    obtain⟨f'',td'',q1,q2,q3,q4,_⟩:=T.get he
    have:=tdOf_int q3.symm;subst this
    split at hc
    ·next hs1=>
     have hs1:=beq_true hs1
     subst hs1
     cases hc
     exact (abytes_runF R h2 g2 q2 he).gives
    ·cases hc
   ·cases hc
  ·next e sz by_ b n c e1 e2=>
   rw[h3] at e1;rw[g3] at e2
   have:=tdOf_string e2;subst this
   obtain⟨rfl,fe,k1,rfl,rfl⟩:=tdOf_slice e1
   split at hc
   ·next he=>
    obtain⟨f'',td'',q1,q2,q3,q4,_⟩:=T.get he
    have:=tdOf_int q3.symm;subst this
    split at hc
    ·cases hc
     refine Gives.same R ?_ trivial
     simp only[ren]
     rw[run_convert_bytes_string w _ _ e none n c h2 q2 g2]
     simp[Conv.bytesToString]
     rfl
    ·next a=>
     have hA:okA φ a:=hx
     split at hc
     ·next cs hcs=>
      split at hc
      ·next bs hbs=>
       cases hc
       refine Gives.same R ?_ trivial
       obtain⟨ns,rfl,rfl⟩:=allBytes_some hbs
       have hl:=run_loadCells_tie P R hA (fun _=>hV _) hcs
       have hro:∀ c∈ns.map (Value.int .u8),roV c=true:=by
        intro c hc
        obtain⟨_,_,rfl⟩:=List.mem_map.1 hc
        rfl
       rw[map_ren_ro hro] at hl
       rw[ren_slice,run_convert_bytes_string w _ _ e _ n _ h2 q2 g2,run_bytesToString w _ _ _ _ hl,foldl_push_bytes,ren_string]
       rfl
      ·cases hc
     ·cases hc
   ·cases hc
  ·next e sz by_ e0 sz0 by0 a n c e1 e2=>
   split at hc
   ·next x0 xs0 ty0 rt0 hbq he hsp hbk=>
    obtain rfl:=Nat.eq_of_beq_eq_true hbq
    rw[h3] at e1
    obtain⟨rfl,fe,k1,rfl,rfl⟩:=tdOf_slice e1
    obtain⟨f'',td'',q1,q2,q3,q4,_⟩:=T.get he
    have:=tdOf_int q3.symm;subst this
    cases hc
    have hA:okA φ a:=hx
    have hφ:(φ a.block).isSome=true:=by
     rcases hA with hA|hA|⟨_,hA⟩
     ·rw[hsp] at hA;cases hA
     ·exact hA.2
     ·rw[hsp] at hA;cases hA
    obtain⟨⟨cc,b,ex⟩,hk⟩:=Option.isSome_iff_exists.1 hφ
    obtain⟨hkn,hnc,hcs'⟩:=R.dom _ _ _ _ hk
    have hren:renA φ a=⟨cc,b+a.off,none⟩:=by simp only[renA,hsp,hk]
    rcases R.blk _ _ _ _ _ (hV _) hbk hk with⟨hx0,_⟩|⟨mcs,u,fz,L⟩
    ·cases hx0
    obtain⟨lo,hi'⟩:=fz
    have hshape:w.shape? cc=some (u,mcs.size):=by simp[World.shape?,L.block]
    have hfd:∀ d,d≠cc→(w.freeze ⟨cc,mcs.size,none⟩ 1).heap[d]? = w.heap[d]? := by
     intro d hd
     simp only[World.freeze,Nat.succ_ne_zero,if_false,Array.getElem?_modify]
     rw[if_neg (fun e=>hd e.symm)]
    have hfs:(w.freeze ⟨cc,mcs.size,none⟩ 1).heap.size=w.heap.size:=by
     simp[World.freeze]
    have hfc:(w.freeze ⟨cc,mcs.size,none⟩ 1).heap[cc]? = some (.cells mcs u (if lo == hi' then (mcs.size,mcs.size+1) else (min lo mcs.size,max hi' (mcs.size+1)))):=by
     simp only[World.freeze,Nat.succ_ne_zero,if_false,Array.getElem?_modify,L.block]
     rfl
    have hop:Open mcs.size (if lo == hi' then (mcs.size,mcs.size+1) else (min lo mcs.size,max hi' (mcs.size+1))):=by
     split
     ·exact .inr (Nat.le_refl _)
     ·next hne=>
      rcases L.opn with ho|ho
      ·exact absurd (by simpa using ho) hne
      ·refine .inr ?_
       have ho:mcs.size≤lo:=ho
       show mcs.size≤min lo mcs.size
       omega
    refine⟨φ,w.freeze ⟨cc,mcs.size,none⟩ 1,?_,hx,R.mark hnc L.block hfc hop hfs hfd,Ext.refl _ _ _,⟨rfl,rfl,rfl,by rw[hfs];exact Nat.le_refl _,fun d _ hnd=>hfd d (fun e=>hnd a.block b ex (e▸hk))⟩⟩
    rw[ren_slice,hren]
    simp[convert,run_underlying h2,run_underlying q2,markStringish,hshape]
   ·cases hc
  ·cases hc
 ·cases hc
end ops
section ops
variable {P:Program} {D:Tab} {E:Env} {n0:Nat} {V:Nat→Prop} {φ:Ph} {h h':H} {w:World}
theorem checkKey_run (T:D.Of P) {kt:TypeId} {k:Value} (em:Bool) (hk:keyOk D kt k=true):(Instr.checkKey em 10000 kt (ren φ k)).run P w=.ok () w:=by
 unfold keyOk at hk
 split at hk
 ·next i hi=>
  obtain⟨f,td,h1,h2,h3,h4,_⟩:=T.get hi
  rw[show (10000:Nat)=9998+1+1 from rfl]
  generalize 9998=m
  split at hk
  ·next e1=>
   rw[h3] at e1
   have:=tdOf_int e1;subst this
   simp[Instr.checkKey,run_underlying h2]
  ·next e1=>
   rw[h3] at e1
   have:=tdOf_string e1;subst this
   simp[Instr.checkKey,run_underlying h2]
  ·next e1=>
   rw[h3] at e1
   have:=tdOf_bool e1;subst this
   simp[Instr.checkKey,run_underlying h2]
  ·next n e sz cs e1=>
   rw[h3] at e1
   obtain⟨rfl,fe,k1,rfl⟩:=tdOf_array e1
   split at hk
   ·next he=>
    simp only[Bool.and_eq_true,Nat.ble_eq] at hk
    have hs1:=beq_true hk.1
    obtain⟨f'',td'',q1,q2,q3,q4,_⟩:=T.get he
    have:=tdOf_int q3.symm;subst this
    obtain⟨l⟩:=cs
    have hlen:n≤l.length:=hk.2
    rw[ren_agg,Instr.checkKey]
    simp only[Sem.run_bind,run_underlying h2,Result.andThen_ok]
    simp only[Std.Legacy.Range.forIn_eq_forIn_range',Std.Legacy.Range.size,Nat.sub_zero,Nat.add_one_sub_one,Nat.div_one]
    have hall:∀ j∈List.range' 0 n,j<n:=by intro j hj;simp at hj;exact hj
    generalize List.range' 0 n=is at hall
    induction is with
    | nil=>simp
    | cons j is ih=>
     have hj:j<l.length:=Nat.lt_of_lt_of_le (hall j (by simp)) hlen
     have hp:(part e (l.map (ren φ)).toArray (j*fe.size)).run P w=.ok (ren φ l[j]) w:=by
      simp[part,isAgg,run_underlying q2,hs1,hj]
     have hcc:(Instr.checkKey em (m+1) e (ren φ l[j])).run P w=.ok () w:=by simp[Instr.checkKey,run_underlying q2]
     simp only[List.forIn_cons,Sem.run_bind,r_size k1,Result.andThen_ok,hp,hcc,Sem.run_pure]
     exact ih (fun y hy=>hall y (by simp[hy]))
   ·cases hk
  ·cases hk
 ·cases hk
theorem sameNow_aeq (T:D.Of P) {d:Nat} {kt:TypeId} {x y:Value} {b c:Bool} {kind:TypeDesc} (hu:P.underlying kt=some kind) (h:aeq D d kt x y=some b) (hn:Instr.sameNow kind (ren φ x) (ren φ y)=some c):c=b:=by
 cases d with
 | zero=>simp[aeq] at h
 | succ d=>
  simp only[aeq] at h
  split at h
  ·cases h
  ·next i hi=>
   obtain⟨f,td,h1,h2,h3,h4,_⟩:=T.get hi
   rw[hu] at h2;cases h2
   split at h
   ·next e1=>
    rw[h3] at e1
    have:=tdOf_bool e1;subst this
    cases h
    simp[Instr.sameNow,ren] at hn
    exact hn.symm
   ·next e1=>
    rw[h3] at e1
    have:=tdOf_int e1;subst this
    split at h
    ·next hk=>
     cases h
     simp[Instr.sameNow,ren,of_decide_eq_true hk] at hn
     exact hn.symm
    ·cases h
   ·next e1=>
    rw[h3] at e1
    have:=tdOf_string e1;subst this
    cases h
    simp[Instr.sameNow,ren] at hn
    exact hn.symm
   ·next xs ys e1=>
    rw[h3] at e1
    obtain⟨rfl,_⟩:=tdOf_array e1
    simp[Instr.sameNow] at hn
   ·next xs ys e1=>
    rw[h3] at e1
    obtain⟨F,rfl,_⟩:=tdOf_struct e1
    simp[Instr.sameNow] at hn
   ·cases h
theorem findE_run (T:D.Of P) {kt:TypeId} {k:Value} {es:List Ent} {r:Option (Nat×Value)} (hk:okV φ k) (hes:∀ x∈es,okV φ x.key∧okV φ x.val) (h:findE D kt k es 0=some r) {kind:TypeDesc} (hu:P.underlying kt=some kind) :
  (Instr.findKey kt (ren φ k) (es.map (renE φ))).run P w=.ok (r.map fun p=>(p.1,ren φ p.2)) w:=by
 have ask:∀ (es:List Ent) (i:Nat) (r:Option (Nat×Value)),(∀ x∈es,okV φ x.key∧okV φ x.val)→findE D kt k es i=some r→
   (Instr.findAsking kt (ren φ k) (es.map (renE φ)) i).run P w=.ok (r.map fun p=>(p.1,ren φ p.2)) w:=by
  intro es
  induction es with
  | nil=>intro i r _ h;simp only[findE] at h;cases h;simp[Instr.findAsking]
  | cons e es ih=>
   intro i r hes h
   simp only[findE] at h
   have hke:=(hes e (by simp)).1
   split at h
   ·next he=>
    cases h
    have:=aeq_run (w:=w) T 10000 kt k e.key true hk hke he
    simp only[List.map_cons,Instr.findAsking,renE,Op.equal,Op.maxDepth,Sem.run_bind,this,Result.andThen_ok,if_true,Sem.run_pure,Option.map_some]
   ·next he=>
    have:=aeq_run (w:=w) T 10000 kt k e.key false hk hke he
    simp only[List.map_cons,Instr.findAsking,renE,Op.equal,Op.maxDepth,Sem.run_bind,this,Result.andThen_ok,Bool.false_eq_true,if_false]
    exact ih (i+1) r (fun x hx=>hes x (by simp[hx])) h
   ·cases h
 have now:∀ (es:List Ent) (i:Nat) (r r':Option (Nat×Value)),findE D kt k es i=some r→Instr.findNow kind (ren φ k) (es.map (renE φ)) i=some r'→r'=r.map fun p=>(p.1,ren φ p.2):=by
  intro es
  induction es with
  | nil=>intro i r r' h hn;simp only[findE] at h;cases h;simp[Instr.findNow] at hn;exact hn.symm
  | cons e es ih=>
   intro i r r' h hn
   simp only[findE] at h
   simp only[List.map_cons,Instr.findNow] at hn
   split at hn
   ·next hs=>
    cases hn
    split at h
    ·cases h;rfl
    ·next he=>exact absurd (sameNow_aeq T hu he hs) (by simp)
    ·cases h
   ·next hs=>
    split at h
    ·next he=>exact absurd (sameNow_aeq T hu he hs) (by simp)
    ·exact ih _ _ _ h hn
    ·cases h
   ·cases hn
 simp only[Instr.findKey,Sem.run_bind,r_und hu,Result.andThen_ok]
 split
 ·next r' hr=>
  rw[now es 0 r r' h hr];rfl
 ·exact ask es 0 r hes h
theorem kind_of (T:D.Of P) {kt:TypeId} {k:Value} (hk:keyOk D kt k=true):∃ kind,P.underlying kt=some kind:=by
 unfold keyOk at hk
 split at hk
 ·next i hi=>
  obtain⟨f,td,h1,h2,_⟩:=T.get hi
  exact⟨td,h2⟩
 ·cases hk
theorem map_at (R:Tie D E n0 V φ h w) {r:Nat} {es:List Ent} {cl:Nat} (hx:(φ r).isSome=true) (hV:V r) (hb:h.blk r=some (.map es cl)) :
  ∃ c b e,φ r=some (c,b,e)∧renN φ r=c∧c<w.heap.size∧(getObj c).run P w=.ok (.map (es.map (renE φ)).toArray cl) w∧(∀ o',(setObj c o').run P w=.ok () { w with heap:=w.heap.setIfInBounds c o' })∧∀ x∈es,okV φ x.key∧okV φ x.val:=by
 obtain⟨⟨c,b,e⟩,hk⟩:=Option.isSome_iff_exists.1 hx
 obtain⟨hm,ho⟩:=R.blk _ _ _ _ _ hV hb hk
 exact⟨c,b,e,hk,by simp[renN,hk],(R.dom _ _ _ _ hk).2.2,getObj_run hm rfl,setObj_run hm rfl,ho⟩
theorem map_turned (R:Tie D E n0 V φ h w) {r c b e:Nat} {es es':List Ent} {cl cl':Nat} (hb:h.blk r=some (.map es cl)) (hk:φ r=some (c,b,e)) (ho:∀ x∈es',okV φ x.key∧okV φ x.val) :
  Tie D E n0 V φ (h.turn r (.map es' cl')) { w with heap:=w.heap.setIfInBounds c (.map (es'.map (renE φ)).toArray cl') }∧Kept φ w { w with heap:=w.heap.setIfInBounds c (.map (es'.map (renE φ)).toArray cl') }:=by
 refine⟨R.turn hb (by intros;simp) (by intros;simp) hk (o:=.map (es'.map (renE φ)).toArray cl') rfl ?_,?_⟩
 ·intro _
  refine⟨?_,ho⟩
  have:=(R.dom _ _ _ _ hk).2.2
  simp[this]
 ·refine⟨rfl,rfl,rfl,by simp,fun d _ hn => ?_⟩
  have:c≠d:=fun ed=>hn r b e (ed▸hk)
  simp[Array.getElem?_setIfInBounds,this]
theorem okV_undef (φ:Ph):okV φ undef:=by simp[undef,okV,okL]
theorem findE_mem {kt:TypeId} {k:Value}:∀ {es:List Ent} {i j:Nat} {v:Value},findE D kt k es i=some (some (j,v))→∃ e,e∈es∧e.val=v∧i≤j∧es[j-i]? = some e:=by
 intro es
 induction es with
 | nil=>intro i j v h;simp[findE] at h
 | cons e es ih=>
  intro i j v h
  simp only[findE] at h
  split at h
  ·cases h;exact⟨e,by simp,rfl,Nat.le_refl _,by simp⟩
  ·obtain⟨e',h1,h2,h3,h4⟩:=ih h
   refine⟨e',by simp[h1],h2,by omega,?_⟩
   have:j-i=(j-(i+1))+1:=by omega
   rw[this,List.getElem?_cons_succ];exact h4
  ·cases h
theorem ren_withOk (φ:Ph) (ok:Bool) (v:Value) (b:Bool):ren φ (withOk ok v b)=if ok then .tuple #[ren φ v,.bool b] else ren φ v:=by
 cases ok
 ·simp[withOk]
 ·simp only[withOk,if_true]
  rw[show (#[v,Value.bool b]:Array Value)=⟨[v,.bool b]⟩ from rfl,ren_tuple]
  simp[ren_bool]
theorem okV_withOk {φ:Ph} {ok:Bool} {v:Value} {b:Bool} (hv:okV φ v):okV φ (withOk ok v b):=by
 cases ok
 ·exact hv
 ·show okV φ (.tuple ⟨[v,.bool b]⟩)
  rw[okV_tuple]
  intro x hx
  simp at hx
  rcases hx with rfl|rfl
  ·exact hv
  ·trivial
theorem alookup_run (T:D.Of P) (R:Tie D E n0 V φ h w) (hV:∀ k,V k) {t:TypeId} {m k v:Value} {ok:Bool} (hm:okV φ m) (hk:okV φ k) (hl:alookup D t m k ok h=some v) :
  (Instr.lookup t (ren φ m) (ren φ k) ok).run P w=.ok (ren φ v) w∧okV φ v:=by
 unfold alookup at hl
 split at hl
 ·next kt el _ _ _ _ hi=>
  obtain⟨f,td,h1,h2,h3,h4,_⟩:=T.get hi
  have:=tdOf_map h3.symm;subst this
  split at hl
  ·next es hes hko=>
   obtain⟨kind,hkd⟩:=kind_of T hko
   have hck:=fun em=>checkKey_run (w:=w) (φ:=φ) T em hko
   have hread:(∀ x∈es,okV φ x.key∧okV φ x.val)∧∀ (r:Option (Nat×Value)),findE D kt k es 0=some r→
     (Instr.lookup t (ren φ m) (ren φ k) ok).run P w=((do
      let (v,okk) ← match (r.map fun p=>(p.1,ren φ p.2)) with
       | some (_,v)=>pure (v,true)
       | none=>do pure (← zeroValue el,false)
      pure (if ok then Value.tuple #[v,.bool okk] else v):Sem Value)).run P w:=by
    unfold aentries at hes
    split at hes
    ·cases hes
     refine⟨by simp,fun r hr => ?_⟩
     have hf:=findE_run (w:=w) T hk (by simp) hr hkd
     simp only[Instr.lookup,Sem.run_bind,r_und h2,Result.andThen_ok,ren,Sem.run_pure]
     rw[hck]
     simp only[Result.andThen_ok]
     rw[show ([]:List MapEntry)=([]:List Ent).map (renE φ) from rfl,hf]
     rfl
    ·next r0=>
     split at hes
     ·next es' cl hb=>
      cases hes
      obtain⟨c,b,e,q1,q2,q3,q4,q5,q6⟩:=map_at (P:=P) R (show (φ r0).isSome=true from hm) (hV _) hb
      refine⟨q6,fun r hr => ?_⟩
      have hf:=findE_run (w:=w) T hk q6 hr hkd
      simp only[Instr.lookup,Sem.run_bind,r_und h2,Result.andThen_ok,ren,q2,q4,Sem.run_pure]
      rw[hck]
      simp only[Result.andThen_ok,List.toList_toArray]
      rw[hf]
      rfl
     ·cases hes
    ·cases hes
   obtain⟨hokE,hrun⟩:=hread
   split at hl
   ·next j v' hfe=>
    cases hl
    rw[hrun _ hfe]
    obtain⟨e',e1,e2,_,_⟩:=findE_mem hfe
    refine⟨?_,okV_withOk (e2▸(hokE e' e1).2)⟩
    rw[ren_withOk]
    simp
   ·next hfe=>
    split at hl
    ·next z hz=>
     cases hl
     obtain⟨fz,z1,z2,z3⟩:=T.zero hz
     obtain⟨zo,zr⟩:=roV.ok φ z3
     rw[hrun _ hfe]
     refine⟨?_,okV_withOk zo⟩
     rw[ren_withOk,zr]
     simp[zeroValue,typeInfo,z1,z2]
    ·cases hl
   ·cases hl
  ·cases hl
 ·cases hl
theorem sameKey_bits (φ:Ph) {a b:Value} (h:sameKey a b=true) (n:Nat):Instr.sameBits n (ren φ a) (ren φ b)=true:=by
 unfold sameKey at h
 split at h
 ·simp only[Bool.and_eq_true,decide_eq_true_eq] at h
  simp[ren,Instr.sameBits,h]
 ·simpa [ren,Instr.sameBits] using h
 ·simpa [ren,Instr.sameBits] using h
 ·cases h
theorem sameKeys_bits (φ:Ph) (n:Nat):∀ {a b:List Value},sameKeys a b=true→a.length=b.length∧((a.map (ren φ)).zip (b.map (ren φ))).all (fun (x,y)=>Instr.sameBits n x y)=true:=by
 intro a
 induction a with
 | nil=>intro b h;cases b with
  | nil=>exact⟨rfl,rfl⟩
  | cons _ _=>simp[sameKeys] at h
 | cons x a ih=>
  intro b h
  cases b with
  | nil=>simp[sameKeys] at h
  | cons y b=>
   simp only[sameKeys,Bool.and_eq_true] at h
   obtain⟨g1,g2⟩:=ih h.2
   refine⟨by simp[g1],?_⟩
   simp only[List.map_cons,List.zip_cons_cons,List.all_cons,Bool.and_eq_true]
   exact⟨sameKey_bits φ h.1 n,g2⟩
theorem stays_bits (φ:Ph) {a b:Value} (h:stays a b=true):Instr.sameBits 10000 (ren φ a) (ren φ b)=true:=by
 unfold stays at h
 split at h
 ·next xs ys=>
  obtain⟨xs⟩:=xs
  obtain⟨ys⟩:=ys
  rw[ren_agg,ren_agg,show (10000:Nat)=9999+1 from rfl]
  obtain⟨g1,g2⟩:=sameKeys_bits φ 9999 h
  simp only[Instr.sameBits,Bool.and_eq_true]
  refine⟨by simpa using g1,g2⟩
 ·exact sameKey_bits φ h _
theorem setE_map (φ:Ph) (k v:Value):∀ (i:Nat) (es:List Ent),(setE k v i es).map (renE φ)=(es.map (renE φ)).modify i (fun e=>{ e with key:=ren φ k,val:=ren φ v })
 | i,[]=>by simp[setE]
 | 0,e::es=>by simp[setE,renE]
 | i+1,e::es=>by simp[setE,setE_map φ k v i es]
theorem setE_ok {φ:Ph} {k v:Value} (hk:okV φ k) (hv:okV φ v):∀ (i:Nat) (es:List Ent),(∀ x∈es,okV φ x.key∧okV φ x.val)→∀ x∈setE k v i es,okV φ x.key∧okV φ x.val
 | i,[],_=>by simp[setE]
 | 0,e::es,h=>by
  intro x hx
  simp only[setE,List.mem_cons] at hx
  rcases hx with rfl|hx
  ·exact⟨hk,hv⟩
  ·exact h x (by simp[hx])
 | i+1,e::es,h=>by
  intro x hx
  simp only[setE,List.mem_cons] at hx
  rcases hx with rfl|hx
  ·exact h x (by simp)
  ·exact setE_ok hk hv i es (fun y hy=>h y (by simp[hy])) x hx
theorem amapUpdate_run (T:D.Of P) (R:Tie D E n0 V φ h w) (hV:∀ k,V k) {t:TypeId} {m k x v:Value} (hm:okV φ m) (hk:okV φ k) (hx:okV φ x) (hu:amapUpdate D t m k x h=some (v,h')) :
  v=undef∧∃ w',(Instr.mapUpdate t (ren φ m) (ren φ k) (ren φ x)).run P w=.ok () w'∧Tie D E n0 V φ h' w'∧Kept φ w w':=by
 unfold amapUpdate at hu
 split at hu
 ·next kt el _ _ _ _ r0 hi=>
  obtain⟨f,td,h1,h2,h3,h4,_⟩:=T.get hi
  have:=tdOf_map h3.symm;subst this
  split at hu
  ·next es cl hb hko=>
   obtain⟨kind,hkd⟩:=kind_of T hko
   have hck:=checkKey_run (w:=w) (φ:=φ) T false hko
   obtain⟨c,b,e,q1,q2,q3,q4,q5,q6⟩:=map_at (P:=P) R (show (φ r0).isSome=true from hm) (hV _) hb
   split at hu
   ·next i v0 hfe=>
    have hf:=findE_run (w:=w) T hk q6 hfe hkd
    split at hu
    ·next e0 he0=>
     split at hu
     ·next hst=>
      cases hu
      have hb9:=stays_bits φ hst
      refine⟨rfl,{ w with heap:=w.heap.setIfInBounds c (.map ((setE k x i es).map (renE φ)).toArray cl) },?_,?_⟩
      ·have hk0:((es.map (renE φ)).toArray)[i]? = some (renE φ e0):=by simp[he0]
       have hke:(renE φ e0).key=ren φ e0.key:=rfl
       simp only[Instr.mapUpdate,Sem.run_bind,r_und h2,Result.andThen_ok,ren,q2,q4,hck,List.toList_toArray,hf,Option.map_some,Instr.keyThatStays,hk0,Option.getD_some,hke,hb9,if_true,Sem.run_pure,q5]
       congr 2
       rw[setE_map]
       simp
      ·exact map_turned R hb q1 (setE_ok hk hx i es q6)
     ·cases hu
    ·cases hu
   ·next hfe=>
    have hf:=findE_run (w:=w) T hk q6 hfe hkd
    cases hu
    refine⟨rfl,{ w with heap:=w.heap.setIfInBounds c (.map ((es++[({ key:=k,val:=x,born:=cl }:Ent)]).map (renE φ)).toArray (cl+1)) },?_,map_turned R hb q1 ?_⟩
    ·simp only[Instr.mapUpdate,Sem.run_bind,r_und h2,Result.andThen_ok,ren,q2,q4,hck,List.toList_toArray,hf,Option.map_none,q5]
     congr 2
     simp[renE]
    ·intro y hy
     rcases List.mem_append.1 hy with hy|hy
     ·exact q6 y hy
     ·simp at hy;subst hy;exact⟨hk,hx⟩
   ·cases hu
  ·cases hu
 ·cases hu
theorem eraseIdx_map' {α β:Type} (f:α→β):∀ (l:List α) (i:Nat),(l.map f).eraseIdx i=(l.eraseIdx i).map f
 | [],i=>by simp
 | a::l,0=>by simp
 | a::l,i+1=>by simp[eraseIdx_map' f l i]
theorem eraseIdx_ok {es:List Ent} {i:Nat} (h:∀ x∈es,okV φ x.key∧okV φ x.val):∀ x∈es.eraseIdx i,okV φ x.key∧okV φ x.val:=fun x hx=>h x (List.mem_of_mem_eraseIdx hx)
theorem adelete_run (T:D.Of P) (R:Tie D E n0 V φ h w) (hV:∀ k,V k) {t t2 ty:TypeId} {ts:Array TypeId} (hts:ts[0]? = some t) {m k v:Value} (hm:okV φ m) (hk:okV φ k) (hu:adelete D t m k h=some (v,h')) :
  Gives D E n0 V φ h w ((Builtin.delete_ ts ty #[ren φ m,ren φ k]).run P w) v h':=by
 unfold adelete at hu
 split at hu
 ·next kt el _ _ _ _ hi=>
  obtain⟨f,td,h1,h2,h3,h4,_⟩:=T.get hi
  have:=tdOf_map h3.symm;subst this
  split at hu
  ·next hko=>
   have hck:=fun em=>checkKey_run (w:=w) (φ:=φ) T em hko
   cases hu
   refine Gives.same R ?_ ((okV_tuple φ []).2 (by simp))
   simp[Builtin.delete_,hts,run_underlying h2,ren,renL,hck]
  ·next r0 hko=>
   obtain⟨kind,hkd⟩:=kind_of T hko
   have hck:=fun em=>checkKey_run (w:=w) (φ:=φ) T em hko
   split at hu
   ·next es cl hb=>
    obtain⟨c,b,e,q1,q2,q3,q4,q5,q6⟩:=map_at (P:=P) R (show (φ r0).isSome=true from hm) (hV _) hb
    split at hu
    ·next i v0 hfe=>
     have hf:=findE_run (w:=w) T hk q6 hfe hkd
     cases hu
     obtain⟨g1,g2⟩:=map_turned (cl':=cl) R hb q1 (eraseIdx_ok (i:=i) q6)
     refine⟨φ,_,?_,(okV_tuple φ []).2 (by simp),g1,Ext.same (turn_next _ _ _),g2⟩
     obtain⟨e',e1,e2,_,e4⟩:=findE_mem hfe
     have hil:i<es.length:=by
      have:=(List.getElem?_eq_some_iff.1 e4).1
      omega
     have hilt:i<(es.map (renE φ)).toArray.size:=by simpa using hil
     have her:((es.map (renE φ)).toArray).eraseIdxIfInBounds i=((es.eraseIdx i).map (renE φ)).toArray:=by
      apply Array.ext'
      simp only[Array.eraseIdxIfInBounds,hilt,dif_pos]
      simp[eraseIdx_map']
     simp[Builtin.delete_,hts,run_underlying h2,ren,renL,hck,q2,q4,hf,her,q5,eraseIdx_map']
    ·next hfe=>
     have hf:=findE_run (w:=w) T hk q6 hfe hkd
     cases hu
     obtain⟨g1,g2⟩:=map_turned (cl':=cl) R hb q1 q6
     refine⟨φ,_,?_,(okV_tuple φ []).2 (by simp),g1,Ext.same (turn_next _ _ _),g2⟩
     simp[Builtin.delete_,hts,run_underlying h2,ren,renL,hck,q2,q4,hf,q5]
    ·cases hu
   ·cases hu
  ·cases hu
 ·cases hu
theorem makeMap_runF (R:Tie D E n0 V φ h w):GivesF D E n0 V φ h w (.ok (.map (some w.heap.size)) (wpush w (.map #[] 0))) (.map (some h.next)) (h.new (.map [] 0)):=by
 refine⟨0,wpush w (.map #[] 0),?_,by simp[okV,upd_same],R.new rfl _ rfl ⟨?_,by simp⟩,Kept.push φ _ rfl rfl rfl rfl,wpush_old,rfl⟩
 ·simp[ren,renN,upd_same]
 ·show (w.heap.push _)[w.heap.size]? = _
  rw[Array.getElem?_push_size];rfl
theorem makeMap_run (R:Tie D E n0 V φ h w):Gives D E n0 V φ h w (.ok (.map (some w.heap.size)) (wpush w (.map #[] 0))) (.map (some h.next)) (h.new (.map [] 0)):=(makeMap_runF R).gives
theorem arange_run (T:D.Of P) (R:Tie D E n0 V φ h w) {t:TypeId} {x v:Value} (hr:arange D t x h=some (v,h')) :
  Gives D E n0 V φ h w ((Instr.range t (ren φ x)).run P w) v h':=by
 unfold arange at hr
 split at hr
 ·next s hi=>
  obtain⟨f,td,h1,h2,h3,h4,_⟩:=T.get hi
  have:=tdOf_string h3.symm;subst this
  cases hr
  obtain⟨g1,g2,g3⟩:=renA_own (upd_same φ h.next (w.heap.size,0,0))
  refine⟨upd φ h.next (w.heap.size,0,0),wpush w (.stringIter s 0),?_,g2,R.new rfl _ rfl ?_,upd_ext (.inl (Nat.le_refl _)),Kept.push φ _ rfl rfl rfl rfl⟩
  ·rw[ren_pointer,g1]
   simp[Instr.range,run_underlying h2,ren,wpush]
  ·refine⟨?_,rfl⟩
   show (w.heap.push _)[w.heap.size]? = _
   rw[Array.getElem?_push_size]
 ·cases hr
theorem anext_run (R:Tie D E n0 V φ h w) (hV:∀ k,V k) {x v:Value} {isS:Bool} {ty:TypeId} (hx:okV φ x) (hr:anext x isS h=some (v,h')) :
  Gives D E n0 V φ h w ((Instr.next (ren φ x) isS ty).run P w) v h':=by
 unfold anext at hr
 split at hr
 ·next r=>
  split at hr
  ·next s pos hb=>
   rcases (show okA φ ⟨r,0,some 0⟩ from hx) with ha|⟨_,ha⟩|⟨_,ha⟩
   ·cases ha
   rotate_left
   ·cases ha
   obtain⟨⟨c,b,e⟩,hk⟩:=Option.isSome_iff_exists.1 ha
   have hb0:φ r=some (c,b,e):=hk
   obtain⟨hT,rfl⟩:w.heap[c]? = some (.stringIter s pos)∧b=0:=R.blk _ _ _ _ _ (hV _) hb hk
   have hren:renA φ ⟨r,0,some 0⟩=⟨c,0,none⟩:=by simp[renA,hb0]
   have hcs:=(R.dom _ _ _ _ hk).2.2
   split at hr
   ·next hlt=>
    rw[Nat.blt_eq,bytes_size] at hlt
    cases hr
    refine⟨φ,{ w with heap:=w.heap.setIfInBounds c (.stringIter s (pos+(Utf8.decode s pos).2)) },?_,?_,R.turn hb (by intros;simp) (by intros;simp) hk rfl ?_,Ext.same (turn_next _ _ _),?_⟩
    ·rw[ren_pointer,hren]
     simp[Instr.next,getObj_run hT rfl,setObj_run hT rfl,hlt,goInt,ren,renL]
    ·show okV φ (.tuple ⟨[_,_,_]⟩)
     rw[okV_tuple];simp[okV]
    ·intro _
     exact⟨by simp[hcs],rfl⟩
    ·refine⟨rfl,rfl,rfl,by simp,fun d _ hn => ?_⟩
     have:c≠d:=fun ed=>hn r 0 e (ed▸hk)
     simp[Array.getElem?_setIfInBounds,this]
   ·next hlt=>
    have hlt:¬ (pos<s.size):=fun hh=>by rw[show Nat.blt pos s.data.toList.length=true from by rw[Nat.blt_eq,bytes_size];exact hh] at hlt;cases hlt
    cases hr
    refine Gives.same R ?_ ?_
    ·rw[ren_pointer,hren]
     simp[Instr.next,getObj_run hT rfl,hlt,ren,renL]
    ·show okV φ (.tuple ⟨[_]⟩)
     rw[okV_tuple];simp[okV]
  ·cases hr
 ·cases hr
end ops
theorem rowAt_bytes {P:Program} {e:TypeId} {fits:TypeId→Bool} (hc:P.cellsOf e=1) (hf:fits e=true) (d count off n:Nat) (hn:off+n≤count):rowAt P fits (d+1) e count off n=true:=by
 simp[rowAt,hc,hn,hf,Nat.mod_one]
theorem sameLayout_self {P:Program} (d:Nat) (t:TypeId):sameLayout P (d+1) t t=true:=by
 simp[sameLayout]
theorem liesAt_row {P:Program} {e:TypeId} (hc:P.cellsOf e=1) (count off n:Nat) (hn:off+n≤count):liesAt P P.depth e count off e n=true:=by
 have hd:P.depth=(2*(P.types.size+Made.depth)+1)+1:=rfl
 rw[hd]
 simp only[liesAt,Bool.or_eq_true]
 left
 rw[hd]
 exact rowAt_bytes (fits:=fun x=>sameLayout P (2*(P.types.size+Made.depth)+1+1) x e) hc (sameLayout_self _ _) _ _ _ _ hn
theorem run_loadBytes_ints {P:Program} {w:World}:∀ (l:List Int) (a:Addr) (acc:ByteArray),(∀ j x,l[j]? = some x→w.cell? (a.add j)=some (.int .u8 x))→
  (loadBytes a acc l.length).run P w=.ok ⟨acc.data++(l.map fun n=>UInt8.ofNat n.toNat).toArray⟩ w
 | [],a,acc,_=>by simp[loadBytes]
 | x::l,a,acc,h=>by
  have h0:w.cell? a=some (.int .u8 x):=by
   have:=h 0 x rfl
   simpa [Addr.add] using this
  have ih:=run_loadBytes_ints (P:=P) (w:=w) l (a.add 1) (acc.push (UInt8.ofNat x.toNat)) (fun j y hy=>by
   have:=h (j+1) y (by simpa using hy)
   have e:(a.add 1).add j=a.add (j+1):=by
    unfold Addr.add
    by_cases hj:j=0
    ·subst hj;simp
    ·simp[hj];omega
   rw[e];exact this)
  have hx:x.toNat.toUInt8=UInt8.ofNat x.toNat:=rfl
  simp only[List.length_cons,loadBytes,Sem.run_bind,run_load,h0,Result.andThen,hx]
  rw[ih]
  congr 1
  apply ByteArray.ext
  simp[ByteArray.push]
section ops
variable {P:Program} {D:Tab} {E:Env} {n0:Nat} {V:Nat→Prop} {φ:Ph} {h h':H} {w:World}
theorem Tie.free {w':World} (R:Tie D E n0 V φ h w) (c:Nat) (hn:n0≤c) (hf:∀ k B b e,h.blk k=some B→φ k=some (c,b,e)→B.hollow e=true) (hsz:w'.heap.size=w.heap.size) (hb:∀ d,d≠c→w'.heap[d]? = w.heap[d]?):Tie D E n0 V φ h w':=by
 refine⟨fun b o v hv => ?_,by rw[hsz];exact R.size,by rw[hsz];exact R.dom,fun k B c' b e hV hB hk => ?_,R.apart,R.exact,R.fresh,R.root⟩
 ·obtain⟨h1,h2,h3⟩:=R.ro b o v hv
  refine⟨h1,?_,h3⟩
  rw[← h2]
  simp only[World.cell?,hb b (by omega)]
 ·by_cases ec:c'=c
  ·subst ec
   exact BlkTie.of_hollow (hf k B b e hB hk)
  ·exact (R.blk k B c' b e hV hB hk).le (Le.refl _) (hb c' ec)
theorem asliceData_run {x v:Value} {ts:Array TypeId} {ty:TypeId} (hx:okV φ x) (hp:asliceData x=some v):(Builtin.unsafeSliceData_ ts ty #[ren φ x]).run P w=.ok (ren φ v) w∧okV φ v:=by
 unfold asliceData at hp
 split at hp
 ·cases hp;exact⟨rfl,trivial⟩
 ·next a n c=>
  cases hp
  refine⟨?_,hx⟩
  rw[ren_slice,ren_pointer]
  obtain⟨k,hk⟩:∃ k,c+1+extA φ a=k+1:=⟨c+extA φ a,by omega⟩
  rw[hk]
  rfl
 ·cases hp
theorem unsafeString_def (pt it ty:TypeId) (a:Addr) (n:Int):Builtin.unsafeString_ #[pt,it] ty #[.pointer (some a),.int .i64 n]=
   (do
    let n ← asInt (.int .i64 n)
    if n<0 then runtimePanic (.error "unsafe.String: len out of range")
    if n>IntKind.i64.max then unsupported (.unsafePointer "String: a length above the largest int")
    if n=0 then pure (.string .empty)
    else if ← variablesAt a (← elemOf pt) n.toNat then do
     let s ← loadBytes a .empty n.toNat
     freeze a n.toNat
     pure (.string s)
    else unsupported (.unsafePointer "String: not so many bytes at ptr")):=rfl
theorem unsafeString_zero (pt it ty:TypeId) (p:Option Addr):(Builtin.unsafeString_ #[pt,it] ty #[.pointer p,.int .i64 0]).run P w=.ok (.string .empty) w:=by
 have hmax:IntKind.i64.max=9223372036854775807:=rfl
 cases p with
 | none=>
  have hdef:Builtin.unsafeString_ #[pt,it] ty #[.pointer none,.int .i64 0]=
    (do
     let n ← asInt (.int .i64 0)
     if n<0 then runtimePanic (.error "unsafe.String: len out of range")
     if n>IntKind.i64.max then unsupported (.unsafePointer "String: a length above the largest int")
     if n=0 then pure (.string .empty)
     else runtimePanic (.error "unsafe.String: ptr is nil and len is not zero")):=rfl
  rw[hdef]
  simp[asInt,asIntOf,hmax]
 | some a=>
  rw[unsafeString_def]
  simp[asInt,asIntOf,hmax]
theorem aunsafeS_run (T:D.Of P) (R:Tie D E n0 V φ h w) (hV:∀ k,V k) {pt it ty:TypeId} {p n v:Value} (hp:okV φ p) (hs:aunsafeS D E pt p n h=some (v,h')) :
  Gives D E n0 V φ h w ((Builtin.unsafeString_ #[pt,it] ty #[ren φ p,ren φ n]).run P w) v h':=by
 unfold aunsafeS at hs
 split at hs
 ·next q=>
  cases hs
  refine Gives.same R ?_ trivial
  cases q with
  | none=>exact unsafeString_zero pt it ty none
  | some a=>exact unsafeString_zero pt it ty _
 ·next a n=>
  split at hs
  ·next e _ _ _ _ xs ty1 r p1 hpt hsp hbk=>
   split at hs
   ·next td _ _ _ cs he hty hcs hle=>
    split at hs
    ·next bs hbs=>
     cases hs
     have hty:=Nat.eq_of_beq_eq_true hty
     subst hty
     rw[Nat.ble_eq] at hle
     obtain⟨f,d,h1,h2,h3,_⟩:=T.get hpt
     have:=tdOf_pointer h3.symm;subst this
     obtain⟨fe,de,k1,k2,k3,k4,_⟩:=T.get he
     have hA:okA φ a:=hp
     have hφ:(φ a.block).isSome=true:=by
      rcases hA with hA|hA|⟨_,hA⟩
      ·rw[hsp] at hA;cases hA
      ·exact hA.2
      ·rw[hsp] at hA;cases hA
     obtain⟨⟨c,b,ex⟩,hk⟩:=Option.isSome_iff_exists.1 hφ
     obtain⟨hkn,hnc,hcs'⟩:=R.dom _ _ _ _ hk
     obtain⟨ns,e1,e2⟩:=allBytes_some hbs
     subst e1 e2
     obtain⟨hlen,hcell⟩:=R.cellsAt hA (fun _=>hV _) hcs
     have hlen':ns.length=n+1:=by simpa using hlen
     have hren:renA φ a=⟨c,b+a.off,none⟩:=by simp only[renA,hsp,hk]
     have hxs:a.off+(n+1)≤xs.length:=by
      unfold H.cells at hcs
      simp only[hsp,hbk] at hcs
      split at hcs
      ·next hh=>simp only[Bool.and_eq_true,Nat.ble_eq] at hh;exact hh.1
      ·cases hcs
     rcases R.blk _ _ _ _ _ (hV _) hbk hk with⟨hx0,_⟩|⟨mcs,u,fz,L⟩
     ·subst hx0;simp at hxs
     obtain⟨hu,i,hi,hsz⟩:=L.room rfl
     rw[he] at hi;cases hi
     subst hu
     have hshape:w.shape? c=some (u,mcs.size):=by simp[World.shape?,L.block]
     have hcof:P.cellsOf u=1:=by simp[Program.cellsOf,k1,← k4]
     have hlies:=liesAt_row (P:=P) hcof (mcs.size / P.cellsOf u) (b+a.off) (n+1) (by rw[hcof,Nat.div_one];omega)
     have hload:=run_loadBytes_ints (P:=P) (w:=w) ns ⟨c,b+a.off,none⟩ .empty (fun j x hj=>by
      have:=(hcell j (.int .u8 x) (by rw[List.getElem?_map,hj];rfl)).1
      rw[hren] at this
      simpa [ren] using this)
     rw[hlen'] at hload
     have hrun:(Builtin.unsafeString_ #[pt,it] ty #[.pointer (some ⟨c,b+a.off,none⟩),.int .i64 (Int.ofNat (n+1))]).run P w=.ok (.string ⟨(ns.map fun n=>UInt8.ofNat n.toNat).toArray⟩) (w.freeze ⟨c,b+a.off,none⟩ (n+1)):=by
      rw[unsafeString_def]
      have hmax:IntKind.i64.max=9223372036854775807:=rfl
      have hneg:¬ ((n:Int)+1)<0:=by omega
      have h63:¬ (9223372036854775807:Int)<(n:Int)+1:=by omega
      have hne:¬ ((n:Int)+1=0):=by omega
      have htn:((n:Int)+1).toNat=n+1:=by omega
      simp[asInt,asIntOf,hmax,h63,hneg,hne,htn,variablesAt,hshape,elemOf,run_underlying h2,hlies,hload]
     have hfz:∀ d,d≠c→(w.freeze ⟨c,b+a.off,none⟩ (n+1)).heap[d]? = w.heap[d]? := by
      intro d hd
      simp only[World.freeze,Nat.succ_ne_zero,if_false,Array.getElem?_modify]
      rw[if_neg (fun e=>hd e.symm)]
     have hfs:(w.freeze ⟨c,b+a.off,none⟩ (n+1)).heap.size=w.heap.size:=by
      simp[World.freeze]
     have J:=R.drop r [] (fun j hj=>by cases hj)
     have hhid:∀ k B b' e',({ h with chains:=h.chains.set r [] }:H).blk k=some B→φ k=some (c,b',e')→B.hollow e'=true:=by
      intro k B b' e' hB hkk
      have hd:h.dyn.get k=some B:=H.blk_dyn (h:={ h with chains:=h.chains.set r [] }) hB
      have hold:h.blk k=some B∧∀ zs u' p',B≠.cells zs u' (some (r,p')):=by
       cases B with
       | cells zs u' rt=>
        cases rt with
        | none=>exact⟨by unfold H.blk;rw[hd],fun _ _ _ he=>by cases he⟩
        | some rq=>
         obtain⟨r',q⟩:=rq
         have hm:=blk_root hB
         rw[chain_set] at hm
         split at hm
         ·cases hm
         ·next hne=>exact⟨by rw[blk_of hd,if_pos (by simpa using hm)],fun _ _ _ he=>by cases he;exact hne rfl⟩
       | _=>exact⟨by unfold H.blk;rw[hd],fun _ _ _ he=>by cases he⟩
      cases hh:B.hollow e' with
      | true=>rfl
      | false=>
       exfalso
       by_cases ek:k=a.block
       ·subst ek
        rw[hbk] at hold
        exact hold.2 _ _ _ (Option.some.inj hold.1).symm
       ·have hnh2:(Blk.cells xs u (some (r,p1))).hollow ex=false:=by
         cases xs with
         | nil=>simp at hxs
         | cons _ _=>rfl
        obtain⟨zs,tz,rr,pz,xs',ty',p',hB1,hB2,_⟩:=R.apart _ _ _ _ _ _ _ _ _ ek hold.1 hbk hh hnh2 hkk hk
        cases hB2
        exact hold.2 _ _ _ hB1
     have J2:=J.free c hnc hhid hfs hfz
     refine⟨φ,w.freeze ⟨c,b+a.off,none⟩ (n+1),?_,trivial,J2.note _,Ext.same (by rw[H.note_next]),⟨rfl,rfl,rfl,by rw[hfs];exact Nat.le_refl _,fun d _ hnd=>hfz d (fun e=>hnd a.block b ex (e▸hk))⟩⟩
     have e3:ren φ (.pointer (some a))=.pointer (some ⟨c,b+a.off,none⟩):=by rw[ren_pointer,hren]
     rw[e3,ren_int]
     exact hrun
    ·cases hs
   ·cases hs
  ·cases hs
 ·cases hs
end ops
end Go.Hs
