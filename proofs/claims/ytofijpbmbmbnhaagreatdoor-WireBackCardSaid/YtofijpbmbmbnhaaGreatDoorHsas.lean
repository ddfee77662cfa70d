/- What is known of the functions, layer on layer, for the law on what is read back. -/
import Derived.Test.YtofijpbmbmbnhaaGreatDoorHsar
import Derived.Test.YtofijpbmbmbnhaaGreatDoorRows
import Derived.ProofKit
import Derived.LaidMore
import Derived.OpenShut
import Derived.Stop.Joined
import Derived.Test.YtofijpbmbmbnhaaGreatDoorTie
import Derived.Test.YtofijpbmbmbnhaaGreatDoorCards
import Derived.SevenTiedAt
set_option linter.unusedSimpArgs false
set_option linter.unusedVariables false
set_option maxRecDepth 100000
set_option maxHeartbeats 4000000
namespace Go.Proofs.YtofijpbmbmbnhaaGreatDoor
open Go Go.Hs Go.Proofs
theorem CZ {S:Lb} {I:Aa} {f:FuncId} {args:List Value} {h:H} {fs:List Nat} (hS:∀ s f args h v,S s f args h v->f∈fs) (hf:fs.any (Nat.beq f)=false):Cy S I f args h=I f args h:=by
 unfold Cy;rw[dif_neg];rintro⟨v,s,h1⟩;rw[List.any_eq_false] at hf;exact hf f (hS _ _ _ _ _ h1) (by simp)
theorem NC {f:FuncId} {args:List Value} {h:H} (hf:([118,133]:List Nat).any (Nat.beq f)=false):I0 f args h=none:=by
 simp only[List.any_cons,List.any_nil,Y2] at hf;unfold I0;rw[hf.1,hf.2.1]
variable {n0:Nat}
noncomputable def B35 (E:Env):Aa:=Cy (PP E) (I0)
theorem Om {E:Env} {f:FuncId} {args:List Value} {h:H} (hf:([44]:List Nat).any (Nat.beq f)=false):B35 E f args h=(I0) f args h:=CZ (fs:=[44]) (fun s f args h v hs=>by rw[hs.1];exact H1.2 rfl) hf
theorem Xe (E:Env):Aw Tryz.prog tab E n0 (B35 E):=Bd EG HG (Yc E n0) (ZK (fun f args h hf=>by rcases hf with rfl|rfl|rfl|rfl<;>exact NC (by decide)))
theorem IC {E:Env} {f:FuncId} {args:List Value} {h:H} (hf:([44,118,133]:List Nat).any (Nat.beq f)=false):B35 E f args h=none:=by
 rw[show ([44,118,133]:List Nat)=[44]++[118,133] from rfl,E5,Y2] at hf;exact (Om hf.1).trans (NC hf.2)
noncomputable def Bev (E:Env):Aa:=Yk tab E [80,81,82] (B35 E)
theorem Ld {E:Env} {f:FuncId} {args:List Value} {h:H} (hf:([80,81,82]:List Nat).any (Nat.beq f)=false):Bev E f args h=(B35 E) f args h:=AAB hf
theorem Xa (E:Env):Aw Tryz.prog tab E n0 (Bev E):=UK EG HG (Xe E)
theorem QH {E:Env} {f:FuncId} {args:List Value} {h:H} (hf:([80,81,82,44,118,133]:List Nat).any (Nat.beq f)=false):Bev E f args h=none:=by
 rw[show ([80,81,82,44,118,133]:List Nat)=[80,81,82]++[44,118,133] from rfl,E5,Y2] at hf;exact (Ld hf.1).trans (IC hf.2)
theorem AGm (E:Env) (a b:Int) (h:H):Bev E 81 [.int .i64 a,.int .i64 b] h=some (some (.int .i64 (EC a b),h)):=by
 obtain⟨n,hn⟩:=call105 (E:=E) (I:=B35 E) (fun f args h hf=>by rcases hf with rfl|rfl<;>exact IC (by decide)) a b h;exact OO (by decide) hn
theorem AGl (E:Env) (a b:ByteArray) (h:H):Bev E 82 [.string a,.string b] h=some (some (.int .i64 (cmpL a.data.toList b.data.toList),h)):=by
 obtain⟨n,hn⟩:=call106 (E:=E) (I:=B35 E) (fun f args h hf=>by rcases hf with rfl|rfl<;>exact IC (by decide)) (fun a b h=>((Om (by decide)).trans (rfl))) a b h;exact OO (by decide) hn
theorem AGn (E:Env) (l:List Int) {k:Nat} {rt:Option (Nat×Nat)} {h:H} (hl:l.length<=1000) (hb:h.blk k=some (.cells (l.map (Value.int .i64)) 3 rt)):Bev E 80 [.slice (some (own k)) l.length l.length] h=some (some (.int .i64 (orL l),h)):=by
 obtain⟨n,hn⟩:=call104 (E:=E) (I:=B35 E) (fun a h=>IC (by decide)) l hl hb;exact OO (by decide) hn
noncomputable def B66 (E:Env):Aa:=Cy (DC E) (Bev E)
theorem Lf {E:Env} {f:FuncId} {args:List Value} {h:H} (hf:([52,83]:List Nat).any (Nat.beq f)=false):B66 E f args h=(Bev E) f args h:=CZ (fs:=[52,83]) (fun s f args h v hs=>by rcases hs with⟨rfl,_⟩|⟨rfl,_⟩<;>decide) hf
theorem Xc (E:Env):Aw Tryz.prog tab E n0 (B66 E):=Bd EG HG (Xa E) (ZI (fun f args h hf=>by rcases hf with rfl|rfl<;>exact QH (by decide)) (fun a b h=>AGm E a b h) (fun a b h=>AGl E a b h) (fun l k rt h hl hb=>AGn E l hl hb))
theorem QJ {E:Env} {f:FuncId} {args:List Value} {h:H} (hf:([52,83,80,81,82,44,118,133]:List Nat).any (Nat.beq f)=false):B66 E f args h=none:=by
 rw[show ([52,83,80,81,82,44,118,133]:List Nat)=[52,83]++[80,81,82,44,118,133] from rfl,E5,Y2] at hf;exact (Lf hf.1).trans (QH hf.2)
noncomputable def B65 (E:Env):Aa:=Cy (PO E) (B66 E)
theorem Lh {E:Env} {f:FuncId} {args:List Value} {h:H} (hf:([47]:List Nat).any (Nat.beq f)=false):B65 E f args h=(B66 E) f args h:=CZ (fs:=[47]) (fun s f args h v hs=>by rw[hs.1];exact H1.2 rfl) hf
theorem Xd (E:Env):Aw Tryz.prog tab E n0 (B65 E):=Bd EG HG (Xc E) (ZJ (fun a h=>QJ (by decide)) (fun t xv h hr hz=>((Lf (by decide)).trans ((Ld (by decide)).trans (Bc (ABm E) ⟨rfl,rfl,t,xv,rfl,hr,hz,rfl⟩)))))
theorem QK {E:Env} {f:FuncId} {args:List Value} {h:H} (hf:([47,52,83,80,81,82,44,118,133]:List Nat).any (Nat.beq f)=false):B65 E f args h=none:=by
 rw[show ([47,52,83,80,81,82,44,118,133]:List Nat)=[47]++[52,83,80,81,82,44,118,133] from rfl,E5,Y2] at hf;exact (Lh hf.1).trans (QJ hf.2)
noncomputable def B27 (E:Env):Aa:=Cy (PQ E) (B65 E)
theorem Li {E:Env} {f:FuncId} {args:List Value} {h:H} (hf:([27]:List Nat).any (Nat.beq f)=false):B27 E f args h=(B65 E) f args h:=CZ (fs:=[27]) (fun s f args h v hs=>by rw[hs.1];exact H1.2 rfl) hf
theorem Xf (E:Env):Aw Tryz.prog tab E n0 (B27 E):=Bd EG HG (Xd E) (ZL (fun a h=>QK (by decide)) (fun ks sl h hr hz=>(Bc (ABl E) ⟨rfl,rfl,ks,sl,rfl,hr,hz,rfl⟩)) (fun t xv u yv h hr hr' hz=>((Lh (by decide)).trans (Bc (ABk E) (.inl ⟨rfl,t,xv,u,yv,rfl,hr,hr',hz,rfl,rfl⟩)))))
theorem QL {E:Env} {f:FuncId} {args:List Value} {h:H} (hf:([27,47,52,83,80,81,82,44,118,133]:List Nat).any (Nat.beq f)=false):B27 E f args h=none:=by
 rw[show ([27,47,52,83,80,81,82,44,118,133]:List Nat)=[27]++[47,52,83,80,81,82,44,118,133] from rfl,E5,Y2] at hf;exact (Li hf.1).trans (QK hf.2)
noncomputable def B14 (E:Env):Aa:=Cy (CJ E) (B27 E)
theorem JN {E:Env} {f:FuncId} {args:List Value} {h:H} (hf:([18,56,86,58]:List Nat).any (Nat.beq f)=false):B14 E f args h=(B27 E) f args h:=CZ (fs:=[18,56,86,58]) (fun s f args h v hs=>by rcases hs with⟨rfl,_⟩|⟨rfl,_⟩|⟨rfl,_⟩|⟨rfl,_⟩<;>decide) hf
theorem Xg (E:Env):Aw Tryz.prog tab E n0 (B14 E):=Bd EG HG (Xf E) (Vg (fun f args h hf=>by rcases hf with rfl|rfl|rfl|rfl|rfl<;>exact QL (by decide)))
theorem QM {E:Env} {f:FuncId} {args:List Value} {h:H} (hf:([18,56,86,58,27,47,52,83,80,81,82,44,118,133]:List Nat).any (Nat.beq f)=false):B14 E f args h=none:=by
 rw[show ([18,56,86,58,27,47,52,83,80,81,82,44,118,133]:List Nat)=[18,56,86,58]++[27,47,52,83,80,81,82,44,118,133] from rfl,E5,Y2] at hf;exact (JN hf.1).trans (QL hf.2)
noncomputable def ACb (E:Env):Aa:=Cy (KY) (B14 E)
theorem Fk {E:Env} {f:FuncId} {args:List Value} {h:H} (hf:([95,96]:List Nat).any (Nat.beq f)=false):ACb E f args h=(B14 E) f args h:=CZ (fs:=[95,96]) (fun s f args h v hs=>by rcases hs with⟨rfl,_⟩|⟨rfl,_⟩<;>decide) hf
theorem VE (E:Env):Aw Tryz.prog tab E n0 (ACb E):=Bd EG HG (Xg E) (Vj (fun f args h hf=>by rcases hf with rfl|rfl<;>exact QM (by decide)))
theorem NU {E:Env} {f:FuncId} {args:List Value} {h:H} (hf:([95,96,18,56,86,58,27,47,52,83,80,81,82,44,118,133]:List Nat).any (Nat.beq f)=false):ACb E f args h=none:=by
 rw[show ([95,96,18,56,86,58,27,47,52,83,80,81,82,44,118,133]:List Nat)=[95,96]++[18,56,86,58,27,47,52,83,80,81,82,44,118,133] from rfl,E5,Y2] at hf;exact (Fk hf.1).trans (QM hf.2)
noncomputable def B99 (E:Env):Aa:=Cy (PN) (ACb E)
theorem FU {E:Env} {f:FuncId} {args:List Value} {h:H} (hf:([93]:List Nat).any (Nat.beq f)=false):B99 E f args h=(ACb E) f args h:=CZ (fs:=[93]) (fun s f args h v hs=>by rw[hs.1];exact H1.2 rfl) hf
theorem Xb (E:Env) (hP:XW E):Aw Tryz.prog tab E n0 (B99 E):=Bd EG HG (VE E) (ZH hP (fun f args h hf=>by rcases hf with rfl|rfl|rfl|rfl|rfl|rfl|rfl|rfl|rfl<;>exact NU (by decide)))
theorem QI {E:Env} {f:FuncId} {args:List Value} {h:H} (hf:([93,95,96,18,56,86,58,27,47,52,83,80,81,82,44,118,133]:List Nat).any (Nat.beq f)=false):B99 E f args h=none:=by
 rw[show ([93,95,96,18,56,86,58,27,47,52,83,80,81,82,44,118,133]:List Nat)=[93]++[95,96,18,56,86,58,27,47,52,83,80,81,82,44,118,133] from rfl,E5,Y2] at hf;exact (FU hf.1).trans (NU hf.2)
noncomputable def ACa (E:Env):Aa:=Cy (KW) (B99 E)
theorem DL {E:Env} {f:FuncId} {args:List Value} {h:H} (hf:([137]:List Nat).any (Nat.beq f)=false):ACa E f args h=(B99 E) f args h:=CZ (fs:=[137]) (fun s f args h v hs=>by rw[hs.1];exact H1.2 rfl) hf
theorem VB (E:Env) (hP:XW E):Aw Tryz.prog tab E n0 (ACa E):=Bd EG HG (Xb E hP) (Vh (fun f args h hf=>by rcases hf with rfl|rfl|rfl<;>exact QI (by decide)))
theorem NT {E:Env} {f:FuncId} {args:List Value} {h:H} (hf:([137,93,95,96,18,56,86,58,27,47,52,83,80,81,82,44,118,133]:List Nat).any (Nat.beq f)=false):ACa E f args h=none:=by
 rw[show ([137,93,95,96,18,56,86,58,27,47,52,83,80,81,82,44,118,133]:List Nat)=[137]++[93,95,96,18,56,86,58,27,47,52,83,80,81,82,44,118,133] from rfl,E5,Y2] at hf;exact (DL hf.1).trans (QI hf.2)
noncomputable def AAa (E:Env):Aa:=Cy (KX) (ACa E)
theorem Cu {E:Env} {f:FuncId} {args:List Value} {h:H} (hf:([136,138]:List Nat).any (Nat.beq f)=false):AAa E f args h=(ACa E) f args h:=CZ (fs:=[136,138]) (fun s f args h v hs=>by rcases hs with⟨rfl,_⟩|⟨rfl,_⟩<;>decide) hf
theorem VD (E:Env) (hP:XW E):Aw Tryz.prog tab E n0 (AAa E):=Bd EG HG (VB E hP) (Vi (fun f args h hf=>by rcases hf with rfl|rfl|rfl<;>exact NT (by decide)) (fun a b c lost x h ha hb hc=>(Bc YW ⟨rfl,rfl,a,b,c,lost,x,⟨ha,hb,hc⟩,rfl,rfl⟩)))
theorem VC {E:Env} {f:FuncId} {args:List Value} {h:H} (hf:([136,138,137,93,95,96,18,56,86,58,27,47,52,83,80,81,82,44,118,133]:List Nat).any (Nat.beq f)=false):AAa E f args h=none:=by
 rw[show ([136,138,137,93,95,96,18,56,86,58,27,47,52,83,80,81,82,44,118,133]:List Nat)=[136,138]++[137,93,95,96,18,56,86,58,27,47,52,83,80,81,82,44,118,133] from rfl,E5,Y2] at hf;exact (Cu hf.1).trans (NT hf.2)
noncomputable def XZ (E:Env):Aa:=fun f args h=>match Nat.beq f 7,args with
 | true,[]=>some (some (.bool true,h))
 | true,_=>none
 | false,_=>(AAa E) f args h
theorem CR {E:Env} {f:FuncId} {args:List Value} {h:H} (hf:([7]:List Nat).any (Nat.beq f)=false):XZ E f args h=(AAa E) f args h:=by
 have:Nat.beq f 7=false:=by simpa using hf
 unfold XZ;rw[this]
theorem VA {E:Env} (hE:∀ b o v,E0 b o=some v->E b o=some v) (hP:XW E):Aw Tryz.prog tab E n0 (XZ E):=by
 have key:∀ {f args h r},XZ E f args h=some (some r)->(f=7/\args=[]/\r=(.bool true,h))\/AAa E f args h=some (some r):=by
  intro f args h r hh;unfold XZ at hh;split at hh
  ·next e=>cases hh;exact .inl ⟨U0 e,rfl,rfl⟩
  ·cases hh
  ·exact .inr hh
 have hB:=VD (n0:=n0) E hP;refine⟨fun f args h r h' hi φ w R hok => ?_,fun f args h r h' hi o => ?_,fun f args h r h' hi => ?_⟩
 ·rcases key hi with⟨rfl,rfl,he⟩|h1
  ·cases he;exact Uh hE R
  ·exact hB.sim _ _ _ _ _ h1 φ w R hok
 ·rcases key hi with⟨rfl,rfl,he⟩|h1
  ·cases he;exact Lg.refl o
  ·exact hB.lg _ _ _ _ _ h1 o
 ·rcases key hi with⟨rfl,rfl,he⟩|h1
  ·cases he;exact C0 _
  ·exact hB.next _ _ _ _ _ h1
theorem U9 {E:Env} {f:FuncId} {args:List Value} {h:H} (hf:([7,136,138,137,93,95,96,18,56,86,58,27,47,52,83,80,81,82,44,118,133]:List Nat).any (Nat.beq f)=false):XZ E f args h=none:=by
 rw[show ([7,136,138,137,93,95,96,18,56,86,58,27,47,52,83,80,81,82,44,118,133]:List Nat)=[7]++[136,138,137,93,95,96,18,56,86,58,27,47,52,83,80,81,82,44,118,133] from rfl,E5,Y2] at hf;exact (CR hf.1).trans (VC hf.2)
theorem kn4 (E:Env):Kn4 E (XZ E) where
 out:=fun f args h hf=>by
  simp only[O1,C1,or_false] at hf;rcases hf with rfl|rfl|rfl|rfl|rfl|rfl|rfl|rfl|rfl|rfl|rfl|rfl|rfl|rfl|rfl|rfl|rfl|rfl|rfl|rfl|rfl|rfl|rfl|rfl|rfl|rfl|rfl|rfl|rfl|rfl|rfl|rfl|rfl|rfl|rfl|rfl|rfl|rfl|rfl|rfl|rfl|rfl|rfl|rfl|rfl|rfl|rfl|rfl|rfl|rfl|rfl|rfl|rfl<;>exact U9 (by decide)
 k7:=fun h=>rfl
 kc:=⟨fun t xv h hr hz=>((CR (by decide)).trans ((Cu (by decide)).trans ((DL (by decide)).trans ((FU (by decide)).trans ((Fk (by decide)).trans ((JN (by decide)).trans ((Li (by decide)).trans ((Lh (by decide)).trans ((Lf (by decide)).trans ((Ld (by decide)).trans (Bc (ABm E) ⟨rfl,rfl,t,xv,rfl,hr,hz,rfl⟩))))))))))),fun ks sl h hr hz=>((CR (by decide)).trans ((Cu (by decide)).trans ((DL (by decide)).trans ((FU (by decide)).trans ((Fk (by decide)).trans ((JN (by decide)).trans ((Li (by decide)).trans (Bc (ABl E) ⟨rfl,rfl,ks,sl,rfl,hr,hz,rfl⟩))))))))⟩
 kp:=⟨⟨fun c h=>((CR (by decide)).trans ((Cu (by decide)).trans ((DL (by decide)).trans ((FU (by decide)).trans (Bc YY (.inl ⟨rfl,rfl,c,rfl,rfl⟩)))))),fun c h=>((CR (by decide)).trans ((Cu (by decide)).trans ((DL (by decide)).trans ((FU (by decide)).trans (Bc YY (.inr ⟨rfl,rfl,c,rfl,rfl⟩))))))⟩,fun args h=>((CR (by decide)).trans ((Cu (by decide)).trans ((DL (by decide)).trans ((FU (by decide)).trans ((Fk (by decide)).trans ((JN (by decide)).trans ((Li (by decide)).trans ((Lh (by decide)).trans ((Lf (by decide)).trans ((Ld (by decide)).trans ((Om (by decide)).trans (rfl)))))))))))),fun m h hm=>((CR (by decide)).trans ((Cu (by decide)).trans ((DL (by decide)).trans (Bc ADm ⟨rfl,rfl,m,rfl,hm,rfl⟩))))⟩
 k137:=fun a b c lost x h ha hb hc=>((CR (by decide)).trans ((Cu (by decide)).trans (Bc YW ⟨rfl,rfl,a,b,c,lost,x,⟨ha,hb,hc⟩,rfl,rfl⟩)))
 k136:=⟨fun x0 x1 x2 x3 x4 x5 x6 x7 h=>((CR (by decide)).trans (Bc YX (.inl ⟨rfl,rfl,x0,x1,x2,x3,x4,x5,x6,x7,rfl,rfl⟩))),fun x0 x1 x2 x3 x4 x5 x6 x7 h=>((CR (by decide)).trans (Bc YX (.inr ⟨rfl,rfl,x0,x1,x2,x3,x4,x5,x6,x7,rfl,rfl⟩)))⟩
 k14:=fun t u xv yv h hr hr' hl hz=>((CR (by decide)).trans ((Cu (by decide)).trans ((DL (by decide)).trans ((FU (by decide)).trans ((Fk (by decide)).trans (Bc (YV E) (.inl ⟨rfl,t,u,xv,yv,0,rfl,hr,hr',by decide,by omega,hz,rfl,rfl⟩)))))))
 k27:=fun t xv u yv h hr hr' hz hz'=>((CR (by decide)).trans ((Cu (by decide)).trans ((DL (by decide)).trans ((FU (by decide)).trans ((Fk (by decide)).trans ((JN (by decide)).trans (Bc (ADn E) ⟨rfl,rfl,t,xv,u,yv,rfl,hr,hr',hz,hz',rfl⟩)))))))
open Go Go.Hs Go.Proofs Go.ChangeShapes Go.WideShapes Go.ChangeAt Go.WideMaps Go.WideElems Go.RowKit
theorem WH:ownKnob Tryz.prog.godebug=none:=by kernel_rfl
theorem AFt:Tryz.prog.globalNamed "internal/strconv.uint64pow10" = some 3:=by kernel_rfl
theorem AFu:Tryz.prog.globalNamed "hoarstone/sum.constants" = some 1:=by kernel_rfl
theorem AFv:Tryz.prog.globalNamed "hoarstone/sum.begin" = some 0:=by kernel_rfl
theorem kids:Kids Tryz.prog (· < Tryz.prog.types.size):=kids_rows (by kernel_rfl) (by kernel_rfl)
theorem full:∀ t e,t<Tryz.prog.types.size->Tryz.prog.underlying t=some (.slice e)->0<Tryz.prog.cellsOf e:=slices_full_of Tryz.prog (by kernel_rfl)
def OF:List (String×DataW Unit):=[("math/bits.deBruijn32tab", Rows.laid_math_bits_deBruijn32tab),("math/bits.deBruijn64tab", Rows.laid_math_bits_deBruijn64tab),("internal/strconv.uint64pow10", Rows.laid_internal_strconv_uint64pow10),("hoarstone/sum.constants", Rows.laid_hoarstone_sum_constants),("hoarstone/sum.begin", Rows.laid_hoarstone_sum_begin)]
theorem take_one {α:Type} {l:List α} {i:Nat} {x:α} (h:(l.drop i).take 1=[x]):l[i]? = some x:=by
 rw[<- List.head?_drop];cases hd:l.drop i with
 | nil=>rw[hd] at h;cases h
 | cons y ys=>rw[hd] at h;simp at h;rw[h];rfl
def ADi:List (DataW Unit):=[.lit (.int .u64 1),.lit (.int .u64 10),.lit (.int .u64 100),.lit (.int .u64 1000),.lit (.int .u64 10000),.lit (.int .u64 100000),.lit (.int .u64 1000000),.lit (.int .u64 10000000),.lit (.int .u64 100000000),.lit (.int .u64 1000000000),.lit (.int .u64 10000000000),.lit (.int .u64 100000000000),.lit (.int .u64 1000000000000),.lit (.int .u64 10000000000000),.lit (.int .u64 100000000000000),.lit (.int .u64 1000000000000000),.lit (.int .u64 10000000000000000),.lit (.int .u64 100000000000000000),.lit (.int .u64 1000000000000000000),.lit (.int .u64 10000000000000000000)]
theorem WD:∀ i:Nat,i<20->ADi[i]? = some (.lit (.int .u64 ((10 ^ i:Nat):Int)))
 | 0,_=>rfl|1,_=>rfl|2,_=>rfl|3,_=>rfl|4,_=>rfl|5,_=>rfl|6,_=>rfl|7,_=>rfl|8,_=>rfl|9,_=>rfl
 | 10,_=>rfl|11,_=>rfl|12,_=>rfl|13,_=>rfl|14,_=>rfl|15,_=>rfl|16,_=>rfl|17,_=>rfl|18,_=>rfl|19,_=>rfl
 | i+20,h=>absurd h (by omega)
theorem ZY:(DataW.agg ADi:DataW Unit)=Rows.laid_internal_strconv_uint64pow10:=rfl
def ACj:List (DataW Unit):=Rj.map fun w=>.lit (.int .u32 (w.toNat:Nat))
def ACn:List (DataW Unit):=begin8.list.map fun w=>.lit (.int .u32 (w.toNat:Nat))
theorem Zn:(DataW.agg ACj:DataW Unit)=Rows.laid_hoarstone_sum_constants:=by kernel_rfl
theorem AAN:(DataW.agg ACn:DataW Unit)=Rows.laid_hoarstone_sum_begin:=by kernel_rfl
theorem WU (i:Nat) (hi:i<64):ACj[i]? = some (.lit (.int .u32 ((Rj.getD i 0).toNat:Nat))):=by
 have hl:i<Rj.length:=hi;rw[ACj,J3,Q0 hl,List.getD_eq_getElem?_getD,Q0 hl];rfl
theorem Wy (i:Nat) (hi:i<8):ACn[i]? = some (.lit (.int .u32 ((begin8.list.getD i 0).toNat:Nat))):=by
 have hl:i<begin8.list.length:=hi;rw[ACn,J3,Q0 hl,List.getD_eq_getElem?_getD,Q0 hl];rfl
/-! What the listed variables give. -/
theorem Zh {W:World} (h:laidMetH Tryz.prog OF W):∀ i:Nat,i<20->W.cell? ⟨3,i,none⟩=some (.int .u64 ((10 ^ i:Nat):Int)):=by
 intro i hi;rw[MakeChecks.laidMetH_plain _ _ _ (by kernel_rfl)] at h;obtain⟨ps,⟨g0,t0,cs0,f0,p0,q0,hg0,ht0,hv0,hd0,⟨g1,t1,cs1,f1,p1,q1,hg1,ht1,hv1,hd1,⟨g2,t2,cs2,f2,p2,q2,hg2,ht2,hv2,hd2,⟨g3,t3,cs3,f3,p3,q3,hg3,ht3,hv3,hd3,⟨g4,t4,cs4,f4,p4,q4,hg4,ht4,hv4,hd4,_,_⟩,_⟩,_⟩,_⟩,_⟩,_,_⟩:=h;obtain rfl:=Option.some.inj (AFt.symm.trans hg2);obtain rfl:=Option.some.inj ((show (Tryz.prog.globals[3]?).map (·.type)=some 204 by kernel_rfl).symm.trans ht2);obtain⟨xs,m,_,hx,_,_,hel⟩:=DataW.trod_array Tryz.underlying204 hd2;have c99:Tryz.prog.cellsOf 93=1:=by kernel_rfl
 have h2:=hel i hi;rw[c99] at h2;simp only[Prod.mk.injEq] at hx;have hx1:xs.map (·.1)=ADi:=by
  have e:DataW.agg (xs.map (·.1))=Rows.laid_internal_strconv_uint64pow10:=hx.1.symm;rw[<- ZY] at e;exact DataW.agg.inj e
 have h3:(xs.map (·.1))[i]? = some (.lit (.int .u64 ((10 ^ i:Nat):Int))):=by rw[hx1];exact WD i hi
 rw[J3] at h3;obtain⟨y,hy,hy1⟩:=I2.1 h3;rw[hy] at h2;obtain⟨k,e1,e2,_⟩:=DataW.trod_int Tryz.underlying93 h2;have hk:k=((10 ^ i:Nat):Int):=by
  rw[e2] at hy1;simpa using hy1
 subst hk;have hc:=World.var?_cell hg2 hv2 i;rw[hc];obtain⟨l⟩:=cs2;have e1:(l.drop i).take 1=[.int .u64 ((10 ^ i:Nat):Int)]:=by simpa using e1
 have:=take_one e1;simpa using this
theorem ABn {W:World} (h:laidMetH Tryz.prog OF W):∀ i:Nat,i<64->W.cell? ⟨1,i,none⟩=some (.int .u32 ((Rj.getD i 0).toNat:Nat)):=by
 intro i hi;rw[MakeChecks.laidMetH_plain _ _ _ (by kernel_rfl)] at h;obtain⟨ps,⟨g0,t0,cs0,f0,p0,q0,hg0,ht0,hv0,hd0,⟨g1,t1,cs1,f1,p1,q1,hg1,ht1,hv1,hd1,⟨g2,t2,cs2,f2,p2,q2,hg2,ht2,hv2,hd2,⟨g3,t3,cs3,f3,p3,q3,hg3,ht3,hv3,hd3,⟨g4,t4,cs4,f4,p4,q4,hg4,ht4,hv4,hd4,_,_⟩,_⟩,_⟩,_⟩,_⟩,_,_⟩:=h;obtain rfl:=Option.some.inj (AFu.symm.trans hg3);obtain rfl:=Option.some.inj ((show (Tryz.prog.globals[1]?).map (·.type)=some 180 by kernel_rfl).symm.trans ht3);obtain⟨xs,m,_,hx,_,_,hel⟩:=DataW.trod_array Tryz.underlying180 hd3;have c99:Tryz.prog.cellsOf 104=1:=by kernel_rfl
 have h2:=hel i hi;rw[c99] at h2;simp only[Prod.mk.injEq] at hx;have hx1:xs.map (·.1)=ACj:=by
  have e:DataW.agg (xs.map (·.1))=Rows.laid_hoarstone_sum_constants:=hx.1.symm;rw[<- Zn] at e;exact DataW.agg.inj e
 have h3:(xs.map (·.1))[i]? = some (.lit (.int .u32 ((Rj.getD i 0).toNat:Nat))):=by rw[hx1];exact WU i hi
 rw[J3] at h3;obtain⟨y,hy,hy1⟩:=I2.1 h3;rw[hy] at h2;obtain⟨k,e1,e2,_⟩:=DataW.trod_int Tryz.underlying104 h2;have hk:k=((Rj.getD i 0).toNat:Nat):=by
  rw[e2] at hy1;simpa using hy1
 subst hk;have hc:=World.var?_cell hg3 hv3 i;rw[hc];obtain⟨l⟩:=cs3;have e1:(l.drop i).take 1=[.int .u32 ((Rj.getD i 0).toNat:Nat)]:=by simpa using e1
 have:=take_one e1;simpa using this
theorem ABo {W:World} (h:laidMetH Tryz.prog OF W):∀ i:Nat,i<8->W.cell? ⟨0,i,none⟩=some (.int .u32 ((begin8.list.getD i 0).toNat:Nat)):=by
 intro i hi;rw[MakeChecks.laidMetH_plain _ _ _ (by kernel_rfl)] at h;obtain⟨ps,⟨g0,t0,cs0,f0,p0,q0,hg0,ht0,hv0,hd0,⟨g1,t1,cs1,f1,p1,q1,hg1,ht1,hv1,hd1,⟨g2,t2,cs2,f2,p2,q2,hg2,ht2,hv2,hd2,⟨g3,t3,cs3,f3,p3,q3,hg3,ht3,hv3,hd3,⟨g4,t4,cs4,f4,p4,q4,hg4,ht4,hv4,hd4,_,_⟩,_⟩,_⟩,_⟩,_⟩,_,_⟩:=h;obtain rfl:=Option.some.inj (AFv.symm.trans hg4);obtain rfl:=Option.some.inj ((show (Tryz.prog.globals[0]?).map (·.type)=some 105 by kernel_rfl).symm.trans ht4);obtain⟨xs,m,_,hx,_,_,hel⟩:=DataW.trod_array Tryz.underlying105 hd4;have c99:Tryz.prog.cellsOf 104=1:=by kernel_rfl
 have h2:=hel i hi;rw[c99] at h2;simp only[Prod.mk.injEq] at hx;have hx1:xs.map (·.1)=ACn:=by
  have e:DataW.agg (xs.map (·.1))=Rows.laid_hoarstone_sum_begin:=hx.1.symm;rw[<- AAN] at e;exact DataW.agg.inj e
 have h3:(xs.map (·.1))[i]? = some (.lit (.int .u32 ((begin8.list.getD i 0).toNat:Nat))):=by rw[hx1];exact Wy i hi
 rw[J3] at h3;obtain⟨y,hy,hy1⟩:=I2.1 h3;rw[hy] at h2;obtain⟨k,e1,e2,_⟩:=DataW.trod_int Tryz.underlying104 h2;have hk:k=((begin8.list.getD i 0).toNat:Nat):=by
  rw[e2] at hy1;simpa using hy1
 subst hk;have hc:=World.var?_cell hg4 hv4 i;rw[hc];obtain⟨l⟩:=cs4;have e1:(l.drop i).take 1=[.int .u32 ((begin8.list.getD i 0).toNat:Nat)]:=by simpa using e1
 have:=take_one e1;simpa using this
theorem NH {HH:Type} {enc:TypeId×Value->HH} {W:World} {base:Nat} {v:Value} {d:DataW HH} {p:List MemPlace} (hv:Value.okWide Tryz.prog W .any base 44 v) (h:DataW.Trod enc Tryz.prog W 0 (fun _=>true) true 44 v d p) :
  ∃ x bs,Bin (EA W) H.empty x bs/\okV (fun _=>none) x/\ren (fun _=>none) x=v:=by
 obtain⟨a,len,cap,rfl⟩:=okWide_slice Tryz.underlying44 hv;obtain⟨fuel,hf⟩:=h;obtain⟨c0,he,hfo,bs,hb⟩:=LL Tryz.underlying44 Tryz.underlying5 (by kernel_rfl) H.empty hf;have hc:c0=.slice a len cap:=by
  have he:[Value.slice a len cap]=[c0]:=he;exact (List.cons.inj he).1.symm
 subst hc;exact⟨_,bs,hb,(foV.ok _ hfo).1,US hfo⟩
theorem call4 {W:World} (hL:∀ i:Nat,i<20->W.cell? ⟨3,i,none⟩=some (.int .u64 ((10 ^ i:Nat):Int))) (hC:∀ i:Nat,i<64->W.cell? ⟨1,i,none⟩=some (.int .u32 ((Rj.getD i 0).toNat:Nat))) (hG:∀ i:Nat,i<8->W.cell? ⟨0,i,none⟩=some (.int .u32 ((begin8.list.getD i 0).toNat:Nat))) {x y v u:Value} {l0 l1:List Int} (hx:Bin (EA W) H.empty x l0) (ox:okV (fun _=>none) x) (rx:ren (fun _=>none) x=v) (hy:Bin (EA W) H.empty y l1) (oy:okV (fun _=>none) y) (ry:ren (fun _=>none) y=u) :
  Calls Tryz.prog 4 #[v,u] W fun e W'=>e=.returned (.bool true)/\Kept (fun _=>none) W W':=by
 have hP:XW (EA W):=fun i hi=>Hy (hL i hi) rfl;have hK:KT (EA W):=fun i hi=>Hy (hC i hi) rfl;have hB:BT (EA W):=fun i hi=>Hy (hG i hi) rfl;have hE:∀ b o z,E0 b o=some z->EA W b o=some z:=by
  intro b o z hz;unfold E0 at hz;split at hz
  ·next e=>
   cases hz;rw[K0] at e;obtain rfl:=U0 e.1;obtain rfl:=U0 e.2;exact hP 2 (by decide)
  ·cases hz
 obtain⟨n,h',hw⟩:=ACx (kn4 (EA W)) hK hB hx hy;cases n with
 | zero=>cases hw
 | succ n=>
  have hc:Dh tab (EA W) (XZ (EA W)) (ev tab (EA W) (XZ (EA W)) n) 4 [x,y] H.empty=some (.bool true,h'):=hw;have R:Tie tab (EA W) W.heap.size All (fun _=>none) H.empty W:=Tie.start (fun b o z hz=>Wj hz) (C0 _)
  have:=Mm EG (Qr EG HG (VA (n0:=W.heap.size) hE hP) n) ((kn4 (EA W)).out _ _ _ (by simp)) hc R (by
   intro q hq;simp only[O1,C1,or_false] at hq;rcases hq with rfl|rfl
   ·exact ox
   ·exact oy)
  have ea:(([x,y]:List Value).map (ren fun _=>none)).toArray=#[v,u]:=by
   simp only[I3,List.map_nil,rx,ry]
  rw[ea] at this;refine this.mono fun e W' hh => ?_;obtain⟨φ',he,_,_,_,hk⟩:=hh;exact⟨he,hk⟩
theorem SO {w w':World} (K:Kept (fun _=>none) w w') {p:MemPlace} (hp:p.block<w.heap.size):w.sameAt w' p:=by
 cases p with
 | cell b off=>
  show w'.cell? ⟨b,off,none⟩=w.cell? ⟨b,off,none⟩;simp only[World.cell?,K.block b hp (fun _ _ _ h=>by cases h)]
 | map b=>exact K.block b hp (fun _ _ _ h=>by cases h)
theorem Gl {H:Type} {enc:TypeId×Value->H} {w w':World} {sp':Nat->Bool}:∀ {ts:List TypeId} {vs:List Value} {ds:List (DataW H)} {ps:List MemPlace},(∀ t∈ts,t<Tryz.prog.types.size)->DataW.TrodAll enc Tryz.prog w 0 (fun _=>true) true ts vs ds ps->(∀ p∈ps,w.sameAt w' p)->(∀ p∈ps,sp' p.block=true)->DataW.TrodAll enc Tryz.prog w' 0 sp' true ts vs ds ps
 | [],[],[],_,_,h,_,_=>h
 | _::_,_::_,_::_,_,hT,⟨p,q,⟨n,h1⟩,h2,e⟩,hs,hp=>⟨p,q,⟨n,DataW.trod_stays kids (fun ht hu=>full _ _ ht hu) (fun hh=>by cases hh) (hT _ (O1.2 (Or.inl rfl))) h1 (fun x hx=>hs x (by rw[e];exact V5 _ hx)) (fun x hx=>hp x (by rw[e];exact V5 _ hx))⟩,
   Gl (fun t ht=>hT t (O1.2 (Or.inr ht))) h2 (fun x hx=>hs x (by rw[e];exact N6 _ hx)) (fun x hx=>hp x (by rw[e];exact N6 _ hx)),e⟩
theorem Qj {w w':World} (K:Kept (fun _=>none) w w') (may:MemPlace->Prop):w.keptBut w' may:=by
 refine⟨K.os,K.output,fun i hi => ?_⟩;have:=K.block i hi (fun _ _ _ h=>by cases h);rw[this];split
 ·next h1 h2=>rw[h1] at h2;cases h2;exact⟨rfl,rfl,rfl,fun _ _=>rfl⟩
 ·next h1 h2=>rw[h1] at h2;cases h2;exact .inr ⟨rfl,rfl⟩
 ·rfl
theorem Wo (os:Os) (args:Array Value):laidMetH Tryz.prog OF ((World.doorLaid Tryz.prog 4000 os).forCall (fun _ _=>0) ⟨#[],args,[]⟩).memory:=
 laidMetH_of_parts3 (fuel:=8) (laidMet_of_run' 8 (by kernel_rfl) (by kernel_rfl)) (by kernel_rfl) (by kernel_rfl)
theorem lifted (os:Os) (started:os.Started) (H:Type) (enc:TypeId×Value->H) :
  ReturnsInHanded {} Tryz.checked os 4 .any (fun w args=>(Rows.wireBackSpec.pre enc Tryz.prog Tryz.f4 [] false w args/\laidMetH Tryz.prog OF w)/\sizedMet enc Tryz.prog Tryz.f4 (OpenSpec.ofChange Rows.wireBackSpec) false w args)
   (Rows.wireBackSpec.post enc Tryz.prog Tryz.f4 false true false false):=by
 refine returnsInHanded_of_change_and (C:=Tryz.checked) (X:=fun w _=>laidMetH Tryz.prog OF w) (fun _ _ _ hh h=>h.of_heap hh) WH started (by kernel_rfl) Tryz.func4
  (ChangeSpec.witness_shaped (enc:=enc) (C:=Tryz.checked) (os:=os) (X:=fun w _=>laidMetH Tryz.prog OF w) false (World.doorLaid Tryz.prog 4000 os) #[.slice none 0 0,.slice none 0 0] 4 rfl (World.shaped_of_RefB (by kernel_rfl) (by kernel_rfl)) (by kernel_rfl) (by kernel_rfl) (by kernel_rfl) (Wo os _)) ?_
 intro W base args ds gs before hval0 hW _ _ hL _;have hval:∀ (j:Nat) t v,Tryz.f4.params[j]? = some t->args[j]? = some v->Value.okWide Tryz.prog W .any base t v:=hval0;have hW':=hW;obtain⟨p,q,hA0,hV,rfl,hfz,hnd⟩:=hW;have hA:DataW.TrodAll enc Tryz.prog W 0 (fun _=>true) true Tryz.f4.params.toList args.toList ds p:=hA0;have hAk:=hA;rw[Tryz.params4] at hA hval;obtain⟨v,v',d,d',p1,p2,rfl,rfl,rfl,h1,h2⟩:=trodAll_two hA;obtain⟨rfl,rfl⟩:=trodVars_none hV;obtain⟨x,l0,rx,ox,ex⟩:=NH (hval 0 44 v rfl rfl) h1;obtain⟨y,l1,ry,oy,ey⟩:=NH (hval 1 44 v' rfl rfl) h2;refine (call4 (Zh hL) (ABn hL) (ABo hL) rx ox ex ry oy ey).mono fun e W' ⟨he,K⟩ => ?_;subst he;have hlt:∀ z∈p1++p2,z.block<W.heap.size:=fun z hz=>hW'.lt z (by simpa using hz);refine⟨_,rfl,_,_,_,[],p1++p2,[],hW',?_,?_,?_,Qj K _,fun h=>by cases h⟩
 ·exact trodAll_mk1 (shut_bool Tryz.underlying4 true)
 ·exact Gl (by rw[Tryz.params4];decide) hAk (fun z hz=>SO K (hlt z hz)) (fun z hz=>by simpa using hlt z hz)
 ·rfl
theorem JR:Rows.WireBackSaid:=
 OpenClaim.holds_of_wide 4 Tryz.f4 rfl rfl rfl rfl rfl rfl rfl ⟨rfl,rfl,rfl,rfl,rfl⟩ rfl rfl rfl rfl rfl (by kernel_rfl) Tryz.func4 (by kernel_rfl)
  (of_decide_eq_true (by kernel_rfl)) (by unfold Func.isWrapper;first|(rw[if_pos (by decide +kernel)];kernel_rfl)|(rw[if_neg (by decide +kernel)];exact⟨rfl,rfl⟩))
  (fun os started H enc _=>lifted os started H enc)
end Go.Proofs.YtofijpbmbmbnhaaGreatDoor
/- Proved: for whatever two slices of bytes, the law on what is read back (WireBack) returns true, and the bytes read afterwards as they read before.
  Conditions: those of the card: when the call begins, the five listed package-level variables hold what the program's text lays (the card ties them to it). Nothing is asked of the bytes. -/
namespace Go.Proofs.YtofijpbmbmbnhaaGreatDoor
open Go
theorem wireBack_card:Rows.WireBackCardSaid:=
 Claim7.holds_tied_plain_at .later [] [.data,.data,.data,.data,.data] true (true, "32065c3aa73ec64e2b1ae14a05e05bfb57948738ff5578a3ca15a063491a5ed5") false
  JR (fun _ h=>by cases h) (by kernel_rfl) (fun _ h=>by cases h) wireBack_row_tie rfl ⟨rfl,rfl⟩ (by kernel_rfl) rfl
  (fun f fn hf hfn=>by
   obtain rfl:f=4:=Option.some.inj ((show Tryz.prog.funcNamed "hoarstone/hoarstonelaw02.WireBack" = some 4 by kernel_rfl).symm.trans hf) |>.symm
   obtain rfl:fn=Tryz.f4:=(Option.some.inj (Tryz.func4.symm.trans hfn)).symm
   exact⟨by kernel_rfl,fun j t ht=>by
    rw[Tryz.params4] at ht;have h3:t=44:=by
     rcases j with _|_|j
     ·simpa using ht.symm
     ·simpa using ht.symm
     ·simp at ht
    subst h3;exact (show Tryz.prog.wantsStandIn 44=false by kernel_rfl)⟩)
  (by kernel_rfl)
#print axioms wireBack_card
end Go.Proofs.YtofijpbmbmbnhaaGreatDoor
