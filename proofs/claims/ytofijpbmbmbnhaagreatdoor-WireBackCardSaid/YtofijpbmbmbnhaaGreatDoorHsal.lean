/- The digest: more bytes. -/
import Derived.Test.YtofijpbmbmbnhaaGreatDoorHsak
set_option linter.unusedSimpArgs false
set_option linter.unusedVariables false
set_option maxRecDepth 100000
set_option maxHeartbeats 16000000
namespace Go.Proofs.YtofijpbmbmbnhaaGreatDoor
open Go Go.Hs Go.Proofs
variable {E:Env} {I:Aa}
theorem AGH:tab.fn.get 68=some Tryz.f68:=by kernel_rfl
noncomputable def asg68:Code:=(rangeOf Tryz.f68).1
noncomputable def bod68:Code:=(rangeOf Tryz.f68).2
theorem AAq (b:Option Addr) (n c:Nat):RP tab 44 (.slice b n c) (.slice none 0 0)=some b.isNone:=by
 unfold RP;rw[GD];cases b<;>rfl
theorem Yy {h:H}:AH tab 44 0 [] h=some (.slice (some (own h.next)) 0 0,h.new (.cells [] 5 none)):=by
 unfold AH;simp only[GD,ACc];rfl
theorem VQ {h:H} (a b:Option Addr) (l c l' c':Nat):AH tab 173 2 [(0,.slice a l c),(1,.slice b l' c')] h=some (.slice (some (own h.next)) 2 2,h.new (.cells [.slice a l c,.slice b l' c'] 44 none)):=by
 unfold AH;simp only[Ru,ACr];rfl
theorem AAH (hI:∀ args h,I 61 args h=none) {g:H} {v:Value} {bs:List UInt8} (f:Fit g) (hb:Byt E g v bs) (hl:bs.length<=1000000) :
  ∃ n x g',(ev tab E I n).call 61 [v] g=some (x,g')/\(Ahd g g'/\Byt E g' x bs):=by
 rcases hb with⟨rfl,rfl⟩|⟨a,c,rfl,hc,hcs⟩
 ·apply Wk (hI _ _) ACk rfl;intro A0 n0 d0 hA0;change A0.n=8 at n0;have q0:A0.get 0=.slice none 0 0:=hA0 0 _ rfl;clear hA0;refine Vwz (Z5 n0 q0 @AAq (@Option.isNone_none Addr) (@Option.isNone_some Addr)) ?_;exact AW (v:=.slice none 0 0) (.inr rfl) (S0z d0) rfl (S0z n0) ⟨Ahd.refl f,.inl ⟨rfl,rfl⟩⟩
 ·apply Wk (hI _ _) ACk rfl;intro A0 n0 d0 hA0;change A0.n=8 at n0;have q0:A0.get 0=.slice (some a) bs.length c:=hA0 0 _ rfl;clear hA0
  obtain⟨s,h',happ,hcl⟩:=KE (D:=tab) (E:=E) (t:=44) (e:=5) (sz:=1) (by_:=1) (n:=bs.length) (c:=c) (a:=a) (cs:=bytesV bs) f GD ACc rfl (by rw[V2];exact hcs) (by rw[V2];exact AM bs) (by
   unfold roomy;simp only[K0,Z0];omega)
  obtain⟨k,rt,rfl,hk,_,_⟩:=hcl.get;refine Vwz (Z7 n0 q0 @AAq (@Option.isNone_none Addr) (@Option.isNone_some Addr) @Yy @happ) ?_;exact AW (v:=.slice (some (own k)) bs.length bs.length) (.inr rfl) (S0z d0) rfl (S0z n0) ⟨hcl.ahd,.inr ⟨own k,bs.length,rfl,C0 _,AG hk (AM bs) (BF bs)⟩⟩
theorem call99 (hI:∀ args h,I 99 args h=none) {kw:Nat} {g:H} (f:Fit g) :
  ∃ n v g',(ev tab E I n).call 99 [.pointer (some (own kw))] g=some (v,g')/\(v=.func (.func 121) ⟨[]⟩ ⟨[.pointer (some (own g.next))]⟩/\Ahd g g'/\g'.blk g.next=some (.cells [.pointer (some (own kw))] 149 none)/\g'.next=g.next+1):=by
 apply Wk (hI _ _) AFw rfl;intro A0 n0 d0 hA0;change A0.n=4 at n0;have q0:A0.get 0=.pointer (some (own kw)):=hA0 0 _ rfl;clear hA0;refine Vwz (Z5 n0 d0 q0 @roF.eq_1 @roF.eq_2) ?_;exact AW (.inr rfl) (S0z d0) rfl (S0z n0) ⟨rfl,Ahd.aj f rfl,AA rfl,rfl⟩
theorem ZP (hI:∀ f args h,(f=100\/f=122\/f=123\/f=124)->I f args h=none) (k137:Rq I) (k136:Yp I) (hK:KT E) {g G:H} {kw kb l base d:Nat} {n:Int} {A:Ac} (nA:A.n=41) (p2:A.get 2=.pointer (some (own kb)))
  (hb:G.blk kb=some (.cells [.pointer (some (own kw))] 149 none)) (n1:kb≠kw) (n2:kb≠l) (n3:kw≠l) (gl:g.next<=l) (x:W8) (bs:List UInt8) (h:H) (v:Value) (blk:List UInt8)
  (B:Bl E g G kw l base n ⟨.ready,none,68,A.tmps,A.n,#[19],asg68,bod68,d⟩ x bs h) (hl:blk.length=64) (hB:Byt E h v blk) :
  ∃ m h',(ev tab E I m).round l [v] h=some (.bool true,h')/\Bl E g G kw l base n ⟨.ready,none,68,A.tmps,A.n,#[19],asg68,bod68,d⟩ (taken x blk) bs h':=by
 suffices hw:∃ m y h',(ev tab E I m).round l [v] h=some (y,h')/\(y=.bool true/\Bl E g G kw l base n ⟨.ready,none,68,A.tmps,A.n,#[19],asg68,bod68,d⟩ (taken x blk) bs h') by
  obtain⟨m,y,h',h1,rfl,h2⟩:=hw;exact⟨m,h',h1,h2⟩
 generalize hr0:(⟨.ready,none,68,A.tmps,A.n,#[19],asg68,bod68,d⟩:EO)=r0 at B ⊢;refine Wr.round B.bl (A:=(⟨A.tmps,A.n,[]⟩:Ac).put (some 19) v) (by rw[<- hr0];rfl) ?_;have hp:∀ i,(⟨A.tmps,A.n,[]⟩:Ac).get i=A.get i:=fun _=>rfl;have n0:(⟨A.tmps,A.n,[]⟩:Ac).n=41:=nA;have q2:=(hp 2).trans p2;generalize (⟨A.tmps,A.n,[]⟩:Ac)=B0 at n0 q2 ⊢;have hasg:r0.assign=asg68:=by rw[<- hr0]
 have hfn0:r0.fn=68:=by rw[<- hr0]
 have hbod:r0.body=bod68:=by rw[<- hr0]
 rw[hasg,hfn0,hbod];simp only[asg68,bod68,rangeOf,firstRange,Option.getD,Tryz.f68];refine Vwz (Z2 n0 q2) ?_;refine⟨rfl,r0,B.bl,by rw[<- hr0],?_⟩;have hlt:=B.fit.lt B.bl;change Wc tab E I _ _ _ (h.aa l (.loop { r0 with state:=.busy })) _;have m7:=(Mod.refl (M:=fun j=>j=l) B.fit).aa (B:=.loop { r0 with state:=.busy }) rfl rfl hlt;have L7:=AD (h:=h) (k:=l) (B:=.loop { r0 with state:=.busy }) rfl;obtain⟨sv,w,T⟩:=B.wk;have hnl:∀ xs ty rt,h.blk l=some (.cells xs ty rt)->rt=none/\∀ v∈xs,∀ c:Int,v≠.int .u8 c:=fun xs ty rt hh=>by
  rw[B.bl] at hh;cases hh
 have hB7:=hB.keep (h':=h.aa l (.loop { r0 with state:=.busy })) (fun xs ty rt hh=>(hnl xs ty rt hh).2) (fun j B hj hh=>m7.blk j B hj hh);have T7:=T.keep (h':=h.aa l (.loop { r0 with state:=.busy })) hnl (fun j B hj hh=>m7.blk j B hj hh);have w7:Wst kw x sv n (h.aa l (.loop { r0 with state:=.busy })):=m7.blk _ _ n3 w;have b7:=m7.blk _ _ n2 (B.keep.blk _ _ (by omega) hb);generalize h.aa l (.loop { r0 with state:=.busy })=h7 at m7 L7 hB7 T7 w7 b7;have l2:h7.cell E (own kb)=some (.pointer (some (own kw))):=BJ b7;have lw:=VT (E:=E) w7 (Di T.1);obtain⟨nt,_,q8,ct,rfl,t8⟩:=Vb (E:=E) (I:=I) hI k137 k136 hK m7.fit.fresh x hl (hB7.grow (g:=fresh h7) (fun _ _ h=>h));have hql:=t8.quiet;obtain⟨t8,_,_,_⟩:=Mod.back m7.fit t8;generalize hh8:back h7 q8=h8 at t8;have g8:BL h7 h8:=t8.av;have w8:Wst kw x sv n h8:=g8 _ _ w7;have T8:=T7.grow g8;have st:=AAs (h:=fresh h8) (show Wst kw x sv n (fresh h8) from w8) (taken x blk);have hk8:=t8.fit.lt w8;have m9:=(Mod.refl (M:=fun j=>j=kw) t8.fit).aa (B:=.cells (AE (taken x blk).list++[sv,.int .i64 n]) 110 none) rfl rfl hk8;have w9:Wst kw (taken x blk) sv n _:=AD (h:=h8) (k:=kw) (B:=.cells (AE (taken x blk).list++[sv,.int .i64 n]) 110 none) rfl;have T9:=T8.keep (h':=h8.aa kw (.cells (AE (taken x blk).list++[sv,.int .i64 n]) 110 none)) (GF w8 (Hz T.1)) (fun j B hj hh=>m9.blk j B hj hh);have L9:=m9.blk _ _ (fun e=>n3 e.symm) (g8 _ _ L7);generalize hh9:h8.aa kw (.cells (AE (taken x blk).list++[sv,.int .i64 n]) 110 none)=h9 at m9 w9 T9 L9
 repeat' (first|(with_reducible apply Wc.seq)|refine Wc.block ?_)
 refine Wc.ao nt (by kernel_rfl) ?_
 (iterate 7 refine Ugz (Z7 n0 q2 @Zx @Hx @l2 @lw (@X0 Value)) ?_)
 refine FQ.call (x:=.agg ⟨AE (taken x blk).list⟩) rfl rfl (by simp +decide only[Oz,n0,ct]) hql ?_;rw[hh8]
 (iterate 3 refine Ugz (Z3 n0 @Zx @Hx) ?_)
 refine FQ.aa (k:=kw) rfl rfl hk8 (by simp +decide only[Oz,n0,Hx,st];with_reducible rfl) ?_;rw[hh9];refine FQ.nil ⟨?_,?_⟩
 ·exact Ah [11] 12 rfl rfl (by kernel_rfl)
 dsimp only;refine⟨_,L9,.inl ⟨rfl,trivial,?_⟩⟩;have er:({ r0 with state:=.ready,pending:=none }:EO)=r0:=by rw[<- hr0]
 change Bl E g G kw l base n r0 (taken x blk) bs (h9.aa l (.loop { r0 with state:=.ready,pending:=none }));rw[er];have hl9:=m9.fit.lt L9;have m10:=(Mod.refl (M:=fun j=>j=l) m9.fit).aa (B:=.loop r0) rfl rfl hl9;have hnl9:∀ xs ty rt,h9.blk l=some (.cells xs ty rt)->rt=none/\∀ v∈xs,∀ c:Int,v≠.int .u8 c:=fun xs ty rt hh=>by
  rw[L9] at hh;cases hh
 refine⟨m10.fit,((((B.mod.trans (m7.sub fun j hj=>.inr (by omega))).trans (t8.sub fun _ h=>h.elim)).trans (m9.sub fun j hj=>.inl hj)).trans (m10.sub fun j hj=>.inr (by omega))),?_,⟨sv,m10.blk _ _ n3 w9,T9.keep hnl9 (fun j B hj hh=>m10.blk j B hj hh)⟩,AD rfl⟩;refine B.keep.trans ⟨fun j B' hj hh=>m10.blk j B' (fun e=>hj (.inr e)) (m9.blk j B' (fun e=>hj (.inl e)) (g8 _ _ (m7.blk j B' (fun e=>hj (.inr e)) hh))),Y0 m7.next (Y0 t8.next (Y0 m9.next m10.next))⟩
theorem call121 (hI:∀ args h,I 121 args h=none) {g G:H} {kw l base k1:Nat} {n:Int} {r0:EO} (hgb:g.next<=base) (nl:kw≠l) (n1:k1≠kw) (n2:k1≠l) (hk1:G.blk k1=some (.cells [.pointer (some (own kw))] 149 none))
  (hround:∀ x bs h v blk,Bl E g G kw l base n r0 x bs h->blk.length=64->Byt E h v blk->∃ m h',(ev tab E I m).round l [v] h=some (.bool true,h')/\Bl E g G kw l base n r0 (taken x blk) bs h')
  (x:W8) (bs:List UInt8) (h:H) (hl:bs.length<=1000000) (B:Bl E g G kw l base n r0 x bs h) :
  ∃ nf y h',(ev tab E I nf).call 121 [.func (.yield l) ⟨[]⟩ ⟨[]⟩,.pointer (some (own k1))] h=some (y,h')/\(y=.tuple #[]/\Bl E g G kw l base n r0 (takens bs.length x bs).1 (takens bs.length x bs).2 h'):=by
 apply Wk (hI _ _) AEF rfl;intro A0 n0 d0 hA0;change A0.n=31 at n0;have q0:A0.get 0=.func (.yield l) ⟨[]⟩ ⟨[]⟩:=hA0 0 _ rfl;have q1:A0.get 1=.pointer (some (own k1)):=hA0 1 _ rfl;clear hA0
 repeat' (first|(with_reducible apply Wc.seq)|refine Wc.block ?_)
 refine (Ub hI hgb nl n1 n2 hk1 hround bs.length x bs A0 h (by omega) hl n0 d0 q0 q1 B).mono ?_;rintro ex A' h' ⟨rfl,n0,d0,B'⟩;exact Gb (.inl rfl) d0 rfl ⟨rfl,B'⟩
theorem Qs {fn:Func} {A:Ac} {h:H} {d:Nat} {ex:Ex} {Q:Value->H->Prop} (hex:ex=.normal\/ex=.ret) (hd:A.defers=[d]) (hb:h.blk d=some (.defd false)) (hm:h.mark<=d) (hr:fn.results=#[]) (hq:Q (.tuple #[]) (h.ak d (.defd true))) :
  (ex=.normal\/ex=.ret)/\∃ h2 v',Ay A.defers h=some h2/\ED tab E fn A h2=some v'/\Q v' h2:=by
 refine⟨hex,_,.tuple #[],by rw[hd];exact take_one hb hm,?_,hq⟩;unfold ED;rw[hr];simp only[Dl]
theorem Lq:∀ (r:Nat) (x:W8) (bs:List UInt8),(takens r x bs).2.length<=bs.length
 | 0,_,_=>C0 _
 | r+1,x,bs=>by
  rw[takens];split
  ·exact Y0 (Lq r _ _) (by rw[Y3];omega)
  ·exact C0 _
theorem ABi (hI:∀ f args h,(f=68\/f=98\/f=120\/f=99\/f=121\/f=61\/f=100\/f=122\/f=123\/f=124)->I f args h=none) (k137:Rq I) (k136:Yp I) (hK:KT E) {h:H} (f:Fit h) {kw:Nat} {x:W8} {sv v:Value} {n:Int} {rest bs:List UInt8} (w:Wst kw x sv n h) (hr:Byt E h sv rest) (hv:Byt E h v bs) (h0:0<(rest++bs).length) (hl:(rest++bs).length<=1000000) :
  ∃ nf y h',(ev tab E I nf).call 68 [.pointer (some (own kw)),v] h=some (y,h')/\(y=.tuple #[]/\Mod (fun j=>j=kw) h h'/\∃ sv',Wst kw (takens (rest++bs).length x (rest++bs)).1 sv' n h'/\Byt E h' sv' (takens (rest++bs).length x (rest++bs)).2):=by
 apply Wk (hI _ _ _ (.inl rfl)) AGH rfl;intro A0 n0 d0 hA0;change A0.n=41 at n0;have q0:A0.get 0=.pointer (some (own kw)):=hA0 0 _ rfl;have q1:A0.get 1=v:=hA0 1 _ rfl;clear hA0;have hkw:=f.lt w;generalize hh1:h.new (.cells (Value.pointer (some (own kw))).cells.toList 149 none)=h1;have t1:Ahd h h1:=by rw[<- hh1];exact Ahd.aj f rfl
 have b1:h1.blk h.next=some (.cells [.pointer (some (own kw))] 149 none):=by rw[<- hh1];exact AA rfl
 have hn1:h1.next=h.next+1:=by rw[<- hh1];rfl
 have w1:Wst kw x sv n h1:=t1.grows _ _ w;have l2:h1.cell E (own h.next)=some (.pointer (some (own kw))):=BJ b1;have l8:=Gt (E:=E) w1 (Di hr);obtain⟨a1,c1,rfl⟩:=hr.slice;obtain⟨a2,c2,rfl⟩:=hv.slice;have bs2:=VQ (h:=fresh h1) a1 a2 rest.length c1 bs.length c2;generalize hB:Blk.cells [.slice a1 rest.length c1,.slice a2 bs.length c2] 44 none=B at bs2;generalize hh2:h1.new B=h2;have t2:Ahd h1 h2:=by rw[<- hh2,<- hB];exact Ahd.aj t1.fit rfl
 have b2:h2.blk h1.next=some (.cells [.slice a1 rest.length c1,.slice a2 bs.length c2] 44 none):=by rw[<- hh2,<- hB];exact AA rfl
 have g02:BL h (fresh h2):=fun j B hj=>t2.grows _ _ (t1.grows _ _ hj)
 obtain⟨nc,v13,q3,c98,M3,nn,K3⟩:=Mq (E:=E) (I:=I) (g:=fresh h2) (L:=[(.slice a1 rest.length c1,rest),(.slice a2 bs.length c2,bs)]) (kp:=h1.next) (c:=2) (fun f args h hf=>hI f args h (by rcases hf with h|h<;>simp[h])) t2.fit.fresh b2 (fun y hy=>by
  simp only[O1,C1,or_false] at hy;rcases hy with rfl|rfl
  ·exact hr.grow g02
  ·exact hv.grow g02) (by simpa [En] using h0) (by simpa [En] using hl) (by simp)
 have c98:(ev tab E I nc).call 98 [.slice (some (own h1.next)) 2 2] (fresh h2)=some (v13,q3):=c98;have eB:En [(Value.slice a1 rest.length c1,rest),(.slice a2 bs.length c2,bs)]=rest++bs:=by simp[En]
 rw[eB] at K3;have hql:=M3.quiet;obtain⟨M3,_,_,_⟩:=Mod.back t2.fit M3;have T3:=K3.tl (E:=E);have T3:Tl E 5 h2.next (back h2 q3) v13 (rest++bs):=T3.grow (J7 h2 q3);generalize hh3:back h2 q3=h3 at M3 T3;generalize rest++bs=cs at T3 hl ⊢;have g13:BL h1 h3:=fun j B hj=>M3.av _ _ (t2.grows _ _ hj);have w3:Wst kw x (.slice a1 rest.length c1) n h3:=g13 _ _ w1;have hk3:=M3.fit.lt w3;obtain⟨a3,c3,hv13⟩:=T3.1.slice;have st:=KO (h:=fresh h3) (show Wst kw x (.slice a1 rest.length c1) n (fresh h3) from w3) (b:=a3) (l:=cs.length) (c:=c3);rw[<- hv13] at st;have m4:=(Mod.refl (M:=fun j=>j=kw) M3.fit).aa (B:=.cells (AE x.list++[v13,.int .i64 n]) 110 none) rfl rfl hk3;have w4:Wst kw x v13 n _:=AD (h:=h3) (k:=kw) (B:=.cells (AE x.list++[v13,.int .i64 n]) 110 none) rfl;have T4:=T3.keep (h':=h3.aa kw (.cells (AE x.list++[v13,.int .i64 n]) 110 none)) (GF w3 ⟨_,_,_,rfl⟩) (fun j B hj hh=>m4.blk j B hj hh);have hb4:(h3.aa kw (.cells (AE x.list++[v13,.int .i64 n]) 110 none)).blk h.next=some (.cells [.pointer (some (own kw))] 149 none):=m4.blk _ _ (by omega) (g13 _ _ b1);generalize hh4:h3.aa kw (.cells (AE x.list++[v13,.int .i64 n]) 110 none)=h4 at m4 w4 T4 hb4;have l2':h4.cell E (own h.next)=some (.pointer (some (own kw))):=BJ hb4;obtain⟨nf,_,h5,c99,rfl,t5,b5,n5⟩:=call99 (E:=E) (I:=I) (fun args h=>hI _ args h (by simp)) (kw:=kw) m4.fit;have M4:Mod (fun j=>j=kw) h h4:=((t1.mod.trans t2.mod).trans (M3.sub fun _ h=>h.elim)).trans m4;have hn4:=M4.next;have hn34:=m4.next;have hn23:=M3.next;have hn12:=t2.next;refine Vwz (Z4 n0 q0 q1 @hh1) ?_
 repeat' (with_reducible apply Wc.seq)
 refine Wc.ao nc (by kernel_rfl) ?_
 (iterate 7 refine Ugz (Z7 n0 q0 q1 @Zx @Hx @l2 @l8) ?_)
 refine FQ.new (x:=.slice (some (own h1.next)) 2 2) (B:=B) rfl rfl (by simp +decide only[Oz,n0,bs2,Hx]) ?_;rw[hh2];refine FQ.call (x:=v13) rfl rfl (by simp +decide only[Oz,n0,c98]) hql ?_;rw[hh3]
 (iterate 3 refine Ugz (Z3 n0 @Zx @Hx) ?_)
 refine FQ.aa (k:=kw) rfl rfl hk3 (by simp +decide only[Oz,n0,Hx,st];with_reducible rfl) ?_;rw[hh4];refine FQ.nil ⟨?_,?_⟩
 ·exact Ah [12] 13 rfl rfl (by kernel_rfl)
 dsimp only;refine Vnz nf (Z5 n0 @Zx @Hx @l2' @c99) ?_;refine Wc.forget (fun A=>A.n=41/\A.defers=[]/\A.get 2=.pointer (some (own h.next))/\A.get 18=.func (.func 121) ⟨[]⟩ ⟨[.pointer (some (own h4.next))]⟩) ⟨by simp +decide only[Gz,n0],by simp +decide only[Gz,d0],by simp +decide only[Gz,n0],by simp +decide only[Gz,n0]⟩ ?_;clear n0 d0 q0 q1;rintro A ⟨nA,dA,p2,p18⟩;generalize hr0:(⟨.ready,none,68,A.tmps,A.n,#[19],asg68,bod68,h5.next⟩:EO)=r0;have fr0:r0.state=.ready/\r0.pending=none:=by rw[<- hr0];exact⟨rfl,rfl⟩
 generalize hh6:h5.new (.defd false)=h6;have t6:Ahd h5 h6:=by rw[<- hh6];exact Ahd.aj t5.fit rfl
 have d6:h6.blk h5.next=some (.defd false):=by rw[<- hh6];exact AA rfl
 have hn6:h6.next=h5.next+1:=by rw[<- hh6];rfl
 generalize hh7:h6.new (.loop r0)=h7;have t7:Ahd h6 h7:=by rw[<- hh7];exact Ahd.aj t6.fit rfl
 have L7:h7.blk (h5.next+1)=some (.loop r0):=by rw[<- hh7,<- hn6];exact AA rfl
 have t57:=t6.trans t7;have t47:=t5.trans t57;have hn47:=t47.next;have B7:Bl E h h7 kw (h5.next+1) h2.next n r0 x cs h7:=⟨t7.fit,(M4.sub (fun j hj=>.inl hj)).ahd t47,Gm.refl _ _,⟨v13,t47.grows _ _ w4,T4.grow t47.grows⟩,L7⟩;have k7:h7.blk h4.next=some (.cells [.pointer (some (own kw))] 149 none):=t57.grows _ _ b5;have hb7:=t47.grows _ _ hb4
 obtain⟨nl,_,h8,cl,rfl,B8⟩:=call121 (E:=E) (I:=I) (fun args h=>hI _ args h (by simp)) (g:=h) (G:=h7) (kw:=kw) (l:=h5.next+1) (base:=h2.next) (k1:=h4.next) (n:=n) (r0:=r0) (by omega) (by omega) (by omega) (by omega) k7 (fun x bs h' v blk B hl hB=>by
  subst hr0;exact ZP (fun f args h hf=>hI f args h (by rcases hf with h|h|h|h<;>simp[h])) k137 k136 hK nA p2 hb7 (by omega) (by omega) (by omega) (by omega) x bs h' v blk B hl hB) x cs h7 hl B7
 have hacall:Dm (ev tab E I nl) (.func (.func 121) ⟨[]⟩ ⟨[.pointer (some (own h4.next))]⟩) [.func (.yield (h5.next+1)) #[] #[]] ((h5.new (.defd false)).new (.loop ⟨.ready,none,68,A.tmps,A.n,#[19],asg68,bod68,h5.next⟩))=some (.tuple #[],h8):=by
  rw[hr0,hh6,hh7];exact cl
 have hopv:opv A (.tmp 18)=some (.func (.func 121) ⟨[]⟩ ⟨[.pointer (some (own h4.next))]⟩):=by simp only[opv,p18]
 have d8:h8.blk h5.next=some (.defd false):=B8.keep.blk _ _ (by omega) (t7.grows _ _ d6);have hb8:=B8.keep.blk _ _ (by omega) hb7;obtain⟨sv8,w8,T8⟩:=B8.wk;have L8:=B8.bl;have hl8:=B8.fit.lt L8;refine Wc.range nl hopv hacall (r:=r0) L8 (by rw[fr0.1];decide) ?_;simp only[fr0.2];have hl2:=Y0 (Lq cs.length x cs) hl;generalize takens cs.length x cs=tk at w8 T8 hl2 ⊢;generalize hr1:({ r0 with state:=.exhausted,pending:=none }:EO)=r1;change Wc tab E I _ _ _ (h8.aa (h5.next+1) (.loop r1)) _;have m9:=(Mod.refl (M:=fun j=>j=h5.next+1) B8.fit).aa (B:=.loop r1) rfl rfl hl8;have w9:=m9.blk _ _ (by omega) w8;have d9:=m9.blk _ _ (by omega) d8;have hb9:=m9.blk _ _ (by omega) hb8;have B9:=T8.1.keep (h':=h8.aa (h5.next+1) (.loop r1)) (k:=h5.next+1) (fun xs ty rt hh=>by rw[L8] at hh;cases hh) (fun j B hj hh=>m9.blk j B hj hh);generalize h8.aa (h5.next+1) (.loop r1)=h9 at m9 w9 d9 hb9 B9;have w9:Wst kw tk.1 sv8 n h9:=w9;obtain⟨nk,v10,q10,c61,t10,y10⟩:=AAH (E:=E) (I:=I) (fun args h=>hI _ args h (by simp)) m9.fit.fresh (B9.grow (g:=fresh h9) (fun _ _ h=>h)) hl2;have hql10:q10.log=[]:=t10.log;have t10:=(Ahd.back m9.fit t10).1;have y10:Byt E (back h9 q10) v10 tk.2:=y10.grow (J7 h9 q10);generalize hh10:back h9 q10=h10 at t10 y10;have l2'':h9.cell E (own h.next)=some (.pointer (some (own kw))):=BJ hb9;have l8'':=Gt (E:=E) w9 (Di T8.1);have w10:Wst kw tk.1 sv8 n h10:=t10.grows _ _ w9;have hk10:=t10.fit.lt w10;obtain⟨a10,c10,hv10⟩:=y10.slice;have st10:=KO (h:=fresh h10) (show Wst kw tk.1 sv8 n (fresh h10) from w10) (b:=a10) (l:=tk.2.length) (c:=c10);rw[<- hv10] at st10;have m11:=(Mod.refl (M:=fun j=>j=kw) t10.fit).aa (B:=.cells (AE tk.1.list++[v10,.int .i64 n]) 110 none) rfl rfl hk10;have w11:Wst kw tk.1 v10 n _:=AD (h:=h10) (k:=kw) (B:=.cells (AE tk.1.list++[v10,.int .i64 n]) 110 none) rfl;have y11:=y10.keep (h':=h10.aa kw (.cells (AE tk.1.list++[v10,.int .i64 n]) 110 none)) (fun xs ty rt hh=>(GF w10 (Hz T8.1) xs ty rt hh).2) (fun j B hj hh=>m11.blk j B hj hh);have d11:=m11.blk _ _ (by omega) (t10.grows _ _ d9);generalize hh11:h10.aa kw (.cells (AE tk.1.list++[v10,.int .i64 n]) 110 none)=h11 at m11 w11 y11 d11;have MM:Mod (fun j=>j=kw\/h.next<=j) h h11:=((B8.mod.trans (m9.sub fun j hj=>.inr (by omega))).ahd t10).trans (m11.sub fun j hj=>.inl hj);have n0:(⟨A.tmps,A.n,h5.next::A.defers⟩:Ac).n=41:=nA;have q2:(⟨A.tmps,A.n,h5.next::A.defers⟩:Ac).get 2=.pointer (some (own h.next)):=p2;have d0:(⟨A.tmps,A.n,h5.next::A.defers⟩:Ac).defers=[h5.next]:=by rw[<- dA]
 generalize (⟨A.tmps,A.n,h5.next::A.defers⟩:Ac)=A0 at n0 q2 d0 ⊢;refine Wc.ao nk (by kernel_rfl) ?_
 (iterate 6 refine Ugz (Z6 n0 q2 @Zx @Hx @l2'' @l8'') ?_)
 refine FQ.call (x:=v10) rfl rfl (by simp +decide only[Oz,n0,c61]) hql10 ?_;rw[hh10]
 (iterate 3 refine Ugz (Z3 n0 @Zx @Hx) ?_)
 refine FQ.aa (k:=kw) rfl rfl hk10 (by simp +decide only[Oz,n0,Hx,st10];with_reducible rfl) ?_;rw[hh11];refine FQ.nil ⟨?_,?_⟩
 ·exact Ah [10] 11 rfl rfl (by kernel_rfl)
 have hmk:h11.mark<=h5.next:=by
  rw[MM.mark];have:=f.ok.2;omega
 have hd11:=m11.fit.lt d11;have m12:=(Mod.refl (M:=fun j=>j=h5.next) m11.fit).aa (B:=.defd true) rfl rfl hd11;rw[Jl hmk] at m12;refine Qs (.inl rfl) (S0z d0) d11 hmk rfl ⟨rfl,Mod.low f (MM.trans (m12.sub fun j hj=>.inr (by omega))) (fun j hj=>hj),v10,m12.blk _ _ (by omega) w11,y11.keep (k:=h5.next) (fun xs ty rt hh=>by rw[d11] at hh;cases hh) (fun j B hj hh=>m12.blk j B hj hh)⟩
theorem AGG:tab.fn.get 69=some Tryz.f69:=by kernel_rfl
noncomputable def Nx:Code:=loopAt Tryz.f69 0
noncomputable def Nw:Code:=loopAt Tryz.f69 1
noncomputable def Nv:Code:=loopAt Tryz.f69 2
theorem Na {h:H} (c:Int):AH tab 44 1 [(0,.int .u8 c)] h=some (.slice (some (own h.next)) 1 1,h.new (.cells [.int .u8 c] 5 none)):=by
 unfold AH;simp only[GD,ACc];rfl
theorem ACq (b:Option Addr) (n c:Nat):Ax tab 44 (.slice b n c)=some false:=by unfold Ax;rw[GD]
theorem Yw (n:Int) {h:H}:AQ tab E 93 5 (.int .u64 n) h=some (.int .u8 (IntKind.u8.wrap n),h):=by unfold AQ;simp only[VJ,Yv]
theorem VM (n:Int) {h:H}:AQ tab E 104 5 (.int .u32 n) h=some (.int .u8 (IntKind.u8.wrap n),h):=by unfold AQ;simp only[VJ,Jf]
theorem Yx (n:Int) {h:H}:AQ tab E 3 93 (.int .i64 n) h=some (.int .u64 (IntKind.u64.wrap n),h):=by unfold AQ;simp only[ACd,Yv]
def Pad (base:Nat) (s:Value) (bs:List UInt8) (h:H):Prop:=∃ ro,Ap3 h base 5 1 s bs.length (bytesV bs) ro
theorem Pad.byt {base:Nat} {s:Value} {bs:List UInt8} {h:H} (p:Pad base s bs h):Byt E h s bs:=by
 obtain⟨ro,ap⟩:=p;rcases ap.get with⟨h1,_,h3⟩|⟨k,rt,h1,hb,hl,ho⟩
 ·exact .inl ⟨h3,O3.1 h1⟩
 ·exact .inr ⟨own k,_,h1,C0 _,AG hb (AM bs) ho⟩
theorem Pad.app {base:Nat} {s:Value} {bs:List UInt8} {h g:H} (p:Pad base s bs h) (f:Fit h) (c:UInt8) (hb:base<=h.next) (hl:bs.length<=1000) (hg:g.next<=base) (a:Ahd g h) :
  ∃ s' h',Ab tab E 44 44 s (.slice (some (own h.next)) 1 1) (h.new (.cells [.int .u8 (c.toNat:Nat)] 5 none))=some (s',h')/\Pad base s' (bs++[c]) h'/\Ahd g h'/\h.next<=h'.next:=by
 obtain⟨ro,ap⟩:=p;have t1:Ahd h (h.new (.cells [.int .u8 (c.toNat:Nat)] 5 none)):=Ahd.aj f rfl;have b1:(h.new (.cells [.int .u8 (c.toNat:Nat)] 5 none)).blk h.next=some (.cells [.int .u8 (c.toNat:Nat)] 5 none):=AA rfl;obtain⟨s',h',ro',happ,a2,gk,_⟩:=XD (D:=tab) (E:=E) (t:=44) (t2:=44) (m:=0) (c:=1) (ax:=own h.next) t1.fit (Y0 hb t1.next) (ap.grow f t1) GD ACc rfl (ACq _ _ _) (AG b1 rfl rfl) rfl rfl (by unfold roomy;simp only[K0,Z0];omega);refine⟨s',h',happ,⟨ro',.inl ?_⟩,(a.trans t1).gkA gk (fun r hr=>by have:=(ap.root r hr).1;omega),Y0 t1.next gk.next⟩;rw[D0,DK];exact a2
theorem ADj {kw k2 base:Nat} {g:H} {x:W8} {sv:Value} {rest:List UInt8} {n:Nat} (hg:g.next<=base) (w:Wst kw x sv (n:Nat) g) (hr:Byt E g sv rest) (hl:rest.length<=1000) :
  ∀ (r:Nat) (p:List UInt8) (s:Value) (A0:Ac) (h:H),TP (rest.length+p.length)=r->p.length+r<=100->base<=h.next->A0.n=67->A0.defers=[]->A0.get 0=.pointer (some (own kw))->A0.get 2=.pointer (some (own k2))->A0.get 3=s->Ahd g h->Pad base s p h->
   Wc tab E I ⟨69,none⟩ (.loop Nx) A0 h (fun ex A' h'=>ex=.exit 0/\A'.n=67/\A'.defers=[]/\A'.get 0=.pointer (some (own kw))/\A'.get 2=.pointer (some (own k2))/\Ahd g h'/\base<=h'.next/\Pad base (A'.get 3) (p++List.replicate r 0) h'):=by
 intro r;induction r with
 | zero=>
  intro p s A0 h hz hp hbn n0 d0 q0 q2 q3 a P;have h56:=TM hz;have l8:=Gt (E:=E) (show Wst kw x sv (n:Nat) h from a.grows _ _ w) (Di hr);have ln1:=Ln hr;have ln2:=Ln (P.byt (E:=E));have w1:IntKind.i64.wrap ((rest.length:Int)+(p.length:Int))=((rest.length+p.length:Nat):Int):=by rw[wrap64 (by omega) (by omega)];omega
  have r1:Bk .add .i64 (rest.length:Nat) (p.length:Nat)=some (.int .i64 ((rest.length+p.length:Nat):Int)):=by
   show some (Value.int .i64 (IntKind.i64.wrap _))=_;rw[w1]
  have r2:Bk .rem .i64 ((rest.length+p.length:Nat):Int) 64=some (.int .i64 ((56:Nat):Int)):=by
   have:=VF .i64 (rest.length+p.length) 64 (by decide);rw[h56] at this;exact this
  have r3:Bk .neq .i64 ((56:Nat):Int) 56=some (.bool false):=rfl;apply Wc.loop;simp only[Nx,loopAt,loops,Tryz.f69,W0,V0,X0,U2,Q2]
  repeat' (first|(with_reducible apply Wc.seq)|refine Wc.block ?_)
  refine VUz 1 (Z11 n0 q0 q3 @Zx @Hx @l8 @ln1 @ln2 @r1 @r2 @r3) ?_;refine Vwz (Z2 n0 q0) ?_;refine⟨rfl,by simp +decide only[Gz,n0],by simp +decide only[Gz,d0],by simp +decide only[Gz,n0,q0],by simp +decide only[Gz,n0,q2],a,hbn,?_⟩;rw[List.replicate_zero,X0];have e3:∀ A:Ac,A.get 3=s->Pad base (A.get 3) p h:=fun A e=>by rw[e];exact P
  exact e3 _ (S0z (Z2 n0 q3))
 | succ r ih=>
  intro p s A0 h hz hp hbn n0 d0 q0 q2 q3 a P;obtain⟨h56,hz'⟩:=TN hz;have l8:=Gt (E:=E) (show Wst kw x sv (n:Nat) h from a.grows _ _ w) (Di hr);have ln1:=Ln hr;have ln2:=Ln (P.byt (E:=E));have w1:IntKind.i64.wrap ((rest.length:Int)+(p.length:Int))=((rest.length+p.length:Nat):Int):=by rw[wrap64 (by omega) (by omega)];omega
  have r1:Bk .add .i64 (rest.length:Nat) (p.length:Nat)=some (.int .i64 ((rest.length+p.length:Nat):Int)):=by
   show some (Value.int .i64 (IntKind.i64.wrap _))=_;rw[w1]
  have r2:Bk .rem .i64 ((rest.length+p.length:Nat):Int) 64=some (.int .i64 (((rest.length+p.length) % 64:Nat):Int)):=VF .i64 (rest.length+p.length) 64 (by decide);generalize hm:(rest.length+p.length) % 64=m at r2 h56;have r3:Bk .neq .i64 ((m:Nat):Int) 56=some (.bool true):=by
   show some (Value.bool (!decide ((m:Int)=56)))=_;rw[decide_eq_false (by omega)];rfl
  obtain⟨s',h',happ,P',a',nn⟩:=P.app (E:=E) a.fit 0 hbn (by omega) hg a;have happ:Ab tab E 44 44 s (.slice (some (own h.next)) 1 1) (h.new (.cells [.int .u8 0] 5 none))=some (s',h'):=happ;have bs:=Na (h:=h) 0;apply Wc.loop;simp only[Nx,loopAt,loops,Tryz.f69,W0,V0,X0,U2,Q2]
  repeat' (first|(with_reducible apply Wc.seq)|refine Wc.block ?_)
  refine VUz 1 (Z11 n0 q0 q3 @Zx @Hx @l8 @ln1 @ln2 @r1 @r2 @r3) ?_;refine Vwz (Z5 n0 q0 q3 @bs @happ) ?_;have hb':=Y0 hbn nn;refine (ih (p++[0]) s' _ h' (by rw[D0];exact hz') (by rw[D0,W1];omega) hb' ?_ ?_ ?_ ?_ ?_ a' P').mono ?_
  ·simp +decide only[Gz,n0]
  ·simp +decide only[Gz,d0]
  ·simp +decide only[Gz,n0,q0]
  ·simp +decide only[Gz,n0,q2]
  ·simp +decide only[Gz,n0]
  rintro ex A' h2 ⟨e1,e2,e3,e4,e5,e6,e7,e8⟩;rw[JV] at e8;exact⟨e1,e2,e3,e4,e5,e6,e7,e8⟩
theorem ACH {kw k2 base v:Nat} {g:H} (hg:g.next<=base) :
  ∀ (r:Nat) (p:List UInt8) (s:Value) (A0:Ac) (h:H),r<=8->p.length+r<=200->base<=h.next->A0.n=67->A0.defers=[]->A0.get 0=.pointer (some (own kw))->A0.get 2=.pointer (some (own k2))->A0.get 3=s->A0.get 4=.int .u64 (v:Nat)->A0.get 5=.int .i64 (8*(r:Int)-8)->Ahd g h->Pad base s p h->
   Wc tab E I ⟨69,none⟩ (.loop Nw) A0 h (fun ex A' h'=>ex=.exit 2/\A'.n=67/\A'.defers=[]/\A'.get 0=.pointer (some (own kw))/\A'.get 2=.pointer (some (own k2))/\Ahd g h'/\base<=h'.next/\Pad base (A'.get 3) (p++NB v r) h'):=by
 intro r;induction r with
 | zero=>
  intro p s A0 h hr8 hp hbn n0 d0 q0 q2 q3 q4 q5 a P;have q5:A0.get 5=.int .i64 (-8):=q5;have e1:decide ((-8:Int)>=0)=false:=by decide
  apply Wc.loop;simp only[Nw,loopAt,loops,Tryz.f69,W0,V0,X0,U2,Q2];refine Vwz (Z3 n0 q5 e1) ?_;refine⟨rfl,by simp +decide only[Gz,n0],by simp +decide only[Gz,d0],by simp +decide only[Gz,n0,q0],by simp +decide only[Gz,n0,q2],a,hbn,?_⟩;rw[NB,X0];have e3:∀ A:Ac,A.get 3=s->Pad base (A.get 3) p h:=fun A e=>by rw[e];exact P
  exact e3 _ (S0z (Z2 n0 q3))
 | succ r ih=>
  intro p s A0 h hr8 hp hbn n0 d0 q0 q2 q3 q4 q5 a P;have q5:A0.get 5=.int .i64 ((8*r:Nat):Int):=by rw[q5];congr 1;omega
  have e1:decide (((8*r:Nat):Int)>=0)=true:=decide_eq_true (by omega);have w1:IntKind.i64.wrap (((8*r:Nat):Int)-8)=8*(r:Int)-8:=by rw[wrap64 (by omega) (by omega)];omega
  have sh:=ZG v (8*r) (by omega);have wc:=AAr (v / 2 ^ (8*r));have bs:=Na (h:=h) (((UInt8.ofNat (v / 2 ^ (8*r))).toNat:Nat):Int);rw[NB];generalize UInt8.ofNat (v / 2 ^ (8*r))=c at wc bs ⊢;generalize v / 2 ^ (8*r)=y at sh wc;generalize hI8:((8*r:Nat):Int)=i8 at q5 e1 w1 sh;obtain⟨s',h',happ,P',a',nn⟩:=P.app (E:=E) a.fit c hbn (by omega) hg a;apply Wc.loop;simp only[Nw,loopAt,loops,Tryz.f69,W0,V0,X0,U2,Q2]
  repeat' (first|(with_reducible apply Wc.seq)|refine Wc.block ?_)
  refine Voz 1 (Z3 n0 q5 e1) ?_
  repeat' (first|(with_reducible apply Wc.seq)|refine Wc.block ?_)
  (refine W2 (by simp +decide only[Cz,n0,q5,e1];try with_reducible rfl) (fun hb=>?_) (fun hb=>?_)<;>try contradiction)
  refine Wc.skip ?_;refine Vwz (Z10 n0 q3 q4 q5 @sh @Yw @wc @bs @happ @w1) ?_;refine (ih (p++[c]) s' _ h' (by omega) (by rw[D0,W1];omega) (Y0 hbn nn) ?_ ?_ ?_ ?_ ?_ ?_ ?_ a' P').mono ?_
  ·simp +decide only[Gz,n0]
  ·simp +decide only[Gz,d0]
  ·simp +decide only[Gz,n0,q0]
  ·simp +decide only[Gz,n0,q2]
  ·simp +decide only[Gz,n0]
  ·simp +decide only[Gz,n0,q4]
  ·simp +decide only[Gz,n0]
  rintro ex A' h2 ⟨e1,e2,e3,e4,e5,e6,e7,e8⟩;rw[E1] at e8;exact⟨e1,e2,e3,e4,e5,e6,e7,e8⟩
def Arb (k:Nat) (D:List UInt8) (h:H):Prop:=h.blk k=some (.cells (bytesV D) 53 none)
theorem Arb.set {k:Nat} {D:List UInt8} {h:H} (f:Fit h) (a:Arb k D h) {i:Nat} (hi:i<D.length) (c:UInt8):AO tab 5 (aadd (own k) i) (.int .u8 (c.toNat:Nat)) h=some (h.aa k (.cells (bytesV (D.set i c)) 53 none))/\Arb k (D.set i c) (h.aa k (.cells (bytesV (D.set i c)) 53 none))/\Mod (fun j=>j=k) h (h.aa k (.cells (bytesV (D.set i c)) 53 none)):=by
 refine⟨Aj VJ rfl a rfl rfl (by rw[AM];exact hi) ?_,AD rfl,(Mod.refl f).aa rfl rfl (f.lt a)⟩;rw[KH,List.set_eq_take_append_cons_drop,if_pos (by rw[AM];exact hi),E1];rfl
theorem Y7 {kw:Nat} {x:W8} {sv:Value} {n:Int} {h:H} (w:Wst kw x sv n h) {i:Nat} (hi:i<8):h.cell E (aadd (own kw) i)=some (.int .u32 ((x.list.getD i 0).toNat:Nat)):=by
 rw[Aq w,O4 (by simp[AE,W8.list];omega),Gp (by simp[W8.list];omega)];rfl
theorem ADk {kw k2:Nat} {g:H} {x:W8} {sv:Value} {n:Int} (w:Wst kw x sv n g) (nk:kw≠k2) :
  ∀ (r i:Nat) (D:List UInt8) (A0:Ac) (h:H),r=32-i->i<=32->D.length=32->A0.n=67->A0.defers=[]->A0.get 0=.pointer (some (own kw))->A0.get 2=.pointer (some (own k2))->A0.get 46=.int .i64 (i:Nat)->Mod (fun j=>j=k2) g h->Arb k2 D h->
   Wc tab E I ⟨69,none⟩ (.loop Nv) A0 h (fun ex A' h'=>ex=.exit 4/\A'.n=67/\A'.defers=[]/\A'.get 2=.pointer (some (own k2))/\Mod (fun j=>j=k2) g h'/\Arb k2 (Zg x.list r i D) h'):=by
 intro r;induction r with
 | zero=>
  intro i D A0 h hr hi hD n0 d0 q0 q2 q46 M a;obtain rfl:i=32:=by omega
  have e1:decide (((32:Nat):Int)<32)=false:=by decide
  apply Wc.loop;simp only[Nv,loopAt,loops,Tryz.f69,W0,V0,X0,U2,Q2];refine Vwz (Z3 n0 q46 e1) ?_;exact⟨rfl,by simp +decide only[Gz,n0],by simp +decide only[Gz,d0],by simp +decide only[Gz,n0,q2],M,a⟩
 | succ r ih=>
  intro i D A0 h hr hi hD n0 d0 q0 q2 q46 M a;have hi32:i<32:=by omega
  have e1:decide ((i:Int)<32)=true:=decide_eq_true (by omega);have w0:IntKind.i64.wrap ((i:Int)+1)=((i+1:Nat):Int):=by rw[wrap64 (by omega) (by omega)];omega
  have r1:Bk .quo .i64 (i:Nat) 4=some (.int .i64 ((i / 4:Nat):Int)):=YB .i64 i 4 (by decide) (by rw[wrap64 (by omega) (by omega)]);have r2:Bk .rem .i64 (i:Nat) 4=some (.int .i64 ((i % 4:Nat):Int)):=VF .i64 i 4 (by decide);have r3:Bk .mul .i64 ((i % 4:Nat):Int) 8=some (.int .i64 ((8*(i % 4):Nat):Int)):=by
   show some (Value.int .i64 (IntKind.i64.wrap _))=_;rw[wrap64 (by omega) (by omega)];congr 2;omega
  have r4:Bk .sub .i64 24 ((8*(i % 4):Nat):Int)=some (.int .i64 ((24-8*(i % 4):Nat):Int)):=by
   show some (Value.int .i64 (IntKind.i64.wrap _))=_;rw[wrap64 (by omega) (by omega)];congr 2;omega
  have wh:Wst kw x sv n h:=M.blk _ _ nk w;have lw:=Y7 (E:=E) wh (i:=i / 4) (by omega);rw[Zg];have hby:byteW (x.list.getD (i / 4) 0) (24-8*(i % 4))=UInt8.ofNat (x.list.getD (i / 4) 0 >>> (24-8*(i % 4))).toNat:=rfl;have sh:=ZF (x.list.getD (i / 4) 0) (24-8*(i % 4));have wc:=AAr (x.list.getD (i / 4) 0 >>> (24-8*(i % 4))).toNat;rw[<- hby] at wc;have ir4:AN ((i / 4:Nat):Int) 8=true:=by
   show Nat.blt (i / 4) 8=true;rw[P0];omega
  have ir:AN (i:Int) 32=true:=by
   show Nat.blt i 32=true;rw[P0];exact hi32
  have ia4:AL tab 105 (.pointer (some (own kw))) (.int .i64 ((i / 4:Nat):Int))=some (.pointer (some (aadd (own kw) (i / 4)))):=by
   rw[Eo _ _ ir4,M0,V2]
  have ia:AL tab 53 (.pointer (some (own k2))) (.int .i64 (i:Nat))=some (.pointer (some (aadd (own k2) i))):=by
   rw[ACu _ _ ir,M0,V2]
  generalize byteW (x.list.getD (i / 4) 0) (24-8*(i % 4))=c at wc ⊢;generalize x.list.getD (i / 4) 0 >>> (24-8*(i % 4))=y at sh wc;generalize x.list.getD (i / 4) 0=z at sh lw;generalize 24-8*(i % 4)=s4 at r4 sh;generalize 8*(i % 4)=s3 at r3 r4;generalize i % 4=s2 at r2 r3;generalize i / 4=s1 at r1 lw ia4;obtain⟨st,a2,m2⟩:=a.set M.fit (i:=i) (by omega) c;generalize h.aa k2 (.cells (bytesV (D.set i c)) 53 none)=h2 at st a2 m2;apply Wc.loop;simp only[Nv,loopAt,loops,Tryz.f69,W0,V0,X0,U2,Q2]
  repeat' (first|(with_reducible apply Wc.seq)|refine Wc.block ?_)
  refine Voz 1 (Z3 n0 q46 e1) ?_
  repeat' (first|(with_reducible apply Wc.seq)|refine Wc.block ?_)
  (refine W2 (by simp +decide only[Cz,n0,q46,e1];try with_reducible rfl) (fun hb=>?_) (fun hb=>?_)<;>try contradiction)
  refine Wc.skip ?_
  repeat' (first|(with_reducible apply Wc.seq)|refine Wc.block ?_)
  refine Voz 1 (Z2 n0 q46) ?_;refine VUz 1 (Z16 n0 q0 q2 @Zx @Hx @r1 @ia4 @lw @r2 @r3 @r4 @sh @VM @wc @ia @st) ?_;refine Voz 1 (Z3 n0 q46 @w0) ?_;refine ih (i+1) (D.set i c) _ h2 (by omega) (by omega) (by rw[J6];exact hD) ?_ ?_ ?_ ?_ ?_ (M.trans m2) a2
  ·simp +decide only[Gz,n0]
  ·simp +decide only[Gz,d0]
  ·simp +decide only[Gz,n0,q0]
  ·simp +decide only[Gz,n0,q2]
  ·simp +decide only[Gz,n0]
theorem AGI:tab.fn.get 67=some Tryz.f67:=by kernel_rfl
theorem AGY:tab.fn.get 28=some Tryz.f28:=by kernel_rfl
def XU (f:FuncId):Prop:=f=28\/f=67\/f=69\/f=68\/f=98\/f=120\/f=99\/f=121\/f=61\/f=100\/f=122\/f=123\/f=124
theorem PC:(Value.agg #[.int .u8 0,.int .u8 0,.int .u8 0,.int .u8 0,.int .u8 0,.int .u8 0,.int .u8 0,.int .u8 0,.int .u8 0,.int .u8 0,.int .u8 0,.int .u8 0,.int .u8 0,.int .u8 0,.int .u8 0,.int .u8 0,.int .u8 0,.int .u8 0,.int .u8 0,.int .u8 0,.int .u8 0,.int .u8 0,.int .u8 0,.int .u8 0,.int .u8 0,.int .u8 0,.int .u8 0,.int .u8 0,.int .u8 0,.int .u8 0,.int .u8 0,.int .u8 0]).cells.toList=bytesV (List.replicate 32 0):=rfl
theorem AEV (hI:∀ f args h,XU f->I f args h=none) (k137:Rq I) (k136:Yp I) (hK:KT E) {h:H} (f:Fit h) {kw:Nat} {x:W8} {sv:Value} {rest:List UInt8} {n:Nat} (w:Wst kw x sv (n:Nat) h) (hr:Byt E h sv rest) (hl:rest.length<=900) (hn:n<=1000000) :
  ∃ nf y h',(ev tab E I nf).call 69 [.pointer (some (own kw))] h=some (y,h')/\(y=.agg ⟨bytesV (endB x rest n)⟩/\Mod (fun j=>j=kw) h h'):=by
 apply Wk (hI _ _ _ (by unfold XU;simp)) AGG rfl;intro A0 n0 d0 hA0;change A0.n=67 at n0;have q0:A0.get 0=.pointer (some (own kw)):=hA0 0 _ rfl;clear hA0;have hkw:=f.lt w;have hZ:(List.replicate 32 (0:UInt8)).length=32:=I4 ..;have hend:endB x rest n=Zg (takens (IN rest n).length x (IN rest n)).1.list 32 0 (List.replicate 32 0):=rfl;have hz53:=PC;generalize List.replicate 32 (0:UInt8)=Z at hZ hend hz53;generalize hh1:h.new (.cells (bytesV Z) 53 none)=h1;have t1:Ahd h h1:=by rw[<- hh1];exact Ahd.aj f rfl
 have a1:Arb h.next Z h1:=by rw[<- hh1];exact AA rfl
 have hn1:h1.next=h.next+1:=by rw[<- hh1];rfl
 have w1:Wst kw x sv (n:Nat) h1:=t1.grows _ _ w;have hr1:=hr.grow t1.grows;have bs:=Na (h:=h1) 128;generalize hh2:h1.new (.cells [.int .u8 128] 5 none)=h2 at bs;have t2:Ahd h1 h2:=by rw[<- hh2];exact Ahd.aj t1.fit rfl
 have P2:Pad h1.next (.slice (some (own h1.next)) 1 1) [128] h2:=⟨none,.inr ⟨h1.next,rfl,by rw[<- hh2];exact AA rfl,rfl,rfl,rfl⟩⟩;have n12:=t2.next;have pz:=TO (rest.length+1);refine Vwz (Z6 n0 q0 @VI @hz53 @hh1 @bs) ?_;refine (ADj (E:=E) (I:=I) (kw:=kw) (k2:=h.next) (base:=h1.next) (g:=h1) (C0 _) w1 hr1 (by omega) (TP (rest.length+1)) [128] _ _ h2 rfl (by simp only[W1];omega) n12 ?_ ?_ ?_ ?_ ?_ t2 P2).mono ?_
 ·simp +decide only[Gz,n0]
 ·simp +decide only[Gz,d0]
 ·simp +decide only[Gz,n0,q0]
 ·simp +decide only[Gz,n0]
 ·simp +decide only[Gz,n0]
 clear n0 d0 q0;rintro ex A0 h3 ⟨rfl,n0,d0,q0,q2,t3,n3,P3⟩;simp only[if_true];have epad:[128]++List.replicate (TP (rest.length+1)) 0=YT rest.length:=rfl;rw[epad] at P3;have lpad:=Nr rest.length;have ppad:=WG rest.length;generalize hs3:A0.get 3=s3 at P3;have w3:Wst kw x sv (n:Nat) h3:=t3.grows _ _ w1;have l9:=VV (E:=E) w3;have cv:IntKind.u64.wrap ((n:Nat):Int)=((n:Nat):Int):=KN (by omega);have ml:IntKind.u64.wrap (8*((n:Nat):Int))=((8*n:Nat):Int):=by
  have:=KN (x:=8*n) (by omega);rw[<- this];congr 1
 refine Vwz (Z8 n0 q0 @Zx @Hx @l9 @Yx @cv @ml) ?_;refine (ACH (E:=E) (I:=I) (kw:=kw) (k2:=h.next) (base:=h1.next) (v:=8*n) (g:=h1) (C0 _) 8 (YT rest.length) s3 _ h3 (C0 _) (by omega) n3 ?_ ?_ ?_ ?_ ?_ ?_ ?_ t3 P3).mono ?_
 ·simp +decide only[Gz,n0]
 ·simp +decide only[Gz,d0]
 ·simp +decide only[Gz,n0,q0]
 ·simp +decide only[Gz,n0,q2]
 ·simp +decide only[Gz,n0,hs3]
 ·simp +decide only[Gz,n0]
 ·simp +decide only[Gz,n0];rfl
 clear n0 d0 q0 q2 hs3;rintro ex A0 h4 ⟨rfl,n0,d0,q0,q2,t4,n4,P4⟩;simp only[if_true];have w4:Wst kw x sv (n:Nat) h4:=t4.grows _ _ w1;have hr4:=hr1.grow t4.grows;have ltail:(IN rest n).length<=1000000:=by
  unfold IN;rw[D0,D0,FJ];omega
 have ptail:0<(IN rest n).length:=by
  unfold IN;rw[D0,D0,FJ];omega
 generalize hs4:A0.get 3=s4 at P4;obtain⟨np,_,h5,c68,rfl,M5,sv5,w5,hr5⟩:=ABi (E:=E) (I:=I) (fun f args h hf=>hI f args h (by unfold XU;rcases hf with h|h|h|h|h|h|h|h|h|h<;>simp[h])) k137 k136 hK t4.fit w4 hr4 (P4.byt (E:=E)) ptail ltail;have etl:rest++(YT rest.length++NB (8*n) 8)=IN rest n:=rfl;rw[etl] at w5;generalize (takens (IN rest n).length x (IN rest n)).1=z at w5 hend;have nn4:=t4.next;have a5:Arb h.next Z h5:=M5.blk _ _ (by omega) (t4.grows _ _ a1);refine Vnz np (Z9 n0 q0 @roF.eq_1 @roF.eq_2 @hs4 (@W0 Value) (@V0 Value) (@X0 Value) @c68) ?_;refine (ADk (E:=E) (I:=I) (kw:=kw) (k2:=h.next) (g:=h5) w5 (by omega) 32 0 Z _ h5 rfl (by omega) hZ ?_ ?_ ?_ ?_ ?_ (Mod.refl M5.fit) a5).mono ?_
 ·simp +decide only[Gz,n0]
 ·simp +decide only[Gz,d0]
 ·simp +decide only[Gz,n0,q0]
 ·simp +decide only[Gz,n0,q2]
 ·simp +decide only[Gz,n0];rfl
 clear n0 d0 q0 q2;rintro ex A0 h6 ⟨rfl,n0,d0,q2,M6,a6⟩;simp only[if_true];rw[<- hend] at a6;have lD:(bytesV (endB x rest n)).length=32:=by rw[AM,hend,Fw,hZ]
 generalize endB x rest n=D at a6 lD ⊢;have ld:h6.cells E (own h.next) 32=some (bytesV D):=AG a6 lD (BF _);have st:AO tab 53 (own h.next) (.agg ⟨bytesV D⟩) h6=some (h6.aa h.next (.cells (bytesV D) 53 none)):=AU Lk a6 (by rw[lD]) (by rw[lD]) (BF _) (by intro e;rw[e] at lD;simp at lD);have m7:=(Mod.refl (M:=fun j=>j=h.next) M6.fit).aa (B:=.cells (bytesV D) 53 none) rfl rfl (M6.fit.lt a6);have ld2:(h6.aa h.next (.cells (bytesV D) 53 none)).cells E (own h.next) 32=some (bytesV D):=AG (AD rfl) lD (BF _);refine Vwz (Z6 n0 q2 @Zx @Hx @ld @st) ?_;have MM:Mod (fun j=>j=kw\/h.next<=j) h _:=((((t1.trans t4).mod.trans (M5.sub fun j hj=>.inl hj)).trans (M6.sub fun j hj=>.inr (by omega))).trans (m7.sub fun j hj=>.inr (by omega)));exact CO (.inr rfl) (S0z d0) rfl (show _=Value.pointer (some (own h.next)) by simp +decide only[Gz,n0,q2]) (by rw[QN,ld2]) ⟨rfl,Mod.low f MM (fun j hj=>hj)⟩
def BT (E:Env):Prop:=∀ i:Nat,i<8->E 0 i=some (.int .u32 ((begin8.list.getD i 0).toNat:Nat))
theorem Wx (hB:BT E) (h:H):h.cells E ⟨0,0,none⟩ 8=some (AE begin8.list):=by
 have e:=fun i hi=>hB i hi;show Bm E 0 0 8=_;simp only[Bm,e 0 (by decide),e 1 (by decide),e 2 (by decide),e 3 (by decide),e 4 (by decide),e 5 (by decide),e 6 (by decide),e 7 (by decide),one?,isOne,Z1];rfl
theorem ADq (hI:∀ args h,I 67 args h=none) (hB:BT E) {h:H} (f:Fit h) :
  ∃ nf y h',(ev tab E I nf).call 67 [] h=some (y,h')/\(y=.agg ⟨AE begin8.list++[.slice none 0 0,.int .i64 0]⟩/\Ahd h h'):=by
 apply Wk (hI _ _) AGI rfl;intro A0 n0 d0 hA0;change A0.n=3 at n0;clear hA0;have ld:=Wx hB;generalize begin8=x at ld ⊢;obtain⟨h1,hh1,t1,b1⟩:=nT f [.int .u32 0,.int .u32 0,.int .u32 0,.int .u32 0,.int .u32 0,.int .u32 0,.int .u32 0,.int .u32 0,.slice none 0 0,.int .i64 0] 107;have bu:BX tab 107 [(0,.agg ⟨AE x.list⟩)]=some (.agg ⟨AE x.list++[.slice none 0 0,.int .i64 0]⟩):=by
  unfold BX;simp only[IF];rfl
 have st:AO tab 107 (own h.next) (.agg ⟨AE x.list++[.slice none 0 0,.int .i64 0]⟩) h1=some (h1.aa h.next (.cells (AE x.list++[.slice none 0 0,.int .i64 0]) 107 none)):=AU IF b1 rfl rfl (PD rfl) (by simp);have t2:Ahd h (h1.aa h.next (.cells (AE x.list++[.slice none 0 0,.int .i64 0]) 107 none)):=t1.aa rfl (C0 _) (t1.fit.lt b1) f;have ld2:(h1.aa h.next (.cells (AE x.list++[.slice none 0 0,.int .i64 0]) 107 none)).cells E (own h.next) 10=some (AE x.list++[.slice none 0 0,.int .i64 0]):=AG (AD rfl) rfl (PD rfl);refine Vwz (Z7 n0 @AAe @hh1 @HU @ld @bu @st) ?_;exact CO (.inr rfl) (S0z d0) rfl (show _=Value.pointer (some (own h.next)) by simp +decide only[Gz,n0]) (by rw[R8,ld2]) ⟨rfl,t2⟩
theorem AFA (hI:∀ f args h,XU f->I f args h=none) (k137:Rq I) (k136:Yp I) (hK:KT E) (hB:BT E) {h:H} (f:Fit h) {v:Value} {bs:List UInt8} (hv:Byt E h v bs) (h0:0<bs.length) (hl:bs.length<=1000000) :
  ∃ nf y h',(ev tab E I nf).call 28 [v] h=some (y,h')/\(y=.agg ⟨bytesV (PG bs)⟩/\Mod (fun _=>False) h h'):=by
 apply Wk (hI _ _ _ (by unfold XU;simp)) AGY rfl;intro A0 n0 d0 hA0;change A0.n=13 at n0;have q0:A0.get 0=v:=hA0 0 _ rfl;clear hA0;have hZ:(bytesV (List.replicate 32 (0:UInt8))).length=32:=by rw[AM,I4]
 have hz53:=PC;generalize hz:bytesV (List.replicate 32 (0:UInt8))=Z at hZ hz53;generalize hh1:h.new (.cells Z 53 none)=h1;have t1:Ahd h h1:=by rw[<- hh1];exact Ahd.aj f rfl
 have a1:h1.blk h.next=some (.cells Z 53 none):=by rw[<- hh1];exact AA rfl
 obtain⟨n67,_,h2,c67,rfl,t2⟩:=ADq (E:=E) (I:=I) (fun args h=>hI _ _ _ (by unfold XU;simp)) hB t1.fit;have hsum:PG bs=endB (takens bs.length begin8 bs).1 (takens bs.length begin8 bs).2 bs.length:=rfl;generalize begin8=x at c67 hsum;have bu:BX tab 110 [(0,.agg ⟨AE x.list++[.slice none 0 0,.int .i64 0]⟩)]=some (.agg ⟨AE x.list++[.slice none 0 0,.int .i64 0]⟩):=by
  unfold BX;simp only[Lm];rfl
 obtain⟨h3,hh3,t3,b3⟩:=nT t2.fit [.int .u32 0,.int .u32 0,.int .u32 0,.int .u32 0,.int .u32 0,.int .u32 0,.int .u32 0,.int .u32 0,.slice none 0 0,.int .i64 0] 110;have st:AO tab 110 (own h2.next) (.agg ⟨AE x.list++[.slice none 0 0,.int .i64 0]⟩) h3=some (h3.aa h2.next (.cells (AE x.list++[.slice none 0 0,.int .i64 0]) 110 none)):=AU Lm b3 rfl rfl (PD rfl) (by simp);have lt3:=t3.fit.lt b3;have n12:=t2.next;have n01:h.next<h1.next:=t1.fit.lt a1;have t4:Ahd h1 (h3.aa h2.next (.cells (AE x.list++[.slice none 0 0,.int .i64 0]) 110 none)):=(t2.trans t3).aa rfl n12 lt3 t1.fit;have w4:Wst h2.next x (.slice none 0 0) 0 (h3.aa h2.next (.cells (AE x.list++[.slice none 0 0,.int .i64 0]) 110 none)):=AD rfl;generalize h3.aa h2.next (.cells (AE x.list++[.slice none 0 0,.int .i64 0]) 110 none)=h4 at st t4 w4;have lt4:=t4.fit.lt w4;have ln:=Ln hv;have st5:=AAt w4 (m:=((bs.length:Nat):Int));have m5:=(Mod.refl (M:=fun j=>j=h2.next) t4.fit).aa (B:=.cells (AE x.list++[.slice none 0 0,.int .i64 ((bs.length:Nat):Int)]) 110 none) rfl rfl lt4;have t5:Ahd h1 (h4.aa h2.next (.cells (AE x.list++[.slice none 0 0,.int .i64 ((bs.length:Nat):Int)]) 110 none)):=t4.aa rfl n12 lt4 t1.fit;have w5:Wst h2.next x (.slice none 0 0) ((bs.length:Nat):Int) (h4.aa h2.next (.cells (AE x.list++[.slice none 0 0,.int .i64 ((bs.length:Nat):Int)]) 110 none)):=AD rfl;generalize h4.aa h2.next (.cells (AE x.list++[.slice none 0 0,.int .i64 ((bs.length:Nat):Int)]) 110 none)=h5 at st5 m5 t5 w5;have hv5:Byt E h5 v bs:=hv.grow (t1.grows.trans t5.grows);obtain⟨np,_,h6,c68,rfl,M6,sv6,w6,hr6⟩:=ABi (E:=E) (I:=I) (fun f args h hf=>hI f args h (by unfold XU;rcases hf with h|h|h|h|h|h|h|h|h|h<;>simp[h])) k137 k136 hK t5.fit w5 (rest:=[]) (.inl ⟨rfl,rfl⟩) hv5 h0 hl;rw[V0] at w6 hr6;have hr64:=HW bs.length x bs (by omega);generalize takens bs.length x bs=tk at w6 hr6 hr64 hsum;obtain⟨ne,_,h7,c69,rfl,M7⟩:=AEV (E:=E) (I:=I) hI k137 k136 hK M6.fit w6 hr6 (by omega) hl;rw[<- hsum] at c69;have lD:(bytesV (PG bs)).length=32:=by rw[AM,DS]
 have oD:=BF (PG bs);generalize bytesV (PG bs)=D at c69 lD oD ⊢;have a7:h7.blk h.next=some (.cells Z 53 none):=M7.blk _ _ (by omega) (M6.blk _ _ (by omega) (t5.grows _ _ a1));have st8:AO tab 53 (own h.next) (.agg ⟨D⟩) h7=some (h7.aa h.next (.cells D 53 none)):=AU Lk a7 (by rw[lD]) (by rw[lD,hZ]) oD (by intro e;rw[e] at lD;simp at lD);have m8:=(Mod.refl (M:=fun j=>j=h.next) M7.fit).aa (B:=.cells D 53 none) rfl rfl (M7.fit.lt a7);have ld8:(h7.aa h.next (.cells D 53 none)).cells E (own h.next) 32=some D:=AG (AD rfl) lD oD;obtain⟨nn,h1n,h2n,h3n⟩:∃ nn,n67<=nn/\np<=nn/\ne<=nn:=⟨max n67 (max np ne),by omega,by omega,by omega⟩;have c67:=(AX (D:=tab) (E:=E) I h1n).call c67;have c68:=(AX (D:=tab) (E:=E) I h2n).call c68;have c69:=(AX (D:=tab) (E:=E) I h3n).call c69;refine Vnz nn (Z17 n0 q0 @VI @hz53 @hh1 @c67 @bu @AAd @hh3 @st @ln @Zx @Hx @st5 @c68 @c69 @st8) ?_;have MM:Mod (fun j=>h.next<=j) h _:=((((t1.trans t5).mod.trans (M6.sub fun j hj=>by omega)).trans (M7.sub fun j hj=>by omega)).trans (m8.sub fun j hj=>by omega));exact CO (.inr rfl) (S0z d0) rfl (show _=Value.pointer (some (own h.next)) by simp +decide only[Gz,n0]) (by rw[QN,ld8]) ⟨rfl,Mod.low f MM (fun j hj=>.inr hj)⟩
end Go.Proofs.YtofijpbmbmbnhaaGreatDoor
namespace Go.Hs
def DX (c:UInt8):Bool:=decide (32<=c.toNat)&&decide (c.toNat<=126) && !decide (c.toNat=34) && !decide (c.toNat=92)
def C9 (n:Nat):UInt8:=UInt8.ofNat (if n<10 then 48+n else 87+n)
def UN (c:UInt8):List UInt8:=if DX c=true then [c] else [92,C9 (c.toNat / 16),C9 (c.toNat % 16)]
def escL:List UInt8->List UInt8
 | []=>[]
 | c::cs=>UN c++escL cs
theorem I7:∀ a b:List UInt8,escL (a++b)=escL a++escL b
 | [],b=>rfl
 | c::a,b=>by rw[W0,escL,escL,I7 a b,E1]
theorem Wi (c:UInt8):1<=(UN c).length/\(UN c).length<=3:=by
 unfold UN
 split<;>simp
theorem Ga:∀ l:List UInt8,l.length<=(escL l).length/\(escL l).length<=3*l.length
 | []=>⟨C0 _,C0 _⟩
 | c::l=>by
  have h1:=Wi c;have h2:=Ga l;rw[escL,D0,I1];omega
mutual
def Cq:Item->List UInt8
 | .mk k m tx ks=>Lib.decDigits k.toNat++(if m=0 then [] else 58::Lib.decDigits m.toNat)++(if tx.data.toList=[] then [] else 34::(escL tx.data.toList++[34]))++(if ks=[] then [] else prtL ks 40++[41])
def prtL:List Item->UInt8->List UInt8
 | [],_=>[]
 | x::xs,b=>b::(Cq x++prtL xs 32)
end
theorem Ie:∀ (a:List Item) (x:Item) (b:UInt8),prtL (a++[x]) b=prtL a b++((if a=[] then b else 32)::Cq x)
 | [],x,b=>by rw[V0,prtL,prtL,prtL];simp
 | y::a,x,b=>by
  rw[W0,prtL,prtL,Ie a x 32];simp
theorem FG {m:Int} (h0:0<=m) (h1:m<=1099511627776):(Lib.decDigits m.toNat).length<=15:=by
 rw[Lib.decDigits_length];exact UT (Nat.lt_of_le_of_lt (show m.toNat<=1099511627776 by omega) (by decide)) (by decide)
mutual
theorem Pf:∀ t:Item,Bu t->(Cq t).length+1<=12400*isz t
 | .mk k m tx ks,g=>by
  rw[Bu] at g;obtain⟨g1,g2,g3,g4,g5,g6⟩:=g;have h1:=FG (m:=k) (by omega) (by omega);have h2:=FG (m:=m) g3 g4;have h3:=(Ga tx.data.toList).2;have h4:=Pe ks 40 g6;rw[Cq,isz];simp only[D0];have e1:(if m=0 then ([]:List UInt8) else 58::Lib.decDigits m.toNat).length<=16:=by split<;>simp<;>omega
  have e2:(if tx.data.toList=[] then ([]:List UInt8) else 34::(escL tx.data.toList++[34])).length<=12290:=by split<;>simp<;>omega
  have e3:(if ks=[] then ([]:List UInt8) else prtL ks 40++[41]).length<=(prtL ks 40).length+1:=by split<;>simp
  omega
theorem Pe:∀ (ks:List Item) (b:UInt8),goodL ks->(prtL ks b).length<=12400*iszL ks
 | [],b,_=>by rw[prtL,iszL];simp
 | x::xs,b,g=>by
  rw[goodL] at g;have h1:=Pf x g.1;have h2:=Pe xs 32 g.2;have h3:=HK x;rw[prtL,iszL,I1,D0];omega
end
theorem MY:∀ {ks:List Item} {y:Item} (i:Nat),goodL ks->ks[i]? = some y->Bu y
 | [],y,i,_,h=>by simp at h
 | x::ks,y,0,h,hy=>by
  rw[goodL] at h;obtain rfl:x=y:=by simpa using hy
  exact h.1
 | x::ks,y,i+1,h,hy=>by
  rw[goodL] at h;exact MY i h.2 (by simpa using hy)
theorem Ht:∀ (ks:List Item) (m B:Int),lvlL ks m<=B↔m<=B/\∀ t∈ks,Cd t<=B
 | [],m,B=>by rw[lvlL];simp
 | x::ks,m,B=>by
  rw[lvlL];split
  ·rw[Ht ks _ B];simp only[O1,forall_eq_or_imp];constructor
   ·rintro⟨h1,h2⟩;exact⟨by omega,h1,h2⟩
   ·rintro⟨h1,h2,h3⟩;exact⟨h2,h3⟩
  ·rw[Ht ks _ B];simp only[O1,forall_eq_or_imp];constructor
   ·rintro⟨h1,h2⟩;exact⟨h1,by omega,h2⟩
   ·rintro⟨h1,h2,h3⟩;exact⟨h1,h3⟩
def HM (c:UInt8):Bool:=decide (48<=c.toNat)&&decide (c.toNat<=57)
def digRun (bs:List UInt8):Nat->Nat->Nat->Nat×Nat
 | 0,pos,n=>(pos,n)
 | k+1,pos,n=>match bs[pos]? with
  | none=>(pos,n)
  | some c=>if HM c=true then digRun bs k (pos+1) (min (10*n+(c.toNat-48)) 1099511627777) else (pos,n)
def Dz (bs:List UInt8) (most:Nat) (zero:Int) (pos items:Nat):Rd Nat:=
 if (digRun bs (bs.length-pos) pos 0).1=pos\/(bs[pos]? = some 48/\pos+1<(digRun bs (bs.length-pos) pos 0).1) then .bad pos 4
 else if most<(digRun bs (bs.length-pos) pos 0).2 then .bad pos 3
 else if (digRun bs (bs.length-pos) pos 0).2=0 then .bad pos zero
 else .ok (digRun bs (bs.length-pos) pos 0).2 (digRun bs (bs.length-pos) pos 0).1 items
def valB (c:UInt8):Option Nat:=if HM c=true then some (c.toNat-48) else if 97<=c.toNat/\c.toNat<=102 then some (c.toNat-87) else none
def Em (bs:List UInt8) (pos:Nat):Rd UInt8:=
 match bs[pos]? with
 | none=>.bad bs.length 4
 | some c1=>match valB c1 with
  | none=>.bad (pos-1) 4
  | some a=>match bs[pos+1]? with
   | none=>.bad bs.length 4
   | some c2=>match valB c2 with
    | none=>.bad (pos-1) 4
    | some b=>if DX (UInt8.ofNat (a*16+b))=true then .bad (pos-1) 4 else .ok (UInt8.ofNat (a*16+b)) (pos+2) 0
def CT (bs:List UInt8):Nat->Nat->List UInt8->Rd (List UInt8)
 | 0,pos,_=>.bad pos 4
 | k+1,pos,acc=>match bs[pos]? with
  | none=>.bad pos 4
  | some c=>
   if c=34 then .ok acc (pos+1) 0
   else if c=92 then match Em bs (pos+1) with
    | .bad p e=>.bad p e
    | .ok x p _=>CT bs k p (acc++[x])
   else if DX c=true then CT bs k (pos+1) (acc++[c])
   else .bad pos 4
def Fu (bs:List UInt8) (pos items:Nat):Rd ByteArray:=
 match CT bs (bs.length+1-pos) pos [] with
 | .bad p e=>.bad p e
 | .ok acc p _=>if acc=[] then .bad (pos-1) 4 else if 4096<acc.length then .bad (pos-1) 11 else .ok ⟨⟨acc⟩⟩ p items
def Rk (bs:List UInt8) (rec:Nat->Nat->Rd Item):Nat->List Item->Nat->Nat->Rd (List Item)
 | 0,_,pos,_=>.bad pos 4
 | k+1,acc,pos,items=>match rec pos items with
  | .bad p e=>.bad p e
  | .ok t p it=>
   if bs[p]? = some 41 then .ok (acc++[t]) (p+1) it
   else if bs[p]? = some 32 then Rk bs rec k (acc++[t]) (p+1) it
   else .bad p 4
def rdPI (bs:List UInt8):Nat->Nat->Nat->Rd Item
 | 0,pos,_=>.bad pos 11
 | f+1,pos,items=>
  if 5000<=items then .bad pos 2
  else match Dz bs 63 3 pos (items+1) with
   | .bad p e=>.bad p e
   | .ok k p it=>match (if bs[p]? = some 58 then Dz bs 1099511627776 4 (p+1) it else .ok 0 p it) with
    | .bad p e=>.bad p e
    | .ok m p it=>match (if bs[p]? = some 34 then Fu bs (p+1) it else .ok ⟨⟨[]⟩⟩ p it) with
     | .bad p e=>.bad p e
     | .ok tx p it=>
      if bs[p]? = some 40 then match Rk bs (rdPI bs f) (bs.length+1) [] (p+1) it with
       | .bad p e=>.bad p e
       | .ok ks p it=>.ok (.mk (k:Nat) (m:Nat) tx ks) p it
      else .ok (.mk (k:Nat) (m:Nat) tx []) p it
def ACh (bs:List UInt8):Rd Item:=
 if 65536<bs.length then .bad 0 11
 else match rdPI bs 250 0 0 with
  | .bad p e=>.bad p e
  | .ok t p items=>if p<bs.length then .bad p 4 else .ok t p items
/-! ### What is so of what is read -/
theorem HO {bs:List UInt8}:∀ (k pos n:Nat),pos<=bs.length->pos<=(digRun bs k pos n).1/\(digRun bs k pos n).1<=bs.length/\(n<=1099511627777->(digRun bs k pos n).2<=1099511627777)
 | 0,pos,n,h=>⟨C0 _,h,fun h=>h⟩
 | k+1,pos,n,h=>by
  rw[digRun];split
  ·exact⟨C0 _,h,fun h=>h⟩
  ·next c hc=>
   have hlt:=(O0.1 hc).1;split
   ·obtain⟨h1,h2,h3⟩:=HO (bs:=bs) k (pos+1) (min (10*n+(c.toNat-48)) 1099511627777) (by omega);exact⟨by omega,h2,fun _=>h3 (by omega)⟩
   ·exact⟨C0 _,h,fun h=>h⟩
theorem Hn {bs:List UInt8} {most:Nat} {zero:Int} {pos items v p it:Nat} (h:Dz bs most zero pos items=.ok v p it) (hp:pos<=bs.length):pos<p/\p<=bs.length/\1<=v/\v<=most/\it=items:=by
 unfold Dz at h;obtain⟨h1,h2,_⟩:=HO (bs:=bs) (bs.length-pos) pos 0 hp;split at h
 ·cases h
 ·next hc=>
  split at h
  ·cases h
  ·split at h
   ·cases h
   ·cases h;exact⟨by omega,h2,by omega,by omega,rfl⟩
theorem MJ {bs:List UInt8} {most:Nat} {zero:Int} {pos items p:Nat} {e:Int} (h:Dz bs most zero pos items=.bad p e) (hp:pos<=bs.length) (hz:zero=3\/zero=4):p=pos/\(e=3\/e=4):=by
 unfold Dz at h;split at h
 ·cases h;exact⟨rfl,.inr rfl⟩
 ·split at h
  ·cases h;exact⟨rfl,.inl rfl⟩
  ·split at h
   ·cases h;exact⟨rfl,hz⟩
   ·cases h
theorem Kc {bs:List UInt8} {pos p it:Nat} {x:UInt8} (h:Em bs pos=.ok x p it):p=pos+2/\p<=bs.length:=by
 unfold Em at h;split at h
 ·cases h
 ·split at h
  ·cases h
  ·split at h
   ·cases h
   ·next c2 hc2=>
    have:=(O0.1 hc2).1;split at h
    ·cases h
    ·split at h
     ·cases h
     ·cases h;exact⟨rfl,by omega⟩
theorem Sg {bs:List UInt8} {pos p:Nat} {e:Int} (h:Em bs pos=.bad p e) (hp:pos<=bs.length):p<=bs.length/\e=4:=by
 unfold Em at h;split at h
 ·cases h;exact⟨C0 _,rfl⟩
 ·split at h
  ·cases h;exact⟨by omega,rfl⟩
  ·split at h
   ·cases h;exact⟨C0 _,rfl⟩
   ·split at h
    ·cases h;exact⟨by omega,rfl⟩
    ·split at h
     ·cases h;exact⟨by omega,rfl⟩
     ·cases h
theorem IZ {bs:List UInt8}:∀ (k pos:Nat) (acc l:List UInt8) (p it:Nat),CT bs k pos acc=.ok l p it->pos<p/\p<=bs.length/\l.length<=acc.length+(p-pos)
 | 0,_,_,_,_,_,h=>by cases h
 | k+1,pos,acc,l,p,it,h=>by
  rw[CT] at h;split at h
  ·cases h
  ·next c hc=>
   have hlt:=(O0.1 hc).1;split at h
   ·cases h;exact⟨by omega,by omega,by omega⟩
   ·split at h
    ·split at h
     ·cases h
     ·next x p' it' hx=>
      obtain⟨h1,h2⟩:=Kc hx;obtain⟨h3,h4,h5⟩:=IZ k _ _ _ _ _ h;rw[D0,W1] at h5;exact⟨by omega,h4,by omega⟩
    ·split at h
     ·obtain⟨h3,h4,h5⟩:=IZ k _ _ _ _ _ h;rw[D0,W1] at h5;exact⟨by omega,h4,by omega⟩
     ·cases h
theorem HB {bs:List UInt8}:∀ (k pos:Nat) (acc:List UInt8) (p:Nat) (e:Int),CT bs k pos acc=.bad p e->pos<=bs.length->p<=bs.length/\e=4
 | 0,_,_,_,_,h,hp=>by cases h;exact⟨hp,rfl⟩
 | k+1,pos,acc,p,e,h,hp=>by
  rw[CT] at h;split at h
  ·cases h;exact⟨hp,rfl⟩
  ·next c hc=>
   have hlt:=(O0.1 hc).1;split at h
   ·cases h
   ·split at h
    ·split at h
     ·next hx=>cases h;exact Sg hx (by omega)
     ·next x p' it' hx=>
      obtain⟨h1,h2⟩:=Kc hx;exact HB k _ _ _ _ h h2
    ·split at h
     ·exact HB k _ _ _ _ h (by omega)
     ·cases h;exact⟨hp,rfl⟩
theorem PT {bs:List UInt8} {pos items p it:Nat} {x:ByteArray} (h:Fu bs pos items=.ok x p it):pos<p/\p<=bs.length/\it=items/\∃ l,x=⟨⟨l⟩⟩/\l≠[]/\l.length<=4096/\CT bs (bs.length+1-pos) pos []=.ok l p 0:=by
 unfold Fu at h;split at h
 ·cases h
 ·next acc p' it' hq=>
  have h1:=IZ _ _ _ _ _ _ hq;have hit:∀ (k pos:Nat) (acc l:List UInt8) (p it:Nat),CT bs k pos acc=.ok l p it->it=0:=by
   intro k;induction k with
   | zero=>intro _ _ _ _ _ h;cases h
   | succ k ih=>
    intro pos acc l p it h;rw[CT] at h;split at h
    ·cases h
    ·split at h
     ·cases h;rfl
     ·split at h
      ·split at h
       ·cases h
       ·exact ih _ _ _ _ _ h
      ·split at h
       ·exact ih _ _ _ _ _ h
       ·cases h
  have hi:=hit _ _ _ _ _ _ hq;subst hi;split at h
  ·cases h
  ·next hne=>
   split at h
   ·cases h
   ·next hlen=>
    cases h;exact⟨h1.1,h1.2.1,rfl,acc,rfl,hne,by omega,hq⟩
theorem Sb {bs:List UInt8} {pos items p:Nat} {e:Int} (h:Fu bs pos items=.bad p e) (hp:pos<=bs.length):p<=bs.length/\(e=4\/e=11):=by
 unfold Fu at h;split at h
 ·next hq=>
  cases h;obtain⟨h1,h2⟩:=HB _ _ _ _ _ hq hp;exact⟨h1,.inl h2⟩
 ·split at h
  ·cases h;exact⟨by omega,.inl rfl⟩
  ·split at h
   ·cases h;exact⟨by omega,.inr rfl⟩
   ·cases h
def ACT (bs:List UInt8) (f pos items:Nat):Rd Item->Prop
 | .ok t p it=>pos<p/\p<=bs.length/\Bu t/\Cd t<=f/\it=items+isz t/\it<=5000
 | .bad p e=>p<=bs.length/\e≠0
theorem MG {bs:List UInt8} {f:Nat} {rec:Nat->Nat->Rd Item} (hr:∀ pos items,pos<=bs.length->items<=5000->ACT bs f pos items (rec pos items)) :
  ∀ (k:Nat) (acc:List Item) (pos items:Nat),pos<=bs.length->items<=5000->goodL acc->(∀ t∈acc,Cd t<=f)->match Rk bs rec k acc pos items with
   | .ok l p it=>pos<p/\p<=bs.length/\goodL l/\(∀ t∈l,Cd t<=f)/\it+iszL acc=items+iszL l/\it<=5000/\l≠[]
   | .bad p e=>p<=bs.length/\e≠0
 | 0,acc,pos,items,hp,hi,_,_=>⟨hp,by decide⟩
 | k+1,acc,pos,items,hp,hi,ga,la=>by
  have h1:=hr pos items hp hi;rw[Rk];cases hq:rec pos items with
  | bad p e=>rw[hq] at h1;exact h1
  | ok t p it=>
   rw[hq] at h1;obtain⟨e1,e2,e3,e4,e5,e6⟩:=h1;have ga':=FF ga e3;have la':∀ u∈acc++[t],Cd u<=f:=fun u hu=>by
    rcases Y4.1 hu with h|h
    ·exact la u h
    ·rw[H1.1 h];exact e4
   have hs:=De acc t;simp only;by_cases c1:bs[p]? = some 41
   ·rw[if_pos c1];have:=(O0.1 c1).1;exact⟨by omega,by omega,ga',la',by omega,e6,by simp⟩
   ·rw[if_neg c1];by_cases c2:bs[p]? = some 32
    ·rw[if_pos c2];have hlt:=(O0.1 c2).1;have:=MG hr k (acc++[t]) (p+1) it (by omega) e6 ga' la';split at this
     ·obtain⟨f1,f2,f3,f4,f5,f6⟩:=this;exact⟨by omega,f2,f3,f4,by omega,f6⟩
     ·exact this
    ·rw[if_neg c2];exact⟨e2,by decide⟩
theorem IX {bs:List UInt8}:∀ (f pos items:Nat),pos<=bs.length->items<=5000->ACT bs f pos items (rdPI bs f pos items)
 | 0,pos,items,hp,hi=>⟨hp,by decide⟩
 | f+1,pos,items,hp,hi=>by
  rw[rdPI];by_cases c0:5000<=items
  ·rw[if_pos c0];exact⟨hp,by decide⟩
  rw[if_neg c0];cases h1:Dz bs 63 3 pos (items+1) with
  | bad p e=>
   obtain⟨rfl,he⟩:=MJ h1 hp (.inl rfl);exact⟨hp,by rcases he with rfl|rfl<;>decide⟩
  | ok k p it=>
   obtain⟨a1,a2,a3,a4,rfl⟩:=Hn h1 hp;simp only;have hm:∀ r,(if bs[p]? = some 58 then Dz bs 1099511627776 4 (p+1) (items+1) else .ok 0 p (items+1))=r->match r with
     | .ok m p' it'=>p<=p'/\p'<=bs.length/\m<=1099511627776/\it'=items+1
     | .bad p' e=>p'<=bs.length/\e≠0:=by
    rintro r rfl;by_cases c:bs[p]? = some 58
    ·rw[if_pos c];have hlt:=(O0.1 c).1;cases h2:Dz bs 1099511627776 4 (p+1) (items+1) with
     | bad p' e=>
      obtain⟨rfl,he⟩:=MJ h2 (by omega) (.inr rfl);exact⟨by omega,by rcases he with rfl|rfl<;>decide⟩
     | ok m p' it'=>
      obtain⟨b1,b2,b3,b4,rfl⟩:=Hn h2 (by omega);exact⟨by omega,b2,b4,rfl⟩
    ·rw[if_neg c];exact⟨C0 _,a2,by decide,rfl⟩
   generalize (if bs[p]? = some 58 then Dz bs 1099511627776 4 (p+1) (items+1) else .ok 0 p (items+1))=r at hm ⊢;have hm:=hm r rfl;cases r with
   | bad p' e=>exact hm
   | ok m p2 it2=>
    obtain⟨b1,b2,b3,rfl⟩:=hm;simp only;have ht:∀ r,(if bs[p2]? = some 34 then Fu bs (p2+1) (items+1) else .ok ⟨⟨[]⟩⟩ p2 (items+1))=r->match r with
      | .ok tx p' it'=>p2<=p'/\p'<=bs.length/\tx.data.toList.length<=4096/\it'=items+1
      | .bad p' e=>p'<=bs.length/\e≠0:=by
     rintro r rfl;by_cases c:bs[p2]? = some 34
     ·rw[if_pos c];have hlt:=(O0.1 c).1;cases h2:Fu bs (p2+1) (items+1) with
      | bad p' e=>
       obtain⟨h3,he⟩:=Sb h2 (by omega);exact⟨h3,by rcases he with rfl|rfl<;>decide⟩
      | ok tx p' it'=>
       obtain⟨c1,c2,rfl,l,rfl,_,c4,_⟩:=PT h2;exact⟨by omega,c2,c4,rfl⟩
     ·rw[if_neg c];exact⟨C0 _,b2,by decide,rfl⟩
    generalize (if bs[p2]? = some 34 then Fu bs (p2+1) (items+1) else .ok ⟨⟨[]⟩⟩ p2 (items+1))=r at ht ⊢;have ht:=ht r rfl;cases r with
    | bad p' e=>exact ht
    | ok tx p3 it3=>
     obtain⟨c1,c2,c3,rfl⟩:=ht;simp only;by_cases c:bs[p3]? = some 40
     ·rw[if_pos c];have hlt:=(O0.1 c).1;have hk:=MG (bs:=bs) (f:=f) (fun pos items h1 h2=>IX f pos items h1 h2) (bs.length+1) [] (p3+1) (items+1) (by omega) (by omega) (by rw[goodL];trivial) (fun _ h=>by cases h);cases h2:Rk bs (rdPI bs f) (bs.length+1) [] (p3+1) (items+1) with
      | bad p' e=>rw[h2] at hk;exact hk
      | ok ks p' it'=>
       rw[h2] at hk;obtain⟨k1,k2,k3,k4,k5,k6,k7⟩:=hk;rw[iszL] at k5;refine⟨by omega,k2,?_,?_,by rw[isz];omega,k6⟩
       ·rw[Bu];exact⟨by omega,by omega,by omega,by omega,c3,k3⟩
       ·rw[Cd];have:=(Ht ks 0 f).2 ⟨by omega,k4⟩;push_cast;omega
     ·rw[if_neg c];refine⟨by omega,c2,?_,?_,by rw[isz,iszL],by omega⟩
      ·rw[Bu];exact⟨by omega,by omega,by omega,by omega,c3,by rw[goodL];trivial⟩
      ·rw[Cd,lvlL];push_cast;omega
end Go.Hs
