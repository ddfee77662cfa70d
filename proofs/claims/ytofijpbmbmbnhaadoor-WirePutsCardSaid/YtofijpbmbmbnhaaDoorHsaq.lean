/- The law on what is put (WirePuts): it gives true. -/
import Derived.Test.YtofijpbmbmbnhaaDoorHsap
import Derived.Test.YtofijpbmbmbnhaaDoorRows
import Derived.ProofKit
import Derived.LaidMore
import Derived.OpenShut
import Derived.Stop.Joined
import Derived.Test.YtofijpbmbmbnhaaDoorTie
import Derived.Test.YtofijpbmbmbnhaaDoorCards
import Derived.SevenTiedAt
set_option linter.unusedSimpArgs false
set_option linter.unusedVariables false
set_option maxRecDepth 100000
set_option maxHeartbeats 16000000
namespace Go.Proofs.YtofijpbmbmbnhaaDoor
open Go Go.Hs Go.Proofs
variable {E : Env}
theorem pcv5_3 (n : Int) {h : H} : aconvert tab E 5 3 (.int .u8 n) h = some (.int .i64 (IntKind.i64.wrap n), h) := by unfold aconvert; simp only [qty5, qty3]
theorem premN (a b : Nat) (hb : 0 < b) : aint .rem .i64 (a : Nat) (b : Nat) = some (.int .i64 ((a % b : Nat) : Int)) := by
  rw [remI (by omega)]
  congr 2
theorem pfit_empty : Fit H.empty := by
  refine ⟨fun _ _ => T.get_nil _, ⟨fun k xs ty r p hd => ?_, Nat.le_refl _⟩⟩
  rw [show H.empty.dyn = T.nil from rfl, T.get_nil] at hd
  cases hd
theorem atN_good : ∀ (p : List Nat) (t y : Hs.Item), goodI t → atN t p = some y → goodI y
  | [], t, y, g, h => by rw [atN] at h; cases h; exact g
  | i :: p, .mk k m tx ks, y, g, h => by
    rw [atN] at h
    split at h
    · next z hz =>
      rw [goodI] at g
      exact atN_good p z y (goodL_get i g.2.2.2.2.2 hz) h
    · cases h
theorem pex2 {h : H} (a b c : Value) : (#[a, b, c] : Array Value).toList[2]? = some c := rfl
theorem alkI_self (t : Hs.Item) : alkI t t = true := (alkI_iff t t).2 rfl
theorem walk9 {K : Known} (k : Kn9 E K) {s0 s1 : Value} {l0 l1 : List Int} (hb0 : Bin E H.empty s0 l0) (hb1 : Bin E H.empty s1 l1) (n2 : Nat) (hn2 : n2 < 256) :
    ∃ n h', (ev tab E K n).call 9 [s0, s1, .int .u8 (n2 : Nat)] H.empty = some (.bool true, h') := by
  suffices hw : ∃ n v h', (ev tab E K n).call 9 [s0, s1, .int .u8 (n2 : Nat)] H.empty = some (v, h') ∧ v = .bool true by
    obtain ⟨n, v, h', h1, rfl⟩ := hw
    exact ⟨n, h', h1⟩
  have f0 := pfit_empty
  have hlog : H.empty.log = [] := rfl
  generalize H.empty = g at hb0 hb1 f0 hlog ⊢
  have hIm : ∀ f args h, (f = 121 ∨ f = 94 ∨ f = 93 ∨ f = 95 ∨ f = 58 ∨ f = 23 ∨ f = 24 ∨ f = 59) → K f args h = none := fun f args h hf => k.out f args h (by rcases hf with h | h | h | h | h | h | h | h <;> simp [h])
  have hI42 : ∀ f args h, (f = 42 ∨ f = 76 ∨ f = 68 ∨ f = 47) → K f args h = none := fun f args h hf => k.out f args h (by rcases hf with h | h | h | h <;> simp [h])
  have hI29 : ∀ f args h, (f = 29 ∨ f = 68 ∨ f = 47) → K f args h = none := fun f args h hf => k.out f args h (by rcases hf with h | h | h <;> simp [h])
  obtain ⟨nx, px, ex, x0, x1, x2, x3, h1, t, mx, xone, a1, r1, g1, v1, z1⟩ := made (E := E) (I := K) hIm f0 hlog hb0 5 15 (by decide) (by decide) (by decide)
  obtain ⟨h1a, h1b, hhx, sx, ux, bx⟩ := var25 a1.fit xone
  have A1 := a1.trans ux
  obtain ⟨ny, py, ey, y0, y1, y2, y3, h2, ty, my, yone, a2, r2, g2, v2, z2⟩ := made (E := E) (I := K) hIm A1.fit (A1.log.trans hlog) (hb1.grow A1.grows) 3 5 (by decide) (by decide) (by decide)
  obtain ⟨h2a, h2b, hhy, sy, uy, by_⟩ := var25 a2.fit yone
  have A2 := A1.trans (a2.trans uy)
  obtain ⟨c24x, c23x⟩ : (ev tab E K nx).call 24 [s0] g = some (px, ex) ∧ (ev tab E K nx).call 23 [px, .int .i64 15, .int .i64 5] ex = some (.agg ⟨[x0, x1, x2, x3]⟩, h1) := mx nx (Nat.le_refl _)
  obtain ⟨c24y, c23y⟩ : (ev tab E K ny).call 24 [s1] h1b = some (py, ey) ∧ (ev tab E K ny).call 23 [py, .int .i64 5, .int .i64 3] ey = some (.agg ⟨[y0, y1, y2, y3]⟩, h2) := my ny (Nat.le_refl _)
  have ft : goodI t ∧ lvlI t ≤ 100 ∧ isz t ≤ 1000 := ⟨g1, by omega, by omega⟩
  have fy : goodI ty ∧ lvlI ty ≤ 100 ∧ isz ty ≤ 1000 := ⟨g2, by omega, by omega⟩
  have hckt : (chkI t 0 1).2 = 0 := chkI_fine ⟨g1, by omega, by omega⟩
  have bx2 : h2b.blk h1.next = some (.cells [x0, x1, x2, x3] 25 none) := (a2.trans uy).grows _ _ bx
  have rt2 : rep E h2b t (.agg ⟨[x0, x1, x2, x3]⟩) := rep_grow (ux.grows.trans (a2.trans uy).grows) r1
  have ry2 : rep E h2b ty (.agg ⟨[y0, y1, y2, y3]⟩) := rep_grow uy.grows r2
  have lx2 : h2b.cells E (own h1.next) 4 = some [x0, x1, x2, x3] := blk_cells bx2 rfl xone
  obtain ⟨n41, v9, h3, c41, a3, ro9, pl9⟩ := all41 (E := E) (I := K) (fun f args h hf => k.out _ _ _ (by rcases hf with h | h <;> simp [h])) (isz t) t _ (.slice none 0 0) [] h2b (Nat.le_refl _) rt2 ⟨none, 0, rfl, .inl rfl⟩ A2.fit (by simp only [List.length_nil]; omega)
  have P9 : Pls E h3 v9 (allP t) := by
    have := pl9.pls
    rwa [show (allP t).map (([] : List Nat) ++ ·) = allP t by simp] at this
  have hal := allP_length t
  have hzp := isz_pos t
  have hi0 : n2 % (allP t).length < (allP t).length := Nat.mod_lt _ (by omega)
  have hir : inRange ((n2 % (allP t).length : Nat) : Int) (allP t).length = true := by
    show Nat.blt _ _ = true
    rw [Nat.blt_eq]; exact hi0
  obtain ⟨b9, c9, rfl, hv9⟩ := id P9
  rcases hv9 with h0 | ⟨a9', vs, rfl, hc9, nl⟩
  · rw [h0] at hal; simp at hal; omega
  obtain ⟨v10, hv10, np⟩ := nl.get _ hi0
  have lv10 : h3.cell E (aadd a9' (n2 % (allP t).length * 1)) = some v10 := by rw [Nat.mul_one]; exact cells_cell hc9 hi0 hv10
  obtain ⟨old, hat⟩ := allP_at t _ (List.getElem_mem hi0)
  have hpl := (allP_len t _ (List.getElem_mem hi0)).1
  generalize (allP t)[n2 % (allP t).length] = p at np hat hpl
  have w2 : IntKind.i64.wrap (n2 : Int) = (n2 : Int) := wrap64 (by omega) (by omega)
  have r4 := premN n2 (allP t).length (by omega)
  have l3 : (allP t).length = (allP t).length := rfl
  have rt3 := rep_grow a3.grows rt2
  have lx3 : h3.cells E (own h1.next) 4 = some [x0, x1, x2, x3] := blk_cells (a3.grows _ _ bx2) rfl xone
  obtain ⟨n29, _, h4, c29, a4, _, rfl, rO⟩ := at29n (E := E) (I := K) hI29 k.kc.1 rt3 np hat a3.fit (by omega) (by omega) hckt
  obtain ⟨o0, o1, o2, o3, rfl, oone⟩ := rep_four rO
  obtain ⟨h4a, h4b, hho, so, uo, bo⟩ := var25 a4.fit oone
  have A4 := a4.trans uo
  have hos := atN_isz _ _ _ hat
  have hol := lvlI_bound old
  have fo : goodI old ∧ lvlI old ≤ 100 ∧ isz old ≤ 1000 := ⟨atN_good p t old g1 hat, by omega, by omega⟩
  have lg4 : h4b.log = [] := A4.log.trans (a3.log.trans (A2.log.trans hlog))
  have A24 := a3.trans A4
  obtain ⟨n42, _, h5, c42, zl, rfl, m5, rz⟩ := put42 (E := E) (I := K) hI42 k.kc A4.fit (rep_grow A24.grows rt2) (rep_grow A24.grows ry2) (np.grow A4.grows) hat ft fy (by omega)
  have a5 := m5.toAhd lg4
  obtain ⟨zz0, zz1, zz2, zz3, ezl, zone⟩ := rep_four rz
  simp only [Value.agg.injEq, Array.mk.injEq] at ezl
  subst ezl
  obtain ⟨h5a, h5b, hhz, sz, uz, bz⟩ := var25 a5.fit zone
  have A5 := a5.trans uz
  have lg5 : h5b.log = [] := A5.log.trans lg4
  have A25 := A24.trans A5
  obtain ⟨n42s, _, h6, c42s, sl, rfl, m6, rs⟩ := put42 (E := E) (I := K) hI42 k.kc A5.fit (rep_grow A25.grows rt2) (rep_grow (uo.grows.trans A5.grows) rO) (np.grow (A4.grows.trans A5.grows)) hat ft fo (by omega)
  rw [putN_at p t old hat] at rs
  have a6 := m6.toAhd lg5
  obtain ⟨m0, m1, m2, m3, esl, sone⟩ := rep_four rs
  simp only [Value.agg.injEq, Array.mk.injEq] at esl
  subst esl
  obtain ⟨h6a, h6b, hhs, ss, us, bs⟩ := var25 a6.fit sone
  have A6 := a6.trans us
  have lg6 : h6b.log = [] := A6.log.trans lg5
  have A26 := A25.trans A6
  have c14s := ev_known (D := tab) (E := E) (k.k14 t t _ _ h6b (rep_grow us.grows rs) (rep_grow A26.grows rt2) (by omega) (by omega))
  rw [alkI_self] at c14s
  have ftz : goodI (putN t p ty) ∧ lvlI (putN t p ty) ≤ 100 ∧ isz (putN t p ty) ≤ 1000 := by
    have h1 := isz_put p t ty
    have h2 := lvlI_put p t ty
    exact ⟨goodI_put p t ty g1 g2, by omega, by omega⟩
  have hckz : (chkI (putN t p ty) 0 1).2 = 0 := chkI_fine ⟨ftz.1, by omega, by omega⟩
  have rz6 := rep_grow (uz.grows.trans A6.grows) rz
  have np6 := np.grow (A4.grows.trans (A5.grows.trans A6.grows))
  have hatz := atN_put p t ty old hat
  obtain ⟨n29z, _, h7, c29z, a7, _, rfl, rth⟩ := at29n (E := E) (I := K) hI29 k.kc.1 rz6 np6 hatz A6.fit (by omega) (by omega) hckz
  obtain ⟨w0, w1, w2', w3, rfl, wone⟩ := rep_four rth
  obtain ⟨h7a, h7b, hhw, sw, uw, bw⟩ := var25 a7.fit wone
  have A7 := a7.trans uw
  have lg7 : h7b.log = [] := A7.log.trans lg6
  have A57 := A6.trans A7
  obtain ⟨n42b, _, h8, c42b, bl, rfl, m8, rb⟩ := put42 (E := E) (I := K) hI42 k.kc A7.fit (rep_grow A7.grows rz6) (rep_grow (uo.grows.trans (A5.grows.trans A57.grows)) rO) (np6.grow A7.grows) hatz ftz fo (by omega)
  rw [putN_put p t ty old old hat, putN_at p t old hat] at rb
  have a8 := m8.toAhd lg7
  obtain ⟨q0', q1', q2', q3', ebl, bone⟩ := rep_four rb
  simp only [Value.agg.injEq, Array.mk.injEq] at ebl
  subst ebl
  obtain ⟨h8a, h8b, hhb, sb, ub, bb⟩ := var25 a8.fit bone
  have A8 := a8.trans ub
  have lg8 : h8b.log = [] := A8.log.trans lg7
  have A28 := A26.trans (A7.trans A8)
  have c14a := ev_known (D := tab) (E := E) (k.k14 ty ty _ _ h8b (rep_grow (uw.grows.trans A8.grows) rth) (rep_grow A28.grows ry2) (by omega) (by omega))
  have c14b := ev_known (D := tab) (E := E) (k.k14 t t _ _ h8b (rep_grow ub.grows rb) (rep_grow A28.grows rt2) (by omega) (by omega))
  rw [alkI_self] at c14a c14b
  have rO8 := rep_grow (uo.grows.trans (A5.grows.trans (A6.grows.trans (A7.grows.trans A8.grows)))) rO
  obtain ⟨n43, _, h9, c43, l19, rfl, m9, P19⟩ := find43 (E := E) (I := K) (fun f args h hf => k.out _ _ _ (by rcases hf with h | h | h <;> simp [h])) k.kc k.k66 A8.fit (rep_grow A28.grows rt2) rO8 ⟨g1, by omega, by omega⟩ ⟨fo.1, by omega, by omega⟩
  have a9 := m9.toAhd lg8
  have A29 := A28.trans a9
  have bo4 := bo
  have lx4 : h4b.cells E (own h1.next) 4 = some [x0, x1, x2, x3] := blk_cells (A24.grows _ _ bx2) rfl xone
  have ly4 : h4b.cells E (own h2.next) 4 = some [y0, y1, y2, y3] := blk_cells (A24.grows _ _ by_) rfl yone
  have lx5 : h5b.cells E (own h1.next) 4 = some [x0, x1, x2, x3] := blk_cells (A25.grows _ _ bx2) rfl xone
  have lo5 : h5b.cells E (own h4.next) 4 = some [o0, o1, o2, o3] := blk_cells (A5.grows _ _ bo) rfl oone
  have lx6 : h6b.cells E (own h1.next) 4 = some [x0, x1, x2, x3] := blk_cells (A26.grows _ _ bx2) rfl xone
  have ls6 : h6b.cells E (own h6.next) 4 = some [m0, m1, m2, m3] := blk_cells bs rfl sone
  have lz6 : h6b.cells E (own h5.next) 4 = some [zz0, zz1, zz2, zz3] := blk_cells (A6.grows _ _ bz) rfl zone
  have lz7 : h7b.cells E (own h5.next) 4 = some [zz0, zz1, zz2, zz3] := blk_cells (A57.grows _ _ bz) rfl zone
  have lo7 : h7b.cells E (own h4.next) 4 = some [o0, o1, o2, o3] := blk_cells (A57.grows _ _ (A5.grows _ _ bo)) rfl oone
  have lw8 : h8b.cells E (own h7.next) 4 = some [w0, w1, w2', w3] := blk_cells (A8.grows _ _ bw) rfl wone
  have ly8 : h8b.cells E (own h2.next) 4 = some [y0, y1, y2, y3] := blk_cells (A28.grows _ _ by_) rfl yone
  have lb8 : h8b.cells E (own h8.next) 4 = some [q0', q1', q2', q3'] := blk_cells bb rfl bone
  have lx8 : h8b.cells E (own h1.next) 4 = some [x0, x1, x2, x3] := blk_cells (A28.grows _ _ bx2) rfl xone
  have bo8 : h8b.blk h4.next = some (.cells [o0, o1, o2, o3] 25 none) := A8.grows _ _ (A57.grows _ _ (A5.grows _ _ bo))
  have lo8 : h8b.cells E (own h4.next) 4 = some [o0, o1, o2, o3] := blk_cells bo8 rfl oone
  have e0 : decide ((0 : Int) = 0) = true := rfl
  refine Wc.call (k.out _ _ _ (by simp)) fn9 rfl ?_
  generalize hA0 : (⟨T.ofList [s0, s1, .int .u8 (n2 : Nat)] 0 .nil, max ([s0, s1, .int .u8 (n2 : Nat)] : List Value).length Tryd.f9.ntmps, []⟩ : Ac) = A0
  have n0 : A0.n = 184 := by rw [← hA0]; rfl
  have q0 : A0.get 0 = s0 := by rw [← hA0]; rfl
  have q1 : A0.get 1 = s1 := by rw [← hA0]; rfl
  have q2 : A0.get 2 = .int .u8 (n2 : Nat) := by rw [← hA0]; rfl
  have d0 : A0.defers = [] := by rw [← hA0]
  clear hA0
  (repeat' (with_reducible apply Wc.seq)); (apply Wc.opsN 1; (focus ((repeat' (first | with_reducible exact RO.nil | ((with_reducible apply RO.run (awant_none rfl)); (focus ((first | simp +decide only [awant, ayield_get, oper1, aop, opv, opvs, opvo, opvp, abuiltin, aun, Gx, abin, isShift, aint, roV, pair, bind, Option.bind, acall, Sx, n0] | skip); with_reducible rfl))))); done)))
  (repeat' (with_reducible apply Wc.seq)); (apply Wc.opsN nx; (focus ((repeat' (first | with_reducible exact RO.nil | ((with_reducible apply RO.run (awant_none rfl)); (focus ((first | simp +decide only [awant, ayield_get, oper1, aop, opv, opvs, opvo, opvp, abuiltin, aun, Gx, abin, isShift, aint, roV, pair, bind, Option.bind, acall, Sx, n0, q0, c24x, c23x, qtz25, hhx, sx] | skip); with_reducible rfl))))); done)))
  (repeat' (with_reducible apply Wc.seq)); (apply Wc.opsN ny; (focus ((repeat' (first | with_reducible exact RO.nil | ((with_reducible apply RO.run (awant_none rfl)); (focus ((first | simp +decide only [awant, ayield_get, oper1, aop, opv, opvs, opvo, opvp, abuiltin, aun, Gx, abin, isShift, aint, roV, pair, bind, Option.bind, acall, Sx, n0, q1, c24y, c23y, qtz25, hhy, sy] | skip); with_reducible rfl))))); done)))
  (repeat' (with_reducible apply Wc.seq)); (apply Wc.opsN n41; (focus ((repeat' (first | with_reducible exact RO.nil | ((with_reducible apply RO.run (awant_none rfl)); (focus ((first | simp +decide only [awant, ayield_get, oper1, aop, opv, opvs, opvo, opvp, abuiltin, aun, Gx, abin, isShift, aint, roV, pair, bind, Option.bind, acall, Sx, n0, Qx, Hx, lx2, c41] | skip); with_reducible rfl))))); done)))
  refine Wc.forget (fun A => A.n = 184 ∧ A.defers = [] ∧ A.get 2 = .int .u8 (n2 : Nat) ∧ A.get 7 = .pointer (some (own h1.next)) ∧ A.get 8 = .pointer (some (own h2.next)) ∧ A.get 9 = .slice (some a9') (allP t).length c9) ⟨by simp +decide only [Gx, Sx, n0], by simp +decide only [Gx, Sx, d0], by first | (simp +decide only [Gx, Sx, n0, q2]; done) | (simp +decide only [Gx, Sx, n0, q2]; rfl), by first | (simp +decide only [Gx, Sx, n0, q2]; done) | (simp +decide only [Gx, Sx, n0, q2]; rfl), by first | (simp +decide only [Gx, Sx, n0, q2]; done) | (simp +decide only [Gx, Sx, n0, q2]; rfl), by first | (simp +decide only [Gx, Sx, n0, q2]; done) | (simp +decide only [Gx, Sx, n0, q2]; rfl)⟩ ?_
  rintro A0 ⟨n0, d0, q2, q7, q8, q9⟩
  (repeat' (with_reducible apply Wc.seq)); (apply Wc.opsN 1; (focus ((repeat' (first | with_reducible exact RO.nil | ((with_reducible apply RO.run (awant_none rfl)); (focus ((first | simp +decide only [awant, ayield_get, oper1, aop, opv, opvs, opvo, opvp, abuiltin, aun, Gx, abin, isShift, roV, pair, bind, Option.bind, acall, Sx, n0, q2, q9, pcv5_3, w2, Qx, Qy, r4, qia68 _ _ _ _ hir, Int.toNat_natCast, lv10] | skip); with_reducible rfl))))); done)))
  refine Wc.forget (fun A => A.n = 184 ∧ A.defers = [] ∧ A.get 7 = .pointer (some (own h1.next)) ∧ A.get 8 = .pointer (some (own h2.next)) ∧ A.get 9 = .slice (some a9') (allP t).length c9 ∧ A.get 10 = v10) ⟨by simp +decide only [Gx, Sx, n0], by simp +decide only [Gx, Sx, d0], by first | (simp +decide only [Gx, Sx, n0, q7, q8, q9]; done) | (simp +decide only [Gx, Sx, n0, q7, q8, q9]; rfl), by first | (simp +decide only [Gx, Sx, n0, q7, q8, q9]; done) | (simp +decide only [Gx, Sx, n0, q7, q8, q9]; rfl), by first | (simp +decide only [Gx, Sx, n0, q7, q8, q9]; done) | (simp +decide only [Gx, Sx, n0, q7, q8, q9]; rfl), by first | (simp +decide only [Gx, Sx, n0, q7, q8, q9]; done) | (simp +decide only [Gx, Sx, n0, q7, q8, q9]; rfl)⟩ ?_
  rintro A0 ⟨n0, d0, q7, q8, q9, q10⟩
  (repeat' (with_reducible apply Wc.seq)); (apply Wc.opsN n29; (focus ((repeat' (first | with_reducible exact RO.nil | ((with_reducible apply RO.run (awant_none rfl)); (focus ((first | simp +decide only [awant, ayield_get, oper1, aop, opv, opvs, opvo, opvp, abuiltin, aun, Gx, abin, isShift, aint, roV, pair, bind, Option.bind, acall, Sx, n0, q7, q10, Qx, Hx, lx3, c29, ex0, ex1, qtz25, hho, so] | skip); with_reducible rfl))))); done)))
  refine Wc.forget (fun A => A.n = 184 ∧ A.defers = [] ∧ A.get 7 = .pointer (some (own h1.next)) ∧ A.get 8 = .pointer (some (own h2.next)) ∧ A.get 9 = .slice (some a9') (allP t).length c9 ∧ A.get 10 = v10 ∧ A.get 11 = .pointer (some (own h4.next)) ∧ A.get 12 = .int .i64 0) ⟨by simp +decide only [Gx, Sx, n0], by simp +decide only [Gx, Sx, d0], by first | (simp +decide only [Gx, Sx, n0, q7, q8, q9, q10]; done) | (simp +decide only [Gx, Sx, n0, q7, q8, q9, q10]; rfl), by first | (simp +decide only [Gx, Sx, n0, q7, q8, q9, q10]; done) | (simp +decide only [Gx, Sx, n0, q7, q8, q9, q10]; rfl), by first | (simp +decide only [Gx, Sx, n0, q7, q8, q9, q10]; done) | (simp +decide only [Gx, Sx, n0, q7, q8, q9, q10]; rfl), by first | (simp +decide only [Gx, Sx, n0, q7, q8, q9, q10]; done) | (simp +decide only [Gx, Sx, n0, q7, q8, q9, q10]; rfl), by first | (simp +decide only [Gx, Sx, n0, q7, q8, q9, q10]; done) | (simp +decide only [Gx, Sx, n0, q7, q8, q9, q10]; rfl), by first | (simp +decide only [Gx, Sx, n0, q7, q8, q9, q10]; done) | (simp +decide only [Gx, Sx, n0, q7, q8, q9, q10]; rfl)⟩ ?_
  rintro A0 ⟨n0, d0, q7, q8, q9, q10, q11, q12⟩
  (repeat' (with_reducible apply Wc.seq)); (apply Wc.opsN n42; (focus ((repeat' (first | with_reducible exact RO.nil | ((with_reducible apply RO.run (awant_none rfl)); (focus ((first | simp +decide only [awant, ayield_get, oper1, aop, opv, opvs, opvo, opvp, abuiltin, aun, Gx, abin, isShift, aint, roV, pair, bind, Option.bind, acall, Sx, n0, q7, q8, q10, Qx, Hx, lx4, ly4, c42, ex0, ex1, qtz25, hhz, sz] | skip); with_reducible rfl))))); done)))
  refine Wc.forget (fun A => A.n = 184 ∧ A.defers = [] ∧ A.get 7 = .pointer (some (own h1.next)) ∧ A.get 8 = .pointer (some (own h2.next)) ∧ A.get 9 = .slice (some a9') (allP t).length c9 ∧ A.get 10 = v10 ∧ A.get 11 = .pointer (some (own h4.next)) ∧ A.get 12 = .int .i64 0 ∧ A.get 13 = .pointer (some (own h5.next)) ∧ A.get 14 = .int .i64 0) ⟨by simp +decide only [Gx, Sx, n0], by simp +decide only [Gx, Sx, d0], by first | (simp +decide only [Gx, Sx, n0, q7, q8, q9, q10, q11, q12]; done) | (simp +decide only [Gx, Sx, n0, q7, q8, q9, q10, q11, q12]; rfl), by first | (simp +decide only [Gx, Sx, n0, q7, q8, q9, q10, q11, q12]; done) | (simp +decide only [Gx, Sx, n0, q7, q8, q9, q10, q11, q12]; rfl), by first | (simp +decide only [Gx, Sx, n0, q7, q8, q9, q10, q11, q12]; done) | (simp +decide only [Gx, Sx, n0, q7, q8, q9, q10, q11, q12]; rfl), by first | (simp +decide only [Gx, Sx, n0, q7, q8, q9, q10, q11, q12]; done) | (simp +decide only [Gx, Sx, n0, q7, q8, q9, q10, q11, q12]; rfl), by first | (simp +decide only [Gx, Sx, n0, q7, q8, q9, q10, q11, q12]; done) | (simp +decide only [Gx, Sx, n0, q7, q8, q9, q10, q11, q12]; rfl), by first | (simp +decide only [Gx, Sx, n0, q7, q8, q9, q10, q11, q12]; done) | (simp +decide only [Gx, Sx, n0, q7, q8, q9, q10, q11, q12]; rfl), by first | (simp +decide only [Gx, Sx, n0, q7, q8, q9, q10, q11, q12]; done) | (simp +decide only [Gx, Sx, n0, q7, q8, q9, q10, q11, q12]; rfl), by first | (simp +decide only [Gx, Sx, n0, q7, q8, q9, q10, q11, q12]; done) | (simp +decide only [Gx, Sx, n0, q7, q8, q9, q10, q11, q12]; rfl)⟩ ?_
  rintro A0 ⟨n0, d0, q7, q8, q9, q10, q11, q12, q13, q14⟩
  (repeat' (with_reducible apply Wc.seq)); (apply Wc.opsN n42s; (focus ((repeat' (first | with_reducible exact RO.nil | ((with_reducible apply RO.run (awant_none rfl)); (focus ((first | simp +decide only [awant, ayield_get, oper1, aop, opv, opvs, opvo, opvp, abuiltin, aun, Gx, abin, isShift, aint, roV, pair, bind, Option.bind, acall, Sx, n0, q7, q10, q11, Qx, Hx, lx5, lo5, c42s, ex0, ex1, qtz25, hhs, ss] | skip); with_reducible rfl))))); done)))
  refine Wc.forget (fun A => A.n = 184 ∧ A.defers = [] ∧ A.get 7 = .pointer (some (own h1.next)) ∧ A.get 8 = .pointer (some (own h2.next)) ∧ A.get 9 = .slice (some a9') (allP t).length c9 ∧ A.get 10 = v10 ∧ A.get 11 = .pointer (some (own h4.next)) ∧ A.get 12 = .int .i64 0 ∧ A.get 13 = .pointer (some (own h5.next)) ∧ A.get 14 = .int .i64 0 ∧ A.get 15 = .pointer (some (own h6.next)) ∧ A.get 16 = .int .i64 0) ⟨by simp +decide only [Gx, Sx, n0], by simp +decide only [Gx, Sx, d0], by first | (simp +decide only [Gx, Sx, n0, q7, q8, q9, q10, q11, q12, q13, q14]; done) | (simp +decide only [Gx, Sx, n0, q7, q8, q9, q10, q11, q12, q13, q14]; rfl), by first | (simp +decide only [Gx, Sx, n0, q7, q8, q9, q10, q11, q12, q13, q14]; done) | (simp +decide only [Gx, Sx, n0, q7, q8, q9, q10, q11, q12, q13, q14]; rfl), by first | (simp +decide only [Gx, Sx, n0, q7, q8, q9, q10, q11, q12, q13, q14]; done) | (simp +decide only [Gx, Sx, n0, q7, q8, q9, q10, q11, q12, q13, q14]; rfl), by first | (simp +decide only [Gx, Sx, n0, q7, q8, q9, q10, q11, q12, q13, q14]; done) | (simp +decide only [Gx, Sx, n0, q7, q8, q9, q10, q11, q12, q13, q14]; rfl), by first | (simp +decide only [Gx, Sx, n0, q7, q8, q9, q10, q11, q12, q13, q14]; done) | (simp +decide only [Gx, Sx, n0, q7, q8, q9, q10, q11, q12, q13, q14]; rfl), by first | (simp +decide only [Gx, Sx, n0, q7, q8, q9, q10, q11, q12, q13, q14]; done) | (simp +decide only [Gx, Sx, n0, q7, q8, q9, q10, q11, q12, q13, q14]; rfl), by first | (simp +decide only [Gx, Sx, n0, q7, q8, q9, q10, q11, q12, q13, q14]; done) | (simp +decide only [Gx, Sx, n0, q7, q8, q9, q10, q11, q12, q13, q14]; rfl), by first | (simp +decide only [Gx, Sx, n0, q7, q8, q9, q10, q11, q12, q13, q14]; done) | (simp +decide only [Gx, Sx, n0, q7, q8, q9, q10, q11, q12, q13, q14]; rfl), by first | (simp +decide only [Gx, Sx, n0, q7, q8, q9, q10, q11, q12, q13, q14]; done) | (simp +decide only [Gx, Sx, n0, q7, q8, q9, q10, q11, q12, q13, q14]; rfl), by first | (simp +decide only [Gx, Sx, n0, q7, q8, q9, q10, q11, q12, q13, q14]; done) | (simp +decide only [Gx, Sx, n0, q7, q8, q9, q10, q11, q12, q13, q14]; rfl)⟩ ?_
  rintro A0 ⟨n0, d0, q7, q8, q9, q10, q11, q12, q13, q14, q15, q16⟩
  (repeat' (with_reducible apply Wc.seq)); (apply Wc.opsN 1; (focus ((repeat' (first | with_reducible exact RO.nil | ((with_reducible apply RO.run (awant_none rfl)); (focus ((first | simp +decide only [awant, ayield_get, oper1, aop, opv, opvs, opvo, opvp, abuiltin, aun, Gx, abin, isShift, aint, roV, pair, bind, Option.bind, acall, Sx, n0, q7, q12, q14, q15, q16, e0, Qx, Hx, ls6, lx6, c14s] | skip); with_reducible rfl))) | ((with_reducible apply RO.runG); (focus rfl); (focus rfl); (focus (simp +decide only [awant, ayield_get, oper1, aop, opv, opvs, opvo, opvp, abuiltin, aun, Gx, abin, isShift, aint, roV, pair, bind, Option.bind, acall, Sx, n0, q7, q12, q14, q15, q16, e0, Qx, Hx, ls6, lx6, c14s]; done)); (focus ((first | simp +decide only [awant, ayield_get, oper1, aop, opv, opvs, opvo, opvp, abuiltin, aun, Gx, abin, isShift, aint, roV, pair, bind, Option.bind, acall, Sx, n0, q7, q12, q14, q15, q16, e0, Qx, Hx, ls6, lx6, c14s] | skip); with_reducible rfl))) | ((with_reducible apply RO.skipG); (focus rfl); (focus rfl); (focus (simp +decide only [awant, ayield_get, oper1, aop, opv, opvs, opvo, opvp, abuiltin, aun, Gx, abin, isShift, aint, roV, pair, bind, Option.bind, acall, Sx, n0, q7, q12, q14, q15, q16, e0, Qx, Hx, ls6, lx6, c14s]; done))))); done)))
  repeat' (first | (with_reducible apply Wc.seq) | (apply Wc.ops; (focus ((repeat' (first | with_reducible exact RO.nil | ((with_reducible apply RO.run (awant_none rfl)); (focus ((first | simp +decide only [awant, ayield_get, oper1, aop, opv, opvs, opvo, opvp, abuiltin, aun, Gx, abin, isShift, aint, roV, pair, bind, Option.bind, acall, Sx, n0] | skip); with_reducible rfl))))); done))) | (refine Wc.cond2 (by simp +decide only [opv, Gx, Sx, n0]; try with_reducible rfl) (fun hb => ?_) (fun hb => ?_) <;> try contradiction) | refine Wc.skip ?_ | refine Wc.ret ?_ | refine Wc.exit ?_ | refine Wc.block ?_)
  refine Wc.forget (fun A => A.n = 184 ∧ A.defers = [] ∧ A.get 7 = .pointer (some (own h1.next)) ∧ A.get 8 = .pointer (some (own h2.next)) ∧ A.get 9 = .slice (some a9') (allP t).length c9 ∧ A.get 10 = v10 ∧ A.get 11 = .pointer (some (own h4.next)) ∧ A.get 13 = .pointer (some (own h5.next))) ⟨by simp +decide only [Gx, Sx, n0], by simp +decide only [Gx, Sx, d0], by first | (simp +decide only [Gx, Sx, n0, q7, q8, q9, q10, q11, q13]; done) | (simp +decide only [Gx, Sx, n0, q7, q8, q9, q10, q11, q13]; rfl), by first | (simp +decide only [Gx, Sx, n0, q7, q8, q9, q10, q11, q13]; done) | (simp +decide only [Gx, Sx, n0, q7, q8, q9, q10, q11, q13]; rfl), by first | (simp +decide only [Gx, Sx, n0, q7, q8, q9, q10, q11, q13]; done) | (simp +decide only [Gx, Sx, n0, q7, q8, q9, q10, q11, q13]; rfl), by first | (simp +decide only [Gx, Sx, n0, q7, q8, q9, q10, q11, q13]; done) | (simp +decide only [Gx, Sx, n0, q7, q8, q9, q10, q11, q13]; rfl), by first | (simp +decide only [Gx, Sx, n0, q7, q8, q9, q10, q11, q13]; done) | (simp +decide only [Gx, Sx, n0, q7, q8, q9, q10, q11, q13]; rfl), by first | (simp +decide only [Gx, Sx, n0, q7, q8, q9, q10, q11, q13]; done) | (simp +decide only [Gx, Sx, n0, q7, q8, q9, q10, q11, q13]; rfl)⟩ ?_
  rintro A0 ⟨n0, d0, q7, q8, q9, q10, q11, q13⟩
  (repeat' (with_reducible apply Wc.seq)); (apply Wc.opsN n29z; (focus ((repeat' (first | with_reducible exact RO.nil | ((with_reducible apply RO.run (awant_none rfl)); (focus ((first | simp +decide only [awant, ayield_get, oper1, aop, opv, opvs, opvo, opvp, abuiltin, aun, Gx, abin, isShift, aint, roV, pair, bind, Option.bind, acall, Sx, n0, q13, q10, Qx, Hx, lz6, c29z, ex0, ex1, qtz25, hhw, sw] | skip); with_reducible rfl))))); done)))
  refine Wc.forget (fun A => A.n = 184 ∧ A.defers = [] ∧ A.get 7 = .pointer (some (own h1.next)) ∧ A.get 8 = .pointer (some (own h2.next)) ∧ A.get 9 = .slice (some a9') (allP t).length c9 ∧ A.get 10 = v10 ∧ A.get 11 = .pointer (some (own h4.next)) ∧ A.get 13 = .pointer (some (own h5.next)) ∧ A.get 12 = .int .i64 0 ∧ A.get 17 = .pointer (some (own h7.next))) ⟨by simp +decide only [Gx, Sx, n0], by simp +decide only [Gx, Sx, d0], by first | (simp +decide only [Gx, Sx, n0, q7, q8, q9, q10, q11, q13]; done) | (simp +decide only [Gx, Sx, n0, q7, q8, q9, q10, q11, q13]; rfl), by first | (simp +decide only [Gx, Sx, n0, q7, q8, q9, q10, q11, q13]; done) | (simp +decide only [Gx, Sx, n0, q7, q8, q9, q10, q11, q13]; rfl), by first | (simp +decide only [Gx, Sx, n0, q7, q8, q9, q10, q11, q13]; done) | (simp +decide only [Gx, Sx, n0, q7, q8, q9, q10, q11, q13]; rfl), by first | (simp +decide only [Gx, Sx, n0, q7, q8, q9, q10, q11, q13]; done) | (simp +decide only [Gx, Sx, n0, q7, q8, q9, q10, q11, q13]; rfl), by first | (simp +decide only [Gx, Sx, n0, q7, q8, q9, q10, q11, q13]; done) | (simp +decide only [Gx, Sx, n0, q7, q8, q9, q10, q11, q13]; rfl), by first | (simp +decide only [Gx, Sx, n0, q7, q8, q9, q10, q11, q13]; done) | (simp +decide only [Gx, Sx, n0, q7, q8, q9, q10, q11, q13]; rfl), by first | (simp +decide only [Gx, Sx, n0, q7, q8, q9, q10, q11, q13]; done) | (simp +decide only [Gx, Sx, n0, q7, q8, q9, q10, q11, q13]; rfl), by first | (simp +decide only [Gx, Sx, n0, q7, q8, q9, q10, q11, q13]; done) | (simp +decide only [Gx, Sx, n0, q7, q8, q9, q10, q11, q13]; rfl)⟩ ?_
  rintro A0 ⟨n0, d0, q7, q8, q9, q10, q11, q13, q12, q17⟩
  (repeat' (with_reducible apply Wc.seq)); (apply Wc.opsN n42b; (focus ((repeat' (first | with_reducible exact RO.nil | ((with_reducible apply RO.run (awant_none rfl)); (focus ((first | simp +decide only [awant, ayield_get, oper1, aop, opv, opvs, opvo, opvp, abuiltin, aun, Gx, abin, isShift, aint, roV, pair, bind, Option.bind, acall, Sx, n0, q13, q10, q11, Qx, Hx, lz7, lo7, c42b, ex0, ex1, qtz25, hhb, sb] | skip); with_reducible rfl))))); done)))
  refine Wc.forget (fun A => A.n = 184 ∧ A.defers = [] ∧ A.get 7 = .pointer (some (own h1.next)) ∧ A.get 8 = .pointer (some (own h2.next)) ∧ A.get 9 = .slice (some a9') (allP t).length c9 ∧ A.get 11 = .pointer (some (own h4.next)) ∧ A.get 12 = .int .i64 0 ∧ A.get 14 = .int .i64 0 ∧ A.get 17 = .pointer (some (own h7.next)) ∧ A.get 18 = .pointer (some (own h8.next))) ⟨by simp +decide only [Gx, Sx, n0], by simp +decide only [Gx, Sx, d0], by first | (simp +decide only [Gx, Sx, n0, q7, q8, q9, q11, q12, q17]; done) | (simp +decide only [Gx, Sx, n0, q7, q8, q9, q11, q12, q17]; rfl), by first | (simp +decide only [Gx, Sx, n0, q7, q8, q9, q11, q12, q17]; done) | (simp +decide only [Gx, Sx, n0, q7, q8, q9, q11, q12, q17]; rfl), by first | (simp +decide only [Gx, Sx, n0, q7, q8, q9, q11, q12, q17]; done) | (simp +decide only [Gx, Sx, n0, q7, q8, q9, q11, q12, q17]; rfl), by first | (simp +decide only [Gx, Sx, n0, q7, q8, q9, q11, q12, q17]; done) | (simp +decide only [Gx, Sx, n0, q7, q8, q9, q11, q12, q17]; rfl), by first | (simp +decide only [Gx, Sx, n0, q7, q8, q9, q11, q12, q17]; done) | (simp +decide only [Gx, Sx, n0, q7, q8, q9, q11, q12, q17]; rfl), by first | (simp +decide only [Gx, Sx, n0, q7, q8, q9, q11, q12, q17]; done) | (simp +decide only [Gx, Sx, n0, q7, q8, q9, q11, q12, q17]; rfl), by first | (simp +decide only [Gx, Sx, n0, q7, q8, q9, q11, q12, q17]; done) | (simp +decide only [Gx, Sx, n0, q7, q8, q9, q11, q12, q17]; rfl), by first | (simp +decide only [Gx, Sx, n0, q7, q8, q9, q11, q12, q17]; done) | (simp +decide only [Gx, Sx, n0, q7, q8, q9, q11, q12, q17]; rfl)⟩ ?_
  rintro A0 ⟨n0, d0, q7, q8, q9, q11, q12, q14, q17, q18⟩
  (repeat' (with_reducible apply Wc.seq)); (apply Wc.opsN 1; (focus ((repeat' (first | with_reducible exact RO.nil | ((with_reducible apply RO.run (awant_none rfl)); (focus ((first | simp +decide only [awant, ayield_get, oper1, aop, opv, opvs, opvo, opvp, abuiltin, aun, Gx, abin, isShift, aint, roV, pair, bind, Option.bind, acall, Sx, n0, q7, q8, q12, q14, q17, q18, e0, Qx, Hx, lw8, ly8, lb8, lx8, c14a, c14b] | skip); with_reducible rfl))) | ((with_reducible apply RO.runG); (focus rfl); (focus rfl); (focus (simp +decide only [awant, ayield_get, oper1, aop, opv, opvs, opvo, opvp, abuiltin, aun, Gx, abin, isShift, aint, roV, pair, bind, Option.bind, acall, Sx, n0, q7, q8, q12, q14, q17, q18, e0, Qx, Hx, lw8, ly8, lb8, lx8, c14a, c14b]; done)); (focus ((first | simp +decide only [awant, ayield_get, oper1, aop, opv, opvs, opvo, opvp, abuiltin, aun, Gx, abin, isShift, aint, roV, pair, bind, Option.bind, acall, Sx, n0, q7, q8, q12, q14, q17, q18, e0, Qx, Hx, lw8, ly8, lb8, lx8, c14a, c14b] | skip); with_reducible rfl))) | ((with_reducible apply RO.skipG); (focus rfl); (focus rfl); (focus (simp +decide only [awant, ayield_get, oper1, aop, opv, opvs, opvo, opvp, abuiltin, aun, Gx, abin, isShift, aint, roV, pair, bind, Option.bind, acall, Sx, n0, q7, q8, q12, q14, q17, q18, e0, Qx, Hx, lw8, ly8, lb8, lx8, c14a, c14b]; done))))); done)))
  repeat' (first | (with_reducible apply Wc.seq) | (apply Wc.ops; (focus ((repeat' (first | with_reducible exact RO.nil | ((with_reducible apply RO.run (awant_none rfl)); (focus ((first | simp +decide only [awant, ayield_get, oper1, aop, opv, opvs, opvo, opvp, abuiltin, aun, Gx, abin, isShift, aint, roV, pair, bind, Option.bind, acall, Sx, n0] | skip); with_reducible rfl))))); done))) | (refine Wc.cond2 (by simp +decide only [opv, Gx, Sx, n0]; try with_reducible rfl) (fun hb => ?_) (fun hb => ?_) <;> try contradiction) | refine Wc.skip ?_ | refine Wc.ret ?_ | refine Wc.exit ?_ | refine Wc.block ?_)
  refine Wc.forget (fun A => A.n = 184 ∧ A.defers = [] ∧ A.get 7 = .pointer (some (own h1.next)) ∧ A.get 9 = .slice (some a9') (allP t).length c9 ∧ A.get 11 = .pointer (some (own h4.next))) ⟨by simp +decide only [Gx, Sx, n0], by simp +decide only [Gx, Sx, d0], by first | (simp +decide only [Gx, Sx, n0, q7, q9, q11]; done) | (simp +decide only [Gx, Sx, n0, q7, q9, q11]; rfl), by first | (simp +decide only [Gx, Sx, n0, q7, q9, q11]; done) | (simp +decide only [Gx, Sx, n0, q7, q9, q11]; rfl), by first | (simp +decide only [Gx, Sx, n0, q7, q9, q11]; done) | (simp +decide only [Gx, Sx, n0, q7, q9, q11]; rfl)⟩ ?_
  rintro A0 ⟨n0, d0, q7, q9, q11⟩
  (repeat' (with_reducible apply Wc.seq)); (apply Wc.opsN n43; (focus ((repeat' (first | with_reducible exact RO.nil | ((with_reducible apply RO.run (awant_none rfl)); (focus ((first | simp +decide only [awant, ayield_get, oper1, aop, opv, opvs, opvo, opvp, abuiltin, aun, Gx, abin, isShift, aint, roV, pair, bind, Option.bind, acall, Sx, n0, q7, q11, Qx, Hx, lx8, lo8, c43, ex0, ex1] | skip); with_reducible rfl))))); done)))
  repeat' (first | (with_reducible apply Wc.seq) | (apply Wc.ops; (focus ((repeat' (first | with_reducible exact RO.nil | ((with_reducible apply RO.run (awant_none rfl)); (focus ((first | simp +decide only [awant, ayield_get, oper1, aop, opv, opvs, opvo, opvp, abuiltin, aun, Gx, abin, isShift, aint, roV, pair, bind, Option.bind, acall, Sx, n0, e0, q9, Qy] | skip); with_reducible rfl))))); done))) | (refine Wc.cond2 (by simp +decide only [opv, Gx, Sx, n0, e0, q9, Qy]; try with_reducible rfl) (fun hb => ?_) (fun hb => ?_) <;> try contradiction) | refine Wc.skip ?_ | refine Wc.ret ?_ | refine Wc.exit ?_ | refine Wc.block ?_)
  have rt9 := rep_grow A29.grows rt2
  refine (loop9a_ok k A29.fit (k7 := h1.next) (k11 := h4.next) (A29.grows _ _ bx2) xone rt9 (a9.grows _ _ bo8) oone (rep_grow a9.grows rO8) ⟨g1, by omega, by omega⟩ (s9 := .slice (some a9') (allP t).length c9) (s19 := l19) (P9.grow (A4.grows.trans (A5.grows.trans (A57.grows.trans (A8.grows.trans a9.grows))))) (allP t).length 0 [] (.slice none 0 0) none _ h9 rfl (Nat.zero_le _) ?_ ?_ ?_ ?_ ?_ ?_ ?_ ?_ ?_ ?_ (Ahd.refl A29.fit) ⟨[], .inl (.inl ⟨rfl, rfl, rfl, rfl⟩), rfl⟩ (by rw [List.drop_zero]; rfl)).mono ?_
  · simp +decide only [Gx, Sx, n0]
  · simp +decide only [Gx, Sx, d0]
  · simp +decide only [Gx, Sx, n0, q7]
  · simp +decide only [Gx, Sx, n0, q9]
  · simp +decide only [Gx, Sx, n0, q11]
  · simp +decide only [Gx, Sx, n0]
  · simp +decide only [Gx, Sx, n0]
  · simp +decide only [Gx, Sx, n0, q9]
  · simp +decide only [Gx, Sx, n0]
  · simp +decide only [Gx, Sx, n0]
    rfl
  rintro ex A0 g' ⟨rfl, n0, d0, q7, q9, q19, s20, ro20, q20, ag, P20⟩
  simp only [if_true]
  have lx10 : g'.cells E (own h1.next) 4 = some [x0, x1, x2, x3] := blk_cells (ag.grows _ _ (A29.grows _ _ bx2)) rfl xone
  have c32 := ev_known (D := tab) (E := E) (k.k32 t _ g' (rep_grow ag.grows rt9) (by omega))
  have hsz : szI t = ((isz t : Int), lvlI t, 0) := by
    unfold szI
    rw [if_neg (by rw [hckt]; simp), chkI_size t 0 1 hckt, Int.zero_add]
  rw [hsz] at c32
  have P9' := P9.grow ((A4.grows.trans (A5.grows.trans (A57.grows.trans (A8.grows.trans a9.grows)))).trans ag.grows)
  (repeat' (with_reducible apply Wc.seq)); (apply Wc.opsN 1; (focus ((repeat' (first | with_reducible exact RO.nil | ((with_reducible apply RO.run (awant_none rfl)); (focus ((first | simp +decide only [awant, ayield_get, oper1, aop, opv, opvs, opvo, opvp, abuiltin, aun, Gx, abin, isShift, aint, roV, pair, bind, Option.bind, acall, Sx, n0, q7, Qx, Hx, lx10, c32, ex0, ex1, pex2] | skip); with_reducible rfl))))); done)))
  repeat' (first | (with_reducible apply Wc.seq) | (apply Wc.ops; (focus ((repeat' (first | with_reducible exact RO.nil | ((with_reducible apply RO.run (awant_none rfl)); (focus ((first | simp +decide only [awant, ayield_get, oper1, aop, opv, opvs, opvo, opvp, abuiltin, aun, Gx, abin, isShift, aint, roV, pair, bind, Option.bind, acall, Sx, n0, q9, Qy] | skip); with_reducible rfl))))); done))) | (refine Wc.cond2 (by simp +decide only [opv, Gx, Sx, n0, q9, Qy]; try with_reducible rfl) (fun hb => ?_) (fun hb => ?_) <;> try contradiction) | refine Wc.skip ?_ | refine Wc.ret ?_ | refine Wc.exit ?_ | refine Wc.block ?_)
  refine (loop9b_ok k (t := t) (by omega) (s9 := .slice (some a9') (allP t).length c9) (s19 := l19) (s20 := s20) (v25 := .int .i64 (isz t : Nat)) (v26 := .int .i64 (lvlI t)) P9' (allP t).length 0 0 _ rfl (Nat.zero_le _) (by decide) (by decide) ?_ ?_ ?_ ?_ ?_ ?_ ?_ ?_ ?_ ?_ ?_ ?_ (by rw [List.drop_zero])).mono ?_
  · simp +decide only [Gx, Sx, n0]
  · simp +decide only [Gx, Sx, d0]
  · simp +decide only [Gx, Sx, n0, q9]
  · simp +decide only [Gx, Sx, n0]
  · simp +decide only [Gx, Sx, n0, q19]
  · simp +decide only [Gx, Sx, n0, q20]
  · simp +decide only [Gx, Sx, n0]
  · simp +decide only [Gx, Sx, n0]
  · simp +decide only [Gx, Sx, n0]
  · simp +decide only [Gx, Sx, n0, q9]
  · simp +decide only [Gx, Sx, n0]
  · simp +decide only [Gx, Sx, n0]
    rfl
  rintro ex A0 gZ ⟨rfl, hZ, n0, d0, q9, q16, q19, q20, q25, q26, q27⟩
  simp only [if_true]
  rw [hZ]
  rw [mxl_lvl] at q27
  have P20' := P20.pls
  rw [← fndI_all] at P20'
  obtain ⟨n44, v44, h44, c44, e44, f44⟩ := paths44 (E := E) (I := K) (fun f args h hf => k.out _ _ _ (by rcases hf with h | h | h <;> simp [h])) (P19.grow ag.grows) P20' (by have := fndI_len old t; omega) (fun q hq => by
    rw [fndI_all] at hq
    have := (allP_len t q (List.mem_filter.1 hq).1).1
    omega)
  rw [e44, f44] at c44
  have c11 := ev_known (D := tab) (E := E) (k.k11 g')
  have c44f := (ev_mono (D := tab) (E := E) K (show n44 ≤ n44 + 1 by omega)).call c44
  have c11f := (ev_mono (D := tab) (E := E) K (show 1 ≤ n44 + 1 by omega)).call c11
  have ez : decide ((isz t : Int) = ((allP t).length : Int)) = true := decide_eq_true (by omega)
  have el : decide (lvlI t = lvlI t) = true := decide_eq_true rfl
  (repeat' (with_reducible apply Wc.seq)); (apply Wc.opsN (n44 + 1); (focus ((repeat' (first | with_reducible exact RO.nil | ((with_reducible apply RO.run (awant_none rfl)); (focus ((first | simp +decide only [awant, ayield_get, oper1, aop, opv, opvs, opvo, opvp, abuiltin, aun, Gx, abin, isShift, aint, roV, pair, bind, Option.bind, acall, Sx, n0, q9, q16, q19, q20, q25, q26, q27, Qy, c44f, e0, ez, el, c11f] | skip); with_reducible rfl))) | ((with_reducible apply RO.runG); (focus rfl); (focus rfl); (focus (simp +decide only [awant, ayield_get, oper1, aop, opv, opvs, opvo, opvp, abuiltin, aun, Gx, abin, isShift, aint, roV, pair, bind, Option.bind, acall, Sx, n0, q9, q16, q19, q20, q25, q26, q27, Qy, c44f, e0, ez, el, c11f]; done)); (focus ((first | simp +decide only [awant, ayield_get, oper1, aop, opv, opvs, opvo, opvp, abuiltin, aun, Gx, abin, isShift, aint, roV, pair, bind, Option.bind, acall, Sx, n0, q9, q16, q19, q20, q25, q26, q27, Qy, c44f, e0, ez, el, c11f] | skip); with_reducible rfl))) | ((with_reducible apply RO.skipG); (focus rfl); (focus rfl); (focus (simp +decide only [awant, ayield_get, oper1, aop, opv, opvs, opvo, opvp, abuiltin, aun, Gx, abin, isShift, aint, roV, pair, bind, Option.bind, acall, Sx, n0, q9, q16, q19, q20, q25, q26, q27, Qy, c44f, e0, ez, el, c11f]; done))))); done)))
  repeat' (first | (with_reducible apply Wc.seq) | (apply Wc.ops; (focus ((repeat' (first | with_reducible exact RO.nil | ((with_reducible apply RO.run (awant_none rfl)); (focus ((first | simp +decide only [awant, ayield_get, oper1, aop, opv, opvs, opvo, opvp, abuiltin, aun, Gx, abin, isShift, aint, roV, pair, bind, Option.bind, acall, Sx, n0] | skip); with_reducible rfl))))); done))) | (refine Wc.cond2 (by simp +decide only [opv, Gx, Sx, n0]; try with_reducible rfl) (fun hb => ?_) (fun hb => ?_) <;> try contradiction) | refine Wc.skip ?_ | refine Wc.ret ?_ | refine Wc.exit ?_ | refine Wc.block ?_)
  exact done_q (v := .bool true) (.inr rfl) (by simp +decide only [Gx, Sx, d0]) rfl (by simp +decide only [Gx, Sx, n0]) rfl
end Go.Proofs.YtofijpbmbmbnhaaDoor
/- What is known of the functions, layer on layer, for the law on what is put. -/
set_option maxRecDepth 100000
set_option maxHeartbeats 4000000
namespace Go.Proofs.YtofijpbmbmbnhaaDoor
open Go Go.Hs Go.Proofs
theorem psaid_out {S : Says} {I : Known} {f : FuncId} {args : List Value} {h : H} {fs : List Nat} (hS : ∀ s f args h v, S s f args h v → f ∈ fs) (hf : fs.any (Nat.beq f) = false) : saidBy S I f args h = I f args h := by
  unfold saidBy
  rw [dif_neg]
  rintro ⟨v, s, h1⟩
  rw [List.any_eq_false] at hf
  exact hf f (hS _ _ _ _ _ h1) (by simp)
theorem pbase_out {f : FuncId} {args : List Value} {h : H} (hf : ([123, 130] : List Nat).any (Nat.beq f) = false) : I0 f args h = none := by
  simp only [List.any_cons, List.any_nil, Bool.or_eq_false_iff] at hf
  unfold I0
  rw [hf.1, hf.2.1]
variable {n0 : Nat}
noncomputable def P35 (E : Env) : Known := saidBy (says35 E) (I0)
theorem P35_out {E : Env} {f : FuncId} {args : List Value} {h : H} (hf : ([35] : List Nat).any (Nat.beq f) = false) : P35 E f args h = (I0) f args h := psaid_out (fs := [35]) (fun s f args h v hs => by rw [hs.1]; exact List.mem_singleton.2 rfl) hf
theorem P35_good (E : Env) : KnownGood Tryd.prog tab E n0 (P35 E) := saidByF_good tab_of noNum (known0 E n0) (shown35 (fun f args h hf => by rcases hf with rfl | rfl | rfl | rfl <;> exact pbase_out (by decide)))
theorem P35_none {E : Env} {f : FuncId} {args : List Value} {h : H} (hf : ([35, 123, 130] : List Nat).any (Nat.beq f) = false) : P35 E f args h = none := by
  rw [show ([35, 123, 130] : List Nat) = [35] ++ [123, 130] from rfl, List.any_append, Bool.or_eq_false_iff] at hf
  exact (P35_out hf.1).trans (pbase_out hf.2)
noncomputable def Pev (E : Env) : Known := evOn tab E [104, 105, 106] (P35 E)
theorem Pev_out {E : Env} {f : FuncId} {args : List Value} {h : H} (hf : ([104, 105, 106] : List Nat).any (Nat.beq f) = false) : Pev E f args h = (P35 E) f args h := evOn_ne hf
theorem Pev_good (E : Env) : KnownGood Tryd.prog tab E n0 (Pev E) := evOn_good tab_of noNum (P35_good E)
theorem Pev_none {E : Env} {f : FuncId} {args : List Value} {h : H} (hf : ([104, 105, 106, 35, 123, 130] : List Nat).any (Nat.beq f) = false) : Pev E f args h = none := by
  rw [show ([104, 105, 106, 35, 123, 130] : List Nat) = [104, 105, 106] ++ [35, 123, 130] from rfl, List.any_append, Bool.or_eq_false_iff] at hf
  exact (Pev_out hf.1).trans (P35_none hf.2)
theorem p105 (E : Env) (a b : Int) (h : H) : Pev E 105 [.int .i64 a, .int .i64 b] h = some (some (.int .i64 (cmpN a b), h)) := by
  obtain ⟨n, hn⟩ := call105 (E := E) (I := P35 E) (fun f args h hf => by rcases hf with rfl | rfl <;> exact P35_none (by decide)) a b h
  exact evOn_eq (by decide) hn
theorem p106 (E : Env) (a b : ByteArray) (h : H) : Pev E 106 [.string a, .string b] h = some (some (.int .i64 (cmpL a.data.toList b.data.toList), h)) := by
  obtain ⟨n, hn⟩ := call106 (E := E) (I := P35 E) (fun f args h hf => by rcases hf with rfl | rfl <;> exact P35_none (by decide)) (fun a b h => ((P35_out (by decide)).trans (rfl))) a b h
  exact evOn_eq (by decide) hn
theorem p104 (E : Env) (l : List Int) {k : Nat} {rt : Option (Nat × Nat)} {h : H} (hl : l.length ≤ 1000) (hb : h.blk k = some (.cells (l.map (Value.int .i64)) 3 rt)) : Pev E 104 [.slice (some (own k)) l.length l.length] h = some (some (.int .i64 (orL l), h)) := by
  obtain ⟨n, hn⟩ := call104 (E := E) (I := P35 E) (fun a h => P35_none (by decide)) l hl hb
  exact evOn_eq (by decide) hn
noncomputable def P66 (E : Env) : Known := saidBy (says66 E) (Pev E)
theorem P66_out {E : Env} {f : FuncId} {args : List Value} {h : H} (hf : ([66, 107] : List Nat).any (Nat.beq f) = false) : P66 E f args h = (Pev E) f args h := psaid_out (fs := [66, 107]) (fun s f args h v hs => by rcases hs with ⟨rfl, _⟩ | ⟨rfl, _⟩ <;> decide) hf
theorem P66_good (E : Env) : KnownGood Tryd.prog tab E n0 (P66 E) := saidByF_good tab_of noNum (Pev_good E) (shown66 (fun f args h hf => by rcases hf with rfl | rfl <;> exact Pev_none (by decide)) (fun a b h => p105 E a b h) (fun a b h => p106 E a b h) (fun l k rt h hl hb => p104 E l hl hb))
theorem P66_none {E : Env} {f : FuncId} {args : List Value} {h : H} (hf : ([66, 107, 104, 105, 106, 35, 123, 130] : List Nat).any (Nat.beq f) = false) : P66 E f args h = none := by
  rw [show ([66, 107, 104, 105, 106, 35, 123, 130] : List Nat) = [66, 107] ++ [104, 105, 106, 35, 123, 130] from rfl, List.any_append, Bool.or_eq_false_iff] at hf
  exact (P66_out hf.1).trans (Pev_none hf.2)
noncomputable def P65 (E : Env) : Known := saidBy (says65 E) (P66 E)
theorem P65_out {E : Env} {f : FuncId} {args : List Value} {h : H} (hf : ([65] : List Nat).any (Nat.beq f) = false) : P65 E f args h = (P66 E) f args h := psaid_out (fs := [65]) (fun s f args h v hs => by rw [hs.1]; exact List.mem_singleton.2 rfl) hf
theorem P65_good (E : Env) : KnownGood Tryd.prog tab E n0 (P65 E) := saidByF_good tab_of noNum (P66_good E) (shown65 (fun a h => P66_none (by decide)) (fun t xv h hr hz => ((P66_out (by decide)).trans ((Pev_out (by decide)).trans (saidBy_eq (one35 E) ⟨rfl, rfl, t, xv, rfl, hr, hz, rfl⟩)))))
theorem P65_none {E : Env} {f : FuncId} {args : List Value} {h : H} (hf : ([65, 66, 107, 104, 105, 106, 35, 123, 130] : List Nat).any (Nat.beq f) = false) : P65 E f args h = none := by
  rw [show ([65, 66, 107, 104, 105, 106, 35, 123, 130] : List Nat) = [65] ++ [66, 107, 104, 105, 106, 35, 123, 130] from rfl, List.any_append, Bool.or_eq_false_iff] at hf
  exact (P65_out hf.1).trans (P66_none hf.2)
noncomputable def P32 (E : Env) : Known := saidBy (says32 E) (P65 E)
theorem P32_out {E : Env} {f : FuncId} {args : List Value} {h : H} (hf : ([32] : List Nat).any (Nat.beq f) = false) : P32 E f args h = (P65 E) f args h := psaid_out (fs := [32]) (fun s f args h v hs => by rw [hs.1]; exact List.mem_singleton.2 rfl) hf
theorem P32_good (E : Env) : KnownGood Tryd.prog tab E n0 (P32 E) := saidByF_good tab_of noNum (P65_good E) (shown32 (fun f args h hf => by rcases hf with rfl | rfl | rfl | rfl <;> exact P65_none (by decide)) (fun t xv h hr hz => ((P65_out (by decide)).trans ((P66_out (by decide)).trans ((Pev_out (by decide)).trans (saidBy_eq (one35 E) ⟨rfl, rfl, t, xv, rfl, hr, hz, rfl⟩))))))
theorem P32_none {E : Env} {f : FuncId} {args : List Value} {h : H} (hf : ([32, 65, 66, 107, 104, 105, 106, 35, 123, 130] : List Nat).any (Nat.beq f) = false) : P32 E f args h = none := by
  rw [show ([32, 65, 66, 107, 104, 105, 106, 35, 123, 130] : List Nat) = [32] ++ [65, 66, 107, 104, 105, 106, 35, 123, 130] from rfl, List.any_append, Bool.or_eq_false_iff] at hf
  exact (P32_out hf.1).trans (P65_none hf.2)
noncomputable def P14 (E : Env) : Known := saidBy (says14n E) (P32 E)
theorem P14_out {E : Env} {f : FuncId} {args : List Value} {h : H} (hf : ([14, 53, 89, 55] : List Nat).any (Nat.beq f) = false) : P14 E f args h = (P32 E) f args h := psaid_out (fs := [14, 53, 89, 55]) (fun s f args h v hs => by rcases hs with ⟨rfl, _⟩ | ⟨rfl, _⟩ | ⟨rfl, _⟩ | ⟨rfl, _⟩ <;> decide) hf
theorem P14_good (E : Env) : KnownGood Tryd.prog tab E n0 (P14 E) := saidByF_good tab_of noNum (P32_good E) (shown14n (fun f args h hf => by rcases hf with rfl | rfl | rfl | rfl | rfl <;> exact P32_none (by decide)))
theorem P14_none {E : Env} {f : FuncId} {args : List Value} {h : H} (hf : ([14, 53, 89, 55, 32, 65, 66, 107, 104, 105, 106, 35, 123, 130] : List Nat).any (Nat.beq f) = false) : P14 E f args h = none := by
  rw [show ([14, 53, 89, 55, 32, 65, 66, 107, 104, 105, 106, 35, 123, 130] : List Nat) = [14, 53, 89, 55] ++ [32, 65, 66, 107, 104, 105, 106, 35, 123, 130] from rfl, List.any_append, Bool.or_eq_false_iff] at hf
  exact (P14_out hf.1).trans (P32_none hf.2)
noncomputable def Plaw (E : Env) : Known := fun f args h => match Nat.beq f 11, args with
  | true, [] => some (some (.bool true, h))
  | true, _ => none
  | false, _ => (P14 E) f args h
theorem Plaw_out {E : Env} {f : FuncId} {args : List Value} {h : H} (hf : ([11] : List Nat).any (Nat.beq f) = false) : Plaw E f args h = (P14 E) f args h := by
  have : Nat.beq f 11 = false := by simpa using hf
  unfold Plaw
  rw [this]
theorem Plaw_good {E : Env} (hE : ∀ b o v, E0 b o = some v → E b o = some v) : KnownGood Tryd.prog tab E n0 (Plaw E) := by
  have key : ∀ {f args h r}, Plaw E f args h = some (some r) → (f = 11 ∧ args = [] ∧ r = (.bool true, h)) ∨ P14 E f args h = some (some r) := by
    intro f args h r hh
    unfold Plaw at hh
    split at hh
    · next e => cases hh; exact .inl ⟨Nat.eq_of_beq_eq_true e, rfl, rfl⟩
    · cases hh
    · exact .inr hh
  have hB := P14_good (n0 := n0) E
  refine ⟨fun f args h r h' hi φ w R hok => ?_, fun f args h r h' hi o => ?_, fun f args h r h' hi => ?_⟩
  · rcases key hi with ⟨rfl, rfl, he⟩ | h1
    · cases he; exact awake_sim hE R
    · exact hB.sim _ _ _ _ _ h1 φ w R hok
  · rcases key hi with ⟨rfl, rfl, he⟩ | h1
    · cases he; exact Lg.refl o
    · exact hB.lg _ _ _ _ _ h1 o
  · rcases key hi with ⟨rfl, rfl, he⟩ | h1
    · cases he; exact Nat.le_refl _
    · exact hB.next _ _ _ _ _ h1
theorem Plaw_none {E : Env} {f : FuncId} {args : List Value} {h : H} (hf : ([11, 14, 53, 89, 55, 32, 65, 66, 107, 104, 105, 106, 35, 123, 130] : List Nat).any (Nat.beq f) = false) : Plaw E f args h = none := by
  rw [show ([11, 14, 53, 89, 55, 32, 65, 66, 107, 104, 105, 106, 35, 123, 130] : List Nat) = [11] ++ [14, 53, 89, 55, 32, 65, 66, 107, 104, 105, 106, 35, 123, 130] from rfl, List.any_append, Bool.or_eq_false_iff] at hf
  exact (Plaw_out hf.1).trans (P14_none hf.2)
theorem kn9 (E : Env) : Kn9 E (Plaw E) where
  out := fun f args h hf => by
    simp only [List.mem_cons, List.not_mem_nil, or_false] at hf
    rcases hf with rfl | rfl | rfl | rfl | rfl | rfl | rfl | rfl | rfl | rfl | rfl | rfl | rfl | rfl | rfl | rfl | rfl | rfl | rfl | rfl | rfl <;> exact Plaw_none (by decide)
  k11 := fun h => rfl
  kc := ⟨fun t xv h hr hz => ((Plaw_out (by decide)).trans ((P14_out (by decide)).trans ((P32_out (by decide)).trans ((P65_out (by decide)).trans ((P66_out (by decide)).trans ((Pev_out (by decide)).trans (saidBy_eq (one35 E) ⟨rfl, rfl, t, xv, rfl, hr, hz, rfl⟩))))))), fun ks sl h hr hz => ((Plaw_out (by decide)).trans ((P14_out (by decide)).trans ((P32_out (by decide)).trans (saidBy_eq (one65 E) ⟨rfl, rfl, ks, sl, rfl, hr, hz, rfl⟩))))⟩
  k66 := fun t xv u yv h hr hr' hz => ((Plaw_out (by decide)).trans ((P14_out (by decide)).trans ((P32_out (by decide)).trans ((P65_out (by decide)).trans (saidBy_eq (one66 E) (.inl ⟨rfl, t, xv, u, yv, rfl, hr, hr', hz, rfl, rfl⟩))))))
  k32 := fun t xv h hr hz => ((Plaw_out (by decide)).trans ((P14_out (by decide)).trans (saidBy_eq (one32 E) ⟨rfl, rfl, t, xv, rfl, hr, hz, rfl⟩)))
  k14 := fun t u xv yv h hr hr' hl hz => ((Plaw_out (by decide)).trans (saidBy_eq (one14n E) (.inl ⟨rfl, t, u, xv, yv, 0, rfl, hr, hr', by decide, by omega, hz, rfl, rfl⟩)))
end Go.Proofs.YtofijpbmbmbnhaaDoor
/- The row of the law on what is put. -/
set_option maxRecDepth 100000
set_option maxHeartbeats 4000000
namespace Go.Proofs.YtofijpbmbmbnhaaDoor
open Go Go.Hs Go.Proofs Go.ChangeShapes Go.WideShapes Go.ChangeAt Go.WideMaps Go.WideElems Go.RowKit
theorem own_knob : ownKnob Tryd.prog.godebug = none := by kernel_rfl
theorem gPow : Tryd.prog.globalNamed "internal/strconv.uint64pow10" = some 1 := by kernel_rfl
theorem kids : Kids Tryd.prog (· < Tryd.prog.types.size) := kids_rows (by kernel_rfl) (by kernel_rfl)
theorem full : ∀ t e, t < Tryd.prog.types.size → Tryd.prog.underlying t = some (.slice e) → 0 < Tryd.prog.cellsOf e := slices_full_of Tryd.prog (by kernel_rfl)
def laid3 : List (String × DataW Unit) := [("math/bits.deBruijn32tab", Rows.laid_math_bits_deBruijn32tab), ("math/bits.deBruijn64tab", Rows.laid_math_bits_deBruijn64tab), ("internal/strconv.uint64pow10", Rows.laid_internal_strconv_uint64pow10)]
theorem of_laid {W : World} (h : laidMetH Tryd.prog laid3 W) : W.cell? ⟨1, 2, none⟩ = some (.int .u64 100) := by
  rw [MakeChecks.laidMetH_plain _ _ _ (by kernel_rfl)] at h
  obtain ⟨ps, ⟨g0, t0, cs0, f0, p0, q0, hg0, ht0, hv0, hd0, ⟨g1, t1, cs1, f1, p1, q1, hg1, ht1, hv1, hd1, ⟨g2, t2, cs2, f2, p2, q2, hg2, ht2, hv2, hd2, _, _⟩, _⟩, _⟩, _, _⟩ := h
  obtain rfl := Option.some.inj (gPow.symm.trans hg2)
  obtain rfl := Option.some.inj ((show (Tryd.prog.globals[1]?).map (·.type) = some 186 by kernel_rfl).symm.trans ht2)
  obtain ⟨xs, m, _, hx, _, _, hel⟩ := DataW.trod_array Tryd.underlying186 hd2
  have c99 : Tryd.prog.cellsOf 99 = 1 := by kernel_rfl
  have h2 := hel 2 (by decide)
  rw [c99] at h2
  simp only [Prod.mk.injEq] at hx
  have hx1 : xs.map (·.1) = [.lit (.int .u64 1), .lit (.int .u64 10), .lit (.int .u64 100)] ++ (xs.map (·.1)).drop 3 := by
    have e : DataW.agg (xs.map (·.1)) = Rows.laid_internal_strconv_uint64pow10 := hx.1.symm
    unfold Rows.laid_internal_strconv_uint64pow10 at e
    rw [DataW.agg.injEq] at e
    rw [e]
    rfl
  have h3 : (xs.map (·.1))[2]? = some (.lit (.int .u64 100)) := by rw [hx1]; rfl
  rw [List.getElem?_map] at h3
  obtain ⟨y, hy, hy1⟩ := Option.map_eq_some_iff.1 h3
  rw [hy] at h2
  obtain ⟨k, e1, e2, _⟩ := DataW.trod_int Tryd.underlying99 h2
  have hk : k = 100 := by
    rw [e2] at hy1
    simpa using hy1
  subst hk
  have hc := World.var?_cell hg2 hv2 2
  rw [hc]
  obtain ⟨l⟩ := cs2
  have e1 : (l.drop 2).take 1 = [.int .u64 100] := by simpa using e1
  match l, e1 with
  | [], e1 => simp at e1
  | [_], e1 => simp at e1
  | _ :: _ :: [], e1 => simp at e1
  | _ :: _ :: c :: _, e1 =>
    simp at e1
    subst e1
    rfl
theorem arg_bytes {HH : Type} {enc : TypeId × Value → HH} {W : World} {base : Nat} {v : Value} {d : DataW HH} {p : List MemPlace} (hv : Value.okWide Tryd.prog W .any base 31 v) (h : DataW.Trod enc Tryd.prog W 0 (fun _ => true) true 31 v d p) :
    ∃ x bs, Bin (envOf W) H.empty x bs ∧ okV (fun _ => none) x ∧ ren (fun _ => none) x = v := by
  obtain ⟨a, len, cap, rfl⟩ := okWide_slice Tryd.underlying31 hv
  obtain ⟨fuel, hf⟩ := h
  obtain ⟨c0, he, hfo, bs, hb⟩ := bytes_of_trod Tryd.underlying31 Tryd.underlying5 (by kernel_rfl) H.empty hf
  have hc : c0 = .slice a len cap := by
    have he : [Value.slice a len cap] = [c0] := he
    exact (List.cons.inj he).1.symm
  subst hc
  exact ⟨_, bs, hb, (foV.ok _ hfo).1, dec_ren hfo⟩
theorem arg_int {HH : Type} {enc : TypeId × Value → HH} {W : World} {base t : Nat} {kd : IntKind} {v : Value} {d : DataW HH} {p : List MemPlace} (ht : Tryd.prog.underlying t = some (.int kd)) (hv : Value.okWide Tryd.prog W .any base t v) (h : DataW.Trod enc Tryd.prog W 0 (fun _ => true) true t v d p) :
    ∃ n : Int, v = .int kd n ∧ kd.min ≤ n ∧ n ≤ kd.max := by
  obtain ⟨n, rfl⟩ := okWide_int ht hv
  obtain ⟨fuel, hf⟩ := h
  obtain ⟨m, he, _, hw⟩ := DataW.trod_int ht hf
  have he : [Value.int kd n] = [Value.int kd m] := he
  cases he
  exact ⟨n, rfl, by simpa [Lit.wf] using hw⟩
theorem call9 {W : World} (hL : W.cell? ⟨1, 2, none⟩ = some (.int .u64 100)) {x v : Value} {l0 : List Int} (hx : Bin (envOf W) H.empty x l0) (ox : okV (fun _ => none) x) (rx : ren (fun _ => none) x = v) {y u : Value} {l1 : List Int} (hy : Bin (envOf W) H.empty y l1) (oy : okV (fun _ => none) y) (ry : ren (fun _ => none) y = u) (n2 : Nat) (h2 : n2 < 256) :
    Calls Tryd.prog 9 #[v, u, .int .u8 (n2 : Nat)] W fun e W' => e = .returned (.bool true) ∧ Kept (fun _ => none) W W' := by
  have hE : ∀ b o z, E0 b o = some z → envOf W b o = some z := by
    intro b o z hz
    unfold E0 at hz
    split at hz
    · next e =>
      cases hz
      rw [Bool.and_eq_true] at e
      obtain rfl := Nat.eq_of_beq_eq_true e.1
      obtain rfl := Nat.eq_of_beq_eq_true e.2
      exact envOf_at hL rfl
    · cases hz
  obtain ⟨n, h', hw⟩ := walk9 (kn9 (envOf W)) hx hy n2 h2
  cases n with
  | zero => cases hw
  | succ n =>
    have hc : doCall tab (envOf W) (Plaw (envOf W)) (ev tab (envOf W) (Plaw (envOf W)) n) 9 [x, y, .int .u8 (n2 : Nat)] H.empty = some (.bool true, h') := hw
    have R : Tie tab (envOf W) W.heap.size All (fun _ => none) H.empty W := Tie.start (fun b o z hz => envOf_ro hz) (Nat.le_refl _)
    have := doCall_calls tab_of (ev_ok tab_of noNum (Plaw_good (n0 := W.heap.size) hE) n) ((kn9 (envOf W)).out _ _ _ (by simp)) hc R (by
      intro q hq
      simp only [List.mem_cons, List.not_mem_nil, or_false] at hq
      rcases hq with rfl | rfl | rfl
      · exact ox
      · exact oy
      · simp [okV])
    have ea : (([x, y, .int .u8 (n2 : Nat)] : List Value).map (ren fun _ => none)).toArray = #[v, u, .int .u8 (n2 : Nat)] := by
      simp only [List.map_cons, List.map_nil, rx, ry]
      rfl
    rw [ea] at this
    refine this.mono fun e W' hh => ?_
    obtain ⟨φ', he, _, _, _, hk⟩ := hh
    exact ⟨he, hk⟩
theorem sameAt_of {w w' : World} (K : Kept (fun _ => none) w w') {p : MemPlace} (hp : p.block < w.heap.size) : w.sameAt w' p := by
  cases p with
  | cell b off =>
    show w'.cell? ⟨b, off, none⟩ = w.cell? ⟨b, off, none⟩
    simp only [World.cell?, K.block b hp (fun _ _ _ h => by cases h)]
  | map b => exact K.block b hp (fun _ _ _ h => by cases h)
theorem TrodAll_stays {H : Type} {enc : TypeId × Value → H} {w w' : World} {sp' : Nat → Bool} : ∀ {ts : List TypeId} {vs : List Value} {ds : List (DataW H)} {ps : List MemPlace}, (∀ t ∈ ts, t < Tryd.prog.types.size) → DataW.TrodAll enc Tryd.prog w 0 (fun _ => true) true ts vs ds ps → (∀ p ∈ ps, w.sameAt w' p) → (∀ p ∈ ps, sp' p.block = true) → DataW.TrodAll enc Tryd.prog w' 0 sp' true ts vs ds ps
  | [], [], [], _, _, h, _, _ => h
  | _ :: _, _ :: _, _ :: _, _, hT, ⟨p, q, ⟨n, h1⟩, h2, e⟩, hs, hp => ⟨p, q, ⟨n, DataW.trod_stays kids (fun ht hu => full _ _ ht hu) (fun hh => by cases hh) (hT _ (List.mem_cons.2 (Or.inl rfl))) h1 (fun x hx => hs x (by rw [e]; exact List.mem_append_left _ hx)) (fun x hx => hp x (by rw [e]; exact List.mem_append_left _ hx))⟩,
      TrodAll_stays (fun t ht => hT t (List.mem_cons.2 (Or.inr ht))) h2 (fun x hx => hs x (by rw [e]; exact List.mem_append_right _ hx)) (fun x hx => hp x (by rw [e]; exact List.mem_append_right _ hx)), e⟩
theorem keptBut_of {w w' : World} (K : Kept (fun _ => none) w w') (may : MemPlace → Prop) : w.keptBut w' may := by
  refine ⟨K.os, K.output, fun i hi => ?_⟩
  have := K.block i hi (fun _ _ _ h => by cases h)
  rw [this]
  split
  · next h1 h2 => rw [h1] at h2; cases h2; exact ⟨rfl, rfl, rfl, fun _ _ => rfl⟩
  · next h1 h2 => rw [h1] at h2; cases h2; exact .inr ⟨rfl, rfl⟩
  · rfl
theorem door_met (os : Os) (args : Array Value) : laidMetH Tryd.prog laid3 ((World.doorLaid Tryd.prog 4000 os).forCall (fun _ _ => 0) ⟨#[], args, []⟩).memory :=
  laidMetH_of_parts3 (fuel := 8) (laidMet_of_run' 8 (by kernel_rfl) (by kernel_rfl)) (by kernel_rfl) (by kernel_rfl)
theorem lifted (os : Os) (started : os.Started) (H : Type) (enc : TypeId × Value → H) :
    ReturnsInHanded {} Tryd.checked os 9 .any (fun w args => (Rows.wirePutsSpec.pre enc Tryd.prog Tryd.f9 [] false w args ∧ laidMetH Tryd.prog laid3 w) ∧ sizedMet enc Tryd.prog Tryd.f9 (OpenSpec.ofChange Rows.wirePutsSpec) false w args)
      (Rows.wirePutsSpec.post enc Tryd.prog Tryd.f9 false true false false) := by
  refine returnsInHanded_of_change_and (C := Tryd.checked) (X := fun w _ => laidMetH Tryd.prog laid3 w) (fun _ _ _ hh h => h.of_heap hh) own_knob started (by kernel_rfl) Tryd.func9
    (ChangeSpec.witness_shaped (enc := enc) (C := Tryd.checked) (os := os) (X := fun w _ => laidMetH Tryd.prog laid3 w) false (World.doorLaid Tryd.prog 4000 os) #[.slice none 0 0, .slice none 0 0, .int .u8 0] 9 rfl (World.shaped_of_RefB (by kernel_rfl) (by kernel_rfl)) (by kernel_rfl) (by kernel_rfl) (by kernel_rfl) (door_met os _)) ?_
  intro W base args ds gs before hval0 hW _ _ hL _
  have hval : ∀ (j : Nat) t v, Tryd.f9.params[j]? = some t → args[j]? = some v → Value.okWide Tryd.prog W .any base t v := hval0
  have hW' := hW
  obtain ⟨p, q, hA0, hV, rfl, hfz, hnd⟩ := hW
  have hA : DataW.TrodAll enc Tryd.prog W 0 (fun _ => true) true Tryd.f9.params.toList args.toList ds p := hA0
  have hAk := hA
  rw [Tryd.params9] at hA hval
  obtain ⟨v, v', v'', d, d', d'', p1, p2, p3, rfl, rfl, rfl, h1, h2, h3⟩ := trodAll_three hA
  obtain ⟨rfl, rfl⟩ := trodVars_none hV
  obtain ⟨x, l0, rx, ox, ex⟩ := arg_bytes (hval 0 31 v rfl rfl) h1
  obtain ⟨y, l1, ry, oy, ey⟩ := arg_bytes (hval 1 31 v' rfl rfl) h2
  obtain ⟨z, rfl, z0, z1⟩ := arg_int Tryd.underlying5 (hval 2 5 v'' rfl rfl) h3
  have z0 : 0 ≤ z := z0
  have z1 : z ≤ 255 := z1
  obtain ⟨n2, rfl⟩ := Int.eq_ofNat_of_zero_le z0
  refine (call9 (of_laid hL) rx ox ex ry oy ey n2 (by omega)).mono fun e W' ⟨he, K⟩ => ?_
  subst he
  have hlt : ∀ z ∈ p1 ++ p2 ++ p3, z.block < W.heap.size := fun z hz => hW'.lt z (by simpa using hz)
  refine ⟨_, rfl, _, _, _, [], p1 ++ p2 ++ p3, [], hW', ?_, ?_, ?_, keptBut_of K _, fun h => by cases h⟩
  · exact trodAll_mk1 (shut_bool Tryd.underlying4 true)
  · exact TrodAll_stays (by rw [Tryd.params9]; decide) hAk (fun z hz => sameAt_of K (hlt z hz)) (fun z hz => by simpa using hlt z hz)
  · rfl
theorem wirePuts_holds : Rows.WirePutsSaid :=
  OpenClaim.holds_of_wide 9 Tryd.f9 rfl rfl rfl rfl rfl rfl rfl ⟨rfl, rfl, rfl, rfl, rfl⟩ rfl rfl rfl rfl rfl (by kernel_rfl) Tryd.func9 (by kernel_rfl)
    (of_decide_eq_true (by kernel_rfl)) (by unfold Func.isWrapper; first | (rw [if_pos (by decide +kernel)]; kernel_rfl) | (rw [if_neg (by decide +kernel)]; exact ⟨rfl, rfl⟩))
    (fun os started H enc _ => lifted os started H enc)
end Go.Proofs.YtofijpbmbmbnhaaDoor
/- Proved: for whatever two slices of bytes, and whatever number of 8 bits, the law on what is put (WirePuts) returns true, and the bytes read afterwards as they read before.
   Conditions: those of the card: when the call begins, the three listed package-level variables hold what the program's text lays (the card ties them to it). Nothing is asked of the bytes or the number. -/
set_option maxRecDepth 100000
namespace Go.Proofs.YtofijpbmbmbnhaaDoor
open Go
theorem wirePuts_card : Rows.WirePutsCardSaid :=
  Claim7.holds_tied_plain_at .later [] [.data, .data, .data] true (true, "dd39aefdd4fbebabeb528789cffc35ebda988315da12ef43dfd83f580aae36d8") false
    wirePuts_holds (fun _ h => by cases h) (by kernel_rfl) (fun _ h => by cases h) wirePuts_row_tie rfl ⟨rfl, rfl⟩ (by kernel_rfl) rfl
    (fun f fn hf hfn => by
      obtain rfl : f = 9 := Option.some.inj ((show Tryd.prog.funcNamed "hoarstone/hoarstonelaw02.WirePuts" = some 9 by kernel_rfl).symm.trans hf) |>.symm
      obtain rfl : fn = Tryd.f9 := (Option.some.inj (Tryd.func9.symm.trans hfn)).symm
      exact ⟨by kernel_rfl, fun j t ht => by
        rw [Tryd.params9] at ht
        have h3 : t = 31 ∨ t = 31 ∨ t = 5 := by
          rcases j with _ | _ | _ | j
          · left; simpa using ht.symm
          · right; left; simpa using ht.symm
          · right; right; simpa using ht.symm
          · simp at ht
        rcases h3 with rfl | rfl | rfl
        · exact (show Tryd.prog.wantsStandIn 31 = false by kernel_rfl)
        · exact (show Tryd.prog.wantsStandIn 31 = false by kernel_rfl)
        · exact (show Tryd.prog.wantsStandIn 5 = false by kernel_rfl)⟩)
    (by kernel_rfl)
#print axioms wirePuts_card
end Go.Proofs.YtofijpbmbmbnhaaDoor
