/- The row of the law on streams. -/
import Derived.Test.YtofijpbmbmbnhaaDoorHsat
import Derived.Test.YtofijpbmbmbnhaaDoorRows
import Derived.ProofKit
import Derived.LaidMore
import Derived.OpenShut
import Derived.Stop.Joined
set_option linter.unusedSimpArgs false
set_option linter.unusedVariables false
set_option maxRecDepth 100000
set_option maxHeartbeats 4000000
namespace Go.Proofs.YtofijpbmbmbnhaaDoor
open Go Go.Hs Go.Proofs Go.ChangeShapes Go.WideShapes Go.ChangeAt Go.WideMaps Go.WideElems Go.RowKit
theorem own_knob : ownKnob Tryd.prog.godebug = none := by kernel_rfl
theorem gPow : Tryd.prog.globalNamed "internal/strconv.uint64pow10" = some 1 := by kernel_rfl
theorem kids : Kids Tryd.prog (· < Tryd.prog.types.size) := kids_rows (by kernel_rfl) (by kernel_rfl)
theorem full : ∀ t e, t < Tryd.prog.types.size → Tryd.prog.underlying t = some (.slice e) → 0 < Tryd.prog.cellsOf e := slices_full_of Tryd.prog (by kernel_rfl)
def laid3 : List (String × DataW Unit) := [("math/bits.deBruijn32tab", Rows.laid_math_bits_deBruijn32tab), ("math/bits.deBruijn64tab", Rows.laid_math_bits_deBruijn64tab), ("internal/strconv.uint64pow10", Rows.laid_internal_strconv_uint64pow10)]
theorem of_laid {W : World} (h : laidMetH Tryd.prog laid3 W) : W.cell? ⟨1, 2, none⟩ = some (.int .u64 100) := by
  rw [MakeChecks.laidMetH_plain _ _ _ (by kernel_rfl)] at h
  obtain ⟨ps, ⟨g0, t0, cs0, f0, p0, q0, hg0, ht0, hv0, hd0, ⟨g1, t1, cs1, f1, p1, q1, hg1, ht1, hv1, hd1, ⟨g2, t2, cs2, f2, p2, q2, hg2, ht2, hv2, hd2, _, _⟩, _⟩, _⟩, _, _⟩ := h
  obtain rfl := Option.some.inj (gPow.symm.trans hg2)
  obtain rfl := Option.some.inj ((show (Tryd.prog.globals[1]?).map (·.type) = some 186 by kernel_rfl).symm.trans ht2)
  obtain ⟨xs, m, _, hx, _, _, hel⟩ := DataW.trod_array Tryd.underlying186 hd2
  have c99 : Tryd.prog.cellsOf 99 = 1 := by kernel_rfl
  have h2 := hel 2 (by decide)
  rw [c99] at h2
  simp only [Prod.mk.injEq] at hx
  have hx1 : xs.map (·.1) = [.lit (.int .u64 1), .lit (.int .u64 10), .lit (.int .u64 100)] ++ (xs.map (·.1)).drop 3 := by
    have e : DataW.agg (xs.map (·.1)) = Rows.laid_internal_strconv_uint64pow10 := hx.1.symm
    unfold Rows.laid_internal_strconv_uint64pow10 at e
    rw [DataW.agg.injEq] at e
    rw [e]
    rfl
  have h3 : (xs.map (·.1))[2]? = some (.lit (.int .u64 100)) := by rw [hx1]; rfl
  rw [List.getElem?_map] at h3
  obtain ⟨y, hy, hy1⟩ := Option.map_eq_some_iff.1 h3
  rw [hy] at h2
  obtain ⟨k, e1, e2, _⟩ := DataW.trod_int Tryd.underlying99 h2
  have hk : k = 100 := by
    rw [e2] at hy1
    simpa using hy1
  subst hk
  have hc := World.var?_cell hg2 hv2 2
  rw [hc]
  obtain ⟨l⟩ := cs2
  have e1 : (l.drop 2).take 1 = [.int .u64 100] := by simpa using e1
  match l, e1 with
  | [], e1 => simp at e1
  | [_], e1 => simp at e1
  | _ :: _ :: [], e1 => simp at e1
  | _ :: _ :: c :: _, e1 =>
    simp at e1
    subst e1
    rfl
theorem arg_bytes {HH : Type} {enc : TypeId × Value → HH} {W : World} {base : Nat} {v : Value} {d : DataW HH} {p : List MemPlace} (hv : Value.okWide Tryd.prog W .any base 31 v) (h : DataW.Trod enc Tryd.prog W 0 (fun _ => true) true 31 v d p) :
    ∃ x bs, Bin (envOf W) H.empty x bs ∧ okV (fun _ => none) x ∧ ren (fun _ => none) x = v := by
  obtain ⟨a, len, cap, rfl⟩ := okWide_slice Tryd.underlying31 hv
  obtain ⟨fuel, hf⟩ := h
  obtain ⟨c0, he, hfo, bs, hb⟩ := bytes_of_trod Tryd.underlying31 Tryd.underlying5 (by kernel_rfl) H.empty hf
  have hc : c0 = .slice a len cap := by
    have he : [Value.slice a len cap] = [c0] := he
    exact (List.cons.inj he).1.symm
  subst hc
  exact ⟨_, bs, hb, (foV.ok _ hfo).1, dec_ren hfo⟩
theorem arg_int {HH : Type} {enc : TypeId × Value → HH} {W : World} {base t : Nat} {kd : IntKind} {v : Value} {d : DataW HH} {p : List MemPlace} (ht : Tryd.prog.underlying t = some (.int kd)) (hv : Value.okWide Tryd.prog W .any base t v) (h : DataW.Trod enc Tryd.prog W 0 (fun _ => true) true t v d p) :
    ∃ n : Int, v = .int kd n ∧ kd.min ≤ n ∧ n ≤ kd.max := by
  obtain ⟨n, rfl⟩ := okWide_int ht hv
  obtain ⟨fuel, hf⟩ := h
  obtain ⟨m, he, _, hw⟩ := DataW.trod_int ht hf
  have he : [Value.int kd n] = [Value.int kd m] := he
  cases he
  exact ⟨n, rfl, by simpa [Lit.wf] using hw⟩
theorem call8 {W : World} (hL : W.cell? ⟨1, 2, none⟩ = some (.int .u64 100)) {x v : Value} {l0 : List Int} (hx : Bin (envOf W) H.empty x l0) (ox : okV (fun _ => none) x) (rx : ren (fun _ => none) x = v) (n1 n2 : Nat) (h1 : n1 < 256) (h2 : n2 < 65536) :
    Calls Tryd.prog 8 #[v, .int .u8 (n1 : Nat), .int .u16 (n2 : Nat)] W fun e W' => e = .returned (.bool true) ∧ Kept (fun _ => none) W W' := by
  have hE : ∀ b o z, E0 b o = some z → envOf W b o = some z := by
    intro b o z hz
    unfold E0 at hz
    split at hz
    · next e =>
      cases hz
      rw [Bool.and_eq_true] at e
      obtain rfl := Nat.eq_of_beq_eq_true e.1
      obtain rfl := Nat.eq_of_beq_eq_true e.2
      exact envOf_at hL rfl
    · cases hz
  obtain ⟨n, h', hw⟩ := walk8 (kn8 (envOf W)) hx n1 n2 h1 h2
  cases n with
  | zero => cases hw
  | succ n =>
    have hc : doCall tab (envOf W) (Slaw (envOf W)) (ev tab (envOf W) (Slaw (envOf W)) n) 8 [x, .int .u8 (n1 : Nat), .int .u16 (n2 : Nat)] H.empty = some (.bool true, h') := hw
    have R : Tie tab (envOf W) W.heap.size All (fun _ => none) H.empty W := Tie.start (fun b o z hz => envOf_ro hz) (Nat.le_refl _)
    have := doCall_calls tab_of (ev_ok tab_of noNum (Slaw_good (n0 := W.heap.size) hE) n) ((kn8 (envOf W)).out _ _ _ (by simp)) hc R (by
      intro q hq
      simp only [List.mem_cons, List.not_mem_nil, or_false] at hq
      rcases hq with rfl | rfl | rfl
      · exact ox
      · simp [okV]
      · simp [okV])
    have ea : (([x, .int .u8 (n1 : Nat), .int .u16 (n2 : Nat)] : List Value).map (ren fun _ => none)).toArray = #[v, .int .u8 (n1 : Nat), .int .u16 (n2 : Nat)] := by
      simp only [List.map_cons, List.map_nil, rx]
      rfl
    rw [ea] at this
    refine this.mono fun e W' hh => ?_
    obtain ⟨φ', he, _, _, _, hk⟩ := hh
    exact ⟨he, hk⟩
theorem sameAt_of {w w' : World} (K : Kept (fun _ => none) w w') {p : MemPlace} (hp : p.block < w.heap.size) : w.sameAt w' p := by
  cases p with
  | cell b off =>
    show w'.cell? ⟨b, off, none⟩ = w.cell? ⟨b, off, none⟩
    simp only [World.cell?, K.block b hp (fun _ _ _ h => by cases h)]
  | map b => exact K.block b hp (fun _ _ _ h => by cases h)
theorem TrodAll_stays {H : Type} {enc : TypeId × Value → H} {w w' : World} {sp' : Nat → Bool} : ∀ {ts : List TypeId} {vs : List Value} {ds : List (DataW H)} {ps : List MemPlace}, (∀ t ∈ ts, t < Tryd.prog.types.size) → DataW.TrodAll enc Tryd.prog w 0 (fun _ => true) true ts vs ds ps → (∀ p ∈ ps, w.sameAt w' p) → (∀ p ∈ ps, sp' p.block = true) → DataW.TrodAll enc Tryd.prog w' 0 sp' true ts vs ds ps
  | [], [], [], _, _, h, _, _ => h
  | _ :: _, _ :: _, _ :: _, _, hT, ⟨p, q, ⟨n, h1⟩, h2, e⟩, hs, hp => ⟨p, q, ⟨n, DataW.trod_stays kids (fun ht hu => full _ _ ht hu) (fun hh => by cases hh) (hT _ (List.mem_cons.2 (Or.inl rfl))) h1 (fun x hx => hs x (by rw [e]; exact List.mem_append_left _ hx)) (fun x hx => hp x (by rw [e]; exact List.mem_append_left _ hx))⟩,
      TrodAll_stays (fun t ht => hT t (List.mem_cons.2 (Or.inr ht))) h2 (fun x hx => hs x (by rw [e]; exact List.mem_append_right _ hx)) (fun x hx => hp x (by rw [e]; exact List.mem_append_right _ hx)), e⟩
theorem keptBut_of {w w' : World} (K : Kept (fun _ => none) w w') (may : MemPlace → Prop) : w.keptBut w' may := by
  refine ⟨K.os, K.output, fun i hi => ?_⟩
  have := K.block i hi (fun _ _ _ h => by cases h)
  rw [this]
  split
  · next h1 h2 => rw [h1] at h2; cases h2; exact ⟨rfl, rfl, rfl, fun _ _ => rfl⟩
  · next h1 h2 => rw [h1] at h2; cases h2; exact .inr ⟨rfl, rfl⟩
  · rfl
theorem door_met (os : Os) (args : Array Value) : laidMetH Tryd.prog laid3 ((World.doorLaid Tryd.prog 4000 os).forCall (fun _ _ => 0) ⟨#[], args, []⟩).memory :=
  laidMetH_of_parts3 (fuel := 8) (laidMet_of_run' 8 (by kernel_rfl) (by kernel_rfl)) (by kernel_rfl) (by kernel_rfl)
theorem lifted (os : Os) (started : os.Started) (H : Type) (enc : TypeId × Value → H) :
    ReturnsInHanded {} Tryd.checked os 8 .any (fun w args => (Rows.wireStreamsSpec.pre enc Tryd.prog Tryd.f8 [] false w args ∧ laidMetH Tryd.prog laid3 w) ∧ sizedMet enc Tryd.prog Tryd.f8 (OpenSpec.ofChange Rows.wireStreamsSpec) false w args)
      (Rows.wireStreamsSpec.post enc Tryd.prog Tryd.f8 false true false false) := by
  refine returnsInHanded_of_change_and (C := Tryd.checked) (X := fun w _ => laidMetH Tryd.prog laid3 w) (fun _ _ _ hh h => h.of_heap hh) own_knob started (by kernel_rfl) Tryd.func8
    (ChangeSpec.witness_shaped (enc := enc) (C := Tryd.checked) (os := os) (X := fun w _ => laidMetH Tryd.prog laid3 w) false (World.doorLaid Tryd.prog 4000 os) #[.slice none 0 0, .int .u8 0, .int .u16 0] 8 rfl (World.shaped_of_RefB (by kernel_rfl) (by kernel_rfl)) (by kernel_rfl) (by kernel_rfl) (by kernel_rfl) (door_met os _)) ?_
  intro W base args ds gs before hval0 hW _ _ hL _
  have hval : ∀ (j : Nat) t v, Tryd.f8.params[j]? = some t → args[j]? = some v → Value.okWide Tryd.prog W .any base t v := hval0
  have hW' := hW
  obtain ⟨p, q, hA0, hV, rfl, hfz, hnd⟩ := hW
  have hA : DataW.TrodAll enc Tryd.prog W 0 (fun _ => true) true Tryd.f8.params.toList args.toList ds p := hA0
  have hAk := hA
  rw [Tryd.params8] at hA hval
  obtain ⟨v, v', v'', d, d', d'', p1, p2, p3, rfl, rfl, rfl, h1, h2, h3⟩ := trodAll_three hA
  obtain ⟨rfl, rfl⟩ := trodVars_none hV
  obtain ⟨x, l0, rx, ox, ex⟩ := arg_bytes (hval 0 31 v rfl rfl) h1
  obtain ⟨y, rfl, y0, y1⟩ := arg_int Tryd.underlying5 (hval 1 5 v' rfl rfl) h2
  obtain ⟨z, rfl, z0, z1⟩ := arg_int Tryd.underlying40 (hval 2 40 v'' rfl rfl) h3
  have y0 : 0 ≤ y := y0
  have y1 : y ≤ 255 := y1
  have z0 : 0 ≤ z := z0
  have z1 : z ≤ 65535 := z1
  obtain ⟨n1, rfl⟩ := Int.eq_ofNat_of_zero_le y0
  obtain ⟨n2, rfl⟩ := Int.eq_ofNat_of_zero_le z0
  refine (call8 (of_laid hL) rx ox ex n1 n2 (by omega) (by omega)).mono fun e W' ⟨he, K⟩ => ?_
  subst he
  have hlt : ∀ z ∈ p1 ++ p2 ++ p3, z.block < W.heap.size := fun z hz => hW'.lt z (by simpa using hz)
  refine ⟨_, rfl, _, _, _, [], p1 ++ p2 ++ p3, [], hW', ?_, ?_, ?_, keptBut_of K _, fun h => by cases h⟩
  · exact trodAll_mk1 (shut_bool Tryd.underlying4 true)
  · exact TrodAll_stays (by rw [Tryd.params8]; decide) hAk (fun z hz => sameAt_of K (hlt z hz)) (fun z hz => by simpa using hlt z hz)
  · rfl
theorem wireStreams_holds : Rows.WireStreamsSaid :=
  OpenClaim.holds_of_wide 8 Tryd.f8 rfl rfl rfl rfl rfl rfl rfl ⟨rfl, rfl, rfl, rfl, rfl⟩ rfl rfl rfl rfl rfl (by kernel_rfl) Tryd.func8 (by kernel_rfl)
    (of_decide_eq_true (by kernel_rfl)) (by unfold Func.isWrapper; first | (rw [if_pos (by decide +kernel)]; kernel_rfl) | (rw [if_neg (by decide +kernel)]; exact ⟨rfl, rfl⟩))
    (fun os started H enc _ => lifted os started H enc)
end Go.Proofs.YtofijpbmbmbnhaaDoor
