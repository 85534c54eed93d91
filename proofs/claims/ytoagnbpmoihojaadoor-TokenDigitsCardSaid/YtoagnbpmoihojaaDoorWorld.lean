/- What the conditions of the token seat's rows give a run: the listed tables, the arguments. -/
import Derived.Test.YtoagnbpmoihojaaDoorBase
set_option maxRecDepth 100000
set_option linter.unusedSimpArgs false
set_option linter.unusedVariables false
namespace Go.Proofs.YtoagnbpmoihojaaDoor
open Go.Sx Go.ChangeShapes Go.WideShapes Go.ChangeAt Go.RowKit

theorem pow_data : (Rows.laid_internal_strconv_uint64pow10 : DataW Unit) = Lib.tabData .u64 Lib.pow10Tab := by kernel_rfl

theorem pow_of_laid {W : World} (h : laidMetH Tryd.prog tabs W) : ∃ el fr, W.heap[0]? = some (.cells powVals el fr) := by
  rw [MakeChecks.laidMetH_plain _ _ _ (by kernel_rfl)] at h
  obtain ⟨ps, ⟨g0, t0, cs0, f0, p0, q0, hg0, ht0, hv0, hd0, ⟨g1, t1, cs1, f1, p1, q1, hg1, ht1, hv1, hd1, ⟨g2, t2, cs2, f2, p2, q2, hg2, ht2, hv2, hd2, _, _⟩, _⟩, _⟩, _⟩ := h
  obtain rfl := Option.some.inj (Tryd.pow.symm.trans hg2)
  obtain rfl := Option.some.inj ((show (Tryd.prog.globals[0]?).map (·.type) = some 132 by kernel_rfl).symm.trans ht2)
  rw [pow_data] at hd2
  have hc := Lib.cells_of_tab Tryd.underlying132 Tryd.underlying100 (by kernel_rfl) (by kernel_rfl) hd2
  unfold World.var? at hv2
  rw [Tryd.pow] at hv2
  simp only [Option.bind_some] at hv2
  split at hv2
  · rename_i c el fr hb
    obtain rfl := Option.some.inj hv2
    refine ⟨el, fr, ?_⟩
    rw [hb]
    unfold powVals
    rw [← hc]
  · simp at hv2

theorem max_of_shape {W : World} (h : W.ShapedOpen Tryd.prog) : ∃ m el fr, W.heap[1]? = some (.cells m el fr) ∧ ∃ k, m[0]? = some (.int .i64 k) := by
  obtain ⟨k, hk⟩ := Tryd.laysM219.s1_3 W h
  replace hk : W.cell? ⟨1, 0, none⟩ = some (.int .i64 k) := hk
  unfold World.cell? at hk
  simp only at hk
  split at hk
  · rename_i c el fr hb
    exact ⟨c, el, fr, hb, k, hk⟩
  · simp at hk

/-- The world of a call fits the engine. -/
theorem start_fixed {W : World} (hl : laidMetH Tryd.prog tabs W) (hs : W.ShapedOpen Tryd.prog) : ∃ m : Array Value, (∃ k, m[0]? = some (.int .i64 k)) ∧ ∀ p, p ∈ (Tryd.S m).fixed → Fixed (GE.start W) p := by
  obtain ⟨m, el, fr, hb, k, hk⟩ := max_of_shape hs
  obtain ⟨el0, fr0, hb0⟩ := pow_of_laid hl
  refine ⟨m, ⟨k, hk⟩, ?_⟩
  intro p hp
  have hp' : p = (0, powVals) ∨ p = (1, m) := by
    have : p ∈ [((0 : Nat), powVals), (1, m)] := hp
    simpa using this
  rcases hp' with rfl | rfl
  · refine ⟨⟨el0, fr0, hb0⟩, start_owned W _, 0, ?_⟩
    show (W.cell? ⟨0, 0, none⟩).isSome = true
    unfold World.cell?
    simp only
    rw [hb0]
    rfl
  · refine ⟨⟨el, fr, hb⟩, start_owned W _, 0, ?_⟩
    show (W.cell? ⟨1, 0, none⟩).isSome = true
    unfold World.cell?
    simp only
    rw [hb]
    simp only
    rw [hk]
    rfl

section
variable {H : Type} {enc : TypeId × Value → H} {W : World} {base : Nat} {sp : Nat → Bool} {held : Bool}

theorem open_tok {v : Value} {d : DataW H} {ps : List MemPlace} (hd : DataW.Trod enc Tryd.prog W base sp held 47 v d ps) : ∃ a b c, v = .agg #[.int .i64 a, .int .i64 b, .int .i64 c] := by
  obtain ⟨fuel, h⟩ := hd
  have h3 : Tryd.prog.cellsOf 3 = 1 := by kernel_rfl
  have h47 : Tryd.prog.cellsOf 47 = 3 := by kernel_rfl
  generalize hcs : v.cells.toList = cs at h
  obtain ⟨xs, m, rfl, hx, hl, hn, hel⟩ := DataW.trod_struct Tryd.underlying47 h
  rw [h47] at hl
  replace hn : xs.length = 3 := hn
  match cs, hl, xs, hn with
  | [x, y, z], _, [d0, d1, d2], _ =>
    have e0 : DataW.trod enc Tryd.prog W base sp held m 3 (([x, y, z].drop 0).take (Tryd.prog.cellsOf 3)) = some d0 := hel 0 _ rfl
    have e1 : DataW.trod enc Tryd.prog W base sp held m 3 (([x, y, z].drop 1).take (Tryd.prog.cellsOf 3)) = some d1 := hel 1 _ rfl
    have e2 : DataW.trod enc Tryd.prog W base sp held m 3 (([x, y, z].drop 2).take (Tryd.prog.cellsOf 3)) = some d2 := hel 2 _ rfl
    rw [h3] at e0 e1 e2
    obtain ⟨a, ha, _⟩ := DataW.trod_int Tryd.underlying3 (show DataW.trod enc Tryd.prog W base sp held m 3 [x] = some d0 from e0)
    obtain ⟨b, hb, _⟩ := DataW.trod_int Tryd.underlying3 (show DataW.trod enc Tryd.prog W base sp held m 3 [y] = some d1 from e1)
    obtain ⟨c, hc, _⟩ := DataW.trod_int Tryd.underlying3 (show DataW.trod enc Tryd.prog W base sp held m 3 [z] = some d2 from e2)
    refine ⟨a, b, c, ?_⟩
    simp only [List.cons.injEq, and_true] at ha hb hc
    subst ha; subst hb; subst hc
    cases v with
    | agg xs =>
      simp only [Value.cells] at hcs
      rw [← hcs]
    | _ => simp [Value.cells] at hcs

theorem open_str {r : Reach} {b0 : Nat} {v : Value} {d : DataW H} {ps : List MemPlace} (hval : Value.okWide Tryd.prog W r b0 9 v) (hd : DataW.Trod enc Tryd.prog W base sp held 9 v d ps) : ∃ s : List UInt8, v = .string ⟨s.toArray⟩ := by
  obtain ⟨⟨⟨l⟩⟩, h1, _⟩ := Go.ChangeMaps.open_string Tryd.underlying9 hval hd
  exact ⟨l, h1⟩

theorem tok_rel (E : GE) (a b c : Int) : VRel E (tok a b c) (.agg #[.int .i64 a, .int .i64 b, .int .i64 c]) := by
  refine .agg _ _ rfl ?_ ?_
  · intro i u x hu hx
    rcases i with _ | _ | _ | i
    · simp at hu hx; subst hu; subst hx; exact .int _ _
    · simp at hu hx; subst hu; subst hx; exact .int _ _
    · simp at hu hx; subst hu; subst hx; exact .int _ _
    · simp at hu
  · intro i x hx
    rcases i with _ | _ | _ | i
    · simp at hx; subst hx; rfl
    · simp at hx; subst hx; rfl
    · simp at hx; subst hx; rfl
    · simp at hx
end

/-- A law that answers true, from the engine. -/
theorem tok_calls {m : Array Value} (hmx : ∃ k, m[0]? = some (.int .i64 k)) {f : FuncId} {args : List AV} {H' : AH} (h : callL (Tryd.S m) f args ⟨[], []⟩ = some (.bool true, H')) {W : World} (hfx : ∀ p, p ∈ (Tryd.S m).fixed → Fixed (GE.start W) p)
    {xs : Array Value} (hx : VRelL (GE.start W) args xs) : Calls Tryd.prog f xs W fun e W' => e = .returned (.bool true) ∧ Below W.heap.size W W' := by
  obtain ⟨n, hn⟩ := callL_fuel h
  exact calls_true (Tryd.ok m) (Tryd.extOK m hmx) Tryd.mixed hn (fun n => .top _) hfx hx

/-- The wrap: tables laid, and the variables' shape. -/
theorem tok_wrap {H : Type} {enc : TypeId × Value → H} {os : Os} {f : FuncId} {fn : Func} {s : ChangeSpec} (started : os.Started) (noInit : Tryd.prog.inits.idxOf? f = none) (hfn : Tryd.prog.funcs[f]? = some fn)
    (witness : ∃ (w : World) (tape : Tape) (i : Input), w.os = os ∧ (w.forCall tape i).Shaped Tryd.prog ∧ i.vars = [] ∧ Input.okWide Tryd.prog (w.forCall tape i) .any w.heap.size f i ∧
      ((s.pre enc Tryd.prog fn [] false (w.forCall tape i).memory i.args ∧ laidMetH Tryd.prog tabs (w.forCall tape i).memory) ∧ sizedMet enc Tryd.prog fn (OpenSpec.ofChange s) false (w.forCall tape i).memory i.args) ∧ ({} : Assume).holds Tryd.prog (lone (Frame.enter Tryd.prog f i.args .normal) [] (w.forCall tape i)))
    (contract : ∀ (W : World) (base : Nat) (args : Array Value) (ds gs : List (DataW H)) (before : List MemPlace),
      (∀ (j : Nat) t v, fn.params[j]? = some t → args[j]? = some v → Value.okWide Tryd.prog W .any base t v) →
      DataW.Whole enc Tryd.prog fn.params.toList s.vars false W args.toList ds gs before → laidMetH Tryd.prog tabs W → W.ShapedOpen Tryd.prog →
      Calls Tryd.prog f args W fun e W' => ∃ v, e = .returned v ∧ s.post enc Tryd.prog fn false true false false W args v W') :
    ReturnsInHanded {} Tryd.checked os f .any (fun w args => (s.pre enc Tryd.prog fn [] false w args ∧ laidMetH Tryd.prog tabs w) ∧ sizedMet enc Tryd.prog fn (OpenSpec.ofChange s) false w args) (s.post enc Tryd.prog fn false true false false) := by
  refine returnsInHanded_of_calls (C := Tryd.checked) Tryd.own started noInit witness ?_
  intro w tape i _ hsh _ hok hpre _
  obtain ⟨_, _, _, fn', hfn', _, _, _, _, hval⟩ := hok
  have e : fn' = fn := Option.some.inj (hfn'.symm.trans hfn)
  subst e
  obtain ⟨⟨⟨ds, gs, before, hw, _⟩, hx⟩, _⟩ := hpre
  have hw' := DataW.Whole.of_heap (w' := w.forCall tape i) (by rfl) hw
  have hx' : laidMetH Tryd.prog tabs (w.forCall tape i) := hx.of_heap (by rfl)
  refine (contract (w.forCall tape i) w.heap.size i.args ds gs before hval hw' hx' hsh).mono fun e W' ⟨v, he, hp⟩ => ?_
  subst he
  exact ChangeSpec.post_blind hp

end Go.Proofs.YtoagnbpmoihojaaDoor
