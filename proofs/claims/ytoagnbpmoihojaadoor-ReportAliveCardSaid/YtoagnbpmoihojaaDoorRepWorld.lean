/- What the conditions of the report seat's rows give a run: the listed tables, the arguments. -/
import Derived.Test.YtoagnbpmoihojaaDoorRepBase
set_option maxRecDepth 100000
set_option linter.unusedSimpArgs false
set_option linter.unusedVariables false
namespace Go.Proofs.YtoagnbpmoihojaaDoor
open Go.Sx Go.ChangeShapes Go.WideShapes Go.ChangeAt Go.RowKit

theorem powR_data : (Rows.laid_internal_strconv_uint64pow10 : DataW Unit) = Lib.tabData .u64 Lib.pow10Tab := by kernel_rfl

theorem powR_of_laid {W : World} (h : laidMetH Tryd.prog tabsR W) : ∃ el fr, W.heap[0]? = some (.cells powVals el fr) := by
  rw [MakeChecks.laidMetH_plain _ _ _ (by kernel_rfl)] at h
  obtain ⟨ps, ⟨g0, t0, cs0, f0, p0, q0, hg0, ht0, hv0, hd0, ⟨g1, t1, cs1, f1, p1, q1, hg1, ht1, hv1, hd1, ⟨g2, t2, cs2, f2, p2, q2, hg2, ht2, hv2, hd2, _, _⟩, _⟩, _⟩, _⟩ := h
  obtain rfl := Option.some.inj (Tryd.pow.symm.trans hg2)
  obtain rfl := Option.some.inj ((show (Tryd.prog.globals[0]?).map (·.type) = some 132 by kernel_rfl).symm.trans ht2)
  rw [powR_data] at hd2
  have hc := Lib.cells_of_tab Tryd.underlying132 Tryd.underlying100 (by kernel_rfl) (by kernel_rfl) hd2
  unfold World.var? at hv2
  rw [Tryd.pow] at hv2
  simp only [Option.bind_some] at hv2
  split at hv2
  · rename_i c el fr hb
    obtain rfl := Option.some.inj hv2
    refine ⟨el, fr, ?_⟩
    rw [hb]
    unfold powVals
    rw [← hc]
  · simp at hv2

theorem maxR_of_shape {W : World} (h : W.ShapedOpen Tryd.prog) : ∃ m el fr, W.heap[1]? = some (.cells m el fr) ∧ ∃ k, m[0]? = some (.int .i64 k) := by
  obtain ⟨k, hk⟩ := Tryd.laysM219.s1_3 W h
  replace hk : W.cell? ⟨1, 0, none⟩ = some (.int .i64 k) := hk
  unfold World.cell? at hk
  simp only at hk
  split at hk
  · rename_i c el fr hb
    exact ⟨c, el, fr, hb, k, hk⟩
  · simp at hk

/-- The world of a call fits the engine. -/
theorem startR_fixed {W : World} (hl : laidMetH Tryd.prog tabsR W) (hs : W.ShapedOpen Tryd.prog) : ∃ m : Array Value, (∃ k, m[0]? = some (.int .i64 k)) ∧ ∀ p, p ∈ (Rep.S m).fixed → Fixed (GE.start W) p := by
  obtain ⟨m, el, fr, hb, k, hk⟩ := maxR_of_shape hs
  obtain ⟨el0, fr0, hb0⟩ := powR_of_laid hl
  refine ⟨m, ⟨k, hk⟩, ?_⟩
  intro p hp
  have hp' : p = (0, powVals) ∨ p = (1, m) := by
    have : p ∈ [((0 : Nat), powVals), (1, m)] := hp
    simpa using this
  rcases hp' with rfl | rfl
  · refine ⟨⟨el0, fr0, hb0⟩, start_owned W _, 0, ?_⟩
    show (W.cell? ⟨0, 0, none⟩).isSome = true
    unfold World.cell?
    simp only
    rw [hb0]
    rfl
  · refine ⟨⟨el, fr, hb⟩, start_owned W _, 0, ?_⟩
    show (W.cell? ⟨1, 0, none⟩).isSome = true
    unfold World.cell?
    simp only
    rw [hb]
    simp only
    rw [hk]
    rfl

/-- A law that answers true, from the engine. -/
theorem rep_calls {m : Array Value} (hmx : ∃ k, m[0]? = some (.int .i64 k)) {f : FuncId} {args : List AV} {H' : AH} (h : callL (Rep.S m) f args ⟨[], []⟩ = some (.bool true, H')) {W : World} (hfx : ∀ p, p ∈ (Rep.S m).fixed → Fixed (GE.start W) p)
    {xs : Array Value} (hx : VRelL (GE.start W) args xs) : Calls Tryd.prog f xs W fun e W' => e = .returned (.bool true) ∧ Below W.heap.size W W' := by
  obtain ⟨n, hn⟩ := callL_fuel h
  exact calls_true (Rep.ok m 1) (Rep.extOK m 1) Tryd.mixed hn (fun n => .top _) hfx hx

/-- The wrap: tables laid, and the variables' shape. -/
theorem rep_wrap {H : Type} {enc : TypeId × Value → H} {os : Os} {f : FuncId} {fn : Func} {s : ChangeSpec} (started : os.Started) (noInit : Tryd.prog.inits.idxOf? f = none) (hfn : Tryd.prog.funcs[f]? = some fn)
    (witness : ∃ (w : World) (tape : Tape) (i : Input), w.os = os ∧ (w.forCall tape i).Shaped Tryd.prog ∧ i.vars = [] ∧ Input.okWide Tryd.prog (w.forCall tape i) .any w.heap.size f i ∧
      ((s.pre enc Tryd.prog fn [] false (w.forCall tape i).memory i.args ∧ laidMetH Tryd.prog tabsR (w.forCall tape i).memory) ∧ sizedMet enc Tryd.prog fn (OpenSpec.ofChange s) false (w.forCall tape i).memory i.args) ∧ ({} : Assume).holds Tryd.prog (lone (Frame.enter Tryd.prog f i.args .normal) [] (w.forCall tape i)))
    (contract : ∀ (W : World) (base : Nat) (args : Array Value) (ds gs : List (DataW H)) (before : List MemPlace),
      (∀ (j : Nat) t v, fn.params[j]? = some t → args[j]? = some v → Value.okWide Tryd.prog W .any base t v) →
      DataW.Whole enc Tryd.prog fn.params.toList s.vars false W args.toList ds gs before → laidMetH Tryd.prog tabsR W → W.ShapedOpen Tryd.prog →
      Calls Tryd.prog f args W fun e W' => ∃ v, e = .returned v ∧ s.post enc Tryd.prog fn false true false false W args v W') :
    ReturnsInHanded {} Tryd.checked os f .any (fun w args => (s.pre enc Tryd.prog fn [] false w args ∧ laidMetH Tryd.prog tabsR w) ∧ sizedMet enc Tryd.prog fn (OpenSpec.ofChange s) false w args) (s.post enc Tryd.prog fn false true false false) := by
  refine returnsInHanded_of_calls (C := Tryd.checked) Rep.own started noInit witness ?_
  intro w tape i _ hsh _ hok hpre _
  obtain ⟨_, _, _, fn', hfn', _, _, _, _, hval⟩ := hok
  have e : fn' = fn := Option.some.inj (hfn'.symm.trans hfn)
  subst e
  obtain ⟨⟨⟨ds, gs, before, hw, _⟩, hx⟩, _⟩ := hpre
  have hw' := DataW.Whole.of_heap (w' := w.forCall tape i) (by rfl) hw
  have hx' : laidMetH Tryd.prog tabsR (w.forCall tape i) := hx.of_heap (by rfl)
  refine (contract (w.forCall tape i) w.heap.size i.args ds gs before hval hw' hx' hsh).mono fun e W' ⟨v, he, hp⟩ => ?_
  subst he
  exact ChangeSpec.post_blind hp

end Go.Proofs.YtoagnbpmoihojaaDoor
