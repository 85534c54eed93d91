/- The agent's closed statements: what is told ahead of every system. -/
import Derived.Test.YtedhpikmkoemhaaGreatAgCrc2
import Derived.Test.YtedhpikmkoemhaaGreatAgShelf
import Derived.Test.YtedhpikmkoemhaaGreatEg
set_option maxRecDepth 100000
set_option linter.unusedSimpArgs false
set_option linter.unusedVariables false
namespace Go.Proofs.YtedhpikmkoemhaaGreat
open Go.Sx Go.RowKit
def methA (t : TypeId) (n : String) : Option FuncId := match decide (n = "sacristan/cmd.check") with
  | true => (match Nat.beq t 496, Nat.beq t 498, Nat.beq t 499 with
    | true, _, _ => some 439
    | _, true, _ => some 440
    | _, _, true => some 442
    | _, _, _ => none)
  | false => none
theorem meth_439 : methB Tryz.prog 496 "sacristan/cmd.check" 439 = true := by kernel_rfl
theorem meth_440 : methB Tryz.prog 498 "sacristan/cmd.check" 440 = true := by kernel_rfl
theorem meth_442 : methB Tryz.prog 499 "sacristan/cmd.check" 442 = true := by kernel_rfl
theorem methA_ok : ∀ t n f, methA t n = some f → methB Tryz.prog t n f = true := by
  intro t n f h
  unfold methA at h
  split at h
  · rename_i hn
    have hn := of_decide_eq_true hn
    subst hn
    split at h
    · rename_i ht
      obtain rfl := Nat.eq_of_beq_eq_true ht
      obtain rfl := Option.some.inj h
      exact meth_439
    · rename_i ht _
      obtain rfl := Nat.eq_of_beq_eq_true ht
      obtain rfl := Option.some.inj h
      exact meth_440
    · rename_i ht _ _
      obtain rfl := Nat.eq_of_beq_eq_true ht
      obtain rfl := Option.some.inj h
      exact meth_442
    · cases h
  · cases h
theorem Tryz.cok : SysOK Tryz.cC Tryz.prog := tab_ok Tryz.ctypes_ok Tryz.cfuncs_ok trivial
theorem Tryz.cext : ExtOK Tryz.cC Tryz.prog := ⟨(by intro f g h; cases h), (by intro f g h; cases h)⟩
theorem ext_callA {S S' : Go.Sx.Sys} {P : Program} (hS : SysOK S' P) (hext : ExtOK S' P) (hm : P.follows .mixedOrders = true) (hG : S'.G = S.G) (hx : S'.fixed = S.fixed) {f : FuncId} {ts : List AV} {v : AV} (h : callL S' f ts ⟨[], []⟩ = some (v, ⟨[], []⟩)) :
    ∀ E xs, Rel S ⟨[], []⟩ E → VRelL E ts xs → Calls P f xs E.w fun e w' => ∃ x E' H', e = .returned x ∧ E'.w = w' ∧ E.le E' ∧ HRel H' E' ∧ VRel E' v x := by
  intro E xs hr hv
  obtain ⟨n, hn⟩ := callL_fuel h
  obtain ⟨_, h2⟩ := (call_sound hS hext hm n).fn f ts ⟨[], []⟩ v ⟨[], []⟩ hn
  have hr' : Rel S' ⟨[], []⟩ E := ⟨hr.h, by rw [hG]; exact hr.g, by rw [hx]; exact hr.x⟩
  refine (h2 E xs hr' hv).mono ?_
  rintro e W' ⟨x, E', h3, h4, h5, h6, h7⟩
  exact ⟨x, E', ⟨[], []⟩, h3, h4, h5, h6.h, h7⟩
theorem repB_eq (l : List UInt8) : ∀ n, repB l n = Lib.repeatL l n
  | 0 => rfl
  | n + 1 => by
    show l ++ repB l n = l ++ Lib.repeatL l n
    rw [repB_eq l n]
theorem rep_ok {S : Go.Sx.Sys} {ts : List AV} {v : AV} (h : gRep ts = some v) {E : GE} {xs : Array Value} (hr : Rel S ⟨[], []⟩ E) (hx : VRelL E ts xs) :
    Calls Tryz.prog 244 xs E.w fun e w' => ∃ x E' H', e = .returned x ∧ E'.w = w' ∧ E.le E' ∧ HRel H' E' ∧ VRel E' v x := by
  unfold gRep at h
  split at h
  · rename_i l n
    split at h
    · rename_i hb
      simp only [Bool.and_eq_true] at hb
      have hn : n ≤ 4096 := Nat.le_of_ble_eq_true hb.1
      have hl : l.length = 1 := Nat.eq_of_beq_eq_true hb.2
      obtain rfl := Option.some.inj h
      obtain ⟨x, y, rfl, hx1, hx2⟩ := arr2 hx
      have := rel_str hx1
      subst this
      have := rel_int hx2
      subst this
      have hc := Tryz.strings_Repeat ⟨l.toArray⟩ n E.w (by omega) (by
        show l.toArray.size * n ≤ _
        simp [hl]; omega)
      refine hc.mono ?_
      rintro e w' ⟨rfl, hbel⟩
      obtain ⟨q1, q2⟩ := still_below hr.h hbel
      refine ⟨_, E.at _, _, rfl, rfl, q1, q2, ?_⟩
      have e : (Lib.repeatL (⟨l.toArray⟩ : ByteArray).data.toList n) = repB l n := by
        rw [repB_eq]
      rw [e]
      exact .str _
    · cases h
  · cases h
/-- What crc.Sum and strings.Repeat answer is the program's. -/
theorem extA_ok (hm : Tryz.prog.follows .mixedOrders = true) {S : Go.Sx.Sys} (hG : Tryz.cC.G = S.G) (hx0 : Tryz.cC.fixed = S.fixed) : ∀ f g, extA f = some g → (∃ fn, Tryz.prog.funcs[f]? = some fn ∧ fn.body.isSome = true ∧ fn.name ≠ "runtime.NumGoroutine") ∧ ∀ ts v, g ts = some v → ∀ E xs, Rel S ⟨[], []⟩ E → VRelL E ts xs → Calls Tryz.prog f xs E.w fun e w' => ∃ x E' H', e = .returned x ∧ E'.w = w' ∧ E.le E' ∧ HRel H' E' ∧ VRel E' v x := by
  intro f g h
  unfold extA at h
  split at h
  · rename_i hf
    obtain rfl := Nat.eq_of_beq_eq_true hf
    obtain rfl := Option.some.inj h
    refine ⟨⟨_, Tryz.func243, rfl, of_decide_eq_true (by kernel_rfl)⟩, fun ts v h => ?_⟩
    unfold gCrc at h
    split at h
    · rename_i l
      split at h
      · rename_i hb
        obtain rfl := Option.some.inj h
        exact ext_callA (S := S) Tryz.cok Tryz.cext hm hG hx0 (sum243 l (Nat.le_of_ble_eq_true hb) _)
      · cases h
    · cases h
  · rename_i hf _
    obtain rfl := Nat.eq_of_beq_eq_true hf
    obtain rfl := Option.some.inj h
    refine ⟨⟨_, Tryz.func244, rfl, of_decide_eq_true (by kernel_rfl)⟩, fun ts v h E xs hr hx => rep_ok h hr hx⟩
  · cases h
theorem Tryz.own : ownKnob Tryz.prog.godebug = none := by kernel_rfl
theorem Tryz.laidOut : laidOutB Tryz.prog = true := by kernel_rfl
end Go.Proofs.YtedhpikmkoemhaaGreat
