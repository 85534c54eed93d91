/- Numbers written as bytes: both write the same. -/
import Derived.Test.YtanpcjopgcpooaaScrVar
import Derived.IntWalk
import Derived.Test.YtanpcjopgcpooaaEg
import Derived.Test.YtanpcjopgcpooaaEh
set_option maxRecDepth 100000
set_option linter.unusedSimpArgs false
set_option linter.unusedVariables false
namespace Go.Proofs.Ytanpcjopgcpooaa
open Go.Sx
def widthN : Nat → Nat → Nat
  | 0, _ => 1
  | f + 1, n => if n < 256 then 1 else widthN f (n / 256) + 1
def bytesN : Nat → Nat → List UInt8 → List UInt8
  | 0, _, acc => acc
  | w + 1, n, acc => bytesN w (n / 256) (UInt8.ofNat (n % 256) :: acc)
def varV (n : Nat) : List UInt8 := if n < 248 then [UInt8.ofNat n] else UInt8.ofNat (247 + widthN 8 n) :: bytesN (widthN 8 n) n []
theorem br_t {R : Type} {c : Prop} [Decidable c] (h : c) (f g : Unit → Option R) : br (decide c) f g = f () := by rw [decide_eq_true h]; rfl
theorem br_f {R : Type} {c : Prop} [Decidable c] (h : ¬ c) (f g : Unit → Option R) : br (decide c) f g = g () := by rw [decide_eq_false h]; rfl
theorem fdiv256 (n : Nat) : ((n : Int).fdiv 256) = ((n / 256 : Nat) : Int) := by
  rw [Int.fdiv_eq_ediv_of_nonneg _ (by omega)]; omega
theorem u8w (n : Nat) : (IntKind.u8.wrap (n : Int)).toNat = n % 256 := by rw [IntKind.wrap_u8]; omega
theorem width_of {n : Nat} : ∀ {f : Nat}, widthN f n = match f with | 0 => 1 | f + 1 => if n < 256 then 1 else widthN f (n / 256) + 1
  | 0 => rfl
  | f + 1 => rfl
theorem var_run (n : Nat) (h : n < 18446744073709551616) : runI WS (wC 9) 9 Try.f59 [.int .u64 n] ⟨[], []⟩ ansR = some (.str (varV n)) := by
  rw [var_form]
  simp only [fdiv256, u8w]
  by_cases h0 : n < 248
  · rw [br_t (by omega)]
    simp only [ansR, varV, h0, if_true, Option.some.injEq, AV.str.injEq]
    rw [Nat.mod_eq_of_lt (by omega)]
  · rw [br_f (by omega), br_t (by omega)]
    simp only [varV, h0, if_false]
    by_cases h1 : n < 256
    · rw [br_f (by omega)]
      simp [ansR, widthN, bytesN, h1]
    rw [br_t (by omega)]
    by_cases h2 : n / 256 < 256
    · rw [br_f (by omega)]
      simp [ansR, widthN, bytesN, h1, h2]
    rw [br_t (by omega)]
    by_cases h3 : n / 256 / 256 < 256
    · rw [br_f (by omega)]
      simp only [ansR, widthN, bytesN, h1, h2, h3, if_true, if_false]
    rw [br_t (by omega)]
    by_cases h4 : n / 256 / 256 / 256 < 256
    · rw [br_f (by omega)]
      simp only [ansR, widthN, bytesN, h1, h2, h3, h4, if_true, if_false]
    rw [br_t (by omega)]
    by_cases h5 : n / 256 / 256 / 256 / 256 < 256
    · rw [br_f (by omega)]
      simp only [ansR, widthN, bytesN, h1, h2, h3, h4, h5, if_true, if_false]
    rw [br_t (by omega)]
    by_cases h6 : n / 256 / 256 / 256 / 256 / 256 < 256
    · rw [br_f (by omega)]
      simp only [ansR, widthN, bytesN, h1, h2, h3, h4, h5, h6, if_true, if_false]
    rw [br_t (by omega)]
    by_cases h7 : n / 256 / 256 / 256 / 256 / 256 / 256 < 256
    · rw [br_f (by omega)]
      simp only [ansR, widthN, bytesN, h1, h2, h3, h4, h5, h6, h7, if_true, if_false]
    rw [br_t (by omega), br_f (by omega)]
    have h8 : n / 256 / 256 / 256 / 256 / 256 / 256 / 256 < 256 := by omega
    simp only [ansR, widthN, bytesN, h1, h2, h3, h4, h5, h6, h7, h8, if_true, if_false]
end Go.Proofs.Ytanpcjopgcpooaa
set_option maxRecDepth 100000
set_option linter.unusedSimpArgs false
set_option linter.unusedVariables false
namespace Go.Proofs.Ytanpcjopgcpooaa
open Go.Sx
def extVar (ts : List AV) : Option AV := match ts with
  | [.int .u64 (.ofNat n)] => match Nat.blt n 18446744073709551616 with
    | true => some (.str (varV n))
    | false => none
  | _ => none
def extScr (f : FuncId) : Option (List AV → Option AV) := match Nat.beq f 59, false with
  | true, _ => some extVar
  | _, true => some extVar
  | _, _ => none
def methScr (t : TypeId) (n : String) : Option FuncId := if n = "sacristan/cmd.check" then (match t with
  | 195 => some 197
  | 198 => some 198
  | 199 => some 200
  | _ => none) else none
theorem noTab_ok {S : Go.Sx.Sys} : TabOK S (fun _ => none) := by
  intro f g hg
  simp at hg
theorem var_call (n : Nat) (h : n < 18446744073709551616) : callL WS 59 [.int .u64 n] ⟨[], []⟩ = some (.str (varV n), ⟨[], []⟩) :=
  callL_P (fuel := 9) (n := 4) noTab_ok rfl rfl rfl rfl (var_run n h) (by rfl)
theorem VS.ext : ExtOK VS Try.prog := ⟨(by intro f g h; cases h), (by intro f g h; cases h)⟩
theorem WS.ext : ExtOK WS Try.prog := ⟨(by intro f g h; cases h), (by intro f g h; cases h)⟩
theorem ext_call {S S' : Go.Sx.Sys} {P : Program} (hS : SysOK S' P) (hext : ExtOK S' P) (hm : P.follows .mixedOrders = true) (hG : S'.G = S.G) (hx : S'.fixed = S.fixed) {f : FuncId} {ts : List AV} {v : AV} (h : callL S' f ts ⟨[], []⟩ = some (v, ⟨[], []⟩)) :
    ∀ E xs, Rel S ⟨[], []⟩ E → VRelL E ts xs → Calls P f xs E.w fun e w' => ∃ x E' H', e = .returned x ∧ E'.w = w' ∧ E.le E' ∧ HRel H' E' ∧ VRel E' v x := by
  intro E xs hr hv
  obtain ⟨n, hn⟩ := callL_fuel h
  obtain ⟨_, h2⟩ := (call_sound hS hext hm n).fn f ts ⟨[], []⟩ v ⟨[], []⟩ hn
  have hr' : Rel S' ⟨[], []⟩ E := ⟨hr.h, by rw [hG]; exact hr.g, by rw [hx]; exact hr.x⟩
  refine (h2 E xs hr' hv).mono ?_
  rintro e W' ⟨x, E', h3, h4, h5, h6, h7⟩
  exact ⟨x, E', ⟨[], []⟩, h3, h4, h5, h6.h, h7⟩
theorem extVar_inv {ts : List AV} {v : AV} (h : extVar ts = some v) : ∃ n : Nat, n < 18446744073709551616 ∧ ts = [.int .u64 n] ∧ v = .str (varV n) := by
  unfold extVar at h
  split at h
  · rename_i n
    split at h
    · rename_i hb
      obtain rfl := Option.some.inj h
      exact ⟨n, Nat.le_of_ble_eq_true hb, rfl, rfl⟩
    · simp at h
  · simp at h
theorem extVar_of (n : Nat) (hn : n < 18446744073709551616) : extVar [.int .u64 (n : Int)] = some (.str (varV n)) := by
  have h : Nat.blt n 18446744073709551616 = true := Nat.ble_eq_true_of_le hn
  show (match Nat.blt n 18446744073709551616 with | true => some (AV.str (varV n)) | false => none) = _
  rw [h]
noncomputable def Scr.S (room : Nat := 1) : Go.Sx.Sys := { tabS Try.types_ Try.funcs_ .nil Try.pure_ .nil extScr room with meth := methScr }
theorem meth_197 : methB Try.prog 195 "sacristan/cmd.check" 197 = true := by kernel_rfl
theorem meth_198 : methB Try.prog 198 "sacristan/cmd.check" 198 = true := by kernel_rfl
theorem meth_199 : methB Try.prog 199 "sacristan/cmd.check" 200 = true := by kernel_rfl
theorem Scr.tab (room : Nat) : SysOK (tabS Try.types_ Try.funcs_ .nil Try.pure_ .nil extScr room) Try.prog := tab_ok Try.types_ok Try.funcs_ok trivial
theorem Scr.ok (room : Nat) : SysOK (Scr.S room) Try.prog := withMeth (Scr.tab room) (by
  intro t n f h
  unfold methScr at h
  split at h
  · rename_i hn
    subst hn
    split at h
    · obtain rfl := Option.some.inj h; exact meth_197
    · obtain rfl := Option.some.inj h; exact meth_198
    · obtain rfl := Option.some.inj h; exact meth_199
    · cases h
  · cases h)
theorem ext_scr {room : Nat} {S' : Go.Sx.Sys} (hS : SysOK S' Try.prog) (hext : ExtOK S' Try.prog) (hG : S'.G = (Scr.S room).G) (hx : S'.fixed = (Scr.S room).fixed) {f : FuncId} {ts : List AV} {v : AV} (h : callL S' f ts ⟨[], []⟩ = some (v, ⟨[], []⟩)) :
    ∀ E xs, Rel (Scr.S room) ⟨[], []⟩ E → VRelL E ts xs → Calls Try.prog f xs E.w fun e w' => ∃ x E' H', e = .returned x ∧ E'.w = w' ∧ E.le E' ∧ HRel H' E' ∧ VRel E' v x := ext_call hS hext Try.mixed hG hx h
theorem Scr.ext (room : Nat) : ExtOK (Scr.S room) Try.prog := by
  refine ⟨?_, fun f g h => by cases h⟩
  intro f g h
  replace h : extScr f = some g := h
  unfold extScr at h
  split at h
  · rename_i hf
    obtain rfl := Nat.eq_of_beq_eq_true hf
    obtain rfl := Option.some.inj h
    refine ⟨⟨_, Try.func59, rfl, of_decide_eq_true (by kernel_rfl)⟩, fun ts v h => ?_⟩
    obtain ⟨n, hn, rfl, rfl⟩ := extVar_inv h
    exact ext_scr WS.ok WS.ext rfl rfl (var_call n hn)
  · rename_i hf _
    cases hf
  · simp at h
end Go.Proofs.Ytanpcjopgcpooaa
