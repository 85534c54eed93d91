/- The calls of Apply that CrashExamples makes, told ahead. -/
import Derived.Test.YtanpcjopgcpooaaGreatCraTab
import Derived.Test.YtanpcjopgcpooaaGreatEh
set_option maxRecDepth 100000
namespace Go.Proofs.YtanpcjopgcpooaaGreat
open Go.Sx
noncomputable def Tryz.aS : Go.Sx.Sys := tabS Tryz.atypes_ Tryz.afuncs_ .nil Tryz.apure_ Tryz.aobjs_ (fun _ => none) 100000
def iV (n : Int) : AV := .int .i64 n
def uV (n : Int) : AV := .int .u8 n
def cfgV : AV := .agg [iV 10, iV 10, iV 10, iV 2, iV 48, iV 2, iV 2, iV 5, iV 10, iV 2, iV 3]
def st0V : AV := .agg [iV 0, iV 1, iV 1, iV (-1), .nils]
def tskV : AV := .agg [.bool false, iV 2, iV 20, iV 2, iV 8, iV 0]
def plcV : AV := .agg [uV 1, iV 1, iV 7, iV 4, iV 4, iV 4, .inl false .unk 1 [iV 80], .inl false .unk 6 [tskV], iV 0, iV 0, iV 0, iV 0, iV 0, iV 0, iV 0]
def stepV : AV := .agg [uV 0, iV 0, iV 0, iV 0, iV 0, iV 0, iV 0, .nils]
def st1V : AV := .agg [iV 1, iV 1, iV 2, iV (-1), .inl false .unk 10 [.agg [iV 7, iV 4, iV 4, iV 4, .inl false .unk 1 [iV 80], .inl false .unk 6 [tskV], iV 1, iV 0, .bool false, .inl false .unk 8 [stepV]]]]
/-- What is handed back: new memory. -/
def newV : AV := .tuple [.agg [iV 1, iV 1, iV 2, iV (-1), .inl true .unk 10 [.agg [iV 7, iV 4, iV 4, iV 4, .inl true .unk 1 [iV 80], .inl true .unk 6 [tskV], iV 1, iV 0, .bool false, .inl true .zero 8 [stepV]]]], iV 0]
def badV : AV := .tuple [.agg [iV 0, iV 0, iV 0, iV 0, .nils], iV 8]
def g53 (ts : List AV) : Option AV := match eqAL ts [cfgV, st0V, plcV] with
  | true => some newV
  | false => none
def g100 (ts : List AV) : Option AV := match eqAL ts [cfgV, st0V, plcV] with
  | true => some newV
  | false => (match eqAL ts [cfgV, st1V, plcV] with
    | true => some badV
    | false => none)
def extCr (f : FuncId) : Option (List AV → Option AV) := match Nat.beq f 53, Nat.beq f 100 with
  | true, _ => some g53
  | _, true => some g100
  | _, _ => none
noncomputable def Tryz.cS : Go.Sx.Sys := tabS Tryz.atypes_ Tryz.afuncs_ .nil Tryz.apure_ Tryz.aobjs_ extCr 100000
def tellsV (o : OutV) (v : AV) : Bool := match o with
  | some p => eqA p.1 v
  | none => false
theorem tells_v {S : Go.Sx.Sys} {n : Nat} {f : FuncId} {args : List AV} {H : AH} {v : AV} (h : tellsV (callE S n f args H) v = true) : ∃ H', callF S n f args H = some (v, H') := by
  unfold tellsV at h
  split at h
  · rename_i p hc
    obtain ⟨u, H'⟩ := p
    have e : u = v := eqA_eq h
    subst e
    exact ⟨H', (callE_le n).fn _ _ _ _ hc⟩
  · cases h
theorem run53 : tellsV (callE Tryz.aS 60 53 [cfgV, st0V, plcV] ⟨[], []⟩) newV = true := by kernel_rfl
theorem run100 : tellsV (callE Tryz.aS 60 100 [cfgV, st0V, plcV] ⟨[], []⟩) newV = true := by kernel_rfl
theorem run100b : tellsV (callE Tryz.aS 60 100 [cfgV, st1V, plcV] ⟨[], []⟩) badV = true := by kernel_rfl
end Go.Proofs.YtanpcjopgcpooaaGreat
