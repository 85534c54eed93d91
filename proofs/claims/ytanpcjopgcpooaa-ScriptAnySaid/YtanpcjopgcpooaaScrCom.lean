/- The text of a command: what is read, by definition. -/
import Derived.Test.YtanpcjopgcpooaaScrAns
import Derived.Test.YtanpcjopgcpooaaScrEnc
import Derived.Test.YtanpcjopgcpooaaScrRen
import Derived.Test.YtanpcjopgcpooaaScrCon
set_option maxRecDepth 100000
set_option linter.unusedSimpArgs false
set_option linter.unusedVariables false
namespace Go.Proofs.Ytanpcjopgcpooaa
open Go.Sx
def tN (a : Bool) (l w b m p : Int) : List Int := [if a then 1 else 0, l, w, b, m, p]
def sN (d cpu mem disk : Int) (ports : List Int) (tasks : List (List Int)) : List Int := [d, cpu, mem, disk, (ports.length : Int)] ++ ports ++ ((tasks.length : Int) :: tasks.flatten)
def bV (l : List UInt8) : UInt8 := UInt8.ofNat (takeV l 256).toNat
def conBytes (l : List UInt8) : List UInt8 := if takeV l 3 = 0 then [] else if takeV l 3 = 1 then [bV l.tail] else [bV l.tail, bV l.tail.tail]
def conBytesR (l : List UInt8) : List UInt8 := if takeV l 3 = 0 then l.tail else if takeV l 3 = 1 then l.tail.tail else l.tail.tail.tail
def taskN (l : List UInt8) : List Int := tN (takeV l 2 == 1) (1 + takeV l.tail 3) (1 + takeV l.tail.tail 10) (1 + takeV l.tail.tail.tail 3) (1 + takeV l.tail.tail.tail 3 + takeV l.tail.tail.tail.tail 4) (takeV l.tail.tail.tail.tail.tail 3)
def portN (l : List UInt8) : List Int := if takeV l 3 > 0 then [79 + takeV l 3] else []
def specN (l : List UInt8) : List Int := sN (takeV l 3) (1 + takeV l.tail 6) (1 + takeV l.tail.tail 6) (1 + takeV l.tail.tail.tail 6) (portN l.tail.tail.tail.tail) (if takeV (tail5 l) 2 = 0 then [taskN (tail5 l).tail] else [taskN (tail5 l).tail, taskN (tail6 (tail5 l).tail)])
def conV (l : List UInt8) : List UInt8 := if takeV l 5 = 4 then conBytes l.tail else if takeV l 5 = 2 then varsV [2, takeV l.tail 3, takeV l.tail.tail 3] else if takeV l 5 = 3 then varsV [3, takeV l.tail 3, takeV l.tail.tail 3] else varsV (1 :: takeV l.tail 3 :: specN l.tail.tail)
def conR (l : List UInt8) : List UInt8 := if takeV l 5 = 4 then conBytesR l.tail else if takeV l 5 = 2 then l.tail.tail.tail else if takeV l 5 = 3 then l.tail.tail.tail else specR l.tail.tail
noncomputable def h4 : HT := fun f => match Nat.beq f 53 || Nat.beq f 53 with
  | true => some (readH (mkC (fun l => .str (conV l)) conR))
  | false => h3 f
noncomputable abbrev cG (fuel n : Nat) : CallI := callI (TS h4) (fun _ => none) fuel n
end Go.Proofs.Ytanpcjopgcpooaa
set_option maxRecDepth 100000
set_option linter.unusedSimpArgs false
set_option linter.unusedVariables false
namespace Go.Proofs.Ytanpcjopgcpooaa
open Go.Sx
theorem varsV_app (a b : List Int) : varsV a ++ varsV b = varsV (a ++ b) := by simp [varsV]
theorem varsV_len : ∀ ns : List Int, (varsV ns).length ≤ 10 * ns.length
  | [] => by simp [varsV]
  | n :: ns => by
    have h1 := varsV_len ns
    have h2 := varV_len n.toNat
    simp only [varsV, List.flatMap_cons, List.length_append, List.length_cons] at h1 ⊢
    omega
abbrev N63 (n : Int) : Prop := 0 ≤ n ∧ n < 9223372036854775808
theorem putR_app0 (acc : List Int) (h : acc.length ≤ 900) : putR (varsV acc) .nils = some (varsV acc) := by
  rw [putR_of (ns := []) rfl rfl (by intro n hn; cases hn) (by simp) (by have := varsV_len acc; omega)]
  simp [varsV]
theorem putR_app1 (acc : List Int) (a : Int) (h : acc.length ≤ 900) (ha : N63 a) : putR (varsV acc) (.inl false .unk 1 [.int .i64 a]) = some (varsV (acc ++ [a])) := by
  rw [putR_of (ns := [a]) rfl rfl (by intro n hn; simp only [List.mem_cons, List.not_mem_nil, or_false] at hn; subst hn; exact ha) (by simp) (by have := varsV_len acc; omega), varsV_app]
theorem putR_app6 (acc : List Int) (a b c d e f : Int) (h : acc.length ≤ 900) (ha : N63 a) (hb : N63 b) (hc : N63 c) (hd : N63 d) (he : N63 e) (hf : N63 f) : putR (varsV acc) (.inl false .unk 1 [.int .i64 a, .int .i64 b, .int .i64 c, .int .i64 d, .int .i64 e, .int .i64 f]) = some (varsV (acc ++ [a, b, c, d, e, f])) := by
  rw [putR_of (ns := [a, b, c, d, e, f]) rfl rfl (by intro n hn; simp only [List.mem_cons, List.not_mem_nil, or_false] at hn; rcases hn with rfl | rfl | rfl | rfl | rfl | rfl <;> assumption) (by simp) (by have := varsV_len acc; omega), varsV_app]
theorem putR_first5 (a b c d e : Int) (ha : N63 a) (hb : N63 b) (hc : N63 c) (hd : N63 d) (he : N63 e) : putR [] (.inl false .unk 1 [.int .i64 a, .int .i64 b, .int .i64 c, .int .i64 d, .int .i64 e]) = some (varsV [a, b, c, d, e]) := by
  rw [putR_of (ns := [a, b, c, d, e]) rfl rfl (by intro n hn; simp only [List.mem_cons, List.not_mem_nil, or_false] at hn; rcases hn with rfl | rfl | rfl | rfl | rfl <;> assumption) (by simp) (by simp)]
  rfl
theorem ans_of {f : FuncId} {fn : Func} {args args' : List AV} {v v' : AV} {k n : Nat} (h2 : (TS h3).F f = some fn) (h3' : (TS h3).isPure f = true) (hx : Go.Sx.Sys.ext (TS h3) f = none) (hr : ∀ H, resolveL H args = some args') (h : runI (TS h3) (cE k n) k fn args' ⟨[], []⟩ ansR = some v) (hp : pureOut args v = some v') : Ans h3 f args v' := fun H => Caller.fn_res (callL_P tabCmd_ok (fuel := k) (n := n) (H := H) hx h2 h3' (hr H) h hp)
theorem ans_ofV {f : FuncId} {fn : Func} {args args' : List AV} {v v' : AV} {k n : Nat} (h2 : (TS h3).F f = some fn) (h3' : (TS h3).isPure f = true) (hx : Go.Sx.Sys.ext (TS h3) f = none) (hr : ∀ H, resolveL H args = some args') (h : runI (TS h3) (cV k n) k fn args' ⟨[], []⟩ ansR = some v) (hp : pureOut args v = some v') : Ans h3 f args v' := fun H => Caller.fn_res (callL_P (tabVar_ok h3) (fuel := k) (n := n) (H := H) hx h2 h3' (hr H) h hp)
theorem strOut (args : List AV) (b : List UInt8) : pureOut args (.tuple [.str b, .int .i64 0]) = some (.tuple [.str b, .int .i64 0]) := by
  unfold pureOut
  rw [if_pos]
  · rfl
  · simp [detok, detokL, Go.Sx.below, belowL, isNew, isNewL]
theorem boolOut (args : List AV) (b : Bool) : pureOut args (.bool b) = some (.bool b) := by
  unfold pureOut
  rw [if_pos]
  · rfl
  · simp [detok, Go.Sx.below, isNew]
theorem bz148 : Ans h3 148 [zeroSpec, zeroSpec] (.bool true) := ans_ofV (k := 4) (n := 6) (args := [zeroSpec, zeroSpec]) (args' := [zeroSpec, zeroSpec]) rfl rfl rfl (fun _ => rfl) (v := .bool true) (by kernel_rfl) (boolOut _ _)
theorem b148_01 {d cpu mem disk : Int} {a0 : Bool} {l0 w0 b0 m0 p0 : Int} : Ans h3 148 [.agg [.int .i64 d, .int .i64 cpu, .int .i64 mem, .int .i64 disk, .nils, .inl false .unk 6 [.agg [.bool a0, .int .i64 l0, .int .i64 w0, .int .i64 b0, .int .i64 m0, .int .i64 p0]]], zeroSpec] (.bool false) := by
  refine ans_ofV (k := 4) (n := 6) (args := [.agg [.int .i64 d, .int .i64 cpu, .int .i64 mem, .int .i64 disk, .nils, .inl false .unk 6 [.agg [.bool a0, .int .i64 l0, .int .i64 w0, .int .i64 b0, .int .i64 m0, .int .i64 p0]]], zeroSpec]) rfl rfl rfl (fun _ => rfl) (v := .bool false) ?_ (boolOut _ _)
  refine Eq.trans (eq148_01 0 ..) ?_
  simp only [br]
  repeat' split
  all_goals rfl
theorem en126_01 {d cpu mem disk : Int} {a0 : Bool} {l0 w0 b0 m0 p0 : Int} (hs : SpecOK d cpu mem disk) (t0 : TaskOK l0 w0 b0 m0 p0) : Ans h3 126 [.agg [.int .i64 d, .int .i64 cpu, .int .i64 mem, .int .i64 disk, .nils, .inl false .unk 6 [.agg [.bool a0, .int .i64 l0, .int .i64 w0, .int .i64 b0, .int .i64 m0, .int .i64 p0]]]] (.tuple [.str (varsV (sN d cpu mem disk [] [tN a0 l0 w0 b0 m0 p0])), .int .i64 0]) := by
  have s1 := hs.hd
  have s2 := hs.hc
  have s3 := hs.hm
  have s4 := hs.hk
  have l0' := t0.hl
  have w0' := t0.hw
  have b0' := t0.hb
  have m0' := t0.hm
  have p0' := t0.hp
  refine ans_of (k := 8) (n := 6) rfl rfl rfl (fun _ => rfl) (v := .tuple [.str (varsV (sN d cpu mem disk [] [tN a0 l0 w0 b0 m0 p0])), .int .i64 0]) ?_ (strOut _ _)
  refine Eq.trans (enc126_01 0 ..) ?_
  rw [ok149_01 hs t0]
  simp only [br, erase, eraseL, detokL, detok]
  rw [putR_first5 _ _ _ _ _ (by omega) (by omega) (by omega) (by omega) (by omega)]
  simp only []
  rw [putR_app0 _ (by simp)]
  simp only []
  rw [putR_app1 _ _ (by simp) (by omega)]
  simp only []
  cases a0
  all_goals
    simp only []
    rw [putR_app6 _ _ _ _ _ _ _ (by simp) (by omega) (by omega) (by omega) (by omega) (by omega) (by omega)]
    simp only []
    rfl
theorem c103_01 {e : Int} (he : 0 ≤ e ∧ e ≤ 2) {d cpu mem disk : Int} {a0 : Bool} {l0 w0 b0 m0 p0 : Int} (hs : SpecOK d cpu mem disk) (t0 : TaskOK l0 w0 b0 m0 p0) {args : List AV} (hr : ∀ H, resolveL H args = some [.agg ([.int .u8 1, .int .i64 e] ++ [.int .i64 d, .int .i64 cpu, .int .i64 mem, .int .i64 disk, .nils, .inl false .unk 6 [.agg [.bool a0, .int .i64 l0, .int .i64 w0, .int .i64 b0, .int .i64 m0, .int .i64 p0]]] ++ [.int .i64 0])]) : Ans h3 103 args (.tuple [.str (varsV (1 :: e :: (sN d cpu mem disk [] [tN a0 l0 w0 b0 m0 p0]))), .int .i64 0]) := by
  refine ans_of (k := 8) (n := 6) rfl rfl rfl hr (v := .tuple [.str (varsV (1 :: e :: (sN d cpu mem disk [] [tN a0 l0 w0 b0 m0 p0]))), .int .i64 0]) ?_ (strOut _ _)
  have he' : IntKind.u64.wrap e = e := wrap_u64 (by omega)
  have hv := varV_len e.toNat
  have hn := varsV_len (sN d cpu mem disk [] [tN a0 l0 w0 b0 m0 p0])
  have hl : (sN d cpu mem disk [] [tN a0 l0 w0 b0 m0 p0]).length ≤ 100 := by simp [sN, tN]
  refine Eq.trans (cmd103_01 ..) ?_
  have hb := ansB_of (b148_01 (d := d) (cpu := cpu) (mem := mem) (disk := disk) (a0 := a0) (l0 := l0) (w0 := w0) (b0 := b0) (m0 := m0) (p0 := p0))
  unfold zeroSpec at hb
  simp only [hb, ansT_of (en126_01 hs t0), ok149_01 hs t0, he', u64B_t (show 0 ≤ e ∧ e < 18446744073709551616 by omega)]
  rw [br_f (by omega), br_f (by omega)]
  simp only [br]
  rw [if_pos (by omega), if_pos (by simp only [List.length_append, List.length_cons, List.length_nil]; omega)]
  rfl
theorem b148_02 {d cpu mem disk : Int} {a0 : Bool} {l0 w0 b0 m0 p0 : Int} {a1 : Bool} {l1 w1 b1 m1 p1 : Int} : Ans h3 148 [.agg [.int .i64 d, .int .i64 cpu, .int .i64 mem, .int .i64 disk, .nils, .inl false .unk 6 [.agg [.bool a0, .int .i64 l0, .int .i64 w0, .int .i64 b0, .int .i64 m0, .int .i64 p0], .agg [.bool a1, .int .i64 l1, .int .i64 w1, .int .i64 b1, .int .i64 m1, .int .i64 p1]]], zeroSpec] (.bool false) := by
  refine ans_ofV (k := 4) (n := 6) (args := [.agg [.int .i64 d, .int .i64 cpu, .int .i64 mem, .int .i64 disk, .nils, .inl false .unk 6 [.agg [.bool a0, .int .i64 l0, .int .i64 w0, .int .i64 b0, .int .i64 m0, .int .i64 p0], .agg [.bool a1, .int .i64 l1, .int .i64 w1, .int .i64 b1, .int .i64 m1, .int .i64 p1]]], zeroSpec]) rfl rfl rfl (fun _ => rfl) (v := .bool false) ?_ (boolOut _ _)
  refine Eq.trans (eq148_02 0 ..) ?_
  simp only [br]
  repeat' split
  all_goals rfl
theorem en126_02 {d cpu mem disk : Int} {a0 : Bool} {l0 w0 b0 m0 p0 : Int} {a1 : Bool} {l1 w1 b1 m1 p1 : Int} (hs : SpecOK d cpu mem disk) (t0 : TaskOK l0 w0 b0 m0 p0) (t1 : TaskOK l1 w1 b1 m1 p1) : Ans h3 126 [.agg [.int .i64 d, .int .i64 cpu, .int .i64 mem, .int .i64 disk, .nils, .inl false .unk 6 [.agg [.bool a0, .int .i64 l0, .int .i64 w0, .int .i64 b0, .int .i64 m0, .int .i64 p0], .agg [.bool a1, .int .i64 l1, .int .i64 w1, .int .i64 b1, .int .i64 m1, .int .i64 p1]]]] (.tuple [.str (varsV (sN d cpu mem disk [] [tN a0 l0 w0 b0 m0 p0, tN a1 l1 w1 b1 m1 p1])), .int .i64 0]) := by
  have s1 := hs.hd
  have s2 := hs.hc
  have s3 := hs.hm
  have s4 := hs.hk
  have l0' := t0.hl
  have w0' := t0.hw
  have b0' := t0.hb
  have m0' := t0.hm
  have p0' := t0.hp
  have l1' := t1.hl
  have w1' := t1.hw
  have b1' := t1.hb
  have m1' := t1.hm
  have p1' := t1.hp
  refine ans_of (k := 8) (n := 6) rfl rfl rfl (fun _ => rfl) (v := .tuple [.str (varsV (sN d cpu mem disk [] [tN a0 l0 w0 b0 m0 p0, tN a1 l1 w1 b1 m1 p1])), .int .i64 0]) ?_ (strOut _ _)
  refine Eq.trans (enc126_02 0 ..) ?_
  rw [ok149_02 hs t0 t1]
  simp only [br, erase, eraseL, detokL, detok]
  rw [putR_first5 _ _ _ _ _ (by omega) (by omega) (by omega) (by omega) (by omega)]
  simp only []
  rw [putR_app0 _ (by simp)]
  simp only []
  rw [putR_app1 _ _ (by simp) (by omega)]
  simp only []
  cases a0
  all_goals
    simp only []
    rw [putR_app6 _ _ _ _ _ _ _ (by simp) (by omega) (by omega) (by omega) (by omega) (by omega) (by omega)]
    simp only []
    cases a1
    all_goals
      simp only []
      rw [putR_app6 _ _ _ _ _ _ _ (by simp) (by omega) (by omega) (by omega) (by omega) (by omega) (by omega)]
      simp only []
      rfl
theorem c103_02 {e : Int} (he : 0 ≤ e ∧ e ≤ 2) {d cpu mem disk : Int} {a0 : Bool} {l0 w0 b0 m0 p0 : Int} {a1 : Bool} {l1 w1 b1 m1 p1 : Int} (hs : SpecOK d cpu mem disk) (t0 : TaskOK l0 w0 b0 m0 p0) (t1 : TaskOK l1 w1 b1 m1 p1) {args : List AV} (hr : ∀ H, resolveL H args = some [.agg ([.int .u8 1, .int .i64 e] ++ [.int .i64 d, .int .i64 cpu, .int .i64 mem, .int .i64 disk, .nils, .inl false .unk 6 [.agg [.bool a0, .int .i64 l0, .int .i64 w0, .int .i64 b0, .int .i64 m0, .int .i64 p0], .agg [.bool a1, .int .i64 l1, .int .i64 w1, .int .i64 b1, .int .i64 m1, .int .i64 p1]]] ++ [.int .i64 0])]) : Ans h3 103 args (.tuple [.str (varsV (1 :: e :: (sN d cpu mem disk [] [tN a0 l0 w0 b0 m0 p0, tN a1 l1 w1 b1 m1 p1]))), .int .i64 0]) := by
  refine ans_of (k := 8) (n := 6) rfl rfl rfl hr (v := .tuple [.str (varsV (1 :: e :: (sN d cpu mem disk [] [tN a0 l0 w0 b0 m0 p0, tN a1 l1 w1 b1 m1 p1]))), .int .i64 0]) ?_ (strOut _ _)
  have he' : IntKind.u64.wrap e = e := wrap_u64 (by omega)
  have hv := varV_len e.toNat
  have hn := varsV_len (sN d cpu mem disk [] [tN a0 l0 w0 b0 m0 p0, tN a1 l1 w1 b1 m1 p1])
  have hl : (sN d cpu mem disk [] [tN a0 l0 w0 b0 m0 p0, tN a1 l1 w1 b1 m1 p1]).length ≤ 100 := by simp [sN, tN]
  refine Eq.trans (cmd103_02 ..) ?_
  have hb := ansB_of (b148_02 (d := d) (cpu := cpu) (mem := mem) (disk := disk) (a0 := a0) (l0 := l0) (w0 := w0) (b0 := b0) (m0 := m0) (p0 := p0) (a1 := a1) (l1 := l1) (w1 := w1) (b1 := b1) (m1 := m1) (p1 := p1))
  unfold zeroSpec at hb
  simp only [hb, ansT_of (en126_02 hs t0 t1), ok149_02 hs t0 t1, he', u64B_t (show 0 ≤ e ∧ e < 18446744073709551616 by omega)]
  rw [br_f (by omega), br_f (by omega)]
  simp only [br]
  rw [if_pos (by omega), if_pos (by simp only [List.length_append, List.length_cons, List.length_nil]; omega)]
  rfl
theorem b148_11 {d cpu mem disk q : Int} {a0 : Bool} {l0 w0 b0 m0 p0 : Int} : Ans h3 148 [.agg [.int .i64 d, .int .i64 cpu, .int .i64 mem, .int .i64 disk, .inl false .unk 1 [.int .i64 q], .inl false .unk 6 [.agg [.bool a0, .int .i64 l0, .int .i64 w0, .int .i64 b0, .int .i64 m0, .int .i64 p0]]], zeroSpec] (.bool false) := by
  refine ans_ofV (k := 4) (n := 6) (args := [.agg [.int .i64 d, .int .i64 cpu, .int .i64 mem, .int .i64 disk, .inl false .unk 1 [.int .i64 q], .inl false .unk 6 [.agg [.bool a0, .int .i64 l0, .int .i64 w0, .int .i64 b0, .int .i64 m0, .int .i64 p0]]], zeroSpec]) rfl rfl rfl (fun _ => rfl) (v := .bool false) ?_ (boolOut _ _)
  refine Eq.trans (eq148_11 0 ..) ?_
  simp only [br]
  repeat' split
  all_goals rfl
theorem en126_11 {d cpu mem disk q : Int} {a0 : Bool} {l0 w0 b0 m0 p0 : Int} (hs : SpecOK d cpu mem disk) (hq : PortOK q) (t0 : TaskOK l0 w0 b0 m0 p0) : Ans h3 126 [.agg [.int .i64 d, .int .i64 cpu, .int .i64 mem, .int .i64 disk, .inl false .unk 1 [.int .i64 q], .inl false .unk 6 [.agg [.bool a0, .int .i64 l0, .int .i64 w0, .int .i64 b0, .int .i64 m0, .int .i64 p0]]]] (.tuple [.str (varsV (sN d cpu mem disk [q] [tN a0 l0 w0 b0 m0 p0])), .int .i64 0]) := by
  have s1 := hs.hd
  have s2 := hs.hc
  have s3 := hs.hm
  have s4 := hs.hk
  have s5 := hq
  unfold PortOK at s5
  have l0' := t0.hl
  have w0' := t0.hw
  have b0' := t0.hb
  have m0' := t0.hm
  have p0' := t0.hp
  refine ans_of (k := 8) (n := 6) rfl rfl rfl (fun _ => rfl) (v := .tuple [.str (varsV (sN d cpu mem disk [q] [tN a0 l0 w0 b0 m0 p0])), .int .i64 0]) ?_ (strOut _ _)
  refine Eq.trans (enc126_11 0 ..) ?_
  rw [ok149_11 hs hq t0]
  simp only [br, erase, eraseL, detokL, detok]
  rw [putR_first5 _ _ _ _ _ (by omega) (by omega) (by omega) (by omega) (by omega)]
  simp only []
  rw [putR_app1 _ _ (by simp) (by omega)]
  simp only []
  rw [putR_app1 _ _ (by simp) (by omega)]
  simp only []
  cases a0
  all_goals
    simp only []
    rw [putR_app6 _ _ _ _ _ _ _ (by simp) (by omega) (by omega) (by omega) (by omega) (by omega) (by omega)]
    simp only []
    rfl
theorem c103_11 {e : Int} (he : 0 ≤ e ∧ e ≤ 2) {d cpu mem disk q : Int} {a0 : Bool} {l0 w0 b0 m0 p0 : Int} (hs : SpecOK d cpu mem disk) (hq : PortOK q) (t0 : TaskOK l0 w0 b0 m0 p0) {args : List AV} (hr : ∀ H, resolveL H args = some [.agg ([.int .u8 1, .int .i64 e] ++ [.int .i64 d, .int .i64 cpu, .int .i64 mem, .int .i64 disk, .inl false .unk 1 [.int .i64 q], .inl false .unk 6 [.agg [.bool a0, .int .i64 l0, .int .i64 w0, .int .i64 b0, .int .i64 m0, .int .i64 p0]]] ++ [.int .i64 0])]) : Ans h3 103 args (.tuple [.str (varsV (1 :: e :: (sN d cpu mem disk [q] [tN a0 l0 w0 b0 m0 p0]))), .int .i64 0]) := by
  refine ans_of (k := 8) (n := 6) rfl rfl rfl hr (v := .tuple [.str (varsV (1 :: e :: (sN d cpu mem disk [q] [tN a0 l0 w0 b0 m0 p0]))), .int .i64 0]) ?_ (strOut _ _)
  have he' : IntKind.u64.wrap e = e := wrap_u64 (by omega)
  have hv := varV_len e.toNat
  have hn := varsV_len (sN d cpu mem disk [q] [tN a0 l0 w0 b0 m0 p0])
  have hl : (sN d cpu mem disk [q] [tN a0 l0 w0 b0 m0 p0]).length ≤ 100 := by simp [sN, tN]
  refine Eq.trans (cmd103_11 ..) ?_
  have hb := ansB_of (b148_11 (d := d) (cpu := cpu) (mem := mem) (disk := disk) (q := q) (a0 := a0) (l0 := l0) (w0 := w0) (b0 := b0) (m0 := m0) (p0 := p0))
  unfold zeroSpec at hb
  simp only [hb, ansT_of (en126_11 hs hq t0), ok149_11 hs hq t0, he', u64B_t (show 0 ≤ e ∧ e < 18446744073709551616 by omega)]
  rw [br_f (by omega), br_f (by omega)]
  simp only [br]
  rw [if_pos (by omega), if_pos (by simp only [List.length_append, List.length_cons, List.length_nil]; omega)]
  rfl
theorem b148_12 {d cpu mem disk q : Int} {a0 : Bool} {l0 w0 b0 m0 p0 : Int} {a1 : Bool} {l1 w1 b1 m1 p1 : Int} : Ans h3 148 [.agg [.int .i64 d, .int .i64 cpu, .int .i64 mem, .int .i64 disk, .inl false .unk 1 [.int .i64 q], .inl false .unk 6 [.agg [.bool a0, .int .i64 l0, .int .i64 w0, .int .i64 b0, .int .i64 m0, .int .i64 p0], .agg [.bool a1, .int .i64 l1, .int .i64 w1, .int .i64 b1, .int .i64 m1, .int .i64 p1]]], zeroSpec] (.bool false) := by
  refine ans_ofV (k := 4) (n := 6) (args := [.agg [.int .i64 d, .int .i64 cpu, .int .i64 mem, .int .i64 disk, .inl false .unk 1 [.int .i64 q], .inl false .unk 6 [.agg [.bool a0, .int .i64 l0, .int .i64 w0, .int .i64 b0, .int .i64 m0, .int .i64 p0], .agg [.bool a1, .int .i64 l1, .int .i64 w1, .int .i64 b1, .int .i64 m1, .int .i64 p1]]], zeroSpec]) rfl rfl rfl (fun _ => rfl) (v := .bool false) ?_ (boolOut _ _)
  refine Eq.trans (eq148_12 0 ..) ?_
  simp only [br]
  repeat' split
  all_goals rfl
theorem en126_12 {d cpu mem disk q : Int} {a0 : Bool} {l0 w0 b0 m0 p0 : Int} {a1 : Bool} {l1 w1 b1 m1 p1 : Int} (hs : SpecOK d cpu mem disk) (hq : PortOK q) (t0 : TaskOK l0 w0 b0 m0 p0) (t1 : TaskOK l1 w1 b1 m1 p1) : Ans h3 126 [.agg [.int .i64 d, .int .i64 cpu, .int .i64 mem, .int .i64 disk, .inl false .unk 1 [.int .i64 q], .inl false .unk 6 [.agg [.bool a0, .int .i64 l0, .int .i64 w0, .int .i64 b0, .int .i64 m0, .int .i64 p0], .agg [.bool a1, .int .i64 l1, .int .i64 w1, .int .i64 b1, .int .i64 m1, .int .i64 p1]]]] (.tuple [.str (varsV (sN d cpu mem disk [q] [tN a0 l0 w0 b0 m0 p0, tN a1 l1 w1 b1 m1 p1])), .int .i64 0]) := by
  have s1 := hs.hd
  have s2 := hs.hc
  have s3 := hs.hm
  have s4 := hs.hk
  have s5 := hq
  unfold PortOK at s5
  have l0' := t0.hl
  have w0' := t0.hw
  have b0' := t0.hb
  have m0' := t0.hm
  have p0' := t0.hp
  have l1' := t1.hl
  have w1' := t1.hw
  have b1' := t1.hb
  have m1' := t1.hm
  have p1' := t1.hp
  refine ans_of (k := 8) (n := 6) rfl rfl rfl (fun _ => rfl) (v := .tuple [.str (varsV (sN d cpu mem disk [q] [tN a0 l0 w0 b0 m0 p0, tN a1 l1 w1 b1 m1 p1])), .int .i64 0]) ?_ (strOut _ _)
  refine Eq.trans (enc126_12 0 ..) ?_
  rw [ok149_12 hs hq t0 t1]
  simp only [br, erase, eraseL, detokL, detok]
  rw [putR_first5 _ _ _ _ _ (by omega) (by omega) (by omega) (by omega) (by omega)]
  simp only []
  rw [putR_app1 _ _ (by simp) (by omega)]
  simp only []
  rw [putR_app1 _ _ (by simp) (by omega)]
  simp only []
  cases a0
  all_goals
    simp only []
    rw [putR_app6 _ _ _ _ _ _ _ (by simp) (by omega) (by omega) (by omega) (by omega) (by omega) (by omega)]
    simp only []
    cases a1
    all_goals
      simp only []
      rw [putR_app6 _ _ _ _ _ _ _ (by simp) (by omega) (by omega) (by omega) (by omega) (by omega) (by omega)]
      simp only []
      rfl
theorem c103_12 {e : Int} (he : 0 ≤ e ∧ e ≤ 2) {d cpu mem disk q : Int} {a0 : Bool} {l0 w0 b0 m0 p0 : Int} {a1 : Bool} {l1 w1 b1 m1 p1 : Int} (hs : SpecOK d cpu mem disk) (hq : PortOK q) (t0 : TaskOK l0 w0 b0 m0 p0) (t1 : TaskOK l1 w1 b1 m1 p1) {args : List AV} (hr : ∀ H, resolveL H args = some [.agg ([.int .u8 1, .int .i64 e] ++ [.int .i64 d, .int .i64 cpu, .int .i64 mem, .int .i64 disk, .inl false .unk 1 [.int .i64 q], .inl false .unk 6 [.agg [.bool a0, .int .i64 l0, .int .i64 w0, .int .i64 b0, .int .i64 m0, .int .i64 p0], .agg [.bool a1, .int .i64 l1, .int .i64 w1, .int .i64 b1, .int .i64 m1, .int .i64 p1]]] ++ [.int .i64 0])]) : Ans h3 103 args (.tuple [.str (varsV (1 :: e :: (sN d cpu mem disk [q] [tN a0 l0 w0 b0 m0 p0, tN a1 l1 w1 b1 m1 p1]))), .int .i64 0]) := by
  refine ans_of (k := 8) (n := 6) rfl rfl rfl hr (v := .tuple [.str (varsV (1 :: e :: (sN d cpu mem disk [q] [tN a0 l0 w0 b0 m0 p0, tN a1 l1 w1 b1 m1 p1]))), .int .i64 0]) ?_ (strOut _ _)
  have he' : IntKind.u64.wrap e = e := wrap_u64 (by omega)
  have hv := varV_len e.toNat
  have hn := varsV_len (sN d cpu mem disk [q] [tN a0 l0 w0 b0 m0 p0, tN a1 l1 w1 b1 m1 p1])
  have hl : (sN d cpu mem disk [q] [tN a0 l0 w0 b0 m0 p0, tN a1 l1 w1 b1 m1 p1]).length ≤ 100 := by simp [sN, tN]
  refine Eq.trans (cmd103_12 ..) ?_
  have hb := ansB_of (b148_12 (d := d) (cpu := cpu) (mem := mem) (disk := disk) (q := q) (a0 := a0) (l0 := l0) (w0 := w0) (b0 := b0) (m0 := m0) (p0 := p0) (a1 := a1) (l1 := l1) (w1 := w1) (b1 := b1) (m1 := m1) (p1 := p1))
  unfold zeroSpec at hb
  simp only [hb, ansT_of (en126_12 hs hq t0 t1), ok149_12 hs hq t0 t1, he', u64B_t (show 0 ≤ e ∧ e < 18446744073709551616 by omega)]
  rw [br_f (by omega), br_f (by omega)]
  simp only [br]
  rw [if_pos (by omega), if_pos (by simp only [List.length_append, List.length_cons, List.length_nil]; omega)]
  rfl
theorem c103_k2 {e d : Int} (he : 0 ≤ e ∧ e ≤ 2) (hd : 0 ≤ d ∧ d ≤ 2) : Ans h3 103 [.agg [.int .u8 2, .int .i64 e, .int .i64 0, .int .i64 0, .int .i64 0, .int .i64 0, .nils, .nils, .int .i64 d]] (.tuple [.str (varsV [2, e, d]), .int .i64 0]) := by
  refine ans_of (k := 8) (n := 6) rfl rfl rfl (fun _ => rfl) (v := .tuple [.str (varsV [2, e, d]), .int .i64 0]) ?_ (strOut _ _)
  have he' : IntKind.u64.wrap e = e := wrap_u64 (by omega)
  have hd' : IntKind.u64.wrap d = d := wrap_u64 (by omega)
  have hv := varV_len e.toNat
  have hw := varV_len d.toNat
  have hb := ansB_of bz148
  unfold zeroSpec at hb
  refine Eq.trans (cmd103_k2 ..) ?_
  simp only [hb, he', hd', u64B_t (show 0 ≤ e ∧ e < 18446744073709551616 by omega), u64B_t (show 0 ≤ d ∧ d < 18446744073709551616 by omega), Bool.not_true]
  simp only [br]
  rw [decide_eq_false (by omega : ¬ e < 0), decide_eq_false (by omega : ¬ e > 1099511627776), decide_eq_false (by omega : ¬ d < 0), decide_eq_false (by omega : ¬ d > 2147483648)]
  simp only []
  rw [if_pos (by omega), if_pos (by simp only [List.length_append, List.length_cons, List.length_nil]; omega)]
  simp [varsV]
  rfl
theorem c103_k3 {e d : Int} (he : 0 ≤ e ∧ e ≤ 2) (hd : 0 ≤ d ∧ d ≤ 2) : Ans h3 103 [.agg [.int .u8 3, .int .i64 e, .int .i64 0, .int .i64 0, .int .i64 0, .int .i64 0, .nils, .nils, .int .i64 d]] (.tuple [.str (varsV [3, e, d]), .int .i64 0]) := by
  refine ans_of (k := 8) (n := 6) rfl rfl rfl (fun _ => rfl) (v := .tuple [.str (varsV [3, e, d]), .int .i64 0]) ?_ (strOut _ _)
  have he' : IntKind.u64.wrap e = e := wrap_u64 (by omega)
  have hd' : IntKind.u64.wrap d = d := wrap_u64 (by omega)
  have hv := varV_len e.toNat
  have hw := varV_len d.toNat
  have hb := ansB_of bz148
  unfold zeroSpec at hb
  refine Eq.trans (cmd103_k3 ..) ?_
  simp only [hb, he', hd', u64B_t (show 0 ≤ e ∧ e < 18446744073709551616 by omega), u64B_t (show 0 ≤ d ∧ d < 18446744073709551616 by omega), Bool.not_true]
  simp only [br]
  rw [decide_eq_false (by omega : ¬ e < 0), decide_eq_false (by omega : ¬ e > 1099511627776), decide_eq_false (by omega : ¬ d < 0), decide_eq_false (by omega : ¬ d > 2147483648)]
  simp only []
  rw [if_pos (by omega), if_pos (by simp only [List.length_append, List.length_cons, List.length_nil]; omega)]
  simp [varsV]
  rfl
end Go.Proofs.Ytanpcjopgcpooaa
set_option maxRecDepth 100000
set_option linter.unusedSimpArgs false
set_option linter.unusedVariables false
namespace Go.Proofs.Ytanpcjopgcpooaa
open Go.Sx
theorem task_in (x : List UInt8) : TaskOK (1 + takeV x.tail 3) (1 + takeV x.tail.tail 10) (1 + takeV x.tail.tail.tail 3) (1 + takeV x.tail.tail.tail 3 + takeV x.tail.tail.tail.tail 4) (takeV x.tail.tail.tail.tail.tail 3) := by
  have h1 := takeV_in x.tail 3 (by omega)
  have h2 := takeV_in x.tail.tail 10 (by omega)
  have h3 := takeV_in x.tail.tail.tail 3 (by omega)
  have h4 := takeV_in x.tail.tail.tail.tail 4 (by omega)
  have h5 := takeV_in x.tail.tail.tail.tail.tail 3 (by omega)
  exact ⟨by omega, by omega, by omega, by omega, by omega⟩
theorem spec_in (m : List UInt8) : SpecOK (takeV m 3) (1 + takeV m.tail 6) (1 + takeV m.tail.tail 6) (1 + takeV m.tail.tail.tail 6) := by
  have h1 := takeV_in m 3 (by omega)
  have h2 := takeV_in m.tail 6 (by omega)
  have h3 := takeV_in m.tail.tail 6 (by omega)
  have h4 := takeV_in m.tail.tail.tail 6 (by omega)
  exact ⟨by omega, by omega, by omega, by omega⟩
theorem place103 (e : Int) (he : 0 ≤ e ∧ e ≤ 2) (m : List UInt8) : Ans h3 103 [.agg [.int .u8 1, .int .i64 e, .int .i64 (takeV m 3), .int .i64 (1 + takeV m.tail 6), .int .i64 (1 + takeV m.tail.tail 6), .int .i64 (1 + takeV m.tail.tail.tail 6), specPorts m.tail.tail.tail.tail, .inl true .unk 6 (specTasks (tail5 m)), .int .i64 0]] (.tuple [.str (varsV (1 :: e :: specN m)), .int .i64 0]) := by
  have hs := spec_in m
  have t0 := task_in (tail5 m).tail
  have t1 := task_in (tail6 (tail5 m).tail)
  have hq := takeV_in m.tail.tail.tail.tail 3 (by omega)
  unfold specPorts specTasks specN portN
  rcases cases2 (takeV_in (tail5 m) 2 (by omega)) with h | h
  all_goals
    by_cases hp : takeV m.tail.tail.tail.tail 3 > 0
    all_goals simp only [h, hp, if_true, if_false, Int.reduceEq]
  · exact c103_11 he hs (show PortOK _ by unfold PortOK; omega) t0 (fun _ => rfl)
  · exact c103_01 he hs t0 (fun _ => rfl)
  · exact c103_12 he hs (show PortOK _ by unfold PortOK; omega) t0 t1 (fun _ => rfl)
  · exact c103_02 he hs t0 t1 (fun _ => rfl)
theorem b_wrap (l : List UInt8) : UInt8.ofNat (IntKind.u8.wrap (takeV l 256)).toNat = bV l := by
  have h := takeV_in l 256 (by omega)
  rw [IntWalk.u8_in _ (by omega)]
  rfl
theorem cases5 {x : Int} (h : 0 ≤ x ∧ x < 5) : x = 0 ∨ x = 1 ∨ x = 2 ∨ x = 3 ∨ x = 4 := by omega
theorem cases3 {x : Int} (h : 0 ≤ x ∧ x < 3) : x = 0 ∨ x = 1 ∨ x = 2 := by omega
theorem con53_go (l : List UInt8) : ∃ os tk, runI (TS h3) (cE 4 3) 4 Try.f53 [.ptr 0 0] (rdH l) some = some (.val (.str (conV l)) ⟨.cells [.str (conR l)] :: os, tk⟩) := by
  have e := takeV_in l.tail 3 (by omega)
  have d := takeV_in l.tail.tail 3 (by omega)
  rw [con53]
  rcases cases5 (takeV_in l 5 (by omega)) with h | h | h | h | h
  · simp only [h, conV, conR, ansT_of (place103 (takeV l.tail 3) (by omega) l.tail.tail), br, Int.reduceEq, Int.reduceBEq, if_false]
    exact ⟨_, _, rfl⟩
  · simp only [h, conV, conR, ansT_of (place103 (takeV l.tail 3) (by omega) l.tail.tail), br, Int.reduceEq, Int.reduceBEq, if_false]
    exact ⟨_, _, rfl⟩
  · simp only [h, conV, conR, ansT_of (c103_k2 (e := takeV l.tail 3) (d := takeV l.tail.tail 3) (by omega) (by omega)), br, Int.reduceEq, Int.reduceBEq, if_false, if_true]
    exact ⟨_, _, rfl⟩
  · simp only [h, conV, conR, ansT_of (c103_k3 (e := takeV l.tail 3) (d := takeV l.tail.tail 3) (by omega) (by omega)), br, Int.reduceEq, Int.reduceBEq, if_false, if_true]
    exact ⟨_, _, rfl⟩
  · simp only [h, conV, conR, conBytes, conBytesR, b_wrap, br, Int.reduceEq, Int.reduceBEq, if_false, if_true]
    rcases cases3 e with h1 | h1 | h1
    all_goals
      simp only [h1, Int.reduceLT, Int.reduceEq, decide_true, decide_false, if_true, if_false]
      exact ⟨_, _, rfl⟩
theorem con53_call (l : List UInt8) : RdOK (TS h3) 53 l [] (.str (conV l)) (conR l) := by
  obtain ⟨os, tk, e⟩ := con53_go l
  exact callL_rd tabCmd_ok (fuel := 4) (n := 3) rfl rfl rfl rfl e rfl rfl rfl
theorem h3.all {h : HT} : ∀ f g, h3 f = some g → ∀ args H v H', g args H = some (v, H') → ∀ E xs, Rel (TS h) H E → VRelL E args xs → Calls Try.prog f xs E.w fun e w' => ∃ x E', e = .returned x ∧ E'.w = w' ∧ E.le E' ∧ HRel H' E' ∧ VRel E' v x := by
  intro f g hg args H v H' hv E xs hr hx
  exact h3.ext.obj f g hg args H v H' hv E xs ⟨hr.h, hr.g, hr.x⟩ hx
theorem h4.ext : ExtOK (TS h4) Try.prog := TS.ext (by
  intro f g h
  unfold h4 at h
  split at h
  · rename_i hf
    obtain rfl := Option.some.inj h
    rcases or_beq hf with rfl | rfl
    · exact mkC_reads h3.ext con53_call
    · exact mkC_reads h3.ext con53_call
  · exact h3.all f g h)
end Go.Proofs.Ytanpcjopgcpooaa
