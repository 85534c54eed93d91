/- The reference's numbers put onto a text. -/
import Derived.Test.YtanpcjopgcpooaaScrAns
set_option maxRecDepth 100000
set_option linter.unusedSimpArgs false
set_option linter.unusedVariables false
namespace Go.Proofs.Ytanpcjopgcpooaa
open Go.Sx
noncomputable def renB : Code := subC (bodyOf Try.f130) [1, 1, 1, 1, 0, 1, 0, 0]
theorem ren_pre {R : Type} (fuel k : Nat) (a0 a1 a2 a3 a4 a5 : AV) (K : Res → Option R) : runI (TS h3) (cE fuel 3) k Try.f130 [.agg [a0, a1, a2, a3, a4, a5]] ⟨[], []⟩ K = br (okB 152 [.agg [a0, a1, a2, a3, a4, a5]]) (fun _ => (match ansV h3 155 [.agg [a0, a1, a2, a3, a4, a5]] with | some u1 => loopC (TS h3) (cE fuel 3) k renB k [.agg [a0, a1, a2, a3, a4, a5], .ptr 0 0, .str [], .int .i64 0, .int .i64 0, .str [], u1, .int .i64 0, .agg [a0, a1, a2, a3, a4, a5], .int .i64 0, .int .i64 0, .bool false, .top, .agg [a0, a1, a2, a3, a4, a5], u1, .top, .top, .top, .top, .top, .top, .top, .top, .top, .top, .top, .top, .top, .top, .top] ⟨[.cells [a0, a1, a2, a3, a4, a5]], []⟩ (kontI (TS h3) (cE fuel 3) k (bodyOf Try.f130) [1, 1, 1, 1, 0, 1, 0] (endI (TS h3) Try.f130 K)) | none => none)) (fun _ => none) := by kernel_rfl
theorem ren_step {R : Type} (fuel k : Nat) (H : AH) (s : List UInt8) (x : AV) (i : Int) (x0 x1 x2 x3 x4 x8 x9 x10 x11 x12 x13 x14 x15 x16 x17 x18 x19 x20 x21 x22 x23 x24 x25 x26 x27 x28 x29 : AV) (K : Ex → List AV → AH → Option R) : loopC (TS h3) (cE fuel 3) fuel renB (k + 1) [x0, x1, x2, x3, x4, .str s, x, .int .i64 i, x8, x9, x10, x11, x12, x13, x14, x15, x16, x17, x18, x19, x20, x21, x22, x23, x24, x25, x26, x27, x28, x29] H K = br (AV.listN 1 x) (fun _ => br (decide (i < (↑x.listOf.length : Int))) (fun _ => br (AV.listN 1 x && (decide ((0 : Int) ≤ i) && decide (i < (↑x.listOf.length : Int)))) (fun _ => (match x.listOf[i.toNat]? with | some u3 => br (fitS (.int .i64) u3) (fun _ => br (u64B (IntKind.u64.wrap u3.numOf)) (fun _ => (if s.length + (varV (IntKind.u64.wrap u3.numOf).toNat).length ≤ 9223372036854775807 then loopC (TS h3) (cE fuel 3) fuel renB k [rv x0, rv x1, rv x2, rv x3, rv x4, .str (s ++ varV (IntKind.u64.wrap u3.numOf).toNat), resetV x x, .int .i64 (IntKind.i64.wrap (i + (1 : Int))), rv x8, rv x9, rv x10, rv x11, rv x12, rv x13, rv x14, resetV x15 (.int .i64 i), resetV x16 x, resetV x17 (.int .i64 (↑x.listOf.length : Int)), resetV x18 (.bool (decide (i < (↑x.listOf.length : Int)))), resetV x19 (.int .i64 i), resetV x20 (.int .i64 (IntKind.i64.wrap (i + (1 : Int)))), resetV x21 (.str s), resetV x22 x, resetV x23 (.int .i64 i), resetV x24 (AV.int .i64 u3.numOf).rop, resetV x25 (.int .i64 u3.numOf), resetV x26 (.int .u64 (IntKind.u64.wrap u3.numOf)), resetV x27 (.str (varV (IntKind.u64.wrap u3.numOf).toNat)), resetV x28 (.str (s ++ varV (IntKind.u64.wrap u3.numOf).toNat)), rv x29] H K else none)) (fun _ => none)) (fun _ => none) | none => none)) (fun _ => none)) (fun _ => K (.exit 0) [rv x0, rv x1, rv x2, rv x3, rv x4, .str s, resetV x x, .int .i64 i, rv x8, rv x9, rv x10, rv x11, rv x12, rv x13, rv x14, resetV x15 (.int .i64 i), resetV x16 x, resetV x17 (.int .i64 (↑x.listOf.length : Int)), resetV x18 (.bool (decide (i < (↑x.listOf.length : Int)))), rv x19, rv x20, rv x21, rv x22, rv x23, rv x24, rv x25, rv x26, rv x27, rv x28, rv x29] H)) (fun _ => none) := by kernel_rfl
theorem ren_end {R : Type} (fuel k : Nat) (H : AH) (s : List UInt8) (x : AV) (i : Int) (x0 x1 x2 x3 x4 x8 x9 x10 x11 x12 x13 x14 x15 x16 x17 x18 x19 x20 x21 x22 x23 x24 x25 x26 x27 x28 x29 : AV) (K : Res → Option R) : kontI (TS h3) (cE fuel 3) k (bodyOf Try.f130) [1, 1, 1, 1, 0, 1, 0] (endI (TS h3) Try.f130 K) (.exit 0) [x0, x1, x2, x3, x4, .str s, x, .int .i64 i, x8, x9, x10, x11, x12, x13, x14, x15, x16, x17, x18, x19, x20, x21, x22, x23, x24, x25, x26, x27, x28, x29] H = K (Res.val (.tuple [.str s, .int .i64 0]) H) := by kernel_rfl
theorem ren_loop {R : Type} (fuel : Nat) (H : AH) (x : AV) (ns : List Int) (hx : AV.listN 1 x = true) (hl : x.listOf = intsV ns) (hns : NatL ns) (hlen : ns.length ≤ 1000) (K : Ex → List AV → AH → Option R) (Q : R → Prop) :
    ∀ (m k p : Nat) (s : List UInt8), m < k → p + m = ns.length → s.length + 10 * m ≤ 1000000 →
    (∀ (x0 x1 x2 x3 x4 x8 x9 x10 x11 x12 x13 x14 x15 x16 x17 x18 x19 x20 x21 x22 x23 x24 x25 x26 x27 x28 x29 : AV), ∃ r, K (.exit 0) [x0, x1, x2, x3, x4, .str (s ++ varsV (ns.drop p)), x, .int .i64 (ns.length : Nat), x8, x9, x10, x11, x12, x13, x14, x15, x16, x17, x18, x19, x20, x21, x22, x23, x24, x25, x26, x27, x28, x29] H = some r ∧ Q r) →
    ∀ (x0 x1 x2 x3 x4 x8 x9 x10 x11 x12 x13 x14 x15 x16 x17 x18 x19 x20 x21 x22 x23 x24 x25 x26 x27 x28 x29 : AV), ∃ r, loopC (TS h3) (cE fuel 3) fuel renB k [x0, x1, x2, x3, x4, .str s, x, .int .i64 (p : Nat), x8, x9, x10, x11, x12, x13, x14, x15, x16, x17, x18, x19, x20, x21, x22, x23, x24, x25, x26, x27, x28, x29] H K = some r ∧ Q r := by
  intro m
  induction m with
  | zero =>
    intro k p s hk hp hb hK x0 x1 x2 x3 x4 x8 x9 x10 x11 x12 x13 x14 x15 x16 x17 x18 x19 x20 x21 x22 x23 x24 x25 x26 x27 x28 x29
    obtain ⟨k, rfl⟩ : ∃ j, k = j + 1 := ⟨k - 1, by omega⟩
    have e : p = ns.length := by omega
    subst e
    have hil : (intsV ns).length = ns.length := by simp [intsV]
    rw [ren_step, hx, hl, hil]
    simp only [br]
    rw [decide_eq_false (by omega)]
    simp only [resetV_self, rv_self]
    rw [List.drop_length] at hK
    simp only [varsV, List.flatMap_nil, List.append_nil] at hK
    exact hK _ _ _ _ _ _ _ _ _ _ _ _ _ _ _ _ _ _ _ _ _ _ _ _ _ _ _
  | succ m ih =>
    intro k p s hk hp hb hK x0 x1 x2 x3 x4 x8 x9 x10 x11 x12 x13 x14 x15 x16 x17 x18 x19 x20 x21 x22 x23 x24 x25 x26 x27 x28 x29
    obtain ⟨k, rfl⟩ : ∃ j, k = j + 1 := ⟨k - 1, by omega⟩
    have hlt : p < ns.length := by omega
    have hget : (intsV ns)[p]? = some (.int .i64 ns[p]) := by simp [intsV, hlt]
    have hn := hns ns[p] (List.getElem_mem hlt)
    have hv := varV_len (ns[p]).toNat
    have hil : (intsV ns).length = ns.length := by simp [intsV]
    rw [ren_step, hx, hl, hil, Bool.true_and, decide_eq_true (by omega : (0 : Int) ≤ (p : Nat)), decide_eq_true (by omega : ((p : Nat) : Int) < (ns.length : Nat))]
    simp only [Bool.and_true, br, Int.toNat_natCast, hget, fitS, AV.numOf, decide_true, wrap_u64 hn, u64B_t (show 0 ≤ ns[p] ∧ ns[p] < 18446744073709551616 by omega), resetV_self, rv_self]
    rw [if_pos (by omega), IntWalk.i64_in _ (by omega)]
    have e : varsV (ns.drop p) = varV (ns[p]).toNat ++ varsV (ns.drop (p + 1)) := by
      rw [List.drop_eq_getElem_cons hlt]
      simp only [varsV, List.flatMap_cons]
    have := ih k (p + 1) (s ++ varV (ns[p]).toNat) (by omega) (by omega) (by simp; omega) (by
      intro x0 x1 x2 x3 x4 x8 x9 x10 x11 x12 x13 x14 x15 x16 x17 x18 x19 x20 x21 x22 x23 x24 x25 x26 x27 x28 x29
      rw [List.append_assoc, ← e]
      exact hK _ _ _ _ _ _ _ _ _ _ _ _ _ _ _ _ _ _ _ _ _ _ _ _ _ _ _)
    exact this _ _ _ _ _ _ _ _ _ _ _ _ _ _ _ _ _ _ _ _ _ _ _ _ _ _ _
theorem ren_goA (a0 a1 a2 a3 a4 a5 x : AV) (ns : List Int) (hc : okB 152 [.agg [a0, a1, a2, a3, a4, a5]] = true) (ha : ansV h3 155 [.agg [a0, a1, a2, a3, a4, a5]] = some x) (hx : AV.listN 1 x = true) (hl : x.listOf = intsV ns) (hns : NatL ns) (hlen : ns.length ≤ 1000) :
    runI (TS h3) (cE (ns.length + 1) 3) (ns.length + 1) Try.f130 [.agg [a0, a1, a2, a3, a4, a5]] ⟨[], []⟩ ansR = some (.tuple [.str (varsV ns), .int .i64 0]) := by
  rw [ren_pre, hc, ha]
  simp only [br]
  obtain ⟨r, h1, h2⟩ := ren_loop (ns.length + 1) ⟨[.cells [a0, a1, a2, a3, a4, a5]], []⟩ x ns hx hl hns hlen (kontI (TS h3) (cE (ns.length + 1) 3) (ns.length + 1) (bodyOf Try.f130) [1, 1, 1, 1, 0, 1, 0] (endI (TS h3) Try.f130 ansR)) (fun r => r = .tuple [.str (varsV ns), .int .i64 0]) ns.length (ns.length + 1) 0 [] (by omega) (by omega) (by simp; omega) (by
    intro x0 x1 x2 x3 x4 x8 x9 x10 x11 x12 x13 x14 x15 x16 x17 x18 x19 x20 x21 x22 x23 x24 x25 x26 x27 x28 x29
    rw [ren_end]
    exact ⟨_, rfl, by simp⟩) (.agg [a0, a1, a2, a3, a4, a5]) (.ptr 0 0) (.str []) (.int .i64 0) (.int .i64 0) (.agg [a0, a1, a2, a3, a4, a5]) (.int .i64 0) (.int .i64 0) (.bool false) .top (.agg [a0, a1, a2, a3, a4, a5]) x .top .top .top .top .top .top .top .top .top .top .top .top .top .top .top
  rw [← h2]
  exact h1
end Go.Proofs.Ytanpcjopgcpooaa
