/- ScriptReads: the law. -/
import Derived.Test.YtanpcjopgcpooaaScrEv
import Derived.Test.YtanpcjopgcpooaaScrRead
set_option maxRecDepth 100000
set_option linter.unusedSimpArgs false
set_option linter.unusedVariables false
namespace Go.Proofs.Ytanpcjopgcpooaa
open Go.Sx
theorem law3 {R : Type} (l : List UInt8) (K : Res → Option R) : runI (TS h5) (cL 2 3) 2 Try.f3 [.str l] ⟨[], []⟩ K = br (decide ((↑l.length : Int) ≤ (9000 : Int))) (fun _ => (if ((0 : Int) ≤ if false = true then if (1000 : Int) > (↑l.length : Int) then (1000 : Int) else (↑l.length : Int) else if (1000 : Int) < (↑l.length : Int) then (1000 : Int) else (↑l.length : Int)) ∧ (if false = true then if (1000 : Int) > (↑l.length : Int) then (1000 : Int) else (↑l.length : Int) else if (1000 : Int) < (↑l.length : Int) then (1000 : Int) else (↑l.length : Int)) ≤ (↑l.length : Int) then (if ((0 : Int) ≤ if false = true then if (10000 : Int) > (↑(List.take ((if false = true then if (1000 : Int) > (↑l.length : Int) then (1000 : Int) else (↑l.length : Int) else if (1000 : Int) < (↑l.length : Int) then (1000 : Int) else (↑l.length : Int)).toNat - 0) l).length : Int) then (10000 : Int) else (↑(List.take ((if false = true then if (1000 : Int) > (↑l.length : Int) then (1000 : Int) else (↑l.length : Int) else if (1000 : Int) < (↑l.length : Int) then (1000 : Int) else (↑l.length : Int)).toNat - 0) l).length : Int) else if (10000 : Int) < (↑(List.take ((if false = true then if (1000 : Int) > (↑l.length : Int) then (1000 : Int) else (↑l.length : Int) else if (1000 : Int) < (↑l.length : Int) then (1000 : Int) else (↑l.length : Int)).toNat - 0) l).length : Int) then (10000 : Int) else (↑(List.take ((if false = true then if (1000 : Int) > (↑l.length : Int) then (1000 : Int) else (↑l.length : Int) else if (1000 : Int) < (↑l.length : Int) then (1000 : Int) else (↑l.length : Int)).toNat - 0) l).length : Int)) ∧ (if false = true then if (10000 : Int) > (↑(List.take ((if false = true then if (1000 : Int) > (↑l.length : Int) then (1000 : Int) else (↑l.length : Int) else if (1000 : Int) < (↑l.length : Int) then (1000 : Int) else (↑l.length : Int)).toNat - 0) l).length : Int) then (10000 : Int) else (↑(List.take ((if false = true then if (1000 : Int) > (↑l.length : Int) then (1000 : Int) else (↑l.length : Int) else if (1000 : Int) < (↑l.length : Int) then (1000 : Int) else (↑l.length : Int)).toNat - 0) l).length : Int) else if (10000 : Int) < (↑(List.take ((if false = true then if (1000 : Int) > (↑l.length : Int) then (1000 : Int) else (↑l.length : Int) else if (1000 : Int) < (↑l.length : Int) then (1000 : Int) else (↑l.length : Int)).toNat - 0) l).length : Int) then (10000 : Int) else (↑(List.take ((if false = true then if (1000 : Int) > (↑l.length : Int) then (1000 : Int) else (↑l.length : Int) else if (1000 : Int) < (↑l.length : Int) then (1000 : Int) else (↑l.length : Int)).toNat - 0) l).length : Int)) ≤ (↑(List.take ((if false = true then if (1000 : Int) > (↑l.length : Int) then (1000 : Int) else (↑l.length : Int) else if (1000 : Int) < (↑l.length : Int) then (1000 : Int) else (↑l.length : Int)).toNat - 0) l).length : Int) then (match ansV h5 9 [.str (List.take ((if false = true then if (10000 : Int) > (↑(List.take ((if false = true then if (1000 : Int) > (↑l.length : Int) then (1000 : Int) else (↑l.length : Int) else if (1000 : Int) < (↑l.length : Int) then (1000 : Int) else (↑l.length : Int)).toNat - 0) l).length : Int) then (10000 : Int) else (↑(List.take ((if false = true then if (1000 : Int) > (↑l.length : Int) then (1000 : Int) else (↑l.length : Int) else if (1000 : Int) < (↑l.length : Int) then (1000 : Int) else (↑l.length : Int)).toNat - 0) l).length : Int) else if (10000 : Int) < (↑(List.take ((if false = true then if (1000 : Int) > (↑l.length : Int) then (1000 : Int) else (↑l.length : Int) else if (1000 : Int) < (↑l.length : Int) then (1000 : Int) else (↑l.length : Int)).toNat - 0) l).length : Int) then (10000 : Int) else (↑(List.take ((if false = true then if (1000 : Int) > (↑l.length : Int) then (1000 : Int) else (↑l.length : Int) else if (1000 : Int) < (↑l.length : Int) then (1000 : Int) else (↑l.length : Int)).toNat - 0) l).length : Int)).toNat - 0) (List.drop 0 (List.take ((if false = true then if (1000 : Int) > (↑l.length : Int) then (1000 : Int) else (↑l.length : Int) else if (1000 : Int) < (↑l.length : Int) then (1000 : Int) else (↑l.length : Int)).toNat - 0) l)))] with | some u3 => (match ansV h5 10 [.str (List.take ((if false = true then if (10000 : Int) > (↑(List.take ((if false = true then if (1000 : Int) > (↑l.length : Int) then (1000 : Int) else (↑l.length : Int) else if (1000 : Int) < (↑l.length : Int) then (1000 : Int) else (↑l.length : Int)).toNat - 0) l).length : Int) then (10000 : Int) else (↑(List.take ((if false = true then if (1000 : Int) > (↑l.length : Int) then (1000 : Int) else (↑l.length : Int) else if (1000 : Int) < (↑l.length : Int) then (1000 : Int) else (↑l.length : Int)).toNat - 0) l).length : Int) else if (10000 : Int) < (↑(List.take ((if false = true then if (1000 : Int) > (↑l.length : Int) then (1000 : Int) else (↑l.length : Int) else if (1000 : Int) < (↑l.length : Int) then (1000 : Int) else (↑l.length : Int)).toNat - 0) l).length : Int) then (10000 : Int) else (↑(List.take ((if false = true then if (1000 : Int) > (↑l.length : Int) then (1000 : Int) else (↑l.length : Int) else if (1000 : Int) < (↑l.length : Int) then (1000 : Int) else (↑l.length : Int)).toNat - 0) l).length : Int)).toNat - 0) (List.drop 0 (List.take ((if false = true then if (1000 : Int) > (↑l.length : Int) then (1000 : Int) else (↑l.length : Int) else if (1000 : Int) < (↑l.length : Int) then (1000 : Int) else (↑l.length : Int)).toNat - 0) l)))] with | some u4 => (match ansB h5 8 [u3, u4] with | some u5 => br (u5) (fun _ => K (Res.val (.bool true) ⟨[], []⟩)) (fun _ => K (Res.val (.bool false) ⟨[], []⟩)) | none => none) | none => none) | none => none) else none) else none)) (fun _ => (if ((0 : Int) ≤ if false = true then if (10000 : Int) > (↑l.length : Int) then (10000 : Int) else (↑l.length : Int) else if (10000 : Int) < (↑l.length : Int) then (10000 : Int) else (↑l.length : Int)) ∧ (if false = true then if (10000 : Int) > (↑l.length : Int) then (10000 : Int) else (↑l.length : Int) else if (10000 : Int) < (↑l.length : Int) then (10000 : Int) else (↑l.length : Int)) ≤ (↑l.length : Int) then (match ansV h5 9 [.str (List.take ((if false = true then if (10000 : Int) > (↑l.length : Int) then (10000 : Int) else (↑l.length : Int) else if (10000 : Int) < (↑l.length : Int) then (10000 : Int) else (↑l.length : Int)).toNat - 0) l)] with | some u2 => (match ansV h5 10 [.str (List.take ((if false = true then if (10000 : Int) > (↑l.length : Int) then (10000 : Int) else (↑l.length : Int) else if (10000 : Int) < (↑l.length : Int) then (10000 : Int) else (↑l.length : Int)).toNat - 0) l)] with | some u3 => (match ansB h5 8 [u2, u3] with | some u4 => br (u4) (fun _ => K (Res.val (.bool true) ⟨[], []⟩)) (fun _ => K (Res.val (.bool false) ⟨[], []⟩)) | none => none) | none => none) | none => none) else none)) := by kernel_rfl
theorem es8 (c0 c1 c2 c3 c4 c5 c6 c7 c8 c9 c10 : Int) (x : AV) : runI (TS h5) (cL 2 3) 2 Try.f8 [.agg [.int .i64 c0, .int .i64 c1, .int .i64 c2, .int .i64 c3, .int .i64 c4, .int .i64 c5, .int .i64 c6, .int .i64 c7, .int .i64 c8, .int .i64 c9, .int .i64 c10, x], .agg [.int .i64 c0, .int .i64 c1, .int .i64 c2, .int .i64 c3, .int .i64 c4, .int .i64 c5, .int .i64 c6, .int .i64 c7, .int .i64 c8, .int .i64 c9, .int .i64 c10, x]] ⟨[], []⟩ ansR = br (c0 == c0 && (c1 == c1 && (c2 == c2 && true)) && (c3 == c3 && (c4 == c4 && (c5 == c5 && (c6 == c6 && (c7 == c7 && (c8 == c8 && (c9 == c9 && (c10 == c10 && true))))))))) (fun _ => (match ansB h5 17 [x, x] with | some u1 => some (.bool u1) | none => none)) (fun _ => some (.bool false)) := by kernel_rfl
end Go.Proofs.Ytanpcjopgcpooaa
set_option maxRecDepth 100000
set_option linter.unusedSimpArgs false
set_option linter.unusedVariables false
namespace Go.Proofs.Ytanpcjopgcpooaa
open Go.Sx
theorem evs_plain : ∀ es : List Ev, detokL (evsV es) = evsV es ∧ eraseL (evsV es) = evsV es ∧ belowL 0 0 (evsV es) = true ∧ isNewL (evsV es) = true
  | [] => ⟨rfl, rfl, rfl, rfl⟩
  | e :: es => by
    obtain ⟨h1, h2, h3, h4⟩ := evs_plain es
    have e1 : evsV (e :: es) = e.av :: evsV es := rfl
    refine ⟨?_, ?_, ?_, ?_⟩
    · rw [e1]; show e.av :: detokL (evsV es) = _; rw [h1]
    · rw [e1]; show e.av :: eraseL (evsV es) = _; rw [h2]
    · rw [e1]; show (true && belowL 0 0 (evsV es)) = true; rw [h3]; rfl
    · rw [e1]; show (true && isNewL (evsV es)) = true; rw [h4]; rfl
def evlV (l : List UInt8) : AV := match rdE l with | [] => .nils | e :: es => .inl true .unk 13 (evsV (e :: es))
def evlE (l : List UInt8) : AV := match rdE l with | [] => .nils | e :: es => .inl false .unk 13 (evsV (e :: es))
def scrV (l : List UInt8) : AV := .agg (cfgV l ++ [evlV l])
def scrE (l : List UInt8) : AV := .agg (cfgV l ++ [evlE l])
theorem rdQ_out {l : List UInt8} {r : AV} (h : RdQ l r) (args : List AV) : pureOut args r = some (scrV l) := by
  obtain ⟨v, rfl, h⟩ := h
  unfold scrV evlV
  rcases h with ⟨rfl, h⟩ | ⟨g, rfl, h⟩
  · rw [h]
    unfold pureOut
    rw [if_pos]
    · rfl
    · simp [cfgV, detok, detokL, Go.Sx.below, belowL, isNew, isNewL]
  · cases he : rdE l with
    | nil => exact absurd he h
    | cons e es =>
      obtain ⟨h1, h2, h3, h4⟩ := evs_plain (e :: es)
      unfold pureOut
      rw [if_pos]
      · simp [cfgV, detok, detokL, Spare.detok, h1]
      · simp [cfgV, detok, detokL, Spare.detok, h1, h3, h4, Go.Sx.below, belowL, isNew, isNewL]
theorem read9 (l : List UInt8) : Ans h5 9 [.str l] (scrV l) := by
  obtain ⟨r, h1, h2⟩ := rd9_go 4097 (Nat.le_refl _) l
  exact ans_ofG noTab_ok (k := 4097 + 1) (n := 2) rfl rfl rfl (fun _ => rfl) h1 (rdQ_out h2 _)
theorem read10 (l : List UInt8) : Ans h5 10 [.str l] (scrV l) := by
  obtain ⟨r, h1, h2⟩ := rd10_go 4097 (Nat.le_refl _) l
  exact ans_ofG noTab_ok (k := 4097 + 1) (n := 2) rfl rfl rfl (fun _ => rfl) h1 (rdQ_out h2 _)
theorem evl_res (l : List UInt8) (H : AH) : erase (evlV l) = evlE l ∧ erase (evlE l) = evlE l ∧ Go.Sx.below 0 0 (evlE l) = true ∧ resolveC H (evlV l) = some (evlV l) ∧ resolveC H (evlE l) = some (evlE l) := by
  unfold evlV evlE
  cases rdE l with
  | nil => exact ⟨rfl, rfl, rfl, rfl, rfl⟩
  | cons e es =>
    obtain ⟨h1, h2, h3, h4⟩ := evs_plain (e :: es)
    refine ⟨?_, ?_, ?_, rfl, rfl⟩
    · simp only [erase, h2]
    · simp only [erase, h2]
    · simp only [Go.Sx.below, h3]; rfl
theorem scr_res (l : List UInt8) (H : AH) : resolveL H [scrV l, scrV l] = some [scrE l, scrE l] := by
  obtain ⟨h1, h2, h3, h4, h5⟩ := evl_res l H
  have e1 : Go.Sx.resolve H (scrV l) = some (scrV l) := by
    unfold scrV Go.Sx.resolve
    simp only [cfgV, List.cons_append, List.nil_append, resolveCs, h4]
    rfl
  have e2 : erase (scrV l) = scrE l := by
    unfold scrV scrE
    simp only [cfgV, List.cons_append, List.nil_append, erase, eraseL, h1]
  have e3 : Go.Sx.below 0 0 (scrE l) = true := by
    unfold scrE
    simp only [cfgV, List.cons_append, List.nil_append, Go.Sx.below, belowL, h3]
    rfl
  simp only [resolveL, e1, e2, e3, if_true]
theorem evl_res2 (l : List UInt8) (H : AH) : resolveL H [evlE l, evlE l] = some [evlE l, evlE l] := by
  obtain ⟨h1, h2, h3, h4, h5⟩ := evl_res l H
  have e1 : Go.Sx.resolve H (evlE l) = some (evlE l) := by
    have : ∀ cs, evlE l ≠ .agg cs := by
      intro cs
      unfold evlE
      cases rdE l <;> simp
    unfold Go.Sx.resolve
    split
    · rename_i cs he
      exact absurd he (this cs)
    · exact h5
  simp only [resolveL, e1, h2, h3, if_true]
theorem evsL_len : ∀ (n : Nat) (l : List UInt8), (evsL n l).length ≤ n
  | 0, _ => Nat.le_refl _
  | _ + 1, [] => Nat.zero_le _
  | n + 1, c :: r => by
    have := evsL_len n (evR (c :: r))
    simp only [evsL, List.length_cons]
    omega
theorem eq17 (l : List UInt8) : Ans h5 17 [evlE l, evlE l] (.bool true) := by
  have hl : (rdE l).length ≤ 4096 := evsL_len 4096 _
  refine ans_ofG noTab_ok (k := (rdE l).length + 1) (n := 2) rfl rfl rfl (evl_res2 l) (eqs_go (evlE l) (rdE l) ?_ ?_ (by omega)) (boolOut _ _)
  · unfold evlE
    cases rdE l <;> rfl
  · unfold evlE
    cases rdE l <;> rfl
theorem eq8 (l : List UInt8) : Ans h5 8 [scrV l, scrV l] (.bool true) := by
  refine ans_ofG tabL_ok (k := 2) (n := 3) rfl rfl rfl (scr_res l) ?_ (boolOut _ _)
  refine Eq.trans (es8 _ _ _ _ _ _ _ _ _ _ _ (evlE l)) ?_
  rw [ansB_of (eq17 l)]
  simp only [beq_self_eq_true, Bool.and_self, Bool.and_true, br]
theorem law3_true (l : List UInt8) : runI (TS h5) (cL 2 3) 2 Try.f3 [.str l] ⟨[], []⟩ ansR = some (.bool true) := by
  rw [law3]
  simp only [ansV_of (read9 _), ansV_of (read10 _), ansB_of (eq8 _), br, Bool.false_eq_true, if_false]
  cases hd : decide ((l.length : Int) ≤ 9000) with
  | true =>
    simp only []
    rw [if_pos (by constructor <;> (repeat' split) <;> omega), if_pos (by constructor <;> (repeat' split) <;> omega)]
    rfl
  | false =>
    simp only []
    rw [if_pos (by constructor <;> (repeat' split) <;> omega)]
    rfl
theorem scriptReads_law (l : List UInt8) : callL (TS h5) 3 [.str l] ⟨[], []⟩ = some (.bool true, ⟨[], []⟩) := by
  have h : Ans h5 3 [.str l] (.bool true) := ans_ofG tabL_ok (k := 2) (n := 3) rfl rfl rfl (fun _ => rfl) (law3_true l) (boolOut _ _)
  exact Caller.fn_of (h ⟨[], []⟩)
end Go.Proofs.Ytanpcjopgcpooaa
