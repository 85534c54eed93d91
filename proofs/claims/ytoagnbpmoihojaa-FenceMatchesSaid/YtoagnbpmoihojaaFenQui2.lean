/- Quiet: tokens in a map; had. -/
import Derived.Test.YtoagnbpmoihojaaFenQui
set_option maxRecDepth 100000
set_option linter.unusedSimpArgs false
set_option linter.unusedVariables false
namespace Go.Proofs.Ytoagnbpmoihojaa
open Go.Sx
def tokV (t : Int × Int × Int) : AV := .agg [.int .i64 t.1, .int .i64 t.2.1, .int .i64 t.2.2]
def ent (t : Int × Int × Int) : AV × AV := (tokV t, .bool true)

theorem eqv_tok (t u : Int × Int × Int) : eqv Try.D.T eqDepth 65 (tokV t) (tokV u) = some (t.1 == u.1 && (t.2.1 == u.2.1 && (t.2.2 == u.2.2 && true))) := by kernel_rfl
theorem tok_beq (t u : Int × Int × Int) : (t.1 == u.1 && (t.2.1 == u.2.1 && (t.2.2 == u.2.2 && true))) = decide (t = u) := by
  obtain ⟨a, b, c⟩ := t
  obtain ⟨d, e, f⟩ := u
  rw [Bool.eq_iff_iff]
  simp

theorem findK_ent (t : Int × Int × Int) : ∀ (X : List (Int × Int × Int)) (n : Nat), (t ∉ X → findK Try.D.T 65 (tokV t) (X.map ent) n = some none) ∧
    (t ∈ X → ∃ q, findK Try.D.T 65 (tokV t) (X.map ent) n = some (some (n + q, .bool true)) ∧ (X.map ent)[q]? = some (ent t))
  | [], n => ⟨fun _ => rfl, fun h => by cases h⟩
  | u :: X, n => by
    obtain ⟨h1, h2⟩ := findK_ent t X (n + 1)
    have e : findK Try.D.T 65 (tokV t) ((u :: X).map ent) n = (match eqv Try.D.T eqDepth 65 (tokV t) (tokV u) with
      | some true => some (some (n, .bool true))
      | some false => findK Try.D.T 65 (tokV t) (X.map ent) (n + 1)
      | none => none) := rfl
    rw [eqv_tok, tok_beq] at e
    by_cases htu : t = u
    · subst htu
      rw [e]
      refine ⟨fun h => absurd (List.mem_cons_self ..) h, fun _ => ⟨0, by simp, rfl⟩⟩
    · rw [e]
      simp only [htu, decide_false]
      refine ⟨fun h => h1 (fun h' => h (List.mem_cons_of_mem _ h')), fun h => ?_⟩
      rcases List.mem_cons.1 h with h' | h'
      · exact absurd h' htu
      · obtain ⟨q, k1, k2⟩ := h2 h'
        exact ⟨q + 1, by rw [k1]; congr 3; omega, by simpa using k2⟩

theorem set_same_get {A : Type} : ∀ {l : List A} {n : Nat} {x : A}, l[n]? = some x → l.set n x = l
  | [], n, x, h => by simp at h
  | y :: l, 0, x, h => by simp at h; subst h; rfl
  | y :: l, n + 1, x, h => by simp at h; simp [set_same_get h]

theorem putM_ent (t : Int × Int × Int) (X : List (Int × Int × Int)) : putM Try.D.T 65 (tokV t) (.bool true) (X.map ent) = some ((if t ∈ X then X else X ++ [t]).map ent) := by
  obtain ⟨h1, h2⟩ := findK_ent t X 0
  unfold putM
  by_cases h : t ∈ X
  · obtain ⟨q, k1, k2⟩ := h2 h
    rw [k1, if_pos h]
    simp only [Nat.zero_add, k2]
    have hs : sameA (ent t).1 (tokV t) = true := by
      simp [ent, tokV, sameA, sameL, sameS]
    rw [if_pos hs]
    congr 1
    exact set_same_get k2
  · rw [h1 h, if_neg h]
    simp [ent]

theorem getM_ent (t : Int × Int × Int) (X : List (Int × Int × Int)) : getM Try.D.T 65 (tokV t) (.bool false) (X.map ent) = some (.bool (decide (t ∈ X))) := by
  obtain ⟨h1, h2⟩ := findK_ent t X 0
  unfold getM
  by_cases h : t ∈ X
  · obtain ⟨q, k1, k2⟩ := h2 h
    rw [k1, decide_eq_true h]
  · rw [h1 h, decide_eq_false h]

theorem belowE_ent (n k : Nat) : ∀ (X : List (Int × Int × Int)), belowE n k (X.map ent) = true
  | [] => rfl
  | t :: X => by
    have := belowE_ent n k X
    simp only [List.map_cons, belowE, this]
    rfl

theorem wrap_prev {i : Nat} (h : i + 1 ≤ maxLen) : IntKind.i64.wrap (((i + 1 : Nat) : Int) - 1) = (i : Int) := by
  have e : maxLen = 9223372036854775807 := by decide
  rw [wrapN (by omega) (by omega)]
  omega

/-- The tokens of a moment's processes, and of all moments. -/
def tokP (p : AV) : Int × Int × Int := ((hdV (tlV (tlV p.aggOf))).numOf, (hdV (tlV (tlV (tlV p.aggOf)))).numOf, (hdV (tlV (tlV (tlV (tlV p.aggOf))))).numOf)
def toksOf (u : AV) : List (Int × Int × Int) := (shS Sh.any (hdV (tlV (tlV (tlV (tlV (tlV (tlV (tlV (tlV (tlV u.aggOf))))))))))).listOf.map tokP
noncomputable def tksOf (l : AV) : List (List (Int × Int × Int)) := l.listOf.map toksOf
def atT (T : List (List (Int × Int × Int))) (i : Nat) : List (Int × Int × Int) := T.getD i []
theorem atT_of {l u : AV} {i : Nat} (h : l.listOf[i]? = some u) : atT (tksOf l) i = toksOf u := by
  unfold atT tksOf
  simp [List.getD, h]
theorem toksOf_erase {u : AV} (h : tyV dtMom u) : toksOf (erase u) = toksOf u := by
  have h9 := pj_dtMom_9 h
  have e9 := map_erase h9 (f := tokP) (fun p hp => by
    obtain ⟨a0, a1, a2, a3, a4, a5, a6, a7, a8, rfl, w⟩ := un_dtProc hp
    rfl)
  obtain ⟨m0, m1, m2, m3, m4, m5, m6, m7, m8, m9, m10, m11, m12, m13, rfl, w⟩ := un_dtMom h
  exact e9
theorem tksOf_erase {l : AV} (h : tyV (.sl 14 dtMom) l) : tksOf (erase l) = tksOf l := map_erase h fun u hu => toksOf_erase hu
def dtTk : DT := .agg 3 [dtI, dtI, dtI]
theorem ty_tk {a b c : Int} (wa : (Lit.int .i64 a).wf = true) (wb : (Lit.int .i64 b).wf = true) (wc : (Lit.int .i64 c).wf = true) : tyV dtTk (.agg [.int .i64 a, .int .i64 b, .int .i64 c]) :=
  ⟨_, rfl, [.int .i64 a], [.int .i64 b, .int .i64 c], rfl, rfl, ⟨a, rfl, wa⟩, [.int .i64 b], [.int .i64 c], rfl, rfl, ⟨b, rfl, wb⟩, [.int .i64 c], [], rfl, rfl, ⟨c, rfl, wc⟩, rfl⟩

theorem hd_loop (fuel : Nat) (m0 : Int) (m1 m2 m3 : Bool) (m4 m5 m6 m7 : Int) (m8 m9 m10 : AV) (m11 : Int) (m12 m13 : AV) (hl : tyV (.sl 9 dtProc) m9) (x0' x1' x2' : Int) : ∀ (q jn n : Nat) (i : Int) (x0 x1 x6 x7 x8 x9 x10 x11 x12 x13 x14 x15 x16 x17 x18 x19 x20 : AV), i = (jn : Int) → jn + q = m9.listOf.length → q < n →
    loopC Try.D (cF fuel) fuel hdB n [x0, x1, .ptr 0 0, .ptr 1 0, .bool false, .int .i64 i, x6, x7, x8, x9, x10, x11, x12, x13, x14, x15, x16, x17, x18, x19, x20] ⟨[.cells (moC m0 m1 m2 m3 m4 m5 m6 m7 m8 m9 m10 m11 m12 m13), .cells [.int .i64 x0', .int .i64 x1', .int .i64 x2']], []⟩ (kontI Try.D (cF fuel) fuel (bodyOf Try.f33) [1, 0, 1, 0] (endI Try.D Try.f33 fun v _ => some v)) = some (.bool ((m9.listOf.drop jn).any fun p => decide (tokP p = (x0', x1', x2'))))
  | q, jn, 0, i, _, _, _, _, _, _, _, _, _, _, _, _, _, _, _, _, _, hi, h, hn => by omega
  | 0, jn, n + 1, i, x0, x1, x6, x7, x8, x9, x10, x11, x12, x13, x14, x15, x16, x17, x18, x19, x20, hi, h, hn => by
    subst hi
    rw [hd_step, (sl_facts hl).1, lt_false (by omega : ¬ jn < m9.listOf.length), List.drop_eq_nil_of_le (by omega)]
    simp only [br]
    exact hd_end fuel _ _ _ _ _ _ _ _ _ _ _ _ _ _ _ _ _ _ _ _ _ _
  | q + 1, jn, n + 1, i, x0, x1, x6, x7, x8, x9, x10, x11, x12, x13, x14, x15, x16, x17, x18, x19, x20, hi, h, hn => by
    subst hi
    obtain ⟨hB, hmax, hT, -, -⟩ := sl_facts hl
    have hj : jn < m9.listOf.length := by omega
    obtain ⟨p, hp⟩ : ∃ p, m9.listOf[jn]? = some p := ⟨_, List.getElem?_eq_getElem hj⟩
    have tp := hT p (List.mem_of_getElem? hp)
    have hd : m9.listOf.drop jn = p :: m9.listOf.drop (jn + 1) := nrm_drop hp
    rw [hd_step, hB, lt_true hj, ge_true, Int.toNat_natCast, hp]
    simp only [br, Bool.and_self, fit_dtProc tp]
    have eb : ((hdV (tlV (tlV p.aggOf))).numOf == x0' && ((hdV (tlV (tlV (tlV p.aggOf)))).numOf == x1' && ((hdV (tlV (tlV (tlV (tlV p.aggOf))))).numOf == x2' && true))) = decide (tokP p = (x0', x1', x2')) := tok_beq (tokP p) (x0', x1', x2')
    rw [eb, hd, List.any_cons]
    cases decide (tokP p = (x0', x1', x2')) with
    | true =>
      simp only [Bool.true_or]
      exact hd_ret fuel _ _ _ _ _ _ _ _ _ _ _ _ _ _ _ _ _ _ _ _ _ _
    | false =>
      simp only [Bool.false_or, resetV_self]
      rw [wrap_next hj hmax]
      exact hd_loop fuel m0 m1 m2 m3 m4 m5 m6 m7 m8 m9 m10 m11 m12 m13 hl x0' x1' x2' q (jn + 1) n _ _ _ _ _ _ _ _ _ _ _ _ _ _ _ _ _ _ rfl (by omega) (by omega)

theorem run33 (m0 : Int) (m1 m2 m3 : Bool) (m4 m5 m6 m7 : Int) (m8 m9 m10 : AV) (m11 : Int) (m12 m13 : AV) (hl : tyV (.sl 9 dtProc) m9) (x0' x1' x2' : Int) : runI Try.D (cF (m9.listOf.length + 1)) (m9.listOf.length + 1) Try.f33 [.agg (moC m0 m1 m2 m3 m4 m5 m6 m7 m8 m9 m10 m11 m12 m13), .agg [.int .i64 x0', .int .i64 x1', .int .i64 x2']] ⟨[], []⟩ (fun v _ => some v) = some (.bool (m9.listOf.any fun p => decide (tokP p = (x0', x1', x2')))) := by
  rw [hd_pre]
  exact hd_loop (m9.listOf.length + 1) m0 m1 m2 m3 m4 m5 m6 m7 m8 m9 m10 m11 m12 m13 hl x0' x1' x2' m9.listOf.length 0 _ 0 _ _ _ _ _ _ _ _ _ _ _ _ _ _ _ _ _ rfl (by omega) (by omega)

theorem k33 {u : AV} (hu : tyV dtMom u) {a b c : Int} (wa : (Lit.int .i64 a).wf = true) (wb : (Lit.int .i64 b).wf = true) (wc : (Lit.int .i64 c).wf = true) (H : AH) : callL Try.D 33 [u, .agg [.int .i64 a, .int .i64 b, .int .i64 c]] H = some (.bool (decide ((a, b, c) ∈ toksOf u)), H) := by
  have h9 := pj_dtMom_9 hu
  have e9 := map_erase h9 (f := tokP) (fun p hp => by
    obtain ⟨a0, a1, a2, a3, a4, a5, a6, a7, a8, rfl, w⟩ := un_dtProc hp
    rfl)
  have ht := ty_tk wa wb wc
  have hu' := hu
  obtain ⟨m0, m1, m2, m3, m4, m5, m6, m7, m8, m9, m10, m11, m12, m13, rfl, w⟩ := un_dtMom hu
  have er : ((erase m9).listOf.any fun p => decide (tokP p = (a, b, c))) = decide ((a, b, c) ∈ toksOf (.agg [.int .i64 m0, .bool m1, .bool m2, .bool m3, .int .i64 m4, .int .i64 m5, .int .i64 m6, .int .i64 m7, m8, m9, m10, .int .i64 m11, m12, m13])) := by
    have e9' : (erase m9).listOf.map tokP = m9.listOf.map tokP := e9
    have e : toksOf (.agg [.int .i64 m0, .bool m1, .bool m2, .bool m3, .int .i64 m4, .int .i64 m5, .int .i64 m6, .int .i64 m7, m8, m9, m10, .int .i64 m11, m12, m13]) = m9.listOf.map tokP := rfl
    rw [e, ← e9', Bool.eq_iff_iff]
    simp
  rw [← er]
  refine callL_D tabF_ok (fuel := (erase m9).listOf.length + 1) (n := 6) (fn := Try.f33) (ds := [dtMom, dtTk]) (v := .bool ((erase m9).listOf.any fun p => decide (tokP p = (a, b, c)))) (by kernel_rfl) (by kernel_rfl) (by kernel_rfl) ⟨hu', ht, trivial⟩ ?_ rfl
  exact run33 m0 m1 m2 m3 m4 m5 m6 m7 (erase m8) (erase m9) _ m11 _ _ (tyV_erase h9) a b c
end Go.Proofs.Ytoagnbpmoihojaa
