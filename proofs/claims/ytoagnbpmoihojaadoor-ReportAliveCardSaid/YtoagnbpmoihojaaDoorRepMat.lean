/- ReportMatches, on unknown states and processes. -/
import Derived.Test.YtoagnbpmoihojaaDoorRepRef
set_option maxRecDepth 100000
set_option linter.unusedSimpArgs false
set_option linter.unusedVariables false
namespace Go.Proofs.YtoagnbpmoihojaaDoor
open Go.Sx

theorem mat_form (m : Array Value) {R : Type} (fuel : Nat) (a0 a1 a2 a3 : Int) (a4 l : AV) (K : AV → AH → Option R) :
  runI (Rep.D m) (cD m fuel) fuel Tryd.f5 [.agg (stC a0 a1 a2 a3 a4), l] ⟨[], []⟩ K =
  (match valH (Rep.D m) 20
     [AV.agg [AV.int IntKind.i64 a0, AV.int IntKind.i64 a1, AV.int IntKind.i64 a2, AV.int IntKind.i64 a3, a4]]
     {
      objs :=
       [AObj.cells [AV.int IntKind.i64 a0, AV.int IntKind.i64 a1, AV.int IntKind.i64 a2, AV.int IntKind.i64 a3, a4]],
      toks := [] } with
    | some u0 => br (fitS Sh.bool u0)
     (fun _ => br (!u0.boolOf)
      (fun _ => K (AV.bool true)
     {
      objs :=
       [AObj.cells [AV.int IntKind.i64 a0, AV.int IntKind.i64 a1, AV.int IntKind.i64 a2, AV.int IntKind.i64 a3, a4]],
      toks := [] })
      (fun _ => br (AV.listN 9 l)
       (fun _ => br (decide ((↑l.listOf.length : Int) > (30 : Int)))
        (fun _ => K (AV.bool true)
     {
      objs :=
       [AObj.cells [AV.int IntKind.i64 a0, AV.int IntKind.i64 a1, AV.int IntKind.i64 a2, AV.int IntKind.i64 a3, a4]],
      toks := [] })
        (fun _ => (match valH (Rep.D m) 21
     [AV.agg [AV.int IntKind.i64 a0, AV.int IntKind.i64 a1, AV.int IntKind.i64 a2, AV.int IntKind.i64 a3, a4]]
     {
      objs :=
       [AObj.cells [AV.int IntKind.i64 a0, AV.int IntKind.i64 a1, AV.int IntKind.i64 a2, AV.int IntKind.i64 a3, a4]],
      toks := [] } with
         | some u5 => br (u5.isAgg && fitL [Sh.int IntKind.i64, Sh.int IntKind.i64, Sh.int IntKind.i64, Sh.int IntKind.i64, Sh.any] u5.aggOf)
          (fun _ => (match valH (Rep.D m) 22 [l]
     {
      objs :=
       [AObj.cells [AV.int IntKind.i64 a0, AV.int IntKind.i64 a1, AV.int IntKind.i64 a2, AV.int IntKind.i64 a3, a4]],
      toks := [] } with
           | some u7 => (match valH (Rep.D m) 24
     [AV.agg
       [AV.int IntKind.i64 (hdV u5.aggOf).numOf, AV.int IntKind.i64 (hdV (tlV u5.aggOf)).numOf,
        AV.int IntKind.i64 (hdV (tlV (tlV u5.aggOf))).numOf, AV.int IntKind.i64 (hdV (tlV (tlV (tlV u5.aggOf)))).numOf,
        shS Sh.any (hdV (tlV (tlV (tlV (tlV u5.aggOf)))))],
      u7]
     {
      objs :=
       [AObj.cells [AV.int IntKind.i64 a0, AV.int IntKind.i64 a1, AV.int IntKind.i64 a2, AV.int IntKind.i64 a3, a4],
        AObj.cells
         [AV.int IntKind.i64 (hdV u5.aggOf).numOf, AV.int IntKind.i64 (hdV (tlV u5.aggOf)).numOf,
          AV.int IntKind.i64 (hdV (tlV (tlV u5.aggOf))).numOf,
          AV.int IntKind.i64 (hdV (tlV (tlV (tlV u5.aggOf)))).numOf,
          shS Sh.any (hdV (tlV (tlV (tlV (tlV u5.aggOf)))))]],
      toks := [] } with
            | some u8 => (match valH (Rep.D m) 25
     [AV.agg [AV.int IntKind.i64 a0, AV.int IntKind.i64 a1, AV.int IntKind.i64 a2, AV.int IntKind.i64 a3, a4], l]
     {
      objs :=
       [AObj.cells [AV.int IntKind.i64 a0, AV.int IntKind.i64 a1, AV.int IntKind.i64 a2, AV.int IntKind.i64 a3, a4],
        AObj.cells
         [AV.int IntKind.i64 (hdV u5.aggOf).numOf, AV.int IntKind.i64 (hdV (tlV u5.aggOf)).numOf,
          AV.int IntKind.i64 (hdV (tlV (tlV u5.aggOf))).numOf,
          AV.int IntKind.i64 (hdV (tlV (tlV (tlV u5.aggOf)))).numOf,
          shS Sh.any (hdV (tlV (tlV (tlV (tlV u5.aggOf)))))]],
      toks := [] } with
             | some u9 => (match valH (Rep.D m) 23 [u8, u9]
     {
      objs :=
       [AObj.cells [AV.int IntKind.i64 a0, AV.int IntKind.i64 a1, AV.int IntKind.i64 a2, AV.int IntKind.i64 a3, a4],
        AObj.cells
         [AV.int IntKind.i64 (hdV u5.aggOf).numOf, AV.int IntKind.i64 (hdV (tlV u5.aggOf)).numOf,
          AV.int IntKind.i64 (hdV (tlV (tlV u5.aggOf))).numOf,
          AV.int IntKind.i64 (hdV (tlV (tlV (tlV u5.aggOf)))).numOf,
          shS Sh.any (hdV (tlV (tlV (tlV (tlV u5.aggOf)))))]],
      toks := [] } with
              | some u10 => br (fitS Sh.bool u10)
               (fun _ => br (u10.boolOf)
                (fun _ => (match valH (Rep.D m) 26
     [AV.agg
       [AV.int IntKind.i64 (hdV u5.aggOf).numOf, AV.int IntKind.i64 (hdV (tlV u5.aggOf)).numOf,
        AV.int IntKind.i64 (hdV (tlV (tlV u5.aggOf))).numOf, AV.int IntKind.i64 (hdV (tlV (tlV (tlV u5.aggOf)))).numOf,
        shS Sh.any (hdV (tlV (tlV (tlV (tlV u5.aggOf)))))],
      AV.agg [AV.int IntKind.i64 a0, AV.int IntKind.i64 a1, AV.int IntKind.i64 a2, AV.int IntKind.i64 a3, a4]]
     {
      objs :=
       [AObj.cells [AV.int IntKind.i64 a0, AV.int IntKind.i64 a1, AV.int IntKind.i64 a2, AV.int IntKind.i64 a3, a4],
        AObj.cells
         [AV.int IntKind.i64 (hdV u5.aggOf).numOf, AV.int IntKind.i64 (hdV (tlV u5.aggOf)).numOf,
          AV.int IntKind.i64 (hdV (tlV (tlV u5.aggOf))).numOf,
          AV.int IntKind.i64 (hdV (tlV (tlV (tlV u5.aggOf)))).numOf,
          shS Sh.any (hdV (tlV (tlV (tlV (tlV u5.aggOf)))))]],
      toks := [] } with
                 | some u13 => br (fitS Sh.bool u13)
                  (fun _ => br (u13.boolOf)
                   (fun _ => (match valH (Rep.D m) 27 [u7, l]
     {
      objs :=
       [AObj.cells [AV.int IntKind.i64 a0, AV.int IntKind.i64 a1, AV.int IntKind.i64 a2, AV.int IntKind.i64 a3, a4],
        AObj.cells
         [AV.int IntKind.i64 (hdV u5.aggOf).numOf, AV.int IntKind.i64 (hdV (tlV u5.aggOf)).numOf,
          AV.int IntKind.i64 (hdV (tlV (tlV u5.aggOf))).numOf,
          AV.int IntKind.i64 (hdV (tlV (tlV (tlV u5.aggOf)))).numOf,
          shS Sh.any (hdV (tlV (tlV (tlV (tlV u5.aggOf)))))]],
      toks := [] } with
                    | some u16 => br (fitS Sh.bool u16)
                     (fun _ => br (u16.boolOf)
                      (fun _ => (match valH (Rep.D m) 19 []
     {
      objs :=
       [AObj.cells [AV.int IntKind.i64 a0, AV.int IntKind.i64 a1, AV.int IntKind.i64 a2, AV.int IntKind.i64 a3, a4],
        AObj.cells
         [AV.int IntKind.i64 (hdV u5.aggOf).numOf, AV.int IntKind.i64 (hdV (tlV u5.aggOf)).numOf,
          AV.int IntKind.i64 (hdV (tlV (tlV u5.aggOf))).numOf,
          AV.int IntKind.i64 (hdV (tlV (tlV (tlV u5.aggOf)))).numOf,
          shS Sh.any (hdV (tlV (tlV (tlV (tlV u5.aggOf)))))]],
      toks := [] } with
                       | some u19 => br (fitS Sh.bool u19)
                        (fun _ => K (AV.bool u19.boolOf)
     {
      objs :=
       [AObj.cells [AV.int IntKind.i64 a0, AV.int IntKind.i64 a1, AV.int IntKind.i64 a2, AV.int IntKind.i64 a3, a4],
        AObj.cells
         [AV.int IntKind.i64 (hdV u5.aggOf).numOf, AV.int IntKind.i64 (hdV (tlV u5.aggOf)).numOf,
          AV.int IntKind.i64 (hdV (tlV (tlV u5.aggOf))).numOf,
          AV.int IntKind.i64 (hdV (tlV (tlV (tlV u5.aggOf)))).numOf,
          shS Sh.any (hdV (tlV (tlV (tlV (tlV u5.aggOf)))))]],
      toks := [] })
                        (fun _ => none)
                       | none => none))
                      (fun _ => K (AV.bool false)
     {
      objs :=
       [AObj.cells [AV.int IntKind.i64 a0, AV.int IntKind.i64 a1, AV.int IntKind.i64 a2, AV.int IntKind.i64 a3, a4],
        AObj.cells
         [AV.int IntKind.i64 (hdV u5.aggOf).numOf, AV.int IntKind.i64 (hdV (tlV u5.aggOf)).numOf,
          AV.int IntKind.i64 (hdV (tlV (tlV u5.aggOf))).numOf,
          AV.int IntKind.i64 (hdV (tlV (tlV (tlV u5.aggOf)))).numOf,
          shS Sh.any (hdV (tlV (tlV (tlV (tlV u5.aggOf)))))]],
      toks := [] }))
                     (fun _ => none)
                    | none => none))
                   (fun _ => K (AV.bool false)
     {
      objs :=
       [AObj.cells [AV.int IntKind.i64 a0, AV.int IntKind.i64 a1, AV.int IntKind.i64 a2, AV.int IntKind.i64 a3, a4],
        AObj.cells
         [AV.int IntKind.i64 (hdV u5.aggOf).numOf, AV.int IntKind.i64 (hdV (tlV u5.aggOf)).numOf,
          AV.int IntKind.i64 (hdV (tlV (tlV u5.aggOf))).numOf,
          AV.int IntKind.i64 (hdV (tlV (tlV (tlV u5.aggOf)))).numOf,
          shS Sh.any (hdV (tlV (tlV (tlV (tlV u5.aggOf)))))]],
      toks := [] }))
                  (fun _ => none)
                 | none => none))
                (fun _ => K (AV.bool false)
     {
      objs :=
       [AObj.cells [AV.int IntKind.i64 a0, AV.int IntKind.i64 a1, AV.int IntKind.i64 a2, AV.int IntKind.i64 a3, a4],
        AObj.cells
         [AV.int IntKind.i64 (hdV u5.aggOf).numOf, AV.int IntKind.i64 (hdV (tlV u5.aggOf)).numOf,
          AV.int IntKind.i64 (hdV (tlV (tlV u5.aggOf))).numOf,
          AV.int IntKind.i64 (hdV (tlV (tlV (tlV u5.aggOf)))).numOf,
          shS Sh.any (hdV (tlV (tlV (tlV (tlV u5.aggOf)))))]],
      toks := [] }))
               (fun _ => none)
              | none => none)
             | none => none)
            | none => none)
           | none => none))
          (fun _ => none)
         | none => none)))
       (fun _ => none)))
     (fun _ => none)
    | none => none) := by kernel_rfl
-- PROOFS
section
variable (m : Array Value)
theorem eqTask (u w : AV) (hu : tyV dtTask u) (hw : tyV dtTask w) (hs : nrm u = nrm w) (H : AH) : callL (Rep.D m) 81 [u, w] H = some (.bool true, H) := eq81 m (fun a b h H => eq79 m a b h H) hu hw hs H
theorem eqSpec {u w : AV} (hu : tyV dtSpec u) (hw : tyV dtSpec w) (hs : nrm u = nrm w) (H : AH) : callL (Rep.D m) 66 [u, w] H = some (.bool true, H) := eq66 m (fun a b h H => eq79 m a b h H) (fun a b h H => eq80 m a b h H) hu hw hs H
theorem eqAlloc (u w : AV) (hu : tyV dtAlloc u) (hw : tyV dtAlloc w) (hs : nrm u = nrm w) (H : AH) : callL (Rep.D m) 59 [u, w] H = some (.bool true, H) := eq59 m (fun a b h H => eqSpec m a b h H) (fun a b h H => eq67 m (eqTask m) a b h H) hu hw hs H
theorem eqState {u w : AV} (hu : tyV dtState u) (hw : tyV dtState w) (hs : nrm u = nrm w) (H : AH) : callL (Rep.D m) 26 [u, w] H = some (.bool true, H) := eq26 m (fun a b h H => eq47 m (eqAlloc m) a b h H) hu hw hs H
theorem cpTask (u : AV) (hu : tyV dtTask u) (hb : bnd 100000 u = true) : ∃ v, (∀ H : AH, callL (Rep.D m) 78 [u] H = some (v, H)) ∧ tyV dtTask v ∧ nrm v = nrm u := cp78 m (fun a b => cp76 m a b) hu hb
theorem cpSpec {u : AV} (hu : tyV dtSpec u) (hb : bnd 100000 u = true) : ∃ v, (∀ H : AH, callL (Rep.D m) 64 [u] H = some (v, H)) ∧ tyV dtSpec v ∧ nrm v = nrm u := cp64 m (fun a b => cp76 m a b) (fun a b => cp77 m a b) hu hb
theorem cpAlloc (u : AV) (hu : tyV dtAlloc u) (hb : bnd 100000 u = true) : ∃ v, (∀ H : AH, callL (Rep.D m) 58 [u] H = some (v, H)) ∧ tyV dtAlloc v ∧ nrm v = nrm u := cp58 m (fun a b => cpSpec m a b) (fun a b => cp65 m (cpTask m) a b) hu hb
theorem cpState {u : AV} (hu : tyV dtState u) (hb : bnd 100000 u = true) : ∃ v, (∀ H : AH, callL (Rep.D m) 21 [u] H = some (v, H)) ∧ tyV dtState v ∧ nrm v = nrm u := cp21 m (fun a b => cp46 m (cpAlloc m) a b) hu hb
end

mutual
theorem bnd_le {A B : Nat} (h : A ≤ B) : ∀ v, bnd A v = true → bnd B v = true
  | .inl f p sz xs, k => by
    simp only [bnd, Bool.and_eq_true] at k ⊢
    exact ⟨Nat.ble_eq_true_of_le (Nat.le_trans (Nat.le_of_ble_eq_true k.1) h), bndL_le h xs k.2⟩
  | .agg cs, k => by
    simp only [bnd] at k ⊢
    exact bndL_le h cs k
  | .nils, _ | .top, _ | .bool _, _ | .int _ _, _ | .str _, _ | .ptr _ _, _ | .nilptr, _ | .rop _, _ | .sl _ _ _ _ _ _, _ | .map _, _ | .nilmap, _ | .func _ _ _, _ | .nilfunc, _ | .iface _ _, _ | .niliface, _ | .tuple _, _ => rfl
theorem bndL_le {A B : Nat} (h : A ≤ B) : ∀ l, bndL A l = true → bndL B l = true
  | [], _ => rfl
  | v :: r, k => by
    simp only [bndL, Bool.and_eq_true] at k ⊢
    exact ⟨bnd_le h v k.1, bndL_le h r k.2⟩
end

theorem awakeD (m : Array Value) (H : AH) : callL (Rep.D m) 19 [] H = some (.bool true, H) := callL_I (tab := fun _ => none) (fun f g h => by cases h) (fuel := 8) (n := 8) (by kernel_rfl)

theorem nrm_of_list {n : Nat} {e : DT} {a b : AV} (ha : tyV (.sl n e) a) (hb : tyV (.sl n e) b) (h : a.listOf = b.listOf) : nrm a = nrm b := by
  rw [(sl_facts ha).2.2.2.1, (sl_facts hb).2.2.2.1, h]

theorem matches_run (m : Array Value) {s l : AV} (hs : tyV dtState s) (hl : tyV (.sl 9 dtProc) l) : runI (Rep.D m) (cD m 1) 1 Tryd.f5 [s, l] ⟨[], []⟩ (fun v _ => some v) = some (.bool true) := by
  obtain ⟨b, hb, hbt⟩ := few20 m hs
  have hs0 := hs
  obtain ⟨a0, a1, a2, a3, a4, rfl, w0, w1, w2, w3, w4⟩ := un_dtState hs
  have e := mat_form m (R := AV) 1 a0 a1 a2 a3 a4 l (fun v _ => some v)
  refine Eq.trans e ?_
  rw [valH_of (hb _)]
  simp only [fitS, AV.boolOf, br, (sl_facts hl).1]
  cases hbv : b with
  | false => rfl
  | true =>
    have hbs := hbt hbv
    simp only [Bool.not_true]
    by_cases hlen : l.listOf.length > 30
    · rw [dec_t (p := (l.listOf.length : Int) > 30) (by omega)]
    rw [dec_f (p := (l.listOf.length : Int) > 30) (by omega)]
    simp only
    have hbl : bnd 100000 l = true := bnd_sl hl (by omega) (fun u hu => bnd_flat rfl ((sl_facts hl).2.2.1 u hu))
    obtain ⟨s', h1, t1, n1⟩ := cpState m hs0 (bnd_le (by decide) _ hbs)
    obtain ⟨l', h2, t2, n2⟩ := cp22 m hl hbl
    have hbs' : bnd 100 s' = true := bnd_same n1 hbs
    obtain ⟨v, h3, t3, n3, -⟩ := of24 m t1 hbs' t2
    obtain ⟨w, h4, t4, n4⟩ := ref25 m hs0 hbs hl
    have hsame : stS s' l' = stS (.agg [.int .i64 a0, .int .i64 a1, .int .i64 a2, .int .i64 a3, a4]) l := stS_same t1 hs0 n1 t2 hl n2
    have hvw : nrm v = nrm w := nrm_of_list t3 t4 (by rw [n3, n4, hsame])
    have h5 := eq23 m t3 t4 hvw
    have h6 := eqState m t1 hs0 n1
    have h7 := eq27 m t2 hl n2
    have h8 := awakeD m
    rw [valH_of (h1 _)]
    obtain ⟨d0, d1, d2, d3, d4, rfl, v0, v1, v2, v3, v4⟩ := un_dtState t1
    simp only [AV.isAgg, AV.aggOf, fitL, fitS, hdV, tlV, AV.numOf, shS, decide_true, Bool.and_self]
    rw [valH_of (h2 _)]
    simp only
    rw [valH_of (h3 _)]
    simp only
    rw [valH_of (h4 _)]
    simp only
    rw [valH_of (h5 _)]
    simp only
    rw [valH_of (h6 _)]
    simp only
    rw [valH_of (h7 _)]
    simp only
    rw [valH_of (h8 _)]

theorem matches_law5 (m : Array Value) {s l : AV} (hs : tyV dtState s) (hl : tyV (.sl 9 dtProc) l) (H : AH) : callL (Rep.D m) 5 [s, l] H = some (.bool true, H) :=
  callL_D (tabD0_ok m) (fuel := 1) (n := 2) (fn := Tryd.f5) (ds := [dtState, .sl 9 dtProc]) (v := .bool true) (by kernel_rfl) (by kernel_rfl) (by kernel_rfl) ⟨hs, hl, trivial⟩ (matches_run m (tyV_erase hs) (tyV_erase hl)) rfl
-- DEFS
end Go.Proofs.YtoagnbpmoihojaaDoor
