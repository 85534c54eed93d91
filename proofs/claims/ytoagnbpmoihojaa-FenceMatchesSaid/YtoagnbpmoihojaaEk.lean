/- THE ENGINE, 47: arguments as data, with what their slices weigh. -/
import Derived.Test.YtoagnbpmoihojaaEj
set_option linter.unusedSimpArgs false
set_option linter.unusedVariables false
namespace Go.Sx
open Go.ChangeShapes
variable {P : Program} {bz : Nat → Nat}

mutual
/-- bz: how many bytes an element of so many cells takes. -/
def bysB (P : Program) (bz : Nat → Nat) : DT → TypeId → Bool
  | .agg _ fs, t => match P.underlying t with | some (.struct fields) => bysL P bz fs fields.toList | _ => false
  | .sl n e, t => match P.underlying t with | some (.slice et) => Nat.beq (bz n) (P.bytesOf et) && bysB P bz e et | _ => false
  | _, _ => true
def bysL (P : Program) (bz : Nat → Nat) : List DT → List Field → Bool
  | d :: r, f :: fs => bysB P bz d f.type && bysL P bz r fs
  | _, _ => true
end
mutual
/-- No slice within is too heavy. -/
def szC (bz : Nat → Nat) : DT → List AV → Prop
  | .agg _ fs, cs => szL bz fs cs
  | .sl n e, cs => ∀ f p xs, cs = [.inl f p n xs] → xs.length * bz n ≤ reachBytes ∧ ∀ v ∈ xs, match e.isAgg with | true => ∀ us, v = .agg us → szC bz e us | false => szC bz e [v]
  | _, _ => True
def szL (bz : Nat → Nat) : List DT → List AV → Prop
  | d :: r, cs => szC bz d (cs.take d.cells) ∧ szL bz r (cs.drop d.cells)
  | [], _ => True
end
def szV (bz : Nat → Nat) (d : DT) (v : AV) : Prop := match d.isAgg with | true => ∀ us, v = .agg us → szC bz d us | false => szC bz d [v]

theorem weightsEach_get {H : Type} : ∀ {ts : List TypeId} {ds : List (DataW H)}, (DataW.weightsEach P ts ds).all (fun n => decide (n ≤ reachBytes)) = true → ∀ (i : Nat) t d, ts[i]? = some t → ds[i]? = some d → (d.weights P t).all (fun n => decide (n ≤ reachBytes)) = true
  | [], _, _, i, t, d, ht, _ => by simp at ht
  | _ :: _, [], _, i, t, d, _, hd => by simp at hd
  | t0 :: ts, d0 :: ds, h, i, t, d, ht, hd => by
    simp only [DataW.weightsEach, List.all_append, Bool.and_eq_true] at h
    cases i with
    | zero =>
      simp at ht hd
      subst ht; subst hd
      exact h.1
    | succ i => exact weightsEach_get h.2 i t d (by simpa using ht) (by simpa using hd)
theorem weightsAll_get {H : Type} {e : TypeId} : ∀ {ds : List (DataW H)}, (DataW.weightsAll P e ds).all (fun n => decide (n ≤ reachBytes)) = true → ∀ (i : Nat) d, ds[i]? = some d → (d.weights P e).all (fun n => decide (n ≤ reachBytes)) = true
  | [], _, i, d, hd => by simp at hd
  | d0 :: ds, h, i, d, hd => by
    simp only [DataW.weightsAll, List.all_append, Bool.and_eq_true] at h
    cases i with
    | zero =>
      simp at hd
      subst hd
      exact h.1
    | succ i => exact weightsAll_get h.2 i d (by simpa using hd)

section
variable {H : Type} {enc : TypeId × Value → H} {W : World} {sp : Nat → Bool} {held : Bool}

mutual
theorem open_cellsZ : ∀ (d : DT) (t : TypeId) (fuel : Nat) (cs : List Value) (x : DataW H × List MemPlace), dtB P d t = true → bysB P bz d t = true → (x.1.weights P t).all (fun n => decide (n ≤ reachBytes)) = true → DataW.trod enc P W 0 sp held fuel t cs = some x → ∃ avs, okC d avs ∧ avs.length = d.cells ∧ Cells W avs cs ∧ szC bz d avs
  | .int k, t, fuel, cs, x, hd, hby, hw, h => by
    unfold dtB at hd
    split at hd
    · rename_i k' hu
      obtain rfl : k = k' := by simpa using hd
      obtain ⟨n, rfl, _, hw'⟩ := DataW.trod_int hu h
      exact ⟨[.int k n], ⟨n, rfl, hw'⟩, rfl, .one (.int k n) rfl, trivial⟩
    · simp at hd
  | .bool, t, fuel, cs, x, hd, hby, hw, h => by
    unfold dtB at hd
    split at hd
    · rename_i hu
      obtain ⟨b, rfl, _⟩ := DataW.trod_bool hu h
      exact ⟨[.bool b], ⟨b, rfl⟩, rfl, .one (.bool b) rfl, trivial⟩
    · simp at hd
  | .str, t, fuel, cs, x, hd, hby, hw, h => by
    unfold dtB at hd
    split at hd
    · rename_i hu
      obtain ⟨⟨⟨l⟩⟩, rfl, _, hl⟩ := DataW.trod_string hu h
      exact ⟨[.str l], ⟨l, rfl, hl⟩, rfl, .one (.str l) rfl, trivial⟩
    · simp at hd
  | .agg n fs, t, fuel, cs, x, hd, hby, hw, h => by
    unfold dtB at hd
    split at hd
    · rename_i fields hu
      simp only [Bool.and_eq_true] at hd
      obtain ⟨xs, m, rfl, hxx, hl, hn, hel⟩ := DataW.trod_struct hu h
      have hcn := Nat.eq_of_beq_eq_true hd.1
      have hby' : bysL P bz fs fields.toList = true := by
        unfold bysB at hby
        rw [hu] at hby
        exact hby
      have hw' : (DataW.weightsEach P (fields.toList.map (·.type)) (xs.map (·.1))).all (fun n => decide (n ≤ reachBytes)) = true := by
        rw [hxx] at hw
        simp only [DataW.weights, hu] at hw
        exact hw
      obtain ⟨avs, h1, h2, h3, h4⟩ := open_listZ fs fields.toList 0 n m cs hd.2 hby' (by rw [hl, hcn]) (by
        intro i f hf
        have := hel i f (by simpa using hf)
        have hi : i < xs.length := by
          rw [hn]
          have := (List.getElem?_eq_some_iff.1 hf).1
          simpa using this
        exact ⟨_, this.trans (List.getElem?_eq_getElem hi), weightsEach_get hw' i f.type (xs[i]).1 (by simpa using congrArg (Option.map (·.type)) hf) (by simp [hi])⟩)
      refine ⟨avs, h1, ?_, by simpa using h3, h4⟩
      · simpa [DT.cells] using h2
    · simp at hd
  | .sl n e, t, fuel, cs, x, hd, hby, hw, h => by
    unfold dtB at hd
    split at hd
    · rename_i et hu
      simp only [Bool.and_eq_true] at hd
      obtain ⟨hd1, hd2, hd3⟩ := hd
      have hn := Nat.eq_of_beq_eq_true hd1
      have hc := Nat.eq_of_beq_eq_true hd2
      rcases DataW.trod_slice hu h with ⟨rfl, -⟩ | ⟨a, len, cap, elems, rest, m, rfl, rfl, hxx, hb, hlen, hmax, hel, hget, -, -⟩
      · exact ⟨[.nils], .inl rfl, rfl, .one .nils rfl, by simp [szC]⟩
      · have hby' : Nat.beq (bz n) (P.bytesOf et) = true ∧ bysB P bz e et = true := by
          unfold bysB at hby
          rw [hu] at hby
          simpa using hby
        have hby1 := Nat.eq_of_beq_eq_true hby'.1
        have hw' : decide ((elems.length + rest.length) * P.bytesOf et ≤ reachBytes) = true ∧ (DataW.weightsAll P et (elems.map (·.1))).all (fun n => decide (n ≤ reachBytes)) = true := by
          rw [hxx] at hw
          simp only [DataW.weights, hu, List.all_cons, List.all_append, Bool.and_eq_true, List.length_map] at hw
          exact ⟨hw.1, hw.2.1⟩
        have key : ∀ i, i < len → ∃ avs us, (okC e avs ∧ szC bz e avs) ∧ avs.length = n ∧ us.length = n ∧ (∀ j, j < n → W.cell? (a.add (i * n + j)) = us[j]?) ∧ Cells W avs us := by
          intro i hi
          have := hget i hi
          have hie : i < elems.length := by omega
          rw [List.getElem?_eq_getElem hie] at this
          obtain ⟨us, hu1, hu2⟩ := Option.bind_eq_some_iff.1 this
          obtain ⟨avs, k1, k2, k3, k4⟩ := open_cellsZ e et m us _ hd3 hby'.2 (weightsAll_get hw'.2 i (elems[i]).1 (by simp [hie])) hu2
          obtain ⟨h5, h6⟩ := World.cells?_some hu1
          refine ⟨avs, us, ⟨k1, k4⟩, by rw [k2, hc], by rw [← k3.1, k2, hc], ?_, k3⟩
          intro j hj
          rw [hn] at hu1 h6
          have := h6.2 j hj
          rw [Addr.add_add] at this
          exact this
        let F (i : Nat) : List AV := if hi : i < len then (key i hi).choose else []
        let U (i : Nat) : List Value := if hi : i < len then (key i hi).choose_spec.choose else []
        have hF : ∀ i (hi : i < len), (okC e (F i) ∧ szC bz e (F i)) ∧ (F i).length = n ∧ (U i).length = n ∧ (∀ j, j < n → W.cell? (a.add (i * n + j)) = (U i)[j]?) ∧ Cells W (F i) (U i) := by
          intro i hi
          have := (key i hi).choose_spec.choose_spec
          simp only [F, U, hi, dite_true]
          exact this
        let V (i : Nat) : AV := match e.isAgg with | true => .agg (F i) | false => (F i).headD .top
        have hV : ∀ i, i < len → (V i).cells = F i := by
          intro i hi
          simp only [V]
          cases he : e.isAgg with
          | true => rfl
          | false =>
            have h1 : (F i).length = 1 := by
              rw [(hF i hi).2.1, hc]
              cases e with
              | agg => simp [DT.isAgg] at he
              | _ => rfl
            have h2 := (hF i hi).1.1
            match hx : F i, h1 with
            | [v], _ =>
              simp only [List.headD_cons]
              rw [hx] at h2
              cases e with
              | agg => simp [DT.isAgg] at he
              | int k => obtain ⟨n, h, _⟩ := h2; simp at h; subst h; rfl
              | bool => obtain ⟨n, h⟩ := h2; simp at h; subst h; rfl
              | str => obtain ⟨n, h, _⟩ := h2; simp at h; subst h; rfl
              | sl m e =>
                rcases h2 with h | ⟨ys, h, _⟩
                · simp at h; subst h; rfl
                · simp at h; subst h; rfl
        refine ⟨[.inl false .unk n ((List.range len).map V)], .inr ⟨_, rfl, by simp; omega, ?_⟩, rfl, .one ?_ rfl, ?_⟩
        · intro v hv
          obtain ⟨i, hi, rfl⟩ := List.mem_map.1 hv
          have hi := List.mem_range.1 hi
          have h1 := (hF i hi).1.1
          cases he : e.isAgg with
          | true =>
            simp only [V, he]
            exact ⟨F i, rfl, h1⟩
          | false =>
            have h2 := hV i hi
            simp only [V, he] at h2 ⊢
            have h3 : (F i).length = 1 := by
              rw [(hF i hi).2.1, hc]
              cases e with
              | agg => simp [DT.isAgg] at he
              | _ => rfl
            match hx : F i, h3 with
            | [v], _ =>
              simp only [List.headD_cons]
              rw [← hx]; exact h1
        · have hlenm : ((List.range len).map V).length = len := by simp
          have := VRel.inl (E := GE.start W) false .unk n ((List.range len).map V) a cap (fun i j => (U i).getD j .nilFunc) ?_ ?_ ?_ (by simpa using hlen) (by simp) trivial
          · rw [hlenm] at this; exact this
          · intro v hv
            obtain ⟨i, hi, rfl⟩ := List.mem_map.1 hv
            have hi := List.mem_range.1 hi
            rw [hV i hi]; exact (hF i hi).2.1
          · intro i j hi hj
            rw [hlenm] at hi
            obtain ⟨-, -, q3, q4, q5⟩ := hF i hi
            have hju : j < (U i).length := by omega
            have e1 : (U i)[j]? = some ((U i).getD j .nilFunc) := by
              rw [List.getElem?_eq_getElem hju]; simp [List.getD, hju]
            have e2 : W.cell? (a.add (i * n + j)) = some ((U i).getD j .nilFunc) := (q4 j hj).trans e1
            refine ⟨e2, q5.2.2 _ (List.mem_of_getElem? e1), ?_⟩
            show (W.cell? ⟨a.block, a.off + (i * n + j), none⟩).isSome = true
            rw [← addr_of_cell e2, e2]; rfl
          · intro i v j c hv hcell
            have hi : i < len := by
              have := (List.getElem?_eq_some_iff.1 hv).1
              simpa using this
            have : ((List.range len).map V)[i]? = some (V i) := by simp [hi]
            rw [this] at hv
            obtain rfl := Option.some.inj hv
            rw [hV i hi] at hcell
            obtain ⟨-, q2, q3, -, q5⟩ := hF i hi
            have hj : j < (F i).length := (List.getElem?_eq_some_iff.1 hcell).1
            have hju : j < (U i).length := by omega
            have e1 : (U i)[j]? = some ((U i).getD j .nilFunc) := by
              rw [List.getElem?_eq_getElem hju]; simp [List.getD, hju]
            exact q5.2.1 j _ _ hcell e1
        · unfold szC
          intro f q xs hxs
          simp only [List.cons.injEq, AV.inl.injEq, and_true, true_and] at hxs
          obtain ⟨-, -, rfl⟩ := hxs
          refine ⟨?_, ?_⟩
          · simp only [List.length_map, List.length_range]
            have := hw'.1
            simp only [decide_eq_true_eq] at this
            rw [hby1]
            exact Nat.le_trans (Nat.mul_le_mul_right _ (by omega)) this
          · intro v hv
            obtain ⟨i, hi, rfl⟩ := List.mem_map.1 hv
            have hi := List.mem_range.1 hi
            have h1 := (hF i hi).1.2
            have h2 := hV i hi
            cases he : e.isAgg with
            | true =>
              intro us hus
              simp only [V, he, AV.agg.injEq] at hus
              rw [← hus]; exact h1
            | false =>
              simp only
              have h3 : (F i).length = 1 := by
                rw [(hF i hi).2.1, hc]
                cases e with
                | agg => simp [DT.isAgg] at he
                | _ => rfl
              simp only [V, he]
              match hx : F i, h3 with
              | [v], _ =>
                simp only [List.headD_cons]
                rw [← hx]; exact h1
    · simp at hd
theorem open_listZ : ∀ (ds : List DT) (fs : List Field) (off n fuel : Nat) (cs : List Value), dtL P ds fs off n = true → bysL P bz ds fs = true → cs.length = n → (∀ (i : Nat) f, fs[i]? = some f → ∃ x, DataW.trod enc P W 0 sp held fuel f.type ((cs.drop f.offset).take (P.cellsOf f.type)) = some x ∧ (x.1.weights P f.type).all (fun n => decide (n ≤ reachBytes)) = true) →
    ∃ avs, okL ds avs ∧ avs.length + off = n ∧ Cells W avs (cs.drop off) ∧ szL bz ds avs
  | [], [], off, n, fuel, cs, hd, hby, hl, h => by
    unfold dtL at hd
    obtain rfl := Nat.eq_of_beq_eq_true hd
    have : cs.drop off = [] := by rw [← hl]; simp
    rw [this]
    refine ⟨[], by unfold okL; rfl, by simp, ⟨rfl, by simp, by simp⟩, trivial⟩
  | d :: ds, f :: fs, off, n, fuel, cs, hd, hby, hl, h => by
    unfold dtL at hd
    simp only [Bool.and_eq_true] at hd
    obtain ⟨h1, h2, h3, h4⟩ := hd
    have e1 := Nat.eq_of_beq_eq_true h1
    have e2 := Nat.eq_of_beq_eq_true h2
    obtain ⟨x, hx, hxw⟩ := h 0 f rfl
    unfold bysL at hby
    simp only [Bool.and_eq_true] at hby
    rw [e1, e2] at hx
    obtain ⟨a, k1, k2, k3, kz⟩ := open_cellsZ d f.type fuel _ x h3 hby.1 hxw hx
    obtain ⟨b, m1, m2, m3, mz⟩ := open_listZ ds fs (off + d.cells) n fuel cs h4 hby.2 hl (fun i g hg => h (i + 1) g (by simpa using hg))
    have e3 : cs.drop off = (cs.drop off).take d.cells ++ cs.drop (off + d.cells) := by
      rw [← List.drop_drop]; exact (List.take_append_drop _ _).symm
    rw [e3]
    refine ⟨a ++ b, ?_, by simp only [List.length_append]; omega, k3.app m3, ?_⟩
    · unfold okL
      exact ⟨a, b, rfl, k2, k1, m1⟩
    · unfold szL
      rw [← k2, List.take_left, List.drop_left]
      exact ⟨kz, mz⟩
  | [], _ :: _, off, n, fuel, cs, hd, hby, hl, h => by simp [dtL] at hd
  | _ :: _, [], off, n, fuel, cs, hd, hby, hl, h => by simp [dtL] at hd
end


theorem open_valZ {d : DT} {t : TypeId} {v : Value} {dd : DataW H} {ps : List MemPlace} (hd : dtB P d t = true) (hby : bysB P bz d t = true) (hw : (dd.weights P t).all (fun n => decide (n ≤ reachBytes)) = true) (hag : d.isAgg = true → ∃ xs, v = .agg xs) (hone : d.isAgg = false → v.oneCell' = true) (h : DataW.Trod enc P W 0 sp held t v dd ps) : ∃ av, okV d av ∧ VRel (GE.start W) av v ∧ szV bz d av := by
  obtain ⟨fuel, h⟩ := h
  obtain ⟨avs, h1, h2, ⟨h3, h4, h5⟩, hz⟩ := open_cellsZ d t fuel _ _ hd hby hw h
  unfold okV szV
  cases he : d.isAgg with
  | true =>
    obtain ⟨xs, rfl⟩ := hag he
    refine ⟨.agg avs, ⟨avs, rfl, h1⟩, .agg _ _ (by simpa [Value.cells] using h3) ?_ ?_, fun us hu => AV.agg.inj hu ▸ hz⟩
    · intro i c x hc hx
      exact h4 i c x hc (by simpa [Value.cells] using hx)
    · intro i x hx
      exact h5 x (List.mem_of_getElem? (by simpa [Value.cells] using hx))
  | false =>
    have e : v.cells.toList = [v] := by
      have := hone he
      cases v <;> first | rfl | simp [Value.oneCell'] at this
    rw [e] at h3 h4
    match avs, h3 with
    | [u], _ => exact ⟨u, h1, h4 0 u v rfl rfl, hz⟩

theorem open_argZ {d : DT} {t : TypeId} {v : Value} {dd : DataW H} {ps : List MemPlace} {r : Reach} {b0 : Nat} (hd : dtB P d t = true) (hby : bysB P bz d t = true) (hw : (dd.weights P t).all (fun n => decide (n ≤ reachBytes)) = true) (hval : Value.okWide P W r b0 t v) (h : DataW.Trod enc P W 0 sp held t v dd ps) : ∃ av, okV d av ∧ VRel (GE.start W) av v ∧ szV bz d av := by
  refine open_valZ hd hby hw ?_ ?_ h
  · intro ha
    cases d with
    | agg n fs =>
      unfold dtB at hd
      split at hd
      · rename_i fields hu
        obtain ⟨cs, h1, _⟩ := Go.WideShapes.okWide_struct hu hval
        exact ⟨cs, h1⟩
      · simp at hd
    | _ => simp [DT.isAgg] at ha
  · intro ha
    cases d with
    | agg => simp [DT.isAgg] at ha
    | int k =>
      unfold dtB at hd
      split at hd
      · rename_i k' hu
        obtain ⟨n, rfl⟩ := Go.WideShapes.okWide_int hu hval
        rfl
      · simp at hd
    | bool =>
      unfold dtB at hd
      split at hd
      · rename_i hu
        obtain ⟨n, rfl⟩ := Go.WideShapes.okWide_bool hu hval
        rfl
      · simp at hd
    | str =>
      unfold dtB at hd
      split at hd
      · rename_i hu
        obtain ⟨n, rfl⟩ := Go.WideShapes.okWide_string hu hval
        rfl
      · simp at hd
    | sl n e =>
      unfold dtB at hd
      split at hd
      · rename_i et hu
        obtain ⟨a, l, c, rfl⟩ := Go.WideShapes.okWide_slice hu hval
        rfl
      · simp at hd


def szVs (bz : Nat → Nat) : List DT → List AV → Prop
  | d :: ds, v :: vs => szV bz d v ∧ szVs bz ds vs
  | _, _ => True
def bysLs (P : Program) (bz : Nat → Nat) : List DT → List TypeId → Bool
  | d :: ds, t :: ts => bysB P bz d t && bysLs P bz ds ts
  | _, _ => true

/-- The arguments of a call. -/
theorem open_argsZ {r : Reach} {b0 : Nat} : ∀ (ds : List DT) (ts : List TypeId) (vs : List Value) (dds : List (DataW H)) (ps : List MemPlace), dtLs P ds ts = true → bysLs P bz ds ts = true → (DataW.weightsEach P ts dds).all (fun n => decide (n ≤ reachBytes)) = true → (∀ (j : Nat) t v, ts[j]? = some t → vs[j]? = some v → Value.okWide P W r b0 t v) →
    DataW.TrodAll enc P W 0 sp held ts vs dds ps → ∃ avs, okVs ds avs ∧ szVs bz ds avs ∧ avs.length = vs.length ∧ ∀ (i : Nat) v x, avs[i]? = some v → vs[i]? = some x → VRel (GE.start W) v x
  | [], [], [], dds, ps, hd, hby, hw, hval, h => ⟨[], trivial, trivial, rfl, by simp⟩
  | d :: ds, t :: ts, v :: vs, dd :: dds, ps, hd, hby, hw, hval, h => by
    simp only [dtLs, Bool.and_eq_true] at hd
    simp only [bysLs, Bool.and_eq_true] at hby
    simp only [DataW.weightsEach, List.all_append, Bool.and_eq_true] at hw
    obtain ⟨p, q, h1, h2, rfl⟩ := h
    obtain ⟨av, k1, k2, kz⟩ := open_argZ hd.1 hby.1 hw.1 (hval 0 t v rfl rfl) h1
    obtain ⟨avs, m1, mz, m2, m3⟩ := open_argsZ ds ts vs dds q hd.2 hby.2 hw.2 (fun j t v ht hv => hval (j + 1) t v (by simpa using ht) (by simpa using hv)) h2
    refine ⟨av :: avs, ⟨k1, m1⟩, ⟨kz, mz⟩, by simp [m2], ?_⟩
    intro i u x hu hx
    cases i with
    | zero => simp at hu hx; subst hu; subst hx; exact k2
    | succ i => exact m3 i u x (by simpa using hu) (by simpa using hx)
  | [], [], _ :: _, dds, ps, hd, hby, hw, hval, h => by simp [DataW.TrodAll] at h
  | d :: ds, t :: ts, [], dds, ps, hd, hby, hw, hval, h => by simp [DataW.TrodAll] at h
  | d :: ds, t :: ts, v :: vs, [], ps, hd, hby, hw, hval, h => by simp [DataW.TrodAll] at h
  | [], _ :: _, vs, dds, ps, hd, hby, hw, hval, h => by simp [dtLs] at hd
  | _ :: _, [], vs, dds, ps, hd, hby, hw, hval, h => by simp [dtLs] at hd
end

mutual
theorem szC_erase : ∀ (d : DT) (cs : List AV), tyC d cs → szC bz d cs → szC bz d (eraseL cs)
  | .int k, cs, _, _ => trivial
  | .bool, cs, _, _ => trivial
  | .str, cs, _, _ => trivial
  | .agg n fs, cs, h, hz => szL_erase fs cs h hz
  | .sl n e, cs, h, hz => by
    rcases h with rfl | ⟨f, p, xs, rfl, hp, hl, hx⟩
    · unfold szC
      intro f p ys hy
      simp [eraseL, erase] at hy
    · unfold szC at hz ⊢
      obtain ⟨h1, h2⟩ := hz f p xs rfl
      intro f' p' ys hy
      simp only [eraseL, erase, List.cons.injEq, AV.inl.injEq, and_true, true_and] at hy
      obtain ⟨-, -, rfl⟩ := hy
      refine ⟨by rw [eraseL_length]; exact h1, ?_⟩
      intro v hv
      have he : eraseL xs = xs.map erase := by
        clear h1 h2 hx hl hz hv
        induction xs with
        | nil => rfl
        | cons a r ih => simp [eraseL, ih]
      rw [he] at hv
      obtain ⟨u, hu, rfl⟩ := List.mem_map.1 hv
      have h3 := h2 u hu
      have h4 := hx u hu
      cases ha : e.isAgg with
      | true =>
        rw [ha] at h3 h4
        obtain ⟨us, rfl, k⟩ := h4
        intro ws hw
        obtain rfl : eraseL us = ws := AV.agg.inj hw
        exact szC_erase e us k (h3 us rfl)
      | false =>
        rw [ha] at h3 h4
        have := szC_erase e [u] h4 h3
        simpa [eraseL] using this
theorem szL_erase : ∀ (ds : List DT) (cs : List AV), tyL ds cs → szL bz ds cs → szL bz ds (eraseL cs)
  | [], cs, _, _ => trivial
  | d :: ds, cs, h, hz => by
    obtain ⟨a, b, rfl, h2, h3, h4⟩ := h
    unfold szL at hz ⊢
    rw [← h2, List.take_left, List.drop_left] at hz
    rw [eraseL_app, ← h2, show a.length = (eraseL a).length from (eraseL_length a).symm, List.take_left, List.drop_left]
    exact ⟨szC_erase d a h3 hz.1, szL_erase ds b h4 hz.2⟩
end
theorem szV_erase {d : DT} {v : AV} (h : tyV d v) (hz : szV bz d v) : szV bz d (erase v) := by
  unfold tyV at h
  unfold szV at hz ⊢
  cases ha : d.isAgg with
  | true =>
    rw [ha] at h hz
    obtain ⟨us, rfl, k⟩ := h
    intro ws hw
    obtain rfl : eraseL us = ws := AV.agg.inj hw
    exact szC_erase d us k (hz us rfl)
  | false =>
    rw [ha] at h hz
    have := szC_erase d [v] h hz
    simpa [eraseL] using this
theorem sz_list {n : Nat} {e : DT} {a : AV} (h : tyV (.sl n e) a) (hz : szV bz (.sl n e) a) : a.listOf.length * bz n ≤ reachBytes ∧ ∀ u ∈ a.listOf, szV bz e u := by
  have h' : tyC (.sl n e) [a] := h
  have hz' : szC bz (.sl n e) [a] := hz
  rcases h' with h1 | ⟨f, p, xs, h1, _, h2, h3⟩
  · simp only [List.cons.injEq, and_true] at h1
    subst h1
    exact ⟨by simp [AV.listOf], by simp [AV.listOf]⟩
  · simp only [List.cons.injEq, and_true] at h1
    subst h1
    unfold szC at hz'
    exact hz' f p xs rfl
theorem fits_bytes {n b : Nat} (h : n * b ≤ reachBytes) (h0 : 0 < b) (h1 : b ≤ 10000) : fitsRoom n b = true := by
  have e : reachBytes = 140737488351232 := by decide
  rw [e] at h
  simp only [fitsRoom, Bool.and_eq_true, decide_eq_true_eq]
  have hn : n ≤ n * b := Nat.le_mul_of_pos_right n h0
  refine ⟨?_, by omega⟩
  have h2 : (n / 2) * b * 2 ≤ n * b := by
    have : n / 2 * 2 ≤ n := Nat.div_mul_le_self n 2
    calc n / 2 * b * 2 = (n / 2 * 2) * b := by rw [Nat.mul_assoc, Nat.mul_comm b 2, ← Nat.mul_assoc]
      _ ≤ n * b := Nat.mul_le_mul_right _ this
  rw [Nat.add_mul, Nat.add_mul]
  omega
end Go.Sx
