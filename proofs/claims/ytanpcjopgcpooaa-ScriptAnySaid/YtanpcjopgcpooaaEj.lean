/- THE ENGINE, 42: a row of bytes that is made a text: its token dies. -/
import Derived.Test.YtanpcjopgcpooaaEg
import Derived.Test.YtanpcjopgcpooaaEc
import Derived.Test.YtanpcjopgcpooaaEi
import Derived.DataReads
import Derived.DataElems
import Derived.WideShapes
set_option linter.unusedSimpArgs false
set_option linter.unusedVariables false
namespace Go.Sx
variable {R : Type} {S : Sys} {P : Program}
structure BldOK (P : Program) (bt el : TypeId) (fc fs : FuncId) : Prop where
  used : ∀ b w, World.cell? w ⟨b, 0, none⟩ = some (.pointer (some ⟨b, 0, none⟩)) → Calls P fc #[.pointer (some ⟨b, 0, none⟩)] w fun e w' => e = .returned (.tuple #[]) ∧ w' = w
  fresh : ∀ b w, World.cell? w ⟨b, 0, none⟩ = some (.pointer none) → w.shape? b = some (bt, 2) → w.frozen? ⟨b, 0, none⟩ = false → Calls P fc #[.pointer (some ⟨b, 0, none⟩)] w fun e w' => e = .returned (.tuple #[]) ∧ w' = w.setCell ⟨b, 0, none⟩ (.pointer (some ⟨b, 0, none⟩))
  str : ∀ (b g off cap : Nat) (p : Value) (cur : Array Value) (fr : Nat × Nat) (l : List UInt8) (w : World), w.heap[b]? = some (.cells #[p, .slice (some ⟨g, off, none⟩) l.length cap] bt fr) → w.heap[g]? = some (.cells cur el (0, 0)) → l ≠ [] → l.length ≤ cap →
    l.length ≤ 9223372036854775807 → off + l.length ≤ cur.size → (∀ j x, l[j]? = some x → w.cell? ((⟨g, off, none⟩ : Addr).add j) = some (.int .u8 x.toNat)) → Calls P fs #[.pointer (some ⟨b, 0, none⟩)] w fun e w' => e = .returned (.string ⟨l.toArray⟩) ∧ w' = w.drew.freeze ⟨g, off, none⟩ l.length
  nils : ∀ (b : Nat) (p : Value) (w : World) (fr : Nat × Nat), w.heap[b]? = some (.cells #[p, .slice none 0 0] bt fr) → Calls P fs #[.pointer (some ⟨b, 0, none⟩)] w fun e w' => e = .returned (.string ⟨#[]⟩) ∧ w' = w.drew
end Go.Sx
/- THE ENGINE, 43: an argument that can be read as data, told as a tree. -/
set_option linter.unusedSimpArgs false
set_option linter.unusedVariables false
namespace Go.Sx
open Go.ChangeShapes
variable {P : Program}
inductive DT where
  | int (k : IntKind)
  | bool
  | str
  | agg (n : Nat) (fs : List DT)
  | sl (n : Nat) (e : DT)
def DT.cells : DT → Nat
  | .agg n _ => n
  | _ => 1
def DT.isAgg : DT → Bool
  | .agg _ _ => true
  | _ => false
mutual
def dtB (P : Program) : DT → TypeId → Bool
  | .int k, t => match P.underlying t with | some (.int k') => decide (k = k') | _ => false
  | .bool, t => match P.underlying t with | some .bool => true | _ => false
  | .str, t => match P.underlying t with | some .string => true | _ => false
  | .agg n fs, t => match P.underlying t with | some (.struct fields) => Nat.beq (P.cellsOf t) n && dtL P fs fields.toList 0 n | _ => false
  | .sl n e, t => match P.underlying t with | some (.slice et) => Nat.beq (P.cellsOf et) n && (Nat.beq n e.cells && dtB P e et) | _ => false
def dtL (P : Program) : List DT → List Field → Nat → Nat → Bool
  | [], [], off, n => Nat.beq off n
  | d :: r, f :: fs, off, n => Nat.beq f.offset off && (Nat.beq (P.cellsOf f.type) d.cells && (dtB P d f.type && dtL P r fs (off + d.cells) n))
  | _, _, _, _ => false
end
mutual
def okC : DT → List AV → Prop
  | .int k, cs => ∃ n, cs = [.int k n] ∧ (Lit.int k n).wf = true
  | .bool, cs => ∃ b, cs = [.bool b]
  | .str, cs => ∃ s, cs = [.str s] ∧ s.length ≤ maxLen
  | .agg _ fs, cs => okL fs cs
  | .sl n e, cs => cs = [.nils] ∨ ∃ xs, cs = [.inl false .unk n xs] ∧ xs.length ≤ maxLen ∧ ∀ v ∈ xs, match e.isAgg with | true => ∃ us, v = .agg us ∧ okC e us | false => okC e [v]
def okL : List DT → List AV → Prop
  | [], cs => cs = []
  | d :: r, cs => ∃ a b, cs = a ++ b ∧ a.length = d.cells ∧ okC d a ∧ okL r b
end
def okV (d : DT) (v : AV) : Prop := match d.isAgg with | true => ∃ us, v = .agg us ∧ okC d us | false => okC d [v]
def Cells (W : World) (avs : List AV) (cs : List Value) : Prop :=
  avs.length = cs.length ∧ (∀ (i : Nat) v c, avs[i]? = some v → cs[i]? = some c → VRel (GE.start W) v c) ∧ (∀ c ∈ cs, c.oneCell' = true)
theorem Cells.one {W : World} {v : AV} {c : Value} (h : VRel (GE.start W) v c) (h1 : c.oneCell' = true) : Cells W [v] [c] := by
  refine ⟨rfl, ?_, by simpa using h1⟩
  intro i u x hu hx
  cases i with
  | zero => simp at hu hx; subst hu; subst hx; exact h
  | succ i => simp at hu
theorem Cells.app {W : World} {a b : List AV} {x y : List Value} (h : Cells W a x) (k : Cells W b y) : Cells W (a ++ b) (x ++ y) := by
  obtain ⟨h1, h2, h3⟩ := h
  obtain ⟨k1, k2, k3⟩ := k
  refine ⟨by simp [h1, k1], ?_, ?_⟩
  · intro i u z hu hz
    rcases Nat.lt_or_ge i a.length with hi | hi
    · rw [List.getElem?_append_left hi] at hu
      rw [List.getElem?_append_left (by omega)] at hz
      exact h2 i u z hu hz
    · rw [List.getElem?_append_right hi] at hu
      rw [List.getElem?_append_right (by omega), ← h1] at hz
      exact k2 _ u z hu hz
  · intro c hc
    rcases List.mem_append.1 hc with hc | hc
    · exact h3 c hc
    · exact k3 c hc
section
variable {H : Type} {enc : TypeId × Value → H} {W : World} {sp : Nat → Bool} {held : Bool}
mutual
theorem open_cells : ∀ (d : DT) (t : TypeId) (fuel : Nat) (cs : List Value) (x : DataW H × List MemPlace), dtB P d t = true → DataW.trod enc P W 0 sp held fuel t cs = some x → ∃ avs, okC d avs ∧ avs.length = d.cells ∧ Cells W avs cs
  | .int k, t, fuel, cs, x, hd, h => by
    unfold dtB at hd
    split at hd
    · rename_i k' hu
      obtain rfl : k = k' := by simpa using hd
      obtain ⟨n, rfl, _, hw⟩ := DataW.trod_int hu h
      exact ⟨[.int k n], ⟨n, rfl, hw⟩, rfl, .one (.int k n) rfl⟩
    · simp at hd
  | .bool, t, fuel, cs, x, hd, h => by
    unfold dtB at hd
    split at hd
    · rename_i hu
      obtain ⟨b, rfl, _⟩ := DataW.trod_bool hu h
      exact ⟨[.bool b], ⟨b, rfl⟩, rfl, .one (.bool b) rfl⟩
    · simp at hd
  | .str, t, fuel, cs, x, hd, h => by
    unfold dtB at hd
    split at hd
    · rename_i hu
      obtain ⟨⟨⟨l⟩⟩, rfl, _, hl⟩ := DataW.trod_string hu h
      exact ⟨[.str l], ⟨l, rfl, hl⟩, rfl, .one (.str l) rfl⟩
    · simp at hd
  | .agg n fs, t, fuel, cs, x, hd, h => by
    unfold dtB at hd
    split at hd
    · rename_i fields hu
      simp only [Bool.and_eq_true] at hd
      obtain ⟨xs, m, rfl, -, hl, hn, hel⟩ := DataW.trod_struct hu h
      have hcn := Nat.eq_of_beq_eq_true hd.1
      obtain ⟨avs, h1, h2, h3⟩ := open_list fs fields.toList 0 n m cs hd.2 (by rw [hl, hcn]) (by
        intro i f hf
        have := hel i f (by simpa using hf)
        have hi : i < xs.length := by
          rw [hn]
          have := (List.getElem?_eq_some_iff.1 hf).1
          simpa using this
        exact ⟨_, this.trans (List.getElem?_eq_getElem hi)⟩)
      refine ⟨avs, h1, ?_, by simpa using h3⟩
      · simpa [DT.cells] using h2
    · simp at hd
  | .sl n e, t, fuel, cs, x, hd, h => by
    unfold dtB at hd
    split at hd
    · rename_i et hu
      simp only [Bool.and_eq_true] at hd
      obtain ⟨hd1, hd2, hd3⟩ := hd
      have hn := Nat.eq_of_beq_eq_true hd1
      have hc := Nat.eq_of_beq_eq_true hd2
      rcases DataW.trod_slice hu h with ⟨rfl, -⟩ | ⟨a, len, cap, elems, rest, m, rfl, rfl, -, hb, hlen, hmax, hel, hget, -, -⟩
      · exact ⟨[.nils], .inl rfl, rfl, .one .nils rfl⟩
      · have key : ∀ i, i < len → ∃ avs us, okC e avs ∧ avs.length = n ∧ us.length = n ∧ (∀ j, j < n → W.cell? (a.add (i * n + j)) = us[j]?) ∧ Cells W avs us := by
          intro i hi
          have := hget i hi
          rw [List.getElem?_eq_getElem (by omega)] at this
          obtain ⟨us, hu1, hu2⟩ := Option.bind_eq_some_iff.1 this
          obtain ⟨avs, k1, k2, k3⟩ := open_cells e et m us _ hd3 hu2
          obtain ⟨h5, h6⟩ := World.cells?_some hu1
          refine ⟨avs, us, k1, by rw [k2, hc], by rw [← k3.1, k2, hc], ?_, k3⟩
          intro j hj
          rw [hn] at hu1 h6
          have := h6.2 j hj
          rw [Addr.add_add] at this
          exact this
        let F (i : Nat) : List AV := if hi : i < len then (key i hi).choose else []
        let U (i : Nat) : List Value := if hi : i < len then (key i hi).choose_spec.choose else []
        have hF : ∀ i (hi : i < len), okC e (F i) ∧ (F i).length = n ∧ (U i).length = n ∧ (∀ j, j < n → W.cell? (a.add (i * n + j)) = (U i)[j]?) ∧ Cells W (F i) (U i) := by
          intro i hi
          have := (key i hi).choose_spec.choose_spec
          simp only [F, U, hi, dite_true]
          exact this
        let V (i : Nat) : AV := match e.isAgg with | true => .agg (F i) | false => (F i).headD .top
        have hV : ∀ i, i < len → (V i).cells = F i := by
          intro i hi
          simp only [V]
          cases he : e.isAgg with
          | true => rfl
          | false =>
            have h1 : (F i).length = 1 := by
              rw [(hF i hi).2.1, hc]
              cases e with
              | agg => simp [DT.isAgg] at he
              | _ => rfl
            have h2 := (hF i hi).1
            match hx : F i, h1 with
            | [v], _ =>
              simp only [List.headD_cons]
              rw [hx] at h2
              cases e with
              | agg => simp [DT.isAgg] at he
              | int k => obtain ⟨n, h, _⟩ := h2; simp at h; subst h; rfl
              | bool => obtain ⟨n, h⟩ := h2; simp at h; subst h; rfl
              | str => obtain ⟨n, h, _⟩ := h2; simp at h; subst h; rfl
              | sl m e =>
                rcases h2 with h | ⟨ys, h, _⟩
                · simp at h; subst h; rfl
                · simp at h; subst h; rfl
        refine ⟨[.inl false .unk n ((List.range len).map V)], .inr ⟨_, rfl, by simp; omega, ?_⟩, rfl, .one ?_ rfl⟩
        · intro v hv
          obtain ⟨i, hi, rfl⟩ := List.mem_map.1 hv
          have hi := List.mem_range.1 hi
          have h1 := (hF i hi).1
          cases he : e.isAgg with
          | true =>
            simp only [V, he]
            exact ⟨F i, rfl, h1⟩
          | false =>
            have h2 := hV i hi
            simp only [V, he] at h2 ⊢
            have h3 : (F i).length = 1 := by
              rw [(hF i hi).2.1, hc]
              cases e with
              | agg => simp [DT.isAgg] at he
              | _ => rfl
            match hx : F i, h3 with
            | [v], _ =>
              simp only [List.headD_cons]
              rw [← hx]; exact h1
        · have hlenm : ((List.range len).map V).length = len := by simp
          have := VRel.inl (E := GE.start W) false .unk n ((List.range len).map V) a cap (fun i j => (U i).getD j .nilFunc) ?_ ?_ ?_ (by simpa using hlen) (by simp) trivial
          · rw [hlenm] at this; exact this
          · intro v hv
            obtain ⟨i, hi, rfl⟩ := List.mem_map.1 hv
            have hi := List.mem_range.1 hi
            rw [hV i hi]; exact (hF i hi).2.1
          · intro i j hi hj
            rw [hlenm] at hi
            obtain ⟨-, -, q3, q4, q5⟩ := hF i hi
            have hju : j < (U i).length := by omega
            have e1 : (U i)[j]? = some ((U i).getD j .nilFunc) := by
              rw [List.getElem?_eq_getElem hju]; simp [List.getD, hju]
            have e2 : W.cell? (a.add (i * n + j)) = some ((U i).getD j .nilFunc) := (q4 j hj).trans e1
            refine ⟨e2, q5.2.2 _ (List.mem_of_getElem? e1), ?_⟩
            show (W.cell? ⟨a.block, a.off + (i * n + j), none⟩).isSome = true
            rw [← addr_of_cell e2, e2]; rfl
          · intro i v j c hv hcell
            have hi : i < len := by
              have := (List.getElem?_eq_some_iff.1 hv).1
              simpa using this
            have : ((List.range len).map V)[i]? = some (V i) := by simp [hi]
            rw [this] at hv
            obtain rfl := Option.some.inj hv
            rw [hV i hi] at hcell
            obtain ⟨-, q2, q3, -, q5⟩ := hF i hi
            have hj : j < (F i).length := (List.getElem?_eq_some_iff.1 hcell).1
            have hju : j < (U i).length := by omega
            have e1 : (U i)[j]? = some ((U i).getD j .nilFunc) := by
              rw [List.getElem?_eq_getElem hju]; simp [List.getD, hju]
            exact q5.2.1 j _ _ hcell e1
    · simp at hd
theorem open_list : ∀ (ds : List DT) (fs : List Field) (off n fuel : Nat) (cs : List Value), dtL P ds fs off n = true → cs.length = n → (∀ (i : Nat) f, fs[i]? = some f → ∃ x, DataW.trod enc P W 0 sp held fuel f.type ((cs.drop f.offset).take (P.cellsOf f.type)) = some x) →
    ∃ avs, okL ds avs ∧ avs.length + off = n ∧ Cells W avs (cs.drop off)
  | [], [], off, n, fuel, cs, hd, hl, h => by
    unfold dtL at hd
    obtain rfl := Nat.eq_of_beq_eq_true hd
    have : cs.drop off = [] := by rw [← hl]; simp
    rw [this]
    refine ⟨[], by unfold okL; rfl, by simp, rfl, by simp, by simp⟩
  | d :: ds, f :: fs, off, n, fuel, cs, hd, hl, h => by
    unfold dtL at hd
    simp only [Bool.and_eq_true] at hd
    obtain ⟨h1, h2, h3, h4⟩ := hd
    have e1 := Nat.eq_of_beq_eq_true h1
    have e2 := Nat.eq_of_beq_eq_true h2
    obtain ⟨x, hx⟩ := h 0 f rfl
    rw [e1, e2] at hx
    obtain ⟨a, k1, k2, k3⟩ := open_cells d f.type fuel _ x h3 hx
    obtain ⟨b, m1, m2, m3⟩ := open_list ds fs (off + d.cells) n fuel cs h4 hl (fun i g hg => h (i + 1) g (by simpa using hg))
    have e3 : cs.drop off = (cs.drop off).take d.cells ++ cs.drop (off + d.cells) := by
      rw [← List.drop_drop]; exact (List.take_append_drop _ _).symm
    rw [e3]
    refine ⟨a ++ b, ?_, by simp only [List.length_append]; omega, k3.app m3⟩
    unfold okL
    exact ⟨a, b, rfl, k2, k1, m1⟩
  | [], _ :: _, off, n, fuel, cs, hd, hl, h => by simp [dtL] at hd
  | _ :: _, [], off, n, fuel, cs, hd, hl, h => by simp [dtL] at hd
end
theorem open_val {d : DT} {t : TypeId} {v : Value} {dd : DataW H} {ps : List MemPlace} (hd : dtB P d t = true) (hag : d.isAgg = true → ∃ xs, v = .agg xs) (hone : d.isAgg = false → v.oneCell' = true) (h : DataW.Trod enc P W 0 sp held t v dd ps) : ∃ av, okV d av ∧ VRel (GE.start W) av v := by
  obtain ⟨fuel, h⟩ := h
  obtain ⟨avs, h1, h2, h3, h4, h5⟩ := open_cells d t fuel _ _ hd h
  unfold okV
  cases he : d.isAgg with
  | true =>
    obtain ⟨xs, rfl⟩ := hag he
    refine ⟨.agg avs, ⟨avs, rfl, h1⟩, .agg _ _ (by simpa [Value.cells] using h3) ?_ ?_⟩
    · intro i c x hc hx
      exact h4 i c x hc (by simpa [Value.cells] using hx)
    · intro i x hx
      exact h5 x (List.mem_of_getElem? (by simpa [Value.cells] using hx))
  | false =>
    have e : v.cells.toList = [v] := by
      have := hone he
      cases v <;> first | rfl | simp [Value.oneCell'] at this
    rw [e] at h3 h4
    match avs, h3 with
    | [u], _ => exact ⟨u, h1, h4 0 u v rfl rfl⟩
theorem open_arg {d : DT} {t : TypeId} {v : Value} {dd : DataW H} {ps : List MemPlace} {r : Reach} {b0 : Nat} (hd : dtB P d t = true) (hval : Value.okWide P W r b0 t v) (h : DataW.Trod enc P W 0 sp held t v dd ps) : ∃ av, okV d av ∧ VRel (GE.start W) av v := by
  refine open_val hd ?_ ?_ h
  · intro ha
    cases d with
    | agg n fs =>
      unfold dtB at hd
      split at hd
      · rename_i fields hu
        obtain ⟨cs, h1, _⟩ := Go.WideShapes.okWide_struct hu hval
        exact ⟨cs, h1⟩
      · simp at hd
    | _ => simp [DT.isAgg] at ha
  · intro ha
    cases d with
    | agg => simp [DT.isAgg] at ha
    | int k =>
      unfold dtB at hd
      split at hd
      · rename_i k' hu
        obtain ⟨n, rfl⟩ := Go.WideShapes.okWide_int hu hval
        rfl
      · simp at hd
    | bool =>
      unfold dtB at hd
      split at hd
      · rename_i hu
        obtain ⟨n, rfl⟩ := Go.WideShapes.okWide_bool hu hval
        rfl
      · simp at hd
    | str =>
      unfold dtB at hd
      split at hd
      · rename_i hu
        obtain ⟨n, rfl⟩ := Go.WideShapes.okWide_string hu hval
        rfl
      · simp at hd
    | sl n e =>
      unfold dtB at hd
      split at hd
      · rename_i et hu
        obtain ⟨a, l, c, rfl⟩ := Go.WideShapes.okWide_slice hu hval
        rfl
      · simp at hd
def okVs : List DT → List AV → Prop
  | [], [] => True
  | d :: ds, v :: vs => okV d v ∧ okVs ds vs
  | _, _ => False
def dtLs (P : Program) : List DT → List TypeId → Bool
  | [], [] => true
  | d :: ds, t :: ts => dtB P d t && dtLs P ds ts
  | _, _ => false
theorem okVs0 {avs : List AV} (h : okVs [] avs) : avs = [] := by
  cases avs with
  | nil => rfl
  | cons v r => exact h.elim
theorem okVsC {d : DT} {ds : List DT} {avs : List AV} (h : okVs (d :: ds) avs) : ∃ v r, avs = v :: r ∧ okV d v ∧ okVs ds r := by
  cases avs with
  | nil => exact h.elim
  | cons v r => exact ⟨v, r, rfl, h.1, h.2⟩
theorem open_args {r : Reach} {b0 : Nat} : ∀ (ds : List DT) (ts : List TypeId) (vs : List Value) (dds : List (DataW H)) (ps : List MemPlace), dtLs P ds ts = true → (∀ (j : Nat) t v, ts[j]? = some t → vs[j]? = some v → Value.okWide P W r b0 t v) →
    DataW.TrodAll enc P W 0 sp held ts vs dds ps → ∃ avs, okVs ds avs ∧ avs.length = vs.length ∧ ∀ (i : Nat) v x, avs[i]? = some v → vs[i]? = some x → VRel (GE.start W) v x
  | [], [], [], dds, ps, hd, hval, h => ⟨[], trivial, rfl, by simp⟩
  | d :: ds, t :: ts, v :: vs, dd :: dds, ps, hd, hval, h => by
    simp only [dtLs, Bool.and_eq_true] at hd
    obtain ⟨p, q, h1, h2, rfl⟩ := h
    obtain ⟨av, k1, k2⟩ := open_arg hd.1 (hval 0 t v rfl rfl) h1
    obtain ⟨avs, m1, m2, m3⟩ := open_args ds ts vs dds q hd.2 (fun j t v ht hv => hval (j + 1) t v (by simpa using ht) (by simpa using hv)) h2
    refine ⟨av :: avs, ⟨k1, m1⟩, by simp [m2], ?_⟩
    intro i u x hu hx
    cases i with
    | zero => simp at hu hx; subst hu; subst hx; exact k2
    | succ i => exact m3 i u x (by simpa using hu) (by simpa using hx)
  | [], [], _ :: _, dds, ps, hd, hval, h => by simp [DataW.TrodAll] at h
  | d :: ds, t :: ts, [], dds, ps, hd, hval, h => by simp [DataW.TrodAll] at h
  | d :: ds, t :: ts, v :: vs, [], ps, hd, hval, h => by simp [DataW.TrodAll] at h
  | [], _ :: _, vs, dds, ps, hd, hval, h => by simp [dtLs] at hd
  | _ :: _, [], vs, dds, ps, hd, hval, h => by simp [dtLs] at hd
end
end Go.Sx
/- THE ENGINE, 45: trees that are data: their shapes, whatever the flags of their slices; what a call makes of them. -/
set_option linter.unusedSimpArgs false
set_option linter.unusedVariables false
namespace Go.Sx
variable {R : Type} {S : Sys}
def Spare.noTok : Spare → Bool
  | .tok _ _ => false
  | _ => true
mutual
def nrm : AV → AV
  | .inl _ _ _ xs => .inl false .unk 0 (nrmL xs)
  | .nils => .inl false .unk 0 []
  | .agg cs => .agg (nrmL cs)
  | v => v
def nrmL : List AV → List AV
  | [] => []
  | v :: r => nrm v :: nrmL r
end
mutual
def tyC : DT → List AV → Prop
  | .int k, cs => ∃ n, cs = [.int k n] ∧ (Lit.int k n).wf = true
  | .bool, cs => ∃ b, cs = [.bool b]
  | .str, cs => ∃ s, cs = [.str s] ∧ s.length ≤ maxLen
  | .agg _ fs, cs => tyL fs cs
  | .sl n e, cs => cs = [.nils] ∨ ∃ f p xs, cs = [.inl f p n xs] ∧ p.noTok = true ∧ xs.length ≤ maxLen ∧ ∀ v ∈ xs, match e.isAgg with | true => ∃ us, v = .agg us ∧ tyC e us | false => tyC e [v]
def tyL : List DT → List AV → Prop
  | [], cs => cs = []
  | d :: r, cs => ∃ a b, cs = a ++ b ∧ a.length = d.cells ∧ tyC d a ∧ tyL r b
end
mutual
theorem ok_ty : ∀ (d : DT) (cs : List AV), okC d cs → tyC d cs
  | .int k, cs, h => h
  | .bool, cs, h => h
  | .str, cs, h => h
  | .agg n fs, cs, h => ok_tyL fs cs h
  | .sl n e, cs, h => by
    rcases h with h | ⟨xs, h1, h2, h3⟩
    · exact .inl h
    · refine .inr ⟨false, .unk, xs, h1, rfl, h2, fun v hv => ?_⟩
      have := h3 v hv
      cases he : e.isAgg with
      | true =>
        rw [he] at this
        obtain ⟨us, k1, k2⟩ := this
        exact ⟨us, k1, ok_ty e us k2⟩
      | false =>
        rw [he] at this
        exact ok_ty e [v] this
theorem ok_tyL : ∀ (ds : List DT) (cs : List AV), okL ds cs → tyL ds cs
  | [], cs, h => h
  | d :: ds, cs, h => by
    obtain ⟨a, b, h1, h2, h3, h4⟩ := h
    exact ⟨a, b, h1, h2, ok_ty d a h3, ok_tyL ds b h4⟩
end
theorem belowL_app (n m : Nat) : ∀ (a b : List AV), belowL n m (a ++ b) = (belowL n m a && belowL n m b)
  | [], b => by simp [belowL]
  | v :: a, b => by simp [belowL, belowL_app n m a b, Bool.and_assoc]
theorem eraseL_app : ∀ (a b : List AV), eraseL (a ++ b) = eraseL a ++ eraseL b
  | [], b => rfl
  | v :: a, b => by simp [eraseL, eraseL_app a b]
theorem nrmL_app : ∀ (a b : List AV), nrmL (a ++ b) = nrmL a ++ nrmL b
  | [], b => rfl
  | v :: a, b => by simp [nrmL, nrmL_app a b]
theorem detokL_app : ∀ (a b : List AV), detokL (a ++ b) = detokL a ++ detokL b
  | [], b => rfl
  | v :: a, b => by simp [detokL, detokL_app a b]
theorem resolveCs_app (H : AH) : ∀ (a b : List AV), resolveCs H a = some a → resolveCs H b = some b → resolveCs H (a ++ b) = some (a ++ b)
  | [], b, _, h => h
  | v :: a, b, h, k => by
    simp only [resolveCs, List.cons_append] at h ⊢
    split at h
    · rename_i x xs h1 h2
      simp only [Option.some.injEq, List.cons.injEq] at h
      obtain ⟨rfl, rfl⟩ := h
      rw [h1, resolveCs_app H _ _ h2 k]
    · simp at h
theorem nrmL_length : ∀ (a : List AV), (nrmL a).length = a.length
  | [] => rfl
  | v :: a => by simp [nrmL, nrmL_length a]
structure DataL (cs : List AV) : Prop where
  below : ∀ n m, belowL n m cs = true
  res : ∀ H, resolveCs H cs = some cs
  nrm : nrmL (eraseL cs) = nrmL cs
  detok : detokL cs = cs
  ebelow : ∀ n m, belowL n m (eraseL cs) = true
theorem DataL.app {a b : List AV} (h : DataL a) (k : DataL b) : DataL (a ++ b) :=
  ⟨fun n m => by rw [belowL_app, h.below, k.below]; rfl, fun H => resolveCs_app H a b (h.res H) (k.res H), by rw [eraseL_app, nrmL_app, nrmL_app, h.nrm, k.nrm], by rw [detokL_app, h.detok, k.detok], fun n m => by rw [eraseL_app, belowL_app, h.ebelow, k.ebelow]; rfl⟩
theorem dataL_list : ∀ (xs : List AV), (∀ v ∈ xs, (∃ us, v = .agg us ∧ DataL us) ∨ DataL [v]) → (∀ n m, belowL n m xs = true) ∧ nrmL (eraseL xs) = nrmL xs ∧ detokL xs = xs ∧ (∀ n m, belowL n m (eraseL xs) = true)
  | [], _ => ⟨fun _ _ => rfl, rfl, rfl, fun _ _ => rfl⟩
  | v :: xs, h => by
    obtain ⟨h1, h2, h3, h4⟩ := dataL_list xs (fun u hu => h u (by simp [hu]))
    rcases h v (by simp) with ⟨us, rfl, k⟩ | k
    · refine ⟨fun n m => ?_, ?_, ?_, fun n m => ?_⟩
      · simp only [belowL, Go.Sx.below, k.below, h1]; rfl
      · simp only [eraseL, erase, nrmL, Go.Sx.nrm, k.nrm, h2]
      · simp only [detokL, Go.Sx.detok, k.detok, h3]
      · simp only [eraseL, erase, belowL, Go.Sx.below, k.ebelow, h4]; rfl
    · refine ⟨fun n m => ?_, ?_, ?_, fun n m => ?_⟩
      · have := k.below n m
        simp only [belowL, Bool.and_true] at this
        simp only [belowL, this, h1]; rfl
      · have := k.nrm
        simp only [eraseL, nrmL, List.cons.injEq, and_true] at this
        simp only [eraseL, nrmL, this, h2]
      · have := k.detok
        simp only [detokL, List.cons.injEq, and_true] at this
        simp only [detokL, this, h3]
      · have := k.ebelow n m
        simp only [eraseL, belowL, Bool.and_true] at this
        simp only [eraseL, belowL, this, h4]; rfl
theorem noTok_detok {p : Spare} (h : p.noTok = true) : p.detok = p := by
  cases p <;> first | rfl | simp [Spare.noTok] at h
mutual
theorem ty_data : ∀ (d : DT) (cs : List AV), tyC d cs → DataL cs
  | .int k, cs, h => by
    obtain ⟨n, rfl, _⟩ := h
    exact ⟨fun _ _ => rfl, fun _ => rfl, rfl, rfl, fun _ _ => rfl⟩
  | .bool, cs, h => by
    obtain ⟨n, rfl⟩ := h
    exact ⟨fun _ _ => rfl, fun _ => rfl, rfl, rfl, fun _ _ => rfl⟩
  | .str, cs, h => by
    obtain ⟨n, rfl, _⟩ := h
    exact ⟨fun _ _ => rfl, fun _ => rfl, rfl, rfl, fun _ _ => rfl⟩
  | .agg n fs, cs, h => ty_dataL fs cs h
  | .sl n e, cs, h => by
    rcases h with rfl | ⟨f, p, xs, rfl, hp, -, hx⟩
    · exact ⟨fun _ _ => rfl, fun _ => rfl, rfl, rfl, fun _ _ => rfl⟩
    · have : ∀ v ∈ xs, (∃ us, v = .agg us ∧ DataL us) ∨ DataL [v] := by
        intro v hv
        have := hx v hv
        cases he : e.isAgg with
        | true =>
          rw [he] at this
          obtain ⟨us, k1, k2⟩ := this
          exact .inl ⟨us, k1, ty_data e us k2⟩
        | false =>
          rw [he] at this
          exact .inr (ty_data e [v] this)
      obtain ⟨h1, h2, h3, h4⟩ := dataL_list xs this
      refine ⟨fun a b => ?_, fun _ => rfl, ?_, ?_, fun a b => ?_⟩
      · simp only [belowL, Go.Sx.below, h1, Bool.and_true]
        cases p <;> first | rfl | simp [Spare.noTok] at hp
      · simp only [eraseL, erase, nrmL, Go.Sx.nrm, h2]
      · simp only [detokL, Go.Sx.detok, h3, noTok_detok hp]
      · simp only [eraseL, erase, belowL, Go.Sx.below, h4, Bool.and_true]
theorem ty_dataL : ∀ (ds : List DT) (cs : List AV), tyL ds cs → DataL cs
  | [], cs, h => by
    obtain rfl : cs = [] := h
    exact ⟨fun _ _ => rfl, fun _ => rfl, rfl, rfl, fun _ _ => rfl⟩
  | d :: ds, cs, h => by
    obtain ⟨a, b, rfl, -, h3, h4⟩ := h
    exact (ty_data d a h3).app (ty_dataL ds b h4)
end
mutual
theorem ty_erase : ∀ (d : DT) (cs : List AV), tyC d cs → tyC d (eraseL cs)
  | .int k, cs, h => by
    obtain ⟨n, rfl, hw⟩ := h
    exact ⟨n, rfl, hw⟩
  | .bool, cs, h => by
    obtain ⟨n, rfl⟩ := h
    exact ⟨n, rfl⟩
  | .str, cs, h => by
    obtain ⟨n, rfl, hw⟩ := h
    exact ⟨n, rfl, hw⟩
  | .agg n fs, cs, h => ty_eraseL fs cs h
  | .sl n e, cs, h => by
    rcases h with rfl | ⟨f, p, xs, rfl, hp, hl, hx⟩
    · exact .inl rfl
    · refine .inr ⟨false, .unk, eraseL xs, rfl, rfl, by rw [eraseL_length]; exact hl, ?_⟩
      clear hl
      induction xs with
      | nil => intro v hv; simp [eraseL] at hv
      | cons u xs ih =>
        intro v hv
        rw [eraseL, List.mem_cons] at hv
        rcases hv with rfl | hv
        · have := hx u (by simp)
          cases he : e.isAgg with
          | true =>
            rw [he] at this
            obtain ⟨us, rfl, k2⟩ := this
            exact ⟨eraseL us, rfl, ty_erase e us k2⟩
          | false =>
            rw [he] at this
            have := ty_erase e [u] this
            simpa [eraseL] using this
        · exact ih (fun w hw => hx w (by simp [hw])) v hv
theorem ty_eraseL : ∀ (ds : List DT) (cs : List AV), tyL ds cs → tyL ds (eraseL cs)
  | [], cs, h => by
    obtain rfl : cs = [] := h
    rfl
  | d :: ds, cs, h => by
    obtain ⟨a, b, rfl, h2, h3, h4⟩ := h
    exact ⟨eraseL a, eraseL b, eraseL_app a b, by rw [eraseL_length]; exact h2, ty_erase d a h3, ty_eraseL ds b h4⟩
end
mutual
def DT.sh : DT → List Sh
  | .int k => [.int k]
  | .bool => [.bool]
  | .str => [.str]
  | .agg _ fs => DT.shL fs
  | .sl _ _ => [.any]
def DT.shL : List DT → List Sh
  | [] => []
  | d :: r => d.sh ++ DT.shL r
def DT.flat : DT → Bool
  | .agg _ fs => DT.flatL fs
  | .sl _ _ => false
  | _ => true
def DT.flatL : List DT → Bool
  | [] => true
  | d :: r => d.flat && DT.flatL r
end
theorem fitL_app : ∀ (s t : List Sh) (a b : List AV), fitL s a = true → fitL t b = true → fitL (s ++ t) (a ++ b) = true
  | [], t, [], b, _, h => h
  | s :: ss, t, v :: a, b, h, k => by
    simp only [fitL, Bool.and_eq_true] at h
    simp only [List.cons_append, fitL, h.1, fitL_app ss t a b h.2 k]; rfl
  | [], t, _ :: _, b, h, k => by simp [fitL] at h
  | _ :: _, t, [], b, h, k => by simp [fitL] at h
mutual
theorem ty_fitC : ∀ (d : DT) (cs : List AV), tyC d cs → fitL d.sh cs = true
  | .int k, cs, h => by
    obtain ⟨n, rfl, _⟩ := h
    simp [DT.sh, fitL, fitS]
  | .bool, cs, h => by
    obtain ⟨n, rfl⟩ := h
    rfl
  | .str, cs, h => by
    obtain ⟨n, rfl, _⟩ := h
    rfl
  | .agg n fs, cs, h => ty_fitL fs cs h
  | .sl n e, cs, h => by
    rcases h with rfl | ⟨f, p, xs, rfl, _⟩ <;> rfl
theorem ty_fitL : ∀ (ds : List DT) (cs : List AV), tyL ds cs → fitL (DT.shL ds) cs = true
  | [], cs, h => by
    obtain rfl : cs = [] := h
    rfl
  | d :: ds, cs, h => by
    obtain ⟨a, b, rfl, -, h3, h4⟩ := h
    exact fitL_app _ _ a b (ty_fitC d a h3) (ty_fitL ds b h4)
end
mutual
theorem flatC : ∀ (d : DT) (cs : List AV), d.flat = true → tyC d cs → nrmL cs = cs
  | .int k, cs, _, h => by
    obtain ⟨n, rfl, _⟩ := h
    rfl
  | .bool, cs, _, h => by
    obtain ⟨n, rfl⟩ := h
    rfl
  | .str, cs, _, h => by
    obtain ⟨n, rfl, _⟩ := h
    rfl
  | .agg n fs, cs, hf, h => flatL fs cs hf h
  | .sl n e, cs, hf, h => by simp [DT.flat] at hf
theorem flatL : ∀ (ds : List DT) (cs : List AV), DT.flatL ds = true → tyL ds cs → nrmL cs = cs
  | [], cs, _, h => by
    obtain rfl : cs = [] := h
    rfl
  | d :: ds, cs, hf, h => by
    simp only [DT.flatL, Bool.and_eq_true] at hf
    obtain ⟨a, b, rfl, -, h3, h4⟩ := h
    rw [nrmL_app, flatC d a hf.1 h3, flatL ds b hf.2 h4]
end
mutual
def bnd (B : Nat) : AV → Bool
  | .inl _ _ _ xs => Nat.ble xs.length B && bndL B xs
  | .agg cs => bndL B cs
  | _ => true
def bndL (B : Nat) : List AV → Bool
  | [] => true
  | v :: r => bnd B v && bndL B r
end
mutual
theorem bnd_nrm (B : Nat) : ∀ v, bnd B (nrm v) = bnd B v
  | .inl f p sz xs => by simp only [nrm, bnd, nrmL_length, bnd_nrmL B xs]
  | .agg cs => by simp only [nrm, bnd, bnd_nrmL B cs]
  | .nils => by simp [nrm, bnd, bndL]
  | .top | .bool _ | .int _ _ | .str _ | .ptr _ _ | .nilptr | .rop _ | .sl _ _ _ _ _ _ | .map _ | .nilmap | .func _ _ _ | .nilfunc | .iface _ _ | .niliface | .tuple _ => rfl
theorem bnd_nrmL (B : Nat) : ∀ l, bndL B (nrmL l) = bndL B l
  | [] => rfl
  | v :: r => by simp only [nrmL, bndL, bnd_nrm B v, bnd_nrmL B r]
end
mutual
theorem bnd_flatC {B : Nat} : ∀ (d : DT) (cs : List AV), d.flat = true → tyC d cs → bndL B cs = true
  | .int k, cs, _, h => by
    obtain ⟨n, rfl, _⟩ := h
    rfl
  | .bool, cs, _, h => by
    obtain ⟨n, rfl⟩ := h
    rfl
  | .str, cs, _, h => by
    obtain ⟨n, rfl, _⟩ := h
    rfl
  | .agg n fs, cs, hf, h => bnd_flatL fs cs hf h
  | .sl n e, cs, hf, h => by simp [DT.flat] at hf
theorem bnd_flatL {B : Nat} : ∀ (ds : List DT) (cs : List AV), DT.flatL ds = true → tyL ds cs → bndL B cs = true
  | [], cs, _, h => by
    obtain rfl : cs = [] := h
    rfl
  | d :: ds, cs, hf, h => by
    simp only [DT.flatL, Bool.and_eq_true] at hf
    obtain ⟨a, b, rfl, -, h3, h4⟩ := h
    have app : ∀ (x y : List AV), bndL B (x ++ y) = (bndL B x && bndL B y) := by
      intro x y
      induction x with
      | nil => simp [bndL]
      | cons v r ih => simp [bndL, ih, Bool.and_assoc]
    rw [app, bnd_flatC d a hf.1 h3, bnd_flatL ds b hf.2 h4]; rfl
end
end Go.Sx
namespace Go.Sx
variable {S : Sys}
end Go.Sx
/- THE ENGINE, 46: code cut into pieces, each with what follows it. -/
set_option linter.unusedSimpArgs false
set_option linter.unusedVariables false
namespace Go.Sx
variable {R : Type} {S : Sys}
theorem resetV_self (v : AV) : resetV v v = v := by cases v <;> rfl
end Go.Sx
