/- THE ENGINE, 20: what is forgotten. -/
import Derived.Test.YtoagnbpmoihojaaDoorSxSound15
set_option linter.unusedSimpArgs false
set_option linter.unusedVariables false
namespace Go.Sx
variable {S : Sys} {P : Program} {R : Type}

def GE.cut (E : GE) (n m : Nat) : GE := { E with nid := n, nt := m }

theorem belowL_get {n m : Nat} : ∀ (vs : List AV), belowL n m vs = true → ∀ (i : Nat) v, vs[i]? = some v → below n m v = true
  | [], _, i, v, h => by simp at h
  | u :: vs, h, 0, v, hv => by
    simp only [belowL, Bool.and_eq_true] at h
    simp only [List.getElem?_cons_zero, Option.some.injEq] at hv
    subst hv; exact h.1
  | u :: vs, h, i + 1, v, hv => by
    simp only [belowL, Bool.and_eq_true] at h
    exact belowL_get vs h.2 i v (by simpa using hv)

theorem below_cells {n m : Nat} {v : AV} (h : below n m v = true) : ∀ (i : Nat) c, v.cells[i]? = some c → below n m c = true := by
  intro i c hc
  by_cases ha : ∃ cs, v = .agg cs
  · obtain ⟨cs, rfl⟩ := ha
    simp only [below] at h
    exact belowL_get cs h i c hc
  · have hv : v.cells = [v] := by cases v <;> simp_all [AV.cells]
    rw [hv] at hc
    cases i with
    | zero => simp at hc; subst hc; exact h
    | succ i => simp at hc

theorem VRel.cut {E : GE} {n m : Nat} {v : AV} {x : Value} (hv : VRel E v x) (hb : Go.Sx.below n m v = true) : VRel (E.cut n m) v x := by
  revert hb
  induction hv with
  | top v => exact fun _ => .top v
  | bool b => exact fun _ => .bool b
  | int k n => exact fun _ => .int k n
  | str s => exact fun _ => .str s
  | ptr id off b hid h => intro hb; simp only [Go.Sx.below, decide_eq_true_eq] at hb; exact .ptr id off b hb h
  | nilptr => exact fun _ => .nilptr
  | rop v a x hx hr ih => intro hb; exact .rop v a x hx (fun j c hc => ih j c hc (below_cells (v := v) hb j c hc))
  | nils => exact fun _ => .nils
  | inl f p sz xs a cap x hsz hx hr hcap hf hp ih =>
    intro hb
    simp only [Go.Sx.below, Bool.and_eq_true] at hb
    refine .inl f p sz xs a cap x hsz hx (fun i v j c hi hc => ih i v j c hi hc (below_cells (belowL_get xs hb.2 i v hi) j c hc)) hcap hf ?_
    cases p with
    | unk => trivial
    | zero => exact hp
    | tok t g => exact ⟨show t < m by simpa using hb.1, hp.2.1, hp.2.2⟩
  | sl id off len cap sz ag b c hid h hl hc hag => intro hb; simp only [Go.Sx.below, decide_eq_true_eq] at hb; exact .sl id off len cap sz ag b c hb h hl hc hag
  | map id b hid h => intro hb; simp only [Go.Sx.below, decide_eq_true_eq] at hb; exact .map id b hb h
  | nilmap => exact fun _ => .nilmap
  | func fn as bs xs ys hfn h1 _ h3 _ ih2 ih4 =>
    intro hb
    have hb' : belowL n m as = true ∧ belowL n m bs = true := by
      unfold Go.Sx.below at hb
      split at hb <;> simp_all
    exact .func fn as bs xs ys hfn h1 (fun i v x a b => ih2 i v x a b (belowL_get as hb'.1 i v a)) h3 (fun i v x a b => ih4 i v x a b (belowL_get bs hb'.2 i v a))
  | yield id b hid h => intro hb; simp only [Go.Sx.below, Bool.and_eq_true, decide_eq_true_eq] at hb; exact .yield id b hb.1 h
  | nilfunc => exact fun _ => .nilfunc
  | iface t v x _ ih => intro hb; exact .iface t v x (ih hb)
  | niliface => exact fun _ => .niliface
  | agg cs xs h1 _ h3 ih => intro hb; exact .agg cs xs h1 (fun i v x a b => ih i v x a b (belowL_get cs hb i v a)) h3
  | tuple vs xs h1 _ ih => intro hb; exact .tuple vs xs h1 (fun i v x a b => ih i v x a b (belowL_get vs hb i v a))

theorem belowE_get {n m : Nat} : ∀ (es : List (AV × AV)), belowE n m es = true → ∀ (i : Nat) e, es[i]? = some e → below n m e.1 = true ∧ below n m e.2 = true
  | [], _, i, v, h => by simp at h
  | u :: vs, h, 0, v, hv => by
    simp only [belowE, Bool.and_eq_true] at h
    simp only [List.getElem?_cons_zero, Option.some.injEq] at hv
    subst hv; exact ⟨h.1, h.2.1⟩
  | u :: vs, h, i + 1, v, hv => by
    simp only [belowE, Bool.and_eq_true] at h
    exact belowE_get vs h.2.2 i v (by simpa using hv)

theorem belowO_get {n m : Nat} : ∀ (os : List AObj), belowO n m os = true → ∀ (i : Nat) o, os[i]? = some o → o.below n m = true
  | [], _, i, v, h => by simp at h
  | u :: vs, h, 0, v, hv => by
    simp only [belowO, Bool.and_eq_true] at h
    simp only [List.getElem?_cons_zero, Option.some.injEq] at hv
    subst hv; exact h.1
  | u :: vs, h, i + 1, v, hv => by
    simp only [belowO, Bool.and_eq_true] at h
    exact belowO_get vs h.2 i v (by simpa using hv)

theorem HRel.cut {H : AH} {E : GE} (h : HRel H E) {n m : Nat} (hn : n ≤ H.objs.length) (hm : m ≤ H.toks.length) (hb : belowO n m (H.objs.take n) = true) : HRel ⟨H.objs.take n, H.toks.take m⟩ (E.cut n m) := by
  have e1 := h.nid
  have e2 := h.nt
  have hown : ∀ b, (E.cut n m).owned b → E.owned b := by
    intro b hb
    rcases hb with ⟨id, hid, hρ⟩ | ⟨t, g, p, ht, hp, hpb⟩
    · exact .inl ⟨id, Nat.lt_of_lt_of_le (show _ < n from hid) (by omega), hρ⟩
    · exact .inr ⟨t, g, p, Nat.lt_of_lt_of_le (show _ < m from ht) (by omega), hp, hpb⟩
  have htk : ∀ (t : Nat) (p : Nat × Nat), (H.toks.take m)[t]? = some p → H.toks[t]? = some p := by
    intro t p ht
    rw [List.getElem?_take] at ht
    split at ht
    · exact ht
    · simp at ht
  constructor
  · show n = _; simp; omega
  · show m = _; simp; omega
  · intro id o ho
    have hbel := belowO_get _ hb id o ho
    simp only [List.getElem?_take] at ho
    split at ho
    · cases h.obj id o ho with
      | cells cs b c el hb hh hl hc h1 hS' =>
        simp only [AObj.below] at hbel
        exact .cells cs b c el hb hh hl (fun j v x a d => (hc j v x a d).cut (belowL_get cs hbel j v a)) h1 hS'
      | map es b ms clock hb hh hl hk hv =>
        simp only [AObj.below] at hbel
        exact .map es b ms clock hb hh hl (fun j e m a d => (hk j e m a d).cut (belowE_get es hbel j e a).1) (fun j e m a d => (hv j e m a d).cut (belowE_get es hbel j e a).2)
      | siter s pos b hb hh => exact .siter s pos b hb hh
      | loop s ps x y st b r hb hh h1 h2 h3 h4 h5 =>
        simp only [AObj.below] at hbel
        exact .loop s ps x y st b r hb hh ⟨h1.1, fun j v x a d => (h1.2 j v x a d).cut (belowL_get s hbel j v a)⟩ h2 h3 h4 h5
      | dead => exact .dead
      | unborn h0 => exact .unborn h0
    · simp at ho
  · intro i j b hi hj
    exact h.inj i j b (Nat.lt_of_lt_of_le (show _ < n from hi) (by omega)) (Nat.lt_of_lt_of_le (show _ < n from hj) (by omega))
  · intro t g sz ht
    exact h.tok t g sz (htk _ _ ht)
  · intro t g sz g' ht
    exact h.late t g sz g' (htk _ _ ht)
  · intro t g p id b ht hp hid
    exact h.tsep t g p id b (Nat.lt_of_lt_of_le (show _ < m from ht) (by omega)) hp (Nat.lt_of_lt_of_le (show _ < n from hid) (by omega))
  · intro t g p t' g' p' ht ht'
    exact h.tinj t g p t' g' p' (Nat.lt_of_lt_of_le (show _ < m from ht) (by omega)) (Nat.lt_of_lt_of_le (show _ < m from ht') (by omega))
  · intro t g p ht
    exact h.tbase t g p (Nat.lt_of_lt_of_le (show _ < m from ht) (by omega))
  · exact h.set
  · exact fun b hb => h.lt b (hown b hb)
  · exact h.hbase

theorem le_cut {E0 E : GE} (h : E0.le E) {n m : Nat} (hn : E0.nid ≤ n) (hm : E0.nt ≤ m) (hn' : n ≤ E.nid) (hm' : m ≤ E.nt) : E0.le (E.cut n m) where
  nid := hn
  ρ := h.ρ
  nt := hm
  τ := h.τ
  S := h.S
  cell := h.cell
  base := h.base
  low := h.low
  snew := h.snew
  own := by
    intro b hb ho
    refine h.own b hb ?_
    rcases ho with ⟨id, hid, hρ⟩ | ⟨t, g, p, ht, hp, hpb⟩
    · exact .inl ⟨id, Nat.lt_of_lt_of_le hid hn', hρ⟩
    · exact .inr ⟨t, g, p, Nat.lt_of_lt_of_le ht hm', hp, hpb⟩
  os := h.os
  tape := h.tape
  output := h.output
  size := h.size
  block := h.block

theorem resetL_get : ∀ (s s' : List AV) (i : Nat) v, (resetL s s')[i]? = some v → s'[i]? = some v ∨ (v = .top ∧ (s'[i]?).isSome = true)
  | [], s', i, v, h => by simp [resetL] at h; exact .inl h
  | u :: s, [], i, v, h => by cases u <;> simp [resetL] at h
  | u :: s, w :: s', 0, v, h => by
    cases u <;> simp [resetL] at h ⊢ <;> first | exact .inl h | exact .inr h.symm | (subst h; simp)
  | u :: s, w :: s', i + 1, v, h => by
    have : (resetL s s')[i]? = some v := by cases u <;> simpa [resetL] using h
    simpa using resetL_get s s' i v this

theorem resetL_length : ∀ (s s' : List AV), (resetL s s').length = s'.length
  | [], s' => by simp [resetL]
  | u :: s, [] => by cases u <;> simp [resetL]
  | u :: s, w :: s' => by cases u <;> simp [resetL, resetL_length s s']

theorem ARel.reset {E : GE} {s s' : List AV} {a : Act} (h : ARel E s' a) : ARel E (resetL s s') a := by
  refine ⟨⟨by rw [resetL_length]; exact h.tmps.1, ?_⟩, h.defers⟩
  intro i v x hv hx
  rcases resetL_get s s' i v hv with h1 | ⟨rfl, _⟩
  · exact h.tmps.2 i v x h1 hx
  · exact .top _

theorem Marks.cut {E : GE} {n m : Nat} (hn : n ≤ E.nid) (hm : m ≤ E.nt) {ds : List Deferred} (h : Marks E ds) : Marks (E.cut n m) ds := by
  obtain ⟨h0, bs, h1, h2, h3⟩ := h
  refine ⟨h0, bs, h1, h2, fun b hb => ⟨(h3 b hb).1, (h3 b hb).2.1, fun ho => (h3 b hb).2.2 ?_⟩⟩
  rcases ho with ⟨id, hid, hρ⟩ | ⟨t, g, p, ht, hp, hpb⟩
  · exact .inl ⟨id, Nat.lt_of_lt_of_le hid hn, hρ⟩
  · exact .inr ⟨t, g, p, Nat.lt_of_lt_of_le ht hm, hp, hpb⟩

theorem ARel.cut {E : GE} {s : List AV} {a : Act} {n m : Nat} (hn : n ≤ E.nid) (hm : m ≤ E.nt) (h : ARel E s a) (hb : belowL n m s = true) : ARel (E.cut n m) s a :=
  ⟨⟨h.tmps.1, fun i v x hv hx => (h.tmps.2 i v x hv hx).cut (belowL_get s hb i v hv)⟩, h.defers.cut hn hm⟩

/-- A round's end. -/
theorem back_sound (room : Nat) {H H' : AH} {E E' : GE} {s s' : List AV} {a' : Act} (hr : Rel S H E) (hle : E.le E') (hr' : Rel S H' E') (ha' : ARel E' s' a') :
    ∃ E2, E2.w = E'.w ∧ E.le E2 ∧ Rel S (back room s H s' H').2 E2 ∧ ARel E2 (back room s H s' H').1 a' := by
  unfold back
  simp only
  split
  · exact ⟨E', rfl, hle, hr', ha'⟩
  split
  · exact ⟨E', rfl, hle, hr', ha'.reset⟩
  split
  · exact ⟨E', rfl, hle, hr', ha'.reset⟩
  · split
    · rename_i hb
      simp only [Bool.and_eq_true] at hb
      have q1 := hle.nid
      have q2 := hle.nt
      have e1 := hr.h.nid
      have e2 := hr.h.nt
      have e3 := hr'.h.nid
      have e4 := hr'.h.nt
      have hle2 := le_cut hle (n := H.objs.length) (m := H.toks.length) (by omega) (by omega) (by omega) (by omega)
      exact ⟨E'.cut H.objs.length H.toks.length, rfl, hle2, hr.mono hle2 (hr'.h.cut (by omega) (by omega) hb.2), ha'.reset.cut (by omega) (by omega) hb.1⟩
    · exact ⟨E', rfl, hle, hr', ha'.reset⟩

theorem ARel.outS {E : GE} {s s' : List AV} {a : Act} (h : ARel E s' a) (room : Nat) : ARel E (outS room s s') a := by
  unfold Go.Sx.outS
  split
  · exact h
  · exact h.reset

theorem trunc_sound {H H' : AH} {E E' : GE} {v : AV} {x : Value} (hr : Rel S H E) (hle : E.le E') (hr' : Rel S H' E') (hv : VRel E' v x) :
    ∃ E2, E2.w = E'.w ∧ E.le E2 ∧ Rel S (trunc H (v, H')).2 E2 ∧ VRel E2 (trunc H (v, H')).1 x := by
  unfold trunc
  simp only
  split
  · exact ⟨E', rfl, hle, hr', hv⟩
  · split
    · rename_i hb
      simp only [Bool.and_eq_true] at hb
      have q1 := hle.nid
      have q2 := hle.nt
      have e1 := hr.h.nid
      have e2 := hr.h.nt
      have e3 := hr'.h.nid
      have e4 := hr'.h.nt
      have hle2 := le_cut hle (n := H.objs.length) (m := H.toks.length) (by omega) (by omega) (by omega) (by omega)
      exact ⟨E'.cut H.objs.length H.toks.length, rfl, hle2, hr.mono hle2 (hr'.h.cut (by omega) (by omega) hb.2), hv.cut hb.1⟩
    · exact ⟨E', rfl, hle, hr', hv⟩

end Go.Sx
