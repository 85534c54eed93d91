/- THE ENGINE: a call that knows of one object alone, made beside others. -/
import Derived.Test.YtanpcjopgcpooaaEe
set_option linter.unusedSimpArgs false
set_option linter.unusedVariables false
namespace Go.Sx
variable {S : Sys} {P : Program}
def GE.one (E : GE) (i b : Nat) : GE := { w := E.w, nid := 1, ρ := fun k => if k = 0 then some b else none, nt := 0, τ := fun _ _ => none, S := E.S, base := E.w.heap.size, low := E.low, cp := fun k => if k = 0 then E.cp i else 0 }
theorem one_owned {E : GE} {i b k : Nat} (h : (E.one i b).owned k) : k = b := by
  rcases h with ⟨id, hid, h⟩ | ⟨t, g, p, ht, _⟩
  · have : id = 0 := by
      have : id < 1 := hid
      omega
    subst this
    simpa [GE.one] using h.symm
  · exact absurd ht (Nat.not_lt_zero _)
theorem bare_one (E : GE) (i b : Nat) : (E.bare E.S).pre (E.one i b) :=
  ⟨Nat.zero_le _, fun id _ h => absurd h (Nat.not_lt_zero _), Nat.le_refl _, fun t _ _ h => absurd h (Nat.not_lt_zero _), fun _ _ h => h, fun _ _ _ => rfl, rfl, fun id h => absurd h (Nat.not_lt_zero _)⟩
theorem one_rel (hS : SysOK S P) {H : AH} {E : GE} (hr : Rel S H E) {i b : Nat} {l : List UInt8} (ho : H.objs[i]? = some (.cells [.str l])) (hb : E.ρ i = some b) : Rel S ⟨[.cells [.str l]], []⟩ (E.one i b) := by
  have hbare := bare_rel hS hr (T := E.S) (fun _ _ h => h) (fun b o h => hr.h.set b o h)
  have hid : i < E.nid := hr.h.idlt ho
  constructor
  · constructor
    · rfl
    · rfl
    · intro id o h
      cases id with
      | zero =>
        simp only [List.getElem?_cons_zero, Option.some.injEq] at h
        subst h
        cases hr.h.obj i _ ho with
        | cells _ b' c el hb' hh hl hc h1 hS' hcp =>
          rw [hb] at hb'
          obtain rfl := Option.some.inj hb'
          refine .cells _ b c el (by simp [GE.one]) hh hl ?_ h1 hS' (by simpa [GE.one] using hcp)
          intro j v x hv hx
          have := hc j v x hv hx
          cases j with
          | zero =>
            simp only [List.getElem?_cons_zero, Option.some.injEq] at hv
            subst hv
            rw [rel_str this]
            exact .str _
          | succ j => simp at hv
      | succ id => simp at h
    · intro j k b' o1 o2 h1 h2 _ _ _ _
      cases j with
      | zero => cases k with
        | zero => rfl
        | succ k => simp at h2
      | succ j => simp at h1
    · intro t g sz u p h; simp at h
    · intro t g sz u g' h; simp at h
    · intro t g p id b ht; exact absurd ht (Nat.not_lt_zero _)
    · intro t g p t' g' p' ht; exact absurd ht (Nat.not_lt_zero _)
    · intro t g p ht; exact absurd ht (Nat.not_lt_zero _)
    · exact fun b o h => hr.h.set b o h
    · intro k hk
      obtain rfl := one_owned hk
      exact hr.h.lt k (.inl ⟨i, hid, hb⟩)
    · exact Nat.le_refl _
  · intro n
    exact (hbare.g n).pmono (bare_one E i b)
  · intro p hp
    obtain ⟨f1, f2, o, f3⟩ := hr.x p hp
    refine ⟨f1, ?_, o, f3⟩
    intro hk
    have := one_owned hk
    exact f2 (.inl ⟨i, hid, this ▸ hb⟩)
theorem one_args {H : AH} {E : GE} (hr : HRel H E) {i b : Nat} (hb : E.ρ i = some b) {ts : List AV} {xs : Array Value} (hx : VRelL E (.ptr i 0 :: ts) xs) (h1 : belowL 0 0 ts = true) (h2 : eraseL ts = ts) : VRelL (E.one i b) (.ptr 0 0 :: ts) xs := by
  refine ⟨by simpa using hx.1, ?_⟩
  intro k v x hv hk
  cases k with
  | zero =>
    have := hx.2 0 (.ptr i 0) x (by simp) hk
    simp only [List.getElem?_cons_zero, Option.some.injEq] at hv
    subst hv
    cases this with
    | ptr _ _ b' hid h =>
      rw [hb] at h
      obtain rfl := Option.some.inj h
      exact .ptr 0 0 b Nat.one_pos (by simp [GE.one])
  | succ k =>
    simp only [List.getElem?_cons_succ] at hv
    have h3 := hx.2 (k + 1) v x (by simpa using hv) hk
    have h4 : erase v = v := by
      have e := eraseL_get ts k
      rw [h2, hv] at e
      simpa using e.symm
    have := erase_rel (T := E.S) (fun _ _ h => h) h3 (by rw [h4]; exact belowL_get ts h1 k v hv)
    rw [h4] at this
    exact this.pmono (bare_one E i b)
theorem one_hblk {E E1 : GE} {i b : Nat} (hle : (E.one i b).le E1) (k : Nat) (hk : k < E.w.heap.size) (hn : k ≠ b) : E1.w.heap[k]? = E.w.heap[k]? := hle.block k hk (fun h => hn (one_owned h))
theorem one_le {H : AH} {E : GE} (hr : HRel H E) {i b : Nat} (hid : i < E.nid) (hb : E.ρ i = some b) {E1 : GE} (hle : (E.one i b).le E1) : E.le (E.behind E1) := by
  refine ⟨⟨?_, ?_, ?_, ?_, ?_, ?_, ?_, fun _ _ => rfl⟩, rfl, ?_, ?_, ?_, ?_, ?_, ?_, ?_⟩
  · exact Nat.le_refl _
  · exact fun _ _ _ h => h
  · exact Nat.le_refl _
  · exact fun _ _ _ _ h => h
  · exact fun _ _ h => .inl h
  · exact fun k o h => hle.cell k o h
  · rfl
  · intro b o hb
    rcases hb with h | ⟨h, _⟩
    · exact .inl h
    · exact .inr (.inl h)
  · exact fun _ _ h => h
  · exact hle.os
  · exact hle.tape
  · exact hle.output
  · exact hle.size
  · intro k hk hn
    exact one_hblk hle k hk (fun e => hn (.inl ⟨i, hid, e ▸ hb⟩))
theorem one_behind (hS : SysOK S P) {H : AH} {E : GE} (hr : Rel S H E) {i b : Nat} {l l' : List UInt8} (ho : H.objs[i]? = some (.cells [.str l])) (hb : E.ρ i = some b) {E1 : GE} (hle : (E.one i b).le E1) (hr1 : HRel ⟨[.cells [.str l']], []⟩ E1) :
    HRel { H with objs := H.objs.set i (.cells [.str l']) } (E.behind E1) := by
  have h := hr.h
  have hid : i < E.nid := h.idlt ho
  have hlt : i < H.objs.length := by rw [← h.nid]; exact hid
  have hle2 := one_le h hid hb hle
  have hblt : b < E.w.heap.size := h.lt b (.inl ⟨i, hid, hb⟩)
  have hSb : ∀ o, ¬ E.S b o := by
    cases h.obj i _ ho with
    | cells _ b' c el hb' hh hl hc h1 hS' hcp =>
      rw [hb] at hb'
      obtain rfl := Option.some.inj hb'
      exact hS'
  constructor
  · simp only [List.length_set]; exact h.nid
  · exact h.nt
  · intro id o hio
    by_cases e : i = id
    · subst e
      rw [List.getElem?_set_self hlt] at hio
      obtain rfl := Option.some.inj hio
      cases hr1.obj 0 _ rfl with
      | cells _ b' c el hb' hh hl hc h1 hS' hcp =>
        have e1 := hle.ρ 0 b Nat.one_pos (by simp [GE.one])
        rw [e1] at hb'
        obtain rfl := Option.some.inj hb'
        have e2 : E1.cp 0 = E.cp i := by rw [hle.cp 0 Nat.one_pos]; simp [GE.one]
        refine .cells _ b c el hb hh hl ?_ h1 ?_ (by show E.cp i ≤ _; rw [← e2]; exact hcp)
        · intro j v x hv hx
          have := hc j v x hv hx
          cases j with
          | zero =>
            simp only [List.getElem?_cons_zero, Option.some.injEq] at hv
            subst hv
            rw [rel_str this]
            exact .str _
          | succ j => simp at hv
        · intro o hS2
          rcases hS2 with h1 | ⟨h1, _⟩
          · exact hSb o h1
          · omega
    · rw [List.getElem?_set_ne e] at hio
      have hidd := h.idlt hio
      by_cases hlive : o.live = true
      · have hne : ∀ k, E.ρ id = some k → k ≠ b := by
          intro k hk e2
          subst e2
          exact e (h.inj i id k _ _ ho hio rfl hlive hb hk)
        refine (h.obj id o hio).mono hle2 hidd (fun k hk => one_hblk hle k (h.lt k (.inl ⟨id, hidd, hk⟩)) (hne k hk)) ?_
        intro k o' hk hS2
        rcases hS2 with h1 | ⟨h1, _⟩
        · exact h1
        · have := h.lt k (.inl ⟨id, hidd, hk⟩); omega
      · cases h.obj id o hio with
        | dead => exact .dead
        | unborn h1 h2 => exact .unborn h1 h2
        | _ => exact absurd rfl hlive
  · intro j k b' o1 o2 h1 h2 l1 l2 r1 r2
    have get : ∀ {m : Nat} {o : AObj}, (H.objs.set i (.cells [.str l']))[m]? = some o → o.live = true → ∃ o', H.objs[m]? = some o' ∧ o'.live = true := by
      intro m o hm hl
      by_cases e : i = m
      · subst e; exact ⟨_, ho, rfl⟩
      · rw [List.getElem?_set_ne e] at hm; exact ⟨o, hm, hl⟩
    obtain ⟨p1, g1, m1⟩ := get h1 l1
    obtain ⟨p2, g2, m2⟩ := get h2 l2
    exact h.inj j k b' p1 p2 g1 g2 m1 m2 r1 r2
  · intro t g sz u p ht hp
    obtain ⟨k, e, ce, c, rfl, q2, q3, q4, q5, q6⟩ := h.tok t g sz u p ht hp
    have hk := h.lt k (.inr ⟨t, g, _, h.tlt ht, hp, rfl⟩)
    refine ⟨k, e, ce, c, rfl, (one_hblk hle k hk (h.tsep t g _ i b (h.tlt ht) hp hid hb)).trans q2, q3, q4, q5, ?_⟩
    intro o ho hS
    rcases hS with h1 | ⟨h1, _⟩
    · exact q6 o ho h1
    · omega
  · exact h.late
  · exact h.tsep
  · exact h.tinj
  · exact h.tbase
  · intro k o hS2
    rcases hS2 with h1 | ⟨_, h1⟩
    · have h3 := h.set k o h1
      show (E1.w.cell? _).isSome = true
      rw [hle.cell k o h1]; exact h3
    · exact hr1.set k o h1
  · intro k hb'
    exact Nat.lt_of_lt_of_le (h.lt k hb') hle.size
  · exact Nat.le_trans h.hbase hle.size
theorem one_snew {E : GE} {i b : Nat} {l' : List UInt8} {E1 : GE} (hle : (E.one i b).le E1) (hr1 : HRel ⟨[.cells [.str l']], []⟩ E1) (k o : Nat) (hS : E1.S k o) : E.S k o ∨ E.w.heap.size ≤ k := by
  rcases hle.snew k o hS with h1 | h1 | h1
  · exact .inl h1
  · exact .inr h1
  · obtain rfl := one_owned h1
    exfalso
    cases hr1.obj 0 _ rfl with
    | cells _ b' c el hb' hh hl hc h1 hS' hcp =>
      have e1 := hle.ρ 0 k Nat.one_pos (by simp [GE.one])
      rw [e1] at hb'
      obtain rfl := Option.some.inj hb'
      exact hS' o hS
theorem frame_one (hS : SysOK S P) {f : FuncId} {l l' : List UInt8} {v : AV} {ts : List AV} (h1 : belowL 0 0 ts = true) (h2 : eraseL ts = ts) (hv : below 0 0 v = true)
    (hcall : ∀ E xs, Rel S ⟨[.cells [.str l]], []⟩ E → VRelL E (.ptr 0 0 :: ts) xs → Calls P f xs E.w fun e w' => ∃ x E1, e = .returned x ∧ E1.w = w' ∧ E.le E1 ∧ HRel ⟨[.cells [.str l']], []⟩ E1 ∧ VRel E1 v x)
    {H : AH} {i : Nat} (ho : H.objs[i]? = some (.cells [.str l])) {E : GE} {xs : Array Value} (hr : Rel S H E) (hx : VRelL E (.ptr i 0 :: ts) xs) :
    Calls P f xs E.w fun e w' => ∃ x E', e = .returned x ∧ E'.w = w' ∧ E.le E' ∧ HRel { H with objs := H.objs.set i (.cells [.str l']) } E' ∧ VRel E' v x := by
  have hid : i < E.nid := hr.h.idlt ho
  obtain ⟨b, hb⟩ : ∃ b, E.ρ i = some b := by
    cases hr.h.obj i _ ho with
    | cells _ b' c el hb' hh hl hc h1 hS' hcp => exact ⟨b', hb'⟩
  refine (hcall (E.one i b) xs (one_rel hS hr ho hb) (one_args hr.h hb hx h1 h2)).mono ?_
  rintro e w' ⟨x, E1, rfl, rfl, q1, q2, q3⟩
  exact ⟨x, E.behind E1, rfl, rfl, one_le hr.h hid hb q1, one_behind hS hr ho hb q1 q2, back_val hr.h q1.base (one_snew q1 q2) q3 (.inl fun _ _ h => h) hv⟩
inductive OneL (i : Nat) : List AV → List AV → Prop where
  | nil : OneL i [] []
  | ptr {a b : List AV} : OneL i a b → OneL i (.ptr i 0 :: a) (.ptr 0 0 :: b)
  | val {v : AV} {a b : List AV} : below 0 0 (erase v) = true → OneL i a b → OneL i (v :: a) (erase v :: b)
theorem oneL_len {i : Nat} {a b : List AV} (h : OneL i a b) : a.length = b.length := by
  induction h with
  | nil => rfl
  | ptr _ ih => simp [ih]
  | val _ _ ih => simp [ih]
theorem oneL_get {i : Nat} {a b : List AV} (h : OneL i a b) : ∀ {k : Nat} {v : AV}, b[k]? = some v → ∃ u, a[k]? = some u ∧ ((u = .ptr i 0 ∧ v = .ptr 0 0) ∨ (v = erase u ∧ below 0 0 v = true)) := by
  induction h with
  | nil => intro k v h; simp at h
  | ptr _ ih =>
    intro k v hk
    cases k with
    | zero =>
      simp only [List.getElem?_cons_zero, Option.some.injEq] at hk
      exact ⟨_, rfl, .inl ⟨rfl, hk.symm⟩⟩
    | succ k => simpa using ih (by simpa using hk)
  | val hb _ ih =>
    intro k v hk
    cases k with
    | zero =>
      simp only [List.getElem?_cons_zero, Option.some.injEq] at hk
      exact ⟨_, rfl, .inr ⟨hk.symm, hk ▸ hb⟩⟩
    | succ k => simpa using ih (by simpa using hk)
theorem one_argsL {H : AH} {E : GE} (hr : HRel H E) {i b : Nat} (hb : E.ρ i = some b) {a a0 : List AV} {xs : Array Value} (hx : VRelL E a xs) (ho : OneL i a a0) : VRelL (E.one i b) a0 xs := by
  refine ⟨by rw [← (oneL_len ho)]; exact hx.1, ?_⟩
  intro k v x hv hk
  obtain ⟨u, hu, h⟩ := oneL_get ho hv
  have h3 := hx.2 k u x hu hk
  rcases h with ⟨rfl, rfl⟩ | ⟨rfl, h1⟩
  · cases h3 with
    | ptr _ _ b' hid h =>
      rw [hb] at h
      obtain rfl := Option.some.inj h
      exact .ptr 0 0 b Nat.one_pos (by simp [GE.one])
  · exact (erase_rel (T := E.S) (fun _ _ h => h) h3 h1).pmono (bare_one E i b)
theorem frame_oneL (hS : SysOK S P) {f : FuncId} {l l' : List UInt8} {v : AV} {i : Nat} {a a0 : List AV} (ha : OneL i a a0) (hv : below 0 0 v = true)
    (hcall : ∀ E xs, Rel S ⟨[.cells [.str l]], []⟩ E → VRelL E a0 xs → Calls P f xs E.w fun e w' => ∃ x E1, e = .returned x ∧ E1.w = w' ∧ E.le E1 ∧ HRel ⟨[.cells [.str l']], []⟩ E1 ∧ VRel E1 v x)
    {H : AH} (ho : H.objs[i]? = some (.cells [.str l])) {E : GE} {xs : Array Value} (hr : Rel S H E) (hx : VRelL E a xs) :
    Calls P f xs E.w fun e w' => ∃ x E', e = .returned x ∧ E'.w = w' ∧ E.le E' ∧ HRel { H with objs := H.objs.set i (.cells [.str l']) } E' ∧ VRel E' v x := by
  have hid : i < E.nid := hr.h.idlt ho
  obtain ⟨b, hb⟩ : ∃ b, E.ρ i = some b := by
    cases hr.h.obj i _ ho with
    | cells _ b' c el hb' hh hl hc h1 hS' hcp => exact ⟨b', hb'⟩
  refine (hcall (E.one i b) xs (one_rel hS hr ho hb) (one_argsL hr.h hb hx ha)).mono ?_
  rintro e w' ⟨x, E1, rfl, rfl, q1, q2, q3⟩
  exact ⟨x, E.behind E1, rfl, rfl, one_le hr.h hid hb q1, one_behind hS hr ho hb q1 q2, back_val hr.h q1.base (one_snew q1 q2) q3 (.inl fun _ _ h => h) hv⟩
end Go.Sx
