/- THE ENGINE, 30: from a run of the engine to a row's words: a law that answers true and leaves its arguments as they were. -/
import Derived.Test.YtoagnbpmoihojaaDoorSxTab
import Derived.ProofKit
set_option linter.unusedSimpArgs false
set_option linter.unusedVariables false
namespace Go.Sx
open Go.ChangeShapes Go.WideShapes Go.ChangeAt Go.RowKit
variable {S : Sys} {P : Program}

/-- A world before a call: nothing is ours, and every cell is settled. -/
def GE.start (W : World) : GE := { w := W, nid := 0, ρ := fun _ => none, nt := 0, τ := fun _ _ => none, S := fun b o => (W.cell? ⟨b, o, none⟩).isSome = true, base := W.heap.size, low := 0 }

theorem start_owned (W : World) (b : Nat) : ¬ (GE.start W).owned b := by
  rintro (⟨id, hid, _⟩ | ⟨t, g, p, ht, _⟩)
  · exact absurd hid (Nat.not_lt_zero _)
  · exact absurd ht (Nat.not_lt_zero _)

theorem start_rel (W : World) (hg : ∀ n, VRel (GE.start W) (S.G n) (.pointer (some ⟨n, 0, none⟩))) (hx : ∀ p, p ∈ S.fixed → Fixed (GE.start W) p) : Rel S ⟨[], []⟩ (GE.start W) := by
  refine ⟨?_, hg, hx⟩
  constructor
  · rfl
  · rfl
  · intro id o h; simp at h
  · intro i j b hi; exact absurd hi (Nat.not_lt_zero _)
  · intro t g sz h; simp at h
  · intro t g sz g' h; simp at h
  · intro t g p id b ht; exact absurd ht (Nat.not_lt_zero _)
  · intro t g p t' g' p' ht; exact absurd ht (Nat.not_lt_zero _)
  · intro t g p ht; exact absurd ht (Nat.not_lt_zero _)
  · intro b o h; exact h
  · intro b h; exact absurd h (start_owned W b)
  · exact Nat.le_refl _

theorem start_below {W : World} {E : GE} (h : (GE.start W).le E) : Below W.heap.size W E.w :=
  ⟨h.os, h.tape, h.output, h.size, fun k hk => h.block k hk (start_owned W k)⟩

/-- A run that answers true. -/
theorem calls_true (hS : SysOK S P) (hext : ExtOK S P) (hm : P.follows .mixedOrders = true) {n : Nat} {f : FuncId} {args : List AV} {H' : AH} (h : callF S n f args ⟨[], []⟩ = some (.bool true, H')) {W : World} (hg : ∀ n, VRel (GE.start W) (S.G n) (.pointer (some ⟨n, 0, none⟩))) (hfx : ∀ p, p ∈ S.fixed → Fixed (GE.start W) p) {xs : Array Value} (hx : VRelL (GE.start W) args xs) :
    Calls P f xs W fun e W' => e = .returned (.bool true) ∧ Below W.heap.size W W' := by
  obtain ⟨_, h2⟩ := (call_sound hS hext hm n).fn f args ⟨[], []⟩ (.bool true) H' h
  refine (h2 (GE.start W) xs (start_rel W hg hfx) hx).mono ?_
  rintro e W' ⟨x, E', rfl, rfl, h3, h4, h5⟩
  rw [rel_bool h5]
  exact ⟨rfl, start_below h3⟩

section
variable {H : Type} {enc : TypeId × Value → H}

theorem trodAll_stays (hl : laidOutB P = true) {W W' : World} (hb : Below W.heap.size W W') {sp : Nat → Bool} : ∀ {ts : List TypeId} {vs : List Value} {ds : List (DataW H)} {ps : List MemPlace}, DataW.TrodAll enc P W 0 (fun _ => true) true ts vs ds ps →
    (∀ t, t ∈ ts → P.readableRec t = true ∧ t < P.types.size) → (∀ p, p ∈ ps → p.block < W.heap.size) → (∀ p, p ∈ ps → sp p.block = true) → DataW.TrodAll enc P W' 0 sp true ts vs ds ps
  | [], vs, ds, ps, h, _, _, _ => by
    obtain ⟨rfl, rfl, rfl⟩ := trodAll_nil h
    rfl
  | t :: ts, vs, ds, ps, h, hr, hlt, hs => by
    obtain ⟨v, vs1, d, ds1, p, q, rfl, rfl, rfl, h1, h2⟩ := trodAll_cons h
    have e := hr t (List.mem_cons_self ..)
    refine ⟨p, q, Go.WideElems.Trod_stays hl e.1 e.2 h1 (fun x hx => hb.same (hlt x (List.mem_append_left _ hx))) (fun x hx => hs x (List.mem_append_left _ hx)), ?_, rfl⟩
    exact trodAll_stays hl hb h2 (fun t ht => hr t (List.mem_cons_of_mem _ ht)) (fun x hx => hlt x (List.mem_append_right _ hx)) (fun x hx => hs x (List.mem_append_right _ hx))

/-- The law's words, where the world has only grown. -/
theorem law_post {f : Func} {s : ChangeSpec} {apart : Bool} {W W' : World} {args : Array Value} {ds : List (DataW H)} {before : List MemPlace} {rt : TypeId}
    (hW : DataW.Whole enc P f.params.toList [] apart W args.toList ds [] before) (hl : laidOutB P = true) (hr : ∀ t, t ∈ f.params.toList → P.readableRec t = true ∧ t < P.types.size) (hb : Below W.heap.size W W')
    (hv : s.vars = []) (hs : s.fn H (ds ++ []) = { results := [.lit (.bool true)], args := ds }) (hres : f.resultTypes = #[rt]) (hrt : P.underlying rt = some .bool) :
    s.post enc P f apart true false false W args (.bool true) W' := by
  have hlt := hW.lt
  obtain ⟨p, q, hA, hV, rfl, hfz, hnd⟩ := hW
  have hq : q = [] := by
    have := trodVars_none hV
    exact this.2
  subst hq
  have hlt' : ∀ x, x ∈ p → x.block < W.heap.size := fun x hx => hlt x (by simpa using hx)
  have hst : ∀ sp : Nat → Bool, (∀ x ∈ p, sp x.block = true) → DataW.TrodAll enc P W' 0 sp true f.params.toList args.toList ds p := fun sp hsp => trodAll_stays hl hb hA hr hlt' hsp
  have hold : ∀ x ∈ p, (fun b => decide (b < W.heap.size)) x.block = true := fun x hx => by simpa using hlt' x hx
  have hvars : ∀ sp : Nat → Bool, DataW.TrodVars enc P W' sp s.vars [] [] := by intro sp; rw [hv]; rfl
  have hres' : ∀ b sp hd, DataW.TrodAll enc P W' b sp hd f.resultTypes.toList ((Value.bool true).resultList f.resultTypes.size) [DataW.lit (.bool true)] [] := by
    intro b sp hd
    rw [hres]
    exact trodAll_mk1 (shut_bool hrt true)
  have hW' : DataW.Whole enc P f.params.toList s.vars apart W args.toList ds [] (p ++ []) := ⟨p, [], hA, by rw [hv]; exact hV, rfl, hfz, hnd⟩
  refine ⟨ds, [], p ++ [], [], p, [], hW', ?_, ?_, ?_, World.keptBut_mono (fun x hx => ⟨hx, Or.inr (by simpa using hx)⟩) (hb.frame _), fun _ => ?_⟩
  · rw [hs]; exact hres' _ _ _
  · rw [hs]; exact hst _ hold
  · rw [hs]; exact hvars _
  · refine ⟨ok_one hres rfl (okWide_bool_mk hrt true), _, _, ([] ++ p) ++ [], ⟨[] ++ p, [], trodAll_append (hst _ (fun _ _ => rfl)) (hres' _ _ _), hvars _, rfl, ?_, ?_⟩, ?_⟩
    · intro b off hp
      rw [hb.frozen (p := ⟨b, off, none⟩) (hlt' (.cell b off) (by simpa using hp))]
      exact hfz b off (by simpa using hp)
    · intro ha
      have := hnd ha
      simpa using this
    · intro x hx _
      simpa using hx

end
end Go.Sx
