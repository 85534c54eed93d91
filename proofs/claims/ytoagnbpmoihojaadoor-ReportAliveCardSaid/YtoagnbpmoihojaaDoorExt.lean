/- What Itoa, Join and Split answer, as the engine's own words; their soundness, from the library's contracts. -/
import Derived.Test.YtoagnbpmoihojaaDoorEg
import Derived.Test.YtoagnbpmoihojaaDoorSys
import Derived.Test.YtoagnbpmoihojaaDoorShelf
set_option linter.unusedSimpArgs false
set_option linter.unusedVariables false
set_option maxRecDepth 100000
namespace Go.Proofs.YtoagnbpmoihojaaDoor
open Go.Sx Go.RowKit

def textsOf : List AV → Option (List (List UInt8))
  | [] => some []
  | v :: r => match v, textsOf r with
    | .str s, some l => some (s :: l)
    | _, _ => none

def extItoa (ts : List AV) : Option AV := match ts with
  | [.int .i64 n] => if -9223372036854775808 ≤ n ∧ n ≤ 9223372036854775807 then some (.str (itoaL n)) else none
  | _ => none

def joinL (sep : List UInt8) : List (List UInt8) → List UInt8
  | [] => []
  | x :: r => x ++ (r.map (sep ++ ·)).flatten

def extJoin (ts : List AV) : Option AV := match ts with
  | [.inl _ _ sz xs, .str sep] => if sz = 1 then (match textsOf xs with
    | some l => if l.length ≤ 140737488355328 ∧ (joinL sep l).length ≤ 140737488355328 then some (.str (joinL sep l)) else none
    | none => none) else none
  | [.nils, .str _] => some (.str [])
  | _ => none

def extSplit (ts : List AV) : Option AV := match ts with
  | [.str s, .str [c]] => if s.length < 4294967281 then some (.inl true .zero 1 ((splitL c s).map .str)) else none
  | _ => none

def extTok (f : FuncId) : Option (List AV → Option AV) := match Nat.beq f 42, Nat.beq f 49, Nat.beq f 51 with
  | true, _, _ => some extItoa
  | _, true, _ => some extJoin
  | _, _, true => some extSplit
  | _, _, _ => none

def powVals : Array Value := (Lib.pow10Tab.map fun z => Value.int .u64 z).toArray

noncomputable def Tryd.S (m : Array Value) : Go.Sx.Sys := tabS Tryd.types_ Tryd.funcs_ .nil Tryd.pure_ Tryd.objs_ extTok 1 [(0, powVals), (1, m)]
theorem Tryd.ok (m : Array Value) : SysOK (Tryd.S m) Tryd.prog := tab_ok Tryd.types_ok Tryd.funcs_ok trivial
theorem Tryd.pow : Tryd.prog.globalNamed "internal/strconv.uint64pow10" = some 0 := by kernel_rfl

theorem texts_rel {E : GE} : ∀ (xs : List AV) (l : List (List UInt8)) (x : Nat → Nat → Value), textsOf xs = some l → (∀ i v, xs[i]? = some v → VRel E v (x i 0)) → l.length = xs.length ∧ ∀ i s, l[i]? = some s → x i 0 = .string ⟨s.toArray⟩
  | [], l, x, h, _ => by
    simp only [textsOf, Option.some.injEq] at h
    subst h
    exact ⟨rfl, by simp⟩
  | v :: r, l, x, h, hx => by
    simp only [textsOf] at h
    split at h
    · rename_i s l' h1
      simp only [Option.some.injEq] at h
      subst h
      obtain ⟨h2, h3⟩ := texts_rel r l' (fun i j => x (i + 1) j) h1 (fun i v hv => hx (i + 1) v (by simpa using hv))
      refine ⟨by simp [h2], ?_⟩
      intro i s' hi
      cases i with
      | zero =>
        simp only [List.getElem?_cons_zero, Option.some.injEq] at hi
        subst hi
        exact rel_str (hx 0 _ rfl)
      | succ i => exact h3 i s' (by simpa using hi)
    · simp at h

theorem texts_cells : ∀ (xs : List AV) (l : List (List UInt8)), textsOf xs = some l → ∀ (i : Nat) v, xs[i]? = some v → v.cells[0]? = some v
  | [], l, h, i, v, hv => by simp at hv
  | u :: r, l, h, i, v, hv => by
    simp only [textsOf] at h
    split at h
    · rename_i s l' h1
      cases i with
      | zero => simp only [List.getElem?_cons_zero, Option.some.injEq] at hv; subst hv; rfl
      | succ i => exact texts_cells r l' h1 i v (by simpa using hv)
    · simp at h

theorem joinL_eq (sep : List UInt8) (l : List (List UInt8)) : joinL sep l = Lib.join l sep := by
  cases l with
  | nil => rfl
  | cons x r => rw [Lib.join_cons]; rfl

theorem itoa_ok (m : Array Value) {ts : List AV} {v : AV} (h : extItoa ts = some v) {E : GE} {xs : Array Value} (hr : Rel (Tryd.S m) ⟨[], []⟩ E) (hx : VRelL E ts xs) :
    Calls Tryd.prog 42 xs E.w fun e w' => ∃ x E' H', e = .returned x ∧ E'.w = w' ∧ E.le E' ∧ HRel H' E' ∧ VRel E' v x := by
  unfold extItoa at h
  split at h
  · rename_i n
    split at h
    · rename_i hn
      simp only [Option.some.injEq] at h
      subst h
      obtain ⟨x, rfl, hx1⟩ := arr1 hx
      have := rel_int hx1
      subst this
      obtain ⟨⟨el, fr, hb⟩, _⟩ := hr.x (0, powVals) (List.mem_cons_self ..)
      have htab : Lib.TabIs Tryd.prog E.w "internal/strconv.uint64pow10" .u64 Lib.pow10Tab := by
        unfold Lib.TabIs World.var?
        rw [Tryd.pow]
        simp only [Option.bind_some]
        rw [hb]
        rfl
      refine (Tryd.strconv_Itoa n hn.1 hn.2 E.w htab).mono ?_
      rintro e w' ⟨rfl, k, os, rfl⟩
      have hbel : Below E.w.heap.size E.w (Sort.grow (E.w.drewN k) os) := by
        refine ⟨rfl, rfl, rfl, ?_, ?_⟩
        · show E.w.heap.size ≤ (E.w.heap ++ os).size
          simp
        · intro j hj
          show (E.w.heap ++ os)[j]? = _
          rw [Array.getElem?_append_left hj]
      obtain ⟨q1, q2⟩ := still_below hr.h hbel
      exact ⟨_, E.at _, _, rfl, rfl, q1, q2, by rw [itoaL_eq n hn.1 hn.2]; exact .str _⟩
    · simp at h
  · simp at h

theorem join_ok (m : Array Value) {ts : List AV} {v : AV} (h : extJoin ts = some v) {E : GE} {xs : Array Value} (hr : Rel (Tryd.S m) ⟨[], []⟩ E) (hx : VRelL E ts xs) :
    Calls Tryd.prog 49 xs E.w fun e w' => ∃ x E' H', e = .returned x ∧ E'.w = w' ∧ E.le E' ∧ HRel H' E' ∧ VRel E' v x := by
  unfold extJoin at h
  split at h
  · rename_i f p sz us sep
    split at h
    · rename_i hsz
      subst hsz
      split at h
      · rename_i l hl
        split at h
        · rename_i hle
          simp only [Option.some.injEq] at h
          subst h
          obtain ⟨x, y, rfl, hx1, hx2⟩ := arr2 hx
          have := rel_str hx2
          subst this
          cases hx1 with
          | inl _ _ _ _ a cap g h1 h2 h3 h4 h5 h6 =>
            have hcell := texts_cells us l hl
            obtain ⟨e1, e2⟩ := texts_rel (E := E) us l g hl (fun i v hv => h3 i v 0 v hv (hcell i v hv))
            by_cases hnil : l = []
            · subst hnil
              have hz : us.length = 0 := by simpa using e1.symm
              rw [hz]
              refine (Tryd.strings_Join_none (some a) cap ⟨sep.toArray⟩ E.w).mono ?_
              rintro e w' ⟨rfl, hw⟩
              subst hw
              exact ⟨_, E, _, rfl, rfl, .refl _, hr.h, .str []⟩
            · have hpos : 0 < us.length := by
                rcases Nat.eq_zero_or_pos us.length with h' | h'
                · rw [h'] at e1; exact absurd (List.length_eq_zero_iff.1 e1) hnil
                · exact h'
              have hadr : ∀ j, j < us.length → a.add j = ⟨a.block, a.off + j, none⟩ := fun j hj => by
                have := (h2 j 0 hj Nat.one_pos).1
                simp only [Nat.mul_one, Nat.add_zero] at this
                exact addr_of_cell this
              have ha0 := hadr 0 hpos
              obtain ⟨blk, off, spot⟩ := a
              have hspot : spot = none := by
                simp only [Addr.add, if_true] at ha0
                injection ha0
              subst hspot
              have hbk : blk < E.w.heap.size := hr.h.Slt blk _ (h2 0 0 hpos Nat.one_pos).2.2
              have hc := Tryd.strings_Join blk off cap (l.map fun s => ⟨s.toArray⟩) ⟨sep.toArray⟩ E.w (by
                intro j x hj
                simp only [List.getElem?_map, Option.map_eq_some_iff] at hj
                obtain ⟨s, hs, rfl⟩ := hj
                have hjl : j < us.length := by
                  rw [← e1]
                  rcases Nat.lt_or_ge j l.length with h' | h'
                  · exact h'
                  · simp [List.getElem?_eq_none h'] at hs
                have := (h2 j 0 hjl Nat.one_pos).1
                simp only [Nat.mul_one, Nat.add_zero] at this
                rw [hadr j hjl] at this
                rw [this, e2 j s hs]) hbk (by simpa using hle.1) (by simpa [e1] using h4) (by
                  have e3 : ((l.map fun s => (⟨s.toArray⟩ : ByteArray)).map (·.data.toList)) = l := by simp [List.map_map, Function.comp_def]
                  rw [e3]
                  rw [joinL_eq] at hle
                  exact hle.2)
              have e3 : ((l.map fun s => (⟨s.toArray⟩ : ByteArray)).map (·.data.toList)) = l := by simp [List.map_map, Function.comp_def]
              rw [e3] at hc
              simp only [List.length_map, e1] at hc
              refine hc.mono ?_
              rintro e w' ⟨rfl, hb⟩
              obtain ⟨q1, q2⟩ := still_below hr.h hb
              exact ⟨_, E.at _, _, rfl, rfl, q1, q2, by rw [joinL_eq]; exact .str _⟩
        · simp at h
      · simp at h
    · simp at h
  · rename_i sep
    simp only [Option.some.injEq] at h
    subst h
    obtain ⟨x, y, rfl, hx1, hx2⟩ := arr2 hx
    have := rel_str hx2
    subst this
    have := rel_nils hx1
    subst this
    refine (Tryd.strings_Join_none none 0 ⟨sep.toArray⟩ E.w).mono ?_
    rintro e w' ⟨rfl, hw⟩
    subst hw
    exact ⟨_, E, _, rfl, rfl, .refl _, hr.h, .str []⟩
  · simp at h

theorem split_ok (m : Array Value) (hmx : ∃ k, m[0]? = some (.int .i64 k)) {ts : List AV} {v : AV} (h : extSplit ts = some v) {E : GE} {xs : Array Value} (hr : Rel (Tryd.S m) ⟨[], []⟩ E) (hx : VRelL E ts xs) :
    Calls Tryd.prog 51 xs E.w fun e w' => ∃ x E' H', e = .returned x ∧ E'.w = w' ∧ E.le E' ∧ HRel H' E' ∧ VRel E' v x := by
  unfold extSplit at h
  split at h
  · rename_i s c
    split at h
    · rename_i hs
      simp only [Option.some.injEq] at h
      subst h
      obtain ⟨x, y, rfl, hx1, hx2⟩ := arr2 hx
      have := rel_str hx1
      subst this
      have := rel_str hx2
      subst this
      obtain ⟨⟨el, fr, hb⟩, _⟩ := hr.x (1, m) (List.mem_cons_of_mem _ (List.mem_cons_self ..))
      obtain ⟨k, hk⟩ := hmx
      have hm : E.w.cell? ⟨1, 0, none⟩ = some (.int .i64 k) := by simp only at hb; simp [World.cell?, hb, hk]
      refine (Tryd.strings_Split ⟨s.toArray⟩ ⟨#[c]⟩ k E.w (by simpa [ByteArray.size] using hs) hm (by simp [ByteArray.size])).mono ?_
      rintro e w' ⟨rfl, rfl⟩
      have hlist := splitB_eq c s
      have hcount : Lib.countB ⟨s.toArray⟩ ⟨#[c]⟩ + 1 = (splitL c s).length := by
        rw [splitL_length]
        show Lib.count s [c] + 1 = _
        rw [Lib.count_one]
      generalize hB : Lib.splitB ⟨#[c]⟩ 0 (Lib.countB ⟨s.toArray⟩ ⟨#[c]⟩) ⟨s.toArray⟩ = B at hlist
      have hBl : B.length = (splitL c s).length := by rw [← hlist]; simp
      have harr : ∀ (j : Nat) x, ((B.map Value.string).toArray)[j]? = some x → x.oneCell' = true := by
        intro j x hx
        simp only [List.getElem?_toArray, List.getElem?_map, Option.map_eq_some_iff] at hx
        obtain ⟨b, _, rfl⟩ := hx
        rfl
      have hsz : ∀ v, v ∈ (splitL c s).map AV.str → v.cells.length = 1 := by
        intro v hv
        simp only [List.mem_map] at hv
        obtain ⟨b, _, rfl⟩ := hv
        rfl
      have hflat : flat ((splitL c s).map AV.str) = (splitL c s).map AV.str := by
        generalize splitL c s = L
        induction L with
        | nil => rfl
        | cons a L ih => simp only [flat, List.map_cons, List.flatMap_cons] at ih ⊢; rw [ih]; rfl
      have hcr : CRel E (flat ((splitL c s).map AV.str)) (((B.map Value.string).toArray).toList.take (((splitL c s).map AV.str).length * 1)) := by
        rw [hflat]
        have etake : ((B.map Value.string).toArray).toList.take (((splitL c s).map AV.str).length * 1) = B.map Value.string := by
          rw [List.take_of_length_le]
          simp [hBl]
        rw [etake]
        refine ⟨by simp [hBl], ?_, ?_⟩
        · intro j v x hv hx
          rw [← hlist] at hv
          simp only [List.getElem?_map, Option.map_eq_some_iff] at hv hx
          obtain ⟨b, ⟨b2, hb2, rfl⟩, rfl⟩ := hv
          obtain ⟨b3, hb3, rfl⟩ := hx
          obtain rfl := Option.some.inj (hb2.symm.trans hb3)
          exact .str _
        · intro x hx
          simp only [List.mem_map] at hx
          obtain ⟨b, _, rfl⟩ := hx
          rfl
      have hval := row_val (E := E) hr.h (arr := (B.map Value.string).toArray) (el := 9) (sz := 1) (cap := (splitL c s).length) (tk := none) hsz hcr harr (by simp) (by simp [hBl]) (p := .zero) (.inr (.inl ⟨rfl, by simp⟩))
      have hrel := row_rel (E := E) hr.h (arr := (B.map Value.string).toArray) (el := 9) (n := ((splitL c s).map AV.str).length * 1) (tk := none) (by simp [hBl]) harr (by intro q hq; cases hq)
      have hle := row_le (E := E) hr.h (.cells (B.map Value.string).toArray 9) (((splitL c s).map AV.str).length * 1) none
      rw [hcount]
      refine ⟨_, _, _, rfl, ?_, hle, hrel, ?_⟩
      · rfl
      · simpa using hval
    · simp at h
  · simp at h

theorem Tryd.extOK (m : Array Value) (hmx : ∃ k, m[0]? = some (.int .i64 k)) : ExtOK (Tryd.S m) Tryd.prog := by
  refine ⟨?_, fun f g h => by cases h⟩
  intro f g h
  replace h : extTok f = some g := h
  unfold extTok at h
  split at h
  · rename_i hf
    obtain rfl := Nat.eq_of_beq_eq_true hf
    obtain rfl := Option.some.inj h
    exact ⟨⟨_, Tryd.func42, rfl, of_decide_eq_true (by kernel_rfl)⟩, fun ts v h E xs hr hx => itoa_ok m h hr hx⟩
  · rename_i hf _
    obtain rfl := Nat.eq_of_beq_eq_true hf
    obtain rfl := Option.some.inj h
    exact ⟨⟨_, Tryd.func49, rfl, of_decide_eq_true (by kernel_rfl)⟩, fun ts v h E xs hr hx => join_ok m h hr hx⟩
  · rename_i hf _ _
    obtain rfl := Nat.eq_of_beq_eq_true hf
    obtain rfl := Option.some.inj h
    exact ⟨⟨_, Tryd.func51, rfl, of_decide_eq_true (by kernel_rfl)⟩, fun ts v h E xs hr hx => split_ok m hmx h hr hx⟩
  · simp at h

end Go.Proofs.YtoagnbpmoihojaaDoor
