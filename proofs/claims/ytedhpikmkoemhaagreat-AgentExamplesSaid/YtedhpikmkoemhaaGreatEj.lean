/- THE ENGINE, 42: a row of bytes that is made a text: its token dies. -/
import Derived.Test.YtedhpikmkoemhaaGreatEg
import Derived.Test.YtedhpikmkoemhaaGreatEc
import Derived.Test.YtedhpikmkoemhaaGreatEi
import Derived.DataReads
import Derived.DataElems
import Derived.WideShapes
set_option linter.unusedSimpArgs false
set_option linter.unusedVariables false
namespace Go.Sx
variable {R : Type} {S : Sys} {P : Program}

theorem die_sound {H : AH} {E : GE} (hr : HRel H E) {t g sz : Nat} {u : TypeId} (ht : H.toks[t]? = some (g, sz, u)) {b e ce : Nat} (hτ : E.τ t g = some (sz, b, e, ce)) {w' : World} (hw : Only b E.w w') (hc : ∀ o, w'.cell? ⟨b, o, none⟩ = E.w.cell? ⟨b, o, none⟩) :
    E.le (E.at w') ∧ HRel { H with toks := H.toks.set t (g + 1, sz, u) } (E.at w') := by
  have htlt := hr.tlt ht
  have hown : E.owned b := .inr ⟨t, g, _, htlt, hτ, rfl⟩
  have hle : E.le (E.at w') := by
    refine ⟨⟨Nat.le_refl _, fun _ _ _ h => h, Nat.le_refl _, fun _ _ _ _ h => h, fun _ _ h => h, ?_, rfl, fun _ _ => rfl⟩, rfl, fun _ _ h => .inl h, fun _ _ h => h, hw.os, hw.tape, hw.output, Nat.le_of_eq hw.size.symm, ?_⟩
    · intro k o hk
      by_cases e1 : k = b
      · subst e1; exact hc o
      · exact cell_of_block (hw.block k e1)
    · intro k _ hn
      exact hw.block k (fun e => hn (e ▸ hown))
  refine ⟨hle, ?_⟩
  constructor
  · exact hr.nid
  · simpa [GE.at] using hr.nt
  · intro id o ho
    have hid := hr.idlt ho
    exact (hr.obj id o ho).mono hle hid (fun k hk => hw.block k (fun e => hr.tsep t g _ id k htlt hτ hid hk e.symm)) (fun _ _ _ h => h)
  · exact hr.inj
  · intro t' g' sz' u' p' ht' hp'
    simp only [List.getElem?_set] at ht'
    by_cases e1 : t = t'
    · subst e1
      rw [if_pos rfl] at ht'
      split at ht'
      · simp only [Option.some.injEq, Prod.mk.injEq] at ht'
        obtain ⟨rfl, rfl, rfl⟩ := ht'
        have := hr.late t g sz u (g + 1) ht (Nat.lt_succ_self _)
        replace hp' : E.τ t (g + 1) = some p' := hp'
        rw [this] at hp'; cases hp'
      · simp at ht'
    · rw [if_neg e1] at ht'
      replace hp' : E.τ t' g' = some p' := hp'
      obtain ⟨k, e2, ce2, c2, rfl, q2, q3, q4, q5, q6⟩ := hr.tok t' g' sz' u' p' ht' hp'
      have hkb : k ≠ b := fun e3 => e1 (hr.tinj t g _ t' g' _ htlt (hr.tlt ht') hτ hp' e3.symm)
      exact ⟨k, e2, ce2, c2, rfl, (hw.block k hkb).trans q2, q3, q4, q5, q6⟩
  · intro t' g' sz' u' g'' ht' hg
    simp only [List.getElem?_set] at ht'
    by_cases e1 : t = t'
    · subst e1
      rw [if_pos rfl] at ht'
      split at ht'
      · simp only [Option.some.injEq, Prod.mk.injEq] at ht'
        obtain ⟨rfl, rfl, rfl⟩ := ht'
        exact hr.late t g sz u g'' ht (by omega)
      · simp at ht'
    · rw [if_neg e1] at ht'
      exact hr.late t' g' sz' u' g'' ht' hg
  · exact hr.tsep
  · exact hr.tinj
  · exact hr.tbase
  · intro k o hS
    have := hr.set k o hS
    rw [← hle.cell k o hS] at this
    exact this
  · intro k hk
    show k < w'.heap.size
    rw [hw.size]; exact hr.lt k hk
  · show E.base ≤ w'.heap.size
    rw [hw.size]; exact hr.hbase

/-- The bytes that a list of numbers is, each told to be a byte. -/
def byteL : List AV → Option (List UInt8)
  | [] => some []
  | v :: r => match v, byteL r with
    | .int .u8 n, some bs => if 0 ≤ n ∧ n < 256 then some (UInt8.ofNat n.toNat :: bs) else none
    | _, _ => none

/-- A text's bytes as values. -/
def byteV (l : List UInt8) : List AV := l.map fun c => .int .u8 c.toNat

theorem byteL_byteV : ∀ l, byteL (byteV l) = some l
  | [] => rfl
  | c :: r => by
    have h := byteL_byteV r
    have hc := c.toNat_lt
    simp only [byteV, List.map_cons] at h ⊢
    simp only [byteL, h]
    rw [if_pos (by omega)]
    simp

theorem byteL_rel {E : GE} : ∀ (xs : List AV) (l : List UInt8) (x : Nat → Value), byteL xs = some l → (∀ i v, xs[i]? = some v → VRel E v (x i)) → l.length = xs.length ∧ ∀ i u, l[i]? = some u → x i = .int .u8 u.toNat
  | [], l, x, h, _ => by
    simp only [byteL, Option.some.injEq] at h
    subst h
    exact ⟨rfl, by simp⟩
  | v :: r, l, x, h, hx => by
    simp only [byteL] at h
    split at h
    · rename_i n bs h1
      split at h
      · rename_i hn
        simp only [Option.some.injEq] at h
        subst h
        obtain ⟨h2, h3⟩ := byteL_rel r bs (fun i => x (i + 1)) h1 (fun i v hv => hx (i + 1) v (by simpa using hv))
        refine ⟨by simp [h2], ?_⟩
        intro i u hi
        cases i with
        | zero =>
          simp only [List.getElem?_cons_zero, Option.some.injEq] at hi
          subst hi
          rw [rel_int (hx 0 _ rfl)]
          congr 1
          rw [UInt8.toNat_ofNat']
          omega
        | succ i => exact h3 i u (by simpa using hi)
      · simp at h
    · simp at h

theorem byteL_cells : ∀ (xs : List AV) (l : List UInt8), byteL xs = some l → ∀ v, v ∈ xs → v.cells = [v]
  | [], l, h, v, hv => by cases hv
  | u :: r, l, h, v, hv => by
    simp only [byteL] at h
    split at h
    · rename_i n bs h1
      rcases List.mem_cons.1 hv with rfl | h'
      · rfl
      · exact byteL_cells r bs h1 v h'
    · simp at h

/-! A builder: an object of two cells, the second the bytes. -/
def copyX (bt : TypeId) (args : List AV) (H : AH) : Option (AV × AH) := match args with
  | [.ptr id 0] => match H.objs[id]? with
    | some (.tcells u [p, v]) => if u = bt then (match p with
      | .nilptr => some (.tuple [], { H with objs := H.objs.set id (.tcells u [.ptr id 0, v]) })
      | .ptr id' 0 => if id' = id then some (.tuple [], H) else none
      | _ => none) else none
    | _ => none
  | _ => none

def strX (bt el : TypeId) (args : List AV) (H : AH) : Option (AV × AH) := match args with
  | [.ptr id 0] => match H.objs[id]? with
    | some (.tcells u [_, v]) => if u = bt then (match v with
      | .nils => some (.str [], H)
      | .inl _ (.tok t g) 1 xs => (match byteL xs with
        | some bs => if 0 < bs.length ∧ bs.length ≤ 9223372036854775807 ∧ H.toks[t]? = some (g, 1, el) then some (.str bs, { H with toks := H.toks.set t (g + 1, 1, el) }) else none
        | none => none)
      | _ => none) else none
    | _ => none
  | _ => none

/-- What is to be known of the two functions. -/
structure BldOK (P : Program) (bt el : TypeId) (fc fs : FuncId) : Prop where
  used : ∀ b w, World.cell? w ⟨b, 0, none⟩ = some (.pointer (some ⟨b, 0, none⟩)) → Calls P fc #[.pointer (some ⟨b, 0, none⟩)] w fun e w' => e = .returned (.tuple #[]) ∧ w' = w
  fresh : ∀ b w, World.cell? w ⟨b, 0, none⟩ = some (.pointer none) → w.shape? b = some (bt, 2) → w.frozen? ⟨b, 0, none⟩ = false → Calls P fc #[.pointer (some ⟨b, 0, none⟩)] w fun e w' => e = .returned (.tuple #[]) ∧ w' = w.setCell ⟨b, 0, none⟩ (.pointer (some ⟨b, 0, none⟩))
  str : ∀ (b g off cap : Nat) (p : Value) (cur : Array Value) (fr : Nat × Nat) (l : List UInt8) (w : World), w.heap[b]? = some (.cells #[p, .slice (some ⟨g, off, none⟩) l.length cap] bt fr) → w.heap[g]? = some (.cells cur el (0, 0)) → l ≠ [] → l.length ≤ cap →
    l.length ≤ 9223372036854775807 → off + l.length ≤ cur.size → (∀ j x, l[j]? = some x → w.cell? ((⟨g, off, none⟩ : Addr).add j) = some (.int .u8 x.toNat)) → Calls P fs #[.pointer (some ⟨b, 0, none⟩)] w fun e w' => e = .returned (.string ⟨l.toArray⟩) ∧ w' = w.drew.freeze ⟨g, off, none⟩ l.length
  nils : ∀ (b : Nat) (p : Value) (w : World) (fr : Nat × Nat), w.heap[b]? = some (.cells #[p, .slice none 0 0] bt fr) → Calls P fs #[.pointer (some ⟨b, 0, none⟩)] w fun e w' => e = .returned (.string ⟨#[]⟩) ∧ w' = w.drew

theorem two_cells {c : Array Value} (h : c.size = 2) : ∃ x y, c = #[x, y] := by
  obtain ⟨l⟩ := c
  match l, h with
  | [x, y], _ => exact ⟨x, y, rfl⟩

theorem copyX_ok {bt el : TypeId} {fc fs : FuncId} (hB : BldOK P bt el fc fs) {args : List AV} {H H' : AH} {v : AV} (h : copyX bt args H = some (v, H')) {E : GE} {xs : Array Value} (hr : HRel H E) (hx : VRelL E args xs) :
    Calls P fc xs E.w fun e w' => ∃ x E', e = .returned x ∧ E'.w = w' ∧ E.le E' ∧ HRel H' E' ∧ VRel E' v x := by
  unfold copyX at h
  split at h
  · rename_i id
    split at h
    · rename_i u p w ho
      split at h
      · rename_i hu
        subst hu
        obtain ⟨x, rfl, hx1⟩ := arr1 hx
        cases hx1 with
        | ptr _ _ b hid hb =>
        cases hr.obj _ _ ho with
        | tcells _ _ b' c hb' hh hl hc h1 hS =>
        rw [hb] at hb'
        obtain rfl := Option.some.inj hb'
        obtain ⟨x0, x1, rfl⟩ := two_cells (c := c) (by simpa using hl.symm)
        split at h
        · simp only [Option.some.injEq, Prod.mk.injEq] at h
          obtain ⟨rfl, rfl⟩ := h
          have hx0 : x0 = .pointer none := by
            have := hc 0 _ _ rfl rfl
            cases this; rfl
          subst hx0
          refine (hB.fresh b E.w (by rw [obj_cell hh]; rfl) (by simp [World.shape?, hh]) (by simp [World.frozen?, hh])).mono ?_
          rintro e w' ⟨rfl, rfl⟩
          have hh' : (E.w.setCell ⟨b, 0, none⟩ (.pointer (some ⟨b, 0, none⟩))).heap[b]? = some (.cells #[.pointer (some ⟨b, 0, none⟩), x1] u (0, 0)) := by
            simp [World.setCell, Array.getElem?_modify, hh]
          have honly : Only b E.w (E.w.setCell ⟨b, 0, none⟩ (.pointer (some ⟨b, 0, none⟩))) := by
            constructor
            · rfl
            · rfl
            · rfl
            · simp [World.setCell]
            · intro k hk
              simp only [World.setCell, Array.getElem?_modify]
              rw [if_neg (by omega)]
          have hle := le_write (.inl ⟨id, hid, hb⟩) hS honly
          obtain ⟨g1, g2⟩ := hr.write ho rfl hid hb hS honly (o' := .tcells u [.ptr id 0, w]) (by
            refine .tcells u _ b _ hb hh' rfl ?_ ?_ hS
            · intro j v x hv hx
              rcases j with _ | _ | j
              · simp at hv hx; subst hv; subst hx; exact .ptr _ _ _ hid hb
              · simp at hv hx; subst hv; subst hx; exact (hc 1 _ _ rfl rfl).mono hle
              · simp at hv
            · intro j x hx
              rcases j with _ | _ | j
              · simp at hx; subst hx; rfl
              · simp at hx; subst hx; exact h1 1 _ rfl
              · simp at hx)
          exact ⟨_, _, rfl, rfl, g1, g2, .tuple [] #[] rfl (by simp)⟩
        · rename_i id'
          split at h
          · rename_i he
            subst he
            simp only [Option.some.injEq, Prod.mk.injEq] at h
            obtain ⟨rfl, rfl⟩ := h
            have hx0 : x0 = .pointer (some ⟨b, 0, none⟩) := by
              have := hc 0 _ _ rfl rfl
              cases this with
              | ptr _ _ b2 _ hb2 =>
                rw [hb] at hb2
                obtain rfl := Option.some.inj hb2
                rfl
            subst hx0
            refine (hB.used b E.w (by rw [obj_cell hh]; rfl)).mono ?_
            rintro e w' ⟨rfl, rfl⟩
            exact ⟨_, E, rfl, rfl, .refl _, hr, .tuple [] #[] rfl (by simp)⟩
          · simp at h
        · simp at h
      · simp at h
    · simp at h
  · simp at h

theorem strX_ok {bt el : TypeId} {fc fs : FuncId} (hB : BldOK P bt el fc fs) {args : List AV} {H H' : AH} {v : AV} (h : strX bt el args H = some (v, H')) {E : GE} {xs : Array Value} (hr : HRel H E) (hx : VRelL E args xs) :
    Calls P fs xs E.w fun e w' => ∃ x E', e = .returned x ∧ E'.w = w' ∧ E.le E' ∧ HRel H' E' ∧ VRel E' v x := by
  unfold strX at h
  split at h
  · rename_i id
    split at h
    · rename_i u p w ho
      split at h
      · rename_i hu
        subst hu
        obtain ⟨x, rfl, hx1⟩ := arr1 hx
        cases hx1 with
        | ptr _ _ b hid hb =>
        cases hr.obj _ _ ho with
        | tcells _ _ b' c hb' hh hl hc h1 hS =>
        rw [hb] at hb'
        obtain rfl := Option.some.inj hb'
        obtain ⟨x0, x1, rfl⟩ := two_cells (c := c) (by simpa using hl.symm)
        have hd := hr.heap (w' := E.w.drew) rfl rfl rfl rfl
        have hdl := le_heap (E := E) (w' := E.w.drew) rfl rfl rfl rfl
        have hv1 : VRel E w x1 := hc 1 _ _ rfl rfl
        split at h
        · simp only [Option.some.injEq, Prod.mk.injEq] at h
          obtain ⟨rfl, rfl⟩ := h
          have hx1 : x1 = .slice none 0 0 := by cases hv1; rfl
          subst hx1
          refine (hB.nils b x0 E.w _ hh).mono ?_
          rintro e w' ⟨rfl, rfl⟩
          exact ⟨_, E.at E.w.drew, rfl, rfl, hdl, hd, .str []⟩
        · rename_i f t g ys
          split at h
          · rename_i bs hbs
            split at h
            · rename_i hcond
              obtain ⟨k1, k2, k3⟩ := hcond
              simp only [Option.some.injEq, Prod.mk.injEq] at h
              obtain ⟨rfl, rfl⟩ := h
              cases hv1 with
              | inl _ _ _ _ a cap x hsz hxx hrr hcap hf hp =>
              obtain ⟨q1, q2, q3⟩ := hp
              obtain ⟨ab, ao, as⟩ := a
              simp only at q2 q3
              subst q2
              obtain ⟨m1, m2⟩ := byteL_rel (E := E) ys bs (fun i => x i 0) hbs (fun i v hv => hrr i v 0 v hv (by rw [byteL_cells ys bs hbs v (List.mem_of_getElem? hv)]; rfl))
              obtain ⟨gb, ge, gc, cur, e1, e2, e3, e4, e5, e6⟩ := hr.tok t g 1 el _ k3 q3
              simp only [Prod.mk.injEq, true_and] at e1
              obtain ⟨rfl, rfl, rfl⟩ := e1
              have hne : bs ≠ [] := by intro e; subst e; simp at k1
              rw [← m1] at hcap hh
              refine (hB.str b ab ao cap x0 cur _ bs E.w hh e2 hne hcap k2 (by omega) ?_).mono ?_
              · intro j y hy
                have hj : j < ys.length := by
                  rw [← m1]
                  rcases Nat.lt_or_ge j bs.length with h' | h'
                  · exact h'
                  · simp [List.getElem?_eq_none h'] at hy
                have := (hxx j 0 hj (by omega)).1
                rw [show j * 1 + 0 = j by omega] at this
                rw [this, m2 j y hy]
              · rintro e w' ⟨rfl, rfl⟩
                have hnz : bs.length ≠ 0 := by omega
                have hlen : bs.length ≠ 0 := hnz
                have honly : Only ab (E.at E.w.drew).w (E.w.drew.freeze ⟨ab, ao, none⟩ bs.length) := by
                  unfold World.freeze
                  rw [if_neg hnz]
                  constructor
                  · rfl
                  · rfl
                  · rfl
                  · simp [GE.at]
                  · intro k hk
                    simp only [Array.getElem?_modify]
                    rw [if_neg (by omega)]
                    rfl
                have hcell : ∀ o, (E.w.drew.freeze ⟨ab, ao, none⟩ bs.length).cell? ⟨ab, o, none⟩ = (E.at E.w.drew).w.cell? ⟨ab, o, none⟩ := by
                  intro o
                  have e2' : E.w.drew.heap[ab]? = some (.cells cur el (0, 0)) := e2
                  unfold World.freeze
                  rw [if_neg hnz]
                  simp [World.cell?, GE.at, Array.getElem?_modify, e2']
                obtain ⟨g1, g2⟩ := die_sound hd k3 (by exact q3) honly hcell
                exact ⟨_, _, rfl, rfl, hdl.trans g1, g2, .str bs⟩
            · simp at h
          · simp at h
        · simp at h
      · simp at h
    · simp at h
  · simp at h
end Go.Sx

/- THE ENGINE, 43: an argument that can be read as data, told as a tree. -/
set_option linter.unusedSimpArgs false
set_option linter.unusedVariables false
namespace Go.Sx
open Go.ChangeShapes
variable {P : Program}

/-- Shapes of data. -/
inductive DT where
  | int (k : IntKind)
  | bool
  | str
  | agg (n : Nat) (fs : List DT)
  | sl (n : Nat) (e : DT)

def DT.cells : DT → Nat
  | .agg n _ => n
  | _ => 1
def DT.isAgg : DT → Bool
  | .agg _ _ => true
  | _ => false

mutual
def dtB (P : Program) : DT → TypeId → Bool
  | .int k, t => match P.underlying t with | some (.int k') => decide (k = k') | _ => false
  | .bool, t => match P.underlying t with | some .bool => true | _ => false
  | .str, t => match P.underlying t with | some .string => true | _ => false
  | .agg n fs, t => match P.underlying t with | some (.struct fields) => Nat.beq (P.cellsOf t) n && dtL P fs fields.toList 0 n | _ => false
  | .sl n e, t => match P.underlying t with | some (.slice et) => Nat.beq (P.cellsOf et) n && (Nat.beq n e.cells && dtB P e et) | _ => false
def dtL (P : Program) : List DT → List Field → Nat → Nat → Bool
  | [], [], off, n => Nat.beq off n
  | d :: r, f :: fs, off, n => Nat.beq f.offset off && (Nat.beq (P.cellsOf f.type) d.cells && (dtB P d f.type && dtL P r fs (off + d.cells) n))
  | _, _, _, _ => false
end

mutual
/-- Cells of a shape. -/
def okC : DT → List AV → Prop
  | .int k, cs => ∃ n, cs = [.int k n] ∧ (Lit.int k n).wf = true
  | .bool, cs => ∃ b, cs = [.bool b]
  | .str, cs => ∃ s, cs = [.str s] ∧ s.length ≤ maxLen
  | .agg _ fs, cs => okL fs cs
  | .sl n e, cs => cs = [.nils] ∨ ∃ xs, cs = [.inl false .unk n xs] ∧ xs.length ≤ maxLen ∧ ∀ v ∈ xs, match e.isAgg with | true => ∃ us, v = .agg us ∧ okC e us | false => okC e [v]
def okL : List DT → List AV → Prop
  | [], cs => cs = []
  | d :: r, cs => ∃ a b, cs = a ++ b ∧ a.length = d.cells ∧ okC d a ∧ okL r b
end

/-- A value of a shape. -/
def okV (d : DT) (v : AV) : Prop := match d.isAgg with | true => ∃ us, v = .agg us ∧ okC d us | false => okC d [v]

/-- Cells told by trees. -/
def Cells (W : World) (avs : List AV) (cs : List Value) : Prop :=
  avs.length = cs.length ∧ (∀ (i : Nat) v c, avs[i]? = some v → cs[i]? = some c → VRel (GE.start W) v c) ∧ (∀ c ∈ cs, c.oneCell' = true)

theorem Cells.one {W : World} {v : AV} {c : Value} (h : VRel (GE.start W) v c) (h1 : c.oneCell' = true) : Cells W [v] [c] := by
  refine ⟨rfl, ?_, by simpa using h1⟩
  intro i u x hu hx
  cases i with
  | zero => simp at hu hx; subst hu; subst hx; exact h
  | succ i => simp at hu

theorem Cells.app {W : World} {a b : List AV} {x y : List Value} (h : Cells W a x) (k : Cells W b y) : Cells W (a ++ b) (x ++ y) := by
  obtain ⟨h1, h2, h3⟩ := h
  obtain ⟨k1, k2, k3⟩ := k
  refine ⟨by simp [h1, k1], ?_, ?_⟩
  · intro i u z hu hz
    rcases Nat.lt_or_ge i a.length with hi | hi
    · rw [List.getElem?_append_left hi] at hu
      rw [List.getElem?_append_left (by omega)] at hz
      exact h2 i u z hu hz
    · rw [List.getElem?_append_right hi] at hu
      rw [List.getElem?_append_right (by omega), ← h1] at hz
      exact k2 _ u z hu hz
  · intro c hc
    rcases List.mem_append.1 hc with hc | hc
    · exact h3 c hc
    · exact k3 c hc

section
variable {H : Type} {enc : TypeId × Value → H} {W : World} {sp : Nat → Bool} {held : Bool}

mutual
theorem open_cells : ∀ (d : DT) (t : TypeId) (fuel : Nat) (cs : List Value) (x : DataW H × List MemPlace), dtB P d t = true → DataW.trod enc P W 0 sp held fuel t cs = some x → ∃ avs, okC d avs ∧ avs.length = d.cells ∧ Cells W avs cs
  | .int k, t, fuel, cs, x, hd, h => by
    unfold dtB at hd
    split at hd
    · rename_i k' hu
      obtain rfl : k = k' := by simpa using hd
      obtain ⟨n, rfl, _, hw⟩ := DataW.trod_int hu h
      exact ⟨[.int k n], ⟨n, rfl, hw⟩, rfl, .one (.int k n) rfl⟩
    · simp at hd
  | .bool, t, fuel, cs, x, hd, h => by
    unfold dtB at hd
    split at hd
    · rename_i hu
      obtain ⟨b, rfl, _⟩ := DataW.trod_bool hu h
      exact ⟨[.bool b], ⟨b, rfl⟩, rfl, .one (.bool b) rfl⟩
    · simp at hd
  | .str, t, fuel, cs, x, hd, h => by
    unfold dtB at hd
    split at hd
    · rename_i hu
      obtain ⟨⟨⟨l⟩⟩, rfl, _, hl⟩ := DataW.trod_string hu h
      exact ⟨[.str l], ⟨l, rfl, hl⟩, rfl, .one (.str l) rfl⟩
    · simp at hd
  | .agg n fs, t, fuel, cs, x, hd, h => by
    unfold dtB at hd
    split at hd
    · rename_i fields hu
      simp only [Bool.and_eq_true] at hd
      obtain ⟨xs, m, rfl, -, hl, hn, hel⟩ := DataW.trod_struct hu h
      have hcn := Nat.eq_of_beq_eq_true hd.1
      obtain ⟨avs, h1, h2, h3⟩ := open_list fs fields.toList 0 n m cs hd.2 (by rw [hl, hcn]) (by
        intro i f hf
        have := hel i f (by simpa using hf)
        have hi : i < xs.length := by
          rw [hn]
          have := (List.getElem?_eq_some_iff.1 hf).1
          simpa using this
        exact ⟨_, this.trans (List.getElem?_eq_getElem hi)⟩)
      refine ⟨avs, h1, ?_, by simpa using h3⟩
      · simpa [DT.cells] using h2
    · simp at hd
  | .sl n e, t, fuel, cs, x, hd, h => by
    unfold dtB at hd
    split at hd
    · rename_i et hu
      simp only [Bool.and_eq_true] at hd
      obtain ⟨hd1, hd2, hd3⟩ := hd
      have hn := Nat.eq_of_beq_eq_true hd1
      have hc := Nat.eq_of_beq_eq_true hd2
      rcases DataW.trod_slice hu h with ⟨rfl, -⟩ | ⟨a, len, cap, elems, rest, m, rfl, rfl, -, hb, hlen, hmax, hel, hget, -, -⟩
      · exact ⟨[.nils], .inl rfl, rfl, .one .nils rfl⟩
      · have key : ∀ i, i < len → ∃ avs us, okC e avs ∧ avs.length = n ∧ us.length = n ∧ (∀ j, j < n → W.cell? (a.add (i * n + j)) = us[j]?) ∧ Cells W avs us := by
          intro i hi
          have := hget i hi
          rw [List.getElem?_eq_getElem (by omega)] at this
          obtain ⟨us, hu1, hu2⟩ := Option.bind_eq_some_iff.1 this
          obtain ⟨avs, k1, k2, k3⟩ := open_cells e et m us _ hd3 hu2
          obtain ⟨h5, h6⟩ := World.cells?_some hu1
          refine ⟨avs, us, k1, by rw [k2, hc], by rw [← k3.1, k2, hc], ?_, k3⟩
          intro j hj
          rw [hn] at hu1 h6
          have := h6.2 j hj
          rw [Addr.add_add] at this
          exact this
        let F (i : Nat) : List AV := if hi : i < len then (key i hi).choose else []
        let U (i : Nat) : List Value := if hi : i < len then (key i hi).choose_spec.choose else []
        have hF : ∀ i (hi : i < len), okC e (F i) ∧ (F i).length = n ∧ (U i).length = n ∧ (∀ j, j < n → W.cell? (a.add (i * n + j)) = (U i)[j]?) ∧ Cells W (F i) (U i) := by
          intro i hi
          have := (key i hi).choose_spec.choose_spec
          simp only [F, U, hi, dite_true]
          exact this
        let V (i : Nat) : AV := match e.isAgg with | true => .agg (F i) | false => (F i).headD .top
        have hV : ∀ i, i < len → (V i).cells = F i := by
          intro i hi
          simp only [V]
          cases he : e.isAgg with
          | true => rfl
          | false =>
            have h1 : (F i).length = 1 := by
              rw [(hF i hi).2.1, hc]
              cases e with
              | agg => simp [DT.isAgg] at he
              | _ => rfl
            have h2 := (hF i hi).1
            match hx : F i, h1 with
            | [v], _ =>
              simp only [List.headD_cons]
              rw [hx] at h2
              cases e with
              | agg => simp [DT.isAgg] at he
              | int k => obtain ⟨n, h, _⟩ := h2; simp at h; subst h; rfl
              | bool => obtain ⟨n, h⟩ := h2; simp at h; subst h; rfl
              | str => obtain ⟨n, h, _⟩ := h2; simp at h; subst h; rfl
              | sl m e =>
                rcases h2 with h | ⟨ys, h, _⟩
                · simp at h; subst h; rfl
                · simp at h; subst h; rfl
        refine ⟨[.inl false .unk n ((List.range len).map V)], .inr ⟨_, rfl, by simp; omega, ?_⟩, rfl, .one ?_ rfl⟩
        · intro v hv
          obtain ⟨i, hi, rfl⟩ := List.mem_map.1 hv
          have hi := List.mem_range.1 hi
          have h1 := (hF i hi).1
          cases he : e.isAgg with
          | true =>
            simp only [V, he]
            exact ⟨F i, rfl, h1⟩
          | false =>
            have h2 := hV i hi
            simp only [V, he] at h2 ⊢
            have h3 : (F i).length = 1 := by
              rw [(hF i hi).2.1, hc]
              cases e with
              | agg => simp [DT.isAgg] at he
              | _ => rfl
            match hx : F i, h3 with
            | [v], _ =>
              simp only [List.headD_cons]
              rw [← hx]; exact h1
        · have hlenm : ((List.range len).map V).length = len := by simp
          have := VRel.inl (E := GE.start W) false .unk n ((List.range len).map V) a cap (fun i j => (U i).getD j .nilFunc) ?_ ?_ ?_ (by simpa using hlen) (by simp) trivial
          · rw [hlenm] at this; exact this
          · intro v hv
            obtain ⟨i, hi, rfl⟩ := List.mem_map.1 hv
            have hi := List.mem_range.1 hi
            rw [hV i hi]; exact (hF i hi).2.1
          · intro i j hi hj
            rw [hlenm] at hi
            obtain ⟨-, -, q3, q4, q5⟩ := hF i hi
            have hju : j < (U i).length := by omega
            have e1 : (U i)[j]? = some ((U i).getD j .nilFunc) := by
              rw [List.getElem?_eq_getElem hju]; simp [List.getD, hju]
            have e2 : W.cell? (a.add (i * n + j)) = some ((U i).getD j .nilFunc) := (q4 j hj).trans e1
            refine ⟨e2, q5.2.2 _ (List.mem_of_getElem? e1), ?_⟩
            show (W.cell? ⟨a.block, a.off + (i * n + j), none⟩).isSome = true
            rw [← addr_of_cell e2, e2]; rfl
          · intro i v j c hv hcell
            have hi : i < len := by
              have := (List.getElem?_eq_some_iff.1 hv).1
              simpa using this
            have : ((List.range len).map V)[i]? = some (V i) := by simp [hi]
            rw [this] at hv
            obtain rfl := Option.some.inj hv
            rw [hV i hi] at hcell
            obtain ⟨-, q2, q3, -, q5⟩ := hF i hi
            have hj : j < (F i).length := (List.getElem?_eq_some_iff.1 hcell).1
            have hju : j < (U i).length := by omega
            have e1 : (U i)[j]? = some ((U i).getD j .nilFunc) := by
              rw [List.getElem?_eq_getElem hju]; simp [List.getD, hju]
            exact q5.2.1 j _ _ hcell e1
    · simp at hd
theorem open_list : ∀ (ds : List DT) (fs : List Field) (off n fuel : Nat) (cs : List Value), dtL P ds fs off n = true → cs.length = n → (∀ (i : Nat) f, fs[i]? = some f → ∃ x, DataW.trod enc P W 0 sp held fuel f.type ((cs.drop f.offset).take (P.cellsOf f.type)) = some x) →
    ∃ avs, okL ds avs ∧ avs.length + off = n ∧ Cells W avs (cs.drop off)
  | [], [], off, n, fuel, cs, hd, hl, h => by
    unfold dtL at hd
    obtain rfl := Nat.eq_of_beq_eq_true hd
    have : cs.drop off = [] := by rw [← hl]; simp
    rw [this]
    refine ⟨[], by unfold okL; rfl, by simp, rfl, by simp, by simp⟩
  | d :: ds, f :: fs, off, n, fuel, cs, hd, hl, h => by
    unfold dtL at hd
    simp only [Bool.and_eq_true] at hd
    obtain ⟨h1, h2, h3, h4⟩ := hd
    have e1 := Nat.eq_of_beq_eq_true h1
    have e2 := Nat.eq_of_beq_eq_true h2
    obtain ⟨x, hx⟩ := h 0 f rfl
    rw [e1, e2] at hx
    obtain ⟨a, k1, k2, k3⟩ := open_cells d f.type fuel _ x h3 hx
    obtain ⟨b, m1, m2, m3⟩ := open_list ds fs (off + d.cells) n fuel cs h4 hl (fun i g hg => h (i + 1) g (by simpa using hg))
    have e3 : cs.drop off = (cs.drop off).take d.cells ++ cs.drop (off + d.cells) := by
      rw [← List.drop_drop]; exact (List.take_append_drop _ _).symm
    rw [e3]
    refine ⟨a ++ b, ?_, by simp only [List.length_append]; omega, k3.app m3⟩
    unfold okL
    exact ⟨a, b, rfl, k2, k1, m1⟩
  | [], _ :: _, off, n, fuel, cs, hd, hl, h => by simp [dtL] at hd
  | _ :: _, [], off, n, fuel, cs, hd, hl, h => by simp [dtL] at hd
end

/-- An argument. -/
theorem open_val {d : DT} {t : TypeId} {v : Value} {dd : DataW H} {ps : List MemPlace} (hd : dtB P d t = true) (hag : d.isAgg = true → ∃ xs, v = .agg xs) (hone : d.isAgg = false → v.oneCell' = true) (h : DataW.Trod enc P W 0 sp held t v dd ps) : ∃ av, okV d av ∧ VRel (GE.start W) av v := by
  obtain ⟨fuel, h⟩ := h
  obtain ⟨avs, h1, h2, h3, h4, h5⟩ := open_cells d t fuel _ _ hd h
  unfold okV
  cases he : d.isAgg with
  | true =>
    obtain ⟨xs, rfl⟩ := hag he
    refine ⟨.agg avs, ⟨avs, rfl, h1⟩, .agg _ _ (by simpa [Value.cells] using h3) ?_ ?_⟩
    · intro i c x hc hx
      exact h4 i c x hc (by simpa [Value.cells] using hx)
    · intro i x hx
      exact h5 x (List.mem_of_getElem? (by simpa [Value.cells] using hx))
  | false =>
    have e : v.cells.toList = [v] := by
      have := hone he
      cases v <;> first | rfl | simp [Value.oneCell'] at this
    rw [e] at h3 h4
    match avs, h3 with
    | [u], _ => exact ⟨u, h1, h4 0 u v rfl rfl⟩

theorem open_arg {d : DT} {t : TypeId} {v : Value} {dd : DataW H} {ps : List MemPlace} {r : Reach} {b0 : Nat} (hd : dtB P d t = true) (hval : Value.okWide P W r b0 t v) (h : DataW.Trod enc P W 0 sp held t v dd ps) : ∃ av, okV d av ∧ VRel (GE.start W) av v := by
  refine open_val hd ?_ ?_ h
  · intro ha
    cases d with
    | agg n fs =>
      unfold dtB at hd
      split at hd
      · rename_i fields hu
        obtain ⟨cs, h1, _⟩ := Go.WideShapes.okWide_struct hu hval
        exact ⟨cs, h1⟩
      · simp at hd
    | _ => simp [DT.isAgg] at ha
  · intro ha
    cases d with
    | agg => simp [DT.isAgg] at ha
    | int k =>
      unfold dtB at hd
      split at hd
      · rename_i k' hu
        obtain ⟨n, rfl⟩ := Go.WideShapes.okWide_int hu hval
        rfl
      · simp at hd
    | bool =>
      unfold dtB at hd
      split at hd
      · rename_i hu
        obtain ⟨n, rfl⟩ := Go.WideShapes.okWide_bool hu hval
        rfl
      · simp at hd
    | str =>
      unfold dtB at hd
      split at hd
      · rename_i hu
        obtain ⟨n, rfl⟩ := Go.WideShapes.okWide_string hu hval
        rfl
      · simp at hd
    | sl n e =>
      unfold dtB at hd
      split at hd
      · rename_i et hu
        obtain ⟨a, l, c, rfl⟩ := Go.WideShapes.okWide_slice hu hval
        rfl
      · simp at hd

def okVs : List DT → List AV → Prop
  | [], [] => True
  | d :: ds, v :: vs => okV d v ∧ okVs ds vs
  | _, _ => False
def dtLs (P : Program) : List DT → List TypeId → Bool
  | [], [] => true
  | d :: ds, t :: ts => dtB P d t && dtLs P ds ts
  | _, _ => false

theorem okVs0 {avs : List AV} (h : okVs [] avs) : avs = [] := by
  cases avs with
  | nil => rfl
  | cons v r => exact h.elim
theorem okVsC {d : DT} {ds : List DT} {avs : List AV} (h : okVs (d :: ds) avs) : ∃ v r, avs = v :: r ∧ okV d v ∧ okVs ds r := by
  cases avs with
  | nil => exact h.elim
  | cons v r => exact ⟨v, r, rfl, h.1, h.2⟩

/-- The arguments of a call. -/
theorem open_args {r : Reach} {b0 : Nat} : ∀ (ds : List DT) (ts : List TypeId) (vs : List Value) (dds : List (DataW H)) (ps : List MemPlace), dtLs P ds ts = true → (∀ (j : Nat) t v, ts[j]? = some t → vs[j]? = some v → Value.okWide P W r b0 t v) →
    DataW.TrodAll enc P W 0 sp held ts vs dds ps → ∃ avs, okVs ds avs ∧ avs.length = vs.length ∧ ∀ (i : Nat) v x, avs[i]? = some v → vs[i]? = some x → VRel (GE.start W) v x
  | [], [], [], dds, ps, hd, hval, h => ⟨[], trivial, rfl, by simp⟩
  | d :: ds, t :: ts, v :: vs, dd :: dds, ps, hd, hval, h => by
    simp only [dtLs, Bool.and_eq_true] at hd
    obtain ⟨p, q, h1, h2, rfl⟩ := h
    obtain ⟨av, k1, k2⟩ := open_arg hd.1 (hval 0 t v rfl rfl) h1
    obtain ⟨avs, m1, m2, m3⟩ := open_args ds ts vs dds q hd.2 (fun j t v ht hv => hval (j + 1) t v (by simpa using ht) (by simpa using hv)) h2
    refine ⟨av :: avs, ⟨k1, m1⟩, by simp [m2], ?_⟩
    intro i u x hu hx
    cases i with
    | zero => simp at hu hx; subst hu; subst hx; exact k2
    | succ i => exact m3 i u x (by simpa using hu) (by simpa using hx)
  | [], [], _ :: _, dds, ps, hd, hval, h => by simp [DataW.TrodAll] at h
  | d :: ds, t :: ts, [], dds, ps, hd, hval, h => by simp [DataW.TrodAll] at h
  | d :: ds, t :: ts, v :: vs, [], ps, hd, hval, h => by simp [DataW.TrodAll] at h
  | [], _ :: _, vs, dds, ps, hd, hval, h => by simp [dtLs] at hd
  | _ :: _, [], vs, dds, ps, hd, hval, h => by simp [dtLs] at hd
end
end Go.Sx

/- THE ENGINE, 45: trees that are data: their shapes, whatever the flags of their slices; what a call makes of them. -/
set_option linter.unusedSimpArgs false
set_option linter.unusedVariables false
namespace Go.Sx
variable {R : Type} {S : Sys}

def Spare.noTok : Spare → Bool
  | .tok _ _ => false
  | _ => true

mutual
/-- A value without its slices' flags; a nil slice is an empty one. -/
def nrm : AV → AV
  | .inl _ _ _ xs => .inl false .unk 0 (nrmL xs)
  | .nils => .inl false .unk 0 []
  | .agg cs => .agg (nrmL cs)
  | v => v
def nrmL : List AV → List AV
  | [] => []
  | v :: r => nrm v :: nrmL r
end

mutual
/-- Cells of a shape, whatever the flags. -/
def tyC : DT → List AV → Prop
  | .int k, cs => ∃ n, cs = [.int k n] ∧ (Lit.int k n).wf = true
  | .bool, cs => ∃ b, cs = [.bool b]
  | .str, cs => ∃ s, cs = [.str s] ∧ s.length ≤ maxLen
  | .agg _ fs, cs => tyL fs cs
  | .sl n e, cs => cs = [.nils] ∨ ∃ f p xs, cs = [.inl f p n xs] ∧ p.noTok = true ∧ xs.length ≤ maxLen ∧ ∀ v ∈ xs, match e.isAgg with | true => ∃ us, v = .agg us ∧ tyC e us | false => tyC e [v]
def tyL : List DT → List AV → Prop
  | [], cs => cs = []
  | d :: r, cs => ∃ a b, cs = a ++ b ∧ a.length = d.cells ∧ tyC d a ∧ tyL r b
end
def tyV (d : DT) (v : AV) : Prop := match d.isAgg with | true => ∃ us, v = .agg us ∧ tyC d us | false => tyC d [v]
def tyVs : List DT → List AV → Prop
  | [], [] => True
  | d :: ds, v :: vs => tyV d v ∧ tyVs ds vs
  | _, _ => False

mutual
theorem ok_ty : ∀ (d : DT) (cs : List AV), okC d cs → tyC d cs
  | .int k, cs, h => h
  | .bool, cs, h => h
  | .str, cs, h => h
  | .agg n fs, cs, h => ok_tyL fs cs h
  | .sl n e, cs, h => by
    rcases h with h | ⟨xs, h1, h2, h3⟩
    · exact .inl h
    · refine .inr ⟨false, .unk, xs, h1, rfl, h2, fun v hv => ?_⟩
      have := h3 v hv
      cases he : e.isAgg with
      | true =>
        rw [he] at this
        obtain ⟨us, k1, k2⟩ := this
        exact ⟨us, k1, ok_ty e us k2⟩
      | false =>
        rw [he] at this
        exact ok_ty e [v] this
theorem ok_tyL : ∀ (ds : List DT) (cs : List AV), okL ds cs → tyL ds cs
  | [], cs, h => h
  | d :: ds, cs, h => by
    obtain ⟨a, b, h1, h2, h3, h4⟩ := h
    exact ⟨a, b, h1, h2, ok_ty d a h3, ok_tyL ds b h4⟩
end
theorem ok_tyV {d : DT} {v : AV} (h : okV d v) : tyV d v := by
  unfold okV at h
  unfold tyV
  cases he : d.isAgg with
  | true =>
    rw [he] at h
    obtain ⟨us, k1, k2⟩ := h
    exact ⟨us, k1, ok_ty d us k2⟩
  | false =>
    rw [he] at h
    exact ok_ty d [v] h

theorem belowL_app (n m : Nat) : ∀ (a b : List AV), belowL n m (a ++ b) = (belowL n m a && belowL n m b)
  | [], b => by simp [belowL]
  | v :: a, b => by simp [belowL, belowL_app n m a b, Bool.and_assoc]
theorem eraseL_app : ∀ (a b : List AV), eraseL (a ++ b) = eraseL a ++ eraseL b
  | [], b => rfl
  | v :: a, b => by simp [eraseL, eraseL_app a b]
theorem nrmL_app : ∀ (a b : List AV), nrmL (a ++ b) = nrmL a ++ nrmL b
  | [], b => rfl
  | v :: a, b => by simp [nrmL, nrmL_app a b]
theorem detokL_app : ∀ (a b : List AV), detokL (a ++ b) = detokL a ++ detokL b
  | [], b => rfl
  | v :: a, b => by simp [detokL, detokL_app a b]
theorem resolveCs_app (H : AH) : ∀ (a b : List AV), resolveCs H a = some a → resolveCs H b = some b → resolveCs H (a ++ b) = some (a ++ b)
  | [], b, _, h => h
  | v :: a, b, h, k => by
    simp only [resolveCs, List.cons_append] at h ⊢
    split at h
    · rename_i x xs h1 h2
      simp only [Option.some.injEq, List.cons.injEq] at h
      obtain ⟨rfl, rfl⟩ := h
      rw [h1, resolveCs_app H _ _ h2 k]
    · simp at h
theorem nrmL_length : ∀ (a : List AV), (nrmL a).length = a.length
  | [] => rfl
  | v :: a => by simp [nrmL, nrmL_length a]
/-- What is to be known of cells that are data. -/
structure DataL (cs : List AV) : Prop where
  below : ∀ n m, belowL n m cs = true
  res : ∀ H, resolveCs H cs = some cs
  nrm : nrmL (eraseL cs) = nrmL cs
  detok : detokL cs = cs
  ebelow : ∀ n m, belowL n m (eraseL cs) = true

theorem DataL.app {a b : List AV} (h : DataL a) (k : DataL b) : DataL (a ++ b) :=
  ⟨fun n m => by rw [belowL_app, h.below, k.below]; rfl, fun H => resolveCs_app H a b (h.res H) (k.res H), by rw [eraseL_app, nrmL_app, nrmL_app, h.nrm, k.nrm], by rw [detokL_app, h.detok, k.detok], fun n m => by rw [eraseL_app, belowL_app, h.ebelow, k.ebelow]; rfl⟩

/-- A row of data. -/
theorem dataL_list : ∀ (xs : List AV), (∀ v ∈ xs, (∃ us, v = .agg us ∧ DataL us) ∨ DataL [v]) → (∀ n m, belowL n m xs = true) ∧ nrmL (eraseL xs) = nrmL xs ∧ detokL xs = xs ∧ (∀ n m, belowL n m (eraseL xs) = true)
  | [], _ => ⟨fun _ _ => rfl, rfl, rfl, fun _ _ => rfl⟩
  | v :: xs, h => by
    obtain ⟨h1, h2, h3, h4⟩ := dataL_list xs (fun u hu => h u (by simp [hu]))
    rcases h v (by simp) with ⟨us, rfl, k⟩ | k
    · refine ⟨fun n m => ?_, ?_, ?_, fun n m => ?_⟩
      · simp only [belowL, Go.Sx.below, k.below, h1]; rfl
      · simp only [eraseL, erase, nrmL, Go.Sx.nrm, k.nrm, h2]
      · simp only [detokL, Go.Sx.detok, k.detok, h3]
      · simp only [eraseL, erase, belowL, Go.Sx.below, k.ebelow, h4]; rfl
    · refine ⟨fun n m => ?_, ?_, ?_, fun n m => ?_⟩
      · have := k.below n m
        simp only [belowL, Bool.and_true] at this
        simp only [belowL, this, h1]; rfl
      · have := k.nrm
        simp only [eraseL, nrmL, List.cons.injEq, and_true] at this
        simp only [eraseL, nrmL, this, h2]
      · have := k.detok
        simp only [detokL, List.cons.injEq, and_true] at this
        simp only [detokL, this, h3]
      · have := k.ebelow n m
        simp only [eraseL, belowL, Bool.and_true] at this
        simp only [eraseL, belowL, this, h4]; rfl

theorem noTok_detok {p : Spare} (h : p.noTok = true) : p.detok = p := by
  cases p <;> first | rfl | simp [Spare.noTok] at h

mutual
theorem ty_data : ∀ (d : DT) (cs : List AV), tyC d cs → DataL cs
  | .int k, cs, h => by
    obtain ⟨n, rfl, _⟩ := h
    exact ⟨fun _ _ => rfl, fun _ => rfl, rfl, rfl, fun _ _ => rfl⟩
  | .bool, cs, h => by
    obtain ⟨n, rfl⟩ := h
    exact ⟨fun _ _ => rfl, fun _ => rfl, rfl, rfl, fun _ _ => rfl⟩
  | .str, cs, h => by
    obtain ⟨n, rfl, _⟩ := h
    exact ⟨fun _ _ => rfl, fun _ => rfl, rfl, rfl, fun _ _ => rfl⟩
  | .agg n fs, cs, h => ty_dataL fs cs h
  | .sl n e, cs, h => by
    rcases h with rfl | ⟨f, p, xs, rfl, hp, -, hx⟩
    · exact ⟨fun _ _ => rfl, fun _ => rfl, rfl, rfl, fun _ _ => rfl⟩
    · have : ∀ v ∈ xs, (∃ us, v = .agg us ∧ DataL us) ∨ DataL [v] := by
        intro v hv
        have := hx v hv
        cases he : e.isAgg with
        | true =>
          rw [he] at this
          obtain ⟨us, k1, k2⟩ := this
          exact .inl ⟨us, k1, ty_data e us k2⟩
        | false =>
          rw [he] at this
          exact .inr (ty_data e [v] this)
      obtain ⟨h1, h2, h3, h4⟩ := dataL_list xs this
      refine ⟨fun a b => ?_, fun _ => rfl, ?_, ?_, fun a b => ?_⟩
      · simp only [belowL, Go.Sx.below, h1, Bool.and_true]
        cases p <;> first | rfl | simp [Spare.noTok] at hp
      · simp only [eraseL, erase, nrmL, Go.Sx.nrm, h2]
      · simp only [detokL, Go.Sx.detok, h3, noTok_detok hp]
      · simp only [eraseL, erase, belowL, Go.Sx.below, h4, Bool.and_true]
theorem ty_dataL : ∀ (ds : List DT) (cs : List AV), tyL ds cs → DataL cs
  | [], cs, h => by
    obtain rfl : cs = [] := h
    exact ⟨fun _ _ => rfl, fun _ => rfl, rfl, rfl, fun _ _ => rfl⟩
  | d :: ds, cs, h => by
    obtain ⟨a, b, rfl, -, h3, h4⟩ := h
    exact (ty_data d a h3).app (ty_dataL ds b h4)
end

mutual
theorem ty_erase : ∀ (d : DT) (cs : List AV), tyC d cs → tyC d (eraseL cs)
  | .int k, cs, h => by
    obtain ⟨n, rfl, hw⟩ := h
    exact ⟨n, rfl, hw⟩
  | .bool, cs, h => by
    obtain ⟨n, rfl⟩ := h
    exact ⟨n, rfl⟩
  | .str, cs, h => by
    obtain ⟨n, rfl, hw⟩ := h
    exact ⟨n, rfl, hw⟩
  | .agg n fs, cs, h => ty_eraseL fs cs h
  | .sl n e, cs, h => by
    rcases h with rfl | ⟨f, p, xs, rfl, hp, hl, hx⟩
    · exact .inl rfl
    · refine .inr ⟨false, .unk, eraseL xs, rfl, rfl, by rw [eraseL_length]; exact hl, ?_⟩
      clear hl
      induction xs with
      | nil => intro v hv; simp [eraseL] at hv
      | cons u xs ih =>
        intro v hv
        rw [eraseL, List.mem_cons] at hv
        rcases hv with rfl | hv
        · have := hx u (by simp)
          cases he : e.isAgg with
          | true =>
            rw [he] at this
            obtain ⟨us, rfl, k2⟩ := this
            exact ⟨eraseL us, rfl, ty_erase e us k2⟩
          | false =>
            rw [he] at this
            have := ty_erase e [u] this
            simpa [eraseL] using this
        · exact ih (fun w hw => hx w (by simp [hw])) v hv
theorem ty_eraseL : ∀ (ds : List DT) (cs : List AV), tyL ds cs → tyL ds (eraseL cs)
  | [], cs, h => by
    obtain rfl : cs = [] := h
    rfl
  | d :: ds, cs, h => by
    obtain ⟨a, b, rfl, h2, h3, h4⟩ := h
    exact ⟨eraseL a, eraseL b, eraseL_app a b, by rw [eraseL_length]; exact h2, ty_erase d a h3, ty_eraseL ds b h4⟩
end

theorem tyV_data {d : DT} {v : AV} (h : tyV d v) : (∃ us, v = .agg us ∧ DataL us) ∨ DataL [v] := by
  unfold tyV at h
  cases he : d.isAgg with
  | true =>
    rw [he] at h
    obtain ⟨us, k1, k2⟩ := h
    exact .inl ⟨us, k1, ty_data d us k2⟩
  | false =>
    rw [he] at h
    exact .inr (ty_data d [v] h)
theorem tyV_erase {d : DT} {v : AV} (h : tyV d v) : tyV d (erase v) := by
  unfold tyV at h ⊢
  cases he : d.isAgg with
  | true =>
    rw [he] at h
    obtain ⟨us, rfl, k2⟩ := h
    exact ⟨eraseL us, rfl, ty_erase d us k2⟩
  | false =>
    rw [he] at h
    have := ty_erase d [v] h
    simpa [eraseL] using this
theorem tyV_below {d : DT} {v : AV} (h : tyV d v) (n m : Nat) : below n m v = true := by
  rcases tyV_data h with ⟨us, rfl, k⟩ | k
  · simp only [Go.Sx.below, k.below]
  · have := k.below n m
    simpa [belowL] using this
theorem tyV_ebelow {d : DT} {v : AV} (h : tyV d v) (n m : Nat) : below n m (erase v) = true := tyV_below (tyV_erase h) n m
theorem tyV_detok {d : DT} {v : AV} (h : tyV d v) : detok v = v := by
  rcases tyV_data h with ⟨us, rfl, k⟩ | k
  · simp only [Go.Sx.detok, k.detok]
  · have := k.detok
    simpa [detokL] using this
theorem tyV_nrm {d : DT} {v : AV} (h : tyV d v) : nrm (erase v) = nrm v := by
  rcases tyV_data h with ⟨us, rfl, k⟩ | k
  · simp only [erase, Go.Sx.nrm, k.nrm]
  · have := k.nrm
    simpa [eraseL, nrmL] using this
theorem tyV_res {d : DT} {v : AV} (h : tyV d v) (H : AH) : resolve H v = some v := by
  unfold tyV at h
  cases he : d.isAgg with
  | true =>
    rw [he] at h
    obtain ⟨us, rfl, k2⟩ := h
    simp only [resolve, (ty_data d us k2).res]
  | false =>
    rw [he] at h
    have this := (ty_data d [v] h).res H
    simp only [resolveCs] at this
    have h1 : resolveC H v = some v := by
      split at this
      · rename_i x xs h1 h2
        simp only [Option.some.injEq, List.cons.injEq, and_true] at this
        rw [h1, this.1]
      · simp at this
    cases v with
    | agg cs =>
      exfalso
      cases d with
      | agg => simp [DT.isAgg] at he
      | int k => obtain ⟨n, h, _⟩ := h; simp at h
      | bool => obtain ⟨n, h⟩ := h; simp at h
      | str => obtain ⟨n, h, _⟩ := h; simp at h
      | sl n e => rcases h with h | ⟨_, _, _, h, _⟩ <;> simp at h
    | _ => exact h1

theorem tyVs_res : ∀ {ds : List DT} {vs : List AV} (h : tyVs ds vs) (H : AH), resolveL H vs = some (eraseL vs)
  | [], [], _, H => rfl
  | d :: ds, v :: vs, h, H => by
    have h1 : below 0 0 (erase v) = true := tyV_ebelow h.1 0 0
    simp only [resolveL, tyV_res h.1 H, tyVs_res h.2 H, h1, if_true, eraseL]
  | [], _ :: _, h, H => h.elim
  | _ :: _, [], h, H => h.elim
theorem tyVs_below : ∀ {ds : List DT} {vs : List AV} (h : tyVs ds vs) (n m : Nat), belowL n m vs = true
  | [], [], _, n, m => rfl
  | d :: ds, v :: vs, h, n, m => by simp only [belowL, tyV_below h.1 n m, tyVs_below h.2 n m]; rfl
  | [], _ :: _, h, _, _ => h.elim
  | _ :: _, [], h, _, _ => h.elim
theorem tyVs_erase : ∀ {ds : List DT} {vs : List AV} (h : tyVs ds vs), tyVs ds (eraseL vs)
  | [], [], h => h
  | d :: ds, v :: vs, h => ⟨tyV_erase h.1, tyVs_erase h.2⟩
  | [], _ :: _, h => h.elim
  | _ :: _, [], h => h.elim

/-- A call with data: the function's body on the arguments without flags. -/
theorem callL_D {tab : TabT} (ht : TabOK S tab) {fuel n : Nat} {f : FuncId} {fn : Func} {ds : List DT} {args : List AV} {H : AH} {v : AV} (h1 : S.ext f = none) (h2 : S.F f = some fn) (h3 : S.isPure f = true) (h4 : tyVs ds args)
    (h5 : runI S (callI S tab fuel n) fuel fn (eraseL args) ⟨[], []⟩ ansR = some v) (h6 : below 0 0 (detok v) = true) : callL S f args H = some (detok v, H) := by
  refine callL_P ht h1 h2 h3 (tyVs_res h4 H) h5 ?_
  unfold pureOut
  rw [h6, tyVs_below h4 0 0]
  rfl

mutual
/-- A shape's cells' shapes. -/
def DT.sh : DT → List Sh
  | .int k => [.int k]
  | .bool => [.bool]
  | .str => [.str]
  | .agg _ fs => DT.shL fs
  | .sl _ _ => [.any]
def DT.shL : List DT → List Sh
  | [] => []
  | d :: r => d.sh ++ DT.shL r
/-- No slice within. -/
def DT.flat : DT → Bool
  | .agg _ fs => DT.flatL fs
  | .sl _ _ => false
  | _ => true
def DT.flatL : List DT → Bool
  | [] => true
  | d :: r => d.flat && DT.flatL r
end

theorem fitL_app : ∀ (s t : List Sh) (a b : List AV), fitL s a = true → fitL t b = true → fitL (s ++ t) (a ++ b) = true
  | [], t, [], b, _, h => h
  | s :: ss, t, v :: a, b, h, k => by
    simp only [fitL, Bool.and_eq_true] at h
    simp only [List.cons_append, fitL, h.1, fitL_app ss t a b h.2 k]; rfl
  | [], t, _ :: _, b, h, k => by simp [fitL] at h
  | _ :: _, t, [], b, h, k => by simp [fitL] at h

mutual
theorem ty_fitC : ∀ (d : DT) (cs : List AV), tyC d cs → fitL d.sh cs = true
  | .int k, cs, h => by
    obtain ⟨n, rfl, _⟩ := h
    simp [DT.sh, fitL, fitS]
  | .bool, cs, h => by
    obtain ⟨n, rfl⟩ := h
    rfl
  | .str, cs, h => by
    obtain ⟨n, rfl, _⟩ := h
    rfl
  | .agg n fs, cs, h => ty_fitL fs cs h
  | .sl n e, cs, h => by
    rcases h with rfl | ⟨f, p, xs, rfl, _⟩ <;> rfl
theorem ty_fitL : ∀ (ds : List DT) (cs : List AV), tyL ds cs → fitL (DT.shL ds) cs = true
  | [], cs, h => by
    obtain rfl : cs = [] := h
    rfl
  | d :: ds, cs, h => by
    obtain ⟨a, b, rfl, -, h3, h4⟩ := h
    exact fitL_app _ _ a b (ty_fitC d a h3) (ty_fitL ds b h4)
end
theorem ty_fit {d : DT} {u : AV} {ss : List Sh} (h : tyV d u) (ha : d.isAgg = true) (hs : d.sh = ss) : (u.isAgg && fitL ss u.aggOf) = true := by
  unfold tyV at h
  rw [ha] at h
  obtain ⟨us, rfl, k⟩ := h
  subst hs
  simp only [AV.isAgg, AV.aggOf, ty_fitC d us k]; rfl
theorem ty_eta {d : DT} {u : AV} {ss : List Sh} (h : tyV d u) (ha : d.isAgg = true) (hs : d.sh = ss) : AV.agg (shL ss u.aggOf) = u := by
  unfold tyV at h
  rw [ha] at h
  obtain ⟨us, rfl, k⟩ := h
  subst hs
  simp only [AV.aggOf, shL_eq (ty_fitC d us k)]
theorem ty_fit1 {d : DT} {u : AV} {s : Sh} (h : tyV d u) (ha : d.isAgg = false) (hs : d.sh = [s]) : fitS s u = true := by
  unfold tyV at h
  rw [ha] at h
  have := ty_fitC d [u] h
  rw [hs] at this
  simpa [fitL] using this
theorem ty_eta1 {d : DT} {u : AV} {s : Sh} (h : tyV d u) (ha : d.isAgg = false) (hs : d.sh = [s]) : shS s u = u := shS_eq (ty_fit1 h ha hs)

mutual
theorem flatC : ∀ (d : DT) (cs : List AV), d.flat = true → tyC d cs → nrmL cs = cs
  | .int k, cs, _, h => by
    obtain ⟨n, rfl, _⟩ := h
    rfl
  | .bool, cs, _, h => by
    obtain ⟨n, rfl⟩ := h
    rfl
  | .str, cs, _, h => by
    obtain ⟨n, rfl, _⟩ := h
    rfl
  | .agg n fs, cs, hf, h => flatL fs cs hf h
  | .sl n e, cs, hf, h => by simp [DT.flat] at hf
theorem flatL : ∀ (ds : List DT) (cs : List AV), DT.flatL ds = true → tyL ds cs → nrmL cs = cs
  | [], cs, _, h => by
    obtain rfl : cs = [] := h
    rfl
  | d :: ds, cs, hf, h => by
    simp only [DT.flatL, Bool.and_eq_true] at hf
    obtain ⟨a, b, rfl, -, h3, h4⟩ := h
    rw [nrmL_app, flatC d a hf.1 h3, flatL ds b hf.2 h4]
end
theorem flatV {d : DT} {u : AV} (hf : d.flat = true) (h : tyV d u) : nrm u = u := by
  unfold tyV at h
  cases he : d.isAgg with
  | true =>
    rw [he] at h
    obtain ⟨us, rfl, k⟩ := h
    simp only [nrm, flatC d us hf k]
  | false =>
    rw [he] at h
    have := flatC d [u] hf h
    simpa [nrmL] using this
theorem flat_list {d : DT} (hf : d.flat = true) : ∀ {xs : List AV}, (∀ u ∈ xs, tyV d u) → nrmL xs = xs
  | [], _ => rfl
  | v :: xs, h => by rw [nrmL, flatV hf (h v (by simp)), flat_list hf (fun u hu => h u (by simp [hu]))]

theorem sl_facts {n : Nat} {e : DT} {a : AV} (h : tyV (.sl n e) a) : a.listN n = true ∧ a.listOf.length ≤ maxLen ∧ (∀ u ∈ a.listOf, tyV e u) ∧ nrm a = .inl false .unk 0 (nrmL a.listOf) ∧ a.isOne = true := by
  have h' : tyC (.sl n e) [a] := h
  rcases h' with h1 | ⟨f, p, xs, h1, _, h2, h3⟩
  · simp only [List.cons.injEq, and_true] at h1
    subst h1
    exact ⟨rfl, by simp [AV.listOf], by simp [AV.listOf], rfl, rfl⟩
  · simp only [List.cons.injEq, and_true] at h1
    subst h1
    refine ⟨by simp [AV.listN], h2, ?_, rfl, rfl⟩
    intro u hu
    exact h3 u hu

theorem sl_un {n : Nat} {e : DT} {cs : List AV} (h : tyC (.sl n e) cs) : ∃ c, cs = [c] ∧ tyV (.sl n e) c := by
  have h' := h
  rcases h with rfl | ⟨f, p, xs, rfl, _⟩
  · exact ⟨_, rfl, h'⟩
  · exact ⟨_, rfl, h'⟩
theorem list_same {n n' : Nat} {e e' : DT} {a b : AV} (ha : tyV (.sl n e) a) (hb : tyV (.sl n' e') b) (h : nrm a = nrm b) : nrmL a.listOf = nrmL b.listOf := by
  rw [(sl_facts ha).2.2.2.1, (sl_facts hb).2.2.2.1] at h
  simpa using h
theorem list_flat {n : Nat} {e : DT} {a b : AV} (hf : e.flat = true) (ha : tyV (.sl n e) a) (hb : tyV (.sl n e) b) (h : nrm a = nrm b) : a.listOf = b.listOf := by
  have := list_same ha hb h
  rwa [flat_list hf (sl_facts ha).2.2.1, flat_list hf (sl_facts hb).2.2.1] at this
theorem nrmL_get : ∀ {xs ys : List AV}, nrmL xs = nrmL ys → xs.length = ys.length ∧ ∀ (i : Nat) u w, xs[i]? = some u → ys[i]? = some w → nrm u = nrm w
  | [], [], _ => ⟨rfl, by simp⟩
  | x :: xs, y :: ys, h => by
    simp only [nrmL, List.cons.injEq] at h
    obtain ⟨h1, h2⟩ := nrmL_get h.2
    refine ⟨by simp [h1], ?_⟩
    intro i u w hu hw
    cases i with
    | zero => simp at hu hw; subst hu; subst hw; exact h.1
    | succ i => exact h2 i u w (by simpa using hu) (by simpa using hw)
  | [], _ :: _, h => by simp [nrmL] at h
  | _ :: _, [], h => by simp [nrmL] at h

theorem wrapN {n : Int} (h0 : -9223372036854775808 ≤ n) (h1 : n ≤ 9223372036854775807) : IntKind.i64.wrap n = n := by
  have e1 : (2 : Int) ^ (64 - 1) = 9223372036854775808 := by decide
  have e2 : (2 : Int) ^ 64 = 18446744073709551616 := by decide
  simp only [IntKind.wrap, IntKind.bits, IntKind.signed, Bool.true_and, decide_eq_true_eq, e1, e2]
  split <;> omega

mutual
/-- All slices within are of B elements at most. -/
def bnd (B : Nat) : AV → Bool
  | .inl _ _ _ xs => Nat.ble xs.length B && bndL B xs
  | .agg cs => bndL B cs
  | _ => true
def bndL (B : Nat) : List AV → Bool
  | [] => true
  | v :: r => bnd B v && bndL B r
end
mutual
theorem bnd_nrm (B : Nat) : ∀ v, bnd B (nrm v) = bnd B v
  | .inl f p sz xs => by simp only [nrm, bnd, nrmL_length, bnd_nrmL B xs]
  | .agg cs => by simp only [nrm, bnd, bnd_nrmL B cs]
  | .nils => by simp [nrm, bnd, bndL]
  | .top | .bool _ | .int _ _ | .str _ | .ptr _ _ | .nilptr | .rop _ | .sl _ _ _ _ _ _ | .map _ | .nilmap | .func _ _ _ | .nilfunc | .iface _ _ | .niliface | .tuple _ => rfl
theorem bnd_nrmL (B : Nat) : ∀ l, bndL B (nrmL l) = bndL B l
  | [] => rfl
  | v :: r => by simp only [nrmL, bndL, bnd_nrm B v, bnd_nrmL B r]
end
theorem bnd_same {B : Nat} {v w : AV} (h : nrm v = nrm w) (hb : bnd B w = true) : bnd B v = true := by
  rw [← bnd_nrm, h, bnd_nrm]; exact hb
theorem bndL_mem {B : Nat} : ∀ {l : List AV}, bndL B l = true → ∀ u ∈ l, bnd B u = true
  | [], _, u, hu => by cases hu
  | v :: r, h, u, hu => by
    simp only [bndL, Bool.and_eq_true] at h
    rcases List.mem_cons.1 hu with rfl | hu
    · exact h.1
    · exact bndL_mem h.2 u hu
theorem bnd_list {B n : Nat} {e : DT} {a : AV} (h : tyV (.sl n e) a) (hb : bnd B a = true) : a.listOf.length ≤ B ∧ ∀ u ∈ a.listOf, bnd B u = true := by
  have h' : tyC (.sl n e) [a] := h
  rcases h' with h1 | ⟨f, p, xs, h1, _, h2, h3⟩
  · simp only [List.cons.injEq, and_true] at h1
    subst h1
    exact ⟨by simp [AV.listOf], by simp [AV.listOf]⟩
  · simp only [List.cons.injEq, and_true] at h1
    subst h1
    simp only [bnd, Bool.and_eq_true] at hb
    exact ⟨Nat.le_of_ble_eq_true hb.1, bndL_mem hb.2⟩

theorem bnd_sl {B n : Nat} {e : DT} {a : AV} (h : tyV (.sl n e) a) (hl : a.listOf.length ≤ B) (hx : ∀ u ∈ a.listOf, bnd B u = true) : bnd B a = true := by
  have h' : tyC (.sl n e) [a] := h
  have key : ∀ (l : List AV), (∀ u ∈ l, bnd B u = true) → bndL B l = true := by
    intro l
    induction l with
    | nil => intro _; rfl
    | cons v r ih =>
      intro h
      simp only [bndL, h v (by simp), ih (fun u hu => h u (by simp [hu]))]
      rfl
  rcases h' with h1 | ⟨f, p, xs, h1, _, h2, h3⟩
  · simp only [List.cons.injEq, and_true] at h1
    subst h1
    rfl
  · simp only [List.cons.injEq, and_true] at h1
    subst h1
    simp only [bnd, key xs hx, Bool.and_true]
    exact Nat.ble_eq_true_of_le hl
mutual
theorem bnd_flatC {B : Nat} : ∀ (d : DT) (cs : List AV), d.flat = true → tyC d cs → bndL B cs = true
  | .int k, cs, _, h => by
    obtain ⟨n, rfl, _⟩ := h
    rfl
  | .bool, cs, _, h => by
    obtain ⟨n, rfl⟩ := h
    rfl
  | .str, cs, _, h => by
    obtain ⟨n, rfl, _⟩ := h
    rfl
  | .agg n fs, cs, hf, h => bnd_flatL fs cs hf h
  | .sl n e, cs, hf, h => by simp [DT.flat] at hf
theorem bnd_flatL {B : Nat} : ∀ (ds : List DT) (cs : List AV), DT.flatL ds = true → tyL ds cs → bndL B cs = true
  | [], cs, _, h => by
    obtain rfl : cs = [] := h
    rfl
  | d :: ds, cs, hf, h => by
    simp only [DT.flatL, Bool.and_eq_true] at hf
    obtain ⟨a, b, rfl, -, h3, h4⟩ := h
    have app : ∀ (x y : List AV), bndL B (x ++ y) = (bndL B x && bndL B y) := by
      intro x y
      induction x with
      | nil => simp [bndL]
      | cons v r ih => simp [bndL, ih, Bool.and_assoc]
    rw [app, bnd_flatC d a hf.1 h3, bnd_flatL ds b hf.2 h4]; rfl
end
theorem bnd_flat {B : Nat} {d : DT} {u : AV} (hf : d.flat = true) (h : tyV d u) : bnd B u = true := by
  unfold tyV at h
  cases he : d.isAgg with
  | true =>
    rw [he] at h
    obtain ⟨us, rfl, k⟩ := h
    simp only [bnd, bnd_flatC d us hf k]
  | false =>
    rw [he] at h
    have := bnd_flatC (B := B) d [u] hf h
    simpa [bndL] using this
theorem cut_ty {d : DT} {u : AV} (h : tyV d u) (n m : Nat) : cutV n m u = u := by
  unfold cutV; rw [tyV_below h]

/-- The next number of a loop. -/
theorem wrap_next {i n : Nat} (h : i < n) (hn : n ≤ maxLen) : IntKind.i64.wrap ((i : Int) + 1) = ((i + 1 : Nat) : Int) := by
  have e : maxLen = 9223372036854775807 := by decide
  rw [wrapN (by omega) (by omega)]
  omega
theorem lt_true {i n : Nat} (h : i < n) : decide ((i : Int) < (n : Int)) = true := by simpa using h
theorem lt_false {i n : Nat} (h : ¬ i < n) : decide ((i : Int) < (n : Int)) = false := by simpa using h
theorem fits_small {n b : Nat} (hn : n ≤ 100000) (hb : b ≤ 10000) : fitsRoom n b = true := by
  simp only [fitsRoom, Bool.and_eq_true, decide_eq_true_eq]
  refine ⟨?_, by omega⟩
  exact Nat.le_trans (Nat.mul_le_mul (show n + n / 2 + 512 ≤ 150512 by omega) hb) (by decide)
/-- A slice of new memory. -/
theorem ty_new {n : Nat} {e : DT} {f : Bool} {p : Spare} {xs : List AV} (hp : p.noTok = true) (hl : xs.length ≤ maxLen) (h : ∀ u ∈ xs, tyV e u) : tyV (.sl n e) (.inl f p n xs) :=
  .inr ⟨f, p, xs, rfl, hp, hl, h⟩
theorem ty_detokL {e : DT} : ∀ {xs : List AV}, (∀ u ∈ xs, tyV e u) → detokL xs = xs
  | [], _ => rfl
  | v :: xs, h => by rw [detokL, tyV_detok (h v (by simp)), ty_detokL (fun u hu => h u (by simp [hu]))]
theorem ty_ebelowL {e : DT} : ∀ {xs : List AV}, (∀ u ∈ xs, tyV e u) → ∀ n m, belowL n m xs = true
  | [], _, _, _ => rfl
  | v :: xs, h, n, m => by
    have h1 := tyV_below (h v (by simp)) n m
    have h2 := ty_ebelowL (xs := xs) (fun u hu => h u (by simp [hu])) n m
    simp only [belowL, h1, h2]; rfl
theorem nrm_drop {xs : List AV} {i : Nat} {u : AV} (h : xs[i]? = some u) : xs.drop i = u :: xs.drop (i + 1) := by
  have hi := (List.getElem?_eq_some_iff.1 h).1
  rw [List.drop_eq_getElem_cons hi]
  have := (List.getElem?_eq_some_iff.1 h).2
  rw [this]
theorem ge_true (i : Nat) : decide ((0 : Int) ≤ (i : Int)) = true := by simp

end Go.Sx
namespace Go.Sx
variable {S : Sys}
/-- A call whose arguments bear other flags. -/
theorem callL_arg {f : FuncId} {fn : Func} {args ts : List AV} {H : AH} {v : AV} (h1 : S.ext f = none) (h2 : S.F f = some fn) (h3 : S.isPure f = true) (hr : resolveL H args = resolveL H ts) (hv : isNew v = true) (h : callL S f ts H = some (v, H)) : callL S f args H = some (v, H) := by
  obtain ⟨n, hn⟩ := callL_fuel h
  cases n with
  | zero => simp [callF, Caller.fn, optK] at hn
  | succ n =>
    refine (callF_le (S := S) (n + 1)).fn f args H _ ?_
    have hn' : enterF S (callF S n) (fun b => iter S.room b n) f ts H = some (.val v H) := Caller.fn_val hn
    refine Caller.fn_of ?_
    show enterF S (callF S n) (fun b => iter S.room b n) f args H = some (.val v H)
    unfold enterF at hn' ⊢
    rw [h1] at hn' ⊢
    simp only [h2] at hn' ⊢
    rw [if_pos h3] at hn' ⊢
    rw [hr]
    obtain ⟨us, e1, hn'⟩ := optK_inv2 hn'
    obtain ⟨p, e2, hn'⟩ := optK_inv2 hn'
    obtain ⟨w, e3, hn'⟩ := optK_inv2 hn'
    rw [e1, optK_some, e2, optK_some]
    simp only [Option.some.injEq, Res.val.injEq, and_true] at hn'
    subst hn'
    unfold pureOut at e3
    split at e3
    · rename_i hb
      simp only [Option.some.injEq] at e3
      rw [← e3, isNew_detok] at hv
      simp only [Bool.and_eq_true] at hb
      unfold pureOut
      rw [hb.1, hv]
      simp only [Bool.or_true, Bool.and_self, if_true, optK_some, e3]
    · simp at e3
end Go.Sx

/- THE ENGINE, 46: code cut into pieces, each with what follows it. -/
set_option linter.unusedSimpArgs false
set_option linter.unusedVariables false
namespace Go.Sx
variable {R : Type} {S : Sys}

/-- What follows the first of two. -/
noncomputable def seqK (S : Sys) (c : CallI) (fuel : Nat) (b : Code) (K : Ex → List AV → AH → Option R) : Ex → List AV → AH → Option R := fun e s H => match e with
  | .normal => denI S c fuel b s H K
  | e => K e s H
def blkK (id : Nat) (K : Ex → List AV → AH → Option R) : Ex → List AV → AH → Option R := fun e s H => match e with
  | .exit i => if i = id then K .normal s H else K (.exit i) s H
  | e => K e s H

theorem den_sq {c : CallI} {fuel : Nat} {x a b : Code} (h : x = .seq a b) {s : List AV} {H : AH} {K : Ex → List AV → AH → Option R} : denI S c fuel x s H K = denI S c fuel a s H (seqK S c fuel b K) := by
  subst h; simp only [denI]; rfl
theorem den_bl {c : CallI} {fuel : Nat} {x a : Code} {id : Nat} (h : x = .block id a) {s : List AV} {H : AH} {K : Ex → List AV → AH → Option R} : denI S c fuel x s H K = denI S c fuel a s H (blkK id K) := by
  subst h; simp only [denI]; rfl
theorem loop_in {c : CallI} {fuel k : Nat} {body : Code} {s : List AV} {H : AH} {K : Ex → List AV → AH → Option R} : loopC S c fuel body (k + 1) s H K = denI S c fuel body s H (stepK S c fuel body k s H K) := rfl
theorem stepK_x {c : CallI} {fuel k i : Nat} {body : Code} {s0 s : List AV} {H0 H : AH} {K : Ex → List AV → AH → Option R} : stepK S c fuel body k s0 H0 K (.exit i) s H = K (.exit i) (outS S.room s0 s) H := rfl
theorem stepK_r {c : CallI} {fuel k : Nat} {body : Code} {s0 s : List AV} {H0 H : AH} {K : Ex → List AV → AH → Option R} : stepK S c fuel body k s0 H0 K .ret s H = K .ret (outS S.room s0 s) H := rfl
theorem blkK_r {id : Nat} {s : List AV} {H : AH} {K : Ex → List AV → AH → Option R} : blkK id K .ret s H = K .ret s H := rfl
theorem blkK_n {id : Nat} {s : List AV} {H : AH} {K : Ex → List AV → AH → Option R} : blkK id K .normal s H = K .normal s H := rfl
theorem seqK_n {c : CallI} {fuel : Nat} {b : Code} {s : List AV} {H : AH} {K : Ex → List AV → AH → Option R} : seqK S c fuel b K .normal s H = denI S c fuel b s H K := rfl
theorem seqK_x {c : CallI} {fuel : Nat} {b : Code} {i : Nat} {s : List AV} {H : AH} {K : Ex → List AV → AH → Option R} : seqK S c fuel b K (.exit i) s H = K (.exit i) s H := rfl
theorem seqK_r {c : CallI} {fuel : Nat} {b : Code} {s : List AV} {H : AH} {K : Ex → List AV → AH → Option R} : seqK S c fuel b K .ret s H = K .ret s H := rfl
theorem eraseL_map : ∀ (l : List AV), eraseL l = l.map erase
  | [] => rfl
  | v :: r => by simp [eraseL, eraseL_map r]
theorem listOf_erase {n : Nat} {e : DT} {a : AV} (h : tyV (.sl n e) a) : (erase a).listOf = a.listOf.map erase := by
  rcases h with h | ⟨f, p, xs, h, _⟩
  · obtain rfl : a = .nils := by simpa using h
    rfl
  · obtain rfl : a = .inl f p n xs := by simpa using h
    simp only [erase, AV.listOf, eraseL_map]
theorem any_erase {n : Nat} {e : DT} {a : AV} (h : tyV (.sl n e) a) {f : AV → Bool} (hf : ∀ u, tyV e u → f (erase u) = f u) : (erase a).listOf.any f = a.listOf.any f := by
  rw [listOf_erase h, List.any_map]
  have ht := (sl_facts h).2.2.1
  revert ht
  generalize a.listOf = l
  intro ht
  induction l with
  | nil => rfl
  | cons u l ih => simp only [List.any_cons, Function.comp_apply, hf u (ht u (by simp)), ih fun v hv => ht v (by simp [hv])]
theorem map_erase {n : Nat} {e : DT} {a : AV} {B : Type} (h : tyV (.sl n e) a) {f : AV → B} (hf : ∀ u, tyV e u → f (erase u) = f u) : (erase a).listOf.map f = a.listOf.map f := by
  rw [listOf_erase h, List.map_map]
  exact List.map_congr_left fun u hu => hf u ((sl_facts h).2.2.1 u hu)
/-- A call's answer, kept opaque: its number can be generalized, with the instances that ask of it. -/
theorem val_num {f : FuncId} {args : List AV} {k : IntKind} {E : Int} (h : ∀ H, valH S f args H = some (.int k E)) : ∃ x : AV, (∀ H, valH S f args H = some x) ∧ fitS (Sh.int k) x = true ∧ x.numOf = E := ⟨_, h, by simp [fitS], rfl⟩
theorem resetV_self (v : AV) : resetV v v = v := by cases v <;> rfl
theorem dec_yes {p : Prop} [i : Decidable p] (h : p) : decide p = true := by simpa using h
theorem dec_no {p : Prop} [i : Decidable p] (h : ¬ p) : decide p = false := by simpa using h
end Go.Sx

/- THE ENGINE, 47: what follows a loop in a function, gone through by its path. -/
set_option linter.unusedSimpArgs false
set_option linter.unusedVariables false
namespace Go.Sx
variable {R : Type} {S : Sys}

theorem kont_s1 {c : CallI} {fuel : Nat} {x a b : Code} (h : x = .seq a b) {r : List Nat} {K : Ex → List AV → AH → Option R} : kontI S c fuel x (1 :: r) K = kontI S c fuel b r K := by
  subst h; simp only [kontI]
theorem kont_s0 {c : CallI} {fuel : Nat} {x a b : Code} (h : x = .seq a b) {r : List Nat} {K : Ex → List AV → AH → Option R} : kontI S c fuel x (0 :: r) K = kontI S c fuel a r (seqK S c fuel b K) := by
  subst h; simp only [kontI]; rfl
theorem kont_b {c : CallI} {fuel : Nat} {x a : Code} {id n : Nat} (h : x = .block id a) {r : List Nat} {K : Ex → List AV → AH → Option R} : kontI S c fuel x (n :: r) K = kontI S c fuel a r (blkK id K) := by
  subst h; simp only [kontI]; rfl
theorem kont_nil {c : CallI} {fuel : Nat} {x : Code} {K : Ex → List AV → AH → Option R} : kontI S c fuel x [] K = K := by
  cases x <;> simp only [kontI]
theorem blkK_x {id : Nat} {s : List AV} {H : AH} {K : Ex → List AV → AH → Option R} : blkK id K (.exit id) s H = K .normal s H := by
  show (if id = id then K .normal s H else K (.exit id) s H) = _
  rw [if_pos rfl]
theorem blkK_ne {id i : Nat} (h : i ≠ id) {s : List AV} {H : AH} {K : Ex → List AV → AH → Option R} : blkK id K (.exit i) s H = K (.exit i) s H := by
  show (if i = id then K .normal s H else K (.exit i) s H) = _
  rw [if_neg h]
end Go.Sx
