/- Contract: the reference's holds. -/
import Derived.Test.YtoagnbpmoihojaaFenHold
import Derived.Test.YtoagnbpmoihojaaFenPre2
set_option maxRecDepth 100000
set_option linter.unusedSimpArgs false
set_option linter.unusedVariables false
namespace Go.Proofs.Ytoagnbpmoihojaa
open Go.Sx
def mo0 : Mo := ⟨0, true, false, false, 0, false⟩
def atM (L : List Mo) (i : Nat) : Mo := L.getD i mo0
def ctA (L : List Mo) : Nat → Int
  | 0 => (atM L 0).now
  | i + 1 => if (atM L (i + 1)).bo || (atM L (i + 1)).st then (atM L (i + 1)).now else ctA L i
def crA (L : List Mo) : Nat → Int
  | 0 => (atM L 0).now
  | i + 1 => if (atM L i).up then (atM L (i + 1)).now else crA L i
def scanM (L : List Mo) : Int → Nat → Int
  | c, 0 => c
  | c, j + 1 => if (atM L j).up then c else scanM L (atM L j).now j
theorem scan_cr (L : List Mo) : ∀ i, scanM L (atM L i).now i = crA L i
  | 0 => rfl
  | i + 1 => by simp only [scanM, crA, scan_cr L i]
def holdsE (le d r : Int) (L : List Mo) (i : Nat) : Bool :=
  if (atM L i).now ≤ endE le (atM L i) then true
  else if (atM L i).up then decide ((atM L i).now - max (endE le (atM L i)) (ctA L i) ≤ d)
  else decide (crA L i - max (endE le (atM L i)) (ctA L i) ≤ d) && decide ((atM L i).now - max (endE le (atM L i)) (crA L i) ≤ r)
theorem atM_of {l u : AV} {i : Nat} (h : l.listOf[i]? = some u) : atM (mosOf l) i = moOf u := by
  unfold atM mosOf
  simp [List.getD, List.getElem?_map, h]

theorem atM_ok {L : List Mo} (h : ∀ m ∈ L, okMo m) (i : Nat) : 0 ≤ (atM L i).now ∧ (atM L i).now ≤ 1099511627776 := by
  unfold atM
  rcases hi : L[i]? with _ | m
  · simp [List.getD, hi, mo0]
  · have := h m (List.mem_of_getElem? hi)
    simp only [List.getD, hi, Option.getD_some]
    exact ⟨this.1, this.2.1⟩
theorem ctA_ok {L : List Mo} (h : ∀ m ∈ L, okMo m) : ∀ i, 0 ≤ ctA L i ∧ ctA L i ≤ 1099511627776
  | 0 => atM_ok h 0
  | i + 1 => by
    unfold ctA
    split
    · exact atM_ok h (i + 1)
    · exact ctA_ok h i
theorem crA_ok {L : List Mo} (h : ∀ m ∈ L, okMo m) : ∀ i, 0 ≤ crA L i ∧ crA L i ≤ 1099511627776
  | 0 => atM_ok h 0
  | i + 1 => by
    unfold crA
    split
    · exact atM_ok h (i + 1)
    · exact crA_ok h i

theorem le_true {a b : Nat} (h : a ≤ b) : decide ((a : Int) ≤ (b : Int)) = true := by simp; omega
theorem le_false {a b : Nat} (h : ¬ a ≤ b) : decide ((a : Int) ≤ (b : Int)) = false := by simp; omega

theorem or_f {a b : Bool} (h1 : a = false) (h2 : b = false) : ¬ (a || b) = true := by simp [h1, h2]
theorem ha_loop {R : Type} (fuel : Nat) (c0 c1 c2 c3 c4 c5 c6 c7 c8 c9 c10 : Int) {l : AV} (hl : tyV (.sl 14 dtMom) l) (iN : Nat) (hiN : iN < l.listOf.length) (d r e : Int) (K : Ex → List AV → AH → Option R) (Q : Option R → Prop)
    (hexit : ∀ (i p k : Int) (x0 x6 x7 x8 x9 x14 x15 x16 x17 x18 x19 x20 x21 x22 x23 x24 x25 x26 x27 x28 x29 x30 x31 x32 x33 x34 x35 x36 x37 x38 x39 x40 x41 x42 x43 x44 x45 x46 x47 x48 x49 x50 x51 x52 x53 x54 x55 x56 x57 x58 x59 x60 x61 x62 x63 x64 x65 x66 x67 x68 x69 x70 x71 x72 x73 x74 x75 x76 x77 x78 x79 x80 x81 x82 x83 x84 x85 x86 x87 x88 x89 x90 x91 x92 x93 x94 x95 x96 x97 x98 x99 x100 x101 x102 x103 x104 x105 x106 x107 x108 x109 x110 x111 x112 x113 : AV), i = (iN : Int) → p = ctA (mosOf l) iN → Q (K (.exit 0) [x0, .int .i64 d, .int .i64 r, .int .i64 i, l, .ptr 0 0, x6, x7, x8, x9, .bool false, .int .i64 e, .int .i64 p, .int .i64 k, x14, x15, x16, x17, x18, x19, x20, x21, x22, x23, x24, x25, x26, x27, x28, x29, x30, x31, x32, x33, x34, x35, x36, x37, x38, x39, x40, x41, x42, x43, x44, x45, x46, x47, x48, x49, x50, x51, x52, x53, x54, x55, x56, x57, x58, x59, x60, x61, x62, x63, x64, x65, x66, x67, x68, x69, x70, x71, x72, x73, x74, x75, x76, x77, x78, x79, x80, x81, x82, x83, x84, x85, x86, x87, x88, x89, x90, x91, x92, x93, x94, x95, x96, x97, x98, x99, x100, x101, x102, x103, x104, x105, x106, x107, x108, x109, x110, x111, x112, x113] ⟨[.cells (cfC c0 c1 c2 c3 c4 c5 c6 c7 c8 c9 c10)], []⟩)) :
    ∀ (q jn n : Nat) (i p k : Int) (x0 x6 x7 x8 x9 x14 x15 x16 x17 x18 x19 x20 x21 x22 x23 x24 x25 x26 x27 x28 x29 x30 x31 x32 x33 x34 x35 x36 x37 x38 x39 x40 x41 x42 x43 x44 x45 x46 x47 x48 x49 x50 x51 x52 x53 x54 x55 x56 x57 x58 x59 x60 x61 x62 x63 x64 x65 x66 x67 x68 x69 x70 x71 x72 x73 x74 x75 x76 x77 x78 x79 x80 x81 x82 x83 x84 x85 x86 x87 x88 x89 x90 x91 x92 x93 x94 x95 x96 x97 x98 x99 x100 x101 x102 x103 x104 x105 x106 x107 x108 x109 x110 x111 x112 x113 : AV), i = (iN : Int) → k = (jn + 1 : Nat) → p = ctA (mosOf l) jn → jn + q = iN → q < n → Q (loopC Try.D (cF fuel) fuel haB n [x0, .int .i64 d, .int .i64 r, .int .i64 i, l, .ptr 0 0, x6, x7, x8, x9, .bool false, .int .i64 e, .int .i64 p, .int .i64 k, x14, x15, x16, x17, x18, x19, x20, x21, x22, x23, x24, x25, x26, x27, x28, x29, x30, x31, x32, x33, x34, x35, x36, x37, x38, x39, x40, x41, x42, x43, x44, x45, x46, x47, x48, x49, x50, x51, x52, x53, x54, x55, x56, x57, x58, x59, x60, x61, x62, x63, x64, x65, x66, x67, x68, x69, x70, x71, x72, x73, x74, x75, x76, x77, x78, x79, x80, x81, x82, x83, x84, x85, x86, x87, x88, x89, x90, x91, x92, x93, x94, x95, x96, x97, x98, x99, x100, x101, x102, x103, x104, x105, x106, x107, x108, x109, x110, x111, x112, x113] ⟨[.cells (cfC c0 c1 c2 c3 c4 c5 c6 c7 c8 c9 c10)], []⟩ K)
  | q, jn, 0, i, p, k, _, _, _, _, _, _, _, _, _, _, _, _, _, _, _, _, _, _, _, _, _, _, _, _, _, _, _, _, _, _, _, _, _, _, _, _, _, _, _, _, _, _, _, _, _, _, _, _, _, _, _, _, _, _, _, _, _, _, _, _, _, _, _, _, _, _, _, _, _, _, _, _, _, _, _, _, _, _, _, _, _, _, _, _, _, _, _, _, _, _, _, _, _, _, _, _, _, _, _, _, _, _, _, _, _, hi, hk, hp, h, hn => by omega
  | 0, jn, n + 1, i, p, k, x0, x6, x7, x8, x9, x14, x15, x16, x17, x18, x19, x20, x21, x22, x23, x24, x25, x26, x27, x28, x29, x30, x31, x32, x33, x34, x35, x36, x37, x38, x39, x40, x41, x42, x43, x44, x45, x46, x47, x48, x49, x50, x51, x52, x53, x54, x55, x56, x57, x58, x59, x60, x61, x62, x63, x64, x65, x66, x67, x68, x69, x70, x71, x72, x73, x74, x75, x76, x77, x78, x79, x80, x81, x82, x83, x84, x85, x86, x87, x88, x89, x90, x91, x92, x93, x94, x95, x96, x97, x98, x99, x100, x101, x102, x103, x104, x105, x106, x107, x108, x109, x110, x111, x112, x113, hi, hk, hp, h, hn => by
    subst hi; subst hk
    obtain rfl : jn = iN := by omega
    rw [ha_step, le_false (by omega : ¬ jn + 1 ≤ jn)]
    simp only [br, resetV_self]
    exact hexit _ _ _ _ _ _ _ _ _ _ _ _ _ _ _ _ _ _ _ _ _ _ _ _ _ _ _ _ _ _ _ _ _ _ _ _ _ _ _ _ _ _ _ _ _ _ _ _ _ _ _ _ _ _ _ _ _ _ _ _ _ _ _ _ _ _ _ _ _ _ _ _ _ _ _ _ _ _ _ _ _ _ _ _ _ _ _ _ _ _ _ _ _ _ _ _ _ _ _ _ _ _ _ _ _ _ _ _ rfl hp
  | q + 1, jn, n + 1, i, p, k, x0, x6, x7, x8, x9, x14, x15, x16, x17, x18, x19, x20, x21, x22, x23, x24, x25, x26, x27, x28, x29, x30, x31, x32, x33, x34, x35, x36, x37, x38, x39, x40, x41, x42, x43, x44, x45, x46, x47, x48, x49, x50, x51, x52, x53, x54, x55, x56, x57, x58, x59, x60, x61, x62, x63, x64, x65, x66, x67, x68, x69, x70, x71, x72, x73, x74, x75, x76, x77, x78, x79, x80, x81, x82, x83, x84, x85, x86, x87, x88, x89, x90, x91, x92, x93, x94, x95, x96, x97, x98, x99, x100, x101, x102, x103, x104, x105, x106, x107, x108, x109, x110, x111, x112, x113, hi, hk, hp, h, hn => by
    subst hi; subst hk
    obtain ⟨hB, hmax, hT, -, -⟩ := sl_facts hl
    have hj : jn + 1 < l.listOf.length := by omega
    obtain ⟨u, hu⟩ : ∃ u, l.listOf[jn + 1]? = some u := ⟨_, List.getElem?_eq_getElem hj⟩
    have tu := hT u (List.mem_of_getElem? hu)
    have ha := atM_of hu
    rw [ha_step, le_true (by omega : jn + 1 ≤ iN), hB, lt_true hj, ge_true, Int.toNat_natCast, hu]
    simp only [br, Bool.and_self, fit_dtMom tu, resetV_self]
    rw [wrap_next hj hmax]
    have ih := fun (i p k : Int) (x0 x6 x7 x8 x9 x14 x15 x16 x17 x18 x19 x20 x21 x22 x23 x24 x25 x26 x27 x28 x29 x30 x31 x32 x33 x34 x35 x36 x37 x38 x39 x40 x41 x42 x43 x44 x45 x46 x47 x48 x49 x50 x51 x52 x53 x54 x55 x56 x57 x58 x59 x60 x61 x62 x63 x64 x65 x66 x67 x68 x69 x70 x71 x72 x73 x74 x75 x76 x77 x78 x79 x80 x81 x82 x83 x84 x85 x86 x87 x88 x89 x90 x91 x92 x93 x94 x95 x96 x97 x98 x99 x100 x101 x102 x103 x104 x105 x106 x107 x108 x109 x110 x111 x112 x113 : AV) h1 h2 h3 => ha_loop fuel c0 c1 c2 c3 c4 c5 c6 c7 c8 c9 c10 hl iN hiN d r e K Q hexit q (jn + 1) n i p k x0 x6 x7 x8 x9 x14 x15 x16 x17 x18 x19 x20 x21 x22 x23 x24 x25 x26 x27 x28 x29 x30 x31 x32 x33 x34 x35 x36 x37 x38 x39 x40 x41 x42 x43 x44 x45 x46 x47 x48 x49 x50 x51 x52 x53 x54 x55 x56 x57 x58 x59 x60 x61 x62 x63 x64 x65 x66 x67 x68 x69 x70 x71 x72 x73 x74 x75 x76 x77 x78 x79 x80 x81 x82 x83 x84 x85 x86 x87 x88 x89 x90 x91 x92 x93 x94 x95 x96 x97 x98 x99 x100 x101 x102 x103 x104 x105 x106 x107 x108 x109 x110 x111 x112 x113 h1 h2 h3 (by omega) (by omega)
    cases h2 : (hdV (tlV (tlV u.aggOf))).boolOf with
    | true => exact ih _ _ _ _ _ _ _ _ _ _ _ _ _ _ _ _ _ _ _ _ _ _ _ _ _ _ _ _ _ _ _ _ _ _ _ _ _ _ _ _ _ _ _ _ _ _ _ _ _ _ _ _ _ _ _ _ _ _ _ _ _ _ _ _ _ _ _ _ _ _ _ _ _ _ _ _ _ _ _ _ _ _ _ _ _ _ _ _ _ _ _ _ _ _ _ _ _ _ _ _ _ _ _ _ _ _ _ _ rfl rfl (by simp only [ctA, ha]; rw [if_pos (by rw [Bool.or_eq_true]; exact .inl h2)]; rfl)
    | false =>
      cases h3 : (hdV (tlV (tlV (tlV u.aggOf)))).boolOf with
      | true => exact ih _ _ _ _ _ _ _ _ _ _ _ _ _ _ _ _ _ _ _ _ _ _ _ _ _ _ _ _ _ _ _ _ _ _ _ _ _ _ _ _ _ _ _ _ _ _ _ _ _ _ _ _ _ _ _ _ _ _ _ _ _ _ _ _ _ _ _ _ _ _ _ _ _ _ _ _ _ _ _ _ _ _ _ _ _ _ _ _ _ _ _ _ _ _ _ _ _ _ _ _ _ _ _ _ _ _ _ _ rfl rfl (by simp only [ctA, ha]; rw [if_pos (by rw [Bool.or_eq_true]; exact .inr h3)]; rfl)
      | false => exact ih _ _ _ _ _ _ _ _ _ _ _ _ _ _ _ _ _ _ _ _ _ _ _ _ _ _ _ _ _ _ _ _ _ _ _ _ _ _ _ _ _ _ _ _ _ _ _ _ _ _ _ _ _ _ _ _ _ _ _ _ _ _ _ _ _ _ _ _ _ _ _ _ _ _ _ _ _ _ _ _ _ _ _ _ _ _ _ _ _ _ _ _ _ _ _ _ _ _ _ _ _ _ _ _ _ _ _ _ rfl rfl (by simp only [ctA, ha]; rw [if_neg (or_f (a := (moOf u).bo) (b := (moOf u).st) h2 h3)]; exact hp)

theorem hb_loop {R : Type} (fuel : Nat) (c0 c1 c2 c3 c4 c5 c6 c7 c8 c9 c10 : Int) {l : AV} (hl : tyV (.sl 14 dtMom) l) (d r i e p : Int) (K : Ex → List AV → AH → Option R) (Q : Option R → Prop) :
    ∀ (j n : Nat) (c k : Int) (x0 x6 x7 x8 x9 x13 x16 x17 x18 x19 x20 x21 x22 x23 x24 x25 x26 x27 x28 x29 x30 x31 x32 x33 x34 x35 x36 x37 x38 x39 x40 x41 x42 x43 x44 x45 x46 x47 x48 x49 x50 x51 x52 x53 x54 x55 x56 x57 x58 x59 x60 x61 x62 x63 x64 x65 x66 x67 x68 x69 x70 x71 x72 x73 x74 x75 x76 x77 x78 x79 x80 x81 x82 x83 x84 x85 x86 x87 x88 x89 x90 x91 x92 x93 x94 x95 x96 x97 x98 x99 x100 x101 x102 x103 x104 x105 x106 x107 x108 x109 x110 x111 x112 x113 : AV), k = (j : Int) - 1 → j ≤ l.listOf.length → j < n → (∀ (c' k : Int) (x0 x6 x7 x8 x9 x13 x16 x17 x18 x19 x20 x21 x22 x23 x24 x25 x26 x27 x28 x29 x30 x31 x32 x33 x34 x35 x36 x37 x38 x39 x40 x41 x42 x43 x44 x45 x46 x47 x48 x49 x50 x51 x52 x53 x54 x55 x56 x57 x58 x59 x60 x61 x62 x63 x64 x65 x66 x67 x68 x69 x70 x71 x72 x73 x74 x75 x76 x77 x78 x79 x80 x81 x82 x83 x84 x85 x86 x87 x88 x89 x90 x91 x92 x93 x94 x95 x96 x97 x98 x99 x100 x101 x102 x103 x104 x105 x106 x107 x108 x109 x110 x111 x112 x113 : AV), c' = scanM (mosOf l) c j → (fun c => Q (K (.exit 2) [x0, .int .i64 d, .int .i64 r, .int .i64 i, l, .ptr 0 0, x6, x7, x8, x9, .bool false, .int .i64 e, .int .i64 p, x13, .int .i64 c, .int .i64 k, x16, x17, x18, x19, x20, x21, x22, x23, x24, x25, x26, x27, x28, x29, x30, x31, x32, x33, x34, x35, x36, x37, x38, x39, x40, x41, x42, x43, x44, x45, x46, x47, x48, x49, x50, x51, x52, x53, x54, x55, x56, x57, x58, x59, x60, x61, x62, x63, x64, x65, x66, x67, x68, x69, x70, x71, x72, x73, x74, x75, x76, x77, x78, x79, x80, x81, x82, x83, x84, x85, x86, x87, x88, x89, x90, x91, x92, x93, x94, x95, x96, x97, x98, x99, x100, x101, x102, x103, x104, x105, x106, x107, x108, x109, x110, x111, x112, x113] ⟨[.cells (cfC c0 c1 c2 c3 c4 c5 c6 c7 c8 c9 c10)], []⟩)) c') → Q (loopC Try.D (cF fuel) fuel hbB n [x0, .int .i64 d, .int .i64 r, .int .i64 i, l, .ptr 0 0, x6, x7, x8, x9, .bool false, .int .i64 e, .int .i64 p, x13, .int .i64 c, .int .i64 k, x16, x17, x18, x19, x20, x21, x22, x23, x24, x25, x26, x27, x28, x29, x30, x31, x32, x33, x34, x35, x36, x37, x38, x39, x40, x41, x42, x43, x44, x45, x46, x47, x48, x49, x50, x51, x52, x53, x54, x55, x56, x57, x58, x59, x60, x61, x62, x63, x64, x65, x66, x67, x68, x69, x70, x71, x72, x73, x74, x75, x76, x77, x78, x79, x80, x81, x82, x83, x84, x85, x86, x87, x88, x89, x90, x91, x92, x93, x94, x95, x96, x97, x98, x99, x100, x101, x102, x103, x104, x105, x106, x107, x108, x109, x110, x111, x112, x113] ⟨[.cells (cfC c0 c1 c2 c3 c4 c5 c6 c7 c8 c9 c10)], []⟩ K)
  | j, 0, c, k, _, _, _, _, _, _, _, _, _, _, _, _, _, _, _, _, _, _, _, _, _, _, _, _, _, _, _, _, _, _, _, _, _, _, _, _, _, _, _, _, _, _, _, _, _, _, _, _, _, _, _, _, _, _, _, _, _, _, _, _, _, _, _, _, _, _, _, _, _, _, _, _, _, _, _, _, _, _, _, _, _, _, _, _, _, _, _, _, _, _, _, _, _, _, _, _, _, _, _, _, _, _, _, _, hk, hj, hn, hexit => by omega
  | 0, n + 1, c, k, x0, x6, x7, x8, x9, x13, x16, x17, x18, x19, x20, x21, x22, x23, x24, x25, x26, x27, x28, x29, x30, x31, x32, x33, x34, x35, x36, x37, x38, x39, x40, x41, x42, x43, x44, x45, x46, x47, x48, x49, x50, x51, x52, x53, x54, x55, x56, x57, x58, x59, x60, x61, x62, x63, x64, x65, x66, x67, x68, x69, x70, x71, x72, x73, x74, x75, x76, x77, x78, x79, x80, x81, x82, x83, x84, x85, x86, x87, x88, x89, x90, x91, x92, x93, x94, x95, x96, x97, x98, x99, x100, x101, x102, x103, x104, x105, x106, x107, x108, x109, x110, x111, x112, x113, hk, hj, hn, hexit => by
    subst hk
    rw [hb_step, show decide (((0 : Nat) : Int) - 1 ≥ 0) = false from rfl]
    simp only [br, resetV_self]
    exact hexit _ _ _ _ _ _ _ _ _ _ _ _ _ _ _ _ _ _ _ _ _ _ _ _ _ _ _ _ _ _ _ _ _ _ _ _ _ _ _ _ _ _ _ _ _ _ _ _ _ _ _ _ _ _ _ _ _ _ _ _ _ _ _ _ _ _ _ _ _ _ _ _ _ _ _ _ _ _ _ _ _ _ _ _ _ _ _ _ _ _ _ _ _ _ _ _ _ _ _ _ _ _ _ _ _ _ rfl
  | j + 1, n + 1, c, k, x0, x6, x7, x8, x9, x13, x16, x17, x18, x19, x20, x21, x22, x23, x24, x25, x26, x27, x28, x29, x30, x31, x32, x33, x34, x35, x36, x37, x38, x39, x40, x41, x42, x43, x44, x45, x46, x47, x48, x49, x50, x51, x52, x53, x54, x55, x56, x57, x58, x59, x60, x61, x62, x63, x64, x65, x66, x67, x68, x69, x70, x71, x72, x73, x74, x75, x76, x77, x78, x79, x80, x81, x82, x83, x84, x85, x86, x87, x88, x89, x90, x91, x92, x93, x94, x95, x96, x97, x98, x99, x100, x101, x102, x103, x104, x105, x106, x107, x108, x109, x110, x111, x112, x113, hk, hj, hn, hexit => by
    have hk' : k = (j : Int) := by omega
    subst hk'
    obtain ⟨hB, hmax, hT, -, -⟩ := sl_facts hl
    have hj' : j < l.listOf.length := by omega
    obtain ⟨u, hu⟩ : ∃ u, l.listOf[j]? = some u := ⟨_, List.getElem?_eq_getElem hj'⟩
    have tu := hT u (List.mem_of_getElem? hu)
    have ha := atM_of hu
    rw [hb_step, show decide ((j : Int) ≥ 0) = true by simp, hB, lt_true hj', Int.toNat_natCast, hu]
    simp only [br, Bool.and_self, fit_dtMom tu, resetV_self]
    have hup : (moOf u).up = (hdV (tlV u.aggOf)).boolOf := rfl
    cases h1 : (hdV (tlV u.aggOf)).boolOf with
    | true =>
      simp only [Bool.not_true]
      exact hexit _ _ _ _ _ _ _ _ _ _ _ _ _ _ _ _ _ _ _ _ _ _ _ _ _ _ _ _ _ _ _ _ _ _ _ _ _ _ _ _ _ _ _ _ _ _ _ _ _ _ _ _ _ _ _ _ _ _ _ _ _ _ _ _ _ _ _ _ _ _ _ _ _ _ _ _ _ _ _ _ _ _ _ _ _ _ _ _ _ _ _ _ _ _ _ _ _ _ _ _ _ _ _ _ _ _ (by simp only [scanM, ha]; rw [if_pos (hup.trans h1)])
    | false =>
      simp only [Bool.not_false]
      refine hb_loop fuel c0 c1 c2 c3 c4 c5 c6 c7 c8 c9 c10 hl d r i e p K Q j n _ _ _ _ _ _ _ _ _ _ _ _ _ _ _ _ _ _ _ _ _ _ _ _ _ _ _ _ _ _ _ _ _ _ _ _ _ _ _ _ _ _ _ _ _ _ _ _ _ _ _ _ _ _ _ _ _ _ _ _ _ _ _ _ _ _ _ _ _ _ _ _ _ _ _ _ _ _ _ _ _ _ _ _ _ _ _ _ _ _ _ _ _ _ _ _ _ _ _ _ _ _ _ _ _ _ ?_ (by omega) (by omega) ?_
      · exact wrapN (by omega) (by have : maxLen = 9223372036854775807 := by decide
                                   omega)
      · intro c' k x0 x6 x7 x8 x9 x13 x16 x17 x18 x19 x20 x21 x22 x23 x24 x25 x26 x27 x28 x29 x30 x31 x32 x33 x34 x35 x36 x37 x38 x39 x40 x41 x42 x43 x44 x45 x46 x47 x48 x49 x50 x51 x52 x53 x54 x55 x56 x57 x58 x59 x60 x61 x62 x63 x64 x65 x66 x67 x68 x69 x70 x71 x72 x73 x74 x75 x76 x77 x78 x79 x80 x81 x82 x83 x84 x85 x86 x87 x88 x89 x90 x91 x92 x93 x94 x95 x96 x97 x98 x99 x100 x101 x102 x103 x104 x105 x106 x107 x108 x109 x110 x111 x112 x113 hc'
        exact hexit _ _ _ _ _ _ _ _ _ _ _ _ _ _ _ _ _ _ _ _ _ _ _ _ _ _ _ _ _ _ _ _ _ _ _ _ _ _ _ _ _ _ _ _ _ _ _ _ _ _ _ _ _ _ _ _ _ _ _ _ _ _ _ _ _ _ _ _ _ _ _ _ _ _ _ _ _ _ _ _ _ _ _ _ _ _ _ _ _ _ _ _ _ _ _ _ _ _ _ _ _ _ _ _ _ _ (by simp only [scanM, ha]; rw [if_neg (by rw [hup, h1]; simp)]; exact hc')

theorem run35 (fuel : Nat) (c0 c1 c2 c3 c4 c5 c6 c7 c8 c9 c10 : Int) {l : AV} (hc : tyV dtCfg (.agg (cfC c0 c1 c2 c3 c4 c5 c6 c7 c8 c9 c10))) (hl : tyV (.sl 14 dtMom) l) (b8 : 1 ≤ c8 ∧ c8 ≤ 1099511627776) (hok : ∀ m ∈ mosOf l, okMo m) (d r : Int) (iN : Nat) (hi : iN < l.listOf.length) (hF : l.listOf.length < fuel) :
    runI Try.D (cF fuel) fuel Try.f35 [.agg (cfC c0 c1 c2 c3 c4 c5 c6 c7 c8 c9 c10), .int .i64 d, .int .i64 r, .int .i64 (iN : Int), l] ⟨[], []⟩ (fun v _ => some v) = some (.bool (holdsE c8 d r (mosOf l) iN)) := by
  obtain ⟨hB, hmax, hT, -, -⟩ := sl_facts hl
  obtain ⟨u, hu⟩ : ∃ u, l.listOf[iN]? = some u := ⟨_, List.getElem?_eq_getElem hi⟩
  have tu := hT u (List.mem_of_getElem? hu)
  have ha := atM_of hu
  have h0 : 0 < l.listOf.length := by omega
  obtain ⟨v, hv⟩ : ∃ v, l.listOf[0]? = some v := ⟨_, List.getElem?_eq_getElem h0⟩
  have tv := hT v (List.mem_of_getElem? hv)
  have ha0 := atM_of hv
  have hmo := hok (moOf u) (List.mem_map_of_mem (List.mem_of_getElem? hu))
  obtain ⟨o1, o2, o3⟩ := hmo
  have hE : untilE c8 (moOf u).ac = endE c8 (moOf u) := by
    unfold untilE endE
    split
    · rfl
    · exact wrapN (by omega) (by omega)
  have hbE : -1 ≤ endE c8 (moOf u) ∧ endE c8 (moOf u) ≤ 2199023255552 := by unfold endE; split <;> omega
  have hk : ∀ H, valH Try.D 32 [.agg (cfC c0 c1 c2 c3 c4 c5 c6 c7 c8 c9 c10), u] H = some (.int .i64 (endE c8 (moOf u))) := fun H => by rw [← hE]; exact valH_of (un32 hc tu H)
  obtain ⟨x, hx, hs, hn⟩ := val_num hk
  have hct := ctA_ok hok iN
  have hcr := crA_ok hok iN
  rw [h_pre, hB, lt_true hi, ge_true, Int.toNat_natCast, hu]
  simp only [br, Bool.and_self, fit_dtMom tu, eta_dtMom tu]
  rw [hx]
  simp only [hs]
  generalize x.numOf = e at hn ⊢
  obtain rfl := hn.symm
  unfold holdsE
  rw [ha]
  by_cases hle : (moOf u).now ≤ endE c8 (moOf u)
  · rw [dec_yes (show (hdV u.aggOf).numOf ≤ _ from hle), if_pos hle]
  rw [dec_no (show ¬ (hdV u.aggOf).numOf ≤ _ from hle), if_neg hle]
  simp only [show decide ((0 : Int) < (l.listOf.length : Int)) = true by simpa using h0, hv, fit_dtMom tv, Bool.and_self]
  refine ha_loop fuel c0 c1 c2 c3 c4 c5 c6 c7 c8 c9 c10 hl iN hi d r _ _ (fun o => o = _) ?_ iN 0 fuel _ _ _ _ _ _ _ _ _ _ _ _ _ _ _ _ _ _ _ _ _ _ _ _ _ _ _ _ _ _ _ _ _ _ _ _ _ _ _ _ _ _ _ _ _ _ _ _ _ _ _ _ _ _ _ _ _ _ _ _ _ _ _ _ _ _ _ _ _ _ _ _ _ _ _ _ _ _ _ _ _ _ _ _ _ _ _ _ _ _ _ _ _ _ _ _ _ _ _ _ _ _ _ _ _ _ _ _ rfl rfl (by simp only [ctA, ha0]; rfl) (by omega) (by omega)
  intro i p k x0 x6 x7 x8 x9 x14 x15 x16 x17 x18 x19 x20 x21 x22 x23 x24 x25 x26 x27 x28 x29 x30 x31 x32 x33 x34 x35 x36 x37 x38 x39 x40 x41 x42 x43 x44 x45 x46 x47 x48 x49 x50 x51 x52 x53 x54 x55 x56 x57 x58 x59 x60 x61 x62 x63 x64 x65 x66 x67 x68 x69 x70 x71 x72 x73 x74 x75 x76 x77 x78 x79 x80 x81 x82 x83 x84 x85 x86 x87 x88 x89 x90 x91 x92 x93 x94 x95 x96 x97 x98 x99 x100 x101 x102 x103 x104 x105 x106 x107 x108 x109 x110 x111 x112 x113 hi' hp
  subst hi'
  rw [ha_post, hB, lt_true hi, ge_true, Int.toNat_natCast, hu]
  simp only [br, Bool.and_self, fit_dtMom tu, if_true, mx_eq]
  have hup : (moOf u).up = (hdV (tlV u.aggOf)).boolOf := rfl
  rw [← hp] at hct ⊢
  cases h1 : (hdV (tlV u.aggOf)).boolOf with
  | true =>
    rw [if_pos (hup.trans h1)]
    simp only
    have hnow : (moOf u).now = (hdV u.aggOf).numOf := rfl
    rw [hnow] at o1 o2 ⊢
    rw [wrapN (by omega) (by omega)]
  | false =>
    rw [if_neg (by rw [hup, h1]; simp)]
    simp only
    refine hb_loop fuel c0 c1 c2 c3 c4 c5 c6 c7 c8 c9 c10 hl d r _ _ _ _ (fun o => o = _) (iN + 1) fuel _ _ _ _ _ _ _ _ _ _ _ _ _ _ _ _ _ _ _ _ _ _ _ _ _ _ _ _ _ _ _ _ _ _ _ _ _ _ _ _ _ _ _ _ _ _ _ _ _ _ _ _ _ _ _ _ _ _ _ _ _ _ _ _ _ _ _ _ _ _ _ _ _ _ _ _ _ _ _ _ _ _ _ _ _ _ _ _ _ _ _ _ _ _ _ _ _ _ _ _ _ _ _ _ _ _ (by omega) (by omega) (by omega) ?_
    intro c k x0 x6 x7 x8 x9 x13 x16 x17 x18 x19 x20 x21 x22 x23 x24 x25 x26 x27 x28 x29 x30 x31 x32 x33 x34 x35 x36 x37 x38 x39 x40 x41 x42 x43 x44 x45 x46 x47 x48 x49 x50 x51 x52 x53 x54 x55 x56 x57 x58 x59 x60 x61 x62 x63 x64 x65 x66 x67 x68 x69 x70 x71 x72 x73 x74 x75 x76 x77 x78 x79 x80 x81 x82 x83 x84 x85 x86 x87 x88 x89 x90 x91 x92 x93 x94 x95 x96 x97 x98 x99 x100 x101 x102 x103 x104 x105 x106 x107 x108 x109 x110 x111 x112 x113 hc'
    have hc2 : c = crA (mosOf l) iN := by
      rw [hc']
      simp only [scanM, ha]
      rw [if_neg (by rw [hup, h1]; simp), ← ha, scan_cr]
    rw [← hc2] at hcr ⊢
    dsimp only
    rw [hb_post, hB, lt_true hi, ge_true, Int.toNat_natCast, hu]
    simp only [br, Bool.and_self, fit_dtMom tu, if_true, mx_eq]
    have hnow : (moOf u).now = (hdV u.aggOf).numOf := rfl
    rw [hnow] at o1 o2 ⊢
    rw [wrapN (n := c - max (endE c8 (moOf u)) p) (by omega) (by omega), wrapN (n := (hdV u.aggOf).numOf - max (endE c8 (moOf u)) c) (by omega) (by omega)]
    cases decide (c - max (endE c8 (moOf u)) p ≤ d) <;> rfl

theorem k35 {c0 c1 c2 c3 c4 c5 c6 c7 c8 c9 c10 : Int} {l : AV} (hc : tyV dtCfg (.agg (cfC c0 c1 c2 c3 c4 c5 c6 c7 c8 c9 c10))) (hl : tyV (.sl 14 dtMom) l) (b8 : 1 ≤ c8 ∧ c8 ≤ 1099511627776) (hok : ∀ m ∈ mosOf l, okMo m) {d r : Int} (hd : (Lit.int .i64 d).wf = true) (hr : (Lit.int .i64 r).wf = true) {iN : Nat} (hi : iN < l.listOf.length) (H : AH) : callL Try.D 35 [.agg (cfC c0 c1 c2 c3 c4 c5 c6 c7 c8 c9 c10), .int .i64 d, .int .i64 r, .int .i64 (iN : Int), l] H = some (.bool (holdsE c8 d r (mosOf l) iN), H) := by
  have emax : maxLen = 9223372036854775807 := by decide
  have hm := (sl_facts hl).2.1
  have hi' : iN < (erase l).listOf.length := by rw [listOf_erase hl, List.length_map]; exact hi
  refine callL_D tabF_ok (fuel := (erase l).listOf.length + 1) (n := 6) (fn := Try.f35) (ds := [dtCfg, dtI, dtI, dtI, .sl 14 dtMom]) (v := .bool (holdsE c8 d r (mosOf l) iN)) (by kernel_rfl) (by kernel_rfl) (by kernel_rfl) ⟨hc, ty_i hd, ty_i hr, ty_i (wf64 (by omega) (by omega)), hl, trivial⟩ ?_ rfl
  have := run35 ((erase l).listOf.length + 1) c0 c1 c2 c3 c4 c5 c6 c7 c8 c9 c10 hc (tyV_erase hl) b8 (by rw [mosOf_erase hl]; exact hok) d r iN hi' (Nat.lt_succ_self _)
  rw [mosOf_erase hl] at this
  exact this

/-! The folds and the tests of each moment. -/
def allH (le d r : Int) (L : List Mo) : Nat → Nat → Bool
  | 0, _ => true
  | q + 1, j => if holdsE le d r L j then allH le d r L q (j + 1) else false
def gonH (le g d r : Int) (L : List Mo) : Nat → Nat → Bool
  | 0, _ => true
  | q + 1, j => if holdsE le d r L j then (if (atM L j).al && decide ((atM L j).now > endE le (atM L j) + g + d + r + 1) then false else gonH le g d r L q (j + 1)) else true

/-- What is known before a moment. -/
def Inv (L : List Mo) (j : Nat) (ct cr : Int) (up : Bool) : Prop := match j with
  | 0 => True
  | i + 1 => ct = ctA L i ∧ up = (atM L i).up ∧ (up = false → cr = crA L i)

theorem inv_ct {L : List Mo} {j : Nat} {ct cr : Int} {up : Bool} (h : Inv L j ct cr up) : ctM (decide (j = 0)) ct (atM L j) = ctA L j := by
  cases j with
  | zero => simp [ctM, ctA]
  | succ i =>
    obtain ⟨h1, -, -⟩ := h
    simp only [ctM, ctA, show decide (i + 1 = 0) = false by simp, Bool.false_or, h1]
theorem inv_cr {L : List Mo} {j : Nat} {ct cr : Int} {up : Bool} (h : Inv L j ct cr up) (hd : (atM L j).up = false) : crM (decide (j = 0)) cr up (atM L j) = crA L j := by
  cases j with
  | zero => simp [crM, crA, hd]
  | succ i =>
    obtain ⟨-, h2, h3⟩ := h
    simp only [crM, crA, hd, show decide (i + 1 = 0) = false by simp, Bool.or_false, Bool.not_false, Bool.true_and, ← h2]
    cases up with
    | true => rfl
    | false => simp [h3]
theorem inv_hold {le d r : Int} {L : List Mo} {j : Nat} {ct cr : Int} {up : Bool} (h : Inv L j ct cr up) : hoM le d r (ctM (decide (j = 0)) ct (atM L j)) (crM (decide (j = 0)) cr up (atM L j)) (atM L j) = holdsE le d r L j := by
  rw [inv_ct h]
  unfold hoM holdsE
  by_cases hn : (atM L j).now > endE le (atM L j)
  · rw [if_pos hn, if_neg (show ¬ ((atM L j).now ≤ endE le (atM L j)) by omega)]
    cases hu : (atM L j).up with
    | true => rfl
    | false => rw [inv_cr h hu]
  · rw [if_neg hn, if_pos (show (atM L j).now ≤ endE le (atM L j) by omega)]
theorem inv_next {L : List Mo} {j : Nat} {ct cr : Int} {up : Bool} (h : Inv L j ct cr up) : Inv L (j + 1) (ctM (decide (j = 0)) ct (atM L j)) (crM (decide (j = 0)) cr up (atM L j)) (atM L j).up :=
  ⟨inv_ct h, rfl, fun hu => inv_cr h hu⟩
theorem atM_get {L : List Mo} {j : Nat} {m : Mo} (h : L[j]? = some m) : atM L j = m := by
  unfold atM; simp [List.getD, h]
theorem prem_all {le d r : Int} {L : List Mo} : ∀ (q j : Nat) (ct cr : Int) (up : Bool), j + q = L.length → Inv L j ct cr up → prem le d r (decide (j = 0)) ct cr up (L.drop j) = allH le d r L q j
  | 0, j, ct, cr, up, h, hI => by rw [List.drop_eq_nil_of_le (by omega)]; rfl
  | q + 1, j, ct, cr, up, h, hI => by
    have hj : j < L.length := by omega
    obtain ⟨m, hm⟩ : ∃ m, L[j]? = some m := ⟨_, List.getElem?_eq_getElem hj⟩
    have hd : L.drop j = m :: L.drop (j + 1) := by
      rw [List.drop_eq_getElem_cons hj]
      have := (List.getElem?_eq_some_iff.1 hm).2
      rw [this]
    have e := atM_get hm
    have hh := inv_hold (le := le) (d := d) (r := r) hI
    have hn := inv_next hI
    rw [e] at hh hn
    rw [hd]
    simp only [prem, allH, hh]
    have ih := prem_all (le := le) (d := d) (r := r) q (j + 1) _ _ _ (by omega) hn
    rw [show decide (j + 1 = 0) = false by simp] at ih
    rw [ih]
    cases holdsE le d r L j <;> simp
theorem gone_all {le g d r : Int} {L : List Mo} : ∀ (q j : Nat) (ct cr : Int) (up : Bool), j + q = L.length → Inv L j ct cr up → gone le g d r (decide (j = 0)) ct cr up (L.drop j) = gonH le g d r L q j
  | 0, j, ct, cr, up, h, hI => by rw [List.drop_eq_nil_of_le (by omega)]; rfl
  | q + 1, j, ct, cr, up, h, hI => by
    have hj : j < L.length := by omega
    obtain ⟨m, hm⟩ : ∃ m, L[j]? = some m := ⟨_, List.getElem?_eq_getElem hj⟩
    have hd : L.drop j = m :: L.drop (j + 1) := by
      rw [List.drop_eq_getElem_cons hj]
      have := (List.getElem?_eq_some_iff.1 hm).2
      rw [this]
    have e := atM_get hm
    have hh := inv_hold (le := le) (d := d) (r := r) hI
    have hn := inv_next hI
    rw [e] at hh hn
    rw [hd]
    simp only [gone, gonH, hh, e]
    have ih := gone_all (le := le) (g := g) (d := d) (r := r) q (j + 1) _ _ _ (by omega) hn
    rw [show decide (j + 1 = 0) = false by simp] at ih
    rw [ih]
    cases holdsE le d r L j with
    | false => rfl
    | true =>
      simp only [if_true]
      by_cases hw : m.now ≤ endE le m + g + d + r + 1
      · rw [if_pos hw, decide_eq_false (by omega), Bool.and_false]; rfl
      · rw [if_neg hw, decide_eq_true (by omega), Bool.and_true]
end Go.Proofs.Ytoagnbpmoihojaa
