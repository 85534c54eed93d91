/- report.Line's closure: a word more in the builder. -/
import Derived.Test.YtoagnbpmoihojaaDoorRepSys
set_option maxRecDepth 100000
set_option linter.unusedSimpArgs false
set_option linter.unusedVariables false
namespace Go.Proofs.YtoagnbpmoihojaaDoor
open Go.Sx

/-- A status' cells. -/
def stA (a b st i n c : Int) (al : Bool) : List AV := [.int .i64 a, .int .i64 b, .int .u8 st, .int .i64 i, .int .i64 n, .int .i64 c, .bool al]

theorem detokL_byteV : ∀ l, detokL (byteV l) = byteV l
  | [] => rfl
  | c :: r => by
    have := detokL_byteV r
    simp only [byteV, List.map_cons, detokL, detok] at this ⊢
    rw [this]

theorem byteV_length (l : List UInt8) : (byteV l).length = l.length := by simp [byteV]
theorem byteV_append (a b : List UInt8) : byteV (a ++ b) = byteV a ++ byteV b := by simp [byteV]

def bldH (C : List AV) (g : Nat) (xs : List AV) : AH := ⟨[.cells C, .tcells 74 [.ptr 1 0, .inl true (.tok 0 g) 1 xs]], [(g, 1, 5)]⟩

theorem word_form1 (m : Array Value) (s : List UInt8) (a b st i n c : Int) (al : Bool) : callI (Rep.S m) (fun _ => none) 8 6 38 [.str s, .ptr 1 0] ⟨[.cells (stA a b st i n c al), .tcells 74 [.nilptr, .nils]], []⟩ some =
    if (byteV s).length = 0 then some (.tuple [], ⟨[.cells (stA a b st i n c al), .tcells 74 [.ptr 1 0, .nils]], []⟩)
    else if fitsRoom (byteV s).length 1 = true then some (.tuple [], ⟨[.cells (stA a b st i n c al), .tcells 74 [.ptr 1 0, .inl true (.tok 0 0) 1 (detokL (byteV s))]], [(0, 1, 5)]⟩) else none := by kernel_rfl

def appW (C : List AV) (g : Nat) (xs : List AV) (s : List UInt8) : Option (AV × AH) :=
  if (byteV s).length = 0 then some (.tuple [], ⟨[.cells C, .tcells 74 [.ptr 1 0, .inl true (.tok 0 g) 1 xs]], [(g, 1, 5)]⟩)
  else if fitsRoom (xs.length + (byteV s).length) 1 = true ∧ 1 = 1 then (if (some (g, 1, 5) : Option (Nat × Nat × TypeId)) = some (g, 1, 5) then some (.tuple [], ⟨[.cells C, .tcells 74 [.ptr 1 0, .inl true (.tok 0 (g + 1)) 1 (xs ++ detokL (byteV s))]], [(g + 1, 1, 5)]⟩) else none) else none

theorem word_form2 (m : Array Value) (s : List UInt8) (xs : List AV) (g : Nat) (a b st i n c : Int) (al : Bool) : callI (Rep.S m) (fun _ => none) 8 6 38 [.str s, .ptr 1 0] (bldH (stA a b st i n c al) g xs) some =
    br (decide ((xs.length : Int) > 0))
      (fun _ => if fitsRoom (xs.length + 1) 1 = true ∧ 1 = 1 then (if (some (g, 1, 5) : Option (Nat × Nat × TypeId)) = some (g, 1, 5) then appW (stA a b st i n c al) (g + 1) (xs ++ [.int .u8 32]) s else none) else none)
      (fun _ => appW (stA a b st i n c al) g xs s) := by kernel_rfl

theorem tabNone (S : Go.Sx.Sys) : TabOK S (fun _ => none) := by
  intro f g h; cases h

theorem fits1 {n : Nat} (h : n ≤ 1000000) : fitsRoom n 1 = true := by
  simp only [fitsRoom, Bool.and_eq_true, decide_eq_true_eq]
  omega

theorem word_first (m : Array Value) (s : List UInt8) (a b st i n c : Int) (al : Bool) (h0 : s ≠ []) (h1 : s.length ≤ 1000) :
    callL (Rep.S m) 38 [.str s, .ptr 1 0] ⟨[.cells (stA a b st i n c al), .tcells 74 [.nilptr, .nils]], []⟩ = some (.tuple [], bldH (stA a b st i n c al) 0 (byteV s)) := by
  refine callL_I (tabNone _) (fuel := 8) (n := 6) ?_
  have hl : (byteV s).length ≠ 0 := by rw [byteV_length]; simpa using h0
  rw [word_form1, if_neg hl, if_pos (fits1 (by rw [byteV_length]; omega)), detokL_byteV]
  rfl

theorem word_next (m : Array Value) (s : List UInt8) (xs : List AV) (g : Nat) (a b st i n c : Int) (al : Bool) (h0 : s ≠ []) (h1 : s.length ≤ 1000) (h2 : xs ≠ []) (h3 : xs.length ≤ 100000) :
    callL (Rep.S m) 38 [.str s, .ptr 1 0] (bldH (stA a b st i n c al) g xs) = some (.tuple [], bldH (stA a b st i n c al) (g + 2) (xs ++ byteV (32 :: s))) := by
  refine callL_I (tabNone _) (fuel := 8) (n := 6) ?_
  have hl : (byteV s).length ≠ 0 := by rw [byteV_length]; simpa using h0
  have hp : 0 < xs.length := List.length_pos_iff.2 h2
  have hd : decide ((xs.length : Int) > 0) = true := by simpa using hp
  have e : xs ++ [.int .u8 32] ++ byteV s = xs ++ byteV (32 :: s) := by
    simp [byteV]
  rw [word_form2, hd]
  simp only [br]
  rw [if_pos ⟨fits1 (by omega), trivial⟩, if_pos trivial]
  unfold appW
  rw [if_neg hl, if_pos ⟨fits1 (by simp only [List.length_append, List.length_singleton, byteV_length]; omega), rfl⟩, if_pos rfl, detokL_byteV, e]
  rfl

def namesL : List (List UInt8) := [[112,101,110,100,105,110,103], [115,116,97,114,116,105,110,103], [114,117,110,110,105,110,103], [98,97,99,107,111,102,102], [115,116,111,112,112,105,110,103], [107,105,108,108,105,110,103], [100,101,97,100], [102,97,105,108,101,100]]
def nameL (st : Int) : List UInt8 := namesL.getD st.toNat []

/-- The text of a list of bytes. -/
def textOf (xs : List AV) : List UInt8 := (byteL xs).getD []

/-- What is answered ahead. -/
def tabL : TabT := fun f => match Nat.beq f 17, Nat.beq f 38, Nat.beq f 43, Nat.beq f 42 with
  | _, _, _, true => some fun args H _ K => match args with
    | [.int .i64 n] => br (decide (-9223372036854775808 ≤ n) && decide (n ≤ 9223372036854775807)) (fun _ => K (.str (itoaL n), H)) (fun _ => none)
    | _ => none
  | true, _, _, _ => some fun args H _ K => match args with
    | [.int .u8 st] => br (decide (0 ≤ st) && decide (st < 256)) (fun _ => br (decide (st < 8)) (fun _ => K (.tuple [.str (nameL st), .int .i64 0], H)) (fun _ => K (.tuple [.str [], .int .i64 3], H))) (fun _ => none)
    | _ => none
  | _, true, _, _ => some fun args H _ K => match args, H with
    | [.str s, .ptr 1 0], ⟨[.cells [.int .i64 a, .int .i64 b, .int .u8 st, .int .i64 i, .int .i64 n, .int .i64 c, .bool al], .tcells u [p, v]], ts⟩ => match Nat.beq u 74, p, v, ts with
      | true, .nilptr, .nils, [] => if s ≠ [] ∧ s.length ≤ 1000 then K (.tuple [], bldH (stA a b st i n c al) 0 (byteV s)) else none
      | true, .ptr 1 0, .inl true (.tok 0 g) 1 xs, [(g', 1, e)] => if (s ≠ [] ∧ s.length ≤ 1000) ∧ (xs ≠ [] ∧ xs.length ≤ 100000) ∧ g' = g ∧ e = 5 then K (.tuple [], bldH (stA a b st i n c al) (g + 2) (xs ++ byteV (32 :: s))) else none
      | _, _, _, _ => none
    | _, _ => none
  | _, _, true, _ => some fun args H _ K => match args, H with
    | [.ptr 1 0], ⟨[.cells C, .tcells u [.ptr 1 0, .inl true (.tok 0 g) 1 xs]], [(g', 1, e)]⟩ => if u = 74 ∧ (byteL xs).isSome = true ∧ 0 < (textOf xs).length ∧ (textOf xs).length ≤ 100000 ∧ g' = g ∧ e = 5 then
        K (.str (textOf xs), ⟨[.cells C, .tcells 74 [.ptr 1 0, .inl true (.tok 0 g) 1 xs]], [(g + 1, 1, 5)]⟩) else none
    | _, _ => none
  | _, _, _, _ => none
end Go.Proofs.YtoagnbpmoihojaaDoor
