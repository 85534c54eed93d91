/- token.Format and the reference's, on unknown tokens. -/
import Derived.Test.YtoagnbpmoihojaaDoorDig
set_option maxRecDepth 100000
set_option linter.unusedSimpArgs false
set_option linter.unusedVariables false
namespace Go.Proofs.YtoagnbpmoihojaaDoor
open Go.Sx

/-- What is answered ahead: Check, Itoa, Join, Digits, awake. -/
def tabF : TabT := fun f => match Nat.beq f 31 || Nat.beq f 32, Nat.beq f 42, Nat.beq f 49, Nat.beq f 50, Nat.beq f 35 with
  | true, _, _, _, _ => some fun args H _ K => match args with
    | [.agg [.int .i64 a, .int .i64 b, .int .i64 c]] => K (.int .i64 (checkE a b c), H)
    | _ => none
  | _, true, _, _, _ => some fun args H _ K => match args with
    | [.int .i64 n] => br (decide (-9223372036854775808 ≤ n)) (fun _ => br (decide (n ≤ 9223372036854775807)) (fun _ => K (.str (itoaL n), H)) (fun _ => none)) (fun _ => none)
    | _ => none
  | _, _, true, _, _ => some fun args H _ K => match args with
    | [.inl _ _ sz [.str x, .str y, .str z], .str sep] => br (Nat.beq sz 1) (fun _ => br (decide ((joinL sep [x, y, z]).length ≤ 140737488355328)) (fun _ => K (.str (joinL sep [x, y, z]), H)) (fun _ => none)) (fun _ => none)
    | _ => none
  | _, _, _, true, _ => some fun args H _ K => match args with
    | [.int .i64 n] => br (decide (0 ≤ n)) (fun _ => br (decide (n < 1000000000000000000)) (fun _ => K (.str (Lib.decDigits n.toNat), H)) (fun _ => none)) (fun _ => none)
    | _ => none
  | _, _, _, _, true => some fun args H _ K => match args with
    | [] => K (.bool true, H)
    | _ => none
  | _, _, _, _, _ => none

theorem check32 (m : Array Value) (a b c : Int) (H : AH) : callL (Tryd.S m) 32 [tok a b c] H = some (.int .i64 (checkE a b c), H) := by
  have form : callI (Tryd.S m) (fun _ => none) 6 2 32 [tok a b c] H some =
      br (decide (a < 0)) (fun _ => some (.int .i64 3, H)) (fun _ => br (decide (a > 2147483648)) (fun _ => some (.int .i64 3, H)) (fun _ => br (decide (b < 0)) (fun _ => some (.int .i64 3, H)) (fun _ => br (decide (b ≥ 4)) (fun _ => some (.int .i64 3, H))
      (fun _ => br (decide (c < 1)) (fun _ => some (.int .i64 3, H)) (fun _ => br (decide (c > 1099511627776)) (fun _ => some (.int .i64 3, H)) (fun _ => some (.int .i64 0, H))))))) := by kernel_rfl
  refine callL_I (tab := fun _ => none) (fun f g h => by cases h) (fuel := 6) (n := 2) ?_
  rw [form]
  simp only [br_eq, decide_eq_true_eq, checkE]
  repeat' split
  all_goals first | rfl | (exfalso; omega)

theorem less34 (m : Array Value) (a b c d e f : Int) (H : AH) : callL (Tryd.S m) 34 [tok a b c, tok d e f] H = some (.bool (lessE a b c d e f), H) := by
  have form : callI (Tryd.S m) (fun _ => none) 6 2 34 [tok a b c, tok d e f] H some =
      br (a != d) (fun _ => some (.bool (decide (a < d)), H)) (fun _ => br (b != e) (fun _ => some (.bool (decide (b < e)), H)) (fun _ => some (.bool (decide (c < f)), H))) := by kernel_rfl
  refine callL_I (tab := fun _ => none) (fun f g h => by cases h) (fuel := 6) (n := 2) ?_
  rw [form]
  simp only [br_eq, bne_iff_ne, ne_eq, lessE, ite_not]
  repeat' split
  all_goals simp_all

theorem itoa42 (m : Array Value) {n : Int} (h0 : -9223372036854775808 ≤ n) (h1 : n ≤ 9223372036854775807) (H : AH) : callL (Tryd.S m) 42 [.int .i64 n] H = some (.str (itoaL n), H) :=
  callL_ext (g := extItoa) (ts := [.int .i64 n]) (v := .str (itoaL n)) rfl rfl (by unfold extItoa; simp only; rw [if_pos ⟨h0, h1⟩]) rfl

theorem join49 (m : Array Value) {f : Bool} {p : Spare} {x y z sep : List UInt8} (h : (joinL sep [x, y, z]).length ≤ 140737488355328) (H : AH) : callL (Tryd.S m) 49 [.inl f p 1 [.str x, .str y, .str z], .str sep] H = some (.str (joinL sep [x, y, z]), H) := by
  refine callL_ext (g := extJoin) (ts := [.inl false .unk 1 [.str x, .str y, .str z], .str sep]) (v := .str (joinL sep [x, y, z])) rfl rfl ?_ ?_
  · unfold extJoin
    simp only [textsOf, if_true]
    rw [if_pos ⟨by simp, h⟩]
  · unfold pureOut
    have : (below 0 0 (detok (.str (joinL sep [x, y, z]))) && (belowL 0 0 [.inl f p 1 [.str x, .str y, .str z], .str sep] || isNew (.str (joinL sep [x, y, z])))) = true := by
      simp [below, detok, isNew]
    rw [if_pos this]
    rfl

theorem tabF_ok (m : Array Value) : TabOK (Tryd.S m) tabF := by
  intro f g hg args H R K r h
  unfold tabF at hg
  split at hg
  · have hf := ‹(Nat.beq f 31 || Nat.beq f 32) = true›
    obtain rfl := Option.some.inj hg
    simp only at h
    split at h
    · rename_i a b c
      refine ⟨_, ?_, h⟩
      rw [Bool.or_eq_true] at hf
      rcases hf with hf | hf
      · obtain rfl := Nat.eq_of_beq_eq_true hf
        exact check31 m a b c H
      · obtain rfl := Nat.eq_of_beq_eq_true hf
        exact check32 m a b c H
    · cases h
  · have hf : f = 42 := Nat.eq_of_beq_eq_true ‹Nat.beq f 42 = true›
    subst hf
    obtain rfl := Option.some.inj hg
    simp only at h
    split at h
    · simp only [br_eq, decide_eq_true_eq] at h
      split at h
      · rename_i h0
        split at h
        · rename_i h1
          exact ⟨_, itoa42 m h0 h1 H, h⟩
        · cases h
      · cases h
    · cases h
  · have hf : f = 49 := Nat.eq_of_beq_eq_true ‹Nat.beq f 49 = true›
    subst hf
    obtain rfl := Option.some.inj hg
    simp only at h
    split at h
    · simp only [br_eq, decide_eq_true_eq] at h
      split at h
      · rename_i h0
        have hsz := Nat.eq_of_beq_eq_true h0
        subst hsz
        split at h
        · rename_i h1
          exact ⟨_, join49 m h1 H, h⟩
        · cases h
      · cases h
    · cases h
  · have hf : f = 50 := Nat.eq_of_beq_eq_true ‹Nat.beq f 50 = true›
    subst hf
    obtain rfl := Option.some.inj hg
    simp only at h
    split at h
    · rename_i n
      simp only [br_eq, decide_eq_true_eq] at h
      split at h
      · rename_i h0
        split at h
        · rename_i h1
          refine ⟨_, ?_, h⟩
          have := digits50 m n.toNat (by omega) H
          rw [Int.toNat_of_nonneg h0] at this
          exact this
        · cases h
      · cases h
    · cases h
  · have hf : f = 35 := Nat.eq_of_beq_eq_true ‹Nat.beq f 35 = true›
    subst hf
    obtain rfl := Option.some.inj hg
    simp only at h
    split at h
    · exact ⟨_, awake35 m H, h⟩
    · cases h
  · cases hg
end Go.Proofs.YtoagnbpmoihojaaDoor
