/- token.Parse and the reference's, on unknown texts: what is answered ahead. -/
import Derived.Test.YtoagnbpmoihojaaDoorSplit
set_option maxRecDepth 100000
set_option linter.unusedSimpArgs false
set_option linter.unusedVariables false
namespace Go.Proofs.YtoagnbpmoihojaaDoor
open Go.Sx

def three {R : Type} (l : List (List UInt8)) (f : List UInt8 → List UInt8 → List UInt8 → Option R) : Option R := match l with
  | [x, y, z] => f x y z
  | _ => none
def numK {R : Type} (o : Option Int) (f : Int → Option R) (g : Unit → Option R) : Option R := match o with
  | some n => f n
  | none => g ()

/-- Split: three pieces; number; Check. -/
def tabP (lst : Bool) : TabT := fun f => match Nat.beq f 51, Nat.beq f 53, Nat.beq f 52 || Nat.beq f 54, Nat.beq f 31 || Nat.beq f 32 with
  | true, _, _, _ => some fun args H _ K => match args with
    | [.str s, .str [c]] => br (c == 47) (fun _ => br (decide (s.length ≤ 1000000)) (fun _ => match lst with
      | true => K (.inl true .zero 1 (strs (splitL 47 s)), H)
      | false => three (splitL 47 s) fun x y z => K (.inl true .zero 1 [.str x, .str y, .str z], H)) (fun _ => none)) (fun _ => none)
    | _ => none
  | _, true, _, _ => some fun args H _ K => match args with
    | [.str s, .int .u8 c] => br (c == 47) (fun _ => br (decide (s.length ≤ 1000000)) (fun _ => match lst with
      | true => K (.inl true .unk 1 (strs (splitL 47 s)), H)
      | false => three (splitL 47 s) fun x y z => K (.inl true .unk 1 [.str x, .str y, .str z], H)) (fun _ => none)) (fun _ => none)
    | _ => none
  | _, _, true, _ => some fun args H _ K => match args with
    | [.str s] => br (decide (s.length ≤ 1000000)) (fun _ => numK (numE s) (fun n => K (.tuple [.int .i64 n, .bool true], H)) (fun _ => K (.tuple [.int .i64 0, .bool false], H))) (fun _ => none)
    | _ => none
  | _, _, _, true => some fun args H _ K => match args with
    | [.agg [.int .i64 a, .int .i64 b, .int .i64 c]] => K (.int .i64 (checkE a b c), H)
    | _ => none
  | _, _, _, _ => none

theorem tabP_ok (m : Array Value) (lst : Bool) : TabOK (Tryd.S m) (tabP lst) := by
  intro f g hg args H R K r h
  unfold tabP at hg
  split at hg
  · have hf : f = 51 := Nat.eq_of_beq_eq_true ‹Nat.beq f 51 = true›
    subst hf
    obtain rfl := Option.some.inj hg
    simp only at h
    split at h
    · rename_i s c
      simp only [br_eq, decide_eq_true_eq, beq_iff_eq] at h
      split at h
      · rename_i hc
        subst hc
        split at h
        · rename_i hs
          have hcall := split51 m s (by omega) H
          cases lst with
          | true => exact ⟨_, hcall, h⟩
          | false =>
            simp only [three] at h
            split at h
            · rename_i x y z hx
              rw [hx] at hcall
              exact ⟨_, hcall, h⟩
            · cases h
        · cases h
      · cases h
    · cases h
  · have hf : f = 53 := Nat.eq_of_beq_eq_true ‹Nat.beq f 53 = true›
    subst hf
    obtain rfl := Option.some.inj hg
    simp only at h
    split at h
    · rename_i s c
      simp only [br_eq, decide_eq_true_eq, beq_iff_eq] at h
      split at h
      · rename_i hc
        subst hc
        split at h
        · rename_i hs
          have hcall := split53 m s hs H
          cases lst with
          | true => exact ⟨_, hcall, h⟩
          | false =>
            simp only [three] at h
            split at h
            · rename_i x y z hx
              rw [hx] at hcall
              exact ⟨_, hcall, h⟩
            · cases h
        · cases h
      · cases h
    · cases h
  · have hf := ‹(Nat.beq f 52 || Nat.beq f 54) = true›
    obtain rfl := Option.some.inj hg
    simp only at h
    split at h
    · rename_i s
      simp only [br_eq, decide_eq_true_eq] at h
      split at h
      · rename_i hs
        have hcall : callL (Tryd.S m) f [.str s] H = some (numV (numE s), H) := by
          rw [Bool.or_eq_true] at hf
          rcases hf with hf | hf
          · obtain rfl := Nat.eq_of_beq_eq_true hf
            exact number52 m s hs H
          · obtain rfl := Nat.eq_of_beq_eq_true hf
            exact number54 m s hs H
        unfold numK at h
        split at h
        · rename_i n hn
          rw [hn] at hcall
          exact ⟨_, hcall, h⟩
        · rename_i hn
          rw [hn] at hcall
          exact ⟨_, hcall, h⟩
      · cases h
    · cases h
  · have hf := ‹(Nat.beq f 31 || Nat.beq f 32) = true›
    obtain rfl := Option.some.inj hg
    simp only at h
    split at h
    · rename_i a b c
      refine ⟨_, ?_, h⟩
      rw [Bool.or_eq_true] at hf
      rcases hf with hf | hf
      · obtain rfl := Nat.eq_of_beq_eq_true hf
        exact check31 m a b c H
      · obtain rfl := Nat.eq_of_beq_eq_true hf
        exact check32 m a b c H
    · cases h
  · cases hg
end Go.Proofs.YtoagnbpmoihojaaDoor
