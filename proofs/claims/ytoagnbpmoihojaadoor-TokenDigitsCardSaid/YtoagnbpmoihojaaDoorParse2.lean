/- token.Parse and the reference's answer the same, on unknown texts; TokenReads. -/
import Derived.Test.YtoagnbpmoihojaaDoorParse
set_option maxRecDepth 100000
set_option linter.unusedSimpArgs false
set_option linter.unusedVariables false
namespace Go.Proofs.YtoagnbpmoihojaaDoor
open Go.Sx

/-- What a text says. -/
def parse3 (x y z : List UInt8) : (Int × Int × Int) × Int := match numE x with
  | none => ((0, 0, 0), 4)
  | some a => match numE y with
    | none => ((0, 0, 0), 4)
    | some b => match numE z with
      | none => ((0, 0, 0), 4)
      | some c => if checkE a b c = 0 then ((a, b, c), 0) else ((0, 0, 0), checkE a b c)
def parseE (s : List UInt8) : (Int × Int × Int) × Int := match splitL 47 s with
  | [x, y, z] => parse3 x y z
  | _ => ((0, 0, 0), 4)
def parseV (p : (Int × Int × Int) × Int) : AV := .tuple [tok p.1.1 p.1.2.1 p.1.2.2, .int .i64 p.2]

def formP (x y z : List UInt8) (H : AH) : Option (AV × AH) :=
  br (decide (x.length ≤ 1000000)) (fun _ => numK (numE x) (fun a => br (decide (y.length ≤ 1000000)) (fun _ => numK (numE y) (fun b => br (decide (z.length ≤ 1000000)) (fun _ => numK (numE z)
    (fun c => br (checkE a b c != 0) (fun _ => some (.tuple [tok 0 0 0, .int .i64 (checkE a b c)], H)) (fun _ => some (.tuple [tok a b c, .int .i64 0], H)))
    (fun _ => some (.tuple [tok 0 0 0, .int .i64 4], H))) (fun _ => none)) (fun _ => some (.tuple [tok 0 0 0, .int .i64 4], H))) (fun _ => none)) (fun _ => some (.tuple [tok 0 0 0, .int .i64 4], H))) (fun _ => none)

theorem form36 (m : Array Value) (s : List UInt8) (H : AH) : callI (Tryd.S m) (tabP false) 6 2 36 [.str s] H some = br (decide (s.length ≤ 1000000)) (fun _ => three (splitL 47 s) fun x y z => formP x y z H) (fun _ => none) := by kernel_rfl
theorem form37 (m : Array Value) (s : List UInt8) (H : AH) : callI (Tryd.S m) (tabP false) 6 2 37 [.str s] H some = br (decide (s.length ≤ 1000000)) (fun _ => three (splitL 47 s) fun x y z => formP x y z H) (fun _ => none) := by kernel_rfl
theorem form36s (m : Array Value) (s : List UInt8) (H : AH) : callI (Tryd.S m) (tabP true) 0 2 36 [.str s] H some = br (decide (s.length ≤ 1000000)) (fun _ => br (((strs (splitL 47 s)).length : Int) != 3) (fun _ => some (.tuple [tok 0 0 0, .int .i64 4], H)) (fun _ => none)) (fun _ => none) := by kernel_rfl
theorem form37s (m : Array Value) (s : List UInt8) (H : AH) : callI (Tryd.S m) (tabP true) 0 2 37 [.str s] H some = br (decide (s.length ≤ 1000000)) (fun _ => br (((strs (splitL 47 s)).length : Int) != 3) (fun _ => some (.tuple [tok 0 0 0, .int .i64 4], H)) (fun _ => none)) (fun _ => none) := by kernel_rfl

theorem split_len (c : UInt8) : ∀ (s : List UInt8) p, p ∈ splitL c s → p.length ≤ s.length
  | [], p, h => by simp [splitL] at h; subst h; simp
  | b :: s, p, h => by
    unfold splitL at h
    have ih := split_len c s
    cases hb : b == c with
    | true =>
      rw [hb] at h
      simp only [List.mem_cons] at h
      rcases h with rfl | h
      · simp
      · have := ih p h; simp; omega
    | false =>
      rw [hb] at h
      simp only at h
      split at h
      · rename_i q r hs
        rcases List.mem_cons.1 h with rfl | h
        · have := ih q (by rw [hs]; exact List.mem_cons_self ..)
          simp; omega
        · have := ih p (by rw [hs]; exact List.mem_cons_of_mem _ h)
          simp; omega
      · simp at h; subst h; simp

theorem formP_eq {x y z : List UInt8} (hx : x.length ≤ 1000000) (hy : y.length ≤ 1000000) (hz : z.length ≤ 1000000) (H : AH) : formP x y z H = some (parseV (parse3 x y z), H) := by
  unfold formP parse3
  simp only [br_eq, decide_eq_true_eq, if_pos hx, if_pos hy, if_pos hz]
  cases numE x with
  | none => rfl
  | some a =>
    simp only [numK]
    cases numE y with
    | none => rfl
    | some b =>
      simp only
      cases numE z with
      | none => rfl
      | some c =>
        simp only
        by_cases h : checkE a b c = 0
        · rw [h]; rfl
        · rw [if_pos (by simpa using h), if_neg h]; rfl

theorem parse_of (m : Array Value) {f : FuncId} (h1 : ∀ s H, callI (Tryd.S m) (tabP false) 6 2 f [.str s] H some = br (decide (s.length ≤ 1000000)) (fun _ => three (splitL 47 s) fun x y z => formP x y z H) (fun _ => none))
    (h2 : ∀ s H, callI (Tryd.S m) (tabP true) 0 2 f [.str s] H some = br (decide (s.length ≤ 1000000)) (fun _ => br (((strs (splitL 47 s)).length : Int) != 3) (fun _ => some (.tuple [tok 0 0 0, .int .i64 4], H)) (fun _ => none)) (fun _ => none))
    (s : List UInt8) (hs : s.length ≤ 1000000) (H : AH) : callL (Tryd.S m) f [.str s] H = some (parseV (parseE s), H) := by
  have hd : decide (s.length ≤ 1000000) = true := decide_eq_true hs
  by_cases h3 : (splitL 47 s).length = 3
  · refine callL_I (tabP_ok m false) (fuel := 6) (n := 2) ?_
    rw [h1, hd]
    have hm := split_len 47 s
    unfold parseE
    match hsp : splitL 47 s, h3 with
    | [x, y, z], _ =>
      rw [hsp] at hm
      have q1 := hm x (by simp)
      have q2 := hm y (by simp)
      have q3 := hm z (by simp)
      simp only [br, three]
      exact formP_eq (by omega) (by omega) (by omega) H
  · refine callL_I (tabP_ok m true) (fuel := 0) (n := 2) ?_
    rw [h2, hd]
    have hb : ((((strs (splitL 47 s)).length : Nat) : Int) != 3) = true := by
      simp only [strs, List.length_map, bne_iff_ne, ne_eq]
      omega
    simp only [br, hb]
    unfold parseE
    split
    · rename_i x y z hsp
      rw [hsp] at h3
      simp at h3
    · rfl

theorem parse36 (m : Array Value) (s : List UInt8) (hs : s.length ≤ 1000000) (H : AH) : callL (Tryd.S m) 36 [.str s] H = some (parseV (parseE s), H) := parse_of m (form36 m) (form36s m) s hs H
theorem parse37 (m : Array Value) (s : List UInt8) (hs : s.length ≤ 1000000) (H : AH) : callL (Tryd.S m) 37 [.str s] H = some (parseV (parseE s), H) := parse_of m (form37 m) (form37s m) s hs H

/-- Parse, in the laws. -/
def tabR : TabT := fun f => match Nat.beq f 36 || Nat.beq f 37 with
  | true => some fun args H _ K => match args with
    | [.str s] => br (decide (s.length ≤ 1000000)) (fun _ => K (.tuple [tok (parseE s).1.1 (parseE s).1.2.1 (parseE s).1.2.2, .int .i64 (parseE s).2], H)) (fun _ => none)
    | _ => none
  | false => tabM f

theorem tabR_ok (m : Array Value) : TabOK (Tryd.S m) tabR := by
  intro f g hg args H R K r h
  unfold tabR at hg
  split at hg
  · rename_i hf
    obtain rfl := Option.some.inj hg
    simp only at h
    split at h
    · rename_i s
      simp only [br_eq, decide_eq_true_eq] at h
      split at h
      · rename_i hs
        refine ⟨_, ?_, h⟩
        rw [Bool.or_eq_true] at hf
        rcases hf with hf | hf
        · obtain rfl := Nat.eq_of_beq_eq_true hf
          exact parse36 m s hs H
        · obtain rfl := Nat.eq_of_beq_eq_true hf
          exact parse37 m s hs H
      · cases h
    · cases h
  · exact tabM_ok m f g hg args H R K r h
end Go.Proofs.YtoagnbpmoihojaaDoor
