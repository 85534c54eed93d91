/- The reference's Split, and the library's, on unknown texts. -/
import Derived.Test.YtoagnbpmoihojaaDoorNum
set_option maxRecDepth 100000
set_option linter.unusedSimpArgs false
set_option linter.unusedVariables false
namespace Go.Proofs.YtoagnbpmoihojaaDoor
open Go.Sx

def strs (l : List (List UInt8)) : List AV := l.map .str
theorem strs_detok : ∀ l, detokL (strs l) = strs l
  | [] => rfl
  | x :: l => by simp only [strs, List.map_cons, detokL, detok]; exact congrArg _ (strs_detok l)
theorem strs_erase : ∀ l, eraseL (strs l) = strs l
  | [] => rfl
  | x :: l => by simp only [strs, List.map_cons, eraseL, erase]; exact congrArg _ (strs_erase l)
theorem strs_below : ∀ l, belowL 0 0 (strs l) = true
  | [] => rfl
  | x :: l => by simp only [strs, List.map_cons, belowL, below, Bool.true_and]; exact strs_below l

theorem out_list (s : List UInt8) (b : Int) (p : Spare) (l : List (List UInt8)) : pureOut [.str s, .int .u8 b] (.inl true p 1 (strs l)) = some (.inl true p.detok 1 (strs l)) := by
  unfold pureOut
  have e : detok (.inl true p 1 (strs l)) = .inl true p.detok 1 (strs l) := by simp only [detok, strs_detok]
  rw [e]
  have h : below 0 0 (.inl true p.detok 1 (strs l)) = true := by
    cases p <;> simp [below, Spare.detok, strs_below]
  rw [h]
  rfl
theorem out_list2 (s t : List UInt8) (p : Spare) (l : List (List UInt8)) : pureOut [.str s, .str t] (.inl true p 1 (strs l)) = some (.inl true p.detok 1 (strs l)) := by
  unfold pureOut
  have e : detok (.inl true p 1 (strs l)) = .inl true p.detok 1 (strs l) := by simp only [detok, strs_detok]
  rw [e]
  have h : below 0 0 (.inl true p.detok 1 (strs l)) = true := by
    cases p <;> simp [below, Spare.detok, strs_below]
  rw [h]
  rfl

def splS (s : List UInt8) (out : AV) (fr i : Int) : List AV := [.str s, .int .u8 47, .top, .top, .nils, out, .int .i64 fr, .int .i64 i, .top, .top, .top, .top, .top, .top, .top, .top, .top, .top, .top, .top, .top, .top, .top, .top, .top, .top, .top, .top, .top, .top, .top, .top, .top, .top, .top]
noncomputable def l53 (m : Array Value) {R : Type} (fuel k : Nat) (s : List UInt8) (out : AV) (toks : List (Nat × Nat)) (fr i : Int) (K : AV → AH → Option R) : Option R := loopI (Tryd.S m) noC fuel Tryd.f53 [1, 1, 1, 0, 1, 0] k (splS s out fr i) ⟨[], toks⟩ K

theorem pre53 (m : Array Value) {R : Type} (fuel : Nat) (s : List UInt8) (K : AV → AH → Option R) : runI (Tryd.S m) noC fuel Tryd.f53 [.str s, .int .u8 47] ⟨[], []⟩ K = l53 m fuel fuel s .nils [] 0 0 K := by kernel_rfl

theorem step53n (m : Array Value) {R : Type} (fuel k : Nat) (s : List UInt8) (fr i : Int) (K : AV → AH → Option R) : l53 m fuel (k + 1) s .nils [] fr i K =
    br (decide (i ≤ (s.length : Int))) (fun _ => br (i == (s.length : Int))
      (fun _ => if 0 ≤ i ∧ i ≤ (s.length : Int) then (if 0 ≤ fr ∧ fr ≤ (i.toNat : Int) then l53 m fuel k s (.inl true (.tok 0 0) 1 [.str ((s.drop fr.toNat).take (i.toNat - fr.toNat))]) [(0, 1)] (IntKind.i64.wrap (i + 1)) (IntKind.i64.wrap (i + 1)) K else none) else none)
      (fun _ => if 0 ≤ i then (match s[i.toNat]? with
        | some u => br ((u.toNat : Int) == 47)
          (fun _ => if 0 ≤ i ∧ i ≤ (s.length : Int) then (if 0 ≤ fr ∧ fr ≤ (i.toNat : Int) then l53 m fuel k s (.inl true (.tok 0 0) 1 [.str ((s.drop fr.toNat).take (i.toNat - fr.toNat))]) [(0, 1)] (IntKind.i64.wrap (i + 1)) (IntKind.i64.wrap (i + 1)) K else none) else none)
          (fun _ => l53 m fuel k s .nils [] fr (IntKind.i64.wrap (i + 1)) K)
        | none => none) else none))
    (fun _ => K .nils ⟨[], []⟩) := by kernel_rfl

theorem step53l (m : Array Value) {R : Type} (fuel k g : Nat) (l : List AV) (s : List UInt8) (fr i : Int) (K : AV → AH → Option R) : l53 m fuel (k + 1) s (.inl true (.tok 0 g) 1 l) [(g, 1)] fr i K =
    br (decide (i ≤ (s.length : Int))) (fun _ => br (i == (s.length : Int))
      (fun _ => if 0 ≤ i ∧ i ≤ (s.length : Int) then (if 0 ≤ fr ∧ fr ≤ (i.toNat : Int) then
        (if fitsRoom (l.length + 1) 16 = true ∧ 1 = 1 then (if ([(g, 1)] : List (Nat × Nat))[0]? = some (g, 1) then l53 m fuel k s (.inl true (.tok 0 (g + 1)) 1 (l ++ [.str ((s.drop fr.toNat).take (i.toNat - fr.toNat))])) [(g + 1, 1)] (IntKind.i64.wrap (i + 1)) (IntKind.i64.wrap (i + 1)) K else none) else none) else none) else none)
      (fun _ => if 0 ≤ i then (match s[i.toNat]? with
        | some u => br ((u.toNat : Int) == 47)
          (fun _ => if 0 ≤ i ∧ i ≤ (s.length : Int) then (if 0 ≤ fr ∧ fr ≤ (i.toNat : Int) then
            (if fitsRoom (l.length + 1) 16 = true ∧ 1 = 1 then (if ([(g, 1)] : List (Nat × Nat))[0]? = some (g, 1) then l53 m fuel k s (.inl true (.tok 0 (g + 1)) 1 (l ++ [.str ((s.drop fr.toNat).take (i.toNat - fr.toNat))])) [(g + 1, 1)] (IntKind.i64.wrap (i + 1)) (IntKind.i64.wrap (i + 1)) K else none) else none) else none) else none)
          (fun _ => l53 m fuel k s (.inl true (.tok 0 g) 1 l) [(g, 1)] fr (IntKind.i64.wrap (i + 1)) K)
        | none => none) else none))
    (fun _ => K (.inl true (.tok 0 g) 1 l) ⟨[], [(g, 1)]⟩) := by kernel_rfl

/-- The pieces where cur has been gone through. -/
def pieces (cur : List UInt8) (rest : List UInt8) : List (List UInt8) := match splitL 47 rest with
  | p :: r => (cur ++ p) :: r
  | [] => [cur]

theorem pieces_nil (cur : List UInt8) : pieces cur [] = [cur] := by simp [pieces, splitL]
theorem pieces_hit (cur : List UInt8) (rest : List UInt8) : pieces cur (47 :: rest) = cur :: pieces [] rest := by
  have h := splitL_ne 47 rest
  unfold pieces
  simp only [splitL, beq_self_eq_true, List.append_nil, List.nil_append]
  cases hs : splitL 47 rest with
  | nil => exact absurd hs h
  | cons p r => rfl
theorem pieces_miss (cur : List UInt8) {u : UInt8} (hu : u ≠ 47) (rest : List UInt8) : pieces cur (u :: rest) = pieces (cur ++ [u]) rest := by
  have h := splitL_ne 47 rest
  unfold pieces
  have hb : (u == 47) = false := by simpa using hu
  simp only [splitL, hb]
  cases hs : splitL 47 rest with
  | nil => exact absurd hs h
  | cons p r => simp
theorem pieces_all (s : List UInt8) : pieces [] s = splitL 47 s := by
  have h := splitL_ne 47 s
  unfold pieces
  cases hs : splitL 47 s with
  | nil => exact absurd hs h
  | cons p r => simp

theorem fits_small {n : Nat} (h : n ≤ 1000002) : fitsRoom n 16 = true := by
  unfold fitsRoom
  rw [Bool.and_eq_true, decide_eq_true_eq, decide_eq_true_eq]
  omega

theorem cut_piece (done cur rest : List UInt8) : ((done ++ (cur ++ rest)).drop done.length).take ((done ++ cur).length - done.length) = cur := by
  simp

theorem loop53l (m : Array Value) {R : Type} (fuel : Nat) (s : List UInt8) (hlen : s.length ≤ 1000000) (K : AV → AH → Option R) (Kf : List AV → Option R) (hK : ∀ g H l, K (.inl true (.tok 0 g) 1 (strs l)) H = Kf (strs l)) :
    ∀ (rest done cur : List UInt8) (L : List (List UInt8)) (g k : Nat), s = done ++ (cur ++ rest) → rest.length + 1 < k → L.length ≤ done.length →
    l53 m fuel k s (.inl true (.tok 0 g) 1 (strs L)) [(g, 1)] done.length (done ++ cur).length K = Kf (strs (L ++ pieces cur rest))
  | [], done, cur, L, g, k, hs, hk, hL => by
    obtain ⟨k, rfl⟩ : ∃ j, k = j + 2 := ⟨k - 2, by simp at hk; omega⟩
    have hl : s.length = (done ++ cur).length := by rw [hs]; simp
    have hdl : done.length ≤ (done ++ cur).length := by simp
    rw [step53l]
    have e1 : decide (((done ++ cur).length : Int) ≤ (s.length : Int)) = true := by rw [hl]; simp
    have e2 : (((done ++ cur).length : Int) == (s.length : Int)) = true := by rw [hl]; simp
    rw [e1, e2]
    simp only [br]
    rw [if_pos ⟨by omega, by omega⟩, if_pos ⟨by omega, by simp; omega⟩, if_pos ⟨fits_small (by simp [strs]; omega), trivial⟩, if_pos (by simp), wrap64 (by omega) (by omega)]
    have e5 : strs L ++ [AV.str ((s.drop ((done.length : Nat) : Int).toNat).take ((((done ++ cur).length : Nat) : Int).toNat - ((done.length : Nat) : Int).toNat))] = strs (L ++ [cur]) := by
      simp only [Int.toNat_natCast, strs, List.map_append, List.map_cons, List.map_nil]
      rw [hs, cut_piece]
    rw [e5, step53l]
    have e3 : decide (((done ++ cur).length : Int) + 1 ≤ (s.length : Int)) = false := by rw [hl]; simp; omega
    rw [e3]
    simp only [br]
    rw [hK, pieces_nil]
  | u :: rest, done, cur, L, g, k, hs, hk, hL => by
    obtain ⟨k, rfl⟩ : ∃ j, k = j + 1 := ⟨k - 1, by simp at hk; omega⟩
    have hl : s.length = (done ++ cur).length + (rest.length + 1) := by rw [hs]; simp; omega
    have hdl : done.length ≤ (done ++ cur).length := by simp
    rw [step53l]
    have e1 : decide (((done ++ cur).length : Int) ≤ (s.length : Int)) = true := by rw [hl]; simp; omega
    have e2 : (((done ++ cur).length : Int) == (s.length : Int)) = false := by rw [hl]; simp; omega
    have e3 : s[(((done ++ cur).length : Nat) : Int).toNat]? = some u := by
      rw [hs, Int.toNat_natCast, ← List.append_assoc, List.getElem?_append_right (Nat.le_refl _)]
      simp
    rw [e1, e2]
    simp only [br, if_pos (show (0 : Int) ≤ ((done ++ cur).length : Int) by omega), e3]
    by_cases hu : u = 47
    · subst hu
      have e4 : ((((47 : UInt8)).toNat : Int) == 47) = true := by decide
      rw [e4]
      simp only
      rw [if_pos ⟨by omega, by omega⟩, if_pos ⟨by omega, by simp; omega⟩, if_pos ⟨fits_small (by simp [strs]; omega), trivial⟩, if_pos (by simp), wrap64 (by omega) (by omega)]
      have e5 : strs L ++ [AV.str ((s.drop ((done.length : Nat) : Int).toNat).take ((((done ++ cur).length : Nat) : Int).toNat - ((done.length : Nat) : Int).toNat))] = strs (L ++ [cur]) := by
        simp only [Int.toNat_natCast, strs, List.map_append, List.map_cons, List.map_nil]
        rw [hs, cut_piece]
      rw [e5]
      have := loop53l m fuel s hlen K Kf hK rest (done ++ cur ++ [47]) [] (L ++ [cur]) (g + 1) k (by rw [hs]; simp) (by simp at hk; omega) (by simp; omega)
      rw [pieces_hit]
      simp only [List.append_nil, List.append_assoc, List.singleton_append] at this
      rw [← this]
      congr 1 <;> simp <;> omega
    · have e4 : ((u.toNat : Int) == 47) = false := by
        cases hx : ((u.toNat : Int) == 47) with
        | false => rfl
        | true =>
          have : u.toNat = 47 := by simp at hx; omega
          exact absurd (UInt8.toNat_inj.1 this) hu
      rw [e4]
      simp only
      rw [wrap64 (by omega) (by omega), pieces_miss cur hu]
      have := loop53l m fuel s hlen K Kf hK rest done (cur ++ [u]) L g k (by rw [hs]; simp) (by simp at hk; omega) hL
      rw [← this]
      congr 1
      simp
      omega

theorem loop53n (m : Array Value) {R : Type} (fuel : Nat) (s : List UInt8) (hlen : s.length ≤ 1000000) (K : AV → AH → Option R) (Kf : List AV → Option R) (hK : ∀ g H l, K (.inl true (.tok 0 g) 1 (strs l)) H = Kf (strs l)) :
    ∀ (rest cur : List UInt8) (k : Nat), s = cur ++ rest → rest.length + 1 < k →
    l53 m fuel k s .nils [] 0 cur.length K = Kf (strs (pieces cur rest))
  | [], cur, k, hs, hk => by
    obtain ⟨k, rfl⟩ : ∃ j, k = j + 2 := ⟨k - 2, by simp at hk; omega⟩
    have hl : s.length = cur.length := by rw [hs]; simp
    rw [step53n]
    have e1 : decide ((cur.length : Int) ≤ (s.length : Int)) = true := by rw [hl]; simp
    have e2 : ((cur.length : Int) == (s.length : Int)) = true := by rw [hl]; simp
    rw [e1, e2]
    simp only [br]
    have e5 : [AV.str ((s.drop (0 : Int).toNat).take (((cur.length : Nat) : Int).toNat - (0 : Int).toNat))] = strs [cur] := by
      rw [hs]; simp [strs]
    rw [if_pos ⟨by omega, by omega⟩, if_pos ⟨by omega, by omega⟩, wrap64 (by omega) (by omega), e5, step53l]
    have e3 : decide ((cur.length : Int) + 1 ≤ (s.length : Int)) = false := by rw [hl]; simp; omega
    rw [e3]
    simp only [br]
    rw [hK, pieces_nil]
  | u :: rest, cur, k, hs, hk => by
    obtain ⟨k, rfl⟩ : ∃ j, k = j + 1 := ⟨k - 1, by simp at hk; omega⟩
    have hl : s.length = cur.length + (rest.length + 1) := by rw [hs]; simp
    rw [step53n]
    have e1 : decide ((cur.length : Int) ≤ (s.length : Int)) = true := by rw [hl]; simp; omega
    have e2 : ((cur.length : Int) == (s.length : Int)) = false := by rw [hl]; simp; omega
    have e3 : s[((cur.length : Nat) : Int).toNat]? = some u := by rw [hs]; simp
    rw [e1, e2]
    simp only [br, if_pos (show (0 : Int) ≤ (cur.length : Int) by omega), e3]
    by_cases hu : u = 47
    · subst hu
      have e4 : ((((47 : UInt8)).toNat : Int) == 47) = true := by decide
      rw [e4]
      simp only
      rw [if_pos ⟨by omega, by omega⟩, if_pos ⟨by omega, by omega⟩, wrap64 (by omega) (by omega)]
      have e5 : [AV.str ((s.drop (0 : Int).toNat).take (((cur.length : Nat) : Int).toNat - (0 : Int).toNat))] = strs [cur] := by
        rw [hs]; simp [strs]
      rw [e5]
      have := loop53l m fuel s hlen K Kf hK rest (cur ++ [47]) [] [cur] 0 k (by rw [hs]; simp) (by simp at hk; omega) (by simp)
      rw [pieces_hit]
      simp only [List.append_nil, List.singleton_append] at this
      rw [← this]
      congr 1 <;> simp
    · have e4 : ((u.toNat : Int) == 47) = false := by
        cases hx : ((u.toNat : Int) == 47) with
        | false => rfl
        | true =>
          have : u.toNat = 47 := by simp at hx; omega
          exact absurd (UInt8.toNat_inj.1 this) hu
      rw [e4]
      simp only
      rw [wrap64 (by omega) (by omega), pieces_miss cur hu]
      have := loop53n m fuel s hlen K Kf hK rest (cur ++ [u]) k (by rw [hs]; simp) (by simp at hk; omega)
      rw [← this]
      congr 1
      simp

theorem split53 (m : Array Value) (s : List UInt8) (hlen : s.length ≤ 1000000) (H : AH) : callL (Tryd.S m) 53 [.str s, .int .u8 47] H = some (.inl true .unk 1 (strs (splitL 47 s)), H) := by
  refine callL_I (tab := fun _ => none) (fun f g h => by cases h) (fuel := s.length + 2) (n := 1) ?_
  have e : callI (Tryd.S m) (fun _ => none) (s.length + 2) 1 53 [.str s, .int .u8 47] H some = runI (Tryd.S m) noC (s.length + 2) Tryd.f53 [.str s, .int .u8 47] ⟨[], []⟩ (fun v _ => optK (pureOut [.str s, .int .u8 47] v) fun v => some (v, H)) :=
    callI_pure (S := Tryd.S m) (tab := fun _ => none) (n := 0) rfl rfl (by kernel_rfl) (by kernel_rfl) rfl
  rw [e, pre53]
  have := loop53n m (s.length + 2) s hlen (fun v _ => optK (pureOut [.str s, .int .u8 47] v) fun v => some (v, H)) (fun l => some (.inl true .unk 1 l, H)) (fun g H' l => by
    simp only [out_list]
    rfl) s [] (s.length + 2) rfl (by omega)
  rw [pieces_all] at this
  exact this

theorem split51 (m : Array Value) (s : List UInt8) (hlen : s.length < 4294967281) (H : AH) : callL (Tryd.S m) 51 [.str s, .str [47]] H = some (.inl true .zero 1 (strs (splitL 47 s)), H) :=
  callL_ext (g := extSplit) (ts := [.str s, .str [47]]) (v := .inl true .zero 1 (strs (splitL 47 s))) rfl rfl (by unfold extSplit; simp only; rw [if_pos hlen]; rfl) (out_list2 s [47] .zero _)
end Go.Proofs.YtoagnbpmoihojaaDoor
