/- 'sacristanlaw14.TokenOrder' returns true: token.Less is a strict order of all tokens. Conditions: the row's own (the listed tables are as the program's text lays them); the card ties them. -/
import Derived.Test.YtoagnbpmoihojaaDoorRows
import Derived.Test.YtoagnbpmoihojaaDoorCards
import Derived.Test.YtoagnbpmoihojaaDoorWorld
set_option maxRecDepth 100000
set_option linter.unusedSimpArgs false
set_option linter.unusedVariables false
namespace Go.Proofs.YtoagnbpmoihojaaDoor
open Go.Sx Go.ChangeShapes Go.WideShapes Go.ChangeAt Go.RowKit

/-- What the law's callees answer. -/
def tabOrder : Caller where
  fn f args H := match Nat.beq f 33, Nat.beq f 35, args with
    | true, _, [.agg [.int .i64 a, .int .i64 b, .int .i64 c], .agg [.int .i64 d, .int .i64 e, .int .i64 g]] => some (.bool (lessE a b c d e g), H)
    | _, true, [] => some (.bool true, H)
    | _, _, _ => none
  yield _ _ _ := none

theorem tabOrder_ok (m : Array Value) : Table (Tryd.S m) tabOrder := by
  refine ⟨?_, fun id args H r h => by cases h⟩
  intro f args H r h
  unfold tabOrder at h
  simp only at h
  split at h
  · have hf : f = 33 := Nat.eq_of_beq_eq_true ‹Nat.beq f 33 = true›
    subst hf
    obtain rfl := Option.some.inj h
    exact less33 m _ _ _ _ _ _ H
  · have hf : f = 35 := Nat.eq_of_beq_eq_true ‹Nat.beq f 35 = true›
    subst hf
    obtain rfl := Option.some.inj h
    exact awake35 m H
  · cases h

theorem order_form (m : Array Value) (a b c d e f g h i : Int) : runC (Tryd.S m) tabOrder 6 Tryd.f13 [tok a b c, tok d e f, tok g h i] ⟨[], []⟩ =
    br (lessE a b c d e f)
      (fun _ => br (!lessE d e f a b c)
        (fun _ => br (lessE a b c d e f)
          (fun _ => br (true == !(a == d && (b == e && (c == f && true))))
            (fun _ => br (!lessE a b c d e f)
              (fun _ => some (AV.bool true))
              (fun _ => br (!lessE d e f g h i)
                (fun _ => some (AV.bool true))
                (fun _ => br (lessE a b c g h i)
                  (fun _ => some (AV.bool true))
                  (fun _ => some (AV.bool false)))))
            (fun _ => some (AV.bool false)))
          (fun _ => br (lessE d e f a b c == !(a == d && (b == e && (c == f && true))))
            (fun _ => br (!lessE a b c d e f)
              (fun _ => some (AV.bool true))
              (fun _ => br (!lessE d e f g h i)
                (fun _ => some (AV.bool true))
                (fun _ => br (lessE a b c g h i)
                  (fun _ => some (AV.bool true))
                  (fun _ => some (AV.bool false)))))
            (fun _ => some (AV.bool false))))
        (fun _ => some (AV.bool false)))
      (fun _ => br (lessE a b c d e f)
        (fun _ => br (true == !(a == d && (b == e && (c == f && true))))
          (fun _ => br (!lessE a b c d e f)
            (fun _ => some (AV.bool true))
            (fun _ => br (!lessE d e f g h i)
              (fun _ => some (AV.bool true))
              (fun _ => br (lessE a b c g h i)
                (fun _ => some (AV.bool true))
                (fun _ => some (AV.bool false)))))
          (fun _ => some (AV.bool false)))
        (fun _ => br (lessE d e f a b c == !(a == d && (b == e && (c == f && true))))
          (fun _ => br (!lessE a b c d e f)
            (fun _ => some (AV.bool true))
            (fun _ => br (!lessE d e f g h i)
              (fun _ => some (AV.bool true))
              (fun _ => br (lessE a b c g h i)
                (fun _ => some (AV.bool true))
                (fun _ => some (AV.bool false)))))
          (fun _ => some (AV.bool false)))) := by kernel_rfl

theorem less_asym {a b c d e f : Int} (h : lessE a b c d e f = true) : lessE d e f a b c = false := by
  unfold lessE at h ⊢
  repeat' split at h
  all_goals repeat' split
  all_goals simp only [decide_eq_true_eq, decide_eq_false_iff_not] at h ⊢
  all_goals omega

theorem less_both {a b c d e f : Int} : (lessE a b c d e f || lessE d e f a b c) = !(a == d && (b == e && (c == f && true))) := by
  rw [Bool.eq_iff_iff]
  simp only [Bool.or_eq_true, Bool.not_eq_true', Bool.and_eq_false_iff, beq_eq_false_iff_ne, ne_eq, Bool.true_eq_false, or_false]
  unfold lessE
  repeat' split
  all_goals simp only [decide_eq_true_eq]
  all_goals omega

theorem less_trans {a b c d e f g h i : Int} (h1 : lessE a b c d e f = true) (h2 : lessE d e f g h i = true) : lessE a b c g h i = true := by
  unfold lessE at h1 h2 ⊢
  repeat' split at h1
  all_goals repeat' split at h2
  all_goals repeat' split
  all_goals simp only [decide_eq_true_eq] at h1 h2 ⊢
  all_goals omega

theorem order_run (m : Array Value) (a b c d e f g h i : Int) : runC (Tryd.S m) tabOrder 6 Tryd.f13 [tok a b c, tok d e f, tok g h i] ⟨[], []⟩ = some (.bool true) := by
  rw [order_form]
  have q1 := @less_asym a b c d e f
  have q2 := @less_both a b c d e f
  have q3 := @less_trans a b c d e f g h i
  generalize lessE a b c d e f = x at *
  generalize lessE d e f a b c = y at *
  generalize lessE d e f g h i = z at *
  generalize lessE a b c g h i = w at *
  generalize (!(a == d && (b == e && (c == f && true)))) = q at *
  cases x <;> cases y <;> cases z <;> cases w <;> cases q <;> simp_all [br]

theorem order_law (m : Array Value) (a b c d e f g h i : Int) (H : AH) : callL (Tryd.S m) 13 [tok a b c, tok d e f, tok g h i] H = some (.bool true, H) :=
  callL_C (tabOrder_ok m) (n := 6) (fn := Tryd.f13) (by kernel_rfl) (by kernel_rfl) (by kernel_rfl) (ts := [tok a b c, tok d e f, tok g h i]) rfl (order_run m a b c d e f g h i) rfl

theorem tokenOrder_lifted (os : Os) (started : os.Started) (H : Type) (enc : TypeId × Value → H) :
    ReturnsInHanded {} Tryd.checked os 13 .any (fun w args => (Rows.tokenOrderSpec.pre enc Tryd.prog Tryd.f13 [] false w args ∧ laidMetH Tryd.prog tabs w) ∧ sizedMet enc Tryd.prog Tryd.f13 (OpenSpec.ofChange Rows.tokenOrderSpec) false w args) (Rows.tokenOrderSpec.post enc Tryd.prog Tryd.f13 false true false false) := by
  refine tok_wrap started (by kernel_rfl) Tryd.func13
    (ChangeSpec.witness_at (enc := enc) (C := Tryd.checked) (os := os) (X := fun w _ => laidMetH Tryd.prog tabs w) false (laidWorld os) #[.agg #[.int .i64 0, .int .i64 0, .int .i64 0], .agg #[.int .i64 0, .int .i64 0, .int .i64 0], .agg #[.int .i64 0, .int .i64 0, .int .i64 0]] 8 rfl (by kernel_rfl) (by kernel_rfl) (by kernel_rfl) (by kernel_rfl) (by kernel_rfl) (laidWorld_met os _)) ?_
  intro W base args ds gs before hval0 hW hL hS
  have hW' := hW
  obtain ⟨p, q, hA0, hV, rfl, hfz, hnd⟩ := hW
  have hA : DataW.TrodAll enc Tryd.prog W 0 (fun _ => true) true Tryd.f13.params.toList args.toList ds p := hA0
  rw [Tryd.params13] at hA
  obtain ⟨v1, vs1, d1, ds1, p1, q1, e1, rfl, rfl, h1, hA⟩ := trodAll_cons hA
  obtain ⟨v2, vs2, d2, ds2, p2, q2, rfl, rfl, rfl, h2, hA⟩ := trodAll_cons hA
  obtain ⟨v3, vs3, d3, ds3, p3, q3, rfl, rfl, rfl, h3, hA⟩ := trodAll_cons hA
  obtain ⟨rfl, rfl, rfl⟩ := trodAll_nil hA
  obtain ⟨a, b, c, rfl⟩ := open_tok h1
  obtain ⟨d, e, f, rfl⟩ := open_tok h2
  obtain ⟨g, h, i, rfl⟩ := open_tok h3
  obtain ⟨rfl, rfl⟩ := trodVars_none hV
  obtain ⟨m, hmx, hfx⟩ := start_fixed hL hS
  have hx : VRelL (GE.start W) [tok a b c, tok d e f, tok g h i] args := by
    obtain ⟨l⟩ := args
    simp only at e1
    subst e1
    refine ⟨rfl, ?_⟩
    intro j u x hu hx
    rcases j with _ | _ | _ | j
    · simp at hu hx; subst hu; subst hx; exact tok_rel _ _ _ _
    · simp at hu hx; subst hu; subst hx; exact tok_rel _ _ _ _
    · simp at hu hx; subst hu; subst hx; exact tok_rel _ _ _ _
    · simp at hu
  refine (tok_calls hmx (order_law m a b c d e f g h i ⟨[], []⟩) hfx hx).mono fun e W' ⟨he, hb⟩ => ⟨_, he, ?_⟩
  exact law_post (rt := 4) hW' Tryd.laidOut (by rw [Tryd.params13]; intro t ht; simp at ht; subst ht; exact ⟨by kernel_rfl, of_decide_eq_true (by kernel_rfl)⟩) hb rfl rfl (by kernel_rfl) Tryd.underlying4

theorem tokenOrder_holds : Rows.TokenOrderSaid :=
  OpenClaim.holds_of_wide 13 Tryd.f13 rfl rfl rfl rfl rfl rfl rfl ⟨rfl, rfl, rfl, rfl, rfl⟩ rfl rfl rfl rfl rfl (by kernel_rfl) Tryd.func13 (by kernel_rfl)
    (of_decide_eq_true (by kernel_rfl)) (by unfold Func.isWrapper; first | (rw [if_pos (by decide +kernel)]; kernel_rfl) | (rw [if_neg (by decide +kernel)]; exact ⟨rfl, rfl⟩))
    (fun os started H enc _ => tokenOrder_lifted os started H enc)

theorem tokenOrder_card : Rows.TokenOrderCardSaid :=
  Claim7.holds_tied_plain_at .later [] [.data, .data, .data, .data, .pinned] true (true, "a3aa92481c8a76f36e41ffff9687d6e8c3d021d000be04441a88c0623d666ad2") false
    tokenOrder_holds (fun _ h => by cases h) (by kernel_rfl) (fun _ h => by cases h) tokenOrder_row_tie rfl ⟨rfl, rfl⟩ (by kernel_rfl) rfl
    (fun f fn hf hfn => by
      obtain rfl : f = 13 := Option.some.inj ((show Tryd.prog.funcNamed "sacristan/sacristanlaw14.TokenOrder" = some 13 by kernel_rfl).symm.trans hf) |>.symm
      obtain rfl : fn = Tryd.f13 := (Option.some.inj (Tryd.func13.symm.trans hfn)).symm
      exact ⟨by kernel_rfl, fun j t ht => by
        rw [Tryd.params13] at ht
        have h3 : t = 47 := by
          rcases j with _ | _ | _ | j
          · simpa using ht.symm
          · simpa using ht.symm
          · simpa using ht.symm
          · simp at ht
        subst h3
        exact (show Tryd.prog.wantsStandIn 47 = false by kernel_rfl)⟩)
    (by kernel_rfl)
#print axioms tokenOrder_card
end Go.Proofs.YtoagnbpmoihojaaDoor
