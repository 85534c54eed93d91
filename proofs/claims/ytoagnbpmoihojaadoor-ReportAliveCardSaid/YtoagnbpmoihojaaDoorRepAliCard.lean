/- 'sacristanlaw33.ReportAlive' returns true: a status says alive exactly if a process with its token is live. Conditions: the row's own (the listed tables are as the program's text lays them); the card ties them. -/
import Derived.Test.YtoagnbpmoihojaaDoorRows
import Derived.Test.YtoagnbpmoihojaaDoorCards
import Derived.Test.YtoagnbpmoihojaaDoorRepWorld
import Derived.Test.YtoagnbpmoihojaaDoorRepAli
import Derived.Test.YtoagnbpmoihojaaDoorRepArgsD
set_option maxRecDepth 100000
set_option linter.unusedSimpArgs false
set_option linter.unusedVariables false
namespace Go.Proofs.YtoagnbpmoihojaaDoor
open Go.Sx Go.ChangeShapes Go.WideShapes Go.ChangeAt Go.RowKit

theorem reportAlive_lifted (os : Os) (started : os.Started) (H : Type) (enc : TypeId × Value → H) :
    ReturnsInHanded {} Tryd.checked os 8 .any (fun w args => (Rows.reportAliveSpec.pre enc Tryd.prog Tryd.f8 [] false w args ∧ laidMetH Tryd.prog tabsR w) ∧ sizedMet enc Tryd.prog Tryd.f8 (OpenSpec.ofChange Rows.reportAliveSpec) false w args) (Rows.reportAliveSpec.post enc Tryd.prog Tryd.f8 false true false false) := by
  refine rep_wrap started (by kernel_rfl) Tryd.func8
    (ChangeSpec.witness_at (enc := enc) (C := Tryd.checked) (os := os) (X := fun w _ => laidMetH Tryd.prog tabsR w) false (laidR os) #[.agg #[.int .i64 0, .int .i64 0, .int .i64 0, .int .i64 0, .slice none 0 0], .slice none 0 0] 8 rfl (by kernel_rfl) (by kernel_rfl) (by kernel_rfl) (by kernel_rfl) (by kernel_rfl) (laidR_met os _)) ?_
  intro W base args ds gs before hval0 hW hL hS
  have hW' := hW
  obtain ⟨p, q, hA0, hV, rfl, hfz, hnd⟩ := hW
  have hA : DataW.TrodAll enc Tryd.prog W 0 (fun _ => true) true Tryd.f8.params.toList args.toList ds p := hA0
  rw [Tryd.params8] at hA
  obtain ⟨avs, hok, hlen, hrel⟩ := open_args [dtState, (.sl 9 dtProc)] _ args.toList ds p (by kernel_rfl) (fun j t v ht hv => hval0 j t v (by rw [Tryd.params8]; simpa using ht) (by simpa using hv)) hA
  obtain ⟨v0, vs0, d0, ds0, p0, q0, e1, rfl, rfl, h0, hA⟩ := trodAll_cons hA
  obtain ⟨v1, vs1, d1, ds1, p1, q1, rfl, rfl, rfl, h1, hA⟩ := trodAll_cons hA
  obtain ⟨rfl, rfl, rfl⟩ := trodAll_nil hA
  obtain ⟨rfl, rfl⟩ := trodVars_none hV
  obtain ⟨m, hmx, hfx⟩ := startR_fixed hL hS
  have hx : VRelL (GE.start W) avs args := ⟨by simpa using hlen, fun i v x hv hx => hrel i v x hv (by simpa using hx)⟩
  obtain ⟨H', hlaw⟩ := reportAlive_law m avs hok
  refine (rep_callsD hmx hlaw hfx hx).mono fun e W' ⟨he, hb⟩ => ⟨_, he, ?_⟩
  exact law_post (rt := 4) hW' Rep.laidOut (by rw [Tryd.params8]; intro t ht; simp at ht; rcases ht with rfl | rfl <;> exact ⟨by kernel_rfl, of_decide_eq_true (by kernel_rfl)⟩) hb rfl rfl (by kernel_rfl) Tryd.underlying4

theorem reportAlive_holds : Rows.ReportAliveSaid :=
  OpenClaim.holds_of_wide 8 Tryd.f8 rfl rfl rfl rfl rfl rfl rfl ⟨rfl, rfl, rfl, rfl, rfl⟩ rfl rfl rfl rfl rfl (by kernel_rfl) Tryd.func8 (by kernel_rfl)
    (of_decide_eq_true (by kernel_rfl)) (by unfold Func.isWrapper; first | (rw [if_pos (by decide +kernel)]; kernel_rfl) | (rw [if_neg (by decide +kernel)]; exact ⟨rfl, rfl⟩))
    (fun os started H enc _ => reportAlive_lifted os started H enc)

theorem reportAlive_card : Rows.ReportAliveCardSaid :=
  Claim7.holds_tied_plain_at .later [] [.data, .data, .data] true (true, "a3aa92481c8a76f36e41ffff9687d6e8c3d021d000be04441a88c0623d666ad2") false
    reportAlive_holds (fun _ h => by cases h) (by kernel_rfl) (fun _ h => by cases h) reportAlive_row_tie rfl ⟨rfl, rfl⟩ (by kernel_rfl) rfl
    (fun f fn hf hfn => by
      obtain rfl : f = 8 := Option.some.inj ((show Tryd.prog.funcNamed "sacristan/sacristanlaw33.ReportAlive" = some 8 by kernel_rfl).symm.trans hf) |>.symm
      obtain rfl : fn = Tryd.f8 := (Option.some.inj (Tryd.func8.symm.trans hfn)).symm
      exact ⟨by kernel_rfl, fun j t ht => by
        rw [Tryd.params8] at ht
        rcases j with _ | _ | j
        · have h3 : t = 33 := by simpa using ht.symm
          subst h3
          exact (show Tryd.prog.wantsStandIn 33 = false by kernel_rfl)
        · have h3 : t = 34 := by simpa using ht.symm
          subst h3
          exact (show Tryd.prog.wantsStandIn 34 = false by kernel_rfl)
        · simp at ht⟩)
    (by kernel_rfl)
#print axioms reportAlive_card
end Go.Proofs.YtoagnbpmoihojaaDoor
