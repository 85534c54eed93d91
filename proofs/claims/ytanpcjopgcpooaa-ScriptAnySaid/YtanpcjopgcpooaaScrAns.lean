/- The checks of what is read. -/
import Derived.Test.YtanpcjopgcpooaaScrChka
import Derived.Test.YtanpcjopgcpooaaScrChkb
import Derived.Test.YtanpcjopgcpooaaScrChkc
set_option maxRecDepth 100000
set_option linter.unusedSimpArgs false
set_option linter.unusedVariables false
namespace Go.Proofs.Ytanpcjopgcpooaa
open Go.Sx
open Classical in
noncomputable def okB (f : FuncId) (args : List AV) : Bool := if ∀ H, (callL (TS h3)).res f args H = some (.val (.int .i64 0) H) then true else false
theorem okB_of {f : FuncId} {args : List AV} (h : okB f args = true) : ∀ H, (callL (TS h3)).res f args H = some (.val (.int .i64 0) H) := by
  unfold okB at h
  split at h
  · assumption
  · cases h
theorem okB_t {f : FuncId} {args : List AV} (h : ∀ H, (callL (TS h3)).res f args H = some (.val (.int .i64 0) H)) : okB f args = true := if_pos h
structure TaskOK (l w b m p : Int) : Prop where
  hl : 1 ≤ l ∧ l ≤ 3
  hw : 1 ≤ w ∧ w ≤ 10
  hb : 1 ≤ b ∧ b ≤ 3
  hm : b ≤ m ∧ m ≤ 6
  hp : 0 ≤ p ∧ p ≤ 2
structure SpecOK (d cpu mem disk : Int) : Prop where
  hd : 0 ≤ d ∧ d ≤ 2
  hc : 1 ≤ cpu ∧ cpu ≤ 6
  hm : 1 ≤ mem ∧ mem ≤ 6
  hk : 1 ≤ disk ∧ disk ≤ 6
def PortOK (q : Int) : Prop := 80 ≤ q ∧ q ≤ 81
theorem ok_of {f : FuncId} {fn : Func} {c c' : List AV} (h2 : (TS h3).F f = some fn) (h3' : (TS h3).isPure f = true) (hx : Go.Sx.Sys.ext (TS h3) f = none) (hr : ∀ H, resolveL H [.agg c] = some [.agg c']) (h : runI (TS h3) (cV 12 10) 12 fn [.agg c'] ⟨[], []⟩ ansR = some (.int .i64 0)) (hp : pureOut [.agg c] (.int .i64 0) = some (.int .i64 0)) : okB f [.agg c] = true := by
  refine okB_t fun H => ?_
  exact Caller.fn_res (callL_P (tabVar_ok h3) (fuel := 12) (n := 10) (H := H) hx h2 h3' (hr H) h hp)
theorem f149_F : (TS h3).F 149 = some Try.f149 := rfl
theorem f149_P : (TS h3).isPure 149 = true := rfl
theorem f149_X : Go.Sx.Sys.ext (TS h3) 149 = none := rfl
theorem intOut (c : List AV) : pureOut [.agg c] (.int .i64 0) = some (.int .i64 0) := by
  unfold pureOut
  rw [if_pos]
  · rfl
  · simp [detok, Go.Sx.below, isNew]
theorem ok149_01 {d cpu mem disk : Int} {a0 : Bool} {l0 w0 b0 m0 p0 : Int} (hs : SpecOK d cpu mem disk) (t0 : TaskOK l0 w0 b0 m0 p0) : okB 149 [.agg [.int .i64 d, .int .i64 cpu, .int .i64 mem, .int .i64 disk, .nils, .inl false .unk 6 [.agg [.bool a0, .int .i64 l0, .int .i64 w0, .int .i64 b0, .int .i64 m0, .int .i64 p0]]]] = true := by
  obtain ⟨s1, s2, s3, s4⟩ := hs
  obtain ⟨x0, y0, z0, u0, v0⟩ := t0
  refine ok_of f149_F f149_P f149_X (fun _ => rfl) ?_ (intOut _)
  refine Eq.trans (chk149_01 0 ..) ?_
  repeat (first | rw [br_f (by omega)])
theorem ok149_02 {d cpu mem disk : Int} {a0 : Bool} {l0 w0 b0 m0 p0 : Int} {a1 : Bool} {l1 w1 b1 m1 p1 : Int} (hs : SpecOK d cpu mem disk) (t0 : TaskOK l0 w0 b0 m0 p0) (t1 : TaskOK l1 w1 b1 m1 p1) : okB 149 [.agg [.int .i64 d, .int .i64 cpu, .int .i64 mem, .int .i64 disk, .nils, .inl false .unk 6 [.agg [.bool a0, .int .i64 l0, .int .i64 w0, .int .i64 b0, .int .i64 m0, .int .i64 p0], .agg [.bool a1, .int .i64 l1, .int .i64 w1, .int .i64 b1, .int .i64 m1, .int .i64 p1]]]] = true := by
  obtain ⟨s1, s2, s3, s4⟩ := hs
  obtain ⟨x0, y0, z0, u0, v0⟩ := t0
  obtain ⟨x1, y1, z1, u1, v1⟩ := t1
  refine ok_of f149_F f149_P f149_X (fun _ => rfl) ?_ (intOut _)
  refine Eq.trans (chk149_02 0 ..) ?_
  repeat (first | rw [br_f (by omega)])
theorem ok149_11 {d cpu mem disk q : Int} {a0 : Bool} {l0 w0 b0 m0 p0 : Int} (hs : SpecOK d cpu mem disk) (hq : PortOK q) (t0 : TaskOK l0 w0 b0 m0 p0) : okB 149 [.agg [.int .i64 d, .int .i64 cpu, .int .i64 mem, .int .i64 disk, .inl false .unk 1 [.int .i64 q], .inl false .unk 6 [.agg [.bool a0, .int .i64 l0, .int .i64 w0, .int .i64 b0, .int .i64 m0, .int .i64 p0]]]] = true := by
  obtain ⟨s1, s2, s3, s4⟩ := hs
  obtain ⟨x0, y0, z0, u0, v0⟩ := t0
  unfold PortOK at hq
  refine ok_of f149_F f149_P f149_X (fun _ => rfl) ?_ (intOut _)
  refine Eq.trans (chk149_11 0 ..) ?_
  repeat (first | rw [br_f (by omega)])
theorem ok149_12 {d cpu mem disk q : Int} {a0 : Bool} {l0 w0 b0 m0 p0 : Int} {a1 : Bool} {l1 w1 b1 m1 p1 : Int} (hs : SpecOK d cpu mem disk) (hq : PortOK q) (t0 : TaskOK l0 w0 b0 m0 p0) (t1 : TaskOK l1 w1 b1 m1 p1) : okB 149 [.agg [.int .i64 d, .int .i64 cpu, .int .i64 mem, .int .i64 disk, .inl false .unk 1 [.int .i64 q], .inl false .unk 6 [.agg [.bool a0, .int .i64 l0, .int .i64 w0, .int .i64 b0, .int .i64 m0, .int .i64 p0], .agg [.bool a1, .int .i64 l1, .int .i64 w1, .int .i64 b1, .int .i64 m1, .int .i64 p1]]]] = true := by
  obtain ⟨s1, s2, s3, s4⟩ := hs
  obtain ⟨x0, y0, z0, u0, v0⟩ := t0
  obtain ⟨x1, y1, z1, u1, v1⟩ := t1
  unfold PortOK at hq
  refine ok_of f149_F f149_P f149_X (fun _ => rfl) ?_ (intOut _)
  refine Eq.trans (chk149_12 0 ..) ?_
  repeat (first | rw [br_f (by omega)])
end Go.Proofs.Ytanpcjopgcpooaa
set_option maxRecDepth 100000
set_option linter.unusedSimpArgs false
set_option linter.unusedVariables false
namespace Go.Proofs.Ytanpcjopgcpooaa
open Go.Sx
def Ans (h : HT) (f : FuncId) (args : List AV) (v : AV) : Prop := ∀ H, (callL (TS h)).res f args H = some (.val v H)
open Classical in
noncomputable def ansV (h : HT) (f : FuncId) (args : List AV) : Option AV := if c : ∃ v, Ans h f args v then some c.choose else none
open Classical in
noncomputable def ansB (h : HT) (f : FuncId) (args : List AV) : Option Bool := if c : ∃ b, Ans h f args (.bool b) then some c.choose else none
open Classical in
noncomputable def ansT (h : HT) (f : FuncId) (args : List AV) : Option (List UInt8) := if c : ∃ b, Ans h f args (.tuple [.str b, .int .i64 0]) then some c.choose else none
theorem Ans.uniq {h : HT} {f : FuncId} {args : List AV} {v w : AV} (a : Ans h f args v) (b : Ans h f args w) : v = w := by
  have := (a ⟨[], []⟩).symm.trans (b ⟨[], []⟩)
  simpa using this
theorem ansB_of {h : HT} {f : FuncId} {args : List AV} {b : Bool} (a : Ans h f args (.bool b)) : ansB h f args = some b := by
  have c : ∃ b, Ans h f args (.bool b) := ⟨b, a⟩
  unfold ansB
  rw [dif_pos c]
  have := c.choose_spec.uniq a
  simpa using this
theorem ansT_of {h : HT} {f : FuncId} {args : List AV} {b : List UInt8} (a : Ans h f args (.tuple [.str b, .int .i64 0])) : ansT h f args = some b := by
  have c : ∃ b, Ans h f args (.tuple [.str b, .int .i64 0]) := ⟨b, a⟩
  unfold ansT
  rw [dif_pos c]
  have := c.choose_spec.uniq a
  simpa using this
theorem ansV_inv {h : HT} {f : FuncId} {args : List AV} {v : AV} (e : ansV h f args = some v) : Ans h f args v := by
  unfold ansV at e
  split at e
  · rename_i c; rw [← Option.some.inj e]; exact c.choose_spec
  · cases e
theorem ansB_inv {h : HT} {f : FuncId} {args : List AV} {b : Bool} (e : ansB h f args = some b) : Ans h f args (.bool b) := by
  unfold ansB at e
  split at e
  · rename_i c; rw [← Option.some.inj e]; exact c.choose_spec
  · cases e
theorem ansT_inv {h : HT} {f : FuncId} {args : List AV} {b : List UInt8} (e : ansT h f args = some b) : Ans h f args (.tuple [.str b, .int .i64 0]) := by
  unfold ansT at e
  split at e
  · rename_i c; rw [← Option.some.inj e]; exact c.choose_spec
  · cases e
noncomputable def ansTab (h : HT) (V B X O : List FuncId) (next : TabT) : TabT := fun f => match V.any (Nat.beq f), B.any (Nat.beq f), X.any (Nat.beq f), O.any (Nat.beq f) with
  | true, _, _, _ => some fun args H _ K => (match ansV h f args with | some v => K (.val v H) | none => none)
  | _, true, _, _ => some fun args H _ K => (match ansB h f args with | some b => K (.val (.bool b) H) | none => none)
  | _, _, true, _ => some fun args H _ K => (match ansT h f args with | some b => K (.val (.tuple [.str b, .int .i64 0]) H) | none => none)
  | _, _, _, true => some fun args H _ K => br (okB f args) (fun _ => K (.val (.int .i64 0) H)) (fun _ => none)
  | _, _, _, _ => next f
theorem ansTab_ok {V B X O : List FuncId} {next : TabT} (hn : TabOK (TS h3) next) : TabOK (TS h3) (ansTab h3 V B X O next) := by
  intro f g hg args H R K r hr
  unfold ansTab at hg
  split at hg
  · obtain rfl := Option.some.inj hg
    simp only at hr
    split at hr
    · rename_i v hv
      exact ⟨_, ansV_inv hv H, hr⟩
    · simp at hr
  · obtain rfl := Option.some.inj hg
    simp only at hr
    split at hr
    · rename_i v hv
      exact ⟨_, ansB_inv hv H, hr⟩
    · simp at hr
  · obtain rfl := Option.some.inj hg
    simp only at hr
    split at hr
    · rename_i v hv
      exact ⟨_, ansT_inv hv H, hr⟩
    · simp at hr
  · obtain rfl := Option.some.inj hg
    simp only at hr
    rcases br_some hr with ⟨h1, h2⟩ | ⟨h1, h2⟩
    · exact ⟨_, okB_of h1 H, h2⟩
    · simp at h2
  · exact hn f g hg args H R K r hr
open Classical in
noncomputable def putR (l : List UInt8) (x : AV) : Option (List UInt8) := if PutOK l x then some (l ++ varsV (numsV x.listOf)) else none
theorem putR_of {l : List UInt8} {x : AV} {ns : List Int} (h1 : AV.listN 1 x = true) (h2 : x.listOf = intsV ns) (h3 : NatL ns) (h4 : ns.length ≤ 1000) (h5 : l.length ≤ 10000) : putR l x = some (l ++ varsV ns) := by
  unfold putR
  rw [if_pos ⟨h1, ⟨ns, h2, h3, h4⟩, h5⟩, h2, nums_ints]
noncomputable def putK {R : Type} (K : Res → Option R) (args : List AV) (H : AH) : Option R := match args with
  | [v, .ptr i 0] => (match H.objs[i]? with
    | some (.cells [.str l]) => (match below 0 0 (erase v) with
      | true => (match putR l (erase v) with
        | some m => K (.val (.tuple []) { H with objs := H.objs.set i (.cells [.str m]) })
        | none => none)
      | false => none)
    | _ => none)
  | _ => none
noncomputable def tabPut : TabT := fun f => match Nat.beq f 150 with
  | true => some fun args H _ K => putK K args H
  | false => tabVar f
theorem put_res {args : List AV} {H : AH} {p : AV × AH} (h : wrH putC args H = some p) : (callL (TS h3)).res 150 args H = some (.val p.1 p.2) := by
  refine callL_res ?_
  unfold enterF
  have e1 : Go.Sx.Sys.ext (TS h3) 150 = none := rfl
  have e2 : (TS h3).F 150 = some Try.f150 := rfl
  have e3 : (TS h3).isPure 150 = false := rfl
  have e4 : (TS h3).extH 150 = some (wrH putC) := rfl
  rw [e1]
  simp only [e2]
  rw [if_neg (by rw [e3]; simp), e4]
  simp only [h, optK_some]
theorem tabPut_ok : TabOK (TS h3) tabPut := by
  intro f g hg args H R K r hr
  unfold tabPut at hg
  split at hg
  · rename_i hf
    obtain rfl := Nat.eq_of_beq_eq_true hf
    obtain rfl := Option.some.inj hg
    simp only at hr
    unfold putK at hr
    split at hr
    · rename_i v i
      split at hr
      · rename_i l ho
        split at hr
        · rename_i hb
          split at hr
          · rename_i m hm
            unfold putR at hm
            split at hm
            · rename_i hp
              obtain rfl := Option.some.inj hm
              refine ⟨_, put_res (p := (.tuple [], { H with objs := H.objs.set i (.cells [.str (l ++ varsV (numsV (erase v).listOf))]) })) ?_, hr⟩
              simp only [wrH, ho, hb, putC, putOK_t hp, optK_some]
            · cases hm
          · simp at hr
        · simp at hr
      · simp at hr
    · simp at hr
  · exact tabVar_ok h3 f g hg args H R K r hr
noncomputable def tabCmd : TabT := ansTab h3 [155] [148, 151] [126, 130, 103, 105] [149, 152] tabPut
theorem tabCmd_ok : TabOK (TS h3) tabCmd := ansTab_ok tabPut_ok
noncomputable abbrev cE (fuel n : Nat) : CallI := callI (TS h3) tabCmd fuel n
end Go.Proofs.Ytanpcjopgcpooaa
