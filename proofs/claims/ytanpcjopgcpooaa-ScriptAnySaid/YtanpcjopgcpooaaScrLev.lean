/- The system for the laws on unknown bytes: the examples are told ahead. -/
import Derived.Test.YtanpcjopgcpooaaScrAwake
import Derived.Test.YtanpcjopgcpooaaEi
import Derived.Test.YtanpcjopgcpooaaEl
import Derived.IntWalk
set_option maxRecDepth 100000
set_option linter.unusedSimpArgs false
set_option linter.unusedVariables false
namespace Go.Proofs.Ytanpcjopgcpooaa
open Go.Sx
def extTop (f : FuncId) : Option (List AV → Option AV) := match Nat.beq f 11 with
  | true => some fun ts => match ts with
    | [] => some (.bool true)
    | _ => none
  | false => extScr f
def etaScr (t : TypeId) : Bool := [62, 27].any (Nat.beq t)
noncomputable def T : Go.Sx.Sys := { tabS Try.types_ Try.funcs_ .nil Try.pure_ .nil extTop 1 with meth := methScr, eta := etaScr }
theorem T.tab0 : SysOK (tabS Try.types_ Try.funcs_ .nil Try.pure_ .nil extTop 1) Try.prog := tab_ok Try.types_ok Try.funcs_ok trivial
theorem T.tab : SysOK { tabS Try.types_ Try.funcs_ .nil Try.pure_ .nil extTop 1 with eta := etaScr } Try.prog := ⟨T.tab0.type, T.tab0.func, T.tab0.glob, T.tab0.meth, T.tab0.dfn⟩
theorem T.ok : SysOK T Try.prog := withMeth T.tab (by
  intro t n f h
  unfold methScr at h
  split at h
  · rename_i hn
    subst hn
    split at h
    · obtain rfl := Option.some.inj h; exact meth_197
    · obtain rfl := Option.some.inj h; exact meth_198
    · obtain rfl := Option.some.inj h; exact meth_199
    · cases h
  · cases h)
theorem ext_top {S' : Go.Sx.Sys} (hS : SysOK S' Try.prog) (hext : ExtOK S' Try.prog) (hG : S'.G = T.G) (hx : S'.fixed = T.fixed) {f : FuncId} {ts : List AV} {v : AV} (h : callL S' f ts ⟨[], []⟩ = some (v, ⟨[], []⟩)) :
    ∀ E xs, Rel T ⟨[], []⟩ E → VRelL E ts xs → Calls Try.prog f xs E.w fun e w' => ∃ x E' H', e = .returned x ∧ E'.w = w' ∧ E.le E' ∧ HRel H' E' ∧ VRel E' v x := ext_call hS hext Try.mixed hG hx h
theorem T.ext : ExtOK T Try.prog := by
  refine ⟨?_, fun f g h => by cases h⟩
  intro f g h
  replace h : extTop f = some g := h
  unfold extTop at h
  split at h
  · rename_i hf
    obtain rfl := Nat.eq_of_beq_eq_true hf
    obtain rfl := Option.some.inj h
    refine ⟨⟨_, Try.func11, rfl, of_decide_eq_true (by kernel_rfl)⟩, fun ts v h => ?_⟩
    simp only at h
    split at h
    · obtain rfl := Option.some.inj h
      intro E xs hr hv
      obtain ⟨H', hn⟩ := tells_true awake_run
      obtain ⟨_, h2⟩ := (call_sound (Scr.ok 100000) (Scr.ext 100000) Try.mixed _).fn _ _ _ _ _ hn
      have hr' : Rel (Scr.S 100000) ⟨[], []⟩ E := ⟨hr.h, hr.g, hr.x⟩
      refine (h2 E xs hr' hv).mono ?_
      rintro e W' ⟨x, E', h3, h4, h5, h6, h7⟩
      exact ⟨x, E', H', h3, h4, h5, h6.h, h7⟩
    · simp at h
  · unfold extScr at h
    split at h
    · rename_i hf
      obtain rfl := Nat.eq_of_beq_eq_true hf
      obtain rfl := Option.some.inj h
      refine ⟨⟨_, Try.func59, rfl, of_decide_eq_true (by kernel_rfl)⟩, fun ts v h => ?_⟩
      obtain ⟨n, hn, rfl, rfl⟩ := extVar_inv h
      exact ext_top WS.ok WS.ext rfl rfl (var_call n hn)
    · rename_i hf _
      cases hf
    · simp at h
end Go.Proofs.Ytanpcjopgcpooaa
set_option maxRecDepth 100000
set_option linter.unusedSimpArgs false
set_option linter.unusedVariables false
namespace Go.Proofs.Ytanpcjopgcpooaa
open Go.Sx
def rv (x : AV) : AV := resetV x x
noncomputable abbrev cN : CallI := callI T (fun _ => none) 2 3
abbrev rdH (l : List UInt8) : AH := ⟨[.cells [.str l]], []⟩
theorem take_form {R : Type} (l : List UInt8) (n : Int) (K : Res → Option R) : runI T cN 2 Try.f28 [.ptr 0 0, .int .i64 n] (rdH l) K = br (l == []) (fun _ => K (Res.val (.int .i64 0) ⟨[.cells [.str l]], []⟩)) (fun _ => (match l[0]? with | some u1 => (if (0 : Int) ≤ (1 : Int) ∧ (1 : Int) ≤ (↑l.length : Int) then (if n = (0 : Int) then none else K (Res.val (.int .i64 ((IntKind.i64.wrap (↑u1.toNat : Int)).tmod n)) ⟨[.cells [.str (List.take (l.length - 1) (List.drop 1 l))]], []⟩)) else none) | none => none)) := by kernel_rfl
theorem rtake_form {R : Type} (l : List UInt8) (n : Int) (K : Res → Option R) : runI T cN 2 Try.f30 [.ptr 0 0, .int .i64 n] (rdH l) K = br (l == []) (fun _ => K (Res.val (.int .i64 0) ⟨[.cells [.str l]], []⟩)) (fun _ => (match l[0]? with | some u1 => (if (0 : Int) ≤ (1 : Int) ∧ (1 : Int) ≤ (↑l.length : Int) then (if n = (0 : Int) then none else K (Res.val (.int .i64 ((IntKind.i64.wrap (↑u1.toNat : Int)).tmod n)) ⟨[.cells [.str (List.take (l.length - 1) (List.drop 1 l))]], []⟩)) else none) | none => none)) := by kernel_rfl
end Go.Proofs.Ytanpcjopgcpooaa
set_option maxRecDepth 100000
set_option linter.unusedSimpArgs false
set_option linter.unusedVariables false
namespace Go.Proofs.Ytanpcjopgcpooaa
open Go.Sx
abbrev RC := List UInt8 → List AV → Option (AV × List UInt8)
def readH (c : RC) (args : List AV) (H : AH) : Option (AV × AH) := match args with
  | .ptr i 0 :: ts => (match H.objs[i]? with
    | some (.cells [.str l]) => optK (c l ts) fun p => some (p.1, { H with objs := H.objs.set i (.cells [.str p.2]) })
    | _ => none)
  | _ => none
def RdOK (S : Go.Sx.Sys) (f : FuncId) (l : List UInt8) (ts : List AV) (v : AV) (l' : List UInt8) : Prop := ∃ u H', callL S f (.ptr 0 0 :: ts) (rdH l) = some (u, H') ∧ trunc (rdH l) (detok u, H') = (v, rdH l') ∧ below 0 0 v = true
theorem reads_ok {S S' : Go.Sx.Sys} {P : Program} (hS : SysOK S P) (hS' : SysOK S' P) (hext : ExtOK S' P) (hm : P.follows .mixedOrders = true) (hG : S'.G = S.G) (hx : S'.fixed = S.fixed) {f : FuncId} {c : RC}
    (hc : ∀ l ts v l', c l ts = some (v, l') → belowL 0 0 ts = true ∧ eraseL ts = ts ∧ RdOK S' f l ts v l') :
    ∀ args H v H', readH c args H = some (v, H') → ∀ E xs, Rel S H E → VRelL E args xs → Calls P f xs E.w fun e w' => ∃ x E', e = .returned x ∧ E'.w = w' ∧ E.le E' ∧ HRel H' E' ∧ VRel E' v x := by
  intro args H v H' h E xs hr hv
  unfold readH at h
  split at h
  · rename_i i ts
    split at h
    · rename_i l ho
      obtain ⟨p, h1, h2⟩ := optK_inv2 h
      simp only [Option.some.injEq, Prod.mk.injEq] at h2
      obtain ⟨rfl, rfl⟩ := h2
      obtain ⟨c1, c2, u, G, c4, c5, c3⟩ := hc l ts p.1 p.2 h1
      refine frame_one hS c1 c2 c3 ?_ ho hr hv
      intro E xs hr hx'
      obtain ⟨n, hn⟩ := callL_fuel c4
      obtain ⟨_, h2⟩ := (call_sound hS' hext hm n).fn f _ _ _ _ hn
      have hr' : Rel S' (rdH l) E := ⟨hr.h, by rw [hG]; exact hr.g, by rw [hx]; exact hr.x⟩
      refine (h2 E xs hr' hx').mono ?_
      rintro e W' ⟨x, E', h3, h4, h5, h6, h7⟩
      obtain ⟨E2, k1, k2, k3, k4⟩ := trunc_sound (v := detok u) (H' := G) hr' h5 h6 (detok_rel h7)
      rw [c5] at k3 k4
      exact ⟨x, E2, h3, k1.trans h4, k2, k3.h, k4⟩
    · simp at h
  · simp at h
abbrev HT := FuncId → Option (List AV → AH → Option (AV × AH))
noncomputable def TS (h : HT) : Go.Sx.Sys := { T with extH := h }
theorem TS.ok (h : HT) : SysOK (TS h) Try.prog := ⟨T.ok.type, T.ok.func, T.ok.glob, T.ok.meth, T.ok.dfn⟩
theorem TS.ext {h : HT} (ho : ∀ f g, h f = some g → ∀ args H v H', g args H = some (v, H') → ∀ E xs, Rel (TS h) H E → VRelL E args xs → Calls Try.prog f xs E.w fun e w' => ∃ x E', e = .returned x ∧ E'.w = w' ∧ E.le E' ∧ HRel H' E' ∧ VRel E' v x) : ExtOK (TS h) Try.prog := by
  refine ⟨fun f g hg => ?_, ho⟩
  obtain ⟨e1, e2⟩ := T.ext.val f g hg
  refine ⟨e1, fun ts v hv E xs hr hx => e2 ts v hv E xs ⟨hr.h, hr.g, hr.x⟩ hx⟩
theorem TS.reads {h h' : HT} (hext : ExtOK (TS h') Try.prog) {f : FuncId} {c : RC}
    (hc : ∀ l ts v l', c l ts = some (v, l') → belowL 0 0 ts = true ∧ eraseL ts = ts ∧ RdOK (TS h') f l ts v l') :
    ∀ args H v H', readH c args H = some (v, H') → ∀ E xs, Rel (TS h) H E → VRelL E args xs → Calls Try.prog f xs E.w fun e w' => ∃ x E', e = .returned x ∧ E'.w = w' ∧ E.le E' ∧ HRel H' E' ∧ VRel E' v x :=
  reads_ok (TS.ok h) (TS.ok h') hext Try.mixed rfl rfl hc
theorem callL_R {S : Go.Sx.Sys} {tab : TabT} (ht : TabOK S tab) {fuel n : Nat} {f : FuncId} {fn : Func} {args : List AV} {H : AH} {p : Res} (h1 : S.ext f = none) (h2 : S.F f = some fn) (h3 : S.isPure f = false) (h4 : S.extH f = none)
    (h5 : runI S (callI S tab fuel n) fuel fn args H some = some p) : (callL S).res f args H = some (truncR H p) := by
  obtain ⟨q, h7, h8⟩ := runI_sound (callI_sound ht n) h5
  obtain rfl := Option.some.inj h8
  refine callL_res ?_
  unfold enterF
  rw [h1]
  simp only [h2]
  rw [if_neg (by rw [h3]; simp), h4]
  simp only [h7, optK_some]
theorem callL_rd {S : Go.Sx.Sys} {tab : TabT} (ht : TabOK S tab) {fuel n : Nat} {f : FuncId} {fn : Func} {ts : List AV} {l l' : List UInt8} {u v : AV} {os : List AObj} {tk : List (Nat × Nat × TypeId)} (h1 : S.ext f = none) (h2 : S.F f = some fn) (h3 : S.isPure f = false) (h4 : S.extH f = none)
    (h5 : runI S (callI S tab fuel n) fuel fn (.ptr 0 0 :: ts) (rdH l) some = some (.val u ⟨.cells [.str l'] :: os, tk⟩)) (hv : detok u = v) (h6 : below 1 0 v = true) (h7 : below 0 0 v = true) : RdOK S f l ts v l' := by
  subst hv
  have h := callL_R ht h1 h2 h3 h4 h5
  have e : ∀ w, below 1 0 w = true → trunc (rdH l) (w, ⟨.cells [.str l'] :: os, tk⟩) = (w, rdH l') := by
    intro w hw
    unfold trunc
    split
    · rename_i hc
      simp [rdH] at hc
      have e1 : os = [] := hc.1
      have e2 : tk = [] := hc.2
      rw [e1, e2]
    · rw [if_pos]
      · simp [rdH]
      · simp only [rdH, List.length_cons, List.length_nil, Nat.zero_add, hw, Bool.true_and, List.take_succ_cons, List.take_zero]
        rfl
  have e0 : ∀ w, trunc (rdH l) (w, rdH l') = (w, rdH l') := by
    intro w
    unfold trunc
    rw [if_pos (by simp)]
  refine ⟨(trunc (rdH l) (u, ⟨.cells [.str l'] :: os, tk⟩)).1, (trunc (rdH l) (u, ⟨.cells [.str l'] :: os, tk⟩)).2, Caller.fn_of h, ?_, h7⟩
  by_cases hu : below 1 0 u = true
  · rw [e u hu]
    exact e0 _
  · have e1 : trunc (rdH l) (u, ⟨.cells [.str l'] :: os, tk⟩) = (u, ⟨.cells [.str l'] :: os, tk⟩) := by
      unfold trunc
      split
      · rfl
      · rw [if_neg]
        simp only [rdH, List.length_cons, List.length_nil, Nat.zero_add, Bool.and_eq_true]
        exact fun h => hu h.1
    rw [e1]
    exact e _ h6
noncomputable def h0 : HT := fun _ => none
theorem h0.ext : ExtOK (TS h0) Try.prog := TS.ext (fun f g h => by cases h)
theorem T_h0 : TS h0 = T := rfl
theorem or_beq {f a b : Nat} (h : (Nat.beq f a || Nat.beq f b) = true) : f = a ∨ f = b := by
  rw [Bool.or_eq_true] at h
  exact h.imp (fun e => Nat.eq_of_beq_eq_true e) (fun e => Nat.eq_of_beq_eq_true e)
abbrev WC := List UInt8 → AV → Option (AV × List UInt8)
noncomputable def wrH (c : WC) (args : List AV) (H : AH) : Option (AV × AH) := match args with
  | [v, .ptr i 0] => (match H.objs[i]? with
    | some (.cells [.str l]) => (match below 0 0 (erase v) with
      | true => optK (c l (erase v)) fun p => some (p.1, { H with objs := H.objs.set i (.cells [.str p.2]) })
      | false => none)
    | _ => none)
  | _ => none
def WrOK (S : Go.Sx.Sys) (f : FuncId) (l : List UInt8) (t : AV) (v : AV) (l' : List UInt8) : Prop := ∃ u H', callL S f [t, .ptr 0 0] (rdH l) = some (u, H') ∧ trunc (rdH l) (detok u, H') = (v, rdH l') ∧ below 0 0 v = true
theorem writes_ok {S S' : Go.Sx.Sys} {P : Program} (hS : SysOK S P) (hS' : SysOK S' P) (hext : ExtOK S' P) (hm : P.follows .mixedOrders = true) (hG : S'.G = S.G) (hx : S'.fixed = S.fixed) {f : FuncId} {c : WC}
    (hc : ∀ l t v l', c l t = some (v, l') → WrOK S' f l t v l') :
    ∀ args H v H', wrH c args H = some (v, H') → ∀ E xs, Rel S H E → VRelL E args xs → Calls P f xs E.w fun e w' => ∃ x E', e = .returned x ∧ E'.w = w' ∧ E.le E' ∧ HRel H' E' ∧ VRel E' v x := by
  intro args H v H' h E xs hr hv
  unfold wrH at h
  split at h
  · rename_i t i
    split at h
    · rename_i l ho
      split at h
      · rename_i hb
        obtain ⟨p, h1, h2⟩ := optK_inv2 h
        simp only [Option.some.injEq, Prod.mk.injEq] at h2
        obtain ⟨rfl, rfl⟩ := h2
        obtain ⟨u, G, c4, c5, c3⟩ := hc l (erase t) p.1 p.2 h1
        refine frame_oneL hS (.val hb (.ptr .nil)) c3 ?_ ho hr hv
        intro E xs hr hx'
        obtain ⟨n, hn⟩ := callL_fuel c4
        obtain ⟨_, h2⟩ := (call_sound hS' hext hm n).fn f _ _ _ _ hn
        have hr' : Rel S' (rdH l) E := ⟨hr.h, by rw [hG]; exact hr.g, by rw [hx]; exact hr.x⟩
        refine (h2 E xs hr' hx').mono ?_
        rintro e W' ⟨x, E', h3, h4, h5, h6, h7⟩
        obtain ⟨E2, k1, k2, k3, k4⟩ := trunc_sound (v := detok u) (H' := G) hr' h5 h6 (detok_rel h7)
        rw [c5] at k3 k4
        exact ⟨x, E2, h3, k1.trans h4, k2, k3.h, k4⟩
      · simp at h
    · simp at h
  · simp at h
theorem TS.writes {h h' : HT} (hext : ExtOK (TS h') Try.prog) {f : FuncId} {c : WC} (hc : ∀ l t v l', c l t = some (v, l') → WrOK (TS h') f l t v l') :
    ∀ args H v H', wrH c args H = some (v, H') → ∀ E xs, Rel (TS h) H E → VRelL E args xs → Calls Try.prog f xs E.w fun e w' => ∃ x E', e = .returned x ∧ E'.w = w' ∧ E.le E' ∧ HRel H' E' ∧ VRel E' v x :=
  writes_ok (TS.ok h) (TS.ok h') hext Try.mixed rfl rfl hc
theorem callL_wr {S : Go.Sx.Sys} {tab : TabT} (ht : TabOK S tab) {fuel n : Nat} {f : FuncId} {fn : Func} {t : AV} {l l' : List UInt8} {u v : AV} {tk : List (Nat × Nat × TypeId)} (h1 : S.ext f = none) (h2 : S.F f = some fn) (h3 : S.isPure f = false) (h4 : S.extH f = none)
    (h5 : runI S (callI S tab fuel n) fuel fn [t, .ptr 0 0] (rdH l) some = some (.val u ⟨[.cells [.str l']], tk⟩)) (hv : detok u = v) (h6 : below 1 0 v = true) (h7 : below 0 0 v = true) : WrOK S f l t v l' := by
  subst hv
  have h := callL_R ht h1 h2 h3 h4 h5
  have e : ∀ w, below 1 0 w = true → trunc (rdH l) (w, ⟨[.cells [.str l']], tk⟩) = (w, rdH l') := by
    intro w hw
    unfold trunc
    split
    · rename_i hc
      simp [rdH] at hc
      rw [hc]
    · rw [if_pos]
      · simp [rdH]
      · simp only [rdH, List.length_cons, List.length_nil, Nat.zero_add, hw, Bool.true_and, List.take_succ_cons, List.take_zero]
        rfl
  have e0 : ∀ w, trunc (rdH l) (w, rdH l') = (w, rdH l') := by
    intro w
    unfold trunc
    rw [if_pos (by simp)]
  refine ⟨(trunc (rdH l) (u, ⟨[.cells [.str l']], tk⟩)).1, (trunc (rdH l) (u, ⟨[.cells [.str l']], tk⟩)).2, Caller.fn_of h, ?_, h7⟩
  by_cases hu : below 1 0 u = true
  · rw [e u hu]
    exact e0 _
  · have e1 : trunc (rdH l) (u, ⟨[.cells [.str l']], tk⟩) = (u, ⟨[.cells [.str l']], tk⟩) := by
      unfold trunc
      split
      · rfl
      · rw [if_neg]
        simp only [rdH, List.length_cons, List.length_nil, Nat.zero_add, Bool.and_eq_true]
        exact fun h => hu h.1
    rw [e1]
    exact e _ h6
open Classical in
noncomputable def u64B (n : Int) : Bool := if 0 ≤ n ∧ n < 18446744073709551616 then true else false
theorem u64B_of {n : Int} (h : u64B n = true) : 0 ≤ n ∧ n < 18446744073709551616 := by
  unfold u64B at h
  split at h
  · assumption
  · cases h
theorem u64B_t {n : Int} (h : 0 ≤ n ∧ n < 18446744073709551616) : u64B n = true := if_pos h
noncomputable def tabVar : TabT := fun f => match Nat.beq f 59 || Nat.beq f 59 with
  | true => some fun args H _ K => match args with
    | [.int .u64 n] => br (u64B n) (fun _ => K (.val (.str (varV n.toNat)) H)) (fun _ => none)
    | _ => none
  | false => none
theorem TS.ext59 (h : HT) : Go.Sx.Sys.ext (TS h) 59 = some extVar := rfl
theorem vars_res (h : HT) (n : Nat) (hn : n < 18446744073709551616) (H : AH) (f : FuncId) (hf : f = 59 ∨ f = 59) : (callL (TS h)).res f [.int .u64 n] H = some (.val (.str (varV n)) H) := by
  have e : resolveL H [.int .u64 (n : Int)] = some [.int .u64 (n : Int)] := rfl
  refine callL_res ?_
  unfold enterF
  rcases hf with rfl | rfl
  · rw [TS.ext59]
    simp only [e, optK_some, extVar_of n hn]
    rfl
  · rw [TS.ext59]
    simp only [e, optK_some, extVar_of n hn]
    rfl
theorem tabVar_ok (h : HT) : TabOK (TS h) tabVar := by
  intro f g hg args H R K r hr
  unfold tabVar at hg
  split at hg
  · rename_i hf
    obtain rfl := Option.some.inj hg
    simp only at hr
    split at hr
    · rename_i n
      rcases br_some hr with ⟨h1, h2⟩ | ⟨h1, h2⟩
      · have h1 := u64B_of h1
        refine ⟨_, ?_, h2⟩
        have e : (n : Int) = (n.toNat : Int) := by omega
        rw [e]
        simp only [Int.toNat_natCast]
        exact vars_res h _ (by omega) H f (or_beq hf)
      · simp at h2
    · simp at hr
  · simp at hg
end Go.Proofs.Ytanpcjopgcpooaa
set_option maxRecDepth 100000
set_option linter.unusedSimpArgs false
set_option linter.unusedVariables false
namespace Go.Proofs.Ytanpcjopgcpooaa
open Go.Sx
noncomputable abbrev cP (fuel n : Nat) : CallI := callI (TS h0) tabVar fuel n
noncomputable def putB : Code := subC (bodyOf Try.f150) [1, 0, 0]
theorem put_pre {R : Type} (fuel k : Nat) (l : List UInt8) (x : AV) (K : Res → Option R) : runI (TS h0) (cP fuel 2) k Try.f150 [x, .ptr 0 0] (rdH l) K = br (AV.listN 1 x) (fun _ => loopC (TS h0) (cP fuel 2) k putB k [x, .ptr 0 0, .top, .top, .top, x, .int .i64 (↑x.listOf.length : Int), .int .i64 0, .top, .top, .top, .top, .top, .top, .top, .top, .top] ⟨[.cells [.str l]], []⟩ (kontI (TS h0) (cP fuel 2) k (bodyOf Try.f150) [1, 0] (endI (TS h0) Try.f150 K))) (fun _ => none) := by kernel_rfl
theorem put_step {R : Type} (fuel k : Nat) (l : List UInt8) (x : AV) (n i : Int) (x2 x3 x4 x8 x9 x10 x11 x12 x13 x14 x15 x16 : AV) (K : Ex → List AV → AH → Option R) : loopC (TS h0) (cP fuel 2) fuel putB (k + 1) [x, .ptr 0 0, x2, x3, x4, x, .int .i64 n, .int .i64 i, x8, x9, x10, x11, x12, x13, x14, x15, x16] (rdH l) K = br (decide (i < n)) (fun _ => br (AV.listN 1 x && (decide ((0 : Int) ≤ i) && decide (i < (↑x.listOf.length : Int)))) (fun _ => (match x.listOf[i.toNat]? with | some u2 => br (fitS (.int .i64) u2) (fun _ => br (u64B (IntKind.u64.wrap u2.numOf)) (fun _ => (if l.length + (varV (IntKind.u64.wrap u2.numOf).toNat).length ≤ 9223372036854775807 then loopC (TS h0) (cP fuel 2) fuel putB k [resetV x x, .ptr 0 0, rv x2, rv x3, resetV x4 (.int .i64 u2.numOf), resetV x x, .int .i64 n, .int .i64 (IntKind.i64.wrap (i + (1 : Int))), resetV x8 (.bool (decide (i < n))), resetV x9 (AV.int .i64 u2.numOf).rop, resetV x10 (.int .i64 u2.numOf), resetV x11 (.str l), resetV x12 (.int .i64 u2.numOf), resetV x13 (.int .u64 (IntKind.u64.wrap u2.numOf)), resetV x14 (.str (varV (IntKind.u64.wrap u2.numOf).toNat)), resetV x15 (.str (l ++ varV (IntKind.u64.wrap u2.numOf).toNat)), resetV x16 (.int .i64 (IntKind.i64.wrap (i + (1 : Int))))] ⟨[.cells [.str (l ++ varV (IntKind.u64.wrap u2.numOf).toNat)]], []⟩ K else none)) (fun _ => none)) (fun _ => none) | none => none)) (fun _ => none)) (fun _ => K (.exit 0) [resetV x x, .ptr 0 0, rv x2, rv x3, rv x4, resetV x x, .int .i64 n, .int .i64 i, resetV x8 (.bool (decide (i < n))), rv x9, rv x10, rv x11, rv x12, rv x13, rv x14, rv x15, rv x16] ⟨[.cells [.str l]], []⟩) := by kernel_rfl
theorem put_end {R : Type} (fuel k : Nat) (l : List UInt8) (x : AV) (n i : Int) (x2 x3 x4 x8 x9 x10 x11 x12 x13 x14 x15 x16 : AV) (K : Res → Option R) : kontI (TS h0) (cP fuel 2) k (bodyOf Try.f150) [1, 0] (endI (TS h0) Try.f150 K) (.exit 0) [x, .ptr 0 0, x2, x3, x4, x, .int .i64 n, .int .i64 i, x8, x9, x10, x11, x12, x13, x14, x15, x16] (rdH l) = K (Res.val (.tuple []) ⟨[.cells [.str l]], []⟩) := by kernel_rfl
end Go.Proofs.Ytanpcjopgcpooaa
set_option maxRecDepth 100000
set_option linter.unusedSimpArgs false
set_option linter.unusedVariables false
namespace Go.Proofs.Ytanpcjopgcpooaa
open Go.Sx
theorem resetV_self (x : AV) : resetV x x = x := by cases x <;> rfl
theorem rv_self (x : AV) : rv x = x := resetV_self x
def varsV (ns : List Int) : List UInt8 := ns.flatMap fun n => varV n.toNat
def intsV (ns : List Int) : List AV := ns.map fun n => .int .i64 n
theorem widthN_le : ∀ f n, widthN f n ≤ f + 1
  | 0, n => Nat.le_refl _
  | f + 1, n => by
    rw [width_of]
    simp only
    split
    · omega
    · have := widthN_le f (n / 256); omega
theorem bytesN_len : ∀ w n acc, (bytesN w n acc).length = w + acc.length
  | 0, _, _ => by simp [bytesN]
  | w + 1, n, acc => by rw [bytesN, bytesN_len]; simp; omega
theorem varV_len (n : Nat) : 1 ≤ (varV n).length ∧ (varV n).length ≤ 10 := by
  unfold varV
  split
  · simp
  · have := widthN_le 8 n
    simp [bytesN_len]; omega
def NatL (ns : List Int) : Prop := ∀ n, n ∈ ns → 0 ≤ n ∧ n < 9223372036854775808
theorem wrap_u64 {n : Int} (h : 0 ≤ n ∧ n < 9223372036854775808) : IntKind.u64.wrap n = n := IntWalk.u64_in _ (by omega)
theorem put_loop {R : Type} (fuel : Nat) (x : AV) (ns : List Int) (hx : AV.listN 1 x = true) (hl : x.listOf = intsV ns) (hns : NatL ns) (hlen : ns.length ≤ 1000) (K : Ex → List AV → AH → Option R) (Q : R → Prop) :
    ∀ (m k p : Nat) (l : List UInt8), m < k → p + m = ns.length → l.length + 10 * m ≤ 1000000 →
    (∀ (x2 x3 x4 x8 x9 x10 x11 x12 x13 x14 x15 x16 : AV), ∃ r, K (.exit 0) [x, .ptr 0 0, x2, x3, x4, x, .int .i64 (ns.length : Nat), .int .i64 (ns.length : Nat), x8, x9, x10, x11, x12, x13, x14, x15, x16] (rdH (l ++ varsV (ns.drop p))) = some r ∧ Q r) →
    ∀ (x2 x3 x4 x8 x9 x10 x11 x12 x13 x14 x15 x16 : AV),
    ∃ r, loopC (TS h0) (cP fuel 2) fuel putB k [x, .ptr 0 0, x2, x3, x4, x, .int .i64 (ns.length : Nat), .int .i64 (p : Nat), x8, x9, x10, x11, x12, x13, x14, x15, x16] (rdH l) K = some r ∧ Q r := by
  intro m
  induction m with
  | zero =>
    intro k p l hk hp hb hK x2 x3 x4 x8 x9 x10 x11 x12 x13 x14 x15 x16
    obtain ⟨k, rfl⟩ : ∃ j, k = j + 1 := ⟨k - 1, by omega⟩
    have e : p = ns.length := by omega
    subst e
    rw [put_step, br_f (by omega)]
    simp only [resetV_self, rv_self]
    rw [List.drop_length] at hK
    simpa [varsV] using hK _ _ _ _ _ _ _ _ _ _ _ _
  | succ m ih =>
    intro k p l hk hp hb hK x2 x3 x4 x8 x9 x10 x11 x12 x13 x14 x15 x16
    obtain ⟨k, rfl⟩ : ∃ j, k = j + 1 := ⟨k - 1, by omega⟩
    have hlt : p < ns.length := by omega
    have hget : (intsV ns)[p]? = some (.int .i64 ns[p]) := by simp [intsV, hlt]
    have hn := hns ns[p] (List.getElem_mem hlt)
    have hv := varV_len (ns[p]).toNat
    have hil : (intsV ns).length = ns.length := by simp [intsV]
    rw [put_step, br_t (by omega), hx, hl, hil, Bool.true_and, decide_eq_true (by omega : (0 : Int) ≤ (p : Nat)), decide_eq_true (by omega : ((p : Nat) : Int) < (ns.length : Nat))]
    simp only [Bool.and_true, br, Int.toNat_natCast, hget, fitS, AV.numOf, decide_true, wrap_u64 hn, u64B_t (show 0 ≤ ns[p] ∧ ns[p] < 18446744073709551616 by omega), resetV_self, rv_self]
    rw [if_pos (by omega), IntWalk.i64_in _ (by omega)]
    have := ih k (p + 1) (l ++ varV (ns[p]).toNat) (by omega) (by omega) (by simp; omega) (by
      intro x2 x3 x4 x8 x9 x10 x11 x12 x13 x14 x15 x16
      have e : varsV (ns.drop p) = varV (ns[p]).toNat ++ varsV (ns.drop (p + 1)) := by
        rw [List.drop_eq_getElem_cons hlt]
        simp only [varsV, List.flatMap_cons]
      rw [List.append_assoc, ← e]
      exact hK x2 x3 x4 x8 x9 x10 x11 x12 x13 x14 x15 x16)
    simpa using this _ _ _ _ _ _ _ _ _ _ _ _
theorem put_go (l : List UInt8) (x : AV) (ns : List Int) (hx : AV.listN 1 x = true) (hl : x.listOf = intsV ns) (hns : NatL ns) (hlen : ns.length ≤ 1000) (hb : l.length ≤ 10000) :
    runI (TS h0) (cP (ns.length + 1) 2) (ns.length + 1) Try.f150 [x, .ptr 0 0] (rdH l) some = some (.val (.tuple []) (rdH (l ++ varsV ns))) := by
  rw [put_pre, hx]
  have hil : (intsV ns).length = ns.length := by simp [intsV]
  simp only [br, hl, hil]
  obtain ⟨r, h1, h2⟩ := put_loop (ns.length + 1) x ns hx hl hns hlen (kontI (TS h0) (cP (ns.length + 1) 2) (ns.length + 1) (bodyOf Try.f150) [1, 0] (endI (TS h0) Try.f150 some)) (fun r => r = .val (.tuple []) (rdH (l ++ varsV ns))) ns.length (ns.length + 1) 0 l (by omega) (by omega) (by omega) (by
    intro x2 x3 x4 x8 x9 x10 x11 x12 x13 x14 x15 x16
    rw [put_end]
    exact ⟨_, rfl, by simp [rdH]⟩) .top .top .top .top .top .top .top .top .top .top .top .top
  rw [← h2]
  exact h1
theorem put_call (l : List UInt8) (x : AV) (ns : List Int) (hx : AV.listN 1 x = true) (hl : x.listOf = intsV ns) (hns : NatL ns) (hlen : ns.length ≤ 1000) (hb : l.length ≤ 10000) :
    WrOK (TS h0) 150 l x (.tuple []) (l ++ varsV ns) :=
  callL_wr (tabVar_ok h0) rfl rfl rfl rfl (put_go l x ns hx hl hns hlen hb) rfl rfl rfl
def PutOK (l : List UInt8) (x : AV) : Prop := AV.listN 1 x = true ∧ (∃ ns, x.listOf = intsV ns ∧ NatL ns ∧ ns.length ≤ 1000) ∧ l.length ≤ 10000
open Classical in
noncomputable def putOK (l : List UInt8) (x : AV) : Bool := if PutOK l x then true else false
theorem putOK_of {l : List UInt8} {x : AV} (h : putOK l x = true) : PutOK l x := by
  unfold putOK at h
  split at h
  · assumption
  · cases h
theorem putOK_t {l : List UInt8} {x : AV} (h : PutOK l x) : putOK l x = true := if_pos h
def numsV (xs : List AV) : List Int := xs.map AV.numOf
theorem nums_ints (ns : List Int) : numsV (intsV ns) = ns := by
  unfold numsV intsV
  rw [List.map_map]
  exact List.map_id _
noncomputable def putC : WC := fun l x => match putOK l x with
  | true => some (.tuple [], l ++ varsV (numsV x.listOf))
  | false => none
theorem put_writes {h : HT} : ∀ args H v H', wrH putC args H = some (v, H') → ∀ E xs, Rel (TS h) H E → VRelL E args xs → Calls Try.prog 150 xs E.w fun e w' => ∃ x E', e = .returned x ∧ E'.w = w' ∧ E.le E' ∧ HRel H' E' ∧ VRel E' v x :=
  TS.writes h0.ext (by
    intro l t v l' h
    unfold putC at h
    split at h
    · rename_i hp
      obtain ⟨h1, ⟨ns, h2, h3, h4⟩, h5⟩ := putOK_of hp
      simp only [Option.some.injEq, Prod.mk.injEq] at h
      obtain ⟨rfl, rfl⟩ := h
      rw [h2, nums_ints]
      exact put_call l t ns h1 h2 h3 h4 h5
    · simp at h)
end Go.Proofs.Ytanpcjopgcpooaa
set_option maxRecDepth 100000
set_option linter.unusedSimpArgs false
set_option linter.unusedVariables false
namespace Go.Proofs.Ytanpcjopgcpooaa
open Go.Sx
def takeV (l : List UInt8) (n : Int) : Int := match l with
  | [] => 0
  | c :: _ => (c.toNat : Int) % n
theorem take_go (l : List UInt8) (n : Int) (hn : 0 < n) :
    runI T cN 2 Try.f28 [.ptr 0 0, .int .i64 n] (rdH l) some = some (.val (.int .i64 (takeV l n)) (rdH l.tail)) := by
  rw [take_form]
  cases l with
  | nil => rfl
  | cons c r =>
    have hc := c.toNat_lt
    have h1 : ((c :: r) == ([] : List UInt8)) = false := rfl
    simp only [h1, br, List.getElem?_cons_zero]
    rw [if_pos ⟨by omega, by simp; omega⟩, if_neg (by omega)]
    have e : (IntKind.i64.wrap (c.toNat : Int)).tmod n = (c.toNat : Int) % n := by
      rw [IntWalk.i64_in _ (by omega), Int.tmod_eq_emod_of_nonneg (by omega)]
    simp [takeV, e, rdH]
theorem rtake_go (l : List UInt8) (n : Int) (hn : 0 < n) :
    runI T cN 2 Try.f30 [.ptr 0 0, .int .i64 n] (rdH l) some = some (.val (.int .i64 (takeV l n)) (rdH l.tail)) := by
  rw [rtake_form]
  cases l with
  | nil => rfl
  | cons c r =>
    have hc := c.toNat_lt
    have h1 : ((c :: r) == ([] : List UInt8)) = false := rfl
    simp only [h1, br, List.getElem?_cons_zero]
    rw [if_pos ⟨by omega, by simp; omega⟩, if_neg (by omega)]
    have e : (IntKind.i64.wrap (c.toNat : Int)).tmod n = (c.toNat : Int) % n := by
      rw [IntWalk.i64_in _ (by omega), Int.tmod_eq_emod_of_nonneg (by omega)]
    simp [takeV, e, rdH]
theorem takeV_in (l : List UInt8) (n : Int) (hn : 0 < n) : 0 ≤ takeV l n ∧ takeV l n < n := by
  unfold takeV
  split
  · omega
  · exact ⟨Int.emod_nonneg _ (by omega), Int.emod_lt_of_pos _ hn⟩
def takeC : RC := fun l ts => match ts with
  | [.int .i64 n] => (match decide (0 < n) with
    | true => some (.int .i64 (takeV l n), l.tail)
    | false => none)
  | _ => none
noncomputable def h1 : HT := fun f => match Nat.beq f 28 || Nat.beq f 30 with
  | true => some (readH takeC)
  | false => (match Nat.beq f 150 with
    | true => some (wrH putC)
    | false => none)
theorem take_call (f : FuncId) (hf : f = 28 ∨ f = 30) (l : List UInt8) (n : Int) (hn : 0 < n) : RdOK (TS h0) f l [.int .i64 n] (.int .i64 (takeV l n)) l.tail := by
  rw [T_h0]
  rcases hf with rfl | rfl
  · exact callL_rd (fuel := 2) (n := 3) noTab_ok rfl rfl rfl rfl (take_go l n hn) rfl rfl rfl
  · exact callL_rd (fuel := 2) (n := 3) noTab_ok rfl rfl rfl rfl (rtake_go l n hn) rfl rfl rfl
theorem takeC_inv {l : List UInt8} {ts : List AV} {v : AV} {l' : List UInt8} (h : takeC l ts = some (v, l')) : ∃ n : Int, 0 < n ∧ ts = [.int .i64 n] ∧ v = .int .i64 (takeV l n) ∧ l' = l.tail := by
  unfold takeC at h
  split at h
  · rename_i n
    split at h
    · rename_i hn
      simp only [Option.some.injEq, Prod.mk.injEq] at h
      exact ⟨n, of_decide_eq_true hn, rfl, h.1.symm, h.2.symm⟩
    · simp at h
  · simp at h
theorem take_reads {h : HT} (f : FuncId) (hf : f = 28 ∨ f = 30) : ∀ args H v H', readH takeC args H = some (v, H') → ∀ E xs, Rel (TS h) H E → VRelL E args xs → Calls Try.prog f xs E.w fun e w' => ∃ x E', e = .returned x ∧ E'.w = w' ∧ E.le E' ∧ HRel H' E' ∧ VRel E' v x :=
  TS.reads h0.ext (by
    intro l ts v l' h
    obtain ⟨n, hn, rfl, rfl, rfl⟩ := takeC_inv h
    exact ⟨rfl, rfl, take_call f hf l n hn⟩)
theorem h1.ext : ExtOK (TS h1) Try.prog := TS.ext (by
  intro f g h
  unfold h1 at h
  split at h
  · rename_i hf
    obtain rfl := Option.some.inj h
    exact take_reads f (or_beq hf)
  · split at h
    · rename_i hf
      obtain rfl := Option.some.inj h
      obtain rfl := Nat.eq_of_beq_eq_true hf
      exact put_writes
    · cases h)
end Go.Proofs.Ytanpcjopgcpooaa
set_option maxRecDepth 100000
set_option linter.unusedSimpArgs false
set_option linter.unusedVariables false
namespace Go.Proofs.Ytanpcjopgcpooaa
open Go.Sx
noncomputable abbrev cA (fuel n : Nat) : CallI := callI (TS h1) (fun _ => none) fuel n
theorem choice_form {R : Type} (l : List UInt8) (K : Res → Option R) : runI (TS h1) (cA 3 2) 3 Try.f54 [.ptr 0 0] (rdH l) K = br (takeV l 4 == (1 : Int)) (fun _ => K (Res.val (.agg [.int .u64 18446744073709551615, .int .i64 (IntKind.i64.wrap (takeV l.tail 4 - (1 : Int))), .int .i64 (takeV l.tail.tail 80)]) ⟨[.cells [.str l.tail.tail.tail], .cells [.int .u64 18446744073709551615, .int .i64 (IntKind.i64.wrap (takeV l.tail 4 - (1 : Int))), .int .i64 (takeV l.tail.tail 80)], .cells [.int .u64 18446744073709551615, .int .i64 (IntKind.i64.wrap (takeV l.tail 4 - (1 : Int))), .int .i64 (takeV l.tail.tail 80)]], []⟩)) (fun _ => br (takeV l 4 == (2 : Int)) (fun _ => K (Res.val (.agg [.int .u64 (IntKind.u64.wrap (takeV l.tail 256)), .int .i64 (IntKind.i64.wrap (takeV l.tail.tail 4 - (1 : Int))), .int .i64 (takeV l.tail.tail.tail 80)]) ⟨[.cells [.str l.tail.tail.tail.tail], .cells [.int .u64 (IntKind.u64.wrap (takeV l.tail 256)), .int .i64 (IntKind.i64.wrap (takeV l.tail.tail 4 - (1 : Int))), .int .i64 (takeV l.tail.tail.tail 80)], .cells [.int .u64 (IntKind.u64.wrap (takeV l.tail 256)), .int .i64 (IntKind.i64.wrap (takeV l.tail.tail 4 - (1 : Int))), .int .i64 (takeV l.tail.tail.tail 80)]], []⟩)) (fun _ => br (takeV l 4 == (3 : Int)) (fun _ => K (Res.val (.agg [.int .u64 (IntKind.u64.wrap (IntKind.i64.wrap (255 - takeV l.tail 256))), .int .i64 (IntKind.i64.wrap (takeV l.tail.tail 4 - (1 : Int))), .int .i64 (takeV l.tail.tail.tail 80)]) ⟨[.cells [.str l.tail.tail.tail.tail], .cells [.int .u64 (IntKind.u64.wrap (IntKind.i64.wrap (255 - takeV l.tail 256))), .int .i64 (IntKind.i64.wrap (takeV l.tail.tail 4 - (1 : Int))), .int .i64 (takeV l.tail.tail.tail 80)], .cells [.int .u64 (IntKind.u64.wrap (IntKind.i64.wrap (255 - takeV l.tail 256))), .int .i64 (IntKind.i64.wrap (takeV l.tail.tail 4 - (1 : Int))), .int .i64 (takeV l.tail.tail.tail 80)]], []⟩)) (fun _ => K (Res.val (.agg [.int .u64 0, .int .i64 (IntKind.i64.wrap (takeV l.tail 4 - (1 : Int))), .int .i64 (takeV l.tail.tail 80)]) ⟨[.cells [.str l.tail.tail.tail], .cells [.int .u64 0, .int .i64 (IntKind.i64.wrap (takeV l.tail 4 - (1 : Int))), .int .i64 (takeV l.tail.tail 80)], .cells [.int .u64 0, .int .i64 (IntKind.i64.wrap (takeV l.tail 4 - (1 : Int))), .int .i64 (takeV l.tail.tail 80)]], []⟩)))) := by kernel_rfl
end Go.Proofs.Ytanpcjopgcpooaa
set_option maxRecDepth 100000
set_option linter.unusedSimpArgs false
set_option linter.unusedVariables false
namespace Go.Proofs.Ytanpcjopgcpooaa
open Go.Sx
theorem wt_in (l : List UInt8) (n : Int) (h : 0 < n ∧ n ≤ 1000) : IntKind.i64.wrap (takeV l n) = takeV l n := by
  have := takeV_in l n h.1
  exact IntWalk.i64_in _ (by omega)
theorem wt_add (c : Int) (l : List UInt8) (n : Int) (h : 0 < n ∧ n ≤ 1000 ∧ 0 ≤ c ∧ c ≤ 1000) : IntKind.i64.wrap (c + takeV l n) = c + takeV l n := by
  have := takeV_in l n h.1
  exact IntWalk.i64_in _ (by omega)
theorem wt_sub (c : Int) (l : List UInt8) (n : Int) (h : 0 < n ∧ n ≤ 1000 ∧ 0 ≤ c ∧ c ≤ 1000) : IntKind.i64.wrap (takeV l n - c) = takeV l n - c := by
  have := takeV_in l n h.1
  exact IntWalk.i64_in _ (by omega)
theorem wt_rsub (c : Int) (l : List UInt8) (n : Int) (h : 0 < n ∧ n ≤ 1000 ∧ 0 ≤ c ∧ c ≤ 1000) : IntKind.i64.wrap (c - takeV l n) = c - takeV l n := by
  have := takeV_in l n h.1
  exact IntWalk.i64_in _ (by omega)
theorem ut_in (l : List UInt8) (n : Int) (h : 0 < n ∧ n ≤ 1000) : IntKind.u64.wrap (takeV l n) = takeV l n := by
  have := takeV_in l n h.1
  exact IntWalk.u64_in _ (by omega)
theorem ut_rsub (c : Int) (l : List UInt8) (n : Int) (h : 0 < n ∧ n ≤ c + 1 ∧ c ≤ 1000) : IntKind.u64.wrap (c - takeV l n) = c - takeV l n := by
  have := takeV_in l n h.1
  exact IntWalk.u64_in _ (by omega)
theorem wt_add2 (c : Int) (l m : List UInt8) (n k : Int) (h : 0 < n ∧ n ≤ 1000 ∧ 0 < k ∧ k ≤ 1000 ∧ 0 ≤ c ∧ c ≤ 1000) : IntKind.i64.wrap (c + takeV l n + takeV m k) = c + takeV l n + takeV m k := by
  have := takeV_in l n h.1
  have := takeV_in m k h.2.2.1
  exact IntWalk.i64_in _ (by omega)
def chKeep (l : List UInt8) : Int := if takeV l 4 = 1 then 18446744073709551615 else if takeV l 4 = 2 then takeV l.tail 256 else if takeV l 4 = 3 then 255 - takeV l.tail 256 else 0
def chRest (l : List UInt8) : List UInt8 := if takeV l 4 = 2 then l.tail.tail else if takeV l 4 = 3 then l.tail.tail else l.tail
def chAV (l : List UInt8) : AV := .agg [.int .u64 (chKeep l), .int .i64 (takeV (chRest l) 4 - 1), .int .i64 (takeV (chRest l).tail 80)]
theorem cases4 {x : Int} (h : 0 ≤ x ∧ x < 4) : x = 0 ∨ x = 1 ∨ x = 2 ∨ x = 3 := by omega
theorem choice_go (l : List UInt8) : ∃ os, runI (TS h1) (cA 3 2) 3 Try.f54 [.ptr 0 0] (rdH l) some = some (.val (chAV l) ⟨.cells [.str (chRest l).tail.tail] :: os, []⟩) := by
  rw [choice_form]
  rcases cases4 (takeV_in l 4 (by omega)) with h | h | h | h
  all_goals
    simp (disch := decide) only [h, chAV, chKeep, chRest, br, wt_sub, wt_rsub, ut_in, ut_rsub, if_true, if_false, Int.reduceEq]
    exact ⟨_, rfl⟩
def taskL (l : List UInt8) : List AV := [.bool (takeV l 2 == 1), .int .i64 (1 + takeV l.tail 3), .int .i64 (1 + takeV l.tail.tail 10), .int .i64 (1 + takeV l.tail.tail.tail 3), .int .i64 (1 + takeV l.tail.tail.tail 3 + takeV l.tail.tail.tail.tail 4), .int .i64 (takeV l.tail.tail.tail.tail.tail 3)]
def outV (l : List UInt8) : List UInt8 := List.replicate (1 + takeV l.tail 60).toNat (UInt8.ofNat (97 + takeV l 26).toNat)
end Go.Proofs.Ytanpcjopgcpooaa
set_option maxRecDepth 100000
set_option linter.unusedSimpArgs false
set_option linter.unusedVariables false
namespace Go.Proofs.Ytanpcjopgcpooaa
open Go.Sx
def mkC (v : List UInt8 → AV) (r : List UInt8 → List UInt8) : RC := fun l ts => match ts with
  | [] => some (v l, r l)
  | _ => none
theorem mkC_reads {h h' : HT} (hext : ExtOK (TS h') Try.prog) {f : FuncId} {v : List UInt8 → AV} {r : List UInt8 → List UInt8} (hc : ∀ l, RdOK (TS h') f l [] (v l) (r l)) :
    ∀ args H u H', readH (mkC v r) args H = some (u, H') → ∀ E xs, Rel (TS h) H E → VRelL E args xs → Calls Try.prog f xs E.w fun e w' => ∃ x E', e = .returned x ∧ E'.w = w' ∧ E.le E' ∧ HRel H' E' ∧ VRel E' u x :=
  TS.reads hext (by
    intro l ts u l' h
    unfold mkC at h
    split at h
    · simp only [Option.some.injEq, Prod.mk.injEq] at h
      obtain ⟨rfl, rfl⟩ := h
      exact ⟨rfl, rfl, hc l⟩
    · simp at h)
def tail6 (l : List UInt8) : List UInt8 := l.tail.tail.tail.tail.tail.tail
noncomputable def h2 : HT := fun f => match Nat.beq f 54 || Nat.beq f 54, false, false with
  | true, _, _ => some (readH (mkC chAV fun l => (chRest l).tail.tail))
  | _, true, _ => some (readH (mkC (fun l => .agg (taskL l)) tail6))
  | _, _, true => some (readH (mkC (fun l => .str (outV l)) fun l => l.tail.tail))
  | _, _, _ => h1 f
theorem choice_call (l : List UInt8) : RdOK (TS h1) 54 l [] (chAV l) (chRest l).tail.tail := by
  obtain ⟨os, h⟩ := choice_go l
  exact callL_rd (fuel := 3) (n := 2) noTab_ok rfl rfl rfl rfl h rfl rfl rfl
theorem h2.ext : ExtOK (TS h2) Try.prog := TS.ext (by
  intro f g h
  unfold h2 at h
  split at h
  · rename_i hf
    obtain rfl := Option.some.inj h
    rcases or_beq hf with rfl | rfl
    · exact mkC_reads h1.ext choice_call
    · exact mkC_reads h1.ext choice_call
  · rename_i hf _
    cases hf
  · rename_i hf _ _
    cases hf
  · unfold h1 at h
    split at h
    · rename_i hf
      obtain rfl := Option.some.inj h
      exact take_reads f (or_beq hf)
    · split at h
      · rename_i hf
        obtain rfl := Option.some.inj h
        obtain rfl := Nat.eq_of_beq_eq_true hf
        exact put_writes
      · cases h)
end Go.Proofs.Ytanpcjopgcpooaa
