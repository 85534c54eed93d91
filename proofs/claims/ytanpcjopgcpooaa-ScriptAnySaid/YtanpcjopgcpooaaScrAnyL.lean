/- A system in which rounds' objects are forgotten; answers told ahead in any system. -/
import Derived.Test.YtanpcjopgcpooaaScrReads
set_option maxRecDepth 100000
set_option linter.unusedSimpArgs false
set_option linter.unusedVariables false
namespace Go.Proofs.Ytanpcjopgcpooaa
open Go.Sx
noncomputable def S0 : Go.Sx.Sys := { TS h5 with room := 0 }
theorem S0.ok : SysOK S0 Try.prog := ⟨(TS.ok h5).type, (TS.ok h5).func, (TS.ok h5).glob, (TS.ok h5).meth, (TS.ok h5).dfn⟩
theorem S0.ext : ExtOK S0 Try.prog := by
  refine ⟨fun f g hg => ?_, fun f g hg args H v H' hv E xs hr hx => h5.ext.obj f g hg args H v H' hv E xs ⟨hr.h, hr.g, hr.x⟩ hx⟩
  obtain ⟨e1, e2⟩ := h5.ext.val f g hg
  exact ⟨e1, fun ts v hv E xs hr hx => e2 ts v hv E xs ⟨hr.h, hr.g, hr.x⟩ hx⟩
def AnsS (S : Go.Sx.Sys) (f : FuncId) (args : List AV) (v : AV) : Prop := ∀ H, (callL S).res f args H = some (.val v H)
theorem AnsS.uniq {S : Go.Sx.Sys} {f : FuncId} {args : List AV} {v w : AV} (a : AnsS S f args v) (b : AnsS S f args w) : v = w := by
  have := (a ⟨[], []⟩).symm.trans (b ⟨[], []⟩)
  simpa using this
theorem AnsS.call {S : Go.Sx.Sys} {f : FuncId} {args : List AV} {v : AV} (a : AnsS S f args v) (H : AH) : callL S f args H = some (v, H) := Caller.fn_of (a H)
open Classical in
noncomputable def okS (S : Go.Sx.Sys) (f : FuncId) (args : List AV) : Bool := if AnsS S f args (.int .i64 0) then true else false
theorem okS_of {S : Go.Sx.Sys} {f : FuncId} {args : List AV} (e : okS S f args = true) : AnsS S f args (.int .i64 0) := by
  unfold okS at e
  split at e
  · assumption
  · cases e
theorem okS_t {S : Go.Sx.Sys} {f : FuncId} {args : List AV} (e : AnsS S f args (.int .i64 0)) : okS S f args = true := if_pos e
open Classical in
noncomputable def boolS (S : Go.Sx.Sys) (f : FuncId) (args : List AV) : Option Bool := if c : ∃ b, AnsS S f args (.bool b) then some c.choose else none
theorem boolS_of {S : Go.Sx.Sys} {f : FuncId} {args : List AV} {b : Bool} (a : AnsS S f args (.bool b)) : boolS S f args = some b := by
  have c : ∃ b, AnsS S f args (.bool b) := ⟨b, a⟩
  unfold boolS
  rw [dif_pos c]
  have := c.choose_spec.uniq a
  simpa using this
theorem boolS_inv {S : Go.Sx.Sys} {f : FuncId} {args : List AV} {b : Bool} (e : boolS S f args = some b) : AnsS S f args (.bool b) := by
  unfold boolS at e
  split at e
  · rename_i c; rw [← Option.some.inj e]; exact c.choose_spec
  · cases e
noncomputable def okTab (S : Go.Sx.Sys) (Z B : List FuncId) (next : TabT) : TabT := fun f => match Z.any (Nat.beq f), B.any (Nat.beq f) with
  | true, _ => some fun args H _ K => br (okS S f args) (fun _ => K (.val (.int .i64 0) H)) (fun _ => none)
  | _, true => some fun args H _ K => (match boolS S f args with | some b => K (.val (.bool b) H) | none => none)
  | _, _ => next f
theorem okTab_ok {S : Go.Sx.Sys} {Z B : List FuncId} {next : TabT} (hn : TabOK S next) : TabOK S (okTab S Z B next) := by
  intro f g hg args H R K r hr
  unfold okTab at hg
  split at hg
  · obtain rfl := Option.some.inj hg
    simp only at hr
    rcases br_some hr with ⟨h1, h2⟩ | ⟨h1, h2⟩
    · exact ⟨_, okS_of h1 H, h2⟩
    · simp at h2
  · obtain rfl := Option.some.inj hg
    simp only at hr
    split at hr
    · rename_i b hb
      exact ⟨_, boolS_inv hb H, hr⟩
    · simp at hr
  · exact hn f g hg args H R K r hr
theorem ans_ofS {S : Go.Sx.Sys} {tab : TabT} (ht : TabOK S tab) {f : FuncId} {fn : Func} {args args' : List AV} {v v' : AV} {k n : Nat} (h2 : S.F f = some fn) (h3' : S.isPure f = true) (hx : Go.Sx.Sys.ext S f = none) (hr : ∀ H, resolveL H args = some args') (hh : runI S (callI S tab k n) k fn args' ⟨[], []⟩ ansR = some v) (hp : pureOut args v = some v') : AnsS S f args v' := fun H => Caller.fn_res (callL_P ht (fuel := k) (n := n) (H := H) hx h2 h3' (hr H) hh hp)
theorem ans_ext {S : Go.Sx.Sys} {f : FuncId} {g : List AV → Option AV} {args ts : List AV} {v v' : AV} (hx : Go.Sx.Sys.ext S f = some g) (hr : ∀ H, resolveL H args = some ts) (hg : g ts = some v) (hp : pureOut args v = some v') : AnsS S f args v' := by
  intro H
  refine callL_res ?_
  unfold enterF
  rw [hx]
  simp only [hr H, optK_some, hg, hp]
noncomputable abbrev cZ (fuel n : Nat) : CallI := callI S0 (fun _ => none) fuel n
noncomputable abbrev cX (fuel n : Nat) : CallI := callI S0 (okTab S0 [16, 40] [] fun _ => none) fuel n
end Go.Proofs.Ytanpcjopgcpooaa
set_option maxRecDepth 100000
set_option linter.unusedSimpArgs false
set_option linter.unusedVariables false
namespace Go.Proofs.Ytanpcjopgcpooaa
open Go.Sx
inductive Rd (A : Type) where
  | done (a : A)
  | take (n : Int) (k : Int → Rd A)
def Rd.run {A : Type} : Rd A → List UInt8 → A × List UInt8
  | .done a, l => (a, l)
  | .take n k, l => (k (takeV l n)).run l.tail
theorem rd_nil {A : Type} (p : Rd A) : (p.run []).2 = [] := by
  induction p with
  | done a => rfl
  | take n k ih => exact ih _
theorem takeV_app {l : List UInt8} (m : List UInt8) (n : Int) (h : l ≠ []) : takeV (l ++ m) n = takeV l n := by
  cases l with
  | nil => exact absurd rfl h
  | cons c r => rfl
theorem tail_app {l : List UInt8} (m : List UInt8) (h : l ≠ []) : (l ++ m).tail = l.tail ++ m := by
  cases l with
  | nil => exact absurd rfl h
  | cons c r => rfl
theorem rd_loc {A : Type} (p : Rd A) : ∀ (l m : List UInt8), (p.run l).2 ≠ [] → p.run (l ++ m) = ((p.run l).1, (p.run l).2 ++ m) := by
  induction p with
  | done a => intro l m _; rfl
  | take n k ih =>
    intro l m h
    have hl : l ≠ [] := by
      rintro rfl
      exact h (rd_nil _)
    simp only [Rd.run] at h ⊢
    rw [takeV_app m n hl, tail_app m hl]
    exact ih _ _ _ h
theorem rd_len {A : Type} (p : Rd A) : ∀ l : List UInt8, (p.run l).2.length ≤ l.length := by
  induction p with
  | done a => intro l; exact Nat.le_refl _
  | take n k ih =>
    intro l
    refine Nat.le_trans (ih _ _) ?_
    simp
def chRd {A : Type} (k : Int → Int → Int → Rd A) : Rd A := .take 4 fun a => if a = 1 then .take 4 fun t => .take 80 fun y => k 18446744073709551615 (t - 1) y else if a = 2 then .take 256 fun b => .take 4 fun t => .take 80 fun y => k b (t - 1) y else if a = 3 then .take 256 fun b => .take 4 fun t => .take 80 fun y => k (255 - b) (t - 1) y else .take 4 fun t => .take 80 fun y => k 0 (t - 1) y
theorem run_ch {A : Type} (k : Int → Int → Int → Rd A) (l : List UInt8) : (chRd k).run l = (k (chKeep l) (takeV (chRest l) 4 - 1) (takeV (chRest l).tail 80)).run (chEnd l) := by
  unfold chRd chEnd chRest chKeep
  simp only [Rd.run]
  rcases cases4 (takeV_in l 4 (by omega)) with h | h | h | h
  all_goals
    simp only [h, if_true, if_false, Int.reduceEq, Rd.run]
def taskRd {A : Type} (k : List Int → Rd A) : Rd A := .take 2 fun a => .take 3 fun l => .take 10 fun w => .take 3 fun b => .take 4 fun m => .take 3 fun p => k (tN (a == 1) (1 + l) (1 + w) (1 + b) (1 + b + m) p)
theorem run_task {A : Type} (k : List Int → Rd A) (l : List UInt8) : (taskRd k).run l = (k (taskN l)).run (tail6 l) := rfl
def specRd {A : Type} (k : List Int → Rd A) : Rd A := .take 3 fun d => .take 6 fun c => .take 6 fun m => .take 6 fun s => .take 3 fun q => .take 2 fun n =>
  if n = 0 then taskRd fun t => k (sN d (1 + c) (1 + m) (1 + s) (if q > 0 then [79 + q] else []) [t])
  else taskRd fun t => taskRd fun u => k (sN d (1 + c) (1 + m) (1 + s) (if q > 0 then [79 + q] else []) [t, u])
theorem run_spec {A : Type} (k : List Int → Rd A) (l : List UInt8) : (specRd k).run l = (k (specN l)).run (specR l) := by
  unfold specRd specN specR portN
  simp only [Rd.run]
  unfold tail5
  by_cases h : takeV l.tail.tail.tail.tail.tail 2 = 0
  · simp only [h, if_true]
    rw [run_task]
  · simp only [h, if_false]
    rw [run_task, run_task]
def conRd {A : Type} (k : List UInt8 → Rd A) : Rd A := .take 5 fun c =>
  if c = 4 then .take 3 fun n => if n = 0 then k [] else if n = 1 then .take 256 fun a => k [UInt8.ofNat a.toNat] else .take 256 fun a => .take 256 fun b => k [UInt8.ofNat a.toNat, UInt8.ofNat b.toNat]
  else .take 3 fun e => if c = 2 then .take 3 fun d => k (varsV [2, e, d]) else if c = 3 then .take 3 fun d => k (varsV [3, e, d]) else specRd fun s => k (varsV (1 :: e :: s))
theorem run_con {A : Type} (k : List UInt8 → Rd A) (l : List UInt8) : (conRd k).run l = (k (conV l)).run (conR l) := by
  unfold conRd conV conR conBytes conBytesR
  simp only [Rd.run]
  rcases cases5 (takeV_in l 5 (by omega)) with h | h | h | h | h
  · simp only [h, if_true, if_false, Int.reduceEq, Rd.run]
    exact run_spec _ _
  · simp only [h, if_true, if_false, Int.reduceEq, Rd.run]
    exact run_spec _ _
  · simp only [h, if_true, if_false, Int.reduceEq, Rd.run]
  · simp only [h, if_true, if_false, Int.reduceEq, Rd.run]
  · simp only [h, if_true, if_false, Int.reduceEq, Rd.run]
    by_cases h0 : takeV l.tail 3 = 0
    · simp only [h0, if_true]
    · by_cases h1 : takeV l.tail 3 = 1
      · simp only [h0, h1, if_true, if_false, Int.reduceEq, Rd.run]
        rfl
      · simp only [h0, h1, if_false, Rd.run]
        rfl
def evRd (c : Int) : Rd Ev :=
  if c < 3 then .done { kind := 1 }
  else if c < 6 then .done { kind := 2 }
  else if c = 6 then conRd fun s => .done { kind := 3, text := s }
  else if c = 7 then .take 6 fun k => .done { kind := 4, k := k }
  else if c = 8 then .take 4 fun k => .take 3 fun d => .done { kind := 5, k := k, code := d }
  else if c = 9 then .take 3 fun i => .take 2 fun t => .take 2 fun o => .done { kind := 6, id := i, task := t, on := o == 1 }
  else if c = 10 then .take 4 fun k => .take 26 fun a => .take 60 fun n => .done { kind := 7, k := k, text := List.replicate (1 + n).toNat (UInt8.ofNat (97 + a).toNat) }
  else if c = 11 then .take 2 fun o => .done { kind := 8, on := o == 1 }
  else if c = 12 then .take 2 fun o => .done { kind := 9, on := o == 1 }
  else if c = 13 then .take 20 fun k => chRd fun x y z => chRd fun a b d => .done { kind := 10, k := k, jk := x, jt := y, jb := z, lk := a, lt := b, lb := d }
  else if c = 14 then .done { kind := 11 }
  else .take 2 fun o => if o = 1 then .take 3 fun i => .take 2 fun t => .take 100 fun k => .take 200 fun d => .done { kind := 13, id := i, task := t, k := k, code := d } else .done { kind := 12 }
theorem rd_ite {A : Type} {p : Prop} [Decidable p] (a b : Rd A) (l : List UInt8) : (if p then a else b).run l = if p then a.run l else b.run l := by split <;> rfl
theorem run_ev (c : Int) (r : List UInt8) : (evRd c).run r = evOf c r := by
  unfold evRd evOf
  simp only [rd_ite, Rd.run, run_con, run_ch]
  rfl
theorem ev_eq (l : List UInt8) : (Rd.take 16 evRd).run l = (evE l, evR l) := by
  simp only [Rd.run]
  rw [run_ev]
  rfl
theorem evR_len (c : UInt8) (r : List UInt8) : (evR (c :: r)).length ≤ r.length := by
  have h := rd_len (evRd (takeV (c :: r) 16)) r
  rw [run_ev] at h
  exact h
theorem ev_loc (l m : List UInt8) (h : evR l ≠ []) : evE (l ++ m) = evE l ∧ evR (l ++ m) = evR l ++ m := by
  have e := rd_loc (Rd.take 16 evRd) l m (by rw [ev_eq]; exact h)
  rw [ev_eq, ev_eq] at e
  simpa using e
theorem evsL_len2 : ∀ (n : Nat) (l : List UInt8), (evsL n l).length ≤ l.length
  | 0, _ => Nat.zero_le _
  | _ + 1, [] => Nat.le_refl _
  | n + 1, c :: r => by
    have h1 := evsL_len2 n (evR (c :: r))
    have h2 := evR_len c r
    simp only [evsL, List.length_cons]
    omega
theorem evsL_nil (n : Nat) : evsL n [] = [] := by cases n <;> rfl
theorem evsL_pre : ∀ (n : Nat) (l m : List UInt8), (evsL n l).length ≤ (evsL n (l ++ m)).length ∧ (evsL n l).take ((evsL n l).length - 1) = (evsL n (l ++ m)).take ((evsL n l).length - 1)
  | 0, l, m => ⟨Nat.le_refl _, rfl⟩
  | n + 1, [], m => ⟨Nat.zero_le _, rfl⟩
  | n + 1, c :: r, m => by
    by_cases h : evR (c :: r) = []
    · simp only [evsL, h, evsL_nil, List.cons_append, List.length_cons, List.length_nil]
      exact ⟨by omega, rfl⟩
    · obtain ⟨h1, h2⟩ := ev_loc (c :: r) m h
      obtain ⟨k1, k2⟩ := evsL_pre n (evR (c :: r)) m
      rw [List.cons_append] at h1 h2
      simp only [evsL, List.cons_append, h1, h2, List.length_cons]
      refine ⟨by omega, ?_⟩
      cases hn : (evsL n (evR (c :: r))).length with
      | zero => rfl
      | succ j =>
        rw [hn] at k2
        simp only [Nat.add_sub_cancel, List.take_succ_cons] at k2 ⊢
        rw [k2]
theorem cfg_loc (l m : List UInt8) (h : tail6 l ≠ []) : cfgV (l ++ m) = cfgV l ∧ tail6 (l ++ m) = tail6 l ++ m := by
  unfold tail6 at h
  have ne : ∀ {x : List UInt8}, x.tail ≠ [] → x ≠ [] := by
    intro x hx e
    subst e
    exact hx rfl
  have h5 := ne h
  have h4 := ne h5
  have h3 := ne h4
  have h2 := ne h3
  have h1 := ne h2
  have h0 := ne h1
  unfold cfgV tail6
  simp only [tail_app m h0, tail_app m h1, tail_app m h2, tail_app m h3, tail_app m h4, tail_app m h5, takeV_app m _ h0, takeV_app m _ h1, takeV_app m _ h2, takeV_app m _ h3, takeV_app m _ h4, takeV_app m _ h5, and_self]
theorem rdE_len (l : List UInt8) : (rdE l).length ≤ l.length ∧ (rdE l).length ≤ 4096 := by
  have h := evsL_len2 4096 (tail6 l)
  refine ⟨Nat.le_trans h ?_, evsL_len 4096 _⟩
  unfold tail6
  simp only [List.length_tail]
  omega
theorem rdE_pre (l : List UInt8) (c : Nat) : (rdE (l.take c)).length ≤ (rdE l).length ∧ (2 ≤ (rdE (l.take c)).length → cfgV (l.take c) = cfgV l ∧ (rdE (l.take c)).take ((rdE (l.take c)).length - 1) = (rdE l).take ((rdE (l.take c)).length - 1)) := by
  by_cases h : tail6 (l.take c) = []
  · have e : rdE (l.take c) = [] := by
      unfold rdE
      rw [h]
      exact evsL_nil _
    rw [e]
    exact ⟨Nat.zero_le _, fun h => absurd h (by simp)⟩
  · obtain ⟨h1, h2⟩ := cfg_loc (l.take c) (l.drop c) h
    rw [List.take_append_drop] at h1 h2
    have h3 := evsL_pre 4096 (tail6 (l.take c)) (l.drop c)
    rw [← h2] at h3
    exact ⟨h3.1, fun _ => ⟨h1.symm, h3.2⟩⟩
theorem evsL_all : ∀ (n : Nat) (l : List UInt8) (e : Ev), e ∈ evsL n l → ∃ r, e = evE r
  | 0, _, e, h => by simp [evsL] at h
  | _ + 1, [], e, h => by simp [evsL] at h
  | n + 1, c :: r, e, h => by
    simp only [evsL, List.mem_cons] at h
    rcases h with rfl | h
    · exact ⟨_, rfl⟩
    · exact evsL_all n _ e h
end Go.Proofs.Ytanpcjopgcpooaa
set_option maxRecDepth 100000
set_option linter.unusedSimpArgs false
set_option linter.unusedVariables false
namespace Go.Proofs.Ytanpcjopgcpooaa
open Go.Sx
def gRead (ts : List AV) : Option AV := match ts with
  | [.str l] => some (scrV l)
  | _ => none
open Classical in
noncomputable def gChk (ts : List AV) : Option AV := if ∃ l, ts = [scrE l] then some (.int .i64 0) else none
open Classical in
noncomputable def gEv (ts : List AV) : Option AV := if ∃ l, ts = [(evE l).av] then some (.int .i64 0) else none
open Classical in
noncomputable def gEq (ts : List AV) : Option AV := if ∃ es : List Ev, es.length ≤ 100000 ∧ ts = [.inl false .unk 13 (evsV es), .inl false .unk 13 (evsV es)] then some (.bool true) else none
noncomputable def extL (f : FuncId) : Option (List AV → Option AV) := match Nat.beq f 9, Nat.beq f 15, Nat.beq f 16, Nat.beq f 17 with
  | true, _, _, _ => some gRead
  | _, true, _, _ => some gChk
  | _, _, true, _ => some gEv
  | _, _, _, true => some gEq
  | _, _, _, _ => Go.Sx.Sys.ext (TS h5) f
noncomputable def S5 : Go.Sx.Sys := { TS h5 with ext := extL }
theorem S5.ok : SysOK S5 Try.prog := ⟨(TS.ok h5).type, (TS.ok h5).func, (TS.ok h5).glob, (TS.ok h5).meth, (TS.ok h5).dfn⟩
theorem told {S' : Go.Sx.Sys} (hS : SysOK S' Try.prog) (hext : ExtOK S' Try.prog) (hG : S'.G = S5.G) (hx : S'.fixed = S5.fixed) {f : FuncId} {ts : List AV} {v : AV} (h : AnsS S' f ts v) :
    ∀ E xs, Rel S5 ⟨[], []⟩ E → VRelL E ts xs → Calls Try.prog f xs E.w fun e w' => ∃ x E' H', e = .returned x ∧ E'.w = w' ∧ E.le E' ∧ HRel H' E' ∧ VRel E' v x := ext_call hS hext Try.mixed hG hx (h.call _)
theorem eq17g (es : List Ev) (hl : es.length ≤ 100000) : Ans h5 17 [.inl false .unk 13 (evsV es), .inl false .unk 13 (evsV es)] (.bool true) := by
  obtain ⟨h1, h2, h3, h4⟩ := evs_plain es
  refine ans_ofG noTab_ok (k := es.length + 1) (n := 2) rfl rfl rfl ?_ (eqs_go (.inl false .unk 13 (evsV es)) es rfl rfl hl) (boolOut _ _)
  intro H
  have e1 : Go.Sx.resolve H (.inl false .unk 13 (evsV es)) = some (.inl false .unk 13 (evsV es)) := rfl
  have e2 : erase (.inl false .unk 13 (evsV es)) = .inl false .unk 13 (evsV es) := by simp only [erase, h2]
  have e3 : Go.Sx.below 0 0 (.inl false .unk 13 (evsV es)) = true := by simp only [Go.Sx.below, h3]; rfl
  simp only [resolveL, e1, e2, e3, if_true]
theorem S5.ext (hc : ∀ l, AnsS S0 15 [scrE l] (.int .i64 0)) (he : ∀ l, AnsS S0 16 [(evE l).av] (.int .i64 0)) : ExtOK S5 Try.prog := by
  refine ⟨fun f g hg => ?_, fun f g hg args H v H' hv E xs hr hx => h5.ext.obj f g hg args H v H' hv E xs ⟨hr.h, hr.g, hr.x⟩ hx⟩
  replace hg : extL f = some g := hg
  unfold extL at hg
  split at hg
  · rename_i hf
    obtain rfl := Nat.eq_of_beq_eq_true hf
    obtain rfl := Option.some.inj hg
    refine ⟨⟨_, Try.func9, rfl, of_decide_eq_true (by kernel_rfl)⟩, fun ts v hv => ?_⟩
    unfold gRead at hv
    split at hv
    · rename_i l
      obtain rfl := Option.some.inj hv
      exact told (TS.ok h5) h5.ext rfl rfl (read9 l)
    · simp at hv
  · rename_i hf _
    obtain rfl := Nat.eq_of_beq_eq_true hf
    obtain rfl := Option.some.inj hg
    refine ⟨⟨_, Try.func15, rfl, of_decide_eq_true (by kernel_rfl)⟩, fun ts v hv => ?_⟩
    unfold gChk at hv
    split at hv
    · rename_i h
      obtain ⟨l, rfl⟩ := h
      obtain rfl := Option.some.inj hv
      exact told S0.ok S0.ext rfl rfl (hc l)
    · simp at hv
  · rename_i hf _ _
    obtain rfl := Nat.eq_of_beq_eq_true hf
    obtain rfl := Option.some.inj hg
    refine ⟨⟨_, Try.func16, rfl, of_decide_eq_true (by kernel_rfl)⟩, fun ts v hv => ?_⟩
    unfold gEv at hv
    split at hv
    · rename_i h
      obtain ⟨l, rfl⟩ := h
      obtain rfl := Option.some.inj hv
      exact told S0.ok S0.ext rfl rfl (he l)
    · simp at hv
  · rename_i hf _ _ _
    obtain rfl := Nat.eq_of_beq_eq_true hf
    obtain rfl := Option.some.inj hg
    refine ⟨⟨_, Try.func17, rfl, of_decide_eq_true (by kernel_rfl)⟩, fun ts v hv => ?_⟩
    unfold gEq at hv
    split at hv
    · rename_i h
      obtain ⟨es, hl, rfl⟩ := h
      obtain rfl := Option.some.inj hv
      exact told (TS.ok h5) h5.ext rfl rfl (eq17g es hl)
    · simp at hv
  · obtain ⟨e1, e2⟩ := h5.ext.val f g hg
    exact ⟨e1, fun ts v hv E xs hr hx => e2 ts v hv E xs ⟨hr.h, hr.g, hr.x⟩ hx⟩
open Classical in
noncomputable def evO (l : List UInt8) : Option (List AV) := if rdE l = [] then none else some (evsV (rdE l))
noncomputable def rdK {R : Type} (K : Res → Option R) (args : List AV) (H : AH) : Option R := match args with
  | [.str l] => (match evO l with
    | some xs => K (.val (.agg (cfgV l ++ [.inl true .unk 13 xs])) H)
    | none => K (.val (.agg (cfgV l ++ [.nils])) H))
  | _ => none
noncomputable def rdTab (next : TabT) : TabT := fun f => match Nat.beq f 9 with
  | true => some fun args H _ K => rdK K args H
  | false => next f
theorem scr_plain (l : List UInt8) (args : List AV) : pureOut args (scrV l) = some (scrV l) := by
  unfold scrV evlV
  cases rdE l with
  | nil =>
    unfold pureOut
    rw [if_pos]
    · rfl
    · simp [cfgV, detok, detokL, Go.Sx.below, belowL, isNew, isNewL]
  | cons e es =>
    obtain ⟨h1, h2, h3, h4⟩ := evs_plain (e :: es)
    unfold pureOut
    rw [if_pos]
    · simp [cfgV, detok, detokL, Spare.detok, h1]
    · simp [cfgV, detok, detokL, Spare.detok, h1, h3, h4, Go.Sx.below, belowL, isNew, isNewL]
theorem read5 (l : List UInt8) : AnsS S5 9 [.str l] (scrV l) := ans_ext (ts := [.str l]) (v := scrV l) rfl (fun _ => rfl) rfl (scr_plain l _)
theorem rdTab_ok {next : TabT} (hn : TabOK S5 next) : TabOK S5 (rdTab next) := by
  intro f g hg args H R K r hr
  unfold rdTab at hg
  split at hg
  · rename_i hf
    obtain rfl := Nat.eq_of_beq_eq_true hf
    obtain rfl := Option.some.inj hg
    simp only at hr
    unfold rdK at hr
    split at hr
    · rename_i l
      refine ⟨_, read5 l H, ?_⟩
      unfold scrV evlV
      unfold evO at hr
      cases he : rdE l with
      | nil => rw [he] at hr; simpa using hr
      | cons e es => rw [he] at hr; simpa using hr
    · simp at hr
  · exact hn f g hg args H R K r hr
noncomputable def tabAny : TabT := rdTab (okTab S5 [15, 16] [17] fun _ => none)
theorem tabAny_ok : TabOK S5 tabAny := rdTab_ok (okTab_ok noTab_ok)
noncomputable abbrev cY (fuel n : Nat) : CallI := callI S5 tabAny fuel n
theorem evO_some {l : List UInt8} (h : rdE l ≠ []) : evO l = some (evsV (rdE l)) := by
  unfold evO
  rw [if_neg h]
theorem evO_none {l : List UInt8} (h : rdE l = []) : evO l = none := by
  unfold evO
  rw [if_pos h]
end Go.Proofs.Ytanpcjopgcpooaa
