/- take told ahead, its answer for 16 known: the cases of an event one by one. -/
import Derived.Test.YtanpcjopgcpooaaScrCom
set_option maxRecDepth 100000
set_option linter.unusedSimpArgs false
set_option linter.unusedVariables false
namespace Go.Proofs.Ytanpcjopgcpooaa
open Go.Sx
open Classical in
noncomputable def tkB (l : List UInt8) (c : Nat) : Bool := if takeV l 16 = (c : Int) then true else false
theorem tkB_t {l : List UInt8} {c : Nat} (h : takeV l 16 = (c : Int)) : tkB l c = true := if_pos h
theorem tkB_of {l : List UInt8} {c : Nat} (h : tkB l c = true) : takeV l 16 = (c : Int) := by
  unfold tkB at h
  split at h
  · assumption
  · cases h
noncomputable def tkK {R : Type} (c : Nat) (K : Res → Option R) (args : List AV) (H : AH) : Option R := match args with
  | [.ptr i 0, .int .i64 n] => (match H.objs[i]? with
    | some (.cells [.str l]) => (match eqInt n 16 with
      | true => br (tkB l c) (fun _ => K (.val (.int .i64 (.ofNat c)) { H with objs := H.objs.set i (.cells [.str l.tail]) })) (fun _ => none)
      | false => br (decide (0 < n)) (fun _ => K (.val (.int .i64 (takeV l n)) { H with objs := H.objs.set i (.cells [.str l.tail]) })) (fun _ => none))
    | _ => none)
  | _ => none
noncomputable def tabTk (c : Nat) : TabT := fun f => match Nat.beq f 28 || Nat.beq f 30 with
  | true => some fun args H _ K => tkK c K args H
  | false => none
theorem eqInt_of {a b : Int} (h : eqInt a b = true) : a = b := by
  unfold eqInt at h
  split at h
  · exact congrArg Int.ofNat (Nat.eq_of_beq_eq_true h)
  · exact congrArg Int.negSucc (Nat.eq_of_beq_eq_true h)
  · cases h
theorem take_res {f : FuncId} (hf : f = 28 ∨ f = 30) {args : List AV} {H : AH} {p : AV × AH} (h : readH takeC args H = some p) : (callL (TS h4)).res f args H = some (.val p.1 p.2) := by
  refine callL_res ?_
  unfold enterF
  rcases hf with rfl | rfl
  · have e1 : Go.Sx.Sys.ext (TS h4) 28 = none := rfl
    have e2 : (TS h4).F 28 = some Try.f28 := rfl
    have e3 : (TS h4).isPure 28 = false := rfl
    have e4 : (TS h4).extH 28 = some (readH takeC) := rfl
    rw [e1]
    simp only [e2]
    rw [if_neg (by rw [e3]; simp), e4]
    simp only [h, optK_some]
  · have e1 : Go.Sx.Sys.ext (TS h4) 30 = none := rfl
    have e2 : (TS h4).F 30 = some Try.f30 := rfl
    have e3 : (TS h4).isPure 30 = false := rfl
    have e4 : (TS h4).extH 30 = some (readH takeC) := rfl
    rw [e1]
    simp only [e2]
    rw [if_neg (by rw [e3]; simp), e4]
    simp only [h, optK_some]
theorem tabTk_ok (c : Nat) : TabOK (TS h4) (tabTk c) := by
  intro f g hg args H R K r hr
  unfold tabTk at hg
  split at hg
  · rename_i hf
    obtain rfl := Option.some.inj hg
    simp only at hr
    unfold tkK at hr
    split at hr
    · rename_i i n
      split at hr
      · rename_i l ho
        have go : 0 < n → (callL (TS h4)).res f [.ptr i 0, .int .i64 n] H = some (.val (.int .i64 (takeV l n)) { H with objs := H.objs.set i (.cells [.str l.tail]) }) := by
          intro hn
          refine take_res (or_beq hf) (p := (.int .i64 (takeV l n), { H with objs := H.objs.set i (.cells [.str l.tail]) })) ?_
          simp only [readH, ho, takeC, decide_eq_true hn, optK_some]
        split at hr
        · rename_i he
          obtain rfl := eqInt_of he
          rcases br_some hr with ⟨h1, h2⟩ | ⟨h1, h2⟩
          · refine ⟨_, go (by decide), ?_⟩
            rw [tkB_of h1]
            exact h2
          · simp at h2
        · rcases br_some hr with ⟨h1, h2⟩ | ⟨h1, h2⟩
          · exact ⟨_, go (of_decide_eq_true h1), h2⟩
          · simp at h2
      · simp at hr
    · simp at hr
  · simp at hg
noncomputable abbrev cT (c fuel n : Nat) : CallI := callI (TS h4) (tabTk c) fuel n
end Go.Proofs.Ytanpcjopgcpooaa
set_option maxRecDepth 100000
set_option linter.unusedSimpArgs false
set_option linter.unusedVariables false
namespace Go.Proofs.Ytanpcjopgcpooaa
open Go.Sx
structure Ev where
  kind : Int
  k : Int := 0
  id : Int := 0
  task : Int := 0
  code : Int := 0
  on : Bool := false
  text : List UInt8 := []
  jk : Int := 0
  jt : Int := 0
  jb : Int := 0
  lk : Int := 0
  lt : Int := 0
  lb : Int := 0
def Ev.cells (x : Ev) : List AV := [.int .u8 x.kind, .int .i64 x.k, .int .i64 x.id, .int .i64 x.task, .int .i64 x.code, .bool x.on, .str x.text, .int .u64 x.jk, .int .i64 x.jt, .int .i64 x.jb, .int .u64 x.lk, .int .i64 x.lt, .int .i64 x.lb]
def Ev.av (x : Ev) : AV := .agg x.cells
def chEnd (l : List UInt8) : List UInt8 := (chRest l).tail.tail
def evOf (c : Int) (r : List UInt8) : Ev × List UInt8 :=
  if c < 3 then ({ kind := 1 }, r)
  else if c < 6 then ({ kind := 2 }, r)
  else if c = 6 then ({ kind := 3, text := conV r }, conR r)
  else if c = 7 then ({ kind := 4, k := takeV r 6 }, r.tail)
  else if c = 8 then ({ kind := 5, k := takeV r 4, code := takeV r.tail 3 }, r.tail.tail)
  else if c = 9 then ({ kind := 6, id := takeV r 3, task := takeV r.tail 2, on := takeV r.tail.tail 2 == 1 }, r.tail.tail.tail)
  else if c = 10 then ({ kind := 7, k := takeV r 4, text := outV r.tail }, r.tail.tail.tail)
  else if c = 11 then ({ kind := 8, on := takeV r 2 == 1 }, r.tail)
  else if c = 12 then ({ kind := 9, on := takeV r 2 == 1 }, r.tail)
  else if c = 13 then ({ kind := 10, k := takeV r 20, jk := chKeep r.tail, jt := takeV (chRest r.tail) 4 - 1, jb := takeV (chRest r.tail).tail 80, lk := chKeep (chEnd r.tail), lt := takeV (chRest (chEnd r.tail)) 4 - 1, lb := takeV (chRest (chEnd r.tail)).tail 80 }, chEnd (chEnd r.tail))
  else if c = 14 then ({ kind := 11 }, r)
  else if takeV r 2 = 1 then ({ kind := 13, id := takeV r.tail 3, task := takeV r.tail.tail 2, k := takeV r.tail.tail.tail 100, code := takeV r.tail.tail.tail.tail 200 }, r.tail.tail.tail.tail.tail)
  else ({ kind := 12 }, r.tail)
def evE (l : List UInt8) : Ev := (evOf (takeV l 16) l.tail).1
def evR (l : List UInt8) : List UInt8 := (evOf (takeV l 16) l.tail).2
noncomputable def h5 : HT := fun f => match Nat.beq f 29 || Nat.beq f 29 with
  | true => some (readH (mkC (fun l => (evE l).av) evR))
  | false => h4 f
noncomputable abbrev cQ (fuel n : Nat) : CallI := callI (TS h5) (fun _ => none) fuel n
end Go.Proofs.Ytanpcjopgcpooaa
set_option maxRecDepth 100000
set_option linter.unusedSimpArgs false
set_option linter.unusedVariables false
namespace Go.Proofs.Ytanpcjopgcpooaa
open Go.Sx
theorem r29_0 {R : Type} (l : List UInt8) (K : Res → Option R) : runI (TS h4) (cT 0 3 3) 3 Try.f29 [.ptr 0 0] (rdH l) K = br (tkB l 0) (fun _ => K (Res.val (.agg [.int .u8 1, .int .i64 0, .int .i64 0, .int .i64 0, .int .i64 0, .bool false, .str [], .int .u64 0, .int .i64 0, .int .i64 0, .int .u64 0, .int .i64 0, .int .i64 0]) ⟨[.cells [.str l.tail], .cells [.int .u8 1, .int .i64 0, .int .i64 0, .int .i64 0, .int .i64 0, .bool false, .str [], .int .u64 0, .int .i64 0, .int .i64 0, .int .u64 0, .int .i64 0, .int .i64 0], .cells [.int .u8 1, .int .i64 0, .int .i64 0, .int .i64 0, .int .i64 0, .bool false, .str [], .int .u64 0, .int .i64 0, .int .i64 0, .int .u64 0, .int .i64 0, .int .i64 0]], []⟩)) (fun _ => none) := by kernel_rfl
theorem r29_1 {R : Type} (l : List UInt8) (K : Res → Option R) : runI (TS h4) (cT 1 3 3) 3 Try.f29 [.ptr 0 0] (rdH l) K = br (tkB l 1) (fun _ => K (Res.val (.agg [.int .u8 1, .int .i64 0, .int .i64 0, .int .i64 0, .int .i64 0, .bool false, .str [], .int .u64 0, .int .i64 0, .int .i64 0, .int .u64 0, .int .i64 0, .int .i64 0]) ⟨[.cells [.str l.tail], .cells [.int .u8 1, .int .i64 0, .int .i64 0, .int .i64 0, .int .i64 0, .bool false, .str [], .int .u64 0, .int .i64 0, .int .i64 0, .int .u64 0, .int .i64 0, .int .i64 0], .cells [.int .u8 1, .int .i64 0, .int .i64 0, .int .i64 0, .int .i64 0, .bool false, .str [], .int .u64 0, .int .i64 0, .int .i64 0, .int .u64 0, .int .i64 0, .int .i64 0]], []⟩)) (fun _ => none) := by kernel_rfl
theorem r29_2 {R : Type} (l : List UInt8) (K : Res → Option R) : runI (TS h4) (cT 2 3 3) 3 Try.f29 [.ptr 0 0] (rdH l) K = br (tkB l 2) (fun _ => K (Res.val (.agg [.int .u8 1, .int .i64 0, .int .i64 0, .int .i64 0, .int .i64 0, .bool false, .str [], .int .u64 0, .int .i64 0, .int .i64 0, .int .u64 0, .int .i64 0, .int .i64 0]) ⟨[.cells [.str l.tail], .cells [.int .u8 1, .int .i64 0, .int .i64 0, .int .i64 0, .int .i64 0, .bool false, .str [], .int .u64 0, .int .i64 0, .int .i64 0, .int .u64 0, .int .i64 0, .int .i64 0], .cells [.int .u8 1, .int .i64 0, .int .i64 0, .int .i64 0, .int .i64 0, .bool false, .str [], .int .u64 0, .int .i64 0, .int .i64 0, .int .u64 0, .int .i64 0, .int .i64 0]], []⟩)) (fun _ => none) := by kernel_rfl
theorem r29_3 {R : Type} (l : List UInt8) (K : Res → Option R) : runI (TS h4) (cT 3 3 3) 3 Try.f29 [.ptr 0 0] (rdH l) K = br (tkB l 3) (fun _ => K (Res.val (.agg [.int .u8 2, .int .i64 0, .int .i64 0, .int .i64 0, .int .i64 0, .bool false, .str [], .int .u64 0, .int .i64 0, .int .i64 0, .int .u64 0, .int .i64 0, .int .i64 0]) ⟨[.cells [.str l.tail], .cells [.int .u8 2, .int .i64 0, .int .i64 0, .int .i64 0, .int .i64 0, .bool false, .str [], .int .u64 0, .int .i64 0, .int .i64 0, .int .u64 0, .int .i64 0, .int .i64 0], .cells [.int .u8 2, .int .i64 0, .int .i64 0, .int .i64 0, .int .i64 0, .bool false, .str [], .int .u64 0, .int .i64 0, .int .i64 0, .int .u64 0, .int .i64 0, .int .i64 0]], []⟩)) (fun _ => none) := by kernel_rfl
theorem r29_4 {R : Type} (l : List UInt8) (K : Res → Option R) : runI (TS h4) (cT 4 3 3) 3 Try.f29 [.ptr 0 0] (rdH l) K = br (tkB l 4) (fun _ => K (Res.val (.agg [.int .u8 2, .int .i64 0, .int .i64 0, .int .i64 0, .int .i64 0, .bool false, .str [], .int .u64 0, .int .i64 0, .int .i64 0, .int .u64 0, .int .i64 0, .int .i64 0]) ⟨[.cells [.str l.tail], .cells [.int .u8 2, .int .i64 0, .int .i64 0, .int .i64 0, .int .i64 0, .bool false, .str [], .int .u64 0, .int .i64 0, .int .i64 0, .int .u64 0, .int .i64 0, .int .i64 0], .cells [.int .u8 2, .int .i64 0, .int .i64 0, .int .i64 0, .int .i64 0, .bool false, .str [], .int .u64 0, .int .i64 0, .int .i64 0, .int .u64 0, .int .i64 0, .int .i64 0]], []⟩)) (fun _ => none) := by kernel_rfl
theorem r29_5 {R : Type} (l : List UInt8) (K : Res → Option R) : runI (TS h4) (cT 5 3 3) 3 Try.f29 [.ptr 0 0] (rdH l) K = br (tkB l 5) (fun _ => K (Res.val (.agg [.int .u8 2, .int .i64 0, .int .i64 0, .int .i64 0, .int .i64 0, .bool false, .str [], .int .u64 0, .int .i64 0, .int .i64 0, .int .u64 0, .int .i64 0, .int .i64 0]) ⟨[.cells [.str l.tail], .cells [.int .u8 2, .int .i64 0, .int .i64 0, .int .i64 0, .int .i64 0, .bool false, .str [], .int .u64 0, .int .i64 0, .int .i64 0, .int .u64 0, .int .i64 0, .int .i64 0], .cells [.int .u8 2, .int .i64 0, .int .i64 0, .int .i64 0, .int .i64 0, .bool false, .str [], .int .u64 0, .int .i64 0, .int .i64 0, .int .u64 0, .int .i64 0, .int .i64 0]], []⟩)) (fun _ => none) := by kernel_rfl
theorem r29_6 {R : Type} (l : List UInt8) (K : Res → Option R) : runI (TS h4) (cT 6 3 3) 3 Try.f29 [.ptr 0 0] (rdH l) K = br (tkB l 6) (fun _ => K (Res.val (.agg [.int .u8 3, .int .i64 0, .int .i64 0, .int .i64 0, .int .i64 0, .bool false, .str (conV l.tail), .int .u64 0, .int .i64 0, .int .i64 0, .int .u64 0, .int .i64 0, .int .i64 0]) ⟨[.cells [.str (conR l.tail)], .cells [.int .u8 3, .int .i64 0, .int .i64 0, .int .i64 0, .int .i64 0, .bool false, .str (conV l.tail), .int .u64 0, .int .i64 0, .int .i64 0, .int .u64 0, .int .i64 0, .int .i64 0], .cells [.int .u8 3, .int .i64 0, .int .i64 0, .int .i64 0, .int .i64 0, .bool false, .str (conV l.tail), .int .u64 0, .int .i64 0, .int .i64 0, .int .u64 0, .int .i64 0, .int .i64 0]], []⟩)) (fun _ => none) := by kernel_rfl
theorem r29_7 {R : Type} (l : List UInt8) (K : Res → Option R) : runI (TS h4) (cT 7 3 3) 3 Try.f29 [.ptr 0 0] (rdH l) K = br (tkB l 7) (fun _ => K (Res.val (.agg [.int .u8 4, .int .i64 (takeV l.tail 6), .int .i64 0, .int .i64 0, .int .i64 0, .bool false, .str [], .int .u64 0, .int .i64 0, .int .i64 0, .int .u64 0, .int .i64 0, .int .i64 0]) ⟨[.cells [.str l.tail.tail], .cells [.int .u8 4, .int .i64 (takeV l.tail 6), .int .i64 0, .int .i64 0, .int .i64 0, .bool false, .str [], .int .u64 0, .int .i64 0, .int .i64 0, .int .u64 0, .int .i64 0, .int .i64 0], .cells [.int .u8 4, .int .i64 (takeV l.tail 6), .int .i64 0, .int .i64 0, .int .i64 0, .bool false, .str [], .int .u64 0, .int .i64 0, .int .i64 0, .int .u64 0, .int .i64 0, .int .i64 0]], []⟩)) (fun _ => none) := by kernel_rfl
theorem r29_8 {R : Type} (l : List UInt8) (K : Res → Option R) : runI (TS h4) (cT 8 3 3) 3 Try.f29 [.ptr 0 0] (rdH l) K = br (tkB l 8) (fun _ => K (Res.val (.agg [.int .u8 5, .int .i64 (takeV l.tail 4), .int .i64 0, .int .i64 0, .int .i64 (takeV l.tail.tail 3), .bool false, .str [], .int .u64 0, .int .i64 0, .int .i64 0, .int .u64 0, .int .i64 0, .int .i64 0]) ⟨[.cells [.str l.tail.tail.tail], .cells [.int .u8 5, .int .i64 (takeV l.tail 4), .int .i64 0, .int .i64 0, .int .i64 (takeV l.tail.tail 3), .bool false, .str [], .int .u64 0, .int .i64 0, .int .i64 0, .int .u64 0, .int .i64 0, .int .i64 0], .cells [.int .u8 5, .int .i64 (takeV l.tail 4), .int .i64 0, .int .i64 0, .int .i64 (takeV l.tail.tail 3), .bool false, .str [], .int .u64 0, .int .i64 0, .int .i64 0, .int .u64 0, .int .i64 0, .int .i64 0]], []⟩)) (fun _ => none) := by kernel_rfl
theorem r29_9 {R : Type} (l : List UInt8) (K : Res → Option R) : runI (TS h4) (cT 9 3 3) 3 Try.f29 [.ptr 0 0] (rdH l) K = br (tkB l 9) (fun _ => K (Res.val (.agg [.int .u8 6, .int .i64 0, .int .i64 (takeV l.tail 3), .int .i64 (takeV l.tail.tail 2), .int .i64 0, .bool (takeV l.tail.tail.tail 2 == (1 : Int)), .str [], .int .u64 0, .int .i64 0, .int .i64 0, .int .u64 0, .int .i64 0, .int .i64 0]) ⟨[.cells [.str l.tail.tail.tail.tail], .cells [.int .u8 6, .int .i64 0, .int .i64 (takeV l.tail 3), .int .i64 (takeV l.tail.tail 2), .int .i64 0, .bool (takeV l.tail.tail.tail 2 == (1 : Int)), .str [], .int .u64 0, .int .i64 0, .int .i64 0, .int .u64 0, .int .i64 0, .int .i64 0], .cells [.int .u8 6, .int .i64 0, .int .i64 (takeV l.tail 3), .int .i64 (takeV l.tail.tail 2), .int .i64 0, .bool (takeV l.tail.tail.tail 2 == (1 : Int)), .str [], .int .u64 0, .int .i64 0, .int .i64 0, .int .u64 0, .int .i64 0, .int .i64 0]], []⟩)) (fun _ => none) := by kernel_rfl
theorem r29_11 {R : Type} (l : List UInt8) (K : Res → Option R) : runI (TS h4) (cT 11 3 3) 3 Try.f29 [.ptr 0 0] (rdH l) K = br (tkB l 11) (fun _ => K (Res.val (.agg [.int .u8 8, .int .i64 0, .int .i64 0, .int .i64 0, .int .i64 0, .bool (takeV l.tail 2 == (1 : Int)), .str [], .int .u64 0, .int .i64 0, .int .i64 0, .int .u64 0, .int .i64 0, .int .i64 0]) ⟨[.cells [.str l.tail.tail], .cells [.int .u8 8, .int .i64 0, .int .i64 0, .int .i64 0, .int .i64 0, .bool (takeV l.tail 2 == (1 : Int)), .str [], .int .u64 0, .int .i64 0, .int .i64 0, .int .u64 0, .int .i64 0, .int .i64 0], .cells [.int .u8 8, .int .i64 0, .int .i64 0, .int .i64 0, .int .i64 0, .bool (takeV l.tail 2 == (1 : Int)), .str [], .int .u64 0, .int .i64 0, .int .i64 0, .int .u64 0, .int .i64 0, .int .i64 0]], []⟩)) (fun _ => none) := by kernel_rfl
theorem r29_12 {R : Type} (l : List UInt8) (K : Res → Option R) : runI (TS h4) (cT 12 3 3) 3 Try.f29 [.ptr 0 0] (rdH l) K = br (tkB l 12) (fun _ => K (Res.val (.agg [.int .u8 9, .int .i64 0, .int .i64 0, .int .i64 0, .int .i64 0, .bool (takeV l.tail 2 == (1 : Int)), .str [], .int .u64 0, .int .i64 0, .int .i64 0, .int .u64 0, .int .i64 0, .int .i64 0]) ⟨[.cells [.str l.tail.tail], .cells [.int .u8 9, .int .i64 0, .int .i64 0, .int .i64 0, .int .i64 0, .bool (takeV l.tail 2 == (1 : Int)), .str [], .int .u64 0, .int .i64 0, .int .i64 0, .int .u64 0, .int .i64 0, .int .i64 0], .cells [.int .u8 9, .int .i64 0, .int .i64 0, .int .i64 0, .int .i64 0, .bool (takeV l.tail 2 == (1 : Int)), .str [], .int .u64 0, .int .i64 0, .int .i64 0, .int .u64 0, .int .i64 0, .int .i64 0]], []⟩)) (fun _ => none) := by kernel_rfl
theorem r29_13 {R : Type} (l : List UInt8) (K : Res → Option R) : runI (TS h4) (cT 13 3 3) 3 Try.f29 [.ptr 0 0] (rdH l) K = br (tkB l 13) (fun _ => K (Res.val (.agg [.int .u8 10, .int .i64 (takeV l.tail 20), .int .i64 0, .int .i64 0, .int .i64 0, .bool false, .str [], .int .u64 (chKeep l.tail.tail), .int .i64 (takeV (chRest l.tail.tail) 4 - (1 : Int)), .int .i64 (takeV (chRest l.tail.tail).tail 80), .int .u64 (chKeep (chRest l.tail.tail).tail.tail), .int .i64 (takeV (chRest (chRest l.tail.tail).tail.tail) (4 : Int) - (1 : Int)), .int .i64 (takeV (chRest (chRest l.tail.tail).tail.tail).tail (80 : Int))]) ⟨[.cells [.str (chRest (chRest l.tail.tail).tail.tail).tail.tail], .cells [.int .u8 10, .int .i64 (takeV l.tail 20), .int .i64 0, .int .i64 0, .int .i64 0, .bool false, .str [], .int .u64 (chKeep l.tail.tail), .int .i64 (takeV (chRest l.tail.tail) 4 - (1 : Int)), .int .i64 (takeV (chRest l.tail.tail).tail 80), .int .u64 (chKeep (chRest l.tail.tail).tail.tail), .int .i64 (takeV (chRest (chRest l.tail.tail).tail.tail) (4 : Int) - (1 : Int)), .int .i64 (takeV (chRest (chRest l.tail.tail).tail.tail).tail (80 : Int))], .cells [.int .u8 10, .int .i64 (takeV l.tail 20), .int .i64 0, .int .i64 0, .int .i64 0, .bool false, .str [], .int .u64 (chKeep l.tail.tail), .int .i64 (takeV (chRest l.tail.tail) 4 - (1 : Int)), .int .i64 (takeV (chRest l.tail.tail).tail 80), .int .u64 (chKeep (chRest l.tail.tail).tail.tail), .int .i64 (takeV (chRest (chRest l.tail.tail).tail.tail) (4 : Int) - (1 : Int)), .int .i64 (takeV (chRest (chRest l.tail.tail).tail.tail).tail (80 : Int))]], []⟩)) (fun _ => none) := by kernel_rfl
theorem r29_14 {R : Type} (l : List UInt8) (K : Res → Option R) : runI (TS h4) (cT 14 3 3) 3 Try.f29 [.ptr 0 0] (rdH l) K = br (tkB l 14) (fun _ => K (Res.val (.agg [.int .u8 11, .int .i64 0, .int .i64 0, .int .i64 0, .int .i64 0, .bool false, .str [], .int .u64 0, .int .i64 0, .int .i64 0, .int .u64 0, .int .i64 0, .int .i64 0]) ⟨[.cells [.str l.tail], .cells [.int .u8 11, .int .i64 0, .int .i64 0, .int .i64 0, .int .i64 0, .bool false, .str [], .int .u64 0, .int .i64 0, .int .i64 0, .int .u64 0, .int .i64 0, .int .i64 0], .cells [.int .u8 11, .int .i64 0, .int .i64 0, .int .i64 0, .int .i64 0, .bool false, .str [], .int .u64 0, .int .i64 0, .int .i64 0, .int .u64 0, .int .i64 0, .int .i64 0]], []⟩)) (fun _ => none) := by kernel_rfl
theorem r29_15 {R : Type} (l : List UInt8) (K : Res → Option R) : runI (TS h4) (cT 15 3 3) 3 Try.f29 [.ptr 0 0] (rdH l) K = br (tkB l 15) (fun _ => br (takeV l.tail 2 == (1 : Int)) (fun _ => K (Res.val (.agg [.int .u8 13, .int .i64 (takeV l.tail.tail.tail.tail 100), .int .i64 (takeV l.tail.tail 3), .int .i64 (takeV l.tail.tail.tail 2), .int .i64 (takeV l.tail.tail.tail.tail.tail 200), .bool false, .str [], .int .u64 0, .int .i64 0, .int .i64 0, .int .u64 0, .int .i64 0, .int .i64 0]) ⟨[.cells [.str l.tail.tail.tail.tail.tail.tail], .cells [.int .u8 13, .int .i64 (takeV l.tail.tail.tail.tail 100), .int .i64 (takeV l.tail.tail 3), .int .i64 (takeV l.tail.tail.tail 2), .int .i64 (takeV l.tail.tail.tail.tail.tail 200), .bool false, .str [], .int .u64 0, .int .i64 0, .int .i64 0, .int .u64 0, .int .i64 0, .int .i64 0], .cells [.int .u8 13, .int .i64 (takeV l.tail.tail.tail.tail 100), .int .i64 (takeV l.tail.tail 3), .int .i64 (takeV l.tail.tail.tail 2), .int .i64 (takeV l.tail.tail.tail.tail.tail 200), .bool false, .str [], .int .u64 0, .int .i64 0, .int .i64 0, .int .u64 0, .int .i64 0, .int .i64 0]], []⟩)) (fun _ => K (Res.val (.agg [.int .u8 12, .int .i64 0, .int .i64 0, .int .i64 0, .int .i64 0, .bool false, .str [], .int .u64 0, .int .i64 0, .int .i64 0, .int .u64 0, .int .i64 0, .int .i64 0]) ⟨[.cells [.str l.tail.tail], .cells [.int .u8 12, .int .i64 0, .int .i64 0, .int .i64 0, .int .i64 0, .bool false, .str [], .int .u64 0, .int .i64 0, .int .i64 0, .int .u64 0, .int .i64 0, .int .i64 0], .cells [.int .u8 12, .int .i64 0, .int .i64 0, .int .i64 0, .int .i64 0, .bool false, .str [], .int .u64 0, .int .i64 0, .int .i64 0, .int .u64 0, .int .i64 0, .int .i64 0]], []⟩))) (fun _ => none) := by kernel_rfl
end Go.Proofs.Ytanpcjopgcpooaa
set_option maxRecDepth 100000
set_option linter.unusedSimpArgs false
set_option linter.unusedVariables false
namespace Go.Proofs.Ytanpcjopgcpooaa
open Go.Sx
noncomputable def evB : Code := subC (bodyOf Try.f29) ([1, 1, 1, 0, 1, 1, 0, 1, 1, 1, 1, 1, 1, 1, 1, 1, 1, 1, 1, 1, 0, 1, 1, 1, 1, 1, 0] ++ [0])
abbrev evPath : List Nat := [1, 1, 1, 0, 1, 1, 0, 1, 1, 1, 1, 1, 1, 1, 1, 1, 1, 1, 1, 1, 0, 1, 1, 1, 1, 1, 0]
theorem r29_10 {R : Type} (fuel k : Nat) (l : List UInt8) (K : Res → Option R) : runI (TS h4) (cT 10 fuel 3) k Try.f29 [.ptr 0 0] (rdH l) K = br (tkB l 10) (fun _ => loopC (TS h4) (cT 10 fuel 3) k evB k [.ptr 0 0, .top, .ptr 1 0, .func (Fn.func 28) [.ptr 0 0] [], .ptr 2 0, .int .i64 10, .int .u8 (IntKind.u8.wrap (IntKind.i64.wrap (97 + takeV l.tail.tail 26))), .int .i64 (IntKind.i64.wrap (1 + takeV l.tail.tail.tail 60)), .ptr 0 0, .func (Fn.func 28) [.ptr 0 0] [], .func (Fn.func 28) [.ptr 0 0] [], .int .i64 10, .int .i64 10, .top, .top, .top, .top, .top, .top, .top, .top, .top, .top, .top, .top, .top, .top, .top, .top, .top, .bool false, .bool false, .bool false, .bool false, .top, .bool false, .bool false, .bool false, .bool false, .top, .bool false, .bool false, .top, .top, .top, .top, .bool false, .bool false, .top, .top, .top, .top, .bool false, .bool false, .top, .top, .top, .top, .top, .top, .top, .bool false, .bool false, .top, .top, .top, .top, .top, .top, .top, .top, .top, .top, .top, .bool true, .bool true, .ptr 2 0, .func (Fn.func 28) [.ptr 0 0] [], .int .i64 (takeV l.tail 4), .ptr 2 1, .func (Fn.func 28) [.ptr 0 0] [], .int .i64 (takeV l.tail.tail 26), .int .i64 (IntKind.i64.wrap (97 + takeV l.tail.tail 26)), .int .u8 (IntKind.u8.wrap (IntKind.i64.wrap (97 + takeV l.tail.tail 26))), .func (Fn.func 28) [.ptr 0 0] [], .int .i64 (takeV l.tail.tail.tail 60), .int .i64 (IntKind.i64.wrap (1 + takeV l.tail.tail.tail 60)), .int .i64 (IntKind.i64.wrap (1 + takeV l.tail.tail.tail 60)), .int .i64 0, .top, .top, .top, .top, .top, .top, .top, .top, .top, .top, .top, .top, .top, .top, .top, .top, .top, .top, .top, .top, .top, .top, .top, .top, .top, .top, .top, .top, .top, .top, .top, .top, .top, .top, .top] ⟨[.cells [.str l.tail.tail.tail.tail], .cells [.int .u8 0, .int .i64 0, .int .i64 0, .int .i64 0, .int .i64 0, .bool false, .str [], .int .u64 0, .int .i64 0, .int .i64 0, .int .u64 0, .int .i64 0, .int .i64 0], .cells [.int .u8 7, .int .i64 (takeV l.tail 4), .int .i64 0, .int .i64 0, .int .i64 0, .bool false, .str [], .int .u64 0, .int .i64 0, .int .i64 0, .int .u64 0, .int .i64 0, .int .i64 0]], []⟩ (kontI (TS h4) (cT 10 fuel 3) k (bodyOf Try.f29) evPath (endI (TS h4) Try.f29 K))) (fun _ => none) := by kernel_rfl
theorem evl_step {R : Type} (fuel k : Nat) (l s : List UInt8) (o : List AV) (k1 : AV) (c n i : Int) (x0 x1 x3 x5 x7 x8 x9 x10 x11 x12 x13 x14 x15 x16 x17 x18 x19 x20 x21 x22 x23 x24 x25 x26 x27 x28 x29 x30 x31 x32 x33 x34 x35 x36 x37 x38 x39 x40 x41 x42 x43 x44 x45 x46 x47 x48 x49 x50 x51 x52 x53 x54 x55 x56 x57 x58 x59 x60 x61 x62 x63 x64 x65 x66 x67 x68 x69 x70 x71 x72 x73 x74 x75 x76 x77 x78 x79 x80 x81 x82 x83 x84 x85 x86 x89 x90 x91 x92 x93 x94 x95 x96 x97 x98 x99 x100 x101 x102 x103 x104 x105 x106 x107 x108 x109 x110 x111 x112 x113 x114 x115 x116 x117 x118 x119 x120 x121 x122 x123 : AV) (K : Ex → List AV → AH → Option R) : loopC (TS h4) (cT 10 fuel 3) fuel evB (k + 1) [x0, x1, .ptr 1 0, x3, .ptr 2 0, x5, .int .u8 c, x7, x8, x9, x10, x11, x12, x13, x14, x15, x16, x17, x18, x19, x20, x21, x22, x23, x24, x25, x26, x27, x28, x29, x30, x31, x32, x33, x34, x35, x36, x37, x38, x39, x40, x41, x42, x43, x44, x45, x46, x47, x48, x49, x50, x51, x52, x53, x54, x55, x56, x57, x58, x59, x60, x61, x62, x63, x64, x65, x66, x67, x68, x69, x70, x71, x72, x73, x74, x75, x76, x77, x78, x79, x80, x81, x82, x83, x84, x85, x86, .int .i64 n, .int .i64 i, x89, x90, x91, x92, x93, x94, x95, x96, x97, x98, x99, x100, x101, x102, x103, x104, x105, x106, x107, x108, x109, x110, x111, x112, x113, x114, x115, x116, x117, x118, x119, x120, x121, x122, x123] ⟨[.cells [.str l], .cells o, .cells [.int .u8 7, k1, .int .i64 0, .int .i64 0, .int .i64 0, .bool false, .str s, .int .u64 0, .int .i64 0, .int .i64 0, .int .u64 0, .int .i64 0, .int .i64 0]], []⟩ K = br (decide (i < n)) (fun _ => (if (0 : Int) ≤ c ∧ c < (128 : Int) then (if s.length + 1 ≤ 9223372036854775807 then loopC (TS h4) (cT 10 fuel 3) fuel evB k [rv x0, rv x1, .ptr 1 0, rv x3, .ptr 2 0, rv x5, .int .u8 c, rv x7, rv x8, rv x9, rv x10, rv x11, rv x12, rv x13, rv x14, rv x15, rv x16, rv x17, rv x18, rv x19, rv x20, rv x21, rv x22, rv x23, rv x24, rv x25, rv x26, rv x27, rv x28, rv x29, rv x30, rv x31, rv x32, rv x33, rv x34, rv x35, rv x36, rv x37, rv x38, rv x39, rv x40, rv x41, rv x42, rv x43, rv x44, rv x45, rv x46, rv x47, rv x48, rv x49, rv x50, rv x51, rv x52, rv x53, rv x54, rv x55, rv x56, rv x57, rv x58, rv x59, rv x60, rv x61, rv x62, rv x63, rv x64, rv x65, rv x66, rv x67, rv x68, rv x69, rv x70, rv x71, rv x72, rv x73, rv x74, rv x75, rv x76, rv x77, rv x78, rv x79, rv x80, rv x81, rv x82, rv x83, rv x84, rv x85, rv x86, .int .i64 n, .int .i64 (IntKind.i64.wrap (i + (1 : Int))), resetV x89 (.bool (decide (i < n))), resetV x90 (.ptr 2 6), resetV x91 (.str s), resetV x92 (.int .u8 c), resetV x93 (.str [UInt8.ofNat c.toNat]), resetV x94 (.str (s ++ [UInt8.ofNat c.toNat])), resetV x95 (.ptr 2 6), resetV x96 (.int .i64 (IntKind.i64.wrap (i + (1 : Int)))), rv x97, rv x98, rv x99, rv x100, rv x101, rv x102, rv x103, rv x104, rv x105, rv x106, rv x107, rv x108, rv x109, rv x110, rv x111, rv x112, rv x113, rv x114, rv x115, rv x116, rv x117, rv x118, rv x119, rv x120, rv x121, rv x122, rv x123] ⟨[.cells [.str l], .cells o, .cells [.int .u8 7, k1, .int .i64 0, .int .i64 0, .int .i64 0, .bool false, .str (s ++ [UInt8.ofNat c.toNat]), .int .u64 0, .int .i64 0, .int .i64 0, .int .u64 0, .int .i64 0, .int .i64 0]], []⟩ K else none) else none)) (fun _ => K (.exit 1) [rv x0, rv x1, .ptr 1 0, rv x3, .ptr 2 0, rv x5, .int .u8 c, rv x7, rv x8, rv x9, rv x10, rv x11, rv x12, rv x13, rv x14, rv x15, rv x16, rv x17, rv x18, rv x19, rv x20, rv x21, rv x22, rv x23, rv x24, rv x25, rv x26, rv x27, rv x28, rv x29, rv x30, rv x31, rv x32, rv x33, rv x34, rv x35, rv x36, rv x37, rv x38, rv x39, rv x40, rv x41, rv x42, rv x43, rv x44, rv x45, rv x46, rv x47, rv x48, rv x49, rv x50, rv x51, rv x52, rv x53, rv x54, rv x55, rv x56, rv x57, rv x58, rv x59, rv x60, rv x61, rv x62, rv x63, rv x64, rv x65, rv x66, rv x67, rv x68, rv x69, rv x70, rv x71, rv x72, rv x73, rv x74, rv x75, rv x76, rv x77, rv x78, rv x79, rv x80, rv x81, rv x82, rv x83, rv x84, rv x85, rv x86, .int .i64 n, .int .i64 i, resetV x89 (.bool (decide (i < n))), rv x90, rv x91, rv x92, rv x93, rv x94, rv x95, rv x96, rv x97, rv x98, rv x99, rv x100, rv x101, rv x102, rv x103, rv x104, rv x105, rv x106, rv x107, rv x108, rv x109, rv x110, rv x111, rv x112, rv x113, rv x114, rv x115, rv x116, rv x117, rv x118, rv x119, rv x120, rv x121, rv x122, rv x123] ⟨[.cells [.str l], .cells o, .cells [.int .u8 7, k1, .int .i64 0, .int .i64 0, .int .i64 0, .bool false, .str s, .int .u64 0, .int .i64 0, .int .i64 0, .int .u64 0, .int .i64 0, .int .i64 0]], []⟩) := by kernel_rfl
theorem evl_end {R : Type} (fuel k : Nat) (l s : List UInt8) (k1 a0 a1 a2 a3 a4 a5 a6 a7 a8 a9 a10 a11 a12 : AV) (c n i : Int) (x0 x1 x3 x5 x7 x8 x9 x10 x11 x12 x13 x14 x15 x16 x17 x18 x19 x20 x21 x22 x23 x24 x25 x26 x27 x28 x29 x30 x31 x32 x33 x34 x35 x36 x37 x38 x39 x40 x41 x42 x43 x44 x45 x46 x47 x48 x49 x50 x51 x52 x53 x54 x55 x56 x57 x58 x59 x60 x61 x62 x63 x64 x65 x66 x67 x68 x69 x70 x71 x72 x73 x74 x75 x76 x77 x78 x79 x80 x81 x82 x83 x84 x85 x86 x89 x90 x91 x92 x93 x94 x95 x96 x97 x98 x99 x100 x101 x102 x103 x104 x105 x106 x107 x108 x109 x110 x111 x112 x113 x114 x115 x116 x117 x118 x119 x120 x121 x122 x123 : AV) (K : Res → Option R) : kontI (TS h4) (cT 10 fuel 3) k (bodyOf Try.f29) evPath (endI (TS h4) Try.f29 K) (.exit 1) [x0, x1, .ptr 1 0, x3, .ptr 2 0, x5, .int .u8 c, x7, x8, x9, x10, x11, x12, x13, x14, x15, x16, x17, x18, x19, x20, x21, x22, x23, x24, x25, x26, x27, x28, x29, x30, x31, x32, x33, x34, x35, x36, x37, x38, x39, x40, x41, x42, x43, x44, x45, x46, x47, x48, x49, x50, x51, x52, x53, x54, x55, x56, x57, x58, x59, x60, x61, x62, x63, x64, x65, x66, x67, x68, x69, x70, x71, x72, x73, x74, x75, x76, x77, x78, x79, x80, x81, x82, x83, x84, x85, x86, .int .i64 n, .int .i64 i, x89, x90, x91, x92, x93, x94, x95, x96, x97, x98, x99, x100, x101, x102, x103, x104, x105, x106, x107, x108, x109, x110, x111, x112, x113, x114, x115, x116, x117, x118, x119, x120, x121, x122, x123] ⟨[.cells [.str l], .cells [a0, a1, a2, a3, a4, a5, a6, a7, a8, a9, a10, a11, a12], .cells [.int .u8 7, k1, .int .i64 0, .int .i64 0, .int .i64 0, .bool false, .str s, .int .u64 0, .int .i64 0, .int .i64 0, .int .u64 0, .int .i64 0, .int .i64 0]], []⟩ = K (Res.val (.agg [.int .u8 7, k1, .int .i64 0, .int .i64 0, .int .i64 0, .bool false, .str s, .int .u64 0, .int .i64 0, .int .i64 0, .int .u64 0, .int .i64 0, .int .i64 0]) ⟨[.cells [.str l], .cells [.int .u8 7, k1, .int .i64 0, .int .i64 0, .int .i64 0, .bool false, .str s, .int .u64 0, .int .i64 0, .int .i64 0, .int .u64 0, .int .i64 0, .int .i64 0], .cells [.int .u8 7, k1, .int .i64 0, .int .i64 0, .int .i64 0, .bool false, .str s, .int .u64 0, .int .i64 0, .int .i64 0, .int .u64 0, .int .i64 0, .int .i64 0]], []⟩) := by kernel_rfl
theorem evl_loop {R : Type} (fuel : Nat) (l : List UInt8) (o : List AV) (k1 : AV) (c n : Int) (hc : 0 ≤ c ∧ c < 128) (hn : n ≤ 1000) (K : Ex → List AV → AH → Option R) (Q : R → Prop) :
    ∀ (m k : Nat) (i : Int) (s : List UInt8), m < k → i + m = n → 0 ≤ i → s.length + m ≤ 1000 →
    (∀ (i : Int) (x0 x1 x3 x5 x7 x8 x9 x10 x11 x12 x13 x14 x15 x16 x17 x18 x19 x20 x21 x22 x23 x24 x25 x26 x27 x28 x29 x30 x31 x32 x33 x34 x35 x36 x37 x38 x39 x40 x41 x42 x43 x44 x45 x46 x47 x48 x49 x50 x51 x52 x53 x54 x55 x56 x57 x58 x59 x60 x61 x62 x63 x64 x65 x66 x67 x68 x69 x70 x71 x72 x73 x74 x75 x76 x77 x78 x79 x80 x81 x82 x83 x84 x85 x86 x89 x90 x91 x92 x93 x94 x95 x96 x97 x98 x99 x100 x101 x102 x103 x104 x105 x106 x107 x108 x109 x110 x111 x112 x113 x114 x115 x116 x117 x118 x119 x120 x121 x122 x123 : AV), ∃ r, K (.exit 1) [x0, x1, .ptr 1 0, x3, .ptr 2 0, x5, .int .u8 c, x7, x8, x9, x10, x11, x12, x13, x14, x15, x16, x17, x18, x19, x20, x21, x22, x23, x24, x25, x26, x27, x28, x29, x30, x31, x32, x33, x34, x35, x36, x37, x38, x39, x40, x41, x42, x43, x44, x45, x46, x47, x48, x49, x50, x51, x52, x53, x54, x55, x56, x57, x58, x59, x60, x61, x62, x63, x64, x65, x66, x67, x68, x69, x70, x71, x72, x73, x74, x75, x76, x77, x78, x79, x80, x81, x82, x83, x84, x85, x86, .int .i64 n, .int .i64 i, x89, x90, x91, x92, x93, x94, x95, x96, x97, x98, x99, x100, x101, x102, x103, x104, x105, x106, x107, x108, x109, x110, x111, x112, x113, x114, x115, x116, x117, x118, x119, x120, x121, x122, x123] ⟨[.cells [.str l], .cells o, .cells [.int .u8 7, k1, .int .i64 0, .int .i64 0, .int .i64 0, .bool false, .str (s ++ List.replicate m (UInt8.ofNat c.toNat)), .int .u64 0, .int .i64 0, .int .i64 0, .int .u64 0, .int .i64 0, .int .i64 0]], []⟩ = some r ∧ Q r) →
    ∀ (x0 x1 x3 x5 x7 x8 x9 x10 x11 x12 x13 x14 x15 x16 x17 x18 x19 x20 x21 x22 x23 x24 x25 x26 x27 x28 x29 x30 x31 x32 x33 x34 x35 x36 x37 x38 x39 x40 x41 x42 x43 x44 x45 x46 x47 x48 x49 x50 x51 x52 x53 x54 x55 x56 x57 x58 x59 x60 x61 x62 x63 x64 x65 x66 x67 x68 x69 x70 x71 x72 x73 x74 x75 x76 x77 x78 x79 x80 x81 x82 x83 x84 x85 x86 x89 x90 x91 x92 x93 x94 x95 x96 x97 x98 x99 x100 x101 x102 x103 x104 x105 x106 x107 x108 x109 x110 x111 x112 x113 x114 x115 x116 x117 x118 x119 x120 x121 x122 x123 : AV), ∃ r, loopC (TS h4) (cT 10 fuel 3) fuel evB k [x0, x1, .ptr 1 0, x3, .ptr 2 0, x5, .int .u8 c, x7, x8, x9, x10, x11, x12, x13, x14, x15, x16, x17, x18, x19, x20, x21, x22, x23, x24, x25, x26, x27, x28, x29, x30, x31, x32, x33, x34, x35, x36, x37, x38, x39, x40, x41, x42, x43, x44, x45, x46, x47, x48, x49, x50, x51, x52, x53, x54, x55, x56, x57, x58, x59, x60, x61, x62, x63, x64, x65, x66, x67, x68, x69, x70, x71, x72, x73, x74, x75, x76, x77, x78, x79, x80, x81, x82, x83, x84, x85, x86, .int .i64 n, .int .i64 i, x89, x90, x91, x92, x93, x94, x95, x96, x97, x98, x99, x100, x101, x102, x103, x104, x105, x106, x107, x108, x109, x110, x111, x112, x113, x114, x115, x116, x117, x118, x119, x120, x121, x122, x123] ⟨[.cells [.str l], .cells o, .cells [.int .u8 7, k1, .int .i64 0, .int .i64 0, .int .i64 0, .bool false, .str s, .int .u64 0, .int .i64 0, .int .i64 0, .int .u64 0, .int .i64 0, .int .i64 0]], []⟩ K = some r ∧ Q r := by
  intro m
  induction m with
  | zero =>
    intro k i s hk hi h0 hs hK x0 x1 x3 x5 x7 x8 x9 x10 x11 x12 x13 x14 x15 x16 x17 x18 x19 x20 x21 x22 x23 x24 x25 x26 x27 x28 x29 x30 x31 x32 x33 x34 x35 x36 x37 x38 x39 x40 x41 x42 x43 x44 x45 x46 x47 x48 x49 x50 x51 x52 x53 x54 x55 x56 x57 x58 x59 x60 x61 x62 x63 x64 x65 x66 x67 x68 x69 x70 x71 x72 x73 x74 x75 x76 x77 x78 x79 x80 x81 x82 x83 x84 x85 x86 x89 x90 x91 x92 x93 x94 x95 x96 x97 x98 x99 x100 x101 x102 x103 x104 x105 x106 x107 x108 x109 x110 x111 x112 x113 x114 x115 x116 x117 x118 x119 x120 x121 x122 x123
    obtain ⟨k, rfl⟩ : ∃ j, k = j + 1 := ⟨k - 1, by omega⟩
    rw [evl_step, br_f (by omega)]
    simp only [resetV_self, rv_self]
    simp only [List.replicate_zero, List.append_nil] at hK
    exact hK ..
  | succ m ih =>
    intro k i s hk hi h0 hs hK x0 x1 x3 x5 x7 x8 x9 x10 x11 x12 x13 x14 x15 x16 x17 x18 x19 x20 x21 x22 x23 x24 x25 x26 x27 x28 x29 x30 x31 x32 x33 x34 x35 x36 x37 x38 x39 x40 x41 x42 x43 x44 x45 x46 x47 x48 x49 x50 x51 x52 x53 x54 x55 x56 x57 x58 x59 x60 x61 x62 x63 x64 x65 x66 x67 x68 x69 x70 x71 x72 x73 x74 x75 x76 x77 x78 x79 x80 x81 x82 x83 x84 x85 x86 x89 x90 x91 x92 x93 x94 x95 x96 x97 x98 x99 x100 x101 x102 x103 x104 x105 x106 x107 x108 x109 x110 x111 x112 x113 x114 x115 x116 x117 x118 x119 x120 x121 x122 x123
    obtain ⟨k, rfl⟩ : ∃ j, k = j + 1 := ⟨k - 1, by omega⟩
    rw [evl_step, br_t (by omega), if_pos hc, if_pos (by omega), IntWalk.i64_in _ (by omega)]
    simp only [resetV_self, rv_self]
    refine ih k (i + 1) _ (by omega) (by omega) (by omega) (by simp; omega) ?_ ..
    intro i x0 x1 x3 x5 x7 x8 x9 x10 x11 x12 x13 x14 x15 x16 x17 x18 x19 x20 x21 x22 x23 x24 x25 x26 x27 x28 x29 x30 x31 x32 x33 x34 x35 x36 x37 x38 x39 x40 x41 x42 x43 x44 x45 x46 x47 x48 x49 x50 x51 x52 x53 x54 x55 x56 x57 x58 x59 x60 x61 x62 x63 x64 x65 x66 x67 x68 x69 x70 x71 x72 x73 x74 x75 x76 x77 x78 x79 x80 x81 x82 x83 x84 x85 x86 x89 x90 x91 x92 x93 x94 x95 x96 x97 x98 x99 x100 x101 x102 x103 x104 x105 x106 x107 x108 x109 x110 x111 x112 x113 x114 x115 x116 x117 x118 x119 x120 x121 x122 x123
    have := hK i x0 x1 x3 x5 x7 x8 x9 x10 x11 x12 x13 x14 x15 x16 x17 x18 x19 x20 x21 x22 x23 x24 x25 x26 x27 x28 x29 x30 x31 x32 x33 x34 x35 x36 x37 x38 x39 x40 x41 x42 x43 x44 x45 x46 x47 x48 x49 x50 x51 x52 x53 x54 x55 x56 x57 x58 x59 x60 x61 x62 x63 x64 x65 x66 x67 x68 x69 x70 x71 x72 x73 x74 x75 x76 x77 x78 x79 x80 x81 x82 x83 x84 x85 x86 x89 x90 x91 x92 x93 x94 x95 x96 x97 x98 x99 x100 x101 x102 x103 x104 x105 x106 x107 x108 x109 x110 x111 x112 x113 x114 x115 x116 x117 x118 x119 x120 x121 x122 x123
    rw [List.replicate_succ] at this
    rw [List.append_assoc]
    exact this
theorem go29_10 (l : List UInt8) (h : takeV l 16 = ((10 : Nat) : Int)) : ∃ os tk, runI (TS h4) (cT 10 80 3) 80 Try.f29 [.ptr 0 0] (rdH l) some = some (.val (evE l).av ⟨.cells [.str (evR l)] :: os, tk⟩) := by
  have h1' := takeV_in l.tail.tail 26 (by omega)
  have h2 := takeV_in l.tail.tail.tail 60 (by omega)
  have e1 : IntKind.u8.wrap (97 + takeV l.tail.tail 26) = 97 + takeV l.tail.tail 26 := IntWalk.u8_in _ (by omega)
  have e2 : IntKind.i64.wrap (97 + takeV l.tail.tail 26) = 97 + takeV l.tail.tail 26 := IntWalk.i64_in _ (by omega)
  have e3 : IntKind.i64.wrap (1 + takeV l.tail.tail.tail 60) = 1 + takeV l.tail.tail.tail 60 := IntWalk.i64_in _ (by omega)
  obtain ⟨m, hm⟩ : ∃ m : Nat, 1 + takeV l.tail.tail.tail 60 = m := ⟨(1 + takeV l.tail.tail.tail 60).toNat, by omega⟩
  have e5 : outV l.tail.tail = [] ++ List.replicate m (UInt8.ofNat (97 + takeV l.tail.tail 26).toNat) := by
    unfold outV
    rw [hm]
    simp
  have e6 : (evE l).av = .agg [.int .u8 7, .int .i64 (takeV l.tail 4), .int .i64 0, .int .i64 0, .int .i64 0, .bool false, .str ([] ++ List.replicate m (UInt8.ofNat (97 + takeV l.tail.tail 26).toNat)), .int .u64 0, .int .i64 0, .int .i64 0, .int .u64 0, .int .i64 0, .int .i64 0] := by
    unfold evE
    rw [h, ← e5]
    rfl
  have e7 : evR l = l.tail.tail.tail.tail := by
    unfold evR
    rw [h]
    rfl
  rw [r29_10, tkB_t h]
  simp only [br, e2, e1, e3]
  rw [e6, e7]
  obtain ⟨r, h3, os, tk, h4⟩ := evl_loop 80 l.tail.tail.tail.tail [.int .u8 0, .int .i64 0, .int .i64 0, .int .i64 0, .int .i64 0, .bool false, .str [], .int .u64 0, .int .i64 0, .int .i64 0, .int .u64 0, .int .i64 0, .int .i64 0] (.int .i64 (takeV l.tail 4)) (97 + takeV l.tail.tail 26) (1 + takeV l.tail.tail.tail 60) (by omega) (by omega) (kontI (TS h4) (cT 10 80 3) 80 (bodyOf Try.f29) evPath (endI (TS h4) Try.f29 some)) (fun r => ∃ os tk, r = Res.val (.agg [.int .u8 7, .int .i64 (takeV l.tail 4), .int .i64 0, .int .i64 0, .int .i64 0, .bool false, .str ([] ++ List.replicate m (UInt8.ofNat (97 + takeV l.tail.tail 26).toNat)), .int .u64 0, .int .i64 0, .int .i64 0, .int .u64 0, .int .i64 0, .int .i64 0]) ⟨.cells [.str l.tail.tail.tail.tail] :: os, tk⟩) m 80 0 [] (by omega) (by omega) (by omega) (by simp; omega) (by
    intro i x0 x1 x3 x5 x7 x8 x9 x10 x11 x12 x13 x14 x15 x16 x17 x18 x19 x20 x21 x22 x23 x24 x25 x26 x27 x28 x29 x30 x31 x32 x33 x34 x35 x36 x37 x38 x39 x40 x41 x42 x43 x44 x45 x46 x47 x48 x49 x50 x51 x52 x53 x54 x55 x56 x57 x58 x59 x60 x61 x62 x63 x64 x65 x66 x67 x68 x69 x70 x71 x72 x73 x74 x75 x76 x77 x78 x79 x80 x81 x82 x83 x84 x85 x86 x89 x90 x91 x92 x93 x94 x95 x96 x97 x98 x99 x100 x101 x102 x103 x104 x105 x106 x107 x108 x109 x110 x111 x112 x113 x114 x115 x116 x117 x118 x119 x120 x121 x122 x123
    rw [evl_end]
    exact ⟨_, rfl, _, _, rfl⟩) (AV.ptr 0 0) AV.top (AV.func (Fn.func 28) [AV.ptr 0 0] []) (AV.int IntKind.i64 ((10 : Int))) (AV.int IntKind.i64 (1 + takeV l.tail.tail.tail 60)) (AV.ptr 0 0) (AV.func (Fn.func 28) [AV.ptr 0 0] []) (AV.func (Fn.func 28) [AV.ptr 0 0] []) (AV.int IntKind.i64 ((10 : Int))) (AV.int IntKind.i64 ((10 : Int))) AV.top AV.top AV.top AV.top AV.top AV.top AV.top AV.top AV.top AV.top AV.top AV.top AV.top AV.top AV.top AV.top AV.top (AV.bool false) (AV.bool false) (AV.bool false) (AV.bool false) AV.top (AV.bool false) (AV.bool false) (AV.bool false) (AV.bool false) AV.top (AV.bool false) (AV.bool false) AV.top AV.top AV.top AV.top (AV.bool false) (AV.bool false) AV.top AV.top AV.top AV.top (AV.bool false) (AV.bool false) AV.top AV.top AV.top AV.top AV.top AV.top AV.top (AV.bool false) (AV.bool false) AV.top AV.top AV.top AV.top AV.top AV.top AV.top AV.top AV.top AV.top AV.top (AV.bool true) (AV.bool true) (AV.ptr 2 0) (AV.func (Fn.func 28) [AV.ptr 0 0] []) (AV.int IntKind.i64 (takeV l.tail ((4 : Int)))) (AV.ptr 2 1) (AV.func (Fn.func 28) [AV.ptr 0 0] []) (AV.int IntKind.i64 (takeV l.tail.tail ((26 : Int)))) (AV.int IntKind.i64 (97 + takeV l.tail.tail 26)) (AV.int IntKind.u8 (97 + takeV l.tail.tail 26)) (AV.func (Fn.func 28) [AV.ptr 0 0] []) (AV.int IntKind.i64 (takeV l.tail.tail.tail ((60 : Int)))) (AV.int IntKind.i64 (1 + takeV l.tail.tail.tail 60)) AV.top AV.top AV.top AV.top AV.top AV.top AV.top AV.top AV.top AV.top AV.top AV.top AV.top AV.top AV.top AV.top AV.top AV.top AV.top AV.top AV.top AV.top AV.top AV.top AV.top AV.top AV.top AV.top AV.top AV.top AV.top AV.top AV.top AV.top AV.top
  subst h4
  exact ⟨os, tk, h3⟩
end Go.Proofs.Ytanpcjopgcpooaa
set_option maxRecDepth 100000
set_option linter.unusedSimpArgs false
set_option linter.unusedVariables false
namespace Go.Proofs.Ytanpcjopgcpooaa
open Go.Sx
theorem cases16 {x : Int} (h : 0 ≤ x ∧ x < 16) : x = ((0 : Nat) : Int) ∨ x = ((1 : Nat) : Int) ∨ x = ((2 : Nat) : Int) ∨ x = ((3 : Nat) : Int) ∨ x = ((4 : Nat) : Int) ∨ x = ((5 : Nat) : Int) ∨ x = ((6 : Nat) : Int) ∨ x = ((7 : Nat) : Int) ∨ x = ((8 : Nat) : Int) ∨ x = ((9 : Nat) : Int) ∨ x = ((10 : Nat) : Int) ∨ x = ((11 : Nat) : Int) ∨ x = ((12 : Nat) : Int) ∨ x = ((13 : Nat) : Int) ∨ x = ((14 : Nat) : Int) ∨ x = ((15 : Nat) : Int) := by omega
theorem go29_0 (l : List UInt8) (h : takeV l 16 = ((0 : Nat) : Int)) : ∃ os tk, runI (TS h4) (cT 0 3 3) 3 Try.f29 [.ptr 0 0] (rdH l) some = some (.val (evE l).av ⟨.cells [.str (evR l)] :: os, tk⟩) := by
  rw [r29_0, tkB_t h]
  simp only [br]
  unfold evE evR
  rw [h]
  exact ⟨_, _, rfl⟩
theorem go29_1 (l : List UInt8) (h : takeV l 16 = ((1 : Nat) : Int)) : ∃ os tk, runI (TS h4) (cT 1 3 3) 3 Try.f29 [.ptr 0 0] (rdH l) some = some (.val (evE l).av ⟨.cells [.str (evR l)] :: os, tk⟩) := by
  rw [r29_1, tkB_t h]
  simp only [br]
  unfold evE evR
  rw [h]
  exact ⟨_, _, rfl⟩
theorem go29_2 (l : List UInt8) (h : takeV l 16 = ((2 : Nat) : Int)) : ∃ os tk, runI (TS h4) (cT 2 3 3) 3 Try.f29 [.ptr 0 0] (rdH l) some = some (.val (evE l).av ⟨.cells [.str (evR l)] :: os, tk⟩) := by
  rw [r29_2, tkB_t h]
  simp only [br]
  unfold evE evR
  rw [h]
  exact ⟨_, _, rfl⟩
theorem go29_3 (l : List UInt8) (h : takeV l 16 = ((3 : Nat) : Int)) : ∃ os tk, runI (TS h4) (cT 3 3 3) 3 Try.f29 [.ptr 0 0] (rdH l) some = some (.val (evE l).av ⟨.cells [.str (evR l)] :: os, tk⟩) := by
  rw [r29_3, tkB_t h]
  simp only [br]
  unfold evE evR
  rw [h]
  exact ⟨_, _, rfl⟩
theorem go29_4 (l : List UInt8) (h : takeV l 16 = ((4 : Nat) : Int)) : ∃ os tk, runI (TS h4) (cT 4 3 3) 3 Try.f29 [.ptr 0 0] (rdH l) some = some (.val (evE l).av ⟨.cells [.str (evR l)] :: os, tk⟩) := by
  rw [r29_4, tkB_t h]
  simp only [br]
  unfold evE evR
  rw [h]
  exact ⟨_, _, rfl⟩
theorem go29_5 (l : List UInt8) (h : takeV l 16 = ((5 : Nat) : Int)) : ∃ os tk, runI (TS h4) (cT 5 3 3) 3 Try.f29 [.ptr 0 0] (rdH l) some = some (.val (evE l).av ⟨.cells [.str (evR l)] :: os, tk⟩) := by
  rw [r29_5, tkB_t h]
  simp only [br]
  unfold evE evR
  rw [h]
  exact ⟨_, _, rfl⟩
theorem go29_6 (l : List UInt8) (h : takeV l 16 = ((6 : Nat) : Int)) : ∃ os tk, runI (TS h4) (cT 6 3 3) 3 Try.f29 [.ptr 0 0] (rdH l) some = some (.val (evE l).av ⟨.cells [.str (evR l)] :: os, tk⟩) := by
  rw [r29_6, tkB_t h]
  simp only [br]
  unfold evE evR
  rw [h]
  exact ⟨_, _, rfl⟩
theorem go29_7 (l : List UInt8) (h : takeV l 16 = ((7 : Nat) : Int)) : ∃ os tk, runI (TS h4) (cT 7 3 3) 3 Try.f29 [.ptr 0 0] (rdH l) some = some (.val (evE l).av ⟨.cells [.str (evR l)] :: os, tk⟩) := by
  rw [r29_7, tkB_t h]
  simp only [br]
  unfold evE evR
  rw [h]
  exact ⟨_, _, rfl⟩
theorem go29_8 (l : List UInt8) (h : takeV l 16 = ((8 : Nat) : Int)) : ∃ os tk, runI (TS h4) (cT 8 3 3) 3 Try.f29 [.ptr 0 0] (rdH l) some = some (.val (evE l).av ⟨.cells [.str (evR l)] :: os, tk⟩) := by
  rw [r29_8, tkB_t h]
  simp only [br]
  unfold evE evR
  rw [h]
  exact ⟨_, _, rfl⟩
theorem go29_9 (l : List UInt8) (h : takeV l 16 = ((9 : Nat) : Int)) : ∃ os tk, runI (TS h4) (cT 9 3 3) 3 Try.f29 [.ptr 0 0] (rdH l) some = some (.val (evE l).av ⟨.cells [.str (evR l)] :: os, tk⟩) := by
  rw [r29_9, tkB_t h]
  simp only [br]
  unfold evE evR
  rw [h]
  exact ⟨_, _, rfl⟩
theorem go29_11 (l : List UInt8) (h : takeV l 16 = ((11 : Nat) : Int)) : ∃ os tk, runI (TS h4) (cT 11 3 3) 3 Try.f29 [.ptr 0 0] (rdH l) some = some (.val (evE l).av ⟨.cells [.str (evR l)] :: os, tk⟩) := by
  rw [r29_11, tkB_t h]
  simp only [br]
  unfold evE evR
  rw [h]
  exact ⟨_, _, rfl⟩
theorem go29_12 (l : List UInt8) (h : takeV l 16 = ((12 : Nat) : Int)) : ∃ os tk, runI (TS h4) (cT 12 3 3) 3 Try.f29 [.ptr 0 0] (rdH l) some = some (.val (evE l).av ⟨.cells [.str (evR l)] :: os, tk⟩) := by
  rw [r29_12, tkB_t h]
  simp only [br]
  unfold evE evR
  rw [h]
  exact ⟨_, _, rfl⟩
theorem go29_13 (l : List UInt8) (h : takeV l 16 = ((13 : Nat) : Int)) : ∃ os tk, runI (TS h4) (cT 13 3 3) 3 Try.f29 [.ptr 0 0] (rdH l) some = some (.val (evE l).av ⟨.cells [.str (evR l)] :: os, tk⟩) := by
  rw [r29_13, tkB_t h]
  simp only [br]
  unfold evE evR
  rw [h]
  exact ⟨_, _, rfl⟩
theorem go29_14 (l : List UInt8) (h : takeV l 16 = ((14 : Nat) : Int)) : ∃ os tk, runI (TS h4) (cT 14 3 3) 3 Try.f29 [.ptr 0 0] (rdH l) some = some (.val (evE l).av ⟨.cells [.str (evR l)] :: os, tk⟩) := by
  rw [r29_14, tkB_t h]
  simp only [br]
  unfold evE evR
  rw [h]
  exact ⟨_, _, rfl⟩
theorem go29_15 (l : List UInt8) (h : takeV l 16 = ((15 : Nat) : Int)) : ∃ os tk, runI (TS h4) (cT 15 3 3) 3 Try.f29 [.ptr 0 0] (rdH l) some = some (.val (evE l).av ⟨.cells [.str (evR l)] :: os, tk⟩) := by
  rw [r29_15, tkB_t h]
  by_cases h2 : takeV l.tail 2 = 1
  · have h3 : (takeV l.tail 2 == 1) = true := by simp [h2]
    rw [h3]
    simp only [br]
    unfold evE evR
    rw [h]
    simp only [evOf, h2]
    exact ⟨_, _, rfl⟩
  · have h3 : (takeV l.tail 2 == 1) = false := by simp [h2]
    rw [h3]
    simp only [br]
    unfold evE evR
    rw [h]
    simp only [evOf, h2]
    exact ⟨_, _, rfl⟩
theorem ev29_call (l : List UInt8) : RdOK (TS h4) 29 l [] (evE l).av (evR l) := by
  rcases cases16 (takeV_in l 16 (by omega)) with h | h | h | h | h | h | h | h | h | h | h | h | h | h | h | h
  · obtain ⟨os, tk, e⟩ := go29_0 l h
    exact callL_rd (tabTk_ok 0) (fuel := 3) (n := 3) rfl rfl rfl rfl e rfl rfl rfl
  · obtain ⟨os, tk, e⟩ := go29_1 l h
    exact callL_rd (tabTk_ok 1) (fuel := 3) (n := 3) rfl rfl rfl rfl e rfl rfl rfl
  · obtain ⟨os, tk, e⟩ := go29_2 l h
    exact callL_rd (tabTk_ok 2) (fuel := 3) (n := 3) rfl rfl rfl rfl e rfl rfl rfl
  · obtain ⟨os, tk, e⟩ := go29_3 l h
    exact callL_rd (tabTk_ok 3) (fuel := 3) (n := 3) rfl rfl rfl rfl e rfl rfl rfl
  · obtain ⟨os, tk, e⟩ := go29_4 l h
    exact callL_rd (tabTk_ok 4) (fuel := 3) (n := 3) rfl rfl rfl rfl e rfl rfl rfl
  · obtain ⟨os, tk, e⟩ := go29_5 l h
    exact callL_rd (tabTk_ok 5) (fuel := 3) (n := 3) rfl rfl rfl rfl e rfl rfl rfl
  · obtain ⟨os, tk, e⟩ := go29_6 l h
    exact callL_rd (tabTk_ok 6) (fuel := 3) (n := 3) rfl rfl rfl rfl e rfl rfl rfl
  · obtain ⟨os, tk, e⟩ := go29_7 l h
    exact callL_rd (tabTk_ok 7) (fuel := 3) (n := 3) rfl rfl rfl rfl e rfl rfl rfl
  · obtain ⟨os, tk, e⟩ := go29_8 l h
    exact callL_rd (tabTk_ok 8) (fuel := 3) (n := 3) rfl rfl rfl rfl e rfl rfl rfl
  · obtain ⟨os, tk, e⟩ := go29_9 l h
    exact callL_rd (tabTk_ok 9) (fuel := 3) (n := 3) rfl rfl rfl rfl e rfl rfl rfl
  · obtain ⟨os, tk, e⟩ := go29_10 l h
    exact callL_rd (tabTk_ok 10) (fuel := 80) (n := 3) rfl rfl rfl rfl e rfl rfl rfl
  · obtain ⟨os, tk, e⟩ := go29_11 l h
    exact callL_rd (tabTk_ok 11) (fuel := 3) (n := 3) rfl rfl rfl rfl e rfl rfl rfl
  · obtain ⟨os, tk, e⟩ := go29_12 l h
    exact callL_rd (tabTk_ok 12) (fuel := 3) (n := 3) rfl rfl rfl rfl e rfl rfl rfl
  · obtain ⟨os, tk, e⟩ := go29_13 l h
    exact callL_rd (tabTk_ok 13) (fuel := 3) (n := 3) rfl rfl rfl rfl e rfl rfl rfl
  · obtain ⟨os, tk, e⟩ := go29_14 l h
    exact callL_rd (tabTk_ok 14) (fuel := 3) (n := 3) rfl rfl rfl rfl e rfl rfl rfl
  · obtain ⟨os, tk, e⟩ := go29_15 l h
    exact callL_rd (tabTk_ok 15) (fuel := 3) (n := 3) rfl rfl rfl rfl e rfl rfl rfl
end Go.Proofs.Ytanpcjopgcpooaa
set_option maxRecDepth 100000
set_option linter.unusedSimpArgs false
set_option linter.unusedVariables false
namespace Go.Proofs.Ytanpcjopgcpooaa
open Go.Sx
theorem h4.all {h : HT} : ∀ f g, h4 f = some g → ∀ args H v H', g args H = some (v, H') → ∀ E xs, Rel (TS h) H E → VRelL E args xs → Calls Try.prog f xs E.w fun e w' => ∃ x E', e = .returned x ∧ E'.w = w' ∧ E.le E' ∧ HRel H' E' ∧ VRel E' v x := by
  intro f g hg args H v H' hv E xs hr hx
  exact h4.ext.obj f g hg args H v H' hv E xs ⟨hr.h, hr.g, hr.x⟩ hx
theorem h5.ext : ExtOK (TS h5) Try.prog := TS.ext (by
  intro f g h
  unfold h5 at h
  split at h
  · rename_i hf
    obtain rfl := Option.some.inj h
    rcases or_beq hf with rfl | rfl
    · exact mkC_reads h4.ext ev29_call
    · exact mkC_reads h4.ext ev29_call
  · exact h4.all f g h)
end Go.Proofs.Ytanpcjopgcpooaa
set_option maxRecDepth 100000
set_option linter.unusedSimpArgs false
set_option linter.unusedVariables false
namespace Go.Proofs.Ytanpcjopgcpooaa
open Go.Sx
theorem ans_ofG {h : HT} {tab : TabT} (ht : TabOK (TS h) tab) {f : FuncId} {fn : Func} {args args' : List AV} {v v' : AV} {k n : Nat} (h2 : (TS h).F f = some fn) (h3' : (TS h).isPure f = true) (hx : Go.Sx.Sys.ext (TS h) f = none) (hr : ∀ H, resolveL H args = some args') (hh : runI (TS h) (callI (TS h) tab k n) k fn args' ⟨[], []⟩ ansR = some v) (hp : pureOut args v = some v') : Ans h f args v' := fun H => Caller.fn_res (callL_P ht (fuel := k) (n := n) (H := H) hx h2 h3' (hr H) hh hp)
end Go.Proofs.Ytanpcjopgcpooaa
