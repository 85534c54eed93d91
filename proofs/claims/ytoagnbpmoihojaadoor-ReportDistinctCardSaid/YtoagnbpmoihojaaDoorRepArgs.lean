/- The shapes of the arguments of the laws of reports. -/
import Derived.Test.YtoagnbpmoihojaaDoorRepPlain
import Derived.Test.YtoagnbpmoihojaaDoorEj
set_option maxRecDepth 100000
set_option linter.unusedSimpArgs false
set_option linter.unusedVariables false
namespace Go.Proofs.YtoagnbpmoihojaaDoor
open Go.Sx

def dtI : DT := .int .i64
def dtSt : DT := .agg 7 [dtI, dtI, .int .u8, dtI, dtI, dtI, .bool]

theorem wf64 {n : Int} (h : (Lit.int .i64 n).wf = true) : inR n := by
  have e1 : IntKind.i64.min = -9223372036854775808 := by decide
  have e2 : IntKind.i64.max = 9223372036854775807 := by decide
  simp only [Lit.wf, Bool.and_eq_true, decide_eq_true_eq, e1, e2] at h
  exact h
theorem wf8 {n : Int} (h : (Lit.int .u8 n).wf = true) : 0 ≤ n ∧ n < 256 := by
  have e1 : IntKind.u8.min = 0 := by decide
  have e2 : IntKind.u8.max = 255 := by decide
  simp only [Lit.wf, Bool.and_eq_true, decide_eq_true_eq, e1, e2] at h
  omega

theorem ok_I {cs : List AV} (h : okC dtI cs) : ∃ n, cs = [.int .i64 n] ∧ inR n := by
  obtain ⟨n, h1, h2⟩ := h
  exact ⟨n, h1, wf64 h2⟩

theorem ok_st {v : AV} (h : okV dtSt v) : ∃ a b st i n c al, v = .agg (stA a b st i n c al) ∧ inR a ∧ inR b ∧ (0 ≤ st ∧ st < 256) ∧ inR i ∧ inR n ∧ inR c := by
  obtain ⟨us, rfl, h⟩ := h
  obtain ⟨_, _, rfl, -, ⟨a, rfl, ha⟩, _, _, rfl, -, ⟨b, rfl, hb⟩, _, _, rfl, -, ⟨st, rfl, hst⟩, _, _, rfl, -, ⟨i, rfl, hi⟩, _, _, rfl, -, ⟨n, rfl, hn⟩, _, _, rfl, -, ⟨c, rfl, hc⟩, _, _, rfl, -, ⟨al, rfl⟩, h⟩ := h
  obtain rfl : _ = [] := h
  exact ⟨a, b, st, i, n, c, al, rfl, wf64 ha, wf64 hb, wf8 hst, wf64 hi, wf64 hn, wf64 hc⟩

theorem reportLines_law (m : Array Value) (avs : List AV) (h : okVs [dtSt] avs) : ∃ H', callL (Rep.S m) 3 avs ⟨[], []⟩ = some (.bool true, H') := by
  obtain ⟨v, _, rfl, h1, h2⟩ := okVsC h
  obtain rfl := okVs0 h2
  obtain ⟨a, b, st, i, n, c, al, rfl, ha, hb, hs, hi, hn, hc⟩ := ok_st h1
  exact ⟨_, lines_law m ha hb hs.1 hs.2 hi hn hc ⟨[], []⟩⟩

theorem reportDistinct_law (m : Array Value) (avs : List AV) (h : okVs [dtSt, dtSt] avs) : ∃ H', callL (Rep.S m) 4 avs ⟨[], []⟩ = some (.bool true, H') := by
  obtain ⟨v, _, rfl, h1, h2⟩ := okVsC h
  obtain ⟨w, _, rfl, k2, h3⟩ := okVsC h2
  obtain rfl := okVs0 h3
  obtain ⟨a, b, st, i, n, c, al, rfl, ha, hb, hs, hi, hn, hc⟩ := ok_st h1
  obtain ⟨a', b', st', i', n', c', al', rfl, ha', hb', hs', hi', hn', hc'⟩ := ok_st k2
  exact ⟨_, distinct_law m ha hb hs.1 hs.2 hi hn hc ha' hb' hs'.1 hs'.2 hi' hn' hc' ⟨[], []⟩⟩
end Go.Proofs.YtoagnbpmoihojaaDoor
