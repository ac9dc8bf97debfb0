/- A rule of a modest size. -/
import Derived.Test.YtiafmjolbacdaaaGreatSbD
import Derived.Test.YtiafmjolbacdaaaGreatSx9
set_option linter.unusedSectionVars false
set_option linter.unusedVariables false
set_option linter.unusedSimpArgs false
set_option linter.deprecated false
set_option maxRecDepth 100000
namespace Go.Proofs.YtiafmjolbacdaaaGreat
open Go.Sx Go.RowKit
theorem boC_len (x : Bo) : x.cs.length = 23 := by simp [Bo.cs, ltc_len, cells_length]
theorem al23 (l : List Bo) : allLen 23 (boL l) := by
  intro q hq
  obtain ⟨t, _, rfl⟩ := List.mem_map.1 hq
  exact boC_len t
theorem okt_of {t : Tm} (h : t.wf 281474976710656) (hf : (t.vs.length : Int) ≤ 400) : okt t := ⟨h, by omega⟩
theorem okT_of {l : List Tm} (h : ∀ x ∈ l, x.wf 281474976710656) (hf : fewT 400 l) : okT l :=
  ⟨by have := hf.1; omega, fun x hx => ⟨h x hx, by have := hf.2; have := vsL_mem hx; omega⟩⟩
theorem okL_of {x : Lt} (h : x.wf 281474976710656) (hf : x.few 400) : okL x := by
  obtain ⟨_, _, w1, w2, _, w3, w4⟩ := h
  obtain ⟨f1, f2, f3⟩ := hf
  exact ⟨w1, w2, by omega, okt_of w3 f2, okt_of w4 f3⟩
theorem okC_of {l : List Lt} (h : ∀ x ∈ l, x.wf 281474976710656) (hf : fewC 400 l) : okC l :=
  ⟨by have := hf.1; omega, fun x hx => okL_of (h x hx) (hf.2.1 x hx), by have := hf.2.2.1; omega⟩
theorem okR_of {r : Ru} (h : r.wf 281474976710656) (hf : fewR 400 r) : okR r := by
  obtain ⟨t1, t2, t3, t4⟩ := hf.t4
  refine ⟨⟨by simp, fun x hx => ?_⟩, okT_of (fun x hx => wfL_all.1 h.t x hx) hf.tt, h.hl, fun x hx => ⟨okT_of (fun y hy => wfL_all.1 (h.h x hx).a y hy) (hf.h x hx).1, okC_of (h.h x hx).c (hf.h x hx).2⟩, by have := hf.bl; omega, fun x hx => ?_⟩
  · simp only [List.mem_cons, List.not_mem_nil, or_false] at hx
    rcases hx with rfl | rfl | rfl | rfl
    · exact okt_of h.lo t1
    · exact okt_of h.up t2
    · exact okt_of h.w t3
    · exact okt_of h.lv t4
  · obtain ⟨g1, g2, g3, g4, g5⟩ := hf.b x hx
    have hw := h.b x hx
    refine ⟨okC_of (fun y hy => by rw [List.mem_singleton] at hy; exact hy ▸ hw.l) g1, ⟨by simp, fun y hy => ?_⟩, okC_of hw.c g2, hw.el, fun y hy => ⟨okT_of (fun z hz => wfL_all.1 (hw.e y hy).t z hz) (g5 y hy).1, okC_of (hw.e y hy).c (g5 y hy).2⟩⟩
    rw [List.mem_singleton] at hy
    subst hy
    exact okt_of hw.b g3
end Go.Proofs.YtiafmjolbacdaaaGreat
