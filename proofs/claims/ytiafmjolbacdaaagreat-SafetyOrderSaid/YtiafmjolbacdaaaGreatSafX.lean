/- Unsafe, proved; closed rules are of a modest size. -/
import Derived.Test.YtiafmjolbacdaaaGreatSafW
set_option linter.unusedSectionVars false
set_option linter.unusedVariables false
set_option linter.unusedSimpArgs false
set_option linter.deprecated false
set_option maxRecDepth 100000
namespace Go.Proofs.YtiafmjolbacdaaaGreat
open Go.Sx Go.RowKit
noncomputable def PUnN (k : Int) (hs : List (List D)) (bs : List (List D)) (ts : List (List D)) (a1 : Int) (a2 : Int) (a3 : List UInt8) (a4 : List (List D)) (b1 : Int) (b2 : Int) (b3 : List UInt8) (b4 : List (List D)) (c1 : Int) (c2 : Int) (c3 : List UInt8) (c4 : List (List D)) (d1 : Int) (d2 : Int) (d3 : List UInt8) (d4 : List (List D)) (zk : List D) : Tr := Tr.owe (CallL Tryz.prog (D.func (Fn.func 29) [] []) [D.agg (rC k hs bs ts a1 a2 a3 a4 b1 b2 b3 b4 c1 c2 c3 c4 d1 d2 d3 d4)] [] fun r0 ob0 => r0 = D.map 0 ∧ ob0 = [(0, Ob.gen (Gen.mapS zk (D.agg [])) [])]) (Tr.owe (CallL Tryz.prog (D.func (Fn.func 27) [] []) [D.map 0] [(0, Ob.gen (Gen.mapS zk (D.agg [])) [])] fun r0 ob0 => r0 = D.nils ∧ ob0 = [(0, Ob.gen (Gen.mapS zk (D.agg [])) [])]) (Tr.ret (D.slice [] []) []))
theorem PUnN_eq (k : Int) (hs : List (List D)) (bs : List (List D)) (ts : List (List D)) (a1 : Int) (a2 : Int) (a3 : List UInt8) (a4 : List (List D)) (b1 : Int) (b2 : Int) (b3 : List UInt8) (b4 : List (List D)) (c1 : Int) (c2 : Int) (c3 : List UInt8) (c4 : List (List D)) (d1 : Int) (d2 : Int) (d3 : List UInt8) (d4 : List (List D)) (zk : List D) : goT Tryz.prog (ctr libT (QT.or (onF 29 (asmO (D.map 0) [(0, Ob.gen (Gen.mapS zk (D.agg [])) [])])) (asmO D.nils [(0, Ob.gen (Gen.mapS zk (D.agg [])) [])]))) 0 (finF true 0 rs15) 2000 [Fr.sc sc15] { tm := envOf 0 [D.agg (rC k hs bs ts a1 a2 a3 a4 b1 b2 b3 b4 c1 c2 c3 c4 d1 d2 d3 d4)], ob := [] } = PUnN k hs bs ts a1 a2 a3 a4 b1 b2 b3 b4 c1 c2 c3 c4 d1 d2 d3 d4 zk := by kernel_rfl
noncomputable def PUnA (k : Int) (hs : List (List D)) (bs : List (List D)) (ts : List (List D)) (a1 : Int) (a2 : Int) (a3 : List UInt8) (a4 : List (List D)) (b1 : Int) (b2 : Int) (b3 : List UInt8) (b4 : List (List D)) (c1 : Int) (c2 : Int) (c3 : List UInt8) (c4 : List (List D)) (d1 : Int) (d2 : Int) (d3 : List UInt8) (d4 : List (List D)) (zk : List D) (q : List (List D)) : Tr := Tr.owe (CallL Tryz.prog (D.func (Fn.func 29) [] []) [D.agg (rC k hs bs ts a1 a2 a3 a4 b1 b2 b3 b4 c1 c2 c3 c4 d1 d2 d3 d4)] [] fun r0 ob0 => r0 = D.map 0 ∧ ob0 = [(0, Ob.gen (Gen.mapS zk (D.agg [])) [])]) (Tr.owe (CallL Tryz.prog (D.func (Fn.func 27) [] []) [D.map 0] [(0, Ob.gen (Gen.mapS zk (D.agg [])) [])] fun r0 ob0 => r0 = D.vec 1 ∧ ob0 = [(0, Ob.gen (Gen.mapS zk (D.agg [])) []), (1, Ob.arr false 1 9 q)]) (Tr.ret (D.own 1 9 q) []))
theorem PUnA_eq (k : Int) (hs : List (List D)) (bs : List (List D)) (ts : List (List D)) (a1 : Int) (a2 : Int) (a3 : List UInt8) (a4 : List (List D)) (b1 : Int) (b2 : Int) (b3 : List UInt8) (b4 : List (List D)) (c1 : Int) (c2 : Int) (c3 : List UInt8) (c4 : List (List D)) (d1 : Int) (d2 : Int) (d3 : List UInt8) (d4 : List (List D)) (zk : List D) (q : List (List D)) : goT Tryz.prog (ctr libT (QT.or (onF 29 (asmO (D.map 0) [(0, Ob.gen (Gen.mapS zk (D.agg [])) [])])) (asmO (D.vec 1) [(0, Ob.gen (Gen.mapS zk (D.agg [])) []), (1, Ob.arr false 1 9 q)]))) 0 (finF true 0 rs15) 2000 [Fr.sc sc15] { tm := envOf 0 [D.agg (rC k hs bs ts a1 a2 a3 a4 b1 b2 b3 b4 c1 c2 c3 c4 d1 d2 d3 d4)], ob := [] } = PUnA k hs bs ts a1 a2 a3 a4 b1 b2 b3 b4 c1 c2 c3 c4 d1 d2 d3 d4 zk q := by kernel_rfl
def deK : D → Nm
  | .str s => s
  | _ => []
theorem kS_perm {F : List Nm} {ks : List D} (h : ks.Perm (kS F)) : ∃ S : List Nm, S.Perm F ∧ ks = kS S := by
  refine ⟨ks.map deK, ?_, ?_⟩
  · have := h.map deK
    have e : (kS F).map deK = F := by
      unfold kS
      rw [List.map_map]
      exact (List.map_congr_left fun x _ => rfl).trans (List.map_id F)
    rwa [e] at this
  · unfold kS
    rw [List.map_map]
    refine (List.map_id ks).symm.trans (List.map_congr_left fun x hx => ?_)
    have hx := h.mem_iff.1 hx
    obtain ⟨s, _, rfl⟩ := List.mem_map.1 hx
    rfl
theorem uS_map (S : List Nm) : uS S = (kS S).map fun _ => D.agg [] := by simp [uS, kS]
def outE (F : List Nm) : List Nm → D × Obs
  | [] => (.nils, [(0, endO F)])
  | c :: r => (.vec 1, [(0, endO F), (1, .arr false 1 9 (strC (c :: r)))])
theorem sortedS_ok (F : List Nm) (hF : F.length ≤ 1073741823) (hnd : F.Nodup) : CallL Tryz.prog (.func (.func 27) [] []) [.map 0] [(0, endO F)] fun r ob => r = (outE F (srt F)).1 ∧ ob = (outE F (srt F)).2 := by
  refine CallL.ofS fun ks hp => ?_
  obtain ⟨S, hS, rfl⟩ := kS_perm hp
  have hSn := hS.nodup_iff.2 hnd
  have h := sorted_ok S (by rw [hS.length_eq]; exact hF) hSn
  have e : srt S = srt F := srt_same hSn hnd fun x => hS.mem_iff
  rw [e] at h
  unfold setO at h
  rw [uS_map] at h
  refine h.wk fun r o ⟨hr, ho⟩ => ?_
  have hw : (Ob.gen (.mapC (kS S) ((kS S).map fun _ => D.agg [])) []).wk (endO F) := wk_set (hS.map _)
  generalize srt F = z at hr ho ⊢
  cases z with
  | nil =>
    refine ⟨[(0, endO F)], ⟨hr, rfl⟩, ?_⟩
    subst ho
    unfold outO setO
    rw [uS_map]
    exact Obs.wk_cons hw (Obs.wk_refl _)
  | cons c r' =>
    refine ⟨[(0, endO F), (1, .arr false 1 9 (strC (c :: r')))], ⟨hr, rfl⟩, ?_⟩
    subst ho
    unfold outO setO
    rw [uS_map]
    exact Obs.wk_cons hw (Obs.wk_cons (Ob.wk_refl _) (Obs.wk_refl _))
theorem Unsafe_ok (r : Ru) (hr : okR r) (hz : (unsafeS r).length ≤ 1073741823) : FnOK Tryz.prog 15 [.agg r.cs] (.slice (strC (srt (unsafeS r))) []) := by
  obtain ⟨k, hs, ⟨a1, a2, a3, a4⟩, ⟨b1, b2, b3, b4⟩, bs, ⟨c1, c2, c3, c4⟩, ⟨d1, d2, d3, d4⟩, ts⟩ := r
  have hu := unsafe_ok k hs a1 a2 a3 a4 b1 b2 b3 b4 bs c1 c2 c3 c4 d1 d2 d3 d4 ts hr
  have hs' := sortedS_ok _ hz (unsafeS_nd _)
  generalize unsafeS ⟨k, hs, .mk a1 a2 a3 a4, .mk b1 b2 b3 b4, bs, .mk c1 c2 c3 c4, .mk d1 d2 d3 d4, ts⟩ = F at hu hs' ⊢
  generalize srt F = z at hs' ⊢
  cases z with
  | nil =>
    refine FnOK.tree hdraw fp15 (ctr_ok libT_ok (QT.or_ok (onF_ok (asmO_ok _ _)) (asmO_ok _ _))) (PUnN_eq k (heL hs) (boL bs) (Tm.cellsL ts) a1 a2 a3 (Tm.cellsL a4) b1 b2 b3 (Tm.cellsL b4) c1 c2 c3 (Tm.cellsL c4) d1 d2 d3 (Tm.cellsL d4) (kS F)) ?_
    unfold PUnN
    rw [ok_owe, ok_owe, ok_ret]
    exact ⟨hu, hs', rfl⟩
  | cons c r' =>
    refine FnOK.freezeT (ty := 9) (FnOK.tree hdraw fp15 (ctr_ok libT_ok (QT.or_ok (onF_ok (asmO_ok _ _)) (asmO_ok _ _))) (PUnA_eq k (heL hs) (boL bs) (Tm.cellsL ts) a1 a2 a3 (Tm.cellsL a4) b1 b2 b3 (Tm.cellsL b4) c1 c2 c3 (Tm.cellsL c4) d1 d2 d3 (Tm.cellsL d4) (kS F) (strC (c :: r'))) ?_)
    unfold PUnA
    rw [ok_owe, ok_owe, ok_ret]
    exact ⟨hu, hs', rfl⟩
mutual
def smB : Tm → Bool
  | .mk k n s l => decide (k ≤ 255) && (decide (-1000000 ≤ n) && (decide (n ≤ 1000000) && (decide (s.length ≤ 1000) && (decide (l.length ≤ 1000) && smBL l))))
def smBL : List Tm → Bool
  | [] => true
  | a :: r => smB a && smBL r
end
mutual
theorem smB_wf : ∀ t : Tm, smB t = true → t.wf 281474976710656
  | .mk k n s l, h => by
    simp only [smB, Bool.and_eq_true, decide_eq_true_eq] at h
    obtain ⟨h1, h2, h3, h4, h5, h6⟩ := h
    exact ⟨h1, by omega, by omega, by omega, by omega, smBL_wf l h6⟩
theorem smBL_wf : ∀ l : List Tm, smBL l = true → Tm.wfL 281474976710656 l
  | [], _ => trivial
  | a :: r, h => by
    simp only [smBL, Bool.and_eq_true] at h
    exact ⟨smB_wf a h.1, smBL_wf r h.2⟩
end
def tmB (t : Tm) : Bool := smB t && decide (t.vs.length ≤ 1000)
theorem tmB_ok {t : Tm} (h : tmB t = true) : okt t := by
  simp only [tmB, Bool.and_eq_true, decide_eq_true_eq] at h
  exact ⟨smB_wf t h.1, by omega⟩
def tsB (l : List Tm) : Bool := decide (l.length ≤ 1000) && l.all tmB
theorem tsB_ok {l : List Tm} (h : tsB l = true) : okT l := by
  simp only [tsB, Bool.and_eq_true, decide_eq_true_eq, List.all_eq_true] at h
  exact ⟨by omega, fun x hx => tmB_ok (h.2 x hx)⟩
def ltB (x : Lt) : Bool := decide (x.a.length ≤ 1000) && (smBL x.a && (decide ((Tm.vsL x.a).length ≤ 1000) && (tmB x.l && tmB x.r)))
theorem ltB_ok {x : Lt} (h : ltB x = true) : okL x := by
  simp only [ltB, Bool.and_eq_true, decide_eq_true_eq] at h
  obtain ⟨h1, h2, h3, h4, h5⟩ := h
  exact ⟨by omega, smBL_wf _ h2, by omega, tmB_ok h4, tmB_ok h5⟩
def lsB (l : List Lt) : Bool := decide (l.length ≤ 1000) && (l.all ltB && decide ((withinT l).length ≤ 1000))
theorem lsB_ok {l : List Lt} (h : lsB l = true) : okC l := by
  simp only [lsB, Bool.and_eq_true, decide_eq_true_eq, List.all_eq_true] at h
  exact ⟨by omega, fun x hx => ltB_ok (h.2.1 x hx), by omega⟩
def boB (x : Bo) : Bool := lsB [x.l] && (tsB [x.b] && (lsB x.c && (decide (x.e.length ≤ 1000) && x.e.all fun y => tsB y.t && lsB y.c)))
def ruB (r : Ru) : Bool := tsB [r.lo, r.up, r.w, r.lv] && (tsB r.t && (decide (r.h.length ≤ 1000) && ((r.h.all fun x => tsB x.a && lsB x.c) && (decide (r.b.length ≤ 1000) && r.b.all boB))))
theorem ruB_ok {r : Ru} (h : ruB r = true) : okR r := by
  simp only [ruB, Bool.and_eq_true, decide_eq_true_eq, List.all_eq_true] at h
  obtain ⟨h1, h2, h3, h4, h5, h6⟩ := h
  refine ⟨tsB_ok h1, tsB_ok h2, by omega, fun x hx => ⟨tsB_ok (h4 x hx).1, lsB_ok (h4 x hx).2⟩, by omega, fun x hx => ?_⟩
  have := h6 x hx
  simp only [boB, Bool.and_eq_true, decide_eq_true_eq, List.all_eq_true] at this
  obtain ⟨g1, g2, g3, g4, g5⟩ := this
  exact ⟨lsB_ok g1, tsB_ok g2, lsB_ok g3, by omega, fun y hy => ⟨tsB_ok (g5 y hy).1, lsB_ok (g5 y hy).2⟩⟩
end Go.Proofs.YtiafmjolbacdaaaGreat
