/- The law of replaced intervals holds. -/
import Derived.Test.YtfoklncmfoogcaaGreatDoorArRep
import Derived.Test.YtfoklncmfoogcaaGreatDoorSx10
set_option linter.unusedSectionVars false
set_option linter.unusedVariables false
set_option linter.unusedSimpArgs false
set_option linter.deprecated false
set_option maxRecDepth 100000
namespace Go.Proofs.YtfoklncmfoogcaaGreatDoor
open Go.Sx
abbrev QRp : Exit -> St -> Prop := FinQ true 0 rs5 fun r _ => r = .bool true
def AtR (i : Nat) (s : St) : Prop := At Tryz.prog 0 (frg sc5 i) s QRp
theorem numR_ok (m : Int) : FnOK Tryz.prog 18 [.int .i64 m] (.agg (tC 1 m [] [])) := by
 refine FnOK.tree hdraw fp18 (ctr_ok libT_ok qnone_ok) (PNumR_eq m) ?_
 unfold PNumR
 exact rfl
theorem funR_ok (s : List UInt8) (es : List (List D)) : FnOK Tryz.prog 16 [.str s,.slice es []] (.agg [.int .u8 4,.int .i64 0,.str s,.slice es []]) := by
 refine FnOK.tree hdraw fp16 (ctr_ok libT_ok qnone_ok) (PFunL_eq s es) ?_
 unfold PFunL
 exact rfl
theorem spanR_ok (a b : Int) : FnOK Tryz.prog 17 [.agg (tC 1 a [] []),.agg (tC 1 b [] [])] (.agg (spC a b)) := by
 refine FnOK.tree hdraw fp17 (ctr_ok libT_ok qnone_ok) (PSpanL_eq 1 a [] [] 1 b [] []) ?_
 unfold PSpanL
 exact rfl
theorem pickR_ok (n m : Int) (hm : 1 <= m) (hb : m <= 1000) : ∃ p : Nat,(p : Int) < m /\ FnOK Tryz.prog 14 [.int .i64 n,.int .i64 m] (.int .i64 p) := by
 have h1 := Int.tmod_lt_of_pos n (show 0 < m by omega)
 have h2 := Int.lt_tmod_of_pos n (show 0 < m by omega)
 by_cases h : n.tmod m < 0
 ·refine ⟨(n.tmod m + m).toNat,by omega, ?_⟩
  refine FnOK.tree hdraw fp14 (ctr_ok libT_ok qnone_ok) (PPick_eq n m) ?_
  unfold PPick
  simp only [SS]
  exact ⟨fun h => by omega,fun _ => ⟨by omega,fun _ => ⟨by omega,by omega⟩,fun h => by omega⟩⟩
 ·refine ⟨(n.tmod m).toNat,by omega, ?_⟩
  refine FnOK.tree hdraw fp14 (ctr_ok libT_ok qnone_ok) (PPick_eq n m) ?_
  unfold PPick
  simp only [SS]
  exact ⟨fun h => by omega,fun _ => ⟨by omega,fun h => by omega,fun _ => by omega⟩⟩
theorem sub_ne {α : Type} {a b : α} {l m : List α} (h : List.Sublist (a :: l) (b :: m)) (hne : b ≠ a) : List.Sublist (a :: l) m := by
 cases h with
 | cons _ h => exact h
 | cons_cons => exact absurd rfl hne
theorem rpL_at (ws os : List Tm) (hw : ws.length <= 1000) (ho : os.length <= 1000) (Hw : ∀ x ∈ ws,x.wf 281474976710656) (Ho : ∀ x ∈ os,x.wf 281474976710656) : ∀ (m i c : Nat),ws.length - i = m -> i <= ws.length -> c <= os.length -> List.Sublist (os.drop c) (ws.drop i) →
  At Tryz.prog 0 (cut sc5 0) ⟨[(10,.slice (Tm.cellsL ws) []),(12,.slice (Tm.cellsL os) []),(16,.int .i64 c),(17,.int .i64 i)],[]⟩ QRp := by
 have done : ∀ c : Nat,c = os.length -> AtR 11 ⟨[(12,.slice (Tm.cellsL os) []),(16,.int .i64 c)],[]⟩ := fun c hc => by
  refine At.tree (dCtr_ok qnone_ok) (Rp11_eq (Tm.cellsL os) c) ?_
  unfold Rp11
  rw [cellsL_length,hc]
  simp only [SS]
 intro m
 induction m with
 | zero =>
  intro i c hm hi hc hs
  rw [List.drop_eq_nil_of_le (show ws.length <= i by omega)] at hs
  have hd : c = os.length := by
   have := List.sublist_nil.1 hs
   have := List.drop_eq_nil_iff.1 this
   omega
  refine At.tree (dCtr_ok qnone_ok) (RpL_eq (Tm.cellsL ws) (Tm.cellsL os) c i 0 0 [] [] 0 0 [] [] true) ?_
  unfold RpL
  simp only [SS,cellsL_length]
  exact ⟨fun h => by omega,fun _ => done c hd⟩
 | succ m ih =>
  intro i c hm hi hc hs
  have h1 : i < ws.length := by omega
  by_cases hd : c = os.length
  ·refine At.tree (dCtr_ok qnone_ok) (RpL_eq (Tm.cellsL ws) (Tm.cellsL os) c i 0 0 [] [] 0 0 [] [] true) ?_
   unfold RpL
   simp only [SS,cellsL_length]
   exact ⟨fun _ => ⟨fun h => by omega,fun _ => done c hd⟩,fun h => by omega⟩
  ·have h2 : c < os.length := by omega
   have hx := cellsL_get h1
   have hy := cellsL_get h2
   have hE := equal_ok ws[i] os[c] (Hw _ (List.getElem_mem h1)) (Ho _ (List.getElem_mem h2))
   rw [drop_cons h1,drop_cons h2] at hs
   have hI1 := fun (he : ws[i].eqb os[c] = true) => ih (i + 1) (c + 1) (by omega) (by omega) (by omega) (by
    rw [eqb_eq.1 he] at hs
    exact List.cons_sublist_cons.1 hs)
   have hI2 := fun (he : ws[i].eqb os[c] = false) => ih (i + 1) c (by omega) (by omega) (by omega) (by
    rw [drop_cons h2]
    exact sub_ne hs fun e => absurd he (by rw [e,eqb_eq.2 rfl]; decide))
   generalize ws[i].eqb os[c] = b at hE hI1 hI2
   generalize ws[i] = x at hx hE
   generalize os[c] = y at hy hE
   obtain ⟨kx,nx,sx,ax⟩ := x
   obtain ⟨ky,ny,sy,ay⟩ := y
   refine At.tree (dCtr_ok qnone_ok) (RpL_eq (Tm.cellsL ws) (Tm.cellsL os) c i kx nx sx (Tm.cellsL ax) ky ny sy (Tm.cellsL ay) b) ?_
   unfold RpL
   simp only [SS,cellsL_length]
   exact ⟨fun _ => ⟨fun _ => ⟨⟨by omega,hx⟩,⟨by omega,hy⟩,hE,fun hb => ⟨by omega,by omega,hI1 hb⟩,fun hb => ⟨by omega,hI2 hb⟩⟩,fun h => by omega⟩,fun h => by omega⟩
theorem rp6 (W O N : XR) (n : Nat) (hn : n < 50) (hR : RepL W O N n) (hw : (xrL W).length <= 1000) (ho : (xrL O).length <= 1000) (Hw : ∀ x ∈ xrL W,x.wf 281474976710656) (Ho : ∀ x ∈ xrL O,x.wf 281474976710656) :
  AtR 6 ⟨[(9,.int .i64 n),(10,.slice (Tm.cellsL (xrL W)) []),(11,.int .i64 (xrE W)),(12,.slice (Tm.cellsL (xrL O)) []),(13,.int .i64 (xrE O)),(14,.slice (Tm.cellsL (xrL N)) []),(15,.int .i64 (xrE N))],[]⟩ := by
 have hN : xrL N = [] := by rcases hR.none_ with h | h | h <;> rw [h] <;> rfl
 have two : ∀ X : XR,xrE X = 2 ↔ X = .arg := fun X => by cases X <;> simp [xrE]
 have zero : ∀ X : XR,xrE X = 0 -> ∃ l,X = .ok l := fun X => by cases X <;> simp [xrE]
 have h7 : AtR 7 ⟨[(9,.int .i64 n),(10,.slice (Tm.cellsL (xrL W)) []),(11,.int .i64 (xrE W)),(12,.slice (Tm.cellsL (xrL O)) []),(13,.int .i64 (xrE O))],[]⟩ := by
  refine At.tree (dCtr_ok qnone_ok) (Rp7_eq n (Tm.cellsL (xrL W)) (xrE W) (Tm.cellsL (xrL O)) (xrE O)) ?_
  unfold Rp7
  rw [ok_br,ok_ret,ok_jmp]
  refine ⟨fun h => ?_,fun h => ?_⟩
  ·cases W with
   | ok l => simp [xrE] at h
   | many => rfl
   | arg => rfl
  ·obtain ⟨l,hl⟩ := zero W (by simpa using h)
   obtain ⟨q,hq,hlen,hsub⟩ := hR.ok l hl
   subst hl; subst hq
   simp only [xrL,xrE] at hw ho Hw Ho ⊢
   refine At.tree (dCtr_ok qnone_ok) (Rp8_eq n (Tm.cellsL l) (Tm.cellsL q) 0) ?_
   unfold Rp8
   have e : (l.length : Int) = (q.length : Int) * ((n : Int) + 1) := by rw [hlen]; simp
   simp only [SS,cellsL_length]
   have h9 : AtR 9 ⟨[(10,.slice (Tm.cellsL l) []),(12,.slice (Tm.cellsL q) [])],[]⟩ := by
    refine At.tree (dCtr_ok qnone_ok) (Rp9_eq (Tm.cellsL l) (Tm.cellsL q)) ?_
    unfold Rp9
    rw [ok_jmp]
    refine At.tree (dCtr_ok qnone_ok) (Rp10_eq (Tm.cellsL l) (Tm.cellsL q) 0) ?_
    unfold Rp10
    rw [ok_jmp]
    exact rpL_at l q hw ho Hw Ho _ 0 0 rfl (Nat.zero_le _) (Nat.zero_le _) hsub
   rw [<- e]
   exact ⟨fun h => absurd trivial h,by omega,by omega,fun h => absurd rfl h,fun _ => h9⟩
 refine At.tree (dCtr_ok qnone_ok) (Rp6_eq n (Tm.cellsL (xrL W)) (xrE W) (Tm.cellsL (xrL O)) (xrE O) (Tm.cellsL (xrL N)) (xrE N)) ?_
 unfold Rp6
 have e1 : decide (xrE O = 2) = decide (xrE W = 2) := decide_eq_decide.2 (by rw [two,two]; exact hR.arg1)
 have e2 : decide (xrE N = 2) = decide (xrE O = 2) := decide_eq_decide.2 (by rw [two,two]; exact hR.arg2)
 rw [e1,e2,e1,hN,ok_br,ok_br,ok_br]
 refine ⟨fun h => ?_,fun _ => ⟨fun h => ?_,fun _ => ⟨fun h => ?_,fun _ => h7⟩⟩⟩
 ·have := of_decide_eq_true h
  simp [Tm.cellsL] at this
 ·simp at h
 ·simp at h
theorem xr_wf {x : Tm} (hx : x.wf 281474976710656) : (xrL x.expd).length <= 1000 /\ ∀ v ∈ xrL x.expd,v.wf 281474976710656 := by
 unfold Tm.expd
 split
 ·rename_i h
  simp only [Bool.and_eq_true] at h
  cases hq : x.xp with
  | none => exact ⟨Nat.zero_le _,fun v hv => by cases hv⟩
  | some l => exact ⟨xp_len hq,fun v hv => xp_wf x l v hx (valid_iff.1 h.1).2 h.2 hq hv⟩
 ·exact ⟨Nat.zero_le _,fun v hv => by cases hv⟩
theorem f2_wf {t u : Tm} (ht : t.wf 281474976710656) (hu : u.wf 281474976710656) : (F2 t u).wf 281474976710656 := by
 simp only [F2,Tm.wf,Tm.wfL,List.length_cons,List.length_nil]
 exact ⟨by omega,by omega,by omega,by omega,by omega,ht,hu,trivial⟩
theorem span_wf {a b : Int} (ha : fitsB a = true) (hb : fitsB b = true) : (spanT a b).wf 281474976710656 := by
 simp only [spanT,Tm.wf,Tm.wfL,List.length_cons,List.length_nil]
 exact ⟨by omega,by omega,by omega,by omega,by omega,numT_wf ha,numT_wf hb,trivial⟩
theorem f2_depth {t u : Tm} {N : Nat} (ht : t.depth <= N) (hu : u.depth <= 2) (hN : 2 <= N) : (F2 t u).depth <= N + 1 := by
 have h5 : (F2 t u).depth = Nat.max t.depth (Nat.max u.depth 0) + 1 := rfl
 have : Nat.max t.depth (Nat.max u.depth 0) = max t.depth (max u.depth 0) := rfl
 rw [h5,this]
 omega
theorem replaces_of (hA : FnOK Tryz.prog 8 [] (.bool true)) (x : Tm) (lo sz pk : Int) (hx : x.wf 281474976710656) : FnOK Tryz.prog 5 [.agg x.cells,.int .i64 lo,.int .i64 sz,.int .i64 pk] (.bool true) := by
 have hs := sz_ok x hx 30 (by omega) (by omega)
 have hdep := sz_depth x 30
 have three : ∀ (n p : Nat),-1000 <= lo -> lo <= 1000 -> n < 50 -> p <= n -> x.depth <= 30 →
   FnOK Tryz.prog 15 [.agg (F2 x (spanT lo (lo + n))).cells] (tuX (Tm.cellsL (xrL (F2 x (spanT lo (lo + n))).expd)) (xrE (F2 x (spanT lo (lo + n))).expd)) ∧
   FnOK Tryz.prog 15 [.agg (F2 x (numT (lo + p))).cells] (tuX (Tm.cellsL (xrL (F2 x (numT (lo + p))).expd)) (xrE (F2 x (numT (lo + p))).expd)) ∧
   FnOK Tryz.prog 15 [.agg (F2 x (spanT lo (lo - 1 - n))).cells] (tuX (Tm.cellsL (xrL (F2 x (spanT lo (lo - 1 - n))).expd)) (xrE (F2 x (spanT lo (lo - 1 - n))).expd)) ∧
   AtR 6 ⟨[(9,.int .i64 n),(10,.slice (Tm.cellsL (xrL (F2 x (spanT lo (lo + n))).expd)) []),(11,.int .i64 (xrE (F2 x (spanT lo (lo + n))).expd)),(12,.slice (Tm.cellsL (xrL (F2 x (numT (lo + p))).expd)) []),(13,.int .i64 (xrE (F2 x (numT (lo + p))).expd)),(14,.slice (Tm.cellsL (xrL (F2 x (spanT lo (lo - 1 - n))).expd)) []),(15,.int .i64 (xrE (F2 x (spanT lo (lo - 1 - n))).expd))],[]⟩ := fun n p h1 h2 hn hp hd => by
  have f0 := fits_of (m := lo) (by omega) (by omega)
  have f1 := fits_of (m := lo + n) (by omega) (by omega)
  have f2 := fits_of (m := lo + p) (by omega) (by omega)
  have f3 := fits_of (m := lo - 1 - n) (by omega) (by omega)
  have w1 := f2_wf hx (span_wf f0 f1)
  have w2 := f2_wf hx (numT_wf f2)
  have w3 := f2_wf hx (span_wf f0 f3)
  refine ⟨expand_ok _ w1 (Nat.le_trans (f2_depth (N := 30) hd (Nat.le_refl _) (by omega)) (by omega)),expand_ok _ w2 (Nat.le_trans (f2_depth (N := 30) hd (by rw [depth_num]; omega) (by omega)) (by omega)),expand_ok _ w3 (Nat.le_trans (f2_depth (N := 30) hd (Nat.le_refl _) (by omega)) (by omega)), ?_⟩
  exact rp6 _ _ _ n hn (rep_ok x lo n p h1 h2 hn hp) (xr_wf w1).1 (xr_wf w2).1 (xr_wf w1).2 (xr_wf w2).2
 generalize x.sz 30 = c at hs hdep
 obtain ⟨k,n,s,l⟩ := x
 refine FnOK.tree hdraw fp5 (ctr_ok libT_ok qnone_ok) (RpA_eq k n s (Tm.cellsL l) lo sz pk) ?_
 unfold RpA
 rw [ok_jmp]
 refine At.tree (dCtr_ok qnone_ok) (Rp0_eq k n s (Tm.cellsL l) lo sz pk) ?_
 unfold Rp0
 rw [ok_owe,ok_jmp]
 refine ⟨hA, ?_⟩
 refine At.tree (dCtr_ok qnone_ok) (Rp1_eq k n s (Tm.cellsL l) lo sz pk c) ?_
 unfold Rp1
 rw [ok_owe,ok_br,ok_br,ok_br,ok_ret,ok_jmp]
 refine ⟨hs,fun _ => rfl,fun hc => ⟨fun _ => rfl,fun h1 => ⟨fun _ => rfl,fun h2 => ?_⟩⟩⟩
 have hc := of_decide_eq_false hc
 have h1 := of_decide_eq_false h1
 have h2 := of_decide_eq_false h2
 have hd := hdep (by omega)
 obtain ⟨m,hm,hP⟩ := pickR_ok sz 50 (by omega) (by omega)
 obtain ⟨p,hp,hP2⟩ := pickR_ok pk (m + 1) (by omega) (by omega)
 obtain ⟨t1,t2,t3,t6⟩ := three m p (by omega) (by omega) (by omega) (by omega) (by omega)
 clear three
 generalize (F2 (Tm.mk k n s l) (spanT lo (lo + m))).expd = W at *
 generalize (F2 (Tm.mk k n s l) (numT (lo + p))).expd = O at *
 generalize (F2 (Tm.mk k n s l) (spanT lo (lo - 1 - m))).expd = N at *
 refine At.tree (dCtr_ok qnone_ok) (Rp2_eq k n s (Tm.cellsL l) lo sz pk m) ?_
 unfold Rp2
 rw [ok_owe,ok_jmp]
 refine ⟨hP, ?_⟩
 refine At.tree (dCtr_ok qnone_ok) (Rp3_eq k n s (Tm.cellsL l) lo pk m (Tm.cellsL (xrL W)) (xrE W)) ?_
 unfold Rp3
 refine ⟨numR_ok lo,by omega,numR_ok _,spanR_ok lo (lo + m),funR_ok _ _,t1, ?_⟩
 refine At.tree (dCtr_ok qnone_ok) (Rp4_eq k n s (Tm.cellsL l) lo pk m (Tm.cellsL (xrL W)) (xrE W) p (Tm.cellsL (xrL O)) (xrE O)) ?_
 unfold Rp4
 refine ⟨by omega,hP2,by omega,numR_ok _,funR_ok _ _,t2, ?_⟩
 refine At.tree (dCtr_ok qnone_ok) (Rp5_eq k n s (Tm.cellsL l) lo m (Tm.cellsL (xrL W)) (xrE W) (Tm.cellsL (xrL O)) (xrE O) (Tm.cellsL (xrL N)) (xrE N)) ?_
 unfold Rp5
 exact ⟨numR_ok lo,by omega,by omega,numR_ok _,spanR_ok lo (lo - 1 - m),funR_ok _ _,t3,t6⟩
end Go.Proofs.YtfoklncmfoogcaaGreatDoor
