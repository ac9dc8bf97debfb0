/- Own work: a layer over the kit: plain data,a walk over it,its soundness. -/
import Derived.Sort.OwnSorted
import Derived.Test.YtiafmjolbacdaaaGreatSx8
import Derived.Test.YtiafmjolbacdaaaGreatSx7
set_option linter.unusedSectionVars false
set_option linter.unusedVariables false
set_option linter.unusedSimpArgs false
set_option linter.deprecated false
/- AN OWN ROW THAT A CALL HANDS BACK IS NO MORE WRITTEN TO. -/
namespace Go.Sx
open Go.RowKit
variable [Globs] [Codes]
variable {P : Program}

end Go.Sx

/- SETS OF NAMES: their order forgotten; a copy of a map. -/
namespace Go.Sx
open Go.RowKit
variable [Globs] [Codes]
variable {P : Program}
def Ob.wk (o o' : Ob) : Prop := ∀ {own : Nat -> Prop} {φ : Mem} {h : Nat -> Value} {w : World} {hv : Value},ObR own φ h w hv o -> ObR own φ h w hv o'
theorem Ob.wk_refl (o : Ob) : o.wk o := fun h => h
theorem wk_set {ks ks' : List D} {z : D} (hp : ks'.Perm ks) : (Ob.gen (.mapC ks' (ks'.map fun _ => z)) []).wk (.gen (.mapS ks z) []) := by
 intro own φ h w hv ⟨b,vals,o,h1,h2,h3,h4,h5,h6,h7⟩
 exact ⟨b,vals,o,h1,h2,h3,⟨ks',hp,h4⟩,h5,h6,h7⟩
def Obs.wk (a b : Obs) : Prop := ∀ i,(lk a i = none /\ lk b i = none) \/ ∃ o o',lk a i = some o /\ lk b i = some o' /\ o.wk o'
theorem Obs.wk_refl (a : Obs) : Obs.wk a a := fun i => by
 cases h : lk a i with
 | none => exact .inl ⟨rfl,rfl⟩
 | some o => exact .inr ⟨o,o,rfl,rfl,Ob.wk_refl o⟩
theorem Obs.wk_cons {i : Nat} {o o' : Ob} {a b : Obs} (h : o.wk o') (hr : Obs.wk a b) : Obs.wk ((i,o) :: a) ((i,o') :: b) := fun j => by
 simp only [lk]
 by_cases hj : j = i
 ·rw [if_pos hj,if_pos hj]; exact .inr ⟨o,o',rfl,rfl,h⟩
 ·rw [if_neg hj,if_neg hj]; exact hr j
theorem Obs.wk_some {a b : Obs} (h : Obs.wk a b) (i : Nat) : (lk b i).isSome = (lk a i).isSome := by
 rcases h i with ⟨h1,h2⟩ | ⟨o,o',h1,h2,_⟩ <;> rw [h1,h2] <;> rfl
theorem Loc.wk {own : Nat -> Prop} {a b : Obs} {φ : Mem} {h : Nat -> Value} {w : World} (hw : Obs.wk a b) (hl : Loc own a φ h w) : Loc own b φ h w :=
 ⟨hl.one,hl.glob.sub fun x ⟨i,hi,hb⟩ => ⟨i,by rw [<- Obs.wk_some hw]; exact hi,hb⟩,hl.mem,fun i o ho => by
  rcases hw i with ⟨_,h2⟩ | ⟨o1,o2,h1,h2,h3⟩
  ·rw [h2] at ho; cases ho
  ·rw [h2] at ho; cases ho; exact h3 (hl.obj i o1 h1),fun i j x hi hj => hl.sep i j x (by rw [<- Obs.wk_some hw]; exact hi) (by rw [<- Obs.wk_some hw]; exact hj)⟩
theorem CallL.wk {d : D} {args : List D} {ob : Obs} {R R' : D -> Obs -> Prop} (h : CallL P d args ob R) (hw : ∀ r o,R r o -> ∃ o',R' r o' /\ Obs.wk o o') : CallL P d args ob R' := by
 intro F hF n φ hh w v vs hp hv hvs
 refine (h F hF n φ hh w v vs hp hv hvs).mono ?_
 rintro e w' ⟨r,o,φ',h',he,hR,ha⟩
 obtain ⟨o',hR',hk⟩ := hw r o hR
 exact ⟨r,o',φ',h',he,hR',⟨ha.loc.wk hk,ha.ext,ha.new,ha.frame,ha.hfix,ha.os,ha.tape,ha.output,ha.grow⟩⟩
theorem set_some {own : Nat -> Prop} {φ : Mem} {h : Nat -> Value} {w : World} {hv : Value} {ks : List D} {z : D} (hob : ObR own φ h w hv (.gen (.mapS ks z) [])) : ∃ ks' : List D,ks'.Perm ks /\ ObR own φ h w hv (.gen (.mapC ks' (ks'.map fun _ => z)) []) := by
 obtain ⟨b,vals,o,h1,h2,h3,⟨ks',hp,h4⟩,h5,h6,h7⟩ := hob
 exact ⟨ks',hp,b,vals,o,h1,h2,h3,h4,h5,h6,h7⟩
theorem CallL.ofS {d : D} {args : List D} {ks : List D} {z : D} {i : Nat} {ob : Obs} {R : D -> Obs -> Prop} (H : ∀ ks' : List D,ks'.Perm ks -> CallL P d args ((i,.gen (.mapC ks' (ks'.map fun _ => z)) []) :: ob) R) : CallL P d args ((i,.gen (.mapS ks z) []) :: ob) R := by
 intro F hF n φ hh w v vs hp hv hvs
 obtain ⟨ks',hpm,hob⟩ := set_some (hp.obj i (.gen (.mapS ks z) []) (by simp [lk]))
 have hsome : ∀ j,(lk ((i,Ob.gen (.mapC ks' (ks'.map fun _ => z)) []) :: ob) j).isSome = (lk ((i,Ob.gen (.mapS ks z) []) :: ob) j).isSome := fun j => by
  simp only [lk]
  split <;> rfl
 have hZ : ∀ b,ZOf ((i,Ob.gen (.mapC ks' (ks'.map fun _ => z)) []) :: ob) hh b ↔ ZOf ((i,Ob.gen (.mapS ks z) []) :: ob) hh b := fun b => by
  constructor <;> rintro ⟨j,hj,hb⟩
  ·exact ⟨j,by rw [<- hsome]; exact hj,hb⟩
  ·exact ⟨j,by rw [hsome]; exact hj,hb⟩
 have hl : Loc (fun _ => True) ((i,.gen (.mapC ks' (ks'.map fun _ => z)) []) :: ob) φ hh w := by
  refine ⟨hp.one,hp.glob.sub fun b hb => (hZ b).1 hb,hp.mem,fun j o ho => ?_,fun j k b hj hk => hp.sep j k b (by rw [<- hsome]; exact hj) (by rw [<- hsome]; exact hk)⟩
  simp only [lk] at ho
  split at ho
  ·rename_i e; subst e; cases ho; exact hob
  ·rename_i e
   exact hp.obj j o (by simp only [lk]; rw [if_neg e]; exact ho)
 refine (H ks' hpm F hF n φ hh w v vs hl hv hvs).mono ?_
 rintro e w' ⟨r,o,φ',h',he,hR,ha⟩
 exact ⟨r,o,φ',h',he,hR,⟨⟨ha.loc.one,ha.loc.glob,ha.loc.mem,fun j o ho => (ha.loc.obj j o ho).keep (fun b hb => hb.imp id (hZ b).1) (fun _ _ => rfl) (fun _ _ _ h => h) (fun _ _ _ => rfl) (fun _ _ _ h => h),ha.loc.sep⟩,ha.ext,fun b o v h1 h2 => (ha.new b o v h1 h2).imp id (hZ b).1,fun b hb hz => ha.frame b hb fun h => hz ((hZ b).1 h),fun j hj => ha.hfix j (by rw [hsome]; exact hj),ha.os,ha.tape,ha.output,ha.grow⟩⟩
theorem CallL.clone {f : FuncId} (hpf : pureF P f = true) (H : ∀ (b : Nat) (es : Array MapEntry) (clock : Nat) (w : World),w.heap[b]? = some (.map es clock) -> Calls P f #[.map (some b)] w fun e w' => e = .returned (.map (some w.heap.size)) /\ w' = w.alloc (.map es clock)) (ks cs : List D) :
  CallL P (.func (.func f) [] []) [.map 0] [(0,.gen (.mapC ks cs) [])] fun r ob => r = .map 1 /\ ob = [(0,.gen (.mapC ks cs) []),(1,.gen (.mapC ks cs) [])] := by
 intro F hF n φ h w v vs hp hv hvs
 obtain ⟨va,vc,rfl,hva,hvc⟩ : ∃ va vc,v = .func (.func f) va vc /\ va.size = 0 /\ vc.size = 0 := by
  cases hv with
  | pure hr => cases hr
  | func _ vf vc _ _ hf hc _ _ => exact ⟨vf,vc,rfl,hf,hc⟩
 obtain ⟨u,rfl,hu⟩ := vs1 hvs
 obtain ⟨rfl,hlive⟩ := hu.map_inv
 rw [run_callv_func hpf]
 have ea : va = #[] := by simpa using hva
 have ec : vc = #[] := by simpa using hvc
 subst ea; subst ec
 simp only [Array.empty_append,Array.append_empty,DynOut]
 have hob := hp.obj 0 _ rfl
 obtain ⟨b,vals,o,hblk,_,hheap,⟨hv0,hall,⟨b',hb'⟩,es,clock,rfl,h1,h2,h3,h4⟩,hlen,_,hnone⟩ := hob
 have hob := hp.obj 0 _ rfl
 rw [hb'] at hblk
 cases hblk
 rw [hb']
 refine hF.calls ((H b es clock w hheap).mono ?_) n
 rintro e w' ⟨rfl,rfl⟩
 have hbl : b < w.heap.size := (Array.getElem?_eq_some_iff.1 hheap).1
 have hnew : (w.alloc (.map es clock)).heap[w.heap.size]? = some (.map es clock) := heap_alloc_new w _
 have hold : ∀ c,c < w.heap.size -> (w.alloc (.map es clock)).heap[c]? = w.heap[c]? := fun c hc => by
  simp only [World.alloc]
  exact Array.getElem?_push_lt hc ▸ (Array.getElem?_eq_getElem hc).symm
 have hh1 : updH h 1 (.map (some w.heap.size)) 1 = .map (some w.heap.size) := upd_same ..
 have hh0 : updH h 1 (.map (some w.heap.size)) 0 = .map (some b) := by rw [upd_other _ _ (by decide)]; exact hb'
 have hφn : ∀ off,φ w.heap.size off = none := fun off => by
  cases hq : φ w.heap.size off with
  | none => rfl
  | some u => exact absurd (Sub.lt (w := w) hp.mem hq) (Nat.lt_irrefl _)
 have hsz : w.heap.size <= (w.alloc (.map es clock)).heap.size := Nat.le_of_lt (Array.getElem?_eq_some_iff.1 hnew).1
 have hZ0 : ZOf [(0,Ob.gen (.mapC ks cs) [])] h b := ⟨0,rfl,by rw [hb']; rfl⟩
 have hlt : ∀ g o,w.heap[g]? = some o -> (w.alloc (.map es clock)).heap[g]? = some o := fun g o hg => by rw [hold g (Array.getElem?_eq_some_iff.1 hg).1,hg]
 have hZn : ∀ g,ZOf [(0,Ob.gen (.mapC ks cs) []),(1,Ob.gen (.mapC ks cs) [])] (updH h 1 (.map (some w.heap.size))) g -> ZOf [(0,Ob.gen (.mapC ks cs) [])] h g \/ g = w.heap.size := by
  rintro g ⟨i,hi,hg⟩
  match i,hi with
  | 0,_ => exact .inl ⟨0,rfl,by rw [upd_other _ _ (by decide)] at hg; exact hg⟩
  | 1,_ => rw [hh1] at hg; exact .inr (by simpa [blk] using hg.symm)
  | i + 2,hi => simp [lk] at hi
 refine .ret ⟨rfl,rfl⟩ (φ' := φ) (h' := updH h 1 (.map (some w.heap.size))) ?_ ⟨⟨fun i => ?_,⟨hp.glob.ok,fun g' arr hx => ?_,fun g' hx => ?_⟩,fun b o u hu => ?_,fun i ob hob' => ?_,fun i j c hi hj hbi hbj => ?_⟩,fun _ _ _ h => h,fun b o u h1 h2 => (by rw [h1] at h2; cases h2),fun b hb _ => hold b hb,fun i hi => ?_,rfl,rfl,rfl,hsz⟩
 ·have := RV.map (φ := φ) (h := updH h 1 (.map (some w.heap.size))) 1 (by rw [hh1]; rfl)
  rw [hh1] at this
  exact this
 ·by_cases hi : i = 1
  ·subst hi; rw [hh1]; rfl
  ·rw [upd_other _ _ hi]; exact hp.one i
 ·obtain ⟨⟨ty',fr,hw⟩,hz⟩ := hp.glob.x g' arr hx
  exact ⟨⟨ty',fr,hlt _ _ hw⟩,fun hz' => (hZn _ hz').elim hz fun e => by have := (Array.getElem?_eq_some_iff.1 hw).1; omega⟩
 ·obtain ⟨⟨arr,ty',fr,q,hw,ha⟩,hz⟩ := hp.glob.i g' hx
  exact ⟨⟨arr,ty',fr,q,hlt _ _ hw,ha⟩,fun hz' => (hZn _ hz').elim hz fun e => by have := (Array.getElem?_eq_some_iff.1 hw).1; omega⟩
 ·have hl : b < w.heap.size := Sub.lt (w := w) hp.mem hu
  rw [World.cell?_of_block (a := ⟨b,o,none⟩) (hold b hl)]
  exact hp.mem b o u hu
 ·match i,hob' with
  | 0,hob' =>
   cases hob'
   rw [hh0]
   exact ⟨b,vals,_,rfl,.inr hZ0,hlt _ _ hheap,⟨hv0,hall,⟨_,rfl⟩,es,clock,rfl,h1,h2,h3,h4⟩,hlen,fun j d hd => by simp at hd,hnone⟩
  | 1,hob' =>
   cases hob'
   rw [hh1]
   exact ⟨w.heap.size,vals,_,rfl,.inl (Nat.le_refl _),hnew,⟨hv0,hall,⟨_,rfl⟩,es,clock,rfl,h1,h2,h3,h4⟩,hlen,fun j d hd => by simp at hd,hφn⟩
  | i + 2,hob' => simp [lk] at hob'
 ·match i,j,hi,hj with
  | 0,0,_,_ => rfl
  | 1,1,_,_ => rfl
  | 0,1,_,_ => rw [hh0] at hbi; rw [hh1] at hbj; simp only [blk,Option.some.injEq] at hbi hbj; omega
  | 1,0,_,_ => rw [hh1] at hbi; rw [hh0] at hbj; simp only [blk,Option.some.injEq] at hbi hbj; omega
  | i + 2,_,hi,_ => simp [lk] at hi
  | _,j + 2,_,hj => simp [lk] at hj
 ·have : i ≠ 1 := fun e => by rw [e] at hi; simp [lk] at hi
  exact upd_other _ _ this
end Go.Sx

/- Terms: plain,ground,their depth. -/
namespace Go.Sx
def Tm.plain : Tm -> Bool
 | .mk k _ _ _ => decide (k = 1) || decide (k = 2) || decide (k = 4)
def Tm.value (t : Tm) : Bool := t.all Tm.plain && t.valid
end Go.Sx

/- A term and its parts. -/
namespace Go.Sx
mutual
theorem sz_vs : ∀ (t : Tm) (m : Int),t.sz m <= m -> (t.vs.length : Int) <= m
 | .mk k n s l,m,h => by
  simp only [Tm.sz] at h
  have := szL_vs l (m - 1) 0 (by omega)
  have h1 : (Tm.v1 (.mk k n s l)).length <= 1 := by
   simp only [Tm.v1]
   split <;> simp
  simp only [Tm.vs,List.length_append]
  omega
theorem szL_vs : ∀ (l : List Tm) (m n : Int),Tm.szL l m n <= m -> ((Tm.vsL l).length : Int) <= m - n
 | [],m,n,h => by
  simp only [Tm.szL] at h
  simp only [Tm.vsL,List.length_nil]
  omega
 | a :: r,m,n,h => by
  simp only [Tm.szL] at h
  simp only [Tm.vsL,List.length_append]
  split at h
  ·have h0 := szL_ge r m (n + a.sz (m - n))
   have h1 := sz_vs a (m - n) (by omega)
   have h4 := sz_ge a (m - n)
   have h2 := szL_vs r m (n + a.sz (m - n)) h
   have h3 := sz_vs2 a (m - n) (by omega)
   omega
  ·omega
theorem sz_vs2 : ∀ (t : Tm) (m : Int),t.sz m <= m -> (t.vs.length : Int) <= t.sz m
 | .mk k n s l,m,h => by
  simp only [Tm.sz] at h ⊢
  have := szL_vs2 l (m - 1) 0 (by omega)
  have h1 : (Tm.v1 (.mk k n s l)).length <= 1 := by
   simp only [Tm.v1]
   split <;> simp
  simp only [Tm.vs,List.length_append]
  omega
theorem szL_vs2 : ∀ (l : List Tm) (m n : Int),Tm.szL l m n <= m -> ((Tm.vsL l).length : Int) <= Tm.szL l m n - n
 | [],m,n,h => by
  simp only [Tm.szL] at h ⊢
  simp only [Tm.vsL,List.length_nil]
  omega
 | a :: r,m,n,h => by
  simp only [Tm.szL] at h ⊢
  simp only [Tm.vsL,List.length_append]
  split at h
  ·rename_i hc
   rw [if_pos hc]
   have h0 := szL_ge r m (n + a.sz (m - n))
   have h2 := szL_vs2 r m (n + a.sz (m - n)) h
   have h3 := sz_vs2 a (m - n) (by omega)
   omega
  ·omega
end
end Go.Sx

/- SAFETY,PLAIN: sizes of literals. -/
namespace Go.Sx
def szLt (x : Lt) (m : Int) : Int := 1 + (1 + Tm.szL x.a (m - 1) 0) + x.l.sz m + x.r.sz m
def szLts : List Lt -> Int -> Int -> Int
 | [],_,n => n
 | x :: r,m,n => if n <= m then szLts r m (n + szLt x (m - n)) else n
theorem szLt_ge (x : Lt) (m : Int) : 4 <= szLt x m := by
 have h1 := szL_ge x.a (m - 1) 0
 have h2 := sz_ge x.l m
 have h3 := sz_ge x.r m
 unfold szLt
 omega
theorem szLts_ge : ∀ (l : List Lt) (m n : Int),n <= szLts l m n
 | [],m,n => Int.le_refl _
 | x :: r,m,n => by
  unfold szLts
  split
  ·have h1 := szLts_ge r m (n + szLt x (m - n))
   have h2 := szLt_ge x (m - n)
   omega
  ·exact Int.le_refl _
def Lt.few (N : Int) (x : Lt) : Prop := ((Tm.vsL x.a).length : Int) <= N /\ (x.l.vs.length : Int) <= N /\ (x.r.vs.length : Int) <= N
theorem szLt_few {x : Lt} {m : Int} (h : szLt x m <= m) : x.few m /\ (x.pool.length : Int) + 2 <= szLt x m := by
 have h1 := szL_ge x.a (m - 1) 0
 have h2 := sz_ge x.l m
 have h3 := sz_ge x.r m
 unfold szLt at h ⊢
 have h4 := szL_vs2 x.a (m - 1) 0 (by omega)
 have h5 := sz_vs2 x.l m (by omega)
 have h6 := sz_vs2 x.r m (by omega)
 have h7 : (Tm.ovL x.a).length <= (Tm.vsL x.a).length := ovL_len x.a
 refine ⟨⟨by omega,by omega,by omega⟩, ?_⟩
 simp only [Lt.pool,List.length_append,List.length_cons,List.length_nil]
 omega
theorem few_mono {x : Lt} {a b : Int} (h : x.few a) (hab : a <= b) : x.few b := ⟨Int.le_trans h.1 hab,Int.le_trans h.2.1 hab,Int.le_trans h.2.2 hab⟩
theorem szLts_few : ∀ (l : List Lt) (m n : Int),0 <= n -> szLts l m n <= m -> (∀ x ∈ l,x.few m) /\ n + l.length + (l.flatMap Lt.pool).length <= szLts l m n
 | [],m,n,_,h => ⟨fun x hx => (by cases hx),by simp [szLts]⟩
 | x :: r,m,n,hn,h => by
  unfold szLts at h ⊢
  split at h
  ·rename_i hc
   rw [if_pos hc]
   have h1 := szLts_ge r m (n + szLt x (m - n))
   have h2 := szLt_ge x (m - n)
   have h3 := szLt_few (x := x) (m := m - n) (by omega)
   have h4 := szLts_few r m (n + szLt x (m - n)) (by omega) h
   refine ⟨fun y hy => ?_, ?_⟩
   ·rcases List.mem_cons.1 hy with rfl | hy
    ·exact few_mono h3.1 (by omega)
    ·exact h4.1 y hy
   ·rw [List.length_cons,List.flatMap_cons,List.length_append]
    omega
  ·omega
theorem closeS_len {s : List Nm} (ls : List Lt) (h : s.Nodup) : (closeS s ls).length <= s.length + (ls.flatMap Lt.pool).length := by
 have hT : ∀ (n : Nat) (s : List Nm), ∀ y ∈ closeN n s ls,y ∈ s ++ ls.flatMap Lt.pool := by
  intro n
  induction n with
  | zero => intro s y hy; exact List.mem_append_left _ hy
  | succ n ih =>
   intro s y hy
   unfold closeN at hy
   have hr : ∀ z ∈ roundS s ls,z ∈ s ++ ls.flatMap Lt.pool := fun z hz => List.mem_append.2 (roundS_sub ls hz)
   split at hy
   ·exact hr y hy
   ·rcases List.mem_append.1 (ih _ y hy) with h1 | h1
    ·exact hr y h1
    ·exact List.mem_append_right _ h1
 have := List.Nodup.length_le_of_subset (closeS_nd ls h) (l₂ := s ++ ls.flatMap Lt.pool) (fun y hy => hT _ s y hy)
 rw [List.length_append] at this
 exact this
end Go.Sx

/- RULES,PLAIN: their variables,those that are not bound. -/
namespace Go.Sx
structure El where
 t : List Tm
 c : List Lt
structure He where
 p : Nm
 a : List Tm
 c : List Lt
structure Bo where
 k : Nat
 l : Lt
 c : List Lt
 no : Bool
 f : Nat
 e : List El
 op : Nat
 b : Tm
structure Ru where
 k : Nat
 h : List He
 lo : Tm
 up : Tm
 b : List Bo
 w : Tm
 lv : Tm
 t : List Tm
def El.cs (x : El) : List D := [.slice (Tm.cellsL x.t) [],.slice (ltL x.c) []]
def He.cs (x : He) : List D := [.str x.p,.slice (Tm.cellsL x.a) [],.slice (ltL x.c) []]
def elL (l : List El) : List (List D) := l.map El.cs
def heL (l : List He) : List (List D) := l.map He.cs
def Bo.cs (x : Bo) : List D := .int .u8 x.k :: (x.l.c ++ .slice (ltL x.c) [] :: .bool x.no :: .int .u8 x.f :: .slice (elL x.e) [] :: .int .u8 x.op :: x.b.cells)
def boL (l : List Bo) : List (List D) := l.map Bo.cs
def Ru.cs (x : Ru) : List D := .int .u8 x.k :: .slice (heL x.h) [] :: (x.lo.cells ++ (x.up.cells ++ .slice (boL x.b) [] :: (x.w.cells ++ (x.lv.cells ++ [.slice (Tm.cellsL x.t) []]))))
theorem elL_len (l : List El) : (elL l).length = l.length := by simp [elL]
theorem heL_len (l : List He) : (heL l).length = l.length := by simp [heL]
theorem boL_len (l : List Bo) : (boL l).length = l.length := by simp [boL]
theorem elL_get {l : List El} {i : Nat} (h : i < l.length) : (elL l)[i]? = some l[i].cs := by simp [elL,h]
theorem heL_get {l : List He} {i : Nat} (h : i < l.length) : (heL l)[i]? = some l[i].cs := by simp [heL,h]
theorem boL_get {l : List Bo} {i : Nat} (h : i < l.length) : (boL l)[i]? = some l[i].cs := by simp [boL,h]
def withinT (l : List Lt) : List Tm := l.flatMap fun x => x.a ++ [x.l,x.r]
def varsL (l : List Tm) : List Nm := l.flatMap Tm.W
def varsW (l : List Lt) : List Nm := varsL (withinT l)
def gHead (k : Nat) (s : List Nm) (x : He) : List Nm := if k = 2 then s else addS (addS s (varsL x.a)) (varsW x.c)
def gBody (s : List Nm) (x : Bo) : List Nm := if x.k = 1 then addS s (varsW [x.l]) else if x.k = 3 then addS s (varsL [x.b]) else s
def globalS (r : Ru) : List Nm := r.b.foldl gBody (r.h.foldl (gHead r.k) (addS (addS [] (varsL [r.lo,r.up,r.w,r.lv])) (varsL r.t)))
def ckS (u names bd : List Nm) : List Nm := addS u (names.filter fun x => !decide (x ∈ bd))
def elemS (g u : List Nm) (c : List Lt) (names : List Nm) : List Nm := ckS (ckS u names (closeS g c)) (varsW c) (closeS g c)
def uElem (g u : List Nm) (x : El) : List Nm := elemS g u x.c (varsL x.t)
def uBody (g : List Nm) (p : List Nm × List Lt) (x : Bo) : List Nm × List Lt := if x.k = 1 then (p.1,p.2 ++ [x.l]) else if x.k = 2 then (elemS g p.1 x.c (varsW [x.l]),p.2) else if x.k = 3 then (x.e.foldl (uElem g) p.1,p.2) else p
def uHead (k : Nat) (g u : List Nm) (x : He) : List Nm := if k = 2 then elemS g u x.c (varsL x.a) else u
def unsafeS (r : Ru) : List Nm := ckS (r.h.foldl (uHead r.k (globalS r)) (r.b.foldl (uBody (globalS r)) ([],[])).1) (globalS r) (closeS [] (r.b.foldl (uBody (globalS r)) ([],[])).2)
theorem ckS_nd {u names bd : List Nm} (h : u.Nodup) : (ckS u names bd).Nodup := addS_nd h
theorem elemS_nd {g u : List Nm} {c : List Lt} {names : List Nm} (h : u.Nodup) : (elemS g u c names).Nodup := ckS_nd (ckS_nd h)
theorem gHead_nd (k : Nat) : ∀ (l : List He) {s : List Nm},s.Nodup -> (l.foldl (gHead k) s).Nodup
 | [],s,h => h
 | x :: r,s,h => gHead_nd k r (by unfold gHead; split; exact h; exact addS_nd (addS_nd h))
theorem gBody_nd : ∀ (l : List Bo) {s : List Nm},s.Nodup -> (l.foldl gBody s).Nodup
 | [],s,h => h
 | x :: r,s,h => gBody_nd r (by unfold gBody; split; exact addS_nd h; split; exact addS_nd h; exact h)
theorem globalS_nd (r : Ru) : (globalS r).Nodup := gBody_nd _ (gHead_nd _ _ (addS_nd (addS_nd List.nodup_nil)))
theorem uElem_nd (g : List Nm) : ∀ (l : List El) {u : List Nm},u.Nodup -> (l.foldl (uElem g) u).Nodup
 | [],u,h => h
 | x :: r,u,h => uElem_nd g r (elemS_nd h)
theorem uBody_nd (g : List Nm) : ∀ (l : List Bo) {p : List Nm × List Lt},p.1.Nodup -> (l.foldl (uBody g) p).1.Nodup
 | [],p,h => h
 | x :: r,p,h => uBody_nd g r (by unfold uBody; split; exact h; split; exact elemS_nd h; split; exact uElem_nd g _ h; exact h)
theorem uHead_nd (k : Nat) (g : List Nm) : ∀ (l : List He) {u : List Nm},u.Nodup -> (l.foldl (uHead k g) u).Nodup
 | [],u,h => h
 | x :: r,u,h => uHead_nd k g r (by unfold uHead; split; exact elemS_nd h; exact h)
theorem unsafeS_nd (r : Ru) : (unsafeS r).Nodup := ckS_nd (uHead_nd _ _ _ (uBody_nd _ _ List.nodup_nil))
theorem ckS_mem {u names bd : List Nm} {x : Nm} : x ∈ ckS u names bd ↔ x ∈ u \/ (x ∈ names /\ x ∉ bd) := by
 unfold ckS
 rw [addS_mem,List.mem_filter]
 simp
theorem ckS_perm {u q g bd : List Nm} (hu : u.Nodup) (h : q.Perm g) : (ckS u q bd).Perm (ckS u g bd) :=
 (List.perm_ext_iff_of_nodup (ckS_nd hu) (ckS_nd hu)).2 fun x => by rw [ckS_mem,ckS_mem,h.mem_iff]
theorem ckS_cons (u : List Nm) (x : Nm) (r bd : List Nm) : ckS u (x :: r) bd = if x ∈ bd then ckS u r bd else ckS (insS u x) r bd := by
 unfold ckS
 by_cases h : x ∈ bd
 ·rw [if_pos h,List.filter_cons_of_neg (by simp [h])]
 ·rw [if_neg h,List.filter_cons_of_pos (by simp [h])]; rfl
theorem ckS_app (u a b bd : List Nm) : ckS u (a ++ b) bd = ckS (ckS u a bd) b bd := by
 unfold ckS
 rw [List.filter_append,addS_app]
end Go.Sx

/- A range over a function,a call: where what comes back is not one thing alone. -/
namespace Go.Sx
open Go.RowKit
variable [Globs] [Codes]
variable {P : Program}
theorem swF_rngF {n bs N : Nat} {g : X} {ps : Array Tmp} {a b : SC} {K : List Fr} {s : St} {Q : Exit -> St -> Prop} (nm : List Nat) (R : D -> Obs -> Prop) (hnd : nm.Nodup)
  (hin : ∀ i ∈ nm,(lk ((s.nx bs,recd P .ready none N ps a b s.tm) :: s.ob) i).isSome) (hf : ∃ f fa fc,s.get g = .func (.func f) fa fc /\ pureF P f = true)
  (hc : CallL P ((s.get g).ren (idx · nm)) [(D.yld (s.nx bs)).ren (idx · nm)] (handO ((s.nx bs,recd P .ready none N ps a b s.tm) :: s.ob) (idx · nm) 0 nm) R)
  (hk : ∀ r ob',R r ob' -> r.isPan = false /\ (∃ ps' asg body N' keys ds,lk (St.back ⟨s.tm,(s.nx bs,recd P .ready none N ps a b s.tm) :: s.ob⟩ (s.nx bs + 1) nm ob').ob (s.nx bs) = some (.gen (.loop .ready none ps' asg body N' keys) ds)) ∧
   swF P n bs K ⟨s.tm,eraseId (s.nx bs) (St.back ⟨s.tm,(s.nx bs,recd P .ready none N ps a b s.tm) :: s.ob⟩ (s.nx bs + 1) nm ob').ob⟩ Q) : swF P (n + 1) bs (.sc (.rangeF N g ps a b) :: K) s Q := by
 refine ⟨nm,R,hnd,hin,hf,hc,fun r ob' hr => ?_⟩
 obtain ⟨hp,⟨ps',asg,body,N',keys,ds,hl⟩,h⟩ := hk r ob' hr
 exact .inr ⟨hp,.ready,none,ps',asg,body,N',keys,ds,hl,by decide,h⟩
theorem swF_reg {n bs : Nat} {ops : List SOp} {K : List Fr} {s : St} {Q : Exit -> St -> Prop} (h : stps P (s.nx bs) ops s fun s' => swF P n bs K s' Q) : swF P (n + 1) bs (.sc (.reg ops) :: K) s Q := h
theorem stps_mv {bs d : Nat} {x : X} {r : List SOp} {s : St} {K : St -> Prop} (h : stps P bs r (s.put (some d) (s.get x)) K) : stps P bs (.a (some d) none .mv [x] :: r) s K := h
theorem stps_cd {bs : Nat} {dst : Option Nat} {x : X} {xs : List X} {r : List SOp} {s : St} {K : St -> Prop} (nm : List Nat) (R : D -> Obs -> Prop) (hnd : nm.Nodup) (hin : ∀ i ∈ nm,(lk s.ob i).isSome)
  (hc : CallL P ((s.get x).ren (idx · nm)) ((xs.map fun y => dva (s.get x) (lk s.ob) (s.get y)).map (D.ren (idx · nm))) (handO s.ob (idx · nm) 0 nm) R)
  (hk : ∀ r0 ob',R r0 ob' -> r0.isPan = false /\ stps P bs r ((s.back (s.base bs) nm ob').put dst (r0.ren (bkN (s.base bs) nm))) K) : stps P bs (.cd dst none x xs :: r) s K :=
 ⟨nm,R,s.base bs,hnd,hin,Nat.le_max_left ..,Nat.le_max_right ..,hc,hk⟩
end Go.Sx

/- ARITHMETIC,PLAIN. -/
namespace Go.Sx
end Go.Sx

/- ALL ROWS OF LISTS,PLAIN. -/
namespace Go.Sx
theorem full_ix {n : Nat} {ix : List Nat} (hnd : ix.Nodup) (hlt : ∀ i ∈ ix,i < n) (hl : n <= ix.length) (i : Nat) (hi : i < n) : i ∈ ix := by
 by_cases h : i ∈ ix
 ·exact h
 ·have := List.Nodup.length_le_of_subset (List.nodup_cons.2 ⟨h,hnd⟩) (l₂ := List.range n) (fun j hj => by
   rcases List.mem_cons.1 hj with rfl | hj
   ·exact List.mem_range.2 hi
   ·exact List.mem_range.2 (hlt j hj))
  simp at this
  omega
end Go.Sx

/- LITERALS AND TEXTS ARE READ. -/
namespace Go.Sx
open Go.RowKit Go.Deep Go.ChangeShapes Go.WideShapes
def tmSh : List ShT := [.int .u8,.int .i64,.str,.tms]
def litSh : List ShT := .int .u8 :: .bool :: .str :: .tms :: .int .u8 :: (tmSh ++ tmSh)
theorem fitsT_app {B : Nat} : ∀ {l m : List ShT} {ds : List D},ShT.fits B (l ++ m) ds -> ∃ a b,ds = a ++ b /\ ShT.fits B l a /\ ShT.fits B m b
 | [],m,ds,h => ⟨[],ds,rfl,rfl,h⟩
 | s :: r,m,ds,h => by
  simp only [List.cons_append,ShT.fits] at h
  obtain ⟨d,t,rfl,h1,h2⟩ := h
  obtain ⟨a,b,rfl,h3,h4⟩ := fitsT_app h2
  exact ⟨d :: a,b,rfl,⟨d,a,rfl,h1,h3⟩,h4⟩
theorem tm_of {B : Nat} {ds : List D} (h : ShT.fits B tmSh ds) : ∃ t : Tm,t.wf B /\ ds = t.cells := by
 simp only [tmSh,ShT.fits,ShT.fit] at h
 obtain ⟨_,_,rfl,⟨k,rfl,hk⟩,_,_,rfl,⟨n,rfl,hn⟩,_,_,rfl,⟨s,rfl,hs⟩,_,_,rfl,⟨l,rfl,hl,hw⟩,rfl⟩ := h
 have h1 := wf_u8 hk
 have h2 := wf_i64 hn
 refine ⟨.mk k.toNat n s l,⟨by omega,h2.1,h2.2,hs,hl,hw⟩, ?_⟩
 simp only [Tm.cells]
 rw [Int.toNat_of_nonneg h1.1]
theorem lit_of {B : Nat} {ds : List D} (h : ShT.fits B litSh ds) : ∃ x : Lt,x.wf B /\ ds = x.c := by
 simp only [litSh,ShT.fits,ShT.fit] at h
 obtain ⟨_,_,rfl,⟨k,rfl,hk⟩,_,_,rfl,⟨no,rfl⟩,_,_,rfl,⟨p,rfl,hp⟩,_,_,rfl,⟨a,rfl,ha,haw⟩,_,_,rfl,⟨op,rfl,hop⟩,h⟩ := h
 obtain ⟨c1,c2,rfl,h1,h2⟩ := fitsT_app h
 obtain ⟨l,hl,rfl⟩ := tm_of h1
 obtain ⟨r,hr,rfl⟩ := tm_of h2
 have g1 := wf_u8 hk
 have g2 := wf_u8 hop
 refine ⟨⟨k.toNat,no,p,a,op.toNat,l,r⟩,⟨by simp only; omega,hp,ha,haw,by simp only; omega,hl,hr⟩, ?_⟩
 simp only [Lt.c]
 rw [Int.toNat_of_nonneg g1.1,Int.toNat_of_nonneg g2.1]
theorem lits_of {B : Nat} : ∀ {es : List (List D)},(∀ e ∈ es,ShT.fits B litSh e) -> ∃ l : List Lt,es = ltL l /\ ∀ x ∈ l,x.wf B
 | [],_ => ⟨[],rfl,fun _ h => by cases h⟩
 | e :: r,h => by
  obtain ⟨x,hx,rfl⟩ := lit_of (h e (List.mem_cons_self ..))
  obtain ⟨l,rfl,hl⟩ := lits_of (es := r) fun y hy => h y (List.mem_cons_of_mem _ hy)
  refine ⟨x :: l,rfl,fun y hy => ?_⟩
  rcases List.mem_cons.1 hy with rfl | hy
  ·exact hx
  ·exact hl y hy
variable {P : Program}
section
variable [Globs] [Codes]
theorem Reads.mono {B : Nat} {t : TypeId} {Q Q' : D -> Prop} (h : Reads P B t Q) (hq : ∀ a,Q a -> Q' a) : Reads P B t Q' := by
 intro H enc w r base fuel v x hx hw hok
 obtain ⟨a,h1,h2⟩ := h hx hw hok
 exact ⟨a,h1,hq a h2⟩
end
end Go.Sx

/- RULES,PLAIN: what is in the sets; a literal added. -/
namespace Go.Sx
theorem gHead_mem {k : Nat} {x : Nm} : ∀ {l : List He} {s : List Nm},x ∈ l.foldl (gHead k) s ↔ x ∈ s \/ (k ≠ 2 /\ ∃ h ∈ l,x ∈ varsL h.a \/ x ∈ varsW h.c)
 | [],s => by simp
 | a :: r,s => by
  rw [List.foldl_cons,gHead_mem (l := r)]
  by_cases hk : k = 2
  ·simp [gHead,hk]
  ·have e : gHead k s a = addS (addS s (varsL a.a)) (varsW a.c) := by unfold gHead; rw [if_neg hk]
   rw [e,addS_mem,addS_mem]
   constructor
   ·rintro (((h | h) | h) | ⟨_,y,hy,h⟩)
    ·exact .inl h
    ·exact .inr ⟨hk,a,List.mem_cons_self ..,.inl h⟩
    ·exact .inr ⟨hk,a,List.mem_cons_self ..,.inr h⟩
    ·exact .inr ⟨hk,y,List.mem_cons_of_mem _ hy,h⟩
   ·rintro (h | ⟨_,y,hy,h⟩)
    ·exact .inl (.inl (.inl h))
    ·rcases List.mem_cons.1 hy with rfl | hy
     ·rcases h with h | h
      ·exact .inl (.inl (.inr h))
      ·exact .inl (.inr h)
     ·exact .inr ⟨hk,y,hy,h⟩
def gOf (b : Bo) (x : Nm) : Prop := (b.k = 1 /\ x ∈ varsW [b.l]) \/ (b.k = 3 /\ x ∈ varsL [b.b])
theorem gBody_mem {x : Nm} : ∀ {l : List Bo} {s : List Nm},x ∈ l.foldl gBody s ↔ x ∈ s \/ ∃ b ∈ l,gOf b x
 | [],s => by simp
 | a :: r,s => by
  rw [List.foldl_cons,gBody_mem (l := r)]
  have e : x ∈ gBody s a ↔ x ∈ s \/ gOf a x := by
   unfold gBody gOf
   by_cases h1 : a.k = 1
   ·rw [if_pos h1,addS_mem]; simp [h1]
   ·rw [if_neg h1]
    by_cases h3 : a.k = 3
    ·rw [if_pos h3,addS_mem]; simp [h3]
    ·rw [if_neg h3]; simp [h1,h3]
  rw [e]
  constructor
  ·rintro ((h | h) | ⟨b,hb,h⟩)
   ·exact .inl h
   ·exact .inr ⟨a,List.mem_cons_self ..,h⟩
   ·exact .inr ⟨b,List.mem_cons_of_mem _ hb,h⟩
  ·rintro (h | ⟨b,hb,h⟩)
   ·exact .inl (.inl h)
   ·rcases List.mem_cons.1 hb with rfl | hb
    ·exact .inl (.inr h)
    ·exact .inr ⟨b,hb,h⟩
theorem globalS_mem {r : Ru} {x : Nm} : x ∈ globalS r ↔ x ∈ varsL [r.lo,r.up,r.w,r.lv] \/ x ∈ varsL r.t \/ (r.k ≠ 2 /\ ∃ h ∈ r.h,x ∈ varsL h.a \/ x ∈ varsW h.c) \/ ∃ b ∈ r.b,gOf b x := by
 unfold globalS
 rw [gBody_mem,gHead_mem,addS_mem,addS_mem]
 simp only [List.not_mem_nil,false_or,or_assoc]
def badE (g : List Nm) (c : List Lt) (names : List Nm) (x : Nm) : Prop := x ∉ closeS g c /\ (x ∈ names \/ x ∈ varsW c)
theorem elemS_mem {g u : List Nm} {c : List Lt} {names : List Nm} {x : Nm} : x ∈ elemS g u c names ↔ x ∈ u \/ badE g c names x := by
 unfold elemS badE
 rw [ckS_mem,ckS_mem]
 constructor
 ·rintro ((h | ⟨h1,h2⟩) | ⟨h1,h2⟩)
  ·exact .inl h
  ·exact .inr ⟨h2,.inl h1⟩
  ·exact .inr ⟨h2,.inr h1⟩
 ·rintro (h | ⟨h1,h2 | h2⟩)
  ·exact .inl (.inl h)
  ·exact .inl (.inr ⟨h2,h1⟩)
  ·exact .inr ⟨h2,h1⟩
theorem uElem_mem {g : List Nm} {x : Nm} : ∀ {l : List El} {u : List Nm},x ∈ l.foldl (uElem g) u ↔ x ∈ u \/ ∃ e ∈ l,badE g e.c (varsL e.t) x
 | [],u => by simp
 | a :: r,u => by
  rw [List.foldl_cons,uElem_mem (l := r)]
  unfold uElem
  rw [elemS_mem]
  constructor
  ·rintro ((h | h) | ⟨b,hb,h⟩)
   ·exact .inl h
   ·exact .inr ⟨a,List.mem_cons_self ..,h⟩
   ·exact .inr ⟨b,List.mem_cons_of_mem _ hb,h⟩
  ·rintro (h | ⟨b,hb,h⟩)
   ·exact .inl (.inl h)
   ·rcases List.mem_cons.1 hb with rfl | hb
    ·exact .inl (.inr h)
    ·exact .inr ⟨b,hb,h⟩
def badB (g : List Nm) (b : Bo) (x : Nm) : Prop := (b.k = 2 /\ badE g b.c (varsW [b.l]) x) \/ (b.k = 3 /\ ∃ e ∈ b.e,badE g e.c (varsL e.t) x)
def litsB (l : List Bo) : List Lt := l.filterMap fun b => if b.k = 1 then some b.l else none
theorem uBody_mem {g : List Nm} {x : Nm} : ∀ {l : List Bo} {p : List Nm × List Lt},(x ∈ (l.foldl (uBody g) p).1 ↔ x ∈ p.1 \/ ∃ b ∈ l,badB g b x) /\ (l.foldl (uBody g) p).2 = p.2 ++ litsB l
 | [],p => by simp [litsB]
 | a :: r,p => by
  obtain ⟨h1,h2⟩ := uBody_mem (g := g) (x := x) (l := r) (p := uBody g p a)
  rw [List.foldl_cons,h1,h2]
  have e : (x ∈ (uBody g p a).1 ↔ x ∈ p.1 \/ badB g a x) /\ (uBody g p a).2 ++ litsB r = p.2 ++ litsB (a :: r) := by
   unfold uBody badB litsB
   by_cases k1 : a.k = 1
   ·rw [if_pos k1]; simp [k1]
   ·rw [if_neg k1]
    by_cases k2 : a.k = 2
    ·rw [if_pos k2]; simp [k2,elemS_mem]
    ·rw [if_neg k2]
     by_cases k3 : a.k = 3
     ·rw [if_pos k3]; simp [k3,uElem_mem]
     ·rw [if_neg k3]; simp [k1,k2,k3]
  rw [e.1]
  refine ⟨?_,e.2⟩
  constructor
  ·rintro ((h | h) | ⟨b,hb,h⟩)
   ·exact .inl h
   ·exact .inr ⟨a,List.mem_cons_self ..,h⟩
   ·exact .inr ⟨b,List.mem_cons_of_mem _ hb,h⟩
  ·rintro (h | ⟨b,hb,h⟩)
   ·exact .inl (.inl h)
   ·rcases List.mem_cons.1 hb with rfl | hb
    ·exact .inl (.inr h)
    ·exact .inr ⟨b,hb,h⟩
theorem uHead_mem {k : Nat} {g : List Nm} {x : Nm} : ∀ {l : List He} {u : List Nm},x ∈ l.foldl (uHead k g) u ↔ x ∈ u \/ (k = 2 /\ ∃ h ∈ l,badE g h.c (varsL h.a) x)
 | [],u => by simp
 | a :: r,u => by
  rw [List.foldl_cons,uHead_mem (l := r)]
  by_cases hk : k = 2
  ·have e : uHead k g u a = elemS g u a.c (varsL a.a) := by unfold uHead; rw [if_pos hk]
   rw [e,elemS_mem]
   constructor
   ·rintro ((h | h) | ⟨_,b,hb,h⟩)
    ·exact .inl h
    ·exact .inr ⟨hk,a,List.mem_cons_self ..,h⟩
    ·exact .inr ⟨hk,b,List.mem_cons_of_mem _ hb,h⟩
   ·rintro (h | ⟨_,b,hb,h⟩)
    ·exact .inl (.inl h)
    ·rcases List.mem_cons.1 hb with rfl | hb
     ·exact .inl (.inr h)
     ·exact .inr ⟨hk,b,hb,h⟩
  ·simp [uHead,hk]
theorem unsafeS_mem {r : Ru} {x : Nm} : x ∈ unsafeS r ↔ ((∃ b ∈ r.b,badB (globalS r) b x) \/ (r.k = 2 /\ ∃ h ∈ r.h,badE (globalS r) h.c (varsL h.a) x)) \/ (x ∈ globalS r /\ x ∉ closeS [] (litsB r.b)) := by
 unfold unsafeS
 rw [ckS_mem,uHead_mem,uBody_mem.1,uBody_mem (x := x).2]
 simp only [List.not_mem_nil,false_or,List.nil_append]
def varT (n : Nm) : Tm := .mk 3 0 n []
theorem closeS_lits {ls ls' : List Lt} {s t : List Nm} (ht : t.Nodup) (hl : ∀ x ∈ ls,x ∈ ls') (hs : ∀ x ∈ s,x ∈ t) : ∀ x ∈ closeS s ls,x ∈ closeS t ls' := fun x hx =>
 closeS_in ((closeS_cl ls' ht).of (fun y hy => hl y hy) fun _ => Iff.rfl) (fun y hy => closeS_sub (hs y hy)) x hx
end Go.Sx

/- RULES,PLAIN: sizes. -/
namespace Go.Sx
def szHe (x : He) (m : Int) : Int := (1 + Tm.szL x.a (m - 1) 0) + szLts x.c m 0
def szHes : List He -> Int -> Int -> Int
 | [],_,n => n
 | x :: r,m,n => if n <= m then szHes r m (n + szHe x (m - n)) else n
def szEl (x : El) (m : Int) : Int := 1 + Tm.szL x.t m 0 + szLts x.c m 0
def szEls : List El -> Int -> Int -> Int
 | [],_,n => n
 | x :: r,m,n => if n <= m then szEls r m (n + szEl x (m - n)) else n
def szBo (x : Bo) (m : Int) : Int := 1 + szLts [x.l] m 0 + szLts x.c m 0 + x.b.sz m
def szBos : List Bo -> Int -> Int -> Int
 | [],_,n => n
 | x :: r,m,n => if n <= m then szBos r m (szEls x.e m (n + szBo x (m - n))) else n
def szR0 (r : Ru) (m : Int) : Int := 1 + r.lo.sz m + r.up.sz m + r.w.sz m + r.lv.sz m + Tm.szL r.t m 0
def szRu (r : Ru) (m : Int) : Int := szBos r.b m (szHes r.h m (szR0 r m))
theorem vsL_app (a b : List Tm) : Tm.vsL (a ++ b) = Tm.vsL a ++ Tm.vsL b := by
 induction a with
 | nil => rfl
 | cons x r ih => simp only [List.cons_append,Tm.vsL,ih,List.append_assoc]
theorem szL_len : ∀ (l : List Tm) (m n : Int),Tm.szL l m n <= m -> n + l.length <= Tm.szL l m n
 | [],m,n,h => by simp [Tm.szL]
 | a :: r,m,n,h => by
  simp only [Tm.szL] at h ⊢
  split at h
  ·rename_i hc
   rw [if_pos hc]
   have h1 := szL_len r m _ h
   have h2 := sz_ge a (m - n)
   rw [List.length_cons]
   omega
  ·omega
def fewC (N : Int) (l : List Lt) : Prop := (l.length : Int) <= N /\ (∀ x ∈ l,x.few N) /\ ((withinT l).length : Int) <= N /\ ((Tm.vsL (withinT l)).length : Int) <= N
theorem szLt_in {x : Lt} {m : Int} (h : szLt x m <= m) : ((withinT [x]).length : Int) <= szLt x m /\ ((Tm.vsL (withinT [x])).length : Int) <= szLt x m := by
 have h1 := szL_ge x.a (m - 1) 0
 have h2 := sz_ge x.l m
 have h3 := sz_ge x.r m
 unfold szLt at h ⊢
 have h4 := szL_vs2 x.a (m - 1) 0 (by omega)
 have h5 := sz_vs2 x.l m (by omega)
 have h6 := sz_vs2 x.r m (by omega)
 have h7 := szL_len x.a (m - 1) 0 (by omega)
 have e : withinT [x] = x.a ++ [x.l,x.r] := by simp [withinT]
 rw [e,vsL_app]
 simp only [List.length_append,List.length_cons,List.length_nil,Tm.vsL,List.append_nil]
 omega
theorem szLts_in : ∀ (l : List Lt) (m n : Int),0 <= n -> szLts l m n <= m -> n + (withinT l).length <= szLts l m n /\ n + (Tm.vsL (withinT l)).length <= szLts l m n
 | [],m,n,_,h => by simp [szLts,withinT,Tm.vsL]
 | x :: r,m,n,hn,h => by
  unfold szLts at h ⊢
  split at h
  ·rename_i hc
   rw [if_pos hc]
   have h1 := szLts_ge r m (n + szLt x (m - n))
   have h2 := szLt_ge x (m - n)
   have h3 := szLt_in (x := x) (m := m - n) (by omega)
   have h4 := szLts_in r m (n + szLt x (m - n)) (by omega) h
   have e : withinT (x :: r) = withinT [x] ++ withinT r := by simp [withinT]
   rw [e,vsL_app,List.length_append,List.length_append]
   omega
  ·omega
theorem fewC_of {l : List Lt} {m N : Int} (h : szLts l m 0 <= m) (hm : m <= N) : fewC N l := by
 have h1 := szLts_few l m 0 (Int.le_refl _) h
 have h2 := szLts_in l m 0 (Int.le_refl _) h
 exact ⟨by omega,fun x hx => few_mono (h1.1 x hx) hm,by omega,by omega⟩
def fewT (N : Int) (l : List Tm) : Prop := (l.length : Int) <= N /\ ((Tm.vsL l).length : Int) <= N
theorem fewT_of {l : List Tm} {m N : Int} (h : Tm.szL l m 0 <= m) (hm : m <= N) : fewT N l := by
 have h1 := szL_len l m 0 h
 have h2 := szL_vs2 l m 0 h
 exact ⟨by omega,by omega⟩
theorem szHe_ge (x : He) (m : Int) : 1 <= szHe x m := by
 have h1 := szL_ge x.a (m - 1) 0
 have h2 := szLts_ge x.c m 0
 unfold szHe; omega
theorem szEl_ge (x : El) (m : Int) : 1 <= szEl x m := by
 have h1 := szL_ge x.t m 0
 have h2 := szLts_ge x.c m 0
 unfold szEl; omega
theorem szBo_ge (x : Bo) (m : Int) : 2 <= szBo x m := by
 have h1 := szLts_ge [x.l] m 0
 have h2 := szLts_ge x.c m 0
 have h3 := sz_ge x.b m
 unfold szBo; omega
theorem szHes_ge : ∀ (l : List He) (m n : Int),n <= szHes l m n
 | [],m,n => Int.le_refl _
 | x :: r,m,n => by
  unfold szHes
  split
  ·have h1 := szHes_ge r m (n + szHe x (m - n))
   have h2 := szHe_ge x (m - n)
   omega
  ·exact Int.le_refl _
theorem szEls_ge : ∀ (l : List El) (m n : Int),n <= szEls l m n
 | [],m,n => Int.le_refl _
 | x :: r,m,n => by
  unfold szEls
  split
  ·have h1 := szEls_ge r m (n + szEl x (m - n))
   have h2 := szEl_ge x (m - n)
   omega
  ·exact Int.le_refl _
theorem szBos_ge : ∀ (l : List Bo) (m n : Int),n <= szBos l m n
 | [],m,n => Int.le_refl _
 | x :: r,m,n => by
  unfold szBos
  split
  ·have h1 := szBos_ge r m (szEls x.e m (n + szBo x (m - n)))
   have h2 := szEls_ge x.e m (n + szBo x (m - n))
   have h3 := szBo_ge x (m - n)
   omega
  ·exact Int.le_refl _
theorem szHes_few : ∀ (l : List He) (m n : Int),0 <= n -> szHes l m n <= m -> n + l.length <= szHes l m n /\ ∀ x ∈ l,fewT m x.a /\ fewC m x.c
 | [],m,n,_,h => ⟨by simp [szHes],fun x hx => by cases hx⟩
 | x :: r,m,n,hn,h => by
  unfold szHes at h ⊢
  split at h
  ·rename_i hc
   rw [if_pos hc]
   have h1 := szHes_ge r m (n + szHe x (m - n))
   have h2 := szHe_ge x (m - n)
   obtain ⟨h3,h4⟩ := szHes_few r m (n + szHe x (m - n)) (by omega) h
   have g1 := szL_ge x.a (m - n - 1) 0
   have g2 := szLts_ge x.c (m - n) 0
   have e : szHe x (m - n) = (1 + Tm.szL x.a (m - n - 1) 0) + szLts x.c (m - n) 0 := rfl
   refine ⟨by rw [List.length_cons]; omega,fun y hy => ?_⟩
   rcases List.mem_cons.1 hy with rfl | hy
   ·exact ⟨fewT_of (m := m - n - 1) (by omega) (by omega),fewC_of (m := m - n) (by omega) (by omega)⟩
   ·exact h4 y hy
  ·omega
theorem szEls_few : ∀ (l : List El) (m n : Int),0 <= n -> szEls l m n <= m -> n + l.length <= szEls l m n /\ ∀ x ∈ l,fewT m x.t /\ fewC m x.c
 | [],m,n,_,h => ⟨by simp [szEls],fun x hx => by cases hx⟩
 | x :: r,m,n,hn,h => by
  unfold szEls at h ⊢
  split at h
  ·rename_i hc
   rw [if_pos hc]
   have h1 := szEls_ge r m (n + szEl x (m - n))
   have h2 := szEl_ge x (m - n)
   obtain ⟨h3,h4⟩ := szEls_few r m (n + szEl x (m - n)) (by omega) h
   have g1 := szL_ge x.t (m - n) 0
   have g2 := szLts_ge x.c (m - n) 0
   have e : szEl x (m - n) = 1 + Tm.szL x.t (m - n) 0 + szLts x.c (m - n) 0 := rfl
   refine ⟨by rw [List.length_cons]; omega,fun y hy => ?_⟩
   rcases List.mem_cons.1 hy with rfl | hy
   ·exact ⟨fewT_of (m := m - n) (by omega) (by omega),fewC_of (m := m - n) (by omega) (by omega)⟩
   ·exact h4 y hy
  ·omega
def fewB (N : Int) (x : Bo) : Prop := fewC N [x.l] /\ fewC N x.c /\ (x.b.vs.length : Int) <= N /\ (x.e.length : Int) <= N /\ ∀ y ∈ x.e,fewT N y.t /\ fewC N y.c
theorem szBos_few : ∀ (l : List Bo) (m n : Int),0 <= n -> szBos l m n <= m -> n + l.length <= szBos l m n /\ ∀ x ∈ l,fewB m x
 | [],m,n,_,h => ⟨by simp [szBos],fun x hx => by cases hx⟩
 | x :: r,m,n,hn,h => by
  unfold szBos at h ⊢
  split at h
  ·rename_i hc
   rw [if_pos hc]
   have h1 := szBos_ge r m (szEls x.e m (n + szBo x (m - n)))
   have h2 := szBo_ge x (m - n)
   have h0 := szEls_ge x.e m (n + szBo x (m - n))
   obtain ⟨h3,h4⟩ := szBos_few r m _ (by omega) h
   obtain ⟨h5,h6⟩ := szEls_few x.e m (n + szBo x (m - n)) (by omega) (by omega)
   have g1 := szLts_ge [x.l] (m - n) 0
   have g2 := szLts_ge x.c (m - n) 0
   have g3 := sz_ge x.b (m - n)
   have e : szBo x (m - n) = 1 + szLts [x.l] (m - n) 0 + szLts x.c (m - n) 0 + x.b.sz (m - n) := rfl
   have g4 := sz_vs2 x.b (m - n) (by omega)
   refine ⟨by rw [List.length_cons]; omega,fun y hy => ?_⟩
   rcases List.mem_cons.1 hy with rfl | hy
   ·exact ⟨fewC_of (m := m - n) (by omega) (by omega),fewC_of (m := m - n) (by omega) (by omega),by omega,by omega,h6⟩
   ·exact h4 y hy
  ·omega
structure fewR (N : Int) (r : Ru) : Prop where
 t4 : (r.lo.vs.length : Int) <= N /\ (r.up.vs.length : Int) <= N /\ (r.w.vs.length : Int) <= N /\ (r.lv.vs.length : Int) <= N
 tt : fewT N r.t
 hl : (r.h.length : Int) <= N
 h : ∀ x ∈ r.h,fewT N x.a /\ fewC N x.c
 bl : (r.b.length : Int) <= N
 b : ∀ x ∈ r.b,fewB N x
theorem szRu_few {r : Ru} {m : Int} (h : szRu r m <= m) : fewR m r := by
 have g0 := szBos_ge r.b m (szHes r.h m (szR0 r m))
 have g1 := szHes_ge r.h m (szR0 r m)
 have e : szR0 r m = 1 + r.lo.sz m + r.up.sz m + r.w.sz m + r.lv.sz m + Tm.szL r.t m 0 := rfl
 unfold szRu at h
 have a1 := sz_ge r.lo m
 have a2 := sz_ge r.up m
 have a3 := sz_ge r.w m
 have a4 := sz_ge r.lv m
 have a5 := szL_ge r.t m 0
 obtain ⟨b1,b2⟩ := szBos_few r.b m (szHes r.h m (szR0 r m)) (by omega) h
 obtain ⟨c1,c2⟩ := szHes_few r.h m (szR0 r m) (by omega) (by omega)
 have d1 := sz_vs2 r.lo m (by omega)
 have d2 := sz_vs2 r.up m (by omega)
 have d3 := sz_vs2 r.w m (by omega)
 have d4 := sz_vs2 r.lv m (by omega)
 exact ⟨⟨by omega,by omega,by omega,by omega⟩,fewT_of (m := m) (by omega) (Int.le_refl _),by omega,c2,by omega,b2⟩
end Go.Sx

/- RULES ARE READ; the sizes' bounds. -/
namespace Go.Sx
open Go.RowKit Go.Deep Go.ChangeShapes Go.WideShapes
theorem szLts_le : ∀ (l : List Lt) (m n : Int),0 <= n -> 0 <= m -> n <= 4 * m + 100 -> szLts l m n <= 4 * m + 100
 | [],m,n,_,_,h => by simpa [szLts] using h
 | x :: r,m,n,h0,hm,h => by
  unfold szLts
  split
  ·rename_i hc
   have h1 := szLt_ge x (m - n)
   have a1 := szL_le x.a (m - n - 1) 0 (by omega)
   have a2 := sz_le x.l (m - n) (by omega)
   have a3 := sz_le x.r (m - n) (by omega)
   have e : szLt x (m - n) = 1 + (1 + Tm.szL x.a (m - n - 1) 0) + x.l.sz (m - n) + x.r.sz (m - n) := rfl
   exact szLts_le r m _ (by omega) hm (by omega)
  ·exact h
structure El.wf (B : Nat) (x : El) : Prop where
 tl : x.t.length <= B
 t : Tm.wfL B x.t
 cl : x.c.length <= B
 c : ∀ y ∈ x.c,y.wf B
structure He.wf (B : Nat) (x : He) : Prop where
 al : x.a.length <= B
 a : Tm.wfL B x.a
 cl : x.c.length <= B
 c : ∀ y ∈ x.c,y.wf B
structure Bo.wf (B : Nat) (x : Bo) : Prop where
 l : x.l.wf B
 cl : x.c.length <= B
 c : ∀ y ∈ x.c,y.wf B
 el : x.e.length <= B
 e : ∀ y ∈ x.e,y.wf B
 b : x.b.wf B
structure Ru.wf (B : Nat) (x : Ru) : Prop where
 lo : x.lo.wf B
 up : x.up.wf B
 w : x.w.wf B
 lv : x.lv.wf B
 tl : x.t.length <= B
 t : Tm.wfL B x.t
 hl : x.h.length <= B
 h : ∀ y ∈ x.h,y.wf B
 bl : x.b.length <= B
 b : ∀ y ∈ x.b,y.wf B
def elSh : List ShT := [.tms,.slice litSh]
def heSh : List ShT := [.str,.tms,.slice litSh]
def boSh : List ShT := .int .u8 :: (litSh ++ (.slice litSh :: .bool :: .int .u8 :: .slice elSh :: .int .u8 :: tmSh))
def ruSh : List ShT := .int .u8 :: .slice heSh :: (tmSh ++ (tmSh ++ (.slice boSh :: (tmSh ++ (tmSh ++ [.tms])))))
theorem list_of {α : Type} {B : Nat} {sh : List ShT} {W : α -> Prop} {c : α -> List D} (h : ∀ {ds},ShT.fits B sh ds -> ∃ x,W x /\ ds = c x) : ∀ {es : List (List D)},(∀ e ∈ es,ShT.fits B sh e) -> ∃ l : List α,es = l.map c /\ ∀ x ∈ l,W x
 | [],_ => ⟨[],rfl,fun _ h => by cases h⟩
 | e :: r,he => by
  obtain ⟨x,hx,rfl⟩ := h (he e (List.mem_cons_self ..))
  obtain ⟨l,rfl,hl⟩ := list_of h (es := r) fun y hy => he y (List.mem_cons_of_mem _ hy)
  refine ⟨x :: l,rfl,fun y hy => ?_⟩
  rcases List.mem_cons.1 hy with rfl | hy
  ·exact hx
  ·exact hl y hy
theorem elem_of {B : Nat} {ds : List D} (h : ShT.fits B elSh ds) : ∃ x : El,x.wf B /\ ds = x.cs := by
 simp only [elSh,ShT.fits,ShT.fit] at h
 obtain ⟨_,_,rfl,⟨t,rfl,ht,htw⟩,_,_,rfl,⟨es,rfl,hl,he⟩,rfl⟩ := h
 obtain ⟨l,rfl,hw⟩ := lits_of he
 rw [ltL_len] at hl
 exact ⟨⟨t,l⟩,⟨ht,htw,hl,hw⟩,rfl⟩
theorem head_of {B : Nat} {ds : List D} (h : ShT.fits B heSh ds) : ∃ x : He,x.wf B /\ ds = x.cs := by
 simp only [heSh,ShT.fits,ShT.fit] at h
 obtain ⟨_,_,rfl,⟨p,rfl,_⟩,_,_,rfl,⟨t,rfl,ht,htw⟩,_,_,rfl,⟨es,rfl,hl,he⟩,rfl⟩ := h
 obtain ⟨l,rfl,hw⟩ := lits_of he
 rw [ltL_len] at hl
 exact ⟨⟨p,t,l⟩,⟨ht,htw,hl,hw⟩,rfl⟩
theorem fits_cons {B : Nat} {s : ShT} {r : List ShT} {ds : List D} (h : ShT.fits B (s :: r) ds) : ∃ d t,ds = d :: t /\ ShT.fit B s d /\ ShT.fits B r t := by
 rw [ShT.fits] at h
 exact h
theorem body_of {B : Nat} {ds : List D} (h0 : ShT.fits B boSh ds) : ∃ x : Bo,x.wf B /\ ds = x.cs := by
 obtain ⟨e1,t1,rfl,hk,g1⟩ := fits_cons h0
 obtain ⟨d1,t2,rfl,h1,g2⟩ := fitsT_app g1
 obtain ⟨e2,t3,rfl,hc,g3⟩ := fits_cons g2
 obtain ⟨e3,t4,rfl,hno,g4⟩ := fits_cons g3
 obtain ⟨e4,t5,rfl,hf,g5⟩ := fits_cons g4
 obtain ⟨e5,t6,rfl,he,g6⟩ := fits_cons g5
 obtain ⟨e6,t7,rfl,hop,g7⟩ := fits_cons g6
 simp only [ShT.fit] at hk hc hno hf he hop
 obtain ⟨l,hlw,rfl⟩ := lit_of h1
 obtain ⟨b,hb,rfl⟩ := tm_of g7
 obtain ⟨k,rfl,hk⟩ := hk
 obtain ⟨es,rfl,hl,hc⟩ := hc
 obtain ⟨no,rfl⟩ := hno
 obtain ⟨f,rfl,hf⟩ := hf
 obtain ⟨ls,rfl,hls,he⟩ := he
 obtain ⟨op,rfl,hop⟩ := hop
 obtain ⟨c,rfl,hcw⟩ := lits_of hc
 obtain ⟨e,rfl,hew⟩ := list_of elem_of he
 rw [ltL_len] at hl
 rw [List.length_map] at hls
 have g1 := wf_u8 hk
 have g2 := wf_u8 hf
 have g3 := wf_u8 hop
 refine ⟨⟨k.toNat,l,c,no,f.toNat,e,op.toNat,b⟩,⟨hlw,hl,hcw,hls,hew,hb⟩, ?_⟩
 simp only [Bo.cs]
 rw [Int.toNat_of_nonneg g1.1,Int.toNat_of_nonneg g2.1,Int.toNat_of_nonneg g3.1]
 rfl
theorem rule_of {B : Nat} {ds : List D} (h0 : ShT.fits B ruSh ds) : ∃ x : Ru,x.wf B /\ ds = x.cs := by
 obtain ⟨e1,t1,rfl,hk,g1⟩ := fits_cons h0
 obtain ⟨e2,t2,rfl,hh,g2⟩ := fits_cons g1
 obtain ⟨d1,t3,rfl,h1,g3⟩ := fitsT_app g2
 obtain ⟨d2,t4,rfl,h2,g4⟩ := fitsT_app g3
 obtain ⟨e3,t5,rfl,hb,g5⟩ := fits_cons g4
 obtain ⟨d3,t6,rfl,h3,g6⟩ := fitsT_app g5
 obtain ⟨d4,t7,rfl,h4,g7⟩ := fitsT_app g6
 obtain ⟨e4,t8,rfl,ht,g8⟩ := fits_cons g7
 rw [ShT.fits] at g8
 simp only [ShT.fit] at hk hh hb ht
 subst g8
 obtain ⟨k,rfl,hk⟩ := hk
 obtain ⟨hs0,rfl,hhl,hh⟩ := hh
 obtain ⟨bs0,rfl,hbl,hb⟩ := hb
 obtain ⟨t,rfl,ht,htw⟩ := ht
 obtain ⟨lo,w1,rfl⟩ := tm_of h1
 obtain ⟨up,w2,rfl⟩ := tm_of h2
 obtain ⟨w,w3,rfl⟩ := tm_of h3
 obtain ⟨lv,w4,rfl⟩ := tm_of h4
 obtain ⟨hs,rfl,hhw⟩ := list_of head_of hh
 obtain ⟨bs,rfl,hbw⟩ := list_of body_of hb
 rw [List.length_map] at hhl hbl
 have g1 := wf_u8 hk
 refine ⟨⟨k.toNat,hs,lo,up,bs,w,lv,t⟩,⟨w1,w2,w3,w4,ht,htw,hhl,hhw,hbl,hbw⟩, ?_⟩
 simp only [Ru.cs]
 rw [Int.toNat_of_nonneg g1.1]
 rfl
variable {P : Program}
section
variable [Globs] [Codes]
end
end Go.Sx

/- RULES,PLAIN: all names of a rule; how many unsafe ones there are,how long they are. -/
namespace Go.Sx
theorem vsL_in {s : Nm} : ∀ {l : List Tm},s ∈ Tm.vsL l ↔ ∃ c ∈ l,s ∈ c.vs
 | [] => by simp [Tm.vsL]
 | a :: r => by
  rw [Tm.vsL,List.mem_append,vsL_in (l := r)]
  constructor
  ·rintro (h | ⟨c,hc,h⟩)
   ·exact ⟨a,List.mem_cons_self ..,h⟩
   ·exact ⟨c,List.mem_cons_of_mem _ hc,h⟩
  ·rintro ⟨c,hc,h⟩
   rcases List.mem_cons.1 hc with rfl | hc
   ·exact .inl h
   ·exact .inr ⟨c,hc,h⟩
theorem varsL_in {l : List Tm} {x : Nm} (h : x ∈ varsL l) : x ∈ Tm.vsL l := by
 obtain ⟨t,ht,hx⟩ := List.mem_flatMap.1 h
 exact vsL_in.2 ⟨t,ht,sortD_mem.1 hx⟩
mutual
theorem vs_wf {B : Nat} : ∀ (t : Tm),t.wf B -> ∀ x ∈ t.vs,x.length <= B
 | .mk k n s l,h,x,hx => by
  simp only [Tm.wf] at h
  obtain ⟨_,_,_,hs,_,hw⟩ := h
  rw [Tm.vs,List.mem_append] at hx
  rcases hx with hx | hx
  ·simp only [Tm.v1] at hx
   split at hx
   ·rw [List.mem_singleton] at hx; exact hx ▸ hs
   ·cases hx
  ·exact vsL_wf l hw x hx
theorem vsL_wf {B : Nat} : ∀ (l : List Tm),Tm.wfL B l -> ∀ x ∈ Tm.vsL l,x.length <= B
 | [],_,x,hx => by cases hx
 | a :: r,h,x,hx => by
  simp only [Tm.wfL] at h
  rw [Tm.vsL,List.mem_append] at hx
  rcases hx with hx | hx
  ·exact vs_wf a h.1 x hx
  ·exact vsL_wf r h.2 x hx
end
def elT (y : El) : List Tm := y.t ++ withinT y.c
def heT (y : He) : List Tm := y.a ++ withinT y.c
def boT (b : Bo) : List Tm := withinT [b.l] ++ (withinT b.c ++ (b.b :: b.e.flatMap elT))
def allT (r : Ru) : List Tm := [r.lo,r.up,r.w,r.lv] ++ (r.t ++ (r.h.flatMap heT ++ r.b.flatMap boT))
theorem badE_in {g : List Nm} {c : List Lt} {names : List Nm} {x : Nm} {l : List Tm} (h : badE g c names x) (h1 : ∀ y ∈ names,y ∈ Tm.vsL l) (h2 : ∀ t ∈ withinT c,t ∈ l) : x ∈ Tm.vsL l := by
 rcases h.2 with h | h
 ·exact h1 x h
 ·obtain ⟨t,ht,hx⟩ := vsL_in.1 (varsL_in h)
  exact vsL_in.2 ⟨t,h2 t ht,hx⟩
theorem vsL_sub {l m : List Tm} (h : ∀ t ∈ l,t ∈ m) {x : Nm} (hx : x ∈ Tm.vsL l) : x ∈ Tm.vsL m := by
 obtain ⟨t,ht,hx⟩ := vsL_in.1 hx
 exact vsL_in.2 ⟨t,h t ht,hx⟩
theorem boT_in {r : Ru} {b : Bo} (hb : b ∈ r.b) : ∀ t ∈ boT b,t ∈ allT r := fun t ht =>
 List.mem_append_right _ (List.mem_append_right _ (List.mem_append_right _ (List.mem_flatMap.2 ⟨b,hb,ht⟩)))
theorem heT_in {r : Ru} {b : He} (hb : b ∈ r.h) : ∀ t ∈ heT b,t ∈ allT r := fun t ht =>
 List.mem_append_right _ (List.mem_append_right _ (List.mem_append_left _ (List.mem_flatMap.2 ⟨b,hb,ht⟩)))
theorem elT_in {b : Bo} {e : El} (he : e ∈ b.e) : ∀ t ∈ elT e,t ∈ boT b := fun t ht =>
 List.mem_append_right _ (List.mem_append_right _ (List.mem_cons_of_mem _ (List.mem_flatMap.2 ⟨e,he,ht⟩)))
theorem global_in {r : Ru} {x : Nm} (h : x ∈ globalS r) : x ∈ Tm.vsL (allT r) := by
 rcases globalS_mem.1 h with h | h | ⟨_,y,hy,h⟩ | ⟨b,hb,h⟩
 ·exact vsL_sub (fun t ht => List.mem_append_left _ ht) (varsL_in h)
 ·exact vsL_sub (fun t ht => List.mem_append_right _ (List.mem_append_left _ ht)) (varsL_in h)
 ·rcases h with h | h
  ·exact vsL_sub (fun t ht => heT_in hy t (List.mem_append_left _ ht)) (varsL_in h)
  ·exact vsL_sub (fun t ht => heT_in hy t (List.mem_append_right _ ht)) (varsL_in h)
 ·rcases h with ⟨_,h⟩ | ⟨_,h⟩
  ·exact vsL_sub (fun t ht => boT_in hb t (List.mem_append_left _ ht)) (varsL_in h)
  ·exact vsL_sub (fun t ht => boT_in hb t (by rw [List.mem_singleton] at ht; subst ht; exact List.mem_append_right _ (List.mem_append_right _ (List.mem_cons_self ..)))) (varsL_in h)
theorem unsafe_in {r : Ru} {x : Nm} (h : x ∈ unsafeS r) : x ∈ Tm.vsL (allT r) := by
 rcases unsafeS_mem.1 h with (⟨b,hb,h⟩ | ⟨_,y,hy,h⟩) | ⟨h,_⟩
 ·rcases h with ⟨_,h⟩ | ⟨_,e,he,h⟩
  ·exact badE_in h (fun y hy => vsL_sub (fun t ht => boT_in hb t (List.mem_append_left _ ht)) (varsL_in hy)) fun t ht => boT_in hb t (List.mem_append_right _ (List.mem_append_left _ ht))
  ·exact badE_in h (fun y hy => vsL_sub (fun t ht => boT_in hb t (elT_in he t (List.mem_append_left _ ht))) (varsL_in hy)) fun t ht => boT_in hb t (elT_in he t (List.mem_append_right _ ht))
 ·exact badE_in h (fun z hz => vsL_sub (fun t ht => heT_in hy t (List.mem_append_left _ ht)) (varsL_in hz)) fun t ht => heT_in hy t (List.mem_append_right _ ht)
 ·exact global_in h
theorem withinT_wf {B : Nat} {l : List Lt} (h : ∀ x ∈ l,x.wf B) : ∀ t ∈ withinT l,t.wf B := fun t ht => by
 obtain ⟨x,hx,ht⟩ := List.mem_flatMap.1 ht
 obtain ⟨_,_,_,w,_,w1,w2⟩ := h x hx
 rcases List.mem_append.1 ht with ht | ht
 ·exact wfL_all.1 w t ht
 ·rcases List.mem_cons.1 ht with rfl | ht
  ·exact w1
  ·rw [List.mem_singleton] at ht; exact ht ▸ w2
theorem allT_wf {B : Nat} {r : Ru} (h : r.wf B) : ∀ t ∈ allT r,t.wf B := fun t ht => by
 rcases List.mem_append.1 ht with ht | ht
 ·simp only [List.mem_cons,List.not_mem_nil,or_false] at ht
  rcases ht with rfl | rfl | rfl | rfl
  ·exact h.lo
  ·exact h.up
  ·exact h.w
  ·exact h.lv
 ·rcases List.mem_append.1 ht with ht | ht
  ·exact wfL_all.1 h.t t ht
  ·rcases List.mem_append.1 ht with ht | ht
   ·obtain ⟨y,hy,ht⟩ := List.mem_flatMap.1 ht
    have hw := h.h y hy
    rcases List.mem_append.1 ht with ht | ht
    ·exact wfL_all.1 hw.a t ht
    ·exact withinT_wf hw.c t ht
   ·obtain ⟨y,hy,ht⟩ := List.mem_flatMap.1 ht
    have hw := h.b y hy
    rcases List.mem_append.1 ht with ht | ht
    ·exact withinT_wf (fun x hx => by rw [List.mem_singleton] at hx; exact hx ▸ hw.l) t ht
    ·rcases List.mem_append.1 ht with ht | ht
     ·exact withinT_wf hw.c t ht
     ·rcases List.mem_cons.1 ht with rfl | ht
      ·exact hw.b
      ·obtain ⟨e,he,ht⟩ := List.mem_flatMap.1 ht
       have hw := hw.e e he
       rcases List.mem_append.1 ht with ht | ht
       ·exact wfL_all.1 hw.t t ht
       ·exact withinT_wf hw.c t ht
end Go.Sx

/- RULES,PLAIN: another order of the body,of the heads,of the conditions. -/
namespace Go.Sx
def revE (e : El) : El := { e with c := e.c.reverse }
def revB (b : Bo) : Bo := { b with c := b.c.reverse,e := b.e.reverse.map revE }
def revH (h : He) : He := { h with c := h.c.reverse }
def rotB (l : List Bo) (k : Nat) : List Bo := l.drop k ++ l.take k
def Ru.turn (r : Ru) (k : Nat) : Ru := { r with b := (rotB r.b k).map revB,h := r.h.reverse.map revH }
theorem litsB_mem {l : List Bo} {x : Lt} : x ∈ litsB l ↔ ∃ b ∈ l,b.k = 1 /\ b.l = x := by
 unfold litsB
 rw [List.mem_filterMap]
 constructor
 ·rintro ⟨b,hb,h⟩
  split at h
  ·rename_i hk
   cases h
   exact ⟨b,hb,hk,rfl⟩
  ·cases h
 ·rintro ⟨b,hb,hk,rfl⟩
  exact ⟨b,hb,by rw [if_pos hk]⟩
theorem vsL_vars : ∀ ns : List Nm,Tm.vsL (ns.map varT) = ns
 | [] => rfl
 | a :: r => by
  rw [List.map_cons,Tm.vsL,vsL_vars r]
  simp [varT,Tm.vs,Tm.vsL,Tm.v1]
end Go.Sx

/- A ROW THAT IS HANDED BACK,AS PLAIN DATA. -/
namespace Go.Sx
open Go.RowKit
variable [Globs] [Codes]
variable {P : Program}
end Go.Sx

/- A row of our own that a function hands back is plain data. -/
namespace Go.Sx
open Go.RowKit
variable [Globs] [Codes]
variable {P : Program}
theorem FnOK.freezeG {f : FuncId} {args : List D} {sz : Nat} {e : TypeId} {es : List (List D)} (h : FnOK P f args (.own sz e es)) : FnOK P f args (.slice es []) := by
 intro φ hh w vs h1 h2 h3 h4 h5
 refine (h φ hh w vs h1 h2 h3 h4 h5).mono ?_
 rintro e' w' ⟨v,φ',rfl,hR,rest⟩
 refine ⟨v,φ',rfl, ?_,rest⟩
 intro h'
 have hR0 : ObR (w.heap.size <= ·) φ' noH w' v (.arr true sz e es) := hR
 have hR1 : ObR (w.heap.size <= ·) φ' (fun _ => v) w' v (.arr true sz e es) := hR0
 have hl : live v = true := by
  obtain ⟨_,_,xs,hown,_⟩ := hR0
  rcases hown.2 with ⟨rfl,_⟩ | ⟨g,cap,cur,rfl,_⟩
  ·rfl
  ·rfl
 have r0 : RV φ' (fun _ => v) v (.vec 0) := RV.vec (φ := φ') (h := fun _ => v) 0 hl
 have r1 := dvt_sound (obs := lk [(0,Ob.arr true sz e es)]) (h := fun _ => v) (w := w') (own := (w.heap.size <= ·)) (fun i o hi _ => by
  simp only [lk] at hi
  split at hi
  ·cases hi; exact hR1
  ·cases hi) r0
 have e1 : dvt (lk [(0,Ob.arr true sz e es)]) (.vec 0) = .slice es [] := rfl
 rw [e1] at r1
 cases r1 with
 | pure r => exact .pure r
end Go.Sx

/- SAFETY,THE REFERENCE MODEL,PLAIN: the closure by lists; the same sets. -/
namespace Go.Sx
def sideM (s : List Nm) (a b : Tm) : List Nm := if a.kd = 3 /\ knowsS s b = true then [a.nm] else []
def bindsM (s : List Nm) (x : Lt) : List Nm :=
 if x.no = true then [] else if x.k = 1 then Tm.ovL x.a else if x.k = 2 /\ x.op = 1 then sideM s x.l x.r ++ sideM s x.r x.l else []
def runM (s : List Nm) (ls : List Lt) : List Nm := ls.foldl (fun o x => o ++ bindsM o x) s
theorem sideM_mono {s t : List Nm} {a b : Tm} (h : ∀ x ∈ s,x ∈ t) : ∀ x ∈ sideM s a b,x ∈ sideM t a b := by
 intro x hx
 unfold sideM at hx ⊢
 split at hx
 ·rename_i h1
  rw [if_pos ⟨h1.1,knowsS_iff.2 fun z hz => h z (knowsS_iff.1 h1.2 z hz)⟩]; exact hx
 ·cases hx
theorem bindsM_mono {s t : List Nm} {l : Lt} (h : ∀ x ∈ s,x ∈ t) : ∀ x ∈ bindsM s l,x ∈ bindsM t l := by
 intro x hx
 unfold bindsM at hx ⊢
 split at hx
 ·cases hx
 rename_i h1
 rw [if_neg h1]
 split at hx
 ·rename_i h2; rw [if_pos h2]; exact hx
 rename_i h2
 rw [if_neg h2]
 split at hx
 ·rename_i h3
  rw [if_pos h3]
  exact List.mem_append.2 ((List.mem_append.1 hx).imp (sideM_mono h x) (sideM_mono h x))
 ·cases hx
theorem sideM_eqS {s : List Nm} {a b : Tm} : ∀ x ∈ sideM s a b,x ∈ eqS s a b := by
 intro x hx
 unfold sideM at hx
 split at hx
 ·rename_i h
  rw [List.mem_singleton] at hx
  exact eqS_mem.2 (.inr ⟨h.1,h.2,hx⟩)
 ·cases hx
theorem bindsM_step {s : List Nm} {l : Lt} : ∀ x ∈ bindsM s l,x ∈ stepS s l := by
 intro x hx
 unfold bindsM at hx
 unfold stepS
 split at hx
 ·cases hx
 rename_i h1
 rw [if_neg h1]
 split at hx
 ·rename_i h2; rw [if_pos h2]; exact addS_mem.2 (.inr hx)
 rename_i h2
 rw [if_neg h2]
 split at hx
 ·rename_i h3
  rw [if_pos h3]
  rcases List.mem_append.1 hx with h | h
  ·exact eqS_mem.2 (.inl (sideM_eqS x h))
  ·exact sideM_eqS x (sideM_mono (fun y hy => eqS_mem.2 (.inl hy)) x h)
 ·cases hx
theorem step_of_binds {s : List Nm} {l : Lt} (h : ∀ x ∈ bindsM s l,x ∈ s) : ∀ x ∈ stepS s l,x ∈ s := by
 intro x hx
 unfold bindsM at h
 unfold stepS at hx
 by_cases h1 : l.no = true
 ·rw [if_pos h1] at hx; exact hx
 rw [if_neg h1] at hx h
 by_cases h2 : l.k = 1
 ·rw [if_pos h2] at hx h
  exact (addS_mem.1 hx).elim id (h x)
 rw [if_neg h2] at hx h
 by_cases h3 : l.k = 2 /\ l.op = 1
 ·rw [if_pos h3] at hx h
  have e1 : ∀ y ∈ eqS s l.l l.r,y ∈ s := by
   intro y hy
   rcases eqS_mem.1 hy with hy | ⟨a,b,rfl⟩
   ·exact hy
   ·exact h _ (List.mem_append_left _ (by unfold sideM; rw [if_pos ⟨a,b⟩]; simp))
  rcases eqS_mem.1 hx with hx | ⟨a,b,rfl⟩
  ·exact e1 x hx
  ·have b' : knowsS s l.l = true := knowsS_iff.2 fun z hz => e1 z (knowsS_iff.1 b z hz)
   exact h _ (List.mem_append_right _ (by unfold sideM; rw [if_pos ⟨a,b'⟩]; simp))
 ·rw [if_neg h3] at hx
  exact hx
theorem bindsM_pool {s : List Nm} {l : Lt} {x : Nm} (h : x ∈ bindsM s l) : x ∈ l.pool := by
 unfold bindsM at h
 unfold Lt.pool
 split at h
 ·cases h
 split at h
 ·exact List.mem_append_left _ h
 split at h
 ·refine List.mem_append_right _ ?_
  unfold sideM at h
  rcases List.mem_append.1 h with h | h <;> split at h
  ·rw [List.mem_singleton] at h; subst h; simp
  ·cases h
  ·rw [List.mem_singleton] at h; subst h; simp
  ·cases h
 ·cases h
theorem runM_sub : ∀ (ls : List Lt) {s : List Nm}, ∀ x ∈ s,x ∈ runM s ls
 | [],s,x,h => h
 | l :: r,s,x,h => runM_sub r x (List.mem_append_left _ h)
theorem runM_in {ls : List Lt} {T : List Nm} (hT : Cl ls T) : ∀ (r : List Lt) {s : List Nm},(∀ x ∈ r,x ∈ ls) -> (∀ y ∈ s,y ∈ T) -> ∀ y ∈ runM s r,y ∈ T
 | [],s,_,hs,y,h => hs y h
 | l :: r,s,hr,hs,y,h => runM_in hT r (fun z hz => hr z (List.mem_cons_of_mem _ hz)) (fun z hz => (List.mem_append.1 hz).elim (hs z) fun hz => hT l (hr l (List.mem_cons_self ..)) z (stepS_mono hs z (bindsM_step z hz))) y h
theorem runM_pool : ∀ (ls : List Lt) {s : List Nm} {y : Nm},y ∈ runM s ls -> y ∈ s \/ y ∈ ls.flatMap Lt.pool
 | [],s,y,h => .inl h
 | l :: r,s,y,h => by
  rw [List.flatMap_cons,List.mem_append]
  rcases runM_pool r (s := s ++ bindsM s l) h with h | h
  ·rcases List.mem_append.1 h with h | h
   ·exact .inl h
   ·exact .inr (.inl (bindsM_pool h))
  ·exact .inr (.inr h)
theorem runM_fix : ∀ (ls : List Lt) {s : List Nm} {B : List Nm},(∀ x ∈ B,x ∈ s) -> (∀ x ∈ runM s ls,x ∈ B) -> ∀ l ∈ ls, ∀ x ∈ bindsM B l,x ∈ B
 | [],s,B,_,_,l,hl => by cases hl
 | a :: r,s,B,hB,h,l,hl => by
  have h : ∀ x ∈ runM (s ++ bindsM s a) r,x ∈ B := h
  rcases List.mem_cons.1 hl with rfl | hl
  ·exact fun x hx => h x (runM_sub r x (List.mem_append_right _ (bindsM_mono hB x hx)))
  ·exact runM_fix r (fun x hx => List.mem_append_left _ (hB x hx)) h l hl
theorem runM_cl {ls : List Lt} {s : List Nm} (h : ∀ x ∈ runM s ls,x ∈ s) : Cl ls s := fun l hl => step_of_binds (runM_fix ls (fun x hx => hx) h l hl)
theorem gapS_lt {s o : List Nm} {ls : List Lt} (hs : ∀ x ∈ s,x ∈ o) {e : Nm} (he : e ∈ o) (hes : e ∉ s) (hp : e ∈ ls.flatMap Lt.pool) : gapS o ls < gapS s ls := by
 unfold gapS
 have e1 : (ls.flatMap Lt.pool).filter (fun x => !decide (x ∈ o)) = ((ls.flatMap Lt.pool).filter (fun x => !decide (x ∈ s))).filter (fun x => !decide (x ∈ o)) := by
  rw [List.filter_filter]
  refine List.filter_congr fun x _ => ?_
  by_cases h1 : x ∈ o
  ·simp [h1]
  ·have h2 : x ∉ s := fun h => h1 (hs x h)
   simp [h1,h2]
 rw [e1]
 refine List.length_filter_lt_length_iff_exists.2 ⟨e, ?_,by simp [he]⟩
 rw [List.mem_filter]
 exact ⟨hp,by simp [hes]⟩
def closeM : Nat -> List Nm -> List Lt -> List Nm
 | 0,s,_ => s
 | n + 1,s,ls => if (sortD (runM s ls)).length = s.length then sortD (runM s ls) else closeM n (sortD (runM s ls)) ls
theorem lt_nd {s : List Nm} (h : s.Pairwise (· < ·)) : s.Nodup := h.imp fun {a b} hab e => by subst e; exact List.lt_irrefl _ hab
theorem same_len {s o : List Nm} (hs : s.Pairwise (· < ·)) (ho : o.Pairwise (· < ·)) (h : ∀ x ∈ s,x ∈ o) (hl : o.length = s.length) : o = s := by
 refine (pw_eq hs ho fun x => ⟨h x,fun hx => ?_⟩).symm
 refine Classical.byContradiction fun hn => ?_
 have := List.Nodup.length_le_of_subset (l₁ := x :: s) (l₂ := o) (List.nodup_cons.2 ⟨hn,lt_nd hs⟩) (fun y hy => by
  rcases List.mem_cons.1 hy with rfl | hy
  ·exact hx
  ·exact h y hy)
 simp only [List.length_cons] at this
 omega
theorem more_len {s o : List Nm} (hs : s.Pairwise (· < ·)) (ho : o.Pairwise (· < ·)) (h : ∀ x ∈ s,x ∈ o) (hl : o.length ≠ s.length) : ∃ e,e ∈ o /\ e ∉ s := by
 refine Classical.byContradiction fun hn => hl ?_
 have : o = s := pw_eq ho hs fun x => ⟨fun hx => Classical.byContradiction fun h2 => hn ⟨x,hx,h2⟩,h x⟩
 rw [this]
theorem closeM_eq : ∀ (n : Nat) {s : List Nm} (ls : List Lt),s.Pairwise (· < ·) -> gapS s ls < n -> closeM n s ls = sortD (closeS s ls)
 | 0,s,ls,_,h => by omega
 | n + 1,s,ls,hs,h => by
  have hsub : ∀ x ∈ s,x ∈ sortD (runM s ls) := fun x hx => sortD_mem.2 (runM_sub ls x hx)
  have ho := sortD_lt (runM s ls)
  unfold closeM
  split
  ·rename_i hl
   have e := same_len hs ho hsub hl
   have hc : Cl ls s := runM_cl fun x hx => by rw [<- e]; exact sortD_mem.2 hx
   rw [e]
   exact pw_eq hs (sortD_lt _) fun x => by
    rw [sortD_mem]
    exact ⟨closeS_sub,closeS_in hc (fun y hy => hy) x⟩
  ·rename_i hl
   obtain ⟨e,he,hes⟩ := more_len hs ho hsub hl
   have hp : e ∈ ls.flatMap Lt.pool := (runM_pool ls (sortD_mem.1 he)).resolve_left hes
   have := gapS_lt (ls := ls) hsub he hes hp
   rw [closeM_eq n ls ho (by omega)]
   refine pw_eq (sortD_lt _) (sortD_lt _) fun x => ?_
   rw [sortD_mem,sortD_mem]
   have hc := closeS_cl ls (lt_nd hs)
   constructor
   ·exact closeS_in hc (fun y hy => runM_in hc ls (fun _ h => h) (fun z hz => closeS_sub hz) y (sortD_mem.1 hy)) x
   ·exact closeS_in (closeS_cl ls (lt_nd ho)) (fun y hy => closeS_sub (hsub y hy)) x
theorem runM_len : ∀ (ls : List Lt) {s : List Nm},(runM s ls).length <= s.length + (ls.map fun x => x.pool.length).sum
 | [],s => by simp [runM]
 | l :: r,s => by
  have h := runM_len r (s := s ++ bindsM s l)
  have hb : (bindsM s l).length <= l.pool.length := by
   unfold bindsM Lt.pool sideM
   simp only [List.length_append,List.length_cons,List.length_nil]
   repeat' split
   all_goals simp <;> omega
  show (runM (s ++ bindsM s l) r).length <= _
  rw [List.length_append] at h
  simp only [List.map_cons,List.sum_cons]
  omega
theorem sum_pool (ls : List Lt) : (ls.map fun x => x.pool.length).sum = (ls.flatMap Lt.pool).length := by
 rw [List.length_flatMap]
theorem boundM_eq {g : List Nm} (ls : List Lt) : closeM (gapS (sortD g) ls + 1) (sortD g) ls = sortD (closeS (sortD g) ls) := closeM_eq _ ls (sortD_lt g) (Nat.lt_succ_self _)
/- The model's Global and Unsafe. -/
def allM (ls : List Lt) : List Nm := ls.flatMap fun x => sortD (Tm.vsL x.a) ++ sortD (Tm.vsL [x.l,x.r])
def missM (l a b : List Nm) : List Nm := l.filter fun x => !decide (x ∈ a) && !decide (x ∈ b)
theorem vsL_varsL {l : List Tm} {x : Nm} : x ∈ Tm.vsL l ↔ x ∈ varsL l := by
 unfold varsL
 induction l with
 | nil => simp [Tm.vsL]
 | cons a r ih =>
  rw [List.flatMap_cons,Tm.vsL,List.mem_append,List.mem_append,ih,Tm.W,sortD_mem]
theorem allM_mem {ls : List Lt} {x : Nm} : x ∈ allM ls ↔ x ∈ varsW ls := by
 unfold allM varsW withinT
 rw [List.mem_flatMap]
 have e : ∀ l : List Lt,x ∈ varsL (l.flatMap fun y => y.a ++ [y.l,y.r]) ↔ ∃ y ∈ l,x ∈ varsL y.a \/ x ∈ varsL [y.l,y.r] := by
  intro l
  induction l with
  | nil => simp [varsL]
  | cons a r ih =>
   rw [List.flatMap_cons]
   have : x ∈ varsL (a.a ++ [a.l,a.r] ++ r.flatMap fun y => y.a ++ [y.l,y.r]) ↔ (x ∈ varsL a.a \/ x ∈ varsL [a.l,a.r]) \/ x ∈ varsL (r.flatMap fun y => y.a ++ [y.l,y.r]) := by
    unfold varsL; rw [List.flatMap_append,List.flatMap_append,List.mem_append,List.mem_append]
   rw [this,ih]
   simp only [List.mem_cons,exists_eq_or_imp]
 rw [e]
 constructor
 ·rintro ⟨y,hy,h⟩
  exact ⟨y,hy,(List.mem_append.1 h).imp (fun h => vsL_varsL.1 (sortD_mem.1 h)) fun h => vsL_varsL.1 (sortD_mem.1 h)⟩
 ·rintro ⟨y,hy,h⟩
  exact ⟨y,hy,List.mem_append.2 (h.imp (fun h => sortD_mem.2 (vsL_varsL.2 h)) fun h => sortD_mem.2 (vsL_varsL.2 h))⟩
def gHeadM (h : He) : List Nm := sortD (Tm.vsL h.a) ++ allM h.c
def gBodyM (b : Bo) : List Nm := if b.k = 1 then allM [b.l] else if b.k = 3 then sortD (Tm.vsL [b.b]) else []
def globalM (r : Ru) : List Nm := sortD (Tm.vsL ([r.lo,r.up,r.w,r.lv] ++ r.t)) ++ (if r.k = 2 then [] else r.h.flatMap gHeadM) ++ r.b.flatMap gBodyM
theorem gBodyM_mem {b : Bo} {x : Nm} : x ∈ gBodyM b ↔ gOf b x := by
 unfold gBodyM gOf
 split
 ·rename_i h; rw [allM_mem]; simp [h]
 ·rename_i h
  split
  ·rename_i h3; rw [sortD_mem,vsL_varsL]; simp [h3]
  ·rename_i h3; simp [h,h3]
theorem globalM_mem {r : Ru} {x : Nm} : x ∈ globalM r ↔ x ∈ globalS r := by
 rw [globalS_mem]
 unfold globalM
 have e1 : x ∈ r.b.flatMap gBodyM ↔ ∃ b ∈ r.b,gOf b x := by
  rw [List.mem_flatMap]
  constructor
  ·rintro ⟨b,hb,h⟩; exact ⟨b,hb,gBodyM_mem.1 h⟩
  ·rintro ⟨b,hb,h⟩; exact ⟨b,hb,gBodyM_mem.2 h⟩
 have e2 : x ∈ (if r.k = 2 then [] else r.h.flatMap gHeadM) ↔ r.k ≠ 2 /\ ∃ h ∈ r.h,x ∈ varsL h.a \/ x ∈ varsW h.c := by
  split
  ·rename_i h; simp [h]
  ·rename_i h
   rw [List.mem_flatMap]
   constructor
   ·rintro ⟨y,hy,hx⟩
    exact ⟨h,y,hy,(List.mem_append.1 hx).imp (fun h => vsL_varsL.1 (sortD_mem.1 h)) allM_mem.1⟩
   ·rintro ⟨_,y,hy,hx⟩
    exact ⟨y,hy,List.mem_append.2 (hx.imp (fun h => sortD_mem.2 (vsL_varsL.2 h)) allM_mem.2)⟩
 rw [List.mem_append,List.mem_append,e1,e2,sortD_mem,vsL_varsL]
 have e3 : x ∈ varsL ([r.lo,r.up,r.w,r.lv] ++ r.t) ↔ x ∈ varsL [r.lo,r.up,r.w,r.lv] \/ x ∈ varsL r.t := by
  unfold varsL; rw [List.flatMap_append,List.mem_append]
 rw [e3]
 simp only [or_assoc]
def elM (g : List Nm) (names : List Nm) (c : List Lt) : List Nm := missM (names ++ allM c) g (sortD (closeS g c))
theorem elM_mem {g names : List Nm} {c : List Lt} {x : Nm} : x ∈ elM g names c ↔ x ∉ closeS g c /\ (x ∈ names \/ x ∈ varsW c) := by
 unfold elM missM
 rw [List.mem_filter,List.mem_append,allM_mem]
 simp only [Bool.and_eq_true,Bool.not_eq_true',decide_eq_false_iff_not,sortD_mem]
 constructor
 ·rintro ⟨h1,_,h2⟩; exact ⟨h2,h1⟩
 ·rintro ⟨h2,h1⟩; exact ⟨h1,fun h => h2 (closeS_sub h),h2⟩
def uHeadM (g : List Nm) (h : He) : List Nm := elM g (sortD (Tm.vsL h.a)) h.c
def uElemM (g : List Nm) (e : El) : List Nm := elM g (sortD (Tm.vsL e.t)) e.c
def uBodyM (g : List Nm) (b : Bo) : List Nm := (if b.k = 2 then elM g (allM [b.l]) b.c else []) ++ (if b.k = 3 then b.e.flatMap (uElemM g) else [])
def unsafeM (r : Ru) : List Nm :=
 missM (sortD (globalM r)) (sortD (closeS [] (litsB r.b))) [] ++ (if r.k = 2 then r.h.flatMap (uHeadM (sortD (globalM r))) else []) ++ r.b.flatMap (uBodyM (sortD (globalM r)))
theorem badE_names {g g' n n' : List Nm} {c : List Lt} {x : Nm} (hg : g.Nodup) (hg' : g'.Nodup) (h : ∀ x,x ∈ g' ↔ x ∈ g) (hn : x ∈ n' ↔ x ∈ n) : (x ∉ closeS g' c /\ (x ∈ n' \/ x ∈ varsW c)) ↔ badE g c n x := by
 unfold badE
 have e : x ∈ closeS g' c ↔ x ∈ closeS g c := ⟨closeS_lits hg (fun _ h => h) (fun y hy => (h y).1 hy) x,closeS_lits hg' (fun _ h => h) (fun y hy => (h y).2 hy) x⟩
 rw [e,hn]
theorem unsafeM_mem {r : Ru} {x : Nm} : x ∈ unsafeM r ↔ x ∈ unsafeS r := by
 have hg := globalS_nd r
 have hg' := lt_nd (sortD_lt (globalM r))
 have h : ∀ x,x ∈ sortD (globalM r) ↔ x ∈ globalS r := fun x => by rw [sortD_mem,globalM_mem]
 rw [unsafeS_mem]
 unfold unsafeM
 generalize sortD (globalM r) = G at hg' h
 have e0 : x ∈ missM G (sortD (closeS [] (litsB r.b))) [] ↔ x ∈ globalS r /\ x ∉ closeS [] (litsB r.b) := by
  unfold missM
  rw [List.mem_filter,h]
  simp [sortD_mem]
 have eH : x ∈ (if r.k = 2 then r.h.flatMap (uHeadM G) else []) ↔ r.k = 2 /\ ∃ y ∈ r.h,badE (globalS r) y.c (varsL y.a) x := by
  split
  ·rename_i hk
   rw [List.mem_flatMap]
   constructor
   ·rintro ⟨y,hy,hx⟩
    exact ⟨hk,y,hy,(badE_names hg hg' h (by rw [sortD_mem,vsL_varsL])).1 (elM_mem.1 hx)⟩
   ·rintro ⟨_,y,hy,hx⟩
    exact ⟨y,hy,elM_mem.2 ((badE_names hg hg' h (by rw [sortD_mem,vsL_varsL])).2 hx)⟩
  ·rename_i hk; simp [hk]
 have eB : x ∈ r.b.flatMap (uBodyM G) ↔ ∃ b ∈ r.b,badB (globalS r) b x := by
  rw [List.mem_flatMap]
  have hb : ∀ b : Bo,x ∈ uBodyM G b ↔ badB (globalS r) b x := by
   intro b
   unfold uBodyM badB
   rw [List.mem_append]
   have q1 : x ∈ (if b.k = 2 then elM G (allM [b.l]) b.c else []) ↔ b.k = 2 /\ badE (globalS r) b.c (varsW [b.l]) x := by
    split
    ·rename_i hk
     rw [elM_mem,badE_names hg hg' h (n := varsW [b.l]) allM_mem]; simp [hk]
    ·rename_i hk; simp [hk]
   have q2 : x ∈ (if b.k = 3 then b.e.flatMap (uElemM G) else []) ↔ b.k = 3 /\ ∃ e ∈ b.e,badE (globalS r) e.c (varsL e.t) x := by
    split
    ·rename_i hk
     rw [List.mem_flatMap]
     constructor
     ·rintro ⟨y,hy,hx⟩
      exact ⟨hk,y,hy,(badE_names hg hg' h (by rw [sortD_mem,vsL_varsL])).1 (elM_mem.1 hx)⟩
     ·rintro ⟨_,y,hy,hx⟩
      exact ⟨y,hy,elM_mem.2 ((badE_names hg hg' h (by rw [sortD_mem,vsL_varsL])).2 hx)⟩
    ·rename_i hk; simp [hk]
   rw [q1,q2]
  constructor
  ·rintro ⟨b,h1,h2⟩; exact ⟨b,h1,(hb b).1 h2⟩
  ·rintro ⟨b,h1,h2⟩; exact ⟨b,h1,(hb b).2 h2⟩
 rw [List.mem_append,List.mem_append,e0,eH,eB]
 constructor
 ·rintro ((h | h) | h)
  ·exact .inr h
  ·exact .inl (.inr h)
  ·exact .inl (.inl h)
 ·rintro ((h | h) | h)
  ·exact .inr h
  ·exact .inl (.inr h)
  ·exact .inl (.inl h)
theorem unsafeM_eq (r : Ru) : sortD (unsafeM r) = srt (unsafeS r) := pw_eq (sortD_lt _) (srt_lt (unsafeS_nd r)) fun x => by rw [sortD_mem,unsafeM_mem,srt_mem]
end Go.Sx

/- PROGRAMS ARE READ; their sizes; how many names the reference model gathers. -/
namespace Go.Sx
open Go.RowKit Go.Deep Go.ChangeShapes Go.WideShapes
structure Co where
 n : Nm
 v : Tm
def Co.cs (x : Co) : List D := .str x.n :: x.v.cells
def coL (l : List Co) : List (List D) := l.map Co.cs
theorem coL_len (l : List Co) : (coL l).length = l.length := by simp [coL]
theorem coL_get {l : List Co} {i : Nat} (h : i < l.length) : (coL l)[i]? = some l[i].cs := by simp [coL,h]
structure Pg where
 r : List Ru
 c : List Co
 s : List (List D)
 so : Bool
def Pg.cs (x : Pg) : List D := [.slice (x.r.map Ru.cs) [],.slice (coL x.c) [],.slice x.s [],.bool x.so]
structure Pg.wf (B : Nat) (x : Pg) : Prop where
 rl : x.r.length <= B
 r : ∀ y ∈ x.r,y.wf B
 cl : x.c.length <= B
 c : ∀ y ∈ x.c,y.v.wf B
 sl : x.s.length <= B
def coSh : List ShT := .str :: tmSh
def prSh : List ShT := [.slice ruSh,.slice coSh,.slice [.str,.int .i64],.bool]
theorem const_of {B : Nat} {ds : List D} (h : ShT.fits B coSh ds) : ∃ x : Co,x.v.wf B /\ ds = x.cs := by
 obtain ⟨e1,t1,rfl,hn,g1⟩ := fits_cons h
 obtain ⟨v,hv,rfl⟩ := tm_of g1
 simp only [ShT.fit] at hn
 obtain ⟨n,rfl,_⟩ := hn
 exact ⟨⟨n,v⟩,hv,rfl⟩
theorem prog_of {B : Nat} {ds : List D} (h : ShT.fits B prSh ds) : ∃ x : Pg,x.wf B /\ ds = x.cs := by
 obtain ⟨e1,t1,rfl,h1,g1⟩ := fits_cons h
 obtain ⟨e2,t2,rfl,h2,g2⟩ := fits_cons g1
 obtain ⟨e3,t3,rfl,h3,g3⟩ := fits_cons g2
 obtain ⟨e4,t4,rfl,h4,g4⟩ := fits_cons g3
 rw [ShT.fits] at g4
 subst g4
 simp only [ShT.fit] at h1 h2 h3 h4
 obtain ⟨rs,rfl,hrl,hr⟩ := h1
 obtain ⟨cs,rfl,hcl,hc⟩ := h2
 obtain ⟨ss,rfl,hsl,_⟩ := h3
 obtain ⟨so,rfl⟩ := h4
 obtain ⟨r,rfl,hrw⟩ := list_of rule_of hr
 obtain ⟨c,rfl,hcw⟩ := list_of const_of hc
 rw [List.length_map] at hrl hcl
 exact ⟨⟨r,c,ss,so⟩,⟨hrl,hrw,hcl,hcw,hsl⟩,rfl⟩
variable {P : Program}
section
variable [Globs] [Codes]
theorem reads_prog {B : Nat} {T t : TypeId} {n : Nat} (hT : isTmB P T = true) (hs : shT P T n t = some prSh) (ha : aggB P t = some true) : Reads P B t (fun a => ∃ x : Pg,x.wf B /\ a = .agg x.cs) :=
 Reads.mono (Q := fun a => ∃ cs,ShT.fits B prSh cs /\ a = .agg cs) (readsT_agg hT hs ha) fun a ⟨cs,h,e⟩ => by
  obtain ⟨x,hx,rfl⟩ := prog_of h
  exact ⟨x,hx,e⟩
end
/- Sizes. -/
theorem szHe_le (x : He) (m : Int) (hm : 0 <= m) : szHe x m <= 5 * m + 200 := by
 have h1 := szL_le x.a (m - 1) 0 (by omega)
 have h2 := szLts_le x.c m 0 (by omega) hm (by omega)
 unfold szHe; omega
theorem szEl_le (x : El) (m : Int) (hm : 0 <= m) : szEl x m <= 5 * m + 200 := by
 have h1 := szL_le x.t m 0 (by omega)
 have h2 := szLts_le x.c m 0 (by omega) hm (by omega)
 unfold szEl; omega
theorem szBo_le (x : Bo) (m : Int) (hm : 0 <= m) : szBo x m <= 9 * m + 300 := by
 have h1 := szLts_le [x.l] m 0 (by omega) hm (by omega)
 have h2 := szLts_le x.c m 0 (by omega) hm (by omega)
 have h3 := sz_le x.b m hm
 unfold szBo; omega
theorem szHes_le : ∀ (l : List He) (m n : Int),0 <= n -> 0 <= m -> n <= 10 * m + 1000 -> szHes l m n <= 10 * m + 1000
 | [],m,n,_,_,h => h
 | x :: r,m,n,h0,hm,h => by
  unfold szHes
  split
  ·have h1 := szHe_le x (m - n) (by omega)
   have h2 := szHe_ge x (m - n)
   exact szHes_le r m _ (by omega) hm (by omega)
  ·exact h
theorem szEls_le : ∀ (l : List El) (m n : Int),0 <= n -> 0 <= m -> n <= 10 * m + 1000 -> szEls l m n <= 10 * m + 1000
 | [],m,n,_,_,h => h
 | x :: r,m,n,h0,hm,h => by
  unfold szEls
  split
  ·have h1 := szEl_le x (m - n) (by omega)
   have h2 := szEl_ge x (m - n)
   exact szEls_le r m _ (by omega) hm (by omega)
  ·exact h
theorem szBos_le : ∀ (l : List Bo) (m n : Int),0 <= n -> 0 <= m -> n <= 10 * m + 1000 -> szBos l m n <= 10 * m + 1000
 | [],m,n,_,_,h => h
 | x :: r,m,n,h0,hm,h => by
  unfold szBos
  split
  ·have h1 := szBo_le x (m - n) (by omega)
   have h2 := szBo_ge x (m - n)
   have h3 := szEls_ge x.e m (n + szBo x (m - n))
   exact szBos_le r m _ (by omega) hm (szEls_le x.e m _ (by omega) hm (by omega))
  ·exact h
theorem szR0_ge (r : Ru) (m : Int) : 1 <= szR0 r m := by
 have a1 := sz_ge r.lo m
 have a2 := sz_ge r.up m
 have a3 := sz_ge r.w m
 have a4 := sz_ge r.lv m
 have a5 := szL_ge r.t m 0
 unfold szR0; omega
theorem szRu_ge (r : Ru) (m : Int) : 1 <= szRu r m := by
 have g0 := szBos_ge r.b m (szHes r.h m (szR0 r m))
 have g1 := szHes_ge r.h m (szR0 r m)
 have g2 := szR0_ge r m
 unfold szRu; omega
theorem szRu_le (r : Ru) (m : Int) (hm : 0 <= m) : szRu r m <= 10 * m + 1000 := by
 have a1 := sz_le r.lo m hm
 have a2 := sz_le r.up m hm
 have a3 := sz_le r.w m hm
 have a4 := sz_le r.lv m hm
 have a5 := szL_le r.t m 0 (by omega)
 have g2 := szR0_ge r m
 have e : szR0 r m <= 10 * m + 1000 := by unfold szR0; omega
 have g1 := szHes_ge r.h m (szR0 r m)
 exact szBos_le r.b m _ (by omega) hm (szHes_le r.h m _ (by omega) hm e)
def szRs : List Ru -> Int -> Int -> Int
 | [],_,n => n
 | x :: r,m,n => if n <= m then szRs r m (n + szRu x (m - n)) else n
def szCo (x : Co) (m : Int) : Int := 1 + x.v.sz m
def szCs : List Co -> Int -> Int -> Int
 | [],_,n => n
 | x :: r,m,n => if n <= m then szCs r m (n + szCo x (m - n)) else n
def szPg (p : Pg) (m : Int) : Int := szCs p.c m (szRs p.r m p.s.length)
theorem szCs_ge : ∀ (l : List Co) (m n : Int),n <= szCs l m n
 | [],m,n => Int.le_refl _
 | x :: r,m,n => by
  unfold szCs
  split
  ·have h1 := szCs_ge r m (n + szCo x (m - n))
   have h2 := sz_ge x.v (m - n)
   unfold szCo at h1 ⊢; omega
  ·exact Int.le_refl _
theorem szRs_ge : ∀ (l : List Ru) (m n : Int),n <= szRs l m n
 | [],m,n => Int.le_refl _
 | x :: r,m,n => by
  unfold szRs
  split
  ·have h1 := szRs_ge r m (n + szRu x (m - n))
   have h2 := szRu_ge x (m - n)
   omega
  ·exact Int.le_refl _
theorem fewC_mono {l : List Lt} {a b : Int} (h : fewC a l) (hab : a <= b) : fewC b l :=
 ⟨Int.le_trans h.1 hab,fun x hx => few_mono (h.2.1 x hx) hab,Int.le_trans h.2.2.1 hab,Int.le_trans h.2.2.2 hab⟩
theorem fewT_mono {l : List Tm} {a b : Int} (h : fewT a l) (hab : a <= b) : fewT b l := ⟨Int.le_trans h.1 hab,Int.le_trans h.2 hab⟩
theorem fewR_mono {r : Ru} {a b : Int} (h : fewR a r) (hab : a <= b) : fewR b r where
 t4 := ⟨Int.le_trans h.t4.1 hab,Int.le_trans h.t4.2.1 hab,Int.le_trans h.t4.2.2.1 hab,Int.le_trans h.t4.2.2.2 hab⟩
 tt := fewT_mono h.tt hab
 hl := Int.le_trans h.hl hab
 h := fun x hx => ⟨fewT_mono (h.h x hx).1 hab,fewC_mono (h.h x hx).2 hab⟩
 bl := Int.le_trans h.bl hab
 b := fun x hx => by
  obtain ⟨g1,g2,g3,g4,g5⟩ := h.b x hx
  exact ⟨fewC_mono g1 hab,fewC_mono g2 hab,Int.le_trans g3 hab,Int.le_trans g4 hab,fun y hy => ⟨fewT_mono (g5 y hy).1 hab,fewC_mono (g5 y hy).2 hab⟩⟩
theorem szRs_few : ∀ (l : List Ru) (m n : Int),0 <= n -> szRs l m n <= m -> n + l.length <= szRs l m n /\ ∀ x ∈ l,fewR m x
 | [],m,n,_,h => ⟨by simp [szRs],fun x hx => by cases hx⟩
 | x :: r,m,n,hn,h => by
  unfold szRs at h ⊢
  split at h
  ·rename_i hc
   rw [if_pos hc]
   have h1 := szRs_ge r m (n + szRu x (m - n))
   have h2 := szRu_ge x (m - n)
   obtain ⟨h3,h4⟩ := szRs_few r m (n + szRu x (m - n)) (by omega) h
   refine ⟨by rw [List.length_cons]; omega,fun y hy => ?_⟩
   rcases List.mem_cons.1 hy with rfl | hy
   ·exact fewR_mono (szRu_few (m := m - n) (by omega)) (by omega)
   ·exact h4 y hy
  ·omega
theorem szPg_few {p : Pg} {m : Int} (h : szPg p m <= m) : (p.r.length : Int) <= m /\ ∀ x ∈ p.r,fewR m x := by
 unfold szPg at h
 have g1 := szCs_ge p.c m (szRs p.r m p.s.length)
 have g2 := szRs_few p.r m p.s.length (by omega) (by omega)
 exact ⟨by omega,g2.2⟩
/- How many names. -/
theorem allM_len (l : List Lt) : (allM l).length <= (Tm.vsL (withinT l)).length := by
 unfold allM withinT
 induction l with
 | nil => simp [Tm.vsL]
 | cons a r ih =>
  have h1 := sortD_len (Tm.vsL a.a)
  have h2 := sortD_len (Tm.vsL [a.l,a.r])
  simp only [List.flatMap_cons,List.length_append,vsL_app] at ih ⊢
  omega
theorem allM_app (a b : List Lt) : allM (a ++ b) = allM a ++ allM b := by simp [allM]
theorem flatN_len {α : Type} (f : α -> List Nm) (C : Nat) : ∀ (l : List α),(∀ x ∈ l,(f x).length <= C) -> (l.flatMap f).length <= l.length * C
 | [],_ => by simp
 | a :: r,h => by
  rw [List.flatMap_cons,List.length_append,List.length_cons,Nat.succ_mul]
  have h1 := flatN_len f C r fun x hx => h x (List.mem_cons_of_mem _ hx)
  have h2 := h a (List.mem_cons_self ..)
  omega
theorem gHeadM_len {h : He} (hf : fewT 400 h.a /\ fewC 400 h.c) : (gHeadM h).length <= 800 := by
 unfold gHeadM
 rw [List.length_append]
 have h1 := sortD_len (Tm.vsL h.a)
 have h2 := allM_len h.c
 have h3 := hf.1.2
 have h4 := hf.2.2.2.2
 omega
theorem gBodyM_len {b : Bo} (hf : fewB 400 b) : (gBodyM b).length <= 400 := by
 obtain ⟨g1,g2,g3,g4,g5⟩ := hf
 unfold gBodyM
 have h1 := allM_len [b.l]
 have h2 := g1.2.2.2
 have h3 := sortD_len (Tm.vsL [b.b])
 have h4 : (Tm.vsL [b.b]).length = b.b.vs.length := by simp [Tm.vsL]
 split
 ·omega
 ·split
  ·omega
  ·simp
theorem heads_len {r : Ru} (hf : fewR 400 r) : (r.h.flatMap gHeadM).length <= 320000 := by
 have h1 := flatN_len gHeadM 800 r.h fun x hx => gHeadM_len (hf.h x hx)
 have h2 := hf.hl
 omega
theorem bodies_len {r : Ru} (hf : fewR 400 r) : (r.b.flatMap gBodyM).length <= 160000 := by
 have h1 := flatN_len gBodyM 400 r.b fun x hx => gBodyM_len (hf.b x hx)
 have h2 := hf.bl
 omega
theorem first_len {r : Ru} (hf : fewR 400 r) : (Tm.vsL ([r.lo,r.up,r.w,r.lv] ++ r.t)).length <= 2000 := by
 have h1 := hf.t4
 have h2 := hf.tt.2
 rw [vsL_app]
 simp only [List.length_append,Tm.vsL,List.length_nil]
 omega
theorem globalM_len {r : Ru} (hf : fewR 400 r) : (globalM r).length <= 500000 := by
 have h1 := first_len hf
 have h0 := sortD_len (Tm.vsL ([r.lo,r.up,r.w,r.lv] ++ r.t))
 have h2 := heads_len hf
 have h3 := bodies_len hf
 unfold globalM
 simp only [List.length_append]
 split <;> (try simp only [List.length_nil]) <;> omega
theorem missM_len (l a b : List Nm) : (missM l a b).length <= l.length := List.length_filter_le _ _
theorem elM_len {g names : List Nm} {c : List Lt} : (elM g names c).length <= names.length + (allM c).length := by
 have := missM_len (names ++ allM c) g (sortD (closeS g c))
 rw [List.length_append] at this
 exact this
theorem uHeadM_len {g : List Nm} {h : He} (hf : fewT 400 h.a /\ fewC 400 h.c) : (uHeadM g h).length <= 800 := by
 have h0 := elM_len (g := g) (names := sortD (Tm.vsL h.a)) (c := h.c)
 have h1 := sortD_len (Tm.vsL h.a)
 have h2 := allM_len h.c
 have h3 := hf.1.2
 have h4 := hf.2.2.2.2
 unfold uHeadM
 omega
theorem uElemM_len {g : List Nm} {e : El} (hf : fewT 400 e.t /\ fewC 400 e.c) : (uElemM g e).length <= 800 := by
 have h0 := elM_len (g := g) (names := sortD (Tm.vsL e.t)) (c := e.c)
 have h1 := sortD_len (Tm.vsL e.t)
 have h2 := allM_len e.c
 have h3 := hf.1.2
 have h4 := hf.2.2.2.2
 unfold uElemM
 omega
theorem uElems_len {g : List Nm} {b : Bo} (hf : fewB 400 b) : (b.e.flatMap (uElemM g)).length <= 320000 := by
 have h1 := flatN_len (uElemM g) 800 b.e fun x hx => uElemM_len (hf.2.2.2.2 x hx)
 have h2 := hf.2.2.2.1
 omega
theorem uCond_len {g : List Nm} {b : Bo} (hf : fewB 400 b) : (elM g (allM [b.l]) b.c).length <= 800 := by
 have h0 := elM_len (g := g) (names := allM [b.l]) (c := b.c)
 have h1 := allM_len [b.l]
 have h2 := allM_len b.c
 have h3 := hf.1.2.2.2
 have h4 := hf.2.1.2.2.2
 omega
theorem uBodyM_len {g : List Nm} {b : Bo} (hf : fewB 400 b) : (uBodyM g b).length <= 320800 := by
 have h1 := uElems_len (g := g) hf
 have h2 := uCond_len (g := g) hf
 unfold uBodyM
 rw [List.length_append]
 split <;> split <;> (try simp only [List.length_nil]) <;> omega
theorem uHeads_len {g : List Nm} {r : Ru} (hf : fewR 400 r) : (r.h.flatMap (uHeadM g)).length <= 320000 := by
 have h1 := flatN_len (uHeadM g) 800 r.h fun x hx => uHeadM_len (hf.h x hx)
 have h2 := hf.hl
 omega
theorem uBodies_len {g : List Nm} {r : Ru} (hf : fewR 400 r) : (r.b.flatMap (uBodyM g)).length <= 128320000 := by
 have h1 := flatN_len (uBodyM g) 320800 r.b fun x hx => uBodyM_len (hf.b x hx)
 have h2 := hf.bl
 omega
def shN (l : List Nm) : Prop := ∀ x ∈ l,x.length <= 281474976710656
theorem shN_sort {l : List Nm} (h : shN l) : shN (sortD l) := fun x hx => h x (sortD_mem.1 hx)
theorem shN_app {a b : List Nm} (ha : shN a) (hb : shN b) : shN (a ++ b) := fun x hx => (List.mem_append.1 hx).elim (ha x) (hb x)
theorem ov_wf : ∀ (t : Tm),t.wf 281474976710656 -> shN t.ov
 | .mk k n s l,h => by
  simp only [Tm.wf] at h
  obtain ⟨_,_,_,hs,_,hw⟩ := h
  have IH : ∀ y ∈ l,shN y.ov := fun y hy => ov_wf y (wfL_all.1 hw y hy)
  have hL : ∀ r : List Tm,(∀ y ∈ r,shN y.ov) -> shN (Tm.ovL r) := by
   intro r
   induction r with
   | nil => intro _ x hx; simp [Tm.ovL] at hx
   | cons a r ih =>
    intro h
    simp only [Tm.ovL]
    exact shN_app (h a (List.mem_cons_self ..)) (ih fun y hy => h y (List.mem_cons_of_mem _ hy))
  have h := hL l IH
  simp only [Tm.ov]
  split
  ·intro x hx; cases hx
  ·split
   ·intro x hx
    rcases List.mem_cons.1 hx with rfl | hx
    ·exact hs
    ·exact h x hx
   ·exact h
termination_by x => SizeOf.sizeOf x
decreasing_by
 have := List.sizeOf_lt_of_mem hy
 simp only [Tm.mk.sizeOf_spec]
 omega
theorem ovL_wf {l : List Tm} (h : Tm.wfL 281474976710656 l) : shN (Tm.ovL l) := by
 induction l with
 | nil => intro x hx; simp [Tm.ovL] at hx
 | cons a r ih =>
  simp only [Tm.wfL] at h
  simp only [Tm.ovL]
  exact shN_app (ov_wf a h.1) (ih h.2)
theorem nm_wf {t : Tm} (h : t.wf 281474976710656) : t.nm.length <= 281474976710656 := by
 obtain ⟨k,n,s,l⟩ := t
 simp only [Tm.wf] at h
 exact h.2.2.2.1
theorem pool_wf {x : Lt} (h : x.wf 281474976710656) : shN x.pool := by
 obtain ⟨_,_,_,w,_,w1,w2⟩ := h
 unfold Lt.pool
 refine shN_app (ovL_wf w) fun y hy => ?_
 simp only [List.mem_cons,List.not_mem_nil,or_false] at hy
 rcases hy with rfl | rfl
 ·exact nm_wf w1
 ·exact nm_wf w2
theorem pool_few {x : Lt} (h : x.few 400) : x.pool.length <= 402 := by
 have h1 := ovL_len x.a
 have h2 := h.1
 unfold Lt.pool
 simp only [List.length_append,List.length_cons,List.length_nil]
 omega
theorem pools_len {l : List Lt} (hl : l.length <= 400) (h : ∀ x ∈ l,x.few 400) : (l.flatMap Lt.pool).length <= 160800 := by
 have h1 := flatN_len Lt.pool 402 l fun x hx => pool_few (h x hx)
 omega
theorem runM_sh {ls : List Lt} (h : ∀ x ∈ ls,x.wf 281474976710656) {s : List Nm} (hs : shN s) : shN (runM s ls) := fun y hy => by
 rcases runM_pool ls hy with hy | hy
 ·exact hs y hy
 ·obtain ⟨x,hx,hy⟩ := List.mem_flatMap.1 hy
  exact pool_wf (h x hx) y hy
theorem globalS_sh {r : Ru} (h : r.wf 281474976710656) : shN (globalS r) := fun x hx => vsL_wf _ (wfL_all.2 (allT_wf h)) x (global_in hx)
theorem unsafeS_sh {r : Ru} (h : r.wf 281474976710656) : shN (unsafeS r) := fun x hx => vsL_wf _ (wfL_all.2 (allT_wf h)) x (unsafe_in hx)
theorem globalM_sh {r : Ru} (h : r.wf 281474976710656) : shN (globalM r) := fun x hx => globalS_sh h x (globalM_mem.1 hx)
theorem unsafeM_sh {r : Ru} (h : r.wf 281474976710656) : shN (unsafeM r) := fun x hx => unsafeS_sh h x (unsafeM_mem.1 hx)
end Go.Sx

/- RESULTS KEPT: a table of calls that have been worked out. -/
namespace Go.Sx
mutual
def dEq : D -> D -> Bool
 | .int k a,.int k' b => decide (k = k') && decide (a = b)
 | .str a,.str b => decide (a = b)
 | .bool a,.bool b => a == b
 | .slice a x,.slice b y => dEqLL a b && dEqLL x y
 | .agg a,.agg b => dEqL a b
 | _,_ => false
def dEqL : List D -> List D -> Bool
 | [],[] => true
 | a :: r,b :: q => dEq a b && dEqL r q
 | _,_ => false
def dEqLL : List (List D) -> List (List D) -> Bool
 | [],[] => true
 | a :: r,b :: q => dEqL a b && dEqLL r q
 | _,_ => false
end
mutual
theorem dEq_ok : ∀ a b : D,dEq a b = true -> a = b
 | .int k a,b,h => by
  cases b <;> simp [dEq] at h
  rw [h.1,h.2]
 | .str a,b,h => by
  cases b <;> simp [dEq] at h
  rw [h]
 | .bool a,b,h => by
  cases b <;> simp [dEq] at h
  rw [h]
 | .slice a x,b,h => by
  cases b <;> simp [dEq] at h
  rw [dEqLL_ok a _ h.1,dEqLL_ok x _ h.2]
 | .agg a,b,h => by
  cases b <;> simp [dEq] at h
  rw [dEqL_ok a _ h]
 | .undef,b,h => by cases b <;> simp [dEq] at h
 | .nilp,b,h => by cases b <;> simp [dEq] at h
 | .nilf,b,h => by cases b <;> simp [dEq] at h
 | .tuple _,b,h => by cases b <;> simp [dEq] at h
 | .ptr _ _,b,h => by cases b <;> simp [dEq] at h
 | .fptr _,b,h => by cases b <;> simp [dEq] at h
 | .vec _,b,h => by cases b <;> simp [dEq] at h
 | .vptr _ _ _ _,b,h => by cases b <;> simp [dEq] at h
 | .vwin _ _ _,b,h => by cases b <;> simp [dEq] at h
 | .map _,b,h => by cases b <;> simp [dEq] at h
 | .func _ _ _,b,h => by cases b <;> simp [dEq] at h
 | .raw _,b,h => by cases b <;> simp [dEq] at h
 | .nils,b,h => by cases b <;> simp [dEq] at h
 | .own _ _ _,b,h => by cases b <;> simp [dEq] at h
 | .yld _,b,h => by cases b <;> simp [dEq] at h
 | .ifc,b,h => by cases b <;> simp [dEq] at h
 | .pan _,b,h => by cases b <;> simp [dEq] at h
theorem dEqL_ok : ∀ a b : List D,dEqL a b = true -> a = b
 | [],[],_ => rfl
 | [],_ :: _,h => by simp [dEqL] at h
 | _ :: _,[],h => by simp [dEqL] at h
 | a :: r,b :: q,h => by
  simp only [dEqL,Bool.and_eq_true] at h
  rw [dEq_ok a b h.1,dEqL_ok r q h.2]
theorem dEqLL_ok : ∀ a b : List (List D),dEqLL a b = true -> a = b
 | [],[],_ => rfl
 | [],_ :: _,h => by simp [dEqLL] at h
 | _ :: _,[],h => by simp [dEqLL] at h
 | a :: r,b :: q,h => by
  simp only [dEqLL,Bool.and_eq_true] at h
  rw [dEqL_ok a b h.1,dEqLL_ok r q h.2]
end
abbrev Memo := List (FuncId × List D × D)
def memoF : Memo -> FuncId -> List D -> Option D
 | [],_,_ => none
 | (g,ys,r) :: l,f,xs => if f = g /\ dEqL xs ys = true then some r else memoF l f xs
section
variable [Globs] [Codes]
def Memo.OK (P : Program) : Memo -> Prop
 | [] => True
 | (g,ys,r) :: l => FnOK P g ys r /\ Memo.OK P l
theorem memoF_ok {P : Program} : ∀ {l : Memo},l.OK P -> ∀ {f : FuncId} {xs : List D} {r : D},memoF l f xs = some r -> FnOK P f xs r
 | [],_,_,_,_,h => by cases h
 | (g,ys,r0) :: l,hl,f,xs,r,h => by
  simp only [memoF] at h
  split at h
  ·rename_i hc
   cases h
   rw [hc.1,dEqL_ok _ _ hc.2]
   exact hl.1
  ·exact memoF_ok hl.2 h
def Tab.mem (t : Tab) (l : Memo) : Tab := { t with F := fun f xs => match memoF l f xs with
 | some r => some r
 | none => t.F f xs }
theorem Tab.OK.mem_ok {P : Program} {t : Tab} (ht : t.OK P) {l : Memo} (hl : l.OK P) : (t.mem l).OK P := by
 refine ⟨ht.T,ht.C,fun f xs r h => ?_⟩
 simp only [Tab.mem] at h
 split at h
 ·cases h; exact memoF_ok hl (by assumption)
 ·exact ht.F f xs r h
end
end Go.Sx
