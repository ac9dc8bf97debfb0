/- What awake calls: the table. -/
import Derived.Test.YtfoklncmfoogcaaGreatDoorArSet
import Derived.Test.YtfoklncmfoogcaaGreatDoorSx10
set_option linter.unusedSectionVars false
set_option linter.unusedVariables false
set_option linter.unusedSimpArgs false
set_option linter.deprecated false
namespace Go.Proofs.YtfoklncmfoogcaaGreatDoor
open Go.Sx
set_option maxRecDepth 100000
def flatT:List D->Option Tm
 | [.int .u8 k,.int .i64 n,.str s,.slice [] []]=>if 0<=k then some (.mk k.toNat n s []) else none
 | _=>none
def flatL:List (List D)->Option (List Tm)
 | []=>some []
 | e::r=>match flatT e,flatL r with
  | some t,some l=>some (t::l)
  | _,_=>none
def partsT:List (List D)->Option (List (List Tm))
 | []=>some []
 | [.slice es []]::r=>match flatL es,partsT r with
  | some l,some L=>some (l::L)
  | _,_=>none
 | _=>none
theorem flatT_ok {e:List D} {t:Tm} (h:flatT e=some t):e=t.cells:=by
 unfold flatT at h
 split at h
 ·rename_i k n s
  split at h
  ·rename_i hk
   cases h
   simp only[Tm.cells,Tm.cellsL]
   congr 2
   omega
  ·cases h
 ·cases h
theorem flatL_ok: ∀ {es:List (List D)} {l:List Tm},flatL es=some l->es=Tm.cellsL l
 | [],l,h=>by cases h; rfl
 | e::r,l,h=>by
  simp only[flatL] at h
  split at h
  ·rename_i t l' h1 h2
   cases h
   rw[Tm.cellsL,flatT_ok h1,flatL_ok h2]
  ·cases h
theorem partsT_ok: ∀ {es:List (List D)} {L:List (List Tm)},partsT es=some L->es=partD L
 | [],L,h=>by cases h; rfl
 | e::r,L,h=>by
  unfold partsT at h
  split at h
  ·cases h; simp at *
  ·rename_i es' r' heq
   cases heq
   split at h
   ·rename_i l L' h1 h2
    cases h
    rw[flatL_ok h1,partsT_ok h2]
    rfl
   ·cases h
  ·cases h
def resO:List Int->Option (List Int)
 | []=>some []
 | [n]=>some [n]
 | [a,b,c]=>if a=2/\b=4/\c=6 then some [2,4,6] else none
 | _=>none
theorem perm246 {q:List Int} (h:q.Perm [2,4,6]):SetC q [2,4,6]:=by
 have hl:=h.length_eq
 have hm:=fun x=>(h.mem_iff (a:=x))
 have hn:q.Nodup:=h.nodup_iff.2 (by decide)
 match q,hl,hm,hn with
 | [a,b,c],_,hm,hn =>
  have ha:a=2\/a=4\/a=6:=by have:=(hm a).1 (by simp); simpa using this
  have hb:b=2\/b=4\/b=6:=by have:=(hm b).1 (by simp); simpa using this
  have hc:c=2\/c=4\/c=6:=by have:=(hm c).1 (by simp); simpa using this
  rcases ha with rfl | rfl | rfl <;> rcases hb with rfl | rfl | rfl <;> rcases hc with rfl | rfl | rfl <;> first
   | exact set246 | exact set264 | exact set426 | exact set462 | exact set624 | exact set642 | exact absurd hn (by decide)
theorem resO_ok {acc res:List Int} (h:resO acc=some res): ∀ q:List Int,q.Perm acc->SetC q res:=by
 intro q hq
 unfold resO at h
 split at h
 ·cases h; rw[hq.eq_nil]; exact set0
 ·cases h; rw[List.perm_singleton.1 hq]; exact set1 _
 ·split at h
  ·rename_i hc
   cases h
   obtain⟨rfl,rfl,rfl⟩:=hc
   exact perm246 hq
  ·cases h
 ·cases h
def accO (s:List UInt8) (L:List (List Tm)):List Int:=(fillS (opB s) (L.map intsT) 0 (List.replicate L.length 0,[])).2
def opF (f:FuncId) (xs:List D):Option D:=if f=62 then (match xs with
 | [.str s,.slice es ext]=>(match partsT es with
  | some L=>if L.length<=1000/\(L.all fun l=>decide (l.length<=1000))=true/\(accO s L).length<=1000 then (match resO (accO s L) with
   | some res=>some (.own 4 33 (numC res))
   | none=>none) else none
  | none=>none)
 | _=>none) else libF f xs
theorem opF_ok: ∀ f xs r,opF f xs=some r->FnOK Tryz.prog f xs r:=by
 intro f xs r h
 unfold opF at h
 split at h
 ·rename_i hf
  subst hf
  split at h
  ·rename_i s es ext
   split at h
   ·rename_i L hL
    split at h
    ·rename_i hc
     split at h
     ·rename_i res hr
      cases h
      rw[partsT_ok hL]
      exact op_ok s L ext (accO s L) res (by omega) (fun l hl=>by have:=List.all_eq_true.1 hc.2.1 l hl; simp at this; omega) rfl hc.2.2 (resO_ok hr)
     ·cases h
    ·cases h
   ·cases h
  ·cases h
 ·exact libF_ok _ _ _ h
def tabA:Tab:={ tab with F:=opF }
theorem tabA_ok:tabA.OK Tryz.prog:=⟨tab_ok.T,tab_ok.C,opF_ok⟩
abbrev nT (n:Int):List D:=[.int .u8 1,.int .i64 n,.str [],.slice [] []]
abbrev aT:List D:=[.int .u8 2,.int .i64 0,.str [97],.slice [] []]
abbrev oT (o:List UInt8) (a b:List D):List D:=[.int .u8 5,.int .i64 0,.str o,.slice [a,b] []]
abbrev fT (a b:List D):List D:=[.int .u8 4,.int .i64 0,.str [102],.slice [a,b] []]
abbrev rT (a b:List D):List D:=[.int .u8 6,.int .i64 0,.str [],.slice [a,b] []]
abbrev bigT:List D:=fT (rT (nT 1) (nT 2)) (oT [42] (rT (nT 1) (nT 3)) (nT 2))
abbrev sixT:List (List D):=[fT (nT 1) (nT 2),fT (nT 1) (nT 4),fT (nT 1) (nT 6),fT (nT 2) (nT 2),fT (nT 2) (nT 4),fT (nT 2) (nT 6)]
abbrev f1T:List D:=fT (oT [45] (oT [42] (nT 2) (nT 3)) (nT 1)) aT
abbrev noT:D:= .tuple [.agg [.int .u8 0,.int .i64 0,.str [],.slice [] []],.bool false]
end Go.Proofs.YtfoklncmfoogcaaGreatDoor
