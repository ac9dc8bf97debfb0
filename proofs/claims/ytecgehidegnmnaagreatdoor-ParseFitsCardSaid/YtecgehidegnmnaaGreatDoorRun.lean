/- What is known of the library's functions that the program calls,as a table of results. -/
import Derived.Test.YtecgehidegnmnaaGreatDoorTable
import Derived.Test.YtecgehidegnmnaaGreatDoorShelf
set_option linter.all false
set_option maxRecDepth 100000
namespace Go.Proofs.YtecgehidegnmnaaGreatDoor
open Go.Sx
def strs:List (List D)->Option (List (List UInt8))
 |[]=>some []
 |[.str s]::r=>match strs r with
  |some l=>some (s::l)
  |none=>none
 |_=>none
theorem Z4C: ∀ {es:List (List D)} {l:List (List UInt8)},strs es=some l->es=l.map λt=>[.str t]
 |[],l,h=>by simp only[strs,Option.some.injEq] at h;subst h;rfl
 |[.str s]::r,l,h=>by
  simp only[strs] at h;split at h
  ·rename_i a hl;simp only[Option.some.injEq] at h;subst h;rw[Z4C hl];rfl
  ·cases h
 |[]::_,_,h=>by simp[strs] at h
 |(_::_::_)::_,_,h=>by simp[strs] at h
 |[.undef]::_,_,h=>by simp[strs] at h
 |[.bool _]::_,_,h=>by simp[strs] at h
 |[.int _ _]::_,_,h=>by simp[strs] at h
 |[.slice _ _]::_,_,h=>by simp[strs] at h
 |[.nilp]::_,_,h=>by simp[strs] at h
 |[.nilf]::_,_,h=>by simp[strs] at h
 |[.agg _]::_,_,h=>by simp[strs] at h
 |[.tuple _]::_,_,h=>by simp[strs] at h
 |[.ptr _ _]::_,_,h=>by simp[strs] at h
 |[.fptr _]::_,_,h=>by simp[strs] at h
 |[.vec _]::_,_,h=>by simp[strs] at h
 |[.vptr _ _ _ _]::_,_,h=>by simp[strs] at h
 |[.map _]::_,_,h=>by simp[strs] at h
 |[.func _ _ _]::_,_,h=>by simp[strs] at h
 |[.raw _]::_,_,h=>by simp[strs] at h
 |[.nils]::_,_,h=>by simp[strs] at h
 |[.own _ _ _]::_,_,h=>by simp[strs] at h
 |[.yld _]::_,_,h=>by simp[strs] at h
 |[.ifc]::_,_,h=>by simp[strs] at h
def libF (f:FuncId) (xs:List D):Option D :=
 if f=38 then match xs with
  |[.slice es _,.str sep]=>match strs es with
   |some l=>if l.length<=140737488355328/\(Lib.join l sep).length<=140737488355328 then some (.str (Lib.join l sep)) else none
   |none=>none
  |_=>none
 else if f=135 then match xs with
  |[.str s]=>if s.length<=281474976710656 then match Lib.atoiAll s with
   |.ok n=>some (.tuple [.int .i64 n,.raw .nilIface])
   |.range=>some (.tuple [.int .i64 (Lib.atoiSat s),.ifc])
   |_=>some (.tuple [.int .i64 0,.ifc]) else none
  |_=>none
 else if f=88 then match xs with
  |[.int .i64 n]=>if -9223372036854775808<=n/\n<=9223372036854775807 then some (.str (Lib.itoa n)) else none
  |_=>none
 else if f=170 then match xs with
  |[.str s]=>if s.length<4294967281/\(s.all λb=>decide (b.toNat<128))=true then some (.slice ((Lib.fields s).map λx=>[.str x]) []) else none
  |_=>none
 else if f=141 then match xs with
  |[.str s,.int .u8 n]=>some (.int .i64 (Lib.indexByte s (UInt8.ofNat n.toNat)))
  |_=>none
 else if f=79 then match xs with
  |[.str s,.str t]=>if s.length<4294967281 then some (.bool (Lib.contains s t)) else none
  |_=>none
 else if f=95 then match xs with
  |[.str s,.str t]=>some (.int .i64 (Lib.compareBytes s t))
  |_=>none
 else none
theorem Zcp {P:Program} {ρ:Go.Shelf.Ren} (L:LaysC.n172 P ρ) (s:ByteArray) (b:s.size<=281474976710656) (h1: ∀ n,Lib.atoiAll s.data.toList=.ok n->False) (h2:Lib.atoiAll s.data.toList=.range->False) (a:Value) (w:World)
  (hv:w.cell? ⟨(ρ.g 15),0,none⟩=some a) (c:a=.nilIface\/ ∃ f d,a=.iface f d) :
  Calls P (ρ.f 172) #[.string s] w λe w'=>∃ N,e=.returned (.tuple #[.int .i64 (0),.iface (ρ.t 168) (.pointer (some ⟨N,0,none⟩))])/\w.heap.size<=N/\w'.heap[N]? = some (.cells #[.string ⟨#[65,116,111,105]⟩,.string s,a] (ρ.t 210) (0,0))/\RowKit.Below w.heap.size w w':=by
 refine Any.strconv_Atoi_syntax L s b ?_ a w hv c;cases h:Lib.atoiAll s.data.toList with
 |ok n=>exact (h1 n h).elim
 |range=>exact (h2 h).elim
 |_=>rfl
theorem Z14: ∀ f xs r,libF f xs=some r->FnOK Tryz.prog f xs r:=by
 intro f xs r h;unfold libF at h;split at h
 ·rename_i hf;subst hf;split at h
  ·rename_i es ext sep;split at h
   ·rename_i l hl;split at h
    ·rename_i a;cases h;rw[Z4C hl];exact FnOK.join Tryz.strings_Join_none Tryz.strings_Join l ext sep a.1 a.2
    ·cases h
   ·cases h
  ·cases h
 split at h
 ·rename_i hf;subst hf;split at h
  ·rename_i s;split at h
   ·rename_i hl;split at h
    ·rename_i n d;cases h;exact FnOK.atoiOK s n λw=>(Any.strconv_Atoi_ok Tryz.laysC172 ⟨s.toArray⟩ (by simp only[ByteArray.size,List.size_toArray];omega) n (by simpa using d) w).mono λe w' ⟨i,p⟩=>⟨i,p.imp id λ⟨t,k⟩=>⟨_,t,k⟩⟩
    ·rename_i d;cases h;exact FnOK.atoiNo (g:=6) rfl s _ λj w hv b=>(Any.strconv_Atoi_range Tryz.laysC172 ⟨s.toArray⟩ (by simpa [ByteArray.size] using hl) (by simpa using d) j w hv b).mono λe w' ⟨N,i,_,_,a⟩=>⟨_,N,by simpa using i,a⟩
    ·rename_i h1 h2;cases h;exact FnOK.atoiNo (g:=5) rfl s 0 λj w hv b=>(Zcp Tryz.laysC172 ⟨s.toArray⟩ (by simpa [ByteArray.size] using hl) (λn d=>h1 n (by simpa using d)) (λd=>h2 (by simpa using d)) j w hv b).mono λe w' ⟨N,i,_,_,a⟩=>⟨_,N,i,a⟩
   ·cases h
  ·cases h
 split at h
 ·rename_i hf;subst hf;split at h
  ·rename_i n;split at h
   ·rename_i a;cases h;exact FnOK.itoa (g:=4) rfl (by kernel_rfl) (λn h0 h1 w k=>Any.strconv_Itoa Tryz.laysM171 n h0 h1 w k) n a.1 a.2
   ·cases h
  ·cases h
 split at h
 ·rename_i hf;subst hf;split at h
  ·rename_i s;split at h
   ·rename_i a;cases h;refine FnOK.fields (g:=1) (cs:=Lib.asciiSpaceTab.map λz=>.int .u8 z) rfl (λc hc=>?_) (λs w hs ha o=>Any.strings_Fields_core Tryz.lays157 (by kernel_rfl) s w hs ha o) s a.1 (by simpa using a.2);have h1:=Lib.asciiSpaceTab_at c hc;have h2:=Lib.asciiSpaceTab_length;rw[List.getElem?_map,List.getElem?_eq_getElem (by omega)];rw[List.getD_eq_getElem?_getD,List.getElem?_eq_getElem (by omega)] at h1;simp only[Option.getD_some] at h1;simp[h1]
   ·cases h
  ·cases h
 split at h
 ·rename_i hf;subst hf;split at h
  ·cases h;exact FnOK.indexByte Tryz.strings_IndexByte _ _
  ·cases h
 split at h
 ·rename_i hf;subst hf;split at h
  ·split at h
   ·rename_i a;cases h;exact FnOK.contains (g:=0) (by decide) (λs t m w hs hm=>Tryz.strings_Contains s t m w hs hm) _ _ a
   ·cases h
  ·cases h
 split at h
 ·rename_i hf;subst hf;split at h
  ·cases h;exact FnOK.strcmp Tryz.strings_Compare _ _
  ·cases h
 ·cases h
def tab:Tab:=⟨λf=>lk tabL f,λ_ _ _=>none,libF⟩
theorem Ziv {α:Type}: ∀ {l:List (Nat × α)} {i:Nat} {x:α},lk l i=some x->(i,x)∈l
 |[],_,_,h=>by simp[lk] at h
 |(j,y)::r,i,x,h=>by
  simp only[lk] at h;split at h
  ·rename_i e;cases h;subst e;simp
  ·exact List.mem_cons_of_mem _ (Ziv h)
theorem Z8w:tab.OK Tryz.prog:=⟨λf N sc rs h=>ZdX _ (Ziv h),(λ_ _ _ _ _ h=>by cases h),Z14⟩
end Go.Proofs.YtecgehidegnmnaaGreatDoor
