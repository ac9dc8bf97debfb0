/- Own work: a layer over the kit: plain data,a walk over it,its soundness. -/
import Derived.WalkKit
import Derived.OrdersIn
import Derived.WalkSmall
import Derived.WalkLawsBesides
set_option linter.all false
namespace Go.Sx
open Go.RowKit
abbrev Mem:=Nat->Nat->Option Value
inductive D where
 |undef
 |bool (b:Bool)
 |int (k:IntKind) (n:Int)
 |str (s:List UInt8)
 |slice (es ext:List (List D))
 |nilp
 |nilf
 |agg (cs:List D)
 |tuple (ds:List D)
 |ptr (id off:Nat)
 |fptr (cs:List D)
 |vec (id:Nat)
 |vptr (id i j sz:Nat)
 |vwin (id i sz:Nat)
 |map (id:Nat)
 |func (f:Fn) (first caps:List D)
 |raw (v:Value)
 |nils
 |own (sz:Nat) (e:TypeId) (es:List (List D))
 |yld (id:Nat)
 |ifc
 |pan (v:Value)
 deriving Inhabited
def D.isPan:D->Bool
 |.pan _=>true
 |_=>false
mutual
def D.men (i:Nat):D->Bool
 |.ptr j _=>i == j
 |.vec j=>i == j
 |.vptr j _ _ _=>i == j
 |.vwin j _ _=>i == j
 |.map j=>i == j
 |.yld j=>i == j
 |.agg cs=>D.menL i cs
 |.tuple cs=>D.menL i cs
 |.func _ f c=>D.menL i f ||D.menL i c
 |_=>false
def D.menL (i:Nat):List D->Bool
 |[]=>false
 |d::r=>D.men i d ||D.menL i r
end
def D.cells:D->List D
 |.agg cs=>cs
 |d=>[d]
inductive Rep (φ:Mem):Value->D->Prop
 |bool (b:Bool):Rep φ (.bool b) (.bool b)
 |int (k:IntKind) (n:Int):Rep φ (.int k n) (.int k n)
 |str (s:List UInt8):Rep φ (.string ⟨s.toArray⟩) (.str s)
 |nil:Rep φ (.slice none 0 0) (.slice [] [])
 |nilA (a:Addr) (c:Nat):Rep φ (.slice (some a) 0 c) (.slice [] [])
 |slice (b off cap sz:Nat) (es ext:List (List D)) (vals:Nat->Nat->Value)
   (hcap:es.length+ext.length<=cap)
   (hsz: ∀ e∈es++ext,e.length=sz)
   (hmem: ∀ i e j d,(es++ext)[i]? = some e->e[j]? = some d->φ b (off+i*sz+j)=some (vals i j))
   (hrep: ∀ i e j d,(es++ext)[i]? = some e->e[j]? = some d->Rep φ (vals i j) d) :
   Rep φ (.slice (some ⟨b,off,none⟩) es.length cap) (.slice es ext)
 |nilp:Rep φ (.pointer none) .nilp
 |nilf:Rep φ .nilFunc .nilf
 |raw (v:Value) (hv:v.oneCell'=true):Rep φ v (.raw v)
 |nils:Rep φ (.slice none 0 0) .nils
 |ifc (t:TypeId) (x:Value):Rep φ (.iface t x) .ifc
theorem Rep.mono {φ φ':Mem} (f: ∀ b o v,φ b o=some v->φ' b o=some v) {v:Value} {d:D} (h:Rep φ v d):Rep φ' v d:=by
 induction h with
 |bool b=>exact .bool b
 |int k n=>exact .int k n
 |str s=>exact .str s
 |nil=>exact .nil
 |nilA a c=>exact .nilA a c
 |slice b off cap sz es ext vals hcap hsz hmem _ m=>exact .slice b off cap sz es ext vals hcap hsz (λi e j d l g=>f _ _ _ (hmem i e j d l g)) m
 |nilp=>exact .nilp
 |nilf=>exact .nilf
 |raw v hv=>exact .raw v hv
 |nils=>exact .nils
 |ifc t x=>exact .ifc t x
def live:Value->Bool
 |.pointer (some _)=>true
 |.slice .. =>true
 |.map _=>true
 |_=>false
inductive RV (φ:Mem) (h:Nat->Value):Value->D->Prop
 |undef (v:Value):RV φ h v .undef
 |pure {v:Value} {d:D} (hr:Rep φ v d):RV φ h v d
 |agg (vs:Array Value) (cs:List D) (hs:vs.size=cs.length) (hc: ∀ j d,cs[j]? = some d->RV φ h (vs.getD j Go.undef) d):RV φ h (.agg vs) (.agg cs)
 |tuple (vs:Array Value) (cs:List D) (hs:vs.size=cs.length) (hc: ∀ j d,cs[j]? = some d->RV φ h (vs.getD j Go.undef) d):RV φ h (.tuple vs) (.tuple cs)
 |ptr (id off b:Nat) (hh:h id=.pointer (some ⟨b,0,none⟩)):RV φ h (.pointer (some ⟨b,off,none⟩)) (.ptr id off)
 |fptr (b off:Nat) (cs:List D) (vals:Nat->Value) (hm: ∀ j d,cs[j]? = some d->φ b (off+j)=some (vals j)) (hr: ∀ j d,cs[j]? = some d->Rep φ (vals j) d) :
   RV φ h (.pointer (some ⟨b,off,none⟩)) (.fptr cs)
 |vec (id:Nat) (hl:live (h id)=true):RV φ h (h id) (.vec id)
 |vptr (id i j sz b len cap:Nat) (hsz:sz≠0) (hh:h id=.slice (some ⟨b,0,none⟩) len cap):RV φ h (.pointer (some ⟨b,i*sz+j,none⟩)) (.vptr id i j sz)
 |vwin (id i sz b len cap:Nat) (p:Option Addr) (c:Nat) (hsz:sz≠0) (hh:h id=.slice (some ⟨b,0,none⟩) len cap) (hi:i<=len) (hp:i<len->p=some ⟨b,i*sz,none⟩):RV φ h (.slice p (len-i) c) (.vwin id i sz)
 |map (id:Nat) (hl:live (h id)=true):RV φ h (h id) (.map id)
 |yld (id b:Nat) (hh:h id=.pointer (some ⟨b,0,none⟩)):RV φ h (.func (.yield b) #[] #[]) (.yld id)
 |func (f:Fn) (vf vc:Array Value) (df dc:List D) (hf:vf.size=df.length) (hc:vc.size=dc.length)
   (h1: ∀ j d,df[j]? = some d->RV φ h (vf.getD j Go.undef) d) (h2: ∀ j d,dc[j]? = some d->RV φ h (vc.getD j Go.undef) d):RV φ h (.func f vf vc) (.func f df dc)
theorem Qk {i:Nat}: ∀ {cs:List D},D.menL i cs=false-> ∀ (j:Nat) (d:D),cs[j]? = some d->D.men i d=false
 |[],_,j,d,h=>by simp at h
 |c::cs,hm,j,d,h=>by
  simp only[D.menL,Bool.or_eq_false_iff] at hm;cases j with
  |zero=>simp at h;exact h ▸ hm.1
  |succ j=>exact Qk hm.2 j d (by simpa using h)
theorem RV.mono {φ φ':Mem} (a: ∀ b o v,φ b o=some v->φ' b o=some v) {h:Nat->Value} {v:Value} {d:D} (r:RV φ h v d):RV φ' h v d:=by
 induction r with
 |undef v=>exact .undef v
 |pure hr=>exact .pure (hr.mono a)
 |agg vs cs hs _ g=>exact .agg vs cs hs g
 |tuple vs cs hs _ g=>exact .tuple vs cs hs g
 |ptr id off b hh=>exact .ptr id off b hh
 |fptr b off cs vals hm hr=>exact .fptr b off cs vals (λj d e=>a _ _ _ (hm j d e)) (λj d e=>(hr j d e).mono a)
 |vec id hl=>exact .vec id hl
 |vptr id i j sz b len cap hsz hh=>exact .vptr id i j sz b len cap hsz hh
 |vwin id i sz b len cap p c hsz hh hi hp=>exact .vwin id i sz b len cap p c hsz hh hi hp
 |map id hl=>exact .map id hl
 |yld id b hh=>exact .yld id b hh
 |func f vf vc df dc hf hc _ _ k l=>exact .func f vf vc df dc hf hc k l
def updH (h:Nat->Value) (i:Nat) (v:Value):Nat->Value:=λj=>if j=i then v else h j
theorem Zr (h:Nat->Value) (i:Nat) (v:Value):updH h i v i=v:=by simp[updH]
theorem Zd (h:Nat->Value) {i j:Nat} (v:Value) (a:j≠i):updH h i v j=h j:=by simp[updH,a]
theorem RV.upd {φ:Mem} {h:Nat->Value} {v:Value} {d:D} (i:Nat) (x:Value) (r:RV φ h v d):D.men i d=false->RV φ (updH h i x) v d:=by
 induction r with
 |undef v=>exactλ_=>.undef v
 |pure hr=>exactλ_=>.pure hr
 |agg vs cs hs _ g=>exactλhm=>.agg vs cs hs λj d e=>g j d e (Qk (by simpa [D.men] using hm) j d e)
 |tuple vs cs hs _ g=>exactλhm=>.tuple vs cs hs λj d e=>g j d e (Qk (by simpa [D.men] using hm) j d e)
 |ptr id off b hh=>exactλhm=>.ptr id off b (by rw[Zd];exact hh;simp[D.men] at hm;omega)
 |fptr b off cs vals hm hr=>exactλ_=>.fptr b off cs vals hm hr
 |vec id hl =>
   intro hm;have:updH h i x id=h id:=Zd _ _ (by simp[D.men] at hm;omega);rw[<- this] at hl ⊢;exact .vec id hl
 |vptr id a j sz b len cap hsz hh=>exactλhm=>.vptr id a j sz b len cap hsz (by rw[Zd];exact hh;simp[D.men] at hm;omega)
 |vwin id a sz b len cap p c hsz hh hi hp=>exactλhm=>.vwin id a sz b len cap p c hsz (by rw[Zd];exact hh;simp[D.men] at hm;omega) hi hp
 |map id hl =>
   intro hm;have:updH h i x id=h id:=Zd _ _ (by simp[D.men] at hm;omega);rw[<- this] at hl ⊢;exact .map id hl
 |yld id b hh=>exactλhm=>.yld id b (by rw[Zd];exact hh;simp[D.men] at hm;omega)
 |func f vf vc df dc hf hc _ _ k l =>
   intro hm;simp only[D.men,Bool.or_eq_false_iff] at hm;exact .func f vf vc df dc hf hc (λj d e=>k j d e (Qk hm.1 j d e)) (λj d e=>l j d e (Qk hm.2 j d e))
inductive Ext where
 |lenm
 |entry
 |look2 (kd:Option IntKind) (z:D)
 |mkif (t:TypeId)
 |eqs3 (neg:Bool)
 |tas (t:TypeId) (z:D)
 |ldn (sz:Nat)
 deriving Inhabited
inductive AOp where
 |mv
 |pick
 |bin (op:BinOp)
 |binb (op:BinOp)
 |un (op:UnOp)
 |conv (k:IntKind)
 |len (str:Bool)
 |box
 |alloc (zero:List D)
 |build (zero:List D) (parts:List (Nat × Nat))
 |bslice (fz:Bool) (sz n:Nat) (e:TypeId) (zero:List D) (parts:List (Nat × Nat))
 |load (agg:Bool) (sz:Nat)
 |faddr (off:Nat)
 |field (off:Nat) (agg:Bool) (sz:Nat)
 |iaddr (sz:Nat)
 |index
 |sliceS (lo hi:Bool)
 |slice (sz:Nat) (lo hi:Bool)
 |extract (i:Nat)
 |call (f:FuncId)
 |nilck
 |nilv (fz:Bool) (sz:Nat) (e:TypeId)
 |eqs (neg:Bool) (ks:List Nat)
 |mks (fz:Bool) (sz:Nat) (e:TypeId) (z:List D) (bt:Nat)
 |mke (fz:Bool) (sz:Nat) (e:TypeId) (bt:Nat)
 |b2s
 |mkfn (f:Fn) (n:Nat)
 |eqn (op:BinOp) (kd:Nat)
 |iaddrA (len sz:Nat)
 |mm (big:Bool)
 |sh (left:Bool)
 |bad
 |mkmap
 |mkmapC
 |mlook (kd:Option IntKind) (z:D)
 |ext (k:Ext)
 |pnk
 deriving Inhabited
inductive X where
 |t (n:Nat)
 |c (d:D)
 deriving Inhabited
inductive SK where
 |c (sz:Nat)
 |m (key:D)
 |k (kd:Option IntKind) (x:X)
 |cp (dst sz:Nat)
 deriving Inhabited
inductive SOp where
 |a (dst:Option Nat) (g:Option (Nat × Bool)) (o:AOp) (xs:List X)
 |st (g:Option (Nat × Bool)) (sz:SK) (x y:X)
 |app (dst:Nat) (g:Option (Nat × Bool)) (fz:Bool) (sz:Nat) (e:TypeId) (x y:X)
 |cd (dst:Option Nat) (g:Option (Nat × Bool)) (x:X) (xs:List X)
 deriving Inhabited
inductive Sp where
 |rng (ops:List SOp) (dst:Nat) (x:X)
 |nxt (it:X) (t1 t2:Nat)
 |frg (ts:List Nat)
 |dfr (ops:List SOp) (x:X)
 |rcv (t:Nat) (ops:List SOp)
 |pan (ops:List SOp)
 |ord (pre:List Nat) (ops:List SOp)
 deriving Inhabited
inductive SC where
 |skip
 |ret
 |exit (id:Nat)
 |reg (ops:List SOp)
 |drw (pre:List Nat) (ops:List SOp)
 |seq (a b:SC)
 |cond (x:X) (a b:SC)
 |block (id:Nat) (c:SC)
 |loop (ts:List Nat) (c:SC)
 |rangeF (N:Nat) (g:X) (ps:Array Tmp) (a b:SC)
 |spec (k:Sp)
 deriving Inhabited
class Codes where
 CI:Nat->SC->Code->Prop
inductive Gen where
 |loop (st:LoopState) (pend:Option Code) (ps:Array Tmp) (asg body:SC) (N:Nat) (keys:List Nat)
 |map (ks:List D)
 |mapC (ks cs:List D)
 |mapB (ks cs:List D) (bs:List Nat) (cl:Nat)
 |mapS (ks:List D) (z:D)
 |iter (bs ix:List Nat) (cl:Nat)
 deriving Inhabited
inductive Ob where
 |cells (cs:List D)
 |arr (fz:Bool) (sz:Nat) (e:TypeId) (es:List (List D))
 |gen (g:Gen) (ds:List D)
 deriving Inhabited
def Ob.parts:Ob->List D
 |.cells cs=>cs
 |.arr .. =>[]
 |.gen _ ds=>ds
def Ob.men (i:Nat) (o:Ob):Bool:=D.menL i o.parts
variable [Codes]
def keyV:D->Value
 |.int k n=>.int k n
 |.str s=>.string ⟨s.toArray⟩
 |_=>Go.undef
def valV:D->Value
 |.int k n=>.int k n
 |.str s=>.string ⟨s.toArray⟩
 |.bool b=>.bool b
 |.agg []=>.agg #[]
 |_=>Go.undef
def Z1H:D->Bool
 |.int _ _=>true
 |.str _=>true
 |.bool _=>true
 |.agg []=>true
 |_=>false
def Gen.is (hv:Value) (vs:List Value) (o:Obj):Gen->Prop
 |.loop st pend ps asg body N keys=>(∃ b,hv=.pointer (some ⟨b,0,none⟩))/\ ∃ r:Loop,o=.loop r/\r.state=st/\r.pending=pend/\r.params=ps/\Codes.CI N asg r.assign/\Codes.CI N body r.body/\r.tmps.size=N/\vs=keys.map λt=>r.tmps.getD t Go.undef
 |.map ks=>(∃ b,hv=.map (some b))/\ ∃ es clock,o=.map es clock/\es.toList.map MapEntry.key=ks.map keyV/\es.toList.map MapEntry.val=vs/\(es.toList.map MapEntry.born).Nodup/\ ∀ x∈es,x.born<clock
 |.mapC ks cs=>vs=[]/\cs.all Z1H=true/\(∃ b,hv=.map (some b))/\ ∃ es clock,o=.map es clock/\es.toList.map MapEntry.key=ks.map keyV/\es.toList.map MapEntry.val=cs.map valV/\(es.toList.map MapEntry.born).Nodup/\ ∀ x∈es,x.born<clock
 |.mapB ks cs bs cl=>vs=[]/\cs.all Z1H=true/\(∃ b,hv=.map (some b))/\ ∃ es,o=.map es cl/\es.toList.map MapEntry.key=ks.map keyV/\es.toList.map MapEntry.val=cs.map valV/\es.toList.map MapEntry.born=bs/\bs.Nodup/\ ∀ x∈bs,x<cl
 |.mapS ks z=>∃ a:List D,a.Perm ks/\(vs=[]/\(a.map λ_=>z).all Z1H=true/\(∃ b,hv=.map (some b))/\ ∃ es clock,o=.map es clock/\es.toList.map MapEntry.key=a.map keyV/\es.toList.map MapEntry.val=(a.map λ_=>z).map valV/\(es.toList.map MapEntry.born).Nodup/\ ∀ x∈es,x.born<clock)
 |.iter bs ix cl=>(∃ b,hv=.pointer (some ⟨b,0,none⟩))/\ ∃ c,vs=[.map (some c)]/\o=.mapIter (some c) cl (ix.map λi=>bs.getD i 0).toArray cl/\ ∀ i∈ix,i<bs.length
abbrev Env:=List (Nat × D)
abbrev Obs:=List (Nat × Ob)
def lk {α:Type}:List (Nat × α)->Nat->Option α
 |[],_=>none
 |(j,a)::r,i=>if i=j then some a else lk r i
structure St where
 tm:Env
 ob:Obs
structure Cx where
 N:Nat
 w0:World
 φ0:Mem
 Z:Nat->Prop
 bs:Nat
 h0:Nat->Value
 kp:Nat->Option Obj
def blk:Value->Option Nat
 |.pointer (some a)=>some a.block
 |.slice (some a) _ _=>some a.block
 |.map r=>r
 |_=>none
def ObR (own:Nat->Prop) (φ:Mem) (h:Nat->Value) (w:World) (hv:Value):Ob->Prop
 |.cells cs=>∃ b vals e,hv=.pointer (some ⟨b,0,none⟩)/\own b/\w.heap[b]? = some (.cells vals e (0,0))/\vals.size=cs.length ∧
   (∀ j d,cs[j]? = some d->RV φ h (vals.getD j Go.undef) d)/\ ∀ o,φ b o=none
 |.arr fz sz e es=>0<sz/\(∀ x∈es,x.length=sz)/\ ∃ xs,w.ownsRow 0 e sz hv es.length xs ∧
   (∀ i x j d,es[i]? = some x->x[j]? = some d->Rep φ (xs.getD (i*sz+j) Go.undef) d) ∧
   ∀ b,blk hv=some b->own b/\ ∀ o,φ b o=if fz=true/\o<es.length*sz then xs[o]? else none
 |.gen g ds=>∃ b vals o,blk hv=some b/\own b/\w.heap[b]? = some o/\g.is hv vals o/\vals.length=ds.length/\(∀ j d,ds[j]? = some d->RV φ h (vals.getD j Go.undef) d)/\ ∀ off,φ b off=none
def Cx.own (cx:Cx) (b:Nat):Prop:=cx.w0.heap.size<=b\/cx.Z b
structure Mod (cx:Cx) (s:St) (φ:Mem) (h:Nat->Value) (tmps:Array Value) (w:World):Prop where
 size:tmps.size=cx.N
 tm: ∀ t d,lk s.tm t=some d->RV φ h (tmps.getD t Go.undef) d
 mem: ∀ b o v,φ b o=some v->w.cell? ⟨b,o,none⟩=some v
 ext: ∀ b o v,cx.φ0 b o=some v->φ b o=some v
 new: ∀ b o v,φ b o=some v->cx.φ0 b o=none->cx.own b
 ob: ∀ i o,lk s.ob i=some o->ObR cx.own φ h w (h i) o
 sep: ∀ i j b,(lk s.ob i).isSome->(lk s.ob j).isSome->blk (h i)=some b->blk (h j)=some b->i=j
 os:w.os=cx.w0.os
 tape:w.tape=cx.w0.tape
 output:w.output=cx.w0.output
 grow:cx.w0.heap.size<=w.heap.size
 one: ∀ i,(h i).oneCell'=true
 frame: ∀ b,b<cx.w0.heap.size-> ¬ cx.Z b->w.heap[b]? = cx.w0.heap[b]?
 hfix: ∀ i,i<cx.bs->h i=cx.h0 i
 kept: ∀ b o,cx.kp b=some o->w.heap[b]? = some o/\(∀ off,φ b off=none)/\ ∀ i,(lk s.ob i).isSome->blk (h i)≠some b
end Go.Sx
namespace Go.Sx
open Go.RowKit
mutual
def D.clo:D->Bool
 |.ptr ..|.vec ..|.vptr ..|.vwin ..|.map ..|.own ..|.yld ..|.pan _=>false
 |.agg cs=>D.cloL cs
 |.tuple cs=>D.cloL cs
 |.func _ f c=>D.cloL f && D.cloL c
 |_=>true
def D.cloL:List D->Bool
 |[]=>true
 |d::r=>D.clo d && D.cloL r
end
def dv (obs:Nat->Option Ob):D->D
 |.vec id=>match obs id with
  |some (.arr true _ _ es)=>.slice es []
  |_=>.undef
 |.nils=>.slice [] []
 |d=>d
def D.pur:D->Bool
 |.bool _|.int ..|.str _|.slice ..|.nilp|.nilf|.raw _|.nils|.ifc=>true
 |_=>false
def noH:Nat->Value:=λ_=>.pointer none
class Globs where
 G:Nat->Option (List D)
 X:Nat->Option (Array Value):=λ_=>none
 I:Nat->Bool:=λ_=>false
 /-- Functions to which a nil slice is handed as nil. -/
 N:Nat->Bool:=λ_=>false
variable [Globs] [Codes]
def ZsZ (φ:Mem):Prop:=∀ g cs,Globs.G g=some cs->RV φ noH (.pointer (some ⟨g,0,none⟩)) (.fptr cs)
structure GlobC (φ:Mem) (w:World) (Z:Nat->Prop):Prop where
 ok:ZsZ φ
 x: ∀ g arr,Globs.X g=some arr->(∃ ty fr,w.heap[g]? = some (.cells arr ty fr))/\ ¬ Z g
 i: ∀ g,Globs.I g=true->(∃ arr ty fr m,w.heap[g]? = some (.cells arr ty fr)/\arr[0]? = some (.int .i64 m))/\ ¬ Z g
theorem GlobC.sub {φ:Mem} {w:World} {Z Z':Nat->Prop} (h:GlobC φ w Z) (c: ∀ b,Z' b->Z b):GlobC φ w Z' :=
 ⟨h.ok,λg arr hx=>⟨(h.x g arr hx).1,λa=>(h.x g arr hx).2 (c g a)⟩,λg hx=>⟨(h.i g hx).1,λa=>(h.i g hx).2 (c g a)⟩⟩
def D.one:D->Bool
 |.agg _|.tuple _|.undef|.own .. =>false
 |_=>true
def D.okc:D->Bool
 |.agg _=>true
 |d=>D.one d
def Ret (φ:Mem) (B:Nat) (w:World) (v:Value):D->Prop
 |.own sz e es=>ObR (B<= ·) φ noH w v (.arr true sz e es)
 |r=>∀ h,RV φ h v r
def HOne (h:Nat->Value):Prop:=∀ i,(h i).oneCell'=true
def FnOK (P:Program) (f:FuncId) (args:List D) (r:D):Prop :=
 ∀ (φ:Mem) (h:Nat->Value) (w:World) (vs:Array Value),HOne h->GlobC φ w (λ_=>False)->(∀ b o v,φ b o=some v->w.cell? ⟨b,o,none⟩=some v)->vs.size=args.length →
  (∀ j d,args[j]? = some d->RV φ h (vs.getD j Go.undef) d) →
  Calls P f vs w λe w'=>∃ v φ',e=.returned v/\Ret φ' w.heap.size w' v r/\Below w.heap.size w w' ∧
   (∀ b o u,φ b o=some u->φ' b o=some u)/\(∀ b o u,φ' b o=some u->w'.cell? ⟨b,o,none⟩=some u)/\(∀ b o u,φ' b o=some u->φ b o=none->w.heap.size<=b)
def bitI (op:BinOp) (k:IntKind) (a b:Int):Int :=
 k.wrap (match op with
  |.and=>BitVec.ofInt k.bits a &&& BitVec.ofInt k.bits b
  |.or=>BitVec.ofInt k.bits a |||BitVec.ofInt k.bits b
  |.xor=>BitVec.ofInt k.bits a ^^^ BitVec.ofInt k.bits b
  |_=>BitVec.ofInt k.bits a &&& ~~~(BitVec.ofInt k.bits b)).toNat
def shI (left:Bool) (k:IntKind) (a b:Int):Int:=if left then k.wrap (a*2 ^ (min b.toNat k.bits)) else a.fdiv (2 ^ (min b.toNat k.bits))
def binI (op:BinOp) (k:IntKind) (a b:Int) (K:D->Prop):Prop :=
 match op with
 |.add=>K (.int k (k.wrap (a+b)))
 |.sub=>K (.int k (k.wrap (a-b)))
 |.mul=>K (.int k (k.wrap (a*b)))
 |.quo=>b≠0/\K (.int k (k.wrap (a.tdiv b)))
 |.rem=>b≠0/\K (.int k (a.tmod b))
 |.eql=>K (.bool (decide (a=b)))
 |.neq=>K (.bool (!decide (a=b)))
 |.lss=>K (.bool (decide (a<b)))
 |.leq=>K (.bool (decide (a<=b)))
 |.gtr=>K (.bool (decide (b<a)))
 |.geq=>K (.bool (decide (b<=a)))
 |.and=>K (.int k (bitI .and k a b))
 |.or=>K (.int k (bitI .or k a b))
 |.xor=>K (.int k (bitI .xor k a b))
 |.andNot=>K (.int k (bitI .andNot k a b))
 |_=>False
def binS (op:BinOp) (a b:List UInt8) (K:D->Prop):Prop :=
 match op with
 |.add=>a.length+b.length<=4611686018427387904/\K (.str (a++b))
 |.eql=>K (.bool (decide (a=b)))
 |.neq=>K (.bool (!decide (a=b)))
 |.lss=>K (.bool (Op.bytesLess a b))
 |.leq=>K (.bool (Op.bytesLess a b ||decide (a=b)))
 |.gtr=>K (.bool (!(Op.bytesLess a b ||decide (a=b))))
 |.geq=>K (.bool (!Op.bytesLess a b))
 |_=>False
abbrev D.nov:D:=.tuple []
def D.nn:D->Bool
 |.ptr ..|.fptr _|.vptr ..|.yld _=>true
 |.func (.func _) _ _=>true
 |_=>false
def eqD:Nat->D->D->Option Bool
 |0,.ifc,.raw .nilIface=>some false
 |0,.raw .nilIface,.ifc=>some false
 |0,.raw .nilIface,.raw .nilIface=>some true
 |1,.func ..,.nilf=>some false
 |1,.yld _,.nilf=>some false
 |1,.nilf,.nilf=>some true
 |2,.ptr ..,.nilp=>some false
 |2,.fptr _,.nilp=>some false
 |2,.nilp,.nilp=>some true
 |3,.slice (_::_) _,.nils=>some false
 |3,.nils,.nils=>some true
 |_,_,_=>none
def Zz:List Nat->List D->List D->Option Bool
 |[],[],[]=>some true
 |2::ks,.int k a::r,.int c b::q=>if k=c then (match Zz ks r q with|some x=>some (decide (a=b) && x)|none=>none) else none
 |1::ks,.str a::r,.str b::q=>match Zz ks r q with|some x=>some (decide (a=b) && x)|none=>none
 |0::ks,.bool a::r,.bool b::q=>match Zz ks r q with|some x=>some ((a == b) && x)|none=>none
 |_,_,_=>none
def Qv (es:List (List D)):List UInt8:=es.map λ|[.int _ n]=>UInt8.ofNat n.toNat|_=>0
def byC (l:List UInt8):List (List D):=l.map λb=>[.int .u8 (b.toNat:Int)]
def Z2H (obs:Nat->Option Ob):D->Option (List (List D))
 |.slice es _=>some es
 |.nils=>some []
 |.vec id=>match obs id with
  |some (.arr _ _ _ es)=>some es
  |_=>none
 |_=>none
def mmI (big:Bool) (k:IntKind):Int->List D->Option Int
 |a,[]=>some a
 |a,.int c b::r=>if c=k then mmI big k (if big then (if b > a then b else a) else (if b<a then b else a)) r else none
 |_,_=>none
def isKD:Option IntKind->D->Bool
 |some k,.int a _=>decide (a=k)
 |none,.str _=>true
 |_,_=>false
def keqD:D->D->Option Bool
 |.int k a,.int c b=>if k=c then some (decide (a=b)) else none
 |.str a,.str b=>some (decide (a=b))
 |_,_=>none
def Z2K:D->List D->List D->Option (Option D)
 |_,[],[]=>some none
 |key,k::ks,d::ds=>match keqD key k with
  |some true=>some (some d)
  |some false=>Z2K key ks ds
  |none=>none
 |_,_,_=>none
def mput (key y:D):List D->List D->Option (List D × List D)
 |[],[]=>some ([key],[y])
 |k::ks,d::ds=>match keqD key k with
  |some true=>some (k::ks,y::ds)
  |some false=>match mput key y ks ds with
   |some (a,b)=>some (k::a,d::b)
   |none=>none
  |none=>none
 |_,_=>none
def kOK:D->Bool
 |.int ..|.str _=>true
 |_=>false
def setAt (cs:List D) (off:Nat):List D->List D
 |[]=>cs
 |d::r=>setAt (cs.set off d) (off+1) r
def QO (obs:Nat->Option Ob) (cs:List D):List (Nat × Nat)->List D->Option (List D)
 |[],[]=>some cs
 |(off,sz)::ps,d::ds =>
  if D.okc (dv obs d)=true/\(dv obs d).cells.length=sz/\off+sz<=cs.length then QO obs (setAt cs off (dv obs d).cells) ps ds else none
 |_,_=>none
def Z4y (sz:Nat):Nat->List D->List (List D)
 |0,_=>[]
 |n+1,cs=>cs.take sz::Z4y sz n (cs.drop sz)
def Z03 (obs:Nat->Option Ob):D->Option (List (List D) × List (List D))
 |.slice es ext=>some (es,ext)
 |.nils=>some ([],[])
 |.vec id=>match obs id with
  |some (.arr true _ _ es)=>some (es,[])
  |_=>none
 |_=>none
def Z4u (obs:Nat->Option Ob):D->Option (List (List D) × List (List D))
 |.vec id=>match obs id with
  |some (.arr _ _ _ es)=>some (es,[])
  |_=>none
 |d=>Z03 obs d
def Z0i (lo hi:Bool) (len:Nat):List D->Option (Int × Int)
 |[.int _ a,.int _ b]=>if lo && hi then some (a,b) else none
 |[.int _ a]=>if lo && !hi then some (a,(len:Int)) else if !lo && hi then some (0,a) else none
 |[]=>if lo ||hi then none else some (0,(len:Int))
 |_=>none
def unpk:Option Ob->Option Ob
 |some (.gen (.mapC ks cs) [])=>some (.gen (.map ks) cs)
 |o=>o
def valA:D->Option Value
 |.agg cs=>if cs.all Z1H=true then some (.agg (cs.map valV).toArray) else none
 |d=>if Z1H d=true then some (valV d) else none
def datC:Value->D
 |.bool b=>.bool b
 |.int k n=>.int k n
 |.string s=>.str s.data.toList
 |_=>.undef
def datA:Value->D
 |.agg vs=>.agg (vs.toList.map datC)
 |v=>datC v
def ngB (neg r:Bool):Bool:=match neg with
 |true=>!r
 |false=>r
def extD (k:Ext) (xs:List D) (obs:Nat->Option Ob):Option D:=match k,xs with
 |.lenm,[.map id]=>match unpk (obs id) with
  |some (.gen (.map ks) _)=>some (.int .i64 ks.length)
  |some (.gen (.mapS ks _) _)=>some (.int .i64 ks.length)
  |_=>none
 |.entry,[.ptr id 0]=>match obs id with
  |some (.gen (.iter bs ix cl) [.map f])=>match obs f with
   |some (.gen (.mapB ks ds c e) [])=>if c=bs/\e=cl then (match ix.getLast? with
    |some i=>(match ks[i]?,ds[i]? with
     |some k,some d=>if kOK k=true then some (.tuple [k,d]) else none
     |_,_=>none)
    |none=>none) else none
   |_=>none
  |_=>none
 |.look2 kd z,[.map id,key]=>match unpk (obs id) with
  |some (.gen (.map ks) ds)=>if isKD kd key=true then (match Z2K key ks ds with
   |some r=>some (.tuple [r.getD z,.bool r.isSome])
   |none=>none) else none
  |_=>none
 |.mkif t,[d]=>match valA d with
  |some v=>some (.raw (.iface t v))
  |none=>none
 |.eqs3 neg,[a,b]=>match (match a with
   |.vec id=>(match obs id with
    |some (.arr _ _ _ (_::_))=>(match b with
     |.nils=>some false
     |_=>none)
    |_=>none)
   |a=>eqD 3 a b) with
  |some r=>some (.bool (ngB neg r))
  |none=>none
 |.tas t z,[.raw v]=>match v with
  |.nilIface=>some (.tuple [z,.bool false])
  |.iface g x=>if g=t then some (.tuple [datA x,.bool true]) else some (.tuple [z,.bool false])
  |_=>none
 |.ldn sz,[.ptr id off]=>match obs id with
  |some (.cells cs)=>if (decide (off+sz<=cs.length) && ((cs.drop off).take sz).all D.pur)=true then some (.agg ((cs.drop off).take sz)) else none
  |_=>none
 |_,_=>none
def Z8i (obs:Nat->Option Ob) (k:Ext) (xs:List D):List Nat:=match k,xs with
 |.lenm,[.map id]=>[id]
 |.entry,[.ptr id 0]=>match obs id with
  |some (.gen (.iter _ _ _) [.map a])=>[id,a]
  |_=>[id]
 |.look2 ..,[.map id,_]=>[id]
 |.eqs3 _,[.vec id,_]=>[id]
 |.ldn _,[.ptr id _]=>[id]
 |_,_=>[]
theorem Z43 {obs obs':Nat->Option Ob} {k:Ext} {xs:List D} (h: ∀ i∈Z8i obs k xs,obs i=obs' i):Z8i obs' k xs=Z8i obs k xs:=by unfold Z8i at *;grind
theorem Zb9 {obs obs':Nat->Option Ob} {k:Ext} {xs:List D} (h: ∀ i∈Z8i obs k xs,obs i=obs' i):extD k xs obs'=extD k xs obs:=by
 unfold Z8i at h;unfold extD;split
 ·grind
 ·grind
 ·grind
 ·rfl
 ·grind
 ·rfl
 ·grind
 ·rfl
def evl (P:Program) (dst:Nat) (o:AOp) (xs:List D) (obs:Nat->Option Ob) (K:D->Option Ob->Prop):Prop :=
 match o,xs with
 |.mv,[d]=>K d none
 |.pick,[.bool c,a,b]=>K (if c then a else b) none
 |.bin op,[.int k a,.int m b]=>k=m/\binI op k a b λd=>K d none
 |.bin op,[.str a,.str b]=>binS op a b λd=>K d none
 |.binb .eql,[.bool a,.bool b]=>K (.bool (a == b)) none
 |.binb .neq,[.bool a,.bool b]=>K (.bool (!(a == b))) none
 |.un .not,[.bool a]=>K (.bool (!a)) none
 |.un .neg,[.int k a]=>K (.int k (k.wrap (0-a))) none
 |.conv k,[.int _ n]=>K (.int k (k.wrap n)) none
 |.len true,[.str s]=>K (.int .i64 s.length) none
 |.len false,[.slice es _]=>K (.int .i64 es.length) none
 |.len false,[.nils]=>K (.int .i64 0) none
 |.len false,[.vec id]=>match obs id with
  |some (.arr _ _ _ es)=>K (.int .i64 es.length) none
  |_=>False
 |.box,[d]=>D.okc d=true/\K (.ptr dst 0) (some (.cells d.cells))
 |.alloc z,[]=>K (.ptr dst 0) (some (.cells z))
 |.build z ps,ds=>match QO obs z ps ds with
  |some cs=>K (.agg cs) none
  |none=>False
 |.bslice fz sz n e z ps,ds=>match QO obs z ps ds with
  |some cs=>cs.all D.pur=true/\K (.vec dst) (some (.arr fz sz e (Z4y sz n cs)))
  |none=>False
 |.load agg sz,[.ptr id off]=>match obs id with
  |some (.cells cs)=>if agg then off+sz<=cs.length/\K (.agg (((cs.drop off).take sz).map (dv obs))) none else match cs[off]? with
   |some d=>K d none
   |none=>False
  |_=>False
 |.load agg sz,[.fptr cs]=>if agg then sz<=cs.length/\K (.agg (cs.take sz)) none else match cs with
   |d::_=>K d none
   |[]=>False
 |.load agg sz,[.vptr id i j g]=>match obs id with
  |some (.arr false l _ es)=>l=g/\j+sz<=g/\(match es[i]? with
   |some cs=>if agg then K (.agg ((cs.drop j).take sz)) none else match cs[j]? with
    |some d=>K d none
    |none=>False
   |none=>False)
  |_=>False
 |.faddr off,[.ptr id o]=>K (.ptr id (o+off)) none
 |.faddr off,[.fptr cs]=>K (.fptr (cs.drop off)) none
 |.faddr off,[.vptr id i j sz]=>K (.vptr id i (j+off) sz) none
 |.field off agg sz,[.agg cs]=>if agg then off+sz<=cs.length/\K (.agg ((cs.drop off).take sz)) none else match cs[off]? with
   |some d=>K d none
   |none=>False
 |.iaddr sz,[.slice es _,.int _ n]=>0<=n/\n<es.length/\(es.getD n.toNat []).length=sz/\K (.fptr (es.getD n.toNat [])) none
 |.iaddr sz,[.vec id,.int _ n]=>match obs id with
  |some (.arr true _ _ es)=>0<=n/\n<es.length/\(es.getD n.toNat []).length=sz/\K (.fptr (es.getD n.toNat [])) none
  |some (.arr false g _ es)=>g=sz/\0<=n/\n<es.length/\K (.vptr id n.toNat 0 sz) none
  |_=>False
 |.index,[.str s,.int _ n]=>0<=n/\n<s.length/\K (.int .u8 (s.getD n.toNat 0).toNat) none
 |.sliceS lo hi,.str s::bs=>match Z0i lo hi s.length bs with
  |some (a,b)=>0<=a/\a<=b/\b<=s.length/\K (.str ((s.take b.toNat).drop a.toNat)) none
  |none=>False
 |.slice sz lo hi,d::bs=>match Z03 obs d with
  |some (es,ext)=>match Z0i lo hi es.length bs with
   |some (a,b)=>(∀ q∈es++ext,q.length=sz)/\0<=a/\a<=b/\b<=(es++ext).length/\K (.slice (((es++ext).take b.toNat).drop a.toNat) ((es++ext).drop b.toNat)) none
   |none=>False
  |none=>match d,bs with
   |.vec id,[.int _ n]=>(match lo,hi with
    |true,false=>(match obs id with
     |some (.arr false g _ es)=>g=sz/\es≠[]/\0<=n/\n<=es.length/\K (.vwin id n.toNat sz) none
     |_=>False)
    |_,_=>False)
   |_,_=>False
 |.extract i,[.tuple ds]=>match ds[i]? with
  |some d=>K d none
  |none=>False
 |.call f,ds=>∃ r,FnOK P f (ds.map (dv obs)) r/\(match r with
  |.own sz e es=>K (.vec dst) (some (.arr true sz e es))
  |r=>K r none)
 |.nilck,[d]=>D.nn d=true/\K d none
 |.eqs neg ks,[.agg a,.agg b]=>match Zz ks a b with
  |some r=>K (.bool (if neg then !r else r)) none
  |none=>False
 |.mks fz sz e z bt,[.int _ n]=>z.all D.pur=true/\0<=n/\n*bt<=281474976710656/\n<=1073741824/\K (.vec dst) (some (.arr fz sz e (List.replicate n.toNat z)))
 |.mke fz sz e bt,[.int _ n]=>0<=n/\n*bt<=281474976710656/\n<=1073741824/\K (.vec dst) (some (.arr fz sz e []))
 |.b2s,[d]=>match Z2H obs d with
  |some es=>es=byC (Qv es)/\K (.str (Qv es)) none
  |none=>False
 |.nilv fz sz e,[.nils]=>0<sz/\K (.vec dst) (some (.arr fz sz e []))
 |.mkfn f n,ds=>n<=ds.length/\K (.func f (ds.take n) (ds.drop n)) none
 |.eqn op kd,[a,b]=>match eqD kd a b with
  |some r=>if op=.eql then K (.bool r) none else if op=.neq then K (.bool (!r)) none else False
  |none=>False
 |.iaddrA len sz,[.fptr cs,.int _ n]=>0<=n/\n<len/\K (.fptr (cs.drop (n.toNat*sz))) none
 |.iaddrA len sz,[.ptr id off,.int _ n]=>0<=n/\n<len/\K (.ptr id (off+n.toNat*sz)) none
 |.mm big,.int k a::ds=>match mmI big k a ds with
  |some r=>K (.int k r) none
  |none=>False
 |.sh left,[.int k a,.int _ b]=>0<=b/\K (.int k (shI left k a b)) none
 |.mkmap,[]=>K (.map dst) (some (.gen (.map []) []))
 |.mkmapC,[]=>K (.map dst) (some (.gen (.mapC [] []) []))
 |.mlook kd z,[.map id,key]=>match obs id with
  |some (.gen (.map ks) ds)=>isKD kd key=true/\(match Z2K key ks ds with
   |some r=>K (r.getD z) none
   |none=>False)
  |_=>False
 |.ext k,xs=>match extD k xs obs with
  |some d=>K d none
  |none=>False
 |_,_=>False
end Go.Sx
namespace Go.Sx
open Go.RowKit
variable [Globs] [Codes]
section inv
variable {φ:Mem} {h:Nat->Value} {v:Value}
theorem RV.bool_inv {b:Bool} (r:RV φ h v (.bool b)):v=.bool b:=by cases r with|pure r=>cases r;rfl
theorem RV.int_inv {k:IntKind} {n:Int} (r:RV φ h v (.int k n)):v=.int k n:=by cases r with|pure r=>cases r;rfl
theorem RV.str_inv {s:List UInt8} (r:RV φ h v (.str s)):v=.string ⟨s.toArray⟩:=by cases r with|pure r=>cases r;rfl
theorem RV.nils_inv (r:RV φ h v .nils):v=.slice none 0 0:=by cases r with|pure r=>cases r;rfl
theorem RV.slice_inv {es ext:List (List D)} (r:RV φ h v (.slice es ext)):Rep φ v (.slice es ext):=by cases r with|pure r=>exact r
theorem RV.vec_inv {i:Nat} (r:RV φ h v (.vec i)):v=h i:=by
 cases r with
 |pure r=>cases r
 |vec=>rfl
theorem RV.agg_inv {cs:List D} (r:RV φ h v (.agg cs)): ∃ vs:Array Value,v=.agg vs/\vs.size=cs.length/\ ∀ j d,cs[j]? = some d->RV φ h (vs.getD j Go.undef) d:=by
 cases r with
 |pure r=>cases r
 |agg vs _ hs hc=>exact⟨vs,rfl,hs,hc⟩
theorem RV.tuple_inv {cs:List D} (r:RV φ h v (.tuple cs)): ∃ vs:Array Value,v=.tuple vs/\vs.size=cs.length/\ ∀ j d,cs[j]? = some d->RV φ h (vs.getD j Go.undef) d:=by
 cases r with
 |pure r=>cases r
 |tuple vs _ hs hc=>exact⟨vs,rfl,hs,hc⟩
theorem RV.vec_live {i:Nat} (r:RV φ h v (.vec i)):live (h i)=true:=by
 cases r with
 |pure r=>cases r
 |vec _ hl=>exact hl
theorem RV.ptr_inv {i o:Nat} (r:RV φ h v (.ptr i o)): ∃ b,h i=.pointer (some ⟨b,0,none⟩)/\v=.pointer (some ⟨b,o,none⟩):=by
 cases r with
 |pure r=>cases r
 |ptr _ _ b hh=>exact⟨b,hh,rfl⟩
theorem RV.fptr_inv {cs:List D} (r:RV φ h v (.fptr cs)): ∃ (b o:Nat) (vals:Nat->Value),v=.pointer (some ⟨b,o,none⟩)/\(∀ j d,cs[j]? = some d->φ b (o+j)=some (vals j))/\ ∀ j d,cs[j]? = some d->Rep φ (vals j) d:=by
 cases r with
 |pure r=>cases r
 |fptr b o _ vals hm hr=>exact⟨b,o,vals,rfl,hm,hr⟩
theorem RV.vptr_inv {i a j sz:Nat} (r:RV φ h v (.vptr i a j sz)): ∃ b len cap,sz≠0/\h i=.slice (some ⟨b,0,none⟩) len cap/\v=.pointer (some ⟨b,a*sz+j,none⟩):=by
 cases r with
 |pure r=>cases r
 |vptr _ _ _ _ b len cap hsz hh=>exact⟨b,len,cap,hsz,hh,rfl⟩
theorem RV.vwin_inv {i a sz:Nat} (r:RV φ h v (.vwin i a sz)): ∃ b len cap p c,sz≠0/\h i=.slice (some ⟨b,0,none⟩) len cap/\a<=len/\(a<len->p=some ⟨b,a*sz,none⟩)/\v=.slice p (len-a) c:=by
 cases r with
 |pure r=>cases r
 |vwin _ _ _ b len cap p c hsz hh hi hp=>exact⟨b,len,cap,p,c,hsz,hh,hi,hp,rfl⟩
end inv
theorem Rep.slice_inv {φ:Mem} {v:Value} {es ext:List (List D)} (r:Rep φ v (.slice es ext)):((∃ a c,v=.slice a 0 c/\(a=none->c=0))/\es=[]/\ext=[]) ∨
  ∃ (b off cap sz:Nat) (vals:Nat->Nat->Value),v=.slice (some ⟨b,off,none⟩) es.length cap/\es.length+ext.length<=cap/\(∀ e∈es++ext,e.length=sz) ∧
   (∀ i e j d,(es++ext)[i]? = some e->e[j]? = some d->φ b (off+i*sz+j)=some (vals i j)) ∧
   (∀ i e j d,(es++ext)[i]? = some e->e[j]? = some d->Rep φ (vals i j) d):=by
 cases r with
 |nil=>exact .inl ⟨⟨none,0,rfl,λ_=>rfl⟩,rfl,rfl⟩
 |nilA a c=>exact .inl ⟨⟨some a,c,rfl,λh=>by cases h⟩,rfl,rfl⟩
 |slice b off cap sz _ _ vals hcap hsz hmem hrep=>exact .inr ⟨b,off,cap,sz,vals,rfl,hcap,hsz,hmem,hrep⟩
def RVL (φ:Mem) (h:Nat->Value):List Value->List D->Prop
 |[],[]=>True
 |v::vs,d::ds=>RV φ h v d/\RVL φ h vs ds
 |_,_=>False
def OpOut (P:Program) (o:Oper) (ρ:Operand->Value) (w:World) (R:Value->World->Prop):Prop :=
 (∃ v w',(execOp ρ o).run P w=.ok (.value v) w'/\R v w') ∨
 (∃ f vs,(execOp ρ o).run P w=.ok (.enter f vs) w/\Calls P f vs w λe w'=>∃ v,e=.returned v/\R v w')
def hx (h:Nat->Value) (dst:Nat) (hv:Value):Option Ob->Nat->Value
 |none=>h
 |some _=>updH h dst hv
structure AStep (φ:Mem) (h:Nat->Value) (w:World) (dst:Nat) (d:D) (nb:Option Ob) (v:Value) (φ':Mem) (hv:Value) (w':World):Prop where
 below:Below w.heap.size w w'
 mono: ∀ b o u,φ b o=some u->φ' b o=some u
 mem: ∀ b o u,φ' b o=some u->w'.cell? ⟨b,o,none⟩=some u
 new: ∀ b o u,φ' b o=some u->φ b o=none->w.heap.size<=b
 rv:RV φ' (hx h dst hv nb) v d
 ob: ∀ o,nb=some o->ObR (w.heap.size<= ·) φ' (updH h dst hv) w' hv o
def APost (φ:Mem) (h:Nat->Value) (w:World) (dst:Nat) (K:D->Option Ob->Prop) (v:Value) (w':World):Prop :=
 ∃ d nb φ' hv,K d nb/\AStep φ h w dst d nb v φ' hv w'
abbrev Sub (φ:Mem) (w:World):Prop:=∀ b o v,φ b o=some v->w.cell? ⟨b,o,none⟩=some v
section
variable {P:Program} {o:Oper} {ρ:Operand->Value} {w:World} {φ:Mem} {h:Nat->Value} {dst:Nat} {K:D->Option Ob->Prop} {obs:Nat->Option Ob}
theorem APost.same (a:Sub φ w) {v:Value} {d:D} (hk:K d none) (hr:RV φ h v d):APost φ h w dst K v w :=
 ⟨d,none,φ,Go.undef,hk,Below.refl _ _,λ_ _ _ h=>h,a,λ_ _ _ h h'=>(by rw[h] at h';cases h'),hr,λ_ h=>by cases h⟩
theorem OpOut.same (a:Sub φ w) {v:Value} {d:D} (b:(execOp ρ o).run P w=.ok (.value v) w) (hk:K d none) (hr:RV φ h v d):OpOut P o ρ w (APost φ h w dst K) :=
 .inl ⟨v,w,b,APost.same a hk hr⟩
theorem Z04 {φ:Mem} {h:Nat->Value} (k:IntKind) (n:Int):RV φ h (.int k n) (.int k n):=.pure (.int k n)
theorem Qn {φ:Mem} {h:Nat->Value} (b:Bool):RV φ h (.bool b) (.bool b):=.pure (.bool b)
theorem Z6w {φ:Mem} {h:Nat->Value} (s:List UInt8):RV φ h (.string ⟨s.toArray⟩) (.str s):=.pure (.str s)
theorem s_mv {x:Operand} (b:o.op=.move x\/o.op=.assign x) (c:Sub φ w) {ds:List D} (hr:RVL φ h [ρ x] ds) (a:evl P dst .mv ds obs K):OpOut P o ρ w (APost φ h w dst K):=by
 match ds,hr,a with
 |[d],hr,a =>
  refine OpOut.same c (v:=ρ x) ?_ a hr.1;rcases b with b|b<;>simp[execOp,b]
theorem ZoY {c a b:Operand} (f:o.op=.pick c a b) (e:Sub φ w) {ds:List D} (hr:RVL φ h [ρ c,ρ a,ρ b] ds) (d:evl P dst .pick ds obs K):OpOut P o ρ w (APost φ h w dst K):=by
 match ds,hr,d with
 |[.bool t,d1,d2],hr,d =>
  have h1:=hr.1.bool_inv;cases t
  ·exact OpOut.same e (v:=ρ b) (by simp[execOp,f,h1,asBool]) d hr.2.2.1
  ·exact OpOut.same e (v:=ρ a) (by simp[execOp,f,h1,asBool]) d hr.2.1
theorem Z8l (op:BinOp) (t:TypeId) (x y:Operand) (k c:IntKind) (a b:Int) (w:World):(eqGuard op t x y (.int k a) (.int c b)).run P w=.ok () w:=by
 unfold eqGuard;split<;>rfl
theorem Z8k (op:BinOp) (t:TypeId) (x y:Operand) (a b:ByteArray) (w:World):(eqGuard op t x y (.string a) (.string b)).run P w=.ok () w:=by
 unfold eqGuard;split<;>rfl
theorem Z33 (op:BinOp) (t:TypeId) (x y:Operand) (a b:Bool) (w:World):(eqGuard op t x y (.bool a) (.bool b)).run P w=.ok () w:=by
 unfold eqGuard;split<;>rfl
theorem Z4n (a b:List UInt8):(a == b)=decide (a=b):=by grind
theorem Z60 (a b:Int):(a == b)=decide (a=b):=by grind
theorem ZgU {op:BinOp} {t:TypeId} {k:IntKind} {a b:Int} {K:D->Prop} (h:binI op k a b K) (w:World): ∃ d v,K d/\Rep φ v d/\(binOp op t (.int k a) (.int k b)).run P w=.ok v w:=by
 cases op<;>simp only[binI] at h
 case add=>exact⟨_,_,h,.int _ _,by simp[binOp,Op.intArith]⟩
 case sub=>exact⟨_,_,h,.int _ _,by simp[binOp,Op.intArith]⟩
 case mul=>exact⟨_,_,h,.int _ _,by simp[binOp,Op.intArith]⟩
 case quo=>exact⟨_,_,h.2,.int _ _,by simp[binOp,Op.intDiv,h.1]⟩
 case rem=>exact⟨_,_,h.2,.int _ _,by simp[binOp,Op.intDiv,h.1]⟩
 case eql=>exact⟨_,_,h,.bool _,by simp[binOp,Op.intCmp,Z60]⟩
 case neq=>exact⟨_,_,h,.bool _,by simp[binOp,Op.intCmp,bne,Z60]⟩
 case lss=>exact⟨_,_,h,.bool _,by simp[binOp,Op.intCmp]⟩
 case leq=>exact⟨_,_,h,.bool _,by simp[binOp,Op.intCmp]⟩
 case gtr=>exact⟨_,_,h,.bool _,by simp[binOp,Op.intCmp]⟩
 case geq=>exact⟨_,_,h,.bool _,by simp[binOp,Op.intCmp]⟩
 case and=>exact⟨_,_,h,.int _ _,by simp[binOp,Op.intBits,bitI]⟩
 case or=>exact⟨_,_,h,.int _ _,by simp[binOp,Op.intBits,bitI]⟩
 case xor=>exact⟨_,_,h,.int _ _,by simp[binOp,Op.intBits,bitI]⟩
 case andNot=>exact⟨_,_,h,.int _ _,by simp[binOp,Op.intBits,bitI]⟩
theorem ZgQ {op:BinOp} {t:TypeId} {a b:List UInt8} {K:D->Prop} (h:binS op a b K) (w:World): ∃ d v,K d/\Rep φ v d/\(binOp op t (.string ⟨a.toArray⟩) (.string ⟨b.toArray⟩)).run P w=.ok v w:=by
 have c:(ByteArray.mk a.toArray).toList=a:=ByteArray.toList_mk a;have e:(ByteArray.mk b.toArray).toList=b:=ByteArray.toList_mk b;cases op<;>simp only[binS] at h
 case add =>
  refine⟨_,.string ⟨(a++b).toArray⟩,h.2,.str _,?_⟩;have hs: ¬ ((((ByteArray.mk a.toArray).size+(ByteArray.mk b.toArray).size:Nat):Int) > IntKind.i64.max):=by
   have:=h.1;simp[ByteArray.size,IntKind.max,IntKind.signed,IntKind.bits];omega
  simp only[binOp,Op.stringOp,hs,if_false];have:(ByteArray.mk a.toArray)++(ByteArray.mk b.toArray)=⟨(a++b).toArray⟩:=by
   apply ByteArray.ext;simp
  rw[this];rfl
 case eql=>exact⟨_,_,h,.bool _,by simp[binOp,Op.stringOp,c,e,Z4n]⟩
 case neq=>exact⟨_,_,h,.bool _,by simp[binOp,Op.stringOp,c,e,Z4n]⟩
 case lss=>exact⟨_,_,h,.bool _,by simp[binOp,Op.stringOp,c,e]⟩
 case leq=>exact⟨_,_,h,.bool _,by simp[binOp,Op.stringOp,c,e,Z4n]⟩
 case gtr=>exact⟨_,_,h,.bool _,by simp[binOp,Op.stringOp,c,e,Z4n]⟩
 case geq=>exact⟨_,_,h,.bool _,by simp[binOp,Op.stringOp,c,e]⟩
theorem Zp6 {op:BinOp} {t i:TypeId} {x y:Operand} (g:o.op=.binOp op t x y i) (e:Sub φ w) {ds:List D} (hr:RVL φ h [ρ x,ρ y] ds) (c:evl P dst (.bin op) ds obs K) :
  OpOut P o ρ w (APost φ h w dst K):=by
 match ds,hr,c with
 |[.int k a,.int j b],hr,c =>
  obtain⟨hk,c⟩:=c;subst hk;obtain⟨d,v,h1,h2,f⟩:=ZgU (P:=P) (φ:=φ) (t:=t) (show binI op k a b (λd=>K d none) from c) w;exact OpOut.same e (v:=v) (by simp[execOp,g,hr.1.int_inv,hr.2.1.int_inv,Z8l,f]) h1 (.pure h2)
 |[.str a,.str b],hr,c =>
  obtain⟨d,v,h1,h2,f⟩:=ZgQ (P:=P) (φ:=φ) (t:=t) (show binS op a b (λd=>K d none) from c) w;exact OpOut.same e (v:=v) (by simp[execOp,g,hr.1.str_inv,hr.2.1.str_inv,Z8k,f]) h1 (.pure h2)
theorem s_sh {left:Bool} {t g:TypeId} {x y:Operand} (e:o.op=.binOp (if left then .shl else .shr) t x y g) (f:Sub φ w) {ds:List D} (hr:RVL φ h [ρ x,ρ y] ds) (c:evl P dst (.sh left) ds obs K) :
  OpOut P o ρ w (APost φ h w dst K):=by
 match ds,hr,c with
 |[.int k a,.int j b],hr,c =>
  obtain⟨i,hk⟩:=c;have d: ¬ b<0:=by omega
  refine OpOut.same f (v:=.int k (shI left k a b)) ?_ hk (Z04 _ _);cases left
  ·simp only[Bool.false_eq_true,if_false] at e;simp[execOp,e,hr.1.int_inv,hr.2.1.int_inv,eqGuard,binOp,Op.shift,d,shI]
  ·simp only[if_true] at e;simp[execOp,e,hr.1.int_inv,hr.2.1.int_inv,eqGuard,binOp,Op.shift,d,shI]
theorem Zp5 {op:BinOp} {t g:TypeId} {x y:Operand} (e:o.op=.binOp op t x y g) (f:P.underlying t=some .bool) (d:Sub φ w) {ds:List D} (hr:RVL φ h [ρ x,ρ y] ds)
  (c:evl P dst (.binb op) ds obs K):OpOut P o ρ w (APost φ h w dst K):=by
 match op,ds,hr,c with
 |.eql,[.bool a,.bool b],hr,c =>
  exact OpOut.same d (v:=.bool (a == b)) (by simp[execOp,e,hr.1.bool_inv,hr.2.1.bool_inv,Z33,run_eql_bool _ t a b f]) c (Qn _)
 |.neq,[.bool a,.bool b],hr,c =>
  exact OpOut.same d (v:=.bool (!(a == b))) (by simp[execOp,e,hr.1.bool_inv,hr.2.1.bool_inv,Z33,run_neq_bool _ t a b f]) c (Qn _)
theorem s_un {op:UnOp} {t:TypeId} {x:Operand} (d:o.op=.unOp op t x) (c:Sub φ w) {ds:List D} (hr:RVL φ h [ρ x] ds) (b:evl P dst (.un op) ds obs K) :
  OpOut P o ρ w (APost φ h w dst K):=by
 match op,ds,hr,b with
 |.not,[.bool a],hr,b=>exact OpOut.same c (v:=.bool (!a)) (by simp[execOp,d,hr.1.bool_inv,Op.unary]) b (Qn _)
 |.neg,[.int k a],hr,b=>exact OpOut.same c (v:=.int k (k.wrap (0-a))) (by simp[execOp,d,hr.1.int_inv,Op.unary,Op.intArith]) b (Z04 _ _)
theorem Zp3 {s d:TypeId} {k:IntKind} {x:Operand} (e:o.op=.convert s d x) (hs:(P.underlying s).isSome=true) (c:P.underlying d=some (.int k)) (b:Sub φ w) {ds:List D} (hr:RVL φ h [ρ x] ds)
  (a:evl P dst (.conv k) ds obs K):OpOut P o ρ w (APost φ h w dst K):=by
 match ds,hr,a with
 |[.int q n],hr,a =>
  refine OpOut.same b (v:=.int k (k.wrap n)) ?_ a (Z04 _ _);simp only[execOp,e,hr.1.int_inv]
  have:=run_convert_int (P:=P) (w:=w) s d q n;obtain⟨u,f⟩:=Option.isSome_iff_exists.1 hs;simp[convert,run_underlying f,run_underlying c,Conv.intToInt]
end
end Go.Sx
namespace Go.Sx
open Go.RowKit
variable [Globs] [Codes]
theorem RV.pur_rep {φ:Mem} {h:Nat->Value} {v:Value} {d:D} (hp:D.pur d=true) (r:RV φ h v d):Rep φ v d:=by cases r<;>grind [D.pur]
def CR (φ:Mem) (h:Nat->Value) (cells:Array Value) (ds:List D):Prop :=
 cells.size=ds.length/\ ∀ j d,ds[j]? = some d->RV φ h (cells.getD j Go.undef) d
theorem CR.set {φ:Mem} {h:Nat->Value} {cells:Array Value} {ds:List D} (hc:CR φ h cells ds) (i:Nat) {v:Value} {d:D} (r:RV φ h v d):CR φ h (cells.setIfInBounds i v) (ds.set i d):=by
 refine⟨by simp[hc.1],λj f a=>?_⟩;rw[List.getElem?_set] at a;split at a
 ·rename_i e;subst e;split at a
  ·rename_i b;cases a;have:i<cells.size:=by rw[hc.1];exact b
   simpa [Array.getD,this] using r
  ·cases a
 ·rename_i c
  have:=hc.2 j f a;simpa [Array.getD_eq_getD_getElem?,Array.getElem?_setIfInBounds,c] using this
theorem CR.foldl {φ:Mem} {h:Nat->Value} (off:Nat): ∀ (vs:List Value) (k:Nat) (xs:List D) (cells:Array Value) (ds:List D),CR φ h cells ds->RVL φ h vs xs →
  CR φ h ((vs.zipIdx k).foldl (λcs (x:Value × Nat)=>cs.setIfInBounds (off+x.2) x.1) cells) (setAt ds (off+k) xs)
 |[],_,[],_,_,hc,_=>hc
 |v::vs,k,x::xs,cells,ds,hc,hr=>by
  simp only[List.zipIdx_cons,List.foldl_cons,setAt]
  have:=CR.foldl off vs (k+1) xs _ _ (hc.set (off+k) hr.1) hr.2;simpa [Nat.add_assoc] using this
 |[],_,_::_,_,_,_,hr=>hr.elim
 |_::_,_,[],_,_,_,hr=>hr.elim
theorem ZG {φ:Mem} {h:Nat->Value}: ∀ (vs:List Value) (cs:List D),vs.length=cs.length->(∀ j d,cs[j]? = some d->RV φ h (vs.getD j Go.undef) d)->RVL φ h vs cs
 |[],[],_,_=>trivial
 |v::vs,c::cs,hl,hc=>⟨by simpa using hc 0 c rfl,ZG vs cs (by simpa using hl) λj d a=>by simpa using hc (j+1) d (by simpa using a)⟩
 |[],_::_,hl,_=>by simp at hl
 |_::_,[],hl,_=>by simp at hl
theorem RVL.length {φ:Mem} {h:Nat->Value}: ∀ {vs:List Value} {cs:List D},RVL φ h vs cs->vs.length=cs.length
 |[],[],_=>rfl
 |_::_,_::_,hr=>by simp[RVL.length hr.2]
 |[],_::_,hr=>hr.elim
 |_::_,[],hr=>hr.elim
theorem RVL.get {φ:Mem} {h:Nat->Value}: ∀ {vs:List Value} {cs:List D},RVL φ h vs cs-> ∀ j d,cs[j]? = some d->RV φ h (vs.getD j Go.undef) d
 |[],[],_,j,d,a=>by simp at a
 |v::vs,c::cs,hr,j,d,a=>by
  cases j with
  |zero=>simp at a;subst a;simpa using hr.1
  |succ j=>simpa using RVL.get hr.2 j d (by simpa using a)
 |[],_::_,hr,_,_,_=>hr.elim
 |_::_,[],hr,_,_,_=>hr.elim
theorem Rep.one {φ:Mem} {v:Value} {d:D} (r:Rep φ v d):v.oneCell'=true:=by
 cases r<;>first|rfl|assumption
theorem Z77 {v:Value} (h:v.oneCell'=true):v.cells=#[v]:=by
 cases v<;>simp_all [Value.oneCell',Value.cells]
theorem RV.one {φ:Mem} {h:Nat->Value} (hh:HOne h) {v:Value} {d:D} (r:RV φ h v d) (a:D.one d=true):v.oneCell'=true:=by
 cases r with
 |undef=>simp[D.one] at a
 |pure r=>exact r.one
 |agg=>simp[D.one] at a
 |tuple=>simp[D.one] at a
 |ptr=>rfl
 |fptr=>rfl
 |vec i _=>exact hh i
 |vptr=>rfl
 |vwin=>rfl
 |map i _=>exact hh i
 |yld=>rfl
 |func=>rfl
theorem RV.cells {φ:Mem} {h:Nat->Value} {v:Value} {d:D} (hh:HOne h) (r:RV φ h v d) (b:D.okc d=true):CR φ h v.cells d.cells:=by
 by_cases ha: ∃ cs,d=.agg cs
 ·obtain⟨cs,rfl⟩:=ha;obtain⟨vs,rfl,hs,hc⟩:=r.agg_inv;exact⟨hs,hc⟩
 ·have h1:D.one d=true:=by
   cases d<;>first|exact b|exact absurd ⟨_,rfl⟩ ha
  rw[Z77 (r.one hh h1)];have:d.cells=[d]:=by
   cases d<;>first|rfl|exact absurd ⟨_,rfl⟩ ha
  rw[this];refine⟨rfl,λj c a=>?_⟩;cases j with
  |zero=>simp at a;subst a;simpa using r
  |succ j=>simp at a
end Go.Sx
namespace Go.Sx
open Go.RowKit
variable [Globs] [Codes]
def Qd:Value->D
 |.bool b=>.bool b
 |.int k n=>.int k n
 |.string s=>.str s.data.toList
 |.slice none 0 0=>.nils
 |.pointer none=>.nilp
 |.nilFunc=>.nilf
 |.agg _=>.undef
 |.tuple _=>.undef
 |v=>.raw v
theorem Z2g (φ:Mem) (h:Nat->Value) (v:Value):RV φ h v (Qd v):=by
 unfold Qd;split
 ·exact .pure (.bool _)
 ·exact .pure (.int _ _)
 ·rename_i s;have:s=⟨s.data.toList.toArray⟩:=by cases s;simp
  rw[this];exact .pure (.str _)
 ·exact .pure .nils
 ·exact .pure .nilp
 ·exact .pure .nilf
 ·exact .undef _
 ·exact .undef _
 ·rename_i ha a;refine .pure (.raw _ ?_);cases v<;>first|rfl|exact absurd rfl (ha _)|exact absurd rfl (a _)
def Zbj:Value->D
 |.slice none 0 0=>.slice [] []
 |v=>Qd v
def Z4c:Value->D
 |.agg vs=>.agg (vs.toList.map Zbj)
 |v=>Qd v
theorem ZjN (φ:Mem) (h:Nat->Value) (v:Value):RV φ h v (Zbj v):=by
 unfold Zbj;split
 ·exact .pure .nil
 ·exact Z2g φ h v
theorem Zce (φ:Mem) (h:Nat->Value) (v:Value):RV φ h v (Z4c v):=by
 unfold Z4c;split
 ·rename_i vs;refine .agg _ _ (by simp) λj d a=>?_;rw[List.getElem?_map] at a;cases b:vs.toList[j]? with
  |none=>rw[b] at a;cases a
  |some u =>
   rw[b] at a;cases a;have:vs.getD j Go.undef=u:=by
    simp_all
   rw[this];exact ZjN φ h u
 ·exact Z2g φ h v
theorem Ze6 (i:Nat) (v:Value):D.men i (Zbj v)=false:=by
 unfold Zbj;split
 ·rfl
 ·unfold Qd;split<;>rfl
theorem Zbc (i:Nat) (v:Value):D.men i (Z4c v)=false:=by
 unfold Z4c;split
 ·rename_i vs;simp only[D.men];generalize vs.toList=l;induction l with
  |nil=>rfl
  |cons a r b=>simp only[List.map_cons,D.menL,Ze6,b,Bool.or_self]
 ·unfold Qd;split<;>rfl
def Z0r (P:Program) (t:TypeId):Option (List D) :=
 match P.info? t with
 |some i=>match i.zero with
  |some z=>if z.cells.size=i.size then some (z.cells.toList.map Qd) else none
  |none=>none
 |none=>none
theorem Qw {P:Program} {t:TypeId} {ds:List D} (h:Z0r P t=some ds): ∃ i z,P.info? t=some i/\i.zero=some z/\z.cells.size=i.size/\ds=z.cells.toList.map Qd:=by grind [Z0r]
theorem CR.const {φ:Mem} {h:Nat->Value} (cells:Array Value):CR φ h cells (cells.toList.map Qd):=by
 refine⟨by simp,λj d a=>?_⟩;rw[List.getElem?_map] at a;cases hc:cells.toList[j]? with
 |none=>rw[hc] at a;cases a
 |some v =>
  rw[hc] at a;simp at a hc;subst a;have:cells.getD j Go.undef=v:=by simp[Array.getD_eq_getD_getElem?,hc]
  rw[this];exact Z2g φ h v
section
variable {P:Program} {o:Oper} {ρ:Operand->Value} {w:World} {φ:Mem} {h:Nat->Value} {dst:Nat} {K:D->Option Ob->Prop} {obs:Nat->Option Ob}
theorem Sub.lt (a:Sub φ w) {b off:Nat} {v:Value} (h:φ b off=some v):b<w.heap.size:=World.block_lt_of_cell? _ _ (a b off v h)
theorem Sub.alloc (a:Sub φ w) (ob:Obj):Sub φ (w.alloc ob):=λb off v c=>by
 rw[World.cell?_alloc_lt _ _ _ (a.lt c)];exact a b off v c
theorem AStep.cells (a:Sub φ w) (cells:Array Value) (e:TypeId) (cs:List D) (hc:CR φ (updH h dst (.pointer (some ⟨w.heap.size,0,none⟩))) cells cs) :
  AStep φ h w dst (.ptr dst 0) (some (.cells cs)) (.pointer (some ⟨w.heap.size,0,none⟩)) φ (.pointer (some ⟨w.heap.size,0,none⟩)) (w.alloc (.cells cells e (0,0))) where
 below:=(Below.refl _ w).alloc (Nat.le_refl _) _
 mono:=λ_ _ _ h=>h
 mem:=a.alloc _
 new:=λ_ _ _ h h'=>by rw[h] at h';cases h'
 rv:=.ptr dst 0 w.heap.size (Zr _ _ _)
 ob:=λob c=>by
  cases c;refine⟨w.heap.size,cells,e,rfl,Nat.le_refl _,heap_alloc_new w _,hc.1,hc.2,λoff=>?_⟩;cases b:φ w.heap.size off with
  |none=>rfl
  |some v=>exact absurd (a.lt b) (by omega)
theorem ZjJ {e:TypeId} {z:List D} (f:o.op=.alloc e) (g:Z0r P e=some z) (c:Sub φ w) (a:evl P dst (.alloc z) [] obs K):OpOut P o ρ w (APost φ h w dst K):=by
 obtain⟨i,d,hi,b,hs,rfl⟩:=Qw g;refine .inl ⟨.pointer (some ⟨w.heap.size,0,none⟩),w.alloc (.cells d.cells e (0,0)),?_,_,_,φ,_,a,AStep.cells c d.cells e _ (CR.const _)⟩;simp[execOp,f,Instr.alloc,zeroValue,typeInfo,hi,b,newVar,newRow]
theorem ZcW {i:Nat} {d:D} (hm:D.men i d=false):D.menL i d.cells=false:=by grind [D.cells,D.men,D.menL,D]
theorem CR.upd {cells:Array Value} {ds:List D} (x:Value) (hm:D.menL dst ds=false) (hc:CR φ h cells ds):CR φ (updH h dst x) cells ds :=
 ⟨hc.1,λj d a=>(hc.2 j d a).upd dst x (Qk hm j d a)⟩
theorem ZtX {e:TypeId} {x:Operand} (f:o.op=.box e x) (hh:HOne h) (c:Sub φ w) {ds:List D} (hr:RVL φ h [ρ x] ds) (hm: ∀ d ob,K d (some ob)->D.menL dst ds=false) (a:evl P dst .box ds obs K) :
  OpOut P o ρ w (APost φ h w dst K):=by
 match ds,hr,hm,a with
 |[d],hr,hm,a =>
  have b:=hm _ _ a.2;simp only[D.menL,Bool.or_false] at b;refine .inl ⟨.pointer (some ⟨w.heap.size,0,none⟩),w.alloc (.cells (ρ x).cells e (0,0)),?_,_,_,φ,_,a.2,AStep.cells c _ e _ ((hr.1.cells hh a.1).upd _ (ZcW b))⟩;simp[execOp,f,Instr.box,newVar,newRow]
end
end Go.Sx
namespace Go.Sx
open Go.RowKit
variable [Globs] [Codes]
def aggB (P:Program) (t:TypeId):Option Bool :=
 match P.underlying t with
 |some (.struct _)=>some true
 |some (.array _ _)=>some true
 |some _=>some false
 |none=>none
def szT (P:Program) (t:TypeId):Option Nat:=(P.info? t).map (·.size)
section
variable {P:Program} {o:Oper} {ρ:Operand->Value} {w:World} {φ:Mem} {h:Nat->Value} {dst:Nat} {K:D->Option Ob->Prop} {obs:Nat->Option Ob} {own:Nat->Prop}
theorem Z12 {t:TypeId} {b:Bool} (ha:aggB P t=some b):(isAgg t).run P w=.ok b w:=by
 cases a:P.underlying t with
 |none=>simp[aggB,a] at ha
 |some d =>
  unfold isAgg;rw[Sem.run_bind,run_underlying a];cases d<;>simp_all [aggB]
theorem ZS {t:TypeId} {n:Nat} (hs:szT P t=some n):(sizeOf t).run P w=.ok n w:=by
 unfold szT at hs;cases hi:P.info? t with
 |none=>rw[hi] at hs;cases hs
 |some i=>rw[hi] at hs;simp at hs;simp[sizeOf,typeInfo,hi,hs]
theorem Z11 {t:TypeId} {n b off:Nat} (ha:aggB P t=some true) (hs:szT P t=some n) (cs:List Value) (hl:cs.length=n)
  (hc: ∀ j v,cs[j]? = some v->w.cell? ⟨b,off+j,none⟩=some v):(loadVar t ⟨b,off,none⟩).run P w=.ok (.agg cs.toArray) w:=by
 subst hl
 have:=run_loadCells_list (P:=P) w ⟨b,off,none⟩ cs (λj v hv=>by rw[Addr.add_lit];exact hc j v hv);simp[loadVar,Z12 ha,ZS hs,this]
theorem Z10 {t:TypeId} {b off:Nat} {v:Value} (ha:aggB P t=some false) (hc:w.cell? ⟨b,off,none⟩=some v):(loadVar t ⟨b,off,none⟩).run P w=.ok v w:=by
 simp[loadVar,Z12 ha,hc]
theorem QS {t:TypeId} {x:Operand} {n b off:Nat} (c:o.op=.load t x) (hx:ρ x=.pointer (some ⟨b,off,none⟩)) (ha:aggB P t=some true) (hs:szT P t=some n)
  (f:Nat->Value) (hc: ∀ j,j<n->w.cell? ⟨b,off+j,none⟩=some (f j)):(execOp ρ o).run P w=.ok (.value (.agg ((List.range n).map f).toArray)) w:=by
 have:=Z11 (P:=P) (w:=w) (b:=b) (off:=off) ha hs ((List.range n).map f) (by simp) (λj v hv=>by
  rw[List.getElem?_map] at hv;by_cases a:j<n
  ·simp[a] at hv;subst hv;exact hc j a
  ·simp[List.getElem?_eq_none (show (List.range n).length<=j by simp;omega)] at hv)
 simp[execOp,c,hx,Instr.loadAt,Instr.sureAddr,this]
theorem Z0N {t:TypeId} {x:Operand} {b off:Nat} {v:Value} (a:o.op=.load t x) (hx:ρ x=.pointer (some ⟨b,off,none⟩)) (ha:aggB P t=some false)
  (hc:w.cell? ⟨b,off,none⟩=some v):(execOp ρ o).run P w=.ok (.value v) w:=by
 simp[execOp,a,hx,Instr.loadAt,Instr.sureAddr,Z10 (P:=P) ha hc]
theorem Z6x {n:Nat} {f:Nat->Value} {cs:List D} (hl:cs.length=n) (hr: ∀ j d,cs[j]? = some d->RV φ h (f j) d):RV φ h (.agg ((List.range n).map f).toArray) (.agg cs):=by
 refine .agg _ _ (by simp[hl]) (λj d a=>?_);have b:j<n:=by
  grind
 have:(((List.range n).map f).toArray).getD j Go.undef=f j:=by simp[Array.getD_eq_getD_getElem?,b]
 rw[this];exact hr j d a
theorem Z9o {hv:Value} {sz:Nat} {e:TypeId} {es:List (List D)} (c:ObR own φ h w hv (.arr true sz e es)):Rep φ hv (.slice es []):=by
 obtain⟨hsz,a,xs,b,hrep,hblk⟩:=c;rcases b.2 with⟨rfl,h0⟩|⟨g,cap,cur,rfl,s,hh,hcap,m,p,f⟩
 ·have:es=[]:=List.eq_nil_of_length_eq_zero h0;subst this;exact .nil
 ·have n:=(hblk g rfl).2;refine .slice g 0 cap sz es [] (λi j=>xs.getD (i*sz+j) Go.undef) (by simpa using hcap) (by simpa using a) ?_ ?_
  ·intro i x j d hi q;simp only[List.append_nil] at hi;have h1:i<es.length:=(List.getElem?_eq_some_iff.1 hi).1;have r:x.length=sz:=a x (List.mem_of_getElem? hi);have h2:j<sz:=by have:=(List.getElem?_eq_some_iff.1 q).1;omega
   have l:i*sz+j<es.length*sz:=by
    have:(i+1)*sz<=es.length*sz:=Nat.mul_le_mul_right _ h1;rw[Nat.add_mul,Nat.one_mul] at this;omega
   have:=n (i*sz+j);rw[if_pos ⟨rfl,l⟩] at this;have k:i*sz+j<xs.length:=by rw[b.1];exact l
   rw[Nat.zero_add,this];simp[List.getD,k]
  ·grind
theorem Z0O (a: ∀ i ob,obs i=some ob->live (h i)=true->ObR own φ h w (h i) ob) {v:Value} {d:D} (r:RV φ h v d):RV φ h v (dv obs d):=by
 unfold dv;split
 ·rename_i id;split
  ·rename_i sz e es b;have hl:=r.vec_live;rw[r.vec_inv];exact .pure (Z9o (a id _ b hl))
  ·exact .undef v
 ·rw[r.nils_inv];exact .pure .nil
 ·exact r
theorem Zp0 {t:TypeId} {x:Operand} {agg:Bool} {sz:Nat} (A:o.op=.load t x) (ha:aggB P t=some agg) (hs:szT P t=some sz) (m:Sub φ w)
  (p: ∀ i ob,obs i=some ob->live (h i)=true->ObR own φ h w (h i) ob) {ds:List D} (hr:RVL φ h [ρ x] ds) (a:evl P dst (.load agg sz) ds obs K):OpOut P o ρ w (APost φ h w dst K):=by
 match ds,hr,a with
 |[.ptr id off],hr,a =>
  obtain⟨b,hh,hx⟩:=hr.1.ptr_inv;simp only[evl] at a;split at a
  ·rename_i cs y;obtain⟨S,vals,e,B,_,l,z,G,_⟩:=p id _ y (by rw[hh];rfl);rw[hh] at B;cases B;have c: ∀ j,j<cs.length->w.cell? ⟨b,j,none⟩=some (vals.getD j Go.undef):=λj C=>by
    rw[cell_of_row w b j vals e _ l];simp[Array.getD_eq_getD_getElem?,z,C]
   cases agg with
   |true =>
    obtain⟨E,hk⟩:=a;refine OpOut.same m (QS A hx ha hs (λj=>vals.getD (off+j) Go.undef) (λj C=>c _ (by omega))) hk (Z6x (by simp;omega) ?_);intro j d f;rw[List.getElem?_map] at f;cases u:((cs.drop off).take sz)[j]? with
    |none=>rw[u] at f;cases f
    |some T =>
     rw[u] at f;simp at f;subst f;rw[List.getElem?_take] at u;split at u
     ·rw[List.getElem?_drop] at u;exact Z0O p (G _ _ u)
     ·cases u
   |false =>
    simp only[Bool.false_eq_true,if_false] at a;split at a
    ·rename_i d f;have s:=(List.getElem?_eq_some_iff.1 f).1;exact OpOut.same m (Z0N A hx ha (c off s)) a (G _ _ f)
    ·exact a.elim
  ·exact a.elim
 |[.vptr id i j R],hr,a =>
  obtain⟨b,len,cap,M,hh,hx⟩:=hr.1.vptr_inv;simp only[evl] at a;split at a
  ·rename_i k N es y;obtain⟨rfl,E,a⟩:=a;split at a
   ·rename_i cs r;obtain⟨_,F,xs,n,hrep,_⟩:=p id _ y (by rw[hh];rfl);have H:i<es.length:=(List.getElem?_eq_some_iff.1 r).1;have O:cs.length=k:=F _ (List.mem_of_getElem? r);rw[hh] at n;obtain⟨I,n⟩:=n;rcases n with⟨h0,_⟩|⟨g,J,cur,hv,_,l,_,_,L,Q⟩
    ·cases h0
    ·cases hv;have c: ∀ q,q<k->w.cell? ⟨b,i*k+q,none⟩=some (xs.getD (i*k+q) Go.undef):=λq u=>by
      have s:i*k+q<es.length*k:=by
       have:(i+1)*k<=es.length*k:=Nat.mul_le_mul_right _ H;rw[Nat.add_mul,Nat.one_mul] at this;omega
      rw[cell_of_row w b _ cur N _ l];have h1:xs[i*k+q]? = cur[i*k+q]? :=by
       grind
      rw[<- h1];simp[List.getD,I,s]
     cases agg with
     |true =>
      simp only[if_true] at a;refine OpOut.same m (QS A hx ha hs (λq=>xs.getD (i*k+(j+q)) Go.undef) (λq u=>by rw[Nat.add_assoc];exact c _ (by omega))) a (Z6x (by simp;omega) ?_);intro q d f;rw[List.getElem?_take] at f;split at f
      ·rw[List.getElem?_drop] at f;exact .pure (hrep i cs (j+q) d r f)
      ·cases f
     |false =>
      simp only[Bool.false_eq_true,if_false] at a;split at a
      ·rename_i d f;have s:=(List.getElem?_eq_some_iff.1 f).1;exact OpOut.same m (Z0N A hx ha (c j (by omega))) a (.pure (hrep i cs j d r f))
      ·exact a.elim
   ·exact a.elim
  ·exact a.elim
 |[.fptr cs],hr,a =>
  obtain⟨b,off,vals,hx,hm,hrep⟩:=hr.1.fptr_inv;have c: ∀ j,j<cs.length->w.cell? ⟨b,off+j,none⟩=some (vals j):=λj C=>m _ _ _ (hm j _ (List.getElem?_eq_getElem C));simp only[evl] at a;cases agg with
  |true =>
   obtain⟨E,hk⟩:=a;refine OpOut.same m (QS A hx ha hs vals (λj C=>c _ (by omega))) hk (Z6x (by simp;omega) ?_);intro j d f;rw[List.getElem?_take] at f;split at f
   ·exact .pure (hrep _ _ f)
   ·cases f
  |false =>
   simp only[Bool.false_eq_true,if_false] at a;split at a
   ·rename_i d _;exact OpOut.same m (Z0N A hx ha (by simpa using c 0 (by simp))) a (.pure (hrep 0 d rfl))
   ·exact a.elim
end
end Go.Sx
namespace Go.Sx
open Go.RowKit
variable [Globs] [Codes]
def Z0S (P:Program) (s:TypeId) (f:Nat):Option (Nat × Bool × Nat) :=
 match P.underlying s with
 |some (.struct fs)=>match fs[f]? with
  |some b=>match szT P b.type,aggB P b.type with
   |some n,some a=>if n=0 then none else some (b.offset,a,n)
   |_,_=>none
  |none=>none
 |_=>none
section
variable {P:Program} {o:Oper} {ρ:Operand->Value} {w:World} {φ:Mem} {h:Nat->Value} {dst:Nat} {K:D->Option Ob->Prop} {obs:Nat->Option Ob} {own:Nat->Prop}
theorem Z2O {s:TypeId} {x:Operand} {f off n:Nat} {ag:Bool} {b q:Nat} (d:o.op=.fieldAddr s x f) (hf:Z0S P s f=some (off,ag,n)) (hx:ρ x=.pointer (some ⟨b,q,none⟩)) :
  (execOp ρ o).run P w=.ok (.value (.pointer (some ⟨b,q+off,none⟩))) w:=by
 unfold Z0S at hf;split at hf
 ·rename_i fs e;split at hf
  ·rename_i i a;split at hf
   ·rename_i j g hs ha;split at hf
    ·cases hf
    ·rename_i c;cases hf;simp[execOp,d,hx,Instr.fieldAt,run_underlying e,a,Instr.sureAddr,fieldPlace,ZS hs,c,Addr.add_lit]
   ·cases hf
  ·cases hf
 ·cases hf
theorem ZjH {s:TypeId} {x:Operand} {f off n:Nat} {ag:Bool} (d:o.op=.fieldAddr s x f) (hf:Z0S P s f=some (off,ag,n)) (c:Sub φ w) {ds:List D} (hr:RVL φ h [ρ x] ds)
  (a:evl P dst (.faddr off) ds obs K):OpOut P o ρ w (APost φ h w dst K):=by
 match ds,hr,a with
 |[.ptr id q],hr,a =>
  obtain⟨b,hh,hx⟩:=hr.1.ptr_inv;exact OpOut.same c (Z2O d hf hx) a (.ptr id (q+off) b hh)
 |[.fptr cs],hr,a =>
  obtain⟨b,q,vals,hx,hm,hrep⟩:=hr.1.fptr_inv;refine OpOut.same c (Z2O d hf hx) a (.fptr b (q+off) (cs.drop off) (λj=>vals (off+j)) ?_ ?_)
  ·grind
  ·grind
 |[.vptr id i j sz],hr,a =>
  obtain⟨b,len,cap,hsz,hh,hx⟩:=hr.1.vptr_inv;refine OpOut.same c (Z2O d hf hx) a ?_;rw[Nat.add_assoc];exact .vptr id i (j+off) sz b len cap hsz hh
theorem Z4x {s:TypeId} {x:Operand} {f off n:Nat} {vs:Array Value} (b:o.op=.field s x f) (hf:Z0S P s f=some (off,true,n)) (hx:ρ x=.agg vs) :
  (execOp ρ o).run P w=.ok (.value (.agg (vs.extract off (off+n)))) w:=by
 unfold Z0S at hf;split at hf
 ·rename_i fs c;split at hf
  ·rename_i e a;split at hf
   ·rename_i g d hs ha;split at hf
    ·cases hf
    ·cases hf;simp[execOp,b,hx,Instr.field,run_underlying c,a,asAgg,part,Z12 ha,ZS hs]
   ·cases hf
  ·cases hf
 ·cases hf
theorem Z4w {s:TypeId} {x:Operand} {f off n:Nat} {vs:Array Value} {v:Value} (b:o.op=.field s x f) (hf:Z0S P s f=some (off,false,n)) (hx:ρ x=.agg vs) (hv:vs[off]? = some v) :
  (execOp ρ o).run P w=.ok (.value v) w:=by
 unfold Z0S at hf;split at hf
 ·rename_i fs c;split at hf
  ·rename_i e a;split at hf
   ·rename_i g d hs ha;split at hf
    ·cases hf
    ·cases hf;simp[execOp,b,hx,Instr.field,run_underlying c,a,asAgg,part,Z12 ha,hv]
   ·cases hf
  ·cases hf
 ·cases hf
theorem ZjG {s:TypeId} {x:Operand} {f off n:Nat} {agg:Bool} (i:o.op=.field s x f) (hf:Z0S P s f=some (off,agg,n)) (c:Sub φ w) {ds:List D} (hr:RVL φ h [ρ x] ds)
  (a:evl P dst (.field off agg n) ds obs K):OpOut P o ρ w (APost φ h w dst K):=by
 match ds,hr,a with
 |[.agg cs],hr,a =>
  obtain⟨vs,hx,hsz,hc⟩:=hr.1.agg_inv;simp only[evl] at a;cases agg with
  |true =>
   obtain⟨k,hk⟩:=a;refine OpOut.same c (Z4x i hf hx) hk (.agg _ _ (by simp;omega) ?_);intro j d b;rw[List.getElem?_take] at b;split at b
   ·rename_i l;rw[List.getElem?_drop] at b
    have:=hc _ _ b;have e:(vs.extract off (off+n)).getD j Go.undef=vs.getD (off+j) Go.undef:=by
     have h1:=(List.getElem?_eq_some_iff.1 b).1;simp only[Array.getD_eq_getD_getElem?,Array.getElem?_extract];rw[if_pos (by omega)]
    rw[e];exact this
   ·cases b
  |false =>
   simp only[Bool.false_eq_true,if_false] at a;split at a
   ·rename_i d b;have g:off<vs.size:=by rw[hsz];exact (List.getElem?_eq_some_iff.1 b).1
    have hv:vs[off]? = some (vs.getD off Go.undef):=by simp[Array.getD_eq_getD_getElem?,g]
    exact OpOut.same c (Z4w i hf hx hv) a (hc _ _ b)
   ·exact a.elim
theorem Qp {b:Builtin} {args:Array Operand} {ts:Array TypeId} {v:Value} {w':World} (c:o.op=.call {callee:=.builtin b,args,argTypes:=ts})
  (a:(builtin b ts o.type (args.map λ|.const _=>true|_=>false) (args.map ρ)).run P w=.ok (.value v) w'):(execOp ρ o).run P w=.ok (.value v) w':=by
 simp only[execOp,c,resolve,invoke,Sem.run_bind,Sem.run_pure,Result.andThen_ok];exact a
theorem QC {t e:TypeId} {x:Operand} {a:Option Addr} {n c:Nat} (b:o.op=.call {callee:=.builtin .len,args:=#[x],argTypes:=#[t]}) (d:P.underlying t=some (.slice e))
  (hx:ρ x=.slice a n c):(execOp ρ o).run P w=.ok (.value (.int .i64 n)) w:=by
 refine Qp b ?_;simp[builtin,hx,Builtin.len_,run_underlying d,goInt]
theorem Z6X {t:TypeId} {x:Operand} {s:List UInt8} (a:o.op=.call {callee:=.builtin .len,args:=#[x],argTypes:=#[t]}) (b:P.underlying t=some .string)
  (hx:ρ x=.string ⟨s.toArray⟩):(execOp ρ o).run P w=.ok (.value (.int .i64 s.length)) w:=by
 refine Qp a ?_;have hs:(ByteArray.mk s.toArray).size=s.length:=rfl;simp only[builtin,hx,List.map_toArray,List.map_cons,List.map_nil];rw[Sem.run_bind,run_len_string w t o.type _ b,hs];rfl
theorem Z1v {hv:Value} {fz:Bool} {sz:Nat} {e:TypeId} {es:List (List D)} (d:ObR own φ h w hv (.arr fz sz e es)): ∃ a c,hv=.slice a es.length c:=by
 obtain⟨_,_,xs,b,_,_⟩:=d;rcases b.2 with⟨rfl,h0⟩|⟨g,cap,cur,rfl,_⟩
 ·grind
 ·grind
theorem Zp1 {t:TypeId} {x:Operand} {str:Bool} (j:o.op=.call {callee:=.builtin .len,args:=#[x],argTypes:=#[t]})
  (l:if str then P.underlying t=some .string else ∃ e,P.underlying t=some (.slice e)) (f:Sub φ w)
  (k: ∀ i ob,obs i=some ob->live (h i)=true->ObR own φ h w (h i) ob) {ds:List D} (hr:RVL φ h [ρ x] ds) (d:evl P dst (.len str) ds obs K):OpOut P o ρ w (APost φ h w dst K):=by
 match str,ds,hr,d with
 |true,[.str s],hr,d=>exact OpOut.same f (Z6X j l hr.1.str_inv) d (Z04 _ _)
 |false,[.slice es ext],hr,d =>
  obtain⟨e,g⟩:=l;rcases hr.1.slice_inv.slice_inv with⟨⟨a,c,hx,_⟩,rfl,rfl⟩|⟨b,off,cap,sz,vals,hx,_⟩
  ·exact OpOut.same f (QC j g hx) d (Z04 _ _)
  ·exact OpOut.same f (QC j g hx) d (Z04 _ _)
 |false,[.nils],hr,d =>
  obtain⟨e,g⟩:=l;exact OpOut.same f (QC j g hr.1.nils_inv) d (Z04 _ _)
 |false,[.vec id],hr,d =>
  obtain⟨e,g⟩:=l;simp only[evl] at d;split at d
  ·rename_i fz sz n es m;obtain⟨a,c,hv⟩:=Z1v (k id _ m hr.1.vec_live);exact OpOut.same f (QC j g (hr.1.vec_inv.trans hv)) d (Z04 _ _)
  ·exact d.elim
theorem Z4W {t e:TypeId} {x y:Operand} {b off n c sz:Nat} {k:IntKind} {i:Int} (a:o.op=.indexAddr t x y) (d:P.underlying t=some (.slice e)) (hs:szT P e=some sz)
  (hx:ρ x=.slice (some ⟨b,off,none⟩) n c) (f:ρ y=.int k i) (h0:0<=i) (h1:i<n):(execOp ρ o).run P w=.ok (.value (.pointer (some ⟨b,off+i.toNat*sz,none⟩))) w:=by
 simp[execOp,a,hx,f,Instr.indexAt,run_underlying d,asIntOf,h0,h1,ZS hs,Addr.add_lit]
theorem Z2f {t e:TypeId} {x y:Operand} {sz:Nat} {k:IntKind} {i:Int} {es ext:List (List D)} (g:o.op=.indexAddr t x y) (l:P.underlying t=some (.slice e)) (hs:szT P e=some sz)
  (f:Sub φ w) (hr:Rep φ (ρ x) (.slice es ext)) (m:ρ y=.int k i) (h0:0<=i) (h1:i<es.length) (h2:(es.getD i.toNat []).length=sz) (hk:K (.fptr (es.getD i.toNat [])) none) :
  OpOut P o ρ w (APost φ h w dst K):=by
 rcases hr.slice_inv with⟨hx,rfl,rfl⟩|⟨b,off,cap,d,vals,hx,hcap,hsz,hmem,hrep⟩
 ·simp at h1;omega
 ·have hi:i.toNat<es.length:=by omega
  have c:(es++ext)[i.toNat]? = some (es.getD i.toNat []):=by
   grind
  have a:es.getD i.toNat []∈es++ext:=List.mem_of_getElem? c;have:d=sz:=by rw[<- h2];exact (hsz _ a).symm
  subst this;refine OpOut.same f (Z4W g l hs hx m h0 (by omega)) hk (.fptr b (off+i.toNat*d) _ (λj=>vals i.toNat j) ?_ ?_)
  ·grind
  ·grind
theorem ZjF {t e:TypeId} {x y:Operand} {sz:Nat} (l:o.op=.indexAddr t x y) (m:P.underlying t=some (.slice e)) (hs:szT P e=some sz) (d:Sub φ w)
  (b: ∀ i ob,obs i=some ob->live (h i)=true->ObR own φ h w (h i) ob) {ds:List D} (hr:RVL φ h [ρ x,ρ y] ds) (a:evl P dst (.iaddr sz) ds obs K):OpOut P o ρ w (APost φ h w dst K):=by
 match ds,hr,a with
 |[.slice es ext,.int k i],hr,a=>exact Z2f l m hs d hr.1.slice_inv hr.2.1.int_inv a.1 a.2.1 a.2.2.1 a.2.2.2
 |[.vec id,.int k i],hr,a =>
  simp only[evl] at a;split at a
  ·rename_i j n es c;have hx:=hr.1.vec_inv;exact Z2f l m hs d (by rw[hx];exact Z9o (b id _ c hr.1.vec_live)) hr.2.1.int_inv a.1 a.2.1 a.2.2.1 a.2.2.2
  ·rename_i j n es c;obtain⟨rfl,h0,h1,hk⟩:=a;obtain⟨hsz,_,xs,f,_,_⟩:=b id _ c hr.1.vec_live;have hx:=hr.1.vec_inv;rcases f.2 with⟨hv,p⟩|⟨g,cap,cur,hv,_⟩
   ·omega
   ·refine OpOut.same d (Z4W l m hs (hx.trans hv) hr.2.1.int_inv h0 h1) hk ?_
    have:=RV.vptr (φ:=φ) (h:=h) id i.toNat 0 j g es.length cap (by omega) hv;simpa using this
  ·exact a.elim
theorem ZjE {t:TypeId} {x y:Operand} (d:o.op=.index t x y) (e:P.underlying t=some .string) (b:Sub φ w) {ds:List D} (hr:RVL φ h [ρ x,ρ y] ds)
  (a:evl P dst .index ds obs K):OpOut P o ρ w (APost φ h w dst K):=by
 match ds,hr,a with
 |[.str s,.int k i],hr,a =>
  obtain⟨h0,h1,hk⟩:=a;have h2:0<=i/\i<((ByteArray.mk s.toArray).size:Int):=⟨h0,by simpa [ByteArray.size] using h1⟩;refine OpOut.same b (v:=.int .u8 (s.getD i.toNat 0).toNat) ?_ hk (Z04 _ _);have c:i.toNat<s.length:=by omega
  simp only[execOp,d,hr.1.str_inv,hr.2.1.int_inv,Sem.run_bind,run_index_string _ t _ k i e,h2];simp[List.getD,c,ByteArray.getElem_eq_getElem_data]
theorem Zc8 {x:Operand} {i:Nat} (f:o.op=.extract x i) (c:Sub φ w) {ds:List D} (hr:RVL φ h [ρ x] ds) (a:evl P dst (.extract i) ds obs K):OpOut P o ρ w (APost φ h w dst K):=by
 match ds,hr,a with
 |[.tuple cs],hr,a =>
  obtain⟨vs,hx,hsz,hc⟩:=hr.1.tuple_inv;simp only[evl] at a;split at a
  ·rename_i d e;have b:i<vs.size:=by rw[hsz];exact (List.getElem?_eq_some_iff.1 e).1
   have hv:vs[i]? = some (vs.getD i Go.undef):=by simp[Array.getD_eq_getD_getElem?,b]
   exact OpOut.same c (v:=vs.getD i Go.undef) (by simp only[execOp,f,hx,Instr.extract,hv];rfl) a (hc _ _ e)
  ·exact a.elim
end
end Go.Sx
namespace Go.Sx
open Go.RowKit
variable [Globs] [Codes]
theorem Qo: ∀ (ds:List D) (off:Nat) (cs:List D),(setAt cs off ds).length=cs.length:=by intro ds;induction ds<;>grind [setAt]
section
variable {P:Program} {o:Oper} {ρ:Operand->Value} {w:World} {φ:Mem} {h:Nat->Value} {dst:Nat} {K:D->Option Ob->Prop} {obs:Nat->Option Ob} {own:Nat->Prop}
theorem Z1B (hh:HOne h) (e: ∀ i ob,obs i=some ob->live (h i)=true->ObR own φ h w (h i) ob) (place:Nat->Option (Nat × Nat)) :
  ∀ (is:List Nat) (vs:List Value) (ds:List D) (ps:List (Nat × Nat)) (cells:Array Value) (cs out:List D),is.mapM place=some ps->RVL φ h vs ds->is.length=vs.length->CR φ h cells cs →
   QO obs cs ps ds=some out-> ∃ a,Instr.fill place cells (is.zip vs)=some a/\CR φ h a out
 |[],[],[],ps,cells,cs,out,hp,_,_,hc,f=>by
  simp at hp;subst hp;simp[QO] at f;subst f;exact⟨cells,rfl,hc⟩
 |i::is,v::vs,d::ds,ps,cells,cs,out,hp,hr,hl,hc,f=>by
  simp only[List.mapM_cons,Option.bind_eq_bind,Option.bind_eq_some_iff,Option.pure_def,Option.some.injEq] at hp;obtain⟨⟨off,sz⟩,h1,p,h2,rfl⟩:=hp;simp only[QO] at f;split at f
  ·rename_i g;obtain⟨m,c,t⟩:=g;have n:=Z0O e hr.1;have b:=n.cells hh m;have k:=CR.foldl off v.cells.toList 0 (dv obs d).cells cells cs hc (ZG _ _ (by simpa using b.1) (λj r s=>by
    have:=b.2 j r s;simpa [Array.getD_eq_getD_getElem?,List.getD] using this))
   obtain⟨a,hf,l⟩:=Z1B hh e place is vs ds p _ _ out h2 hr.2 (by simpa using hl) k (by simpa using f);refine⟨a,?_,l⟩;have hsz:v.cells.size=sz:=by rw[b.1,c]
   have q: ¬ (off+v.cells.size > cells.size):=by rw[b.1,hc.1,c];omega
   simp only[List.zip_cons_cons,Instr.fill,h1];rw[if_neg (by simp[hsz];rw[hc.1];omega)];rw[<- Array.foldl_toList,Array.toList_zipIdx];simpa using hf
  ·cases f
 |[],_::_,_,_,_,_,_,_,_,hl,_,_=>by simp at hl
 |_::_,[],_,_,_,_,_,_,_,hl,_,_=>by simp at hl
 |[],[],_::_,_,_,_,_,_,hr,_,_,_=>hr.elim
 |_::_,_::_,[],_,_,_,_,_,hr,_,_,_=>hr.elim
def unnil:D->D
 |.nils=>.slice [] []
 |d=>d
theorem CR.unnil {cells:Array Value} {ds:List D} (hc:CR φ h cells ds):CR φ h cells (ds.map unnil):=by
 refine⟨by simp[hc.1],λj d a=>?_⟩;rw[List.getElem?_map] at a;cases b:ds[j]? with
 |none=>rw[b] at a;cases a
 |some c =>
  rw[b] at a;simp at a;subst a
  have:=hc.2 j c b;cases c<;>first|exact this|(rw[this.nils_inv];exact .pure .nil)
def zB (fz:Bool) (z:List D):List D:=if fz=true then z.map unnil else z
theorem CR.zB {fz:Bool} {cells:Array Value} {ds:List D} (hc:CR φ h cells ds):CR φ h cells (zB fz ds):=by
 unfold Sx.zB;split
 ·exact hc.unnil
 ·exact hc
def Z5s (P:Program) (t:TypeId) (is:List Nat):Option (List (Nat × Nat)) :=
 match P.underlying t with
 |some (.struct fs)=>match fs.toList.mapM (λf=>(P.info? f.type).map λi=>(f.offset,i.size)) with
  |some a=>is.mapM (a.toArray[·]?)
  |none=>none
 |some (.array _ e)=>match P.info? e with
  |some b=>is.mapM (λi=>some (i*b.size,b.size))
  |none=>none
 |_=>none
theorem ZjI {fz:Bool} {t:TypeId} {parts:Array (Nat × Operand)} {z:List D} {ps:List (Nat × Nat)} (u:o.op=.build t parts) (y:Z0r P t=some z) (hp:Z5s P t (parts.toList.map (·.1))=some ps)
  (hh:HOne h) (r:Sub φ w) (d: ∀ i ob,obs i=some ob->live (h i)=true->ObR own φ h w (h i) ob) {ds:List D} (hr:RVL φ h (parts.toList.map λx=>ρ x.2) ds)
  (b:evl P dst (.build (zB fz z) ps) ds obs K):OpOut P o ρ w (APost φ h w dst K):=by
 simp only[evl] at b;split at b
 ·rename_i cs s;obtain⟨i,k,hi,g,hs,rfl⟩:=Qw y;have hc:CR φ h k.cells (Sx.zB fz (k.cells.toList.map Qd)):=(CR.const _).zB;have c:(parts.toList.map (·.1)).length=(parts.toList.map λx=>ρ x.2).length:=by simp
  have f:(parts.toList.map (·.1)).zip (parts.toList.map λx=>ρ x.2)=parts.toList.map λx=>(x.1,ρ x.2):=by
   rw[List.zip_map']
  have key: ∃ cells,P.built t (parts.map λ(i,x)=>(i,ρ x)).toList=some cells/\CR φ h cells cs:=by
   have e:(parts.map λ(i,x)=>(i,ρ x)).toList=parts.toList.map λx=>(x.1,ρ x.2):=by simp
   unfold Z5s at hp;unfold Program.built;rw[e,<- f];split at hp
   ·rename_i fs q;split at hp
    ·rename_i j p;obtain⟨cells,hf,a⟩:=Z1B hh d _ _ _ _ ps k.cells _ cs hp hr c hc s;exact⟨cells,by simp only[hi,q,g,p];exact hf,a⟩
    ·cases hp
   ·rename_i n A q;split at hp
    ·rename_i B m;obtain⟨cells,hf,a⟩:=Z1B hh d _ _ _ _ ps k.cells _ cs hp hr c hc s;exact⟨cells,by simp only[hi,q,g,m];exact hf,a⟩
    ·cases hp
   ·cases hp
  obtain⟨cells,l,a⟩:=key;refine OpOut.same r (v:=.agg cells) ?_ b (.agg _ _ a.1 a.2);simp[execOp,u,run_build w t _ cells l]
 ·exact b.elim
def Z13 (φ:Mem) (g:Nat) (xs:List Value):Mem:=λb o=>if b=g then xs[o]? else φ b o
theorem AStep.arr (m:Sub φ w) {w':World} (t:Below w.heap.size w w') {fz:Bool} {sz:Nat} {e:TypeId} {es:List (List D)} {g cap:Nat} {xs:List Value} (A:w.heap.size<=g) (hsz:0<sz)
  (n: ∀ x∈es,x.length=sz) (k:w'.ownsRow 0 e sz (.slice (some ⟨g,0,none⟩) es.length cap) es.length xs)
  (hrep: ∀ i x j d,es[i]? = some x->x[j]? = some d->Rep φ (xs.getD (i*sz+j) Go.undef) d) :
  AStep φ h w dst (.vec dst) (some (.arr fz sz e es)) (.slice (some ⟨g,0,none⟩) es.length cap) (if fz then Z13 φ g xs else φ) (.slice (some ⟨g,0,none⟩) es.length cap) w':=by
 have f: ∀ off,φ g off=none:=λoff=>by
  cases E:φ g off with
  |none=>rfl
  |some v=>exact absurd (m.lt E) (by omega)
 have q:Sub φ w':=λb off v hv=>by rw[t.cell (p:=⟨b,off,none⟩) (m.lt hv)];exact m b off v hv
 have c: ∀ b off u,φ b off=some u->(if fz then Z13 φ g xs else φ) b off=some u:=λb off u a=>by
  cases fz
  ·exact a
  ·have:b≠g:=λe=>by rw[e,f] at a;cases a
   simp[Z13,this,a]
 refine⟨t,c,?_,?_,?_,?_⟩
 ·intro b off u a;cases fz
  ·grind
  ·by_cases l:b=g
   ·subst l;simp only[if_true,Z13] at a
    have:=k.cells (g:=b) rfl off u a;rwa [Addr.add_lit,Nat.zero_add] at this
   ·simp only[if_true,Z13,if_neg l] at a;exact q b off u a
 ·intro b off u a y;cases fz
  ·grind
  ·by_cases l:b=g
   ·omega
   ·simp only[if_true,Z13,if_neg l] at a;rw[a] at y;cases y
 ·have:updH h dst (.slice (some ⟨g,0,none⟩) es.length cap) dst=.slice (some ⟨g,0,none⟩) es.length cap:=Zr _ _ _;have r:=RV.vec (φ:=if fz then Z13 φ g xs else φ) (h:=updH h dst (.slice (some ⟨g,0,none⟩) es.length cap)) dst (by rw[this];rfl);rw[this] at r;exact r
 ·intro ob z;cases z;refine⟨hsz,n,xs,k,λi x j d hi B=>(hrep i x j d hi B).mono c,λb s=>?_⟩;cases s;refine⟨A,λoff=>?_⟩;cases fz
  ·simp[f]
  ·simp only[if_true,Z13,true_and];split
   ·rfl
   ·rename_i C;exact List.getElem?_eq_none (by rw[k.1];omega)
theorem Z1d (sz:Nat): ∀ (n:Nat) (cs:List D),(Z4y sz n cs).length=n:=by intro n;induction n<;>grind [Z4y]
theorem Z4g (sz:Nat): ∀ (n:Nat) (cs:List D) (i:Nat) (x:List D),(Z4y sz n cs)[i]? = some x->x=(cs.drop (i*sz)).take sz
 |0,_,i,x,hx=>by simp[Z4y] at hx
 |n+1,cs,0,x,hx=>by simp[Z4y] at hx;simp[hx]
 |n+1,cs,i+1,x,hx=>by
  have:=Z4g sz n (cs.drop sz) i x (by simpa [Z4y] using hx);rw[this,List.drop_drop,Nat.add_mul,Nat.one_mul,Nat.add_comm]
theorem Z2u: ∀ (ps:List (Nat × Nat)) (ds cs out:List D),QO obs cs ps ds=some out->out.length=cs.length
 |[],[],cs,out,a=>by simp[QO] at a;rw[a]
 |(off,sz)::ps,d::ds,cs,out,a=>by
  simp only[QO] at a;split at a
  ·rw[Z2u ps ds _ _ a,Qo]
  ·cases a
 |[],_::_,_,_,a=>by simp[QO] at a
 |_::_,[],_,_,a=>by simp[QO] at a
theorem ZfK {t e:TypeId} {n sz:Nat} {fz:Bool} {parts:Array (Nat × Operand)} {z:List D} (W:o.op=.buildSlice t n parts) (X:P.underlying t=some (.slice e)) (Y:Z0r P e=some z) (hs:szT P e=some sz)
  (hsz:0<sz) (hn:n*sz<=16777216) (hh:HOne h) (O:Sub φ w) (A: ∀ i ob,obs i=some ob->live (h i)=true->ObR own φ h w (h i) ob) {ds:List D} (hr:RVL φ h (parts.toList.map λx=>ρ x.2) ds)
  (f:evl P dst (.bslice fz sz n e ((List.replicate n (z.map unnil)).flatten) (parts.toList.map λx=>(x.1*sz,sz))) ds obs K):OpOut P o ρ w (APost φ h w dst K):=by
 simp only[evl] at f;split at f
 ·rename_i cs R;obtain⟨B,hk⟩:=f;obtain⟨i,c,hi,N,M,rfl⟩:=Qw Y;have H:i.size=sz:=by simpa [szT,hi] using hs
  have E:c.cells.size=sz:=by rw[M,H]
  have r:CR φ h ((Array.range (n*sz)).map λq=>c.cells[q % c.cells.size]!) (List.replicate n ((c.cells.toList.map Qd).map Sx.unnil)).flatten:=by
   have hc:CR φ h c.cells ((c.cells.toList.map Qd).map Sx.unnil):=(CR.const _).unnil;generalize (c.cells.toList.map Qd).map Sx.unnil=zs at hc;have hl:zs.length=sz:=by rw[<- hc.1,E]
   refine⟨by simp[hl],λj d u=>?_⟩;have a:j<n*sz:=by
    have:=(List.getElem?_eq_some_iff.1 u).1;simpa [hl] using this
   have y: ∀ (n j:Nat),j<n*sz->(List.replicate n zs).flatten[j]? = zs[j % sz]? :=by
    intro n;induction n with
    |zero=>intro j a;simp at a
    |succ n Q =>
     intro j a;rw[List.replicate_succ,List.flatten_cons];by_cases k:j<sz
     ·rw[List.getElem?_append_left (by omega),Nat.mod_eq_of_lt k]
     ·rw[List.getElem?_append_right (by omega),hl,Q (j-sz) (by have:(n+1)*sz=n*sz+sz:=Nat.succ_mul n sz;omega)];congr 1;exact (Nat.mod_eq_sub_mod (by omega)).symm
   rw[y n j a] at u;have hm:j % sz<c.cells.size:=by rw[E];exact Nat.mod_lt _ hsz
   have S:((Array.range (n*sz)).map λq=>c.cells[q % c.cells.size]!).getD j Go.undef=c.cells.getD (j % sz) Go.undef:=by
    simp_all
   rw[S];exact hc.2 _ d u
  have l:(parts.toList.map (·.1)).mapM (λq=>some (q*sz,sz))=some (parts.toList.map λx=>(x.1*sz,sz)):=by
   induction parts.toList with
   |nil=>rfl
   |cons p ps Q=>simp[List.mapM_cons,Q]
  obtain⟨cells,hf,m⟩:=Z1B hh A (λq=>some (q*sz,sz)) _ _ _ _ _ _ cs l hr (by simp) r R;have C:(parts.toList.map (·.1)).zip (parts.toList.map λx=>ρ x.2)=parts.toList.map λx=>(x.1,ρ x.2):=by rw[List.zip_map']
  rw[C] at hf;have b:cells.size=n*sz:=by
   rw[m.1,Z2u _ _ _ _ R,<- r.1];simp
  have V:n<=n*sz:=Nat.le_mul_of_pos_right _ hsz;refine .inl ⟨.slice (some ⟨w.heap.size,0,none⟩) n n,w.alloc (.cells cells e (0,0)),?_,_,_,if fz then Z13 φ w.heap.size cells.toList else φ,.slice (some ⟨w.heap.size,0,none⟩) n n,hk,?_⟩
  ·have T:(parts.map λ(i,x)=>(i,ρ x)).toList=parts.toList.map λx=>(x.1,ρ x.2):=by simp
   have G: ¬ (n*sz > 2 ^ 24):=by omega
   simp only[execOp,W,Instr.buildSlice,Sem.run_bind,run_underlying X,Result.andThen_ok,ZS hs,Sem.run_ite,G,if_false,Sem.run_pure,T];by_cases h0:n*sz=0
   ·have:sz=0\/n=0:=by rcases Nat.mul_eq_zero.1 h0 with h|h<;>simp[h]
    have I:n=0:=by omega
    subst I;have s:cells=#[]:=Array.eq_empty_of_size_eq_zero (by simpa using b);have J:Array.range (0*sz)=#[]:=by rw[Nat.zero_mul];rfl
    rw[J,s] at hf;simp only[List.map_toArray,List.map_nil] at hf;have L: ∀ g:Nat->Value,Array.map g (Array.range 0)=#[]:=λg=>by rw[show Array.range 0=#[] from rfl];simp
    simp[Nat.zero_mul,L,hf,s,newRow]
   ·simp[h0,zeroValue,typeInfo,hi,N,hf,newRow]
  ·have:=AStep.arr (h:=h) (dst:=dst) O (w':=w.alloc (.cells cells e (0,0))) ((Below.refl _ w).alloc (Nat.le_refl _) _) (fz:=fz) (sz:=sz) (e:=e) (es:=Z4y sz n cs) (g:=w.heap.size) (cap:=n) (xs:=cells.toList)
    (Nat.le_refl _) hsz ?_ ?_ ?_
   ·rw[Z1d] at this;exact this
   ·intro x hx;obtain⟨q,F⟩:=List.mem_iff_getElem?.1 hx;have k:=(List.getElem?_eq_some_iff.1 F).1;rw[Z1d] at k;rw[Z4g sz n cs q x F,List.length_take,List.length_drop,<- m.1,b];have:(q+1)*sz<=n*sz:=Nat.mul_le_mul_right _ k;rw[Nat.add_mul] at this;omega
   ·rw[Z1d];refine⟨by simp[b],.inr ⟨w.heap.size,n,cells,rfl,Nat.zero_le _,heap_alloc_new w _,Nat.le_refl _,by unfold maxLen;omega,b,?_⟩⟩;rw[List.take_of_length_le (by simp[b])]
   ·intro q x j d F a;rw[Z4g sz n cs q x F] at a;rw[List.getElem?_take] at a;split at a
    ·rw[List.getElem?_drop] at a;have u:D.pur d=true:=List.all_eq_true.1 B d (List.mem_of_getElem? a)
     have:=m.2 _ _ a;have U:cells.toList.getD (q*sz+j) Go.undef=cells.getD (q*sz+j) Go.undef:=by simp[List.getD,Array.getD_eq_getD_getElem?]
     rw[U];exact this.pur_rep u
    ·cases a
 ·exact f.elim
end
end Go.Sx
namespace Go.Sx
open Go.RowKit
variable [Globs] [Codes]
section
variable {P:Program} {o:Oper} {ρ:Operand->Value} {w:World} {φ:Mem} {h:Nat->Value} {dst:Nat} {K:D->Option Ob->Prop} {obs:Nat->Option Ob} {own:Nat->Prop}
theorem Z1o {isS:Bool} {len cap:Nat} {lo hi:Option Operand} {bs:List D} {a b:Int} (hr:RVL φ h ((lo.toList++hi.toList).map ρ) bs) (c:Z0i lo.isSome hi.isSome len bs=some (a,b))
  (h0:0<=a) (h1:a<=b) (h2:b<=cap):(Instr.sliceBounds isS len cap (lo.map ρ) (hi.map ρ) none).run P w=.ok (a.toNat,b.toNat,cap) w:=by
 cases lo with
 |none =>
  cases hi with
  |none =>
   match bs,hr,c with
   |[],_,c =>
    simp[Z0i] at c;obtain⟨rfl,rfl⟩:=c;simp[Instr.sliceBounds]
  |some y =>
   match bs,hr,c with
   |[.int k n],hr,c =>
    simp[Z0i] at c;obtain⟨rfl,rfl⟩:=c;have e:ρ y=.int k n:=hr.1.int_inv;simp[Instr.sliceBounds,e,run_sliceBound _ k n cap _ (by omega) h2]
 |some x =>
  cases hi with
  |none =>
   match bs,hr,c with
   |[.int k n],hr,c =>
    simp[Z0i] at c;obtain⟨rfl,rfl⟩:=c;have hx:ρ x=.int k n:=hr.1.int_inv;simp[Instr.sliceBounds,hx,run_sliceBound _ k n len _ h0 h1]
  |some y =>
   match bs,hr,c with
   |[.int k n,.int f d],hr,c =>
    simp[Z0i] at c;obtain⟨rfl,rfl⟩:=c;have hx:ρ x=.int k n:=hr.1.int_inv;have e:ρ y=.int f d:=hr.2.1.int_inv;have g:n<=(d.toNat:Int):=by omega
    simp[Instr.sliceBounds,hx,e,run_sliceBound _ f d cap _ (by omega) h2,run_sliceBound _ k n d.toNat _ h0 g]
theorem Z7F {t:TypeId} {x:Operand} {lo hi:Option Operand} (j:o.op=.slice t x lo hi none) (f:P.underlying t=some .string) (e:Sub φ w) {ds:List D}
  (hr:RVL φ h (([x]++lo.toList++hi.toList).map ρ) ds) (c:evl P dst (.sliceS lo.isSome hi.isSome) ds obs K):OpOut P o ρ w (APost φ h w dst K):=by
 match ds,hr,c with
 |.str s::bs,hr,c =>
  simp only[evl] at c;split at c
  ·rename_i a b g;obtain⟨h0,h1,h2,hk⟩:=c;have hx:ρ x=.string ⟨s.toArray⟩:=hr.1.str_inv;have hsz:(ByteArray.mk s.toArray).size=s.length:=rfl;have d:=Z1o (P:=P) (w:=w) (isS:=false) (len:=s.length) (cap:=s.length) hr.2 g h0 h1 h2;refine OpOut.same e (v:=.string ⟨((s.take b.toNat).drop a.toNat).toArray⟩) ?_ hk (Z6w _);have i:(ByteArray.mk s.toArray).extract a.toNat b.toNat=⟨((s.take b.toNat).drop a.toNat).toArray⟩:=by
    apply ByteArray.ext;rw[ByteArray.data_extract];apply Array.ext';rw[Array.toList_extract];simp[List.extract_eq_take_drop,List.drop_take]
   simp only[execOp,j,hx,Instr.sliceAt,Sem.run_bind,run_underlying f,Result.andThen_ok];simp only[Instr.slice,Sem.run_bind,run_underlying f,Result.andThen_ok,hsz,Option.map_none,Option.isSome_none,Bool.false_eq_true,if_false,d,i];rfl
  ·exact c.elim
theorem ZaL {t e:TypeId} {x:Operand} {lo hi:Option Operand} {sz:Nat} {es ext:List (List D)} {bs:List D} {a b:Int} (E:o.op=.slice t x lo hi none) (n:P.underlying t=some (.slice e))
  (hs:szT P e=some sz) (m:Sub φ w) (hx:Rep φ (ρ x) (.slice es ext)) (hr:RVL φ h ((lo.toList++hi.toList).map ρ) bs) (G:Z0i lo.isSome hi.isSome es.length bs=some (a,b))
  (hsz: ∀ q∈es++ext,q.length=sz)
  (h0:0<=a) (h1:a<=b) (h2:b<=(es++ext).length) (hk:K (.slice (((es++ext).take b.toNat).drop a.toNat) ((es++ext).drop b.toNat)) none):OpOut P o ρ w (APost φ h w dst K):=by
 have k:(((es++ext).take b.toNat).drop a.toNat).length=b.toNat-a.toNat:=by
  grind
 rcases hx.slice_inv with⟨⟨A,c0,hv,B⟩,rfl,rfl⟩|⟨g,off,cap,F,vals,hv,hcap,z,hmem,hrep⟩
 ·simp only[List.append_nil,List.length_nil] at h2;have ha:a=0:=by omega
  have C:b=0:=by omega
  subst ha;subst C;have c:=Z1o (P:=P) (w:=w) (isS:=true) (len:=0) (cap:=c0) hr G (by omega) (by omega) (by simp);cases A with
  |none =>
   obtain rfl:=B rfl;refine OpOut.same m (v:=.slice none 0 0) ?_ hk (.pure .nil);simp only[execOp,E,hv,Instr.sliceAt,Sem.run_bind,run_underlying n,Result.andThen_ok];simp only[Instr.slice,Sem.run_bind,run_underlying n,Result.andThen_ok,Option.map_none,c,ZS hs];rfl
  |some A =>
   have l:(execOp ρ o).run P w=.ok (.value (.slice (some (if c0=0 then A else A.add 0)) 0 c0)) w:=by
    simp only[execOp,E,hv,Instr.sliceAt,Sem.run_bind,run_underlying n,Result.andThen_ok];simp only[Instr.slice,Sem.run_bind,run_underlying n,Result.andThen_ok,Option.map_none,c,ZS hs,Option.map_some];simp;split<;>rfl
   exact OpOut.same m l hk (.pure (.nilA _ _))
 ·have c:=Z1o (P:=P) (w:=w) (isS:=true) (len:=es.length) (cap:=cap) hr G h0 h1 (by rw[List.length_append] at h2;omega);have l:(execOp ρ o).run P w=.ok (.value (.slice (if cap=a.toNat then some ⟨g,off,none⟩ else some ⟨g,off+a.toNat*sz,none⟩) (b.toNat-a.toNat) (cap-a.toNat))) w:=by
   simp only[execOp,E,hv,Instr.sliceAt,Sem.run_bind,run_underlying n,Result.andThen_ok];simp only[Instr.slice,Sem.run_bind,run_underlying n,Result.andThen_ok,Option.map_none,c,ZS hs,Option.map_some,Addr.add_lit];rfl
  refine OpOut.same m l hk (.pure ?_);have f: ∀ q∈((es++ext).take b.toNat).drop a.toNat++(es++ext).drop b.toNat,q.length=sz:=by
   grind
  have r: ∀ (i:Nat) (q:List D),(((es++ext).take b.toNat).drop a.toNat++(es++ext).drop b.toNat)[i]? = some q->(es++ext)[a.toNat+i]? = some q:=by
   grind
  have s:(((es++ext).take b.toNat).drop a.toNat).length+((es++ext).drop b.toNat).length<=cap-a.toNat:=by
   grind
  by_cases p:cap=a.toNat
  ·rw[if_pos p,<- k];refine .slice g off _ sz _ _ (λi j=>vals (a.toNat+i) j) s f ?_ ?_
   ·grind
   ·grind
  ·rw[if_neg p,<- k];refine .slice g (off+a.toNat*sz) _ sz _ _ (λi j=>vals (a.toNat+i) j) s f ?_ ?_
   ·intro i q j d J I;have y:=r i q J;have u:=List.mem_of_getElem? y;have H:F=sz:=by rw[<- z q u,hsz q u]
    subst H
    have:=hmem _ _ _ _ y I;rwa [Nat.add_mul,<- Nat.add_assoc] at this
   ·grind
theorem ZjB {t e:TypeId} {x:Operand} {lo hi:Option Operand} {sz:Nat} (F:o.op=.slice t x lo hi none) (C:P.underlying t=some (.slice e)) (hs:szT P e=some sz) (r:Sub φ w)
  (j: ∀ i ob,obs i=some ob->live (h i)=true->ObR own φ h w (h i) ob) {ds:List D}
  (hr:RVL φ h (([x]++lo.toList++hi.toList).map ρ) ds) (c:evl P dst (.slice sz lo.isSome hi.isSome) ds obs K):OpOut P o ρ w (APost φ h w dst K):=by
 match ds,hr,c with
 |d::bs,hr,c =>
  simp only[evl] at c;split at c
  ·rename_i es ext f;split at c
   ·rename_i a b s;have hx:Rep φ (ρ x) (.slice es ext):=by
     cases d<;>simp only[Z03] at f<;>try (cases f;done)
     case slice=>cases f;exact hr.1.slice_inv
     case vec id =>
      split at f
      ·rename_i m H I l;cases f;have hv:=hr.1.vec_inv;rw[hv];exact Z9o (j id _ l hr.1.vec_live)
      ·cases f
     case nils=>cases f;rw[hr.1.nils_inv];exact .nil
    exact ZaL F C hs r hx hr.2 s c.1 c.2.1 c.2.2.1 c.2.2.2.1 c.2.2.2.2
   ·exact c.elim
  ·split at c
   ·rename_i id k n G;split at c
    ·rename_i z y;split at c
     ·rename_i m H es l;obtain⟨rfl,N,h0,h1,hk⟩:=c;have hv:=hr.1.vec_inv;have A:=j id _ l hr.1.vec_live;obtain⟨O,_,xs,⟨_,p⟩,_,_⟩:=A;rcases p with⟨_,h2⟩|⟨g,cap,cur,q,L,R,S,hcap,J,Q⟩
      ·grind
      rw[q] at hv;have B:RVL φ h ((lo.toList++hi.toList).map ρ) [.int k n]:=hr.2;have s:Z0i lo.isSome hi.isSome es.length [.int k n]=some (n,(es.length:Int)):=by
       rw[z,y];rfl
      have u:=Z1o (P:=P) (w:=w) (isS:=true) (len:=es.length) (cap:=cap) B s h0 h1 (by omega);have E:(execOp ρ o).run P w=.ok (.value (.slice (if cap=n.toNat then some ⟨g,0,none⟩ else some ⟨g,0+n.toNat*m,none⟩) ((es.length:Int).toNat-n.toNat) (cap-n.toNat))) w:=by
       simp only[execOp,F,hv,Instr.sliceAt,Sem.run_bind,run_underlying C,Result.andThen_ok];simp only[Instr.slice,Sem.run_bind,run_underlying C,Result.andThen_ok,Option.map_none,u,ZS hs,Option.map_some,Addr.add_lit];rfl
      refine OpOut.same r E hk ?_;rw[Int.toNat_natCast];refine .vwin id n.toNat m g es.length cap _ _ (by omega) q (by omega) λM=>?_;rw[if_neg (by omega),Nat.zero_add]
     ·exact c.elim
    ·exact c.elim
   ·exact c.elim
theorem Zp4 {f:FuncId} {args:Array Operand} {ts:Array TypeId} {fn:Func} (s:o.op=.call {callee:=.value (.func f),args,argTypes:=ts}) (hf:P.funcs[f]? = some fn) (G:fn.body.isNone=false)
  (A : (fn.name == "runtime.NumGoroutine") = false) (C : ρ (.func f) = .func (.func f) #[] #[]) (hh : HOne h) (y : GlobC φ w (λ_ =>False)) (E : Sub φ w) (q : ∀ i ob,obs i = some ob -> live (h i) = true -> ObR own φ h w (h i) ob) {ds : List D}
  (hr:RVL φ h (args.toList.map ρ) ds) (u:evl P dst (.call f) ds obs K):OpOut P o ρ w (APost φ h w dst K):=by
 obtain⟨r,x,hk⟩:=u;have p:=hr.length;refine .inr ⟨f,args.map ρ,?_,(x φ h w (args.map ρ) hh y E (by simpa using p) ?_).mono ?_⟩
 ·simp only[execOp,s,resolve,C,Deferred.ofValue,invoke,Sem.run_bind,Sem.run_pure,Result.andThen_ok,callFunc,run_program,hf,A,G,Bool.false_eq_true,if_false];simp
 ·intro j d n;rw[List.getElem?_map] at n;cases B:ds[j]? with
  |none=>rw[B] at n;cases n
  |some F =>
   rw[B] at n;simp at n;subst n
   have:=Z0O q (hr.get j F B);have e:(args.map ρ).getD j Go.undef=(args.toList.map ρ).getD j Go.undef:=by simp[Array.getD_eq_getD_getElem?,List.getD]
   rw[e];exact this
 ·rintro e w' ⟨v,φ',rfl,k,b,g,hmem,l⟩;refine⟨v,rfl,?_⟩;by_cases s: ∃ sz e es,r=.own sz e es
  ·obtain⟨sz,e,es,rfl⟩:=s;refine⟨.vec dst,some (.arr true sz e es),φ',v,hk,b,g,hmem,l,?_,λob t=>by cases t;exact k⟩;have r:=RV.vec (φ:=φ') (h:=updH h dst v) dst (by rw[Zr];obtain⟨a,c,hv⟩:=Z1v (φ:=φ') (h:=noH) (w:=w') (own:=(w.heap.size<= ·)) k;rw[hv];rfl);rw[Zr] at r;exact r
  ·have z:K r none:=by
    grind
   have m: ∀ h,RV φ' h v r:=by
    cases r<;>first|exact k|exact absurd ⟨_,_,_,rfl⟩ s
   exact⟨r,none,φ',Go.undef,z,b,g,hmem,l,m h,λ_ t=>by cases t⟩
end
end Go.Sx
