/- A scope in which the run jumps back to one label, inside a fence. No program. -/
import Derived.WalkKit
import Derived.WalkSpells
import Derived.WalkLawsBesides
import Derived.Lib.Hide
import Derived.Laws.BytesArg
import Derived.Lib.Strings
import Derived.Maps.AppendAt
import Derived.Lib.AppendStr
import Derived.OneCell
import Derived.Laws.CopyOwn
import Derived.RangeFuncFrom
import Derived.ScopeJumps
import Derived.CallsIn
set_option maxRecDepth 100000
open Go.Lib(hid)
namespace Go.Proofs.YthjjgcfdhkhelaaGreatDoor
section
open Go.RowKit
theorem aa {k:IntKind}{a b:Int}(h:a=b):Ending.returned (.int k a) = .returned (.int k b):=by rw[h]
theorem ab {n:Nat}(a:BitVec n):BitVec.ofInt n (a.toNat:Int)=a:=by
 rw[BitVec.ofInt_natCast];simp
theorem ac (a b:BitVec 32):bits .and .u32 (a.toNat:Int) (b.toNat:Int)=((a &&& b).toNat:Int):=by
 show IntKind.u32.wrap ((BitVec.ofInt 32 (a.toNat:Int) &&& BitVec.ofInt 32 (b.toNat:Int)).toNat:Int)=_;rw[ab,ab,IntKind.wrap_u32];have:=(a &&& b).isLt;omega
theorem ad (a b:BitVec 32):bits .or .u32 (a.toNat:Int) (b.toNat:Int)=((a ||| b).toNat:Int):=by
 show IntKind.u32.wrap ((BitVec.ofInt 32 (a.toNat:Int) ||| BitVec.ofInt 32 (b.toNat:Int)).toNat:Int)=_;rw[ab,ab,IntKind.wrap_u32];have:=(a ||| b).isLt;omega
theorem ae (a b:BitVec 32):bits .xor .u32 (a.toNat:Int) (b.toNat:Int)=((a ^^^ b).toNat:Int):=by
 show IntKind.u32.wrap ((BitVec.ofInt 32 (a.toNat:Int) ^^^ BitVec.ofInt 32 (b.toNat:Int)).toNat:Int)=_;rw[ab,ab,IntKind.wrap_u32];have:=(a ^^^ b).isLt;omega
theorem af (a b:BitVec 8):bits .xor .u8 (a.toNat:Int) (b.toNat:Int)=((a ^^^ b).toNat:Int):=by
 show IntKind.u8.wrap ((BitVec.ofInt 8 (a.toNat:Int) ^^^ BitVec.ofInt 8 (b.toNat:Int)).toNat:Int)=_;rw[ab,ab,IntKind.wrap_u8];have:=(a ^^^ b).isLt;omega
theorem ag {n:Nat}(a:BitVec n)(k:Nat):((a >>> k).toNat:Int)=(a.toNat:Int) / (2 ^ k:Nat):=by
 rw[BitVec.toNat_ushiftRight,Nat.shiftRight_eq_div_pow];rfl
def u8v (b:UInt8):Value:=.int .u8 (b.toNat:Int)
def byteCells (l:List UInt8):Array Value:=(l.map u8v).toArray
theorem ah (l:List UInt8)(i:Nat)(h:i<l.length):(byteCells l)[i]?=some (u8v l[i]):=by simp[byteCells,h]
theorem ai {P:Program}(w:World)(src dst e:TypeId)(hs:P.underlying src=some (.slice e))(he:P.underlying e=some (.int .u8))(hd:P.underlying dst=some .string)(b off len cap:Nat)(l:List UInt8)(hlen:l.length=len)
  (hcell:∀i (h:i<l.length),w.cell? ⟨b,off+i,none⟩=some (u8v l[i])) :
  (convert src dst (.slice (some ⟨b,off,none⟩) len cap)).run P w = .ok (.string ⟨l.toArray⟩) w:=by
 have h:=run_convert_bytes_arg (P:=P) w src e hs he b off len cap (l.map λx=>(x.toNat:Int)) (by simp[hlen]) (λi hi=>by
  rw[hcell i (by omega)];simp[u8v,show i<l.length from by omega]) dst hd
 rw[h];congr 3;unfold strOfNums;congr 2;rw[List.map_map]
 conv=>rhs;rw[← List.map_id l]
 apply List.map_congr_left;intro x _;simp
theorem aj (l:List UInt8):∃q:ByteArray,q.data.toList=l∧(⟨l.toArray⟩:ByteArray)=q:=⟨⟨l.toArray⟩,rfl,rfl⟩
theorem ak (q:ByteArray):q.data.toList.length=q.size:=Array.length_toList
theorem al (a b:ByteArray):(a++b).data.toList=a.data.toList++b.data.toList:=by rw[ByteArray.data_append,Array.toList_append]
theorem am {a b:ByteArray}(h:a.data.toList=b.data.toList):a=b:=by
 apply ByteArray.ext;exact Array.ext' h
theorem ao {q:ByteArray}{l:List UInt8}(h:q.data.toList=l):q.size=l.length:=by rw[← h,ak]
theorem ap (s:ByteArray)(a b:Nat):(s.extract a b).data.toList=(s.data.toList.drop a).take (b-a):=Lib.extract_data s a b
theorem aq (s:ByteArray)(a b:Nat)(h:b≤s.size)(h2:a≤b):(s.extract a b).size=b-a:=by
 rw[ao (ap s a b),List.length_take,List.length_drop,ak];omega
theorem ar {a b:ByteArray}(h:a.data.toList=b.data.toList):(a.toList == b.toList)=true:=by rw[ByteArray.toList_eq,ByteArray.toList_eq,h];simp
theorem au {a b:ByteArray}(h:a.data.toList≠b.data.toList):(a.toList == b.toList)=false:=by rw[ByteArray.toList_eq,ByteArray.toList_eq];simpa using h
structure Fr (S:Nat→Prop) (w w':World):Prop where
 os:w'.os=w.os
 tape:w'.tape=w.tape
 output:w'.output=w.output
 size:w.heap.size≤w'.heap.size
 block:∀k,k<w.heap.size→¬S k→w'.heap[k]?=w.heap[k]?
theorem Fr.refl (S:Nat→Prop)(w:World):Fr S w w:=⟨rfl,rfl,rfl,Nat.le_refl _,λ_ _ _=>rfl⟩
theorem Fr.trans {S:Nat→Prop}{a b c:World}(h:Fr S a b)(k:Fr S b c):Fr S a c:=
 ⟨k.os.trans h.os,k.tape.trans h.tape,k.output.trans h.output,Nat.le_trans h.size k.size,λi hi hs=>(k.block i (Nat.lt_of_lt_of_le hi h.size) hs).trans (h.block i hi hs)⟩
theorem Fr.then {S T:Nat→Prop}{a b c:World}(h:Fr S a b)(k:Fr T b c)(hT:∀i,i<a.heap.size→T i→S i):Fr S a c:=
 ⟨k.os.trans h.os,k.tape.trans h.tape,k.output.trans h.output,Nat.le_trans h.size k.size,λi hi hs=>(k.block i (Nat.lt_of_lt_of_le hi h.size) (λht=>hs (hT i hi ht))).trans (h.block i hi hs)⟩
theorem Fr.mono {S T:Nat→Prop}{a b:World}(h:Fr S a b)(hT:∀i,i<a.heap.size→S i→T i):Fr T a b:=
 ⟨h.os,h.tape,h.output,h.size,λi hi hs=>h.block i hi (λk=>hs (hT i hi k))⟩
theorem Fr.drew {S:Nat→Prop}{a b:World}(h:Fr S a b):Fr S a b.drew:=⟨h.os,h.tape,h.output,h.size,h.block⟩
theorem Fr.drewN {S:Nat→Prop}{a b:World}(h:Fr S a b)(n:Nat):Fr S a (b.drewN n):=⟨h.os,h.tape,h.output,h.size,h.block⟩
theorem Fr.alloc {S:Nat→Prop}{a b:World}(h:Fr S a b)(o:Obj):Fr S a (b.alloc o):=
 h.then (T:=λ_=>False) ⟨rfl,rfl,rfl,by simp,λk hk _=>Below.heap_alloc _ _ _ hk⟩ (λ_ _ hf=>hf.elim)
theorem Fr.setCell {S:Nat→Prop}{a b:World}(h:Fr S a b)(p:Addr)(hp:p.block<a.heap.size→S p.block)(u:Value):Fr S a (b.setCell p u):=
 h.then (T:=λk=>k=p.block) ⟨rfl,rfl,rfl,by simp[World.setCell],λk _ hk=>Below.heap_setCell _ _ _ _ hk⟩ (λi hi e=>by subst e;exact hp hi)
theorem Fr.grown {S:Nat→Prop}{a b c:World}{row:Option Nat}(h:Fr S a b)(hg:b.grownBy c row)(hr:∀k,k<a.heap.size→row=some k→S k):Fr S a c:=
 h.then (T:=λk=>some k=row) ⟨hg.os,hg.tape,hg.output,hg.size,λk hk hne=>hg.block k hk hne⟩ (λi hi e=>hr i hi e.symm)
theorem Fr.of_below {B:Nat}{w w':World}(h:Below B w w'):Fr (λk=>B≤k) w w':=⟨h.os,h.tape,h.output,h.size,λk _ hs=>h.block k (by omega)⟩
theorem Fr.pure {S:Nat→Prop}{w w':World}(h:Below w.heap.size w w'):Fr S w w':=⟨h.os,h.tape,h.output,h.size,λk hk _=>h.block k hk⟩
theorem Fr.andPure {S:Nat→Prop}{a b c:World}(h:Fr S a b)(k:Below b.heap.size b c):Fr S a c:=h.trans (Fr.pure k)
theorem Fr.below {S:Nat→Prop}{w w':World}{B:Nat}(h:Fr S w w')(hB:B≤w.heap.size)(hS:∀k,k<B→¬S k):Below B w w':=⟨h.os,h.tape,h.output,h.size,λk hk=>h.block k (by omega) (hS k hk)⟩
theorem Fr.cell {S:Nat→Prop}{w w':World}(h:Fr S w w'){b o:Nat}(hb:b<w.heap.size)(hs:¬S b):w'.cell? ⟨b,o,none⟩=w.cell? ⟨b,o,none⟩:=World.cell?_of_block (w:=w) (h.block b hb hs)
theorem Fr.frozen {S:Nat→Prop}{w w':World}(h:Fr S w w'){b o:Nat}(hb:b<w.heap.size)(hs:¬S b):w'.frozen? ⟨b,o,none⟩=w.frozen? ⟨b,o,none⟩:=World.frozen?_of_block (w:=w) (h.block b hb hs)
theorem Fr.heapAt {S:Nat→Prop}{w w':World}(h:Fr S w w'){b:Nat}{o:Obj}(hb:w.heap[b]?=some o)(hs:¬S b):w'.heap[b]?=some o:=(h.block b (lt_of_block hb) hs).trans hb
theorem aw {w:World}{b o:Nat}{v:Value}(h:w.cell? ⟨b,o,none⟩=some v):b<w.heap.size:=block_lt_of_cell h
theorem Fr.cellAt {S:Nat→Prop}{w w':World}(h:Fr S w w'){b o:Nat}{v:Value}(hb:w.cell? ⟨b,o,none⟩=some v)(hs:¬S b):w'.cell? ⟨b,o,none⟩=some v:=(h.cell (aw hb) hs).trans hb
theorem ax {w wr:World}{o:Obj}(hb:Below (w.heap.size+1) (w.alloc o) wr):Below w.heap.size w wr:=((Below.refl _ _).alloc (Nat.le_refl _) _).trans (hb.mono (by omega))
theorem ay {a b:Bool}(h:a=b):Ending.returned (.bool a) = .returned (.bool b):=by rw[h]
theorem Fr.ownsRow {S:Nat→Prop}{w w':World}(h:Fr S w w'){base:Nat}{e:TypeId}{size:Nat}{v:Value}{n:Nat}{xs:List Value}(ho:w.ownsRow base e size v n xs)(hs:∀g,v.ownBlock=some g→¬S g):w'.ownsRow base e size v n xs:=by
 obtain⟨h1,h2⟩:=ho;refine⟨h1,?_⟩
 rcases h2 with h2|⟨g,cap,cur,hv,hg,hh,r⟩
 ·exact Or.inl h2
 ·subst hv
  exact Or.inr ⟨g,cap,cur,rfl,hg,h.heapAt hh (hs g rfl),r⟩
theorem az {w:World}{base base':Nat}{e:TypeId}{size:Nat}{v:Value}{n:Nat}{xs:List Value}(h:w.ownsRow base e size v n xs)(hb:∀g,v.ownBlock=some g→base'≤g):w.ownsRow base' e size v n xs:=by
 obtain⟨h1,h2⟩:=h;refine⟨h1,?_⟩
 rcases h2 with h2|⟨g,cap,cur,hv,hg,r⟩
 ·exact Or.inl h2
 ·subst hv
  exact Or.inr ⟨g,cap,cur,rfl,hb g rfl,r⟩
def aA (w:World)(v v':Value):Prop:=v'.ownBlock=v.ownBlock∨∃g,v'.ownBlock=some g∧w.heap.size≤g
theorem aA.refl (w:World)(v:Value):aA w v v:=.inl rfl
theorem aA.trans {w w1:World}{v v1 v2:Value}(h:aA w v v1)(k:aA w1 v1 v2)(hs:w.heap.size≤w1.heap.size):aA w v v2:=by
 rcases k with k|⟨g,k,hg⟩
 ·rcases h with h|⟨g,h,hg⟩
  ·exact .inl (k.trans h)
  ·exact .inr ⟨g,k.trans h,hg⟩
 ·exact .inr ⟨g,k,Nat.le_trans hs hg⟩
theorem aA.older {w w1:World}{v v':Value}(h:aA w1 v v')(hs:w.heap.size≤w1.heap.size):aA w v v':=by
 rcases h with h|⟨g,h,hg⟩
 ·exact .inl h
 ·exact .inr ⟨g,h,Nat.le_trans hs hg⟩
theorem aA.old {w:World}{v v':Value}(h:aA w v v'){k:Nat}(hk:k<w.heap.size)(e:v'.ownBlock=some k):v.ownBlock=some k:=by
 rcases h with h|⟨g,h,hg⟩
 ·rw[← h];exact e
 ·rw[h]at e;cases e;omega
theorem aB {w:World}{base:Nat}{e:TypeId}{size:Nat}{v:Value}{n:Nat}{xs:List Value}(h:w.ownsRow base e size v n xs):∃a m c,v = .slice a m c:=by
 rcases h.2 with⟨hv,_⟩|⟨g,cap,cur,hv,_⟩
 ·exact⟨none,0,0,hv⟩
 ·exact⟨_,_,_,hv⟩
theorem aC {w:World}{C:Array Value}{e:TypeId}{news:List Value}{b:Nat}(h:C.toList=news)(hb:b=w.heap.size):∀j u,news[j]?=some u→(w.alloc (.cells C e)).cell? ((⟨b,0,none⟩:Addr).add j)=some u:=by
 intro j u hj;subst hb;have hadd:(⟨w.heap.size,0,none⟩:Addr).add j=⟨w.heap.size,j,none⟩:=by unfold Addr.add;split<;>simp_all
 rw[hadd,World.cell?_alloc_at C e _ _ rfl,← Array.getElem?_toList,h];exact hj
theorem aD {P:Program}(w:World)(t u ty e:TypeId)(i:TypeInfo)(ht:P.underlying t=some (.slice e))(hu:P.underlying u=some .string)(hi:P.info? e=some i)(hz:i.zero=some (.int .u8 0))
  (hsize:i.size=1) (hby:i.bytes=1)
  (v:Value) (n:Nat) (xs:List Value) (hown:w.ownsRow 0 e 1 v n xs) (s:ByteArray)
  (h63:n+s.size≤maxLen) (hbytes:n+s.size≤140737488355328) :
  ∃v' w',(Builtin.append_ #[t,u] ty #[v,.string s]).run P w = .ok v' w'∧w'.ownsRow 0 e 1 v' (n+s.size) (xs++Lib.strCells s)∧w.grownBy w' v.ownBlock∧aA w v v':=by
 have hsmall:n+s.size≤9223372036854775807:=by simp only[maxLen]at h63;omega
 obtain⟨v',w',hr,h2,h3,_⟩:=Lib.run_append_own_string (P:=P) w 0 t u ty e i ht hu hi hz hsize hby v n xs hown s h63 hbytes (Nat.zero_le _);refine⟨v',w',hr,h2,h3,?_⟩;have hxl:xs.length=n:=by simpa using hown.1
 rcases hown.2 with⟨rfl,rfl⟩|⟨g,cap,cur,rfl,hbg,hg,hnc,hcm,hcs,htake⟩
 ·obtain rfl:xs=[]:=List.eq_nil_of_length_eq_zero hxl
  obtain⟨v2,w2,hr2,o2,_,_⟩:=Lib.run_append_own_string (P:=P) w w.heap.size t u ty e i ht hu hi hz hsize hby (.slice none 0 0) 0 [] (World.ownsRow_nil _ _ _ _) s h63 hbytes (Nat.le_refl _);rw[hr]at hr2;cases hr2
  rcases o2.2 with⟨hv,_⟩|⟨g,cap,cur,hv,hg,_⟩
  ·rw[hv];exact .inl rfl
  ·rw[hv];exact .inr ⟨g,rfl,hg⟩
 ·by_cases hroom:n+s.size≤cap
  ·have hcs':cur.size=cap:=by simpa using hcs
   have hr2:=Lib.run_append_room_string (P:=P) w t u ty e i ht hu hi hsize g n cap cur hg s hroom (by omega);rw[hr]at hr2;cases hr2;exact .inl rfl
  ·have holds:∀j u,xs[j]?=some u→w.cell? ((⟨g,0,none⟩:Addr).add j)=some u:=hown.cells (g:=g) rfl
   have hr2:=Lib.run_append_grow_string (P:=P) w t u ty e i (.int .u8 0) ht hu hi hz ⟨g,0,none⟩ n cap xs (by rw[hsize];simpa using hxl) holds s (by omega) (by omega) (by rw[hby];exact growslice_fits (by omega) (by omega));rw[hr]at hr2;cases hr2;exact .inr ⟨_,rfl,Nat.le_refl _⟩
theorem aE {P:Program}(w:World){ops:Array Oper}{rest:List Oper}{o:Oper}{a:Act}{Q:Exit→Act→World→Prop}(hgd:o.guard=none)(sl x:Operand)(t u:TypeId)
  (ho:o.op = .call { callee:=.builtin .append,args:=#[sl,x],argTypes:=#[t,u] })
  (e:TypeId) (i:TypeInfo) (ht:P.underlying t=some (.slice e)) (hu:P.underlying u=some .string) (hi:P.info? e=some i) (hz:i.zero=some (.int .u8 0))
  (hsize:i.size=1) (hby:i.bytes=1)
  (v:Value) (n:Nat) (xs:List Value) (hs:a.eval sl=v) (hown:w.ownsRow 0 e 1 v n xs) (s:ByteArray) (hx:a.eval x = .string s)
  (h63:n+s.size≤maxLen) (hbytes:n+s.size≤140737488355328)
  (h:∀v' w',w'.ownsRow 0 e 1 v' (n+s.size) (xs++Lib.strCells s)→w.grownBy w' v.ownBlock→aA w v v'→wpList P ops Q rest (a.put o.dst v') w'):wpList P ops Q (o::rest) a w:=by
 refine wpList_plain hgd λK hK=>?_;obtain⟨v',w',hr,h2,h3,h4⟩:=aD (P:=P) w t u o.type e i ht hu hi hz hsize hby v n xs hown s h63 hbytes;unfold Oper.wp execOp;simp only[ho,resolve,invoke,builtin,Sem.run_bind,Sem.run_pure,Result.andThen_ok,List.map_toArray,List.map_cons,List.map_nil,hs,hx,hr];exact hK _ _ (h v' w' h2 h3 h4)
def mZ {β:Type}(own:Nat→Prop)(J:β→World→Prop):Prop:=∀s A B,J s A→Fr own A B→J s B
def m7 {α:Type}(F:Fence)(n:Nat)(P:Program)(g:Nat)(lb:Array Value)(encs:α→Array Value)(own:Nat→Prop)(Kp:World→World→Prop)(S Sp:List α→Prop)(N:Nat)(w:World):Prop:=
 ∀(l:Nat) (J Jx:List α→World→Prop) (W:World),Below w.heap.size w W→mZ own J→mZ own Jx →
  (∀pre x W1,J pre W1→pre.length<N→YieldAt F (n-1) P l (encs x) W1 λe W'=>(e = .returned (.bool true)∧J (pre++[x]) W'∧Kp W1 W')∨(e = .returned (.bool false)∧Jx (pre++[x]) W')) →
  J [] W →
  CallsIn F n P g (#[.func (.yield l) #[] #[]]++lb) W λe W'=>(∃v,e = .returned v)∧((∃xs,S xs∧J xs W')∨(∃pre,Sp pre∧Jx pre W'))
structure m8 (n:Nat) (W W':World):Prop where
 de:W'.heap[n]?=W.heap[n]?
 lo:W'.heap[n+1]?=W.heap[n+1]?
theorem m8.refl (n:Nat)(W:World):m8 n W W:=⟨rfl,rfl⟩
theorem m8.trans {n:Nat}{A B C:World}(h:m8 n A B)(k:m8 n B C):m8 n A C:=⟨k.de.trans h.de,k.lo.trans h.lo⟩
theorem m8.fr {n:Nat}{S:Nat→Prop}{W W':World}(h:Fr S W W')(hn:n+1<W.heap.size)(h1:¬S n)(h2:¬S (n+1)):m8 n W W':=⟨h.block n (by omega) h1,h.block (n+1) hn h2⟩
def m9 {α:Type}(n:Nat)(Kp:World→World→Prop)(I:List α→World→Prop)(Ix:Code→List α→World→Prop)(xs:List α)(W:World):Exit→Act→World→Prop
 | .normal,_,W'=>m8 n W W'∧Kp W W'∧I xs W'
 | .ret,_,W'=>m8 n W W'∧Ix .ret xs W'
 | .exit id,_,W'=>m8 n W W'∧Ix (.exit id) xs W'
 | .goto t,_,W'=>m8 n W W'∧Ix (.goto t) xs W'
 | .panic _,_,_=>False
 | .outgrown,_,_=>False
theorem Fr.putObj {S:Nat→Prop}{a b:World}(h:Fr S a b)(r:Nat)(hr:r<a.heap.size→S r)(o:Obj):Fr S a (b.putObj r o):=
 ⟨h.os,h.tape,h.output,by rw[World.putObj_size];exact h.size,λk hk hs=>(World.putObj_heap_other (λe=>hs (by rw[e];exact hr (by omega)))).trans (h.block k hk hs)⟩
variable {F:Fence} {n:Nat} {P:Program}
theorem nf {α:Type}{g:Operand}{ps:Array Tmp}{assign body:Code}{Q:Exit→Act→World→Prop}{a:Act}{w:World}
  (hro:F.round=none) (h1:1≤n) {gf:Nat} {lb:Array Value} (hg:a.eval g = .func (.func gf) #[] lb) (hFg:F.fn gf) (eg:∀args w,(callFunc gf args).run P w = .ok (.enter gf args) w)
  {encs:α→Array Value} {own:Nat→Prop} {Kp:World→World→Prop} {S Sp:List α→Prop} {N:Nat} (hseq:m7 F (n-1) P gf lb encs own Kp S Sp N w) (hown:∀k,own k→k<w.heap.size)
  (hKt:∀{A B C:World},Kp A B→Kp B C→Kp A C) (hKb:∀(W:World) (o:Obj),w.heap.size+1<W.heap.size→Kp W (W.putObj (w.heap.size+1) o)) (hps:∀x,(encs x).size=ps.size)
  (I:List α→World→Prop) (Ix:Code→List α→World→Prop) (hI:mZ (λk=>own k∨k=w.heap.size∨k=w.heap.size+1) I) (hIx:∀c,mZ (λk=>own k∨k=w.heap.size∨k=w.heap.size+1) (Ix c)) (h0:I [] w)
  (A:List α→α→Act→World→Prop) (hA:∀pre x a' W o,w.heap.size+1<W.heap.size→A pre x a' W→A pre x a' (W.putObj (w.heap.size+1) o))
  (hassign:∀(pre:List α) (x:α) (W:World) (K:Act→World→Prop),w.heap.size+1<W.heap.size→I pre W→(∀a' W',A pre x a' W'→m8 w.heap.size W W'→W.heap.size≤W'.heap.size→Kp W W'→K a' W') →
    assign.wpIn (F.inRound (w.heap.size+1)) (n-1-1) P (Exit.then K (λ_ _ _=>False)) { tmps:=(ps.zip (encs x)).foldl (λt (p,v)=>t.setIfInBounds p v) a.tmps,defers:=[] } W)
  (hbody:∀(pre:List α) (x:α) (a':Act) (W:World),w.heap.size+1<W.heap.size→A pre x a' W→pre.length<N→body.wpIn (F.inRound (w.heap.size+1)) (n-1-1) P (m9 w.heap.size Kp I Ix (pre++[x]) W) a' W)
  (hdone:∀(xs:List α) (W:World),S xs→I xs W→W.heap[w.heap.size]?=some (.deferred (some []))→Q .normal { a with defers:={ target:=.collected w.heap.size,args:=#[] }::a.defers } W)
  (hstop:∀(c:Code) (pre:List α) (W:World),Sp pre→Ix c pre W→W.heap[w.heap.size]?=some (.deferred (some []))→c.wpIn F n P Q { a with defers:={ target:=.collected w.heap.size,args:=#[] }::a.defers } W) :
  (Code.rangeFunc g ps assign body).wpIn F n P Q a w:=by
 refine wpIn_rangeFunc ?_;intro fn hfn;rw[hro];obtain⟨rec,hrec⟩:∃rec:LoopState→Option Code→Loop,rec=λst pe=>{ state:=st,pending:=pe,fn,tmps:=a.tmps,params:=ps,assign,body,defers:=w.heap.size }:=⟨_,rfl⟩;obtain⟨N0,hN0⟩:∃N0,N0=w.heap.size:=⟨_,rfl⟩;obtain⟨W1,hW1⟩:∃W1,(w.alloc (.deferred (some []))).alloc (.loop (rec .ready none))=W1:=⟨_,rfl⟩;have hL1:W1.heap[w.heap.size+1]?=some (.loop (rec .ready none)):=by
  rw[← hW1];have:=World.alloc_heap_new (w.alloc (.deferred (some []))) (.loop (rec .ready none));rwa [World.size_alloc]at this
 have hK1:W1.heap[w.heap.size]?=some (.deferred (some [])):=by
  rw[← hW1];exact(Below.heap_alloc _ _ _ (by simp)).trans (World.alloc_heap_new w _)
 have hf1:∀{S:Nat→Prop},Fr S w W1:=by intro S;rw[← hW1];exact((Fr.refl S w).alloc _).alloc _
 have hI1:I [] W1:=hI _ _ _ h0 hf1;have hb1:Below w.heap.size w W1:=by rw[← hW1];exact((Below.refl _ w).alloc (Nat.le_refl _) _).alloc (by simp) _
 have hturn:∀{β:Type} {J:β→World→Prop} (_:mZ (λk=>own k∨k=w.heap.size∨k=w.heap.size+1) J) (s:β) (W:World) (o:Obj),J s W→J s (W.putObj (w.heap.size+1) o):=
  λhJ s W o hs=>hJ s _ _ hs ((Fr.refl _ W).putObj _ (λ_=>.inr (.inr rfl)) o)
 have hkeep:∀{X Y:World} {k:Nat} {o:Obj},Fr own X Y→w.heap.size≤k→X.heap[k]?=some o→Y.heap[k]?=some o:=
  λhf hk h=>(hf.block _ (lt_of_block h) (λe=>by have:=hown _ e;omega)).trans h
 refine⟨w.heap.size+1,[{ target:=.collected w.heap.size,args:=#[] }],W1,{ target:=.fn (.func gf) lb,args:=#[.func (.yield (w.heap.size+1)) #[] #[]] },W1,gf,
  #[.func (.yield (w.heap.size+1)) #[] #[]]++lb,W1,?_,?_,?_,?_,λ_=>h1,?_⟩
 ·rw[← hW1,hrec];exact run_enterLoop_outer _ _ _ _ _
 ·simp only[resolve,hg]
  simp[go_sem]
 ·intro f' hf';simp[Target.leads]at hf';subst hf';exact hFg
 ·simp[invoke,go_sem,eg]
 ·refine(hseq (w.heap.size+1) (λpre W=>I pre W∧W.heap[w.heap.size+1]?=some (.loop (rec .ready none))∧W.heap[w.heap.size]?=some (.deferred (some []))) (λpre W=>∃c,Ix c pre W∧W.heap[w.heap.size+1]?=some (.loop (rec .done (some c)))∧W.heap[w.heap.size]?=some (.deferred (some [])))
   W1 hb1 (λs X Y hs hf=>⟨hI s X Y hs.1 (hf.mono (λ_ _ e=>.inl e)),hkeep hf (by omega) hs.2.1,hkeep hf (Nat.le_refl _) hs.2.2⟩) (λs X Y hs hf=>by
    obtain⟨c,hc,hl,hk⟩:=hs;exact⟨c,hIx c s X Y hc (hf.mono (λ_ _ e=>.inl e)),hkeep hf (by omega) hl,hkeep hf (Nat.le_refl _) hk⟩)
   ?_ ⟨hI1,hL1,hK1⟩).mono ?_
  ·rintro pre x W ⟨hi,hl,hk⟩ hlen
   have hlt:w.heap.size+1<W.heap.size:=lt_of_block hl;have hy:=run_yield (P:=P) (args:=encs x) hl (by rw[hrec];exact hps x);rw[hrec]at hy;refine⟨fn,_,assign,body,hy,roundIn_of_wpIn hfn (hassign pre x W _ hlt hi ?_)⟩;intro a' W2 hA2 hg2 hsz2 hkp2;have hl2:W2.heap[w.heap.size+1]?=some (.loop (rec .ready none)):=hg2.lo.trans hl;have hk2:W2.heap[w.heap.size]?=some (.deferred (some [])):=hg2.de.trans hk;have hlt2:w.heap.size+1<W2.heap.size:=by omega
   refine⟨_,run_beginRound hl2 (by rw[hrec]),?_⟩;have hl3:(W2.putObj (w.heap.size+1) (.loop { rec .ready none with state:=.busy })).heap[w.heap.size+1]?=some (.loop { rec .ready none with state:=.busy }):=World.putObj_heap_same hlt2;have hk3:(W2.putObj (w.heap.size+1) (.loop { rec .ready none with state:=.busy })).heap[w.heap.size]?=some (.deferred (some [])):=(World.putObj_heap_other (by omega)).trans hk2;have hkp3:Kp W (W2.putObj (w.heap.size+1) (.loop { rec .ready none with state:=.busy })):=hKt hkp2 (hKb _ _ hlt2);refine wpIn_mono (hbody pre x a' _ (by rw[World.putObj_size];exact hlt2) (hA _ _ _ _ _ hlt2 hA2) hlen) ?_;have fin:∀(jump:Option Code) (W4:World),m8 w.heap.size (W2.putObj (w.heap.size+1) (.loop { rec .ready none with state:=.busy })) W4 →
     (Instr.endRound (w.heap.size+1) jump).run P W4 = .ok (.bool jump.isNone) (W4.putObj (w.heap.size+1) (.loop (rec (if jump.isNone then .ready else .done) jump))) ∧
     w.heap.size+1<W4.heap.size ∧
     (W4.putObj (w.heap.size+1) (.loop (rec (if jump.isNone then .ready else .done) jump))).heap[w.heap.size+1]?=some (.loop (rec (if jump.isNone then .ready else .done) jump)) ∧
     (W4.putObj (w.heap.size+1) (.loop (rec (if jump.isNone then .ready else .done) jump))).heap[w.heap.size]?=some (.deferred (some [])):=λjump W4 hg4=>by
    have hl4:=hg4.lo.trans hl3;have hr:=run_endRound (P:=P) jump hl4;rw[hrec]at hr ⊢;exact⟨hr,lt_of_block hl4,World.putObj_heap_same (lt_of_block hl4),(World.putObj_heap_other (by omega)).trans (hg4.de.trans hk3)⟩
   rintro e a4 W4 hp;cases e with
   | normal=>
    obtain⟨hg4,hkp4,hi4⟩:=hp;obtain⟨hr,hlt4,hl5,hk5⟩:=fin none W4 hg4;exact⟨_,_,hr,.inl ⟨rfl,⟨hturn hI _ _ _ hi4,hl5,hk5⟩,hKt (hKt hkp3 hkp4) (hKb _ _ hlt4)⟩⟩
   | ret=>
    obtain⟨hg4,hi4⟩:=hp;obtain⟨hr,hlt4,hl5,hk5⟩:=fin (some .ret) W4 hg4;exact⟨_,_,hr,.inr ⟨rfl,.ret,hturn (hIx _) _ _ _ hi4,hl5,hk5⟩⟩
   | exit id=>
    obtain⟨hg4,hi4⟩:=hp;obtain⟨hr,hlt4,hl5,hk5⟩:=fin (some (.exit id)) W4 hg4;exact⟨_,_,hr,.inr ⟨rfl,.exit id,hturn (hIx _) _ _ _ hi4,hl5,hk5⟩⟩
   | goto t=>
    obtain⟨hg4,hi4⟩:=hp;obtain⟨hr,hlt4,hl5,hk5⟩:=fin (some (.goto t)) W4 hg4;exact⟨_,_,hr,.inr ⟨rfl,.goto t,hturn (hIx _) _ _ _ hi4,hl5,hk5⟩⟩
   | panic ch=>exact hp.elim
   | outgrown=>exact hp.elim
  ·rintro e W2 ⟨⟨v,rfl⟩,(⟨xs,hS,hi,hl,hk⟩|⟨pre,hSp,c,hi,hl,hk⟩)⟩
   ·exact⟨none,_,by have:=run_endLoop (P:=P) hl (by rw[hrec];simp);rw[hrec]at this;exact this,hdone xs _ hS (hturn hI _ _ _ hi) ((World.putObj_heap_other (by omega)).trans hk)⟩
   ·exact⟨some c,_,by have:=run_endLoop (P:=P) hl (by rw[hrec];simp);rw[hrec]at this;exact this,hstop c pre _ hSp (hturn (hIx c) _ _ _ hi) ((World.putObj_heap_other (by omega)).trans hk)⟩
end
section
open Go.RowKit
section
variable {F:Fence} {n:Nat} {P:Program} {a:Act} {w:World} {Q:Exit→Act→World→Prop} {b:Frame} {k:List Item} {cs:List Frame}
theorem nh {c:Code}:step P (lone (b.atR a (.code (.scope c)::k)) cs w) = .next (lone (b.atR a (.code c :: .inScope c::k)) cs w):=
 step_lone_go (by simp[stepG,stepG.exec,Frame.atR])
theorem ni {c:Code}:step P (lone (b.atR a (.inScope c::k)) cs w) = .next (lone (b.atR a k) cs w):=
 step_lone_go (by simp[stepG,stepG.exec,Frame.atR])
theorem nj {c rest:Code}(l:Nat)(J:Act→World→Prop)(μ:Act→World→Nat)(hf:findLabel c l=some rest)
  (first:c.wpIn F n P (Exit.jump l J Q) a w)
  (pass:∀a w,J a w→rest.wpIn F n P (Exit.jump l (λa' w'=>J a' w'∧μ a' w'<μ a w) Q) a w):(Code.scope c).wpIn F n P Q a w:=by
 intro b k cs hro hb hr;have hg:gotoIn l (.inScope c::k)=some (.code rest :: .inScope c::k):=by simp[gotoIn,hf]
 have hx:∀id,exitTo id (.inScope c::k)=exitTo id k:=λid=>by simp[exitTo]
 have h0:(lone (b.atR a (.code (.scope c)::k)) cs w).fenced P F:=fenced_calm hb hr rfl;have key:∀j a w,μ a w=j→J a w→∃e a' w',Q e a' w'∧ArrivesIn (Machine.fenced P F) P (lone (b.atR a (.code rest :: .inScope c::k)) cs w) b k cs e a' w':=by
  intro j
  induction j using Nat.strongRecOn with
  | _ j ih=>
   intro a w hn hJ;obtain⟨e,a₁,w₁,hq,harr⟩:=pass a w hJ b (.inScope c::k) cs hro hb hr;cases e with
   | normal=>exact⟨.normal,a₁,w₁,hq,StepsIn.trans harr (.one (fenced_calm hb hr rfl) ni)⟩
   | exit id=>exact⟨.exit id,a₁,w₁,hq,λk' hk=>harr.1 k' (by rw[hx];exact hk),λhr' hk=>harr.2 hr' (by rw[hx];exact hk)⟩
   | goto l'=>
    obtain⟨rfl,hJ',hlt⟩:=hq;obtain⟨e₂,a₂,w₂,hq₂,harr₂⟩:=ih _ (by omega) a₁ w₁ rfl hJ';exact⟨e₂,a₂,w₂,hq₂,.of_steps (harr.1 _ hg) harr₂⟩
   | ret=>exact⟨_,a₁,w₁,hq,harr⟩
   | panic ch=>exact⟨_,a₁,w₁,hq,harr⟩
   | outgrown=>exact⟨_,a₁,w₁,hq,harr⟩
 obtain⟨e,a₁,w₁,hq,harr⟩:=first b (.inScope c::k) cs hro hb hr;cases e with
 | normal=>exact⟨.normal,a₁,w₁,hq,.head h0 nh (StepsIn.trans harr (.one (fenced_calm hb hr rfl) ni))⟩
 | exit id=>exact⟨.exit id,a₁,w₁,hq,λk' hk=>.head h0 nh (harr.1 k' (by rw[hx];exact hk)),λhr' hk=>let ⟨k₁,h1,h2⟩:=harr.2 hr' (by rw[hx];exact hk);⟨k₁,h1,.head h0 nh h2⟩⟩
 | goto l'=>
  obtain⟨rfl,hJ'⟩:=hq;obtain⟨e₂,a₂,w₂,hq₂,harr₂⟩:=key _ a₁ w₁ rfl hJ';exact⟨e₂,a₂,w₂,hq₂,.of_steps (.head h0 nh (harr.1 _ hg)) harr₂⟩
 | ret=>exact⟨_,a₁,w₁,hq,.of_steps (.one h0 nh) harr⟩
 | panic ch=>exact⟨_,a₁,w₁,hq,.of_steps (.one h0 nh) harr⟩
 | outgrown=>exact⟨_,a₁,w₁,hq,.of_steps (.one h0 nh) harr⟩
theorem nk {x:Code}(l:Nat)(J:Act→World→Prop)(μ:Act→World→Nat)(h0:J a w)
  (pass:∀a w,J a w→x.wpIn F n P (Exit.jump l (λa' w'=>J a' w'∧μ a' w'<μ a w) Q) a w):(Code.scope (.seq (.label l) x)).wpIn F n P Q a w:=
 nj (rest:=.seq .skip x) l J μ (by simp[findLabel]) (wpIn_seq (wpIn_label (wpIn_mono (pass a w h0) (λe a w h=>by
  cases e with
  | goto l'=>exact⟨h.1,h.2.1⟩
  | _=>exact h)))) (λa w h=>wpIn_seq (wpIn_skip (pass a w h)))
end
end
end Go.Proofs.YthjjgcfdhkhelaaGreatDoor
