/- The walks of wire.Reader's methods: what a reader reads, as plain functions of what it has read so far. -/
import Derived.WalkKit
import Derived.WalkSpells
import Derived.WalkLawsBesides
import Derived.Lib.Hide
import Derived.Laws.BytesArg
import Derived.Lib.Strings
import Derived.Maps.AppendAt
import Derived.Lib.AppendStr
import Derived.OneCell
import Derived.Laws.CopyOwn
import Derived.Test.YtaeakdichkhjaaaGreatDoorChecked
import Derived.Deep.QuietTactic
import Derived.BigQuiet
set_option maxHeartbeats 1000000
open Go.Lib(hid)
namespace Go.Proofs.YtaeakdichkhjaaaGreatDoor
section
open Go.RowKit
theorem aa {k:IntKind}{a b:Int}(h:a=b):Ending.returned (.int k a) = .returned (.int k b):=by rw[h]
theorem ab {n:Nat}(a:BitVec n):BitVec.ofInt n (a.toNat:Int)=a:=by
 rw[BitVec.ofInt_natCast];simp
theorem ac (a b:BitVec 32):bits .and .u32 (a.toNat:Int) (b.toNat:Int)=((a &&& b).toNat:Int):=by
 show IntKind.u32.wrap ((BitVec.ofInt 32 (a.toNat:Int) &&& BitVec.ofInt 32 (b.toNat:Int)).toNat:Int)=_;rw[ab,ab,IntKind.wrap_u32];have:=(a &&& b).isLt;omega
theorem ae (a b:BitVec 32):bits .xor .u32 (a.toNat:Int) (b.toNat:Int)=((a ^^^ b).toNat:Int):=by
 show IntKind.u32.wrap ((BitVec.ofInt 32 (a.toNat:Int) ^^^ BitVec.ofInt 32 (b.toNat:Int)).toNat:Int)=_;rw[ab,ab,IntKind.wrap_u32];have:=(a ^^^ b).isLt;omega
theorem af (a b:BitVec 8):bits .xor .u8 (a.toNat:Int) (b.toNat:Int)=((a ^^^ b).toNat:Int):=by
 show IntKind.u8.wrap ((BitVec.ofInt 8 (a.toNat:Int) ^^^ BitVec.ofInt 8 (b.toNat:Int)).toNat:Int)=_;rw[ab,ab,IntKind.wrap_u8];have:=(a ^^^ b).isLt;omega
theorem ag {n:Nat}(a:BitVec n)(k:Nat):((a >>> k).toNat:Int)=(a.toNat:Int) / (2 ^ k:Nat):=by
 rw[BitVec.toNat_ushiftRight,Nat.shiftRight_eq_div_pow];rfl
def u8v (b:UInt8):Value:=.int .u8 (b.toNat:Int)
def ah (l:List UInt8):Array Value:=(l.map u8v).toArray
theorem ai (l:List UInt8)(i:Nat)(h:i<l.length):(ah l)[i]?=some (u8v l[i]):=by simp[ah,h]
theorem aj {P:Program}(w:World)(src dst e:TypeId)(hs:P.underlying src=some (.slice e))(he:P.underlying e=some (.int .u8))(hd:P.underlying dst=some .string)(b off len cap:Nat)(l:List UInt8)(hlen:l.length=len)
  (hcell:∀i (h:i<l.length),w.cell? ⟨b,off+i,none⟩=some (u8v l[i])) :
  (convert src dst (.slice (some ⟨b,off,none⟩) len cap)).run P w = .ok (.string ⟨l.toArray⟩) w:=by
 have h:=run_convert_bytes_arg (P:=P) w src e hs he b off len cap (l.map λx=>(x.toNat:Int)) (by simp[hlen]) (λi hi=>by
  rw[hcell i (by omega)];simp[u8v,show i<l.length from by omega]) dst hd
 rw[h];congr 3;unfold strOfNums;congr 2;rw[List.map_map]
 conv=>rhs;rw[← List.map_id l]
 apply List.map_congr_left;intro x _;simp
theorem ak (l:List UInt8):∃q:ByteArray,q.data.toList=l∧(⟨l.toArray⟩:ByteArray)=q:=⟨⟨l.toArray⟩,rfl,rfl⟩
theorem am (q:ByteArray):q.data.toList.length=q.size:=Array.length_toList
theorem ap (a b:ByteArray):(a++b).data.toList=a.data.toList++b.data.toList:=by rw[ByteArray.data_append,Array.toList_append]
theorem aq {a b:ByteArray}(h:a.data.toList=b.data.toList):a=b:=by
 apply ByteArray.ext;exact Array.ext' h
theorem av {q:ByteArray}{l:List UInt8}(h:q.data.toList=l):q.size=l.length:=by rw[← h,am]
theorem aw (s:ByteArray)(a b:Nat):(s.extract a b).data.toList=(s.data.toList.drop a).take (b-a):=Lib.extract_data s a b
theorem ax (s:ByteArray)(a b:Nat)(h:b≤s.size)(h2:a≤b):(s.extract a b).size=b-a:=by
 rw[av (aw s a b),List.length_take,List.length_drop,am];omega
theorem ay {a b:ByteArray}(h:a.data.toList=b.data.toList):(a.toList == b.toList)=true:=by rw[ByteArray.toList_eq,ByteArray.toList_eq,h];simp
theorem az {a b:ByteArray}(h:a.data.toList≠b.data.toList):(a.toList == b.toList)=false:=by rw[ByteArray.toList_eq,ByteArray.toList_eq];simpa using h
structure Fr (S:Nat→Prop) (w w':World):Prop where
 os:w'.os=w.os
 tape:w'.tape=w.tape
 output:w'.output=w.output
 size:w.heap.size≤w'.heap.size
 block:∀k,k<w.heap.size→¬S k→w'.heap[k]?=w.heap[k]?
theorem Fr.refl (S:Nat→Prop)(w:World):Fr S w w:=⟨rfl,rfl,rfl,Nat.le_refl _,λ_ _ _=>rfl⟩
theorem Fr.trans {S:Nat→Prop}{a b c:World}(h:Fr S a b)(k:Fr S b c):Fr S a c:=
 ⟨k.os.trans h.os,k.tape.trans h.tape,k.output.trans h.output,Nat.le_trans h.size k.size,λi hi hs=>(k.block i (Nat.lt_of_lt_of_le hi h.size) hs).trans (h.block i hi hs)⟩
theorem Fr.then {S T:Nat→Prop}{a b c:World}(h:Fr S a b)(k:Fr T b c)(hT:∀i,i<a.heap.size→T i→S i):Fr S a c:=
 ⟨k.os.trans h.os,k.tape.trans h.tape,k.output.trans h.output,Nat.le_trans h.size k.size,λi hi hs=>(k.block i (Nat.lt_of_lt_of_le hi h.size) (λht=>hs (hT i hi ht))).trans (h.block i hi hs)⟩
theorem Fr.mono {S T:Nat→Prop}{a b:World}(h:Fr S a b)(hT:∀i,i<a.heap.size→S i→T i):Fr T a b:=
 ⟨h.os,h.tape,h.output,h.size,λi hi hs=>h.block i hi (λk=>hs (hT i hi k))⟩
theorem Fr.drew {S:Nat→Prop}{a b:World}(h:Fr S a b):Fr S a b.drew:=⟨h.os,h.tape,h.output,h.size,h.block⟩
theorem Fr.drewN {S:Nat→Prop}{a b:World}(h:Fr S a b)(n:Nat):Fr S a (b.drewN n):=⟨h.os,h.tape,h.output,h.size,h.block⟩
theorem Fr.alloc {S:Nat→Prop}{a b:World}(h:Fr S a b)(o:Obj):Fr S a (b.alloc o):=
 h.then (T:=λ_=>False) ⟨rfl,rfl,rfl,by simp,λk hk _=>Below.heap_alloc _ _ _ hk⟩ (λ_ _ hf=>hf.elim)
theorem Fr.setCell {S:Nat→Prop}{a b:World}(h:Fr S a b)(p:Addr)(hp:p.block<a.heap.size→S p.block)(u:Value):Fr S a (b.setCell p u):=
 h.then (T:=λk=>k=p.block) ⟨rfl,rfl,rfl,by simp[World.setCell],λk _ hk=>Below.heap_setCell _ _ _ _ hk⟩ (λi hi e=>by subst e;exact hp hi)
theorem Fr.grown {S:Nat→Prop}{a b c:World}{row:Option Nat}(h:Fr S a b)(hg:b.grownBy c row)(hr:∀k,k<a.heap.size→row=some k→S k):Fr S a c:=
 h.then (T:=λk=>some k=row) ⟨hg.os,hg.tape,hg.output,hg.size,λk hk hne=>hg.block k hk hne⟩ (λi hi e=>hr i hi e.symm)
theorem Fr.pure {S:Nat→Prop}{w w':World}(h:Below w.heap.size w w'):Fr S w w':=⟨h.os,h.tape,h.output,h.size,λk hk _=>h.block k hk⟩
theorem Fr.andPure {S:Nat→Prop}{a b c:World}(h:Fr S a b)(k:Below b.heap.size b c):Fr S a c:=h.trans (Fr.pure k)
theorem Fr.below {S:Nat→Prop}{w w':World}{B:Nat}(h:Fr S w w')(hB:B≤w.heap.size)(hS:∀k,k<B→¬S k):Below B w w':=⟨h.os,h.tape,h.output,h.size,λk hk=>h.block k (by omega) (hS k hk)⟩
theorem Fr.cell {S:Nat→Prop}{w w':World}(h:Fr S w w'){b o:Nat}(hb:b<w.heap.size)(hs:¬S b):w'.cell? ⟨b,o,none⟩=w.cell? ⟨b,o,none⟩:=World.cell?_of_block (w:=w) (h.block b hb hs)
theorem Fr.frozen {S:Nat→Prop}{w w':World}(h:Fr S w w'){b o:Nat}(hb:b<w.heap.size)(hs:¬S b):w'.frozen? ⟨b,o,none⟩=w.frozen? ⟨b,o,none⟩:=World.frozen?_of_block (w:=w) (h.block b hb hs)
theorem Fr.heapAt {S:Nat→Prop}{w w':World}(h:Fr S w w'){b:Nat}{o:Obj}(hb:w.heap[b]?=some o)(hs:¬S b):w'.heap[b]?=some o:=(h.block b (lt_of_block hb) hs).trans hb
theorem aA {w:World}{b o:Nat}{v:Value}(h:w.cell? ⟨b,o,none⟩=some v):b<w.heap.size:=block_lt_of_cell h
theorem Fr.cellAt {S:Nat→Prop}{w w':World}(h:Fr S w w'){b o:Nat}{v:Value}(hb:w.cell? ⟨b,o,none⟩=some v)(hs:¬S b):w'.cell? ⟨b,o,none⟩=some v:=(h.cell (aA hb) hs).trans hb
theorem aB {a b:Bool}(h:a=b):Ending.returned (.bool a) = .returned (.bool b):=by rw[h]
theorem Fr.ownsRow {S:Nat→Prop}{w w':World}(h:Fr S w w'){base:Nat}{e:TypeId}{size:Nat}{v:Value}{n:Nat}{xs:List Value}(ho:w.ownsRow base e size v n xs)(hs:∀g,v.ownBlock=some g→¬S g):w'.ownsRow base e size v n xs:=by
 obtain⟨h1,h2⟩:=ho;refine⟨h1,?_⟩
 rcases h2 with h2|⟨g,cap,cur,hv,hg,hh,r⟩
 ·exact Or.inl h2
 ·subst hv
  exact Or.inr ⟨g,cap,cur,rfl,hg,h.heapAt hh (hs g rfl),r⟩
theorem aC {w:World}{base base':Nat}{e:TypeId}{size:Nat}{v:Value}{n:Nat}{xs:List Value}(h:w.ownsRow base e size v n xs)(hb:∀g,v.ownBlock=some g→base'≤g):w.ownsRow base' e size v n xs:=by
 obtain⟨h1,h2⟩:=h;refine⟨h1,?_⟩
 rcases h2 with h2|⟨g,cap,cur,hv,hg,r⟩
 ·exact Or.inl h2
 ·subst hv
  exact Or.inr ⟨g,cap,cur,rfl,hb g rfl,r⟩
def Went (w:World)(v v':Value):Prop:=v'.ownBlock=v.ownBlock∨∃g,v'.ownBlock=some g∧w.heap.size≤g
theorem Went.refl (w:World)(v:Value):Went w v v:=.inl rfl
theorem Went.trans {w w1:World}{v v1 v2:Value}(h:Went w v v1)(k:Went w1 v1 v2)(hs:w.heap.size≤w1.heap.size):Went w v v2:=by
 rcases k with k|⟨g,k,hg⟩
 ·rcases h with h|⟨g,h,hg⟩
  ·exact .inl (k.trans h)
  ·exact .inr ⟨g,k.trans h,hg⟩
 ·exact .inr ⟨g,k,Nat.le_trans hs hg⟩
theorem Went.older {w w1:World}{v v':Value}(h:Went w1 v v')(hs:w.heap.size≤w1.heap.size):Went w v v':=by
 rcases h with h|⟨g,h,hg⟩
 ·exact .inl h
 ·exact .inr ⟨g,h,Nat.le_trans hs hg⟩
theorem Went.old {w:World}{v v':Value}(h:Went w v v'){k:Nat}(hk:k<w.heap.size)(e:v'.ownBlock=some k):v.ownBlock=some k:=by
 rcases h with h|⟨g,h,hg⟩
 ·rw[← h];exact e
 ·rw[h]at e;cases e;omega
theorem aD {w:World}{base:Nat}{e:TypeId}{size:Nat}{v:Value}{n:Nat}{xs:List Value}(h:w.ownsRow base e size v n xs):∃a m c,v = .slice a m c:=by
 rcases h.2 with⟨hv,_⟩|⟨g,cap,cur,hv,_⟩
 ·exact⟨none,0,0,hv⟩
 ·exact⟨_,_,_,hv⟩
theorem aE {w:World}{C:Array Value}{e:TypeId}{news:List Value}{b:Nat}(h:C.toList=news)(hb:b=w.heap.size):∀j u,news[j]?=some u→(w.alloc (.cells C e)).cell? ((⟨b,0,none⟩:Addr).add j)=some u:=by
 intro j u hj;subst hb;have hadd:(⟨w.heap.size,0,none⟩:Addr).add j=⟨w.heap.size,j,none⟩:=by unfold Addr.add;split<;>simp_all
 rw[hadd,World.cell?_alloc_at C e _ _ rfl,← Array.getElem?_toList,h];exact hj
theorem aF {P:Program}(w:World)(t u ty e:TypeId)(i:TypeInfo)(ht:P.underlying t=some (.slice e))(hu:P.underlying u=some .string)(hi:P.info? e=some i)(hz:i.zero=some (.int .u8 0))
  (hsize:i.size=1) (hby:i.bytes=1)
  (v:Value) (n:Nat) (xs:List Value) (hown:w.ownsRow 0 e 1 v n xs) (s:ByteArray)
  (h63:n+s.size≤maxLen) (hbytes:n+s.size≤140737488355328) :
  ∃v' w',(Builtin.append_ #[t,u] ty #[v,.string s]).run P w = .ok v' w'∧w'.ownsRow 0 e 1 v' (n+s.size) (xs++Lib.strCells s)∧w.grownBy w' v.ownBlock∧Went w v v':=by
 have hsmall:n+s.size≤9223372036854775807:=by simp only[maxLen]at h63;omega
 obtain⟨v',w',hr,h2,h3,_⟩:=Lib.run_append_own_string (P:=P) w 0 t u ty e i ht hu hi hz hsize hby v n xs hown s h63 hbytes (Nat.zero_le _);refine⟨v',w',hr,h2,h3,?_⟩;have hxl:xs.length=n:=by simpa using hown.1
 rcases hown.2 with⟨rfl,rfl⟩|⟨g,cap,cur,rfl,hbg,hg,hnc,hcm,hcs,htake⟩
 ·obtain rfl:xs=[]:=List.eq_nil_of_length_eq_zero hxl
  obtain⟨v2,w2,hr2,o2,_,_⟩:=Lib.run_append_own_string (P:=P) w w.heap.size t u ty e i ht hu hi hz hsize hby (.slice none 0 0) 0 [] (World.ownsRow_nil _ _ _ _) s h63 hbytes (Nat.le_refl _);rw[hr]at hr2;cases hr2
  rcases o2.2 with⟨hv,_⟩|⟨g,cap,cur,hv,hg,_⟩
  ·rw[hv];exact .inl rfl
  ·rw[hv];exact .inr ⟨g,rfl,hg⟩
 ·by_cases hroom:n+s.size≤cap
  ·have hcs':cur.size=cap:=by simpa using hcs
   have hr2:=Lib.run_append_room_string (P:=P) w t u ty e i ht hu hi hsize g n cap cur hg s hroom (by omega);rw[hr]at hr2;cases hr2;exact .inl rfl
  ·have holds:∀j u,xs[j]?=some u→w.cell? ((⟨g,0,none⟩:Addr).add j)=some u:=hown.cells (g:=g) rfl
   have hr2:=Lib.run_append_grow_string (P:=P) w t u ty e i (.int .u8 0) ht hu hi hz ⟨g,0,none⟩ n cap xs (by rw[hsize];simpa using hxl) holds s (by omega) (by omega) (by rw[hby];exact growslice_fits (by omega) (by omega));rw[hr]at hr2;cases hr2;exact .inr ⟨_,rfl,Nat.le_refl _⟩
theorem aG {P:Program}(w:World){ops:Array Oper}{rest:List Oper}{o:Oper}{a:Act}{Q:Exit→Act→World→Prop}(hgd:o.guard=none)(sl x:Operand)(t u:TypeId)
  (ho:o.op = .call { callee:=.builtin .append,args:=#[sl,x],argTypes:=#[t,u] })
  (e:TypeId) (i:TypeInfo) (ht:P.underlying t=some (.slice e)) (hu:P.underlying u=some .string) (hi:P.info? e=some i) (hz:i.zero=some (.int .u8 0))
  (hsize:i.size=1) (hby:i.bytes=1)
  (v:Value) (n:Nat) (xs:List Value) (hs:a.eval sl=v) (hown:w.ownsRow 0 e 1 v n xs) (s:ByteArray) (hx:a.eval x = .string s)
  (h63:n+s.size≤maxLen) (hbytes:n+s.size≤140737488355328)
  (h:∀v' w',w'.ownsRow 0 e 1 v' (n+s.size) (xs++Lib.strCells s)→w.grownBy w' v.ownBlock→Went w v v'→wpList P ops Q rest (a.put o.dst v') w'):wpList P ops Q (o::rest) a w:=by
 refine wpList_plain hgd λK hK=>?_;obtain⟨v',w',hr,h2,h3,h4⟩:=aF (P:=P) w t u o.type e i ht hu hi hz hsize hby v n xs hown s h63 hbytes;unfold Oper.wp execOp;simp only[ho,resolve,invoke,builtin,Sem.run_bind,Sem.run_pure,Result.andThen_ok,List.map_toArray,List.map_cons,List.map_nil,hs,hx,hr];exact hK _ _ (h v' w' h2 h3 h4)
structure RdSt where
 at_:Nat
 e:Int
 tow:Int
def RdSt.take (st:RdSt)(s:List UInt8)(n:Nat):List UInt8×Bool×RdSt:=
 if st.e≠0 then ([],false,st)
 else if s.length-st.at_<n then ([],false,⟨st.at_,8,st.at_⟩)
 else ((s.drop st.at_).take n,true,⟨st.at_+n,st.e,st.tow⟩)
def val (l:List UInt8):Nat:=l.foldl (λn b=>n*256+b.toNat) 0
def RdSt.cells (st:RdSt)(s:ByteArray):Array Value:=#[.string s,.int .i64 (st.at_:Int),.int .i64 st.e,.int .i64 st.tow]
def IsRd (w:World)(p:Nat)(s:ByteArray)(st:RdSt):Prop:=w.heap[p]?=some (.cells (st.cells s) 185 (0,0))∧st.at_≤s.size∧s.size≤1099511627776
theorem IsRd.lt {w:World}{p:Nat}{s:ByteArray}{st:RdSt}(h:IsRd w p s st):p<w.heap.size:=lt_of_block h.1
theorem IsRd.cs {w:World}{p:Nat}{s:ByteArray}{st:RdSt}(h:IsRd w p s st) :
  w.cell? ⟨p,0,none⟩=some (.string s)∧w.cell? ⟨p,1,none⟩=some (.int .i64 (st.at_:Int))∧w.cell? ⟨p,2,none⟩=some (.int .i64 st.e)∧w.cell? ⟨p,3,none⟩=some (.int .i64 st.tow):=by
 refine⟨?_,?_,?_,?_⟩<;>rw[cell_of_row w p _ _ _ _ h.1]<;>rfl
theorem IsRd.fz {w:World}{p:Nat}{s:ByteArray}{st:RdSt}(h:IsRd w p s st)(j:Nat):w.frozen? ⟨p,j,none⟩=false:=frozen_of_row w p j _ _ h.1
theorem IsRd.kept {S:Nat→Prop}{w w':World}{p:Nat}{s:ByteArray}{st:RdSt}(h:IsRd w p s st)(hf:Fr S w w')(hp:¬S p):IsRd w' p s st:=⟨hf.heapAt h.1 hp,h.2⟩
theorem IsRd.drewN {w:World}{p:Nat}{s:ByteArray}{st:RdSt}(h:IsRd w p s st)(n:Nat):IsRd (w.drewN n) p s st:=h
theorem aH (s:ByteArray)(w:World)(hs:s.size≤1099511627776) :
  Calls Tryz.prog 65 #[.string s] w λe w'=>e = .returned (.pointer (some ⟨w.heap.size,0,none⟩))∧IsRd w' w.heap.size s ⟨0,0,0⟩∧Below w.heap.size w w':=by
 go_enter Tryz.func65,Tryz.ntmps65
 go_wp2;go_ret;exact⟨rfl,⟨heap_alloc_new _ _,Nat.zero_le _,hs⟩,(Below.refl _ _).alloc (Nat.le_refl _) _⟩
theorem aI (w:World)(p:Nat)(s:ByteArray)(st:RdSt)(h:IsRd w p s st)(b:Bool)(hb:(st.e == 0)=b) :
  Calls Tryz.prog 138 #[.pointer (some ⟨p,0,none⟩)] w λe w'=>e = .returned (.bool b)∧w=w':=by
 obtain⟨c0,c1,c2,c3⟩:=h.cs;clear h
 go_enter Tryz.func138,Tryz.ntmps138
 go_wp2;go_ret;exact⟨rfl,rfl⟩
theorem aJ (w:World)(p:Nat)(s:ByteArray)(st:RdSt)(h:IsRd w p s st)(e:Int)(a:Nat)(ha2:a≤s.size) :
  Calls Tryz.prog 139 #[.pointer (some ⟨p,0,none⟩),.int .i64 e,.int .i64 (a:Int)] w λe' w'=>e' = .returned (.tuple #[])∧IsRd w' p s ⟨a,e,a⟩∧Fr (λk=>k=p) w w':=by
 obtain⟨c0,c1,c2,c3⟩:=h.cs;have f1:=h.fz 1;have f2:=h.fz 2;have f3:=h.fz 3;have H:=hid h;clear h
 go_enter Tryz.func139,Tryz.ntmps139
 go_wp2
 go_end0
 refine⟨rfl,⟨?_,ha2,H.out.2.2⟩,?_⟩
 ·rw[heap_setCell_same _ _ _ _ _ _ (heap_setCell_same _ _ _ _ _ _ (heap_setCell_same _ _ _ _ _ _ H.out.1))]
  simp[RdSt.cells]
 ·exact(((Fr.refl (λk=>k=p) w).setCell ⟨p,2,none⟩ (λ_=>rfl) _).setCell ⟨p,3,none⟩ (λ_=>rfl) _).setCell ⟨p,1,none⟩ (λ_=>rfl) _
theorem aK (w:World)(p:Nat)(s:ByteArray)(st:RdSt)(h:IsRd w p s st)(n:Nat)(hn:n≤1099511627776) :
  Calls Tryz.prog 103 #[.pointer (some ⟨p,0,none⟩),.int .i64 (n:Int)] w λe w'=>∃r:ByteArray,r.data.toList=(st.take s.data.toList n).1∧e = .returned (.tuple #[.string r,.bool (st.take s.data.toList n).2.1])∧IsRd w' p s (st.take s.data.toList n).2.2∧Fr (λk=>k=p) w w':=by
 obtain⟨c0,c1,c2,c3⟩:=h.cs;have f1:=h.fz 1;have hat:=h.2.1;have hss:=h.2.2;by_cases he:st.e=0
 ·by_cases hlt:s.size-st.at_<n
  ·have HT:=hid (show st.take s.data.toList n=([],false,⟨st.at_,8,st.at_⟩)from by
    unfold RdSt.take;rw[am];rw[if_neg (λhx=>hx he),if_pos hlt])
   rw[HT.out];have H:=hid h;clear h;have hlt':(s.size:Int)-(st.at_:Int)<(n:Int):=by omega
   rw[he]at c2;have HE:=hid he;clear he
   go_enter Tryz.func103,Tryz.ntmps103
   go_wp2_with fail
   refine(aI _ p s st H.out true (by rw[HE.out];rfl)).mono ?_;rintro e w1 ⟨rfl,rfl⟩
   go_wp2_with fail
   go_quiet (fail)
   go_wp2_with fail
   refine(aJ _ p s st (H.out.drewN _) 8 st.at_ hat).mono ?_;rintro e w1 ⟨rfl,h1,hf1⟩;have H1:=hid h1;clear h1;go_wp2
   go_ret2
   exact⟨_,rfl,rfl,H1.out,(Fr.refl _ w).drewN _ |>.trans hf1⟩
  ·have HT:=hid (show st.take s.data.toList n=((s.data.toList.drop st.at_).take n,true,⟨st.at_+n,st.e,st.tow⟩)from by
    unfold RdSt.take;rw[am];rw[if_neg (λhx=>hx he),if_neg hlt])
   rw[HT.out];have H:=hid h;clear h;have hlt':(n:Int)≤(s.size:Int)-(st.at_:Int):=by omega
   rw[he]at c2;have HE:=hid he;clear he
   go_enter Tryz.func103,Tryz.ntmps103
   go_wp2_with fail
   refine(aI _ p s st H.out true (by rw[HE.out];rfl)).mono ?_;rintro e w1 ⟨rfl,rfl⟩
   go_wp2_with fail
   go_quiet (fail)
   go_wp2_with fail
   go_quiet (fail)
   go_wp2
   go_ret2
   refine⟨_,by rw[aw,Nat.add_sub_cancel_left],rfl,⟨?_,by show st.at_+n≤s.size;omega,hss⟩,((Fr.refl (λk=>k=p) w).drewN _).setCell ⟨p,1,none⟩ (λ_=>rfl) _⟩;rw[heap_setCell_same _ _ _ _ _ _ (H.out.drewN _).1];simp[RdSt.cells,HE.out]
 ·have HT:=hid (show st.take s.data.toList n=([],false,st)from by
   unfold RdSt.take;rw[if_pos he])
  rw[HT.out];have H:=hid h;have HE:=hid he;clear h he
  go_enter Tryz.func103,Tryz.ntmps103
  go_wp2_with fail
  refine(aI _ p s st H.out false (by simpa using HE.out)).mono ?_;rintro e w1 ⟨rfl,rfl⟩;go_wp2
  go_ret2
  exact⟨_,rfl,rfl,H.out,Fr.refl _ _⟩
def RdSt.fixed (st:RdSt)(s:List UInt8)(k:Nat):Nat×RdSt:=(val (st.take s k).1,(st.take s k).2.2)
theorem aL (l:List UInt8)(b:UInt8):val (l++[b])=val l*256+b.toNat:=by simp[val]
theorem aM (l:List UInt8):∀a:Nat,l.foldl (λn b=>n*256+b.toNat) a<(a+1)*256 ^ l.length:=by
 induction l with
 | nil=>intro a;simp
 | cons b l ih=>
  intro a;have h:=ih (a*256+b.toNat);have hb:=b.toNat_lt;rw[List.foldl_cons,List.length_cons,Nat.pow_succ,Nat.mul_comm (256 ^ l.length),← Nat.mul_assoc];exact Nat.lt_of_lt_of_le h (Nat.mul_le_mul_right _ (by omega))
theorem aN (l:List UInt8):val l<256 ^ l.length:=by
 have h:=aM l 0;rw[Nat.zero_add,Nat.one_mul]at h;exact h
theorem aO {l:List UInt8}(h:l.length≤7):val l<72057594037927936:=by
 have h1:=aN l;have h2:256 ^ l.length≤256 ^ 7:=Nat.pow_le_pow_right (by decide) h;exact Nat.lt_of_lt_of_le h1 h2
theorem aP (st:RdSt)(s:List UInt8)(n:Nat):(st.take s n).1.length≤n:=by
 unfold RdSt.take
 split
 ·simp
 ·split
  ·simp
  ·simp;omega
theorem aQ (w:World)(p:Nat)(s:ByteArray)(st:RdSt)(h:IsRd w p s st)(n:Nat)(hn:n≤1099511627776) :
  Calls Tryz.prog 66 #[.pointer (some ⟨p,0,none⟩),.int .i64 (n:Int)] w λe w'=>∃r:ByteArray,r.data.toList=(st.take s.data.toList n).1∧e = .returned (.string r)∧IsRd w' p s (st.take s.data.toList n).2.2∧Fr (λk=>k=p) w w':=by
 have H:=hid h;clear h
 go_enter Tryz.func66,Tryz.ntmps66
 go_wp2_with fail
 refine(aK _ p s st H.out n hn).mono ?_;rintro e w1 ⟨r,hr,rfl,h1,hf1⟩;have HR:=hid hr;have H1:=hid h1;clear hr h1;go_wp2;go_ret;exact⟨r,HR.out,rfl,H1.out,hf1⟩
theorem aR (n:Nat)(b:UInt8)(hn:n<72057594037927936):bits .or .u64 ((n:Int)*256) (IntKind.u64.wrap (b.toNat:Int))=((n*256+b.toNat:Nat):Int):=by
 have hb:=b.toNat_lt;rw[show IntKind.u64.wrap (b.toNat:Int)=(b.toNat:Int)from by rw[IntKind.wrap_u64];omega];rw[bits_join .u64 64 (by decide) (λx h0 h1=>by rw[IntKind.wrap_u64];omega) 8 ((n:Int)*256) (b.toNat:Int) (by omega) (by omega) (by omega) (by omega) (by omega) (by omega)];omega
theorem aS (r:ByteArray)(k:Nat)(h:k<r.size):val (r.data.toList.take (k+1))=val (r.data.toList.take k)*256+r[k].toNat:=by
 rw[List.take_succ_eq_append_getElem (by simpa using h),aL];rfl
theorem aT (w:World)(p:Nat)(s:ByteArray)(st:RdSt)(h:IsRd w p s st)(k:Nat)(hk:k≤8) :
  Calls Tryz.prog 104 #[.pointer (some ⟨p,0,none⟩),.int .i64 (k:Int)] w λe w'=>e = .returned (.int .u64 ((st.fixed s.data.toList k).1:Int))∧IsRd w' p s (st.fixed s.data.toList k).2∧Fr (λk=>k=p) w w':=by
 unfold RdSt.fixed;have H:=hid h;clear h
 go_enter Tryz.func104,Tryz.ntmps104
 go_wp2_with fail
 refine(aK _ p s st H.out k (by omega)).mono ?_;rintro e w1 ⟨r,hr,rfl,h1,hf1⟩;have hrs:r.size≤8:=by rw[av hr];exact Nat.le_trans (aP st s.data.toList k) hk
 have HR:=hid hr;have H1:=hid h1;clear hr h1;go_wp2
 go_loop [7,17] (λv i=>∃(j n:Nat),j≤r.size∧i = .int .i64 j∧v = .int .u64 (n:Int)∧n=val (r.data.toList.take j)) (λ_ i=>r.size-(intOf i).toNat)
 case atStart=>exact⟨0,0,by omega,rfl,rfl,rfl⟩
 case round=>
  obtain⟨j,n,hj,rfl,rfl,hn⟩:=hrel;by_cases hlt:j<r.size
  ·have hb7:n<72057594037927936:=by rw[hn];exact aO (by rw[List.length_take];omega)
   have HO:=hid (aR n r[j] hb7);have HN:=hid hn;clear hn;go_wp2
   go_round
   case rel=>exact⟨j+1,n*256+r[j].toNat,by omega,by go_num,by rw[HO.out],by rw[aS r j hlt,HN.out]⟩
   case measure=>simp[intOf];omega
  ·have HN:=hid hn
   clear hn;go_wp2;go_ret;exact⟨by rw[← HR.out,HN.out,List.take_of_length_le (by rw[am];omega)];rfl,H1.out,hf1⟩
theorem aU (w:World)(p:Nat)(s:ByteArray)(st:RdSt)(h:IsRd w p s st) :
  Calls Tryz.prog 67 #[.pointer (some ⟨p,0,none⟩)] w λe w'=>e = .returned (.int .u64 ((st.fixed s.data.toList 8).1:Int))∧IsRd w' p s (st.fixed s.data.toList 8).2∧Fr (λk=>k=p) w w':=by
 have H:=hid h;clear h
 go_enter Tryz.func67,Tryz.ntmps67
 go_wp2_with fail
 refine(aT _ p s st H.out 8 (by omega)).mono ?_;rintro e w1 ⟨rfl,h1,hf1⟩;have H1:=hid h1;clear h1;go_wp2;go_ret;exact⟨rfl,H1.out,hf1⟩
theorem aV (w:World)(p:Nat)(s:ByteArray)(st:RdSt)(h:IsRd w p s st) :
  Calls Tryz.prog 69 #[.pointer (some ⟨p,0,none⟩)] w λe w'=>e = .returned (.tuple #[.int .i64 st.e,.int .i64 st.tow])∧∃n,w'=w.drewN n:=by
 obtain⟨c0,c1,c2,c3⟩:=h.cs;clear h
 go_enter Tryz.func69,Tryz.ntmps69
 go_wp2_with fail
 go_quiet (fail)
 go_wp2
 go_ret2
 exact⟨rfl,_,rfl⟩
theorem aW (w:World)(p:Nat)(s:ByteArray)(st:RdSt)(h:IsRd w p s st) :
  Calls Tryz.prog 70 #[.pointer (some ⟨p,0,none⟩)] w λe w'=>e = .returned (.int .i64 ((s.size:Int)-(st.at_:Int)))∧∃n,w'=w.drewN n:=by
 obtain⟨c0,c1,c2,c3⟩:=h.cs;have h1:=h.2.1;have h2:=h.2.2;clear h
 go_enter Tryz.func70,Tryz.ntmps70
 go_wp2_with fail
 go_quiet (fail)
 go_wp2;go_ret;exact⟨rfl,_,rfl⟩
def RdSt.ended (st:RdSt)(n:Nat):Int:=if st.e=0∧st.at_<n then 4 else st.e
theorem aX (w:World)(p:Nat)(s:ByteArray)(st:RdSt)(h:IsRd w p s st) :
  Calls Tryz.prog 108 #[.pointer (some ⟨p,0,none⟩)] w λe w'=>e = .returned (.int .i64 (st.ended s.size))∧∃n,w'=w.drewN n:=by
 by_cases he:st.e=0
 ·by_cases hlt:st.at_<s.size
  ·rw[show st.ended s.size=4 from by unfold RdSt.ended;rw[if_pos ⟨he,hlt⟩]]
   have H:=hid h;have HE:=hid he;clear h he
   go_enter Tryz.func108,Tryz.ntmps108
   go_wp2_with fail
   refine(aV _ p s st H.out).mono ?_;rintro e w1 ⟨rfl,n1,rfl⟩;rw[HE.out]
   go_wp2_with fail
   refine(aW _ p s st (H.out.drewN _)).mono ?_;rintro e w1 ⟨rfl,n2,rfl⟩;go_wp2;go_ret;exact⟨rfl,_,rfl⟩
  ·rw[show st.ended s.size=0 from by unfold RdSt.ended;rw[if_neg (λh=>hlt h.2),he]]
   have H:=hid h;have HE:=hid he;clear h he
   go_enter Tryz.func108,Tryz.ntmps108
   go_wp2_with fail
   refine(aV _ p s st H.out).mono ?_;rintro e w1 ⟨rfl,n1,rfl⟩;rw[HE.out]
   go_wp2_with fail
   refine(aW _ p s st (H.out.drewN _)).mono ?_;rintro e w1 ⟨rfl,n2,rfl⟩;go_wp2;go_ret;exact⟨rfl,_,rfl⟩
 ·rw[show st.ended s.size=st.e from by unfold RdSt.ended;rw[if_neg (λh=>he h.1)]]
  have H:=hid h;have hE:(st.e == 0)=false:=by simpa using he
  clear h he
  go_enter Tryz.func108,Tryz.ntmps108
  go_wp2_with fail
  refine(aV _ p s st H.out).mono ?_;rintro e w1 ⟨rfl,n1,rfl⟩;go_wp2;go_ret;exact⟨rfl,_,rfl⟩
end
end Go.Proofs.YtaeakdichkhjaaaGreatDoor
