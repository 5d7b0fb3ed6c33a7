/- The walks of Create and Delete, each with what it does. -/
import Derived.Maps.OwnOps
import Derived.Maps.OwnSet
import Derived.Maps.RangeWalk
import Derived.Maps.Ext
import Derived.Deep.RegionWith
import Derived.Deep.RegionHeld3
import Derived.Test.YthjjgcfdhkhelaaGreatDoorQAh
set_option maxHeartbeats 1500000
set_option maxRecDepth 100000
open Go.Lib(hid)
open Go.Proofs.Tryz
namespace Go.Proofs.YthjjgcfdhkhelaaGreatDoor
section
open Go.RowKit Go.Maps
structure cy where
 name:List UInt8
 firm:List UInt8
 pend:List UInt8
deriving DecidableEq
abbrev Fs:=List cy
def cz (f:cy):DataW Unit:=.agg [.lit (.string f.firm),.lit (.string f.pend)]
def cA (f:cy):Lit×DataW Unit:=(.string f.name,cz f)
def fsD (fs:Fs):DataW Unit:=.map (fs.map cA)
def cC (v:Value):Option (DataW Unit×List MemPlace):=
 match v with
 | .agg cs=>match cs.toList with
  | [.string a,.string b]=>some (.agg [.lit (.string a.data.toList),.lit (.string b.data.toList)],[])
  | _=>none
 | _=>none
def cD (a b:ByteArray):Value:=.agg #[.string a,.string b]
theorem cF (a b:ByteArray):cC (cD a b)=some (.agg [.lit (.string a.data.toList),.lit (.string b.data.toList)],[]):=rfl
theorem cG {v:Value}{y:DataW Unit×List MemPlace}(h:cC v=some y):∃c:ByteArray×ByteArray,v=cD c.1 c.2:=by
 unfold cC at h
 split at h
 ·rename_i cs
  split at h
  ·rename_i a b hcs
   refine⟨(a,b),?_⟩;show Value.agg cs = .agg #[.string a,.string b];rw[show cs=#[Value.string a,.string b]from Array.ext' hcs]
  ·cases h
 ·cases h
theorem cH {v:Value}{f:cy}{ps:List MemPlace}(h:cC v=some (cz f,ps)):∃a b:ByteArray,v=cD a b∧a.data.toList=f.firm∧b.data.toList=f.pend:=by
 obtain⟨⟨a,b⟩,rfl⟩:=cG h;rw[cF]at h;simp only[Option.some.injEq,Prod.mk.injEq,cz,DataW.agg.injEq,List.cons.injEq,DataW.lit.injEq,Lit.string.injEq]at h;exact⟨a,b,rfl,h.1.1,h.1.2.1⟩
def cJ (f:cy):Fs→Fs
 | []=>[f]
 | g::r=>if bytesBefore f.name g.name then f::g::r else g::cJ f r
def cK (fs:Fs)(n:List UInt8):Fs:=fs.filter λg=>!(g.name == n)
def cL (fs:Fs)(f:cy):Fs:=cJ f (cK fs f.name)
def cM (fs:Fs)(n:List UInt8):Option cy:=fs.find? λg=>g.name == n
theorem cN (f:cy)(fs:Fs):DataW.insert (cA f) (fs.map cA)=(cJ f fs).map cA:=by
 induction fs with
 | nil=>rfl
 | cons g r ih=>
  show(if bytesBefore f.name g.name then _ else _)=_;unfold cJ
  split
  ·rfl
  ·simp only[List.map_cons,ih]
theorem cP (fs:Fs)(n:List UInt8):(fs.map cA).filter (λp=>!p.1.sameKey (.string n))=(cK fs n).map cA:=by
 unfold cK;rw[List.filter_map];rfl
theorem cQ (fs:Fs)(n:List UInt8):(fsD fs).del (.string n)=fsD (cK fs n):=by
 show DataW.map _=DataW.map _;rw[cP]
theorem cR (fs:Fs)(f:cy):(fsD fs).put (.string f.name) (cz f)=fsD (cL fs f):=by
 show DataW.map (DataW.insert (cA f) _)=DataW.map _;rw[cP,cN];rfl
theorem cS (fs:Fs)(n:List UInt8):(fs.map cA).find? (λp=>p.1.sameKey (.string n))=(cM fs n).map cA:=by
 unfold cM;rw[List.find?_map];rfl
theorem cT (fs:Fs)(n:List UInt8)(z:DataW Unit):(fsD fs).atKey (.string n) z=match cM fs n with|some f=>cz f|none=>z:=by
 unfold DataW.atKey fsD;simp only[cS];cases cM fs n<;>rfl
theorem cU (fs:Fs)(n:List UInt8):Maps.has (fsD fs) (.string n)=(cM fs n).isSome:=by
 show(fs.map cA).any (λp=>p.1.sameKey (.string n))=_;unfold cM
 induction fs with
 | nil=>rfl
 | cons f r ih=>
  simp only[List.map_cons,List.any_cons,List.find?_cons,ih];show((f.name == n) || _)=_;cases f.name == n<;>rfl
theorem cV (fs:Fs):Maps.size (fsD fs)=fs.length:=by show(fs.map cA).length=_;simp
theorem cW {fs:Fs}{n:List UInt8}{f:cy}(h:cM fs n=some f):f.name=n∧f∈fs:=by
 unfold cM at h;exact⟨by simpa using List.find?_some h,List.mem_of_find?_eq_some h⟩
def cX (fs:Fs):Nat:=(fs.map λf=>f.firm.length+f.pend.length).sum
def letters:List UInt8:=[97,98,99,100,101,102,103,104,105,106,107,108,109,110,111,112,113,114,115,116,117,118,119,120,121,122,65,66,67,68,69,70,71,72,73,74,75,76,77,78,79,80,81,82,83,84,85,86,87,88,89,90,48,49,50,51,52,53,54,55,56,57,45,95,46]
def cY (n:List UInt8):Bool:=decide (1≤n.length) && decide (n.length≤24) && n.all (λc=>letters.contains c)
structure cZ where
 fs:Fs
 cap:Int
 left:Int
 dark:Bool
structure FsOk (fs:Fs):Prop where
 sorted:fs.Pairwise (λf g=>bytesBefore f.name g.name=true)
 few:fs.length≤64
 small:∀f∈fs,f.firm.length+f.pend.length≤1048576
 names:∀f∈fs,f.name.length≤24
structure DkOk (st:cZ):Prop where
 fs:FsOk st.fs
 cap0:0≤st.cap
 cap1:st.cap≤9223372036854775807
 fits:(cX st.fs:Int)≤st.cap
 left0 : -1≤st.left
 left1:st.left≤9223372036854775807
def cZ.cells (st:cZ)(b:Nat):Array Value:=#[.map (some b),.int .i64 st.cap,.int .i64 st.left,.bool st.dark]
structure db (w:World) (p b:Nat) (st:cZ):Prop where
 cell:w.heap[p]?=some (.cells (st.cells b) 148 (0,0))
 own:w.ownsMap prog 9 cC b st.fs.length (fsD st.fs)
 ok:DkOk st
theorem dc {fs:Fs}(h:FsOk fs):cX fs≤67108864:=by
 have:∀(l:Fs),(∀f∈l,f.firm.length+f.pend.length≤1048576)→cX l≤l.length*1048576:=by
  intro l
  induction l with
  | nil=>intro _;simp[cX]
  | cons f l ih=>
   intro h;have h1:=h f (by simp);have h2:=ih (λg hg=>h g (by simp[hg]));simp only[cX,List.map_cons,List.sum_cons,List.length_cons]at h2 ⊢;omega
 have h1:=this fs h.small;have h2:=h.few;omega
theorem db.lt {w:World}{p b:Nat}{st:cZ}(h:db w p b st):p<w.heap.size:=lt_of_block h.cell
theorem db.ne {w:World}{p b:Nat}{st:cZ}(h:db w p b st):b≠p:=by
 intro e;obtain⟨es,clock,hb,_⟩:=h.own;have hc:=h.cell;rw[e,hc]at hb;cases hb
theorem db.cs {w:World}{p b:Nat}{st:cZ}(h:db w p b st) :
  w.cell? ⟨p,0,none⟩=some (.map (some b))∧w.cell? ⟨p,1,none⟩=some (.int .i64 st.cap)∧w.cell? ⟨p,2,none⟩=some (.int .i64 st.left)∧w.cell? ⟨p,3,none⟩=some (.bool st.dark):=by
 refine⟨?_,?_,?_,?_⟩<;>rw[cell_of_row w p _ _ _ _ h.cell]<;>rfl
theorem db.fz {w:World}{p b:Nat}{st:cZ}(h:db w p b st)(j:Nat):w.frozen? ⟨p,j,none⟩=false:=frozen_of_row w p j _ _ h.cell
theorem dd {S:Nat→Prop}{w w':World}{P:Program}{k:TypeId}{R:Value→Option (DataW Unit×List MemPlace)}{b n:Nat}{D:DataW Unit}(h:w.ownsMap P k R b n D)(hf:Fr S w w')(hb:¬S b):w'.ownsMap P k R b n D:=by
 obtain⟨es,clock,hh,r⟩:=h;exact⟨es,clock,hf.heapAt hh hb,r⟩
theorem df {w:World}{P:Program}{k:TypeId}{R:Value→Option (DataW Unit×List MemPlace)}{b n:Nat}{D:DataW Unit}(h:w.ownsMap P k R b n D):w.ownsMap P k R b (Maps.size D) D:=by
 obtain⟨es,clock,hh,F,_,rfl⟩:=h;exact⟨es,clock,hh,F,by simp[Maps.size,length_sorted],rfl⟩
theorem db.kept {S:Nat→Prop}{w w':World}{p b:Nat}{st:cZ}(h:db w p b st)(hf:Fr S w w')(hp:¬S p)(hb:¬S b):db w' p b st:=
 ⟨hf.heapAt h.cell hp,dd h.own hf hb,h.ok⟩
theorem db.pure {w w':World}{p b:Nat}{st:cZ}(h:db w p b st)(hb:Below w.heap.size w w'):db w' p b st:=h.kept (Fr.pure (S:=λ_=>False) hb) (λhf=>hf) (λhf=>hf)
theorem db.drewN {w:World}{p b:Nat}{st:cZ}(h:db w p b st)(n:Nat):db (w.drewN n) p b st:=⟨h.cell,h.own,h.ok⟩
theorem Tryz.strKey:Keyed prog 9:=string_keyed underlying9
theorem Tryz.zeroFile (w:World):(zeroValue 142).run prog w = .ok (cD ⟨#[]⟩ ⟨#[]⟩) w:=by kernel_rfl
theorem dg (w:World)(p b:Nat)(st:cZ)(h:db w p b st) :
  Calls prog 92 #[.pointer (some ⟨p,0,none⟩)] w λe w'=>e = .returned (.int .i64 (if st.dark then 45 else 0))∧w=w':=by
 obtain⟨c0,c1,c2,c3⟩:=h.cs;clear h;cases hd:st.dark<;>rw[hd]at c3<;>clear hd
 ·go_enter func92,ntmps92
  go_wp2;go_ret;exact⟨rfl,rfl⟩
 ·go_enter func92,ntmps92
  go_wp2;go_ret;exact⟨rfl,rfl⟩
def dh (w:World)(st:cZ)(n:List UInt8)(e:Ending)(w':World):Prop:=
 Below w.heap.size w w'∧∃a b:ByteArray,
  (if st.dark then a.data.toList=[]∧b.data.toList=[]∧e = .returned (.tuple #[cD a b,.int .i64 45])
   else match cM st.fs n with
    | none=>a.data.toList=[]∧b.data.toList=[]∧e = .returned (.tuple #[cD a b,.int .i64 5])
    | some f=>a.data.toList=f.firm∧b.data.toList=f.pend∧e = .returned (.tuple #[cD a b,.int .i64 0]))
def di (fs:Fs)(n:List UInt8)(a b:ByteArray):Prop:=
 match cM fs n with
 | some f=>a.data.toList=f.firm∧b.data.toList=f.pend
 | none=>a.data.toList=[]∧b.data.toList=[]
theorem dj {fs:Fs}{n:List UInt8}{v:Value}{ps:List MemPlace}(hv:cC v=some ((fsD fs).atKey (.string n) (.agg [.lit (.string []),.lit (.string [])]),ps)):∃a b,v=cD a b∧di fs n a b:=by
 rw[cT]at hv;unfold di;cases h:cM fs n with
 | some f=>rw[h]at hv;obtain⟨a,b,h1,h2,h3⟩:=cH hv;exact⟨a,b,h1,h2,h3⟩
 | none=>rw[h]at hv;obtain⟨a,b,h1,h2,h3⟩:=cH (f:=⟨[],[],[]⟩) hv;exact⟨a,b,h1,h2,h3⟩
theorem dl (w:World){ops:Array Oper}{rest:List Oper}{o:Oper}{a:Act}{Q:Exit→Act→World→Prop}(hg:o.guard=none)(m x:Operand)(hop:o.op=Op.lookup 146 m x true)
  (b:Nat) (fs:Fs) (hm:a.eval m = .map (some b)) (hown:w.ownsMap prog 9 cC b fs.length (fsD fs)) (n:ByteArray) (hx:a.eval x = .string n) (hn:n.size≤maxLen)
  (hK:∀f1 f2,di fs n.data.toList f1 f2→wpList prog ops Q rest (a.put o.dst (.tuple #[.agg #[.string f1,.string f2],.bool (cM fs n.data.toList).isSome])) w):wpList prog ops Q (o::rest) a w:=
 wpList_lookup_own_ok w hg m x _ hop 9 142 Tryz.strKey underlying146 cC (Tryz.zeroFile _) _ [] (cF _ _) b fs.length (fsD fs) hm hown _ _ hx (WideMaps.keyOf_string_mk underlying9 hn)
  (λv ps hv=>by obtain⟨f1,f2,rfl,hf⟩:=dj hv;rw[cU];exact hK f1 f2 hf)
theorem dm (w:World)(p b:Nat)(st:cZ)(h:db w p b st)(n:ByteArray)(hn:n.size≤maxLen) :
  Calls prog 84 #[.pointer (some ⟨p,0,none⟩),.string n] w λe w'=>dh w st n.data.toList e w':=by
 have H:=hid h;have H1:=hid (h.pure ((Below.refl _ _).alloc (Nat.le_refl _) (.cells #[.string ⟨#[]⟩,.string ⟨#[]⟩] 142)));have hp:=h.lt;have hbl:=h.own.lt;obtain⟨c0,c1,c2,c3⟩:=h.cs;clear h;cases hd:st.dark
 ·have HD:=hid hd
  clear hd
  go_enter func84,ntmps84
  go_wp2_with fail
  refine(dg _ p b st H1.out).mono ?_;rintro e w1 ⟨rfl,rfl⟩;rw[HD.out];cases hget:cM st.fs n.data.toList with
  | none=>
   have HG:=hid hget;clear hget
   go_wp2_with (at_lookup;refine dl _ rfl _ _ rfl b st.fs rfl H1.out.own n rfl hn ?_;intro f1 f2 hf;have HF:=hid hf;clear hf;rw[HG.out])
   refine bodyPost_ret (v:=.tuple #[cD ⟨#[]⟩ ⟨#[]⟩,.int .i64 5]) (by simp[results,results84,go_sem];rfl) rfl ⟨?_,⟨#[]⟩,⟨#[]⟩,?_⟩
   ·exact(((Below.refl _ _).alloc (Nat.le_refl _) _).alloc (by simp) _)
   ·rw[HD.out,HG.out];exact⟨rfl,rfl,rfl⟩
  | some f=>
   have HG:=hid hget;clear hget
   go_wp2_with (at_lookup;refine dl _ rfl _ _ rfl b st.fs rfl H1.out.own n rfl hn ?_;intro f1 f2 hf;have HF:=hid hf;clear hf;rw[HG.out])
   refine bodyPost_ret (v:=.tuple #[cD f1 f2,.int .i64 0]) (by simp[results,results84,go_sem];rfl) rfl ⟨?_,f1,f2,?_⟩
   ·exact(((Below.refl _ _).alloc (Nat.le_refl _) _).alloc (by simp) _)
   ·have hf:=HF.out
    unfold di at hf;rw[HG.out]at hf;rw[HD.out,HG.out];exact⟨hf.1,hf.2,rfl⟩
 ·have HD:=hid hd
  clear hd
  go_enter func84,ntmps84
  go_wp2_with fail
  refine(dg _ p b st H1.out).mono ?_;rintro e w1 ⟨rfl,rfl⟩;rw[HD.out];go_wp2;refine bodyPost_ret (v:=.tuple #[cD ⟨#[]⟩ ⟨#[]⟩,.int .i64 45]) (by simp[results,results84,go_sem];rfl) rfl ⟨?_,⟨#[]⟩,⟨#[]⟩,?_⟩
  ·exact(Below.refl _ _).alloc (Nat.le_refl _) _
  ·rw[HD.out];exact⟨rfl,rfl,rfl⟩
theorem dn (w:World)(a b:ByteArray)(h:a.size+b.size≤9223372036854775807) :
  Calls prog 117 #[.agg #[.string a,.string b]] w λe w'=>e = .returned (.int .i64 ((a.size+b.size:Nat):Int))∧Below w.heap.size w w':=by
 go_enter func117,ntmps117
 go_wp2;go_ret;exact⟨aa (by simp),(Below.refl _ _).alloc (Nat.le_refl _) _⟩
end
section
open Go.RowKit
theorem uz {l:List UInt8}(h:l.length≤1):val l<256:=by
 have h1:=bn l;have h2:256 ^ l.length≤256 ^ 1:=Nat.pow_le_pow_right (by decide) h;exact Nat.lt_of_lt_of_le h1 h2
theorem uA (w:World)(p:Nat)(s:ByteArray)(st:bc)(h:bd w p s st) :
  Calls prog 399 #[.pointer (some ⟨p,0,none⟩),.int .i64 1] w λe w'=>e = .returned (.int .u8 ((st.fixed s.data.toList 1).1:Int))∧bd w' p s (st.fixed s.data.toList 1).2∧Fr (λk=>k=p) w w':=by
 unfold bc.fixed;have H:=hid h;clear h
 go_enter func399,ntmps399
 go_wp2_with fail
 refine(bi _ p s st H.out 1 (by omega)).mono ?_;rintro e w1 ⟨r,hr,rfl,h1,hf1⟩;have hrs:r.size≤1:=by rw[ao hr];exact bt st s.data.toList 1
 have HR:=hid hr;have H1:=hid h1;clear hr h1;go_wp2
 go_loop [7,17] (λv i=>∃(j n:Nat),j≤r.size∧i = .int .i64 j∧v = .int .u64 (n:Int)∧n=val (r.data.toList.take j)) (λ_ i=>r.size-(intOf i).toNat)
 case atStart=>exact⟨0,0,by omega,rfl,rfl,rfl⟩
 case round=>
  obtain⟨j,n,hj,rfl,rfl,hn⟩:=hrel;by_cases hlt:j<r.size
  ·have hb7:n<72057594037927936:=by rw[hn];exact bp (by rw[List.length_take];omega)
   have HO:=hid (bw n r[j] hb7);have HN:=hid hn;clear hn;go_wp2
   go_round
   case rel=>exact⟨j+1,n*256+r[j].toNat,by omega,by go_num,by rw[HO.out],by rw[bz r j hlt,HN.out]⟩
   case measure=>simp[intOf];omega
  ·have hb2:n<256:=by rw[hn];exact uz (by rw[List.length_take,ak];omega)
   have HN:=hid hn;clear hn;go_wp2;go_ret;exact⟨by rw[← HR.out,HN.out,List.take_of_length_le (by rw[ak];omega)];rfl,H1.out,hf1⟩
theorem uB (w:World)(p:Nat)(s:ByteArray)(st:bc)(h:bd w p s st) :
  Calls prog 335 #[.pointer (some ⟨p,0,none⟩)] w λe w'=>e = .returned (.int .u8 ((st.fixed s.data.toList 1).1:Int))∧bd w' p s (st.fixed s.data.toList 1).2∧Fr (λk=>k=p) w w':=by
 have H:=hid h;clear h
 go_enter func335,ntmps335
 go_wp2_with fail
 refine(uA _ p s st H.out).mono ?_;rintro e w1 ⟨rfl,h1,hf1⟩;have H1:=hid h1;clear h1;go_wp2;go_ret;exact⟨rfl,H1.out,hf1⟩
section
variable {P:Program} {ops:Array Oper} {Q:Exit→Act→World→Prop} {md:Region.Mode} {S:World→Prop}
theorem tk (i:Nat){oi:Oper}{v:Value}{fuel:Nat}{listed:Array Bool}{a:Act}{w:World}
  (hi:ops[i]?=some oi:=by first|(simp only[List.getElem?_toArray,List.getElem?_cons_succ,List.getElem?_cons_zero];rfl)|(simp only[List.getElem?_toArray,List.getElem?_cons_zero];rfl))
  (hs:Region.noSelect ops=true:=by kernel_rfl) (hf:Region.free md ops listed i=true:=by kernel_rfl) (hr:(Region.ready md ops listed).contains i=true:=by kernel_rfl)
  (hQ:∀c a w,Q (.panic c) (a.put oi.dst v) w→Q (.panic c) a w:=by exact λ_ _ _ h=>h)
  (hy:YieldsIf P ops S oi v a:=by exact Or.inl ⟨by rfl,by(intro w hSw;(try dsimp only at hSw);go_simp;try with_reducible rfl)⟩) (hS:S w:=by assumption)
  (h:wpAnyH P md ops Q S fuel (listed.setIfInBounds i true) (a.put oi.dst v) w):wpAnyH P md ops Q S (fuel+1) listed a w:=wpAnyH_take hi hs hf hr hQ hy hS h
theorem rdy (i:Nat){o:Oper}{fuel:Nat}{listed:Array Bool}{a:Act}{w:World}(hr:Region.ready md ops listed=[i]:=by kernel_rfl)
  (hi:ops[i]?=some o:=by first|(simp only[List.getElem?_toArray,List.getElem?_cons_succ,List.getElem?_cons_zero];rfl)|(simp only[List.getElem?_toArray,List.getElem?_cons_zero];rfl))
  (h:∀K':Act→World→Prop,Shut (∀a w,S w→(S w→wpAnyH P md ops Q S fuel (listed.setIfInBounds i true) a w)→K' a w)→if Region.wanted o (yielded ops a.tmps)=true then Oper.wp P o a w K' Q else K' (a.put o.dst undef) w) :
  wpAnyH P md ops Q S (fuel+1) listed a w:=wpAnyH_ready hr (by simp) (AllReadyH.cons hi h AllReadyH.nil)
end
end
section
def mq:Nat→Code→Code
 | n+1,.seq _ b=>mq n b
 | _,c=>c
end
section
open Go.RowKit
theorem AD (w:World)(fv:Value):Calls prog 179 #[.slice none 0 0,fv] w λe w'=>e = .returned (.int .i64 (-1))∧w=w':=by
 go_enter func179,ntmps179
 go_wp2
 go_loopw [8] (λi wr=>i = .int .i64 0∧wr=w) (λ_ _=>0)
 case atStart=>exact⟨rfl,rfl⟩
 case round=>
  obtain⟨rfl,rfl⟩:=hrel;go_wp2;go_ret;exact⟨rfl,rfl⟩
theorem AE (w:World)(fv:Value):Calls prog 191 #[.slice none 0 0,fv] w λe w'=>e = .returned (.bool false)∧w=w':=by
 go_enter func191,ntmps191
 go_wp2_with fail
 refine(AD w fv).mono ?_;rintro e w1 ⟨rfl,rfl⟩;go_wp2;go_ret;exact⟨rfl,rfl⟩
theorem AF (w:World)(fv:Value):Calls prog 458 #[.slice none 0 0,fv] w λe w'=>e = .returned (.int .i64 (-1))∧w=w':=by
 go_enter func458,ntmps458
 go_wp2
 go_loopw [8] (λi wr=>i = .int .i64 0∧wr=w) (λ_ _=>0)
 case atStart=>exact⟨rfl,rfl⟩
 case round=>
  obtain⟨rfl,rfl⟩:=hrel;go_wp2;go_ret;exact⟨rfl,rfl⟩
theorem AG (w:World)(fv:Value):Calls prog 423 #[.slice none 0 0,fv] w λe w'=>e = .returned (.bool false)∧w=w':=by
 go_enter func423,ntmps423
 go_wp2_with fail
 refine(AF w fv).mono ?_;rintro e w1 ⟨rfl,rfl⟩;go_wp2;go_ret;exact⟨rfl,rfl⟩
theorem AH (w:World)(fv:Value):Calls prog 462 #[.slice none 0 0,fv] w λe w'=>e = .returned (.int .i64 (-1))∧w=w':=by
 go_enter func462,ntmps462
 go_wp2
 go_loopw [8] (λi wr=>i = .int .i64 0∧wr=w) (λ_ _=>0)
 case atStart=>exact⟨rfl,rfl⟩
 case round=>
  obtain⟨rfl,rfl⟩:=hrel;go_wp2;go_ret;exact⟨rfl,rfl⟩
theorem AJ (w:World)(fv:Value):Calls prog 427 #[.slice none 0 0,fv] w λe w'=>e = .returned (.bool false)∧w=w':=by
 go_enter func427,ntmps427
 go_wp2_with fail
 refine(AH w fv).mono ?_;rintro e w1 ⟨rfl,rfl⟩;go_wp2;go_ret;exact⟨rfl,rfl⟩
theorem AK (w:World)(fv:Value):Calls prog 465 #[.slice none 0 0,fv] w λe w'=>e = .returned (.int .i64 (-1))∧w=w':=by
 go_enter func465,ntmps465
 go_wp2
 go_loopw [8] (λi wr=>i = .int .i64 0∧wr=w) (λ_ _=>0)
 case atStart=>exact⟨rfl,rfl⟩
 case round=>
  obtain⟨rfl,rfl⟩:=hrel;go_wp2;go_ret;exact⟨rfl,rfl⟩
theorem AL (w:World)(fv:Value):Calls prog 433 #[.slice none 0 0,fv] w λe w'=>e = .returned (.bool false)∧w=w':=by
 go_enter func433,ntmps433
 go_wp2_with fail
 refine(AK w fv).mono ?_;rintro e w1 ⟨rfl,rfl⟩;go_wp2;go_ret;exact⟨rfl,rfl⟩
theorem AM (w:World)(fv:Value):Calls prog 385 #[.slice none 0 0,fv] w λe w'=>e = .returned (.int .i64 (-1))∧w=w':=by
 go_enter func385,ntmps385
 go_wp2
 go_loopw [8] (λi wr=>i = .int .i64 0∧wr=w) (λ_ _=>0)
 case atStart=>exact⟨rfl,rfl⟩
 case round=>
  obtain⟨rfl,rfl⟩:=hrel;go_wp2;go_ret;exact⟨rfl,rfl⟩
theorem AN (w:World)(fv:Value):Calls prog 300 #[.slice none 0 0,fv] w λe w'=>e = .returned (.bool false)∧w=w':=by
 go_enter func300,ntmps300
 go_wp2_with fail
 refine(AM w fv).mono ?_;rintro e w1 ⟨rfl,rfl⟩;go_wp2;go_ret;exact⟨rfl,rfl⟩
end
section
open Go.RowKit Go.Maps
def dp (fs:Fs)(left:Lit→Bool):Nat:=cX (fs.filter λf=>!left (.string f.name))
theorem dr (fs:Fs):dp fs (Maps.has (fsD fs))=0:=by
 have:fs.filter (λf=>!Maps.has (fsD fs) (.string f.name))=[]:=by
  rw[List.filter_eq_nil_iff];intro f hf;rw[cU];simp only[Bool.not_eq_true',Bool.not_eq_false];unfold cM;rw[List.find?_isSome];exact⟨f,hf,by simp⟩
 unfold dp;rw[this];rfl
theorem dt (fs:Fs){left:Lit→Bool}(h:∀k,left k=false):dp fs left=cX fs:=by
 unfold dp;rw[List.filter_eq_self.2 (λf _=>by simp[h])]
theorem du {a b:List UInt8}(h:bytesBefore a b=true):a≠b:=by
 intro e;subst e;have:(Lit.string a).before (.string a)=true:=h;have hx:=apart_of_rising (H:=Unit) (es:=[(.string a,.nil),(.string a,.nil)]) (by simp[this]);simp at hx
theorem dw {fs:Fs}(h:FsOk fs):fs.Pairwise (λf g=>f.name≠g.name):=h.sorted.imp λh=>du h
theorem dx {fs:Fs}(hp:fs.Pairwise (λf g=>f.name≠g.name)){left:Lit→Bool}{n:List UInt8}{f:cy}(hl:left (.string n)=true)(hg:cM fs n=some f) :
  dp fs (λz=>left z && !z.sameKey (.string n))=dp fs left+(f.firm.length+f.pend.length):=by
 induction fs with
 | nil=>simp[cM]at hg
 | cons g r ih=>
  obtain⟨h1,h2⟩:=List.pairwise_cons.1 hp;have cons:∀(l:Lit→Bool),dp (g::r) l=(if l (.string g.name) then 0 else g.firm.length+g.pend.length)+dp r l:=by
   intro l;unfold dp;rw[List.filter_cons];cases l (.string g.name)<;>simp[cX]
  rw[cons,cons];by_cases e:g.name=n
  ·have hgf:g=f:=by
    unfold cM at hg;rw[List.find?_cons,show(g.name == n)=true from by simp[e]]at hg;exact Option.some.inj hg
   have hr:dp r (λz=>left z && !z.sameKey (.string n))=dp r left:=by
    unfold dp;congr 1;apply List.filter_congr;intro x hx;have hne:x.name≠n:=λe2=>h1 x hx (e.trans e2.symm);have:(Lit.string x.name).sameKey (.string n)=false:=by show(x.name == n)=false;simpa using hne
    simp only[this];simp
   have hs:(Lit.string g.name).sameKey (.string n)=true:=by show(g.name == n)=true;simp[e]
   rw[hr,hs,e,hl,← hgf];simp;omega
  ·have hgr:cM r n=some f:=by
    unfold cM at hg ⊢;rw[List.find?_cons,show(g.name == n)=false from by simpa using e]at hg;exact hg
   have hs:(Lit.string g.name).sameKey (.string n)=false:=by show(g.name == n)=false;simpa using e
   rw[ih h2 hgr,hs];simp;omega
theorem dy {w w':World}(h:Below w.heap.size w w')(row:Option Nat):w.grownBy w' row:=⟨h.os,h.tape,h.output,h.size,λk hk _=>h.block k hk⟩
theorem dz {P:Program}{k:TypeId}(hk:P.underlying k=some .string){key:Value}{kl:Lit}(h:keyOf P k key=some kl):∃s:ByteArray,key = .string s∧kl = .string s.data.toList∧s.size≤maxLen:=by
 cases key<;>simp[keyOf,hk,mapKey]at h
 rename_i s
 obtain⟨hs,rfl⟩:=h;exact⟨s,rfl,rfl,hs⟩
theorem dA (w:World){ops:Array Oper}{rest:List Oper}{o:Oper}{a:Act}{Q:Exit→Act→World→Prop}(hg:o.guard=none)(it:Operand)(hop:o.op=Op.next it false)
  (b r:Nat) (fs:Fs) (left:Lit→Bool) (cnt:Nat) (hit:a.eval it = .pointer (some ⟨r,0,none⟩)) (h:w.ranges prog 9 cC b r fs.length (fsD fs) left cnt)
  (hDone:(∀kl,left kl=false)→wpList prog ops Q rest (a.put o.dst (.tuple #[.bool false])) w)
  (hMore:∀(x f1 f2:ByteArray) (f:cy) (w':World) (cnt':Nat),cM fs x.data.toList=some f→f1.data.toList=f.firm→f2.data.toList=f.pend→left (.string x.data.toList)=true →
    w'.ranges prog 9 cC b r fs.length (fsD fs) (λz=>left z && !z.sameKey (.string x.data.toList)) cnt'→cnt'<cnt→w.grownBy w' (some r)→w'.heap.size=w.heap.size→(Instr.entry (.pointer (some ⟨r,0,none⟩))).run prog w' = .ok (.tuple #[.string x,.agg #[.string f1,.string f2]]) w'→wpList prog ops Q rest (a.put o.dst (.tuple #[.bool true,.string x,.agg #[.string f1,.string f2]])) w') :
  wpList prog ops Q (o::rest) a w:=
 wpList_next_ranges w hg it hop 9 Tryz.strKey cC (λx:ByteArray=>.string x) (λc:ByteArray×ByteArray=>cD c.1 c.2)
  (λkey kl hk=>by obtain⟨s,rfl,_⟩:=dz underlying9 hk;exact⟨s,rfl⟩) (λv y h=>cG h) b r fs.length (fsD fs) left cnt hit h (λ_ hl=>hDone hl)
  (λx c kl y w' cnt' hk hl hv hat hrg hlt hgr hsz hen=>by
    obtain⟨s,hs,rfl,_⟩:=dz underlying9 hk;cases hs;have hhas:=Maps.has_true_of_atKey hat;rw[cU]at hhas;obtain⟨f,hf⟩:=Option.isSome_iff_exists.1 hhas;have hy:=hat .nil;rw[cT,hf]at hy;simp only at hy;obtain⟨f1,f2,hv2,h1,h2⟩:=cH (v:=cD c.1 c.2) (f:=f) (ps:=y.2) (by rw[hv,hy]);have e1:c.1=f1∧c.2=f2:=by simpa[cD]using hv2
    rw[← e1.1]at h1;rw[← e1.2]at h2;exact hMore x c.1 c.2 f w' cnt' hf h1 h2 hl hrg hlt hgr hsz hen)
theorem dC {fs:Fs}(hp:fs.Pairwise (λf g=>f.name≠g.name))(left:Lit→Bool):dp fs left≤cX fs:=by
 unfold dp cX
 induction fs with
 | nil=>simp
 | cons f r ih=>
  have:=ih (List.pairwise_cons.1 hp).2;rw[List.filter_cons]
  split<;>simp<;>omega
theorem dD (w:World)(p b:Nat)(st:cZ)(hcell:w.heap[p]?=some (.cells (st.cells b) 148 (0,0)))(hown:w.ownsMap prog 9 cC b st.fs.length (fsD st.fs))(hfs:FsOk st.fs) :
  Calls prog 88 #[.pointer (some ⟨p,0,none⟩)] w λe w'=>e = .returned (.int .i64 (cX st.fs:Int))∧Below w.heap.size w w':=by
 have H:=hid hown;have HS:=hid hfs;have c0:w.cell? ⟨p,0,none⟩=some (.map (some b)):=by rw[cell_of_row w p _ _ _ _ hcell];rfl
 have hap:=hid (dw hfs);have hul:=dc hfs;clear hown hfs hcell
 go_enter func88,ntmps88
 go_wp2_with (at_range;refine wpList_range_own _ rfl _ _ rfl 9 142 Tryz.strKey underlying146 cC b st.fs.length (fsD st.fs) rfl H.out ?_;intro w0 hrg0 hg0 hs0;clear c0)
 go_frame
 go_loopw [3] (λx wr=>∃left cnt,x = .int .i64 (dp st.fs left:Int)∧wr.ranges prog 9 cC b w.heap.size st.fs.length (fsD st.fs) left cnt∧Below w.heap.size w wr) (λ_ wr=>wr.rangeLeft b w.heap.size)
 case atStart=>exact⟨_,_,by rw[dr];rfl,hrg0,⟨hg0.os,hg0.tape,hg0.output,hg0.size,λk hk=>hg0.block k hk (by simp)⟩⟩
 case round=>
  obtain⟨left,cnt,rfl,hrg,hbw⟩:=hrel;have hle:dp st.fs left≤67108864:=Nat.le_trans (dC hap.out left) hul
  go_wp2_with (at_next;refine dA _ rfl _ rfl b w.heap.size st.fs _ _ rfl hrg ?_ ?_)
  ·intro hl0
   have HE:=hid (dt st.fs hl0);go_wp2;go_ret;exact⟨aa (by rw[HE.out]),hbw⟩
  ·intro x f1 f2 f w1 cnt1 hget h1 h2 hlx hrg1 hlt hg1 hs1 hen
   have HG:=hid hget;have HST:=hid (dx hap.out hlx hget);have hsm:f1.size+f2.size≤1048576:=by
    rw[ao h1,ao h2];exact HS.out.small f (cW hget).2
   have HFS:=hid (show f1.size+f2.size=f.firm.length+f.pend.length from by rw[ao h1,ao h2]);clear hget h1 h2 hlx;have hnlt:dp st.fs (λz=>left z && !z.sameKey (.string x.data.toList))≤67108864:=Nat.le_trans (dC hap.out _) hul;have hbw1:=hbw.grown hg1 hbw.size (λk e=>by cases e;exact Nat.le_refl _)
   go_wp2_with fail
   refine(dn _ f1 f2 (by omega)).mono ?_;rintro e w2 ⟨rfl,hb2⟩;have hrg2:=(hrg1.alloc (.cells #[.string f1,.string f2] 142)).kept (dy hb2 none) (by simp) (by simp);have hbw2:=(hbw1.alloc hbw1.size (.cells #[.string f1,.string f2] 142)).trans (hb2.mono (by simp;have:=hbw1.size;omega));go_wp2
   go_roundw
   case rel=>exact⟨_,cnt1,by rw[HST.out,← HFS.out];go_num,hrg2,hbw2⟩
   case measure=>rw[hrg2.left_eq,hrg.left_eq];exact hlt
theorem dE (w:World)(p b:Nat)(st:cZ)(h:db w p b st) :
  Calls prog 88 #[.pointer (some ⟨p,0,none⟩)] w λe w'=>e = .returned (.int .i64 (cX st.fs:Int))∧Below w.heap.size w w':=dD w p b st h.cell h.own h.ok.fs
theorem dF {p:UInt8→Bool}:∀{l:List UInt8},l.all p=false→∃x r,l.dropWhile p=x::r∧p x=false
 | [],h=>by simp at h
 | a::l,h=>by
  cases ha:p a
  ·exact⟨a,l,by rw[List.dropWhile_cons,ha];rfl,ha⟩
  ·rw[List.all_cons,ha,Bool.true_and]at h
   obtain⟨x,r,h1,h2⟩:=dF h;exact⟨x,r,by rw[List.dropWhile_cons,ha];exact h1,h2⟩
theorem dG {p:UInt8→Bool}:∀{l:List UInt8},l.all p=true→l.dropWhile p=[]
 | [],_=>rfl
 | a::l,h=>by
  rw[List.all_cons,Bool.and_eq_true]at h;rw[List.dropWhile_cons,h.1];exact dG h.2
theorem dH (l cs:List UInt8):(Lib.trimS l cs=[])↔l.all (λc=>cs.contains c)=true:=by
 unfold Lib.trimS Lib.trimRightS Lib.trimLeftS;constructor
 ·intro h
  cases hall:l.all (λc=>cs.contains c)
  ·have hr:(l.reverse.all (λc=>cs.contains c))=false:=by
    rw[List.all_reverse];exact hall
   obtain⟨x,r,h1,h2⟩:=dF hr;rw[h1]at h;have hx:((x::r).reverse.all (λc=>cs.contains c))=false:=by
    rw[List.all_eq_false];exact⟨x,by simp,by simp only[h2];simp⟩
   obtain⟨y,q,h3,_⟩:=dF hx;rw[h3]at h;simp at h
  ·rfl
 ·intro h
  have hr:(l.reverse.all (λc=>cs.contains c))=true:=by rw[List.all_reverse];exact h
  rw[dG hr];rfl
theorem dI (s:ByteArray)(w:World)(hs:s.size≤9223372036854775807) :
  Calls prog 87 #[.string s] w λe w'=>e = .returned (.bool (cY s.data.toList))∧Below w.heap.size w w':=by
 by_cases h1:1≤s.size
 ·by_cases h24:s.size≤24
  ·go_enter func87,ntmps87
   go_wp2_with fail
   refine(Any.strings_Trim_laid Tryz.lays160 (by kernel_rfl) s ⟨letters.toArray⟩ _ hs (by decide) (ascii_of_all (by decide))).mono ?_;rintro e w1 ⟨rfl,hb1⟩;go_wp2;go_ret;refine⟨ay ?_,hb1⟩;have e1:=dH s.data.toList letters;unfold cY;rw[ak,decide_eq_true h1,decide_eq_true h24,Bool.true_and,Bool.true_and,Bool.eq_iff_iff,List.isEmpty_iff];exact e1
  ·have HM:=hid (show cY s.data.toList=false from by unfold cY;rw[ak];simp[h24])
   go_enter func87,ntmps87
   go_wp2;go_ret;exact⟨ay HM.out.symm,Below.refl _ _⟩
 ·have HM:=hid (show cY s.data.toList=false from by unfold cY;rw[ak];simp[h1])
  go_enter func87,ntmps87
  go_wp2;go_ret;exact⟨ay HM.out.symm,Below.refl _ _⟩
theorem dJ {w w':World}{b:Nat}(h:w.mapTurned w' b):Fr (λk=>k=b) w w':=
 ⟨h.grown.os,h.grown.tape,h.grown.output,h.grown.size,λk hk hs=>h.grown.block k hk (λe=>hs (Option.some.inj e))⟩
theorem db.setLeft {w:World}{p b:Nat}{st:cZ}(h:db w p b st)(n:Int)(h0 : -1≤n)(h1:n≤9223372036854775807):db (w.setCell ⟨p,2,none⟩ (.int .i64 n)) p b { st with left:=n }:=
 ⟨by rw[heap_setCell_same w p 2 _ _ _ h.cell];rfl,h.own.setCell (by show b≠p;exact h.ne) _,⟨h.ok.fs,h.ok.cap0,h.ok.cap1,h.ok.fits,h0,h1⟩⟩
theorem db.setDark {w:World}{p b:Nat}{st:cZ}(h:db w p b st)(d:Bool):db (w.setCell ⟨p,3,none⟩ (.bool d)) p b { st with dark:=d }:=
 ⟨by rw[heap_setCell_same w p 3 _ _ _ h.cell];rfl,h.own.setCell (by show b≠p;exact h.ne) _,⟨h.ok.fs,h.ok.cap0,h.ok.cap1,h.ok.fits,h.ok.left0,h.ok.left1⟩⟩
theorem dK {w:World}(a:Addr)(u:Value):Fr (λk=>k=a.block) w (w.setCell a u):=(Fr.refl (λk=>k=a.block) w).setCell a (λ_=>rfl) u
def dec (n:Int):Int:=if n = -1 then -1 else n-1
theorem dL (fk:FuncId)(caps:Array Value)(w:World)(p b:Nat)(st:cZ)(h:db w p b st)(hent:Enters prog fk)(Q:World→Prop)
  (hact:st.left≠0→∀w1,Fr (λk=>k=p) w w1→w1.heap.size=w.heap.size→db w1 p b { st with left:=dec st.left }→Calls prog fk caps w1 λe w2=>e = .returned (.tuple #[])∧Q w2) :
  Calls prog 85 #[.pointer (some ⟨p,0,none⟩),.func (.func fk) #[] caps] w λe w'=>
   (st.left=0∧e = .returned (.int .i64 45)∧Fr (λk=>k=p) w w'∧db w' p b { st with dark:=true })∨(st.left≠0∧e = .returned (.int .i64 0)∧Q w'):=by
 have he:∀(args:Array Value) (w:World),(callFunc fk args).run prog w = .ok (.enter fk args) w:=hent;have hp:=h.lt;obtain⟨c0,c1,c2,c3⟩:=h.cs;have z3:=h.fz 3;have z2:=h.fz 2;by_cases h0:st.left=0
 ·have HD:=hid (h.setDark true)
  have H0:=hid h0;clear hact h;rw[h0]at c2;clear h0
  go_enter func85,ntmps85
  go_wp2;go_ret;exact .inl ⟨H0.out,rfl,dK ⟨p,3,none⟩ _,HD.out⟩
 ·by_cases h1:st.left = -1
  ·have HA:=hid (hact h0 w (Fr.refl _ _) rfl (by rw[h1];have:=h;cases st;simp only at h1;subst h1;exact this))
   have H0:=hid h0;clear hact h;rw[h1]at c2;clear h0 h1
   go_enter func85,ntmps85
   go_wp2_with fail
   refine HA.out.mono ?_;rintro e w2 ⟨rfl,hq⟩;have HQ:=hid hq;clear hq;go_wp2;go_ret;exact .inr ⟨H0.out,rfl,HQ.out⟩
  ·have hl0:=h.ok.left0
   have hl1:=h.ok.left1;have HA:=hid (hact h0 _ (dK ⟨p,2,none⟩ (.int .i64 (st.left-1))) (by simp) (by
    rw[show dec st.left=st.left-1 from by unfold dec;rw[if_neg h1]];exact h.setLeft _ (by omega) (by omega)))
   have H0:=hid h0;clear hact h
   go_enter func85,ntmps85
   go_wp2_with fail
   refine HA.out.mono ?_;rintro e w2 ⟨rfl,hq⟩;have HQ:=hid hq;clear hq;go_wp2;go_ret;exact .inr ⟨H0.out,rfl,HQ.out⟩
theorem dM {w:World}{b n:Nat}{fs:Fs}(h:w.ownsMap prog 9 cC b n (fsD fs)):fs.Pairwise (λf g=>bytesBefore f.name g.name=true):=by
 obtain⟨es,clock,_,F,_,e⟩:=h;have h1:=WideShapes.rising_pairwise _ (fit_rising Tryz.strKey F);have e3:(DataW.map (fs.map cA):DataW Unit)=fsD fs:=rfl;rw[e]at e3;have e2:=DataW.map.inj e3;rw[← e2,List.pairwise_map]at h1;exact h1
theorem dN (f:cy)(fs:Fs):cX (f::fs)=(f.firm.length+f.pend.length)+cX fs:=by simp[cX]
theorem dO {f g:cy}{fs:Fs}:g∈cJ f fs↔g=f∨g∈fs:=by
 induction fs with
 | nil=>simp[cJ]
 | cons h r ih=>
  unfold cJ
  split
  ·simp
  ·simp only[List.mem_cons,ih]
   constructor
   ·rintro(h|h|h)<;>simp[h]
   ·rintro(h|h|h)<;>simp[h]
theorem dP (f:cy)(fs:Fs):(cJ f fs).length=fs.length+1:=by
 induction fs with
 | nil=>rfl
 | cons h r ih=>unfold cJ;split<;>simp[ih]
theorem dQ (f:cy)(fs:Fs):cX (cJ f fs)=(f.firm.length+f.pend.length)+cX fs:=by
 induction fs with
 | nil=>rfl
 | cons h r ih=>
  unfold cJ
  split
  ·exact dN _ _
  ·rw[dN,ih,dN];omega
theorem dR {g:cy}{fs:Fs}{n:List UInt8}:g∈cK fs n↔g∈fs∧g.name≠n:=by
 unfold cK;rw[List.mem_filter];simp
theorem dS (fs:Fs)(n:List UInt8):(cK fs n).length≤fs.length:=List.length_filter_le _ _
theorem dT (fs:Fs)(n:List UInt8):cX (cK fs n)≤cX fs:=by
 induction fs with
 | nil=>simp[cK]
 | cons g r ih=>
  unfold cK at ih ⊢;rw[List.filter_cons,dN]
  split
  ·rw[dN];omega
  ·omega
theorem dU {fs:Fs}{n:List UInt8}(h:cM fs n=none):cK fs n=fs:=by
 unfold cK;rw[List.filter_eq_self];intro g hg;have:=List.find?_eq_none.1 h g hg;simpa using this
theorem dV {fs:Fs}(hp:fs.Pairwise (λf g=>f.name≠g.name)){n:List UInt8}{f:cy}(h:cM fs n=some f):cX (cK fs n)+(f.firm.length+f.pend.length)=cX fs∧(cK fs n).length+1=fs.length:=by
 induction fs with
 | nil=>simp[cM]at h
 | cons g r ih=>
  obtain⟨h1,h2⟩:=List.pairwise_cons.1 hp;unfold cM at h;rw[List.find?_cons]at h;unfold cK;rw[List.filter_cons];by_cases e:g.name=n
  ·rw[show(g.name == n)=true from by simp[e]]at h ⊢
   have hgf:g=f:=Option.some.inj h;subst hgf;have hr:r.filter (λg=>!(g.name == n))=r:=by
    rw[List.filter_eq_self];intro x hx;have:x.name≠n:=λe2=>h1 x hx (e.trans e2.symm);simpa using this
   rw[if_neg (by simp),hr,dN];exact⟨by omega,rfl⟩
  ·rw[show(g.name == n)=false from by simpa using e]at h ⊢
   have:=ih h2 h;rw[if_pos (by rfl),dN,dN,List.length_cons,List.length_cons];unfold cK at this;exact⟨by omega,by omega⟩
structure dW (fs:Fs):Prop where
 few:fs.length≤64
 small:∀f∈fs,f.firm.length+f.pend.length≤1048576
 names:∀f∈fs,f.name.length≤24
theorem FsOk.keep {fs:Fs}(h:FsOk fs):dW fs:=⟨h.few,h.small,h.names⟩
theorem dW.del {fs:Fs}(h:dW fs)(n:List UInt8):dW (cK fs n):=
 ⟨Nat.le_trans (dS _ _) h.few,λf hf=>h.small f (dR.1 hf).1,λf hf=>h.names f (dR.1 hf).1⟩
theorem dW.put {fs:Fs}(h:dW fs){f:cy}(hl:(cK fs f.name).length<64)(hs:f.firm.length+f.pend.length≤1048576)(hn:f.name.length≤24):dW (cL fs f):=by
 refine⟨by unfold cL;rw[dP];omega,?_,?_⟩<;>intro g hg<;>unfold cL at hg<;>rw[dO,dR]at hg<;>rcases hg with rfl|hg
 ·exact hs
 ·exact h.small g hg.1
 ·exact hn
 ·exact h.names g hg.1
theorem dX (fs:Fs)(f:cy):cX (cL fs f)=(f.firm.length+f.pend.length)+cX (cK fs f.name):=by unfold cL;rw[dQ]
theorem db.turned {w w':World}{p b n:Nat}{st:cZ}{fs':Fs}(h:db w p b st)(own:w'.ownsMap prog 9 cC b n (fsD fs'))(ht:w.mapTurned w' b)(hk:dW fs')(hf:(cX fs':Int)≤st.cap):db w' p b { st with fs:=fs' }:=
 ⟨(dJ ht).heapAt h.cell (λe=>h.ne e.symm),(by have:=df own;rw[cV]at this;exact this),⟨⟨dM own,hk.few,hk.small,hk.names⟩,h.ok.cap0,h.ok.cap1,hf,h.ok.left0,h.ok.left1⟩⟩
theorem db.fewer {w:World}{p b:Nat}{st:cZ}(h:db w p b st):st.fs.length<maxLen:=by have:=h.ok.fs.few;unfold maxLen;omega
abbrev dY (p b:Nat):World→World→Prop:=Fr (λk=>k=p∨k=b)
theorem Fr.toD {p b:Nat}{w w':World}(h:Fr (λk=>k=b) w w'):dY p b w w':=h.mono (λ_ _ e=>.inr e)
theorem Fr.toD1 {p b:Nat}{w w':World}(h:Fr (λk=>k=p) w w'):dY p b w w':=h.mono (λ_ _ e=>.inl e)
def dZ (st:cZ)(fs':Fs):cZ×Int:=if st.left=0 then ({ st with dark:=true },45) else ({ st with left:=dec st.left,fs:=fs' },0)
def d8 (p b:Nat)(r:cZ×Int)(w:World)(e:Ending)(w':World):Prop:=e = .returned (.int .i64 r.2)∧db w' p b r.1∧dY p b w w'
def d9 (p b:Nat)(st:cZ)(w:World)(e:Ending)(w':World):Prop:=e = .returned (.tuple #[])∧db w' p b st∧dY p b w w'
def ee (st:cZ)(n:List UInt8):cZ×Int:=
 if st.dark then (st,45) else if !cY n then (st,4) else if (cM st.fs n).isSome then (st,6) else if 64≤st.fs.length then (st,44) else dZ st (cL st.fs ⟨n,[],[]⟩)
def eh (st:cZ)(n:List UInt8):cZ×Int:=
 if st.dark then (st,45) else match cM st.fs n with|none=>(st,5)|some _=>dZ st (cK st.fs n)
theorem ei {n:List UInt8}(h:cY n=true):n.length≤24:=by
 unfold cY at h;simp at h;exact h.1.2
structure Capt (w:World) (q r p:Nat) (n:ByteArray):Prop where
 cq:w.cell? ⟨q,0,none⟩=some (.pointer (some ⟨p,0,none⟩))
 cr:w.cell? ⟨r,0,none⟩=some (.string n)
theorem db.drew {w:World}{p b:Nat}{st:cZ}(h:db w p b st):db w.drew p b st:=⟨h.cell,h.own,h.ok⟩
theorem ej (w:World)(q r p b:Nat)(st:cZ)(n:ByteArray)(hc:Capt w q r p n)(h:db w p b st)(hn:n.size≤24)(hl:st.fs.length<64)(hg:cM st.fs n.data.toList=none) :
  Calls prog 128 #[.pointer (some ⟨q,0,none⟩),.pointer (some ⟨r,0,none⟩)] w λe w'=>d9 p b { st with fs:=cL st.fs ⟨n.data.toList,[],[]⟩ } w e w':=by
 have H:=hid h;have hx1:=hc.cq;have hx2:=hc.cr;obtain⟨c0,c1,c2,c3⟩:=h.cs;have HK:=hid (WideMaps.keyOf_string_mk underlying9 (Nat.le_trans hn (by unfold maxLen;omega):n.size≤maxLen));have HF:=hid h.fewer;have HE:=hid (show dW (cL st.fs ⟨n.data.toList,[],[]⟩)∧(cX (cL st.fs ⟨n.data.toList,[],[]⟩):Int)≤st.cap from⟨h.ok.fs.keep.put (by show(cK st.fs n.data.toList).length<64;rw[dU hg];exact hl) (by simp) (by rw[ak];exact hn),by rw[dX,dU hg];have:=h.ok.fits;simpa using this⟩);clear hc h hn hl hg;obtain⟨w1,hrun,hown1,hturn1⟩:=H.out.drew.own.store (t:=146) (e:=142) Tryz.strKey underlying146 HF.out (key:=.string n) (val:=.agg #[.string ⟨#[]⟩,.string ⟨#[]⟩]) HK.out (cF _ _);have HO:=hid (H.out.drew.turned (fs':=cL st.fs ⟨n.data.toList,[],[]⟩) (by rw[← cR];exact hown1) hturn1 HE.out.1 HE.out.2);have HT:=hid (dJ hturn1);clear hown1 hturn1
 go_enter func128,ntmps128
 go_region
 go_wp2
 go_end0
 exact⟨rfl,HO.out,((Fr.refl _ w).drew.trans HT.out).toD⟩
theorem ek (w:World)(o1 o2:Obj):Below w.heap.size w ((w.alloc o1).alloc o2):=((Below.refl _ _).alloc (Nat.le_refl _) _).alloc (by simp) _
theorem el {w w':World}{p:Nat}{n:ByteArray}{S:Nat→Prop}{t1 t2:TypeId}(h:Fr S ((w.alloc (.cells #[.pointer (some ⟨p,0,none⟩)] t1)).alloc (.cells #[.string n] t2)) w')(h1:¬S w.heap.size)(h2:¬S (w.heap.size+1)):Capt w' w.heap.size (w.heap.size+1) p n:=
 ⟨h.cellAt (by rw[World.cell?_alloc_past _ _ _ (by simp),World.cell?_alloc_at _ _ _ _ rfl];rfl) h1,h.cellAt (by rw[World.cell?_alloc_at _ _ _ _ (by simp)];rfl) h2⟩
theorem Capt.fr {S:Nat→Prop}{w w':World}{q r p:Nat}{n:ByteArray}(h:Capt w q r p n)(hf:Fr S w w')(h1:¬S q)(h2:¬S r):Capt w' q r p n:=⟨hf.cellAt h.cq h1,hf.cellAt h.cr h2⟩
theorem eo (w:World)(b:Nat)(fs:Fs)(hown:w.ownsMap prog 9 cC b fs.length (fsD fs))(n:ByteArray)(hn:n.size≤maxLen) :
  ∃f1 f2,(Instr.lookup 146 (.map (some b)) (.string n) true).run prog w = .ok (.tuple #[.agg #[.string f1,.string f2],.bool (cM fs n.data.toList).isSome]) w:=by
 obtain⟨v,ps,hrun,hv⟩:=hown.look_ok Tryz.strKey underlying146 (Tryz.zeroFile w) (cF _ _) (WideMaps.keyOf_string_mk underlying9 hn);obtain⟨f1,f2,rfl,hf⟩:=dj hv;rw[cU]at hrun;exact⟨f1,f2,hrun⟩
theorem ep (w:World)(p b:Nat)(st:cZ)(h:db w p b st)(n:ByteArray)(hn:n.size≤maxLen) :
  Calls prog 62 #[.pointer (some ⟨p,0,none⟩),.string n] w λe w'=>d8 p b (ee st n.data.toList) w e w':=by
 have hmf:∀(fn:Fn) (first cap:Array Value) (w:World),(Instr.makeFunc fn first cap).run prog w = .ok (.func fn first cap) w:=λ_ _ _ _=>rfl;have hp:=h.lt;have hbl:=h.own.lt;have HN:=hid (show n.size≤9223372036854775807 from by unfold maxLen at hn;omega);have H:=hid h;have H1:=hid (h.pure (ek w (.cells #[.pointer (some ⟨p,0,none⟩)] 31) (.cells #[.string n] 9)));obtain⟨c0,c1,c2,c3⟩:=H1.out.cs;clear h;cases hd:st.dark
 ·have HD:=hid hd
  clear hd
  go_enter func62,ntmps62
  go_wp2_with fail
  refine(dg _ p b st H1.out).mono ?_;rintro e w1 ⟨rfl,rfl⟩;rw[HD.out];obtain⟨f1,f2,hr1⟩:=eo (((w.alloc (.cells #[.pointer (some ⟨p,0,none⟩)] 31)).alloc (.cells #[.string n] 9)).drew) b st.fs H1.out.drew.own n hn;obtain⟨g1,g2,hr2⟩:=eo ((((w.alloc (.cells #[.pointer (some ⟨p,0,none⟩)] 31)).alloc (.cells #[.string n] 9)).alloc (.cells #[.string ⟨#[]⟩,.string ⟨#[]⟩] 142)).drew) b st.fs (H1.out.pure ((Below.refl _ _).alloc (Nat.le_refl _) _)).drew.own n hn;obtain⟨d0,d1,d2,d3⟩:=(H1.out.pure ((Below.refl _ _).alloc (Nat.le_refl _) (.cells #[.string ⟨#[]⟩,.string ⟨#[]⟩] 142))).cs;have D0:=hid d0;clear d1 d2 d3;go_wp2
  go_region
  all_goals (go_wp2_with fail)
  all_goals
   refine(dI n _ HN.out).mono ?_;rintro e w5 ⟨rfl,hb5⟩;clear hr1 hr2 d0 c0 c1 c2 c3;have hb6:Below w.heap.size w w5:=(((ek w _ _).alloc (by simp;omega) _).drew).trans (hb5.mono (by simp;omega));have H6:=hid (H.out.pure hb6);have HC:=hid (el (S:=λ_=>False) ((((Fr.refl _ _).alloc _).drew).andPure hb5) (λhf=>hf) (λhf=>hf));have HB:=hid hb6;have hs5:w.heap.size+1<w5.heap.size:=by have:=hb5.size;simp at this;omega
   clear hb5 hb6;cases hm:cY n.data.toList
   ·have HM:=hid hm
    clear hm;go_wp2;go_ret;have e1:ee st n.data.toList=(st,4):=by unfold ee;rw[HD.out,HM.out];rfl
    rw[e1];exact⟨rfl,H6.out,Fr.pure HB.out⟩
   ·have HM:=hid hm
    clear hm;cases hs:cM st.fs n.data.toList with
    | some f=>
     have HS:=hid hs;clear hs;go_wp2;go_ret;have e1:ee st n.data.toList=(st,6):=by unfold ee;rw[HD.out,HM.out,HS.out];rfl
     rw[e1];exact⟨rfl,H6.out,Fr.pure HB.out⟩
    | none=>
     have HS:=hid hs;clear hs;obtain⟨c0,c1,c2,c3⟩:=H6.out.cs;have hx1:=HC.out.cq;have hx2:=HC.out.cr;by_cases hl:64≤st.fs.length
     ·go_wp2_with (at_len;refine wpList_len_own _ rfl _ 146 rfl 9 142 underlying146 cC b st.fs.length (fsD st.fs) rfl H6.out.own ?_;rw[cV])
      go_ret;have e1:ee st n.data.toList=(st,44):=by unfold ee;rw[HD.out,HM.out,HS.out,if_pos hl];rfl
      rw[e1];exact⟨rfl,H6.out,Fr.pure HB.out⟩
     ·go_wp2_with (first|(at_len;refine wpList_len_own _ rfl _ 146 rfl 9 142 underlying146 cC b st.fs.length (fsD st.fs) rfl H6.out.own ?_;rw[cV]))
      refine(dL 128 _ w5 p b st H6.out (enters_of func128 (by kernel_rfl) rfl) (λw2=>db w2 p b { st with left:=dec st.left,fs:=cL st.fs ⟨n.data.toList,[],[]⟩ }∧dY p b w5 w2) (λ_ w1 hf1 hs1 hd1=>(ej w1 _ _ p b { st with left:=dec st.left } n (HC.out.fr hf1 (by omega) (by omega)) hd1 (by have:=ei HM.out;rw[ak]at this;exact this) (by show st.fs.length<64;omega) HS.out).mono (λe w2 h2=>⟨h2.1,h2.2.1,hf1.toD1.trans h2.2.2⟩))).mono ?_;rintro e w7 (⟨h0,rfl,hf7,hd7⟩|⟨h0,rfl,hd7,hf7⟩)
      ·have H7:=hid hd7
       have F7:=hid hf7;have H0:=hid h0;clear hd7 hf7 h0;go_wp2;go_ret;have e1:ee st n.data.toList=({ st with dark:=true },45):=by unfold ee dZ;rw[HD.out,HM.out,HS.out,if_neg hl,if_pos H0.out];rfl
       rw[e1];exact⟨rfl,H7.out,(Fr.pure HB.out).trans F7.out.toD1⟩
      ·have H7:=hid hd7
       have F7:=hid hf7;have H0:=hid h0;clear hd7 hf7 h0;go_wp2;go_ret;have e1:ee st n.data.toList=({ st with left:=dec st.left,fs:=cL st.fs ⟨n.data.toList,[],[]⟩ },0):=by unfold ee dZ;rw[HD.out,HM.out,HS.out,if_neg hl,if_neg H0.out];rfl
       rw[e1];exact⟨rfl,H7.out,(Fr.pure HB.out).trans F7.out⟩
 ·have HD:=hid hd
  clear hd
  go_enter func62,ntmps62
  go_wp2_with fail
  refine(dg _ p b st H1.out).mono ?_;rintro e w1 ⟨rfl,rfl⟩;rw[HD.out];go_wp2;go_ret;have e1:ee st n.data.toList=(st,45):=by unfold ee;rw[HD.out];rfl
  rw[e1];exact⟨rfl,H1.out,Fr.pure (ek w _ _)⟩
end
end Go.Proofs.YthjjgcfdhkhelaaGreatDoor
