/- The walks of the small tests of numbers: book.between, auction.within, orders.between, posit.total, stmt.batch, fits; cmp.Compare, Or. -/
import Derived.Laws.StructEq
import Derived.Maps.Keyed
import Derived.ChangeMaps5
import Derived.Test.YtaeakdichkhjaaaGreatDoorQAh
set_option maxHeartbeats 1000000
open Go.Lib(hid)
namespace Go.Proofs.YtaeakdichkhjaaaGreatDoor
section
open Go.RowKit Go.Maps Go.ChangeMaps
theorem px (w:World)(b:Nat)(o:Obj):Fr (λg=>g=b) w (setBlock w b o):=
 ⟨rfl,rfl,rfl,by simp[setBlock],λk _ hk=>by
  show(w.heap.setIfInBounds b o)[k]?=w.heap[k]?;rw[Array.getElem?_setIfInBounds_ne (λe=>hk e.symm)]⟩
theorem py {w:World}{b:Nat}(h:b<w.heap.size)(o:Obj):(setBlock w b o).heap[b]?=some o:=by
 show(w.heap.setIfInBounds b o)[b]?=some o;rw[Array.getElem?_setIfInBounds_self_of_lt h]
section
variable {κ:Type} [DecidableEq κ]
def pz (ek:κ→Value)(k:κ):NMap κ→Nat→Option (Nat×Value)
 | [],_=>none
 | e::r,i=>if k=e.1 then some (i,.int .i64 e.2) else pz ek k r (i+1)
def kv (e:MapEntry):Value×Value:=(e.key,e.val)
def ekv (ek:κ→Value)(e:κ×Int):Value×Value:=(ek e.1,.int .i64 e.2)
structure KeyRuns (P:Program) (kt:TypeId) (ek:κ→Value):Prop where
 find:∀(w:World) (k:κ) (m:NMap κ) (es:List MapEntry),es.map kv=m.map (ekv ek)→(Instr.findKey kt (ek k) es).run P w = .ok (pz ek k m 0) w
 check:∀(w:World) (em:Bool) (k:κ),(Instr.checkKey em 10000 kt (ek k)).run P w = .ok () w
 same:∀k,Instr.sameBits 10000 (ek k) (ek k)=true
 inj:∀a b,ek a=ek b→a=b
def pA (es:Array MapEntry)(clock:Nat):Prop:=(es.toList.map (·.born)).Nodup∧∀e∈es.toList,e.born<clock
def IsNM (w:World)(ek:κ→Value)(b:Nat)(m:NMap κ):Prop:=∃es clock,w.heap[b]?=some (.map es clock)∧es.toList.map kv=m.map (ekv ek)∧(m.map (·.1)).Nodup∧pA es clock
theorem pB {es:Array MapEntry}{clock:Nat}(h:pA es clock)(k v:Value):pA (es.push { key:=k,val:=v,born:=clock }) (clock+1):=by
 refine⟨?_,λe he=>?_⟩
 ·rw[Array.toList_push,List.map_append,List.nodup_append]
  refine⟨h.1,by simp,λa ha c hc=>?_⟩;simp at hc;subst hc;obtain⟨e,he,rfl⟩:=List.mem_map.1 ha;have:=h.2 e he;omega
 ·rw[Array.toList_push,List.mem_append,List.mem_singleton]at he
  rcases he with he|rfl
  ·have:=h.2 e he;omega
  ·exact Nat.lt_succ_self _
theorem pC {es es':Array MapEntry}{clock:Nat}(h:pA es clock)(e:es'.toList.map (·.born)=es.toList.map (·.born)):pA es' clock:=by
 refine⟨by rw[e];exact h.1,λx hx=>?_⟩;have:x.born∈es'.toList.map (·.born):=List.mem_map.2 ⟨x,hx,rfl⟩;rw[e]at this;obtain⟨y,hy,hxy⟩:=List.mem_map.1 this;rw[← hxy];exact h.2 y hy
theorem pD {es es':Array MapEntry}{clock:Nat}(h:pA es clock)(e:es'.toList.Sublist es.toList):pA es' clock:=⟨h.1.sublist (e.map _),λx hx=>h.2 x (e.subset hx)⟩
theorem pE {es:Array MapEntry}{j:Nat}{f:MapEntry→MapEntry}(hf:∀e,(f e).born=e.born):((es.modify j f).toList.map (·.born))=es.toList.map (·.born):=by
 rw[Array.toList_modify];apply List.ext_getElem?;intro i;rw[List.getElem?_map,List.getElem?_map,List.getElem?_modify];by_cases h:j=i
 ·simp only[h,if_true]
  cases es.toList[i]?<;>simp[hf]
 ·simp[h]
theorem pF {ek:κ→Value}{k:κ}:∀{m:NMap κ} {i j:Nat} {v:Value},pz ek k m i=some (j,v)→∃n,i≤j∧m[j-i]?=some (k,n)∧v = .int .i64 n
 | [],_,_,_,h=>by cases h
 | e::r,i,j,v,h=>by
  unfold pz at h;by_cases hk:k=e.1
  ·rw[if_pos hk]at h
   cases h;exact⟨e.2,Nat.le_refl _,by simp[hk],rfl⟩
  ·rw[if_neg hk]at h
   obtain⟨n,h1,h2,h3⟩:=pF h;refine⟨n,by omega,?_,h3⟩;rw[show j-i=(j-(i+1))+1 from by omega];simpa using h2
theorem pG {ek:κ→Value}{k:κ}:∀{m:NMap κ} {i:Nat},pz ek k m i=none→∀e∈m,e.1≠k
 | [],_,_,e,he=>by cases he
 | d::r,i,h,e,he=>by
  unfold pz at h;by_cases hk:k=d.1
  ·rw[if_pos hk]at h;cases h
  ·rw[if_neg hk]at h
   rcases List.mem_cons.1 he with rfl|he
   ·exact λe=>hk e.symm
   ·exact pG h e he
theorem pH {α:Type}{l:List α}(h:l.Nodup){i j:Nat}(hi:i<l.length)(hj:j<l.length)(e:l[i]=l[j]):i=j:=by
 have h:=List.pairwise_iff_getElem.1 h
 rcases Nat.lt_trichotomy i j with hlt|rfl|hlt
 ·exact absurd e (h i j hi hj hlt)
 ·rfl
 ·exact absurd e.symm (h j i hj hi hlt)
theorem pI {m:NMap κ}{j:Nat}{k:κ}{n:Int}(hn:(m.map (·.1)).Nodup)(h:m[j]?=some (k,n)):jN m k=n:=by
 have hj:=(List.getElem?_eq_some_iff.1 h).1;have he:m[j]=(k,n):=(List.getElem?_eq_some_iff.1 h).2;unfold jN;cases hf:m.find? (λe=>e.1 == k)with
 | none=>
  have:=List.find?_eq_none.1 hf m[j] (List.getElem_mem hj);rw[he]at this;simp at this
 | some d=>
  have h1:=List.find?_some hf;have h2:=List.mem_of_find?_eq_some hf;obtain⟨i,hi,hd⟩:=List.getElem_of_mem h2;have hij:i=j:=by
   have ha:(m.map (·.1))[i]'(by simpa using hi)=(m.map (·.1))[j]'(by simpa using hj):=by
    rw[List.getElem_map,List.getElem_map,hd,he];simpa using h1
   exact pH hn _ _ ha
  subst hij;rw[← hd,he];rfl
theorem pJ {m:NMap κ}{k:κ}(h:∀e∈m,e.1≠k):jN m k=0:=by
 unfold jN;rw[List.find?_eq_none.2 (λe he=>by simpa using h e he)];rfl
variable {P:Program} {kt mt et:TypeId} {ek:κ→Value}
theorem pK (K:KeyRuns P kt ek)(ht:P.underlying mt=some (.map kt et))(hz:∀w,(zeroValue et).run P w = .ok (.int .i64 0) w){w:World}{b:Nat}{m:NMap κ}(h:IsNM w ek b m)(k:κ) :
  (Instr.lookup mt (.map (some b)) (ek k) false).run P w = .ok (.int .i64 (jN m k)) w:=by
 obtain⟨es,clock,hb,he,hn,hst⟩:=h;have hf:=K.find w k m es.toList he;cases hc:pz ek k m 0 with
 | none=>
  rw[hc]at hf;have:=pJ (pG hc);simp[Instr.lookup,run_underlying ht,MapKept.run_getObj_map hb,K.check w _ k,hf,hz,Result.andThen,this]
 | some p=>
  obtain⟨j,v⟩:=p;rw[hc]at hf;obtain⟨n,_,h2,rfl⟩:=pF hc;have:=pI hn h2;simp[Instr.lookup,run_underlying ht,MapKept.run_getObj_map hb,K.check w _ k,hf,Result.andThen,this]
theorem pL {m:NMap κ}(hn:(m.map (·.1)).Nodup)(k:κ)(n:Int):((jO m k n).map (·.1)).Nodup:=by
 unfold jO
 split
 ·have:(m.map λe=>if e.1 == k then (k,n) else e).map (·.1)=m.map (·.1):=by
   rw[List.map_map];refine List.map_congr_left λe _=>?_;by_cases h:e.1 == k
   ·simp only[Function.comp,h,if_true];exact(by simpa using h:e.1=k).symm
   ·simp[Function.comp,h]
  rw[this];exact hn
 ·rename_i h
  rw[List.map_append,List.nodup_append];refine⟨hn,by simp,?_⟩;intro a ha c hc;simp at hc;subst hc;rintro rfl;obtain⟨e,he,rfl⟩:=List.mem_map.1 ha;exact h (List.any_eq_true.2 ⟨e,he,by simp⟩)
theorem pM (K:KeyRuns P kt ek)(ht:P.underlying mt=some (.map kt et)){w:World}{b:Nat}{m:NMap κ}(h:IsNM w ek b m)(k:κ)(n:Int) :
  ∃w',(Instr.mapUpdate mt (.map (some b)) (ek k) (.int .i64 n)).run P w = .ok () w'∧IsNM w' ek b (jO m k n)∧Fr (λg=>g=b) w w':=by
 obtain⟨es,clock,hb,he,hn,hst⟩:=h;have hf:=K.find w k m es.toList he;have hlt:=lt_of_block hb;have fin:∀(es':Array MapEntry) (clock':Nat),es'.toList.map kv=(jO m k n).map (ekv ek)→pA es' clock'→IsNM (setBlock w b (.map es' clock')) ek b (jO m k n)∧Fr (λg=>g=b) w (setBlock w b (.map es' clock')):=λes' clock' hh hs=>
  ⟨⟨es',clock',py hlt _,hh,pL hn k n,hs⟩,px w b _⟩
 cases hc:pz ek k m 0 with
 | none=>
  rw[hc]at hf;have hno:=pG hc;have hput:jO m k n=m++[(k,n)]:=by
   unfold jO;rw[if_neg (by
    rw[List.any_eq_true];rintro⟨e,he,h⟩;exact hno e he (by simpa using h))]
  refine⟨_,?_,fin (es.push { key:=ek k,val:=.int .i64 n,born:=clock }) (clock+1) ?_ (pB hst _ _)⟩
  ·simp[Instr.mapUpdate,run_underlying ht,MapKept.run_getObj_map hb,K.check w _ k,hf,MapKept.run_setObj_map _ hb,Result.andThen,setBlock]
  ·rw[hput,Array.toList_push,List.map_append,List.map_append,he];rfl
 | some p=>
  obtain⟨j,v⟩:=p;rw[hc]at hf;obtain⟨n0,_,h2,rfl⟩:=pF hc;rw[Nat.sub_zero]at h2;have hj:=(List.getElem?_eq_some_iff.1 h2).1;have hej:m[j]=(k,n0):=(List.getElem?_eq_some_iff.1 h2).2;have hlen:es.toList.length=m.length:=by have:=congrArg List.length he;simpa using this
  have hje:j<es.toList.length:=by omega
  have hkv:kv es.toList[j]=(ek k,.int .i64 n0):=by
   have:(es.toList.map kv)[j]?=(m.map (ekv ek))[j]?:=by rw[he]
   rw[List.getElem?_map,List.getElem?_map,List.getElem?_eq_getElem hje,h2]at this;simpa[ekv]using this
  have hkey:es.toList[j].key=ek k:=(Prod.mk.inj hkv).1;have hjs:j<es.size:=by simpa using hje
  have hkey':es[j].key=ek k:=by simpa using hkey
  have hput:jO m k n=m.set j (k,n):=by
   unfold jO;rw[if_pos (List.any_eq_true.2 ⟨m[j],List.getElem_mem hj,by rw[hej];simp⟩)];apply List.ext_getElem (by simp);intro i hi1 hi2;rw[List.getElem_map,List.getElem_set];have hi:i<m.length:=by simpa using hi1
   by_cases hij:j=i
   ·subst hij;rw[if_pos rfl,hej];simp
   ·rw[if_neg hij,if_neg]
    intro hk;have hk:m[i].1=k:=by simpa using hk
    have ha:(m.map (·.1))[i]'(by simpa using hi)=(m.map (·.1))[j]'(by simpa using hj):=by rw[List.getElem_map,List.getElem_map,hk,hej]
    exact hij (pH hn _ _ ha).symm
  refine⟨_,?_,fin (es.modify j λe=>{ e with key:=ek k,val:=.int .i64 n }) clock ?_ (pC hst (pE (λ_=>rfl)))⟩
  ·simp[Instr.mapUpdate,run_underlying ht,MapKept.run_getObj_map hb,K.check w _ k,hf,hjs,hkey',Instr.keyThatStays,K.same,MapKept.run_setObj_map _ hb,Result.andThen,setBlock]
  ·rw[hput,Array.toList_modify,modify_eq_set _ _ _ es.toList[j] (List.getElem?_eq_getElem hje),List.map_set,List.map_set,he]
   rfl
theorem pN (K:KeyRuns P kt ek)(ht:P.underlying mt=some (.map kt et)){w:World}{b:Nat}{m:NMap κ}(h:IsNM w ek b m)(k:κ)(ty t2:TypeId) :
  ∃w',(Builtin.delete_ #[mt,t2] ty #[.map (some b),ek k]).run P w = .ok (.tuple #[]) w'∧IsNM w' ek b (jP m k)∧Fr (λg=>g=b) w w':=by
 obtain⟨es,clock,hb,he,hn,hst⟩:=h;have hf:=K.find w k m es.toList he;have hlt:=lt_of_block hb;have hnd:((jP m k).map (·.1)).Nodup:=by
  unfold jP;exact hn.sublist (List.filter_sublist.map _)
 have fin:∀(es':Array MapEntry) (clock':Nat),es'.toList.map kv=(jP m k).map (ekv ek)→pA es' clock'→IsNM (setBlock w b (.map es' clock')) ek b (jP m k)∧Fr (λg=>g=b) w (setBlock w b (.map es' clock')):=λes' clock' hh hs=>
  ⟨⟨es',clock',py hlt _,hh,hnd,hs⟩,px w b _⟩
 cases hc:pz ek k m 0 with
 | none=>
  rw[hc]at hf;have hno:=pG hc;have hdel:jP m k=m:=by
   unfold jP;rw[List.filter_eq_self];intro e he;simpa using hno e he
  refine⟨_,?_,fin es clock (by rw[hdel];exact he) hst⟩;simp[Builtin.delete_,run_underlying ht,MapKept.run_getObj_map hb,K.check w _ k,hf,MapKept.run_setObj_map _ hb,Result.andThen,setBlock]
 | some p=>
  obtain⟨j,v⟩:=p;rw[hc]at hf;obtain⟨n0,_,h2,rfl⟩:=pF hc;rw[Nat.sub_zero]at h2;have hj:=(List.getElem?_eq_some_iff.1 h2).1;have hej:m[j]=(k,n0):=(List.getElem?_eq_some_iff.1 h2).2;have hlen:es.toList.length=m.length:=by have:=congrArg List.length he;simpa using this
  have hjs:j<es.size:=by simpa using(by omega:j<es.toList.length)
  have hdel:jP m k=m.eraseIdx j:=by
   unfold jP;have hsplit:m=m.take j++m[j]::m.drop (j+1):=by rw[← List.drop_eq_getElem_cons hj,List.take_append_drop]
   have hno:∀i (hi:i<m.length),i≠j→m[i].1≠k:=λi hi hij hk=>by
    have ha:(m.map (·.1))[i]'(by simpa using hi)=(m.map (·.1))[j]'(by simpa using hj):=by rw[List.getElem_map,List.getElem_map,hk,hej]
    exact hij (pH hn _ _ ha)
   rw[List.eraseIdx_eq_take_drop_succ]
   conv=>lhs;rw[hsplit]
   rw[List.filter_append,List.filter_cons,hej];simp only[beq_self_eq_true,Bool.not_true,Bool.false_eq_true,if_false];rw[List.filter_eq_self.2,List.filter_eq_self.2]
   ·intro e he
    obtain⟨i,hi,rfl⟩:=List.getElem_of_mem he;rw[List.getElem_drop];rw[List.length_drop]at hi;simpa using hno (j+1+i) (by omega) (by omega)
   ·intro e he
    obtain⟨i,hi,rfl⟩:=List.getElem_of_mem he;rw[List.getElem_take];rw[List.length_take]at hi;simpa using hno i (by omega) (by omega)
  refine⟨_,?_,fin (es.eraseIdxIfInBounds j) clock ?_ (pD hst (by rw[Array.eraseIdxIfInBounds,dif_pos hjs,Array.toList_eraseIdx];exact List.eraseIdx_sublist _ _))⟩
  ·simp[Builtin.delete_,run_underlying ht,MapKept.run_getObj_map hb,K.check w _ k,hf,MapKept.run_setObj_map _ hb,Result.andThen,setBlock]
  ·rw[hdel,Array.eraseIdxIfInBounds,dif_pos hjs,Array.toList_eraseIdx,map_eraseIdx,map_eraseIdx,he]
omit [DecidableEq κ] in
theorem pO (ht:P.underlying mt=some (.map kt et)){w:World}{b:Nat}{m:NMap κ}(h:IsNM w ek b m)(ty:TypeId) :
  (Builtin.len_ #[mt] ty #[.map (some b)]).run P w = .ok (.int .i64 (m.length:Int)) w:=by
 obtain⟨es,clock,hb,he,hn,hst⟩:=h;have hlen:es.size=m.length:=by have:=congrArg List.length he;simpa using this
 simp[Builtin.len_,run_underlying ht,MapKept.run_getObj_map hb,goInt,Result.andThen,hlen]
omit [DecidableEq κ] in
theorem pP (w:World):IsNM (w.alloc (.map #[] 0)) ek w.heap.size []:=⟨#[],0,heap_alloc_new _ _,rfl,by simp,by simp,by simp⟩
omit [DecidableEq κ] in
theorem IsNM.kept {S:Nat→Prop}{w w':World}{b:Nat}{m:NMap κ}(h:IsNM w ek b m)(hf:Fr S w w')(hb:¬S b):IsNM w' ek b m:=by
 obtain⟨es,clock,h1,h2⟩:=h;exact⟨es,clock,hf.heapAt h1 hb,h2⟩
omit [DecidableEq κ] in
theorem IsNM.lt {w:World}{b:Nat}{m:NMap κ}(h:IsNM w ek b m):b<w.heap.size:=by
 obtain⟨es,clock,h1,_⟩:=h;exact lt_of_block h1
def IsNE (w:World)(ek:κ→Value)(b:Nat)(m:NMap κ)(k:κ)(s:Nat):Prop:=∃es clock,w.heap[b]?=some (.map es clock)∧es.toList.map kv=(jO m k (jN m k)).map (ekv ek)∧(m.map (·.1)).Nodup∧pA es clock∧∃(j:Nat) (e:MapEntry),es.toList[j]?=some e∧e.key=ek k∧e.born=s
theorem pQ (m:NMap κ)(k:κ)(x n:Int):jO (jO m k x) k n=jO m k n:=by
 have hany:(jO m k x).any (λe=>e.1 == k)=true:=by
  unfold jO
  split
  ·rename_i h
   obtain⟨e,he,hk⟩:=List.any_eq_true.1 h;exact List.any_eq_true.2 ⟨(k,x),List.mem_map.2 ⟨e,he,by simp[hk]⟩,by simp⟩
  ·exact List.any_eq_true.2 ⟨(k,x),by simp,by simp⟩
 have e1:∀m':NMap κ,m'.any (λe=>e.1 == k)=true→jO m' k n=m'.map (λe=>if e.1 == k then (k,n) else e):=λm' h=>by unfold jO;rw[if_pos h]
 rw[e1 _ hany];unfold jO
 split
 ·rw[List.map_map]
  refine List.map_congr_left λe _=>?_;by_cases hk:e.1 == k
  ·simp[Function.comp,hk]
  ·simp[Function.comp,hk]
 ·rename_i h
  rw[List.map_append];have:m.map (λe=>if e.1 == k then (k,n) else e)=m:=by
   conv=>rhs;rw[← List.map_id m]
   refine List.map_congr_left λe he=>?_;have:¬(e.1 == k)=true:=λhk=>h (List.any_eq_true.2 ⟨e,he,hk⟩);simp[this]
  rw[this];simp
theorem pR {m:NMap κ}(hn:(m.map (·.1)).Nodup){j:Nat}{k:κ}{x n:Int}(h:m[j]?=some (k,x)):m.set j (k,n)=jO m k n:=by
 have hj:=(List.getElem?_eq_some_iff.1 h).1;have hej:m[j]=(k,x):=(List.getElem?_eq_some_iff.1 h).2;unfold jO;rw[if_pos (List.any_eq_true.2 ⟨m[j],List.getElem_mem hj,by rw[hej];simp⟩)];apply List.ext_getElem (by simp);intro i hi1 hi2;rw[List.getElem_map,List.getElem_set];have hi:i<m.length:=by simpa using hi1
 by_cases hij:j=i
 ·subst hij;rw[if_pos rfl,hej];simp
 ·rw[if_neg hij,if_neg]
  intro hk;have hk:m[i].1=k:=by simpa using hk
  have ha:(m.map (·.1))[i]'(by simpa using hi)=(m.map (·.1))[j]'(by simpa using hj):=by rw[List.getElem_map,List.getElem_map,hk,hej]
  exact hij (pH hn _ _ ha).symm
theorem pS (K:KeyRuns P kt ek)(ht:P.underlying mt=some (.map kt et))(hz:∀w,(zeroValue et).run P w = .ok (.int .i64 0) w){w:World}{b:Nat}{m:NMap κ}(h:IsNM w ek b m)(k:κ) :
  ∃w' s,(Instr.mapEntry mt (.map (some b)) (ek k)).run P w = .ok (.tuple #[.int .i64 (jN m k),.int .i64 (s:Nat)]) w'∧IsNE w' ek b m k s∧Fr (λg=>g=b) w w':=by
 obtain⟨es,clock,hb,he,hn,hst⟩:=h;have hf:=K.find w k m es.toList he;have hlt:=lt_of_block hb;cases hc:pz ek k m 0 with
 | none=>
  rw[hc]at hf;have hno:=pG hc;have hg0:=pJ hno;have hput:jO m k (jN m k)=m++[(k,0)]:=by
   rw[hg0];unfold jO;rw[if_neg (by
    rw[List.any_eq_true];rintro⟨e,he,h⟩;exact hno e he (by simpa using h))]
  refine⟨setBlock w b (.map (es.push { key:=ek k,val:=.int .i64 0,born:=clock }) (clock+1)),clock,?_,⟨_,_,py hlt _,?_,hn,pB hst _ _,es.toList.length,{ key:=ek k,val:=.int .i64 0,born:=clock },?_,rfl,rfl⟩,px w b _⟩
  ·rw[hg0]
   simp[Instr.mapEntry,run_underlying ht,MapKept.run_getObj_map hb,K.check w _ k,hf,hz,MapKept.run_setObj_map _ hb,Result.andThen,setBlock,goInt]
  ·rw[hput,Array.toList_push,List.map_append,List.map_append,he];rfl
  ·rw[Array.toList_push,List.getElem?_append_right (Nat.le_refl _),Nat.sub_self];rfl
 | some p=>
  obtain⟨j,v⟩:=p;rw[hc]at hf;obtain⟨n0,_,h2,rfl⟩:=pF hc;rw[Nat.sub_zero]at h2;have hj:=(List.getElem?_eq_some_iff.1 h2).1;have hej:m[j]=(k,n0):=(List.getElem?_eq_some_iff.1 h2).2;have hlen:es.toList.length=m.length:=by have:=congrArg List.length he;simpa using this
  have hje:j<es.toList.length:=by omega
  have hkv:kv es.toList[j]=(ek k,.int .i64 n0):=by
   have:(es.toList.map kv)[j]?=(m.map (ekv ek))[j]?:=by rw[he]
   rw[List.getElem?_map,List.getElem?_map,List.getElem?_eq_getElem hje,h2]at this;simpa[ekv]using this
  have hkey:es.toList[j].key=ek k:=(Prod.mk.inj hkv).1;have hval:es.toList[j].val = .int .i64 n0:=(Prod.mk.inj hkv).2;have hjs:j<es.size:=by simpa using hje
  have hkey':es[j].key=ek k:=by simpa using hkey
  have hg:=pI hn h2;refine⟨setBlock w b (.map (es.modify j λe=>{ e with key:=ek k }) clock),es[j].born,?_,⟨_,_,py hlt _,?_,hn,pC hst (pE (λ_=>rfl)),j,{ es.toList[j]with key:=ek k },?_,rfl,by simp⟩,px w b _⟩
  ·rw[hg]
   simp[Instr.mapEntry,run_underlying ht,MapKept.run_getObj_map hb,K.check w _ k,hf,hjs,hkey',Instr.keyThatStays,K.same,MapKept.run_setObj_map _ hb,Result.andThen,setBlock,goInt]
  ·rw[← pR hn h2,hg,Array.toList_modify,modify_eq_set _ _ _ es.toList[j] (List.getElem?_eq_getElem hje),List.map_set,List.map_set,he]
   congr 1;show(ek k,es.toList[j].val)=_;rw[hval];rfl
  ·rw[Array.toList_modify,modify_eq_set _ _ _ es.toList[j] (List.getElem?_eq_getElem hje),List.getElem?_set_self hje]
theorem pT (K:KeyRuns P kt ek){w:World}{b:Nat}{m:NMap κ}{k:κ}{s:Nat}(h:IsNE w ek b m k s)(n:Int) :
  ∃w',(Instr.entryStore mt (.map (some b)) (.int .i64 (s:Nat)) (.int .i64 n)).run P w = .ok () w'∧IsNM w' ek b (jO m k n)∧Fr (λg=>g=b) w w':=by
 obtain⟨es,clock,hb,he,hn,hst,j,e,hej,hek,hes⟩:=h;have hlt:=lt_of_block hb;have hje:j<es.toList.length:=(List.getElem?_eq_some_iff.1 hej).1;have hjs:j<es.size:=by simpa using hje
 have hee:es.toList[j]=e:=(List.getElem?_eq_some_iff.1 hej).2;have hfi:es.findIdx? (λe=>(e.born:Int) == (s:Int))=some j:=by
  have hl:∀f:MapEntry→Bool,es.findIdx? f=es.toList.findIdx? f:=λf=>by cases es;simp
  rw[hl];rw[List.findIdx?_eq_some_iff_getElem];refine⟨hje,by rw[hee,hes];simp,λi hi=>?_⟩;have hne:es.toList[i].born≠s:=λh=>by
   have ha:(es.toList.map (·.born))[i]'(by simp;omega)=(es.toList.map (·.born))[j]'(by simpa using hje):=by rw[List.getElem_map,List.getElem_map,h,hee,hes]
   have:=pH hst.1 _ _ ha;omega
  simp only[beq_iff_eq];omega
 have hlen:es.toList.length=(jO m k (jN m k)).length:=by have:=congrArg List.length he;simpa using this
 have hkv:(jO m k (jN m k))[j]?=some (k,((jO m k (jN m k))[j]'(by omega)).2):=by
  have h1:(es.toList.map kv)[j]?=((jO m k (jN m k)).map (ekv ek))[j]?:=by rw[he]
  rw[List.getElem?_map,List.getElem?_map,hej,List.getElem?_eq_getElem (by omega)]at h1;have h2:=Option.some.inj h1;have h3:ek k=ek ((jO m k (jN m k))[j]'(by omega)).1:=by rw[← hek];exact(Prod.mk.inj h2).1
  have h4:=K.inj _ _ h3;rw[List.getElem?_eq_getElem (by omega)];congr 1;exact Prod.ext h4.symm rfl
 refine⟨setBlock w b (.map (es.modify j λe=>{ e with val:=.int .i64 n }) clock),?_,⟨_,_,py hlt _,?_,pL hn k n,pC hst (pE (λ_=>rfl))⟩,px w b _⟩
 ·simp[Instr.entryStore,MapKept.run_getObj_map hb,asInt,asIntOf,hfi,MapKept.run_setObj_map _ hb,Result.andThen,setBlock]
 ·rw[← pQ m k (jN m k) n,← pR (pL hn k _) hkv,Array.toList_modify,modify_eq_set _ _ _ es.toList[j] (List.getElem?_eq_getElem hje),List.map_set,List.map_set,he]
  congr 1;show(es.toList[j].key,Value.int .i64 n)=_;rw[hee,hek];rfl
theorem IsNE.kept {S:Nat→Prop}{w w':World}{b:Nat}{m:NMap κ}{k:κ}{s:Nat}(h:IsNE w ek b m k s)(hf:Fr S w w')(hb:¬S b):IsNE w' ek b m k s:=by
 obtain⟨es,clock,h1,h2⟩:=h;exact⟨es,clock,hf.heapAt h1 hb,h2⟩
theorem pU (m:NMap κ)(hn:(m.map (·.1)).Nodup)(k:κ)(n:Int):jN (jO m k n) k=n:=by
 have hmem:(k,n)∈jO m k n:=by
  unfold jO
  split
  ·rename_i h
   obtain⟨e,he,hk⟩:=List.any_eq_true.1 h;exact List.mem_map.2 ⟨e,he,by simp[hk]⟩
  ·simp
 obtain⟨j,hj,he⟩:=List.getElem_of_mem hmem;exact pI (pL hn k n) (by rw[List.getElem?_eq_getElem hj,he])
theorem IsNE.is {w:World}{b:Nat}{m:NMap κ}{k:κ}{s:Nat}(h:IsNE w ek b m k s):IsNM w ek b (jO m k (jN m k)):=by
 obtain⟨es,clock,h1,h2,h3,h4,_⟩:=h;exact⟨es,clock,h1,h2,pL h3 k _,h4⟩
end
end
section
open Go.RowKit
theorem pV (w:World)(n m:Int):Calls Tryz.prog 337 #[.int .i64 n,.int .i64 m] w λe w'=>TB (ji n 1 m) e∧w=w':=by
 by_cases h0:1≤n
 ·by_cases h1:n≤m
  ·go_enter Tryz.func337,Tryz.ntmps337
   go_wp2;go_ret;exact⟨TB.yes ⟨h0,h1⟩,rfl⟩
  ·go_enter Tryz.func337,Tryz.ntmps337
   go_wp2;go_ret;exact⟨TB.no (by(try unfold j1);(try unfold ji);omega),rfl⟩
 ·go_enter Tryz.func337,Tryz.ntmps337
  go_wp2;go_ret;exact⟨TB.no (by(try unfold j1);(try unfold ji);omega),rfl⟩
theorem pW (w:World)(n m:Int):Calls Tryz.prog 338 #[.int .i64 n,.int .i64 m] w λe w'=>TB (ji n 1 m) e∧w=w':=by
 by_cases h0:1≤n
 ·by_cases h1:n≤m
  ·go_enter Tryz.func338,Tryz.ntmps338
   go_wp2;go_ret;exact⟨TB.yes ⟨h0,h1⟩,rfl⟩
  ·go_enter Tryz.func338,Tryz.ntmps338
   go_wp2;go_ret;exact⟨TB.no (by(try unfold j1);(try unfold ji);omega),rfl⟩
 ·go_enter Tryz.func338,Tryz.ntmps338
  go_wp2;go_ret;exact⟨TB.no (by(try unfold j1);(try unfold ji);omega),rfl⟩
theorem pX (w:World)(n m:Int):Calls Tryz.prog 339 #[.int .i64 n,.int .i64 m] w λe w'=>TB (ji n 1 m) e∧w=w':=by
 by_cases h0:1≤n
 ·by_cases h1:n≤m
  ·go_enter Tryz.func339,Tryz.ntmps339
   go_wp2;go_ret;exact⟨TB.yes ⟨h0,h1⟩,rfl⟩
  ·go_enter Tryz.func339,Tryz.ntmps339
   go_wp2;go_ret;exact⟨TB.no (by(try unfold j1);(try unfold ji);omega),rfl⟩
 ·go_enter Tryz.func339,Tryz.ntmps339
  go_wp2;go_ret;exact⟨TB.no (by(try unfold j1);(try unfold ji);omega),rfl⟩
theorem pY (w:World)(n m:Int):Calls Tryz.prog 340 #[.int .i64 n,.int .i64 m] w λe w'=>TB (ji n 1 m) e∧w=w':=by
 by_cases h0:1≤n
 ·by_cases h1:n≤m
  ·go_enter Tryz.func340,Tryz.ntmps340
   go_wp2;go_ret;exact⟨TB.yes ⟨h0,h1⟩,rfl⟩
  ·go_enter Tryz.func340,Tryz.ntmps340
   go_wp2;go_ret;exact⟨TB.no (by(try unfold j1);(try unfold ji);omega),rfl⟩
 ·go_enter Tryz.func340,Tryz.ntmps340
  go_wp2;go_ret;exact⟨TB.no (by(try unfold j1);(try unfold ji);omega),rfl⟩
theorem pZ (w:World)(n m:Int):Calls Tryz.prog 267 #[.int .i64 n,.int .i64 m] w λe w'=>TB (ji n 1 m) e∧w=w':=by
 by_cases h0:1≤n
 ·by_cases h1:n≤m
  ·go_enter Tryz.func267,Tryz.ntmps267
   go_wp2;go_ret;exact⟨TB.yes ⟨h0,h1⟩,rfl⟩
  ·go_enter Tryz.func267,Tryz.ntmps267
   go_wp2;go_ret;exact⟨TB.no (by(try unfold j1);(try unfold ji);omega),rfl⟩
 ·go_enter Tryz.func267,Tryz.ntmps267
  go_wp2;go_ret;exact⟨TB.no (by(try unfold j1);(try unfold ji);omega),rfl⟩
theorem p9 (w:World)(n m:Int):Calls Tryz.prog 266 #[.int .i64 n,.int .i64 m] w λe w'=>TB (ji n 1 m) e∧w=w':=by
 by_cases h0:1≤n
 ·by_cases h1:n≤m
  ·go_enter Tryz.func266,Tryz.ntmps266
   go_wp2;go_ret;exact⟨TB.yes ⟨h0,h1⟩,rfl⟩
  ·go_enter Tryz.func266,Tryz.ntmps266
   go_wp2;go_ret;exact⟨TB.no (by(try unfold j1);(try unfold ji);omega),rfl⟩
 ·go_enter Tryz.func266,Tryz.ntmps266
  go_wp2;go_ret;exact⟨TB.no (by(try unfold j1);(try unfold ji);omega),rfl⟩
theorem qa (w:World)(n:Int):Calls Tryz.prog 228 #[.int .i64 n] w λe w'=>TB (j1 n) e∧w=w':=by
 by_cases h0:0≤n
 ·by_cases h1:n≤4611686018427387904
  ·go_enter Tryz.func228,Tryz.ntmps228
   go_wp2;go_ret;exact⟨TB.yes ⟨h0,h1⟩,rfl⟩
  ·go_enter Tryz.func228,Tryz.ntmps228
   go_wp2;go_ret;exact⟨TB.no (by(try unfold j1);(try unfold ji);omega),rfl⟩
 ·go_enter Tryz.func228,Tryz.ntmps228
  go_wp2;go_ret;exact⟨TB.no (by(try unfold j1);(try unfold ji);omega),rfl⟩
theorem qb (w:World)(n:Int):Calls Tryz.prog 231 #[.int .i64 n] w λe w'=>TB (0≤n∧n<1048576) e∧w=w':=by
 by_cases h0:0≤n
 ·by_cases h1:n<1048576
  ·go_enter Tryz.func231,Tryz.ntmps231
   go_wp2;go_ret;exact⟨TB.yes ⟨h0,h1⟩,rfl⟩
  ·go_enter Tryz.func231,Tryz.ntmps231
   go_wp2;go_ret;exact⟨TB.no (by(try unfold j1);(try unfold ji);omega),rfl⟩
 ·go_enter Tryz.func231,Tryz.ntmps231
  go_wp2;go_ret;exact⟨TB.no (by(try unfold j1);(try unfold ji);omega),rfl⟩
theorem qd (w:World)(n:Int):Calls Tryz.prog 234 #[.int .i64 n] w λe w'=>TB (0≤n∧n≤1125899906842624) e∧w=w':=by
 by_cases h0:0≤n
 ·by_cases h1:n≤1125899906842624
  ·go_enter Tryz.func234,Tryz.ntmps234
   go_wp2;go_ret;exact⟨TB.yes ⟨h0,h1⟩,rfl⟩
  ·go_enter Tryz.func234,Tryz.ntmps234
   go_wp2;go_ret;exact⟨TB.no (by(try unfold j1);(try unfold ji);omega),rfl⟩
 ·go_enter Tryz.func234,Tryz.ntmps234
  go_wp2;go_ret;exact⟨TB.no (by(try unfold j1);(try unfold ji);omega),rfl⟩
def qe (a b:Int):Int:=if a<b then -1 else if b<a then 1 else 0
theorem qf (w:World)(a:Int):Calls Tryz.prog 298 #[.int .i64 a] w λe w'=>e = .returned (.bool false)∧w=w':=by
 go_enter Tryz.func298,Tryz.ntmps298
 go_wp2;go_ret;exact⟨rfl,rfl⟩
theorem qg (w:World)(a b:Int):Calls Tryz.prog 264 #[.int .i64 a,.int .i64 b] w λe w'=>e = .returned (.int .i64 (qe a b))∧w=w':=by
 by_cases h0:a<b
 ·rw[show qe a b = -1 from if_pos h0]
  go_enter Tryz.func264,Tryz.ntmps264
  go_wp2_with fail
  refine(qf w a).mono ?_;rintro e w1 ⟨rfl,rfl⟩
  go_wp2_with fail
  refine(qf w b).mono ?_;rintro e w1 ⟨rfl,rfl⟩;go_wp2;go_ret;exact⟨rfl,rfl⟩
 ·by_cases h1:b<a
  ·rw[show qe a b=1 from(if_neg h0).trans (if_pos h1)]
   go_enter Tryz.func264,Tryz.ntmps264
   go_wp2_with fail
   refine(qf w a).mono ?_;rintro e w1 ⟨rfl,rfl⟩
   go_wp2_with fail
   refine(qf w b).mono ?_;rintro e w1 ⟨rfl,rfl⟩;go_wp2;go_ret;exact⟨rfl,rfl⟩
  ·rw[show qe a b=0 from(if_neg h0).trans (if_neg h1)]
   go_enter Tryz.func264,Tryz.ntmps264
   go_wp2_with fail
   refine(qf w a).mono ?_;rintro e w1 ⟨rfl,rfl⟩
   go_wp2_with fail
   refine(qf w b).mono ?_;rintro e w1 ⟨rfl,rfl⟩;go_wp2;go_ret;exact⟨rfl,rfl⟩
theorem qh (w:World)(a:Int):Calls Tryz.prog 299 #[.int .i64 a] w λe w'=>e = .returned (.bool false)∧w=w':=by
 go_enter Tryz.func299,Tryz.ntmps299
 go_wp2;go_ret;exact⟨rfl,rfl⟩
theorem qi (w:World)(a b:Int):Calls Tryz.prog 265 #[.int .i64 a,.int .i64 b] w λe w'=>e = .returned (.int .i64 (qe a b))∧w=w':=by
 by_cases h0:a<b
 ·rw[show qe a b = -1 from if_pos h0]
  go_enter Tryz.func265,Tryz.ntmps265
  go_wp2_with fail
  refine(qh w a).mono ?_;rintro e w1 ⟨rfl,rfl⟩
  go_wp2_with fail
  refine(qh w b).mono ?_;rintro e w1 ⟨rfl,rfl⟩;go_wp2;go_ret;exact⟨rfl,rfl⟩
 ·by_cases h1:b<a
  ·rw[show qe a b=1 from(if_neg h0).trans (if_pos h1)]
   go_enter Tryz.func265,Tryz.ntmps265
   go_wp2_with fail
   refine(qh w a).mono ?_;rintro e w1 ⟨rfl,rfl⟩
   go_wp2_with fail
   refine(qh w b).mono ?_;rintro e w1 ⟨rfl,rfl⟩;go_wp2;go_ret;exact⟨rfl,rfl⟩
  ·rw[show qe a b=0 from(if_neg h0).trans (if_neg h1)]
   go_enter Tryz.func265,Tryz.ntmps265
   go_wp2_with fail
   refine(qh w a).mono ?_;rintro e w1 ⟨rfl,rfl⟩
   go_wp2_with fail
   refine(qh w b).mono ?_;rintro e w1 ⟨rfl,rfl⟩;go_wp2;go_ret;exact⟨rfl,rfl⟩
def orF (a b:Int):Int:=if a=0 then b else a
theorem qj (w:World)(g:Nat)(a b:Int)(h0:w.cell? ⟨g,0,none⟩=some (.int .i64 a))(h1:w.cell? ⟨g,1,none⟩=some (.int .i64 b)) :
  Calls Tryz.prog 263 #[.slice (some ⟨g,0,none⟩) 2 2] w λe w'=>e = .returned (.int .i64 (orF a b))∧w=w':=by
 have HC:=hid (λ(k:Nat) (hk:k<2)=>(by
  match k,hk with
  | 0,_=>exact h0
  | 1,_=>exact h1:w.cell? ⟨g,k,none⟩=some (.int .i64 (if k=0 then a else b))))
 clear h0 h1
 go_enter Tryz.func263,Tryz.ntmps263
 go_wp2
 go_loopw [8] (λi wr=>∃k:Nat,i = .int .i64 k∧k≤2∧wr=w∧Hid (∀j,j<k→(if j=0 then a else b)=0)) (λi _=>2-(intOf i).toNat)
 case atStart=>exact⟨0,rfl,by omega,rfl,hid (λj hj=>by omega)⟩
 case round=>
  obtain⟨k,rfl,hk,rfl,HZ⟩:=hrel;by_cases hlt:k<2
  ·have hc:=HC.out k hlt
   obtain⟨x,hx⟩:∃x,x=if k=0 then a else b:=⟨_,rfl⟩
   rw[← hx]at hc;have HX:=hid hx;clear hx;by_cases hx0:x=0
   ·subst hx0
    go_wp2
    go_roundw
    case rel=>
     refine⟨k+1,by go_num,by omega,(by first|rfl|trivial),hid (λj hj=>?_)⟩;by_cases hjk:j=k
     ·subst hjk;exact HX.out.symm
     ·exact HZ.out j (by omega)
    case measure=>simp[intOf];omega
   ·have hb:(x != 0)=true:=by simpa using hx0
    have hb2:(x == 0)=false:=by simpa using hx0
    have HE:=hid (show orF a b=x from by
     unfold orF;by_cases hk0:k=0
     ·have:=HX.out;rw[if_pos hk0]at this;rw[← this,if_neg hx0]
     ·have:=HX.out;rw[if_neg hk0]at this
      have h0:=HZ.out 0 (by omega);rw[if_pos rfl]at h0;rw[if_pos h0,this])
    go_wp2;go_ret;exact⟨by rw[HE.out];rfl,rfl⟩
  ·have HE:=hid (show orF a b=0 from by
    have h0:=HZ.out 0 (by omega);have h1:=HZ.out 1 (by omega);rw[if_pos rfl]at h0;rw[if_neg (by decide)]at h1;unfold orF;rw[if_pos h0,h1])
   go_wp2;go_ret;exact⟨by rw[HE.out];rfl,rfl⟩
theorem qk {a b x y:Int}:orF (qe a b) (qe x y)<0↔ju a x b y:=by
 unfold orF qe ju;by_cases h1:a<b
 ·simp[h1]
 ·by_cases h2:b<a
  ·simp[h1,h2];omega
  ·simp only[if_neg h1,if_neg h2,if_true]
   by_cases h3:x<y
   ·simp[h3];omega
   ·by_cases h4:y<x
    ·simp[h3,h4];omega
    ·simp[h3,h4];omega
theorem ql {a b:Int}:qe a b<0↔a<b:=by
 unfold qe;by_cases h1:a<b
 ·simp[h1]
 ·by_cases h2:b<a
  ·simp[h1,h2]
  ·simp[h1,h2]
end
end Go.Proofs.YtaeakdichkhjaaaGreatDoor
