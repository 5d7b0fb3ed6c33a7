/- Texts, and numbers, in a row. -/
import Derived.Test.YthjjgcfdhkhelaaGreatDoorQAj
import Derived.Defers
import Derived.Laws.EntriesVeiled
import Derived.Test.YthjjgcfdhkhelaaGreatDoorQAk
import Derived.Shelf.SlMaps.Clone
import Derived.Laws.StructEq
set_option maxHeartbeats 4000000
set_option maxRecDepth 100000
open Go.Lib(hid)
open Go.Proofs.Tryz
namespace Go.Proofs.YthjjgcfdhkhelaaGreatDoor
section
open Go.RowKit Go.Maps Go.Sort
def fj (cap:Int)(l:Fs)(w:World)(e:Ending)(w':World):Prop:=
 Below w.heap.size w w'∧match eX cap l with
  | (some st,c)=>∃p b,w.heap.size≤p∧w.heap.size≤b∧e = .returned (.tuple #[.pointer (some ⟨p,0,none⟩),.int .i64 c])∧db w' p b st
  | (none,c)=>e = .returned (.tuple #[.pointer none,.int .i64 c])
theorem fm {n:Nat}(w:World)(o:Obj)(h:n=w.heap.size):(w.alloc o).heap[n]?=some o:=by subst h;exact heap_alloc_new w o
theorem fo (w:World)(cap:Int)(sv:Value)(l:Fs)(hl:eV w sv l)(hlen:l.length≤4398046511104)(hsz:∀f∈l,f.name.length≤140737488355328∧f.firm.length≤140737488355328∧f.pend.length≤140737488355328)(hc1:cap≤9223372036854775807) :
  Calls prog 31 #[.int .i64 cap,sv] w λe w'=>fj cap l w e w':=by
 have hmm:=@run_makeMap prog;obtain⟨a,c,rfl⟩:=hl.shape;have HS:=hid hl;clear hl;by_cases hc0:cap<0
 ·go_enter func31,ntmps31
  go_wp2;refine bodyPost_ret (v:=.tuple #[.pointer none,.int .i64 1]) (by simp[results,results31,go_sem]) rfl ⟨Below.refl _ _,?_⟩;unfold eX;rw[if_pos hc0]
 ·go_enter func31,ntmps31
  go_wp2
  go_loopw [7,18] (λx i wr=>∃(k:Nat) (lb:ByteArray),k≤l.length∧i = .int .i64 k∧x = .string lb∧eY l k lb.data.toList∧wr.heap[w.heap.size+1]?=some (.cells ((⟨l.take k,cap,-1,false⟩:cZ).cells w.heap.size) 148 (0,0))∧wr.ownsMap prog 9 cC w.heap.size k (fsD (l.take k))∧Below w.heap.size w wr) (λ_ i _=>l.length-(intOf i).toNat)
  case atStart=>
   exact⟨0,⟨#[]⟩,by omega,rfl,rfl,eY.start l,fm _ _ (by simp),ownsMap_at rfl _,((Below.refl _ _).alloc (Nat.le_refl _) _).alloc (by simp) _⟩
  case round=>
   obtain⟨k,lb,hk,rfl,rfl,hinv,hcell,hown,hb⟩:=hrel;have hwr:w.heap.size+1<wr.heap.size:=lt_of_block hcell;by_cases hlt:k<l.length
   ·obtain⟨b0,o,rfl,hbl,x,y,z,e1,e2,e3,h1,h2,h3⟩:=HS.out.at k hlt
    have hg1:=(hb.cell (p:=⟨b0,o+k*3,none⟩) hbl).trans h1;have hg2:=(hb.cell (p:=⟨b0,o+k*3+1,none⟩) hbl).trans h2;have hg3:=(hb.cell (p:=⟨b0,o+k*3+2,none⟩) hbl).trans h3;clear h1 h2 h3;have E:=hid (show x.data.toList=l[k].name∧y.data.toList=l[k].firm∧z.data.toList=l[k].pend from⟨e1,e2,e3⟩);have hszs:=hsz l[k] (List.getElem_mem hlt);rw[← e1,← e2,← e3,ak,ak,ak]at hszs;obtain⟨hx1,hx2,hx3⟩:=hszs;clear e1 e2 e3
    go_wp2_with fail
    refine(dI x _ (by omega)).mono ?_;rintro e w3 ⟨rfl,hb3⟩;have HB3:=hid (((Below.refl _ wr).alloc (Nat.le_refl _) (.cells #[.string x,.string y,.string z] 151)).trans (hb3.mono (by simp)));have hs3:=hb3.size;simp at hs3;have n0:w3.cell? ⟨wr.heap.size,0,none⟩=some (.string x):=by rw[hb3.cell (by simp),World.cell?_alloc_at _ _ _ _ rfl];rfl
    have n1:w3.cell? ⟨wr.heap.size,1,none⟩=some (.string y):=by rw[hb3.cell (by simp),World.cell?_alloc_at _ _ _ _ rfl];rfl
    have n2:w3.cell? ⟨wr.heap.size,2,none⟩=some (.string z):=by rw[hb3.cell (by simp),World.cell?_alloc_at _ _ _ _ rfl];rfl
    have hcell3:=(HB3.out.block _ hwr).trans hcell;have hown3:=dd hown (Fr.pure (S:=λ_=>False) HB3.out) (λh=>h);clear hb3 hcell hown;cases hM:cY x.data.toList
    ·have hcc:=hid (hinv.bad hlt (by rw[← E.out.1,hM];simp))
     clear hinv;go_wp2;refine bodyPost_ret (v:=.tuple #[.pointer none,.int .i64 4]) (by simp[results,results31,go_sem]) rfl ⟨hb.trans (HB3.out.mono hb.size),?_⟩;unfold eX;rw[if_neg (by omega),hcc.out];rfl
    ·cases hB:bytesBefore lb.data.toList x.data.toList
     ·have hleq:(Op.bytesLess x.toList lb.toList || x.toList == lb.toList)=true:=by rw[ByteArray.toList_eq,ByteArray.toList_eq,fi,hB];rfl
      have hcc:=hid (hinv.bad hlt (by rw[← E.out.1,hM,hB];simp));clear hinv;go_wp2;refine bodyPost_ret (v:=.tuple #[.pointer none,.int .i64 4]) (by simp[results,results31,go_sem]) rfl ⟨hb.trans (HB3.out.mono hb.size),?_⟩;unfold eX;rw[if_neg (by omega),hcc.out];rfl
     ·have hleq:(Op.bytesLess x.toList lb.toList || x.toList == lb.toList)=false:=by rw[ByteArray.toList_eq,ByteArray.toList_eq,fi,hB];rfl
      have hl1:Op.bytesLess x.toList lb.toList=false:=(Bool.or_eq_false_iff.1 hleq).1;have hl2:(x.toList == lb.toList)=false:=(Bool.or_eq_false_iff.1 hleq).2;by_cases hS:1048576<y.size+z.size
      ·have hS1:(1048576:Int)<(y.size:Int)+(z.size:Int):=by omega
       have hcc:=hid (hinv.bad hlt (by rw[← E.out.2.1,← E.out.2.2,ak,ak,decide_eq_false (by omega:¬y.size+z.size≤1048576)];simp));clear hinv;go_wp2;refine bodyPost_ret (v:=.tuple #[.pointer none,.int .i64 4]) (by simp[results,results31,go_sem]) rfl ⟨hb.trans (HB3.out.mono hb.size),?_⟩;unfold eX;rw[if_neg (by omega),hcc.out];rfl
      ·have hS1:¬(1048576:Int)<(y.size:Int)+(z.size:Int):=by omega
       by_cases hC:64<l.length
       ·have hcc:=hid (hinv.bad hlt (by rw[decide_eq_false (by omega:¬l.length≤64)];simp))
        clear hinv;go_wp2;refine bodyPost_ret (v:=.tuple #[.pointer none,.int .i64 4]) (by simp[results,results31,go_sem]) rfl ⟨hb.trans (HB3.out.mono hb.size),?_⟩;unfold eX;rw[if_neg (by omega),hcc.out];rfl
       ·have hsx:=E.out
        have HN:=hid (hinv.next hlt (by rw[← hsx.1];exact hM) (by rw[← hsx.1];exact hB) (by rw[← hsx.2.1,← hsx.2.2,ak,ak];omega) (by omega));have HP:=hid (hinv.put hlt (by rw[← hsx.1];exact hB));have hln:=ei hM;rw[ak]at hln;obtain⟨w4,hrun,hown4,hturn4⟩:=(show w3.drew.ownsMap prog 9 cC w.heap.size k (fsD (l.take k))from hown3).store (t:=146) (e:=142) Tryz.strKey underlying146 (by unfold maxLen;omega) (key:=.string x) (val:=.agg #[.string y,.string z]) (WideMaps.keyOf_string_mk underlying9 (by unfold maxLen;omega)) (cF _ _);have HT:=hid (dJ hturn4);have c0:w3.cell? ⟨w.heap.size+1,0,none⟩=some (.map (some w.heap.size)):=by rw[cell_of_row w3 _ _ _ _ _ hcell3];rfl
        have HO4:=hid (show w4.ownsMap prog 9 cC w.heap.size (k+1) (fsD (l.take (k+1)))from by
         rw[← HP.out,← cR];show w4.ownsMap prog 9 cC w.heap.size (k+1) ((fsD (l.take k)).put (.string l[k].name) (.agg [.lit (.string l[k].firm),.lit (.string l[k].pend)]));rw[← hsx.1,← hsx.2.1,← hsx.2.2];exact hown4)
        have HC4:=hid (HT.out.heapAt (show w3.drew.heap[w.heap.size+1]?=_ from hcell3) (by omega));have HB4:=hid (hb.trans ((HB3.out.mono hb.size).drew.trans (HT.out.below (B:=w.heap.size) (by show w.heap.size≤w3.heap.size;omega) (λk hk=>by omega)):RowKit.Below w.heap.size wr w4));clear hown4 hturn4 hown3 hcell3 hinv hsx hB hM hleq;go_wp2
        go_region
        go_wp2
        go_roundw
        case rel=>exact⟨k+1,x,by omega,by go_num,rfl,by rw[E.out.1];exact HN.out,HC4.out,HO4.out,HB4.out⟩
        case measure=>simp[intOf];omega
   ·obtain rfl:k=l.length:=by omega
    obtain⟨hok,hfs⟩:=hinv.ok rfl;rw[List.take_length]at hcell hown;have HOK:=hid hok;have HFS:=hid hfs;have hul:=dc hfs;have HC:=hid hcell;have HO:=hid hown;clear hok hfs hcell hown hinv
    go_wp2_with fail
    refine(dD wr (w.heap.size+1) w.heap.size ⟨l,cap,-1,false⟩ HC.out HO.out HFS.out).mono ?_;rintro e w3 ⟨rfl,hb3⟩;by_cases hfit:cap<(cX l:Int)
    ·go_wp2
     refine bodyPost_ret (v:=.tuple #[.pointer none,.int .i64 44]) (by simp[results,results31,go_sem]) rfl ⟨hb.trans (hb3.mono hb.size),?_⟩;rw[show eX cap l=(none,44)from by unfold eX;rw[if_neg (by omega),HOK.out,if_neg (by simp),if_pos hfit]]
    ·go_wp2
     refine bodyPost_ret (v:=.tuple #[.pointer (some ⟨w.heap.size+1,0,none⟩),.int .i64 0]) (by simp[results,results31,go_sem]) rfl ⟨hb.trans (hb3.mono hb.size),?_⟩;rw[show eX cap l=(some ⟨l,cap,-1,false⟩,0)from by unfold eX;rw[if_neg (by omega),HOK.out,if_neg (by simp),if_neg (by omega)]];exact⟨_,w.heap.size,by omega,by omega,rfl,(⟨HC.out,HO.out,⟨HFS.out,by show 0≤cap;omega,hc1,by show(cX l:Int)≤cap;omega,by show(-1:Int) ≤ -1;omega,by show(-1:Int)≤_;omega⟩⟩:db wr _ _ _).pure hb3⟩
end
section
open Go.RowKit Go.Maps Go.Sort Go.Shelf
theorem fq (fs:Fs):strKeys (fsD fs)=fs.map (·.name):=by
 show(fs.map cA).map (λp=>strOf p.1)=_;rw[List.map_map];rfl
theorem ft {fs:Fs}(hs:fs.Pairwise (λf g=>bytesBefore f.name g.name=true)){ss:List (List UInt8)}(hp:ss.Perm (fs.map (·.name))):ss.mergeSort (λx y=>decide (x≤y))=fs.map (·.name):=by
 refine List.Perm.eq_of_pairwise (le:=λx y=>x≤y) (λa b _ _ h1 h2=>List.le_antisymm h1 h2) ?_ ?_ ((List.mergeSort_perm _ _).trans hp)
 ·have:=List.pairwise_mergeSort (le:=λ(x y:List UInt8)=>decide (x≤y)) (λa b c h1 h2=>by simp only[decide_eq_true_eq]at *;exact List.le_trans h1 h2) (λa b=>by simpa using List.le_total a b) ss
  exact this.imp (λh=>by simpa using h)
 ·rw[List.pairwise_map]
  refine hs.imp λ{a b} h=>?_;have h1:Op.bytesLess a.name b.name=true:=by rw[fh];exact h
  rw[bytesLess_eq]at h1;exact List.le_of_lt (of_decide_eq_true h1)
theorem fu (w:World)(p b:Nat)(st:cZ)(h:db w p b st) :
  Calls prog 93 #[.pointer (some ⟨p,0,none⟩)] w λe w'=>∃v,e = .returned v∧w'.ownsRow w.heap.size 9 1 v st.fs.length ((st.fs.map (·.name)).map encStr)∧Below w.heap.size w w':=by
 have H:=hid h;obtain⟨c0,c1,c2,c3⟩:=h.cs;clear h
 go_enter func93,ntmps93
 go_wp2_with fail
 refine(callsIn_wide.1 (Tryz.maps_Keys_X (some b) w)).mono ?_;rintro e w1 ⟨rfl,rfl⟩
 go_wp2_with fail
 have hf:=H.out.ok.fs.few;have hb:=(Below.refl w.heap.size w).alloc (Nat.le_refl _) (.cells #[.map (some b)] 146);refine(callsIn_wide.1 (Tryz.slices_Sorted_keys_X b st.fs.length (fsD st.fs) cC w H.out.own (by rw[cV];unfold maxLen;omega) (by rw[cV];omega))).mono ?_;rintro e w2 ⟨v,ss,rfl,hp,hown,_,hb2⟩;have HO:=hid hown;have HP:=hid hp;have HB:=hid (hb.trans (hb2.mono (by simp)));clear hown hp hb hb2;go_wp2;go_ret;rw[fq]at HP;have hl:=HP.out.length_eq;have ho:=HO.out;rw[ft H.out.ok.fs.sorted HP.out,hl,List.length_map]at ho;exact⟨v,rfl,az ho (λg hg=>by
  obtain⟨_,hx|⟨g',cap,cur,e1,h2,_⟩⟩:=ho
  ·rw[hx.1]at hg;cases hg
  ·rw[e1]at hg;cases hg;simp at h2;show w.heap.size≤g';omega),HB.out⟩
end
section
open Go.RowKit Go.Maps Go.Sort
def kept (k:Int)(m:Nat):Nat:=(k % 18446744073709551616 % ((m:Int)+1)).toNat
def IntsAt (w:World)(sv:Value)(ks:List Int):Prop:=
 ∃a c,sv = .slice a ks.length c∧ks.length≤c∧(ks=[]∨∃b o,a=some ⟨b,o,none⟩∧∀i (h:i<ks.length),w.cell? ⟨b,o+i,none⟩=some (.int .i64 ks[i]))
theorem IntsAt.kept {S:Nat→Prop}{w w':World}{sv:Value}{ks:List Int}(h:IntsAt w sv ks)(hf:Fr S w w')(hs:∀g,sv.ownBlock=some g→¬S g):IntsAt w' sv ks:=by
 obtain⟨a,c,rfl,hc,h|⟨b,o,rfl,h⟩⟩:=h
 ·exact⟨a,c,rfl,hc,.inl h⟩
 ·exact⟨_,c,rfl,hc,.inr ⟨b,o,rfl,λi hi=>hf.cellAt (h i hi) (hs b rfl)⟩⟩
theorem IntsAt.tail {w:World}{b o c:Nat}{k:Int}{t:List Int}(h:∀i (h:i<(k::t).length),w.cell? ⟨b,o+i,none⟩=some (.int .i64 (k::t)[i]))(hc:t.length+1≤c):IntsAt w (.slice (some ⟨b,o+1,none⟩) t.length (c-1)) t:=
 ⟨_,c-1,rfl,by omega,.inr ⟨b,o+1,rfl,λi hi=>by have:=h (i+1) (by simp;omega);rw[show o+1+i=o+(i+1)from by omega];simpa using this⟩⟩
theorem jf {w:World}{base:Nat}{v:Value}{ns:List (List UInt8)}{n:Nat}(h:w.ownsRow base 9 1 v n (ns.map encStr)):∃a c,v = .slice a n c∧n=ns.length∧∀i (hi:i<ns.length),∃g,a=some ⟨g,0,none⟩∧base≤g∧w.cell? ⟨g,i,none⟩=some (.string ⟨ns[i].toArray⟩):=by
 obtain⟨hl,⟨rfl,rfl⟩|⟨g,cap,cur,rfl,hb,hh,hn,_,hsz,ht⟩⟩:=h
 ·simp at hl
  exact⟨none,0,rfl,by simp[hl],λi hi=>by rw[hl]at hi;simp at hi⟩
 ·simp at hl
  refine⟨_,cap,rfl,hl.symm,λi hi=>⟨g,rfl,hb,?_⟩⟩;rw[cell_of_row w g i _ _ _ hh];have e:(ns.map encStr)[i]?=some (encStr ns[i]):=by simp[hi]
  rw[← ht,List.getElem?_take,if_pos (by omega)]at e;rw[← Array.getElem?_toList];exact e
def jg:List UInt8:=[77,65,78,73,70,69,83,84,46,110,101,119]
def jh:List UInt8:=[77,65,78,73,70,69,83,84]
def ji (s:List UInt8):Nat→cZ→cZ×Int
 | 0,st=>eh st jg
 | 1,st=>ee st jg
 | 2,st=>eR st jg s
 | 3,st=>eD st jg
 | _,st=>eL st jg jh
theorem jj (w:World)(q p b:Nat)(st:cZ)(h:db w p b st)(hq:w.cell? ⟨q,0,none⟩=some (.pointer (some ⟨p,0,none⟩))) :
  Calls prog 60 #[.pointer (some ⟨q,0,none⟩)] w λe w'=>d8 p b (ji [] 0 st) w e w':=by
 have H:=hid h;clear h
 go_enter func60,ntmps60
 go_wp2_with fail
 refine(eC w p b st H.out ⟨#[77,65,78,73,70,69,83,84,46,110,101,119]⟩ (by decide)).mono ?_;rintro e w1 ⟨rfl,hd,hf⟩;have HD:=hid (And.intro hd hf);clear hd hf;go_wp2;go_ret;exact⟨rfl,HD.out.1,HD.out.2⟩
theorem jk (w:World)(q p b:Nat)(st:cZ)(h:db w p b st)(hq:w.cell? ⟨q,0,none⟩=some (.pointer (some ⟨p,0,none⟩))) :
  Calls prog 61 #[.pointer (some ⟨q,0,none⟩)] w λe w'=>d8 p b (ji [] 1 st) w e w':=by
 have H:=hid h;clear h
 go_enter func61,ntmps61
 go_wp2_with fail
 refine(ep w p b st H.out ⟨#[77,65,78,73,70,69,83,84,46,110,101,119]⟩ (by decide)).mono ?_;rintro e w1 ⟨rfl,hd,hf⟩;have HD:=hid (And.intro hd hf);clear hd hf;go_wp2;go_ret;exact⟨rfl,HD.out.1,HD.out.2⟩
theorem jl (w:World)(q u p b:Nat)(st:cZ)(x:ByteArray)(h:db w p b st)(hq:w.cell? ⟨q,0,none⟩=some (.pointer (some ⟨p,0,none⟩)))(hu:w.cell? ⟨u,0,none⟩=some (.string x))(hx:x.size≤140737488355328) :
  Calls prog 63 #[.pointer (some ⟨q,0,none⟩),.pointer (some ⟨u,0,none⟩)] w λe w'=>d8 p b (ji x.data.toList 2 st) w e w':=by
 have H:=hid h;clear h
 go_enter func63,ntmps63
 go_wp2_with fail
 refine(eU w p b st H.out ⟨#[77,65,78,73,70,69,83,84,46,110,101,119]⟩ x (by decide) hx).mono ?_;rintro e w1 ⟨rfl,hd,hf⟩;have HD:=hid (And.intro hd hf);clear hd hf;go_wp2;go_ret;exact⟨rfl,HD.out.1,HD.out.2⟩
theorem jm (w:World)(q p b:Nat)(st:cZ)(h:db w p b st)(hq:w.cell? ⟨q,0,none⟩=some (.pointer (some ⟨p,0,none⟩))) :
  Calls prog 64 #[.pointer (some ⟨q,0,none⟩)] w λe w'=>d8 p b (ji [] 3 st) w e w':=by
 have H:=hid h;clear h
 go_enter func64,ntmps64
 go_wp2_with fail
 refine(eG w p b st H.out ⟨#[77,65,78,73,70,69,83,84,46,110,101,119]⟩ (by decide)).mono ?_;rintro e w1 ⟨rfl,hd,hf⟩;have HD:=hid (And.intro hd hf);clear hd hf;go_wp2;go_ret;exact⟨rfl,HD.out.1,HD.out.2⟩
theorem jo (w:World)(q p b:Nat)(st:cZ)(h:db w p b st)(hq:w.cell? ⟨q,0,none⟩=some (.pointer (some ⟨p,0,none⟩))) :
  Calls prog 66 #[.pointer (some ⟨q,0,none⟩)] w λe w'=>d8 p b (ji [] 4 st) w e w':=by
 have H:=hid h;clear h
 go_enter func66,ntmps66
 go_wp2_with fail
 refine(eQ w p b st H.out ⟨#[77,65,78,73,70,69,83,84,46,110,101,119]⟩ ⟨#[77,65,78,73,70,69,83,84]⟩ (by decide) (by decide)).mono ?_;rintro e w1 ⟨rfl,hd,hf⟩;have HD:=hid (And.intro hd hf);clear hd hf;go_wp2;go_ret;exact⟨rfl,HD.out.1,HD.out.2⟩
def jp (e:Int)(st:cZ):cZ×Int:=
 if e=44 then (if (eh st jg).2=0∨(eh st jg).2=5 then ((eh st jg).1,44) else eh st jg) else (st,e)
theorem jq (st:cZ)(n:List UInt8):(eh st n).2=0∨(eh st n).2=5∨(eh st n).2=45:=by
 unfold eh dZ
 split
 ·simp
 ·split
  ·simp
  ·split<;>simp
theorem jr (w:World)(c q p b:Nat)(st:cZ)(code:Int)(u:FrameMode)(h:db w p b st)(hc:w.heap[c]?=some (.cells #[.int .i64 code] 26 (0,0)))(hq:w.cell? ⟨q,0,none⟩=some (.pointer (some ⟨p,0,none⟩)))(hcp:c≠p)(hqc:q≠c) :
  CallsD prog 59 #[.pointer (some ⟨c,0,none⟩),.pointer (some ⟨q,0,none⟩)] u w λe u' w'=>u'=u∧(e = .returned (.tuple #[])∧w'.cell? ⟨c,0,none⟩=some (.int .i64 (jp code st).2)∧db w' p b (jp code st).1∧Fr (λk=>k=p∨k=b∨k=c) w w'):=by
 have hc0:w.cell? ⟨c,0,none⟩=some (.int .i64 code):=by rw[cell_of_row w c 0 _ _ _ hc];rfl
 have hcz:w.frozen? ⟨c,0,none⟩=false:=frozen_of_row w c 0 _ _ hc;have H:=hid h;have HC:=hid hc;have hcb:c≠b:=h.off hc0;clear h hc
 go_enter_d func59,ntmps59
 by_cases h44:code=44
 ·go_wp2_with fail
  refine(show Calls prog 30 #[.pointer (some ⟨p,0,none⟩),.string ⟨#[77,65,78,73,70,69,83,84,46,110,101,119]⟩] w λe w'=>d8 p b (eh st jg) w e w' from eC w p b st H.out ⟨#[77,65,78,73,70,69,83,84,46,110,101,119]⟩ (by decide)).mono ?_;rintro e w1 ⟨rfl,hd,hf⟩;have hcb2:¬(c=p∨c=b):=by omega
  have c1:=hf.cellAt hc0 hcb2;have z1:w1.frozen? ⟨c,0,none⟩=false:=(hf.frozen (aw hc0) hcb2).trans hcz;have HD:=hid (And.intro hd (hf.mono (T:=λk=>k=p∨k=b∨k=c) (λ_ _ h=>by omega)));clear hd hf
  rcases jq st jg with h0|h5|h45
  ·have e1:=hid (show jp code st=((eh st jg).1,44)from by unfold jp;rw[if_pos h44,if_pos (.inl h0)])
   rw[h0];clear h0;go_wp2
   go_end0
   rw[e1.out];exact⟨rfl,by rw[c1,h44],HD.out.1,HD.out.2⟩
  ·have e1:=hid (show jp code st=((eh st jg).1,44)from by unfold jp;rw[if_pos h44,if_pos (.inr h5)])
   rw[h5];clear h5;go_wp2
   go_end0
   rw[e1.out];exact⟨rfl,by rw[c1,h44],HD.out.1,HD.out.2⟩
  ·have e1:=hid (show jp code st=eh st jg from by unfold jp;rw[if_pos h44,if_neg (by omega)])
   have e2:=hid h45;rw[h45];clear h45;go_wp2
   go_end0
   rw[e1.out];refine⟨rfl,by rw[World.cell?_setCell_same _ _ _ c1,e2.out],HD.out.1.kept (dK _ _) (by show ¬p=c;omega) (by show ¬b=c;omega),HD.out.2.setCell ⟨c,0,none⟩ (λ_=>.inr (.inr rfl)) _⟩
 ·have e1:=hid (show jp code st=(st,code)from by unfold jp;rw[if_neg h44])
  go_wp2
  go_end0
  rw[e1.out];exact⟨rfl,hc0,H.out,Fr.refl _ _⟩
def js (s:List UInt8):List Nat→cZ→cZ×Int
 | [],st=>(st,0)
 | k::r,st=>if (ji s k st).2≠0∧¬(k=0∧(ji s k st).2=5) then ji s k st else js s r (ji s k st).1
def jt (st:cZ)(g:Int)(l:bI):cZ×Int:=
 if bL g l then (jp (js (Crc.seal_ (ge g l)) [0,1,2,3,4] st).2 (js (Crc.seal_ (ge g l)) [0,1,2,3,4] st).1) else (st,4)
theorem ju (w:World)(p:Nat)(g:Int)(sv:Value)(l:bI)(hs:bJ w sv l)(hl:l.length≤1099511627776)(hm:bL g l=false) :
  Calls prog 14 #[.pointer (some ⟨p,0,none⟩),.agg #[.int .i64 g,sv]] w λe w'=>e = .returned (.int .i64 4)∧Below w.heap.size w w':=by
 have hmf:∀(fn:Fn) (first cap:Array Value) (w:World),(Instr.makeFunc fn first cap).run prog w = .ok (.func fn first cap) w:=λ_ _ _ _=>rfl;have HS:=hid hs;have HM:=hid hm;clear hs hm
 go_enter_defers func14,ntmps14
 go_wp2_with fail
 refine(gp _ g sv l (HS.out.pure (((((Below.refl _ _).alloc (Nat.le_refl _) _).alloc (by simp) _).alloc (by simp;omega) _))) hl HM.out).mono ?_;rintro e w1 ⟨rfl,hb1⟩;have hs1:=hb1.size;simp at hs1;have hs2:w.heap.size+1+1<w1.heap.size:=by omega
 have c1:w1.cell? ⟨w.heap.size+1+1,0,none⟩=some (.int .i64 0):=by rw[hb1.cell (by simp),World.cell?_alloc_at _ _ _ _ (by simp)];rfl
 have z1:w1.frozen? ⟨w.heap.size+1+1,0,none⟩=false:=(hb1.frozen (by simp)).trans (World.frozen?_alloc_at _ _ _ _ (by simp));have HB:=hid ((((((Below.refl w.heap.size w).alloc (Nat.le_refl _) _).alloc (by simp) _).alloc (by simp;omega) _)).trans (hb1.mono (by simp;omega)));clear hb1;go_wp2;refine⟨.int .i64 4,?_,rfl,?_⟩
 ·simp[results,results14,go_sem]
  rw[World.cell?_alloc_past _ _ _ (by simpa using hs2),World.cell?_setCell_same' _ _ _ (by rw[World.cell?_setCell_same' _ _ _ (by rw[c1];rfl)];rfl)]
 ·exact((HB.out.setCell (by show w.heap.size≤w.heap.size+1+1;omega) _).setCell (by show w.heap.size≤w.heap.size+1+1;omega) _).alloc (by simp;omega) _
def jw (n u:Nat):Array Value:=#[.func (.func 60) #[] #[.pointer (some ⟨n,0,none⟩)],.bool true,.func (.func 61) #[] #[.pointer (some ⟨n,0,none⟩)],.bool false,
 .func (.func 63) #[] #[.pointer (some ⟨n,0,none⟩),.pointer (some ⟨u,0,none⟩)],.bool false,.func (.func 64) #[] #[.pointer (some ⟨n,0,none⟩)],.bool false,.func (.func 66) #[] #[.pointer (some ⟨n,0,none⟩)],.bool false]
theorem jx (n u p b k:Nat)(x:ByteArray)(hx:x.size≤140737488355328)(hk:k<5):∃(fk:FuncId) (caps:Array Value),Enters prog fk∧(jw n u)[k*2]?=some (.func (.func fk) #[] caps)∧(jw n u)[k*2+1]?=some (.bool (decide (k=0))) ∧
  ∀(w:World) (st:cZ),db w p b st→w.cell? ⟨n,0,none⟩=some (.pointer (some ⟨p,0,none⟩))→w.cell? ⟨u,0,none⟩=some (.string x)→Calls prog fk caps w λe w'=>d8 p b (ji x.data.toList k st) w e w':=by
 match k,hk with
 | 0,_=>exact⟨_,_,enters_of func60 (by kernel_rfl) rfl,rfl,rfl,λw st h hq _=>jj w n p b st h hq⟩
 | 1,_=>exact⟨_,_,enters_of func61 (by kernel_rfl) rfl,rfl,rfl,λw st h hq _=>jk w n p b st h hq⟩
 | 2,_=>exact⟨_,_,enters_of func63 (by kernel_rfl) rfl,rfl,rfl,λw st h hq hu=>jl w n u p b st x h hq hu hx⟩
 | 3,_=>exact⟨_,_,enters_of func64 (by kernel_rfl) rfl,rfl,rfl,λw st h hq _=>jm w n p b st h hq⟩
 | 4,_=>exact⟨_,_,enters_of func66 (by kernel_rfl) rfl,rfl,rfl,λw st h hq _=>jo w n p b st h hq⟩
theorem jy (tmps:Array Value)(w:World)(c:Nat)(v:Value)(n:Int)(ht:tmps[4]?.getD undef = .pointer (some ⟨c,0,none⟩))(hc:w.cell? ⟨c,0,none⟩=some v)(hsm:v = .int .i64 n):(results Tryz.f14 tmps).run prog w = .ok v w:=by
 subst hsm;simp[results,results14,go_sem,ht,hc]
theorem jz (wd:World)(p b c q:Nat)(st:cZ)(code:Int)(tmps:Array Value)(ht:tmps[4]?.getD undef = .pointer (some ⟨c,0,none⟩))(hd:db wd p b st)(hc:wd.heap[c]?=some (.cells #[.int .i64 code] 26 (0,0)))
  (hq:wd.cell? ⟨q,0,none⟩=some (.pointer (some ⟨p,0,none⟩))) (hcp:c≠p) (hqc:q≠c) (R:Ending→World→Prop)
  (hR:∀w',db w' p b (jp code st).1→Fr (λk=>k=p∨k=b∨k=c) wd w'→R (.returned (.int .i64 (jp code st).2)) w') :
  bodyPostD prog Tryz.f14 R Exit.ret { tmps:=tmps,defers:=[{ target:=Target.fn (Fn.func 59) #[.pointer (some ⟨c,0,none⟩),.pointer (some ⟨q,0,none⟩)],args:=#[] }] } wd:=by
 refine leaves_cons (f:=59) (args:=#[.pointer (some ⟨c,0,none⟩),.pointer (some ⟨q,0,none⟩)]) (by simp) (by simp[go_sem]) ?_;refine(jr wd c q p b st code .returning hd hc hq hcp hqc).mono ?_;rintro e u' w'' ⟨rfl,rfl,hc',hd',hf'⟩;exact⟨_,jy tmps w'' c _ _ ht hc' rfl,hR w'' hd' hf'⟩
theorem jA {s:List UInt8}{k:Nat}{st:cZ}(hk:k<5):js s ([0,1,2,3,4].drop k) st=if (ji s k st).2≠0∧¬(k=0∧(ji s k st).2=5) then ji s k st else js s ([0,1,2,3,4].drop (k+1)) (ji s k st).1:=by
 match k,hk with
 | 0,_=>rfl
 | 1,_=>rfl
 | 2,_=>rfl
 | 3,_=>rfl
 | 4,_=>rfl
theorem jB (g:Int)(l:bI):(ge g l).length=14+16*l.length:=by
 unfold ge;rw[List.length_append,List.length_append,List.length_append,gj,aF,aF];rfl
theorem jC (w:World)(p b:Nat)(st:cZ)(h:db w p b st)(g:Int)(sv:Value)(l:bI)(hs:bJ w sv l)(hl:l.length≤1099511627776)(hm:bL g l=true) :
  Calls prog 14 #[.pointer (some ⟨p,0,none⟩),.agg #[.int .i64 g,sv]] w λe w'=>d8 p b (jt st g l) w e w':=by
 have hmf:∀(fn:Fn) (first cap:Array Value) (w:World),(Instr.makeFunc fn first cap).run prog w = .ok (.func fn first cap) w:=λ_ _ _ _=>rfl;have HS:=hid hs;have HM:=hid hm;have H:=hid h;have hp:=h.lt;have hbl:=h.own.lt;clear hs hm h
 go_enter_defers func14,ntmps14
 go_wp2_with fail
 refine(gq _ g sv l (HS.out.pure (((((Below.refl _ _).alloc (Nat.le_refl _) _).alloc (by simp) _).alloc (by simp;omega) _))) HM.out).mono ?_;rintro e w1 ⟨x,hx,rfl,hb1⟩;have HX:=hid hx;have hs1:=hb1.size;simp at hs1;have hs2:w.heap.size+1+1<w1.heap.size:=by omega
 have HB:=hid ((((((Below.refl w.heap.size w).alloc (Nat.le_refl _) _).alloc (by simp) _).alloc (by simp;omega) _)).trans (hb1.mono (by simp;omega)));have hq:w1.cell? ⟨w.heap.size,0,none⟩=some (.pointer (some ⟨p,0,none⟩)):=by rw[hb1.cell (by simp;omega),World.cell?_alloc_past _ _ _ (by simp;omega),World.cell?_alloc_past _ _ _ (by simp),World.cell?_alloc_at _ _ _ _ rfl];rfl
 have hcb:w1.heap[w.heap.size+1+1]?=some (.cells #[.int .i64 0] 26 (0,0)):=(hb1.block _ (by simp)).trans (fm _ _ (by simp));have c1:w1.cell? ⟨w.heap.size+1+1,0,none⟩=some (.int .i64 0):=by rw[cell_of_row w1 _ _ _ _ _ hcb];rfl
 have z1:w1.frozen? ⟨w.heap.size+1+1,0,none⟩=false:=frozen_of_row w1 _ 0 _ _ hcb;clear hb1 hx;go_wp2;obtain⟨w2,hw2⟩:∃w2,w2=((w1.setCell ⟨w.heap.size+1+1,0,none⟩ (.int .i64 0)).alloc (.cells #[.string x] 9)).alloc (.cells (jw w.heap.size w1.heap.size) 120):=⟨_,rfl⟩;have HW2:=hid hw2;have hfr2:Fr (λk=>k=w.heap.size+1+1) w1 w2:=by rw[hw2];exact((dK (w:=w1) ⟨w.heap.size+1+1,0,none⟩ _).alloc _).alloc _
 have hq2:=hfr2.cellAt hq (by omega);have hc2:w2.heap[w.heap.size+1+1]?=some (.cells #[.int .i64 0] 26 (0,0)):=by
  rw[hw2,Below.heap_alloc _ _ _ (by simp;omega),Below.heap_alloc _ _ _ (by simp;omega)];exact one_setCell hcb
 have hu2:w2.cell? ⟨w1.heap.size,0,none⟩=some (.string x):=by rw[hw2,World.cell?_alloc_past _ _ _ (by simp),World.cell?_alloc_at _ _ _ _ (by simp)];rfl
 have hst2:w2.heap[w1.heap.size+1]?=some (.cells (jw w.heap.size w1.heap.size) 120 (0,0)):=by rw[hw2];exact fm _ _ (by simp)
 have hs22:w2.heap.size=w1.heap.size+1+1:=by rw[hw2];simp
 have H2:=hid ((H.out.pure HB.out).kept hfr2 (by omega) (by omega));have HQ2:=hid (And.intro hq2 (And.intro hc2 (And.intro hu2 hst2)));have HF2:=hid hfr2;have hxs:x.size≤140737488355328:=by
  have h1:=ao HX.out;obtain⟨_,_,_,hl1,_⟩:=gm HM.out;rw[h1,Crc.seal_length,jB];omega
 have HDK:=hid (show jt st g l=jp (js x.data.toList [0,1,2,3,4] st).2 (js x.data.toList [0,1,2,3,4] st).1 from by unfold jt;rw[HM.out,HX.out];rfl);have FIN:=hid (show ∀(wa wb:World),Fr (λk=>k=p∨k=b∨k=w.heap.size+1+1) w2 wa→Fr (λk=>k=p∨k=b∨k=w.heap.size+1+1) wa wb→dY p b w wb from λwa wb h1 h2=>((Fr.pure (S:=λk=>k=p∨k=b) HB.out).then hfr2 (λi hi e=>by omega)).then (h1.trans h2) (λi hi e=>by omega));clear hw2 hq2 hc2 hu2 hst2 hfr2 hq hcb c1 z1
 go_loopw [29] (λi wr=>∃(k:Nat) (st':cZ) (code:Int),i = .int .i64 k∧k≤5∧js x.data.toList [0,1,2,3,4] st=js x.data.toList ([0,1,2,3,4].drop k) st'∧db wr p b st'∧wr.heap[w.heap.size+1+1]?=some (.cells #[.int .i64 code] 26 (0,0))∧Fr (λk=>k=p∨k=b∨k=w.heap.size+1+1) w2 wr) (λi _=>5-(intOf i).toNat)
 case atStart=>
  have e:=HW2.out;unfold jw at e;rw[← e];exact⟨0,st,0,rfl,by omega,rfl,H2.out,HQ2.out.2.1,Fr.refl _ _⟩
 case round=>
  obtain⟨k,st',code,rfl,hk,hL,hd,hc,hf⟩:=hrel;have HR0:=hid (And.intro hL (And.intro hd (And.intro hc hf)));have hsz:=hf.size;have hq:=hf.cellAt HQ2.out.1 (by omega);have hu:=hf.cellAt HQ2.out.2.2.1 (by omega);have hst:=hf.heapAt HQ2.out.2.2.2 (by omega);by_cases hk5:k<5
  ·clear HR0
   obtain⟨fk,caps,hent,ha1,ha2,hcon⟩:=jx w.heap.size w1.heap.size p b k x hxs hk5;have he:∀(args:Array Value) (w:World),(callFunc fk args).run prog w = .ok (.enter fk args) w:=hent;have g1:wr.cell? ⟨w1.heap.size+1,k*2,none⟩=some (.func (.func fk) #[] caps):=by rw[cell_of_row wr _ _ _ _ _ hst];exact ha1
   have g2:wr.cell? ⟨w1.heap.size+1,k*2+1,none⟩=some (.bool (decide (k=0))):=by rw[cell_of_row wr _ _ _ _ _ hst];exact ha2
   obtain⟨lk,hlk⟩:∃lk,lk=decide (k=0):=⟨_,rfl⟩;rw[← hlk]at g2;have HLK:=hid hlk;have hcl:w.heap.size+1+1<wr.heap.size:=lt_of_block hc;have hbz:Below wr.heap.size wr (wr.alloc (.cells #[.func (.func fk) #[] caps,.bool lk] 120)):=(Below.refl _ _).alloc (Nat.le_refl _) _;have HCON:=hid (hcon _ st' (hd.pure hbz) ((hbz.cell (aw hq)).trans hq) ((hbz.cell (aw hu)).trans hu));have HR:=hid (And.intro hL (And.intro hd (And.intro hc hf)));have hqq:=hid hq;clear hlk hent ha1 ha2 hcon hL hd hc hf hst hq hu
   go_wp2_with fail
   refine HCON.out.mono ?_;rintro e w4 ⟨rfl,hd4,hf4⟩;have hstep:=jA (s:=x.data.toList) (st:=st') hk5;obtain⟨r4,hr4⟩:∃r4,r4=ji x.data.toList k st':=⟨_,rfl⟩;rw[← hr4]at hstep hd4 ⊢;obtain⟨st4,cd⟩:=r4;simp only at hd4 hstep;obtain⟨hL,hd,hc,hf⟩:=HR.out;have hne:¬(w.heap.size+1+1=p∨w.heap.size+1+1=b):=by omega
   have hs4:=hf4.size;simp at hs4;have hc4:=hf4.heapAt ((Below.heap_alloc _ _ _ hcl).trans hc) hne;have hq4:=hf4.cellAt ((hbz.cell (aw hqq.out)).trans hqq.out) (by omega);have b1:w4.cell? ⟨wr.heap.size,0,none⟩=some (.func (.func fk) #[] caps):=hf4.cellAt (by rw[World.cell?_alloc_at _ _ _ _ rfl];rfl) (by omega);have b2:w4.cell? ⟨wr.heap.size,1,none⟩=some (.bool lk):=hf4.cellAt (by rw[World.cell?_alloc_at _ _ _ _ rfl];rfl) (by omega);have b3:w4.cell? ⟨w.heap.size+1+1,0,none⟩=some (.int .i64 code):=by rw[cell_of_row w4 _ _ _ _ _ hc4];rfl
   have b4:w4.frozen? ⟨w.heap.size+1+1,0,none⟩=false:=frozen_of_row w4 _ 0 _ _ hc4;have H5:=hid (show db (w4.setCell ⟨w.heap.size+1+1,0,none⟩ (.int .i64 cd)) p b st4 from hd4.kept (dK _ _) (by show ¬p=w.heap.size+1+1;omega) (by show ¬b=w.heap.size+1+1;omega));have HC5:=hid (show(w4.setCell ⟨w.heap.size+1+1,0,none⟩ (.int .i64 cd)).heap[w.heap.size+1+1]?=some (.cells #[.int .i64 cd] 26 (0,0))from one_setCell hc4);have HQ5:=hid (show(w4.setCell ⟨w.heap.size+1+1,0,none⟩ (.int .i64 cd)).cell? ⟨w.heap.size,0,none⟩=some (.pointer (some ⟨p,0,none⟩))from(dK _ _).cellAt hq4 (by show ¬w.heap.size=w.heap.size+1+1;omega));have HF5:=hid (show Fr (λk=>k=p∨k=b∨k=w.heap.size+1+1) w2 (w4.setCell ⟨w.heap.size+1+1,0,none⟩ (.int .i64 cd))from((hf.andPure hbz).trans (hf4.mono (λ_ _ h=>by omega))).setCell ⟨w.heap.size+1+1,0,none⟩ (λ_=>.inr (.inr rfl)) _);have HL:=hid (hL.trans hstep);clear hL hd hc hf hd4 hf4 hc4 hq4 hstep hr4 hbz g1 g2;by_cases h0:cd=0
   ·obtain rfl:cd=0:=h0
    have hgo:=hid (show js x.data.toList [0,1,2,3,4] st=js x.data.toList ([0,1,2,3,4].drop (k+1)) st4 from HL.out.trans (if_neg (by simp)));go_wp2
    go_roundw
    case rel=>exact⟨k+1,st4,0,by go_num,by omega,hgo.out,H5.out,HC5.out,HF5.out⟩
    case measure=>simp[intOf];omega
   ·have hcd0:(cd == 0)=false:=by simpa using h0
    by_cases hk0:k=0
    ·obtain rfl:lk=true:=by rw[HLK.out];simpa using hk0
     by_cases h5:cd=5
     ·obtain rfl:cd=5:=h5
      have hgo:=hid (show js x.data.toList [0,1,2,3,4] st=js x.data.toList ([0,1,2,3,4].drop (k+1)) st4 from HL.out.trans (if_neg (by simp[hk0])));go_wp2
      go_roundw
      case rel=>exact⟨k+1,st4,5,by go_num,by omega,hgo.out,H5.out,HC5.out,HF5.out⟩
      case measure=>simp[intOf];omega
     ·have hcd5:(cd == 5)=false:=by simpa using h5
      have hgo:=hid (show js x.data.toList [0,1,2,3,4] st=(st4,cd)from HL.out.trans (if_pos ⟨h0,λh=>h5 h.2⟩));go_wp2;refine jz _ p b (w.heap.size+1+1) w.heap.size st4 cd _ (by rfl) (H5.out.kept (dK _ _) (by show ¬p=w.heap.size+1+1;omega) (by show ¬b=w.heap.size+1+1;omega)) (one_setCell HC5.out) ((dK _ _).cellAt HQ5.out (by show ¬w.heap.size=w.heap.size+1+1;omega)) (by omega) (by omega) _ (λw' hd' hf'=>?_);rw[HDK.out];exact⟨by rw[hgo.out],by rw[hgo.out];exact hd',FIN.out _ _ (HF5.out.setCell ⟨w.heap.size+1+1,0,none⟩ (λ_=>.inr (.inr rfl)) _) hf'⟩
    ·obtain rfl:lk=false:=by rw[HLK.out];simpa using hk0
     have hgo:=hid (show js x.data.toList [0,1,2,3,4] st=(st4,cd)from HL.out.trans (if_pos ⟨h0,λh=>hk0 h.1⟩));go_wp2;refine jz _ p b (w.heap.size+1+1) w.heap.size st4 cd _ (by rfl) (H5.out.kept (dK _ _) (by show ¬p=w.heap.size+1+1;omega) (by show ¬b=w.heap.size+1+1;omega)) (one_setCell HC5.out) ((dK _ _).cellAt HQ5.out (by show ¬w.heap.size=w.heap.size+1+1;omega)) (by omega) (by omega) _ (λw' hd' hf'=>?_);rw[HDK.out];exact⟨by rw[hgo.out],by rw[hgo.out];exact hd',FIN.out _ _ (HF5.out.setCell ⟨w.heap.size+1+1,0,none⟩ (λ_=>.inr (.inr rfl)) _) hf'⟩
  ·clear hL hd hc hf
   obtain rfl:k=5:=by omega
   obtain⟨hL,hd,hc,hf⟩:=HR0.out;have hcl:w.heap.size+1+1<wr.heap.size:=lt_of_block hc;have b3:wr.cell? ⟨w.heap.size+1+1,0,none⟩=some (.int .i64 code):=by rw[cell_of_row wr _ _ _ _ _ hc];rfl
   have b4:wr.frozen? ⟨w.heap.size+1+1,0,none⟩=false:=frozen_of_row wr _ 0 _ _ hc;have H5:=hid (show db (wr.setCell ⟨w.heap.size+1+1,0,none⟩ (.int .i64 0)) p b st' from hd.kept (dK _ _) (by show ¬p=w.heap.size+1+1;omega) (by show ¬b=w.heap.size+1+1;omega));have HC5:=hid (show(wr.setCell ⟨w.heap.size+1+1,0,none⟩ (.int .i64 0)).heap[w.heap.size+1+1]?=some (.cells #[.int .i64 0] 26 (0,0))from one_setCell hc);have HQ5:=hid (show(wr.setCell ⟨w.heap.size+1+1,0,none⟩ (.int .i64 0)).cell? ⟨w.heap.size,0,none⟩=some (.pointer (some ⟨p,0,none⟩))from(dK _ _).cellAt hq (by show ¬w.heap.size=w.heap.size+1+1;omega));have HF5:=hid (hf.setCell ⟨w.heap.size+1+1,0,none⟩ (λ_=>.inr (.inr rfl)) (.int .i64 0));have hgo:=hid (show js x.data.toList [0,1,2,3,4] st=(st',0)from hL);clear hL hd hc hf hq hu hst;go_wp2;refine jz _ p b (w.heap.size+1+1) w.heap.size st' 0 _ (by rfl) H5.out HC5.out HQ5.out (by omega) (by omega) _ (λw' hd' hf'=>?_);rw[HDK.out];exact⟨by rw[hgo.out],by rw[hgo.out];exact hd',FIN.out _ _ HF5.out hf'⟩
theorem jQ (cp:Int)(l:Fs):(∃c,(c == 0)=false∧c≠0∧eX cp l=(none,c))∨(eX cp l=(some ⟨l,cp,-1,false⟩,0)):=by
 unfold eX
 split
 ·exact .inl ⟨1,by decide,by decide,rfl⟩
 ·split
  ·exact .inl ⟨4,by decide,by decide,rfl⟩
  ·split
   ·exact .inl ⟨44,by decide,by decide,rfl⟩
   ·exact .inr rfl
theorem jR (w:World)(cap:Int)(hc:cap≤9223372036854775807) :
  Calls prog 8 #[.int .i64 cap] w λe w'=>fj cap [] w e w':=by
 go_enter func8,ntmps8
 go_wp2_with fail
 refine(fo w cap (.slice none 0 0) [] ⟨none,0,rfl,.inl rfl⟩ (by simp) (by simp) hc).mono ?_;rintro e w1 ⟨hb,h⟩;have HB:=hid hb
 rcases jQ cap []with⟨c,hcf,hc0,hld⟩|hld
 ·rw[hld]at h
  simp only at h;subst h;have HL:=hid hld;clear hld hb;go_wp2;refine bodyPost_ret (v:=.tuple #[.pointer none,.int .i64 c]) (by simp[results,results8,go_sem]) rfl ⟨HB.out,?_⟩;rw[HL.out]
 ·rw[hld]at h
  obtain⟨p,b,hpg,hbg,rfl,hd⟩:=h;have HL:=hid (And.intro hld (And.intro hpg (And.intro hbg hd)));clear hld hb hd hpg hbg;go_wp2;refine bodyPost_ret (v:=.tuple #[.pointer (some ⟨p,0,none⟩),.int .i64 0]) (by simp[results,results8,go_sem]) rfl ⟨HB.out,?_⟩;rw[HL.out.1];exact⟨p,b,HL.out.2.1,HL.out.2.2.1,rfl,HL.out.2.2.2⟩
def jM (l:Fs):List Value:=l.flatMap λf=>[encStr f.name,encStr f.firm,encStr f.pend]
theorem jN (l:Fs)(i:Nat)(h:i<l.length):(jM l)[i*3]?=some (encStr l[i].name)∧(jM l)[i*3+1]?=some (encStr l[i].firm)∧(jM l)[i*3+2]?=some (encStr l[i].pend):=by
 induction l generalizing i with
 | nil=>simp at h
 | cons x l ih=>
  rcases i with _|i
  ·simp[jM]
  ·have:=ih i (by simpa using h)
   simp only[jM,List.flatMap_cons,List.getElem_cons_succ]at this ⊢;rw[show(i+1)*3=i*3+1+1+1 from by omega];simpa using this
def OwnFiles (w:World)(v:Value)(l:Fs):Prop:=w.ownsRow 0 151 3 v l.length (jM l)
theorem jO (l:List UInt8):(⟨l.toArray⟩:ByteArray).data.toList=l:=by simp
theorem OwnFiles.at {w:World}{v:Value}{l:Fs}(h:OwnFiles w v l):eV w v l:=by
 rcases h.2 with⟨hv,hn⟩|⟨g,cap,cur,hv,hh⟩
 ·exact⟨none,0,by rw[hv,hn],.inl (List.eq_nil_of_length_eq_zero hn)⟩
 ·subst hv
  refine⟨_,cap,rfl,.inr ⟨g,0,rfl,λi hi=>?_⟩⟩;obtain⟨h1,h2,h3⟩:=jN l i hi;refine⟨_,_,_,jO _,jO _,jO _,?_⟩;rw[Nat.zero_add,World.ownsRow.cellAt h (i*3) (by omega),World.ownsRow.cellAt h (i*3+1) (by omega),World.ownsRow.cellAt h (i*3+2) (by omega)];exact⟨h1,h2,h3⟩
theorem eV.kept {S:Nat→Prop}{w w':World}{sv:Value}{l:Fs}(h:eV w sv l)(hf:Fr S w w')(hs:∀g,sv.ownBlock=some g→¬S g):eV w' sv l:=by
 obtain⟨a,c,rfl,h|⟨b,o,rfl,h⟩⟩:=h
 ·exact⟨a,c,rfl,.inl h⟩
 ·refine⟨_,c,rfl,.inr ⟨b,o,rfl,λi hi=>?_⟩⟩
  obtain⟨x,y,z,e1,e2,e3,h1,h2,h3⟩:=h i hi;exact⟨x,y,z,e1,e2,e3,hf.cellAt h1 (hs b rfl),hf.cellAt h2 (hs b rfl),hf.cellAt h3 (hs b rfl)⟩
theorem eV.pure {w w':World}{sv:Value}{l:Fs}(h:eV w sv l)(hb:Below w.heap.size w w'):eV w' sv l:=h.kept (Fr.pure (S:=λ_=>False) hb) (λ_ _ h=>h)
theorem jP {x:ByteArray}{l:List UInt8}(h:x.data.toList=l):Value.string x=encStr l:=by unfold encStr;rw[← h]
end
section
open Go.RowKit Go.Sort Go.Shelf
def gu (x:Int×Int):List UInt8:=b9 x.1 x.2
theorem gw (w:World)(hp:Pow w)(g:Int)(sv:Value)(l:bI)(hs:bJ w sv l)(hm:bL g l=true) :
  Calls prog 25 #[.agg #[.int .i64 g,sv]] w λe w'=>∃v,e = .returned v∧Below w.heap.size w w'∧w'.ownsRow (w.heap.size+1) 9 1 v l.length ((l.map gu).map encStr):=by
 obtain⟨a,c,rfl⟩:=hs.shape;obtain⟨hg0,hg1,hl0,hl1,hall⟩:=gm hm;have hbz:Below w.heap.size w (w.alloc (.cells #[.int .i64 g,.slice a l.length c] 42)):=(Below.refl _ _).alloc (Nat.le_refl _) _;have HS:=hid hs;have HS1:=hid (hs.pure hbz);have HM:=hid hm;have HB:=hid hbz;have HP:=hid hp;have hpl:=bR hp;have HA:=hid hall;clear hs hm hbz hp hall
 go_enter func25,ntmps25
 go_wp2_with fail
 refine(bQ _ g _ l HS1.out (by omega)).mono ?_;rintro e w1 ⟨rfl,hb1⟩;rw[HM.out];have HB1:=hid (show Below (w.heap.size+1) (w.alloc (.cells #[.int .i64 g,.slice a l.length c] 42)) w1 from hb1.mono (by simp));have hc4:w1.cell? ⟨w.heap.size,1,none⟩=some (.slice a l.length c):=by rw[hb1.cell (by simp),World.cell?_alloc_at _ _ _ _ rfl];rfl
 have hs1:=hb1.size;simp at hs1;clear hb1;go_wp2
 go_loopw [3,12] (λv i wr=>∃k:Nat,k≤l.length∧i = .int .i64 k∧wr.ownsRow (w.heap.size+1) 9 1 v k (((l.take k).map gu).map encStr)∧Below (w.heap.size+1) (w.alloc (.cells #[.int .i64 g,.slice a l.length c] 42)) wr) (λ_ i _=>l.length-(intOf i).toNat)
 case atStart=>exact⟨0,by omega,rfl,World.ownsRow_nil _ _ _ _,HB1.out⟩
 case round=>
  obtain⟨k,hk,rfl,hown,hb⟩:=hrel;have hsz:=hb.size;simp at hsz;by_cases hlt:k<l.length
  ·obtain⟨b,o,rfl,h1,h2,hbl⟩:=HS.out.at k hlt
   have hc1:wr.cell? ⟨b,o+k*2,none⟩=some (.int .i64 l[k].1):=by rw[hb.cell (by show b<_;omega),World.cell?_alloc_past _ _ _ hbl];exact h1
   have hc2:wr.cell? ⟨b,o+k*2+1,none⟩=some (.int .i64 l[k].2):=by rw[hb.cell (by show b<_;omega),World.cell?_alloc_past _ _ _ hbl];exact h2
   clear h1 h2;have hpw:=hid (bS ((Below.refl wr.heap.size wr).alloc (Nat.le_refl _) (.cells #[.int .i64 l[k].1,.int .i64 l[k].2] 48)) ((Fr.of_below hb).pow (((Fr.refl (λ_=>False) w).alloc _).pow HP.out (λh=>h)) (by omega)));have HO:=hid hown;clear hown
   go_wp2_with fail
   refine(cf _ hpw.out l[k].1 l[k].2).mono ?_;rintro e w3 ⟨⟨r,hr,rfl⟩,hb3⟩;have HR:=hid (show Value.string r=encStr (gu l[k])from by unfold encStr gu;rw[← hr]);have hb4:Below wr.heap.size wr w3:=((Below.refl wr.heap.size wr).alloc (Nat.le_refl _) _).trans (hb3.mono (by simp));have hs3:=hb4.size;have HO4:=hid (((Fr.pure (S:=λ_=>False) hb4).ownsRow HO.out (λ_ _ h=>h)).alloc (.cells #[.string r] 9));have HB4:=hid hb4;clear hr hb3 hb4;obtain⟨i0,hi,hz0,hz1,hz2⟩:=info_parts Tryz.infoStr;have HI:=hid hi;have HZ0:=hid hz0;have HZ1:=hid hz1;have HZ2:=hid hz2;clear hi hz0 hz1 hz2
   go_wp2_with (first
    | (refine wpList_append_lies _ rfl _ _ 70 rfl (w.heap.size+1) 9 i0 _ 1 16 underlying70 HI.out HZ0.out HZ1.out HZ2.out rfl (by omega) _ k _ rfl HO4.out ⟨w3.heap.size,0,none⟩ 1 1 [.string r] rfl rfl (aC rfl rfl) (by simp[Value.oneCell']) (by omega) (by unfold maxLen;omega) (by omega) (by simp;omega) (w3.heap.size+1) (by simp) ?_;intro gg cap w8 hown8 hgrow8 hat8 hlt8))
   go_roundw
   case rel=>
    refine⟨k+1,by omega,by go_num,?_,?_⟩
    ·rw[List.take_succ_eq_append_getElem hlt,List.map_append,List.map_append,List.map_cons,List.map_cons,List.map_nil,List.map_nil,← HR.out];exact hown8
    ·exact((hb.trans (HB4.out.mono hsz)).alloc (by omega) _).grown hgrow8 (by simp;omega) (λj e=>gt HO4.out (by exact e))
   case measure=>simp[intOf];omega
  ·have hkl:k=l.length:=by omega
   have HO:=hid hown;clear hown;go_wp2;go_ret;have ho:=HO.out;rw[hkl,List.take_length]at ho;exact⟨_,rfl,ax hb,ho⟩
end
section
open Go.RowKit Go.Maps Go.Sort
def rX (w:World)(base:Nat)(v:Value)(l:List (List UInt8)):Prop:=w.ownsRow base 9 1 v l.length (l.map encStr)
theorem rY (w:World)(p b:Nat)(st:cZ)(h:db w p b st) :
  Calls prog 34 #[.pointer (some ⟨p,0,none⟩)] w λe w'=>Below w.heap.size w w' ∧
   (if st.dark then e = .returned (.tuple #[.slice none 0 0,.int .i64 45]) else ∃v,e = .returned (.tuple #[v,.int .i64 0])∧rX w' w.heap.size v (st.fs.map (·.name))):=by
 have H:=hid h;clear h;cases hd:st.dark
 ·have HD:=hid hd
  clear hd
  go_enter func34,ntmps34
  go_wp2_with fail
  refine(dg _ p b st H.out).mono ?_;rintro e w1 ⟨rfl,rfl⟩;rw[HD.out]
  go_wp2_with fail
  refine(fu _ p b st H.out).mono ?_;rintro e w1 ⟨v,rfl,ho,hb⟩;have HO:=hid ho;have HB:=hid hb;clear ho hb;go_wp2;refine bodyPost_ret (v:=.tuple #[v,.int .i64 0]) (by simp[results,results34,go_sem]) rfl ?_;exact⟨HB.out,v,rfl,by have:=HO.out;unfold rX;rw[List.length_map];exact this⟩
 ·have HD:=hid hd
  clear hd
  go_enter func34,ntmps34
  go_wp2_with fail
  refine(dg _ p b st H.out).mono ?_;rintro e w1 ⟨rfl,rfl⟩;rw[HD.out];go_wp2;refine bodyPost_ret (v:=.tuple #[.slice none 0 0,.int .i64 45]) (by simp[results,results34,go_sem]) rfl ?_;exact⟨Below.refl _ _,rfl⟩
theorem db.len {w:World}{p b:Nat}{st:cZ}(h:db w p b st)(ty:TypeId):(Builtin.len_ #[146] ty #[.map (some b)]).run prog w = .ok (.int .i64 (st.fs.length:Nat)) w:=by
 have:=h.own.len (t:=146) underlying146 ty;rw[cV]at this;exact this
def lI (st:cZ):Value:=if st.dark then .tuple #[.int .i64 0,.int .i64 0,.int .i64 45] else .tuple #[.int .i64 (st.cap-(cX st.fs:Int)),.int .i64 (64-(st.fs.length:Int)),.int .i64 0]
theorem lJ (w:World)(p b:Nat)(st:cZ)(h:db w p b st) :
  Calls prog 106 #[.pointer (some ⟨p,0,none⟩)] w λe w'=>e = .returned (lI st)∧Below w.heap.size w w':=by
 have H:=hid h;have hul:=dc h.ok.fs;have hcap0:=h.ok.cap0;have hcap1:=h.ok.cap1;have hfit:=h.ok.fits;have hfew:=h.ok.fs.few;obtain⟨c0,c1,c2,c3⟩:=h.cs;clear h c2 c3;cases hd:st.dark
 ·have HD:=hid hd
  clear hd
  go_enter func106,ntmps106
  go_wp2_with fail
  refine(dg w p b st H.out).mono ?_;rintro e w1 ⟨rfl,rfl⟩;rw[HD.out];have k0:=cell_regrown c0;have k1:=cell_regrown c1;have q1:∀d os,Calls prog 88 #[.pointer (some ⟨p,0,none⟩)] (grow (redrawn w d) os) λe w''=>e = .returned (.int .i64 (cX st.fs:Int))∧∃p:Regrown,w''=grow (redrawn w p.d) p.os:=λd os=>Calls.regrown_of (dE _ p b st (H.out.pure (below_regrown w d os)));have q2:∀d os ty,(Builtin.len_ #[146] ty #[.map (some b)]).run prog (grow (redrawn w d) os) = .ok (.int .i64 (st.fs.length:Nat)) (grow (redrawn w d) os):=λd os ty=>(H.out.pure (below_regrown w d os)).len ty;have w1e:IntKind.i64.wrap (st.cap-(cX st.fs:Int))=st.cap-(cX st.fs:Int):=IntWalk.i64_in _ (by omega);have w2e:IntKind.i64.wrap (64-(st.fs.length:Int))=64-(st.fs.length:Int):=IntWalk.i64_in _ (by omega)
  go_wp2_with fail
  refine wp_region_quiet_below (by kernel_rfl) (by kernel_rfl) ?_
  repeat (go_big_quiet_step (first|exact q1 _ _))
  refine wpQuiet_nil ?_;intro _ hw';obtain⟨⟨dq,osq⟩,hw''⟩:=hw';subst hw'';clear k0 k1 q1 q2;go_wp2
  go_ret3
  refine⟨?_,below_regrown w dq osq⟩;unfold lI;rw[HD.out];rfl
 ·have HD:=hid hd
  clear hd
  go_enter func106,ntmps106
  go_wp2_with fail
  refine(dg w p b st H.out).mono ?_;rintro e w1 ⟨rfl,rfl⟩;rw[HD.out];go_wp2
  go_ret3
  refine⟨?_,Below.refl _ _⟩;unfold lI;rw[HD.out];rfl
def TextsIn (w:World)(g:Nat)(ns:List (List UInt8)):Prop:=∀i (h:i<ns.length),∃x:ByteArray,x.data.toList=ns[i]∧w.cell? ⟨g,i,none⟩=some (.string x)
def NumsIn (w:World)(g:Nat)(ms:List Nat):Prop:=∀i (h:i<ms.length),w.cell? ⟨g,i,none⟩=some (.int .i64 (ms[i]:Int))
theorem TextsIn.pure {w w':World}{g:Nat}{ns:List (List UInt8)}(h:TextsIn w g ns)(hb:Below w.heap.size w w'):TextsIn w' g ns:=λi hi=>by
 obtain⟨x,h1,h2⟩:=h i hi;exact⟨x,h1,(hb.cell (p:=⟨g,i,none⟩) (aw h2)).trans h2⟩
theorem NumsIn.pure {w w':World}{g:Nat}{ms:List Nat}(h:NumsIn w g ms)(hb:Below w.heap.size w w'):NumsIn w' g ms:=λi hi=>(hb.cell (p:=⟨g,i,none⟩) (aw (h i hi))).trans (h i hi)
end
end Go.Proofs.YthjjgcfdhkhelaaGreatDoor
