/- Snapshots' bytes, and what a write of them leaves of a disk, plainly. -/
import Derived.Test.YtaeakdichkhjaaaGreatDoorQAe
import Derived.Test.YtaeakdichkhjaaaGreatDoorShelf
import Derived.Shelf.SlIter.Nil
import Derived.Shelf.SortM.Plain
import Derived.Shelf.SortM.SortNone
import Derived.Test.YtaeakdichkhjaaaGreatDoorQAb
set_option maxHeartbeats 2500000
open Go.Lib(hid)
namespace Go.Proofs.YtaeakdichkhjaaaGreatDoor
section
open Go.RowKit Go.Maps Go.Sort
def FilesAt (w:World)(sv:Value)(l:Fs):Prop:=
 ∃a c,sv = .slice a l.length c∧(l=[]∨∃b o,a=some ⟨b,o,none⟩∧∀i (h:i<l.length),∃x y z:ByteArray,x.data.toList=l[i].name∧y.data.toList=l[i].firm∧z.data.toList=l[i].pend ∧
  w.cell? ⟨b,o+i*3,none⟩=some (.string x)∧w.cell? ⟨b,o+i*3+1,none⟩=some (.string y)∧w.cell? ⟨b,o+i*3+2,none⟩=some (.string z))
theorem FilesAt.shape {w:World}{sv:Value}{l:Fs}(h:FilesAt w sv l):∃a c,sv = .slice a l.length c:=by obtain⟨a,c,h,_⟩:=h;exact⟨a,c,h⟩
theorem FilesAt.at {w:World}{a:Option Addr}{c n:Nat}{l:Fs}(h:FilesAt w (.slice a n c) l)(k:Nat)(hk:k<l.length) :
  ∃b o,a=some ⟨b,o,none⟩∧b<w.heap.size∧∃x y z:ByteArray,x.data.toList=l[k].name∧y.data.toList=l[k].firm∧z.data.toList=l[k].pend ∧
   w.cell? ⟨b,o+k*3,none⟩=some (.string x)∧w.cell? ⟨b,o+k*3+1,none⟩=some (.string y)∧w.cell? ⟨b,o+k*3+2,none⟩=some (.string z):=by
 obtain⟨a',c',he,h|⟨b,o,rfl,h⟩⟩:=h
 ·subst h;simp at hk
 ·cases he
  obtain⟨x,y,z,h1,h2,h3,h4,h5,h6⟩:=h k hk;exact⟨b,o,rfl,aA h4,x,y,z,h1,h2,h3,h4,h5,h6⟩
def gr (cnt:Nat):List UInt8→Fs→Bool
 | _,[]=>true
 | last,f::r=>(cU f.name && bytesBefore last f.name && decide (f.firm.length+f.pend.length≤1048576) && decide (cnt≤64)) && gr cnt f.name r
def gt (cap:Int)(l:Fs):Option DkSt×Int:=
 if cap<0 then (none,1) else if !gr l.length [] l then (none,4) else if cap<(cT l:Int) then (none,44) else (some ⟨l,cap,-1,false⟩,0)
structure LdInv (l:Fs) (k:Nat) (last:List UInt8):Prop where
 eq:gr l.length [] l=gr l.length last (l.drop k)
 sorted:(l.take k).Pairwise (λf g=>bytesBefore f.name g.name=true)
 upto:∀g∈l.take k,g.name=last∨bytesBefore g.name last=true
 keep:FsKeep (l.take k)
theorem gu {fs:Fs}{f:FileS}(h:∀g∈fs,bytesBefore g.name f.name=true):cI fs f=fs++[f]:=by
 have hd:cH fs f.name=fs:=by
  unfold cH;rw[List.filter_eq_self];intro g hg;have:=dm (h g hg);simpa using this
 unfold cI;rw[hd];clear hd
 induction fs with
 | nil=>rfl
 | cons g r ih=>
  have hg:=h g (by simp);have hn:bytesBefore f.name g.name=false:=by
   cases e:bytesBefore f.name g.name
   ·rfl
   ·have:=WideShapes.bytes_trans _ _ _ hg e;rw[WideAt.bytes_irrefl]at this;cases this
  unfold cG;rw[hn,ih (λx hx=>h x (by simp[hx]))];rfl
theorem LdInv.start (l:Fs):LdInv l 0 []:=⟨rfl,by simp,by simp,⟨by simp,by simp,by simp⟩⟩
theorem gv {l:Fs}{k:Nat}{last:List UInt8}(hk:k<l.length):gr l.length last (l.drop k)=((cU l[k].name && bytesBefore last l[k].name && decide (l[k].firm.length+l[k].pend.length≤1048576) && decide (l.length≤64)) && gr l.length l[k].name (l.drop (k+1))):=by
 rw[List.drop_eq_getElem_cons hk];rfl
theorem LdInv.bad {l:Fs}{k:Nat}{last:List UInt8}(h:LdInv l k last)(hk:k<l.length)(hc:(cU l[k].name && bytesBefore last l[k].name && decide (l[k].firm.length+l[k].pend.length≤1048576) && decide (l.length≤64))=false):gr l.length [] l=false:=by
 rw[h.eq,gv hk,hc];rfl
theorem LdInv.before {l:Fs}{k:Nat}{last:List UInt8}(h:LdInv l k last)(hk:k<l.length)(hb:bytesBefore last l[k].name=true):∀g∈l.take k,bytesBefore g.name l[k].name=true:=by
 intro g hg
 rcases h.upto g hg with e|e
 ·rw[e];exact hb
 ·exact WideShapes.bytes_trans _ _ _ e hb
theorem LdInv.put {l:Fs}{k:Nat}{last:List UInt8}(h:LdInv l k last)(hk:k<l.length)(hb:bytesBefore last l[k].name=true):cI (l.take k) l[k]=l.take (k+1):=by
 rw[gu (h.before hk hb),List.take_succ_eq_append_getElem hk]
theorem LdInv.next {l:Fs}{k:Nat}{last:List UInt8}(h:LdInv l k last)(hk:k<l.length)(h1:cU l[k].name=true)(h2:bytesBefore last l[k].name=true)(h3:l[k].firm.length+l[k].pend.length≤1048576)(h4:l.length≤64):LdInv l (k+1) l[k].name:=by
 have ht:l.take (k+1)=l.take k++[l[k]]:=List.take_succ_eq_append_getElem hk;refine⟨by rw[h.eq,gv hk,h1,h2,decide_eq_true h3,decide_eq_true h4];rfl,?_,?_,?_,?_,?_⟩
 ·rw[ht,List.pairwise_append]
  exact⟨h.sorted,by simp,λa ha b hb=>by rw[List.mem_singleton]at hb;subst hb;exact h.before hk h2 a ha⟩
 ·intro g hg
  rw[ht,List.mem_append,List.mem_singleton]at hg
  rcases hg with hg|rfl
  ·exact .inr (h.before hk h2 g hg)
  ·exact .inl rfl
 ·rw[List.length_take];omega
 ·intro g hg
  rw[ht,List.mem_append,List.mem_singleton]at hg
  rcases hg with hg|rfl
  ·exact h.keep.small g hg
  ·exact h3
 ·intro g hg
  rw[ht,List.mem_append,List.mem_singleton]at hg
  rcases hg with hg|rfl
  ·exact h.keep.names g hg
  ·exact eh h1
theorem LdInv.ok {l:Fs}{k:Nat}{last:List UInt8}(h:LdInv l k last)(hk:k=l.length):gr l.length [] l=true∧FsOk l:=by
 subst hk;have e:=h.eq;have h1:=h.sorted;have h2:=h.keep;rw[List.drop_length]at e;rw[List.take_length]at h1 h2;exact⟨e,h1,h2.few,h2.small,h2.names⟩
theorem gw:∀(a b:List UInt8),Op.bytesLess a b=bytesBefore a b
 | [],[]=>rfl
 | [],_::_=>rfl
 | _::_,[]=>rfl
 | a::r,b::s=>by unfold Op.bytesLess bytesBefore;rw[gw r s]
theorem gx (a b:List UInt8):(Op.bytesLess a b || a == b) = !bytesBefore b a:=by
 rw[gw];by_cases h:a=b
 ·subst h;rw[WideAt.bytes_irrefl];simp
 ·rw[show(a == b)=false from by simpa using h,Bool.or_false]
  rcases WideAt.bytes_total a b h with e|e
  ·rw[e]
   cases e2:bytesBefore b a
   ·rfl
   ·have:=WideShapes.bytes_trans _ _ _ e e2;rw[WideAt.bytes_irrefl]at this;cases this
  ·rw[e]
   cases e2:bytesBefore a b
   ·rfl
   ·have:=WideShapes.bytes_trans _ _ _ e e2;rw[WideAt.bytes_irrefl]at this;cases this
def gy (cap:Int)(l:Fs)(w:World)(e:Ending)(w':World):Prop:=
 Below w.heap.size w w'∧match gt cap l with
  | (some st,c)=>∃p b,w.heap.size≤p∧w.heap.size≤b∧e = .returned (.tuple #[.pointer (some ⟨p,0,none⟩),.int .i64 c])∧IsDk w' p b st
  | (none,c)=>e = .returned (.tuple #[.pointer none,.int .i64 c])
theorem gz {n:Nat}(w:World)(o:Obj)(h:n=w.heap.size):(w.alloc o).heap[n]?=some o:=by subst h;exact heap_alloc_new w o
set_option maxRecDepth 100000 in
theorem gA (w:World)(cap:Int)(sv:Value)(l:Fs)(hl:FilesAt w sv l)(hlen:l.length≤4398046511104)(hsz:∀f∈l,f.name.length≤140737488355328∧f.firm.length≤140737488355328∧f.pend.length≤140737488355328)(hc1:cap≤9223372036854775807) :
  Calls Tryz.prog 8 #[.int .i64 cap,sv] w λe w'=>gy cap l w e w':=by
 have hmm:=@run_makeMap Tryz.prog;obtain⟨a,c,rfl⟩:=hl.shape;have HS:=hid hl;clear hl;by_cases hc0:cap<0
 ·go_enter Tryz.func8,Tryz.ntmps8
  go_wp2;refine bodyPost_ret (v:=.tuple #[.pointer none,.int .i64 1]) (by simp[results,Tryz.results8,go_sem]) rfl ⟨Below.refl _ _,?_⟩;unfold gt;rw[if_pos hc0]
 ·go_enter Tryz.func8,Tryz.ntmps8
  go_wp2
  go_loopw [7,18] (λx i wr=>∃(k:Nat) (lb:ByteArray),k≤l.length∧i = .int .i64 k∧x = .string lb∧LdInv l k lb.data.toList∧wr.heap[w.heap.size+1]?=some (.cells ((⟨l.take k,cap,-1,false⟩:DkSt).cells w.heap.size) 78 (0,0))∧wr.ownsMap Tryz.prog 9 cB w.heap.size k (fsD (l.take k))∧Below w.heap.size w wr) (λ_ i _=>l.length-(intOf i).toNat)
  case atStart=>
   exact⟨0,⟨#[]⟩,by omega,rfl,rfl,LdInv.start l,gz _ _ (by simp),ownsMap_at rfl _,((Below.refl _ _).alloc (Nat.le_refl _) _).alloc (by simp) _⟩
  case round=>
   obtain⟨k,lb,hk,rfl,rfl,hinv,hcell,hown,hb⟩:=hrel;have hwr:w.heap.size+1<wr.heap.size:=lt_of_block hcell;by_cases hlt:k<l.length
   ·obtain⟨b0,o,rfl,hbl,x,y,z,e1,e2,e3,h1,h2,h3⟩:=HS.out.at k hlt
    have hg1:=(hb.cell (p:=⟨b0,o+k*3,none⟩) hbl).trans h1;have hg2:=(hb.cell (p:=⟨b0,o+k*3+1,none⟩) hbl).trans h2;have hg3:=(hb.cell (p:=⟨b0,o+k*3+2,none⟩) hbl).trans h3;clear h1 h2 h3;have E:=hid (show x.data.toList=l[k].name∧y.data.toList=l[k].firm∧z.data.toList=l[k].pend from⟨e1,e2,e3⟩);have hszs:=hsz l[k] (List.getElem_mem hlt);rw[← e1,← e2,← e3,am,am,am]at hszs;obtain⟨hx1,hx2,hx3⟩:=hszs;clear e1 e2 e3
    go_wp2_with fail
    refine(dD x _ (by omega)).mono ?_;rintro e w3 ⟨rfl,hb3⟩;have HB3:=hid (((Below.refl _ wr).alloc (Nat.le_refl _) (.cells #[.string x,.string y,.string z] 60)).trans (hb3.mono (by simp)));have hs3:=hb3.size;simp at hs3;have n0:w3.cell? ⟨wr.heap.size,0,none⟩=some (.string x):=by rw[hb3.cell (by simp),World.cell?_alloc_at _ _ _ _ rfl];rfl
    have n1:w3.cell? ⟨wr.heap.size,1,none⟩=some (.string y):=by rw[hb3.cell (by simp),World.cell?_alloc_at _ _ _ _ rfl];rfl
    have n2:w3.cell? ⟨wr.heap.size,2,none⟩=some (.string z):=by rw[hb3.cell (by simp),World.cell?_alloc_at _ _ _ _ rfl];rfl
    have hcell3:=(HB3.out.block _ hwr).trans hcell;have hown3:=cW hown (Fr.pure (S:=λ_=>False) HB3.out) (λh=>h);clear hb3 hcell hown;cases hM:cU x.data.toList
    ·have hcc:=hid (hinv.bad hlt (by rw[← E.out.1,hM];simp))
     clear hinv;go_wp2;refine bodyPost_ret (v:=.tuple #[.pointer none,.int .i64 4]) (by simp[results,Tryz.results8,go_sem]) rfl ⟨hb.trans (HB3.out.mono hb.size),?_⟩;unfold gt;rw[if_neg (by omega),hcc.out];rfl
    ·cases hB:bytesBefore lb.data.toList x.data.toList
     ·have hleq:(Op.bytesLess x.toList lb.toList || x.toList == lb.toList)=true:=by rw[ByteArray.toList_eq,ByteArray.toList_eq,gx,hB];rfl
      have hcc:=hid (hinv.bad hlt (by rw[← E.out.1,hM,hB];simp));clear hinv;go_wp2;refine bodyPost_ret (v:=.tuple #[.pointer none,.int .i64 4]) (by simp[results,Tryz.results8,go_sem]) rfl ⟨hb.trans (HB3.out.mono hb.size),?_⟩;unfold gt;rw[if_neg (by omega),hcc.out];rfl
     ·have hleq:(Op.bytesLess x.toList lb.toList || x.toList == lb.toList)=false:=by rw[ByteArray.toList_eq,ByteArray.toList_eq,gx,hB];rfl
      have hl1:Op.bytesLess x.toList lb.toList=false:=(Bool.or_eq_false_iff.1 hleq).1;have hl2:(x.toList == lb.toList)=false:=(Bool.or_eq_false_iff.1 hleq).2;by_cases hS:1048576<y.size+z.size
      ·have hS1:(1048576:Int)<(y.size:Int)+(z.size:Int):=by omega
       have hcc:=hid (hinv.bad hlt (by rw[← E.out.2.1,← E.out.2.2,am,am,decide_eq_false (by omega:¬y.size+z.size≤1048576)];simp));clear hinv;go_wp2;refine bodyPost_ret (v:=.tuple #[.pointer none,.int .i64 4]) (by simp[results,Tryz.results8,go_sem]) rfl ⟨hb.trans (HB3.out.mono hb.size),?_⟩;unfold gt;rw[if_neg (by omega),hcc.out];rfl
      ·have hS1:¬(1048576:Int)<(y.size:Int)+(z.size:Int):=by omega
       by_cases hC:64<l.length
       ·have hcc:=hid (hinv.bad hlt (by rw[decide_eq_false (by omega:¬l.length≤64)];simp))
        clear hinv;go_wp2;refine bodyPost_ret (v:=.tuple #[.pointer none,.int .i64 4]) (by simp[results,Tryz.results8,go_sem]) rfl ⟨hb.trans (HB3.out.mono hb.size),?_⟩;unfold gt;rw[if_neg (by omega),hcc.out];rfl
       ·have hsx:=E.out
        have HN:=hid (hinv.next hlt (by rw[← hsx.1];exact hM) (by rw[← hsx.1];exact hB) (by rw[← hsx.2.1,← hsx.2.2,am,am];omega) (by omega));have HP:=hid (hinv.put hlt (by rw[← hsx.1];exact hB));have hln:=eh hM;rw[am]at hln;obtain⟨w4,hrun,hown4,hturn4⟩:=(show w3.drew.ownsMap Tryz.prog 9 cB w.heap.size k (fsD (l.take k))from hown3).store (t:=76) (e:=81) Tryz.strKey Tryz.underlying76 (by unfold maxLen;omega) (key:=.string x) (val:=.agg #[.string y,.string z]) (WideMaps.keyOf_string_mk Tryz.underlying9 (by unfold maxLen;omega)) (cD _ _);have HT:=hid (dE hturn4);have c0:w3.cell? ⟨w.heap.size+1,0,none⟩=some (.map (some w.heap.size)):=by rw[cell_of_row w3 _ _ _ _ _ hcell3];rfl
        have HO4:=hid (show w4.ownsMap Tryz.prog 9 cB w.heap.size (k+1) (fsD (l.take (k+1)))from by
         rw[← HP.out,← cN];show w4.ownsMap Tryz.prog 9 cB w.heap.size (k+1) ((fsD (l.take k)).put (.string l[k].name) (.agg [.lit (.string l[k].firm),.lit (.string l[k].pend)]));rw[← hsx.1,← hsx.2.1,← hsx.2.2];exact hown4)
        have HC4:=hid (HT.out.heapAt (show w3.drew.heap[w.heap.size+1]?=_ from hcell3) (by omega));have HB4:=hid (hb.trans ((HB3.out.mono hb.size).drew.trans (HT.out.below (B:=w.heap.size) (by show w.heap.size≤w3.heap.size;omega) (λk hk=>by omega)):RowKit.Below w.heap.size wr w4));clear hown4 hturn4 hown3 hcell3 hinv hsx hB hM hleq;go_wp2
        go_region
        go_wp2
        go_roundw
        case rel=>exact⟨k+1,x,by omega,by go_num,rfl,by rw[E.out.1];exact HN.out,HC4.out,HO4.out,HB4.out⟩
        case measure=>simp[intOf];omega
   ·obtain rfl:k=l.length:=by omega
    obtain⟨hok,hfs⟩:=hinv.ok rfl;rw[List.take_length]at hcell hown;have HOK:=hid hok;have HFS:=hid hfs;have hul:=cV hfs;have HC:=hid hcell;have HO:=hid hown;clear hok hfs hcell hown hinv
    go_wp2_with fail
    refine(dx wr (w.heap.size+1) w.heap.size ⟨l,cap,-1,false⟩ HC.out HO.out HFS.out).mono ?_;rintro e w3 ⟨rfl,hb3⟩;by_cases hfit:cap<(cT l:Int)
    ·go_wp2
     refine bodyPost_ret (v:=.tuple #[.pointer none,.int .i64 44]) (by simp[results,Tryz.results8,go_sem]) rfl ⟨hb.trans (hb3.mono hb.size),?_⟩;rw[show gt cap l=(none,44)from by unfold gt;rw[if_neg (by omega),HOK.out,if_neg (by simp),if_pos hfit]]
    ·go_wp2
     refine bodyPost_ret (v:=.tuple #[.pointer (some ⟨w.heap.size+1,0,none⟩),.int .i64 0]) (by simp[results,Tryz.results8,go_sem]) rfl ⟨hb.trans (hb3.mono hb.size),?_⟩;rw[show gt cap l=(some ⟨l,cap,-1,false⟩,0)from by unfold gt;rw[if_neg (by omega),HOK.out,if_neg (by simp),if_neg (by omega)]];exact⟨_,w.heap.size,by omega,by omega,rfl,(⟨HC.out,HO.out,⟨HFS.out,by show 0≤cap;omega,hc1,by show(cT l:Int)≤cap;omega,by show(-1:Int) ≤ -1;omega,by show(-1:Int)≤_;omega⟩⟩:IsDk wr _ _ _).pure hb3⟩
end
end Go.Proofs.YtaeakdichkhjaaaGreatDoor
namespace Go.Proofs
section
open Go.RowKit Go.Maps Go.Sort Go.Shelf
theorem Tryz.sortsX (m:Nat):AnyZ.SortsIn Tryz.prog Tryz.sortedX_ren Fence.wide m:=
 ⟨λblk off cap ss W hH hblk hsz=>callsIn_wide.2 (AnyM.slices_Sort_string Tryz.laysSlM6_f127 blk off cap ss W hH hblk hsz),
  λp cap W=>callsIn_wide.2 (AnyM.slices_Sort_string_none Tryz.laysSlM6_f127 p cap W)⟩
theorem Tryz.maps_Keys_X (mb:Option Nat)(W:World):CallsIn Fence.wide 5 Tryz.prog 91 #[.map mb] W λe w'=>e = .returned (.func (.func 128) #[] #[.pointer (some ⟨W.heap.size,0,none⟩)])∧w'=W.alloc (.cells #[.map mb] 76):=
 AnyZ.keys_in Tryz.keysX Fence.wide 5 trivial rfl mb W
theorem Tryz.slices_Sorted_keys_X {H:Type}(b nn:Nat)(D0:DataW H)(R:Value→Option (DataW H×List MemPlace))(w:World)(hown:w.ownsMap Tryz.prog 9 R b nn D0)(hmax:Maps.size D0≤maxLen)(hbytes:Maps.size D0*16≤140737488355328) :
  CallsIn Fence.wide 5 Tryz.prog 90 #[.func (.func 128) #[] #[.pointer (some ⟨w.heap.size,0,none⟩)]] (w.alloc (.cells #[.map (some b)] 76)) λe w'=>∃(v:Value) (ss:List (List UInt8)),e = .returned v∧ss.Perm (strKeys D0) ∧
   w'.ownsRow (w.alloc (.cells #[.map (some b)] 76)).heap.size 9 1 v ss.length ((ss.mergeSort (λx y=>decide (x≤y))).map encStr)∧(v = .slice none 0 0↔ss=[])∧Below (w.alloc (.cells #[.map (some b)] 76)).heap.size (w.alloc (.cells #[.map (some b)] 76)) w':=by
 have hbl:=hown.lt;have hseq:SeqGives Fence.wide 2 Tryz.prog 128 #[.pointer (some ⟨w.heap.size,0,none⟩)] encStr (λss=>ss.Perm (strKeys D0)) (Maps.size D0) (w.alloc (.cells #[.map (some b)] 76)):=
  AnyZ.keys_gives (ρ:=Tryz.keysX_ren) { Tryz.keysX with } Fence.wide _ trivial rfl (by omega) w.heap.size b nn D0 _ (by simp) (by simp) (by
   obtain⟨es,clock,hb,Ft,hs,hD⟩:=hown;exact⟨es,clock,(Below.heap_alloc _ _ b hbl).trans hb,Ft,hs,hD⟩)
 exact AnyZ.sorted_in Tryz.sortedX Fence.wide 5 trivial trivial trivial trivial rfl (by omega) (Tryz.sortsX _) (enters_of Tryz.func127 (by kernel_rfl) rfl) 128 #[.pointer (some ⟨w.heap.size,0,none⟩)] trivial (enters_of Tryz.func128 (by kernel_rfl) rfl) _ _ hmax hbytes _ hseq
end
end Go.Proofs
namespace Go.Proofs.YtaeakdichkhjaaaGreatDoor
section
open Go.RowKit Go.Maps Go.Sort Go.Shelf
theorem gB (fs:Fs):strKeys (fsD fs)=fs.map (·.name):=by
 show(fs.map cA).map (λp=>strOf p.1)=_;rw[List.map_map];rfl
theorem gC {fs:Fs}(hs:fs.Pairwise (λf g=>bytesBefore f.name g.name=true)){ss:List (List UInt8)}(hp:ss.Perm (fs.map (·.name))):ss.mergeSort (λx y=>decide (x≤y))=fs.map (·.name):=by
 refine List.Perm.eq_of_pairwise (le:=λx y=>x≤y) (λa b _ _ h1 h2=>List.le_antisymm h1 h2) ?_ ?_ ((List.mergeSort_perm _ _).trans hp)
 ·have:=List.pairwise_mergeSort (le:=λ(x y:List UInt8)=>decide (x≤y)) (λa b c h1 h2=>by simp only[decide_eq_true_eq]at *;exact List.le_trans h1 h2) (λa b=>by simpa using List.le_total a b) ss
  exact this.imp (λh=>by simpa using h)
 ·rw[List.pairwise_map]
  refine hs.imp λ{a b} h=>?_;have h1:Op.bytesLess a.name b.name=true:=by rw[gw];exact h
  rw[bytesLess_eq]at h1;exact List.le_of_lt (of_decide_eq_true h1)
set_option maxRecDepth 100000 in
theorem gD (w:World)(p b:Nat)(st:DkSt)(h:IsDk w p b st) :
  Calls Tryz.prog 51 #[.pointer (some ⟨p,0,none⟩)] w λe w'=>∃v,e = .returned v∧w'.ownsRow w.heap.size 9 1 v st.fs.length ((st.fs.map (·.name)).map encStr)∧Below w.heap.size w w':=by
 have H:=hid h;obtain⟨c0,c1,c2,c3⟩:=h.cs;clear h
 go_enter Tryz.func51,Tryz.ntmps51
 go_wp2_with fail
 refine(callsIn_wide.1 (Tryz.maps_Keys_X (some b) w)).mono ?_;rintro e w1 ⟨rfl,rfl⟩
 go_wp2_with fail
 have hf:=H.out.ok.fs.few;have hb:=(Below.refl w.heap.size w).alloc (Nat.le_refl _) (.cells #[.map (some b)] 76);refine(callsIn_wide.1 (Tryz.slices_Sorted_keys_X b st.fs.length (fsD st.fs) cB w H.out.own (by rw[cR];unfold maxLen;omega) (by rw[cR];omega))).mono ?_;rintro e w2 ⟨v,ss,rfl,hp,hown,_,hb2⟩;have HO:=hid hown;have HP:=hid hp;have HB:=hid (hb.trans (hb2.mono (by simp)));clear hown hp hb hb2;go_wp2;go_ret;rw[gB]at HP;have hl:=HP.out.length_eq;have ho:=HO.out;rw[gC H.out.ok.fs.sorted HP.out,hl,List.length_map]at ho;exact⟨v,rfl,aC ho (λg hg=>by
  obtain⟨_,hx|⟨g',cap,cur,e1,h2,_⟩⟩:=ho
  ·rw[hx.1]at hg;cases hg
  ·rw[e1]at hg;cases hg;simp at h2;show w.heap.size≤g';omega),HB.out⟩
end
section
open Go.RowKit Go.Maps Go.Sort
def kept (k:Int)(m:Nat):Nat:=(k % 18446744073709551616 % ((m:Int)+1)).toNat
def gE:List Int→Fs→Fs
 | _,[]=>[]
 | ks,f::r=>if f.pend=[] then f::gE ks r else match ks with
  | []=>⟨f.name,f.firm,[]⟩::gE [] r
  | k::t=>⟨f.name,f.firm++f.pend.take (kept k f.pend.length),[]⟩::gE t r
def gF (st:DkSt)(ks:List Int):DkSt:=⟨gE ks st.fs,st.cap,-1,false⟩
theorem gG {A B:Fs}{f:FileS}(h:(A++f::B).Pairwise (λf g=>bytesBefore f.name g.name=true)):cJ (A++f::B) f.name=some f:=by
 unfold cJ;rw[List.find?_append];have hn:A.find? (λg=>g.name == f.name)=none:=by
  rw[List.find?_eq_none];intro g hg;have:=(List.pairwise_append.1 h).2.2 g hg f (by simp);have:=dm this;simpa using this
 rw[hn,List.find?_cons];simp
theorem gH {A B:Fs}{f g:FileS}(h:(A++f::B).Pairwise (λf g=>bytesBefore f.name g.name=true))(hn:g.name=f.name):cI (A++f::B) g=A++g::B:=by
 have hA:∀x∈A,bytesBefore x.name g.name=true:=λx hx=>by rw[hn];exact(List.pairwise_append.1 h).2.2 x hx f (by simp)
 have hB:∀x∈B,bytesBefore g.name x.name=true:=λx hx=>by rw[hn];exact(List.pairwise_cons.1 (List.pairwise_append.1 h).2.1).1 x hx
 have hd:cH (A++f::B) g.name=A++B:=by
  unfold cH;rw[List.filter_append,List.filter_cons,show(f.name == g.name)=true from by rw[hn];simp];rw[List.filter_eq_self.2 (λx hx=>by have:=dm (hA x hx);simpa using this),if_neg (by simp),List.filter_eq_self.2 (λx hx=>by have:=(dm (hB x hx)).symm;simpa using this)]
 unfold cI;rw[hd];clear hd h
 induction A with
 | nil=>
  cases B with
  | nil=>rfl
  | cons x r=>show cG g (x::r)=_;unfold cG;rw[hB x (by simp)];rfl
 | cons x r ih=>
  have hx:=hA x (by simp);have hx2:bytesBefore g.name x.name=false:=by
   cases e:bytesBefore g.name x.name
   ·rfl
   ·have:=WideShapes.bytes_trans _ _ _ hx e;rw[WideAt.bytes_irrefl]at this;cases this
  show cG g (x::(r++B))=_;unfold cG;rw[hx2,ih (λy hy=>hA y (by simp[hy]))];rfl
theorem gI {ks:List Int}{f:FileS}{r:Fs}(h:f.pend=[]):gE ks (f::r)=f::gE ks r:=by cases ks<;>rw[gE,if_pos h]
theorem gJ {f:FileS}{r:Fs}(h:f.pend≠[]):gE [] (f::r)=⟨f.name,f.firm,[]⟩::gE [] r:=by rw[gE,if_neg h]
theorem gK {k:Int}{t:List Int}{f:FileS}{r:Fs}(h:f.pend≠[]):gE (k::t) (f::r)=⟨f.name,f.firm++f.pend.take (kept k f.pend.length),[]⟩::gE t r:=by rw[gE,if_neg h]
def IntsAt (w:World)(sv:Value)(ks:List Int):Prop:=
 ∃a c,sv = .slice a ks.length c∧ks.length≤c∧(ks=[]∨∃b o,a=some ⟨b,o,none⟩∧∀i (h:i<ks.length),w.cell? ⟨b,o+i,none⟩=some (.int .i64 ks[i]))
theorem IntsAt.kept {S:Nat→Prop}{w w':World}{sv:Value}{ks:List Int}(h:IntsAt w sv ks)(hf:Fr S w w')(hs:∀g,sv.ownBlock=some g→¬S g):IntsAt w' sv ks:=by
 obtain⟨a,c,rfl,hc,h|⟨b,o,rfl,h⟩⟩:=h
 ·exact⟨a,c,rfl,hc,.inl h⟩
 ·exact⟨_,c,rfl,hc,.inr ⟨b,o,rfl,λi hi=>hf.cellAt (h i hi) (hs b rfl)⟩⟩
theorem IntsAt.tail {w:World}{b o c:Nat}{k:Int}{t:List Int}(h:∀i (h:i<(k::t).length),w.cell? ⟨b,o+i,none⟩=some (.int .i64 (k::t)[i]))(hc:t.length+1≤c):IntsAt w (.slice (some ⟨b,o+1,none⟩) t.length (c-1)) t:=
 ⟨_,c-1,rfl,by omega,.inr ⟨b,o+1,rfl,λi hi=>by have:=h (i+1) (by simp;omega);rw[show o+1+i=o+(i+1)from by omega];simpa using this⟩⟩
theorem gL (w:World)(b:Nat)(fs:Fs)(hown:w.ownsMap Tryz.prog 9 cB b fs.length (fsD fs))(n:ByteArray)(hn:n.size≤maxLen) :
  ∃f1 f2,(Instr.lookup 76 (.map (some b)) (.string n) false).run Tryz.prog w = .ok (.agg #[.string f1,.string f2]) w∧db fs n.data.toList f1 f2:=by
 obtain⟨es,clock,hb,F,_,hD⟩:=hown;have hkey:=WideMaps.keyOf_string_mk Tryz.underlying9 hn
 rcases Maps.fit_look false Tryz.strKey Tryz.underlying76 (Tryz.zeroFile w) hb F hkey with⟨hrun,_,hat⟩|⟨e0,y,_,_,hrun,hRv,hat,_⟩
 ·rw[← hD]at hat
  refine⟨⟨#[]⟩,⟨#[]⟩,hrun,?_⟩;have h:=hat (.agg [.lit (.string []),.lit (.string [])]);obtain⟨a,b,e,hg⟩:=dd (v:=cC ⟨#[]⟩ ⟨#[]⟩) (ps:=[]) (fs:=fs) (n:=n.data.toList) (by rw[h];rfl);have e2:a=⟨#[]⟩∧b=⟨#[]⟩:=by simpa[cC,eq_comm]using e
  rw[e2.1,e2.2]at hg;exact hg
 ·rw[← hD]at hat
  have h:=hat (.agg [.lit (.string []),.lit (.string [])]);obtain⟨a,b,e,hg⟩:=dd (v:=e0.val) (ps:=y.2) (fs:=fs) (n:=n.data.toList) (by rw[h];exact hRv);rw[e]at hrun;exact⟨a,b,hrun,hg⟩
theorem gM {w:World}{base:Nat}{v:Value}{ns:List (List UInt8)}{n:Nat}(h:w.ownsRow base 9 1 v n (ns.map encStr)):∃a c,v = .slice a n c∧n=ns.length∧∀i (hi:i<ns.length),∃g,a=some ⟨g,0,none⟩∧base≤g∧w.cell? ⟨g,i,none⟩=some (.string ⟨ns[i].toArray⟩):=by
 obtain⟨hl,⟨rfl,rfl⟩|⟨g,cap,cur,rfl,hb,hh,hn,_,hsz,ht⟩⟩:=h
 ·simp at hl
  exact⟨none,0,rfl,by simp[hl],λi hi=>by rw[hl]at hi;simp at hi⟩
 ·simp at hl
  refine⟨_,cap,rfl,hl.symm,λi hi=>⟨g,rfl,hb,?_⟩⟩;rw[cell_of_row w g i _ _ _ hh];have e:(ns.map encStr)[i]?=some (encStr ns[i]):=by simp[hi]
  rw[← ht,List.getElem?_take,if_pos (by omega)]at e;rw[← Array.getElem?_toList];exact e
theorem gN (w:World)(p b:Nat)(st:DkSt)(A r:Fs)(f:FileS)(h:IsDk w p b { st with fs:=A++f::r })(x f4:ByteArray)(firm:List UInt8)(hx:x.data.toList=f.name)(h4:f4.data.toList=firm)(hl:firm.length≤f.firm.length+f.pend.length) :
  ∃w6,(Instr.mapUpdate 76 (.map (some b)) (.string x) (.agg #[.string f4,.string ⟨#[]⟩])).run Tryz.prog w.drew = .ok () w6∧IsDk w6 p b { st with fs:=A++[⟨f.name,firm,[]⟩]++r }∧Fr (λk=>k=b) w w6:=by
 have hg:=gG h.ok.fs.sorted;have hsm:=h.ok.fs.small f (cS hg).2;have hname:=h.ok.fs.names f (cS hg).2;obtain⟨w6,h1,h2,h3⟩:=eT w p b _ h x f4 ⟨#[]⟩ (by have:=av hx;unfold maxLen;omega) f (by rw[hx];exact hg) firm [] h4 rfl (by simp;omega) (by have hft:(cT (A++f::r):Int)≤st.cap:=h.ok.fits;show(cT (A++f::r):Int)+((firm.length+0:Nat):Int)≤st.cap+((f.firm.length+f.pend.length:Nat):Int);omega);refine⟨w6,h1,?_,h3⟩;rw[hx]at h2;have e:cI (A++f::r) ⟨f.name,firm,[]⟩=A++[⟨f.name,firm,[]⟩]++r:=by rw[gH (g:=⟨f.name,firm,[]⟩) h.ok.fs.sorted rfl];simp
 rw[← e];exact h2
set_option maxRecDepth 100000 in
theorem gO (w:World)(p b:Nat)(st:DkSt)(h:IsDk w p b st)(kv:Value)(ks:List Int)(hk:IntsAt w kv ks)(hkb:∀g,kv.ownBlock=some g→g≠p∧g≠b) :
  Calls Tryz.prog 20 #[.pointer (some ⟨p,0,none⟩),kv] w λe w'=>e = .returned (.int .i64 0)∧IsDk w' p b (gF st ks)∧DFr p b w w':=by
 have H:=hid h;have HK:=hid hk;have hp:=h.lt;have hbl:=h.own.lt;clear h hk;obtain⟨a0,c0,rfl⟩:∃a c,kv = .slice a ks.length c:=by obtain⟨a,c,e,_⟩:=HK.out;exact⟨a,c,e⟩
 go_enter Tryz.func20,Tryz.ntmps20
 go_wp2_with fail
 refine(gD w p b st H.out).mono ?_;rintro e w1 ⟨v,rfl,hown,hb1⟩;obtain⟨ga,gc,rfl,_,hrow⟩:=gM hown;have HR:=hid hrow;have HB1:=hid hb1;have hfew:=H.out.ok.fs.few;have hs1:=hb1.size;clear hown hrow hb1
 rename_i hnl
 clear hnl;go_wp2
 go_loopw [1,14] (λkv i wr=>∃(A B:Fs) (ks':List Int),i = .int .i64 A.length∧A.length+B.length=st.fs.length∧IntsAt wr kv ks'∧(∀g,kv.ownBlock=some g→g≠p∧g≠b)∧gE ks st.fs=A++gE ks' B∧IsDk wr p b { st with fs:=A++B }∧(A++B).map (·.name)=st.fs.map (·.name)∧DFr p b w1 wr) (λ_ i _=>st.fs.length-(intOf i).toNat)
 case atStart=>exact⟨[],st.fs,ks,rfl,by simp,HK.out.kept (Fr.pure (S:=λ_=>False) HB1.out) (λ_ _ h=>h),hkb,rfl,H.out.pure HB1.out,rfl,Fr.refl _ _⟩
 case round=>
  obtain⟨A,B,ks',rfl,hAB,hks,hkb',heq,hdk,hnm,hfr⟩:=hrel;have hks2:=hks;obtain⟨a1,c1,rfl,hkc,_⟩:=hks2;cases B with
  | nil=>
   have hAB2:A.length=st.fs.length:=by rw[← hAB];simp
   have hz2:=hdk.fz 2;have hz3:=hdk.fz 3;obtain⟨d0,d1,d2,d3⟩:=hdk.cs;have HQ:=hid (And.intro heq (And.intro hdk hfr));clear heq hdk hnm hfr hks;go_wp2;go_ret;obtain⟨heq,hdk,hfr⟩:=HQ.out;refine⟨rfl,?_,(Fr.pure HB1.out).trans (((hfr.setCell ⟨p,2,none⟩ (λ_=>.inl rfl) _)).setCell ⟨p,3,none⟩ (λ_=>.inl rfl) _)⟩;have e1:gE ks' []=[]:=by cases ks'<;>rfl
   rw[e1]at heq;unfold gF;rw[heq];exact(hdk.setLeft (-1) (by omega) (by omega)).setDark false
  | cons f r=>
   have hlt:A.length<st.fs.length:=by rw[← hAB];simp
   obtain⟨g,rfl,hg,hcell⟩:=HR.out A.length (by simp;omega);have hcell:=hfr.cellAt hcell (by omega);have hna:(st.fs.map (·.name))[A.length]'(by simp;omega)=f.name:=by
    have:((A++f::r).map (·.name))[A.length]'(by simp)=f.name:=by simp
    rw[← this];congr 1;exact hnm.symm
   rw[hna]at hcell;have hsrt:=hdk.ok.fs.sorted;have hget:=gG hsrt;have hname:=hdk.ok.fs.names f (cS hget).2;have hsm:=hdk.ok.fs.small f (cS hget).2;obtain⟨x,hx⟩:∃x:ByteArray,x=⟨f.name.toArray⟩:=⟨_,rfl⟩;have hxl:x.data.toList=f.name:=by rw[hx]
   rw[← hx]at hcell;obtain⟨f1,f2,hlook,hgot⟩:=gL wr b (A++f::r) hdk.own x (by have:=av hxl;unfold maxLen;omega);have hgf:f1.data.toList=f.firm∧f2.data.toList=f.pend:=by unfold db at hgot;rw[hxl,hget]at hgot;exact hgot
   obtain⟨d0,d1,d2,d3⟩:=hdk.cs;have HX:=hid hx;clear hx;clear hna hget hgot;by_cases hpe:f.pend=[]
   ·have hE:f2.toList.isEmpty=true:=by rw[ByteArray.toList_eq,hgf.2,hpe];rfl
    have hAB2:A.length+1+r.length=st.fs.length:=by rw[← hAB];simp;omega
    have HQ:=hid (And.intro hks (And.intro heq (And.intro hdk (And.intro hnm hfr))));clear hks heq hdk hnm hfr hsrt;go_wp2
    go_roundw
    case rel=>
     obtain⟨hks,heq,hdk,hnm,hfr⟩:=HQ.out;have e1:A++[f]++r=A++f::r:=by simp
     have hbz:Below wr.heap.size wr (wr.alloc (.cells #[.string f1,.string f2] 81)):=(Below.refl _ _).alloc (Nat.le_refl _) _;exact⟨A++[f],r,ks',by simp,by rw[List.length_append];exact hAB2,hks.kept (Fr.pure (S:=λ_=>False) hbz) (λ_ _ h=>h),hkb',by rw[heq,gI hpe];simp,by rw[e1];exact hdk.pure hbz,by rw[e1];exact hnm,hfr.andPure hbz⟩
    case measure=>simp[intOf];omega
   ·have hE:f2.toList.isEmpty=false:=by
     rw[ByteArray.toList_eq,hgf.2];cases hfp:f.pend with
     | nil=>exact absurd hfp hpe
     | cons=>rfl
    have hAB2:A.length+1+r.length=st.fs.length:=by rw[← hAB];simp;omega
    have HQ:=hid (And.intro heq (And.intro hdk (And.intro hnm hfr)));clear heq hdk hnm hfr hsrt;cases ks' with
    | nil=>
     have HKS:=hid hks;clear hks;have hbz:Below wr.heap.size wr (wr.alloc (.cells #[.string f1,.string f2] 81)):=(Below.refl _ _).alloc (Nat.le_refl _) _;have hsz1:f1.size+f2.size≤9223372036854775807:=by rw[av hgf.1,av hgf.2];omega
     obtain⟨w6,hrun,hd6,hf6⟩:=gN _ p b st A r f (HQ.out.2.1.pure hbz) x f1 f.firm hxl hgf.1 (by omega);have c0:(wr.alloc (.cells #[.string f1,.string f2] 81)).cell? ⟨p,0,none⟩=some (.map (some b)):=(HQ.out.2.1.pure hbz).cs.1;have HR6:=hid (And.intro hbz (And.intro hd6 hf6));clear hbz hd6 hf6;go_wp2
     go_region
     go_wp2
     go_roundw
     case rel=>
      obtain⟨heq,hdk,hnm,hfr⟩:=HQ.out;obtain⟨hbz,hd6,hf6⟩:=HR6.out;exact⟨A++[⟨f.name,f.firm,[]⟩],r,[],by simp,by rw[List.length_append];exact hAB2,⟨_,c1,rfl,by simp,.inl rfl⟩,hkb',by rw[heq,gJ hpe];simp,hd6,by rw[← hnm];simp,(hfr.andPure hbz).trans hf6.toD⟩
     case measure=>simp[intOf];omega
    | cons k t=>
     obtain⟨a2,c2,e2,hkc2,hk0|⟨kb,o,rfl,hkc3⟩⟩:=hks
     ·cases hk0
     ·cases e2
      have hk0:=hkc3 0 (by simp);simp only[Nat.add_zero,List.getElem_cons_zero]at hk0;have HKC:=hid hkc3;have hbz:Below wr.heap.size wr (wr.alloc (.cells #[.string f1,.string f2] 81)):=(Below.refl _ _).alloc (Nat.le_refl _) _;have hk1:(wr.alloc (.cells #[.string f1,.string f2] 81)).cell? ⟨kb,o,none⟩=some (.int .i64 k):=by rw[World.cell?_alloc_past _ _ _ (aA hk0)];exact hk0
      have c0:(wr.alloc (.cells #[.string f1,.string f2] 81)).cell? ⟨p,0,none⟩=some (.map (some b)):=(HQ.out.2.1.pure hbz).cs.1;have hsz1:f1.size+f2.size≤1048576:=by rw[av hgf.1,av hgf.2];omega
      have hw1:IntKind.i64.wrap ((f2.size:Int)+1)=(f2.size:Int)+1:=IntWalk.i64_in _ (by omega);clear hkc3 hk0 hbz;go_wp2
      go_quiet (fail)
      obtain⟨mm,hmm,hml,hmk⟩:∃mm:Nat,(IntKind.u64.wrap k).tmod ((f2.size:Int)+1)=(mm:Int)∧mm≤f2.size∧mm=kept k f.pend.length:=by
       have e1:IntKind.u64.wrap k=k % 18446744073709551616:=rfl;have e0:0≤k % 18446744073709551616:=Int.emod_nonneg _ (by decide);have e2:0≤k % 18446744073709551616 % ((f2.size:Int)+1):=Int.emod_nonneg _ (by omega);have e3:k % 18446744073709551616 % ((f2.size:Int)+1)<(f2.size:Int)+1:=Int.emod_lt_of_pos _ (by omega);refine⟨(k % 18446744073709551616 % ((f2.size:Int)+1)).toNat,?_,by omega,?_⟩
       ·rw[e1,Int.tmod_eq_emod_of_nonneg e0,Int.toNat_of_nonneg e2]
       ·unfold kept;rw[← av hgf.2]
      rw[hmm];have HMK:=hid hmk;clear hmm hmk;have hbz:Below wr.heap.size wr ((wr.alloc (.cells #[.string f1,.string f2] 81)).drewN nq):=by have:=(Below.refl wr.heap.size wr).alloc (Nat.le_refl _) (.cells #[.string f1,.string f2] 81);exact⟨this.os,this.tape,this.output,this.size,this.block⟩
      have hcl:(f2.extract 0 mm).data.toList=f.pend.take mm:=by rw[aw,hgf.2];simp
      have hcs:=ax f2 0 mm hml (Nat.zero_le _);have hsz2:f1.size+(f2.extract 0 mm).size≤9223372036854775807:=by omega
      obtain⟨w6,hrun,hd6,hf6⟩:=gN _ p b st A r f (HQ.out.2.1.pure hbz) x (f1++f2.extract 0 mm) (f.firm++f.pend.take mm) hxl (by rw[eF,hgf.1,hcl]) (by rw[List.length_append,List.length_take];omega);have hrun2:(Instr.mapUpdate 76 (.map (some b)) (.string x) (.agg #[.string (f1++f2.extract 0 mm),.string ⟨#[]⟩])).run Tryz.prog ((wr.alloc (.cells #[.string f1,.string f2] 81)).drewN (nq+1)) = .ok () w6:=hrun;have HR6:=hid (And.intro hbz (And.intro hd6 hf6));clear hbz hd6 hf6 hrun hcl;by_cases hc1:c1=1
      ·have ht0:t=[]:=by have:=hkc2;simp at this;exact List.eq_nil_of_length_eq_zero (by omega)
       go_wp2
       go_region
       go_wp2
       go_roundw
       case rel=>
        obtain⟨heq,hdk,hnm,hfr⟩:=HQ.out;obtain⟨hbz,hd6,hf6⟩:=HR6.out;have hfw:Fr (λk=>k=b) wr w6:=(Fr.pure hbz).trans hf6;have hkk:=hkb' kb rfl;refine⟨A++[⟨f.name,f.firm++f.pend.take mm,[]⟩],r,t,by simp,by rw[List.length_append];exact hAB2,(by rw[ht0];exact⟨_,0,rfl,by simp,.inl rfl⟩),λg hg=>by cases hg;exact hkk,by rw[heq,gK hpe,HMK.out];simp,hd6,by rw[← hnm];simp,(hfr.andPure hbz).trans hf6.toD⟩
       case measure=>simp[intOf];omega
      ·have hc2:1<c1:=by simp at hkc2;omega
       go_wp2
       go_region
       go_wp2
       go_roundw
       case rel=>
        obtain⟨heq,hdk,hnm,hfr⟩:=HQ.out;obtain⟨hbz,hd6,hf6⟩:=HR6.out;have hfw:Fr (λk=>k=b) wr w6:=(Fr.pure hbz).trans hf6;have hkk:=hkb' kb rfl;refine⟨A++[⟨f.name,f.firm++f.pend.take mm,[]⟩],r,t,by simp,by rw[List.length_append];exact hAB2,(IntsAt.tail HKC.out (by simpa using hkc2)).kept hfw (λg hg=>by cases hg;exact hkk.2),λg hg=>by cases hg;exact hkk,by rw[heq,gK hpe,HMK.out];simp,hd6,by rw[← hnm];simp,(hfr.andPure hbz).trans hf6.toD⟩
       case measure=>simp[intOf];omega
end
end Go.Proofs.YtaeakdichkhjaaaGreatDoor
namespace Go.Proofs.YtaeakdichkhjaaaGreatDoor.Crc
section
def poly:BitVec 32:=0xEDB88320#32
def step (c:BitVec 32):BitVec 32:=if c.getLsbD 0 then (c >>> 1) ^^^ poly else c >>> 1
def steps:Nat→BitVec 32→BitVec 32
 | 0,c=>c
 | n+1,c=>steps n (step c)
theorem gP (m n:Nat)(c:BitVec 32):steps (m+n) c=steps n (steps m c):=by
 induction m generalizing c with
 | zero=>simp[steps]
 | succ m ih=>rw[show m+1+n=(m+n)+1 from by omega];simp only[steps];exact ih _
theorem steps_succ' (n:Nat)(c:BitVec 32):steps (n+1) c=step (steps n c):=by
 rw[gP n 1 c];rfl
def tab (b:BitVec 8):BitVec 32:=steps 8 (b.zeroExtend 32)
def over (c:BitVec 32)(b:BitVec 8):BitVec 32:=tab (c.truncate 8 ^^^ b) ^^^ (c >>> 8)
def bv (b:UInt8):BitVec 8:=b.toBitVec
def run (c:BitVec 32)(s:List UInt8):BitVec 32:=s.foldl (λc b=>over c (bv b)) c
theorem run_snoc (c:BitVec 32)(s:List UInt8)(b:UInt8):run c (s++[b])=over (run c s) (bv b):=by simp[run]
def four (c:BitVec 32):List UInt8:=[UInt8.ofBitVec (c.truncate 8),UInt8.ofBitVec ((c >>> 8).truncate 8),UInt8.ofBitVec ((c >>> 16).truncate 8),UInt8.ofBitVec ((c >>> 24).truncate 8)]
theorem gQ (c:BitVec 32):(four c).length=4:=rfl
theorem parts (d:BitVec 32):d=(d.truncate 8).zeroExtend 32 ^^^ ((d >>> 8) <<< 8):=by
 apply BitVec.eq_of_getLsbD_eq;intro i hi;simp only[BitVec.getLsbD_xor,BitVec.getLsbD_setWidth,BitVec.getLsbD_shiftLeft,BitVec.getLsbD_ushiftRight,BitVec.truncate_eq_setWidth];by_cases h8:i<8
 ·simp[h8,hi]
 ·simp[h8,hi,show 8+(i-8)=i from by omega]
def of (s:List UInt8):BitVec 32 := ~~~ run (~~~ 0#32) s
def add (x:BitVec 32)(s:List UInt8):BitVec 32 := ~~~ run (~~~ x) s
theorem add_zero (s:List UInt8):add 0#32 s=of s:=rfl
def seal_ (s:List UInt8):List UInt8:=s++four (of s)
theorem seal_length (s:List UInt8):(seal_ s).length=s.length+4:=by simp[seal_,gQ]
theorem ones : ~~~ 0#32=BitVec.allOnes 32:=by decide
end
end Go.Proofs.YtaeakdichkhjaaaGreatDoor.Crc
namespace Go.Proofs.YtaeakdichkhjaaaGreatDoor
section
open Go.RowKit
def gR (seq:Nat)(body:List UInt8):List UInt8:=Crc.seal_ ([115,110,112,49]++be 8 seq++be 4 body.length++body)
def gS:List UInt8:=[83,78,65,80,83,72,79,84,46,110,101,119]
def gT (r:DkSt×Int):DkSt×Int:=
 if r.2=44 then (if (ef r.1 gS).2=45 then ef r.1 gS else ((ef r.1 gS).1,44)) else r
def gU (st:DkSt)(data name:List UInt8):DkSt×Int:=
 if (ef st gS).2≠0∧(ef st gS).2≠5 then ef st gS else
 if (ee (ef st gS).1 gS).2≠0 then ee (ef st gS).1 gS else
 if (eR (ee (ef st gS).1 gS).1 gS data).2≠0 then eR (ee (ef st gS).1 gS).1 gS data else
 if (eA (eR (ee (ef st gS).1 gS).1 gS data).1 gS).2≠0 then eA (eR (ee (ef st gS).1 gS).1 gS data).1 gS else
 eL (eA (eR (ee (ef st gS).1 gS).1 gS data).1 gS).1 gS name
def gV (st:DkSt)(seq:Int)(D:List UInt8×Int):DkSt×Int:=if D.2≠0 then (st,D.2) else gT (gU st D.1 (fN seq))
end
end Go.Proofs.YtaeakdichkhjaaaGreatDoor
