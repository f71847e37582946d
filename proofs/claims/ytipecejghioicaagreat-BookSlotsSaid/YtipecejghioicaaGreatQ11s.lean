/- Siloref16.Book: the page's way to ask a book. -/
import Derived.Test.YtipecejghioicaaGreatQ13s
import Derived.Test.YtipecejghioicaaGreatQ14s
import Derived.Test.YtipecejghioicaaGreatR2s
import Derived.Test.YtipecejghioicaaGreatP0s
set_option maxHeartbeats 32000000
set_option maxRecDepth 100000
namespace Go.Proofs.YtipecejghioicaaGreat
open Go.RowKit Go.Silo
def QG (s:Shape) (l:List Bb) (xs:List Entry) (gs:List Tag) (nx:Int):Bool:=decide (xs.length≤60)&&(decide (gs.length≤40)&&(decide (0≤nx∧nx≤1073741824)&&(qJ s l&&qo s)))
theorem JK {s:Shape}{l:List Bb}{xs:List Entry}{gs:List Tag}{nx:Int}(h:QG s l xs gs nx=true):
  qo s=true∧qJ s l=true∧xs.length≤60∧gs.length≤40∧qI s ⟨l,xs,gs,nx⟩=(qw s nx l&&(qP s l xs&&zL gs)):=by
 unfold QG at h;simp only[Bool.and_eq_true,decide_eq_true_eq] at h;obtain⟨h1,h2,h3,h4,h5⟩:=h;refine⟨h5,h4,h1,h2,?_⟩;unfold qI;simp only;rw[h5,decide_eq_true h3];rfl
theorem Kd {s:Shape}{l:List Bb}{xs:List Entry}{gs:List Tag}{nx:Int}(h:QG s l xs gs nx=false):qI s ⟨l,xs,gs,nx⟩=false:=by
 cases hb:qI s ⟨l,xs,gs,nx⟩ with
 |false=>rfl
 |true=>
  exfalso
  unfold qI at hb;simp only[Bool.and_eq_true,decide_eq_true_eq] at hb;obtain⟨h1,h2,h3,h4,h5⟩:=hb
  have hq:(qJ s l&&qo s)=true:=by
   cases hq:(qJ s l&&qo s) with
   |true=>rfl
   |false=>have:=QQ (nx:=nx) hq;rw[h1,h3] at this;cases this
  have hx:xs.length≤60:=by unfold qP at h4;simp only[Bool.and_eq_true,decide_eq_true_eq] at h4;exact h4.2.2
  have hg:gs.length≤40:=by unfold zL at h5;simp only[Bool.and_eq_true,decide_eq_true_eq] at h5;exact h5.2
  unfold QG at h;rw[decide_eq_true hx,decide_eq_true hg,decide_eq_true h2,hq] at h
  cases h
def qW (l:List Slot):List Slot:=l.filter (fun p=>decide (0≤p.disk))
theorem XP {l:List Slot}{p:Slot}(h:0≤p.disk):qW (l++[p])=qW l++[p]:=by unfold qW;rw[List.filter_append];simp[h]
theorem Xh {l:List Slot}{p:Slot}(h:¬0≤p.disk):qW (l++[p])=qW l:=by unfold qW;rw[List.filter_append];simp[h]
theorem XQ (l:List Slot):(qW l).length≤l.length:=List.length_filter_le _ _
theorem Xi {l:List Slot}{p:Slot}(h:p∈qW l):p∈l:=(List.mem_filter.1 h).1
theorem Xj {l:List Slot}{p:Slot}(h:p∈l) (hd:0≤p.disk):p∈qW l:=List.mem_filter.2 ⟨h,by simpa using hd⟩
theorem JL {α:Type}{l:List α}{p d:α}(h:p∈l):∃j,j<l.length∧l.getD j d=p:=by
 obtain⟨j,hj,e⟩:=List.getElem_of_mem h;exact⟨j,hj,by rw[List.getD_eq_getElem?_getD,List.getElem?_eq_getElem hj];exact e⟩
theorem XR {α:Type}{l:List α}{j:Nat}{d:α}(h:j<l.length):l.getD j d∈l:=by
 rw[List.getD_eq_getElem?_getD,List.getElem?_eq_getElem h];exact List.getElem_mem h
theorem XT {w':World}{S:Nat→Prop}{base g n:Nat}(h:w'.ownsRow base 4 1 (.slice (some ⟨g,0,none⟩) n n) n (madeCells #[.bool false] n).toList):Silo.Be 4 Bn w' base S (some ⟨g,0,none⟩) n n (List.replicate n false):=by
 rw[toList_madeCells_one] at h;refine⟨List.replicate n (.bool false),h,by simp,fun k x hx=>?_⟩;have hk:k<n:=by have:=(List.getElem?_eq_some_iff.1 hx).1;simpa using this
 rw[List.getElem?_replicate,if_pos hk] at hx;injection hx with hx
 subst hx;refine⟨?_,trivial⟩;rw[show Bn.sz=1 from rfl,Nat.mul_one,List.drop_replicate,List.take_replicate,show min 1 (n - k)=1 by omega];rfl
theorem Xk (l:List Bb):xi l []=List.replicate l.length false:=by
 unfold xi;rw[List.eq_replicate_iff];exact⟨by simp,fun b hb=>by obtain⟨y,_,rfl⟩:=List.mem_map.1 hb;simp⟩
theorem Xl {W:Int}{l:List Bb}{ys:List Int}{k:Nat}{left:Int}(hk:k<ys.length) (h:D6 l (ys.getD k 0)<0):qY W l (ys.drop k) left=false:=by rw[kX hk,kx h]
theorem JM {W:Int}{l:List Bb}{ys:List Int}{k p:Nat}{left:Int}(hk:k<ys.length) (hp:p<l.length) (h:D6 l (ys.getD k 0)=(p:Int)):qY W l (ys.drop k) left=(if (l.getD p default).len=min left W then qY W l (ys.drop (k+1)) (left - (l.getD p default).len) else false):=by rw[kX hk,ZY hp h]
theorem XU {tg tg0 tg1 tg2:Bool}{S:Nat→Prop}{w:World}{A0 A1 A2:Option Addr}{n0 c0 n1 c1 n2 c2:Nat}{s:Shape}{l:List Bb}{xs:List Entry}{gs:List Tag}{nx:Int}(hn0:n0≤4000) (hfs:(qd l l.length).length≤1000000)
  (h0:Sl tg 86 (qe tg0) w S A0 n0 c0 l) (h1:Sl tg 90 (ql tg1) w S A1 n1 c1 xs) (h2:Sl tg2 94 Bz w S A2 n2 c2 gs):
  Calls Tryz.prog 16 #[.agg #[.int .i64 s.K,.int .i64 s.M,.int .i64 s.size],.agg #[.slice A0 n0 c0,.slice A1 n1 c1,.slice A2 n2 c2,.int .i64 nx]] w (Bf (.bool (qI s ⟨l,xs,gs,nx⟩)) w):=by
 obtain⟨ib,hib,hzb0,hzb1,hzb2⟩:=info_parts Tryz.Cn;obtain⟨ic,hic,hzc0,hzc1,hzc2⟩:=info_parts Tryz.CP;have mH:=zh h0.len;have mE:=zh h1.len;have uk:=zh h2.len;have hcap1:n1≤9223372036854775807:=Nat.le_trans h1.le h1.cap;have hcap2:n2≤9223372036854775807:=Nat.le_trans h2.le h2.cap;have yo:=zh hfs;clear hfs;obtain⟨R,hR⟩:∃R,R=qI s ⟨l,xs,gs,nx⟩:=⟨_,rfl⟩;rw[←hR];have HR:=zh hR;clear hR;obtain⟨hd,hhd⟩:∃hd,hd=QG s l xs gs nx:=⟨_,rfl⟩;have HHD:=zh hhd;clear hhd;have hal:Below w.heap.size w ((w.alloc (.cells #[.int .i64 s.K,.int .i64 s.M,.int .i64 s.size] 23)).alloc (.cells #[.slice A0 n0 c0,.slice A1 n1 c1,.slice A2 n2 c2,.int .i64 nx] 28)):=bz
 have mV:((w.alloc (.cells #[.int .i64 s.K,.int .i64 s.M,.int .i64 s.size] 23)).alloc (.cells #[.slice A0 n0 c0,.slice A1 n1 c1,.slice A2 n2 c2,.int .i64 nx] 28)).heap[w.heap.size]?=some (.cells #[.int .i64 s.K,.int .i64 s.M,.int .i64 s.size] 23 (0,0)):=by
  rw[Below.heap_alloc _ _ _ (by simp;try omega)];have:=heap_alloc_new w (.cells #[.int .i64 s.K,.int .i64 s.M,.int .i64 s.size] 23);simpa only[World.size_alloc] using this
 have hr1:((w.alloc (.cells #[.int .i64 s.K,.int .i64 s.M,.int .i64 s.size] 23)).alloc (.cells #[.slice A0 n0 c0,.slice A1 n1 c1,.slice A2 n2 c2,.int .i64 nx] 28)).heap[w.heap.size+1]?=some (.cells #[.slice A0 n0 c0,.slice A1 n1 c1,.slice A2 n2 c2,.int .i64 nx] 28 (0,0)):=by
  have:=heap_alloc_new (w.alloc (.cells #[.int .i64 s.K,.int .i64 s.M,.int .i64 s.size] 23)) (.cells #[.slice A0 n0 c0,.slice A1 n1 c1,.slice A2 n2 c2,.int .i64 nx] 28);simpa only[World.size_alloc] using this
 have hz:w.heap.size+1<((w.alloc (.cells #[.int .i64 s.K,.int .i64 s.M,.int .i64 s.size] 23)).alloc (.cells #[.slice A0 n0 c0,.slice A1 n1 c1,.slice A2 n2 c2,.int .i64 nx] 28)).heap.size:=by simp
 have HS:=zh (fun W (hW:Below w.heap.size w W)=>h0.all hW);clear h0;have HT:=zh (fun W (hW:Below w.heap.size w W)=>h1.all hW);clear h1;have HG:=zh (fun W (hW:Below w.heap.size w W)=>h2.all hW);clear h2
 go_enter Tryz.func16,Tryz.ntmps16
 go_upto_region 1 with (fail)
 generalize ((w.alloc (.cells #[.int .i64 s.K,.int .i64 s.M,.int .i64 s.size] 23)).alloc (.cells #[.slice A0 n0 c0,.slice A1 n1 c1,.slice A2 n2 c2,.int .i64 nx] 28))=W0 at *;have gm:=zh (fun V (hV:Below W0.heap.size W0 V)=>hal.trans (hV.mono hal.size));clear hal;have ROW:=zh (fun V (hV:Below W0.heap.size W0 V)=>(show V.heap[w.heap.size]?=some (.cells #[.int .i64 s.K,.int .i64 s.M,.int .i64 s.size] 23 (0,0))∧V.heap[w.heap.size+1]?=some (.cells #[.slice A0 n0 c0,.slice A1 n1 c1,.slice A2 n2 c2,.int .i64 nx] 28 (0,0)) from⟨(hV.block _ (by omega)).trans mV,(hV.block _ (by omega)).trans hr1⟩));clear mV hr1;have hz1:w.heap.size+1<W0.heap.size:=by omega
 go_cut [45] from 17 (fun t V=>t=.bool (!hd)∧Hid (Below W0.heap.size W0 V))
 case first=>
  obtain⟨r0,r1⟩:=ROW.out W0 (Below.refl _ _);have ng:=zc 0 r1 (.slice _ n0 c0) rfl;have pp:=zc 1 r1 (.slice _ n1 c1) rfl;have p9:=zc 2 r1 (.slice _ n2 c2) rfl;have pY:=zc 3 r1 (.int .i64 nx) rfl;clear r0 r1;have HHE:Hid (hd=(decide (n1≤60)&&(decide (n2≤40)&&(decide (0≤nx∧nx≤1073741824)&&(qJ s l&&qo s))))):=zh (by rw[HHD.out];unfold QG;rw[mE.out,uk.out]);by_cases g1:60<n1
  ·have HF:Hid (hd=false):=zh (by rw[HHE.out,decide_eq_false (by omega:¬n1≤60)];rfl);go_wp2
   go_meet
   case rel=>exact⟨by rw[HF.out];rfl,zh (Below.refl _ _)⟩
  have HHE2:Hid (hd=(decide (n2≤40)&&(decide (0≤nx∧nx≤1073741824)&&(qJ s l&&qo s)))):=zh (by rw[HHE.out,decide_eq_true (by omega:n1≤60)];rfl);by_cases g2:40<n2
  ·have HF:Hid (hd=false):=zh (by rw[HHE2.out,decide_eq_false (by omega:¬n2≤40)];rfl);go_wp2
   go_meet
   case rel=>exact⟨by rw[HF.out];rfl,zh (Below.refl _ _)⟩
  have HHE3:Hid (hd=(decide (0≤nx∧nx≤1073741824)&&(qJ s l&&qo s))):=zh (by rw[HHE2.out,decide_eq_true (by omega:n2≤40)];rfl);go_wp2_with fail
  refine(Ca (n:=nx) (m:=1073741824)).mono ?_;rintro e w1 ⟨rfl,hb1⟩;have gB:=zh hb1;clear hb1 ng pp p9 pY;generalize decide (0≤nx∧nx≤1073741824)=d1 at *
  cases d1 with
  |false=>
   have HF:Hid (hd=false):=zh HHE3.out;go_wp2
   go_meet
   case rel=>exact⟨by rw[HF.out];rfl,gB⟩
  |true=>
   obtain⟨r0,r1⟩:=ROW.out w1 gB.out;have nz:=zc 0 r0 (.int .i64 s.K) rfl;have nr:=zc 1 r0 (.int .i64 s.M) rfl;have nt:=zc 2 r0 (.int .i64 s.size) rfl;have ng:=zc 0 r1 (.slice _ n0 c0) rfl;clear r0 r1;go_wp2_with fail
   refine(QO (s:=s) (HS.out _ (gm.out _ gB.out))).mono ?_;rintro e w2 ⟨rfl,hb2⟩;have gu:=zt gB hb2;clear hb2 gB nz nr nt ng;generalize (qJ s l&&qo s)=q at *;have HF:Hid (hd=q):=zh HHE3.out;go_wp2
   go_meet
   case rel=>exact⟨by rw[HF.out,decide_eq_false (by omega:¬(4000:Int)<(n0:Int)),decide_eq_false (by omega:¬(60:Int)<(n1:Int)),decide_eq_false (by omega:¬(40:Int)<(n2:Int))];rfl,gu⟩
 case rest=>
  rename World=>wc
  obtain⟨rfl,HBc⟩:=hcut
  cases hd with
  |false=>
   have HE:Hid (R=false):=zh (HR.out.trans (Kd HHD.out.symm));go_wp2
   go_ret
   exact⟨by rw[HE.out];rfl,gm.out _ HBc.out⟩
  |true=>
   obtain⟨hsh,hsb,hx60,hg40,hRe⟩:=JK HHD.out.symm;obtain⟨k1,k2,m1,m2,s1,s2⟩:=XJ hsh;have hW1:1≤s.K* s.size:=(by have:=Int.mul_le_mul k1 s1 (by omega) (by omega);omega);have hW2:s.K* s.size≤960:=(by have:=Int.mul_le_mul k2 s2 (by omega) (by omega);omega);have ut:=zh hsh;clear hsh;have HSB:=zh hsb;clear hsb;have hn60:n1≤60:=(by have:=mE.out;omega);have hn40:n2≤40:=(by have:=uk.out;omega);have HR2:=zh (HR.out.trans hRe);clear hRe HR HHD hx60 hg40;clear k1 k2 m1 m2 s1 s2;go_wp2_with fail
   go_loopw [5,6] (fun tv iv wr=>∃k:Nat,∃A c,k≤n0∧iv=.int .i64 k∧tv=.slice A (qW (qd l k)).length c∧Hid (Silo.Be 88 qz wr W0.heap.size (fun _=>True) A (qW (qd l k)).length c (qW (qd l k)))∧Hid (Below W0.heap.size W0 wr)∧Hid (∀j,j<k→(l.getD j default).id<nx)∧Hid (zy (qd l k)=true)) (fun _ iv _=>n0 - (intOf iv).toNat)
   case atStart=>exact⟨0,none,0,Nat.zero_le _,rfl,by rfl,zh Silo.Be.BA,HBc,zh (fun j hj=>by omega),zh (by simp[qd,zy])⟩
   case round=>
    rename World=>wo
    clear HBc;obtain⟨k,A,c,hk,rfl,rfl,HO,HB,HI,HN⟩:=hrel;have hzo1:=Nat.lt_of_lt_of_le hz1 HB.out.size;by_cases hlt:k<n0
    ·obtain⟨bE,oE,A3,n3,c3,eA,_,hbE,_,_,_,hp3,u0,_,_,u3,_⟩:=(HS.out W0 (gm.out _ (Below.refl _ _))).Bq hlt;subst eA;have mG:=zh hp3.len;have vq:n3≤9223372036854775807:=Nat.le_trans hp3.le hp3.cap;have pP:=zh (fun V (hV:Below W0.heap.size W0 V)=>hp3.all hV);clear hp3;have HU:=zh (fun V (hV:Below W0.heap.size W0 V)=>And.intro ((hV.cell (p:=⟨bE,oE+k* 4,none⟩) hbE).trans u0) ((hV.cell (p:=⟨bE,oE+k* 4+3,none⟩) hbE).trans u3));clear u0 u3;have hbo:=Nat.lt_of_lt_of_le hbE HB.out.size;have HST:=zh (kk (nx:=nx) HSB.out (k:=k) (by have:=mH.out;omega))
     have yw:Hid ((qd l k).length+(l.getD k default).place.length≤1000000):=zh (by
      obtain⟨r,hr⟩:=ju (l:=l) (k+1);have h2:=yo.out;rw[hr,zI (by have:=mH.out;omega),List.length_append,List.length_append] at h2
      omega)
     obtain⟨x,hx⟩:∃x,x=l.getD k default:=⟨_,rfl⟩;rw[←hx] at mG pP HU HST yw;have vr:=zh hx;clear hx;obtain⟨r0,r1⟩:=ROW.out wo HB.out;have ng:=zc 0 r1 (.slice _ n0 c0) rfl;have pY:=zc 3 r1 (.int .i64 nx) rfl;clear r0 r1;obtain⟨u0,_⟩:=HU.out wo HB.out;by_cases cB:nx≤x.id
     ·have HE:Hid (R=false):=zh (by rw[HR2.out,jj (k:=k) (by have:=mH.out;omega) (HST.out.trans (decide_eq_false (by omega)))];rfl);go_wp2_with fail
      have gI:=qX wo;refine qG (by kernel_rfl) (by kernel_rfl) ?_
      repeat (go_big_quiet_step (fail))
      refine wpQuiet_nil ?_;rintro _ ⟨X,rfl⟩;have gG:=zh (HB.out.trans ((qx wo X).mono HB.out.size));clear gI ng pY u0;generalize wo.ext X=w3 at *;go_wp2
      go_ret
      exact⟨by rw[HE.out];rfl,gm.out _ gG.out⟩
     have uD:Hid (∀j,j<k+1→(l.getD j default).id<nx):=zh (fun j hj=>by
      rcases Nat.lt_or_ge j k with h|h
      ·exact HI.out j h
      obtain rfl:j=k:=by omega
      rw[←vr.out];omega)
     go_wp2_with fail
     have gI:=qX wo;refine qG (by kernel_rfl) (by kernel_rfl) ?_
     repeat (go_big_quiet_step (fail))
     refine wpQuiet_nil ?_;rintro _ ⟨X,rfl⟩;have gG:=zh (HB.out.trans ((qx wo X).mono HB.out.size));have uA:=zh (HO.out.all (qx wo X));clear gI ng pY u0 HO HB;generalize wo.ext X=w3 at *;go_wp2_with fail
     go_loopw [5,7] (fun tv jv wr=>∃j:Nat,∃A c,j≤n3∧jv=.int .i64 j∧tv=.slice A (qW (qd l k++x.place.take j)).length c∧Hid (Silo.Be 88 qz wr W0.heap.size (fun _=>True) A (qW (qd l k++x.place.take j)).length c (qW (qd l k++x.place.take j)))∧Hid (Below W0.heap.size W0 wr)∧Hid (zy (qd l k++x.place.take j)=true)) (fun _ jv _=>n3 - (intOf jv).toNat)
     case atStart=>exact⟨0,A,c,Nat.zero_le _,rfl,by simp,by simpa using uA,gG,by simpa using HN⟩
     case round=>
      rename World=>wj
      clear uA gG HN;obtain⟨j,A',c',hj,rfl,rfl,HOj,HBj,HNj⟩:=hrel;by_cases hjl:j<n3
      ·obtain⟨b3,o3,e3,_,hb3,g1,g2,v0,v1,_⟩:=(pP.out wj HBj.out).BX hjl;subst e3;have uH:j<x.place.length:=(by have:=mG.out;omega);have nE:x.place.take (j+1)=x.place.take j++[x.place.getD j default]:=(by rw[List.take_add_one,List.getElem?_eq_getElem uH,List.getD_eq_getElem?_getD,List.getElem?_eq_getElem uH];rfl);have yB:=zh (fun(hd:0≤(x.place.getD j default).disk) (hm:x.place.getD j default∈qd l k++x.place.take j)=>xU (s:=s) (nx:=nx) (l:=l) (k:=k) (j:=j) (by have:=mH.out;omega) (by rw[←vr.out];exact uH) (by rw[←vr.out];exact hd) (by rw[←vr.out];exact hm));have m9:=zh nE;clear nE
       have hTl:(qW (qd l k++x.place.take j)).length≤1000000:=by
        have h1:=XQ (qd l k++x.place.take j);have h2:=yw.out;rw[List.length_append,List.length_take] at h1;omega
       generalize x.place.getD j default=p at *;have HGP:=zh (And.intro g1 g2);clear g1 g2;obtain⟨r0,r1⟩:=ROW.out wj HBj.out;have ng:=zc 0 r1 (.slice _ n0 c0) rfl;clear r0 r1;obtain⟨_,u3⟩:=HU.out wj HBj.out
       go_upto_region 13 with (fail)
       have gJ:Below wj.heap.size wj (wj.alloc (.cells #[.int .i64 p.disk,.int .i64 p.pos] 88)):=(Below.refl _ _).alloc (Nat.le_refl _) _;have hrow:=heap_alloc_new wj (.cells #[.int .i64 p.disk,.int .i64 p.pos] 88);have hzl:wj.heap.size<(wj.alloc (.cells #[.int .i64 p.disk,.int .i64 p.pos] 88)).heap.size:=(by simp);have yf:=zt HBj gJ;have HOp:=zh (HOj.out.all gJ);clear gJ v0 v1 u3 ng HOj HBj;generalize (wj.alloc (.cells #[.int .i64 p.disk,.int .i64 p.pos] 88))=wp at *;generalize wj.heap.size=g9 at *;have ROWP:=zh (fun V (hV:Below wp.heap.size wp V)=>(hV.block _ hzl).trans hrow);clear hrow;have z0:=(zo 0 (ROWP.out wp (Below.refl _ _))).trans (show _=some (.int .i64 p.disk:Value) from rfl);by_cases pG:0≤p.disk
       ·have HT2:Hid (qW (qd l k++x.place.take (j+1))=qW (qd l k++x.place.take j)++[p]):=zh (by rw[m9.out,←List.append_assoc,XP pG]);have HMT:=zh (fun(hm:p∈qW (qd l k++x.place.take j))=>yB.out pG (Xi hm));clear yB
        have HNN:=zh (fun(hm:p∉qW (qd l k++x.place.take j))=>(show zy (qd l k++x.place.take (j+1))=true from by
         rw[m9.out,←List.append_assoc]
         exact xu HNj.out (fun hd h=>hm (Xj h hd))))
        clear HNj m9;generalize qW (qd l k++x.place.take j)=TT at *;have yi:=zh HOp.out.len;go_wp2_with fail
        clear z0
        go_loopw [9] (fun qv wr=>∃q:Nat,q≤TT.length∧qv=.int .i64 q∧Hid (Below wp.heap.size wp wr)∧Hid (∀i,i<q→TT.getD i default≠p)) (fun qv _=>TT.length - (intOf qv).toNat)
        case atStart=>exact⟨0,Nat.zero_le _,rfl,zh (Below.refl _ _),zh (fun i hi=>by omega)⟩
        case round=>
         rename World=>wq
         obtain⟨q,hq,rfl,HBq,HQ⟩:=hrel;have zp:=zc 0 (ROWP.out wq HBq.out) (.int .i64 p.disk) rfl;have zq:=zc 1 (ROWP.out wq HBq.out) (.int .i64 p.pos) rfl;by_cases hql:q<TT.length
         ·obtain⟨bt,ot,et,_,yr,_,_,y0,y1,_⟩:=((HOp.out.all HBq.out).sl (tg:=true)).BX hql;subst et;obtain⟨t,ht⟩:∃t,t=TT.getD q default:=⟨_,rfl⟩;rw[←ht] at y0 y1;have HTD:=zh ht;clear ht;by_cases htp:t=p
          ·have HE:Hid (R=false):=zh (by rw[HR2.out,HMT.out (by rw[←htp,HTD.out];exact XR hql)];rfl);subst htp;have hq:∀W:World,(Op.equalIn 10000 88 (.agg #[.int .i64 t.disk,.int .i64 t.pos]) (.agg #[.int .i64 t.disk,.int .i64 t.pos])).run Tryz.prog W=.ok true W:=fun W=>by rw[Zs];simp
           have hqg:=Zt;have HBR:=zh (fun V (hV:Below wq.heap.size wq V)=>gm.out V (yf.out.trans ((zu HBq hV).mono yf.out.size)));go_wp2
           go_quiet (fail)
           go_wp2
           go_ret
           exact⟨by rw[HE.out];rfl,HBR.out _ (by first|exact below_drewN (Below.refl _ _) _|exact Below.refl _ _)⟩
          have hq:∀W:World,(Op.equalIn 10000 88 (.agg #[.int .i64 t.disk,.int .i64 t.pos]) (.agg #[.int .i64 p.disk,.int .i64 p.pos])).run Tryz.prog W=.ok false W:=fun W=>by rw[Zs,decide_eq_false htp]
          have hqg:=Zt
          have yg:Hid (∀i,i<q+1→TT.getD i default≠p):=zh (fun i hi=>by
           rcases Nat.lt_or_ge i q with h|h
           ·exact HQ.out i h
           obtain rfl:i=q:=by omega
           rw[←HTD.out];exact htp)
          clear htp;have HBR:=zh (fun V (hV:Below wq.heap.size wq V)=>HBq.out.trans (hV.mono HBq.out.size));go_wp2
          go_quiet (fail)
          go_wp2
          exact⟨⟨q+1,by omega,by go_num,zh (HBR.out _ (by first|exact below_drewN (Below.refl _ _) _|exact Below.refl _ _)),yg⟩,by simp[intOf];omega⟩
         obtain rfl:q=TT.length:=by omega
         have uO:Hid (zy (qd l k++x.place.take (j+1))=true):=zh (HNN.out (fun hm=>by
          obtain⟨i,hi,e⟩:=JL (d:=default) hm
          exact HQ.out i hi e))
         have HOq:=zh (HOp.out.all HBq.out);have gK:=zh (zu yf HBq.out);obtain⟨gp1,gp2⟩:=HGP.out;go_wp2_with (at_builtin;refine qq rfl _ _ 59 rfl ic (.agg #[.int .i64 0,.int .i64 0]) 16 Tryz.underlying59 hic hzc0 hzc1 hzc2 rfl (by decide) rfl (HOq.out.frame (Agree.alloc _ _ _) (by simp)) wq.heap.size 88 1 _ p rfl (heap_alloc_new _ _) ⟨rfl,gp1,gp2⟩ (by omega) (by omega) (by have:=gK.out.size;simp;omega) ?_)
         intro A2 c2' w2 hown2 hg2 _;have rE:=zh hown2;clear hown2;have gu:=zh (((gK.out.alloc gK.out.size _).grown hg2 (by have:=gK.out.size;simp;omega) (fun k hk=>(HOq.out.lt k hk).1)));clear hg2;clear zp zq;go_wp2
         exact⟨⟨j+1,A2,c2',by omega,by go_num,by rw[HT2.out,List.length_append];rfl,by rw[HT2.out,List.length_append];exact rE,gu,uO⟩,by simp[intOf];omega⟩
       have HT2:Hid (qW (qd l k++x.place.take (j+1))=qW (qd l k++x.place.take j)):=zh (by rw[m9.out,←List.append_assoc,Xh pG])
       have uO:Hid (zy (qd l k++x.place.take (j+1))=true):=zh (by
        rw[m9.out,←List.append_assoc]
        exact xu HNj.out (fun h=>absurd h pG))
       go_wp2
       exact⟨⟨j+1,A',c',by omega,by go_num,by rw[HT2.out],by rw[HT2.out];exact HOp,yf,uO⟩,by simp[intOf];omega⟩
      obtain rfl:j=n3:=by omega
      have rR:Hid (qd l (k+1)=qd l k++x.place.take j):=zh (by rw[zI (by have:=mH.out;omega),←vr.out,List.take_of_length_le (by have:=mG.out;omega)]);obtain⟨r0,r1⟩:=ROW.out wj HBj.out;have ng:=zc 0 r1 (.slice _ n0 c0) rfl;clear r0 r1;obtain⟨_,u3⟩:=HU.out wj HBj.out;go_wp2
      (refine⟨?_,?measure⟩;(repeat apply Exists.intro);refine⟨?rel,rfl⟩)
      case rel=>exact⟨k+1,A',c',by omega,by go_num,by rw[rR.out],by rw[rR.out];exact HOj,HBj,uD,by rw[rR.out];exact HNj⟩
      case measure=>simp[intOf];omega
    obtain rfl:n0=k:=by omega
    have py:qw s nx l=true:=jk (fun j hj=>by rw[kk HSB.out hj];exact decide_eq_true (HI.out j (by have:=mH.out;omega))) (by rw[mH.out];exact HN.out);have pm:=zh (xB py);have HSOK:=zh py;have HR3:Hid (R=(qP s l xs&&zL gs)):=zh (by rw[HR2.out,py];rfl);clear py HR2 HI HN HO HSB yo;obtain⟨r0,r1⟩:=ROW.out wo HB.out;have ng:=zc 0 r1 (.slice _ n0 c0) rfl;clear r0 r1;go_wp2_with (at_make;refine wpList_make_full _ rfl _ _ 30 rfl W0.heap.size 4 ib (.bool false) 1 Tryz.underlying30 hib hzb0 hzb1 .i64 .i64 _ _ n0 rfl rfl rfl rfl (by rw[hzb2];omega) (by unfold maxLen;omega) HB.out.size ?_)
    intro wm hown hgm;clear ng
    have HON:Hid (Silo.Be 4 Bn wm W0.heap.size (fun _=>True) (some ⟨wo.heap.size,0,none⟩) n0 n0 (xi l (qb xs 0))):=zh (by
     rw[show qb xs 0=[] from rfl,Xk,mH.out]
     exact XT hown)
    have HBm:=zh (HB.out.grown hgm HB.out.size (fun r hr=>by cases hr));have hgn:W0.heap.size≤wo.heap.size:=HB.out.size;clear hown hgm hzo1 HB;generalize wo.heap.size=gN at *;go_wp2_with fail
    go_loopw [11] (fun iv wr=>∃i:Nat,i≤n1∧iv=.int .i64 i∧Hid (Below W0.heap.size W0 wr)∧Hid (Silo.Be 4 Bn wr W0.heap.size (fun _=>True) (some ⟨gN,0,none⟩) n0 n0 (xi l (qb xs i)))∧Hid (∀j,j<i→qy s l xs j=true)∧Hid (qb xs i).Nodup) (fun iv _=>n1 - (intOf iv).toNat)
    case atStart=>exact⟨0,Nat.zero_le _,rfl,HBm,HON,zh (fun j hj=>by omega),zh (by simp[qb])⟩
    case round=>
     rename World=>wo
     clear HBm HON;obtain⟨k,hk,rfl,HB,HO,HA,HND⟩:=hrel;by_cases hlt:k<n1
     ·obtain⟨bT,oT,A4,n4,c4,eT,_,hbT,so,il,hl4,u0,u1,u2,u3,_⟩:=(HT.out W0 (gm.out _ (Below.refl _ _))).BF hlt
      have hp:0<k→W0.cell? ⟨bT,oT+(k - 1)* 4,none⟩=some (.string (xs.getD (k - 1) default).digest):=fun h0=>by
       obtain⟨b',off',A',n',c',e,_,_,_,_,_,hd,_⟩:=(HT.out W0 (gm.out _ (Below.refl _ _))).BF (k:=k - 1) (by omega);rw[eT] at e;injection e with e;injection e with e1 e2 _;subst e1;subst e2
       exact hd
      subst eT;have rW:=hl4.len;have nA:n4≤9223372036854775807:=Nat.le_trans hl4.le hl4.cap;have pB:=zh (fun V (hV:Below W0.heap.size W0 V)=>hl4.all hV);clear hl4;obtain⟨pd,pG⟩:∃y,y=(xs.getD (k - 1) default).digest:=⟨_,rfl⟩;rw[←pG] at hp;have hat:qE s xs k=(decide ((xs.getD k default).digest.size=32)&&((decide (k=0)||qr pd (xs.getD k default).digest)&&(decide (0≤(xs.getD k default).len)&&(decide ((xs.getD k default).len≤2000)&&decide ((xs.getD k default).list.length=zn s (xs.getD k default).len))))):=(by rw[pG];rfl);rw[rW] at hat;have mG:=zh rW;clear rW;obtain⟨en,hen⟩:∃en,en=xs.getD k default:=⟨_,rfl⟩;rw[←hen] at hat so il mG pB u0 u1 u2;have HEN:=zh hen;clear hen pG;have gV:=zh hat;clear hat;have HIL:=zh il;clear il so;have v0:=(HB.out.cell (p:=⟨bT,oT+k* 4,none⟩) hbT).trans u0;have v1:=(HB.out.cell (p:=⟨bT,oT+k* 4+1,none⟩) hbT).trans u1;have v2:=(HB.out.cell (p:=⟨bT,oT+k* 4+2,none⟩) hbT).trans u2;have v3:=(HB.out.cell (p:=⟨bT,oT+k* 4+3,none⟩) hbT).trans u3;clear u0 u1 u2 u3;obtain⟨r0,r1⟩:=ROW.out wo HB.out;have pp:=zc 1 r1 (.slice _ n1 c1) rfl;clear r0 r1
      go_upto_region 25 with (fail)
      have gJ:Below wo.heap.size wo (wo.alloc (.cells #[.string en.digest,.int .i64 en.len,.bool en.BC,.slice A4 n4 c4] 90)):=(Below.refl _ _).alloc (Nat.le_refl _) _;have hrow:=heap_alloc_new wo (.cells #[.string en.digest,.int .i64 en.len,.bool en.BC,.slice A4 n4 c4] 90);have hzl:wo.heap.size<(wo.alloc (.cells #[.string en.digest,.int .i64 en.len,.bool en.BC,.slice A4 n4 c4] 90)).heap.size:=(by simp);have gv:=zt HB gJ;have yH:=zh (HO.out.all gJ);have hgg:gN<wo.heap.size:=(HO.out.lt gN rfl).2;clear gJ v0 v1 v2 v3 pp HO HB;generalize (wo.alloc (.cells #[.string en.digest,.int .i64 en.len,.bool en.BC,.slice A4 n4 c4] 90))=w4 at *;generalize wo.heap.size=g7 at *;have gf:=zh (fun V (hV:Below w4.heap.size w4 V)=>(hV.block _ hzl).trans hrow);clear hrow
      go_cut [152] from 105 to 204 (fun t V=>t=.bool (!qE s xs k)∧Hid (Below w4.heap.size w4 V))
      case first=>
       clear HA HND yH;go_wp2_with fail
       refine EU ROW ut hlt hn60 gv rfl hbT hp gf gV rfl rfl rfl rfl rfl ?_;intro v w9 hv mh;simp only[qc,BR,BS,BU,BV,Act.put,BO,BP,BQ];rw[hv];have gy:=zh mh;clear hv mh;go_wp2
       go_meet
       case rel=>exact⟨rfl,gy⟩
      case rest=>
       rename World=>wc2
       obtain⟨rfl,HBc⟩:=hcut;have mi:=zh (zu gv HBc.out);have HO5:=zh (yH.out.all HBc.out);have mX:=zh (gf.out wc2 HBc.out);have hg7c:=Nat.lt_of_lt_of_le hzl HBc.out.size;clear yH gf gv HBc hp;obtain⟨th,hth⟩:∃th,th=qE s xs k:=⟨_,rfl⟩;rw[←hth]
       cases th with
       |false=>
        have HE:Hid (R=false):=zh (by rw[HR3.out,xO (k:=k) (by have:=mE.out;omega) (by rw[xQ,←hth];rfl)];rfl);clear hth;go_wp2
        go_ret
        exact⟨by rw[HE.out];rfl,gm.out _ mi.out⟩
       |true=>
        have hth2:=hth;rw[gV.out] at hth2;have hth3:=hth2.symm;simp only[Bool.and_eq_true,decide_eq_true_eq] at hth3;obtain⟨_,_,hl0,hl1,ni⟩:=hth3;have HTH:=zh hth.symm;have rY:=zh ni;clear hth hth2 ni gV;have uM:Hid (qY (s.K* s.size) l en.list en.len=false→R=false):=zh (fun h=>by rw[HR3.out,xO (k:=k) (by have:=mE.out;omega) (by rw[xQ,HTH.out,←HEN.out,h];rfl)];rfl);have y1:=zc 1 mX.out (.int .i64 en.len) rfl;go_wp2_with fail
        clear y1
        go_loopw [13,14] (fun lv jv wr=>∃j:Nat,j≤n4∧jv=.int .i64 j∧lv=.int .i64 (xv (s.K* s.size) en.len j)∧Hid (Below W0.heap.size W0 wr)∧Hid (wr.heap[g7]?=some (.cells #[.string en.digest,.int .i64 en.len,.bool en.BC,.slice A4 n4 c4] 90 (0,0)))∧Hid (Silo.Be 4 Bn wr W0.heap.size (fun _=>True) (some ⟨gN,0,none⟩) n0 n0 (xi l (qb xs k++en.list.take j)))∧Hid (qb xs k++en.list.take j).Nodup∧Hid (qY (s.K* s.size) l en.list en.len=qY (s.K* s.size) l (en.list.drop j) (xv (s.K* s.size) en.len j))) (fun _ jv _=>n4 - (intOf jv).toNat)
        case atStart=>exact⟨0,Nat.zero_le _,rfl,by rw[kW hl0],mi,mX,by simpa using HO5,by simpa using HND,zh (by rw[kW hl0];rfl)⟩
        case round=>
         rename World=>wj
         clear mi mX HO5 HND;obtain⟨j,hj,rfl,rfl,HBj,HRj,HOj,HNj,HLj⟩:=hrel;have pO:g7<wj.heap.size:=(zl HRj.out);by_cases hjl:j<n4
         ·obtain⟨b4,o4,e4,_,hb4,i4,hc4,_⟩:=(pB.out W0 (Below.refl _ _)).BD hjl;subst e4;have uH:j<en.list.length:=(by have:=mG.out;omega);have nE:en.list.take (j+1)=en.list.take j++[en.list.getD j 0]:=(by rw[List.take_add_one,List.getElem?_eq_getElem uH,List.getD_eq_getElem?_getD,List.getElem?_eq_getElem uH];rfl);have yB:=zh (fun(hm:en.list.getD j 0∈qb xs k++en.list.take j)=>jb (s:=s) (l:=l) (xs:=xs) (k:=k) (j:=j) (by have:=mE.out;omega) (by rw[←HEN.out];exact uH) (by rw[←HEN.out];exact hm));obtain⟨id,hid⟩:∃id,id=en.list.getD j 0:=⟨_,rfl⟩;rw[←hid] at nE yB hc4;have HIDD:=zh hid;clear hid i4;have m9:=zh nE;clear nE;have yI:=zh (fun V (hV:Below W0.heap.size W0 V)=>(hV.cell (p:=⟨b4,o4+j,none⟩) hb4).trans hc4);clear hc4;obtain⟨lf,vk⟩:∃lf,lf=xv (s.K* s.size) en.len j:=⟨_,rfl⟩;have hlf0:0≤lf:=by rw[vk];unfold xv;omega
          have hlf1:lf≤2000:=by
           have h1:0≤(j:Int)* (s.K* s.size):=Int.mul_nonneg (by omega) (by omega);rw[vk];unfold xv;generalize (j:Int)* (s.K* s.size)=q at *;omega
          rw[←vk] at HLj⊢;have pu:=zh vk.symm;clear vk;have y3:=zc 3 HRj.out (.slice (some ⟨b4,o4,none⟩) n4 c4) rfl;go_wp2_with fail
          clear y3;have HS0:=zh (fun W (hW:Below W0.heap.size W0 W)=>HS.out W (gm.out _ hW));refine EW ROW hjl HBj HS0 pO HRj yI rfl rfl rfl rfl ?_;intro v w9 hv mh;simp only[qc,BR,BS,BU,BV,Act.put,BO,BP,BQ];rw[hv];have gy:=zt HBj mh;have HO9:=zh (HOj.out.all mh);have HR9:=zh ((mh.block _ pO).trans HRj.out);clear hv mh HS0 HOj HRj yI;by_cases hav:D6 l id<0
          ·have HE:Hid (R=false):=zh (uM.out (by rw[HLj.out];exact Xl (by omega) (by rw[←HIDD.out];exact hav)));generalize D6 l id=av at *;go_wp2_with fail
           refine JZ hav rfl rfl ?_;intro v nB hv gD;simp only[qc,BR,BS,BU,BV,Act.put,BO,BP,BQ];rw[hv];have ny:=zh gD;clear hv gD;go_wp2
           go_ret
           exact⟨by rw[HE.out];rfl,gm.out _ (zu gy ny.out)⟩
          obtain⟨p,hpl,hpe,hpi⟩:∃p:Nat,p<l.length∧D6 l id=(p:Int)∧(l.getD p default).id=id:=by
           rcases jT l id with ⟨h1,_⟩|⟨p,h1,h2,h3,_⟩
           ·omega
           exact⟨p,h1,h2,h3⟩
          have uW:p<n0:=(by have:=mH.out;omega);have HIDP:=zh hpi;obtain⟨_,_,eb,_,hbn,hcn,_⟩:=((HO9.out).sl (tg:=true)).Cm uW;injection eb with eb;injection eb with eb1 eb2 _;subst eb1;subst eb2
          rw[Nat.zero_add,XI hpl,hpi] at hcn;have HLS:=zh (HLj.out.trans (JM (by omega) hpl (by rw[←HIDD.out];exact hpe)));rw[hpe];clear hpe hpi hav;have hk0p:¬(p:Int)<0:=(by omega);by_cases hmm:id∈qb xs k++en.list.take j
          ·have HE:Hid (R=false):=zh (by rw[HR3.out,yB.out hmm];rfl);rw[decide_eq_true hmm] at hcn;have vT:=zh (fun V (hV:Below w9.heap.size w9 V)=>(hV.cell (p:=⟨gN,p,none⟩) hbn).trans hcn);clear hcn hmm;go_wp2_with fail
           refine Ka uW vT rfl rfl rfl ?_;intro v nB hv gD;simp only[qc,BR,BS,BU,BV,Act.put,BO,BP,BQ];rw[hv];have ny:=zh gD;clear hv gD;go_wp2
           go_ret
           exact⟨by rw[HE.out];rfl,gm.out _ (zu gy ny.out)⟩
          rw[decide_eq_false hmm] at hcn;have vT:=zh (fun V (hV:Below w9.heap.size w9 V)=>(hV.cell (p:=⟨gN,p,none⟩) hbn).trans hcn);clear hcn;obtain⟨bE,oE,A9,n9,c9,eA,_,hbE,_,_,_,_,_,u1,_⟩:=(HS.out W0 (gm.out _ (Below.refl _ _))).Bq uW;subst eA;have hyb:=QP (kV HSOK.out p hpl).1;obtain⟨hy1,hy2,_⟩:=hyb;obtain⟨yl,hyd⟩:∃yl,yl=(l.getD p default).len:=⟨_,rfl⟩;rw[←hyd] at u1 hy1 hy2 HLS;have HCY:=zh (fun V (hV:Below W0.heap.size W0 V)=>(hV.cell (p:=⟨bE,oE+p* 4+1,none⟩) hbE).trans u1);clear u1 hyd;by_cases rP:yl=min lf (s.K* s.size)
          ·have hne:(yl !=min lf (s.K* s.size))=false:=(by simp[rP]);have HYL:=zh rP;clear rP;go_wp2_with fail
           refine Kc ROW gy uW rfl vT HCY hW1 hW2 hne rfl rfl rfl rfl rfl rfl ?_;intro v nB hv gD;simp only[qc,BR,BS,BU,BV,Act.put,BO,BP,BQ];rw[hv];have ny:=zh gD;clear hv gD;have HC10:=zh (zu gy ny.out);have HO10:=zh (HO9.out.all ny.out);have HR10:=zh ((ny.out.block _ (by have:=(zl HR9.out);omega)).trans HR9.out);obtain⟨_,_,eb,_,_,hcn,hfn⟩:=((HO10.out).sl (tg:=true)).Cm (k:=p) (by have:=mH.out;omega);injection eb with eb;injection eb with eb1 eb2 _;subst eb1;subst eb2
           rw[Nat.zero_add] at hcn hfn
           go_upto_region 35 with (fail)
           clear hcn hfn;have HC11:=zh (HC10.out.setCell (p:=⟨gN,p,none⟩) hgn (.bool true))
           have HO11:Hid (Silo.Be 4 Bn (nB.setCell ⟨gN,p,none⟩ (.bool true)) W0.heap.size (fun _=>True) (some ⟨gN,0,none⟩) n0 n0 (xi l (qb xs k++en.list.take (j+1)))):=zh (by
            rw[m9.out,←List.append_assoc,←HIDP.out,←ZZ (by have:=mH.out;omega) pm.out]
            exact HO10.out.set1 rfl (by have:=mH.out;omega) ⟨rfl,trivial⟩)
           have HR11:=zh ((Below.heap_setCell nB ⟨gN,p,none⟩ (.bool true) g7 (by simp;omega)).trans HR10.out)
           have HN11:Hid (qb xs k++en.list.take (j+1)).Nodup:=zh (by
            rw[m9.out,←List.append_assoc]
            exact List.nodup_append.2 ⟨HNj.out,by simp,fun a ha b hb e=>by
             rw[List.mem_singleton.1 hb] at e;subst e
             exact hmm ha⟩)
           have HX11:Hid (xv (s.K* s.size) en.len (j+1)=lf - yl):=zh (by rw[Xa hW1,pu.out,←HYL.out]);have HY11:Hid (qY (s.K* s.size) l en.list en.len=qY (s.K* s.size) l (en.list.drop (j+1)) (lf - yl)):=zh (by rw[HLS.out,if_pos HYL.out]);clear HO10 HR10 HC10 hmm HNj vT;generalize (nB.setCell ⟨gN,p,none⟩ (.bool true))=pc at *;have y1:=HCY.out pc HC11.out;obtain⟨r0,r1⟩:=ROW.out pc HC11.out;have ng:=zc 0 r1 (.slice _ n0 c0) rfl;clear r0 r1;go_wp2
           (refine⟨?_,?measure⟩;(repeat apply Exists.intro);refine⟨?rel,rfl,rfl,rfl⟩)
           case rel=>exact⟨j+1,by omega,by go_num,by rw[HX11.out],HO11,HN11,by rw[HX11.out];exact HY11⟩
           case measure=>simp[intOf];omega
          have hne:(yl !=min lf (s.K* s.size))=true:=(by simp[rP]);have HE:Hid (R=false):=zh (uM.out (by rw[HLS.out,if_neg rP]));clear rP;go_wp2_with fail
          refine Kb ROW gy uW rfl vT HCY hW1 hW2 hne rfl rfl rfl rfl rfl rfl ?_;intro v nB hv gD;simp only[qc,BR,BS,BU,BV,Act.put,BO,BP,BQ];rw[hv];have ny:=zh gD;clear hv gD;go_wp2
          go_ret
          exact⟨by rw[HE.out];rfl,gm.out _ (zu gy ny.out)⟩
         obtain rfl:n4=j:=by omega
         have yi:Hid (qY (s.K* s.size) l en.list en.len=true):=zh (by
          rw[HLj.out,List.drop_of_length_le (by have:=mG.out;omega),rY.out,Xb hW1 hl0];rfl)
         have mC:=zh (fun j' (hj':j'<k+1)=>(show qy s l xs j'=true from by
          by_cases e:j'=k
          ·rw[e,xQ,HTH.out,←HEN.out,yi.out];rfl
          exact HA.out j' (by omega)))
         have rR:Hid (qb xs (k+1)=qb xs k++en.list.take n4):=zh (by rw[zi (by have:=mE.out;omega),←HEN.out,List.take_of_length_le (by have:=mG.out;omega)]);have y3:=zc 3 HRj.out (.slice A4 n4 c4) rfl;go_wp2
         exact⟨⟨k+1,by omega,by go_num,HBj,by rw[rR.out];exact HOj,mC,by rw[rR.out];exact HNj⟩,by simp[intOf];omega⟩
     obtain rfl:n1=k:=by omega
     have HR4:Hid (R=zL gs):=zh (by rw[HR3.out,jD (fun j hj=>HA.out j (by have:=mE.out;omega)) (by rw[mE.out];exact HND.out),decide_eq_true (by have:=mE.out;omega)];rfl);clear HA HND HO HR3;obtain⟨r0,r1⟩:=ROW.out wo HB.out;have pp:=zc 1 r1 (.slice _ n1 c1) rfl;clear r0 r1;go_wp2_with fail
     clear pp
     go_loopw [16] (fun iv wr=>∃i:Nat,i≤n2∧iv=.int .i64 i∧Hid (Below W0.heap.size W0 wr)∧Hid (∀j,j<i→Bv gs j=true)) (fun iv _=>n2 - (intOf iv).toNat)
     case atStart=>exact⟨0,Nat.zero_le _,rfl,HB,zh (fun j hj=>by omega)⟩
     case round=>
      clear HB;obtain⟨k,hk,rfl,HB,HA⟩:=hrel;by_cases hlt:k<n2
      ·obtain⟨bG,oG,eG,_,hbG,so1,so2,u0,u1,_⟩:=(HG.out W0 (gm.out _ (Below.refl _ _))).Ci hlt
       have hp:0<k→W0.cell? ⟨bG,oG+(k - 1)* 2,none⟩=some (.string (gs.getD (k - 1) default).name):=fun h0=>by
        obtain⟨b',off',e,_,_,_,_,hd,_⟩:=(HG.out W0 (gm.out _ (Below.refl _ _))).Ci (k:=k - 1) (by omega);rw[eG] at e;injection e with e;injection e with e1 e2 _;subst e1;subst e2
        exact hd
       subst eG;obtain⟨pn,uW⟩:∃y,y=(gs.getD (k - 1) default).name:=⟨_,rfl⟩;rw[←uW] at hp;have hat:Bv gs k=(decide (1≤(gs.getD k default).name.size∧(gs.getD k default).name.size≤40∧(gs.getD k default).digest.size=32)&&(decide (k=0)||qr pn (gs.getD k default).name)):=(by rw[uW];rfl);obtain⟨x,hx⟩:∃x,x=gs.getD k default:=⟨_,rfl⟩;rw[←hx] at hat u0 u1;have ux:=zh (fun V (hV:Below W0.heap.size W0 V)=>And.intro ((hV.cell (p:=⟨bG,oG+k* 2,none⟩) hbG).trans u0) ((hV.cell (p:=⟨bG,oG+k* 2+1,none⟩) hbG).trans u1));have gV:=zh hat;have gA:Hid (Bv gs k=false→R=false):=zh (fun h=>by rw[HR4.out];exact kQ (k:=k) (by have:=uk.out;omega) h)
       have HAOK:Hid (Bv gs k=true→∀j,j<k+1→Bv gs j=true):=zh (fun h j hj=>by
        by_cases e:j=k
        ·rw[e];exact h
        exact HA.out j (by omega))
       clear hat hx uW u0 u1 so1 so2;obtain⟨r0,r1⟩:=ROW.out wr HB.out;have p9:=zc 2 r1 (.slice _ n2 c2) rfl;clear r0 r1;go_wp2_with fail
       clear p9;refine EL ROW hlt hn40 HB rfl hbG hp ux gV rfl rfl rfl ?_;intro v w9 hv mh;simp only[qc,BR,BS,BU,BV,Act.put,BO,BP,BQ];rw[hv];have HB8:=zt HB mh;clear hv mh HB hp ux;obtain⟨tt,htt⟩:∃tt,tt=Bv gs k:=⟨_,rfl⟩;rw[←htt]
       cases tt with
       |false=>
        have HE:=zh (gA.out htt.symm);clear htt;go_wp2
        go_ret
        exact⟨by rw[HE.out];rfl,gm.out _ HB8.out⟩
       |true=>
        have mC:=zh (HAOK.out htt.symm);clear htt;go_wp2
        exact⟨⟨k+1,by omega,by go_num,HB8,mC⟩,by simp[intOf];omega⟩
      obtain rfl:n2=k:=by omega
      have HE:Hid (R=true):=zh (by rw[HR4.out,kR (fun j hj=>HA.out j (by have:=uk.out;omega)),decide_eq_true (by have:=uk.out;omega)]);obtain⟨r0,r1⟩:=ROW.out wr HB.out;have p9:=zc 2 r1 (.slice _ n2 c2) rfl;clear r0 r1;go_wp2
      go_ret
      exact⟨by rw[HE.out];rfl,gm.out _ HB.out⟩
theorem XV {tg tg0 tg1 tg2:Bool}{S:Nat→Prop}{w:World}{A0 A1 A2:Option Addr}{n0 c0 n1 c1 n2 c2:Nat}{s:Shape}{b:Book}(hf:DF b) (h:BG w S tg tg0 tg1 tg2 A0 n0 c0 A1 n1 c1 A2 n2 c2 b):
  Calls Tryz.prog 16 #[.agg #[.int .i64 s.K,.int .i64 s.M,.int .i64 s.size],.agg #[.slice A0 n0 c0,.slice A1 n1 c1,.slice A2 n2 c2,.int .i64 b.next]] w (Bf (.bool (qI s b)) w):=
 XU (by have:=hf.st;have:=h.st.len;omega) hf.sl h.st h.th h.ta
end Go.Proofs.YtipecejghioicaaGreat
