/- Siloref16.Book: the page's way to ask a book. -/
import Derived.Test.YtipecejghioicaaGreatQ13p
import Derived.Test.YtipecejghioicaaGreatQ14p
import Derived.Test.YtipecejghioicaaGreatR4p
import Derived.Test.YtipecejghioicaaGreatDatap
set_option maxHeartbeats 32000000
set_option maxRecDepth 100000
namespace Go.Proofs.YtipecejghioicaaGreat
open Go.RowKit Go.Silo
def QS (s:Shape) (l:List Bc) (xs:List Entry) (gs:List Tag) (nx:Int):Bool:=decide (xs.length≤60)&&(decide (gs.length≤40)&&(decide (0≤nx∧nx≤1073741824)&&(qW s l&&qt s)))
theorem Kg {s:Shape}{l:List Bc}{xs:List Entry}{gs:List Tag}{nx:Int}(h:QS s l xs gs nx=true):
  qt s=true∧qW s l=true∧xs.length≤60∧gs.length≤40∧zk s ⟨l,xs,gs,nx⟩=(qH s nx l&&(zg s l xs&&zV gs)):=by
 unfold QS at h;simp only[Bool.and_eq_true,decide_eq_true_eq] at h;obtain⟨h1,h2,h3,h4,h5⟩:=h;refine⟨h5,h4,h1,h2,?_⟩;unfold zk;simp only;rw[h5,decide_eq_true h3];rfl
theorem Kx {s:Shape}{l:List Bc}{xs:List Entry}{gs:List Tag}{nx:Int}(h:QS s l xs gs nx=false):zk s ⟨l,xs,gs,nx⟩=false:=by
 cases hb:zk s ⟨l,xs,gs,nx⟩ with
 |false=>rfl
 |true=>
  exfalso
  unfold zk at hb;simp only[Bool.and_eq_true,decide_eq_true_eq] at hb;obtain⟨h1,h2,h3,h4,h5⟩:=hb
  have hq:(qW s l&&qt s)=true:=by
   cases hq:(qW s l&&qt s) with
   |true=>rfl
   |false=>have:=Zb (nx:=nx) hq;rw[h1,h3] at this;cases this
  have hx:xs.length≤60:=by unfold zg at h4;simp only[Bool.and_eq_true,decide_eq_true_eq] at h4;exact h4.2.2
  have hg:gs.length≤40:=by unfold zV at h5;simp only[Bool.and_eq_true,decide_eq_true_eq] at h5;exact h5.2
  unfold QS at h;rw[decide_eq_true hx,decide_eq_true hg,decide_eq_true h2,hq] at h
  cases h
def zx (l:List Slot):List Slot:=l.filter (fun p=>decide (0≤p.disk))
theorem Jn {l:List Slot}{p:Slot}(h:0≤p.disk):zx (l++[p])=zx l++[p]:=by unfold zx;rw[List.filter_append];simp[h]
theorem Xv {l:List Slot}{p:Slot}(h:¬0≤p.disk):zx (l++[p])=zx l:=by unfold zx;rw[List.filter_append];simp[h]
theorem Jo (l:List Slot):(zx l).length≤l.length:=List.length_filter_le _ _
theorem Xw {l:List Slot}{p:Slot}(h:p∈zx l):p∈l:=(List.mem_filter.1 h).1
theorem Xx {l:List Slot}{p:Slot}(h:p∈l) (hd:0≤p.disk):p∈zx l:=List.mem_filter.2 ⟨h,by simpa using hd⟩
theorem Kh {α:Type}{l:List α}{p d:α}(h:p∈l):∃j,j<l.length∧l.getD j d=p:=by
 obtain⟨j,hj,e⟩:=List.getElem_of_mem h;exact⟨j,hj,by rw[List.getD_eq_getElem?_getD,List.getElem?_eq_getElem hj];exact e⟩
theorem Jp {α:Type}{l:List α}{j:Nat}{d:α}(h:j<l.length):l.getD j d∈l:=by
 rw[List.getD_eq_getElem?_getD,List.getElem?_eq_getElem h];exact List.getElem_mem h
theorem Jq {w':World}{S:Nat→Prop}{base g n:Nat}(h:w'.ownsRow base 4 1 (.slice (some ⟨g,0,none⟩) n n) n (madeCells #[.bool false] n).toList):Silo.Bo 4 Cf w' base S (some ⟨g,0,none⟩) n n (List.replicate n false):=by
 rw[toList_madeCells_one] at h;refine⟨List.replicate n (.bool false),h,by simp,fun k x hx=>?_⟩;have hk:k<n:=by have:=(List.getElem?_eq_some_iff.1 hx).1;simpa using this
 rw[List.getElem?_replicate,if_pos hk] at hx;injection hx with hx
 subst hx;refine⟨?_,trivial⟩;rw[show Cf.sz=1 from rfl,Nat.mul_one,List.drop_replicate,List.take_replicate,show min 1 (n - k)=1 by omega];rfl
theorem Xy (l:List Bc):xJ l []=List.replicate l.length false:=by
 unfold xJ;rw[List.eq_replicate_iff];exact⟨by simp,fun b hb=>by obtain⟨y,_,rfl⟩:=List.mem_map.1 hb;simp⟩
theorem Xz {W:Int}{l:List Bc}{ys:List Int}{k:Nat}{left:Int}(hk:k<ys.length) (h:CU l (ys.getD k 0)<0):zA W l (ys.drop k) left=false:=by rw[Qj hk,kL h]
theorem Ki {W:Int}{l:List Bc}{ys:List Int}{k p:Nat}{left:Int}(hk:k<ys.length) (hp:p<l.length) (h:CU l (ys.getD k 0)=(p:Int)):zA W l (ys.drop k) left=(if (l.getD p default).len=min left W then zA W l (ys.drop (k+1)) (left - (l.getD p default).len) else false):=by rw[Qj hk,Xg hp h]
theorem Jr {tg tg0 tg1 tg2:Bool}{S:Nat→Prop}{w:World}{A0 A1 A2:Option Addr}{n0 c0 n1 c1 n2 c2:Nat}{s:Shape}{l:List Bc}{xs:List Entry}{gs:List Tag}{nx:Int}(hn0:n0≤4000) (hfs:(qh l l.length).length≤1000000)
  (h0:Sl tg 86 (qc tg0) w S A0 n0 c0 l) (h1:Sl tg 90 (qj tg1) w S A1 n1 c1 xs) (h2:Sl tg2 94 Bv w S A2 n2 c2 gs):
  Calls Tryz.prog 16 #[.agg #[.int .i64 s.K,.int .i64 s.M,.int .i64 s.size],.agg #[.slice A0 n0 c0,.slice A1 n1 c1,.slice A2 n2 c2,.int .i64 nx]] w (Bf (.bool (zk s ⟨l,xs,gs,nx⟩)) w):=by
 obtain⟨ib,hib,hzb0,hzb1,hzb2⟩:=info_parts Tryz.Dt;obtain⟨ic,hic,hzc0,hzc1,hzc2⟩:=info_parts Tryz.CB;have uK:=zh h0.len;have rJ:=zh h1.len;have yA:=zh h2.len;have hcap1:n1≤9223372036854775807:=Nat.le_trans h1.le h1.cap;have hcap2:n2≤9223372036854775807:=Nat.le_trans h2.le h2.cap;have HFS:=zh hfs;clear hfs;obtain⟨R,hR⟩:∃R,R=zk s ⟨l,xs,gs,nx⟩:=⟨_,rfl⟩;rw[←hR];have HR:=zh hR;clear hR;obtain⟨hd,hhd⟩:∃hd,hd=QS s l xs gs nx:=⟨_,rfl⟩;have HHD:=zh hhd;clear hhd;have hal:Below w.heap.size w ((w.alloc (.cells #[.int .i64 s.K,.int .i64 s.M,.int .i64 s.size] 23)).alloc (.cells #[.slice A0 n0 c0,.slice A1 n1 c1,.slice A2 n2 c2,.int .i64 nx] 28)):=bz
 have nt:((w.alloc (.cells #[.int .i64 s.K,.int .i64 s.M,.int .i64 s.size] 23)).alloc (.cells #[.slice A0 n0 c0,.slice A1 n1 c1,.slice A2 n2 c2,.int .i64 nx] 28)).heap[w.heap.size]?=some (.cells #[.int .i64 s.K,.int .i64 s.M,.int .i64 s.size] 23 (0,0)):=by
  rw[Below.heap_alloc _ _ _ (by simp;try omega)];have:=heap_alloc_new w (.cells #[.int .i64 s.K,.int .i64 s.M,.int .i64 s.size] 23);simpa only[World.size_alloc] using this
 have hr1:((w.alloc (.cells #[.int .i64 s.K,.int .i64 s.M,.int .i64 s.size] 23)).alloc (.cells #[.slice A0 n0 c0,.slice A1 n1 c1,.slice A2 n2 c2,.int .i64 nx] 28)).heap[w.heap.size+1]?=some (.cells #[.slice A0 n0 c0,.slice A1 n1 c1,.slice A2 n2 c2,.int .i64 nx] 28 (0,0)):=by
  have:=heap_alloc_new (w.alloc (.cells #[.int .i64 s.K,.int .i64 s.M,.int .i64 s.size] 23)) (.cells #[.slice A0 n0 c0,.slice A1 n1 c1,.slice A2 n2 c2,.int .i64 nx] 28);simpa only[World.size_alloc] using this
 have hz:w.heap.size+1<((w.alloc (.cells #[.int .i64 s.K,.int .i64 s.M,.int .i64 s.size] 23)).alloc (.cells #[.slice A0 n0 c0,.slice A1 n1 c1,.slice A2 n2 c2,.int .i64 nx] 28)).heap.size:=by simp
 have HS:=zh (fun W (hW:Below w.heap.size w W)=>h0.all hW);clear h0;have HT:=zh (fun W (hW:Below w.heap.size w W)=>h1.all hW);clear h1;have HG:=zh (fun W (hW:Below w.heap.size w W)=>h2.all hW);clear h2
 go_enter Tryz.func16,Tryz.ntmps16
 go_upto_region 1 with (fail)
 generalize ((w.alloc (.cells #[.int .i64 s.K,.int .i64 s.M,.int .i64 s.size] 23)).alloc (.cells #[.slice A0 n0 c0,.slice A1 n1 c1,.slice A2 n2 c2,.int .i64 nx] 28))=W0 at *;have gI:=zh (fun V (hV:Below W0.heap.size W0 V)=>hal.trans (hV.mono hal.size));clear hal;have ROW:=zh (fun V (hV:Below W0.heap.size W0 V)=>(show V.heap[w.heap.size]?=some (.cells #[.int .i64 s.K,.int .i64 s.M,.int .i64 s.size] 23 (0,0))∧V.heap[w.heap.size+1]?=some (.cells #[.slice A0 n0 c0,.slice A1 n1 c1,.slice A2 n2 c2,.int .i64 nx] 28 (0,0)) from⟨(hV.block _ (by omega)).trans nt,(hV.block _ (by omega)).trans hr1⟩));clear nt hr1;have hz1:w.heap.size+1<W0.heap.size:=by omega
 go_cut [45] from 17 (fun t V=>t=.bool (!hd)∧Hid (Below W0.heap.size W0 V))
 case first=>
  obtain⟨r0,r1⟩:=ROW.out W0 (Below.refl _ _);have rW:=zc 0 r1 (.slice _ n0 c0) rfl;have vG:=zc 1 r1 (.slice _ n1 c1) rfl;have vp:=zc 2 r1 (.slice _ n2 c2) rfl;have yV:=zc 3 r1 (.int .i64 nx) rfl;clear r0 r1;have HHE:Hid (hd=(decide (n1≤60)&&(decide (n2≤40)&&(decide (0≤nx∧nx≤1073741824)&&(qW s l&&qt s))))):=zh (by rw[HHD.out];unfold QS;rw[rJ.out,yA.out]);by_cases g1:60<n1
  ·have HF:Hid (hd=false):=zh (by rw[HHE.out,decide_eq_false (by omega:¬n1≤60)];rfl);go_wp2
   go_meet
   case rel=>exact⟨by rw[HF.out];rfl,zh (Below.refl _ _)⟩
  have HHE2:Hid (hd=(decide (n2≤40)&&(decide (0≤nx∧nx≤1073741824)&&(qW s l&&qt s)))):=zh (by rw[HHE.out,decide_eq_true (by omega:n1≤60)];rfl);by_cases g2:40<n2
  ·have HF:Hid (hd=false):=zh (by rw[HHE2.out,decide_eq_false (by omega:¬n2≤40)];rfl);go_wp2
   go_meet
   case rel=>exact⟨by rw[HF.out];rfl,zh (Below.refl _ _)⟩
  have HHE3:Hid (hd=(decide (0≤nx∧nx≤1073741824)&&(qW s l&&qt s))):=zh (by rw[HHE2.out,decide_eq_true (by omega:n2≤40)];rfl);go_wp2_with fail
  refine(BB (n:=nx) (m:=1073741824)).mono ?_;rintro e w1 ⟨rfl,hb1⟩;have gV:=zh hb1;clear hb1 rW vG vp yV;generalize decide (0≤nx∧nx≤1073741824)=d1 at *
  cases d1 with
  |false=>
   have HF:Hid (hd=false):=zh HHE3.out;go_wp2
   go_meet
   case rel=>exact⟨by rw[HF.out];rfl,gV⟩
  |true=>
   obtain⟨r0,r1⟩:=ROW.out w1 gV.out;have nb:=zc 0 r0 (.int .i64 s.K) rfl;have mX:=zc 1 r0 (.int .i64 s.M) rfl;have mY:=zc 2 r0 (.int .i64 s.size) rfl;have rW:=zc 0 r1 (.slice _ n0 c0) rfl;clear r0 r1;go_wp2_with fail
   refine(QZ (s:=s) (HS.out _ (gI.out _ gV.out))).mono ?_;rintro e w2 ⟨rfl,hb2⟩;have gM:=zt gV hb2;clear hb2 gV nb mX mY rW;generalize (qW s l&&qt s)=q at *;have HF:Hid (hd=q):=zh HHE3.out;go_wp2
   go_meet
   case rel=>exact⟨by rw[HF.out,decide_eq_false (by omega:¬(4000:Int)<(n0:Int)),decide_eq_false (by omega:¬(60:Int)<(n1:Int)),decide_eq_false (by omega:¬(40:Int)<(n2:Int))];rfl,gM⟩
 case rest=>
  rename World=>wc
  obtain⟨rfl,HBc⟩:=hcut
  cases hd with
  |false=>
   have HE:Hid (R=false):=zh (HR.out.trans (Kx HHD.out.symm));go_wp2
   go_ret
   exact⟨by rw[HE.out];rfl,gI.out _ HBc.out⟩
  |true=>
   obtain⟨hsh,hsb,hx60,hg40,hRe⟩:=Kg HHD.out.symm;obtain⟨k1,k2,m1,m2,s1,s2⟩:=Ja hsh;have hW1:1≤s.K* s.size:=(by have:=Int.mul_le_mul k1 s1 (by omega) (by omega);omega);have hW2:s.K* s.size≤960:=(by have:=Int.mul_le_mul k2 s2 (by omega) (by omega);omega);have vw:=zh hsh;clear hsh;have Hn:=zh hsb;clear hsb;have hn60:n1≤60:=(by have:=rJ.out;omega);have hn40:n2≤40:=(by have:=yA.out;omega);have HR2:=zh (HR.out.trans hRe);clear hRe HR HHD hx60 hg40;clear k1 k2 m1 m2 s1 s2;go_wp2_with fail
   go_loopw [5,6] (fun tv iv wr=>∃k:Nat,∃A c,k≤n0∧iv=.int .i64 k∧tv=.slice A (zx (qh l k)).length c∧Hid (Silo.Bo 88 qp wr W0.heap.size (fun _=>True) A (zx (qh l k)).length c (zx (qh l k)))∧Hid (Below W0.heap.size W0 wr)∧Hid (∀j,j<k→(l.getD j default).id<nx)∧Hid (zM (qh l k)=true)) (fun _ iv _=>n0 - (intOf iv).toNat)
   case atStart=>exact⟨0,none,0,Nat.zero_le _,rfl,by rfl,zh Silo.Bo.Bz,HBc,zh (fun j hj=>by omega),zh (by simp[qh,zM])⟩
   case round=>
    rename World=>wo
    clear HBc;obtain⟨k,A,c,hk,rfl,rfl,HO,HB,HI,HN⟩:=hrel;have hzo1:=Nat.lt_of_lt_of_le hz1 HB.out.size;by_cases hlt:k<n0
    ·obtain⟨bE,oE,A3,n3,c3,eA,_,mF,_,_,_,hp3,u0,_,_,u3,_⟩:=(HS.out W0 (gI.out _ (Below.refl _ _))).Bu hlt;subst eA;have ni:=zh hp3.len;have yS:n3≤9223372036854775807:=Nat.le_trans hp3.le hp3.cap;have yZ:=zh (fun V (hV:Below W0.heap.size W0 V)=>hp3.all hV);clear hp3;have HU:=zh (fun V (hV:Below W0.heap.size W0 V)=>And.intro ((hV.cell (p:=⟨bE,oE+k* 4,none⟩) mF).trans u0) ((hV.cell (p:=⟨bE,oE+k* 4+3,none⟩) mF).trans u3));clear u0 u3;have hbo:=Nat.lt_of_lt_of_le mF HB.out.size;have HST:=zh (kD (nx:=nx) Hn.out (k:=k) (by have:=uK.out;omega))
     have HLE:Hid ((qh l k).length+(l.getD k default).place.length≤1000000):=zh (by
      obtain⟨r,hr⟩:=jP (l:=l) (k+1);have h2:=HFS.out;rw[hr,zS (by have:=uK.out;omega),List.length_append,List.length_append] at h2
      omega)
     obtain⟨x,hx⟩:∃x,x=l.getD k default:=⟨_,rfl⟩;rw[←hx] at ni yZ HU HST HLE;have Gq:=zh hx;clear hx;obtain⟨r0,r1⟩:=ROW.out wo HB.out;have rW:=zc 0 r1 (.slice _ n0 c0) rfl;have yV:=zc 3 r1 (.int .i64 nx) rfl;clear r0 r1;obtain⟨u0,_⟩:=HU.out wo HB.out;by_cases cB:nx≤x.id
     ·have HE:Hid (R=false):=zh (by rw[HR2.out,jE (k:=k) (by have:=uK.out;omega) (HST.out.trans (decide_eq_false (by omega)))];rfl);go_wp2_with fail
      have pG:=xa wo;refine zr (by kernel_rfl) (by kernel_rfl) ?_
      repeat (go_big_quiet_step (fail))
      refine wpQuiet_nil ?_;rintro _ ⟨X,rfl⟩;have mL:=zh (HB.out.trans ((zn wo X).mono HB.out.size));clear pG rW yV u0;generalize wo.ext X=w3 at *;go_wp2
      go_ret
      exact⟨by rw[HE.out];rfl,gI.out _ mL.out⟩
     have Gc:Hid (∀j,j<k+1→(l.getD j default).id<nx):=zh (fun j hj=>by
      rcases Nat.lt_or_ge j k with h|h
      ·exact HI.out j h
      obtain rfl:j=k:=by omega
      rw[←Gq.out];omega)
     go_wp2_with fail
     have pG:=xa wo;refine zr (by kernel_rfl) (by kernel_rfl) ?_
     repeat (go_big_quiet_step (fail))
     refine wpQuiet_nil ?_;rintro _ ⟨X,rfl⟩;have mL:=zh (HB.out.trans ((zn wo X).mono HB.out.size));have Ha:=zh (HO.out.all (zn wo X));clear pG rW yV u0 HO HB;generalize wo.ext X=w3 at *;go_wp2_with fail
     go_loopw [5,7] (fun tv jv wr=>∃j:Nat,∃A c,j≤n3∧jv=.int .i64 j∧tv=.slice A (zx (qh l k++x.place.take j)).length c∧Hid (Silo.Bo 88 qp wr W0.heap.size (fun _=>True) A (zx (qh l k++x.place.take j)).length c (zx (qh l k++x.place.take j)))∧Hid (Below W0.heap.size W0 wr)∧Hid (zM (qh l k++x.place.take j)=true)) (fun _ jv _=>n3 - (intOf jv).toNat)
     case atStart=>exact⟨0,A,c,Nat.zero_le _,rfl,by simp,by simpa using Ha,mL,by simpa using HN⟩
     case round=>
      rename World=>wj
      clear Ha mL HN;obtain⟨j,A',c',hj,rfl,rfl,HOj,HBj,HNj⟩:=hrel;by_cases hjl:j<n3
      ·obtain⟨b3,o3,e3,_,hb3,g1,g2,v0,v1,_⟩:=(yZ.out wj HBj.out).BA hjl;subst e3;have Gb:j<x.place.length:=(by have:=ni.out;omega);have rR:x.place.take (j+1)=x.place.take j++[x.place.getD j default]:=(by rw[List.take_add_one,List.getElem?_eq_getElem Gb,List.getD_eq_getElem?_getD,List.getElem?_eq_getElem Gb];rfl);have Hg:=zh (fun(hd:0≤(x.place.getD j default).disk) (hm:x.place.getD j default∈qh l k++x.place.take j)=>jm (s:=s) (nx:=nx) (l:=l) (k:=k) (j:=j) (by have:=uK.out;omega) (by rw[←Gq.out];exact Gb) (by rw[←Gq.out];exact hd) (by rw[←Gq.out];exact hm));have pA:=zh rR;clear rR
       have hTl:(zx (qh l k++x.place.take j)).length≤1000000:=by
        have h1:=Jo (qh l k++x.place.take j);have h2:=HLE.out;rw[List.length_append,List.length_take] at h1;omega
       generalize x.place.getD j default=p at *;have HGP:=zh (And.intro g1 g2);clear g1 g2;obtain⟨r0,r1⟩:=ROW.out wj HBj.out;have rW:=zc 0 r1 (.slice _ n0 c0) rfl;clear r0 r1;obtain⟨_,u3⟩:=HU.out wj HBj.out
       go_upto_region 13 with (fail)
       have gH:Below wj.heap.size wj (wj.alloc (.cells #[.int .i64 p.disk,.int .i64 p.pos] 88)):=(Below.refl _ _).alloc (Nat.le_refl _) _;have hrow:=heap_alloc_new wj (.cells #[.int .i64 p.disk,.int .i64 p.pos] 88);have hzl:wj.heap.size<(wj.alloc (.cells #[.int .i64 p.disk,.int .i64 p.pos] 88)).heap.size:=(by simp);have px:=zt HBj gH;have HOp:=zh (HOj.out.all gH);clear gH v0 v1 u3 rW HOj HBj;generalize (wj.alloc (.cells #[.int .i64 p.disk,.int .i64 p.pos] 88))=wp at *;generalize wj.heap.size=g9 at *;have ROWP:=zh (fun V (hV:Below wp.heap.size wp V)=>(hV.block _ hzl).trans hrow);clear hrow;have z0:=(zo 0 (ROWP.out wp (Below.refl _ _))).trans (show _=some (.int .i64 p.disk:Value) from rfl);by_cases uO:0≤p.disk
       ·have p7:Hid (zx (qh l k++x.place.take (j+1))=zx (qh l k++x.place.take j)++[p]):=zh (by rw[pA.out,←List.append_assoc,Jn uO]);have HMT:=zh (fun(hm:p∈zx (qh l k++x.place.take j))=>Hg.out uO (Xw hm));clear Hg
        have pD:=zh (fun(hm:p∉zx (qh l k++x.place.take j))=>(show zM (qh l k++x.place.take (j+1))=true from by
         rw[pA.out,←List.append_assoc]
         exact xP HNj.out (fun hd h=>hm (Xx h hd))))
        clear HNj pA;generalize zx (qh l k++x.place.take j)=TT at *;have p6:=zh HOp.out.len;go_wp2_with fail
        clear z0
        go_loopw [9] (fun qv wr=>∃q:Nat,q≤TT.length∧qv=.int .i64 q∧Hid (Below wp.heap.size wp wr)∧Hid (∀i,i<q→TT.getD i default≠p)) (fun qv _=>TT.length - (intOf qv).toNat)
        case atStart=>exact⟨0,Nat.zero_le _,rfl,zh (Below.refl _ _),zh (fun i hi=>by omega)⟩
        case round=>
         rename World=>wq
         obtain⟨q,hq,rfl,HBq,HQ⟩:=hrel;have zp:=zc 0 (ROWP.out wq HBq.out) (.int .i64 p.disk) rfl;have zq:=zc 1 (ROWP.out wq HBq.out) (.int .i64 p.pos) rfl;by_cases hql:q<TT.length
         ·obtain⟨bt,ot,et,_,hbt,_,_,y0,y1,_⟩:=((HOp.out.all HBq.out).sl (tg:=true)).BA hql;subst et;obtain⟨t,ht⟩:∃t,t=TT.getD q default:=⟨_,rfl⟩;rw[←ht] at y0 y1;have HTD:=zh ht;clear ht;by_cases htp:t=p
          ·have HE:Hid (R=false):=zh (by rw[HR2.out,HMT.out (by rw[←htp,HTD.out];exact Jp hql)];rfl);subst htp;have hq:∀W:World,(Op.equalIn 10000 88 (.agg #[.int .i64 t.disk,.int .i64 t.pos]) (.agg #[.int .i64 t.disk,.int .i64 t.pos])).run Tryz.prog W=.ok true W:=fun W=>by rw[jR];simp
           have hqg:=jS;have HBR:=zh (fun V (hV:Below wq.heap.size wq V)=>gI.out V (px.out.trans ((zu HBq hV).mono px.out.size)));go_wp2
           go_quiet (fail)
           go_wp2
           go_ret
           exact⟨by rw[HE.out];rfl,HBR.out _ (by first|exact below_drewN (Below.refl _ _) _|exact Below.refl _ _)⟩
          have hq:∀W:World,(Op.equalIn 10000 88 (.agg #[.int .i64 t.disk,.int .i64 t.pos]) (.agg #[.int .i64 p.disk,.int .i64 p.pos])).run Tryz.prog W=.ok false W:=fun W=>by rw[jR,decide_eq_false htp]
          have hqg:=jS
          have mG:Hid (∀i,i<q+1→TT.getD i default≠p):=zh (fun i hi=>by
           rcases Nat.lt_or_ge i q with h|h
           ·exact HQ.out i h
           obtain rfl:i=q:=by omega
           rw[←HTD.out];exact htp)
          clear htp;have HBR:=zh (fun V (hV:Below wq.heap.size wq V)=>HBq.out.trans (hV.mono HBq.out.size));go_wp2
          go_quiet (fail)
          go_wp2
          exact⟨⟨q+1,by omega,by go_num,zh (HBR.out _ (by first|exact below_drewN (Below.refl _ _) _|exact Below.refl _ _)),mG⟩,by simp[intOf];omega⟩
         obtain rfl:q=TT.length:=by omega
         have Gi:Hid (zM (qh l k++x.place.take (j+1))=true):=zh (pD.out (fun hm=>by
          obtain⟨i,hi,e⟩:=Kh (d:=default) hm
          exact HQ.out i hi e))
         have HOq:=zh (HOp.out.all HBq.out);have mq:=zh (zu px HBq.out);obtain⟨gp1,gp2⟩:=HGP.out;go_wp2_with (at_builtin;refine qs rfl _ _ 59 rfl ic (.agg #[.int .i64 0,.int .i64 0]) 16 Tryz.underlying59 hic hzc0 hzc1 hzc2 rfl (by decide) rfl (HOq.out.frame (Agree.alloc _ _ _) (by simp)) wq.heap.size 88 1 _ p rfl (heap_alloc_new _ _) ⟨rfl,gp1,gp2⟩ (by omega) (by omega) (by have:=mq.out.size;simp;omega) ?_)
         intro A2 c2' w2 hown2 hg2 _;have vP:=zh hown2;clear hown2;have gM:=zh (((mq.out.alloc mq.out.size _).grown hg2 (by have:=mq.out.size;simp;omega) (fun k hk=>(HOq.out.lt k hk).1)));clear hg2;clear zp zq;go_wp2
         exact⟨⟨j+1,A2,c2',by omega,by go_num,by rw[p7.out,List.length_append];rfl,by rw[p7.out,List.length_append];exact vP,gM,Gi⟩,by simp[intOf];omega⟩
       have p7:Hid (zx (qh l k++x.place.take (j+1))=zx (qh l k++x.place.take j)):=zh (by rw[pA.out,←List.append_assoc,Xv uO])
       have Gi:Hid (zM (qh l k++x.place.take (j+1))=true):=zh (by
        rw[pA.out,←List.append_assoc]
        exact xP HNj.out (fun h=>absurd h uO))
       go_wp2
       exact⟨⟨j+1,A',c',by omega,by go_num,by rw[p7.out],by rw[p7.out];exact HOp,px,Gi⟩,by simp[intOf];omega⟩
      obtain rfl:j=n3:=by omega
      have na:Hid (qh l (k+1)=qh l k++x.place.take j):=zh (by rw[zS (by have:=uK.out;omega),←Gq.out,List.take_of_length_le (by have:=ni.out;omega)]);obtain⟨r0,r1⟩:=ROW.out wj HBj.out;have rW:=zc 0 r1 (.slice _ n0 c0) rfl;clear r0 r1;obtain⟨_,u3⟩:=HU.out wj HBj.out;go_wp2
      (refine⟨?_,?measure⟩;(repeat apply Exists.intro);refine⟨?rel,rfl⟩)
      case rel=>exact⟨k+1,A',c',by omega,by go_num,by rw[na.out],by rw[na.out];exact HOj,HBj,Gc,by rw[na.out];exact HNj⟩
      case measure=>simp[intOf];omega
    obtain rfl:n0=k:=by omega
    have mW:qH s nx l=true:=jF (fun j hj=>by rw[kD Hn.out hj];exact decide_eq_true (HI.out j (by have:=uK.out;omega))) (by rw[uK.out];exact HN.out);have pc:=zh (xV mW);have HSOK:=zh mW;have HR3:Hid (R=(zg s l xs&&zV gs)):=zh (by rw[HR2.out,mW];rfl);clear mW HR2 HI HN HO Hn HFS;obtain⟨r0,r1⟩:=ROW.out wo HB.out;have rW:=zc 0 r1 (.slice _ n0 c0) rfl;clear r0 r1;go_wp2_with (at_make;refine wpList_make_full _ rfl _ _ 30 rfl W0.heap.size 4 ib (.bool false) 1 Tryz.underlying30 hib hzb0 hzb1 .i64 .i64 _ _ n0 rfl rfl rfl rfl (by rw[hzb2];omega) (by unfold maxLen;omega) HB.out.size ?_)
    intro wm hown hgm;clear rW
    have HON:Hid (Silo.Bo 4 Cf wm W0.heap.size (fun _=>True) (some ⟨wo.heap.size,0,none⟩) n0 n0 (xJ l (qr xs 0))):=zh (by
     rw[show qr xs 0=[] from rfl,Xy,uK.out]
     exact Jq hown)
    have HBm:=zh (HB.out.grown hgm HB.out.size (fun r hr=>by cases hr));have hgn:W0.heap.size≤wo.heap.size:=HB.out.size;clear hown hgm hzo1 HB;generalize wo.heap.size=gN at *;go_wp2_with fail
    go_loopw [11] (fun iv wr=>∃i:Nat,i≤n1∧iv=.int .i64 i∧Hid (Below W0.heap.size W0 wr)∧Hid (Silo.Bo 4 Cf wr W0.heap.size (fun _=>True) (some ⟨gN,0,none⟩) n0 n0 (xJ l (qr xs i)))∧Hid (∀j,j<i→qI s l xs j=true)∧Hid (qr xs i).Nodup) (fun iv _=>n1 - (intOf iv).toNat)
    case atStart=>exact⟨0,Nat.zero_le _,rfl,HBm,HON,zh (fun j hj=>by omega),zh (by simp[qr])⟩
    case round=>
     rename World=>wo
     clear HBm HON;obtain⟨k,hk,rfl,HB,HO,HA,HND⟩:=hrel;by_cases hlt:k<n1
     ·obtain⟨bT,oT,A4,n4,c4,eT,_,hbT,so,il,hl4,u0,u1,u2,u3,_⟩:=(HT.out W0 (gI.out _ (Below.refl _ _))).BP hlt
      have hp:0<k→W0.cell? ⟨bT,oT+(k - 1)* 4,none⟩=some (.string (xs.getD (k - 1) default).digest):=fun h0=>by
       obtain⟨b',off',A',n',c',e,_,_,_,_,_,hd,_⟩:=(HT.out W0 (gI.out _ (Below.refl _ _))).BP (k:=k - 1) (by omega);rw[eT] at e;injection e with e;injection e with e1 e2 _;subst e1;subst e2
       exact hd
      subst eT;have nE:=hl4.len;have nu:n4≤9223372036854775807:=Nat.le_trans hl4.le hl4.cap;have vR:=zh (fun V (hV:Below W0.heap.size W0 V)=>hl4.all hV);clear hl4;obtain⟨pd,uO⟩:∃y,y=(xs.getD (k - 1) default).digest:=⟨_,rfl⟩;rw[←uO] at hp;have hat:qP s xs k=(decide ((xs.getD k default).digest.size=32)&&((decide (k=0)||qo pd (xs.getD k default).digest)&&(decide (0≤(xs.getD k default).len)&&(decide ((xs.getD k default).len≤2000)&&decide ((xs.getD k default).list.length=zJ s (xs.getD k default).len))))):=(by rw[uO];rfl);rw[nE] at hat;have ni:=zh nE;clear nE;obtain⟨en,hen⟩:∃en,en=xs.getD k default:=⟨_,rfl⟩;rw[←hen] at hat so il ni vR u0 u1 u2;have HEN:=zh hen;clear hen uO;have nr:=zh hat;clear hat;have HIL:=zh il;clear il so;have v0:=(HB.out.cell (p:=⟨bT,oT+k* 4,none⟩) hbT).trans u0;have v1:=(HB.out.cell (p:=⟨bT,oT+k* 4+1,none⟩) hbT).trans u1;have v2:=(HB.out.cell (p:=⟨bT,oT+k* 4+2,none⟩) hbT).trans u2;have v3:=(HB.out.cell (p:=⟨bT,oT+k* 4+3,none⟩) hbT).trans u3;clear u0 u1 u2 u3;obtain⟨r0,r1⟩:=ROW.out wo HB.out;have vG:=zc 1 r1 (.slice _ n1 c1) rfl;clear r0 r1
      go_upto_region 25 with (fail)
      have gH:Below wo.heap.size wo (wo.alloc (.cells #[.string en.digest,.int .i64 en.len,.bool en.BO,.slice A4 n4 c4] 90)):=(Below.refl _ _).alloc (Nat.le_refl _) _;have hrow:=heap_alloc_new wo (.cells #[.string en.digest,.int .i64 en.len,.bool en.BO,.slice A4 n4 c4] 90);have hzl:wo.heap.size<(wo.alloc (.cells #[.string en.digest,.int .i64 en.len,.bool en.BO,.slice A4 n4 c4] 90)).heap.size:=(by simp);have ma:=zt HB gH;have HO4:=zh (HO.out.all gH);have hgg:gN<wo.heap.size:=(HO.out.lt gN rfl).2;clear gH v0 v1 v2 v3 vG HO HB;generalize (wo.alloc (.cells #[.string en.digest,.int .i64 en.len,.bool en.BO,.slice A4 n4 c4] 90))=w4 at *;generalize wo.heap.size=g7 at *;have gu:=zh (fun V (hV:Below w4.heap.size w4 V)=>(hV.block _ hzl).trans hrow);clear hrow
      go_cut [152] from 105 to 204 (fun t V=>t=.bool (!qP s xs k)∧Hid (Below w4.heap.size w4 V))
      case first=>
       clear HA HND HO4;go_wp2_with fail
       refine Fu ROW vw hlt hn60 ma rfl hbT hp gu nr rfl rfl rfl rfl rfl ?_;intro v w9 hv gW;simp only[qa,BG,BH,BI,BJ,Act.put,BC,BD,BF];rw[hv];have gF:=zh gW;clear hv gW;go_wp2
       go_meet
       case rel=>exact⟨rfl,gF⟩
      case rest=>
       rename World=>wc2
       obtain⟨rfl,HBc⟩:=hcut;have mB:=zh (zu ma HBc.out);have HO5:=zh (HO4.out.all HBc.out);have pU:=zh (gu.out wc2 HBc.out);have hg7c:=Nat.lt_of_lt_of_le hzl HBc.out.size;clear HO4 gu ma HBc hp;obtain⟨th,hth⟩:∃th,th=qP s xs k:=⟨_,rfl⟩;rw[←hth]
       cases th with
       |false=>
        have HE:Hid (R=false):=zh (by rw[HR3.out,jj (k:=k) (by have:=rJ.out;omega) (by rw[jk,←hth];rfl)];rfl);clear hth;go_wp2
        go_ret
        exact⟨by rw[HE.out];rfl,gI.out _ mB.out⟩
       |true=>
        have hth2:=hth;rw[nr.out] at hth2;have hth3:=hth2.symm;simp only[Bool.and_eq_true,decide_eq_true_eq] at hth3;obtain⟨_,_,hl0,hl1,rC⟩:=hth3;have HTH:=zh hth.symm;have yf:=zh rC;clear hth hth2 rC nr;have HBAD:Hid (zA (s.K* s.size) l en.list en.len=false→R=false):=zh (fun h=>by rw[HR3.out,jj (k:=k) (by have:=rJ.out;omega) (by rw[jk,HTH.out,←HEN.out,h];rfl)];rfl);have y1:=zc 1 pU.out (.int .i64 en.len) rfl;go_wp2_with fail
        clear y1
        go_loopw [13,14] (fun lv jv wr=>∃j:Nat,j≤n4∧jv=.int .i64 j∧lv=.int .i64 (xR (s.K* s.size) en.len j)∧Hid (Below W0.heap.size W0 wr)∧Hid (wr.heap[g7]?=some (.cells #[.string en.digest,.int .i64 en.len,.bool en.BO,.slice A4 n4 c4] 90 (0,0)))∧Hid (Silo.Bo 4 Cf wr W0.heap.size (fun _=>True) (some ⟨gN,0,none⟩) n0 n0 (xJ l (qr xs k++en.list.take j)))∧Hid (qr xs k++en.list.take j).Nodup∧Hid (zA (s.K* s.size) l en.list en.len=zA (s.K* s.size) l (en.list.drop j) (xR (s.K* s.size) en.len j))) (fun _ jv _=>n4 - (intOf jv).toNat)
        case atStart=>exact⟨0,Nat.zero_le _,rfl,by rw[Qi hl0],mB,pU,by simpa using HO5,by simpa using HND,zh (by rw[Qi hl0];rfl)⟩
        case round=>
         rename World=>wj
         clear mB pU HO5 HND;obtain⟨j,hj,rfl,rfl,HBj,HRj,HOj,HNj,HLj⟩:=hrel;have hg7:g7<wj.heap.size:=(zl HRj.out);by_cases hjl:j<n4
         ·obtain⟨b4,o4,e4,_,hb4,i4,hc4,_⟩:=(vR.out W0 (Below.refl _ _)).BN hjl;subst e4;have Gb:j<en.list.length:=(by have:=ni.out;omega);have rR:en.list.take (j+1)=en.list.take j++[en.list.getD j 0]:=(by rw[List.take_add_one,List.getElem?_eq_getElem Gb,List.getD_eq_getElem?_getD,List.getElem?_eq_getElem Gb];rfl);have Hg:=zh (fun(hm:en.list.getD j 0∈qr xs k++en.list.take j)=>js (s:=s) (l:=l) (xs:=xs) (k:=k) (j:=j) (by have:=rJ.out;omega) (by rw[←HEN.out];exact Gb) (by rw[←HEN.out];exact hm));obtain⟨id,hid⟩:∃id,id=en.list.getD j 0:=⟨_,rfl⟩;rw[←hid] at rR Hg hc4;have HIDD:=zh hid;clear hid i4;have pA:=zh rR;clear rR;have Hl:=zh (fun V (hV:Below W0.heap.size W0 V)=>(hV.cell (p:=⟨b4,o4+j,none⟩) hb4).trans hc4);clear hc4;obtain⟨lf,Gu⟩:∃lf,lf=xR (s.K* s.size) en.len j:=⟨_,rfl⟩;have hlf0:0≤lf:=by rw[Gu];unfold xR;omega
          have hlf1:lf≤2000:=by
           have h1:0≤(j:Int)* (s.K* s.size):=Int.mul_nonneg (by omega) (by omega);rw[Gu];unfold xR;generalize (j:Int)* (s.K* s.size)=q at *;omega
          rw[←Gu] at HLj⊢;have HLF:=zh Gu.symm;clear Gu;have y3:=zc 3 HRj.out (.slice (some ⟨b4,o4,none⟩) n4 c4) rfl;go_wp2_with fail
          clear y3;have Gl:=zh (fun W (hW:Below W0.heap.size W0 W)=>HS.out W (gI.out _ hW));refine Fv ROW hjl HBj Gl hg7 HRj Hl rfl rfl rfl rfl ?_;intro v w9 hv gW;simp only[qa,BG,BH,BI,BJ,Act.put,BC,BD,BF];rw[hv];have gF:=zt HBj gW;have HO9:=zh (HOj.out.all gW);have HR9:=zh ((gW.block _ hg7).trans HRj.out);clear hv gW Gl HOj HRj Hl;by_cases hav:CU l id<0
          ·have HE:Hid (R=false):=zh (HBAD.out (by rw[HLj.out];exact Xz (by omega) (by rw[←HIDD.out];exact hav)));generalize CU l id=av at *;go_wp2_with fail
           refine Kt hav rfl rfl ?_;intro v nk hv gT;simp only[qa,BG,BH,BI,BJ,Act.put,BC,BD,BF];rw[hv];have mz:=zh gT;clear hv gT;go_wp2
           go_ret
           exact⟨by rw[HE.out];rfl,gI.out _ (zu gF mz.out)⟩
          obtain⟨p,hpl,hpe,hpi⟩:∃p:Nat,p<l.length∧CU l id=(p:Int)∧(l.getD p default).id=id:=by
           rcases jB l id with ⟨h1,_⟩|⟨p,h1,h2,h3,_⟩
           ·omega
           exact⟨p,h1,h2,h3⟩
          have Gm:p<n0:=(by have:=uK.out;omega);have HIDP:=zh hpi;obtain⟨_,_,eb,_,hbn,hcn,_⟩:=((HO9.out).sl (tg:=true)).Dn Gm;injection eb with eb;injection eb with eb1 eb2 _;subst eb1;subst eb2
          rw[Nat.zero_add,XZ hpl,hpi] at hcn;have HLS:=zh (HLj.out.trans (Ki (by omega) hpl (by rw[←HIDD.out];exact hpe)));rw[hpe];clear hpe hpi hav;have hk0p:¬(p:Int)<0:=(by omega);by_cases hmm:id∈qr xs k++en.list.take j
          ·have HE:Hid (R=false):=zh (by rw[HR3.out,Hg.out hmm];rfl);rw[decide_eq_true hmm] at hcn;have GQ:=zh (fun V (hV:Below w9.heap.size w9 V)=>(hV.cell (p:=⟨gN,p,none⟩) hbn).trans hcn);clear hcn hmm;go_wp2_with fail
           refine Ku Gm GQ rfl rfl rfl ?_;intro v nk hv gT;simp only[qa,BG,BH,BI,BJ,Act.put,BC,BD,BF];rw[hv];have mz:=zh gT;clear hv gT;go_wp2
           go_ret
           exact⟨by rw[HE.out];rfl,gI.out _ (zu gF mz.out)⟩
          rw[decide_eq_false hmm] at hcn;have GQ:=zh (fun V (hV:Below w9.heap.size w9 V)=>(hV.cell (p:=⟨gN,p,none⟩) hbn).trans hcn);clear hcn;obtain⟨bE,oE,A9,n9,c9,eA,_,mF,_,_,_,_,_,u1,_⟩:=(HS.out W0 (gI.out _ (Below.refl _ _))).Bu Gm;subst eA;have hyb:=Za (Qh HSOK.out p hpl).1;obtain⟨hy1,hy2,_⟩:=hyb;obtain⟨yl,hyd⟩:∃yl,yl=(l.getD p default).len:=⟨_,rfl⟩;rw[←hyd] at u1 hy1 hy2 HLS;have HCY:=zh (fun V (hV:Below W0.heap.size W0 V)=>(hV.cell (p:=⟨bE,oE+p* 4+1,none⟩) mF).trans u1);clear u1 hyd;by_cases x4:yl=min lf (s.K* s.size)
          ·have hne:(yl !=min lf (s.K* s.size))=false:=(by simp[x4]);have HYL:=zh x4;clear x4;go_wp2_with fail
           refine Kw ROW gF Gm rfl GQ HCY hW1 hW2 hne rfl rfl rfl rfl rfl rfl ?_;intro v nk hv gT;simp only[qa,BG,BH,BI,BJ,Act.put,BC,BD,BF];rw[hv];have mz:=zh gT;clear hv gT;have HC10:=zh (zu gF mz.out);have HO10:=zh (HO9.out.all mz.out);have HR10:=zh ((mz.out.block _ (by have:=(zl HR9.out);omega)).trans HR9.out);obtain⟨_,_,eb,_,_,hcn,hfn⟩:=((HO10.out).sl (tg:=true)).Dn (k:=p) (by have:=uK.out;omega);injection eb with eb;injection eb with eb1 eb2 _;subst eb1;subst eb2
           rw[Nat.zero_add] at hcn hfn
           go_upto_region 35 with (fail)
           clear hcn hfn;have HC11:=zh (HC10.out.setCell (p:=⟨gN,p,none⟩) hgn (.bool true))
           have HO11:Hid (Silo.Bo 4 Cf (nk.setCell ⟨gN,p,none⟩ (.bool true)) W0.heap.size (fun _=>True) (some ⟨gN,0,none⟩) n0 n0 (xJ l (qr xs k++en.list.take (j+1)))):=zh (by
            rw[pA.out,←List.append_assoc,←HIDP.out,←Xh (by have:=uK.out;omega) pc.out]
            exact HO10.out.set1 rfl (by have:=uK.out;omega) ⟨rfl,trivial⟩)
           have HR11:=zh ((Below.heap_setCell nk ⟨gN,p,none⟩ (.bool true) g7 (by simp;omega)).trans HR10.out)
           have HN11:Hid (qr xs k++en.list.take (j+1)).Nodup:=zh (by
            rw[pA.out,←List.append_assoc]
            exact List.nodup_append.2 ⟨HNj.out,by simp,fun a ha b hb e=>by
             rw[List.mem_singleton.1 hb] at e;subst e
             exact hmm ha⟩)
           have HX11:Hid (xR (s.K* s.size) en.len (j+1)=lf - yl):=zh (by rw[Xi hW1,HLF.out,←HYL.out]);have HY11:Hid (zA (s.K* s.size) l en.list en.len=zA (s.K* s.size) l (en.list.drop (j+1)) (lf - yl)):=zh (by rw[HLS.out,if_pos HYL.out]);clear HO10 HR10 HC10 hmm HNj GQ;generalize (nk.setCell ⟨gN,p,none⟩ (.bool true))=ml at *;have y1:=HCY.out ml HC11.out;obtain⟨r0,r1⟩:=ROW.out ml HC11.out;have rW:=zc 0 r1 (.slice _ n0 c0) rfl;clear r0 r1;go_wp2
           (refine⟨?_,?measure⟩;(repeat apply Exists.intro);refine⟨?rel,rfl,rfl,rfl⟩)
           case rel=>exact⟨j+1,by omega,by go_num,by rw[HX11.out],HO11,HN11,by rw[HX11.out];exact HY11⟩
           case measure=>simp[intOf];omega
          have hne:(yl !=min lf (s.K* s.size))=true:=(by simp[x4]);have HE:Hid (R=false):=zh (HBAD.out (by rw[HLS.out,if_neg x4]));clear x4;go_wp2_with fail
          refine Kv ROW gF Gm rfl GQ HCY hW1 hW2 hne rfl rfl rfl rfl rfl rfl ?_;intro v nk hv gT;simp only[qa,BG,BH,BI,BJ,Act.put,BC,BD,BF];rw[hv];have mz:=zh gT;clear hv gT;go_wp2
          go_ret
          exact⟨by rw[HE.out];rfl,gI.out _ (zu gF mz.out)⟩
         obtain rfl:n4=j:=by omega
         have p6:Hid (zA (s.K* s.size) l en.list en.len=true):=zh (by
          rw[HLj.out,List.drop_of_length_le (by have:=ni.out;omega),yf.out,Xj hW1 hl0];rfl)
         have pB:=zh (fun j' (hj':j'<k+1)=>(show qI s l xs j'=true from by
          by_cases e:j'=k
          ·rw[e,jk,HTH.out,←HEN.out,p6.out];rfl
          exact HA.out j' (by omega)))
         have na:Hid (qr xs (k+1)=qr xs k++en.list.take n4):=zh (by rw[xf (by have:=rJ.out;omega),←HEN.out,List.take_of_length_le (by have:=ni.out;omega)]);have y3:=zc 3 HRj.out (.slice A4 n4 c4) rfl;go_wp2
         exact⟨⟨k+1,by omega,by go_num,HBj,by rw[na.out];exact HOj,pB,by rw[na.out];exact HNj⟩,by simp[intOf];omega⟩
     obtain rfl:n1=k:=by omega
     have HR4:Hid (R=zV gs):=zh (by rw[HR3.out,jZ (fun j hj=>HA.out j (by have:=rJ.out;omega)) (by rw[rJ.out];exact HND.out),decide_eq_true (by have:=rJ.out;omega)];rfl);clear HA HND HO HR3;obtain⟨r0,r1⟩:=ROW.out wo HB.out;have vG:=zc 1 r1 (.slice _ n1 c1) rfl;clear r0 r1;go_wp2_with fail
     clear vG
     go_loopw [16] (fun iv wr=>∃i:Nat,i≤n2∧iv=.int .i64 i∧Hid (Below W0.heap.size W0 wr)∧Hid (∀j,j<i→BL gs j=true)) (fun iv _=>n2 - (intOf iv).toNat)
     case atStart=>exact⟨0,Nat.zero_le _,rfl,HB,zh (fun j hj=>by omega)⟩
     case round=>
      clear HB;obtain⟨k,hk,rfl,HB,HA⟩:=hrel;by_cases hlt:k<n2
      ·obtain⟨bG,oG,eG,_,hbG,so1,so2,u0,u1,_⟩:=(HG.out W0 (gI.out _ (Below.refl _ _))).Cc hlt
       have hp:0<k→W0.cell? ⟨bG,oG+(k - 1)* 2,none⟩=some (.string (gs.getD (k - 1) default).name):=fun h0=>by
        obtain⟨b',off',e,_,_,_,_,hd,_⟩:=(HG.out W0 (gI.out _ (Below.refl _ _))).Cc (k:=k - 1) (by omega);rw[eG] at e;injection e with e;injection e with e1 e2 _;subst e1;subst e2
        exact hd
       subst eG;obtain⟨pn,Gm⟩:∃y,y=(gs.getD (k - 1) default).name:=⟨_,rfl⟩;rw[←Gm] at hp;have hat:BL gs k=(decide (1≤(gs.getD k default).name.size∧(gs.getD k default).name.size≤40∧(gs.getD k default).digest.size=32)&&(decide (k=0)||qo pn (gs.getD k default).name)):=(by rw[Gm];rfl);obtain⟨x,hx⟩:∃x,x=gs.getD k default:=⟨_,rfl⟩;rw[←hx] at hat u0 u1;have yX:=zh (fun V (hV:Below W0.heap.size W0 V)=>And.intro ((hV.cell (p:=⟨bG,oG+k* 2,none⟩) hbG).trans u0) ((hV.cell (p:=⟨bG,oG+k* 2+1,none⟩) hbG).trans u1));have nr:=zh hat;have mD:Hid (BL gs k=false→R=false):=zh (fun h=>by rw[HR4.out];exact Qc (k:=k) (by have:=yA.out;omega) h)
       have HAOK:Hid (BL gs k=true→∀j,j<k+1→BL gs j=true):=zh (fun h j hj=>by
        by_cases e:j=k
        ·rw[e];exact h
        exact HA.out j (by omega))
       clear hat hx Gm u0 u1 so1 so2;obtain⟨r0,r1⟩:=ROW.out wr HB.out;have vp:=zc 2 r1 (.slice _ n2 c2) rfl;clear r0 r1;go_wp2_with fail
       clear vp;refine EY ROW hlt hn40 HB rfl hbG hp yX nr rfl rfl rfl ?_;intro v w9 hv gW;simp only[qa,BG,BH,BI,BJ,Act.put,BC,BD,BF];rw[hv];have pP:=zt HB gW;clear hv gW HB hp yX;obtain⟨tt,htt⟩:∃tt,tt=BL gs k:=⟨_,rfl⟩;rw[←htt]
       cases tt with
       |false=>
        have HE:=zh (mD.out htt.symm);clear htt;go_wp2
        go_ret
        exact⟨by rw[HE.out];rfl,gI.out _ pP.out⟩
       |true=>
        have pB:=zh (HAOK.out htt.symm);clear htt;go_wp2
        exact⟨⟨k+1,by omega,by go_num,pP,pB⟩,by simp[intOf];omega⟩
      obtain rfl:n2=k:=by omega
      have HE:Hid (R=true):=zh (by rw[HR4.out,Qd (fun j hj=>HA.out j (by have:=yA.out;omega)),decide_eq_true (by have:=yA.out;omega)]);obtain⟨r0,r1⟩:=ROW.out wr HB.out;have vp:=zc 2 r1 (.slice _ n2 c2) rfl;clear r0 r1;go_wp2
      go_ret
      exact⟨by rw[HE.out];rfl,gI.out _ HB.out⟩
theorem Js {tg tg0 tg1 tg2:Bool}{S:Nat→Prop}{w:World}{A0 A1 A2:Option Addr}{n0 c0 n1 c1 n2 c2:Nat}{s:Shape}{b:Book}(hf:DK b) (h:Bq w S tg tg0 tg1 tg2 A0 n0 c0 A1 n1 c1 A2 n2 c2 b):
  Calls Tryz.prog 16 #[.agg #[.int .i64 s.K,.int .i64 s.M,.int .i64 s.size],.agg #[.slice A0 n0 c0,.slice A1 n1 c1,.slice A2 n2 c2,.int .i64 b.next]] w (Bf (.bool (zk s b)) w):=
 Jr (by have:=hf.st;have:=h.st.len;omega) hf.sl h.st h.th h.ta
end Go.Proofs.YtipecejghioicaaGreat
