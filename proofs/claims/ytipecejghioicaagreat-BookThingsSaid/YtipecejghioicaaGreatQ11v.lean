import Derived.Test.YtipecejghioicaaGreatQ13v
import Derived.Test.YtipecejghioicaaGreatQ14v
set_option maxHeartbeats 32000000
set_option maxRecDepth 100000
namespace Go.Proofs.YtipecejghioicaaGreat
open Go.RowKit Go.Silo
def ZP (s:Shape) (l:List Bb) (xs:List Entry) (gs:List Tag) (nx:Int):Bool:=decide (xs.length≤60)&&(decide (gs.length≤40)&&(decide (0≤nx∧nx≤1073741824)&&(qY s l&&qo s)))
theorem yq {s:Shape}{l:List Bb}{xs:List Entry}{gs:List Tag}{nx:Int}(h:ZP s l xs gs nx=true):
  qo s=true∧qY s l=true∧xs.length≤60∧gs.length≤40∧qD s ⟨l,xs,gs,nx⟩=(qF s nx l&&(qX s l xs&&zW gs)):=by
 unfold ZP at h;simp only[Bool.and_eq_true,decide_eq_true_eq] at h;obtain⟨h1,h2,h3,h4,h5⟩:=h;refine⟨h5,h4,h1,h2,?_⟩;unfold qD;simp only;rw[h5,decide_eq_true h3];rfl
theorem yL {s:Shape}{l:List Bb}{xs:List Entry}{gs:List Tag}{nx:Int}(h:ZP s l xs gs nx=false):qD s ⟨l,xs,gs,nx⟩=false:=by
 cases hb:qD s ⟨l,xs,gs,nx⟩ with
 |false=>rfl
 |true=>
  exfalso
  unfold qD at hb;simp only[Bool.and_eq_true,decide_eq_true_eq] at hb;obtain⟨h1,h2,h3,h4,h5⟩:=hb
  have hq:(qY s l&&qo s)=true:=by
   cases hq:(qY s l&&qo s) with
   |true=>rfl
   |false=>have:=ZZ (nx:=nx) hq;rw[h1,h3] at this;cases this
  have hx:xs.length≤60:=by unfold qX at h4;simp only[Bool.and_eq_true,decide_eq_true_eq] at h4;exact h4.2.2
  have hg:gs.length≤40:=by unfold zW at h5;simp only[Bool.and_eq_true,decide_eq_true_eq] at h5;exact h5.2
  unfold ZP at h;rw[decide_eq_true hx,decide_eq_true hg,decide_eq_true h2,hq] at h
  cases h
def zw (l:List Slot):List Slot:=l.filter (fun p=>decide (0≤p.disk))
theorem Kx {l:List Slot}{p:Slot}(h:0≤p.disk):zw (l++[p])=zw l++[p]:=by unfold zw;rw[List.filter_append];simp[h]
theorem Jy {l:List Slot}{p:Slot}(h:¬0≤p.disk):zw (l++[p])=zw l:=by unfold zw;rw[List.filter_append];simp[h]
theorem Ky (l:List Slot):(zw l).length≤l.length:=List.length_filter_le _ _
theorem Jz {l:List Slot}{p:Slot}(h:p∈zw l):p∈l:=(List.mem_filter.1 h).1
theorem JA {l:List Slot}{p:Slot}(h:p∈l) (hd:0≤p.disk):p∈zw l:=List.mem_filter.2 ⟨h,by simpa using hd⟩
theorem yr {α:Type}{l:List α}{p d:α}(h:p∈l):∃j,j<l.length∧l.getD j d=p:=by
 obtain⟨j,hj,e⟩:=List.getElem_of_mem h;exact⟨j,hj,by rw[List.getD_eq_getElem?_getD,List.getElem?_eq_getElem hj];exact e⟩
theorem Kz {α:Type}{l:List α}{j:Nat}{d:α}(h:j<l.length):l.getD j d∈l:=by
 rw[List.getD_eq_getElem?_getD,List.getElem?_eq_getElem h];exact List.getElem_mem h
theorem KA {w':World}{S:Nat→Prop}{base g n:Nat}(h:w'.ownsRow base 4 1 (.slice (some ⟨g,0,none⟩) n n) n (madeCells #[.bool false] n).toList):Silo.Bj 4 BU w' base S (some ⟨g,0,none⟩) n n (List.replicate n false):=by
 rw[toList_madeCells_one] at h;refine⟨List.replicate n (.bool false),h,by simp,fun k x hx=>?_⟩;have hk:k<n:=by have:=(List.getElem?_eq_some_iff.1 hx).1;simpa using this
 rw[List.getElem?_replicate,if_pos hk] at hx;injection hx with hx
 subst hx;refine⟨?_,trivial⟩;rw[show BU.sz=1 from rfl,Nat.mul_one,List.drop_replicate,List.take_replicate,show min 1 (n - k)=1 by omega];rfl
theorem JB (l:List Bb):xX l []=List.replicate l.length false:=by
 unfold xX;rw[List.eq_replicate_iff];exact⟨by simp,fun b hb=>by obtain⟨y,_,rfl⟩:=List.mem_map.1 hb;simp⟩
theorem JC {W:Int}{l:List Bb}{ys:List Int}{k:Nat}{left:Int}(hk:k<ys.length) (h:Dc l (ys.getD k 0)<0):zA W l (ys.drop k) left=false:=by rw[QY hk,Qx h]
theorem yu {W:Int}{l:List Bb}{ys:List Int}{k p:Nat}{left:Int}(hk:k<ys.length) (hp:p<l.length) (h:Dc l (ys.getD k 0)=(p:Int)):zA W l (ys.drop k) left=(if (l.getD p default).len=min left W then zA W l (ys.drop (k+1)) (left - (l.getD p default).len) else false):=by rw[QY hk,Ji hp h]
theorem KB {tg tg0 tg1 tg2:Bool}{S:Nat→Prop}{w:World}{A0 A1 A2:Option Addr}{n0 c0 n1 c1 n2 c2:Nat}{s:Shape}{l:List Bb}{xs:List Entry}{gs:List Tag}{nx:Int}(hn0:n0≤4000) (hfs:(qg l l.length).length≤1000000)
  (h0:Sl tg 86 (qc tg0) w S A0 n0 c0 l) (h1:Sl tg 90 (qj tg1) w S A1 n1 c1 xs) (h2:Sl tg2 94 Bu w S A2 n2 c2 gs):
  Calls Tryz.prog 16 #[.agg #[.int .i64 s.K,.int .i64 s.M,.int .i64 s.size],.agg #[.slice A0 n0 c0,.slice A1 n1 c1,.slice A2 n2 c2,.int .i64 nx]] w (Bh (.bool (qD s ⟨l,xs,gs,nx⟩)) w):=by
 obtain⟨ib,hib,hzb0,hzb1,hzb2⟩:=info_parts Tryz.DX;obtain⟨ic,hic,hzc0,hzc1,hzc2⟩:=info_parts Tryz.CL;have nZ:=zh h0.len;have nY:=zh h1.len;have uv:=zh h2.len;have hcap1:n1≤9223372036854775807:=Nat.le_trans h1.le h1.cap;have hcap2:n2≤9223372036854775807:=Nat.le_trans h2.le h2.cap;have HFS:=zh hfs;clear hfs;obtain⟨R,hR⟩:∃R,R=qD s ⟨l,xs,gs,nx⟩:=⟨_,rfl⟩;rw[←hR];have HR:=zh hR;clear hR;obtain⟨hd,hhd⟩:∃hd,hd=ZP s l xs gs nx:=⟨_,rfl⟩;have HHD:=zh hhd;clear hhd;have hal:Below w.heap.size w ((w.alloc (.cells #[.int .i64 s.K,.int .i64 s.M,.int .i64 s.size] 23)).alloc (.cells #[.slice A0 n0 c0,.slice A1 n1 c1,.slice A2 n2 c2,.int .i64 nx] 28)):=bz
 have mL:((w.alloc (.cells #[.int .i64 s.K,.int .i64 s.M,.int .i64 s.size] 23)).alloc (.cells #[.slice A0 n0 c0,.slice A1 n1 c1,.slice A2 n2 c2,.int .i64 nx] 28)).heap[w.heap.size]?=some (.cells #[.int .i64 s.K,.int .i64 s.M,.int .i64 s.size] 23 (0,0)):=by
  rw[Below.heap_alloc _ _ _ (by simp;try omega)];have:=heap_alloc_new w (.cells #[.int .i64 s.K,.int .i64 s.M,.int .i64 s.size] 23);simpa only[World.size_alloc] using this
 have hr1:((w.alloc (.cells #[.int .i64 s.K,.int .i64 s.M,.int .i64 s.size] 23)).alloc (.cells #[.slice A0 n0 c0,.slice A1 n1 c1,.slice A2 n2 c2,.int .i64 nx] 28)).heap[w.heap.size+1]?=some (.cells #[.slice A0 n0 c0,.slice A1 n1 c1,.slice A2 n2 c2,.int .i64 nx] 28 (0,0)):=by
  have:=heap_alloc_new (w.alloc (.cells #[.int .i64 s.K,.int .i64 s.M,.int .i64 s.size] 23)) (.cells #[.slice A0 n0 c0,.slice A1 n1 c1,.slice A2 n2 c2,.int .i64 nx] 28);simpa only[World.size_alloc] using this
 have hz:w.heap.size+1<((w.alloc (.cells #[.int .i64 s.K,.int .i64 s.M,.int .i64 s.size] 23)).alloc (.cells #[.slice A0 n0 c0,.slice A1 n1 c1,.slice A2 n2 c2,.int .i64 nx] 28)).heap.size:=by simp
 have HS:=zh (fun W (hW:Below w.heap.size w W)=>h0.all hW);clear h0;have HT:=zh (fun W (hW:Below w.heap.size w W)=>h1.all hW);clear h1;have HG:=zh (fun W (hW:Below w.heap.size w W)=>h2.all hW);clear h2
 go_enter Tryz.func16,Tryz.ntmps16
 go_upto_region 1 with (fail)
 generalize ((w.alloc (.cells #[.int .i64 s.K,.int .i64 s.M,.int .i64 s.size] 23)).alloc (.cells #[.slice A0 n0 c0,.slice A1 n1 c1,.slice A2 n2 c2,.int .i64 nx] 28))=W0 at *;have gm:=zh (fun V (hV:Below W0.heap.size W0 V)=>hal.trans (hV.mono hal.size));clear hal;have ROW:=zh (fun V (hV:Below W0.heap.size W0 V)=>(show V.heap[w.heap.size]?=some (.cells #[.int .i64 s.K,.int .i64 s.M,.int .i64 s.size] 23 (0,0))∧V.heap[w.heap.size+1]?=some (.cells #[.slice A0 n0 c0,.slice A1 n1 c1,.slice A2 n2 c2,.int .i64 nx] 28 (0,0)) from⟨(hV.block _ (by omega)).trans mL,(hV.block _ (by omega)).trans hr1⟩));clear mL hr1;have hz1:w.heap.size+1<W0.heap.size:=by omega
 go_cut [45] from 17 (fun t V=>t=.bool (!hd)∧Hid (Below W0.heap.size W0 V))
 case first=>
  obtain⟨r0,r1⟩:=ROW.out W0 (Below.refl _ _);obtain⟨pX,ut,ui,vk⟩:=zC r1;clear r0 r1;have HHE:Hid (hd=(decide (n1≤60)&&(decide (n2≤40)&&(decide (0≤nx∧nx≤1073741824)&&(qY s l&&qo s))))):=zh (by rw[HHD.out];unfold ZP;rw[nY.out,uv.out]);by_cases g1:60<n1
  ·have HF:Hid (hd=false):=zh (by rw[HHE.out,decide_eq_false (by omega:¬n1≤60)];rfl);go_wp2
   go_meet
   case rel=>exact⟨by rw[HF.out];rfl,zh (Below.refl _ _)⟩
  have HHE2:Hid (hd=(decide (n2≤40)&&(decide (0≤nx∧nx≤1073741824)&&(qY s l&&qo s)))):=zh (by rw[HHE.out,decide_eq_true (by omega:n1≤60)];rfl);by_cases g2:40<n2
  ·have HF:Hid (hd=false):=zh (by rw[HHE2.out,decide_eq_false (by omega:¬n2≤40)];rfl);go_wp2
   go_meet
   case rel=>exact⟨by rw[HF.out];rfl,zh (Below.refl _ _)⟩
  have HHE3:Hid (hd=(decide (0≤nx∧nx≤1073741824)&&(qY s l&&qo s))):=zh (by rw[HHE2.out,decide_eq_true (by omega:n2≤40)];rfl);go_wp2_with fail
  refine(Ci (n:=nx) (m:=1073741824)).mono ?_;rintro e w1 ⟨rfl,hb1⟩;have gG:=zh hb1;clear hb1 pX ut ui vk;generalize decide (0≤nx∧nx≤1073741824)=d1 at *
  cases d1 with
  |false=>
   have HF:Hid (hd=false):=zh HHE3.out;go_wp2
   go_meet
   case rel=>exact⟨by rw[HF.out];rfl,gG⟩
  |true=>
   obtain⟨r0,r1⟩:=ROW.out w1 gG.out;obtain⟨gW,j6,ma⟩:=xQ r0;have pX:=zc 0 r1 (.slice _ n0 c0) rfl;clear r0 r1;go_wp2_with fail
   refine(ZY (s:=s) (HS.out _ (gm.out _ gG.out))).mono ?_;rintro e w2 ⟨rfl,hb2⟩;have gM:=zt gG hb2;clear hb2 gG gW j6 ma pX;generalize (qY s l&&qo s)=q at *;have HF:Hid (hd=q):=zh HHE3.out;go_wp2
   go_meet
   case rel=>exact⟨by rw[HF.out,decide_eq_false (by omega:¬(4000:Int)<(n0:Int)),decide_eq_false (by omega:¬(60:Int)<(n1:Int)),decide_eq_false (by omega:¬(40:Int)<(n2:Int))];rfl,gM⟩
 case rest=>
  rename World=>wc
  obtain⟨rfl,mr⟩:=hcut
  cases hd with
  |false=>
   have HE:Hid (R=false):=zh (HR.out.trans (yL HHD.out.symm));go_wp2
   go_ret
   exact⟨by rw[HE.out];rfl,gm.out _ mr.out⟩
  |true=>
   obtain⟨hsh,hsb,hx60,hg40,hRe⟩:=yq HHD.out.symm;obtain⟨k1,k2,m1,m2,s1,s2⟩:=Kl hsh;have hW1:1≤s.K* s.size:=(by have:=Int.mul_le_mul k1 s1 (by omega) (by omega);omega);have hW2:s.K* s.size≤960:=(by have:=Int.mul_le_mul k2 s2 (by omega) (by omega);omega);have un:=zh hsh;clear hsh;have Mh:=zh hsb;clear hsb;have hn60:n1≤60:=(by have:=nY.out;omega);have hn40:n2≤40:=(by have:=uv.out;omega);have Mi:=zh (HR.out.trans hRe);clear hRe HR HHD hx60 hg40;clear k1 k2 m1 m2 s1 s2;go_wp2_with fail
   go_loopw [5,6] (fun tv iv wr=>∃k:Nat,∃A c,k≤n0∧iv=.int .i64 k∧tv=.slice A (zw (qg l k)).length c∧Hid (Silo.Bj 88 qr wr W0.heap.size (fun _=>True) A (zw (qg l k)).length c (zw (qg l k)))∧Hid (Below W0.heap.size W0 wr)∧Hid (∀j,j<k→(l.getD j default).id<nx)∧Hid (zP (qg l k)=true)) (fun _ iv _=>n0 - (intOf iv).toNat)
   case atStart=>exact⟨0,none,0,Nat.zero_le _,rfl,by rfl,zh Silo.Bj.Bn,mr,zh (fun j hj=>by omega),zh (by simp[qg,zP])⟩
   case round=>
    rename World=>wo
    clear mr;obtain⟨k,A,c,hk,rfl,rfl,HO,HB,HI,HN⟩:=hrel;have hzo1:=Nat.lt_of_lt_of_le hz1 HB.out.size;by_cases hlt:k<n0
    ·obtain⟨bE,oE,A3,n3,c3,eA,_,mo,_,_,_,hp3,u0,_,_,u3,_⟩:=(HS.out W0 (gm.out _ (Below.refl _ _))).Br hlt;subst eA;have mg:=zh hp3.len;have ux:n3≤9223372036854775807:=Nat.le_trans hp3.le hp3.cap;have vN:=zh (fun V (hV:Below W0.heap.size W0 V)=>hp3.all hV);clear hp3;have HU:=zh (fun V (hV:Below W0.heap.size W0 V)=>And.intro ((hV.cell (p:=⟨bE,oE+k* 4,none⟩) mo).trans u0) ((hV.cell (p:=⟨bE,oE+k* 4+3,none⟩) mo).trans u3));clear u0 u3;have hbo:=Nat.lt_of_lt_of_le mo HB.out.size;have HST:=zh (Qm (nx:=nx) Mh.out (k:=k) (by have:=nZ.out;omega))
     have GA:Hid ((qg l k).length+(l.getD k default).place.length≤1000000):=zh (by
      obtain⟨r,hr⟩:=kx (l:=l) (k+1);have h2:=HFS.out;rw[hr,xb (by have:=nZ.out;omega),List.length_append,List.length_append] at h2
      omega)
     obtain⟨x,hx⟩:∃x,x=l.getD k default:=⟨_,rfl⟩;rw[←hx] at mg vN HU HST GA;have GY:=zh hx;clear hx;obtain⟨r0,r1⟩:=ROW.out wo HB.out;have pX:=zc 0 r1 (.slice _ n0 c0) rfl;have vk:=zc 3 r1 (.int .i64 nx) rfl;clear r0 r1;obtain⟨u0,_⟩:=HU.out wo HB.out;by_cases cB:nx≤x.id
     ·have HE:Hid (R=false):=zh (by rw[Mi.out,ke (k:=k) (by have:=nZ.out;omega) (HST.out.trans (decide_eq_false (by omega)))];rfl);go_wp2_with fail
      have px:=xh wo;refine qZ (by kernel_rfl) (by kernel_rfl) ?_
      repeat (go_big_quiet_step (fail))
      refine wpQuiet_nil ?_;rintro _ ⟨X,rfl⟩;have mO:=zh (HB.out.trans ((zr wo X).mono HB.out.size));clear px pX vk u0;generalize wo.ext X=w3 at *;go_wp2
      go_ret
      exact⟨by rw[HE.out];rfl,gm.out _ mO.out⟩
     have Gz:Hid (∀j,j<k+1→(l.getD j default).id<nx):=zh (fun j hj=>by
      rcases Nat.lt_or_ge j k with h|h
      ·exact HI.out j h
      obtain rfl:j=k:=by omega
      rw[←GY.out];omega)
     go_wp2_with fail
     have px:=xh wo;refine qZ (by kernel_rfl) (by kernel_rfl) ?_
     repeat (go_big_quiet_step (fail))
     refine wpQuiet_nil ?_;rintro _ ⟨X,rfl⟩;have mO:=zh (HB.out.trans ((zr wo X).mono HB.out.size));have uT:=zh (HO.out.all (zr wo X));clear px pX vk u0 HO HB;generalize wo.ext X=w3 at *;go_wp2_with fail
     go_loopw [5,7] (fun tv jv wr=>∃j:Nat,∃A c,j≤n3∧jv=.int .i64 j∧tv=.slice A (zw (qg l k++x.place.take j)).length c∧Hid (Silo.Bj 88 qr wr W0.heap.size (fun _=>True) A (zw (qg l k++x.place.take j)).length c (zw (qg l k++x.place.take j)))∧Hid (Below W0.heap.size W0 wr)∧Hid (zP (qg l k++x.place.take j)=true)) (fun _ jv _=>n3 - (intOf jv).toNat)
     case atStart=>exact⟨0,A,c,Nat.zero_le _,rfl,by simp,by simpa using uT,mO,by simpa using HN⟩
     case round=>
      rename World=>wj
      clear uT mO HN;obtain⟨j,A',c',hj,rfl,rfl,HOj,HBj,HNj⟩:=hrel;by_cases hjl:j<n3
      ·obtain⟨b3,o3,e3,_,hb3,g1,g2,v0,v1,_⟩:=(vN.out wj HBj.out).C8 hjl;subst e3;have Gw:j<x.place.length:=(by have:=mg.out;omega);have rL:x.place.take (j+1)=x.place.take j++[x.place.getD j default]:=(by rw[List.take_add_one,List.getElem?_eq_getElem Gw,List.getD_eq_getElem?_getD,List.getElem?_eq_getElem Gw];rfl);have Mb:=zh (fun(hd:0≤(x.place.getD j default).disk) (hm:x.place.getD j default∈qg l k++x.place.take j)=>jL (s:=s) (nx:=nx) (l:=l) (k:=k) (j:=j) (by have:=nZ.out;omega) (by rw[←GY.out];exact Gw) (by rw[←GY.out];exact hd) (by rw[←GY.out];exact hm));have py:=zh rL;clear rL
       have hTl:(zw (qg l k++x.place.take j)).length≤1000000:=by
        have h1:=Ky (qg l k++x.place.take j);have h2:=GA.out;rw[List.length_append,List.length_take] at h1;omega
       generalize x.place.getD j default=p at *;have HGP:=zh (And.intro g1 g2);clear g1 g2;obtain⟨r0,r1⟩:=ROW.out wj HBj.out;have pX:=zc 0 r1 (.slice _ n0 c0) rfl;clear r0 r1;obtain⟨_,u3⟩:=HU.out wj HBj.out
       go_upto_region 13 with (fail)
       have gF:Below wj.heap.size wj (wj.alloc (.cells #[.int .i64 p.disk,.int .i64 p.pos] 88)):=(Below.refl _ _).alloc (Nat.le_refl _) _;have hrow:=heap_alloc_new wj (.cells #[.int .i64 p.disk,.int .i64 p.pos] 88);have hzl:wj.heap.size<(wj.alloc (.cells #[.int .i64 p.disk,.int .i64 p.pos] 88)).heap.size:=(by simp);have Gx:=zt HBj gF;have HOp:=zh (HOj.out.all gF);clear gF v0 v1 u3 pX HOj HBj;generalize (wj.alloc (.cells #[.int .i64 p.disk,.int .i64 p.pos] 88))=wp at *;generalize wj.heap.size=g9 at *;have ROWP:=zh (fun V (hV:Below wp.heap.size wp V)=>(hV.block _ hzl).trans hrow);clear hrow;have z0:=(zo 0 (ROWP.out wp (Below.refl _ _))).trans (show _=some (.int .i64 p.disk:Value) from rfl);by_cases uF:0≤p.disk
       ·have Mj:Hid (zw (qg l k++x.place.take (j+1))=zw (qg l k++x.place.take j)++[p]):=zh (by rw[py.out,←List.append_assoc,Kx uF]);have HMT:=zh (fun(hm:p∈zw (qg l k++x.place.take j))=>Mb.out uF (Jz hm));clear Mb
        have pB:=zh (fun(hm:p∉zw (qg l k++x.place.take j))=>(show zP (qg l k++x.place.take (j+1))=true from by
         rw[py.out,←List.append_assoc]
         exact jg HNj.out (fun hd h=>hm (JA h hd))))
        clear HNj py;generalize zw (qg l k++x.place.take j)=TT at *;have mW:=zh HOp.out.len;go_wp2_with fail
        clear z0
        go_loopw [9] (fun qv wr=>∃q:Nat,q≤TT.length∧qv=.int .i64 q∧Hid (Below wp.heap.size wp wr)∧Hid (∀i,i<q→TT.getD i default≠p)) (fun qv _=>TT.length - (intOf qv).toNat)
        case atStart=>exact⟨0,Nat.zero_le _,rfl,zh (Below.refl _ _),zh (fun i hi=>by omega)⟩
        case round=>
         rename World=>wq
         obtain⟨q,hq,rfl,HBq,HQ⟩:=hrel;have zp:=zc 0 (ROWP.out wq HBq.out) (.int .i64 p.disk) rfl;have zq:=zc 1 (ROWP.out wq HBq.out) (.int .i64 p.pos) rfl;by_cases hql:q<TT.length
         ·obtain⟨bt,ot,et,_,hbt,_,_,y0,y1,_⟩:=((HOp.out.all HBq.out).sl (tg:=true)).C8 hql;subst et;obtain⟨t,ht⟩:∃t,t=TT.getD q default:=⟨_,rfl⟩;rw[←ht] at y0 y1;have HTD:=zh ht;clear ht;by_cases htp:t=p
          ·have HE:Hid (R=false):=zh (by rw[Mi.out,HMT.out (by rw[←htp,HTD.out];exact Kz hql)];rfl);subst htp;have hq:∀W:World,(Op.equalIn 10000 88 (.agg #[.int .i64 t.disk,.int .i64 t.pos]) (.agg #[.int .i64 t.disk,.int .i64 t.pos])).run Tryz.prog W=.ok true W:=fun W=>by rw[kF];simp
           have hqg:=kG;have MG:=zh (fun V (hV:Below wq.heap.size wq V)=>gm.out V (Gx.out.trans ((zu HBq hV).mono Gx.out.size)));go_wp2
           go_quiet (fail)
           go_wp2
           go_ret
           exact⟨by rw[HE.out];rfl,MG.out _ (by first|exact below_drewN (Below.refl _ _) _|exact Below.refl _ _)⟩
          have hq:∀W:World,(Op.equalIn 10000 88 (.agg #[.int .i64 t.disk,.int .i64 t.pos]) (.agg #[.int .i64 p.disk,.int .i64 p.pos])).run Tryz.prog W=.ok false W:=fun W=>by rw[kF,decide_eq_false htp]
          have hqg:=kG
          have nB:Hid (∀i,i<q+1→TT.getD i default≠p):=zh (fun i hi=>by
           rcases Nat.lt_or_ge i q with h|h
           ·exact HQ.out i h
           obtain rfl:i=q:=by omega
           rw[←HTD.out];exact htp)
          clear htp;have MG:=zh (fun V (hV:Below wq.heap.size wq V)=>HBq.out.trans (hV.mono HBq.out.size));go_wp2
          go_quiet (fail)
          go_wp2
          exact⟨⟨q+1,by omega,by go_num,zh (MG.out _ (by first|exact below_drewN (Below.refl _ _) _|exact Below.refl _ _)),nB⟩,by simp[intOf];omega⟩
         obtain rfl:q=TT.length:=by omega
         have GL:Hid (zP (qg l k++x.place.take (j+1))=true):=zh (pB.out (fun hm=>by
          obtain⟨i,hi,e⟩:=yr (d:=default) hm
          exact HQ.out i hi e))
         have HOq:=zh (HOp.out.all HBq.out);have gT:=zh (zu Gx HBq.out);obtain⟨gp1,gp2⟩:=HGP.out;go_wp2_with (at_builtin;refine qk rfl _ _ 59 rfl ic (.agg #[.int .i64 0,.int .i64 0]) 16 Tryz.underlying59 hic hzc0 hzc1 hzc2 rfl (by decide) rfl (HOq.out.frame (Agree.alloc _ _ _) (by simp)) wq.heap.size 88 1 _ p rfl (heap_alloc_new _ _) ⟨rfl,gp1,gp2⟩ (by omega) (by omega) (by have:=gT.out.size;simp;omega) ?_)
         intro A2 M2 w2 hown2 hg2 _;have pJ:=zh hown2;clear hown2;have gM:=zh (((gT.out.alloc gT.out.size _).grown hg2 (by have:=gT.out.size;simp;omega) (fun k hk=>(HOq.out.lt k hk).1)));clear hg2;clear zp zq;go_wp2
         exact⟨⟨j+1,A2,M2,by omega,by go_num,by rw[Mj.out,List.length_append];rfl,by rw[Mj.out,List.length_append];exact pJ,gM,GL⟩,by simp[intOf];omega⟩
       have Mj:Hid (zw (qg l k++x.place.take (j+1))=zw (qg l k++x.place.take j)):=zh (by rw[py.out,←List.append_assoc,Jy uF])
       have GL:Hid (zP (qg l k++x.place.take (j+1))=true):=zh (by
        rw[py.out,←List.append_assoc]
        exact jg HNj.out (fun h=>absurd h uF))
       go_wp2
       exact⟨⟨j+1,A',c',by omega,by go_num,by rw[Mj.out],by rw[Mj.out];exact HOp,Gx,GL⟩,by simp[intOf];omega⟩
      obtain rfl:j=n3:=by omega
      have mR:Hid (qg l (k+1)=qg l k++x.place.take j):=zh (by rw[xb (by have:=nZ.out;omega),←GY.out,List.take_of_length_le (by have:=mg.out;omega)]);obtain⟨r0,r1⟩:=ROW.out wj HBj.out;have pX:=zc 0 r1 (.slice _ n0 c0) rfl;clear r0 r1;obtain⟨_,u3⟩:=HU.out wj HBj.out;go_wp2
      (refine⟨?_,?measure⟩;(repeat apply Exists.intro);refine⟨?rel,rfl⟩)
      case rel=>exact⟨k+1,A',c',by omega,by go_num,by rw[mR.out],by rw[mR.out];exact HOj,HBj,Gz,by rw[mR.out];exact HNj⟩
      case measure=>simp[intOf];omega
    obtain rfl:n0=k:=by omega
    have mP:qF s nx l=true:=kg (fun j hj=>by rw[Qm Mh.out hj];exact decide_eq_true (HI.out j (by have:=nZ.out;omega))) (by rw[nZ.out];exact HN.out);have nX:=zh (jn mP);have HSOK:=zh mP;have HR3:Hid (R=(qX s l xs&&zW gs)):=zh (by rw[Mi.out,mP];rfl);clear mP Mi HI HN HO Mh HFS;obtain⟨r0,r1⟩:=ROW.out wo HB.out;have pX:=zc 0 r1 (.slice _ n0 c0) rfl;clear r0 r1;go_wp2_with (at_make;refine wpList_make_full _ rfl _ _ 30 rfl W0.heap.size 4 ib (.bool false) 1 Tryz.underlying30 hib hzb0 hzb1 .i64 .i64 _ _ n0 rfl rfl rfl rfl (by rw[hzb2];omega) (by unfold maxLen;omega) HB.out.size ?_)
    intro wm hown hgm;clear pX
    have HON:Hid (Silo.Bj 4 BU wm W0.heap.size (fun _=>True) (some ⟨wo.heap.size,0,none⟩) n0 n0 (xX l (qp xs 0))):=zh (by
     rw[show qp xs 0=[] from rfl,JB,nZ.out]
     exact KA hown)
    have HBm:=zh (HB.out.grown hgm HB.out.size (fun r hr=>by cases hr));have hgn:W0.heap.size≤wo.heap.size:=HB.out.size;clear hown hgm hzo1 HB;generalize wo.heap.size=gN at *;go_wp2_with fail
    go_loopw [11] (fun iv wr=>∃i:Nat,i≤n1∧iv=.int .i64 i∧Hid (Below W0.heap.size W0 wr)∧Hid (Silo.Bj 4 BU wr W0.heap.size (fun _=>True) (some ⟨gN,0,none⟩) n0 n0 (xX l (qp xs i)))∧Hid (∀j,j<i→qH s l xs j=true)∧Hid (qp xs i).Nodup) (fun iv _=>n1 - (intOf iv).toNat)
    case atStart=>exact⟨0,Nat.zero_le _,rfl,HBm,HON,zh (fun j hj=>by omega),zh (by simp[qp])⟩
    case round=>
     rename World=>wo
     clear HBm HON;obtain⟨k,hk,rfl,HB,HO,HA,HND⟩:=hrel;by_cases hlt:k<n1
     ·obtain⟨bT,oT,A4,n4,c4,eT,_,hbT,so,il,hl4,u0,u1,u2,u3,_⟩:=(HT.out W0 (gm.out _ (Below.refl _ _))).BH hlt
      have hp:0<k→W0.cell? ⟨bT,oT+(k - 1)* 4,none⟩=some (.string (xs.getD (k - 1) default).digest):=fun h0=>by
       obtain⟨b',off',A',n',c',e,_,_,_,_,_,hd,_⟩:=(HT.out W0 (gm.out _ (Below.refl _ _))).BH (k:=k - 1) (by omega);rw[eT] at e;injection e with e;injection e with e1 e2 _;subst e1;subst e2
       exact hd
      subst eT;have mV:=hl4.len;have MC:n4≤9223372036854775807:=Nat.le_trans hl4.le hl4.cap;have HP4:=zh (fun V (hV:Below W0.heap.size W0 V)=>hl4.all hV);clear hl4;obtain⟨pd,uF⟩:∃y,y=(xs.getD (k - 1) default).digest:=⟨_,rfl⟩;rw[←uF] at hp;have hat:qL s xs k=(decide ((xs.getD k default).digest.size=32)&&((decide (k=0)||ql pd (xs.getD k default).digest)&&(decide (0≤(xs.getD k default).len)&&(decide ((xs.getD k default).len≤2000)&&decide ((xs.getD k default).list.length=zK s (xs.getD k default).len))))):=(by rw[uF];rfl);rw[mV] at hat;have mg:=zh mV;clear mV;obtain⟨en,hen⟩:∃en,en=xs.getD k default:=⟨_,rfl⟩;rw[←hen] at hat so il mg HP4 u0 u1 u2;have HEN:=zh hen;clear hen uF;have mU:=zh hat;clear hat;have HIL:=zh il;clear il so;have v0:=(HB.out.cell (p:=⟨bT,oT+k* 4,none⟩) hbT).trans u0;have v1:=(HB.out.cell (p:=⟨bT,oT+k* 4+1,none⟩) hbT).trans u1;have v2:=(HB.out.cell (p:=⟨bT,oT+k* 4+2,none⟩) hbT).trans u2;have v3:=(HB.out.cell (p:=⟨bT,oT+k* 4+3,none⟩) hbT).trans u3;clear u0 u1 u2 u3;obtain⟨r0,r1⟩:=ROW.out wo HB.out;have ut:=zc 1 r1 (.slice _ n1 c1) rfl;clear r0 r1
      go_upto_region 25 with (fail)
      have gF:Below wo.heap.size wo (wo.alloc (.cells #[.string en.digest,.int .i64 en.len,.bool en.Bv,.slice A4 n4 c4] 90)):=(Below.refl _ _).alloc (Nat.le_refl _) _;have hrow:=heap_alloc_new wo (.cells #[.string en.digest,.int .i64 en.len,.bool en.Bv,.slice A4 n4 c4] 90);have hzl:wo.heap.size<(wo.alloc (.cells #[.string en.digest,.int .i64 en.len,.bool en.Bv,.slice A4 n4 c4] 90)).heap.size:=(by simp);have mf:=zt HB gF;have HO4:=zh (HO.out.all gF);have hgg:gN<wo.heap.size:=(HO.out.lt gN rfl).2;clear gF v0 v1 v2 v3 ut HO HB;generalize (wo.alloc (.cells #[.string en.digest,.int .i64 en.len,.bool en.Bv,.slice A4 n4 c4] 90))=w4 at *;generalize wo.heap.size=g7 at *;have gv:=zh (fun V (hV:Below w4.heap.size w4 V)=>(hV.block _ hzl).trans hrow);clear hrow
      go_cut [152] from 105 to 204 (fun t V=>t=.bool (!qL s xs k)∧Hid (Below w4.heap.size w4 V))
      case first=>
       clear HA HND HO4;go_wp2_with fail
       refine I8 ROW un hlt hn60 mf rfl hbT hp gv mU rfl rfl rfl rfl rfl ?_;intro v w9 hv mM;simp only[qb,BC,BD,BF,BG,Act.put,Bz,BA,BB];rw[hv];have gD:=zh mM;clear hv mM;go_wp2
       go_meet
       case rel=>exact⟨rfl,gD⟩
      case rest=>
       rename World=>wc2
       obtain⟨rfl,mr⟩:=hcut;have mA:=zh (zu mf mr.out);have HO5:=zh (HO4.out.all mr.out);have pM:=zh (gv.out wc2 mr.out);have hg7c:=Nat.lt_of_lt_of_le hzl mr.out.size;clear HO4 gv mf mr hp;obtain⟨th,hth⟩:∃th,th=qL s xs k:=⟨_,rfl⟩;rw[←hth]
       cases th with
       |false=>
        have HE:Hid (R=false):=zh (by rw[HR3.out,jG (k:=k) (by have:=nY.out;omega) (by rw[jH,←hth];rfl)];rfl);clear hth;go_wp2
        go_ret
        exact⟨by rw[HE.out];rfl,gm.out _ mA.out⟩
       |true=>
        have hth2:=hth;rw[mU.out] at hth2;have hth3:=hth2.symm;simp only[Bool.and_eq_true,decide_eq_true_eq] at hth3;obtain⟨_,_,hl0,hl1,rf⟩:=hth3;have HTH:=zh hth.symm;have yR:=zh rf;clear hth hth2 rf mU;have HBAD:Hid (zA (s.K* s.size) l en.list en.len=false→R=false):=zh (fun h=>by rw[HR3.out,jG (k:=k) (by have:=nY.out;omega) (by rw[jH,HTH.out,←HEN.out,h];rfl)];rfl);have y1:=zc 1 pM.out (.int .i64 en.len) rfl;go_wp2_with fail
        clear y1
        go_loopw [13,14] (fun lv jv wr=>∃j:Nat,j≤n4∧jv=.int .i64 j∧lv=.int .i64 (ji (s.K* s.size) en.len j)∧Hid (Below W0.heap.size W0 wr)∧Hid (wr.heap[g7]?=some (.cells #[.string en.digest,.int .i64 en.len,.bool en.Bv,.slice A4 n4 c4] 90 (0,0)))∧Hid (Silo.Bj 4 BU wr W0.heap.size (fun _=>True) (some ⟨gN,0,none⟩) n0 n0 (xX l (qp xs k++en.list.take j)))∧Hid (qp xs k++en.list.take j).Nodup∧Hid (zA (s.K* s.size) l en.list en.len=zA (s.K* s.size) l (en.list.drop j) (ji (s.K* s.size) en.len j))) (fun _ jv _=>n4 - (intOf jv).toNat)
        case atStart=>exact⟨0,Nat.zero_le _,rfl,by rw[QX hl0],mA,pM,by simpa using HO5,by simpa using HND,zh (by rw[QX hl0];rfl)⟩
        case round=>
         rename World=>wj
         clear mA pM HO5 HND;obtain⟨j,hj,rfl,rfl,HBj,HRj,HOj,HNj,HLj⟩:=hrel;have Hv:g7<wj.heap.size:=(zl HRj.out);by_cases hjl:j<n4
         ·obtain⟨b4,o4,e4,_,hb4,i4,x4,_⟩:=(HP4.out W0 (Below.refl _ _)).BZ hjl;subst e4;have Gw:j<en.list.length:=(by have:=mg.out;omega);have rL:en.list.take (j+1)=en.list.take j++[en.list.getD j 0]:=(by rw[List.take_add_one,List.getElem?_eq_getElem Gw,List.getD_eq_getElem?_getD,List.getElem?_eq_getElem Gw];rfl);have Mb:=zh (fun(hm:en.list.getD j 0∈qp xs k++en.list.take j)=>jQ (s:=s) (l:=l) (xs:=xs) (k:=k) (j:=j) (by have:=nY.out;omega) (by rw[←HEN.out];exact Gw) (by rw[←HEN.out];exact hm));obtain⟨id,hid⟩:∃id,id=en.list.getD j 0:=⟨_,rfl⟩;rw[←hid] at rL Mb x4;have HIDD:=zh hid;clear hid i4;have py:=zh rL;clear rL;have Md:=zh (fun V (hV:Below W0.heap.size W0 V)=>(hV.cell (p:=⟨b4,o4+j,none⟩) hb4).trans x4);clear x4;obtain⟨lf,H2⟩:∃lf,lf=ji (s.K* s.size) en.len j:=⟨_,rfl⟩;have hlf0:0≤lf:=by rw[H2];unfold ji;omega
          have hlf1:lf≤2000:=by
           have h1:0≤(j:Int)* (s.K* s.size):=Int.mul_nonneg (by omega) (by omega);rw[H2];unfold ji;generalize (j:Int)* (s.K* s.size)=q at *;omega
          rw[←H2] at HLj⊢;have HLF:=zh H2.symm;clear H2;have y3:=zc 3 HRj.out (.slice (some ⟨b4,o4,none⟩) n4 c4) rfl;go_wp2_with fail
          clear y3;have GN:=zh (fun W (hW:Below W0.heap.size W0 W)=>HS.out W (gm.out _ hW));refine I9 ROW hjl HBj GN Hv HRj Md rfl rfl rfl rfl ?_;intro v w9 hv mM;simp only[qb,BC,BD,BF,BG,Act.put,Bz,BA,BB];rw[hv];have gD:=zt HBj mM;have HO9:=zh (HOj.out.all mM);have HR9:=zh ((mM.block _ Hv).trans HRj.out);clear hv mM GN HOj HRj Md;by_cases hav:Dc l id<0
          ·have HE:Hid (R=false):=zh (HBAD.out (by rw[HLj.out];exact JC (by omega) (by rw[←HIDD.out];exact hav)));generalize Dc l id=av at *;go_wp2_with fail
           refine yH hav rfl rfl ?_;intro v MH hv pk;simp only[qb,BC,BD,BF,BG,Act.put,Bz,BA,BB];rw[hv];have rq:=zh pk;clear hv pk;go_wp2
           go_ret
           exact⟨by rw[HE.out];rfl,gm.out _ (zu gD rq.out)⟩
          obtain⟨p,hpl,hpe,hpi⟩:∃p:Nat,p<l.length∧Dc l id=(p:Int)∧(l.getD p default).id=id:=by
           rcases jY l id with ⟨h1,_⟩|⟨p,h1,h2,h3,_⟩
           ·omega
           exact⟨p,h1,h2,h3⟩
          have GP:p<n0:=(by have:=nZ.out;omega);have HIDP:=zh hpi;obtain⟨_,_,eb,_,hbn,hcn,_⟩:=((HO9.out).sl (tg:=true)).DT GP;injection eb with eb;injection eb with eb1 eb2 _;subst eb1;subst eb2
          rw[Nat.zero_add,Kk hpl,hpi] at hcn;have HLS:=zh (HLj.out.trans (yu (by omega) hpl (by rw[←HIDD.out];exact hpe)));rw[hpe];clear hpe hpi hav;have hk0p:¬(p:Int)<0:=(by omega);by_cases hmm:id∈qp xs k++en.list.take j
          ·have HE:Hid (R=false):=zh (by rw[HR3.out,Mb.out hmm];rfl);rw[decide_eq_true hmm] at hcn;have Hw:=zh (fun V (hV:Below w9.heap.size w9 V)=>(hV.cell (p:=⟨gN,p,none⟩) hbn).trans hcn);clear hcn hmm;go_wp2_with fail
           refine yI GP Hw rfl rfl rfl ?_;intro v MH hv pk;simp only[qb,BC,BD,BF,BG,Act.put,Bz,BA,BB];rw[hv];have rq:=zh pk;clear hv pk;go_wp2
           go_ret
           exact⟨by rw[HE.out];rfl,gm.out _ (zu gD rq.out)⟩
          rw[decide_eq_false hmm] at hcn;have Hw:=zh (fun V (hV:Below w9.heap.size w9 V)=>(hV.cell (p:=⟨gN,p,none⟩) hbn).trans hcn);clear hcn;obtain⟨bE,oE,A9,n9,c9,eA,_,mo,_,_,_,_,_,u1,_⟩:=(HS.out W0 (gm.out _ (Below.refl _ _))).Br GP;subst eA;have hyb:=kL (jR HSOK.out p hpl).1;obtain⟨hy1,hy2,_⟩:=hyb;obtain⟨yl,hyd⟩:∃yl,yl=(l.getD p default).len:=⟨_,rfl⟩;rw[←hyd] at u1 hy1 hy2 HLS;have HCY:=zh (fun V (hV:Below W0.heap.size W0 V)=>(hV.cell (p:=⟨bE,oE+p* 4+1,none⟩) mo).trans u1);clear u1 hyd;by_cases vU:yl=min lf (s.K* s.size)
          ·have hne:(yl !=min lf (s.K* s.size))=false:=(by simp[vU]);have HYL:=zh vU;clear vU;go_wp2_with fail
           refine yK ROW gD GP rfl Hw HCY hW1 hW2 hne rfl rfl rfl rfl rfl rfl ?_;intro v MH hv pk;simp only[qb,BC,BD,BF,BG,Act.put,Bz,BA,BB];rw[hv];have rq:=zh pk;clear hv pk;have HC10:=zh (zu gD rq.out);have HO10:=zh (HO9.out.all rq.out);have HR10:=zh ((rq.out.block _ (by have:=(zl HR9.out);omega)).trans HR9.out);obtain⟨_,_,eb,_,_,hcn,hfn⟩:=((HO10.out).sl (tg:=true)).DT (k:=p) (by have:=nZ.out;omega);injection eb with eb;injection eb with eb1 eb2 _;subst eb1;subst eb2
           rw[Nat.zero_add] at hcn hfn
           go_upto_region 35 with (fail)
           clear hcn hfn;have HC11:=zh (HC10.out.setCell (p:=⟨gN,p,none⟩) hgn (.bool true))
           have HO11:Hid (Silo.Bj 4 BU (MH.setCell ⟨gN,p,none⟩ (.bool true)) W0.heap.size (fun _=>True) (some ⟨gN,0,none⟩) n0 n0 (xX l (qp xs k++en.list.take (j+1)))):=zh (by
            rw[py.out,←List.append_assoc,←HIDP.out,←Jj (by have:=nZ.out;omega) nX.out]
            exact HO10.out.set1 rfl (by have:=nZ.out;omega) ⟨rfl,trivial⟩)
           have HR11:=zh ((Below.heap_setCell MH ⟨gN,p,none⟩ (.bool true) g7 (by simp;omega)).trans HR10.out)
           have HN11:Hid (qp xs k++en.list.take (j+1)).Nodup:=zh (by
            rw[py.out,←List.append_assoc]
            exact List.nodup_append.2 ⟨HNj.out,by simp,fun a ha b hb e=>by
             rw[List.mem_singleton.1 hb] at e;subst e
             exact hmm ha⟩)
           have HX11:Hid (ji (s.K* s.size) en.len (j+1)=lf - yl):=zh (by rw[Jk hW1,HLF.out,←HYL.out]);have HY11:Hid (zA (s.K* s.size) l en.list en.len=zA (s.K* s.size) l (en.list.drop (j+1)) (lf - yl)):=zh (by rw[HLS.out,if_pos HYL.out]);clear HO10 HR10 HC10 hmm HNj Hw;generalize (MH.setCell ⟨gN,p,none⟩ (.bool true))=mX at *;have y1:=HCY.out mX HC11.out;obtain⟨r0,r1⟩:=ROW.out mX HC11.out;have pX:=zc 0 r1 (.slice _ n0 c0) rfl;clear r0 r1;go_wp2
           (refine⟨?_,?measure⟩;(repeat apply Exists.intro);refine⟨?rel,rfl,rfl,rfl⟩)
           case rel=>exact⟨j+1,by omega,by go_num,by rw[HX11.out],HO11,HN11,by rw[HX11.out];exact HY11⟩
           case measure=>simp[intOf];omega
          have hne:(yl !=min lf (s.K* s.size))=true:=(by simp[vU]);have HE:Hid (R=false):=zh (HBAD.out (by rw[HLS.out,if_neg vU]));clear vU;go_wp2_with fail
          refine yJ ROW gD GP rfl Hw HCY hW1 hW2 hne rfl rfl rfl rfl rfl rfl ?_;intro v MH hv pk;simp only[qb,BC,BD,BF,BG,Act.put,Bz,BA,BB];rw[hv];have rq:=zh pk;clear hv pk;go_wp2
          go_ret
          exact⟨by rw[HE.out];rfl,gm.out _ (zu gD rq.out)⟩
         obtain rfl:n4=j:=by omega
         have mW:Hid (zA (s.K* s.size) l en.list en.len=true):=zh (by
          rw[HLj.out,List.drop_of_length_le (by have:=mg.out;omega),yR.out,Jl hW1 hl0];rfl)
         have pz:=zh (fun j' (hj':j'<k+1)=>(show qH s l xs j'=true from by
          by_cases e:j'=k
          ·rw[e,jH,HTH.out,←HEN.out,mW.out];rfl
          exact HA.out j' (by omega)))
         have mR:Hid (qp xs (k+1)=qp xs k++en.list.take n4):=zh (by rw[xw (by have:=nY.out;omega),←HEN.out,List.take_of_length_le (by have:=mg.out;omega)]);have y3:=zc 3 HRj.out (.slice A4 n4 c4) rfl;go_wp2
         exact⟨⟨k+1,by omega,by go_num,HBj,by rw[mR.out];exact HOj,pz,by rw[mR.out];exact HNj⟩,by simp[intOf];omega⟩
     obtain rfl:n1=k:=by omega
     have HR4:Hid (R=zW gs):=zh (by rw[HR3.out,kK (fun j hj=>HA.out j (by have:=nY.out;omega)) (by rw[nY.out];exact HND.out),decide_eq_true (by have:=nY.out;omega)];rfl);clear HA HND HO HR3;obtain⟨r0,r1⟩:=ROW.out wo HB.out;have ut:=zc 1 r1 (.slice _ n1 c1) rfl;clear r0 r1;go_wp2_with fail
     clear ut
     go_loopw [16] (fun iv wr=>∃i:Nat,i≤n2∧iv=.int .i64 i∧Hid (Below W0.heap.size W0 wr)∧Hid (∀j,j<i→BI gs j=true)) (fun iv _=>n2 - (intOf iv).toNat)
     case atStart=>exact⟨0,Nat.zero_le _,rfl,HB,zh (fun j hj=>by omega)⟩
     case round=>
      clear HB;obtain⟨k,hk,rfl,HB,HA⟩:=hrel;by_cases hlt:k<n2
      ·obtain⟨bG,oG,eG,_,hbG,so1,so2,u0,u1,_⟩:=(HG.out W0 (gm.out _ (Below.refl _ _))).Cc hlt
       have hp:0<k→W0.cell? ⟨bG,oG+(k - 1)* 2,none⟩=some (.string (gs.getD (k - 1) default).name):=fun h0=>by
        obtain⟨b',off',e,_,_,_,_,hd,_⟩:=(HG.out W0 (gm.out _ (Below.refl _ _))).Cc (k:=k - 1) (by omega);rw[eG] at e;injection e with e;injection e with e1 e2 _;subst e1;subst e2
        exact hd
       subst eG;obtain⟨pn,GP⟩:∃y,y=(gs.getD (k - 1) default).name:=⟨_,rfl⟩;rw[←GP] at hp;have hat:BI gs k=(decide (1≤(gs.getD k default).name.size∧(gs.getD k default).name.size≤40∧(gs.getD k default).digest.size=32)&&(decide (k=0)||ql pn (gs.getD k default).name)):=(by rw[GP];rfl);obtain⟨x,hx⟩:∃x,x=gs.getD k default:=⟨_,rfl⟩;rw[←hx] at hat u0 u1;have Gn:=zh (fun V (hV:Below W0.heap.size W0 V)=>And.intro ((hV.cell (p:=⟨bG,oG+k* 2,none⟩) hbG).trans u0) ((hV.cell (p:=⟨bG,oG+k* 2+1,none⟩) hbG).trans u1));have mU:=zh hat;have mi:Hid (BI gs k=false→R=false):=zh (fun h=>by rw[HR4.out];exact QS (k:=k) (by have:=uv.out;omega) h)
       have HAOK:Hid (BI gs k=true→∀j,j<k+1→BI gs j=true):=zh (fun h j hj=>by
        by_cases e:j=k
        ·rw[e];exact h
        exact HA.out j (by omega))
       clear hat hx GP u0 u1 so1 so2;obtain⟨r0,r1⟩:=ROW.out wr HB.out;have ui:=zc 2 r1 (.slice _ n2 c2) rfl;clear r0 r1;go_wp2_with fail
       clear ui;refine FL ROW hlt hn40 HB rfl hbG hp Gn mU rfl rfl rfl ?_;intro v w9 hv mM;simp only[qb,BC,BD,BF,BG,Act.put,Bz,BA,BB];rw[hv];have ul:=zt HB mM;clear hv mM HB hp Gn;obtain⟨tt,htt⟩:∃tt,tt=BI gs k:=⟨_,rfl⟩;rw[←htt]
       cases tt with
       |false=>
        have HE:=zh (mi.out htt.symm);clear htt;go_wp2
        go_ret
        exact⟨by rw[HE.out];rfl,gm.out _ ul.out⟩
       |true=>
        have pz:=zh (HAOK.out htt.symm);clear htt;go_wp2
        exact⟨⟨k+1,by omega,by go_num,ul,pz⟩,by simp[intOf];omega⟩
      obtain rfl:n2=k:=by omega
      have HE:Hid (R=true):=zh (by rw[HR4.out,QT (fun j hj=>HA.out j (by have:=uv.out;omega)),decide_eq_true (by have:=uv.out;omega)]);obtain⟨r0,r1⟩:=ROW.out wr HB.out;have ui:=zc 2 r1 (.slice _ n2 c2) rfl;clear r0 r1;go_wp2
      go_ret
      exact⟨by rw[HE.out];rfl,gm.out _ HB.out⟩
theorem kc {tg tg0 tg1 tg2:Bool}{S:Nat→Prop}{w:World}{A0 A1 A2:Option Addr}{n0 c0 n1 c1 n2 c2:Nat}{s:Shape}{b:Book}(hf:Ea b) (h:Bl w S tg tg0 tg1 tg2 A0 n0 c0 A1 n1 c1 A2 n2 c2 b):
  Calls Tryz.prog 16 #[.agg #[.int .i64 s.K,.int .i64 s.M,.int .i64 s.size],.agg #[.slice A0 n0 c0,.slice A1 n1 c1,.slice A2 n2 c2,.int .i64 b.next]] w (Bh (.bool (qD s b)) w):=
 KB (by have:=hf.st;have:=h.st.len;omega) hf.sl h.st h.th h.ta
end Go.Proofs.YtipecejghioicaaGreat
