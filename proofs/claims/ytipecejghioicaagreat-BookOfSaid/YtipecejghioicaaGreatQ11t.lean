/- Siloref16.Book: the page's way to ask a book. -/
import Derived.Test.YtipecejghioicaaGreatQ13t
import Derived.Test.YtipecejghioicaaGreatQ14t
set_option maxHeartbeats 32000000
set_option maxRecDepth 100000
namespace Go.Proofs.YtipecejghioicaaGreat
open Go.RowKit Go.Silo
def Zh (s:Shape) (l:List Bc) (xs:List Entry) (gs:List Tag) (nx:Int):Bool:=decide (xs.length≤60)&&(decide (gs.length≤40)&&(decide (0≤nx∧nx≤1073741824)&&(zg s l&&qt s)))
theorem KD {s:Shape}{l:List Bc}{xs:List Entry}{gs:List Tag}{nx:Int}(h:Zh s l xs gs nx=true):
  qt s=true∧zg s l=true∧xs.length≤60∧gs.length≤40∧qN s ⟨l,xs,gs,nx⟩=(qI s nx l&&(ze s l xs&&zS gs)):=by
 unfold Zh at h;simp only[Bool.and_eq_true,decide_eq_true_eq] at h;obtain⟨h1,h2,h3,h4,h5⟩:=h;refine⟨h5,h4,h1,h2,?_⟩;unfold qN;simp only;rw[h5,decide_eq_true h3];rfl
theorem KW {s:Shape}{l:List Bc}{xs:List Entry}{gs:List Tag}{nx:Int}(h:Zh s l xs gs nx=false):qN s ⟨l,xs,gs,nx⟩=false:=by
 cases hb:qN s ⟨l,xs,gs,nx⟩ with
 |false=>rfl
 |true=>
  exfalso
  unfold qN at hb;simp only[Bool.and_eq_true,decide_eq_true_eq] at hb;obtain⟨h1,h2,h3,h4,h5⟩:=hb
  have hq:(zg s l&&qt s)=true:=by
   cases hq:(zg s l&&qt s) with
   |true=>rfl
   |false=>have:=Zo (nx:=nx) hq;rw[h1,h3] at this;cases this
  have hx:xs.length≤60:=by unfold ze at h4;simp only[Bool.and_eq_true,decide_eq_true_eq] at h4;exact h4.2.2
  have hg:gs.length≤40:=by unfold zS at h5;simp only[Bool.and_eq_true,decide_eq_true_eq] at h5;exact h5.2
  unfold Zh at h;rw[decide_eq_true hx,decide_eq_true hg,decide_eq_true h2,hq] at h
  cases h
def zx (l:List Slot):List Slot:=l.filter (fun p=>decide (0≤p.disk))
theorem JK {l:List Slot}{p:Slot}(h:0≤p.disk):zx (l++[p])=zx l++[p]:=by unfold zx;rw[List.filter_append];simp[h]
theorem XP {l:List Slot}{p:Slot}(h:¬0≤p.disk):zx (l++[p])=zx l:=by unfold zx;rw[List.filter_append];simp[h]
theorem JL (l:List Slot):(zx l).length≤l.length:=List.length_filter_le _ _
theorem XQ {l:List Slot}{p:Slot}(h:p∈zx l):p∈l:=(List.mem_filter.1 h).1
theorem XR {l:List Slot}{p:Slot}(h:p∈l) (hd:0≤p.disk):p∈zx l:=List.mem_filter.2 ⟨h,by simpa using hd⟩
theorem KE {α:Type}{l:List α}{p d:α}(h:p∈l):∃j,j<l.length∧l.getD j d=p:=by
 obtain⟨j,hj,e⟩:=List.getElem_of_mem h;exact⟨j,hj,by rw[List.getD_eq_getElem?_getD,List.getElem?_eq_getElem hj];exact e⟩
theorem JM {α:Type}{l:List α}{j:Nat}{d:α}(h:j<l.length):l.getD j d∈l:=by
 rw[List.getD_eq_getElem?_getD,List.getElem?_eq_getElem h];exact List.getElem_mem h
theorem JN {w':World}{S:Nat→Prop}{base g n:Nat}(h:w'.ownsRow base 4 1 (.slice (some ⟨g,0,none⟩) n n) n (madeCells #[.bool false] n).toList):Silo.Bi 4 Cg w' base S (some ⟨g,0,none⟩) n n (List.replicate n false):=by
 rw[toList_madeCells_one] at h;refine⟨List.replicate n (.bool false),h,by simp,fun k x hx=>?_⟩;have hk:k<n:=by have:=(List.getElem?_eq_some_iff.1 hx).1;simpa using this
 rw[List.getElem?_replicate,if_pos hk] at hx;injection hx with hx
 subst hx;refine⟨?_,trivial⟩;rw[show Cg.sz=1 from rfl,Nat.mul_one,List.drop_replicate,List.take_replicate,show min 1 (n - k)=1 by omega];rfl
theorem XT (l:List Bc):xR l []=List.replicate l.length false:=by
 unfold xR;rw[List.eq_replicate_iff];exact⟨by simp,fun b hb=>by obtain⟨y,_,rfl⟩:=List.mem_map.1 hb;simp⟩
theorem XU {W:Int}{l:List Bc}{ys:List Int}{k:Nat}{left:Int}(hk:k<ys.length) (h:CW l (ys.getD k 0)<0):zB W l (ys.drop k) left=false:=by rw[Qv hk,kY h]
theorem KF {W:Int}{l:List Bc}{ys:List Int}{k p:Nat}{left:Int}(hk:k<ys.length) (hp:p<l.length) (h:CW l (ys.getD k 0)=(p:Int)):zB W l (ys.drop k) left=(if (l.getD p default).len=min left W then zB W l (ys.drop (k+1)) (left - (l.getD p default).len) else false):=by rw[Qv hk,Xy hp h]
theorem JO {tg tg0 tg1 tg2:Bool}{S:Nat→Prop}{w:World}{A0 A1 A2:Option Addr}{n0 c0 n1 c1 n2 c2:Nat}{s:Shape}{l:List Bc}{xs:List Entry}{gs:List Tag}{nx:Int}(hn0:n0≤4000) (hfs:(qh l l.length).length≤1000000)
  (h0:Sl tg 86 (qc tg0) w S A0 n0 c0 l) (h1:Sl tg 90 (qj tg1) w S A1 n1 c1 xs) (h2:Sl tg2 94 Bw w S A2 n2 c2 gs):
  Calls Tryz.prog 16 #[.agg #[.int .i64 s.K,.int .i64 s.M,.int .i64 s.size],.agg #[.slice A0 n0 c0,.slice A1 n1 c1,.slice A2 n2 c2,.int .i64 nx]] w (Bl (.bool (qN s ⟨l,xs,gs,nx⟩)) w):=by
 obtain⟨ib,hib,hzb0,hzb1,hzb2⟩:=info_parts Tryz.DF;obtain⟨ic,hic,hzc0,hzc1,hzc2⟩:=info_parts Tryz.Cx;have nT:=zh h0.len;have nR:=zh h1.len;have ul:=zh h2.len;have hcap1:n1≤9223372036854775807:=Nat.le_trans h1.le h1.cap;have hcap2:n2≤9223372036854775807:=Nat.le_trans h2.le h2.cap;have HFS:=zh hfs;clear hfs;obtain⟨R,hR⟩:∃R,R=qN s ⟨l,xs,gs,nx⟩:=⟨_,rfl⟩;rw[←hR];have HR:=zh hR;clear hR;obtain⟨hd,hhd⟩:∃hd,hd=Zh s l xs gs nx:=⟨_,rfl⟩;have HHD:=zh hhd;clear hhd;have hal:Below w.heap.size w ((w.alloc (.cells #[.int .i64 s.K,.int .i64 s.M,.int .i64 s.size] 23)).alloc (.cells #[.slice A0 n0 c0,.slice A1 n1 c1,.slice A2 n2 c2,.int .i64 nx] 28)):=bz
 have mG:((w.alloc (.cells #[.int .i64 s.K,.int .i64 s.M,.int .i64 s.size] 23)).alloc (.cells #[.slice A0 n0 c0,.slice A1 n1 c1,.slice A2 n2 c2,.int .i64 nx] 28)).heap[w.heap.size]?=some (.cells #[.int .i64 s.K,.int .i64 s.M,.int .i64 s.size] 23 (0,0)):=by
  rw[Below.heap_alloc _ _ _ (by simp;try omega)];have:=heap_alloc_new w (.cells #[.int .i64 s.K,.int .i64 s.M,.int .i64 s.size] 23);simpa only[World.size_alloc] using this
 have hr1:((w.alloc (.cells #[.int .i64 s.K,.int .i64 s.M,.int .i64 s.size] 23)).alloc (.cells #[.slice A0 n0 c0,.slice A1 n1 c1,.slice A2 n2 c2,.int .i64 nx] 28)).heap[w.heap.size+1]?=some (.cells #[.slice A0 n0 c0,.slice A1 n1 c1,.slice A2 n2 c2,.int .i64 nx] 28 (0,0)):=by
  have:=heap_alloc_new (w.alloc (.cells #[.int .i64 s.K,.int .i64 s.M,.int .i64 s.size] 23)) (.cells #[.slice A0 n0 c0,.slice A1 n1 c1,.slice A2 n2 c2,.int .i64 nx] 28);simpa only[World.size_alloc] using this
 have hz:w.heap.size+1<((w.alloc (.cells #[.int .i64 s.K,.int .i64 s.M,.int .i64 s.size] 23)).alloc (.cells #[.slice A0 n0 c0,.slice A1 n1 c1,.slice A2 n2 c2,.int .i64 nx] 28)).heap.size:=by simp
 have HS:=zh (fun W (hW:Below w.heap.size w W)=>h0.all hW);clear h0;have HT:=zh (fun W (hW:Below w.heap.size w W)=>h1.all hW);clear h1;have HG:=zh (fun W (hW:Below w.heap.size w W)=>h2.all hW);clear h2
 go_enter Tryz.func16,Tryz.ntmps16
 go_upto_region 1 with (fail)
 generalize ((w.alloc (.cells #[.int .i64 s.K,.int .i64 s.M,.int .i64 s.size] 23)).alloc (.cells #[.slice A0 n0 c0,.slice A1 n1 c1,.slice A2 n2 c2,.int .i64 nx] 28))=W0 at *;have gB:=zh (fun V (hV:Below W0.heap.size W0 V)=>hal.trans (hV.mono hal.size));clear hal;have ROW:=zh (fun V (hV:Below W0.heap.size W0 V)=>(show V.heap[w.heap.size]?=some (.cells #[.int .i64 s.K,.int .i64 s.M,.int .i64 s.size] 23 (0,0))∧V.heap[w.heap.size+1]?=some (.cells #[.slice A0 n0 c0,.slice A1 n1 c1,.slice A2 n2 c2,.int .i64 nx] 28 (0,0)) from⟨(hV.block _ (by omega)).trans mG,(hV.block _ (by omega)).trans hr1⟩));clear mG hr1;have hz1:w.heap.size+1<W0.heap.size:=by omega
 go_cut [45] from 17 (fun t V=>t=.bool (!hd)∧Hid (Below W0.heap.size W0 V))
 case first=>
  obtain⟨r0,r1⟩:=ROW.out W0 (Below.refl _ _);have ra:=zc 0 r1 (.slice _ n0 c0) rfl;have uC:=zc 1 r1 (.slice _ n1 c1) rfl;have ut:=zc 2 r1 (.slice _ n2 c2) rfl;have vL:=zc 3 r1 (.int .i64 nx) rfl;clear r0 r1;have HHE:Hid (hd=(decide (n1≤60)&&(decide (n2≤40)&&(decide (0≤nx∧nx≤1073741824)&&(zg s l&&qt s))))):=zh (by rw[HHD.out];unfold Zh;rw[nR.out,ul.out]);by_cases g1:60<n1
  ·have HF:Hid (hd=false):=zh (by rw[HHE.out,decide_eq_false (by omega:¬n1≤60)];rfl);go_wp2
   go_meet
   case rel=>exact⟨by rw[HF.out];rfl,zh (Below.refl _ _)⟩
  have HHE2:Hid (hd=(decide (n2≤40)&&(decide (0≤nx∧nx≤1073741824)&&(zg s l&&qt s)))):=zh (by rw[HHE.out,decide_eq_true (by omega:n1≤60)];rfl);by_cases g2:40<n2
  ·have HF:Hid (hd=false):=zh (by rw[HHE2.out,decide_eq_false (by omega:¬n2≤40)];rfl);go_wp2
   go_meet
   case rel=>exact⟨by rw[HF.out];rfl,zh (Below.refl _ _)⟩
  have HHE3:Hid (hd=(decide (0≤nx∧nx≤1073741824)&&(zg s l&&qt s))):=zh (by rw[HHE2.out,decide_eq_true (by omega:n2≤40)];rfl);go_wp2_with fail
  refine(BB (n:=nx) (m:=1073741824)).mono ?_;rintro e w1 ⟨rfl,hb1⟩;have gH:=zh hb1;clear hb1 ra uC ut vL;generalize decide (0≤nx∧nx≤1073741824)=d1 at *
  cases d1 with
  |false=>
   have HF:Hid (hd=false):=zh HHE3.out;go_wp2
   go_meet
   case rel=>exact⟨by rw[HF.out];rfl,gH⟩
  |true=>
   obtain⟨r0,r1⟩:=ROW.out w1 gH.out;have mF:=zc 0 r0 (.int .i64 s.K) rfl;have mK:=zc 1 r0 (.int .i64 s.M) rfl;have mM:=zc 2 r0 (.int .i64 s.size) rfl;have ra:=zc 0 r1 (.slice _ n0 c0) rfl;clear r0 r1;go_wp2_with fail
   refine(Zn (s:=s) (HS.out _ (gB.out _ gH.out))).mono ?_;rintro e w2 ⟨rfl,hb2⟩;have gF:=zt gH hb2;clear hb2 gH mF mK mM ra;generalize (zg s l&&qt s)=q at *;have HF:Hid (hd=q):=zh HHE3.out;go_wp2
   go_meet
   case rel=>exact⟨by rw[HF.out,decide_eq_false (by omega:¬(4000:Int)<(n0:Int)),decide_eq_false (by omega:¬(60:Int)<(n1:Int)),decide_eq_false (by omega:¬(40:Int)<(n2:Int))];rfl,gF⟩
 case rest=>
  rename World=>wc
  obtain⟨rfl,HBc⟩:=hcut
  cases hd with
  |false=>
   have HE:Hid (R=false):=zh (HR.out.trans (KW HHD.out.symm));go_wp2
   go_ret
   exact⟨by rw[HE.out];rfl,gB.out _ HBc.out⟩
  |true=>
   obtain⟨hsh,hsb,hx60,hg40,hRe⟩:=KD HHD.out.symm;obtain⟨k1,k2,m1,m2,s1,s2⟩:=Jw hsh;have hW1:1≤s.K* s.size:=(by have:=Int.mul_le_mul k1 s1 (by omega) (by omega);omega);have hW2:s.K* s.size≤960:=(by have:=Int.mul_le_mul k2 s2 (by omega) (by omega);omega);have vG:=zh hsh;clear hsh;have HSB:=zh hsb;clear hsb;have hn60:n1≤60:=(by have:=nR.out;omega);have hn40:n2≤40:=(by have:=ul.out;omega);have HR2:=zh (HR.out.trans hRe);clear hRe HR HHD hx60 hg40;clear k1 k2 m1 m2 s1 s2;go_wp2_with fail
   go_loopw [5,6] (fun tv iv wr=>∃k:Nat,∃A c,k≤n0∧iv=.int .i64 k∧tv=.slice A (zx (qh l k)).length c∧Hid (Silo.Bi 88 qq wr W0.heap.size (fun _=>True) A (zx (qh l k)).length c (zx (qh l k)))∧Hid (Below W0.heap.size W0 wr)∧Hid (∀j,j<k→(l.getD j default).id<nx)∧Hid (zN (qh l k)=true)) (fun _ iv _=>n0 - (intOf iv).toNat)
   case atStart=>exact⟨0,none,0,Nat.zero_le _,rfl,by rfl,zh Silo.Bi.Bp,HBc,zh (fun j hj=>by omega),zh (by simp[qh,zN])⟩
   case round=>
    rename World=>wo
    clear HBc;obtain⟨k,A,c,hk,rfl,rfl,HO,HB,HI,HN⟩:=hrel;have hzo1:=Nat.lt_of_lt_of_le hz1 HB.out.size;by_cases hlt:k<n0
    ·obtain⟨bE,oE,A3,n3,c3,eA,_,hbE,_,_,_,hp3,u0,_,_,u3,_⟩:=(HS.out W0 (gB.out _ (Below.refl _ _))).Bt hlt;subst eA;have j6:=zh hp3.len;have G9:n3≤9223372036854775807:=Nat.le_trans hp3.le hp3.cap;have ru:=zh (fun V (hV:Below W0.heap.size W0 V)=>hp3.all hV);clear hp3;have HU:=zh (fun V (hV:Below W0.heap.size W0 V)=>And.intro ((hV.cell (p:=⟨bE,oE+k* 4,none⟩) hbE).trans u0) ((hV.cell (p:=⟨bE,oE+k* 4+3,none⟩) hbE).trans u3));clear u0 u3;have hbo:=Nat.lt_of_lt_of_le hbE HB.out.size;have HST:=zh (kO (nx:=nx) HSB.out (k:=k) (by have:=nT.out;omega))
     have yL:Hid ((qh l k).length+(l.getD k default).place.length≤1000000):=zh (by
      obtain⟨r,hr⟩:=jV (l:=l) (k+1);have h2:=HFS.out;rw[hr,zZ (by have:=nT.out;omega),List.length_append,List.length_append] at h2
      omega)
     obtain⟨x,hx⟩:∃x,x=l.getD k default:=⟨_,rfl⟩;rw[←hx] at j6 ru HU HST yL;have G6:=zh hx;clear hx;obtain⟨r0,r1⟩:=ROW.out wo HB.out;have ra:=zc 0 r1 (.slice _ n0 c0) rfl;have vL:=zc 3 r1 (.int .i64 nx) rfl;clear r0 r1;obtain⟨u0,_⟩:=HU.out wo HB.out;by_cases cB:nx≤x.id
     ·have HE:Hid (R=false):=zh (by rw[HR2.out,jK (k:=k) (by have:=nT.out;omega) (HST.out.trans (decide_eq_false (by omega)))];rfl);go_wp2_with fail
      have pc:=xc wo;refine zi (by kernel_rfl) (by kernel_rfl) ?_
      repeat (go_big_quiet_step (fail))
      refine wpQuiet_nil ?_;rintro _ ⟨X,rfl⟩;have mr:=zh (HB.out.trans ((zs wo X).mono HB.out.size));clear pc ra vL u0;generalize wo.ext X=w3 at *;go_wp2
      go_ret
      exact⟨by rw[HE.out];rfl,gB.out _ mr.out⟩
     have yK:Hid (∀j,j<k+1→(l.getD j default).id<nx):=zh (fun j hj=>by
      rcases Nat.lt_or_ge j k with h|h
      ·exact HI.out j h
      obtain rfl:j=k:=by omega
      rw[←G6.out];omega)
     go_wp2_with fail
     have pc:=xc wo;refine zi (by kernel_rfl) (by kernel_rfl) ?_
     repeat (go_big_quiet_step (fail))
     refine wpQuiet_nil ?_;rintro _ ⟨X,rfl⟩;have mr:=zh (HB.out.trans ((zs wo X).mono HB.out.size));have uM:=zh (HO.out.all (zs wo X));clear pc ra vL u0 HO HB;generalize wo.ext X=w3 at *;go_wp2_with fail
     go_loopw [5,7] (fun tv jv wr=>∃j:Nat,∃A c,j≤n3∧jv=.int .i64 j∧tv=.slice A (zx (qh l k++x.place.take j)).length c∧Hid (Silo.Bi 88 qq wr W0.heap.size (fun _=>True) A (zx (qh l k++x.place.take j)).length c (zx (qh l k++x.place.take j)))∧Hid (Below W0.heap.size W0 wr)∧Hid (zN (qh l k++x.place.take j)=true)) (fun _ jv _=>n3 - (intOf jv).toNat)
     case atStart=>exact⟨0,A,c,Nat.zero_le _,rfl,by simp,by simpa using uM,mr,by simpa using HN⟩
     case round=>
      rename World=>wj
      clear uM mr HN;obtain⟨j,A',c',hj,rfl,rfl,HOj,HBj,HNj⟩:=hrel;by_cases hjl:j<n3
      ·obtain⟨b3,o3,e3,_,hb3,g1,g2,v0,v1,_⟩:=(ru.out wj HBj.out).BM hjl;subst e3;have yJ:j<x.place.length:=(by have:=j6.out;omega);have rC:x.place.take (j+1)=x.place.take j++[x.place.getD j default]:=(by rw[List.take_add_one,List.getElem?_eq_getElem yJ,List.getD_eq_getElem?_getD,List.getElem?_eq_getElem yJ];rfl);have H7:=zh (fun(hd:0≤(x.place.getD j default).disk) (hm:x.place.getD j default∈qh l k++x.place.take j)=>jx (s:=s) (nx:=nx) (l:=l) (k:=k) (j:=j) (by have:=nT.out;omega) (by rw[←G6.out];exact yJ) (by rw[←G6.out];exact hd) (by rw[←G6.out];exact hm));have pk:=zh rC;clear rC
       have hTl:(zx (qh l k++x.place.take j)).length≤1000000:=by
        have h1:=JL (qh l k++x.place.take j);have h2:=yL.out;rw[List.length_append,List.length_take] at h1;omega
       generalize x.place.getD j default=p at *;have HGP:=zh (And.intro g1 g2);clear g1 g2;obtain⟨r0,r1⟩:=ROW.out wj HBj.out;have ra:=zc 0 r1 (.slice _ n0 c0) rfl;clear r0 r1;obtain⟨_,u3⟩:=HU.out wj HBj.out
       go_upto_region 13 with (fail)
       have gT:Below wj.heap.size wj (wj.alloc (.cells #[.int .i64 p.disk,.int .i64 p.pos] 88)):=(Below.refl _ _).alloc (Nat.le_refl _) _;have hrow:=heap_alloc_new wj (.cells #[.int .i64 p.disk,.int .i64 p.pos] 88);have hzl:wj.heap.size<(wj.alloc (.cells #[.int .i64 p.disk,.int .i64 p.pos] 88)).heap.size:=(by simp);have p7:=zt HBj gT;have HOp:=zh (HOj.out.all gT);clear gT v0 v1 u3 ra HOj HBj;generalize (wj.alloc (.cells #[.int .i64 p.disk,.int .i64 p.pos] 88))=wp at *;generalize wj.heap.size=g9 at *;have ROWP:=zh (fun V (hV:Below wp.heap.size wp V)=>(hV.block _ hzl).trans hrow);clear hrow;have z0:=(zo 0 (ROWP.out wp (Below.refl _ _))).trans (show _=some (.int .i64 p.disk:Value) from rfl);by_cases uy:0≤p.disk
       ·have nO:Hid (zx (qh l k++x.place.take (j+1))=zx (qh l k++x.place.take j)++[p]):=zh (by rw[pk.out,←List.append_assoc,JK uy]);have HMT:=zh (fun(hm:p∈zx (qh l k++x.place.take j))=>H7.out uy (XQ hm));clear H7
        have po:=zh (fun(hm:p∉zx (qh l k++x.place.take j))=>(show zN (qh l k++x.place.take (j+1))=true from by
         rw[pk.out,←List.append_assoc]
         exact xY HNj.out (fun hd h=>hm (XR h hd))))
        clear HNj pk;generalize zx (qh l k++x.place.take j)=TT at *;have mY:=zh HOp.out.len;go_wp2_with fail
        clear z0
        go_loopw [9] (fun qv wr=>∃q:Nat,q≤TT.length∧qv=.int .i64 q∧Hid (Below wp.heap.size wp wr)∧Hid (∀i,i<q→TT.getD i default≠p)) (fun qv _=>TT.length - (intOf qv).toNat)
        case atStart=>exact⟨0,Nat.zero_le _,rfl,zh (Below.refl _ _),zh (fun i hi=>by omega)⟩
        case round=>
         rename World=>wq
         obtain⟨q,hq,rfl,HBq,HQ⟩:=hrel;have zp:=zc 0 (ROWP.out wq HBq.out) (.int .i64 p.disk) rfl;have zq:=zc 1 (ROWP.out wq HBq.out) (.int .i64 p.pos) rfl;by_cases hql:q<TT.length
         ·obtain⟨bt,ot,et,_,hbt,_,_,y0,y1,_⟩:=((HOp.out.all HBq.out).sl (tg:=true)).BM hql;subst et;obtain⟨t,ht⟩:∃t,t=TT.getD q default:=⟨_,rfl⟩;rw[←ht] at y0 y1;have HTD:=zh ht;clear ht;by_cases htp:t=p
          ·have HE:Hid (R=false):=zh (by rw[HR2.out,HMT.out (by rw[←htp,HTD.out];exact JM hql)];rfl);subst htp;have hq:∀W:World,(Op.equalIn 10000 88 (.agg #[.int .i64 t.disk,.int .i64 t.pos]) (.agg #[.int .i64 t.disk,.int .i64 t.pos])).run Tryz.prog W=.ok true W:=fun W=>by rw[kc];simp
           have hqg:=ke;have Hw:=zh (fun V (hV:Below wq.heap.size wq V)=>gB.out V (p7.out.trans ((zu HBq hV).mono p7.out.size)));go_wp2
           go_quiet (fail)
           go_wp2
           go_ret
           exact⟨by rw[HE.out];rfl,Hw.out _ (by first|exact below_drewN (Below.refl _ _) _|exact Below.refl _ _)⟩
          have hq:∀W:World,(Op.equalIn 10000 88 (.agg #[.int .i64 t.disk,.int .i64 t.pos]) (.agg #[.int .i64 p.disk,.int .i64 p.pos])).run Tryz.prog W=.ok false W:=fun W=>by rw[kc,decide_eq_false htp]
          have hqg:=ke
          have p8:Hid (∀i,i<q+1→TT.getD i default≠p):=zh (fun i hi=>by
           rcases Nat.lt_or_ge i q with h|h
           ·exact HQ.out i h
           obtain rfl:i=q:=by omega
           rw[←HTD.out];exact htp)
          clear htp;have Hw:=zh (fun V (hV:Below wq.heap.size wq V)=>HBq.out.trans (hV.mono HBq.out.size));go_wp2
          go_quiet (fail)
          go_wp2
          exact⟨⟨q+1,by omega,by go_num,zh (Hw.out _ (by first|exact below_drewN (Below.refl _ _) _|exact Below.refl _ _)),p8⟩,by simp[intOf];omega⟩
         obtain rfl:q=TT.length:=by omega
         have yV:Hid (zN (qh l k++x.place.take (j+1))=true):=zh (po.out (fun hm=>by
          obtain⟨i,hi,e⟩:=KE (d:=default) hm
          exact HQ.out i hi e))
         have HOq:=zh (HOp.out.all HBq.out);have mS:=zh (zu p7 HBq.out);obtain⟨gp1,gp2⟩:=HGP.out;go_wp2_with (at_builtin;refine qm rfl _ _ 59 rfl ic (.agg #[.int .i64 0,.int .i64 0]) 16 Tryz.underlying59 hic hzc0 hzc1 hzc2 rfl (by decide) rfl (HOq.out.frame (Agree.alloc _ _ _) (by simp)) wq.heap.size 88 1 _ p rfl (heap_alloc_new _ _) ⟨rfl,gp1,gp2⟩ (by omega) (by omega) (by have:=mS.out.size;simp;omega) ?_)
         intro A2 GW w2 hown2 hg2 _;have pI:=zh hown2;clear hown2;have gF:=zh (((mS.out.alloc mS.out.size _).grown hg2 (by have:=mS.out.size;simp;omega) (fun k hk=>(HOq.out.lt k hk).1)));clear hg2;clear zp zq;go_wp2
         exact⟨⟨j+1,A2,GW,by omega,by go_num,by rw[nO.out,List.length_append];rfl,by rw[nO.out,List.length_append];exact pI,gF,yV⟩,by simp[intOf];omega⟩
       have nO:Hid (zx (qh l k++x.place.take (j+1))=zx (qh l k++x.place.take j)):=zh (by rw[pk.out,←List.append_assoc,XP uy])
       have yV:Hid (zN (qh l k++x.place.take (j+1))=true):=zh (by
        rw[pk.out,←List.append_assoc]
        exact xY HNj.out (fun h=>absurd h uy))
       go_wp2
       exact⟨⟨j+1,A',c',by omega,by go_num,by rw[nO.out],by rw[nO.out];exact HOp,p7,yV⟩,by simp[intOf];omega⟩
      obtain rfl:j=n3:=by omega
      have mQ:Hid (qh l (k+1)=qh l k++x.place.take j):=zh (by rw[zZ (by have:=nT.out;omega),←G6.out,List.take_of_length_le (by have:=j6.out;omega)]);obtain⟨r0,r1⟩:=ROW.out wj HBj.out;have ra:=zc 0 r1 (.slice _ n0 c0) rfl;clear r0 r1;obtain⟨_,u3⟩:=HU.out wj HBj.out;go_wp2
      (refine⟨?_,?measure⟩;(repeat apply Exists.intro);refine⟨?rel,rfl⟩)
      case rel=>exact⟨k+1,A',c',by omega,by go_num,by rw[mQ.out],by rw[mQ.out];exact HOj,HBj,yK,by rw[mQ.out];exact HNj⟩
      case measure=>simp[intOf];omega
    obtain rfl:n0=k:=by omega
    have mP:qI s nx l=true:=jL (fun j hj=>by rw[kO HSB.out hj];exact decide_eq_true (HI.out j (by have:=nT.out;omega))) (by rw[nT.out];exact HN.out);have nQ:=zh (jd mP);have HSOK:=zh mP;have HR3:Hid (R=(ze s l xs&&zS gs)):=zh (by rw[HR2.out,mP];rfl);clear mP HR2 HI HN HO HSB HFS;obtain⟨r0,r1⟩:=ROW.out wo HB.out;have ra:=zc 0 r1 (.slice _ n0 c0) rfl;clear r0 r1;go_wp2_with (at_make;refine wpList_make_full _ rfl _ _ 30 rfl W0.heap.size 4 ib (.bool false) 1 Tryz.underlying30 hib hzb0 hzb1 .i64 .i64 _ _ n0 rfl rfl rfl rfl (by rw[hzb2];omega) (by unfold maxLen;omega) HB.out.size ?_)
    intro wm hown hgm;clear ra
    have HON:Hid (Silo.Bi 4 Cg wm W0.heap.size (fun _=>True) (some ⟨wo.heap.size,0,none⟩) n0 n0 (xR l (qu xs 0))):=zh (by
     rw[show qu xs 0=[] from rfl,XT,nT.out]
     exact JN hown)
    have HBm:=zh (HB.out.grown hgm HB.out.size (fun r hr=>by cases hr));have hgn:W0.heap.size≤wo.heap.size:=HB.out.size;clear hown hgm hzo1 HB;generalize wo.heap.size=gN at *;go_wp2_with fail
    go_loopw [11] (fun iv wr=>∃i:Nat,i≤n1∧iv=.int .i64 i∧Hid (Below W0.heap.size W0 wr)∧Hid (Silo.Bi 4 Cg wr W0.heap.size (fun _=>True) (some ⟨gN,0,none⟩) n0 n0 (xR l (qu xs i)))∧Hid (∀j,j<i→qK s l xs j=true)∧Hid (qu xs i).Nodup) (fun iv _=>n1 - (intOf iv).toNat)
    case atStart=>exact⟨0,Nat.zero_le _,rfl,HBm,HON,zh (fun j hj=>by omega),zh (by simp[qu])⟩
    case round=>
     rename World=>wo
     clear HBm HON;obtain⟨k,hk,rfl,HB,HO,HA,HND⟩:=hrel;by_cases hlt:k<n1
     ·obtain⟨bT,oT,A4,n4,c4,eT,_,hbT,so,il,hl4,u0,u1,u2,u3,_⟩:=(HT.out W0 (gB.out _ (Below.refl _ _))).BC hlt
      have hp:0<k→W0.cell? ⟨bT,oT+(k - 1)* 4,none⟩=some (.string (xs.getD (k - 1) default).digest):=fun h0=>by
       obtain⟨b',off',A',n',c',e,_,_,_,_,_,hd,_⟩:=(HT.out W0 (gB.out _ (Below.refl _ _))).BC (k:=k - 1) (by omega);rw[eT] at e;injection e with e;injection e with e1 e2 _;subst e1;subst e2
       exact hd
      subst eT;have mX:=hl4.len;have mZ:n4≤9223372036854775807:=Nat.le_trans hl4.le hl4.cap;have vD:=zh (fun V (hV:Below W0.heap.size W0 V)=>hl4.all hV);clear hl4;obtain⟨pd,uy⟩:∃y,y=(xs.getD (k - 1) default).digest:=⟨_,rfl⟩;rw[←uy] at hp;have hat:qR s xs k=(decide ((xs.getD k default).digest.size=32)&&((decide (k=0)||qr pd (xs.getD k default).digest)&&(decide (0≤(xs.getD k default).len)&&(decide ((xs.getD k default).len≤2000)&&decide ((xs.getD k default).list.length=zJ s (xs.getD k default).len))))):=(by rw[uy];rfl);rw[mX] at hat;have j6:=zh mX;clear mX;obtain⟨en,hen⟩:∃en,en=xs.getD k default:=⟨_,rfl⟩;rw[←hen] at hat so il j6 vD u0 u1 u2;have HEN:=zh hen;clear hen uy;have mW:=zh hat;clear hat;have HIL:=zh il;clear il so;have v0:=(HB.out.cell (p:=⟨bT,oT+k* 4,none⟩) hbT).trans u0;have v1:=(HB.out.cell (p:=⟨bT,oT+k* 4+1,none⟩) hbT).trans u1;have v2:=(HB.out.cell (p:=⟨bT,oT+k* 4+2,none⟩) hbT).trans u2;have v3:=(HB.out.cell (p:=⟨bT,oT+k* 4+3,none⟩) hbT).trans u3;clear u0 u1 u2 u3;obtain⟨r0,r1⟩:=ROW.out wo HB.out;have uC:=zc 1 r1 (.slice _ n1 c1) rfl;clear r0 r1
      go_upto_region 25 with (fail)
      have gT:Below wo.heap.size wo (wo.alloc (.cells #[.string en.digest,.int .i64 en.len,.bool en.Bz,.slice A4 n4 c4] 90)):=(Below.refl _ _).alloc (Nat.le_refl _) _;have hrow:=heap_alloc_new wo (.cells #[.string en.digest,.int .i64 en.len,.bool en.Bz,.slice A4 n4 c4] 90);have hzl:wo.heap.size<(wo.alloc (.cells #[.string en.digest,.int .i64 en.len,.bool en.Bz,.slice A4 n4 c4] 90)).heap.size:=(by simp);have gW:=zt HB gT;have HO4:=zh (HO.out.all gT);have hgg:gN<wo.heap.size:=(HO.out.lt gN rfl).2;clear gT v0 v1 v2 v3 uC HO HB;generalize (wo.alloc (.cells #[.string en.digest,.int .i64 en.len,.bool en.Bz,.slice A4 n4 c4] 90))=w4 at *;generalize wo.heap.size=g7 at *;have gu:=zh (fun V (hV:Below w4.heap.size w4 V)=>(hV.block _ hzl).trans hrow);clear hrow
      go_cut [152] from 105 to 204 (fun t V=>t=.bool (!qR s xs k)∧Hid (Below w4.heap.size w4 V))
      case first=>
       clear HA HND HO4;go_wp2_with fail
       refine Fv ROW vG hlt hn60 gW rfl hbT hp gu mW rfl rfl rfl rfl rfl ?_;intro v w9 hv mb;simp only[qb,BH,BI,BJ,BL,Act.put,BD,BF,BG];rw[hv];have gD:=zh mb;clear hv mb;go_wp2
       go_meet
       case rel=>exact⟨rfl,gD⟩
      case rest=>
       rename World=>wc2
       obtain⟨rfl,HBc⟩:=hcut;have mo:=zh (zu gW HBc.out);have HO5:=zh (HO4.out.all HBc.out);have pL:=zh (gu.out wc2 HBc.out);have hg7c:=Nat.lt_of_lt_of_le hzl HBc.out.size;clear HO4 gu gW HBc hp;obtain⟨th,hth⟩:∃th,th=qR s xs k:=⟨_,rfl⟩;rw[←hth]
       cases th with
       |false=>
        have HE:Hid (R=false):=zh (by rw[HR3.out,jr (k:=k) (by have:=nR.out;omega) (by rw[js,←hth];rfl)];rfl);clear hth;go_wp2
        go_ret
        exact⟨by rw[HE.out];rfl,gB.out _ mo.out⟩
       |true=>
        have hth2:=hth;rw[mW.out] at hth2;have hth3:=hth2.symm;simp only[Bool.and_eq_true,decide_eq_true_eq] at hth3;obtain⟨_,_,hl0,hl1,pT⟩:=hth3;have HTH:=zh hth.symm;have vS:=zh pT;clear hth hth2 pT mW;have HBAD:Hid (zB (s.K* s.size) l en.list en.len=false→R=false):=zh (fun h=>by rw[HR3.out,jr (k:=k) (by have:=nR.out;omega) (by rw[js,HTH.out,←HEN.out,h];rfl)];rfl);have y1:=zc 1 pL.out (.int .i64 en.len) rfl;go_wp2_with fail
        clear y1
        go_loopw [13,14] (fun lv jv wr=>∃j:Nat,j≤n4∧jv=.int .i64 j∧lv=.int .i64 (ja (s.K* s.size) en.len j)∧Hid (Below W0.heap.size W0 wr)∧Hid (wr.heap[g7]?=some (.cells #[.string en.digest,.int .i64 en.len,.bool en.Bz,.slice A4 n4 c4] 90 (0,0)))∧Hid (Silo.Bi 4 Cg wr W0.heap.size (fun _=>True) (some ⟨gN,0,none⟩) n0 n0 (xR l (qu xs k++en.list.take j)))∧Hid (qu xs k++en.list.take j).Nodup∧Hid (zB (s.K* s.size) l en.list en.len=zB (s.K* s.size) l (en.list.drop j) (ja (s.K* s.size) en.len j))) (fun _ jv _=>n4 - (intOf jv).toNat)
        case atStart=>exact⟨0,Nat.zero_le _,rfl,by rw[Qu hl0],mo,pL,by simpa using HO5,by simpa using HND,zh (by rw[Qu hl0];rfl)⟩
        case round=>
         rename World=>wj
         clear mo pL HO5 HND;obtain⟨j,hj,rfl,rfl,HBj,HRj,HOj,HNj,HLj⟩:=hrel;have GC:g7<wj.heap.size:=(zl HRj.out);by_cases hjl:j<n4
         ·obtain⟨b4,o4,e4,_,hb4,i4,z7,_⟩:=(vD.out W0 (Below.refl _ _)).BR hjl;subst e4;have yJ:j<en.list.length:=(by have:=j6.out;omega);have rC:en.list.take (j+1)=en.list.take j++[en.list.getD j 0]:=(by rw[List.take_add_one,List.getElem?_eq_getElem yJ,List.getD_eq_getElem?_getD,List.getElem?_eq_getElem yJ];rfl);have H7:=zh (fun(hm:en.list.getD j 0∈qu xs k++en.list.take j)=>jC (s:=s) (l:=l) (xs:=xs) (k:=k) (j:=j) (by have:=nR.out;omega) (by rw[←HEN.out];exact yJ) (by rw[←HEN.out];exact hm));obtain⟨id,hid⟩:∃id,id=en.list.getD j 0:=⟨_,rfl⟩;rw[←hid] at rC H7 z7;have HIDD:=zh hid;clear hid i4;have pk:=zh rC;clear rC;have Hb:=zh (fun V (hV:Below W0.heap.size W0 V)=>(hV.cell (p:=⟨b4,o4+j,none⟩) hb4).trans z7);clear z7;obtain⟨lf,Ga⟩:∃lf,lf=ja (s.K* s.size) en.len j:=⟨_,rfl⟩;have hlf0:0≤lf:=by rw[Ga];unfold ja;omega
          have hlf1:lf≤2000:=by
           have h1:0≤(j:Int)* (s.K* s.size):=Int.mul_nonneg (by omega) (by omega);rw[Ga];unfold ja;generalize (j:Int)* (s.K* s.size)=q at *;omega
          rw[←Ga] at HLj⊢;have HLF:=zh Ga.symm;clear Ga;have y3:=zc 3 HRj.out (.slice (some ⟨b4,o4,none⟩) n4 c4) rfl;go_wp2_with fail
          clear y3;have HS0:=zh (fun W (hW:Below W0.heap.size W0 W)=>HS.out W (gB.out _ hW));refine Fw ROW hjl HBj HS0 GC HRj Hb rfl rfl rfl rfl ?_;intro v w9 hv mb;simp only[qb,BH,BI,BJ,BL,Act.put,BD,BF,BG];rw[hv];have gD:=zt HBj mb;have HO9:=zh (HOj.out.all mb);have HR9:=zh ((mb.block _ GC).trans HRj.out);clear hv mb HS0 HOj HRj Hb;by_cases hav:CW l id<0
          ·have HE:Hid (R=false):=zh (HBAD.out (by rw[HLj.out];exact XU (by omega) (by rw[←HIDD.out];exact hav)));generalize CW l id=av at *;go_wp2_with fail
           refine KS hav rfl rfl ?_;intro v mR hv gK;simp only[qb,BH,BI,BJ,BL,Act.put,BD,BF,BG];rw[hv];have mh:=zh gK;clear hv gK;go_wp2
           go_ret
           exact⟨by rw[HE.out];rfl,gB.out _ (zu gD mh.out)⟩
          obtain⟨p,hpl,hpe,hpi⟩:∃p:Nat,p<l.length∧CW l id=(p:Int)∧(l.getD p default).id=id:=by
           rcases jI l id with ⟨h1,_⟩|⟨p,h1,h2,h3,_⟩
           ·omega
           exact⟨p,h1,h2,h3⟩
          have z6:p<n0:=(by have:=nT.out;omega);have HIDP:=zh hpi;obtain⟨_,_,eb,_,hbn,hcn,_⟩:=((HO9.out).sl (tg:=true)).Dx z6;injection eb with eb;injection eb with eb1 eb2 _;subst eb1;subst eb2
          rw[Nat.zero_add,Jv hpl,hpi] at hcn;have HLS:=zh (HLj.out.trans (KF (by omega) hpl (by rw[←HIDD.out];exact hpe)));rw[hpe];clear hpe hpi hav;have hk0p:¬(p:Int)<0:=(by omega);by_cases hmm:id∈qu xs k++en.list.take j
          ·have HE:Hid (R=false):=zh (by rw[HR3.out,H7.out hmm];rfl);rw[decide_eq_true hmm] at hcn;have GD:=zh (fun V (hV:Below w9.heap.size w9 V)=>(hV.cell (p:=⟨gN,p,none⟩) hbn).trans hcn);clear hcn hmm;go_wp2_with fail
           refine KT z6 GD rfl rfl rfl ?_;intro v mR hv gK;simp only[qb,BH,BI,BJ,BL,Act.put,BD,BF,BG];rw[hv];have mh:=zh gK;clear hv gK;go_wp2
           go_ret
           exact⟨by rw[HE.out];rfl,gB.out _ (zu gD mh.out)⟩
          rw[decide_eq_false hmm] at hcn;have GD:=zh (fun V (hV:Below w9.heap.size w9 V)=>(hV.cell (p:=⟨gN,p,none⟩) hbn).trans hcn);clear hcn;obtain⟨bE,oE,A9,n9,c9,eA,_,hbE,_,_,_,_,_,u1,_⟩:=(HS.out W0 (gB.out _ (Below.refl _ _))).Bt z6;subst eA;have hyb:=km (jD HSOK.out p hpl).1;obtain⟨hy1,hy2,_⟩:=hyb;obtain⟨yl,hyd⟩:∃yl,yl=(l.getD p default).len:=⟨_,rfl⟩;rw[←hyd] at u1 hy1 hy2 HLS;have HCY:=zh (fun V (hV:Below W0.heap.size W0 V)=>(hV.cell (p:=⟨bE,oE+p* 4+1,none⟩) hbE).trans u1);clear u1 hyd;by_cases vJ:yl=min lf (s.K* s.size)
          ·have hne:(yl !=min lf (s.K* s.size))=false:=(by simp[vJ]);have HYL:=zh vJ;clear vJ;go_wp2_with fail
           refine KV ROW gD z6 rfl GD HCY hW1 hW2 hne rfl rfl rfl rfl rfl rfl ?_;intro v mR hv gK;simp only[qb,BH,BI,BJ,BL,Act.put,BD,BF,BG];rw[hv];have mh:=zh gK;clear hv gK;have HC10:=zh (zu gD mh.out);have HO10:=zh (HO9.out.all mh.out);have HR10:=zh ((mh.out.block _ (by have:=(zl HR9.out);omega)).trans HR9.out);obtain⟨_,_,eb,_,_,hcn,hfn⟩:=((HO10.out).sl (tg:=true)).Dx (k:=p) (by have:=nT.out;omega);injection eb with eb;injection eb with eb1 eb2 _;subst eb1;subst eb2
           rw[Nat.zero_add] at hcn hfn
           go_upto_region 35 with (fail)
           clear hcn hfn;have HC11:=zh (HC10.out.setCell (p:=⟨gN,p,none⟩) hgn (.bool true))
           have HO11:Hid (Silo.Bi 4 Cg (mR.setCell ⟨gN,p,none⟩ (.bool true)) W0.heap.size (fun _=>True) (some ⟨gN,0,none⟩) n0 n0 (xR l (qu xs k++en.list.take (j+1)))):=zh (by
            rw[pk.out,←List.append_assoc,←HIDP.out,←Xz (by have:=nT.out;omega) nQ.out]
            exact HO10.out.set1 rfl (by have:=nT.out;omega) ⟨rfl,trivial⟩)
           have HR11:=zh ((Below.heap_setCell mR ⟨gN,p,none⟩ (.bool true) g7 (by simp;omega)).trans HR10.out)
           have HN11:Hid (qu xs k++en.list.take (j+1)).Nodup:=zh (by
            rw[pk.out,←List.append_assoc]
            exact List.nodup_append.2 ⟨HNj.out,by simp,fun a ha b hb e=>by
             rw[List.mem_singleton.1 hb] at e;subst e
             exact hmm ha⟩)
           have HX11:Hid (ja (s.K* s.size) en.len (j+1)=lf - yl):=zh (by rw[XA hW1,HLF.out,←HYL.out]);have HY11:Hid (zB (s.K* s.size) l en.list en.len=zB (s.K* s.size) l (en.list.drop (j+1)) (lf - yl)):=zh (by rw[HLS.out,if_pos HYL.out]);clear HO10 HR10 HC10 hmm HNj GD;generalize (mR.setCell ⟨gN,p,none⟩ (.bool true))=nu at *;have y1:=HCY.out nu HC11.out;obtain⟨r0,r1⟩:=ROW.out nu HC11.out;have ra:=zc 0 r1 (.slice _ n0 c0) rfl;clear r0 r1;go_wp2
           (refine⟨?_,?measure⟩;(repeat apply Exists.intro);refine⟨?rel,rfl,rfl,rfl⟩)
           case rel=>exact⟨j+1,by omega,by go_num,by rw[HX11.out],HO11,HN11,by rw[HX11.out];exact HY11⟩
           case measure=>simp[intOf];omega
          have hne:(yl !=min lf (s.K* s.size))=true:=(by simp[vJ]);have HE:Hid (R=false):=zh (HBAD.out (by rw[HLS.out,if_neg vJ]));clear vJ;go_wp2_with fail
          refine KU ROW gD z6 rfl GD HCY hW1 hW2 hne rfl rfl rfl rfl rfl rfl ?_;intro v mR hv gK;simp only[qb,BH,BI,BJ,BL,Act.put,BD,BF,BG];rw[hv];have mh:=zh gK;clear hv gK;go_wp2
          go_ret
          exact⟨by rw[HE.out];rfl,gB.out _ (zu gD mh.out)⟩
         obtain rfl:n4=j:=by omega
         have mY:Hid (zB (s.K* s.size) l en.list en.len=true):=zh (by
          rw[HLj.out,List.drop_of_length_le (by have:=j6.out;omega),vS.out,XB hW1 hl0];rfl)
         have pm:=zh (fun j' (hj':j'<k+1)=>(show qK s l xs j'=true from by
          by_cases e:j'=k
          ·rw[e,js,HTH.out,←HEN.out,mY.out];rfl
          exact HA.out j' (by omega)))
         have mQ:Hid (qu xs (k+1)=qu xs k++en.list.take n4):=zh (by rw[xu (by have:=nR.out;omega),←HEN.out,List.take_of_length_le (by have:=j6.out;omega)]);have y3:=zc 3 HRj.out (.slice A4 n4 c4) rfl;go_wp2
         exact⟨⟨k+1,by omega,by go_num,HBj,by rw[mQ.out];exact HOj,pm,by rw[mQ.out];exact HNj⟩,by simp[intOf];omega⟩
     obtain rfl:n1=k:=by omega
     have HR4:Hid (R=zS gs):=zh (by rw[HR3.out,kk (fun j hj=>HA.out j (by have:=nR.out;omega)) (by rw[nR.out];exact HND.out),decide_eq_true (by have:=nR.out;omega)];rfl);clear HA HND HO HR3;obtain⟨r0,r1⟩:=ROW.out wo HB.out;have uC:=zc 1 r1 (.slice _ n1 c1) rfl;clear r0 r1;go_wp2_with fail
     clear uC
     go_loopw [16] (fun iv wr=>∃i:Nat,i≤n2∧iv=.int .i64 i∧Hid (Below W0.heap.size W0 wr)∧Hid (∀j,j<i→BP gs j=true)) (fun iv _=>n2 - (intOf iv).toNat)
     case atStart=>exact⟨0,Nat.zero_le _,rfl,HB,zh (fun j hj=>by omega)⟩
     case round=>
      clear HB;obtain⟨k,hk,rfl,HB,HA⟩:=hrel;by_cases hlt:k<n2
      ·obtain⟨bG,oG,eG,_,hbG,so1,so2,u0,u1,_⟩:=(HG.out W0 (gB.out _ (Below.refl _ _))).C9 hlt
       have hp:0<k→W0.cell? ⟨bG,oG+(k - 1)* 2,none⟩=some (.string (gs.getD (k - 1) default).name):=fun h0=>by
        obtain⟨b',off',e,_,_,_,_,hd,_⟩:=(HG.out W0 (gB.out _ (Below.refl _ _))).C9 (k:=k - 1) (by omega);rw[eG] at e;injection e with e;injection e with e1 e2 _;subst e1;subst e2
        exact hd
       subst eG;obtain⟨pn,z6⟩:∃y,y=(gs.getD (k - 1) default).name:=⟨_,rfl⟩;rw[←z6] at hp;have hat:BP gs k=(decide (1≤(gs.getD k default).name.size∧(gs.getD k default).name.size≤40∧(gs.getD k default).digest.size=32)&&(decide (k=0)||qr pn (gs.getD k default).name)):=(by rw[z6];rfl);obtain⟨x,hx⟩:∃x,x=gs.getD k default:=⟨_,rfl⟩;rw[←hx] at hat u0 u1;have yD:=zh (fun V (hV:Below W0.heap.size W0 V)=>And.intro ((hV.cell (p:=⟨bG,oG+k* 2,none⟩) hbG).trans u0) ((hV.cell (p:=⟨bG,oG+k* 2+1,none⟩) hbG).trans u1));have mW:=zh hat;have ml:Hid (BP gs k=false→R=false):=zh (fun h=>by rw[HR4.out];exact Qp (k:=k) (by have:=ul.out;omega) h)
       have HAOK:Hid (BP gs k=true→∀j,j<k+1→BP gs j=true):=zh (fun h j hj=>by
        by_cases e:j=k
        ·rw[e];exact h
        exact HA.out j (by omega))
       clear hat hx z6 u0 u1 so1 so2;obtain⟨r0,r1⟩:=ROW.out wr HB.out;have ut:=zc 2 r1 (.slice _ n2 c2) rfl;clear r0 r1;go_wp2_with fail
       clear ut;refine F3 ROW hlt hn40 HB rfl hbG hp yD mW rfl rfl rfl ?_;intro v w9 hv mb;simp only[qb,BH,BI,BJ,BL,Act.put,BD,BF,BG];rw[hv];have pX:=zt HB mb;clear hv mb HB hp yD;obtain⟨tt,htt⟩:∃tt,tt=BP gs k:=⟨_,rfl⟩;rw[←htt]
       cases tt with
       |false=>
        have HE:=zh (ml.out htt.symm);clear htt;go_wp2
        go_ret
        exact⟨by rw[HE.out];rfl,gB.out _ pX.out⟩
       |true=>
        have pm:=zh (HAOK.out htt.symm);clear htt;go_wp2
        exact⟨⟨k+1,by omega,by go_num,pX,pm⟩,by simp[intOf];omega⟩
      obtain rfl:n2=k:=by omega
      have HE:Hid (R=true):=zh (by rw[HR4.out,Qq (fun j hj=>HA.out j (by have:=ul.out;omega)),decide_eq_true (by have:=ul.out;omega)]);obtain⟨r0,r1⟩:=ROW.out wr HB.out;have ut:=zc 2 r1 (.slice _ n2 c2) rfl;clear r0 r1;go_wp2
      go_ret
      exact⟨by rw[HE.out];rfl,gB.out _ HB.out⟩
theorem kI {tg tg0 tg1 tg2:Bool}{S:Nat→Prop}{w:World}{A0 A1 A2:Option Addr}{n0 c0 n1 c1 n2 c2:Nat}{s:Shape}{b:Book}(hf:Ej b) (h:Bv w S tg tg0 tg1 tg2 A0 n0 c0 A1 n1 c1 A2 n2 c2 b):
  Calls Tryz.prog 16 #[.agg #[.int .i64 s.K,.int .i64 s.M,.int .i64 s.size],.agg #[.slice A0 n0 c0,.slice A1 n1 c1,.slice A2 n2 c2,.int .i64 b.next]] w (Bl (.bool (qN s b)) w):=
 JO (by have:=hf.st;have:=h.st.len;omega) hf.sl h.st h.th h.ta
end Go.Proofs.YtipecejghioicaaGreat
