/- Book.stripes in plain: may a book's stripes be? -/
import Derived.Test.YtipecejghioicaaGreatE2t
import Derived.Deep.Cut
set_option maxHeartbeats 8000000
set_option maxRecDepth 100000
namespace Go.Proofs.YtipecejghioicaaGreat
open Go.RowKit Go.Silo
theorem Ch {w:World}{s:Shape}:Calls Tryz.prog 15 #[.agg #[.int .i64 s.K,.int .i64 s.M,.int .i64 s.size]] w (Bl (.bool (qt s)) w):=by
 have hr:qt s=(decide (1≤s.K∧s.K≤8)&&(decide (0≤s.M∧s.M≤6)&&decide (1≤s.size∧s.size≤120))):=by
  unfold qt;rw[Bool.eq_iff_iff];simp;omega
 generalize qt s=r at *;have HR:=zh hr;clear hr;have hrow:=heap_alloc_new w (.cells #[.int .i64 s.K,.int .i64 s.M,.int .i64 s.size] 23);have hB:Below w.heap.size w (w.alloc (.cells #[.int .i64 s.K,.int .i64 s.M,.int .i64 s.size] 23)):=bz;have hz:w.heap.size<(w.alloc (.cells #[.int .i64 s.K,.int .i64 s.M,.int .i64 s.size] 23)).heap.size:=by simp
 go_enter Tryz.func15,Tryz.ntmps15
 go_upto_region 1 with (fail)
 generalize (w.alloc (.cells #[.int .i64 s.K,.int .i64 s.M,.int .i64 s.size] 23))=W0 at *
 have CELLS:Hid (∀W,Below W0.heap.size W0 W→W.cell? ⟨w.heap.size,0,none⟩=some (.int .i64 s.K)∧W.cell? ⟨w.heap.size,1,none⟩=some (.int .i64 s.M)∧W.cell? ⟨w.heap.size,2,none⟩=some (.int .i64 s.size)):=zh (fun W hW=>by
  have r:=(hW.block _ hz).trans hrow
  exact⟨zo 0 r,zo 1 r,zo 2 r⟩)
 have gB:=zh (fun W (hW:Below W0.heap.size W0 W)=>hB.trans (hW.mono (Nat.le_of_lt hz)));clear hB hrow;obtain⟨k0,k1,k2⟩:=CELLS.out W0 (Below.refl _ _);go_wp2_with fail
 refine Bj.mono ?_;clear k0 k1 k2;rintro e w1 ⟨rfl,hb1⟩;have gH:=zh hb1;clear hb1;obtain⟨k0,k1,k2⟩:=CELLS.out w1 gH.out
 cases h1:decide (1≤s.K∧s.K≤8) with
 |false=>
  rw[h1] at HR;clear h1;go_wp2
  go_ret
  exact⟨by rw[HR.out];rfl,gB.out _ gH.out⟩
 |true=>
  rw[h1] at HR;clear h1;go_wp2_with fail
  refine BB.mono ?_;clear k0 k1 k2;rintro e w2 ⟨rfl,hb2⟩;have gF:=zt gH hb2;clear hb2;obtain⟨k0,k1,k2⟩:=CELLS.out w2 gF.out
  cases h2:decide (0≤s.M∧s.M≤6) with
  |false=>
   rw[h2] at HR;clear h2;go_wp2
   go_ret
   exact⟨by rw[HR.out];rfl,gB.out _ gF.out⟩
  |true=>
   rw[h2] at HR;clear h2;go_wp2_with fail
   refine Bj.mono ?_;clear k0 k1 k2;rintro e w3 ⟨rfl,hb3⟩;have mr:=zt gF hb3;clear hb3;generalize decide (1≤s.size∧s.size≤120)=b at *;go_wp2
   go_ret
   exact⟨by rw[HR.out];rfl,gB.out _ mr.out⟩
def jp (l:List Slot) (i:Nat):Bool:=zj (l.getD i default)&&xW l i
theorem Js {l:List Slot}(h:∀i,i<l.length→jp l i=true):(xr l&&!(l.any fun p=>!zj p))=true:=by
 have h1:xr l=true:=kM fun i hi=>by have:=h i hi;unfold jp at this;simp only[Bool.and_eq_true] at this;exact this.2
 have h2:(l.any fun p=>!zj p)=false:=by
  rw[List.any_eq_false];intro p hp;obtain⟨i,hi⟩:=List.mem_iff_getElem?.1 hp;have hil:=(List.getElem?_eq_some_iff.1 hi).1;have:=h i hil;unfold jp at this;simp only[Bool.and_eq_true] at this;rw[List.getD_eq_getElem?_getD,hi] at this;have h3:zj p=true:=this.1;simp[h3]
 rw[h1,h2];rfl
theorem Xx {l:List Slot}{i:Nat}(hi:i<l.length) (h:jp l i=false):(xr l&&!(l.any fun p=>!zj p))=false:=by
 unfold jp at h
 cases hs:zj (l.getD i default) with
 |false=>
  have:(l.any fun p=>!zj p)=true:=List.any_eq_true.2 ⟨l.getD i default,qP hi,by rw[hs];rfl⟩;rw[this];simp
 |true=>
  rw[hs,Bool.true_and] at h;rw[kj hi h];rfl
theorem xX {tg:Bool}{S:Nat→Prop}{w:World}{A:Option Addr}{n c:Nat}{s:Shape}{x:Bc}(h:Sl tg 88 qq w S A n c x.place):
  Calls Tryz.prog 83 #[.agg #[.int .i64 s.K,.int .i64 s.M,.int .i64 s.size],.agg #[.int .i64 x.id,.int .i64 x.len,.int .i64 x.gen,.slice A n c]] w (Bl (.bool (zk s x)) w):=by
 have HL:=zh h.len;have hcap:n≤9223372036854775807:=Nat.le_trans h.le h.cap
 have hr:zk s x=((qt s&&(qg x.id&&(qg x.gen&&(decide (1≤x.len∧x.len≤s.K* s.size)&&decide ((n:Int)=s.K+s.M)))))&&(xr x.place&&!(x.place.any fun p=>!zj p))):=by
  unfold zk;rw[HL.out,Bool.decide_and];simp only[Bool.and_assoc]
 have hsh:qt s=true→1≤s.K∧s.K≤8∧0≤s.M∧s.M≤6∧1≤s.size∧s.size≤120:=fun h=>by unfold qt at h;exact of_decide_eq_true h
 have vG:=zh hsh;clear hsh;have HPT:=zh (@Js x.place);have HPF:=zh (fun i=>@Xx x.place i);generalize (xr x.place&&!(x.place.any fun p=>!zj p))=pg at *;generalize zk s x=r at *;have HR:=zh hr;clear hr;have HP:=zh (fun W (hW:Below w.heap.size w W)=>h.all hW);clear h;have uZ:((w.alloc (.cells #[.int .i64 s.K,.int .i64 s.M,.int .i64 s.size] 23)).alloc (.cells #[.int .i64 x.id,.int .i64 x.len,.int .i64 x.gen,.slice A n c] 86)).heap[w.heap.size]?=some (.cells #[.int .i64 s.K,.int .i64 s.M,.int .i64 s.size] 23 (0,0)):=by rw[Below.heap_alloc _ _ _ (by simp)];exact heap_alloc_new _ _
 have vd:((w.alloc (.cells #[.int .i64 s.K,.int .i64 s.M,.int .i64 s.size] 23)).alloc (.cells #[.int .i64 x.id,.int .i64 x.len,.int .i64 x.gen,.slice A n c] 86)).heap[w.heap.size+1]?=some (.cells #[.int .i64 x.id,.int .i64 x.len,.int .i64 x.gen,.slice A n c] 86 (0,0)):=by
  have:=heap_alloc_new (w.alloc (.cells #[.int .i64 s.K,.int .i64 s.M,.int .i64 s.size] 23)) (.cells #[.int .i64 x.id,.int .i64 x.len,.int .i64 x.gen,.slice A n c] 86);rw[World.size_alloc] at this;exact this
 have hB0:Below w.heap.size w ((w.alloc (.cells #[.int .i64 s.K,.int .i64 s.M,.int .i64 s.size] 23)).alloc (.cells #[.int .i64 x.id,.int .i64 x.len,.int .i64 x.gen,.slice A n c] 86)):=bz;have hz0:((w.alloc (.cells #[.int .i64 s.K,.int .i64 s.M,.int .i64 s.size] 23)).alloc (.cells #[.int .i64 x.id,.int .i64 x.len,.int .i64 x.gen,.slice A n c] 86)).heap.size=w.heap.size+2:=by simp
 go_enter Tryz.func83,Tryz.ntmps83
 go_upto_region 1 with (fail)
 generalize ((w.alloc (.cells #[.int .i64 s.K,.int .i64 s.M,.int .i64 s.size] 23)).alloc (.cells #[.int .i64 x.id,.int .i64 x.len,.int .i64 x.gen,.slice A n c] 86))=W0 at *
 have CELLS:Hid (∀W,Below W0.heap.size W0 W→W.cell? ⟨w.heap.size,0,none⟩=some (.int .i64 s.K)∧W.cell? ⟨w.heap.size,1,none⟩=some (.int .i64 s.M)∧W.cell? ⟨w.heap.size,2,none⟩=some (.int .i64 s.size)∧
   W.cell? ⟨w.heap.size+1,0,none⟩=some (.int .i64 x.id)∧W.cell? ⟨w.heap.size+1,1,none⟩=some (.int .i64 x.len)∧W.cell? ⟨w.heap.size+1,2,none⟩=some (.int .i64 x.gen)∧W.cell? ⟨w.heap.size+1,3,none⟩=some (.slice A n c)):=zh (fun W hW=>by
  have r0:=(hW.block w.heap.size (by omega)).trans uZ;have r1:=(hW.block (w.heap.size+1) (by omega)).trans vd
  exact⟨zo 0 r0,zo 1 r0,zo 2 r0,zo 0 r1,zo 1 r1,zo 2 r1,zo 3 r1⟩)
 have mE:=zh (fun W (hW:Below W0.heap.size W0 W)=>hB0.trans (hW.mono (by omega)));have hz1:w.heap.size+1<W0.heap.size:=by omega
 clear uZ vd hB0 hz0;obtain⟨k0,k1,k2,x0,x1,x2,x3⟩:=CELLS.out W0 (Below.refl _ _);go_wp2_with fail
 refine Ch.mono ?_;clear k0 k1 k2 x0 x1 x2 x3;rintro e w1 ⟨rfl,hb1⟩;have gH:=zh hb1;clear hb1;obtain⟨k0,k1,k2,x0,x1,x2,x3⟩:=CELLS.out w1 gH.out
 cases hsh:qt s with
 |false=>
  rw[hsh] at HR;clear hsh;go_wp2
  go_ret
  exact⟨by rw[HR.out];rfl,mE.out _ gH.out⟩
 |true=>
  rw[hsh] at HR;obtain⟨b1,b2,b3,b4,b5,b6⟩:=vG.out hsh;have nP:0≤s.K* s.size:=Int.mul_nonneg (by omega) (by omega);have hm2:s.K* s.size≤960:=Int.le_trans (Int.mul_le_mul b2 b6 (by omega) (by omega)) (by decide);clear hsh vG;go_wp2_with fail
  refine BB.mono ?_;clear k0 k1 k2 x0 x1 x2 x3;rintro e w2 ⟨rfl,hb2⟩;rw[show decide (0≤x.id∧x.id≤1073741824)=qg x.id from rfl];have gF:=zt gH hb2;clear hb2;obtain⟨k0,k1,k2,x0,x1,x2,x3⟩:=CELLS.out w2 gF.out
  cases hid:qg x.id with
  |false=>
   rw[hid] at HR;clear hid;go_wp2
   go_ret
   exact⟨by rw[HR.out];rfl,mE.out _ gF.out⟩
  |true=>
   rw[hid] at HR;clear hid;go_wp2_with fail
   refine BB.mono ?_;clear k0 k1 k2 x0 x1 x2 x3;rintro e w3 ⟨rfl,hb3⟩;rw[show decide (0≤x.gen∧x.gen≤1073741824)=qg x.gen from rfl];have mr:=zt gF hb3;clear hb3;obtain⟨k0,k1,k2,x0,x1,x2,x3⟩:=CELLS.out w3 mr.out
   cases hgen:qg x.gen with
   |false=>
    rw[hgen] at HR;clear hgen;go_wp2
    go_ret
    exact⟨by rw[HR.out];rfl,mE.out _ mr.out⟩
   |true=>
    rw[hgen] at HR;clear hgen;go_wp2_with fail
    refine Bj.mono ?_;clear k0 k1 k2 x0 x1 x2 x3;rintro e w4 ⟨rfl,hb4⟩;have gW:=zt mr hb4;clear hb4;obtain⟨k0,k1,k2,x0,x1,x2,x3⟩:=CELLS.out w4 gW.out
    cases h1:decide (1≤x.len∧x.len≤s.K* s.size) with
    |false=>
     rw[h1] at HR;clear h1;go_wp2
     go_ret
     exact⟨by rw[HR.out];rfl,mE.out _ gW.out⟩
    |true=>
     rw[h1] at HR;clear h1;by_cases h3:(n:Int)=s.K+s.M
     ·have hne:((n:Int) !=s.K+s.M)=false:=(by simp[h3]);have HF:Hid (r=pg):=zh (by rw[HR.out,decide_eq_true h3];rfl);clear h3 HR;go_wp2_with fail
      clear k0 k1 k2 x0 x1 x2 x3 hne
      go_loopw [5] (fun i wr=>∃k:Nat,k≤n∧i=.int .i64 k∧Hid (Below W0.heap.size W0 wr)∧Hid (∀j,j<k→jp x.place j=true)) (fun i _=>n - (intOf i).toNat)
      case atStart=>exact⟨0,Nat.zero_le _,rfl,gW,zh (fun j hj=>by omega)⟩
      case round=>
       rename World=>wo
       obtain⟨k,hk,rfl,HB,HA⟩:=hrel;clear gH gF mr gW;obtain⟨k0,k1,k2,x0,x1,x2,x3⟩:=CELLS.out wo HB.out;have hzo:w.heap.size+1<wo.heap.size:=Nat.lt_of_lt_of_le hz1 HB.out.size;by_cases hlt:k<n
       ·obtain⟨b,off,rfl,_,hbl,g1,g2,hc0,hc1,_⟩:=(HP.out wo (mE.out _ HB.out)).BM hlt;have hat:jp x.place k=(zj (x.place.getD k default)&&((x.place.getD k default).disk==-1||!((x.place.take k).any (zI (x.place.getD k default).disk)))):=rfl;generalize hp:x.place.getD k default=p at *;have mW:=zh hat;clear hat;have HPP:=zh hp;clear hp;by_cases hd:p.disk=-1
        ·by_cases hp0:p.pos=0
         ·have H2:Hid (∀j,j<k+1→jp x.place j=true):=zh (fun j hj=>by
           by_cases hjk:j=k
           ·subst hjk;rw[mW.out];unfold zj;rw[hd,hp0];rfl
           exact HA.out j (by omega))
          rw[hd] at hc0;rw[hp0] at hc1;clear hd hp0 g1 g2;go_wp2
          exact⟨⟨k+1,by omega,by go_num,zh (HB.out.alloc HB.out.size _),H2⟩,by simp[intOf];omega⟩
         have yT:Hid (pg=false):=zh (HPF.out k (by have:=HL.out;omega) (by
          have h3:zj p=false:=by unfold zj;exact decide_eq_false (by omega)
          rw[mW.out,h3];rfl))
         have hp1:(p.pos==0)=false:=(by simpa using hp0);rw[hd] at hc0;clear hd hp0 g1 g2;go_wp2_with fail
         refine BB.mono ?_;rintro e w5 ⟨rfl,gG⟩;rw[show decide ((0:Int)≤-1∧(-1:Int)≤11)=false from by decide];have mo:=zh ((HB.out.alloc HB.out.size (.cells #[.int .i64 (-1),.int .i64 p.pos] 88)).trans (gG.mono (by have:=HB.out.size;simp;omega)));clear gG;go_wp2
         go_ret
         exact⟨by rw[HF.out,yT.out];rfl,mE.out _ mo.out⟩
        have hd1:(p.disk==-1)=false:=(by simpa using hd);have Hn:=heap_alloc_new wo (.cells #[.int .i64 p.disk,.int .i64 p.pos] 88);have hBp:Below wo.heap.size wo (wo.alloc (.cells #[.int .i64 p.disk,.int .i64 p.pos] 88)):=(Below.refl _ _).alloc (Nat.le_refl _) _;have hzp:wo.heap.size<(wo.alloc (.cells #[.int .i64 p.disk,.int .i64 p.pos] 88)).heap.size:=by simp
        go_upto_region 7 with (fail)
        clear k0 k1 k2 x0 x1 x2 x3 hc0 hc1;generalize (wo.alloc (.cells #[.int .i64 p.disk,.int .i64 p.pos] 88))=W1 at *;have nC:=zt HB hBp
        have PC:Hid (∀W,Below W1.heap.size W1 W→W.cell? ⟨wo.heap.size,0,none⟩=some (.int .i64 p.disk)∧W.cell? ⟨wo.heap.size,1,none⟩=some (.int .i64 p.pos)):=zh (fun W hW=>by
         have r:=(hW.block _ hzp).trans Hn
         exact⟨zo 0 r,zo 1 r⟩)
        clear Hn hBp;obtain⟨z0,z1⟩:=PC.out W1 (Below.refl _ _);go_wp2_with fail
        refine BB.mono ?_;clear z0 z1;rintro e w5 ⟨rfl,gG⟩;obtain⟨z0,z1⟩:=PC.out w5 gG;have mo:=zh gG;clear gG
        cases pH:decide (0≤p.disk∧p.disk≤11) with
        |false=>
         have yT:Hid (pg=false):=zh (HPF.out k (by have:=HL.out;omega) (by
          have h3:zj p=false:=by
           have:=of_decide_eq_false pH;unfold zj;exact decide_eq_false (by omega)
          rw[mW.out,h3];rfl))
         clear pH;go_wp2
         go_ret
         exact⟨by rw[HF.out,yT.out];rfl,mE.out _ (zu nC mo.out)⟩
        |true=>
         have HN1:=zh (of_decide_eq_true pH);clear pH;go_wp2_with fail
         refine BB.mono ?_;clear z0 z1;rintro e w6 ⟨rfl,gp⟩;have gz:=zt mo gp;clear gp
         cases uf:decide (0≤p.pos∧p.pos≤63) with
         |false=>
          have yT:Hid (pg=false):=zh (HPF.out k (by have:=HL.out;omega) (by
           have h3:zj p=false:=by
            have:=of_decide_eq_false uf;unfold zj;exact decide_eq_false (by omega)
           rw[mW.out,h3];rfl))
          clear uf;go_wp2
          go_ret
          exact⟨by rw[HF.out,yT.out];rfl,mE.out _ (zu nC gz.out)⟩
         |true=>
          have nQ:Hid (zj p=true):=zh (by
           have h4:=of_decide_eq_true uf;have h5:=HN1.out
           unfold zj;exact decide_eq_true (by omega))
          clear uf;go_wp2_with fail
          go_loopw [7] (fun q wr=>∃j:Nat,j≤k∧q=.int .i64 j∧Hid (Below W1.heap.size W1 wr)∧Hid (∀i,i<j→zI p.disk (x.place.getD i default)=false)) (fun q _=>k - (intOf q).toNat)
          case atStart=>exact⟨0,Nat.zero_le _,rfl,gz,zh (fun i hi=>by omega)⟩
          case round=>
           obtain⟨j,hj,rfl,HBi,HJ⟩:=hrel;have hBt:=nC.out.trans (HBi.out.mono nC.out.size);obtain⟨k0,k1,k2,x0,x1,x2,x3⟩:=CELLS.out wr hBt;obtain⟨z0,z1⟩:=PC.out wr HBi.out;have hzw:w.heap.size+1<wr.heap.size:=Nat.lt_of_lt_of_le hz1 hBt.size;have hzq:wo.heap.size<wr.heap.size:=Nat.lt_of_lt_of_le hzp HBi.out.size;by_cases hjl:j<k
           ·obtain⟨b',off',he,_,hbl',_,_,hd0,_,_⟩:=(HP.out wr (mE.out _ hBt)).BM (show j<n by omega);injection he with he;injection he with he1 H3 _;subst he1;subst H3
            have HBT:=zh hBt;clear hBt;generalize hq:(x.place.getD j default).disk=dj at *;have HQ:=zh hq;clear hq;by_cases heq:dj=p.disk
            ·have hb:(dj==p.disk)=true:=by simpa using heq
             have yT:Hid (pg=false):=zh (HPF.out k (by have:=HL.out;omega) (by
              have uY:(x.place.take k).any (zI p.disk)=true:=List.any_eq_true.2 ⟨x.place.getD j default,by
               have hl:j<(x.place.take k).length:=(by rw[List.length_take];have:=HL.out;omega);have:=qP (d:=default) hl;rw[List.getD_eq_getElem?_getD,List.getElem?_take,if_pos hjl,←List.getD_eq_getElem?_getD] at this
               exact this,by unfold zI;rw[HQ.out];exact hb⟩
              rw[mW.out,nQ.out,uY,hd1];rfl))
             clear heq;go_wp2_with fail
             have pc:=xc wr;refine zi (by kernel_rfl) (by kernel_rfl) ?_
             repeat (go_big_quiet_step (fail))
             refine wpQuiet_nil ?_;rintro _ ⟨X,rfl⟩;have GX:=zh (HBT.out.trans ((zs wr X).mono HBT.out.size));clear pc k0 k1 k2 x0 x1 x2 x3 z0 z1 hd0;generalize wr.ext X=w8 at *;go_wp2
             go_ret
             exact⟨by rw[HF.out,yT.out];rfl,mE.out _ GX.out⟩
            have hb:(dj==p.disk)=false:=by simpa using heq
            have HJ2:Hid (∀i,i<j+1→zI p.disk (x.place.getD i default)=false):=zh (fun i hi=>by
             by_cases hij:i=j
             ·subst hij;unfold zI;rw[HQ.out];exact hb
             exact HJ.out i (by omega))
            clear heq;go_wp2_with fail
            have pc:=xc wr;refine zi (by kernel_rfl) (by kernel_rfl) ?_
            repeat (go_big_quiet_step (fail))
            refine wpQuiet_nil ?_;rintro _ ⟨X,rfl⟩;have GX:=zh (HBi.out.trans ((zs wr X).mono HBi.out.size));clear pc k0 k1 k2 x0 x1 x2 x3 z0 z1 hd0;generalize wr.ext X=w8 at *;go_wp2
            exact⟨⟨j+1,by omega,by go_num,GX,HJ2⟩,by simp[intOf];omega⟩
           have H2:Hid (∀j,j<k+1→jp x.place j=true):=zh (fun i hi=>by
            by_cases hik:i=k
            ·subst hik
             have uY:(x.place.take i).any (zI p.disk)=false:=by
              rw[List.any_eq_false];intro y hy;obtain⟨q,hq⟩:=List.mem_iff_getElem?.1 hy;rw[List.getElem?_take] at hq
              split at hq
              ·rename_i hqi
               have:=HJ.out q (by omega);rw[List.getD_eq_getElem?_getD,hq] at this;simpa using this
              cases hq
             rw[mW.out,nQ.out,uY];simp
            exact HA.out i (by omega))
           have HBT:=zh hBt;clear hBt;clear k0 k1 k2 x0 x1 x2 x3 z0 z1;go_wp2
           exact⟨⟨k+1,by omega,by go_num,HBT,H2⟩,by simp[intOf];omega⟩
       have yT:Hid (pg=true):=zh (HPT.out fun i hi=>HA.out i (by have:=HL.out;omega));go_wp2
       go_ret
       exact⟨by rw[HF.out,yT.out];rfl,mE.out _ HB.out⟩
     have hne:((n:Int) !=s.K+s.M)=true:=(by simp[h3]);have HF:Hid (r=false):=zh (by rw[HR.out,decide_eq_false h3];rfl);clear h3 HR;go_wp2
     go_ret
     exact⟨by rw[HF.out];rfl,mE.out _ gW.out⟩
def qY (s:Shape) (nx:Int) (l:List Bc) (k:Nat):Bool:=zk s (l.getD k default)&&(decide ((l.getD k default).id<nx)&&(decide (k=0)||decide ((l.getD (k - 1) default).id<(l.getD k default).id)))
def qh (l:List Bc) (k:Nat):List Slot:=(l.take k).flatMap (fun x=>x.place)
def zN (l:List Slot):Bool:=decide ((l.filter (fun p=>decide (0≤p.disk))).Nodup)
def qI (s:Shape) (nx:Int) (l:List Bc):Bool:=(List.range l.length).all (qY s nx l)&&zN (qh l l.length)
theorem jK {s:Shape}{nx:Int}{l:List Bc}{k:Nat}(h:k<l.length) (hk:qY s nx l k=false):qI s nx l=false:=by
 unfold qI
 have:(List.range l.length).all (qY s nx l)=false:=by
  rw[List.all_eq_false];exact⟨k,List.mem_range.2 h,by simp[hk]⟩
 rw[this];rfl
theorem zZ {l:List Bc}{k:Nat}(h:k<l.length):qh l (k+1)=qh l k++(l.getD k default).place:=by
 unfold qh;rw[List.take_add_one,List.flatMap_append,List.getElem?_eq_getElem h,List.getD_eq_getElem?_getD,List.getElem?_eq_getElem h];simp
theorem jV {l:List Bc}(k:Nat):∃r,qh l l.length=qh l k++r:=by
 refine⟨(l.drop k).flatMap (fun x=>x.place),?_⟩;unfold qh;rw[List.take_length,←List.flatMap_append,List.take_append_drop]
theorem xY {P:List Slot}{q:Slot}(h:zN P=true) (hq:0≤q.disk→q∉P):zN (P++[q])=true:=by
 unfold zN at *;have h1:=of_decide_eq_true h;refine decide_eq_true ?_;rw[List.filter_append];by_cases hd:0≤q.disk
 ·rw[show[q].filter (fun p=>decide (0≤p.disk))=[q] by simp[hd]];refine List.nodup_append.2 ⟨h1,by simp,fun a ha b hb e=>?_⟩;rw[List.mem_singleton.1 hb] at e;subst e;exact hq hd (List.mem_filter.1 ha).1
 rw[show[q].filter (fun p=>decide (0≤p.disk))=[] by simp[hd],List.append_nil];exact h1
theorem jx {s:Shape}{nx:Int}{l:List Bc}{k j:Nat}(h:k<l.length) (hj:j<(l.getD k default).place.length) (hd:0≤((l.getD k default).place.getD j default).disk) (hm:(l.getD k default).place.getD j default∈qh l k++(l.getD k default).place.take j):qI s nx l=false:=by
 have hnd:zN (qh l l.length)=false:=by
  obtain⟨r,hr⟩:=jV (l:=l) (k+1);unfold zN;refine decide_eq_false (fun hn=>?_);rw[hr,zZ h,List.filter_append] at hn;have h1:=(List.nodup_append.1 hn).1;generalize (l.getD k default).place=L at *
  have hL:L=L.take j++L.getD j default::L.drop (j+1):=by
   rw[List.getD_eq_getElem?_getD,List.getElem?_eq_getElem hj,Option.getD_some,←List.drop_eq_getElem_cons hj,List.take_append_drop]
  rw[hL,←List.append_assoc,List.filter_append,List.filter_cons] at h1;rw[if_pos (by simpa using hd)] at h1;exact(List.nodup_append.1 h1).2.2 _ (List.mem_filter.2 ⟨hm,by simpa using hd⟩) _ (List.mem_cons_self ..) rfl
 unfold qI;rw[hnd];simp
theorem jL {s:Shape}{nx:Int}{l:List Bc}(h:∀k,k<l.length→qY s nx l k=true) (hn:zN (qh l l.length)=true):qI s nx l=true:=by
 unfold qI;rw[List.all_eq_true.2 (fun k hk=>h k (List.mem_range.1 hk)),hn];rfl
def kN (l:List Slot):List Value:=l.map (fun p=>.agg #[.int .i64 p.disk,.int .i64 p.pos])
theorem Zc {l:List Slot}{p:Slot}:Value.agg #[.int .i64 p.disk,.int .i64 p.pos]∈kN l↔p∈l:=by
 unfold kN;constructor
 ·intro h;obtain⟨q,hq,e⟩:=List.mem_map.1 h;injection e with e
  have e1:[Value.int .i64 q.disk,Value.int .i64 q.pos]=[Value.int .i64 p.disk,Value.int .i64 p.pos]:=by simpa using congrArg Array.toList e
  injection e1 with e2 e3
  injection e3 with e3 _
  injection e2 with _ e2
  injection e3 with _ e3
  obtain rfl:q=p:=by cases q;cases p;simp_all
  exact hq
 intro h;exact List.mem_map.2 ⟨p,h,rfl⟩
end Go.Proofs.YtipecejghioicaaGreat
