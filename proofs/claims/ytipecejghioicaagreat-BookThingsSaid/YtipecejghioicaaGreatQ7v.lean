import Derived.Test.YtipecejghioicaaGreatE2v
import Derived.Deep.Cut
set_option maxHeartbeats 8000000
set_option maxRecDepth 100000
namespace Go.Proofs.YtipecejghioicaaGreat
open Go.RowKit Go.Silo
theorem Ce {w:World}{s:Shape}:Calls Tryz.prog 15 #[.agg #[.int .i64 s.K,.int .i64 s.M,.int .i64 s.size]] w (Bh (.bool (qo s)) w):=by
 have hr:qo s=(decide (1≤s.K∧s.K≤8)&&(decide (0≤s.M∧s.M≤6)&&decide (1≤s.size∧s.size≤120))):=by
  unfold qo;rw[Bool.eq_iff_iff];simp;omega
 generalize qo s=r at *;have HR:=zh hr;clear hr;have hrow:=heap_alloc_new w (.cells #[.int .i64 s.K,.int .i64 s.M,.int .i64 s.size] 23);have hB:Below w.heap.size w (w.alloc (.cells #[.int .i64 s.K,.int .i64 s.M,.int .i64 s.size] 23)):=bz;have hz:w.heap.size<(w.alloc (.cells #[.int .i64 s.K,.int .i64 s.M,.int .i64 s.size] 23)).heap.size:=by simp
 go_enter Tryz.func15,Tryz.ntmps15
 go_upto_region 1 with (fail)
 generalize (w.alloc (.cells #[.int .i64 s.K,.int .i64 s.M,.int .i64 s.size] 23))=W0 at *
 have CELLS:Hid (∀W,Below W0.heap.size W0 W→W.cell? ⟨w.heap.size,0,none⟩=some (.int .i64 s.K)∧W.cell? ⟨w.heap.size,1,none⟩=some (.int .i64 s.M)∧W.cell? ⟨w.heap.size,2,none⟩=some (.int .i64 s.size)):=zh (fun W hW=>by
  have r:=(hW.block _ hz).trans hrow
  exact⟨zo 0 r,zo 1 r,zo 2 r⟩)
 have gm:=zh (fun W (hW:Below W0.heap.size W0 W)=>hB.trans (hW.mono (Nat.le_of_lt hz)));clear hB hrow;obtain⟨k0,k1,k2⟩:=CELLS.out W0 (Below.refl _ _);go_wp2_with fail
 refine BN.mono ?_;clear k0 k1 k2;rintro e w1 ⟨rfl,hb1⟩;have gG:=zh hb1;clear hb1;obtain⟨k0,k1,k2⟩:=CELLS.out w1 gG.out
 cases h1:decide (1≤s.K∧s.K≤8) with
 |false=>
  rw[h1] at HR;clear h1;go_wp2
  go_ret
  exact⟨by rw[HR.out];rfl,gm.out _ gG.out⟩
 |true=>
  rw[h1] at HR;clear h1;go_wp2_with fail
  refine Ci.mono ?_;clear k0 k1 k2;rintro e w2 ⟨rfl,hb2⟩;have gM:=zt gG hb2;clear hb2;obtain⟨k0,k1,k2⟩:=CELLS.out w2 gM.out
  cases h2:decide (0≤s.M∧s.M≤6) with
  |false=>
   rw[h2] at HR;clear h2;go_wp2
   go_ret
   exact⟨by rw[HR.out];rfl,gm.out _ gM.out⟩
  |true=>
   rw[h2] at HR;clear h2;go_wp2_with fail
   refine BN.mono ?_;clear k0 k1 k2;rintro e w3 ⟨rfl,hb3⟩;have mO:=zt gM hb3;clear hb3;generalize decide (1≤s.size∧s.size≤120)=b at *;go_wp2
   go_ret
   exact⟨by rw[HR.out];rfl,gm.out _ mO.out⟩
def jE (l:List Slot) (i:Nat):Bool:=za (l.getD i default)&&je l i
theorem Kh {l:List Slot}(h:∀i,i<l.length→jE l i=true):(xv l&&!(l.any fun p=>!za p))=true:=by
 have h1:xv l=true:=Qk fun i hi=>by have:=h i hi;unfold jE at this;simp only[Bool.and_eq_true] at this;exact this.2
 have h2:(l.any fun p=>!za p)=false:=by
  rw[List.any_eq_false];intro p hp;obtain⟨i,hi⟩:=List.mem_iff_getElem?.1 hp;have hil:=(List.getElem?_eq_some_iff.1 hi).1;have:=h i hil;unfold jE at this;simp only[Bool.and_eq_true] at this;rw[List.getD_eq_getElem?_getD,hi] at this;have h3:za p=true:=this.1;simp[h3]
 rw[h1,h2];rfl
theorem Jh {l:List Slot}{i:Nat}(hi:i<l.length) (h:jE l i=false):(xv l&&!(l.any fun p=>!za p))=false:=by
 unfold jE at h
 cases hs:za (l.getD i default) with
 |false=>
  have:(l.any fun p=>!za p)=true:=List.any_eq_true.2 ⟨l.getD i default,zV hi,by rw[hs];rfl⟩;rw[this];simp
 |true=>
  rw[hs,Bool.true_and] at h;rw[kJ hi h];rfl
theorem jf {tg:Bool}{S:Nat→Prop}{w:World}{A:Option Addr}{n c:Nat}{s:Shape}{x:Bb}(h:Sl tg 88 qr w S A n c x.place):
  Calls Tryz.prog 83 #[.agg #[.int .i64 s.K,.int .i64 s.M,.int .i64 s.size],.agg #[.int .i64 x.id,.int .i64 x.len,.int .i64 x.gen,.slice A n c]] w (Bh (.bool (zg s x)) w):=by
 have HL:=zh h.len;have hcap:n≤9223372036854775807:=Nat.le_trans h.le h.cap
 have hr:zg s x=((qo s&&(qW x.id&&(qW x.gen&&(decide (1≤x.len∧x.len≤s.K* s.size)&&decide ((n:Int)=s.K+s.M)))))&&(xv x.place&&!(x.place.any fun p=>!za p))):=by
  unfold zg;rw[HL.out,Bool.decide_and];simp only[Bool.and_assoc]
 have hsh:qo s=true→1≤s.K∧s.K≤8∧0≤s.M∧s.M≤6∧1≤s.size∧s.size≤120:=fun h=>by unfold qo at h;exact of_decide_eq_true h
 have un:=zh hsh;clear hsh;have HPT:=zh (@Kh x.place);have HPF:=zh (fun i=>@Jh x.place i);generalize (xv x.place&&!(x.place.any fun p=>!za p))=pg at *;generalize zg s x=r at *;have HR:=zh hr;clear hr;have HP:=zh (fun W (hW:Below w.heap.size w W)=>h.all hW);clear h;have vw:((w.alloc (.cells #[.int .i64 s.K,.int .i64 s.M,.int .i64 s.size] 23)).alloc (.cells #[.int .i64 x.id,.int .i64 x.len,.int .i64 x.gen,.slice A n c] 86)).heap[w.heap.size]?=some (.cells #[.int .i64 s.K,.int .i64 s.M,.int .i64 s.size] 23 (0,0)):=by rw[Below.heap_alloc _ _ _ (by simp)];exact heap_alloc_new _ _
 have vz:((w.alloc (.cells #[.int .i64 s.K,.int .i64 s.M,.int .i64 s.size] 23)).alloc (.cells #[.int .i64 x.id,.int .i64 x.len,.int .i64 x.gen,.slice A n c] 86)).heap[w.heap.size+1]?=some (.cells #[.int .i64 x.id,.int .i64 x.len,.int .i64 x.gen,.slice A n c] 86 (0,0)):=by
  have:=heap_alloc_new (w.alloc (.cells #[.int .i64 s.K,.int .i64 s.M,.int .i64 s.size] 23)) (.cells #[.int .i64 x.id,.int .i64 x.len,.int .i64 x.gen,.slice A n c] 86);rw[World.size_alloc] at this;exact this
 have hB0:Below w.heap.size w ((w.alloc (.cells #[.int .i64 s.K,.int .i64 s.M,.int .i64 s.size] 23)).alloc (.cells #[.int .i64 x.id,.int .i64 x.len,.int .i64 x.gen,.slice A n c] 86)):=bz;have hz0:((w.alloc (.cells #[.int .i64 s.K,.int .i64 s.M,.int .i64 s.size] 23)).alloc (.cells #[.int .i64 x.id,.int .i64 x.len,.int .i64 x.gen,.slice A n c] 86)).heap.size=w.heap.size+2:=by simp
 go_enter Tryz.func83,Tryz.ntmps83
 go_upto_region 1 with (fail)
 generalize ((w.alloc (.cells #[.int .i64 s.K,.int .i64 s.M,.int .i64 s.size] 23)).alloc (.cells #[.int .i64 x.id,.int .i64 x.len,.int .i64 x.gen,.slice A n c] 86))=W0 at *
 have CELLS:Hid (∀W,Below W0.heap.size W0 W→W.cell? ⟨w.heap.size,0,none⟩=some (.int .i64 s.K)∧W.cell? ⟨w.heap.size,1,none⟩=some (.int .i64 s.M)∧W.cell? ⟨w.heap.size,2,none⟩=some (.int .i64 s.size)∧
   W.cell? ⟨w.heap.size+1,0,none⟩=some (.int .i64 x.id)∧W.cell? ⟨w.heap.size+1,1,none⟩=some (.int .i64 x.len)∧W.cell? ⟨w.heap.size+1,2,none⟩=some (.int .i64 x.gen)∧W.cell? ⟨w.heap.size+1,3,none⟩=some (.slice A n c)):=zh (fun W hW=>by
  have r0:=(hW.block w.heap.size (by omega)).trans vw;have r1:=(hW.block (w.heap.size+1) (by omega)).trans vz
  exact⟨zo 0 r0,zo 1 r0,zo 2 r0,zo 0 r1,zo 1 r1,zo 2 r1,zo 3 r1⟩)
 have mD:=zh (fun W (hW:Below W0.heap.size W0 W)=>hB0.trans (hW.mono (by omega)));have hz1:w.heap.size+1<W0.heap.size:=by omega
 clear vw vz hB0 hz0;obtain⟨k0,k1,k2,x0,x1,x2,x3⟩:=CELLS.out W0 (Below.refl _ _);go_wp2_with fail
 refine Ce.mono ?_;clear k0 k1 k2 x0 x1 x2 x3;rintro e w1 ⟨rfl,hb1⟩;have gG:=zh hb1;clear hb1;obtain⟨k0,k1,k2,x0,x1,x2,x3⟩:=CELLS.out w1 gG.out
 cases hsh:qo s with
 |false=>
  rw[hsh] at HR;clear hsh;go_wp2
  go_ret
  exact⟨by rw[HR.out];rfl,mD.out _ gG.out⟩
 |true=>
  rw[hsh] at HR;obtain⟨b1,b2,b3,b4,b5,b6⟩:=un.out hsh;have nW:0≤s.K* s.size:=Int.mul_nonneg (by omega) (by omega);have hm2:s.K* s.size≤960:=Int.le_trans (Int.mul_le_mul b2 b6 (by omega) (by omega)) (by decide);clear hsh un;go_wp2_with fail
  refine Ci.mono ?_;clear k0 k1 k2 x0 x1 x2 x3;rintro e w2 ⟨rfl,hb2⟩;rw[show decide (0≤x.id∧x.id≤1073741824)=qW x.id from rfl];have gM:=zt gG hb2;clear hb2;obtain⟨k0,k1,k2,x0,x1,x2,x3⟩:=CELLS.out w2 gM.out
  cases hid:qW x.id with
  |false=>
   rw[hid] at HR;clear hid;go_wp2
   go_ret
   exact⟨by rw[HR.out];rfl,mD.out _ gM.out⟩
  |true=>
   rw[hid] at HR;clear hid;go_wp2_with fail
   refine Ci.mono ?_;clear k0 k1 k2 x0 x1 x2 x3;rintro e w3 ⟨rfl,hb3⟩;rw[show decide (0≤x.gen∧x.gen≤1073741824)=qW x.gen from rfl];have mO:=zt gM hb3;clear hb3;obtain⟨k0,k1,k2,x0,x1,x2,x3⟩:=CELLS.out w3 mO.out
   cases hgen:qW x.gen with
   |false=>
    rw[hgen] at HR;clear hgen;go_wp2
    go_ret
    exact⟨by rw[HR.out];rfl,mD.out _ mO.out⟩
   |true=>
    rw[hgen] at HR;clear hgen;go_wp2_with fail
    refine BN.mono ?_;clear k0 k1 k2 x0 x1 x2 x3;rintro e w4 ⟨rfl,hb4⟩;have mf:=zt mO hb4;clear hb4;obtain⟨k0,k1,k2,x0,x1,x2,x3⟩:=CELLS.out w4 mf.out
    cases h1:decide (1≤x.len∧x.len≤s.K* s.size) with
    |false=>
     rw[h1] at HR;clear h1;go_wp2
     go_ret
     exact⟨by rw[HR.out];rfl,mD.out _ mf.out⟩
    |true=>
     rw[h1] at HR;clear h1;by_cases h3:(n:Int)=s.K+s.M
     ·have hne:((n:Int) !=s.K+s.M)=false:=(by simp[h3]);have HF:Hid (r=pg):=zh (by rw[HR.out,decide_eq_true h3];rfl);clear h3 HR;go_wp2_with fail
      clear k0 k1 k2 x0 x1 x2 x3 hne
      go_loopw [5] (fun i wr=>∃k:Nat,k≤n∧i=.int .i64 k∧Hid (Below W0.heap.size W0 wr)∧Hid (∀j,j<k→jE x.place j=true)) (fun i _=>n - (intOf i).toNat)
      case atStart=>exact⟨0,Nat.zero_le _,rfl,mf,zh (fun j hj=>by omega)⟩
      case round=>
       rename World=>wo
       obtain⟨k,hk,rfl,HB,HA⟩:=hrel;clear gG gM mO mf;obtain⟨k0,k1,k2,x0,x1,x2,x3⟩:=CELLS.out wo HB.out;have hzo:w.heap.size+1<wo.heap.size:=Nat.lt_of_lt_of_le hz1 HB.out.size;by_cases hlt:k<n
       ·obtain⟨b,off,rfl,_,hbl,g1,g2,hc0,hc1,_⟩:=(HP.out wo (mD.out _ HB.out)).C8 hlt;have hat:jE x.place k=(za (x.place.getD k default)&&((x.place.getD k default).disk==-1||!((x.place.take k).any (zJ (x.place.getD k default).disk)))):=rfl;generalize hp:x.place.getD k default=p at *;have mU:=zh hat;clear hat;have HPP:=zh hp;clear hp;by_cases hd:p.disk=-1
        ·by_cases hp0:p.pos=0
         ·have M6:Hid (∀j,j<k+1→jE x.place j=true):=zh (fun j hj=>by
           by_cases hjk:j=k
           ·subst hjk;rw[mU.out];unfold za;rw[hd,hp0];rfl
           exact HA.out j (by omega))
          rw[hd] at hc0;rw[hp0] at hc1;clear hd hp0 g1 g2;go_wp2
          exact⟨⟨k+1,by omega,by go_num,zh (HB.out.alloc HB.out.size _),M6⟩,by simp[intOf];omega⟩
         have GJ:Hid (pg=false):=zh (HPF.out k (by have:=HL.out;omega) (by
          have h3:za p=false:=by unfold za;exact decide_eq_false (by omega)
          rw[mU.out,h3];rfl))
         have hp1:(p.pos==0)=false:=(by simpa using hp0);rw[hd] at hc0;clear hd hp0 g1 g2;go_wp2_with fail
         refine Ci.mono ?_;rintro e w5 ⟨rfl,gB⟩;rw[show decide ((0:Int)≤-1∧(-1:Int)≤11)=false from by decide];have mA:=zh ((HB.out.alloc HB.out.size (.cells #[.int .i64 (-1),.int .i64 p.pos] 88)).trans (gB.mono (by have:=HB.out.size;simp;omega)));clear gB;go_wp2
         go_ret
         exact⟨by rw[HF.out,GJ.out];rfl,mD.out _ mA.out⟩
        have hd1:(p.disk==-1)=false:=(by simpa using hd);have Mv:=heap_alloc_new wo (.cells #[.int .i64 p.disk,.int .i64 p.pos] 88);have hBp:Below wo.heap.size wo (wo.alloc (.cells #[.int .i64 p.disk,.int .i64 p.pos] 88)):=(Below.refl _ _).alloc (Nat.le_refl _) _;have hzp:wo.heap.size<(wo.alloc (.cells #[.int .i64 p.disk,.int .i64 p.pos] 88)).heap.size:=by simp
        go_upto_region 7 with (fail)
        clear k0 k1 k2 x0 x1 x2 x3 hc0 hc1;generalize (wo.alloc (.cells #[.int .i64 p.disk,.int .i64 p.pos] 88))=W1 at *;have nG:=zt HB hBp
        have PC:Hid (∀W,Below W1.heap.size W1 W→W.cell? ⟨wo.heap.size,0,none⟩=some (.int .i64 p.disk)∧W.cell? ⟨wo.heap.size,1,none⟩=some (.int .i64 p.pos)):=zh (fun W hW=>by
         have r:=(hW.block _ hzp).trans Mv
         exact⟨zo 0 r,zo 1 r⟩)
        clear Mv hBp;obtain⟨z0,z1⟩:=PC.out W1 (Below.refl _ _);go_wp2_with fail
        refine Ci.mono ?_;clear z0 z1;rintro e w5 ⟨rfl,gB⟩;obtain⟨z0,z1⟩:=PC.out w5 gB;have mA:=zh gB;clear gB
        cases pu:decide (0≤p.disk∧p.disk≤11) with
        |false=>
         have GJ:Hid (pg=false):=zh (HPF.out k (by have:=HL.out;omega) (by
          have h3:za p=false:=by
           have:=of_decide_eq_false pu;unfold za;exact decide_eq_false (by omega)
          rw[mU.out,h3];rfl))
         clear pu;go_wp2
         go_ret
         exact⟨by rw[HF.out,GJ.out];rfl,mD.out _ (zu nG mA.out)⟩
        |true=>
         have HN1:=zh (of_decide_eq_true pu);clear pu;go_wp2_with fail
         refine Ci.mono ?_;clear z0 z1;rintro e w6 ⟨rfl,gu⟩;have gA:=zt mA gu;clear gu
         cases rO:decide (0≤p.pos∧p.pos≤63) with
         |false=>
          have GJ:Hid (pg=false):=zh (HPF.out k (by have:=HL.out;omega) (by
           have h3:za p=false:=by
            have:=of_decide_eq_false rO;unfold za;exact decide_eq_false (by omega)
           rw[mU.out,h3];rfl))
          clear rO;go_wp2
          go_ret
          exact⟨by rw[HF.out,GJ.out];rfl,mD.out _ (zu nG gA.out)⟩
         |true=>
          have nX:Hid (za p=true):=zh (by
           have h4:=of_decide_eq_true rO;have h5:=HN1.out
           unfold za;exact decide_eq_true (by omega))
          clear rO;go_wp2_with fail
          go_loopw [7] (fun q wr=>∃j:Nat,j≤k∧q=.int .i64 j∧Hid (Below W1.heap.size W1 wr)∧Hid (∀i,i<j→zJ p.disk (x.place.getD i default)=false)) (fun q _=>k - (intOf q).toNat)
          case atStart=>exact⟨0,Nat.zero_le _,rfl,gA,zh (fun i hi=>by omega)⟩
          case round=>
           obtain⟨j,hj,rfl,HBi,HJ⟩:=hrel;have hBt:=nG.out.trans (HBi.out.mono nG.out.size);obtain⟨k0,k1,k2,x0,x1,x2,x3⟩:=CELLS.out wr hBt;obtain⟨z0,z1⟩:=PC.out wr HBi.out;have hzw:w.heap.size+1<wr.heap.size:=Nat.lt_of_lt_of_le hz1 hBt.size;have hzq:wo.heap.size<wr.heap.size:=Nat.lt_of_lt_of_le hzp HBi.out.size;by_cases hjl:j<k
           ·obtain⟨b',off',he,_,hbl',_,_,hd0,_,_⟩:=(HP.out wr (mD.out _ hBt)).C8 (show j<n by omega);injection he with he;injection he with he1 M7 _;subst he1;subst M7
            have HBT:=zh hBt;clear hBt;generalize hq:(x.place.getD j default).disk=dj at *;have HQ:=zh hq;clear hq;by_cases heq:dj=p.disk
            ·have hb:(dj==p.disk)=true:=by simpa using heq
             have GJ:Hid (pg=false):=zh (HPF.out k (by have:=HL.out;omega) (by
              have vv:(x.place.take k).any (zJ p.disk)=true:=List.any_eq_true.2 ⟨x.place.getD j default,by
               have hl:j<(x.place.take k).length:=(by rw[List.length_take];have:=HL.out;omega);have:=zV (d:=default) hl;rw[List.getD_eq_getElem?_getD,List.getElem?_take,if_pos hjl,←List.getD_eq_getElem?_getD] at this
               exact this,by unfold zJ;rw[HQ.out];exact hb⟩
              rw[mU.out,nX.out,vv,hd1];rfl))
             clear heq;go_wp2_with fail
             have px:=xh wr;refine qZ (by kernel_rfl) (by kernel_rfl) ?_
             repeat (go_big_quiet_step (fail))
             refine wpQuiet_nil ?_;rintro _ ⟨X,rfl⟩;have nL:=zh (HBT.out.trans ((zr wr X).mono HBT.out.size));clear px k0 k1 k2 x0 x1 x2 x3 z0 z1 hd0;generalize wr.ext X=w8 at *;go_wp2
             go_ret
             exact⟨by rw[HF.out,GJ.out];rfl,mD.out _ nL.out⟩
            have hb:(dj==p.disk)=false:=by simpa using heq
            have HJ2:Hid (∀i,i<j+1→zJ p.disk (x.place.getD i default)=false):=zh (fun i hi=>by
             by_cases hij:i=j
             ·subst hij;unfold zJ;rw[HQ.out];exact hb
             exact HJ.out i (by omega))
            clear heq;go_wp2_with fail
            have px:=xh wr;refine qZ (by kernel_rfl) (by kernel_rfl) ?_
            repeat (go_big_quiet_step (fail))
            refine wpQuiet_nil ?_;rintro _ ⟨X,rfl⟩;have nL:=zh (HBi.out.trans ((zr wr X).mono HBi.out.size));clear px k0 k1 k2 x0 x1 x2 x3 z0 z1 hd0;generalize wr.ext X=w8 at *;go_wp2
            exact⟨⟨j+1,by omega,by go_num,nL,HJ2⟩,by simp[intOf];omega⟩
           have M6:Hid (∀j,j<k+1→jE x.place j=true):=zh (fun i hi=>by
            by_cases hik:i=k
            ·subst hik
             have vv:(x.place.take i).any (zJ p.disk)=false:=by
              rw[List.any_eq_false];intro y hy;obtain⟨q,hq⟩:=List.mem_iff_getElem?.1 hy;rw[List.getElem?_take] at hq
              split at hq
              ·rename_i hqi
               have:=HJ.out q (by omega);rw[List.getD_eq_getElem?_getD,hq] at this;simpa using this
              cases hq
             rw[mU.out,nX.out,vv];simp
            exact HA.out i (by omega))
           have HBT:=zh hBt;clear hBt;clear k0 k1 k2 x0 x1 x2 x3 z0 z1;go_wp2
           exact⟨⟨k+1,by omega,by go_num,HBT,M6⟩,by simp[intOf];omega⟩
       have GJ:Hid (pg=true):=zh (HPT.out fun i hi=>HA.out i (by have:=HL.out;omega));go_wp2
       go_ret
       exact⟨by rw[HF.out,GJ.out];rfl,mD.out _ HB.out⟩
     have hne:((n:Int) !=s.K+s.M)=true:=(by simp[h3]);have HF:Hid (r=false):=zh (by rw[HR.out,decide_eq_false h3];rfl);clear h3 HR;go_wp2
     go_ret
     exact⟨by rw[HF.out];rfl,mD.out _ mf.out⟩
def qS (s:Shape) (nx:Int) (l:List Bb) (k:Nat):Bool:=zg s (l.getD k default)&&(decide ((l.getD k default).id<nx)&&(decide (k=0)||decide ((l.getD (k - 1) default).id<(l.getD k default).id)))
def qg (l:List Bb) (k:Nat):List Slot:=(l.take k).flatMap (fun x=>x.place)
def zP (l:List Slot):Bool:=decide ((l.filter (fun p=>decide (0≤p.disk))).Nodup)
def qF (s:Shape) (nx:Int) (l:List Bb):Bool:=(List.range l.length).all (qS s nx l)&&zP (qg l l.length)
theorem ke {s:Shape}{nx:Int}{l:List Bb}{k:Nat}(h:k<l.length) (hk:qS s nx l k=false):qF s nx l=false:=by
 unfold qF
 have:(List.range l.length).all (qS s nx l)=false:=by
  rw[List.all_eq_false];exact⟨k,List.mem_range.2 h,by simp[hk]⟩
 rw[this];rfl
theorem xb {l:List Bb}{k:Nat}(h:k<l.length):qg l (k+1)=qg l k++(l.getD k default).place:=by
 unfold qg;rw[List.take_add_one,List.flatMap_append,List.getElem?_eq_getElem h,List.getD_eq_getElem?_getD,List.getElem?_eq_getElem h];simp
theorem kx {l:List Bb}(k:Nat):∃r,qg l l.length=qg l k++r:=by
 refine⟨(l.drop k).flatMap (fun x=>x.place),?_⟩;unfold qg;rw[List.take_length,←List.flatMap_append,List.take_append_drop]
theorem jg {P:List Slot}{q:Slot}(h:zP P=true) (hq:0≤q.disk→q∉P):zP (P++[q])=true:=by
 unfold zP at *;have h1:=of_decide_eq_true h;refine decide_eq_true ?_;rw[List.filter_append];by_cases hd:0≤q.disk
 ·rw[show[q].filter (fun p=>decide (0≤p.disk))=[q] by simp[hd]];refine List.nodup_append.2 ⟨h1,by simp,fun a ha b hb e=>?_⟩;rw[List.mem_singleton.1 hb] at e;subst e;exact hq hd (List.mem_filter.1 ha).1
 rw[show[q].filter (fun p=>decide (0≤p.disk))=[] by simp[hd],List.append_nil];exact h1
theorem jL {s:Shape}{nx:Int}{l:List Bb}{k j:Nat}(h:k<l.length) (hj:j<(l.getD k default).place.length) (hd:0≤((l.getD k default).place.getD j default).disk) (hm:(l.getD k default).place.getD j default∈qg l k++(l.getD k default).place.take j):qF s nx l=false:=by
 have hnd:zP (qg l l.length)=false:=by
  obtain⟨r,hr⟩:=kx (l:=l) (k+1);unfold zP;refine decide_eq_false (fun hn=>?_);rw[hr,xb h,List.filter_append] at hn;have h1:=(List.nodup_append.1 hn).1;generalize (l.getD k default).place=L at *
  have hL:L=L.take j++L.getD j default::L.drop (j+1):=by
   rw[List.getD_eq_getElem?_getD,List.getElem?_eq_getElem hj,Option.getD_some,←List.drop_eq_getElem_cons hj,List.take_append_drop]
  rw[hL,←List.append_assoc,List.filter_append,List.filter_cons] at h1;rw[if_pos (by simpa using hd)] at h1;exact(List.nodup_append.1 h1).2.2 _ (List.mem_filter.2 ⟨hm,by simpa using hd⟩) _ (List.mem_cons_self ..) rfl
 unfold qF;rw[hnd];simp
theorem kg {s:Shape}{nx:Int}{l:List Bb}(h:∀k,k<l.length→qS s nx l k=true) (hn:zP (qg l l.length)=true):qF s nx l=true:=by
 unfold qF;rw[List.all_eq_true.2 (fun k hk=>h k (List.mem_range.1 hk)),hn];rfl
def Ql (l:List Slot):List Value:=l.map (fun p=>.agg #[.int .i64 p.disk,.int .i64 p.pos])
theorem ZJ {l:List Slot}{p:Slot}:Value.agg #[.int .i64 p.disk,.int .i64 p.pos]∈Ql l↔p∈l:=by
 unfold Ql;constructor
 ·intro h;obtain⟨q,hq,e⟩:=List.mem_map.1 h;injection e with e
  have e1:[Value.int .i64 q.disk,Value.int .i64 q.pos]=[Value.int .i64 p.disk,Value.int .i64 p.pos]:=by simpa using congrArg Array.toList e
  injection e1 with e2 e3
  injection e3 with e3 _
  injection e2 with _ e2
  injection e3 with _ e3
  obtain rfl:q=p:=by cases q;cases p;simp_all
  exact hq
 intro h;exact List.mem_map.2 ⟨p,h,rfl⟩
end Go.Proofs.YtipecejghioicaaGreat
