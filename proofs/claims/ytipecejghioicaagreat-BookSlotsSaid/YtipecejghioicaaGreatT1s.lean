/- Slots.Take. -/
import Derived.Test.YtipecejghioicaaGreatE2s
import Derived.Deep.Cut
import Derived.Test.YtipecejghioicaaGreatP0s
import Derived.Test.YtipecejghioicaaGreatR2s
set_option maxHeartbeats 8000000
set_option maxRecDepth 100000
namespace Go.Proofs.YtipecejghioicaaGreat
open Go.RowKit Go.Silo
theorem Ct {w:World}{s:Shape}:Calls Tryz.prog 15 #[.agg #[.int .i64 s.K,.int .i64 s.M,.int .i64 s.size]] w (Bf (.bool (qo s)) w):=by
 have hr:qo s=(decide (1≤s.K∧s.K≤8)&&(decide (0≤s.M∧s.M≤6)&&decide (1≤s.size∧s.size≤120))):=by
  unfold qo;rw[Bool.eq_iff_iff];simp;omega
 generalize qo s=r at *;have HR:=zh hr;clear hr;have hrow:=heap_alloc_new w (.cells #[.int .i64 s.K,.int .i64 s.M,.int .i64 s.size] 23);have hB:Below w.heap.size w (w.alloc (.cells #[.int .i64 s.K,.int .i64 s.M,.int .i64 s.size] 23)):=bz;have hz:w.heap.size<(w.alloc (.cells #[.int .i64 s.K,.int .i64 s.M,.int .i64 s.size] 23)).heap.size:=by simp
 go_enter Tryz.func15,Tryz.ntmps15
 go_upto_region 1 with (fail)
 generalize (w.alloc (.cells #[.int .i64 s.K,.int .i64 s.M,.int .i64 s.size] 23))=W0 at *
 have CELLS:Hid (∀W,Below W0.heap.size W0 W→W.cell? ⟨w.heap.size,0,none⟩=some (.int .i64 s.K)∧W.cell? ⟨w.heap.size,1,none⟩=some (.int .i64 s.M)∧W.cell? ⟨w.heap.size,2,none⟩=some (.int .i64 s.size)):=zh (fun W hW=>by
  have r:=(hW.block _ hz).trans hrow
  exact⟨zo 0 r,zo 1 r,zo 2 r⟩)
 have gm:=zh (fun W (hW:Below W0.heap.size W0 W)=>hB.trans (hW.mono (Nat.le_of_lt hz)));clear hB hrow;obtain⟨k0,k1,k2⟩:=CELLS.out W0 (Below.refl _ _);go_wp2_with fail
 refine BH.mono ?_;clear k0 k1 k2;rintro e w1 ⟨rfl,hb1⟩;have gB:=zh hb1;clear hb1;obtain⟨k0,k1,k2⟩:=CELLS.out w1 gB.out
 cases h1:decide (1≤s.K∧s.K≤8) with
 |false=>
  rw[h1] at HR;clear h1;go_wp2
  go_ret
  exact⟨by rw[HR.out];rfl,gm.out _ gB.out⟩
 |true=>
  rw[h1] at HR;clear h1;go_wp2_with fail
  refine Ca.mono ?_;clear k0 k1 k2;rintro e w2 ⟨rfl,hb2⟩;have gu:=zt gB hb2;clear hb2;obtain⟨k0,k1,k2⟩:=CELLS.out w2 gu.out
  cases h2:decide (0≤s.M∧s.M≤6) with
  |false=>
   rw[h2] at HR;clear h2;go_wp2
   go_ret
   exact⟨by rw[HR.out];rfl,gm.out _ gu.out⟩
  |true=>
   rw[h2] at HR;clear h2;go_wp2_with fail
   refine BH.mono ?_;clear k0 k1 k2;rintro e w3 ⟨rfl,hb3⟩;have gG:=zt gu hb3;clear hb3;generalize decide (1≤s.size∧s.size≤120)=b at *;go_wp2
   go_ret
   exact⟨by rw[HR.out];rfl,gm.out _ gG.out⟩
def xP (l:List Slot) (i:Nat):Bool:=qL (l.getD i default)&&xq l i
theorem XH {l:List Slot}(h:∀i,i<l.length→xP l i=true):(zS l&&!(l.any fun p=>!qL p))=true:=by
 have h1:zS l=true:=kh fun i hi=>by have:=h i hi;unfold xP at this;simp only[Bool.and_eq_true] at this;exact this.2
 have h2:(l.any fun p=>!qL p)=false:=by
  rw[List.any_eq_false];intro p hp;obtain⟨i,hi⟩:=List.mem_iff_getElem?.1 hp;have hil:=(List.getElem?_eq_some_iff.1 hi).1;have:=h i hil;unfold xP at this;simp only[Bool.and_eq_true] at this;rw[List.getD_eq_getElem?_getD,hi] at this;have h3:qL p=true:=this.1;simp[h3]
 rw[h1,h2];rfl
theorem ZX {l:List Slot}{i:Nat}(hi:i<l.length) (h:xP l i=false):(zS l&&!(l.any fun p=>!qL p))=false:=by
 unfold xP at h
 cases hs:qL (l.getD i default) with
 |false=>
  have:(l.any fun p=>!qL p)=true:=List.any_eq_true.2 ⟨l.getD i default,zR hi,by rw[hs];rfl⟩;rw[this];simp
 |true=>
  rw[hs,Bool.true_and] at h;rw[jC hi h];rfl
theorem xt {tg:Bool}{S:Nat→Prop}{w:World}{A:Option Addr}{n c:Nat}{s:Shape}{x:Bb}(h:Sl tg 88 qz w S A n c x.place):
  Calls Tryz.prog 83 #[.agg #[.int .i64 s.K,.int .i64 s.M,.int .i64 s.size],.agg #[.int .i64 x.id,.int .i64 x.len,.int .i64 x.gen,.slice A n c]] w (Bf (.bool (qO s x)) w):=by
 have HL:=zh h.len;have hcap:n≤9223372036854775807:=Nat.le_trans h.le h.cap
 have hr:qO s x=((qo s&&(qM x.id&&(qM x.gen&&(decide (1≤x.len∧x.len≤s.K* s.size)&&decide ((n:Int)=s.K+s.M)))))&&(zS x.place&&!(x.place.any fun p=>!qL p))):=by
  unfold qO;rw[HL.out,Bool.decide_and];simp only[Bool.and_assoc]
 have hsh:qo s=true→1≤s.K∧s.K≤8∧0≤s.M∧s.M≤6∧1≤s.size∧s.size≤120:=fun h=>by unfold qo at h;exact of_decide_eq_true h
 have ut:=zh hsh;clear hsh;have HPT:=zh (@XH x.place);have HPF:=zh (fun i=>@ZX x.place i);generalize (zS x.place&&!(x.place.any fun p=>!qL p))=pg at *;generalize qO s x=r at *;have HR:=zh hr;clear hr;have HP:=zh (fun W (hW:Below w.heap.size w W)=>h.all hW);clear h;have rp:((w.alloc (.cells #[.int .i64 s.K,.int .i64 s.M,.int .i64 s.size] 23)).alloc (.cells #[.int .i64 x.id,.int .i64 x.len,.int .i64 x.gen,.slice A n c] 86)).heap[w.heap.size]?=some (.cells #[.int .i64 s.K,.int .i64 s.M,.int .i64 s.size] 23 (0,0)):=by rw[Below.heap_alloc _ _ _ (by simp)];exact heap_alloc_new _ _
 have gY:((w.alloc (.cells #[.int .i64 s.K,.int .i64 s.M,.int .i64 s.size] 23)).alloc (.cells #[.int .i64 x.id,.int .i64 x.len,.int .i64 x.gen,.slice A n c] 86)).heap[w.heap.size+1]?=some (.cells #[.int .i64 x.id,.int .i64 x.len,.int .i64 x.gen,.slice A n c] 86 (0,0)):=by
  have:=heap_alloc_new (w.alloc (.cells #[.int .i64 s.K,.int .i64 s.M,.int .i64 s.size] 23)) (.cells #[.int .i64 x.id,.int .i64 x.len,.int .i64 x.gen,.slice A n c] 86);rw[World.size_alloc] at this;exact this
 have hB0:Below w.heap.size w ((w.alloc (.cells #[.int .i64 s.K,.int .i64 s.M,.int .i64 s.size] 23)).alloc (.cells #[.int .i64 x.id,.int .i64 x.len,.int .i64 x.gen,.slice A n c] 86)):=bz;have hz0:((w.alloc (.cells #[.int .i64 s.K,.int .i64 s.M,.int .i64 s.size] 23)).alloc (.cells #[.int .i64 x.id,.int .i64 x.len,.int .i64 x.gen,.slice A n c] 86)).heap.size=w.heap.size+2:=by simp
 go_enter Tryz.func83,Tryz.ntmps83
 go_upto_region 1 with (fail)
 generalize ((w.alloc (.cells #[.int .i64 s.K,.int .i64 s.M,.int .i64 s.size] 23)).alloc (.cells #[.int .i64 x.id,.int .i64 x.len,.int .i64 x.gen,.slice A n c] 86))=W0 at *
 have CELLS:Hid (∀W,Below W0.heap.size W0 W→W.cell? ⟨w.heap.size,0,none⟩=some (.int .i64 s.K)∧W.cell? ⟨w.heap.size,1,none⟩=some (.int .i64 s.M)∧W.cell? ⟨w.heap.size,2,none⟩=some (.int .i64 s.size)∧
   W.cell? ⟨w.heap.size+1,0,none⟩=some (.int .i64 x.id)∧W.cell? ⟨w.heap.size+1,1,none⟩=some (.int .i64 x.len)∧W.cell? ⟨w.heap.size+1,2,none⟩=some (.int .i64 x.gen)∧W.cell? ⟨w.heap.size+1,3,none⟩=some (.slice A n c)):=zh (fun W hW=>by
  have r0:=(hW.block w.heap.size (by omega)).trans rp;have r1:=(hW.block (w.heap.size+1) (by omega)).trans gY
  exact⟨zo 0 r0,zo 1 r0,zo 2 r0,zo 0 r1,zo 1 r1,zo 2 r1,zo 3 r1⟩)
 have gT:=zh (fun W (hW:Below W0.heap.size W0 W)=>hB0.trans (hW.mono (by omega)));have hz1:w.heap.size+1<W0.heap.size:=by omega
 clear rp gY hB0 hz0;obtain⟨k0,k1,k2,x0,x1,x2,x3⟩:=CELLS.out W0 (Below.refl _ _);go_wp2_with fail
 refine Ct.mono ?_;clear k0 k1 k2 x0 x1 x2 x3;rintro e w1 ⟨rfl,hb1⟩;have gB:=zh hb1;clear hb1;obtain⟨k0,k1,k2,x0,x1,x2,x3⟩:=CELLS.out w1 gB.out
 cases hsh:qo s with
 |false=>
  rw[hsh] at HR;clear hsh;go_wp2
  go_ret
  exact⟨by rw[HR.out];rfl,gT.out _ gB.out⟩
 |true=>
  rw[hsh] at HR;obtain⟨b1,b2,b3,b4,b5,b6⟩:=ut.out hsh;have pX:0≤s.K* s.size:=Int.mul_nonneg (by omega) (by omega);have hm2:s.K* s.size≤960:=Int.le_trans (Int.mul_le_mul b2 b6 (by omega) (by omega)) (by decide);clear hsh ut;go_wp2_with fail
  refine Ca.mono ?_;clear k0 k1 k2 x0 x1 x2 x3;rintro e w2 ⟨rfl,hb2⟩;rw[show decide (0≤x.id∧x.id≤1073741824)=qM x.id from rfl];have gu:=zt gB hb2;clear hb2;obtain⟨k0,k1,k2,x0,x1,x2,x3⟩:=CELLS.out w2 gu.out
  cases hid:qM x.id with
  |false=>
   rw[hid] at HR;clear hid;go_wp2
   go_ret
   exact⟨by rw[HR.out];rfl,gT.out _ gu.out⟩
  |true=>
   rw[hid] at HR;clear hid;go_wp2_with fail
   refine Ca.mono ?_;clear k0 k1 k2 x0 x1 x2 x3;rintro e w3 ⟨rfl,hb3⟩;rw[show decide (0≤x.gen∧x.gen≤1073741824)=qM x.gen from rfl];have gG:=zt gu hb3;clear hb3;obtain⟨k0,k1,k2,x0,x1,x2,x3⟩:=CELLS.out w3 gG.out
   cases hgen:qM x.gen with
   |false=>
    rw[hgen] at HR;clear hgen;go_wp2
    go_ret
    exact⟨by rw[HR.out];rfl,gT.out _ gG.out⟩
   |true=>
    rw[hgen] at HR;clear hgen;go_wp2_with fail
    refine BH.mono ?_;clear k0 k1 k2 x0 x1 x2 x3;rintro e w4 ⟨rfl,hb4⟩;have gv:=zt gG hb4;clear hb4;obtain⟨k0,k1,k2,x0,x1,x2,x3⟩:=CELLS.out w4 gv.out
    cases h1:decide (1≤x.len∧x.len≤s.K* s.size) with
    |false=>
     rw[h1] at HR;clear h1;go_wp2
     go_ret
     exact⟨by rw[HR.out];rfl,gT.out _ gv.out⟩
    |true=>
     rw[h1] at HR;clear h1;by_cases h3:(n:Int)=s.K+s.M
     ·have hne:((n:Int) !=s.K+s.M)=false:=(by simp[h3]);have HF:Hid (r=pg):=zh (by rw[HR.out,decide_eq_true h3];rfl);clear h3 HR;go_wp2_with fail
      clear k0 k1 k2 x0 x1 x2 x3 hne
      go_loopw [5] (fun i wr=>∃k:Nat,k≤n∧i=.int .i64 k∧Hid (Below W0.heap.size W0 wr)∧Hid (∀j,j<k→xP x.place j=true)) (fun i _=>n - (intOf i).toNat)
      case atStart=>exact⟨0,Nat.zero_le _,rfl,gv,zh (fun j hj=>by omega)⟩
      case round=>
       rename World=>wo
       obtain⟨k,hk,rfl,HB,HA⟩:=hrel;clear gB gu gG gv;obtain⟨k0,k1,k2,x0,x1,x2,x3⟩:=CELLS.out wo HB.out;have hzo:w.heap.size+1<wo.heap.size:=Nat.lt_of_lt_of_le hz1 HB.out.size;by_cases hlt:k<n
       ·obtain⟨b,off,rfl,_,hbl,g1,g2,hc0,hc1,_⟩:=(HP.out wo (gT.out _ HB.out)).BX hlt;have hat:xP x.place k=(qL (x.place.getD k default)&&((x.place.getD k default).disk==-1||!((x.place.take k).any (zm (x.place.getD k default).disk)))):=rfl;generalize hp:x.place.getD k default=p at *;have gV:=zh hat;clear hat;have HPP:=zh hp;clear hp;by_cases hd:p.disk=-1
        ·by_cases hp0:p.pos=0
         ·have uu:Hid (∀j,j<k+1→xP x.place j=true):=zh (fun j hj=>by
           by_cases hjk:j=k
           ·subst hjk;rw[gV.out];unfold qL;rw[hd,hp0];rfl
           exact HA.out j (by omega))
          rw[hd] at hc0;rw[hp0] at hc1;clear hd hp0 g1 g2;go_wp2
          exact⟨⟨k+1,by omega,by go_num,zh (HB.out.alloc HB.out.size _),uu⟩,by simp[intOf];omega⟩
         have uP:Hid (pg=false):=zh (HPF.out k (by have:=HL.out;omega) (by
          have h3:qL p=false:=by unfold qL;exact decide_eq_false (by omega)
          rw[gV.out,h3];rfl))
         have hp1:(p.pos==0)=false:=(by simpa using hp0);rw[hd] at hc0;clear hd hp0 g1 g2;go_wp2_with fail
         refine Ca.mono ?_;rintro e w5 ⟨rfl,gH⟩;rw[show decide ((0:Int)≤-1∧(-1:Int)≤11)=false from by decide];have mi:=zh ((HB.out.alloc HB.out.size (.cells #[.int .i64 (-1),.int .i64 p.pos] 88)).trans (gH.mono (by have:=HB.out.size;simp;omega)));clear gH;go_wp2
         go_ret
         exact⟨by rw[HF.out,uP.out];rfl,gT.out _ mi.out⟩
        have hd1:(p.disk==-1)=false:=(by simpa using hd);have yR:=heap_alloc_new wo (.cells #[.int .i64 p.disk,.int .i64 p.pos] 88);have hBp:Below wo.heap.size wo (wo.alloc (.cells #[.int .i64 p.disk,.int .i64 p.pos] 88)):=(Below.refl _ _).alloc (Nat.le_refl _) _;have hzp:wo.heap.size<(wo.alloc (.cells #[.int .i64 p.disk,.int .i64 p.pos] 88)).heap.size:=by simp
        go_upto_region 7 with (fail)
        clear k0 k1 k2 x0 x1 x2 x3 hc0 hc1;generalize (wo.alloc (.cells #[.int .i64 p.disk,.int .i64 p.pos] 88))=W1 at *;have uQ:=zt HB hBp
        have PC:Hid (∀W,Below W1.heap.size W1 W→W.cell? ⟨wo.heap.size,0,none⟩=some (.int .i64 p.disk)∧W.cell? ⟨wo.heap.size,1,none⟩=some (.int .i64 p.pos)):=zh (fun W hW=>by
         have r:=(hW.block _ hzp).trans yR
         exact⟨zo 0 r,zo 1 r⟩)
        clear yR hBp;obtain⟨z0,z1⟩:=PC.out W1 (Below.refl _ _);go_wp2_with fail
        refine Ca.mono ?_;clear z0 z1;rintro e w5 ⟨rfl,gH⟩;obtain⟨z0,z1⟩:=PC.out w5 gH;have mi:=zh gH;clear gH
        cases uN:decide (0≤p.disk∧p.disk≤11) with
        |false=>
         have uP:Hid (pg=false):=zh (HPF.out k (by have:=HL.out;omega) (by
          have h3:qL p=false:=by
           have:=of_decide_eq_false uN;unfold qL;exact decide_eq_false (by omega)
          rw[gV.out,h3];rfl))
         clear uN;go_wp2
         go_ret
         exact⟨by rw[HF.out,uP.out];rfl,gT.out _ (zu uQ mi.out)⟩
        |true=>
         have HN1:=zh (of_decide_eq_true uN);clear uN;go_wp2_with fail
         refine Ca.mono ?_;clear z0 z1;rintro e w6 ⟨rfl,gQ⟩;have pF:=zt mi gQ;clear gQ
         cases rV:decide (0≤p.pos∧p.pos≤63) with
         |false=>
          have uP:Hid (pg=false):=zh (HPF.out k (by have:=HL.out;omega) (by
           have h3:qL p=false:=by
            have:=of_decide_eq_false rV;unfold qL;exact decide_eq_false (by omega)
           rw[gV.out,h3];rfl))
          clear rV;go_wp2
          go_ret
          exact⟨by rw[HF.out,uP.out];rfl,gT.out _ (zu uQ pF.out)⟩
         |true=>
          have pm:Hid (qL p=true):=zh (by
           have h4:=of_decide_eq_true rV;have h5:=HN1.out
           unfold qL;exact decide_eq_true (by omega))
          clear rV;go_wp2_with fail
          go_loopw [7] (fun q wr=>∃j:Nat,j≤k∧q=.int .i64 j∧Hid (Below W1.heap.size W1 wr)∧Hid (∀i,i<j→zm p.disk (x.place.getD i default)=false)) (fun q _=>k - (intOf q).toNat)
          case atStart=>exact⟨0,Nat.zero_le _,rfl,pF,zh (fun i hi=>by omega)⟩
          case round=>
           obtain⟨j,hj,rfl,HBi,HJ⟩:=hrel;have hBt:=uQ.out.trans (HBi.out.mono uQ.out.size);obtain⟨k0,k1,k2,x0,x1,x2,x3⟩:=CELLS.out wr hBt;obtain⟨z0,z1⟩:=PC.out wr HBi.out;have hzw:w.heap.size+1<wr.heap.size:=Nat.lt_of_lt_of_le hz1 hBt.size;have hzq:wo.heap.size<wr.heap.size:=Nat.lt_of_lt_of_le hzp HBi.out.size;by_cases hjl:j<k
           ·obtain⟨b',off',he,_,hbl',_,_,hd0,_,_⟩:=(HP.out wr (gT.out _ hBt)).BX (show j<n by omega);injection he with he;injection he with he1 he2 _;subst he1;subst he2
            have HBT:=zh hBt;clear hBt;generalize hq:(x.place.getD j default).disk=dj at *;have HQ:=zh hq;clear hq;by_cases heq:dj=p.disk
            ·have hb:(dj==p.disk)=true:=by simpa using heq
             have uP:Hid (pg=false):=zh (HPF.out k (by have:=HL.out;omega) (by
              have ro:(x.place.take k).any (zm p.disk)=true:=List.any_eq_true.2 ⟨x.place.getD j default,by
               have hl:j<(x.place.take k).length:=(by rw[List.length_take];have:=HL.out;omega);have:=zR (d:=default) hl;rw[List.getD_eq_getElem?_getD,List.getElem?_take,if_pos hjl,←List.getD_eq_getElem?_getD] at this
               exact this,by unfold zm;rw[HQ.out];exact hb⟩
              rw[gV.out,pm.out,ro,hd1];rfl))
             clear heq;go_wp2_with fail
             have gI:=qX wr;refine qG (by kernel_rfl) (by kernel_rfl) ?_
             repeat (go_big_quiet_step (fail))
             refine wpQuiet_nil ?_;rintro _ ⟨X,rfl⟩;have yC:=zh (HBT.out.trans ((qx wr X).mono HBT.out.size));clear gI k0 k1 k2 x0 x1 x2 x3 z0 z1 hd0;generalize wr.ext X=w8 at *;go_wp2
             go_ret
             exact⟨by rw[HF.out,uP.out];rfl,gT.out _ yC.out⟩
            have hb:(dj==p.disk)=false:=by simpa using heq
            have HJ2:Hid (∀i,i<j+1→zm p.disk (x.place.getD i default)=false):=zh (fun i hi=>by
             by_cases hij:i=j
             ·subst hij;unfold zm;rw[HQ.out];exact hb
             exact HJ.out i (by omega))
            clear heq;go_wp2_with fail
            have gI:=qX wr;refine qG (by kernel_rfl) (by kernel_rfl) ?_
            repeat (go_big_quiet_step (fail))
            refine wpQuiet_nil ?_;rintro _ ⟨X,rfl⟩;have yC:=zh (HBi.out.trans ((qx wr X).mono HBi.out.size));clear gI k0 k1 k2 x0 x1 x2 x3 z0 z1 hd0;generalize wr.ext X=w8 at *;go_wp2
            exact⟨⟨j+1,by omega,by go_num,yC,HJ2⟩,by simp[intOf];omega⟩
           have uu:Hid (∀j,j<k+1→xP x.place j=true):=zh (fun i hi=>by
            by_cases hik:i=k
            ·subst hik
             have ro:(x.place.take i).any (zm p.disk)=false:=by
              rw[List.any_eq_false];intro y hy;obtain⟨q,hq⟩:=List.mem_iff_getElem?.1 hy;rw[List.getElem?_take] at hq
              split at hq
              ·rename_i hqi
               have:=HJ.out q (by omega);rw[List.getD_eq_getElem?_getD,hq] at this;simpa using this
              cases hq
             rw[gV.out,pm.out,ro];simp
            exact HA.out i (by omega))
           have HBT:=zh hBt;clear hBt;clear k0 k1 k2 x0 x1 x2 x3 z0 z1;go_wp2
           exact⟨⟨k+1,by omega,by go_num,HBT,uu⟩,by simp[intOf];omega⟩
       have uP:Hid (pg=true):=zh (HPT.out fun i hi=>HA.out i (by have:=HL.out;omega));go_wp2
       go_ret
       exact⟨by rw[HF.out,uP.out];rfl,gT.out _ HB.out⟩
     have hne:((n:Int) !=s.K+s.M)=true:=(by simp[h3]);have HF:Hid (r=false):=zh (by rw[HR.out,decide_eq_false h3];rfl);clear h3 HR;go_wp2
     go_ret
     exact⟨by rw[HF.out];rfl,gT.out _ gv.out⟩
end Go.Proofs.YtipecejghioicaaGreat
namespace Go.Proofs.YtipecejghioicaaGreat
open Go.RowKit Go.Silo
def qH (s:Shape) (nx:Int) (l:List Bb) (k:Nat):Bool:=qO s (l.getD k default)&&(decide ((l.getD k default).id<nx)&&(decide (k=0)||decide ((l.getD (k - 1) default).id<(l.getD k default).id)))
def qd (l:List Bb) (k:Nat):List Slot:=(l.take k).flatMap (fun x=>x.place)
def zy (l:List Slot):Bool:=decide ((l.filter (fun p=>decide (0≤p.disk))).Nodup)
def qw (s:Shape) (nx:Int) (l:List Bb):Bool:=(List.range l.length).all (qH s nx l)&&zy (qd l l.length)
theorem jj {s:Shape}{nx:Int}{l:List Bb}{k:Nat}(h:k<l.length) (hk:qH s nx l k=false):qw s nx l=false:=by
 unfold qw
 have:(List.range l.length).all (qH s nx l)=false:=by
  rw[List.all_eq_false];exact⟨k,List.mem_range.2 h,by simp[hk]⟩
 rw[this];rfl
theorem zI {l:List Bb}{k:Nat}(h:k<l.length):qd l (k+1)=qd l k++(l.getD k default).place:=by
 unfold qd;rw[List.take_add_one,List.flatMap_append,List.getElem?_eq_getElem h,List.getD_eq_getElem?_getD,List.getElem?_eq_getElem h];simp
theorem ju {l:List Bb}(k:Nat):∃r,qd l l.length=qd l k++r:=by
 refine⟨(l.drop k).flatMap (fun x=>x.place),?_⟩;unfold qd;rw[List.take_length,←List.flatMap_append,List.take_append_drop]
theorem xu {P:List Slot}{q:Slot}(h:zy P=true) (hq:0≤q.disk→q∉P):zy (P++[q])=true:=by
 unfold zy at *;have h1:=of_decide_eq_true h;refine decide_eq_true ?_;rw[List.filter_append];by_cases hd:0≤q.disk
 ·rw[show[q].filter (fun p=>decide (0≤p.disk))=[q] by simp[hd]];refine List.nodup_append.2 ⟨h1,by simp,fun a ha b hb e=>?_⟩;rw[List.mem_singleton.1 hb] at e;subst e;exact hq hd (List.mem_filter.1 ha).1
 rw[show[q].filter (fun p=>decide (0≤p.disk))=[] by simp[hd],List.append_nil];exact h1
theorem xU {s:Shape}{nx:Int}{l:List Bb}{k j:Nat}(h:k<l.length) (hj:j<(l.getD k default).place.length) (hd:0≤((l.getD k default).place.getD j default).disk) (hm:(l.getD k default).place.getD j default∈qd l k++(l.getD k default).place.take j):qw s nx l=false:=by
 have hnd:zy (qd l l.length)=false:=by
  obtain⟨r,hr⟩:=ju (l:=l) (k+1);unfold zy;refine decide_eq_false (fun hn=>?_);rw[hr,zI h,List.filter_append] at hn;have h1:=(List.nodup_append.1 hn).1;generalize (l.getD k default).place=L at *
  have hL:L=L.take j++L.getD j default::L.drop (j+1):=by
   rw[List.getD_eq_getElem?_getD,List.getElem?_eq_getElem hj,Option.getD_some,←List.drop_eq_getElem_cons hj,List.take_append_drop]
  rw[hL,←List.append_assoc,List.filter_append,List.filter_cons] at h1;rw[if_pos (by simpa using hd)] at h1;exact(List.nodup_append.1 h1).2.2 _ (List.mem_filter.2 ⟨hm,by simpa using hd⟩) _ (List.mem_cons_self ..) rfl
 unfold qw;rw[hnd];simp
theorem jk {s:Shape}{nx:Int}{l:List Bb}(h:∀k,k<l.length→qH s nx l k=true) (hn:zy (qd l l.length)=true):qw s nx l=true:=by
 unfold qw;rw[List.all_eq_true.2 (fun k hk=>h k (List.mem_range.1 hk)),hn];rfl
def kj (l:List Slot):List Value:=l.map (fun p=>.agg #[.int .i64 p.disk,.int .i64 p.pos])
theorem QD {l:List Slot}{p:Slot}:Value.agg #[.int .i64 p.disk,.int .i64 p.pos]∈kj l↔p∈l:=by
 unfold kj;constructor
 ·intro h;obtain⟨q,hq,e⟩:=List.mem_map.1 h;injection e with e
  have e1:[Value.int .i64 q.disk,Value.int .i64 q.pos]=[Value.int .i64 p.disk,Value.int .i64 p.pos]:=by simpa using congrArg Array.toList e
  injection e1 with e2 e3
  injection e3 with e3 _
  injection e2 with _ e2
  injection e3 with _ e3
  obtain rfl:q=p:=by cases q;cases p;simp_all
  exact hq
 intro h;exact List.mem_map.2 ⟨p,h,rfl⟩
end Go.Proofs.YtipecejghioicaaGreat
namespace Go.Proofs.YtipecejghioicaaGreat
open Go.RowKit Go.Silo
def DC (w:World) (r:List Slot×Bg×Int) (e:Ending) (w':World):Prop:=
 ∃A n c A0 n0 c0 A1 n1 c1,e=.returned (.tuple #[.slice A n c,.agg #[.slice A0 n0 c0,.slice A1 n1 c1],.int .i64 r.2.2])∧Sl true 88 qz w' (fun b=>w.heap.size≤b) A n c r.1∧
  Sl true 4 Bn w' (fun b=>w.heap.size≤b) A0 n0 c0 r.2.1.live∧Sl true 36 (Cg true 3 Bd) w' (fun b=>w.heap.size≤b) A1 n1 c1 r.2.1.free∧Below w.heap.size w w'
theorem DC.bad {w w':World}{R:List Slot×Bg×Int}{e:Int}(h:R=([],⟨[],[]⟩,e)) (hb:Below w.heap.size w w'):DC w R (.returned (.tuple #[.slice none 0 0,.agg #[.slice none 0 0,.slice none 0 0],.int .i64 e])) w':=by
 subst h;exact⟨_,_,_,_,_,_,_,_,_,rfl,Sl.BA (by decide),Sl.BA (by decide),Sl.BA (by decide),hb⟩
end Go.Proofs.YtipecejghioicaaGreat
