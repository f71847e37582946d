/- Which stripes may be: the page's answer (siloref4.Shape, siloref16.Stripe). -/
import Derived.Test.YtipecejghioicaaGreatE2p
import Derived.Deep.Cut
import Derived.Test.YtipecejghioicaaGreatDatap
set_option maxHeartbeats 8000000
set_option maxRecDepth 100000
namespace Go.Proofs.YtipecejghioicaaGreat
open Go.RowKit Go.Silo
theorem Cq {w:World}{s:Shape}:Calls Tryz.prog 15 #[.agg #[.int .i64 s.K,.int .i64 s.M,.int .i64 s.size]] w (Bf (.bool (qt s)) w):=by
 have hr:qt s=(decide (1≤s.K∧s.K≤8)&&(decide (0≤s.M∧s.M≤6)&&decide (1≤s.size∧s.size≤120))):=by
  unfold qt;rw[Bool.eq_iff_iff];simp;omega
 generalize qt s=r at *;have HR:=zh hr;clear hr;have hrow:=heap_alloc_new w (.cells #[.int .i64 s.K,.int .i64 s.M,.int .i64 s.size] 23);have hB:Below w.heap.size w (w.alloc (.cells #[.int .i64 s.K,.int .i64 s.M,.int .i64 s.size] 23)):=bz;have hz:w.heap.size<(w.alloc (.cells #[.int .i64 s.K,.int .i64 s.M,.int .i64 s.size] 23)).heap.size:=by simp
 go_enter Tryz.func15,Tryz.ntmps15
 go_upto_region 1 with (fail)
 generalize (w.alloc (.cells #[.int .i64 s.K,.int .i64 s.M,.int .i64 s.size] 23))=W0 at *
 have CELLS:Hid (∀W,Below W0.heap.size W0 W→W.cell? ⟨w.heap.size,0,none⟩=some (.int .i64 s.K)∧W.cell? ⟨w.heap.size,1,none⟩=some (.int .i64 s.M)∧W.cell? ⟨w.heap.size,2,none⟩=some (.int .i64 s.size)):=zh (fun W hW=>by
  have r:=(hW.block _ hz).trans hrow
  exact⟨zo 0 r,zo 1 r,zo 2 r⟩)
 have gI:=zh (fun W (hW:Below W0.heap.size W0 W)=>hB.trans (hW.mono (Nat.le_of_lt hz)));clear hB hrow;obtain⟨k0,k1,k2⟩:=CELLS.out W0 (Below.refl _ _);go_wp2_with fail
 refine Bj.mono ?_;clear k0 k1 k2;rintro e w1 ⟨rfl,hb1⟩;have gV:=zh hb1;clear hb1;obtain⟨k0,k1,k2⟩:=CELLS.out w1 gV.out
 cases h1:decide (1≤s.K∧s.K≤8) with
 |false=>
  rw[h1] at HR;clear h1;go_wp2
  go_ret
  exact⟨by rw[HR.out];rfl,gI.out _ gV.out⟩
 |true=>
  rw[h1] at HR;clear h1;go_wp2_with fail
  refine BB.mono ?_;clear k0 k1 k2;rintro e w2 ⟨rfl,hb2⟩;have gM:=zt gV hb2;clear hb2;obtain⟨k0,k1,k2⟩:=CELLS.out w2 gM.out
  cases h2:decide (0≤s.M∧s.M≤6) with
  |false=>
   rw[h2] at HR;clear h2;go_wp2
   go_ret
   exact⟨by rw[HR.out];rfl,gI.out _ gM.out⟩
  |true=>
   rw[h2] at HR;clear h2;go_wp2_with fail
   refine Bj.mono ?_;clear k0 k1 k2;rintro e w3 ⟨rfl,hb3⟩;have mL:=zt gM hb3;clear hb3;generalize decide (1≤s.size∧s.size≤120)=b at *;go_wp2
   go_ret
   exact⟨by rw[HR.out];rfl,gI.out _ mL.out⟩
def jg (l:List Slot) (i:Nat):Bool:=qY (l.getD i default)&&xN l i
theorem XT {l:List Slot}(h:∀i,i<l.length→jg l i=true):(xc l&&!(l.any fun p=>!qY p))=true:=by
 have h1:xc l=true:=kA fun i hi=>by have:=h i hi;unfold jg at this;simp only[Bool.and_eq_true] at this;exact this.2
 have h2:(l.any fun p=>!qY p)=false:=by
  rw[List.any_eq_false];intro p hp;obtain⟨i,hi⟩:=List.mem_iff_getElem?.1 hp;have hil:=(List.getElem?_eq_some_iff.1 hi).1;have:=h i hil;unfold jg at this;simp only[Bool.and_eq_true] at this;rw[List.getD_eq_getElem?_getD,hi] at this;have h3:qY p=true:=this.1;simp[h3]
 rw[h1,h2];rfl
theorem ZZ {l:List Slot}{i:Nat}(hi:i<l.length) (h:jg l i=false):(xc l&&!(l.any fun p=>!qY p))=false:=by
 unfold jg at h
 cases hs:qY (l.getD i default) with
 |false=>
  have:(l.any fun p=>!qY p)=true:=List.any_eq_true.2 ⟨l.getD i default,qK hi,by rw[hs];rfl⟩;rw[this];simp
 |true=>
  rw[hs,Bool.true_and] at h;rw[jV hi h];rfl
theorem xO {tg:Bool}{S:Nat→Prop}{w:World}{A:Option Addr}{n c:Nat}{s:Shape}{x:Bc}(h:Sl tg 88 qp w S A n c x.place):
  Calls Tryz.prog 83 #[.agg #[.int .i64 s.K,.int .i64 s.M,.int .i64 s.size],.agg #[.int .i64 x.id,.int .i64 x.len,.int .i64 x.gen,.slice A n c]] w (Bf (.bool (ze s x)) w):=by
 have HL:=zh h.len;have hcap:n≤9223372036854775807:=Nat.le_trans h.le h.cap
 have hr:ze s x=((qt s&&(qg x.id&&(qg x.gen&&(decide (1≤x.len∧x.len≤s.K* s.size)&&decide ((n:Int)=s.K+s.M)))))&&(xc x.place&&!(x.place.any fun p=>!qY p))):=by
  unfold ze;rw[HL.out,Bool.decide_and];simp only[Bool.and_assoc]
 have hsh:qt s=true→1≤s.K∧s.K≤8∧0≤s.M∧s.M≤6∧1≤s.size∧s.size≤120:=fun h=>by unfold qt at h;exact of_decide_eq_true h
 have vw:=zh hsh;clear hsh;have HPT:=zh (@XT x.place);have HPF:=zh (fun i=>@ZZ x.place i);generalize (xc x.place&&!(x.place.any fun p=>!qY p))=pg at *;generalize ze s x=r at *;have HR:=zh hr;clear hr;have HP:=zh (fun W (hW:Below w.heap.size w W)=>h.all hW);clear h;have vz:((w.alloc (.cells #[.int .i64 s.K,.int .i64 s.M,.int .i64 s.size] 23)).alloc (.cells #[.int .i64 x.id,.int .i64 x.len,.int .i64 x.gen,.slice A n c] 86)).heap[w.heap.size]?=some (.cells #[.int .i64 s.K,.int .i64 s.M,.int .i64 s.size] 23 (0,0)):=by rw[Below.heap_alloc _ _ _ (by simp)];exact heap_alloc_new _ _
 have vA:((w.alloc (.cells #[.int .i64 s.K,.int .i64 s.M,.int .i64 s.size] 23)).alloc (.cells #[.int .i64 x.id,.int .i64 x.len,.int .i64 x.gen,.slice A n c] 86)).heap[w.heap.size+1]?=some (.cells #[.int .i64 x.id,.int .i64 x.len,.int .i64 x.gen,.slice A n c] 86 (0,0)):=by
  have:=heap_alloc_new (w.alloc (.cells #[.int .i64 s.K,.int .i64 s.M,.int .i64 s.size] 23)) (.cells #[.int .i64 x.id,.int .i64 x.len,.int .i64 x.gen,.slice A n c] 86);rw[World.size_alloc] at this;exact this
 have hB0:Below w.heap.size w ((w.alloc (.cells #[.int .i64 s.K,.int .i64 s.M,.int .i64 s.size] 23)).alloc (.cells #[.int .i64 x.id,.int .i64 x.len,.int .i64 x.gen,.slice A n c] 86)):=bz;have hz0:((w.alloc (.cells #[.int .i64 s.K,.int .i64 s.M,.int .i64 s.size] 23)).alloc (.cells #[.int .i64 x.id,.int .i64 x.len,.int .i64 x.gen,.slice A n c] 86)).heap.size=w.heap.size+2:=by simp
 go_enter Tryz.func83,Tryz.ntmps83
 go_upto_region 1 with (fail)
 generalize ((w.alloc (.cells #[.int .i64 s.K,.int .i64 s.M,.int .i64 s.size] 23)).alloc (.cells #[.int .i64 x.id,.int .i64 x.len,.int .i64 x.gen,.slice A n c] 86))=W0 at *
 have CELLS:Hid (∀W,Below W0.heap.size W0 W→W.cell? ⟨w.heap.size,0,none⟩=some (.int .i64 s.K)∧W.cell? ⟨w.heap.size,1,none⟩=some (.int .i64 s.M)∧W.cell? ⟨w.heap.size,2,none⟩=some (.int .i64 s.size)∧
   W.cell? ⟨w.heap.size+1,0,none⟩=some (.int .i64 x.id)∧W.cell? ⟨w.heap.size+1,1,none⟩=some (.int .i64 x.len)∧W.cell? ⟨w.heap.size+1,2,none⟩=some (.int .i64 x.gen)∧W.cell? ⟨w.heap.size+1,3,none⟩=some (.slice A n c)):=zh (fun W hW=>by
  have r0:=(hW.block w.heap.size (by omega)).trans vz;have r1:=(hW.block (w.heap.size+1) (by omega)).trans vA
  exact⟨zo 0 r0,zo 1 r0,zo 2 r0,zo 0 r1,zo 1 r1,zo 2 r1,zo 3 r1⟩)
 have mS:=zh (fun W (hW:Below W0.heap.size W0 W)=>hB0.trans (hW.mono (by omega)));have hz1:w.heap.size+1<W0.heap.size:=by omega
 clear vz vA hB0 hz0;obtain⟨k0,k1,k2,x0,x1,x2,x3⟩:=CELLS.out W0 (Below.refl _ _);go_wp2_with fail
 refine Cq.mono ?_;clear k0 k1 k2 x0 x1 x2 x3;rintro e w1 ⟨rfl,hb1⟩;have gV:=zh hb1;clear hb1;obtain⟨k0,k1,k2,x0,x1,x2,x3⟩:=CELLS.out w1 gV.out
 cases hsh:qt s with
 |false=>
  rw[hsh] at HR;clear hsh;go_wp2
  go_ret
  exact⟨by rw[HR.out];rfl,mS.out _ gV.out⟩
 |true=>
  rw[hsh] at HR;obtain⟨b1,b2,b3,b4,b5,b6⟩:=vw.out hsh;have p9:0≤s.K* s.size:=Int.mul_nonneg (by omega) (by omega);have hm2:s.K* s.size≤960:=Int.le_trans (Int.mul_le_mul b2 b6 (by omega) (by omega)) (by decide);clear hsh vw;go_wp2_with fail
  refine BB.mono ?_;clear k0 k1 k2 x0 x1 x2 x3;rintro e w2 ⟨rfl,hb2⟩;rw[show decide (0≤x.id∧x.id≤1073741824)=qg x.id from rfl];have gM:=zt gV hb2;clear hb2;obtain⟨k0,k1,k2,x0,x1,x2,x3⟩:=CELLS.out w2 gM.out
  cases hid:qg x.id with
  |false=>
   rw[hid] at HR;clear hid;go_wp2
   go_ret
   exact⟨by rw[HR.out];rfl,mS.out _ gM.out⟩
  |true=>
   rw[hid] at HR;clear hid;go_wp2_with fail
   refine BB.mono ?_;clear k0 k1 k2 x0 x1 x2 x3;rintro e w3 ⟨rfl,hb3⟩;rw[show decide (0≤x.gen∧x.gen≤1073741824)=qg x.gen from rfl];have mL:=zt gM hb3;clear hb3;obtain⟨k0,k1,k2,x0,x1,x2,x3⟩:=CELLS.out w3 mL.out
   cases hgen:qg x.gen with
   |false=>
    rw[hgen] at HR;clear hgen;go_wp2
    go_ret
    exact⟨by rw[HR.out];rfl,mS.out _ mL.out⟩
   |true=>
    rw[hgen] at HR;clear hgen;go_wp2_with fail
    refine Bj.mono ?_;clear k0 k1 k2 x0 x1 x2 x3;rintro e w4 ⟨rfl,hb4⟩;have ma:=zt mL hb4;clear hb4;obtain⟨k0,k1,k2,x0,x1,x2,x3⟩:=CELLS.out w4 ma.out
    cases h1:decide (1≤x.len∧x.len≤s.K* s.size) with
    |false=>
     rw[h1] at HR;clear h1;go_wp2
     go_ret
     exact⟨by rw[HR.out];rfl,mS.out _ ma.out⟩
    |true=>
     rw[h1] at HR;clear h1;by_cases h3:(n:Int)=s.K+s.M
     ·have hne:((n:Int) !=s.K+s.M)=false:=(by simp[h3]);have HF:Hid (r=pg):=zh (by rw[HR.out,decide_eq_true h3];rfl);clear h3 HR;go_wp2_with fail
      clear k0 k1 k2 x0 x1 x2 x3 hne
      go_loopw [5] (fun i wr=>∃k:Nat,k≤n∧i=.int .i64 k∧Hid (Below W0.heap.size W0 wr)∧Hid (∀j,j<k→jg x.place j=true)) (fun i _=>n - (intOf i).toNat)
      case atStart=>exact⟨0,Nat.zero_le _,rfl,ma,zh (fun j hj=>by omega)⟩
      case round=>
       rename World=>wo
       obtain⟨k,hk,rfl,HB,HA⟩:=hrel;clear gV gM mL ma;obtain⟨k0,k1,k2,x0,x1,x2,x3⟩:=CELLS.out wo HB.out;have hzo:w.heap.size+1<wo.heap.size:=Nat.lt_of_lt_of_le hz1 HB.out.size;by_cases hlt:k<n
       ·obtain⟨b,off,rfl,_,hbl,g1,g2,hc0,hc1,_⟩:=(HP.out wo (mS.out _ HB.out)).BA hlt;have hat:jg x.place k=(qY (x.place.getD k default)&&((x.place.getD k default).disk==-1||!((x.place.take k).any (zH (x.place.getD k default).disk)))):=rfl;generalize hp:x.place.getD k default=p at *;have nr:=zh hat;clear hat;have HPP:=zh hp;clear hp;by_cases hd:p.disk=-1
        ·by_cases hp0:p.pos=0
         ·have HF2:Hid (∀j,j<k+1→jg x.place j=true):=zh (fun j hj=>by
           by_cases hjk:j=k
           ·subst hjk;rw[nr.out];unfold qY;rw[hd,hp0];rfl
           exact HA.out j (by omega))
          rw[hd] at hc0;rw[hp0] at hc1;clear hd hp0 g1 g2;go_wp2
          exact⟨⟨k+1,by omega,by go_num,zh (HB.out.alloc HB.out.size _),HF2⟩,by simp[intOf];omega⟩
         have Gf:Hid (pg=false):=zh (HPF.out k (by have:=HL.out;omega) (by
          have h3:qY p=false:=by unfold qY;exact decide_eq_false (by omega)
          rw[nr.out,h3];rfl))
         have hp1:(p.pos==0)=false:=(by simpa using hp0);rw[hd] at hc0;clear hd hp0 g1 g2;go_wp2_with fail
         refine BB.mono ?_;rintro e w5 ⟨rfl,gG⟩;rw[show decide ((0:Int)≤-1∧(-1:Int)≤11)=false from by decide];have mB:=zh ((HB.out.alloc HB.out.size (.cells #[.int .i64 (-1),.int .i64 p.pos] 88)).trans (gG.mono (by have:=HB.out.size;simp;omega)));clear gG;go_wp2
         go_ret
         exact⟨by rw[HF.out,Gf.out];rfl,mS.out _ mB.out⟩
        have hd1:(p.disk==-1)=false:=(by simpa using hd);have Hw:=heap_alloc_new wo (.cells #[.int .i64 p.disk,.int .i64 p.pos] 88);have hBp:Below wo.heap.size wo (wo.alloc (.cells #[.int .i64 p.disk,.int .i64 p.pos] 88)):=(Below.refl _ _).alloc (Nat.le_refl _) _;have hzp:wo.heap.size<(wo.alloc (.cells #[.int .i64 p.disk,.int .i64 p.pos] 88)).heap.size:=by simp
        go_upto_region 7 with (fail)
        clear k0 k1 k2 x0 x1 x2 x3 hc0 hc1;generalize (wo.alloc (.cells #[.int .i64 p.disk,.int .i64 p.pos] 88))=W1 at *;have pT:=zt HB hBp
        have PC:Hid (∀W,Below W1.heap.size W1 W→W.cell? ⟨wo.heap.size,0,none⟩=some (.int .i64 p.disk)∧W.cell? ⟨wo.heap.size,1,none⟩=some (.int .i64 p.pos)):=zh (fun W hW=>by
         have r:=(hW.block _ hzp).trans Hw
         exact⟨zo 0 r,zo 1 r⟩)
        clear Hw hBp;obtain⟨z0,z1⟩:=PC.out W1 (Below.refl _ _);go_wp2_with fail
        refine BB.mono ?_;clear z0 z1;rintro e w5 ⟨rfl,gG⟩;obtain⟨z0,z1⟩:=PC.out w5 gG;have mB:=zh gG;clear gG
        cases uB:decide (0≤p.disk∧p.disk≤11) with
        |false=>
         have Gf:Hid (pg=false):=zh (HPF.out k (by have:=HL.out;omega) (by
          have h3:qY p=false:=by
           have:=of_decide_eq_false uB;unfold qY;exact decide_eq_false (by omega)
          rw[nr.out,h3];rfl))
         clear uB;go_wp2
         go_ret
         exact⟨by rw[HF.out,Gf.out];rfl,mS.out _ (zu pT mB.out)⟩
        |true=>
         have HN1:=zh (of_decide_eq_true uB);clear uB;go_wp2_with fail
         refine BB.mono ?_;clear z0 z1;rintro e w6 ⟨rfl,gp⟩;have gB:=zt mB gp;clear gp
         cases rZ:decide (0≤p.pos∧p.pos≤63) with
         |false=>
          have Gf:Hid (pg=false):=zh (HPF.out k (by have:=HL.out;omega) (by
           have h3:qY p=false:=by
            have:=of_decide_eq_false rZ;unfold qY;exact decide_eq_false (by omega)
           rw[nr.out,h3];rfl))
          clear rZ;go_wp2
          go_ret
          exact⟨by rw[HF.out,Gf.out];rfl,mS.out _ (zu pT gB.out)⟩
         |true=>
          have pc:Hid (qY p=true):=zh (by
           have h4:=of_decide_eq_true rZ;have h5:=HN1.out
           unfold qY;exact decide_eq_true (by omega))
          clear rZ;go_wp2_with fail
          go_loopw [7] (fun q wr=>∃j:Nat,j≤k∧q=.int .i64 j∧Hid (Below W1.heap.size W1 wr)∧Hid (∀i,i<j→zH p.disk (x.place.getD i default)=false)) (fun q _=>k - (intOf q).toNat)
          case atStart=>exact⟨0,Nat.zero_le _,rfl,gB,zh (fun i hi=>by omega)⟩
          case round=>
           obtain⟨j,hj,rfl,HBi,HJ⟩:=hrel;have hBt:=pT.out.trans (HBi.out.mono pT.out.size);obtain⟨k0,k1,k2,x0,x1,x2,x3⟩:=CELLS.out wr hBt;obtain⟨z0,z1⟩:=PC.out wr HBi.out;have hzw:w.heap.size+1<wr.heap.size:=Nat.lt_of_lt_of_le hz1 hBt.size;have hzq:wo.heap.size<wr.heap.size:=Nat.lt_of_lt_of_le hzp HBi.out.size;by_cases hjl:j<k
           ·obtain⟨b',off',he,_,hbl',_,_,hd0,_,_⟩:=(HP.out wr (mS.out _ hBt)).BA (show j<n by omega);injection he with he;injection he with he1 he2 _;subst he1;subst he2
            have HBT:=zh hBt;clear hBt;generalize hq:(x.place.getD j default).disk=dj at *;have HQ:=zh hq;clear hq;by_cases heq:dj=p.disk
            ·have hb:(dj==p.disk)=true:=by simpa using heq
             have Gf:Hid (pg=false):=zh (HPF.out k (by have:=HL.out;omega) (by
              have vv:(x.place.take k).any (zH p.disk)=true:=List.any_eq_true.2 ⟨x.place.getD j default,by
               have hl:j<(x.place.take k).length:=(by rw[List.length_take];have:=HL.out;omega);have:=qK (d:=default) hl;rw[List.getD_eq_getElem?_getD,List.getElem?_take,if_pos hjl,←List.getD_eq_getElem?_getD] at this
               exact this,by unfold zH;rw[HQ.out];exact hb⟩
              rw[nr.out,pc.out,vv,hd1];rfl))
             clear heq;go_wp2_with fail
             have pG:=xa wr;refine zr (by kernel_rfl) (by kernel_rfl) ?_
             repeat (go_big_quiet_step (fail))
             refine wpQuiet_nil ?_;rintro _ ⟨X,rfl⟩;have py:=zh (HBT.out.trans ((zn wr X).mono HBT.out.size));clear pG k0 k1 k2 x0 x1 x2 x3 z0 z1 hd0;generalize wr.ext X=w8 at *;go_wp2
             go_ret
             exact⟨by rw[HF.out,Gf.out];rfl,mS.out _ py.out⟩
            have hb:(dj==p.disk)=false:=by simpa using heq
            have HJ2:Hid (∀i,i<j+1→zH p.disk (x.place.getD i default)=false):=zh (fun i hi=>by
             by_cases hij:i=j
             ·subst hij;unfold zH;rw[HQ.out];exact hb
             exact HJ.out i (by omega))
            clear heq;go_wp2_with fail
            have pG:=xa wr;refine zr (by kernel_rfl) (by kernel_rfl) ?_
            repeat (go_big_quiet_step (fail))
            refine wpQuiet_nil ?_;rintro _ ⟨X,rfl⟩;have py:=zh (HBi.out.trans ((zn wr X).mono HBi.out.size));clear pG k0 k1 k2 x0 x1 x2 x3 z0 z1 hd0;generalize wr.ext X=w8 at *;go_wp2
            exact⟨⟨j+1,by omega,by go_num,py,HJ2⟩,by simp[intOf];omega⟩
           have HF2:Hid (∀j,j<k+1→jg x.place j=true):=zh (fun i hi=>by
            by_cases hik:i=k
            ·subst hik
             have vv:(x.place.take i).any (zH p.disk)=false:=by
              rw[List.any_eq_false];intro y hy;obtain⟨q,hq⟩:=List.mem_iff_getElem?.1 hy;rw[List.getElem?_take] at hq
              split at hq
              ·rename_i hqi
               have:=HJ.out q (by omega);rw[List.getD_eq_getElem?_getD,hq] at this;simpa using this
              cases hq
             rw[nr.out,pc.out,vv];simp
            exact HA.out i (by omega))
           have HBT:=zh hBt;clear hBt;clear k0 k1 k2 x0 x1 x2 x3 z0 z1;go_wp2
           exact⟨⟨k+1,by omega,by go_num,HBT,HF2⟩,by simp[intOf];omega⟩
       have Gf:Hid (pg=true):=zh (HPT.out fun i hi=>HA.out i (by have:=HL.out;omega));go_wp2
       go_ret
       exact⟨by rw[HF.out,Gf.out];rfl,mS.out _ HB.out⟩
     have hne:((n:Int) !=s.K+s.M)=true:=(by simp[h3]);have HF:Hid (r=false):=zh (by rw[HR.out,decide_eq_false h3];rfl);clear h3 HR;go_wp2
     go_ret
     exact⟨by rw[HF.out];rfl,mS.out _ ma.out⟩
end Go.Proofs.YtipecejghioicaaGreat
