/- Siloref16.Free: the page's own. -/
import Derived.Test.YtipecejghioicaaGreatQ10s
import Derived.Test.YtipecejghioicaaGreatQ12s
import Derived.Test.YtipecejghioicaaGreatT8s
import Derived.Deep.Cut
import Derived.Test.YtipecejghioicaaGreatP0s
import Derived.Test.YtipecejghioicaaGreatC4s
set_option maxHeartbeats 4000000
set_option maxRecDepth 100000
namespace Go.Proofs.YtipecejghioicaaGreat
open Go.RowKit Go.Silo
def qs (l:List Bb) (xs:List Entry):List Int:=(l.map (fun y=>y.id)).filter (fun i=>decide (i∉qb xs xs.length))
theorem jG {l:List Bb}{xs:List Entry}{k:Nat}(h:k<l.length):qs (l.take (k+1)) xs=qs (l.take k) xs++(if (l.getD k default).id∈qb xs xs.length then [] else [(l.getD k default).id]):=by
 unfold qs;rw[qA (d:=default) h,List.map_append,List.filter_append]
 congr 1
 generalize l.getD k default=x;by_cases hm:x.id∈qb xs xs.length
 ·rw[if_pos hm];simp[hm]
 rw[if_neg hm];simp[hm]
theorem kn {l:List Bb}{xs:List Entry}{k:Nat}:(qs (l.take k) xs).length≤k:=by
 unfold qs;refine Nat.le_trans (List.length_filter_le _ _) ?_;rw[List.length_map,List.length_take];exact Nat.min_le_left _ _
def Eu (w:World) (r:List Int×Int) (e:Ending) (w':World):Prop:=
 ∃A n c,e=.returned (.tuple #[.slice A n c,.int .i64 r.2])∧Sl true 3 Bd w' (fun q=>w.heap.size≤q) A n c r.1∧Below w.heap.size w w'
noncomputable def QF (s:Shape) (b:Book):List Int×Int:=if qI s b=true then (qs b.Ba b.things,0) else ([],1)
theorem ET {tg tg0 tg1 tg2:Bool}{S:Nat→Prop}{w:World}{A0 A1 A2:Option Addr}{n0 c0 n1 c1 n2 c2:Nat}{s:Shape}{b:Book}(hsi:Bo s.K∧Bo s.M∧Bo s.size) (hf:DF b) (h:BG w S tg tg0 tg1 tg2 A0 n0 c0 A1 n1 c1 A2 n2 c2 b):
  Calls Tryz.prog 24 #[.agg #[.int .i64 s.K,.int .i64 s.M,.int .i64 s.size],.agg #[.slice A0 n0 c0,.slice A1 n1 c1,.slice A2 n2 c2,.int .i64 b.next]] w (Eu w (QF s b)):=by
 obtain⟨i0,hi0,hz0,hz1,hz2⟩:=info_parts Tryz.BZ;have hn0:n0≤4000:=by have:=hf.st;have:=h.st.len;omega
 have uN:=Nat.le_trans h.th.le h.th.cap;have hnm:=hf.nm;have mH:=zh h.st.len;have mE:=zh h.th.len;have HM:=zh (fun W (hW:Below w.heap.size w W)=>JH hsi hf (h.all hW));have HST:=zh (fun W (hW:Below w.heap.size w W)=>h.st.all hW);have HTH:=zh (fun W (hW:Below w.heap.size w W)=>h.th.Bi.all hW);have HR:Hid (QF s b=if qI s b=true then (qs b.Ba b.things,0) else ([],1)):=zh rfl;generalize QF s b=R at *;clear h hf hsi;have hal:Below w.heap.size w ((w.alloc (.cells #[.int .i64 s.K,.int .i64 s.M,.int .i64 s.size] 23)).alloc (.cells #[.slice A0 n0 c0,.slice A1 n1 c1,.slice A2 n2 c2,.int .i64 b.next] 28)):=bz;have hr1:((w.alloc (.cells #[.int .i64 s.K,.int .i64 s.M,.int .i64 s.size] 23)).alloc (.cells #[.slice A0 n0 c0,.slice A1 n1 c1,.slice A2 n2 c2,.int .i64 b.next] 28)).heap[w.heap.size+1]?=some (.cells #[.slice A0 n0 c0,.slice A1 n1 c1,.slice A2 n2 c2,.int .i64 b.next] 28 (0,0)):=Qa _ _ _ _;have mV:((w.alloc (.cells #[.int .i64 s.K,.int .i64 s.M,.int .i64 s.size] 23)).alloc (.cells #[.slice A0 n0 c0,.slice A1 n1 c1,.slice A2 n2 c2,.int .i64 b.next] 28)).heap[w.heap.size]?=some (.cells #[.int .i64 s.K,.int .i64 s.M,.int .i64 s.size] 23 (0,0)):=jF _ _ _ _;have hz:((w.alloc (.cells #[.int .i64 s.K,.int .i64 s.M,.int .i64 s.size] 23)).alloc (.cells #[.slice A0 n0 c0,.slice A1 n1 c1,.slice A2 n2 c2,.int .i64 b.next] 28)).heap.size=w.heap.size+2:=by simp
 go_enter Tryz.func24,Tryz.ntmps24
 go_upto_region 1 with (fail)
 generalize ((w.alloc (.cells #[.int .i64 s.K,.int .i64 s.M,.int .i64 s.size] 23)).alloc (.cells #[.slice A0 n0 c0,.slice A1 n1 c1,.slice A2 n2 c2,.int .i64 b.next] 28))=W0 at *;have nz:=zc 0 mV (.int .i64 s.K) rfl;have nr:=zc 1 mV (.int .i64 s.M) rfl;have nt:=zc 2 mV (.int .i64 s.size) rfl;have ng:=zc 0 hr1 (.slice A0 n0 c0) rfl;have pp:=zc 1 hr1 (.slice A1 n1 c1) rfl;have p9:=zc 2 hr1 (.slice A2 n2 c2) rfl;have pY:=zc 3 hr1 (.int .i64 b.next) rfl;go_wp2_with fail
 refine(HM.out W0 hal).mono ?_;rintro e w1 ⟨rfl,hb1⟩;have gB:Hid (Below w.heap.size w w1):=zh (via hal hb1 (by omega));have ROW1:Hid (w1.heap[w.heap.size+1]?=some (.cells #[.slice A0 n0 c0,.slice A1 n1 c1,.slice A2 n2 c2,.int .i64 b.next] 28 (0,0))):=zh ((hb1.block _ (by omega)).trans hr1);have vv:w.heap.size+2≤w1.heap.size:=by have:=hb1.size;omega
 clear nz nr nt ng pp p9 pY mV hr1 hal hb1 HM hz;generalize hok:qI s b=ok at *
 cases ok with
 |false=>
  have HE:Hid (R=([],1)):=zh (by rw[HR.out];rfl);clear hok;go_wp2
  refine bodyPost_ret (v:=.tuple #[.slice none 0 0,.int .i64 1]) (by simp[results,Tryz.results24,go_sem, *];done) rfl ?_;exact⟨none,0,0,by rw[HE.out],by rw[HE.out];exact Sl.BA (by omega),gB.out⟩
 |true=>
  have HE:Hid (R=(qs b.Ba b.things,0)):=zh (by rw[HR.out];rfl);clear hok HR;have hmk:=fun W:World=>run_makeMap (P:=Tryz.prog) 99 W
  go_upto_region 4 with (fail)
  clear hmk;have gz:=Bu.made (P:=Tryz.prog) (k:=3) (e:=4) (w:=w1);have gJ:Below w1.heap.size w1 (w1.alloc (.map #[] 0)):=(Below.refl _ _).alloc (Nat.le_refl _) _;have hsz2:(w1.alloc (.map #[] 0)).heap.size=w1.heap.size+1:=by simp
  have gu:=zh (gB.out.trans (gJ.mono (by omega)));have ROW2:=zh ((gJ.block _ (by omega)).trans ROW1.out);have r9:Hid (Bu Tryz.prog 3 4 _ _ (qb b.things 0).length (xr (qb b.things 0))):=zh (by simpa[qb,xr] using gz);clear gz gJ ROW1 gB;generalize (w1.alloc (.map #[] 0))=w2 at *;generalize w1.heap.size=m at *;have r1:=zc 1 ROW2.out (.slice A1 n1 c1) rfl;have hml:1000000<maxLen:=by decide
  go_wp2_with fail
  clear r1
  go_loopw [22] (fun iv wr=>∃k:Nat,k≤n1∧iv=.int .i64 k∧Hid (Below m w2 wr)∧Hid (Bu Tryz.prog 3 4 wr m (qb b.things k).length (xr (qb b.things k)))) (fun iv _=>n1 - (intOf iv).toNat)
  case atStart=>exact⟨0,Nat.zero_le _,rfl,zh (Below.refl _ _),r9⟩
  case round=>
   rename World=>wo
   clear r9;obtain⟨k,hk,rfl,HB,HS⟩:=hrel;have zwo:m+1≤wo.heap.size:=(by have:=HB.out.size;omega);have uQ:Hid (Below w.heap.size w wo):=zh (gu.out.trans (HB.out.mono (by omega)));by_cases hlt:k<n1
   ·obtain⟨bE,oE,A3,n3,c3,eE,_,hbE,so,i64l,nK,u0,u1,u2,u3,_⟩:=(HTH.out wo uQ.out).BF hlt;subst eE;have vS:Hid (qb b.things (k+1)=qb b.things k++(b.things.getD k default).list):=zh (zi (by rw[mE.out];exact hlt))
    have hle:(qb b.things k).length+(b.things.getD k default).list.length≤1000000:=by
     obtain⟨r,hr⟩:=js (xs:=b.things) (k:=k+1) (by rw[mE.out];omega);have h2:=hnm;rw[hr,vS.out,List.length_append,List.length_append] at h2;omega
    have rW:=nK.len;have vq:=Nat.le_trans nK.le nK.cap;generalize b.things.getD k default=x at *;obtain⟨dg,ln,BC,ys⟩:=x;simp only at *
    go_upto_region 7 with (fail)
    have j6:Below wo.heap.size wo (wo.alloc (.cells #[.string dg,.int .i64 ln,.bool BC,.slice A3 n3 c3] 90)):=(Below.refl _ _).alloc (Nat.le_refl _) _;have hrow:=heap_alloc_new wo (.cells #[.string dg,.int .i64 ln,.bool BC,.slice A3 n3 c3] 90);have mF:wo.heap.size<(wo.alloc (.cells #[.string dg,.int .i64 ln,.bool BC,.slice A3 n3 c3] 90)).heap.size:=(by simp);have uV:=zh (HS.out.all j6);have gG:=zh (HB.out.trans (j6.mono (by omega)));have pP:=zh (nK.all j6);clear j6 u0 u1 u2 u3 nK HS HB;generalize (wo.alloc (.cells #[.string dg,.int .i64 ln,.bool BC,.slice A3 n3 c3] 90))=w3 at *;generalize wo.heap.size=g8 at *;have y3:=zc 3 hrow (.slice A3 n3 c3) rfl;clear hrow;have HPW:=zh (fun V (hV:Below m w3 V)=>pP.out.below hV (fun q hq _=>by have:=hq.2;omega));go_wp2_with fail
    clear y3
    go_loopw [29] (fun iv wr=>∃j:Nat,j≤n3∧iv=.int .i64 j∧Hid (Below m w3 wr)∧Hid (Bu Tryz.prog 3 4 wr m (qb b.things k++ys.take j).length (xr (qb b.things k++ys.take j)))) (fun iv _=>n3 - (intOf iv).toNat)
    case atStart=>exact⟨0,Nat.zero_le _,rfl,zh (Below.refl _ _),by simpa using uV⟩
    case round=>
     rename World=>wj
     clear uV;obtain⟨j,hj,rfl,HBj,ye⟩:=hrel;have zj:m+1≤wj.heap.size:=(by have:=HBj.out.size;omega);by_cases hjl:j<n3
     ·obtain⟨b3,o3,eA3,_,hb3,i64d,hc3,_⟩:=(HPW.out wj HBj.out).BD hjl;subst eA3;have m9:Hid (ys.take (j+1)=ys.take j++[ys.getD j 0]):=zh (qA (d:=0) (by omega));have gZ:(qb b.things k++ys.take j).length<maxLen:=(by rw[List.length_append,List.length_take];omega);generalize ys.getD j 0=id at *
      have hwf:(Lit.int .i64 id).wf=true:=by
       unfold Bo at i64d;simp[Lit.wf,IntKind.min,IntKind.max,IntKind.signed,IntKind.bits];omega
      have hkey:=Maps.keyOf_int_mk (P:=Tryz.prog) Tryz.underlying3 hwf;go_wp2_with (at_mapUpdate;refine zQ _ rfl _ _ _ 99 rfl (Maps.int_keyed Tryz.underlying3) Tryz.underlying99 Tryz.underlying4 m _ _ rfl ye.out gZ _ (.int .i64 id) rfl rfl hkey ?_)
      intro w6 mq rQ;have pF:=zh (HBj.out.grown rQ (by omega) (fun r hr=>by injection hr with hr;omega))
      have HS6:Hid (Bu Tryz.prog 3 4 w6 m (qb b.things k++ys.take (j+1)).length (xr (qb b.things k++ys.take (j+1)))):=zh (by
       have e:(qb b.things k++ys.take (j+1)).length=(qb b.things k).length+j+1:=(by rw[m9.out,List.length_append,List.length_append,List.length_take];simp;omega);have e2:xr (qb b.things k++ys.take (j+1))=xr (qb b.things k++ys.take j)++[.int .i64 id]:=(by rw[m9.out,←List.append_assoc];simp[xr]);rw[e,e2]
       exact mq)
      clear mq rQ;go_wp2
      exact⟨⟨j+1,by omega,by go_num,pF,HS6⟩,by simp[intOf];omega⟩
     obtain rfl:j=n3:=by omega
     have rR:Hid (qb b.things (k+1)=qb b.things k++ys.take j):=zh (by rw[vS.out,List.take_of_length_le (by omega)]);go_wp2
     exact⟨⟨k+1,by omega,by go_num,zh (gG.out.trans HBj.out),by rw[rR.out];exact ye⟩,by simp[intOf];omega⟩
   obtain rfl:k=n1:=by omega
   have HN:Hid (qb b.things k=qb b.things b.things.length):=zh (by rw[mE.out]);rw[HN.out] at HS;have HBw:=zh (gu.out.trans (HB.out.mono (show w.heap.size≤m by omega)));have r1:=(zo 0 ((HB.out.block _ (show w.heap.size+1<m by omega)).trans ROW2.out)).trans (show _=some (.slice A0 n0 c0:Value) from rfl);clear HB ROW2 HN;go_wp2_with fail
   clear r1
   go_loopw [11,40] (fun lv iv wr=>∃(j:Nat) (A:Option Addr) (c:Nat),j≤n0∧iv=.int .i64 j∧lv=.slice A (qs (b.Ba.take j) b.things).length c∧Hid (Silo.Be 3 Bd wr wo.heap.size (fun _=>False) A (qs (b.Ba.take j) b.things).length c (qs (b.Ba.take j) b.things))∧Hid (Below wo.heap.size wo wr)) (fun _ iv _=>n0 - (intOf iv).toNat)
   case atStart=>exact⟨0,none,0,Nat.zero_le _,rfl,by simp[qs],zh (by simpa[qs] using Silo.Be.BA),zh (Below.refl _ _)⟩
   case round=>
    rename World=>wp
    obtain⟨j,A,c,hj,rfl,rfl,HO,HB⟩:=hrel;have zp:wo.heap.size≤wp.heap.size:=HB.out.size;by_cases gZ:j<n0
    ·obtain⟨bs,os,Ap,np,cp,eA,_,hbs,g1,g2,g3,hp3,u0,u1,u2,u3,_⟩:=(HST.out wp (HBw.out.trans (HB.out.mono (by omega)))).Bq gZ;subst eA;have yo:Hid (qs (b.Ba.take (j+1)) b.things=qs (b.Ba.take j) b.things++(if (b.Ba.getD j default).id∈qb b.things b.things.length then [] else [(b.Ba.getD j default).id])):=zh (jG (by rw[mH.out];exact gZ));have hfl:=kn (l:=b.Ba) (xs:=b.things) (k:=j);generalize b.Ba.getD j default=x at *;generalize qs (b.Ba.take j) b.things=F at *;obtain⟨id,ln,gn,pl⟩:=x;simp only at *
     go_upto_region 17 with (fail)
     have j6:Below wp.heap.size wp (wp.alloc (.cells #[.int .i64 id,.int .i64 ln,.int .i64 gn,.slice Ap np cp] 86)):=(Below.refl _ _).alloc (Nat.le_refl _) _;have hrow:=heap_alloc_new wp (.cells #[.int .i64 id,.int .i64 ln,.int .i64 gn,.slice Ap np cp] 86);have mF:wp.heap.size<(wp.alloc (.cells #[.int .i64 id,.int .i64 ln,.int .i64 gn,.slice Ap np cp] 86)).heap.size:=(by simp);have uA:=zh (HO.out.all j6);have gG:=zh (HB.out.trans (j6.mono (by omega)));have uV:=zh (HS.out.all gG.out);clear j6 u0 u1 u2 u3 hp3 HO HB;generalize (wp.alloc (.cells #[.int .i64 id,.int .i64 ln,.int .i64 gn,.slice Ap np cp] 86))=w3 at *;generalize wp.heap.size=g13 at *;have y0:=zc 0 hrow (.int .i64 id) rfl;clear hrow
     have hwf:(Lit.int .i64 id).wf=true:=by
      unfold Bo at g1;simp[Lit.wf,IntKind.min,IntKind.max,IntKind.signed,IntKind.bits];omega
     have hkey:=Maps.keyOf_int_mk (P:=Tryz.prog) Tryz.underlying3 hwf;go_wp2_with (at_lookup;refine xT _ rfl _ _ 99 rfl (Maps.int_keyed Tryz.underlying3) Tryz.underlying99 Tryz.underlying4 (Tryz.zeroValue4 _) m _ _ rfl uV.out _ (.int .i64 id) rfl hkey ?_)
     refine⟨?_,?_⟩<;>intro hy<;>rw[jS] at hy
     rotate_left
     ·have ud:Hid (qs (b.Ba.take (j+1)) b.things=F):=zh (by rw[yo.out,if_pos hy,List.append_nil]);clear hy;go_wp2
      exact⟨⟨j+1,A,c,by omega,by go_num,by rw[ud.out],by rw[ud.out];exact uA,gG⟩,by simp[intOf];omega⟩
     have ud:Hid (qs (b.Ba.take (j+1)) b.things=F++[id]):=zh (by rw[yo.out,if_neg hy]);have hI:Bo id:=g1;clear hy;go_wp2_with (at_builtin;refine qq rfl _ _ 36 rfl i0 (.int .i64 0) 8 Tryz.underlying36 hi0 hz0 hz1 hz2 rfl (by decide) rfl (uA.out.frame (Agree.alloc _ _ _) (by simp)) w3.heap.size 3 1 _ id rfl (heap_alloc_new _ _) (Jr hI) (by omega) (by omega) (by have:=gG.out.size;simp;omega) ?_)
     intro A2' c2' w4 rD hg4 _;have yH:=zh rD;clear rD;have gv:=zh ((gG.out.alloc gG.out.size _).grown hg4 (by have:=gG.out.size;simp;omega) (fun r hr=>(uA.out.lt r hr).1));clear hg4;go_wp2
     exact⟨⟨j+1,A2',c2',by omega,by go_num,by rw[ud.out,List.length_append];rfl,by rw[ud.out,List.length_append];exact yH,gv⟩,by simp[intOf];omega⟩
    obtain rfl:j=n0:=by omega
    have ud:Hid (qs (b.Ba.take j) b.things=qs b.Ba b.things):=zh (by rw[List.take_of_length_le (by rw[mH.out];exact Nat.le_refl _)]);rw[ud.out] at HO⊢;generalize qs b.Ba b.things=F at *;go_wp2
    refine bodyPost_ret (v:=.tuple #[.slice A F.length c,.int .i64 0]) (by simp[results,Tryz.results24,go_sem, *];done) rfl ?_;exact⟨A,F.length,c,by rw[HE.out],by rw[HE.out];exact(HO.out.sl (tg:=true)).mono (fun q hq _=>hq.elim (fun h=>h.elim) (fun h=>by show w.heap.size≤q;omega)),HBw.out.trans (HB.out.mono (by omega))⟩
end Go.Proofs.YtipecejghioicaaGreat
set_option maxHeartbeats 4000000
set_option maxRecDepth 100000
namespace Go.Proofs.YtipecejghioicaaGreat
open Go.RowKit Go.Silo
theorem XO {tg tg0 tg1 tg2:Bool}{S:Nat→Prop}{w:World}{A0 A1 A2:Option Addr}{n0 c0 n1 c1 n2 c2:Nat}{b:Book}(hn0:n0≤4000) (h:BG w S tg tg0 tg1 tg2 A0 n0 c0 A1 n1 c1 A2 n2 c2 b):
  Calls Tryz.prog 25 #[.agg #[.slice A0 n0 c0,.slice A1 n1 c1,.slice A2 n2 c2,.int .i64 b.next]] w (zP 3 Bd w (qs b.Ba b.things)):=by
 obtain⟨i0,hi0,hz0,hz1,hz2⟩:=info_parts Tryz.BZ;have uN:=Nat.le_trans h.th.le h.th.cap;have mH:=zh h.st.len;have mE:=zh h.th.len;have HST:=zh (fun W (hW:Below w.heap.size w W)=>h.st.Bi.all hW);have HTH:=zh (fun W (hW:Below w.heap.size w W)=>h.th.all hW);clear h;have hal:Below w.heap.size w (w.alloc (.cells #[.slice A0 n0 c0,.slice A1 n1 c1,.slice A2 n2 c2,.int .i64 b.next] 28)):=bz;have hr1:=heap_alloc_new w (.cells #[.slice A0 n0 c0,.slice A1 n1 c1,.slice A2 n2 c2,.int .i64 b.next] 28);have hz:(w.alloc (.cells #[.slice A0 n0 c0,.slice A1 n1 c1,.slice A2 n2 c2,.int .i64 b.next] 28)).heap.size=w.heap.size+1:=by simp
 go_enter Tryz.func25,Tryz.ntmps25
 go_upto_region 2 with (fail)
 generalize (w.alloc (.cells #[.slice A0 n0 c0,.slice A1 n1 c1,.slice A2 n2 c2,.int .i64 b.next] 28))=W0 at *;have hz':w.heap.size+1≤W0.heap.size:=by omega
 clear hz;have gK:=zh (fun V (hV:Below W0.heap.size W0 V)=>hal.trans (hV.mono (by omega)));clear hal;have gj:=zh (fun V (hV:Below W0.heap.size W0 V)=>(hV.block _ (by omega)).trans hr1);clear hr1;go_wp2_with fail
 go_loopw [3,4] (fun lv iv wr=>∃(j:Nat) (A:Option Addr) (c:Nat),j≤n0∧iv=.int .i64 j∧lv=.slice A (qs (b.Ba.take j) b.things).length c∧Hid (Silo.Be 3 Bd wr W0.heap.size (fun _=>False) A (qs (b.Ba.take j) b.things).length c (qs (b.Ba.take j) b.things))∧Hid (Below W0.heap.size W0 wr)) (fun _ iv _=>n0 - (intOf iv).toNat)
 case atStart=>exact⟨0,none,0,Nat.zero_le _,rfl,by simp[qs],zh (by simpa[qs] using Silo.Be.BA),zh (Below.refl _ _)⟩
 case round=>
  rename World=>wo
  obtain⟨j,A,c,hj,rfl,rfl,HO,HB⟩:=hrel;have zwo:W0.heap.size≤wo.heap.size:=HB.out.size;have hrow:=gj.out wo HB.out;have r0:=zc 0 hrow (.slice A0 n0 c0) rfl;have r1:=zc 1 hrow (.slice A1 n1 c1) rfl;clear hrow;by_cases hlt:j<n0
  ·obtain⟨bs,os,Ap,np,cp,eA,hSb,hbs,g1,g2,g3,hp3,u0,u1,u2,u3,_⟩:=(HST.out wo (gK.out wo HB.out)).Bq hlt;have p8:bs<w.heap.size:=hSb.2;subst eA;have yo:Hid (qs (b.Ba.take (j+1)) b.things=qs (b.Ba.take j) b.things++(if (b.Ba.getD j default).id∈qb b.things b.things.length then [] else [(b.Ba.getD j default).id])):=zh (jG (by rw[mH.out];exact hlt));have hfl:=kn (l:=b.Ba) (xs:=b.things) (k:=j);generalize (b.Ba.getD j default).id=id at *;generalize qs (b.Ba.take j) b.things=F at *;clear u1 u2 u3 hp3 g2 g3;go_wp2_with fail
   go_loopw [5,6] (fun nv iv wr=>∃k:Nat,k≤n1∧iv=.int .i64 k∧nv=.bool (decide (id∈qb b.things k))∧Hid (Below wo.heap.size wo wr)) (fun _ iv _=>n1 - (intOf iv).toNat)
   case atStart=>exact⟨0,Nat.zero_le _,rfl,by simp[qb],zh (Below.refl _ _)⟩
   case round=>
    rename World=>wq
    obtain⟨k,hk,rfl,rfl,HBq⟩:=hrel;have zq:wo.heap.size≤wq.heap.size:=HBq.out.size;have r0':=(HBq.out.cell (p:=⟨w.heap.size,0,none⟩) (by show w.heap.size<wo.heap.size;omega)).trans r0;have r1':=(HBq.out.cell (p:=⟨w.heap.size,1,none⟩) (by show w.heap.size<wo.heap.size;omega)).trans r1;have u0':=(HBq.out.cell (p:=⟨bs,os+j* 4,none⟩) (by show bs<wo.heap.size;omega)).trans u0;by_cases gZ:k<n1
    ·obtain⟨bE,oE,A3,n3,c3,eE,_,hbE,so,i64l,nK,v0,v1,v2,v3,_⟩:=(HTH.out wq ((gK.out wo HB.out).trans (HBq.out.mono (by omega)))).BF gZ;subst eE;have vS:Hid (qb b.things (k+1)=qb b.things k++(b.things.getD k default).list):=zh (zi (by rw[mE.out];exact gZ));have HCX:=zh (fun X=>In_c (w:=wq.ext X) (x:=id) (nK.all (qx wq X)));generalize (b.things.getD k default).list=ys at *;have hw0:w.heap.size<wq.heap.size:=(by omega);have hbs':bs<wq.heap.size:=(by omega);clear v0 v1 v2 r0 r1 u0 nK;by_cases hm:id∈qb b.things k
     ·have HN:Hid (decide (id∈qb b.things (k+1))=true):=zh (decide_eq_true (by rw[vS.out];exact List.mem_append_left _ hm));rw[decide_eq_true hm];clear hm vS HCX
      go_upto_region 9 with (fail)
      have gI:=qX wq;refine qG (by kernel_rfl) (by kernel_rfl) ?_
      repeat (go_big_quiet_step (fail))
      refine wpQuiet_nil ?_;rintro _ ⟨X,rfl⟩;have yC:=zh (HBq.out.trans ((qx wq X).mono zq));clear gI r0' r1' u0' v3;go_wp2
      exact⟨⟨k+1,by omega,by go_num,by rw[HN.out],yC⟩,by simp[intOf];omega⟩
     rw[decide_eq_false hm];by_cases hm2:id∈ys
     ·have HN:Hid (decide (id∈qb b.things (k+1))=true):=zh (decide_eq_true (by rw[vS.out];exact List.mem_append_right _ hm2));obtain⟨p,hp1,_⟩:=QE hm2;rw[hp1] at HCX;have hdp:decide ((p:Int)≥0)=true:=decide_eq_true (by omega);clear hm hm2 vS hp1
      go_upto_region 9 with (fail)
      have gI:=qX wq;refine qG (by kernel_rfl) (by kernel_rfl) ?_
      repeat (go_big_quiet_step ((go_at_call 44;exact Bf.ext (HCX.out _))))
      refine wpQuiet_nil ?_;rintro _ ⟨X,rfl⟩;have yC:=zh (HBq.out.trans ((qx wq X).mono zq));clear gI r0' r1' u0' v3 HCX;go_wp2
      exact⟨⟨k+1,by omega,by go_num,by rw[HN.out],yC⟩,by simp[intOf];omega⟩
     have HN:Hid (decide (id∈qb b.things (k+1))=false):=zh (decide_eq_false (by rw[vS.out];intro h;rcases List.mem_append.1 h with h|h;exact hm h;exact hm2 h))
     have hneg:ku ys id=-1:=by
      unfold ku;rw[List.findIdx?_eq_none_iff.2 (fun x hx=>by simp;intro e;subst e;exact hm2 hx)]
     rw[hneg] at HCX;clear hm hm2 vS hneg
     go_upto_region 9 with (fail)
     have gI:=qX wq;refine qG (by kernel_rfl) (by kernel_rfl) ?_
     repeat (go_big_quiet_step ((go_at_call 44;exact Bf.ext (HCX.out _))))
     refine wpQuiet_nil ?_;rintro _ ⟨X,rfl⟩;have yC:=zh (HBq.out.trans ((qx wq X).mono zq));clear gI r0' r1' u0' v3 HCX;go_wp2
     exact⟨⟨k+1,by omega,by go_num,by rw[HN.out],yC⟩,by simp[intOf];omega⟩
    obtain rfl:k=n1:=by omega
    have HN:Hid (qb b.things b.things.length=qb b.things k):=zh (by rw[mE.out]);have HOq:=zh (HO.out.all HBq.out);have HBw:=zh (HB.out.trans (HBq.out.mono zwo));clear HO HBq;by_cases hm:id∈qb b.things k
    ·have ud:Hid (qs (b.Ba.take (j+1)) b.things=F):=zh (by rw[yo.out,if_pos (by rw[HN.out];exact hm),List.append_nil]);rw[decide_eq_true hm];clear hm yo HN;go_wp2
     exact⟨⟨j+1,A,c,by omega,by go_num,by rw[ud.out],by rw[ud.out];exact HOq,HBw⟩,by simp[intOf];omega⟩
    have ud:Hid (qs (b.Ba.take (j+1)) b.things=F++[id]):=zh (by rw[yo.out,if_neg (by rw[HN.out];exact hm)]);rw[decide_eq_false hm];have hI:Bo id:=g1;have zq':W0.heap.size≤wq.heap.size:=(by omega);clear hm yo HN r0 r1 u0;go_wp2_with (at_builtin;refine qq rfl _ _ 36 rfl i0 (.int .i64 0) 8 Tryz.underlying36 hi0 hz0 hz1 hz2 rfl (by decide) rfl (HOq.out.frame (Agree.alloc _ _ _) (by simp)) wq.heap.size 3 1 _ id rfl (heap_alloc_new _ _) (Jr hI) (by omega) (by omega) (by simp;omega) ?_)
    intro A2' c2' w4 rD hg4 _;have yH:=zh rD;clear rD;have gv:=zh ((HBw.out.alloc zq' _).grown hg4 (by simp;omega) (fun r hr=>(HOq.out.lt r hr).1));clear hg4;go_wp2
    exact⟨⟨j+1,A2',c2',by omega,by go_num,by rw[ud.out,List.length_append];rfl,by rw[ud.out,List.length_append];exact yH,gv⟩,by simp[intOf];omega⟩
  obtain rfl:j=n0:=by omega
  have ud:Hid (qs (b.Ba.take j) b.things=qs b.Ba b.things):=zh (by rw[List.take_of_length_le (by rw[mH.out];exact Nat.le_refl _)]);rw[ud.out] at HO⊢;generalize qs b.Ba b.things=F at *;go_wp2
  go_ret
  exact⟨A,c,rfl,(ZF HO.out (by omega)).CE,gK.out wo HB.out⟩
end Go.Proofs.YtipecejghioicaaGreat
