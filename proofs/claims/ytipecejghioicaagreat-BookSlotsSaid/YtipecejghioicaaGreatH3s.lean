/- Silolaw16.Heavy, silolaw17.Heavy: what is played; siloref0.CopyBook. -/
import Derived.Test.YtipecejghioicaaGreatL5s
import Derived.Test.YtipecejghioicaaGreatQ10s
import Derived.Test.YtipecejghioicaaGreatQ1s
import Derived.Deep.CutBlock
import Derived.Deep.Cut
import Derived.Test.YtipecejghioicaaGreatP0s
set_option maxHeartbeats 8000000
set_option maxRecDepth 100000
namespace Go.Proofs.YtipecejghioicaaGreat
open Go.RowKit Go.Silo
def Ez (b:Book) (w:World) (e:Ending) (w':World):Prop:=
 ∃v:Int,e=.returned (.int .i64 v)∧Below w.heap.size w w'∧(v<1048576→(b.Ba.length:Int)+b.things.length+b.tags.length+(qd b.Ba b.Ba.length).length+(qb b.things b.things.length).length≤v)
theorem Zm {tg tg0 tg1 tg2:Bool}{S:Nat→Prop}{w:World}{A0 A1 A2:Option Addr}{n0 c0 n1 c1 n2 c2:Nat}{l:List Bb}{xs:List Entry}{gs:List Tag}{nx:Int}
  (hB:XA ⟨l,xs,gs,nx⟩) (h0:Sl tg 86 (qe tg0) w S A0 n0 c0 l) (h1:Sl tg 90 (ql tg1) w S A1 n1 c1 xs) (h2:Sl tg2 94 Bz w S A2 n2 c2 gs):
  Calls Tryz.prog 45 #[.agg #[.slice A0 n0 c0,.slice A1 n1 c1,.slice A2 n2 c2,.int .i64 nx]] w (Ez ⟨l,xs,gs,nx⟩ w):=by
 have hr:reachBytes=140737488351232:=by decide
 obtain⟨⟨q1,q2⟩,⟨q3,q4⟩,⟨q5,q6⟩⟩:=hB;rw[hr] at q1 q3 q5;simp only at q1 q2 q3 q4 q5 q6;have mH:=zh h0.len;have mE:=zh h1.len;have uk:=zh h2.len;have hn0:n0≤140737488351232:=by have:=mH.out;omega
 have uN:n1≤140737488351232:=by have:=mE.out;omega
 have rV:n2≤140737488351232:=by have:=uk.out;omega
 have HB0:=zh (fun(y:Bb) (hy:y∈l)=>(by have h:=q2 y hy;unfold kH at h;omega:y.place.length≤140737488351232));have gB:=zh (fun(y:Entry) (hy:y∈xs)=>(by have h:=q4 y hy;unfold Zk Qy at h;omega:y.digest.size≤140737488351232∧y.list.length≤140737488351232));have gu:=zh (fun(y:Tag) (hy:y∈gs)=>(by have h:=q6 y hy;unfold Eo Qy at h;omega:y.name.size≤140737488351232∧y.digest.size≤140737488351232));clear q1 q2 q3 q4 q5 q6 hr;have hal:Below w.heap.size w (w.alloc (.cells #[.slice A0 n0 c0,.slice A1 n1 c1,.slice A2 n2 c2,.int .i64 nx] 28)):=bz
 have mV:(w.alloc (.cells #[.slice A0 n0 c0,.slice A1 n1 c1,.slice A2 n2 c2,.int .i64 nx] 28)).heap[w.heap.size]?=some (.cells #[.slice A0 n0 c0,.slice A1 n1 c1,.slice A2 n2 c2,.int .i64 nx] 28 (0,0)):=by
  have:=heap_alloc_new w (.cells #[.slice A0 n0 c0,.slice A1 n1 c1,.slice A2 n2 c2,.int .i64 nx] 28);simpa only[World.size_alloc] using this
 have hz:w.heap.size<(w.alloc (.cells #[.slice A0 n0 c0,.slice A1 n1 c1,.slice A2 n2 c2,.int .i64 nx] 28)).heap.size:=by simp
 have HS:=zh (fun W (hW:Below w.heap.size w W)=>h0.all hW);clear h0;have HT:=zh (fun W (hW:Below w.heap.size w W)=>h1.all hW);clear h1;have HG:=zh (fun W (hW:Below w.heap.size w W)=>h2.all hW);clear h2
 go_enter Tryz.func45,Tryz.ntmps45
 go_upto_region 1 with (fail)
 generalize (w.alloc (.cells #[.slice A0 n0 c0,.slice A1 n1 c1,.slice A2 n2 c2,.int .i64 nx] 28))=W0 at *;have gm:=zh (fun V (hV:Below W0.heap.size W0 V)=>hal.trans (hV.mono hal.size));clear hal;have ROW:=zh (fun V (hV:Below W0.heap.size W0 V)=>(show V.heap[w.heap.size]?=some (.cells #[.slice A0 n0 c0,.slice A1 n1 c1,.slice A2 n2 c2,.int .i64 nx] 28 (0,0)) from(hV.block _ (by omega)).trans mV));clear mV;have r0:=ROW.out W0 (Below.refl _ _);have nz:=zc 0 r0 (.slice _ n0 c0) rfl;have nr:=zc 1 r0 (.slice _ n1 c1) rfl;have nt:=zc 2 r0 (.slice _ n2 c2) rfl;clear r0;obtain⟨v0,hv0⟩:∃v0:Int,v0=(n0:Int)+n1+n2:=⟨_,rfl⟩;have hv01:0≤v0:=by omega
 have hv02:v0≤500000000000000:=by omega
 have HV0:=zh hv0;clear hv0
 go_upto_region 2 with (fail)
 rw[←HV0.out];clear nz nr nt
 go_upto_block 0 with (fail)
 go_cut [3] from 5 (fun s3 V=>∃v:Int,s3=.int .i64 v∧0≤v∧v≤500000000000000∧Hid (v<1048576→v0+(qd l l.length).length≤v)∧Hid (Below W0.heap.size W0 V))
 case first=>
  go_wp2_with fail
  go_loopw [3,4] (fun t i wr=>∃k:Nat,∃v:Int,k≤n0∧i=.int .i64 k∧t=.int .i64 v∧0≤v∧v≤500000000000000∧Hid (v0+(qd l k).length≤v)∧Hid (Below W0.heap.size W0 wr)) (fun _ i _=>n0 - (intOf i).toNat)
  case atStart=>exact⟨0,_,Nat.zero_le _,rfl,rfl,hv01,hv02,zh (by simp[qd]),zh (Below.refl _ _)⟩
  case round=>
   obtain⟨k,v,hk,rfl,rfl,hva,hvb,HV,HB⟩:=hrel;have r0:=ROW.out wr HB.out;have nz:=zc 0 r0 (.slice _ n0 c0) rfl;clear r0;by_cases hlt:k<n0
   ·by_cases hv:v<1048576
    ·obtain⟨b,off,A3,n3,c3,eA,_,hbl,j1,j2,j3,hpl,q0,q1,q2,q3,_⟩:=(HS.out _ (gm.out _ HB.out)).Bq hlt;subst eA;have hkl:k<l.length:=by have:=mH.out;omega
     have hn3:n3≤140737488351232:=by
      have:=HB0.out _ (zR (d:=default) hkl);have:=hpl.len;omega
     have HVN:Hid (v0+(qd l (k+1)).length≤v+n3):=zh (by
      have h1:=HV.out;have h2:=hpl.len
      rw[zI hkl,List.length_append,h2];omega)
     clear hpl q0 q1 q2 j1 j2 j3;go_wp2
     exact⟨⟨k+1,_,by omega,by go_num,rfl,by omega,by omega,HVN,HB⟩,by simp[intOf];omega⟩
    go_wp2
    go_meet
    case rel=>exact⟨v,rfl,hva,hvb,zh (fun h=>absurd h (by omega)),HB⟩
   obtain rfl:n0=k:=by omega
   have HVE:Hid (v<1048576→v0+(qd l l.length).length≤v):=zh (fun _=>by rw[mH.out];exact HV.out);go_wp2
   go_meet
   case rel=>exact⟨v,rfl,hva,hvb,HVE,HB⟩
 case rest=>
  rename World=>wc
  obtain⟨va,rfl,hva0,hva1,HVA,HBA⟩:=hcut
  go_upto_region 6 with (fail)
  go_upto_block 2 with (fail)
  go_cut [3] from 6 (fun s3 V=>∃v:Int,s3=.int .i64 v∧0≤v∧v≤500000000000000∧Hid (v<1048576→v0+(qd l l.length).length+(qb xs xs.length).length≤v)∧Hid (Below W0.heap.size W0 V))
  case first=>
   go_wp2_with fail
   go_loopw [3,5] (fun t i wr=>∃k:Nat,∃v:Int,k≤n1∧i=.int .i64 k∧t=.int .i64 v∧0≤v∧v≤500000000000000∧Hid (v<1048576→v0+(qd l l.length).length+(qb xs k).length≤v)∧Hid (Below W0.heap.size W0 wr)) (fun _ i _=>n1 - (intOf i).toNat)
   case atStart=>exact⟨0,_,Nat.zero_le _,rfl,rfl,hva0,hva1,zh (fun h=>by have:=HVA.out h;simp[qb];omega),HBA⟩
   case round=>
    obtain⟨k,v,hk,rfl,rfl,hva,hvb,HV,HB⟩:=hrel;have r0:=ROW.out wr HB.out;have nr:=zc 1 r0 (.slice _ n1 c1) rfl;clear r0;have hzr:=Nat.lt_of_lt_of_le hz HB.out.size;by_cases hlt:k<n1
    ·by_cases hv:v<1048576
     ·obtain⟨b,off,A3,n3,c3,eA,_,hbl,j1,j2,hpl,q0,q1,q2,q3,_⟩:=(HT.out _ (gm.out _ HB.out)).BF hlt;subst eA;have hkl:k<xs.length:=(by have:=mE.out;omega);have hbb:=gB.out _ (zR (d:=default) hkl);have hn3:n3≤140737488351232:=(by have:=hpl.len;omega);have hd3:=hbb.1
      have HVN:Hid (v+((xs.getD k default).digest.size:Int)+n3<1048576→v0+(qd l l.length).length+(qb xs (k+1)).length≤v+((xs.getD k default).digest.size:Int)+n3):=zh (fun _=>by
       have h1:=HV.out hv;have h2:=hpl.len
       rw[zi hkl,List.length_append,h2];omega)
      generalize (xs.getD k default).digest=dg at *;clear hpl q1 q2 j1 j2 hbb;go_wp2_with fail
      have gI:=qX wr;refine qG (by kernel_rfl) (by kernel_rfl) ?_
      repeat (go_big_quiet_step (fail))
      refine wpQuiet_nil ?_;rintro _ ⟨X,rfl⟩;have gG:=zh (HB.out.trans ((qx wr X).mono HB.out.size));clear gI;generalize wr.ext X=w3 at *;clear nr q0 q3;go_wp2
      exact⟨⟨k+1,_,by omega,by go_num,rfl,by omega,by omega,HVN,gG⟩,by simp[intOf];omega⟩
     go_wp2
     go_meet
     case rel=>exact⟨v,rfl,hva,hvb,zh (fun h=>absurd h (by omega)),HB⟩
    obtain rfl:n1=k:=by omega
    have HVE:Hid (v<1048576→v0+(qd l l.length).length+(qb xs xs.length).length≤v):=zh (fun h=>by rw[mE.out];exact HV.out h);go_wp2
    go_meet
    case rel=>exact⟨v,rfl,hva,hvb,HVE,HB⟩
  case rest=>
   rename World=>wd
   obtain⟨vb,rfl,hvb0,hvb1,HVB,HBB⟩:=hcut;go_wp2_with fail
   go_loopw [3,6] (fun t i wr=>∃k:Nat,∃v:Int,k≤n2∧i=.int .i64 k∧t=.int .i64 v∧0≤v∧v≤500000000000000∧Hid (v<1048576→v0+(qd l l.length).length+(qb xs xs.length).length≤v)∧Hid (Below W0.heap.size W0 wr)) (fun _ i _=>n2 - (intOf i).toNat)
   case atStart=>exact⟨0,_,Nat.zero_le _,rfl,rfl,hvb0,hvb1,HVB,HBB⟩
   case round=>
    obtain⟨k,v,hk,rfl,rfl,hva,hvb,HV,HB⟩:=hrel;have r0:=ROW.out wr HB.out;have nt:=zc 2 r0 (.slice _ n2 c2) rfl;clear r0;have hzr:=Nat.lt_of_lt_of_le hz HB.out.size
    have mJ:Hid (v<1048576→(l.length:Int)+xs.length+gs.length+(qd l l.length).length+(qb xs xs.length).length≤v):=zh (fun h=>by
     have h1:=HV.out h;have h2:=HV0.out;rw[mH.out,mE.out,uk.out] at *;omega)
    by_cases hlt:k<n2
    ·by_cases hv:v<1048576
     ·obtain⟨b,off,eA,_,hbl,j1,j2,q0,q1,_⟩:=(HG.out _ (gm.out _ HB.out)).Ci hlt;subst eA;have hkl:k<gs.length:=(by have:=uk.out;omega);obtain⟨hd3,hn3⟩:=gu.out _ (zR (d:=default) hkl)
      have HVN:Hid (v+((gs.getD k default).name.size:Int)+((gs.getD k default).digest.size:Int)<1048576→v0+(qd l l.length).length+(qb xs xs.length).length≤v+((gs.getD k default).name.size:Int)+((gs.getD k default).digest.size:Int)):=zh (fun _=>by
       have h1:=HV.out hv;omega)
      generalize (gs.getD k default).name=nm at *;generalize (gs.getD k default).digest=dg at *;clear j1 j2;go_wp2_with fail
      have gI:=qX wr;refine qG (by kernel_rfl) (by kernel_rfl) ?_
      repeat (go_big_quiet_step (fail))
      refine wpQuiet_nil ?_;rintro _ ⟨X,rfl⟩;have gG:=zh (HB.out.trans ((qx wr X).mono HB.out.size));clear gI;generalize wr.ext X=w3 at *;clear nt q0 q1;go_wp2
      exact⟨⟨k+1,_,by omega,by go_num,rfl,by omega,by omega,HVN,gG⟩,by simp[intOf];omega⟩
     go_wp2
     go_ret
     exact⟨v,rfl,gm.out _ HB.out,fun h=>absurd h (by omega)⟩
    go_wp2
    go_ret
    exact⟨v,rfl,gm.out _ HB.out,mJ.out⟩
theorem Zn {tg tg0 tg1 tg2:Bool}{S:Nat→Prop}{w:World}{A0 A1 A2:Option Addr}{n0 c0 n1 c1 n2 c2:Nat}{b:Book}(hB:XA b) (h:BG w S tg tg0 tg1 tg2 A0 n0 c0 A1 n1 c1 A2 n2 c2 b):
  Calls Tryz.prog 45 #[.agg #[.slice A0 n0 c0,.slice A1 n1 c1,.slice A2 n2 c2,.int .i64 b.next]] w (Ez b w):=Zm hB h.st h.th h.ta
end Go.Proofs.YtipecejghioicaaGreat
set_option maxHeartbeats 4000000
set_option maxRecDepth 100000
namespace Go.Proofs.YtipecejghioicaaGreat
open Go.RowKit Go.Silo
def ZR (l:List Bt):Nat:=(l.map (fun r=>r.list.length+r.slots.length)).sum
theorem Ji {l:List Bt}{k:Nat}(h:k<l.length):ZR (l.take (k+1))=ZR (l.take k)+((l.getD k default).list.length+(l.getD k default).slots.length):=by
 unfold ZR;rw[qA (d:=default) h,List.map_append,List.sum_append];simp
def RetRW (l:List Bt) (w:World) (e:Ending) (w':World):Prop:=
 ∃v:Int,e=.returned (.int .i64 v)∧Below w.heap.size w w'∧(v<1048576→(l.length:Int)+ZR l≤v)
theorem kB {tg tg0:Bool}{S:Nat→Prop}{w:World}{A:Option Addr}{n c:Nat}{l:List Bt}(hB:l.length* 96≤reachBytes∧∀y∈l,jL y) (h:Sl tg 61 (xn tg0) w S A n c l):
  Calls Tryz.prog 46 #[.slice A n c] w (RetRW l w):=by
 have hr:reachBytes=140737488351232:=by decide
 obtain⟨q1,q2⟩:=hB;rw[hr] at q1;have HL:=zh h.len;have hn:n≤140737488351232:=by have:=HL.out;omega
 have HB:=zh (fun(y:Bt) (hy:y∈l)=>(by have h:=q2 y hy;unfold jL Qy at h;omega:y.name.size≤140737488351232∧y.digest.size≤140737488351232∧y.list.length≤140737488351232∧y.slots.length≤140737488351232));clear q1 q2 hr
 go_enter Tryz.func46,Tryz.ntmps46
 go_wp2_with fail
 go_loopw [3,4] (fun t i wr=>∃k:Nat,∃v:Int,k≤n∧i=.int .i64 k∧t=.int .i64 v∧0≤v∧v≤600000000000000∧Hid (v<1048576→(n:Int)+ZR (l.take k)≤v)∧Hid (Below w.heap.size w wr)) (fun _ i _=>n - (intOf i).toNat)
 case atStart=>exact⟨0,_,Nat.zero_le _,rfl,rfl,by omega,by omega,zh (fun h=>by simp[ZR]),zh (Below.refl _ _)⟩
 case round=>
  obtain⟨k,v,hk,rfl,rfl,hva,hvb,HV,gK⟩:=hrel;by_cases hlt:k<n
  ·by_cases hv:v<1048576
   ·obtain⟨b,off,A4,n4,c4,A5,n5,c5,eA,_,hbl,j0,j1,j2,j3,hp4,hp5,q0,q1,q2,q3,q4,q5,_⟩:=(h.all gK.out).Dm hlt;subst eA;have hkl:k<l.length:=(by have:=HL.out;omega);obtain⟨hb1,hb2,hb3,hb4⟩:=HB.out _ (zR (d:=default) hkl);have hn4:n4≤140737488351232:=(by have:=hp4.len;omega);have hn5:n5≤140737488351232:=by have:=hp5.len;omega
    have HVN:Hid (v+((l.getD k default).name.size:Int)+((l.getD k default).digest.size:Int)+n4+n5<1048576→(n:Int)+ZR (l.take (k+1))≤v+((l.getD k default).name.size:Int)+((l.getD k default).digest.size:Int)+n4+n5):=zh (fun _=>by
     have h1:=HV.out hv;have h4:=hp4.len;have h5:=hp5.len
     rw[Ji hkl,h4,h5];omega)
    generalize (l.getD k default).name=nm at *;generalize (l.getD k default).digest=dg at *;clear hp4 hp5 hb3 hb4 j0 j1 j2 j3 q0 q1;go_wp2_with fail
    have gI:=qX wr;refine qG (by kernel_rfl) (by kernel_rfl) ?_
    repeat (go_big_quiet_step (fail))
    refine wpQuiet_nil ?_;rintro _ ⟨X,rfl⟩;have gG:=zh (gK.out.trans ((qx wr X).mono gK.out.size));clear gI q2 q3 q4 q5;generalize wr.ext X=w3 at *;go_wp2
    go_roundw
    case rel=>exact⟨k+1,_,by omega,by go_num,rfl,by omega,by omega,HVN,gG⟩
    case measure=>simp[intOf];omega
   go_wp2
   go_ret
   exact⟨v,rfl,gK.out,fun h=>absurd h (by omega)⟩
  obtain rfl:n=k:=by omega
  go_wp2
  go_ret
  exact⟨v,rfl,gK.out,fun h=>by have h1:=HV.out h;rw[List.take_of_length_le (by have:=HL.out;omega)] at h1;rw[HL.out];exact h1⟩
structure CY (q:xy):Prop where
 bk:q.b.Ba.length+q.b.things.length+q.b.tags.length+(qd q.b.Ba q.b.Ba.length).length+(qb q.b.things q.b.things.length).length≤2500
 rc:q.l.length+ZR q.l≤2500
 lv:q.live.length≤50
def Xr (q:xy) (w:World) (e:Ending) (w':World):Prop:=∃v:Bool,e=.returned (.bool v)∧Below w.heap.size w w'∧(v=false→CY q)
theorem CY.few {q:xy}(h:CY q):DF q.b:=⟨by have:=h.bk;omega,by have:=h.bk;omega,by have:=h.bk;omega⟩
theorem Jj {tg:Bool}{S:Nat→Prop}{w:World}{A0 A1 A2 A3 A4:Option Addr}{n0 c0 n1 c1 n2 c2 n3 c3 n4 c4:Nat}{q:xy}(hB:jM q) (hb:BG w S tg tg tg tg A0 n0 c0 A1 n1 c1 A2 n2 c2 q.b) (hl:Sl tg 61 (xn tg) w S A3 n3 c3 q.l) (hv:Sl tg 4 Bn w S A4 n4 c4 q.live):
  Calls Tryz.prog 11 #[.agg #[.int .i64 q.s.K,.int .i64 q.s.M,.int .i64 q.s.size,.slice A0 n0 c0,.slice A1 n1 c1,.slice A2 n2 c2,.int .i64 q.b.next,.slice A3 n3 c3,.slice A4 n4 c4,.int .i64 q.n]] w (Xr q w):=by
 have gK:=zh (fun W (hW:Below w.heap.size w W)=>Zn (w:=W) hB.1 (hb.all hW));have HRW:=zh (fun W (hW:Below w.heap.size w W)=>kB (w:=W) hB.2.1 (hl.all hW));have HLV:=zh hv.len;clear hB hb hl hv;have hal:Below w.heap.size w (w.alloc (.cells #[.int .i64 q.s.K,.int .i64 q.s.M,.int .i64 q.s.size,.slice A0 n0 c0,.slice A1 n1 c1,.slice A2 n2 c2,.int .i64 q.b.next,.slice A3 n3 c3,.slice A4 n4 c4,.int .i64 q.n] 32)):=bz
 have mV:(w.alloc (.cells #[.int .i64 q.s.K,.int .i64 q.s.M,.int .i64 q.s.size,.slice A0 n0 c0,.slice A1 n1 c1,.slice A2 n2 c2,.int .i64 q.b.next,.slice A3 n3 c3,.slice A4 n4 c4,.int .i64 q.n] 32)).heap[w.heap.size]?=some (.cells #[.int .i64 q.s.K,.int .i64 q.s.M,.int .i64 q.s.size,.slice A0 n0 c0,.slice A1 n1 c1,.slice A2 n2 c2,.int .i64 q.b.next,.slice A3 n3 c3,.slice A4 n4 c4,.int .i64 q.n] 32 (0,0)):=by
  have:=heap_alloc_new w (.cells #[.int .i64 q.s.K,.int .i64 q.s.M,.int .i64 q.s.size,.slice A0 n0 c0,.slice A1 n1 c1,.slice A2 n2 c2,.int .i64 q.b.next,.slice A3 n3 c3,.slice A4 n4 c4,.int .i64 q.n] 32);simpa only[World.size_alloc] using this
 have hz:w.heap.size<(w.alloc (.cells #[.int .i64 q.s.K,.int .i64 q.s.M,.int .i64 q.s.size,.slice A0 n0 c0,.slice A1 n1 c1,.slice A2 n2 c2,.int .i64 q.b.next,.slice A3 n3 c3,.slice A4 n4 c4,.int .i64 q.n] 32)).heap.size:=by simp
 go_enter Tryz.func11,Tryz.ntmps11
 go_upto_region 1 with (fail)
 generalize (w.alloc (.cells #[.int .i64 q.s.K,.int .i64 q.s.M,.int .i64 q.s.size,.slice A0 n0 c0,.slice A1 n1 c1,.slice A2 n2 c2,.int .i64 q.b.next,.slice A3 n3 c3,.slice A4 n4 c4,.int .i64 q.n] 32))=W0 at *;have gm:=zh (fun V (hV:Below W0.heap.size W0 V)=>hal.trans (hV.mono hal.size));clear hal;have ROW:=zh (fun V (hV:Below W0.heap.size W0 V)=>(show V.heap[w.heap.size]?=some (.cells #[.int .i64 q.s.K,.int .i64 q.s.M,.int .i64 q.s.size,.slice A0 n0 c0,.slice A1 n1 c1,.slice A2 n2 c2,.int .i64 q.b.next,.slice A3 n3 c3,.slice A4 n4 c4,.int .i64 q.n] 32 (0,0)) from(hV.block _ (by omega)).trans mV));clear mV;have r0:=ROW.out W0 (Below.refl _ _);have x5:=zc 3 r0 (.slice _ n0 c0) rfl;have x6:=zc 4 r0 (.slice _ n1 c1) rfl;have x7:=zc 5 r0 (.slice _ n2 c2) rfl;have x8:=zc 6 r0 (.int .i64 q.b.next) rfl;clear r0;go_wp2_with fail
 refine(gK.out _ (gm.out _ (Below.refl _ _))).mono ?_;clear x5 x6 x7 x8;rintro e w1 ⟨v1,rfl,hb1,hv1⟩;have gB:=zh hb1;clear hb1;have HV1:=zh hv1;clear hv1;by_cases g1:2500<v1
 ·go_wp2
  go_ret
  exact⟨true,rfl,gm.out _ gB.out,fun h=>by cases h⟩
 have r0:=ROW.out w1 gB.out;have b07:=zc 7 r0 (.slice _ n3 c3) rfl;clear r0;go_wp2_with fail
 refine(HRW.out _ (gm.out _ gB.out)).mono ?_;clear b07;rintro e w2 ⟨v2,rfl,hb2,hv2⟩;have gu:=zt gB hb2;clear hb2;have HV2:=zh hv2;clear hv2;by_cases g2:2500<v2
 ·go_wp2
  go_ret
  exact⟨true,rfl,gm.out _ gu.out,fun h=>by cases h⟩
 have r0:=ROW.out w2 gu.out;have yq:=zc 8 r0 (.slice _ n4 c4) rfl;clear r0;by_cases g3:50<n4
 ·go_wp2
  go_ret
  exact⟨_,rfl,gm.out _ gu.out,fun h=>by simp at h;omega⟩
 go_wp2
 go_ret
 exact⟨_,rfl,gm.out _ gu.out,fun _=>⟨by have:=HV1.out (by omega);omega,by have:=HV2.out (by omega);omega,by have:=HLV.out;omega⟩⟩
end Go.Proofs.YtipecejghioicaaGreat
