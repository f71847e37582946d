/- Silolaw16.BookApplies: bounds; what is carried through a round. -/
import Derived.Test.YtipecejghioicaaGreatL5p
import Derived.Test.YtipecejghioicaaGreatN2p
import Derived.Test.YtipecejghioicaaGreatB6p
import Derived.Deep.CutBlock
import Derived.Deep.Cut
import Derived.Test.YtipecejghioicaaGreatDatap
import Derived.Test.YtipecejghioicaaGreatJ20p
import Derived.Test.YtipecejghioicaaGreatJ2p
import Derived.Test.YtipecejghioicaaGreatE8p
set_option maxHeartbeats 8000000
set_option maxRecDepth 100000
namespace Go.Proofs.YtipecejghioicaaGreat
open Go.RowKit Go.Silo
def EL (b:Book) (w:World) (e:Ending) (w':World):Prop:=
 ∃v:Int,e=.returned (.int .i64 v)∧Below w.heap.size w w'∧(v<1048576→(b.Ba.length:Int)+b.things.length+b.tags.length+(qh b.Ba b.Ba.length).length+(qr b.things b.things.length).length≤v)
theorem Zq {tg tg0 tg1 tg2:Bool}{S:Nat→Prop}{w:World}{A0 A1 A2:Option Addr}{n0 c0 n1 c1 n2 c2:Nat}{l:List Bc}{xs:List Entry}{gs:List Tag}{nx:Int}
  (hB:XP ⟨l,xs,gs,nx⟩) (h0:Sl tg 86 (qc tg0) w S A0 n0 c0 l) (h1:Sl tg 90 (qj tg1) w S A1 n1 c1 xs) (h2:Sl tg2 94 Bv w S A2 n2 c2 gs):
  Calls Tryz.prog 45 #[.agg #[.slice A0 n0 c0,.slice A1 n1 c1,.slice A2 n2 c2,.int .i64 nx]] w (EL ⟨l,xs,gs,nx⟩ w):=by
 have hr:reachBytes=140737488351232:=by decide
 obtain⟨⟨q1,q2⟩,⟨q3,q4⟩,⟨q5,q6⟩⟩:=hB;rw[hr] at q1 q3 q5;simp only at q1 q2 q3 q4 q5 q6;have uK:=zh h0.len;have rJ:=zh h1.len;have yA:=zh h2.len;have hn0:n0≤140737488351232:=by have:=uK.out;omega
 have uB:n1≤140737488351232:=by have:=rJ.out;omega
 have rZ:n2≤140737488351232:=by have:=yA.out;omega
 have gz:=zh (fun(y:Bc) (hy:y∈l)=>(by have h:=q2 y hy;unfold kV at h;omega:y.place.length≤140737488351232));have gV:=zh (fun(y:Entry) (hy:y∈xs)=>(by have h:=q4 y hy;unfold Zo QH at h;omega:y.digest.size≤140737488351232∧y.list.length≤140737488351232));have gM:=zh (fun(y:Tag) (hy:y∈gs)=>(by have h:=q6 y hy;unfold Ev QH at h;omega:y.name.size≤140737488351232∧y.digest.size≤140737488351232));clear q1 q2 q3 q4 q5 q6 hr;have hal:Below w.heap.size w (w.alloc (.cells #[.slice A0 n0 c0,.slice A1 n1 c1,.slice A2 n2 c2,.int .i64 nx] 28)):=bz
 have nt:(w.alloc (.cells #[.slice A0 n0 c0,.slice A1 n1 c1,.slice A2 n2 c2,.int .i64 nx] 28)).heap[w.heap.size]?=some (.cells #[.slice A0 n0 c0,.slice A1 n1 c1,.slice A2 n2 c2,.int .i64 nx] 28 (0,0)):=by
  have:=heap_alloc_new w (.cells #[.slice A0 n0 c0,.slice A1 n1 c1,.slice A2 n2 c2,.int .i64 nx] 28);simpa only[World.size_alloc] using this
 have hz:w.heap.size<(w.alloc (.cells #[.slice A0 n0 c0,.slice A1 n1 c1,.slice A2 n2 c2,.int .i64 nx] 28)).heap.size:=by simp
 have HS:=zh (fun W (hW:Below w.heap.size w W)=>h0.all hW);clear h0;have HT:=zh (fun W (hW:Below w.heap.size w W)=>h1.all hW);clear h1;have HG:=zh (fun W (hW:Below w.heap.size w W)=>h2.all hW);clear h2
 go_enter Tryz.func45,Tryz.ntmps45
 go_upto_region 1 with (fail)
 generalize (w.alloc (.cells #[.slice A0 n0 c0,.slice A1 n1 c1,.slice A2 n2 c2,.int .i64 nx] 28))=W0 at *;have gI:=zh (fun V (hV:Below W0.heap.size W0 V)=>hal.trans (hV.mono hal.size));clear hal;have ROW:=zh (fun V (hV:Below W0.heap.size W0 V)=>(show V.heap[w.heap.size]?=some (.cells #[.slice A0 n0 c0,.slice A1 n1 c1,.slice A2 n2 c2,.int .i64 nx] 28 (0,0)) from(hV.block _ (by omega)).trans nt));clear nt;have r0:=ROW.out W0 (Below.refl _ _);have nb:=zc 0 r0 (.slice _ n0 c0) rfl;have mX:=zc 1 r0 (.slice _ n1 c1) rfl;have mY:=zc 2 r0 (.slice _ n2 c2) rfl;clear r0;obtain⟨v0,hv0⟩:∃v0:Int,v0=(n0:Int)+n1+n2:=⟨_,rfl⟩;have hv01:0≤v0:=by omega
 have hv02:v0≤500000000000000:=by omega
 have HV0:=zh hv0;clear hv0
 go_upto_region 2 with (fail)
 rw[←HV0.out];clear nb mX mY
 go_upto_block 0 with (fail)
 go_cut [3] from 5 (fun s3 V=>∃v:Int,s3=.int .i64 v∧0≤v∧v≤500000000000000∧Hid (v<1048576→v0+(qh l l.length).length≤v)∧Hid (Below W0.heap.size W0 V))
 case first=>
  go_wp2_with fail
  go_loopw [3,4] (fun t i wr=>∃k:Nat,∃v:Int,k≤n0∧i=.int .i64 k∧t=.int .i64 v∧0≤v∧v≤500000000000000∧Hid (v0+(qh l k).length≤v)∧Hid (Below W0.heap.size W0 wr)) (fun _ i _=>n0 - (intOf i).toNat)
  case atStart=>exact⟨0,_,Nat.zero_le _,rfl,rfl,hv01,hv02,zh (by simp[qh]),zh (Below.refl _ _)⟩
  case round=>
   obtain⟨k,v,hk,rfl,rfl,hva,hvb,HV,HB⟩:=hrel;have r0:=ROW.out wr HB.out;have nb:=zc 0 r0 (.slice _ n0 c0) rfl;clear r0;by_cases hlt:k<n0
   ·by_cases hv:v<1048576
    ·obtain⟨b,off,A3,n3,c3,eA,_,hbl,j1,j2,j3,hpl,q0,q1,q2,q3,_⟩:=(HS.out _ (gI.out _ HB.out)).Bu hlt;subst eA;have hkl:k<l.length:=by have:=uK.out;omega
     have hn3:n3≤140737488351232:=by
      have:=gz.out _ (qK (d:=default) hkl);have:=hpl.len;omega
     have HVN:Hid (v0+(qh l (k+1)).length≤v+n3):=zh (by
      have h1:=HV.out;have h2:=hpl.len
      rw[zS hkl,List.length_append,h2];omega)
     clear hpl q0 q1 q2 j1 j2 j3;go_wp2
     exact⟨⟨k+1,_,by omega,by go_num,rfl,by omega,by omega,HVN,HB⟩,by simp[intOf];omega⟩
    go_wp2
    go_meet
    case rel=>exact⟨v,rfl,hva,hvb,zh (fun h=>absurd h (by omega)),HB⟩
   obtain rfl:n0=k:=by omega
   have HVE:Hid (v<1048576→v0+(qh l l.length).length≤v):=zh (fun _=>by rw[uK.out];exact HV.out);go_wp2
   go_meet
   case rel=>exact⟨v,rfl,hva,hvb,HVE,HB⟩
 case rest=>
  rename World=>wc
  obtain⟨va,rfl,hva0,hva1,HVA,HBA⟩:=hcut
  go_upto_region 6 with (fail)
  go_upto_block 2 with (fail)
  go_cut [3] from 6 (fun s3 V=>∃v:Int,s3=.int .i64 v∧0≤v∧v≤500000000000000∧Hid (v<1048576→v0+(qh l l.length).length+(qr xs xs.length).length≤v)∧Hid (Below W0.heap.size W0 V))
  case first=>
   go_wp2_with fail
   go_loopw [3,5] (fun t i wr=>∃k:Nat,∃v:Int,k≤n1∧i=.int .i64 k∧t=.int .i64 v∧0≤v∧v≤500000000000000∧Hid (v<1048576→v0+(qh l l.length).length+(qr xs k).length≤v)∧Hid (Below W0.heap.size W0 wr)) (fun _ i _=>n1 - (intOf i).toNat)
   case atStart=>exact⟨0,_,Nat.zero_le _,rfl,rfl,hva0,hva1,zh (fun h=>by have:=HVA.out h;simp[qr];omega),HBA⟩
   case round=>
    obtain⟨k,v,hk,rfl,rfl,hva,hvb,HV,HB⟩:=hrel;have r0:=ROW.out wr HB.out;have mX:=zc 1 r0 (.slice _ n1 c1) rfl;clear r0;have hzr:=Nat.lt_of_lt_of_le hz HB.out.size;by_cases hlt:k<n1
    ·by_cases hv:v<1048576
     ·obtain⟨b,off,A3,n3,c3,eA,_,hbl,j1,j2,hpl,q0,q1,q2,q3,_⟩:=(HT.out _ (gI.out _ HB.out)).BP hlt;subst eA;have hkl:k<xs.length:=(by have:=rJ.out;omega);have hbb:=gV.out _ (qK (d:=default) hkl);have hn3:n3≤140737488351232:=(by have:=hpl.len;omega);have hd3:=hbb.1
      have HVN:Hid (v+((xs.getD k default).digest.size:Int)+n3<1048576→v0+(qh l l.length).length+(qr xs (k+1)).length≤v+((xs.getD k default).digest.size:Int)+n3):=zh (fun _=>by
       have h1:=HV.out hv;have h2:=hpl.len
       rw[xf hkl,List.length_append,h2];omega)
      generalize (xs.getD k default).digest=dg at *;clear hpl q1 q2 j1 j2 hbb;go_wp2_with fail
      have pG:=xa wr;refine zr (by kernel_rfl) (by kernel_rfl) ?_
      repeat (go_big_quiet_step (fail))
      refine wpQuiet_nil ?_;rintro _ ⟨X,rfl⟩;have mL:=zh (HB.out.trans ((zn wr X).mono HB.out.size));clear pG;generalize wr.ext X=w3 at *;clear mX q0 q3;go_wp2
      exact⟨⟨k+1,_,by omega,by go_num,rfl,by omega,by omega,HVN,mL⟩,by simp[intOf];omega⟩
     go_wp2
     go_meet
     case rel=>exact⟨v,rfl,hva,hvb,zh (fun h=>absurd h (by omega)),HB⟩
    obtain rfl:n1=k:=by omega
    have HVE:Hid (v<1048576→v0+(qh l l.length).length+(qr xs xs.length).length≤v):=zh (fun h=>by rw[rJ.out];exact HV.out h);go_wp2
    go_meet
    case rel=>exact⟨v,rfl,hva,hvb,HVE,HB⟩
  case rest=>
   rename World=>wd
   obtain⟨vb,rfl,hvb0,hvb1,HVB,HBB⟩:=hcut;go_wp2_with fail
   go_loopw [3,6] (fun t i wr=>∃k:Nat,∃v:Int,k≤n2∧i=.int .i64 k∧t=.int .i64 v∧0≤v∧v≤500000000000000∧Hid (v<1048576→v0+(qh l l.length).length+(qr xs xs.length).length≤v)∧Hid (Below W0.heap.size W0 wr)) (fun _ i _=>n2 - (intOf i).toNat)
   case atStart=>exact⟨0,_,Nat.zero_le _,rfl,rfl,hvb0,hvb1,HVB,HBB⟩
   case round=>
    obtain⟨k,v,hk,rfl,rfl,hva,hvb,HV,HB⟩:=hrel;have r0:=ROW.out wr HB.out;have mY:=zc 2 r0 (.slice _ n2 c2) rfl;clear r0;have hzr:=Nat.lt_of_lt_of_le hz HB.out.size
    have gj:Hid (v<1048576→(l.length:Int)+xs.length+gs.length+(qh l l.length).length+(qr xs xs.length).length≤v):=zh (fun h=>by
     have h1:=HV.out h;have h2:=HV0.out;rw[uK.out,rJ.out,yA.out] at *;omega)
    by_cases hlt:k<n2
    ·by_cases hv:v<1048576
     ·obtain⟨b,off,eA,_,hbl,j1,j2,q0,q1,_⟩:=(HG.out _ (gI.out _ HB.out)).Cc hlt;subst eA;have hkl:k<gs.length:=(by have:=yA.out;omega);obtain⟨hd3,hn3⟩:=gM.out _ (qK (d:=default) hkl)
      have HVN:Hid (v+((gs.getD k default).name.size:Int)+((gs.getD k default).digest.size:Int)<1048576→v0+(qh l l.length).length+(qr xs xs.length).length≤v+((gs.getD k default).name.size:Int)+((gs.getD k default).digest.size:Int)):=zh (fun _=>by
       have h1:=HV.out hv;omega)
      generalize (gs.getD k default).name=nm at *;generalize (gs.getD k default).digest=dg at *;clear j1 j2;go_wp2_with fail
      have pG:=xa wr;refine zr (by kernel_rfl) (by kernel_rfl) ?_
      repeat (go_big_quiet_step (fail))
      refine wpQuiet_nil ?_;rintro _ ⟨X,rfl⟩;have mL:=zh (HB.out.trans ((zn wr X).mono HB.out.size));clear pG;generalize wr.ext X=w3 at *;clear mY q0 q1;go_wp2
      exact⟨⟨k+1,_,by omega,by go_num,rfl,by omega,by omega,HVN,mL⟩,by simp[intOf];omega⟩
     go_wp2
     go_ret
     exact⟨v,rfl,gI.out _ HB.out,fun h=>absurd h (by omega)⟩
    go_wp2
    go_ret
    exact⟨v,rfl,gI.out _ HB.out,gj.out⟩
theorem Zr {tg tg0 tg1 tg2:Bool}{S:Nat→Prop}{w:World}{A0 A1 A2:Option Addr}{n0 c0 n1 c1 n2 c2:Nat}{b:Book}(hB:XP b) (h:Bq w S tg tg0 tg1 tg2 A0 n0 c0 A1 n1 c1 A2 n2 c2 b):
  Calls Tryz.prog 45 #[.agg #[.slice A0 n0 c0,.slice A1 n1 c1,.slice A2 n2 c2,.int .i64 b.next]] w (EL b w):=Zq hB h.st h.th h.ta
end Go.Proofs.YtipecejghioicaaGreat
set_option maxHeartbeats 4000000
set_option maxRecDepth 100000
namespace Go.Proofs.YtipecejghioicaaGreat
open Go.RowKit Go.Silo
def Zs (l:List Bb):Nat:=(l.map (fun r=>r.list.length+r.slots.length)).sum
theorem JD {l:List Bb}{k:Nat}(h:k<l.length):Zs (l.take (k+1))=Zs (l.take k)+((l.getD k default).list.length+(l.getD k default).slots.length):=by
 unfold Zs;rw[zd (d:=default) h,List.map_append,List.sum_append];simp
def RetRW (l:List Bb) (w:World) (e:Ending) (w':World):Prop:=
 ∃v:Int,e=.returned (.int .i64 v)∧Below w.heap.size w w'∧(v<1048576→(l.length:Int)+Zs l≤v)
theorem kQ {tg tg0:Bool}{S:Nat→Prop}{w:World}{A:Option Addr}{n c:Nat}{l:List Bb}(hB:l.length* 96≤reachBytes∧∀y∈l,kk y) (h:Sl tg 61 (zX tg0) w S A n c l):
  Calls Tryz.prog 46 #[.slice A n c] w (RetRW l w):=by
 have hr:reachBytes=140737488351232:=by decide
 obtain⟨q1,q2⟩:=hB;rw[hr] at q1;have HL:=zh h.len;have hn:n≤140737488351232:=by have:=HL.out;omega
 have HB:=zh (fun(y:Bb) (hy:y∈l)=>(by have h:=q2 y hy;unfold kk QH at h;omega:y.name.size≤140737488351232∧y.digest.size≤140737488351232∧y.list.length≤140737488351232∧y.slots.length≤140737488351232));clear q1 q2 hr
 go_enter Tryz.func46,Tryz.ntmps46
 go_wp2_with fail
 go_loopw [3,4] (fun t i wr=>∃k:Nat,∃v:Int,k≤n∧i=.int .i64 k∧t=.int .i64 v∧0≤v∧v≤600000000000000∧Hid (v<1048576→(n:Int)+Zs (l.take k)≤v)∧Hid (Below w.heap.size w wr)) (fun _ i _=>n - (intOf i).toNat)
 case atStart=>exact⟨0,_,Nat.zero_le _,rfl,rfl,by omega,by omega,zh (fun h=>by simp[Zs]),zh (Below.refl _ _)⟩
 case round=>
  obtain⟨k,v,hk,rfl,rfl,hva,hvb,HV,mq⟩:=hrel;by_cases hlt:k<n
  ·by_cases hv:v<1048576
   ·obtain⟨b,off,A4,n4,c4,A5,n5,c5,eA,_,hbl,j0,j1,j2,j3,hp4,hp5,q0,q1,q2,q3,q4,q5,_⟩:=(h.all mq.out).Cz hlt;subst eA;have hkl:k<l.length:=(by have:=HL.out;omega);obtain⟨hb1,hb2,hb3,hb4⟩:=HB.out _ (qK (d:=default) hkl);have ru:n4≤140737488351232:=(by have:=hp4.len;omega);have hn5:n5≤140737488351232:=by have:=hp5.len;omega
    have HVN:Hid (v+((l.getD k default).name.size:Int)+((l.getD k default).digest.size:Int)+n4+n5<1048576→(n:Int)+Zs (l.take (k+1))≤v+((l.getD k default).name.size:Int)+((l.getD k default).digest.size:Int)+n4+n5):=zh (fun _=>by
     have h1:=HV.out hv;have h4:=hp4.len;have h5:=hp5.len
     rw[JD hkl,h4,h5];omega)
    generalize (l.getD k default).name=nm at *;generalize (l.getD k default).digest=dg at *;clear hp4 hp5 hb3 hb4 j0 j1 j2 j3 q0 q1;go_wp2_with fail
    have pG:=xa wr;refine zr (by kernel_rfl) (by kernel_rfl) ?_
    repeat (go_big_quiet_step (fail))
    refine wpQuiet_nil ?_;rintro _ ⟨X,rfl⟩;have mL:=zh (mq.out.trans ((zn wr X).mono mq.out.size));clear pG q2 q3 q4 q5;generalize wr.ext X=w3 at *;go_wp2
    go_roundw
    case rel=>exact⟨k+1,_,by omega,by go_num,rfl,by omega,by omega,HVN,mL⟩
    case measure=>simp[intOf];omega
   go_wp2
   go_ret
   exact⟨v,rfl,mq.out,fun h=>absurd h (by omega)⟩
  obtain rfl:n=k:=by omega
  go_wp2
  go_ret
  exact⟨v,rfl,mq.out,fun h=>by have h1:=HV.out h;rw[List.take_of_length_le (by have:=HL.out;omega)] at h1;rw[HL.out];exact h1⟩
structure CJ (q:xo):Prop where
 bk:q.b.Ba.length+q.b.things.length+q.b.tags.length+(qh q.b.Ba q.b.Ba.length).length+(qr q.b.things q.b.things.length).length≤2500
 rc:q.l.length+Zs q.l≤2500
 lv:q.live.length≤50
def XD (q:xo) (w:World) (e:Ending) (w':World):Prop:=∃v:Bool,e=.returned (.bool v)∧Below w.heap.size w w'∧(v=false→CJ q)
theorem CJ.few {q:xo}(h:CJ q):DK q.b:=⟨by have:=h.bk;omega,by have:=h.bk;omega,by have:=h.bk;omega⟩
theorem QT {tg:Bool}{S:Nat→Prop}{w:World}{A0 A1 A2 A3 A4:Option Addr}{n0 c0 n1 c1 n2 c2 n3 c3 n4 c4:Nat}{q:xo}(hB:jd q) (hb:Bq w S tg tg tg tg A0 n0 c0 A1 n1 c1 A2 n2 c2 q.b) (hl:Sl tg 61 (zX tg) w S A3 n3 c3 q.l) (hv:Sl tg 4 Cf w S A4 n4 c4 q.live):
  Calls Tryz.prog 11 #[.agg #[.int .i64 q.s.K,.int .i64 q.s.M,.int .i64 q.s.size,.slice A0 n0 c0,.slice A1 n1 c1,.slice A2 n2 c2,.int .i64 q.b.next,.slice A3 n3 c3,.slice A4 n4 c4,.int .i64 q.n]] w (XD q w):=by
 have mq:=zh (fun W (hW:Below w.heap.size w W)=>Zr (w:=W) hB.1 (hb.all hW));have gy:=zh (fun W (hW:Below w.heap.size w W)=>kQ (w:=W) hB.2.1 (hl.all hW));have HLV:=zh hv.len;clear hB hb hl hv;have hal:Below w.heap.size w (w.alloc (.cells #[.int .i64 q.s.K,.int .i64 q.s.M,.int .i64 q.s.size,.slice A0 n0 c0,.slice A1 n1 c1,.slice A2 n2 c2,.int .i64 q.b.next,.slice A3 n3 c3,.slice A4 n4 c4,.int .i64 q.n] 32)):=bz
 have nt:(w.alloc (.cells #[.int .i64 q.s.K,.int .i64 q.s.M,.int .i64 q.s.size,.slice A0 n0 c0,.slice A1 n1 c1,.slice A2 n2 c2,.int .i64 q.b.next,.slice A3 n3 c3,.slice A4 n4 c4,.int .i64 q.n] 32)).heap[w.heap.size]?=some (.cells #[.int .i64 q.s.K,.int .i64 q.s.M,.int .i64 q.s.size,.slice A0 n0 c0,.slice A1 n1 c1,.slice A2 n2 c2,.int .i64 q.b.next,.slice A3 n3 c3,.slice A4 n4 c4,.int .i64 q.n] 32 (0,0)):=by
  have:=heap_alloc_new w (.cells #[.int .i64 q.s.K,.int .i64 q.s.M,.int .i64 q.s.size,.slice A0 n0 c0,.slice A1 n1 c1,.slice A2 n2 c2,.int .i64 q.b.next,.slice A3 n3 c3,.slice A4 n4 c4,.int .i64 q.n] 32);simpa only[World.size_alloc] using this
 have hz:w.heap.size<(w.alloc (.cells #[.int .i64 q.s.K,.int .i64 q.s.M,.int .i64 q.s.size,.slice A0 n0 c0,.slice A1 n1 c1,.slice A2 n2 c2,.int .i64 q.b.next,.slice A3 n3 c3,.slice A4 n4 c4,.int .i64 q.n] 32)).heap.size:=by simp
 go_enter Tryz.func11,Tryz.ntmps11
 go_upto_region 1 with (fail)
 generalize (w.alloc (.cells #[.int .i64 q.s.K,.int .i64 q.s.M,.int .i64 q.s.size,.slice A0 n0 c0,.slice A1 n1 c1,.slice A2 n2 c2,.int .i64 q.b.next,.slice A3 n3 c3,.slice A4 n4 c4,.int .i64 q.n] 32))=W0 at *;have gI:=zh (fun V (hV:Below W0.heap.size W0 V)=>hal.trans (hV.mono hal.size));clear hal;have ROW:=zh (fun V (hV:Below W0.heap.size W0 V)=>(show V.heap[w.heap.size]?=some (.cells #[.int .i64 q.s.K,.int .i64 q.s.M,.int .i64 q.s.size,.slice A0 n0 c0,.slice A1 n1 c1,.slice A2 n2 c2,.int .i64 q.b.next,.slice A3 n3 c3,.slice A4 n4 c4,.int .i64 q.n] 32 (0,0)) from(hV.block _ (by omega)).trans nt));clear nt;have r0:=ROW.out W0 (Below.refl _ _);have rT:=zc 3 r0 (.slice _ n0 c0) rfl;have Hp:=zc 4 r0 (.slice _ n1 c1) rfl;have Hq:=zc 5 r0 (.slice _ n2 c2) rfl;have Hr:=zc 6 r0 (.int .i64 q.b.next) rfl;clear r0;go_wp2_with fail
 refine(mq.out _ (gI.out _ (Below.refl _ _))).mono ?_;clear rT Hp Hq Hr;rintro e w1 ⟨v1,rfl,hb1,hv1⟩;have gV:=zh hb1;clear hb1;have HV1:=zh hv1;clear hv1;by_cases g1:2500<v1
 ·go_wp2
  go_ret
  exact⟨true,rfl,gI.out _ gV.out,fun h=>by cases h⟩
 have r0:=ROW.out w1 gV.out;have yL:=zc 7 r0 (.slice _ n3 c3) rfl;clear r0;go_wp2_with fail
 refine(gy.out _ (gI.out _ gV.out)).mono ?_;clear yL;rintro e w2 ⟨v2,rfl,hb2,hv2⟩;have gM:=zt gV hb2;clear hb2;have HV2:=zh hv2;clear hv2;by_cases g2:2500<v2
 ·go_wp2
  go_ret
  exact⟨true,rfl,gI.out _ gM.out,fun h=>by cases h⟩
 have r0:=ROW.out w2 gM.out;have b08:=zc 8 r0 (.slice _ n4 c4) rfl;clear r0;by_cases g3:50<n4
 ·go_wp2
  go_ret
  exact⟨_,rfl,gI.out _ gM.out,fun h=>by simp at h;omega⟩
 go_wp2
 go_ret
 exact⟨_,rfl,gI.out _ gM.out,fun _=>⟨by have:=HV1.out (by omega);omega,by have:=HV2.out (by omega);omega,by have:=HLV.out;omega⟩⟩
end Go.Proofs.YtipecejghioicaaGreat
namespace Go.Proofs.YtipecejghioicaaGreat
open Go.RowKit Go.Silo
theorem XE {l:List Nat}{a:Nat}(h:a∈l):a≤l.sum:=by
 induction l with
 |nil=>cases h
 |cons b l ih=>
  rw[List.sum_cons];rcases List.mem_cons.1 h with rfl|h
  ·omega
  have:=ih h;omega
theorem ZY {l:List Bb}{r:Bb}(h:r∈l):r.list.length+r.slots.length≤Zs l:=XE (List.mem_map.2 ⟨r,h,rfl⟩)
structure E9 (b:Book) (k:Nat):Prop where
 ls:b.Ba.length≤2500+k
 lt:b.things.length≤2500+k
 lg:b.tags.length≤2500+k
 ss:(b.Ba.map (fun y=>y.place.length)).sum≤14* (2500+k)
 st:(b.things.map (fun y=>y.list.length)).sum≤2500+2000* k
theorem E9.few {b:Book}{k:Nat}(h:E9 b k) (hk:k≤20):DK b:=by
 refine⟨Nat.le_trans h.ls (by omega),?_,?_⟩
 ·unfold qh;rw[List.take_length,List.length_flatMap];have:=h.ss;omega
 unfold qr;rw[List.take_length,List.length_flatMap];have:=h.st;omega
theorem E9.step {s:Shape}{b b':Book}{k:Nat}{r:Bb}(h:E9 b k) (hb:zk s b=true) (hr:qy r=true) (he:Co b r=some b'):E9 b' (k+1):=by
 have hn:=(zQ hb).2.1;have hi:BInv b (2500+k) (2500+2000* k):=⟨xw hb,h.ls,h.lt,h.lg,⟨hn.1,by omega⟩,h.ss,h.st⟩;have h2:=hi.step hr he;have h3:=(zZ hr).2.2.2.1;exact⟨h2.ls,h2.lt,h2.lg,h2.ss,Nat.le_trans h2.st (by omega)⟩
theorem E9.start {q:xo}(h:CJ q):E9 q.b 0:=by
 have h1:=h.bk;unfold qh qr at h1;rw[List.take_length,List.take_length,List.length_flatMap,List.length_flatMap] at h1;exact⟨by omega,by omega,by omega,by omega,by omega⟩
structure BAJ (W0:World) (g3 g5 g6:Nat) (D0:Option Addr) (d0 e0:Nat) (D1:Option Addr) (d1 e1:Nat) (D2:Option Addr) (d2 e2:Nat) (F0:Option Addr) (f0 h0:Nat) (F1:Option Addr) (f1 h1:Nat) (F2:Option Addr) (f2 h2:Nat) (G4:Option Addr) (m4 j4:Nat) (G5:Option Addr) (m5 j5:Nat) (bk:Book) (r:Bb) (W:World):Prop where
 of:Es W0 g3 D0 d0 e0 D1 d1 e1 D2 d2 e2 bk W
 r5:W.heap[g5]?=some (.cells #[.slice F0 f0 h0,.slice F1 f1 h1,.slice F2 f2 h2,.int .i64 bk.next] 28 (0,0))
 r6:W.heap[g6]?=some (.cells #[.int .i64 r.kind,.int .i64 r.id,.string r.name,.string r.digest,.slice G4 m4 j4,.slice G5 m5 j5] 61 (0,0))
 b5:Bq W (fun q=>W0.heap.size≤q) true true true true F0 f0 h0 F1 f1 h1 F2 f2 h2 bk
 s4:Sl true 3 qD W (fun q=>W0.heap.size≤q) G4 m4 j4 r.list
 s5:Sl true 88 qp W (fun q=>W0.heap.size≤q) G5 m5 j5 r.slots
theorem BAJ.all {W0:World}{g3 g5 g6:Nat}{D0:Option Addr}{d0 e0:Nat}{D1:Option Addr}{d1 e1:Nat}{D2:Option Addr}{d2 e2:Nat}{F0:Option Addr}{f0 h0:Nat}{F1:Option Addr}{f1 h1:Nat}{F2:Option Addr}{f2 h2:Nat}{G4:Option Addr}{m4 j4:Nat}{G5:Option Addr}{m5 j5:Nat}{bk:Book}{r:Bb}{W V:World}(h:BAJ W0 g3 g5 g6 D0 d0 e0 D1 d1 e1 D2 d2 e2 F0 f0 h0 F1 f1 h1 F2 f2 h2 G4 m4 j4 G5 m5 j5 bk r W) (hb:Below W.heap.size W V):BAJ W0 g3 g5 g6 D0 d0 e0 D1 d1 e1 D2 d2 e2 F0 f0 h0 F1 f1 h1 F2 f2 h2 G4 m4 j4 G5 m5 j5 bk r V:=
 ⟨h.of.all hb,zb hb h.r5,zb hb h.r6,h.b5.all hb,h.s4.all hb,h.s5.all hb⟩
theorem BU.Cy {S:Nat→Prop}{B:Nat}{w w':World}(h:BU S w w') (hB:B≤w.heap.size) (hS:∀b,S b→B≤b):Below B w w':=
 ⟨h.os,h.tape,h.output,h.size,fun b hb=>h.block b (Nat.lt_of_lt_of_le hb hB) (fun hs=>by have:=hS b hs;omega)⟩
end Go.Proofs.YtipecejghioicaaGreat
