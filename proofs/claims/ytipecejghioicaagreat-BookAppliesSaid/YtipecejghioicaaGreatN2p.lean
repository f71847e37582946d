/- Siloref16.At, Cursor, Next; rota.Behind, round. -/
import Derived.Test.YtipecejghioicaaGreatQ5p
import Derived.Test.YtipecejghioicaaGreatB3p
import Derived.Test.YtipecejghioicaaGreatK2p
import Derived.Test.YtipecejghioicaaGreatDatap
import Derived.Test.YtipecejghioicaaGreatQ8p
import Derived.Test.YtipecejghioicaaGreatB6p
import Derived.Test.YtipecejghioicaaGreatE8p
import Derived.Deep.CutBlock
import Derived.Deep.Cut
namespace Go.Proofs.YtipecejghioicaaGreat
open Go.RowKit Go.Silo
def zk (s:Shape) (b:Book):Bool:=qt s&&(decide (0≤b.next∧b.next≤1073741824)&&(qH s b.next b.Ba&&(zg s b.Ba b.things&&zV b.tags)))
structure DK (b:Book):Prop where
 st:b.Ba.length≤4000
 sl:(qh b.Ba b.Ba.length).length≤1000000
 nm:(qr b.things b.things.length).length≤1000000
theorem xV {s:Shape}{nx:Int}{l:List Bc}(h:qH s nx l=true):∀i j,i<j→j<l.length→(l.getD i default).id<(l.getD j default).id:=by
 unfold qH at h;rw[Bool.and_eq_true] at h;have h1:=List.all_eq_true.1 h.1
 have step:∀j,j+1<l.length→(l.getD j default).id<(l.getD (j+1) default).id:=fun j hj=>by
  have:=h1 (j+1) (List.mem_range.2 hj);unfold qU at this;simp only[Bool.and_eq_true,Bool.or_eq_true,decide_eq_true_eq] at this;obtain⟨_,_,h|h⟩:=this
  ·omega
  exact h
 intro i j hij
 induction j with
 |zero=>omega
 |succ j ih=>
  intro hj;have h2:=step j hj;rcases Nat.lt_or_ge i j with h3|h3
  ·have:=ih h3 (by omega);omega
  obtain rfl:i=j:=by omega
  exact h2
theorem Qh {s:Shape}{nx:Int}{l:List Bc}(h:qH s nx l=true):∀k,k<l.length→ze s (l.getD k default)=true∧(l.getD k default).id<nx:=by
 unfold qH at h;rw[Bool.and_eq_true] at h;intro k hk;have:=(List.all_eq_true.1 h.1) k (List.mem_range.2 hk);unfold qU at this;simp only[Bool.and_eq_true,decide_eq_true_eq] at this;exact⟨this.1,this.2.1⟩
theorem Za {s:Shape}{x:Bc}(h:ze s x=true):1≤x.len∧x.len≤s.K* s.size∧(x.place.length:Int)=s.K+s.M∧0≤x.id∧x.id≤1073741824∧0≤x.gen∧x.gen≤1073741824∧qt s=true:=by
 unfold ze qg at h;simp only[Bool.and_eq_true,decide_eq_true_eq] at h;obtain⟨⟨⟨⟨⟨⟨h1,h2⟩,h3⟩,h4⟩,h5⟩,h6⟩,_⟩:=h;exact⟨h4,h5,h6,h2.1,h2.2,h3.1,h3.2,h1⟩
def CU (l:List Bc) (id:Int):Int:=match l.findIdx? (fun y=>decide (y.id=id)) with
 |some i=>(i:Int)
 |none=>-1
theorem ZE {l:List Bc}{id:Int}(h:∀j,j<l.length→(l.getD j default).id≠id):CU l id=-1:=by
 unfold CU
 have:l.findIdx? (fun y=>decide (y.id=id))=none:=by
  rw[List.findIdx?_eq_none_iff];intro y hy;obtain⟨j,hj,rfl⟩:=List.getElem_of_mem hy;have:=h j hj;rw[List.getD_eq_getElem?_getD,List.getElem?_eq_getElem hj] at this;simpa using this
 rw[this]
theorem JW {l:List Bc}{id:Int}{i:Nat}(hi:i<l.length) (h:(l.getD i default).id=id) (h1:∀j,j<i→(l.getD j default).id≠id):CU l id=(i:Int):=by
 unfold CU
 have:l.findIdx? (fun y=>decide (y.id=id))=some i:=by
  rw[List.findIdx?_eq_some_iff_getElem];rw[List.getD_eq_getElem?_getD,List.getElem?_eq_getElem hi] at h;refine⟨hi,by simpa using h,fun j hj=>?_⟩;have:=h1 j hj;rw[List.getD_eq_getElem?_getD,List.getElem?_eq_getElem (by omega)] at this;simpa using this
 rw[this]
theorem jB (l:List Bc) (id:Int):(CU l id=-1∧∀j,j<l.length→(l.getD j default).id≠id)∨∃i:Nat,i<l.length∧CU l id=(i:Int)∧(l.getD i default).id=id∧∀j,j<i→(l.getD j default).id≠id:=by
 by_cases h:∃j,j<l.length∧(l.getD j default).id=id
 ·obtain⟨i,⟨hi,he⟩,hm⟩:=QY h;refine .inr ⟨i,hi,JW hi he (fun j hj x6=>?_),he,fun j hj x6=>?_⟩
  ·have:=hm j ⟨by omega,x6⟩;omega
  have:=hm j ⟨by omega,x6⟩;omega
 exact .inl ⟨ZE (fun j hj he=>h ⟨j,hj,he⟩),fun j hj he=>h ⟨j,hj,he⟩⟩
theorem Xg {l:List Bc}{id:Int}{i:Nat}(hi:i<l.length) (h:CU l id=(i:Int)):xB l id=some (l.getD i default):=by
 rcases jB l id with ⟨h1,_⟩|⟨j,hj,h1,h2,h3⟩
 ·omega
 obtain rfl:j=i:=by omega
 unfold xB;rw[List.find?_eq_some_iff_getElem];have e:∀j (hj:j<l.length),l.getD j default=l[j]:=fun j hj=>by rw[List.getD_eq_getElem?_getD,List.getElem?_eq_getElem hj];rfl
 refine⟨by simpa using h2,j,hj,(e j hj).symm,fun k hk=>?_⟩;have:=h3 k hk;rw[e k (by omega)] at this;simpa using this
theorem kL {l:List Bc}{id:Int}(h:CU l id<0):xB l id=none:=by
 rcases jB l id with ⟨_,h1⟩|⟨j,hj,h1,_⟩
 ·unfold xB;rw[List.find?_eq_none];intro y hy;obtain⟨j,hj,rfl⟩:=List.getElem_of_mem hy;have:=h1 j hj;rw[List.getD_eq_getElem?_getD,List.getElem?_eq_getElem hj] at this;simpa using this
 omega
def xJ (l:List Bc) (N:List Int):List Bool:=l.map (fun y=>decide (y.id∈N))
theorem XZ {l:List Bc}{N:List Int}{i:Nat}(hi:i<l.length):(xJ l N).getD i false=decide ((l.getD i default).id∈N):=by
 unfold xJ;rw[List.getD_eq_getElem?_getD,List.getElem?_map,List.getD_eq_getElem?_getD,List.getElem?_eq_getElem hi];rfl
theorem Xh {l:List Bc}{N:List Int}{i:Nat}(hi:i<l.length) (hs:∀i j,i<j→j<l.length→(l.getD i default).id<(l.getD j default).id):(xJ l N).set i true=xJ l (N++[(l.getD i default).id]):=by
 unfold xJ;refine List.ext_getElem? (fun k=>?_);have e:∀j (hj:j<l.length),l.getD j default=l[j]:=fun j hj=>by rw[List.getD_eq_getElem?_getD,List.getElem?_eq_getElem hj];rfl
 by_cases hk:k<l.length
 ·by_cases Gg:k=i
  ·subst Gg;rw[List.getElem?_set_self (by simpa using hk),List.getElem?_map,List.getElem?_eq_getElem hk];refine congrArg some (decide_eq_true (List.mem_append_right _ ?_)).symm;rw[e k hk];exact List.mem_singleton.2 rfl
  rw[List.getElem?_set_ne (Ne.symm Gg),List.getElem?_map,List.getElem?_map,List.getElem?_eq_getElem hk]
  have hne:l[k].id≠(l.getD i default).id:=by
   rw[←e k hk];rcases Nat.lt_or_ge k i with h|h
   ·have:=hs k i h hi;omega
   have:=hs i k (by omega) hk;omega
  simp only[Option.map_some,List.mem_append,List.mem_singleton,hne,or_false]
 rw[List.getElem?_eq_none (by simp;omega),List.getElem?_eq_none (by simp;omega)]
def xR (W len:Int) (k:Nat):Int:=max 0 (len - (k:Int)* W)
theorem Qi {W len:Int}(h:0≤len):xR W len 0=len:=by unfold xR;simp;omega
theorem Xi {W len:Int}(hW:1≤W) (k:Nat):xR W len (k+1)=xR W len k - min (xR W len k) W:=by
 unfold xR;have:((k+1:Nat):Int)* W=(k:Int)* W+W:=by rw[show((k+1:Nat):Int)=(k:Int)+1 from rfl,Int.add_mul,Int.one_mul]
 rw[this];generalize (k:Int)* W=q;omega
theorem Xj {s:Shape}{len:Int}(hW:1≤s.K* s.size) (h:0≤len):xR (s.K* s.size) len (zJ s len)=0:=by
 unfold xR zJ;generalize s.K* s.size=W at *;have h1:0≤(len+W - 1) / W:=Int.ediv_nonneg (by omega) (by omega);rw[Int.toNat_of_nonneg h1];have h2:=Int.emod_lt_of_pos (len+W - 1) (by omega:0<W);have h3:=Int.emod_add_mul_ediv (len+W - 1) W;rw[Int.mul_comm] at h3;omega
theorem Qj {W:Int}{l:List Bc}{xs:List Int}{k:Nat}{left:Int}(hk:k<xs.length):zA W l (xs.drop k) left=match xB l (xs.getD k 0) with
  |none=>false
  |some y=>if y.len=min left W then zA W l (xs.drop (k+1)) (left - y.len) else false:=by
 have:xs.drop k=xs.getD k 0::xs.drop (k+1):=by
  rw[List.drop_eq_getElem_cons hk,List.getD_eq_getElem?_getD,List.getElem?_eq_getElem hk];rfl
 rw[this];rfl
def qP (s:Shape) (xs:List Entry) (k:Nat):Bool:=
 decide ((xs.getD k default).digest.size=32)&&((decide (k=0)||qo (xs.getD (k - 1) default).digest (xs.getD k default).digest)&&(decide (0≤(xs.getD k default).len)&&(decide ((xs.getD k default).len≤2000)&&decide ((xs.getD k default).list.length=zJ s (xs.getD k default).len))))
theorem jk {s:Shape}{l:List Bc}{xs:List Entry}{k:Nat}:qI s l xs k=(qP s xs k&&zA (s.K* s.size) l (xs.getD k default).list (xs.getD k default).len):=by
 unfold qI qP;simp only[Bool.and_assoc]
theorem kD {s:Shape}{nx:Int}{l:List Bc}{k:Nat}(h:qW s l=true) (hk:k<l.length):qU s nx l k=decide ((l.getD k default).id<nx):=by
 have h1:=List.all_eq_true.1 h k (List.mem_range.2 hk);unfold zL at h1;unfold qU;rw[Bool.and_eq_true] at h1;obtain⟨h1,h2⟩:=h1;rw[h1];rcases Nat.eq_zero_or_pos k with rfl|h0
 ·simp
 have h3:decide (k=0)=false:=decide_eq_false (by omega);rw[h3]
 have h4:(l.getD (k - 1) default).id<(l.getD k default).id:=by
  simp[h0] at h2;exact h2
 rw[decide_eq_true h4];simp
theorem Zb {s:Shape}{nx:Int}{l:List Bc}(h:(qW s l&&qt s)=false):(qt s&&qH s nx l)=false:=by
 cases hs:qt s with
 |false=>rfl
 |true=>
  rw[hs,Bool.and_true] at h
  cases hq:qH s nx l with
  |false=>rfl
  |true=>
   have hall:=List.all_eq_true.1 (show(List.range l.length).all (qU s nx l)=true from by unfold qH at hq;rw[Bool.and_eq_true] at hq;exact hq.1)
   have:qW s l=true:=jH (fun j hj=>by
    have h2:=hall j (List.mem_range.2 hj);unfold qU at h2;unfold zL;simp only[Bool.and_eq_true,Bool.or_eq_true,decide_eq_true_eq] at h2;obtain⟨h3,_,h4⟩:=h2;rw[h3,Bool.true_and];rcases Nat.eq_zero_or_pos j with rfl|h0
    ·rfl
    have h5:(l.getD (j - 1) default).id<(l.getD j default).id:=(by omega);rw[decide_eq_false (by omega:¬(l.getD j default).id≤(l.getD (j - 1) default).id)]
    simp)
   rw[this] at h;cases h
end Go.Proofs.YtipecejghioicaaGreat
set_option maxHeartbeats 4000000
set_option maxRecDepth 100000
namespace Go.Proofs.YtipecejghioicaaGreat
open Go.RowKit Go.Silo
structure Bq (w:World) (S:Nat→Prop) (tg tg0 tg1 tg2:Bool) (A0:Option Addr) (n0 c0:Nat) (A1:Option Addr) (n1 c1:Nat) (A2:Option Addr) (n2 c2:Nat) (b:Book):Prop where
 st:Sl tg 86 (qc tg0) w S A0 n0 c0 b.Ba
 th:Sl tg 90 (qj tg1) w S A1 n1 c1 b.things
 ta:Sl tg2 94 Bv w S A2 n2 c2 b.tags
 nx:Bn b.next
section
variable {w w':World}{S S':Nat→Prop}{tg tg0 tg1 tg2:Bool}{A0 A1 A2:Option Addr}{n0 c0 n1 c1 n2 c2:Nat}{b:Book}
theorem Bq.all (h:Bq w S tg tg0 tg1 tg2 A0 n0 c0 A1 n1 c1 A2 n2 c2 b) (hb:Below w.heap.size w w'):Bq w' S tg tg0 tg1 tg2 A0 n0 c0 A1 n1 c1 A2 n2 c2 b:=⟨h.st.all hb,h.th.all hb,h.ta.all hb,h.nx⟩
theorem Bq.keep (h:Bq w S tg tg0 tg1 tg2 A0 n0 c0 A1 n1 c1 A2 n2 c2 b) (k:Bg S w w'):Bq w' S tg tg0 tg1 tg2 A0 n0 c0 A1 n1 c1 A2 n2 c2 b:=⟨h.st.keep k,h.th.keep k,h.ta.keep k,h.nx⟩
theorem Bq.mono (h:Bq w S tg tg0 tg1 tg2 A0 n0 c0 A1 n1 c1 A2 n2 c2 b) (hS:∀k,S k→k<w.heap.size→S' k):Bq w S' tg tg0 tg1 tg2 A0 n0 c0 A1 n1 c1 A2 n2 c2 b:=⟨h.st.mono hS,h.th.mono hS,h.ta.mono hS,h.nx⟩
end
theorem EA {tg tg0 tg1 tg2:Bool}{S:Nat→Prop}{w:World}{A0 A1 A2:Option Addr}{n0 c0 n1 c1 n2 c2:Nat}{s:Shape}{b:Book}(hsi:Bn s.K∧Bn s.M∧Bn s.size) (hf:DK b) (h:Bq w S tg tg0 tg1 tg2 A0 n0 c0 A1 n1 c1 A2 n2 c2 b):
  Calls Tryz.prog 47 #[.agg #[.int .i64 s.K,.int .i64 s.M,.int .i64 s.size],.agg #[.slice A0 n0 c0,.slice A1 n1 c1,.slice A2 n2 c2,.int .i64 b.next]] w (Bf (.bool (zk s b)) w):=by
 have Gh:Hid (zk s b=(qt s&&(decide (0≤b.next∧b.next≤1073741824)&&(qH s b.next b.Ba&&(zg s b.Ba b.things&&zV b.tags))))):=zh rfl;have hn0:n0≤4000:=by have:=hf.st;have:=h.st.len;omega
 have rq:=zh (fun W (hW:Below w.heap.size w W)=>QA (w:=W) (A1:=A1) (A2:=A2) (n1:=n1) (c1:=c1) (n2:=n2) (c2:=c2) (nx:=b.next) hsi (h.st.all hW) hf.sl);have HTT:=zh (fun W (hW:Below w.heap.size w W) (hsh:qt s=true) (hs:qH s b.next b.Ba=true)=>JV (w:=W) (A2:=A2) (n2:=n2) (c2:=c2) (nx:=b.next) hsh (h.st.all hW) (by omega) (fun i j h1 h2=>xV hs i j h1 (by have:=h.st.len;omega)) (h.th.all hW) hf.nm);have HGG:=zh (fun W (hW:Below w.heap.size w W)=>EQ (w:=W) (h.ta.all hW));generalize zk s b=R at *;clear h hf hsi;have hal:Below w.heap.size w ((w.alloc (.cells #[.int .i64 s.K,.int .i64 s.M,.int .i64 s.size] 23)).alloc (.cells #[.slice A0 n0 c0,.slice A1 n1 c1,.slice A2 n2 c2,.int .i64 b.next] 28)):=bz
 have nt:((w.alloc (.cells #[.int .i64 s.K,.int .i64 s.M,.int .i64 s.size] 23)).alloc (.cells #[.slice A0 n0 c0,.slice A1 n1 c1,.slice A2 n2 c2,.int .i64 b.next] 28)).heap[w.heap.size]?=some (.cells #[.int .i64 s.K,.int .i64 s.M,.int .i64 s.size] 23 (0,0)):=by
  rw[Below.heap_alloc _ _ _ (by simp;try omega)];have:=heap_alloc_new w (.cells #[.int .i64 s.K,.int .i64 s.M,.int .i64 s.size] 23);simpa only[World.size_alloc] using this
 have hr1:((w.alloc (.cells #[.int .i64 s.K,.int .i64 s.M,.int .i64 s.size] 23)).alloc (.cells #[.slice A0 n0 c0,.slice A1 n1 c1,.slice A2 n2 c2,.int .i64 b.next] 28)).heap[w.heap.size+1]?=some (.cells #[.slice A0 n0 c0,.slice A1 n1 c1,.slice A2 n2 c2,.int .i64 b.next] 28 (0,0)):=by
  have:=heap_alloc_new (w.alloc (.cells #[.int .i64 s.K,.int .i64 s.M,.int .i64 s.size] 23)) (.cells #[.slice A0 n0 c0,.slice A1 n1 c1,.slice A2 n2 c2,.int .i64 b.next] 28);simpa only[World.size_alloc] using this
 have hz:w.heap.size+1<((w.alloc (.cells #[.int .i64 s.K,.int .i64 s.M,.int .i64 s.size] 23)).alloc (.cells #[.slice A0 n0 c0,.slice A1 n1 c1,.slice A2 n2 c2,.int .i64 b.next] 28)).heap.size:=by simp
 go_enter Tryz.func47,Tryz.ntmps47
 go_upto_region 1 with (fail)
 generalize ((w.alloc (.cells #[.int .i64 s.K,.int .i64 s.M,.int .i64 s.size] 23)).alloc (.cells #[.slice A0 n0 c0,.slice A1 n1 c1,.slice A2 n2 c2,.int .i64 b.next] 28))=W0 at *;have gI:=zh (fun V (hV:Below W0.heap.size W0 V)=>hal.trans (hV.mono hal.size));clear hal;have ROW:=zh (fun V (hV:Below W0.heap.size W0 V)=>(show V.heap[w.heap.size]?=some (.cells #[.int .i64 s.K,.int .i64 s.M,.int .i64 s.size] 23 (0,0))∧V.heap[w.heap.size+1]?=some (.cells #[.slice A0 n0 c0,.slice A1 n1 c1,.slice A2 n2 c2,.int .i64 b.next] 28 (0,0)) from⟨(hV.block _ (by omega)).trans nt,(hV.block _ (by omega)).trans hr1⟩));clear nt hr1;obtain⟨r0,r1⟩:=ROW.out W0 (Below.refl _ _);have nb:=zc 0 r0 (.int .i64 s.K) rfl;have mX:=zc 1 r0 (.int .i64 s.M) rfl;have mY:=zc 2 r0 (.int .i64 s.size) rfl;clear r0 r1;go_wp2_with fail
 refine(CS (s:=s)).mono ?_;rintro e w1 ⟨rfl,hb1⟩;have gV:=zh hb1;clear hb1 nb mX mY;generalize hq:qt s=q at *;have HQ:=zh hq;clear hq
 cases q with
 |false=>
  have HE:Hid (R=false):=zh Gh.out;go_wp2
  go_ret
  exact⟨by rw[HE.out];rfl,gI.out _ gV.out⟩
 |true=>
  obtain⟨r0,r1⟩:=ROW.out w1 gV.out;have yV:=zc 3 r1 (.int .i64 b.next) rfl;have nb:=zc 0 r0 (.int .i64 s.K) rfl;have mX:=zc 1 r0 (.int .i64 s.M) rfl;have mY:=zc 2 r0 (.int .i64 s.size) rfl;have rW:=zc 0 r1 (.slice A0 n0 c0) rfl;have vG:=zc 1 r1 (.slice A1 n1 c1) rfl;have vp:=zc 2 r1 (.slice A2 n2 c2) rfl;clear r0 r1;by_cases hx1:0≤b.next
  ·by_cases hx2:b.next≤1073741824
   ·have H8:=zh (Gh.out.trans (by rw[decide_eq_true (⟨hx1,hx2⟩:0≤b.next∧b.next≤1073741824)];rfl:_=(qH s b.next b.Ba&&(zg s b.Ba b.things&&zV b.tags))));clear Gh;go_wp2_with fail
    refine(rq.out _ (gI.out _ gV.out)).mono ?_;rintro e w2 ⟨rfl,hb2⟩;have gM:=zt gV hb2;clear hb2 gV rq;clear yV nb mX mY rW vG vp;generalize hq2:qH s b.next b.Ba=q2 at *;have mG:=zh hq2;clear hq2
    cases q2 with
    |false=>
     have HE:Hid (R=false):=zh H8.out;go_wp2
     go_ret
     exact⟨by rw[HE.out];rfl,gI.out _ gM.out⟩
    |true=>
     obtain⟨r0,r1⟩:=ROW.out w2 gM.out;have nb:=zc 0 r0 (.int .i64 s.K) rfl;have mX:=zc 1 r0 (.int .i64 s.M) rfl;have mY:=zc 2 r0 (.int .i64 s.size) rfl;have rW:=zc 0 r1 (.slice A0 n0 c0) rfl;have vG:=zc 1 r1 (.slice A1 n1 c1) rfl;have vp:=zc 2 r1 (.slice A2 n2 c2) rfl;have yV:=zc 3 r1 (.int .i64 b.next) rfl;clear r0 r1;go_wp2_with fail
     refine(HTT.out _ (gI.out _ gM.out) (by trivial) (by trivial)).mono ?_;rintro e w3 ⟨rfl,hb3⟩;have mL:=zt gM hb3;clear hb3 gM HTT;clear yV nb mX mY rW vG vp;generalize rX:zg s b.Ba b.things=q3 at *;have mR:=zh rX;clear rX
     cases q3 with
     |false=>
      have HE:Hid (R=false):=zh H8.out;go_wp2
      go_ret
      exact⟨by rw[HE.out];rfl,gI.out _ mL.out⟩
     |true=>
      obtain⟨r0,r1⟩:=ROW.out w3 mL.out;have vp:=zc 2 r1 (.slice A2 n2 c2) rfl;clear r0 r1;go_wp2_with fail
      refine(HGG.out _ (gI.out _ mL.out)).mono ?_;rintro e w4 ⟨rfl,hb4⟩;have ma:=zt mL hb4;clear hb4 mL HGG vp;generalize rK:zV b.tags=q4 at *;have uA:=zh rK;clear rK;have HE:Hid (R=q4):=zh H8.out;go_wp2
      go_ret
      exact⟨by rw[HE.out];rfl,gI.out _ ma.out⟩
   have HE:Hid (R=false):=zh (Gh.out.trans (by rw[decide_eq_false (fun h=>hx2 h.2)];rfl));clear nb mX mY rW vG vp;go_wp2
   go_ret
   exact⟨by rw[HE.out];rfl,gI.out _ gV.out⟩
  have HE:Hid (R=false):=zh (Gh.out.trans (by rw[decide_eq_false (fun h=>hx1 h.1)];rfl));clear nb mX mY rW vG vp;go_wp2
  go_ret
  exact⟨by rw[HE.out];rfl,gI.out _ gV.out⟩
end Go.Proofs.YtipecejghioicaaGreat
set_option maxHeartbeats 1000000
namespace Go.Silo
open Go Go.RowKit
inductive Ed (V:World) (i:Nat) (V':World):List (Nat×Value)→World→Prop
 |pre:Ed V i V' [] V
 |post {x:Value}:Ed V i V' [(i,x)] V'
theorem Ed.early {V V' W:World}{i:Nat}{us:List (Nat×Value)}(h:Ed V i V' us W) (hn:i∉us.map Prod.fst):us=[]∧W=V:=by
 cases h with
 |pre=>exact⟨rfl,rfl⟩
 |post=>exact absurd (by simp) hn
theorem Ed.done {V V' W:World}{i:Nat}{us:List (Nat×Value)}(h:Ed V i V' us W) (hm:i∈us.map Prod.fst):W=V':=by
 cases h with
 |pre=>simp at hm
 |post=>rfl
end Go.Silo
namespace Go.Proofs.YtipecejghioicaaGreat
open Go.RowKit Go.Silo
theorem At_c {tg tg1:Bool}{T:TypeId}{S:Nat→Prop}{w:World}{A:Option Addr}{n c:Nat}{l:List Bc}{x:Int}(h:Sl tg T (qc tg1) w S A n c l):
  Calls Tryz.prog 51 #[.slice A n c,.int .i64 x] w (Bf (.int .i64 (CU l x)) w):=by
 have HL:=zh h.len;have hcap:n≤9223372036854775807:=Nat.le_trans h.le h.cap
 go_enter Tryz.func51,Tryz.ntmps51
 go_wp2_with fail
 go_loopw [5] (fun i wr=>∃k:Nat,k≤n∧i=.int .i64 k∧wr=w∧Hid (∀j,j<k→(l.getD j default).id≠x)) (fun i _=>n - (intOf i).toNat)
 case atStart=>exact⟨0,Nat.zero_le _,rfl,by trivial,zh (fun j hj=>by omega)⟩
 case round=>
  obtain⟨k,hk,rfl,rfl,he⟩:=hrel;by_cases hlt:k<n
  ·obtain⟨b,off,A3,n3,c3,rfl,_,hbl,i0,i1,i2,_,z0,z1,z2,z3,_⟩:=h.Bu hlt;generalize hp:(l.getD k default).id=p at *;have HP:=zh hp;clear hp;clear z1 z2 z3;by_cases hd:p=x
   ·have HF:Hid (CU l x=k):=zh (JW (by have:=HL.out;omega) (HP.out.trans hd) he.out);subst hd;go_wp2
    go_ret
    exact⟨by rw[HF.out];rfl,Below.refl _ _⟩
   have HF:Hid (∀j,j<k+1→(l.getD j default).id≠x):=zh (fun j hj=>by
    rcases Nat.lt_or_ge j k with h|h
    ·exact he.out j h
    obtain rfl:j=k:=by omega
    rw[HP.out];exact hd)
   go_wp2
   go_roundw
   case rel=>exact⟨k+1,by omega,by go_num,by trivial,HF⟩
   case measure=>simp[intOf];omega
  obtain rfl:k=n:=by omega
  have HF:Hid (CU l x=-1):=zh (ZE (fun j hj=>he.out j (by have:=HL.out;omega)));go_wp2
  go_ret
  exact⟨by rw[HF.out];rfl,Below.refl _ _⟩
theorem Ja {s:Shape}(h:qt s=true):1≤s.K∧s.K≤8∧0≤s.M∧s.M≤6∧1≤s.size∧s.size≤120:=by
 unfold qt at h;exact of_decide_eq_true h
end Go.Proofs.YtipecejghioicaaGreat
