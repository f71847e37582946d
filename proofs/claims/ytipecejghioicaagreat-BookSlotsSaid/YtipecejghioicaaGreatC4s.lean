/- Siloref16.Slots: the page's own free slots are those that book.Left tells. -/
import Derived.Test.YtipecejghioicaaGreatC2s
import Derived.Test.YtipecejghioicaaGreatE2s
import Derived.Test.YtipecejghioicaaGreatA5s
import Derived.Test.YtipecejghioicaaGreatQ12s
import Derived.Test.YtipecejghioicaaGreatP0s
set_option maxHeartbeats 4000000
set_option maxRecDepth 100000
namespace Go.Proofs.YtipecejghioicaaGreat
open Go.RowKit Go.Silo
theorem QE {l:List Int}{a:Int}(h:a∈l):∃p:Nat,ku l a=(p:Int)∧p<l.length∧qN p l=l.erase a:=by
 unfold ku
 induction l with
 |nil=>cases h
 |cons x r ih=>
  by_cases hx:x=a
  ·subst hx;exact⟨0,by rw[List.findIdx?_cons,if_pos (by simp)],by simp,by simp[qN]⟩
  have hr:a∈r:=by rcases List.mem_cons.1 h with e|e;exact absurd e.symm hx;exact e
  obtain⟨p,h1,h2,h3⟩:=ih hr;rw[List.findIdx?_cons,if_neg (by simpa using hx)]
  cases hf:r.findIdx? (·==a) with
  |none=>rw[hf] at h1;simp only at h1;omega
  |some q=>
   rw[hf] at h1;simp only at h1;obtain rfl:q=p:=by omega
   refine⟨q+1,by simp,by simp;omega,?_⟩;rw[List.erase_cons_tail (by simpa using hx),←h3];simp[qN]
theorem QW {ls:List (List Int)}{p:Slot}(h:¬(0≤p.disk∧p.disk<ls.length)):qk ls p=ls:=by unfold qk;rw[if_neg h]
theorem Qs {ls:List (List Int)}{d:Nat}{a:Int}(hd:d<ls.length) (hm:a∉ls.getD d []):qk ls ⟨(d:Int),a⟩=ls:=by
 unfold qk;rw[if_pos (by constructor<;>simp<;>omega)];show ls.set d ((ls.getD d []).erase a)=ls;rw[List.erase_of_not_mem hm,List.getD_eq_getElem?_getD,List.getElem?_eq_getElem hd];exact List.set_getElem_self hd
theorem QX {ls:List (List Int)}{d p:Nat}{a:Int}(hd:d<ls.length) (h:qN p (ls.getD d [])=(ls.getD d []).erase a):qk ls ⟨(d:Int),a⟩=ls.set d (qN p (ls.getD d [])):=by
 unfold qk;rw[if_pos (by constructor<;>simp<;>omega),h];rfl
theorem Xg {ls:List (List Int)}{ps:List Slot}{j:Nat}(h:j<ps.length):(ps.take (j+1)).foldl qk ls=qk ((ps.take j).foldl qk ls) (ps.getD j default):=by
 rw[qA (d:=default) h,List.foldl_append];rfl
theorem QY {ls:List (List Int)}{b:List Bb}{j:Nat}(h:j<b.length):qB ls (b.take (j+1))=(b.getD j default).place.foldl qk (qB ls (b.take j)):=by
 unfold qB;rw[qA (d:=default) h,List.foldl_append];rfl
structure E9 (lo g n:Nat) (A5:Option Addr) (c5:Nat) (A4:Option Addr) (c4:Nat) (live:List Bool) (ls:List (List Int)) (V:World):Prop where
 box:V.heap[g]?=some (.cells #[.slice A5 n c5,.slice A4 n c4] 40 (0,0))
 lv:Sl true 4 Bn V (fun b=>lo≤b) A5 n c5 live
 fr:Sl true 36 (Cg true 3 Bd) V (fun b=>lo≤b) A4 n c4 ls
theorem E9.all {lo g n:Nat}{A5:Option Addr}{c5:Nat}{A4:Option Addr}{c4:Nat}{live:List Bool}{ls:List (List Int)}{V V':World}(h:E9 lo g n A5 c5 A4 c4 live ls V) (hb:Below V.heap.size V V'):E9 lo g n A5 c5 A4 c4 live ls V':=
 ⟨zb hb h.box,h.lv.all hb,h.fr.all hb⟩
theorem E9.set {lo g n:Nat}{A5:Option Addr}{c5:Nat}{b1 o1 c4:Nat}{live:List Bool}{ls:List (List Int)}{V:World}(h:E9 lo g n A5 c5 (some ⟨b1,o1,none⟩) c4 live ls V) {d:Nat}(hd:d<n) {AR:Option Addr}{m cR:Nat}{l':List Int}(hl:Sl true 3 Bd V (fun b=>lo≤b) AR m cR l'):
  E9 lo g n A5 c5 (some ⟨b1,o1,none⟩) c4 live (ls.set d l') (V.setCell ⟨b1,o1+d,none⟩ (.slice AR m cR))∧lo≤b1:=by
 obtain⟨q,hq⟩:=Sl.Bv h.fr (by omega)
 have hS1:lo≤b1:=by
  obtain⟨b',o',e,hb,_⟩:=h.fr.2.2.2 (by omega);injection e with e;injection e with e1 _ _;subst e1
  exact hb
 have hgb:g≠b1:=fun e=>by
  subst e;rw[qf h.box] at hq;injection hq with hq;injection hq with hq _
  exact absurd hq (by decide)
 exact⟨⟨(Below.heap_setCell V _ _ _ hgb).trans h.box,((Bw.refl (fun b=>lo≤b) _ V).setCell (p:=⟨b1,o1+d,none⟩) hS1 hq (.slice AR m cR)).sl (zH _) (by decide) h.lv,
  h.fr.set1 rfl (BB.Cg (xZ _) (by decide)) hd ⟨_,_,_,rfl,hl⟩⟩,hS1⟩
def Dj (V:World) (p:Nat) (l:List Int) (b1 o1:Nat):List Value→World→Prop
 |[],w'=>Below V.heap.size V w'
 |[u],w'=>∃A c,u=.slice A p c∧Silo.Be 3 Bd w' V.heap.size (fun _=>False) A p c (l.take p)∧Below V.heap.size V w'
 |[_,u],w'=>∃A c,u=.slice A (qN p l).length c∧Silo.Be 3 Bd w' V.heap.size (fun _=>False) A (qN p l).length c (qN p l)∧Below V.heap.size V w'
 |_,w'=>∃w6 A c,Silo.Be 3 Bd w6 V.heap.size (fun _=>False) A (qN p l).length c (qN p l)∧Below V.heap.size V w6∧w'=w6.setCell ⟨b1,o1,none⟩ (.slice A (qN p l).length c)
theorem Dj.below {V:World}{p:Nat}{l:List Int}{b1 o1:Nat}:∀{us:List Value}{w:World},us.length≤2→Dj V p l b1 o1 us w→Below V.heap.size V w
 |[],_,_,h=>h
 |[_],_,_,⟨_,_,_,_,h⟩=>h
 |[_,_],_,_,⟨_,_,_,_,h⟩=>h
noncomputable def Dg:Code:=((Tryz.f19.body.bind (qm 13)).getD .skip)
theorem cut13 {Q:Exit→Act→World→Prop}{σ:Act}{V:World}{g g10 b1 o1 n4 c4 d p mr cR:Nat}{S:Nat→Prop}{AR:Option Addr}{l:List Int}
  (HC:Hid (V.cell? ⟨g,1,none⟩=some (.slice (some ⟨b1,o1,none⟩) n4 c4)∧V.cell? ⟨b1,o1+d,none⟩=some (.slice AR mr cR)∧V.cell? ⟨g10,0,none⟩=some (.int .i64 (d:Int))∧V.frozen? ⟨b1,o1+d,none⟩=false))
  (HZ:g<V.heap.size∧b1<V.heap.size∧g10<V.heap.size) (HR:Hid (Sl true 3 Bd V S AR mr cR l)) (hml:l.length=mr) (hp:p<l.length) (h64:mr≤64) (hdk:d<n4)
  (hσ:σ.tmps.size=89) (s7:σ.eval (.tmp 7)=.pointer (some ⟨g,0,none⟩)) (s10:σ.eval (.tmp 10)=.pointer (some ⟨g10,0,none⟩)) (s11:σ.eval (.tmp 11)=.int .i64 (p:Int))
  (hend:∀(v:Nat→Value) (w6:World) (A':Option Addr) (c':Nat),Silo.Be 3 Bd w6 V.heap.size (fun _=>False) A' (qN p l).length c' (qN p l)→Below V.heap.size V w6→Q .normal (qc σ (([64,65,66,67,68,69,70,71,72,73,74,75,76,77,78,79,80,81,82,83,84,85,86,87]:List Nat).map fun d=>(d,v d))) (w6.setCell ⟨b1,o1+d,none⟩ (.slice A' (qN p l).length c'))):
  Dg.wp Tryz.prog Q σ V:=by
 obtain⟨i0,hi0,hz0,hz1,hz2⟩:=info_parts Tryz.BZ;have hle:=HR.out.le;have hcap:=HR.out.cap;have hpm:p<mr:=by omega
 have hpc:p≤cR:=by omega
 have hpc1:p+1≤cR:=by omega
 have hwr:IntKind.i64.wrap ((p:Int)+1)=(p:Int)+1:=by rw[IntKind.wrap_i64];omega
 have htn:((p:Int)+1).toNat=p+1:=by omega
 have hge:(0:Int)≤(p:Int)+1:=by omega
 have cells:∀us w6,us.length≤2→Dj V p l b1 (o1+d) us w6→w6.cell? ⟨g,1,none⟩=some (.slice (some ⟨b1,o1,none⟩) n4 c4)∧w6.cell? ⟨b1,o1+d,none⟩=some (.slice AR mr cR)∧w6.cell? ⟨g10,0,none⟩=some (.int .i64 (d:Int))∧w6.frozen? ⟨b1,o1+d,none⟩=false:=by
  intro us w6 hl hW;have hb:=hW.below hl;obtain⟨y1,y2,y3,y4⟩:=HC.out;exact⟨(hb.cell (p:=⟨g,1,none⟩) HZ.1).trans y1,(hb.cell (p:=⟨b1,o1+d,none⟩) HZ.2.1).trans y2,(hb.cell (p:=⟨g10,0,none⟩) HZ.2.2).trans y3,(hb.frozen (p:=⟨b1,o1+d,none⟩) HZ.2.1).trans y4⟩
 have CELLS:=zh cells;clear cells;conv=>arg 2;whnf
 refine jo (by kernel_rfl) (by kernel_rfl) 89 hσ [64,65,66,67,68,69,70,71,72,73,74,75,76,77,78,79,80,81,82,83,84,85,86,87] [12,22,24] [(76,0),(86,1)]
  [(64,.pointer (some ⟨g,1,none⟩)),(65,.slice (some ⟨b1,o1,none⟩) n4 c4),(66,.pointer (some ⟨g10,0,none⟩)),(67,.int .i64 (d:Int)),(68,.pointer (some ⟨g,1,none⟩)),(69,.slice (some ⟨b1,o1,none⟩) n4 c4),(70,.pointer (some ⟨g10,0,none⟩)),(71,.int .i64 (d:Int)),
   (72,.pointer (some ⟨b1,o1+d,none⟩)),(73,.slice AR mr cR),(74,.int .i64 (p:Int)),(75,.slice AR p cR),(77,.pointer (some ⟨g,1,none⟩)),(78,.slice (some ⟨b1,o1,none⟩) n4 c4),(79,.pointer (some ⟨g10,0,none⟩)),(80,.int .i64 (d:Int)),(81,.pointer (some ⟨b1,o1+d,none⟩)),(82,.slice AR mr cR),
   (83,.int .i64 (p:Int)),(84,.int .i64 ((p:Int)+1)),(85,.slice (if cR=p+1 then AR else AR.map (·.add (p+1))) (mr - (p+1)) (cR - (p+1))),(87,.pointer (some ⟨b1,o1+d,none⟩))]
  (fun _=>2) [[],[64],[],[66],[],[68],[],[70],[69,71],[72],[],[73,74],[75],[],[77],[],[79],[78,80],[81],[],[83],[82,84],[76,85],[65,67],[87,86]] (Dj V p l b1 (o1+d)) (by kernel_rfl) (Below.refl _ _).drew ⟨?_,?_,?_,?_,?_,?_,?_,?_,?_,?_,?_,?_,?_,?_,?_,?_,?_,?_,?_,?_,?_,?_,?_,?_,?_,trivial⟩ ?_
 ·(refine Br.rd rfl _ rfl (fun ρ us w6 ho ht hc hl hW=>?_);have e7:=zv (ho 7 rfl) (.pointer (some ⟨g,0,none⟩)) s7;simp only[execOp,e7];go_simp;try rfl)
 ·(refine Br.rd rfl _ rfl (fun ρ us w6 ho ht hc hl hW=>?_);have e64:=zv (ht 64 (by decide)) (.pointer (some ⟨g,1,none⟩)) rfl;obtain⟨y1,y2,y3,y4⟩:=CELLS.out us w6 hl hW;simp only[execOp,e64];go_simp;try rfl)
 ·(refine Br.rd rfl _ rfl (fun ρ us w6 ho ht hc hl hW=>?_);have e10:=zv (ho 10 rfl) (.pointer (some ⟨g10,0,none⟩)) s10;simp only[execOp,e10];go_simp;try rfl)
 ·(refine Br.rd rfl _ rfl (fun ρ us w6 ho ht hc hl hW=>?_);have e66:=zv (ht 66 (by decide)) (.pointer (some ⟨g10,0,none⟩)) rfl;obtain⟨y1,y2,y3,y4⟩:=CELLS.out us w6 hl hW;simp only[execOp,e66];go_simp;try rfl)
 ·(refine Br.rd rfl _ rfl (fun ρ us w6 ho ht hc hl hW=>?_);have e7:=zv (ho 7 rfl) (.pointer (some ⟨g,0,none⟩)) s7;simp only[execOp,e7];go_simp;try rfl)
 ·(refine Br.rd rfl _ rfl (fun ρ us w6 ho ht hc hl hW=>?_);have e68:=zv (ht 68 (by decide)) (.pointer (some ⟨g,1,none⟩)) rfl;obtain⟨y1,y2,y3,y4⟩:=CELLS.out us w6 hl hW;simp only[execOp,e68];go_simp;try rfl)
 ·(refine Br.rd rfl _ rfl (fun ρ us w6 ho ht hc hl hW=>?_);have e10:=zv (ho 10 rfl) (.pointer (some ⟨g10,0,none⟩)) s10;simp only[execOp,e10];go_simp;try rfl)
 ·(refine Br.rd rfl _ rfl (fun ρ us w6 ho ht hc hl hW=>?_);have e70:=zv (ht 70 (by decide)) (.pointer (some ⟨g10,0,none⟩)) rfl;obtain⟨y1,y2,y3,y4⟩:=CELLS.out us w6 hl hW;simp only[execOp,e70];go_simp;try rfl)
 ·(refine Br.rd rfl _ rfl (fun ρ us w6 ho ht hc hl hW=>?_);have e69:=zv (ht 69 (by decide)) (.slice (some ⟨b1,o1,none⟩) n4 c4) rfl;have e71:=zv (ht 71 (by decide)) (.int .i64 (d:Int)) rfl;simp only[execOp,e69,e71];go_simp;try rfl)
 ·(refine Br.rd rfl _ rfl (fun ρ us w6 ho ht hc hl hW=>?_);have e72:=zv (ht 72 (by decide)) (.pointer (some ⟨b1,o1+d,none⟩)) rfl;obtain⟨y1,y2,y3,y4⟩:=CELLS.out us w6 hl hW;simp only[execOp,e72];go_simp;try rfl)
 ·(refine Br.rd rfl _ rfl (fun ρ us w6 ho ht hc hl hW=>?_);have e11:=zv (ho 11 rfl) (.int .i64 (p:Int)) s11;simp only[execOp,e11];go_simp;try rfl)
 ·(refine Br.rd rfl _ rfl (fun ρ us w6 ho ht hc hl hW=>?_);have e73:=zv (ht 73 (by decide)) (.slice AR mr cR) rfl;have e74:=zv (ht 74 (by decide)) (.int .i64 (p:Int)) rfl;simp only[execOp,Option.map_some,Option.map_none,e73,e74];go_simp;(first|rfl|(rw[if_pos (by omega)];rfl)))
 ·refine Br.wr (k:=0) rfl (fun A us w6 ho ht hl hW K hK=>?_);obtain rfl:us=[]:=List.eq_nil_of_length_eq_zero hl;have nu:Below V.heap.size V w6:=hW;have e75:=zv (ht 75 (by decide)) (.slice AR p cR) rfl;have hcp:=Qn (w:=w6) ((HR.out.all nu).take (k:=p) (by omega)) (by omega);unfold zP at hcp;rw[show(l.take p).length=p by rw[List.length_take];omega] at hcp;refine qi rfl 53 #[.tmp 75] #[36] rfl Tryz.func53 (by kernel_rfl) (by kernel_rfl) #[.slice AR p cR] (by simp[e75];try first|done|rfl|exact⟨rfl,rfl⟩) (hcp) ?_;rintro e w7 ⟨A7,c7,rfl,mt,gh⟩;exact⟨_,rfl,hK _ _ ⟨A7,c7,rfl,ZF mt.CE nu.size,nu.trans (gh.mono nu.size)⟩⟩
 ·(refine Br.rd rfl _ rfl (fun ρ us w6 ho ht hc hl hW=>?_);have e7:=zv (ho 7 rfl) (.pointer (some ⟨g,0,none⟩)) s7;simp only[execOp,e7];go_simp;try rfl)
 ·(refine Br.rd rfl _ rfl (fun ρ us w6 ho ht hc hl hW=>?_);have e77:=zv (ht 77 (by decide)) (.pointer (some ⟨g,1,none⟩)) rfl;obtain⟨y1,y2,y3,y4⟩:=CELLS.out us w6 hl hW;simp only[execOp,e77];go_simp;try rfl)
 ·(refine Br.rd rfl _ rfl (fun ρ us w6 ho ht hc hl hW=>?_);have e10:=zv (ho 10 rfl) (.pointer (some ⟨g10,0,none⟩)) s10;simp only[execOp,e10];go_simp;try rfl)
 ·(refine Br.rd rfl _ rfl (fun ρ us w6 ho ht hc hl hW=>?_);have e79:=zv (ht 79 (by decide)) (.pointer (some ⟨g10,0,none⟩)) rfl;obtain⟨y1,y2,y3,y4⟩:=CELLS.out us w6 hl hW;simp only[execOp,e79];go_simp;try rfl)
 ·(refine Br.rd rfl _ rfl (fun ρ us w6 ho ht hc hl hW=>?_);have e78:=zv (ht 78 (by decide)) (.slice (some ⟨b1,o1,none⟩) n4 c4) rfl;have e80:=zv (ht 80 (by decide)) (.int .i64 (d:Int)) rfl;simp only[execOp,e78,e80];go_simp;try rfl)
 ·(refine Br.rd rfl _ rfl (fun ρ us w6 ho ht hc hl hW=>?_);have e81:=zv (ht 81 (by decide)) (.pointer (some ⟨b1,o1+d,none⟩)) rfl;obtain⟨y1,y2,y3,y4⟩:=CELLS.out us w6 hl hW;simp only[execOp,e81];go_simp;try rfl)
 ·(refine Br.rd rfl _ rfl (fun ρ us w6 ho ht hc hl hW=>?_);have e11:=zv (ho 11 rfl) (.int .i64 (p:Int)) s11;simp only[execOp,e11];go_simp;try rfl)
 ·(refine Br.rd rfl _ rfl (fun ρ us w6 ho ht hc hl hW=>?_);have e83:=zv (ht 83 (by decide)) (.int .i64 (p:Int)) rfl;simp only[execOp,e83];go_simp;try rfl)
 ·(refine Br.rd rfl _ rfl (fun ρ us w6 ho ht hc hl hW=>?_);have e82:=zv (ht 82 (by decide)) (.slice AR mr cR) rfl;have e84:=(ht 84 (by decide)).trans (show _=(.int .i64 ((p:Int)+1):Value) from rfl);simp only[execOp,Option.map_some,Option.map_none,e82,e84];go_simp;(first|rfl|(rw[if_pos (by omega)];rfl)))
 ·refine Br.wr (k:=1) rfl (fun A us w6 ho ht hl hW K hK=>?_)
  match us,hl,hW with
  |[u],_,hW=>
  obtain⟨A7,c7,rfl,hO,hB⟩:=hW;have e76:=zv (ht 76 (by decide)) (.slice A7 p c7) rfl;have e85:=(ht 85 (by decide)).trans (show _=(.slice (if cR=p+1 then AR else AR.map (·.add (p+1))) (mr - (p+1)) (cR - (p+1)):Value) from rfl);have hdd:(qN p l).length=p+(mr - (p+1)):=by rw[xI hp];omega
  by_cases hlast:p+1=mr
  ·rw[show mr - (p+1)=0 by omega] at e85;have e1:qN p l=l.take p:=(by unfold qN;rw[List.drop_eq_nil_of_le (by omega),List.append_nil]);refine ji rfl (.tmp 76) (.tmp 85) 36 3 rfl i0 Tryz.underlying36 hi0 e76 hO.le.1 e85 ?_;have e2:(qN p l).length=p:=(by omega);exact hK _ _ ⟨A7,c7,by rw[e2],by rw[e2,e1];exact hO,hB⟩
  rw[if_neg (by omega)] at e85;obtain⟨bq,oq,rfl,_⟩:=HR.out.2.2.2 (by omega);have hdrop:=((HR.out.all hB).drop (E:=Bd) rfl (k:=p+1) (by omega));refine Qc rfl (.tmp 76) (.tmp 85) 36 rfl i0 (.int .i64 0) 8 Tryz.underlying36 hi0 hz0 hz1 hz2 rfl (by decide) e76 hO (by rw[e85];rfl) hdrop (fun vs y _ h=>h) (by omega) (by omega) hB.size ?_;intro A9 c9 w9 vI hg9 _;exact hK _ _ ⟨A9,c9,by rw[hdd],by rw[hdd];exact vI,hB.grown hg9 hB.size (fun r hr=>(hO.lt r hr).1)⟩
 ·(refine Br.rd rfl _ rfl (fun ρ us w6 ho ht hc hl hW=>?_);have e65:=zv (ht 65 (by decide)) (.slice (some ⟨b1,o1,none⟩) n4 c4) rfl;have e67:=zv (ht 67 (by decide)) (.int .i64 (d:Int)) rfl;simp only[execOp,e65,e67];go_simp;try rfl)
 ·refine Br.wr (k:=2) rfl (fun A us w6 ho ht hl hW K hK=>?_)
  match us,hl,hW with
  |[u,v],_,hW=>
  obtain⟨y1,y2,y3,y4⟩:=CELLS.out [u,v] w6 (by simp) hW;obtain⟨A7,c7,rfl,hO,hB⟩:=hW;have e87:=zv (ht 87 (by decide)) (.pointer (some ⟨b1,o1+d,none⟩)) rfl;have e86:=zv (ht 86 (by decide)) (.slice A7 (qN p l).length c7) rfl;rw[if_pos (by simp[Region.wanted])];unfold Oper.wp;generalize A.eval=ρ at *;simp only[execOp,e87,e86];go_simp
  exact hK undef _ ⟨w6,A7,c7,hO,hB,rfl⟩
 intro us w7 hl hW
 match us,hl,hW with
 |[u,v,x],_,hW=>
 obtain⟨w6,A7,c7,hO,hB,rfl⟩:=hW;exact hend _ w6 A7 c7 hO hB
theorem QZ {tg tg0 tg1 tg2 tg3:Bool}{S S3:Nat→Prop}{w:World}{A0 A1 A2 A3:Option Addr}{n0 c0 n1 c1 n2 c2 n3 c3 m:Nat}{b:Book}{live:List Bool}
  (h:BG w S tg tg0 tg1 tg2 A0 n0 c0 A1 n1 c1 A2 n2 c2 b) (hl:Sl tg3 4 Bn w S3 A3 n3 c3 live) (hn:n3≤1000) (hm:m≤64):
  Calls Tryz.prog 19 #[.agg #[.slice A0 n0 c0,.slice A1 n1 c1,.slice A2 n2 c2,.int .i64 b.next],.slice A3 n3 c3,.int .i64 (m:Int)] w (Ed (kF true) w ⟨live,qB (List.replicate n3 (za m)) b.Ba⟩):=by
 obtain⟨i0,hi0,hz0,hz1,hz2⟩:=info_parts Tryz.BZ;have HL:=zh hl.len;have mH:=zh h.st.len;have HN0:=Nat.le_trans h.st.le h.st.cap;have HST:=zh (fun W (hW:Below w.heap.size w W)=>h.st.Bi.all hW);have HLV:=zh (fun W (hW:Below w.heap.size w W)=>hl.all hW);clear h hl
 go_enter Tryz.func19,Tryz.ntmps19
 go_wp2_with fail
 refine(JJ (d:=n3) (n:=m) (by omega) (by omega)).mono ?_;rintro e w1 ⟨vs,rfl,⟨A5,n5,c5,A4,n4,c4,rfl,_,hs0,hs1⟩,hb1⟩;obtain rfl:n5=n3:=by have:=hs0.len;simpa[EO] using this.symm
 obtain rfl:n4=n5:=by have:=hs1.len;simpa[EO] using this.symm
 have vv:w.heap.size+2≤w1.heap.size:=by have:=hb1.size;simpa using this
 have hRB:Hid (w1.heap[w.heap.size]?=some (.cells #[.slice A0 n0 c0,.slice A1 n1 c1,.slice A2 n2 c2,.int .i64 b.next] 28 (0,0))):=zh ((hb1.block _ (by simp<;>omega)).trans (jF _ _ _ _));have yV:Hid (w1.heap[w.heap.size+1]?=some (.cells #[.slice none 0 0,.slice none 0 0] 40 (0,0))):=zh ((hb1.block _ (by simp<;>omega)).trans (Qa _ _ _ _));have vL:Hid (Below w.heap.size w w1):=zh (via (by exact((Below.refl _ w).alloc (Nat.le_refl _) _).alloc (by simp) _) hb1 (Nat.le_refl _))
 have uU:Hid (Sl true 36 (Cg true 3 Bd) w1 (fun q=>w.heap.size+2≤q∧q<w1.heap.size) A4 n4 c4 (List.replicate n4 (za m))):=zh (hs1.Bi.mono (fun q hq _=>⟨by
  have h2:((w.alloc (.cells #[.slice A0 n0 c0,.slice A1 n1 c1,.slice A2 n2 c2,.int .i64 b.next] 28)).alloc (.cells #[.slice none 0 0,.slice none 0 0] 40)).heap.size=w.heap.size+2:=by simp
  have:_≤q:=hq.1
  omega,hq.2⟩))
 clear hs0 hs1 hb1
 go_upto_region 2 with (fail)
 have hrow:(w1.alloc (.cells #[.slice A5 n4 c5,.slice A4 n4 c4] 40)).heap[w1.heap.size]?=some (.cells #[.slice A5 n4 c5,.slice A4 n4 c4] 40 (0,0)):=heap_alloc_new _ _;have hal:Below w1.heap.size w1 (w1.alloc (.cells #[.slice A5 n4 c5,.slice A4 n4 c4] 40)):=(Below.refl _ _).alloc (Nat.le_refl _) _;have hzb:w1.heap.size<(w1.alloc (.cells #[.slice A5 n4 c5,.slice A4 n4 c4] 40)).heap.size:=by simp
 have HBW2:=zh (vL.out.trans (hal.mono (by omega)));have yj:=zh (uU.out.all hal);have hRB2:=zh ((hal.block _ (by omega)).trans hRB.out);have hRR2:=zh ((hal.block _ (by omega)).trans yV.out);clear hal uU hRB yV vL;generalize (w1.alloc (.cells #[.slice A5 n4 c5,.slice A4 n4 c4] 40))=w2 at *;generalize w1.heap.size=g at *;go_wp2_with fail
 refine(kg (HLV.out w2 HBW2.out) (by omega)).mono ?_;rintro e w3 ⟨A6,c6,rfl,hown,hb3⟩;rw[HL.out] at hown⊢;have hrow3:=(hb3.block g hzb).trans hrow;have t0:=zc 0 hrow3 (.slice A5 n4 c5) rfl;have t1:=zf 0 hrow3
 have uK:Hid (E9 (w.heap.size+2) g n4 A6 c6 A4 c4 live (qB (List.replicate n4 (za m)) (b.Ba.take 0)) (w3.setCell ⟨g,0,none⟩ (.slice A6 n4 c6))):=by
  refine zh ⟨Qb hrow3,?_,?_⟩
  ·exact((hown.sl (tg:=true)).keep ((Bj.refl _ _).setCell (by rintro(h|h);exact absurd h (by simp<;>omega);have:w2.heap.size≤g:=h;omega) _)).mono (fun q hq _=>by
    rcases hq with hq|hq
    ·first|exact hq.elim|(have:w2.heap.size≤q:=hq;show w.heap.size+2≤q;omega)
    show w.heap.size+2≤q;omega)
  exact((yj.out.all hb3).keep ((Bj.refl _ _).setCell (fun h=>by have:g<g:=h.2;omega) _)).mono (fun q hq _=>hq.1)
 have HBW3:Hid (Below w.heap.size w (w3.setCell ⟨g,0,none⟩ (.slice A6 n4 c6))):=zh ((HBW2.out.trans (hb3.mono (by omega))).setCell (show w.heap.size≤g by omega) _);have hRB3:Hid ((w3.setCell ⟨g,0,none⟩ (.slice A6 n4 c6)).heap[w.heap.size]?=some (.cells #[.slice A0 n0 c0,.slice A1 n1 c1,.slice A2 n2 c2,.int .i64 b.next] 28 (0,0))):=zh ((Below.heap_setCell _ _ _ _ (by simp;omega)).trans ((hb3.block _ (by omega)).trans hRB2.out));have hRR3:Hid ((w3.setCell ⟨g,0,none⟩ (.slice A6 n4 c6)).heap[w.heap.size+1]?=some (.cells #[.slice none 0 0,.slice none 0 0] 40 (0,0))):=zh ((Below.heap_setCell _ _ _ _ (by simp;omega)).trans ((hb3.block _ (by omega)).trans hRR2.out));have hz3:w.heap.size+2≤(w3.setCell ⟨g,0,none⟩ (.slice A6 n4 c6)).heap.size:=by have:=hb3.size;simp;omega
 clear hown hb3 hrow hrow3 yj hRB2 hRR2 HBW2 HLV HL
 go_upto_region 3 with (fail)
 clear t0 t1;generalize (w3.setCell ⟨g,0,none⟩ (.slice A6 n4 c6))=W at *;have HFO:Hid (∀bs,BJ n4 (qB (List.replicate n4 (za m)) bs)):=zh (fun bs=>(BJ.new n4 m hm).of bs);generalize List.replicate n4 (za m)=LS at *;go_wp2_with fail
 go_loopw [8] (fun iv wz=>∃j:Nat,j≤n0∧iv=.int .i64 j∧Hid (E9 (w.heap.size+2) g n4 A6 c6 A4 c4 live (qB LS (b.Ba.take j)) wz)∧Hid (Below (w.heap.size+2) W wz)) (fun iv _=>n0 - (intOf iv).toNat)
 case atStart=>exact⟨0,Nat.zero_le _,rfl,uK,zh (Below.refl _ _)⟩
 case round=>
  rename World=>wo
  clear uK;obtain⟨j,hj,rfl,uK,HB⟩:=hrel;have uQ:Hid (Below w.heap.size w wo):=zh (HBW3.out.trans (HB.out.mono (by omega)));have zwo:w.heap.size+2≤wo.heap.size:=by have:=HB.out.size;omega
  have hrb:=(HB.out.block _ (by omega)).trans hRB3.out;have r0:=zc 0 hrb (.slice A0 n0 c0) rfl;clear hrb;by_cases gZ:j<n0
  ·obtain⟨bs,os,Ap,np,cp,eA,hSb,hbs,g1,g2,g3,hp3,u0,u1,u2,u3,_⟩:=(HST.out wo uQ.out).Bq gZ;have p8:bs<w.heap.size:=hSb.2;subst eA;have uo:Hid (qB LS (b.Ba.take (j+1))=(b.Ba.getD j default).place.foldl qk (qB LS (b.Ba.take j))):=zh (QY (by rw[mH.out];exact gZ));have HF1:=zh (HFO.out (b.Ba.take j));generalize b.Ba.getD j default=x at *;generalize qB LS (b.Ba.take j)=L1 at *;have hnp:np≤9223372036854775807:=Nat.le_trans hp3.le hp3.cap;have uv:=zh hp3.len;have HPW:=zh (fun W (hW:Below (w.heap.size+2) wo W)=>hp3.below hW (fun q hq _=>by have:=hq.2;omega));have U3:=zh u3;clear hp3 g1 g2 g3 u0 u1 u2;have HRF1:Hid (E9 (w.heap.size+2) g n4 A6 c6 A4 c4 live ((x.place.take 0).foldl qk L1) wo):=uK;have gB:=HB;clear uK HB;go_wp2_with fail
   clear u3
   go_loopw [9] (fun iv wz=>∃i:Nat,i≤np∧iv=.int .i64 i∧Hid (E9 (w.heap.size+2) g n4 A6 c6 A4 c4 live ((x.place.take i).foldl qk L1) wz)∧Hid (Below (w.heap.size+2) wo wz)) (fun iv _=>np - (intOf iv).toNat)
   case atStart=>exact⟨0,Nat.zero_le _,rfl,HRF1,zh (Below.refl _ _)⟩
   case round=>
    rename World=>wq
    clear HRF1;obtain⟨i,hi,rfl,uK,HB⟩:=hrel;have zq:w.heap.size+2≤wq.heap.size:=(by have:=HB.out.size;omega);have r0':=(HB.out.cell (p:=⟨w.heap.size,0,none⟩) (by simp)).trans r0;have u3:=(HB.out.cell (p:=⟨bs,os+j* 4+3,none⟩) (by simp;omega)).trans U3.out;by_cases vM:i<np
    ·obtain⟨bp,op,eB,hSp,hbp,gd,ga,v0,v1,_⟩:=(HPW.out wq HB.out).BX vM;subst eB;have yn:Hid ((x.place.take (i+1)).foldl qk L1=qk ((x.place.take i).foldl qk L1) (x.place.getD i default)):=zh (Xg (by rw[uv.out];exact vM));have uu:=zh (HF1.out.fold (x.place.take i));generalize x.place.getD i default=p at *;generalize (x.place.take i).foldl qk L1=L2 at *;obtain⟨d,a⟩:=p;simp only at gd ga v0 v1
     go_upto_region 10 with (fail)
     have j6:Below wq.heap.size wq (wq.alloc (.cells #[.int .i64 d,.int .i64 a] 88)):=(Below.refl _ _).alloc (Nat.le_refl _) _;have hrow:=heap_alloc_new wq (.cells #[.int .i64 d,.int .i64 a] 88);have vN:wq.heap.size<(wq.alloc (.cells #[.int .i64 d,.int .i64 a] 88)).heap.size:=(by simp);have HRF2:=zh (uK.out.all j6);have gu:=zh (HB.out.trans (j6.mono (by omega)));clear j6 v0 v1 uK HB r0' u3;generalize (wq.alloc (.cells #[.int .i64 d,.int .i64 a] 88))=w4 at *;have zg:w.heap.size+2≤wq.heap.size:=zq;generalize wq.heap.size=g10 at *;have s0:=zc 0 hrow (.int .i64 d) rfl;have gj:=zh hrow;clear hrow;have hwr:IntKind.i64.wrap ((n4:Int) - 1)=(n4:Int) - 1:=(by rw[IntKind.wrap_i64];omega);go_wp2_with fail
     refine(Ca (n:=d) (m:=(n4:Int) - 1)).mono ?_;rintro e w5 ⟨rfl,gH⟩;have uL:=zh (HRF2.out.all gH);have gG:=zh (gu.out.trans (gH.mono (by omega)));have nN:=(gH.block g10 vN).trans gj.out;have z5:=gH.size;clear gH s0 HRF2 gu gj;by_cases hin:0≤d∧d≤(n4:Int) - 1
     ·rw[decide_eq_true hin];obtain⟨d,rfl⟩:=Int.eq_ofNat_of_zero_le hin.1;have hd:d<n4:=(by have:=hin.2;omega);obtain⟨b1,o1,AR,mr,cR,eA4,hS1,hbl1,hrowl,c1',f1'⟩:=uL.out.fr.Di hd;subst eA4;have gY:=uL.out.box;have zg7:g<w5.heap.size:=(zl gY);have q1:=zc 1 gY (.slice (some ⟨b1,o1,none⟩) n4 c4) rfl;have s0:=zc 0 nN (.int .i64 (d:Int)) rfl;have s1:=zc 1 nN (.int .i64 a) rfl;have z10:g10<w5.heap.size:=(by omega);have m8:d<L2.length:=(by rw[uu.out.len];exact hd);have hl64:=uu.out.most _ (zR (d:=[]) m8);have vO:=zh (fun hc=>yn.out.trans (Qs (a:=a) m8 hc));have HIN:=zh (fun p hc=>yn.out.trans (QX (p:=p) (a:=a) m8 hc));have yG:Hid (∀X,Calls Tryz.prog 44 #[.slice AR mr cR,.int .i64 a] (w5.ext X) (Bf (.int .i64 (ku (L2.getD d []) a)) (w5.ext X))):=zh (fun X=>In_c (hrowl.all (qx w5 X)));have hml:=hrowl.len;generalize hll:L2.getD d []=l at *;clear hll yn uu m8 gY nN hin hwr;have vR:=zh hrowl;clear hrowl;have hmcap:mr≤64:=(by omega);by_cases hmem:a∈l
      ·obtain⟨p,hp1,hp2,hp3⟩:=QE hmem;rw[hp1] at yG;have HE:=zh (HIN.out p hp3);clear vO HIN hp1 hp3 hmem
       go_upto_region 11 with (fail)
       have gI:=qX w5;refine qG (by kernel_rfl) (by kernel_rfl) ?_
       repeat (go_big_quiet_step ((go_at_call 44;exact Bf.ext (yG.out _))))
       refine wpQuiet_nil ?_;rintro _ ⟨X,rfl⟩;have pQ:=qx w5 X;have HRF4:=zh (uL.out.all pQ);have gv:=zh (gG.out.trans (pQ.mono (by omega)));have s0':=(gI X g10 0 z10).trans s0;have q1':=(gI X g 1 zg7).trans q1;have vP:=(gI X b1 (o1+d) hbl1).trans c1';have vQ:=(pQ.frozen (p:=⟨b1,o1+d,none⟩) hbl1).trans f1';have HROW4:=zh (vR.out.all pQ);have zx:=pQ.size;clear s0 s1 q1 c1' f1' gI yG pQ vR uL gG;have z10':g10<(w5.ext X).heap.size:=(by omega);have zgg:g<(w5.ext X).heap.size:=(by omega);have zb1:b1<(w5.ext X).heap.size:=(by omega);generalize w5.ext X=W4 at *
       go_upto_region 13 with (fail)
       refine cut13 (p:=p) (l:=l) (zh ⟨q1',vP,s0',vQ⟩) ⟨zgg,zb1,z10'⟩ HROW4 hml hp2 hmcap hd rfl rfl rfl rfl ?_;intro v w6 A' c' ho hb
       obtain⟨vd,hS2⟩:=(HRF4.out.all hb).set hd (l':=qN p l) (AR:=A') (cR:=c') (m:=(qN p l).length) ((ho.sl (tg:=true)).mono (fun q hq _=>by
        rcases hq with hq|hq
        ·exact hq.elim
        show w.heap.size+2≤q;omega))
       have HF1':=zh vd;clear vd;have HF2':=zh ((gv.out.trans (hb.mono (by omega))).setCell (show w.heap.size+2≤(⟨b1,o1+d,none⟩:Addr).block from hS2) (.slice A' (qN p l).length c'));clear ho hb q1' vP s0' vQ;simp only[qc,BR,BS,BU,BV,Act.put,BO,BP,BQ];generalize w6.setCell ⟨b1,o1+d,none⟩ (.slice A' (qN p l).length c')=w8 at *;go_wp2
       exact⟨⟨i+1,by omega,by go_num,by rw[HE.out];exact HF1',HF2'⟩,by simp[intOf];omega⟩
      have hneg:ku l a=-1:=by
       unfold ku;rw[List.findIdx?_eq_none_iff.2 (fun x hx=>by simp;intro e;subst e;exact hmem hx)]
      rw[hneg] at yG;have HE:=zh (vO.out hmem);clear vO HIN hneg hmem vR
      go_upto_region 11 with (fail)
      have gI:=qX w5;refine qG (by kernel_rfl) (by kernel_rfl) ?_
      repeat (go_big_quiet_step ((go_at_call 44;exact Bf.ext (yG.out _))))
      refine wpQuiet_nil ?_;rintro _ ⟨X,rfl⟩;have pQ:=qx w5 X;have HRF4:=zh (uL.out.all pQ);have gv:=zh (gG.out.trans (pQ.mono (by omega)));clear s0 s1 q1 c1' f1' gI yG pQ;go_wp2
      exact⟨⟨i+1,by omega,by go_num,by rw[HE.out];exact HRF4,gv⟩,by simp[intOf];omega⟩
     rw[decide_eq_false hin];have HE:=zh (yn.out.trans (QW (by rintro⟨h1,h2⟩;rw[uu.out.len] at h2;simp only at h1 h2;exact hin ⟨h1,by omega⟩)));clear nN hin;go_wp2
     exact⟨⟨i+1,by omega,by go_num,by rw[HE.out];exact uL,gG⟩,by simp[intOf];omega⟩
    obtain rfl:i=np:=by omega
    have HE:Hid (qB LS (b.Ba.take (j+1))=(x.place.take i).foldl qk L1):=zh (by rw[uo.out,List.take_of_length_le (by rw[uv.out];exact Nat.le_refl _)]);go_wp2
    exact⟨⟨j+1,by omega,by go_num,by rw[HE.out];exact uK,zh (gB.out.trans HB.out)⟩,by simp[intOf];omega⟩
  obtain rfl:j=n0:=by omega
  have HE:Hid (qB LS (b.Ba.take j)=qB LS b.Ba):=zh (by rw[List.take_of_length_le (by rw[mH.out];exact Nat.le_refl _)]);rw[HE.out] at uK;have hbz:=uK.out.box;have zg:g<wo.heap.size:=(zl hbz);have x0:=zc 0 hbz (.slice A6 n4 c6) rfl;have x1:=zc 1 hbz (.slice A4 n4 c4) rfl;have mZ:=(HB.out.block _ (by omega)).trans hRR3.out;have t0:=zc 0 mZ (.slice none 0 0) rfl;have t1:=zc 1 mZ (.slice none 0 0) rfl;have t2:=frozen_of_row wo (w.heap.size+1) 0 _ _ mZ;have t3:=frozen_of_row wo (w.heap.size+1) 1 _ _ mZ;clear hbz mZ;go_wp2
  refine bodyPost_ret (v:=.agg #[.slice A6 n4 c6,.slice A4 n4 c4]) (by simp[results,Tryz.results19,go_sem, *];done) rfl ?_;have hkk:Bj (fun q=>w.heap.size+2≤q) wo ((wo.setCell ⟨w.heap.size+1,0,none⟩ (.slice A6 n4 c6)).setCell ⟨w.heap.size+1,1,none⟩ (.slice A4 n4 c4)):=(by repeat' (first|(with_reducible exact Bj.refl _ _)|(with_reducible refine Bj.alloc ?_ _)|(with_reducible refine Bj.drew ?_)|(with_reducible refine Bj.drewN ?_ _)|(with_reducible refine Bj.setCell ?_ ?_ _)|(refine Bj.call ?_ (by with_reducible assumption))|(with_reducible refine Bj.ext ?_ _)|(simp;done)|(simp;omega)|omega));exact⟨_,rfl,⟨_,_,_,_,_,_,rfl,trivial,(uK.out.lv.keep hkk).mono (fun q hq _=>by have:w.heap.size+2≤q:=hq;show w.heap.size≤q;omega),(uK.out.fr.keep hkk).mono (fun q hq _=>by have:w.heap.size+2≤q:=hq;show w.heap.size≤q;omega)⟩,(uQ.out.setCell (by simp) _).setCell (by simp) _⟩
end Go.Proofs.YtipecejghioicaaGreat
