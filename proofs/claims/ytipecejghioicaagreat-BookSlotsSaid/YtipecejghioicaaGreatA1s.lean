/- Siloref11.New: the page's own new slots are the same. -/
import Derived.Test.YtipecejghioicaaGreatT8s
import Derived.Test.YtipecejghioicaaGreatR2s
import Derived.Test.YtipecejghioicaaGreatS1s
import Derived.Test.YtipecejghioicaaGreatP0s
set_option maxHeartbeats 4000000
set_option maxRecDepth 100000
namespace Go.Proofs.YtipecejghioicaaGreat
open Go.RowKit Go.Silo
def ZA (base g1 n k:Nat) (wr:World) (A0:Option Addr) (c0:Nat) (A1:Option Addr) (c1:Nat) (us:List Value) (w:World):Prop:=
 match us with
 |[]=>Below base wr w∧NF base n (k+1) k A0 c0 A1 c1 w
 |[v]=>Below base wr w∧NF base n (k+1) k A0 c0 A1 c1 w∧∃AR cR Sr,v=.slice AR n cR∧Sl true 3 Bd w Sr AR n cR (za n)∧(∀b,Sr b→base≤b∧b<w.heap.size∧some b≠qa A0∧some b≠qa A1)
 |[v,x]=>Below base wr w∧NF base n (k+1) k A0 c0 A1 c1 w∧∃AR cR Sr,v=.slice AR n cR∧Sl true 3 Bd w Sr AR n cR (za n)∧(∀b,Sr b→base≤b∧b<w.heap.size∧some b≠qa A0∧some b≠qa A1)∧
   ∃b,x=.slice (some ⟨b,0,none⟩) 1 1∧w.heap[b]?=some (.cells #[v] 36 (0,0))
 |[_,_,x]=>Below base wr w∧∃pD c1',x=.slice pD (k+1) c1'∧NF base n (k+1) (k+1) A0 c0 pD c1' w
 |_=>∃w6 pD c1',Below base wr w6∧w=w6.setCell ⟨g1,1,none⟩ (.slice pD (k+1) c1')∧NF base n (k+1) (k+1) A0 c0 pD c1' w6
theorem Qb {w:World}{g:Nat}{a b u:Value}{T:TypeId}(h:w.heap[g]?=some (.cells #[a,b] T (0,0))):(w.setCell ⟨g,0,none⟩ u).heap[g]?=some (.cells #[u,b] T (0,0)):=by
 simp only[World.setCell,Array.getElem?_modify,h];simp
theorem ZB {w:World}{g:Nat}{a b v:Value}{T:TypeId}(h:w.heap[g]?=some (.cells #[a,b] T (0,0))):(w.setCell ⟨g,1,none⟩ v).heap[g]?=some (.cells #[a,v] T (0,0)):=by
 simp only[World.setCell,Array.getElem?_modify,h];simp
theorem JJ {w:World}{d n:Nat}(hd:d≤1000000) (hn:n≤1000000):Calls Tryz.prog 52 #[.int .i64 (d:Int),.int .i64 (n:Int)] w (Ed (kF true) w (EO d n)):=by
 obtain⟨i0,hi0,hy0,hy1,hy2⟩:=info_parts Tryz.Cn;obtain⟨i1,hi1,hz0,hz1,hz2⟩:=info_parts Tryz.CQ
 go_enter Tryz.func52,Tryz.ntmps52
 go_wp2_with fail
 go_loopw [6] (fun i wr=>∃k:Nat,∃A0 c0 A1 c1,k≤d∧i=.int .i64 k∧wr.heap[w.heap.size+1]?=some (.cells #[.slice A0 k c0,.slice A1 k c1] 40 (0,0))∧wr.heap[w.heap.size]?=some (.cells #[.slice none 0 0,.slice none 0 0] 40 (0,0))∧
   NF (w.heap.size+2) n k k A0 c0 A1 c1 wr∧Below w.heap.size w wr∧w.heap.size+2≤wr.heap.size) (fun i _=>d - (intOf i).toNat)
 case atStart=>exact⟨0,none,0,none,0,Nat.zero_le _,rfl,Qa _ _ _ _,jF _ _ _ _,⟨Be.BA,fun _=>False,Be.BA,fun b h=>h.elim,fun b h=>by cases h⟩,bz,by simp⟩
 case round=>
  obtain⟨k,A0,c0,A1,c1,hk,rfl,mF,hres,hnf,hB,hsz⟩:=hrel
  rename World=>wo
  by_cases hlt:k<d
  ·have b0:=(cell_of_row wo (w.heap.size+1) 0 _ _ _ mF).trans (show _=some (Value.slice A0 k c0) from rfl);have b2:=frozen_of_row wo (w.heap.size+1) 0 _ _ mF;have HB:=zh hB;clear hB;have HNF:=zh hnf;clear hnf;have vG:=zh mF;clear mF;have HRES:=zh hres;clear hres;go_wp2_with (at_builtin;refine qq rfl _ _ 30 rfl i0 (.bool false) 1 Tryz.underlying30 hi0 hy0 hy1 hy2 rfl (by decide) rfl ((HNF.out.1).frame (Agree.alloc _ _ _) (by simp)) wo.heap.size 4 1 _ true rfl (heap_alloc_new _ _) ⟨rfl,trivial⟩ (by omega) (by omega) (by simp;omega) ?_)
   intro A7 c7 w7 mt pO hat7;have s7:=pO.size;simp at s7;have vH:∀b,b<w.heap.size+2→w7.heap[b]?=wo.heap[b]?:=fun b hb=>(pO.block b (by simp;omega) (fun e=>by have:=(HNF.out.1.lt b e.symm).1;omega)).trans (Below.heap_alloc _ _ _ (by omega))
   have HNF7:Hid (NF (w.heap.size+2) n (k+1) k A7 c7 A1 c1 w7):=zh ((HNF.out.frame (w':=wo.alloc (.cells #[.bool true] 4)) (fun b _ hlt=>Below.heap_alloc _ _ b hlt) (by simp)).live mt pO (by
    rcases hat7 with h|h
    ·exact .inl h
    exact .inr (by simpa using h)))
   have gh:=(vH (w.heap.size+1) (by omega)).trans vG.out;have c0':=(cell_of_row w7 (w.heap.size+1) 0 _ _ _ gh).trans (show _=some (Value.slice A0 k c0) from rfl);have c2':=frozen_of_row w7 (w.heap.size+1) 0 _ _ gh;have HB7:Hid (Below w.heap.size w w7):=zh ((HB.out.alloc (by omega) _).grown pO (by simp;omega) (fun r hr=>by have:=(HNF.out.1.lt r hr).1;omega));have HR7:Hid (w7.heap[w.heap.size]?=some (.cells #[.slice none 0 0,.slice none 0 0] 40 (0,0))):=zh ((vH w.heap.size (by omega)).trans HRES.out);have HX7:=zh gh;clear mt pO hat7 b0 b2 vH gh HB HNF vG HRES;go_wp2_with fail
   have hx8:(w7.setCell ⟨w.heap.size+1,0,none⟩ (.slice A7 (k+1) c7)).heap[w.heap.size+1]?=some (.cells #[.slice A7 (k+1) c7,.slice A1 k c1] 40 (0,0)):=Qb HX7.out;have hr8:(w7.setCell ⟨w.heap.size+1,0,none⟩ (.slice A7 (k+1) c7)).heap[w.heap.size]?=some (.cells #[.slice none 0 0,.slice none 0 0] 40 (0,0)):=(by rw[Below.heap_setCell _ _ _ _ (by simp)];exact HR7.out);have hn8:NF (w.heap.size+2) n (k+1) k A7 c7 A1 c1 (w7.setCell ⟨w.heap.size+1,0,none⟩ (.slice A7 (k+1) c7)):=HNF7.out.frame (fun b hb _=>Below.heap_setCell _ _ _ _ (by simp;omega)) (by simp);have hB8:Below w.heap.size w (w7.setCell ⟨w.heap.size+1,0,none⟩ (.slice A7 (k+1) c7)):=HB7.out.setCell (by simp) _;have s8:w.heap.size+2≤(w7.setCell ⟨w.heap.size+1,0,none⟩ (.slice A7 (k+1) c7)).heap.size:=(by simp;omega);clear c0' c2' HX7 HR7 HNF7 HB7 s7;generalize (w7.setCell ⟨w.heap.size+1,0,none⟩ (.slice A7 (k+1) c7))=wr at *;have b1:=(cell_of_row wr (w.heap.size+1) 1 _ _ _ hx8).trans (show _=some (Value.slice A1 k c1) from rfl);have b3:=frozen_of_row wr (w.heap.size+1) 1 _ _ hx8;have HB8:=zh hB8;clear hB8;have HN8:=zh hn8;clear hn8;have HX8:=zh hx8;clear hx8;have HR8:=zh hr8;clear hr8
   have cells:∀us w6,us.length≤3→ZA (w.heap.size+2) (w.heap.size+1) n k wr A7 c7 A1 c1 us w6→Below (w.heap.size+2) wr w6:=by
    intro us w6 hl hW
    match us,hl,hW with
    |[],_,hW=>exact hW.1
    |[_],_,hW=>exact hW.1
    |[_,_],_,hW=>exact hW.1
    |[_,_,_],_,hW=>exact hW.1
   have CELLS:=zh cells;clear cells
   refine jo (by kernel_rfl) (by kernel_rfl) 25 rfl [17,18,19,20,21,22,23] [3,4,5,7] [(20,0),(21,1),(22,2)]
    [(17,.pointer (some ⟨w.heap.size+1,1,none⟩)),(18,.slice A1 k c1),(19,.int .i64 (n:Int)),(23,.pointer (some ⟨w.heap.size+1,1,none⟩))]
    (fun i=>if i==1 then 3 else 4) [[],[17],[],[19],[20],[18,21],[],[23,22]] (ZA (w.heap.size+2) (w.heap.size+1) n k wr A7 c7 A1 c1) (by kernel_rfl) ?_ ⟨?_,?_,?_,?_,?_,?_,?_,?_,trivial⟩ ?_
   ·exact⟨(Below.refl _ wr).drew,HN8.out.frame (fun _ _ _=>rfl) (Nat.le_refl _)⟩
   ·(refine Br.rd rfl _ rfl (fun ρ us w6 ho ht hc hl hW=>?_);have e5:=zv (ho 5 rfl) (.pointer (some ⟨w.heap.size+1,0,none⟩)) rfl;simp only[execOp,e5];go_simp;try rfl)
   ·(refine Br.rd rfl _ rfl (fun ρ us w6 ho ht hc hl hW=>?_);have e17:=zv (ht 17 (by decide)) (.pointer (some ⟨w.heap.size+1,1,none⟩)) rfl;have nu:=CELLS.out us w6 hl hW;have q1:=(World.cell?_of_block (a:=⟨w.heap.size+1,1,none⟩) (nu.block (w.heap.size+1) (by omega))).trans b1;simp only[execOp,e17];go_simp;try rfl)
   ·(refine Br.rd rfl _ rfl (fun ρ us w6 ho ht hc hl hW=>?_);have e1:=zv (ho 1 rfl) (.int .i64 (n:Int)) rfl;simp only[execOp,e1];go_simp;try rfl)
   ·refine Br.wr (k:=0) rfl (fun A us w6 ho ht hl hW K hK=>?_)
    match us,hl,hW with
    |[],_,hW=>
    obtain⟨nu,hnf6⟩:=hW;have e19:=zv (ht 19 (by decide)) (.int .i64 (n:Int)) rfl;have hq:=ZW (w:=w6) (n:=n) (by omega);unfold zP at hq;rw[xH] at hq;have hz6:=nu.size;refine qi rfl 84 #[.tmp 19] #[3] rfl Tryz.func84 (by kernel_rfl) (by kernel_rfl) #[.int .i64 (n:Int)] (by simp[e19];try first|done|rfl|exact⟨rfl,rfl⟩) (hq) ?_;rintro e w7 ⟨AR,cR,rfl,mt,gh⟩;refine⟨_,rfl,hK _ _ ⟨nu.trans (gh.mono (by omega)),hnf6.frame (fun b _ hlt=>gh.block b hlt) gh.size,AR,cR,fun b=>w6.heap.size≤b∧b<w7.heap.size,rfl,((mt.sl (tg:=true)).Bi).mono (fun b hb _=>⟨hb.1.elim id id,hb.2⟩),fun b hb=>⟨by omega,hb.2,fun e=>?_,fun e=>?_⟩⟩⟩
    ·have:=(hnf6.1.lt b e.symm).2;omega
    obtain⟨_,S,h1,_⟩:=hnf6;have:=(h1.lt b e.symm).2;omega
   ·refine Br.wr (k:=1) rfl (fun A us w6 ho ht hl hW K hK=>?_)
    match us,hl,hW with
    |[v],_,hW=>
    obtain⟨nu,hnf6,AR,cR,Sr,rfl,hsl,hsr⟩:=hW;have pH:=zv (ht 20 (by decide)) (.slice AR n cR) rfl;rw[if_pos (by simp[Region.wanted])];unfold Oper.wp;generalize A.eval=ρ at *;simp only[execOp,List.map_toArray,List.map_cons,List.map_nil,pH];go_simp
    exact hK _ _ ⟨nu.alloc (Nat.le_trans s8 nu.size) _,hnf6.frame (fun b _ hlt=>Below.heap_alloc _ _ b hlt) (by simp),AR,cR,Sr,rfl,hsl.frame (Agree.alloc _ _ _) (by simp),fun b hb=>⟨(hsr b hb).1,by have:=(hsr b hb).2.1;simp;omega,(hsr b hb).2.2⟩,_,rfl,heap_alloc_new _ _⟩
   ·refine Br.wr (k:=2) rfl (fun A us w6 ho ht hl hW K hK=>?_)
    match us,hl,hW with
    |[v,x],_,hW=>
    obtain⟨nu,⟨h0,S,h1,h2,h3⟩,AR,cR,Sr,rfl,hsl,hsr,b,rfl,hb⟩:=hW;have e18:=zv (ht 18 (by decide)) (.slice A1 k c1) rfl;have gW:=zv (ht 21 (by decide)) (.slice (some ⟨b,0,none⟩) 1 1) rfl;have hz6:=nu.size;refine jz rfl (.tmp 18) (.tmp 21) 38 rfl i1 (.slice none 0 0) 24 Tryz.underlying38 hi1 hz0 hz1 hz2 rfl (by decide) e18 (h1.mono (S':=fun b=>S b∨Sr b) (fun b hb _=>.inl hb)) b 36 1 _ (za n) gW hb ⟨AR,n,cR,rfl,hsl.mono (fun b hb _=>⟨.inr hb,(hsr b hb).2.2.2⟩)⟩ (by omega) (by omega) (by omega) ?_;intro A9 c9 w9 vI hg9 hat9;exact hK _ _ ⟨nu.grown hg9 (Nat.le_trans s8 nu.size) (fun r hr=>(h1.lt r hr).1),A9,c9,rfl,NF.free h0 (fun b hb=>hb.elim (h2 b) (fun hb=>⟨(hsr b hb).1,(hsr b hb).2.1,(hsr b hb).2.2.1⟩)) h3 vI hg9 hat9⟩
   ·(refine Br.rd rfl _ rfl (fun ρ us w6 ho ht hc hl hW=>?_);have e5:=zv (ho 5 rfl) (.pointer (some ⟨w.heap.size+1,0,none⟩)) rfl;simp only[execOp,e5];go_simp;try rfl)
   ·refine Br.wr (k:=3) rfl (fun A us w6 ho ht hl hW K hK=>?_)
    match us,hl,hW with
    |[v,x,y],_,hW=>
    obtain⟨nu,pD,c1',rfl,hnf6⟩:=hW;have e23:=zv (ht 23 (by decide)) (.pointer (some ⟨w.heap.size+1,1,none⟩)) rfl;have yF:=zv (ht 22 (by decide)) (.slice pD (k+1) c1') rfl;have hblk:=nu.block (w.heap.size+1) (by omega);have q1:=(World.cell?_of_block (a:=⟨w.heap.size+1,1,none⟩) hblk).trans b1;have q3:=(World.frozen?_of_block (a:=⟨w.heap.size+1,1,none⟩) hblk).trans b3;rw[if_pos (by simp[Region.wanted])];unfold Oper.wp;generalize A.eval=ρ at *;simp only[execOp,e23,yF];go_simp
    exact hK undef _ ⟨w6,pD,c1',nu,rfl,hnf6⟩
   intro us w9 hl hW
   match us,hl,hW with
   |[v,x,y,z],_,hW=>
   obtain⟨w5,pD,c1',nu,rfl,hnf6⟩:=hW;simp only[qc,BR,BS,BU,BV,Act.put,BO,BP,BQ];generalize qZ _ _ [v,x,y,z]=sv;have pF:=zh nu;clear nu;have HNF6:=zh hnf6;clear hnf6;go_wp2
   go_roundw
   case rel=>
    have nu:=pF.out;have hz6:=nu.size;have hB8:=HB8.out;refine⟨k+1,A7,c7,pD,c1',by omega,by go_num,ZB ((nu.block (w.heap.size+1) (by omega)).trans HX8.out),?_,HNF6.out.frame (fun b hb hlt=>Below.heap_setCell _ _ _ _ (by simp;omega)) (by simp),(hB8.trans (nu.mono (by omega))).setCell (by simp) _,by simp;omega⟩;rw[Below.heap_setCell _ _ _ _ (by simp)];exact(nu.block w.heap.size (by omega)).trans HR8.out
   case measure=>simp[intOf];omega
  obtain rfl:k=d:=by omega
  have b0:=(cell_of_row wo (w.heap.size+1) 0 _ _ _ mF).trans (show _=some (Value.slice A0 k c0) from rfl);have b1:=(cell_of_row wo (w.heap.size+1) 1 _ _ _ mF).trans (show _=some (Value.slice A1 k c1) from rfl);have r0:=(cell_of_row wo w.heap.size 0 _ _ _ hres).trans (show _=some (Value.slice none 0 0) from rfl);have r1:=(cell_of_row wo w.heap.size 1 _ _ _ hres).trans (show _=some (Value.slice none 0 0) from rfl);have r2:=frozen_of_row wo w.heap.size 0 _ _ hres;have r3:=frozen_of_row wo w.heap.size 1 _ _ hres;have HB:=zh hB;clear hB;have HNF:=zh hnf;clear hnf;clear mF hres;go_wp2
  refine bodyPost_ret (v:=.agg #[.slice A0 k c0,.slice A1 k c1]) (by simp[results,Tryz.results52,go_sem, *];done) rfl ?_;obtain⟨h0,S,h1,h2',h3'⟩:=(HNF.out.frame (w':=(wo.setCell ⟨w.heap.size,0,none⟩ (.slice A0 k c0)).setCell ⟨w.heap.size,1,none⟩ (.slice A1 k c1)) (fun b hb hlt=>by rw[Below.heap_setCell _ _ _ _ (by simp;omega),Below.heap_setCell _ _ _ _ (by simp;omega)]) (by simp));have hB:=HB.out;exact⟨_,rfl,⟨_,_,_,_,_,_,rfl,trivial,(h0.sl (tg:=true)).mono (fun b hb _=>by rcases hb with hb|hb;exact hb.elim;omega),(h1.sl (tg:=true)).mono (fun b hb _=>by rcases hb with hb|hb;(have:=(h2' b hb).1;omega);omega)⟩,(hB.setCell (by simp) _).setCell (by simp) _⟩
end Go.Proofs.YtipecejghioicaaGreat
