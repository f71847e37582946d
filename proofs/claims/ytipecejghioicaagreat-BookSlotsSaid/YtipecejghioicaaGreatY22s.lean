/- The drawn regions of book.Own, each over a frame of letters. -/
import Derived.Test.YtipecejghioicaaGreatY8s
import Derived.Test.YtipecejghioicaaGreatQ12s
import Derived.Deep.Light
import Derived.Test.YtipecejghioicaaGreatQ1s
set_option maxHeartbeats 8000000
set_option maxRecDepth 100000
namespace Go.Silo
open Go Go.RowKit
theorem zK {w:World}{b k:Nat}{cs:Array Value}{T:TypeId}{fr:Nat×Nat}{v:Value}(h:w.heap[b]?=some (.cells cs T fr)) (hv:cs[k]?=some v):w.setCell ⟨b,k,none⟩ v=w:=by
 have hh:(w.setCell ⟨b,k,none⟩ v).heap=w.heap:=by
  apply Array.ext_getElem?;intro i;by_cases hi:i=b
  ·subst hi;simp only[World.setCell,Array.getElem?_modify,h]
   have:cs.setIfInBounds k v=cs:=by
    apply Array.ext_getElem?;intro j;rw[Array.getElem?_setIfInBounds];by_cases hj:k=j
    ·subst hj;rw[if_pos rfl,hv];have:=(zl hv);simp[this]
    rw[if_neg hj]
   simp[this]
  exact Below.heap_setCell w ⟨b,k,none⟩ v i hi
 cases w
 simp only[World.setCell] at hh⊢;simp only[World.mk.injEq,and_true];exact hh
def CO {α:Type}(T:TypeId) (E:Enc α) (B:Nat) (S:Nat→Prop) (n:Nat) (xs:List α) (v:Value) (W:World):Prop:=∃A c,v=.slice A n c∧Be T E W B S A n c xs
def DJ (a b:Value):Prop:=∀g,a.ownBlock=some g→b.ownBlock≠some g
section
variable {α:Type}{T:TypeId}{E:Enc α}{B n:Nat}{S:Nat→Prop}{xs:List α}{v a:Value}{W W':World}
theorem CO.all (h:CO T E B S n xs v W) (hb:Below W.heap.size W W'):CO T E B S n xs v W':=by
 obtain⟨A,c,e,ho⟩:=h;exact⟨A,c,e,ho.all hb⟩
theorem CO.set {bb k:Nat}{u:Value}(h:CO T E B S n xs v W) (hb:bb<B) (hS:¬S bb):CO T E B S n xs v (W.setCell ⟨bb,k,none⟩ u):=by
 obtain⟨A,c,e,ho⟩:=h;refine⟨A,c,e,ho.frame (Agree.setCell (p:=⟨bb,k,none⟩) (fun h=>?_) u) (by simp)⟩;rcases h with h|h
 ·exact hS h
 have:=(ho.lt _ h.symm).1;exact absurd hb (Nat.not_lt.2 this)
theorem CO.dj {α':Type}{T':TypeId}{E':Enc α'}{B' n':Nat}{S':Nat→Prop}{ys:List α'}{W0:World}(h:CO T E B S n xs v W0) (h2:CO T' E' B' S' n' ys a W) (hB:W0.heap.size≤B'):DJ v a:=by
 obtain⟨A,c,rfl,ho⟩:=h;obtain⟨A',c',rfl,ho'⟩:=h2;intro g h1 h2;rw[qF] at h1 h2;have h3:=(ho.lt _ h1).2;have h4:=(ho'.lt _ h2).1;omega
end
end Go.Silo
namespace Go.Proofs.YtipecejghioicaaGreat
open Go.RowKit Go.Silo
structure Ce (w:World) (base bb:Nat) (u0 u1 u2:Value) (nx:Int) (W:World):Prop where
 row:W.heap[bb]?=some (.cells #[u0,u1,u2,.int .i64 nx] 28 (0,0))
 below:Below base w W
 size:w.heap.size≤W.heap.size
 same:∀g,g<w.heap.size→g≠bb→W.heap[g]?=w.heap[g]?
section
variable {w W W':World}{base bb:Nat}{u0 u1 u2 v:Value}{nx:Int}
theorem Ce.all (h:Ce w base bb u0 u1 u2 nx W) (hb:Below W.heap.size W W') (hz:base≤W.heap.size):Ce w base bb u0 u1 u2 nx W':=
 ⟨zb hb h.row,h.below.trans (hb.mono hz),Nat.le_trans h.size hb.size,fun g hg hne=>(hb.block g (Nat.lt_of_lt_of_le hg h.size)).trans (h.same g hg hne)⟩
theorem Ke {w:World}{bb:Nat}{a b c d v:Value}{T:TypeId}(h:w.heap[bb]?=some (.cells #[a,b,c,d] T (0,0))):
  (w.setCell ⟨bb,0,none⟩ v).heap[bb]?=some (.cells #[v,b,c,d] T (0,0))∧(w.setCell ⟨bb,1,none⟩ v).heap[bb]?=some (.cells #[a,v,c,d] T (0,0))∧(w.setCell ⟨bb,2,none⟩ v).heap[bb]?=some (.cells #[a,b,v,d] T (0,0)):=by
 refine⟨?_,?_,?_⟩<;>(rw[setCell_eq_setRow w bb _ _ T (0,0) v h];exact setRow_heap w bb _ _ T (0,0) h)
theorem Ce.set (h:Ce w base bb u0 u1 u2 nx W) (hb:base≤bb):Ce w base bb v u1 u2 nx (W.setCell ⟨bb,0,none⟩ v)∧Ce w base bb u0 v u2 nx (W.setCell ⟨bb,1,none⟩ v)∧Ce w base bb u0 u1 v nx (W.setCell ⟨bb,2,none⟩ v):=by
 obtain⟨r0,r1,r2⟩:=Ke (v:=v) h.row;refine⟨⟨r0,h.below.setCell hb _,by simpa using h.size,fun g hg hne=>(Below.heap_setCell _ _ _ _ hne).trans (h.same g hg hne)⟩,⟨r1,h.below.setCell hb _,by simpa using h.size,fun g hg hne=>(Below.heap_setCell _ _ _ _ hne).trans (h.same g hg hne)⟩,⟨r2,h.below.setCell hb _,by simpa using h.size,fun g hg hne=>(Below.heap_setCell _ _ _ _ hne).trans (h.same g hg hne)⟩⟩
end
structure Da (tg0 tg1:Bool) (B base:Nat) (b:Book) (x y z:Value) (W:World):Prop where
 c0:CO 86 (qe tg0) B (fun g=>g<base) b.Ba.length b.Ba x W
 c1:CO 90 (ql tg1) B (fun g=>g<base) b.things.length b.things y W
 c2:CO 94 Bz B (fun g=>g<base) b.tags.length b.tags z W
 E5:DJ x y
 Eb:DJ x z
 Ec:DJ y z
theorem Da.set {tg0 tg1:Bool}{B base bb k:Nat}{b:Book}{x y z u:Value}{W:World}(h:Da tg0 tg1 B base b x y z W) (hb:bb<B) (hB:base≤bb):Da tg0 tg1 B base b x y z (W.setCell ⟨bb,k,none⟩ u):=
 ⟨h.c0.set hb (Nat.not_lt.2 hB),h.c1.set hb (Nat.not_lt.2 hB),h.c2.set hb (Nat.not_lt.2 hB),h.E5,h.Eb,h.Ec⟩
def P1 (tg0 tg1:Bool) (w:World) (base bb:Nat) (u0 u1 u2:Value) (b:Book):List Value→World→Prop
 |[],W=>Ce w base bb u0 u1 u2 b.next W
 |[x],W=>Ce w base bb u0 u1 u2 b.next W∧CO 86 (qe tg0) w.heap.size (fun g=>g<base) b.Ba.length b.Ba x W
 |[x,y],W=>Ce w base bb u0 u1 u2 b.next W∧CO 86 (qe tg0) w.heap.size (fun g=>g<base) b.Ba.length b.Ba x W∧CO 90 (ql tg1) w.heap.size (fun g=>g<base) b.things.length b.things y W∧DJ x y
 |[x,y,z],W=>Ce w base bb u0 u1 u2 b.next W∧Da tg0 tg1 w.heap.size base b x y z W
 |[x,y,z,_],W=>Ce w base bb x u1 u2 b.next W∧Da tg0 tg1 w.heap.size base b x y z W
 |[x,y,z,_,_],W=>Ce w base bb x y u2 b.next W∧Da tg0 tg1 w.heap.size base b x y z W
 |[x,y,z,_,_,_],W=>Ce w base bb x y z b.next W∧Da tg0 tg1 w.heap.size base b x y z W
 |_,_=>False
theorem P1.early {tg0 tg1:Bool}{w:World}{base bb:Nat}{u0 u1 u2:Value}{b:Book}{us:List (Nat×Value)}{W:World}{mem:List Nat}(h:Cr mem (P1 tg0 tg1 w base bb u0 u1 u2 b) us W) (hl:us.length≤3):Ce w base bb u0 u1 u2 b.next W:=by
 have hp:=h.2.2
 match us,hl,hp with
 |[],_,hp=>exact hp
 |[_],_,hp=>exact hp.1
 |[_,_],_,hp=>exact hp.1
 |[_,_,_],_,hp=>exact hp.1
 |_::_::_::_::_,hl,_=>simp at hl
noncomputable def Ef:Code:=((Tryz.f62.body.bind (qm 1)).getD .skip)
theorem own1 {Q:Exit→Act→World→Prop}{σ:Act}{tg0 tg1:Bool}{w:World}{base bb:Nat}{A0 A1 A2:Option Addr}{n0 c0 n1 c1 n2 c2:Nat}{b:Book}(hbb:base≤bb) (p8:bb<w.heap.size) (hbz:base≤w.heap.size) (HQ:Hid (w.heap[bb]?=some (.cells #[.slice A0 n0 c0,.slice A1 n1 c1,.slice A2 n2 c2,.int .i64 b.next] 28 (0,0)))) (HC0:Hid (∀V,Ce w base bb (.slice A0 n0 c0) (.slice A1 n1 c1) (.slice A2 n2 c2) b.next V→Calls Tryz.prog 91 #[.slice A0 n0 c0] V (xG 86 (qe tg0) V (fun g=>g<base∧g<V.heap.size) b.Ba))) (HC1:Hid (∀V,Ce w base bb (.slice A0 n0 c0) (.slice A1 n1 c1) (.slice A2 n2 c2) b.next V→Calls Tryz.prog 92 #[.slice A1 n1 c1] V (xG 90 (ql tg1) V (fun g=>g<base∧g<V.heap.size) b.things))) (HC2:Hid (∀V,Ce w base bb (.slice A0 n0 c0) (.slice A1 n1 c1) (.slice A2 n2 c2) b.next V→Calls Tryz.prog 93 #[.slice A2 n2 c2] V (xG 94 Bz V (fun g=>g<base∧g<V.heap.size) b.tags))) (hσ:σ.tmps.size=56) (s1:σ.eval (.tmp 1)=.pointer (some ⟨bb,0,none⟩))
  (hend:∀(v:Nat→Value) (wz:World) (x y z:Value),Ce w base bb x y z b.next wz→Da tg0 tg1 w.heap.size base b x y z wz→Q .normal (qc σ (([5,6,7,8,9,10,11,12,13,14,15,16]:List Nat).map fun d=>(d,v d))) wz):
  Ef.wp Tryz.prog Q σ w:=by
 conv=>arg 2;whnf
 refine rF 56 hσ [5,6,7,8,9,10,11,12,13,14,15,16] [2,5,8,10,12,14]
   [kq 5 bb 0,kp 6 (.slice A0 n0 c0),kq 8 bb 1,kp 9 (.slice A1 n1 c1),kq 11 bb 2,kp 12 (.slice A2 n2 c2),kq 14 bb 0,kq 15 bb 1,kq 16 bb 2]
   [[],[10],[],[],[10],[],[],[10]] [[],[],[],[],[],[2],[],[],[5],[],[8],[],[10],[],[12]] (Cr [2,5,8,10,12,14] (P1 tg0 tg1 w base bb (.slice A0 n0 c0) (.slice A1 n1 c1) (.slice A2 n2 c2) b)) (.init ⟨HQ.out,(Below.refl _ _).drew,Nat.le_refl _,fun _ _ _=>rfl⟩) ⟨.q s1,.l fun us w6 hW hl=>zo 0 ((P1.early hW (hW.short (j:=3) rfl (hl 10 (by decide)))).row),?_,.q s1,.l fun us w6 hW hl=>zo 1 ((P1.early hW (hW.short (j:=3) rfl (hl 10 (by decide)))).row),?_,.q s1,.l fun us w6 hW hl=>zo 2 ((P1.early hW (hW.short (j:=3) rfl (hl 10 (by decide)))).row),?_,.q s1,?_,.q s1,?_,.q s1,?_,trivial⟩ ?_
 ·refine Bc.wr rfl (fun Z us w6 ho ht hni hlim gb hW K hK=>?_)
  have hlen:us.length=0:=by
   have h1:=hW.short (j:=0) rfl hni;omega
  have hq:=P1.early hW (by omega);obtain rfl:=List.eq_nil_of_length_eq_zero hlen;have e6:=zv (ht 6 (by decide)) (.slice A0 n0 c0) rfl;have hcl:=HC0.out w6 hq;refine qi rfl 91 #[.tmp 6] #[24] rfl Tryz.func91 (by kernel_rfl) (by kernel_rfl) #[.slice A0 n0 c0] (by simp[e6];try first|done|rfl|exact⟨rfl,rfl⟩) (hcl) ?_;rintro e w7 ⟨A3,c3,rfl,hown,gh⟩;refine⟨_,rfl,hK _ _ (hW.snoc hlen rfl ?_)⟩;have hz:=Nat.le_trans hbz hq.size;have hq7:=hq.all gh hz;exact⟨hq7,A3,c3,rfl,(hown.mono (fun g hg _=>hg.1)).lower hq.size⟩
 ·refine Bc.wr rfl (fun Z us w6 ho ht hni hlim gb hW K hK=>?_)
  have hlen:us.length=1:=by
   have h1:=hW.short (j:=1) rfl hni;have h2:=hW.long (by decide) (j:=0) rfl (gb 2 (by decide));omega
  have hq:=P1.early hW (by omega);obtain⟨x,rfl,hp⟩:=hW.DT hlen;have e9:=zv (ht 9 (by decide)) (.slice A1 n1 c1) rfl;have hcl:=HC1.out w6 hq;refine qi rfl 92 #[.tmp 9] #[25] rfl Tryz.func92 (by kernel_rfl) (by kernel_rfl) #[.slice A1 n1 c1] (by simp[e9];try first|done|rfl|exact⟨rfl,rfl⟩) (hcl) ?_;rintro e w7 ⟨A3,c3,rfl,hown,gh⟩;refine⟨_,rfl,hK _ _ (hW.snoc hlen rfl ?_)⟩;have hz:=Nat.le_trans hbz hq.size;have hq7:=hq.all gh hz;have hn:CO 90 (ql tg1) w6.heap.size (fun g=>g<base) b.things.length b.things (.slice A3 b.things.length c3) w7:=⟨A3,c3,rfl,hown.mono (fun g hg _=>hg.1)⟩;exact⟨hq7,hp.2.all gh,⟨A3,c3,rfl,(hown.mono (fun g hg _=>hg.1)).lower hq.size⟩,hp.2.dj hn (Nat.le_refl _)⟩
 ·refine Bc.wr rfl (fun Z us w6 ho ht hni hlim gb hW K hK=>?_)
  have hlen:us.length=2:=by
   have h1:=hW.short (j:=2) rfl hni;have h2:=hW.long (by decide) (j:=1) rfl (gb 5 (by decide));omega
  have hq:=P1.early hW (by omega);obtain⟨x,y,rfl,hp⟩:=hW.DU hlen;have e12:=zv (ht 12 (by decide)) (.slice A2 n2 c2) rfl;have hcl:=HC2.out w6 hq;refine qi rfl 93 #[.tmp 12] #[26] rfl Tryz.func93 (by kernel_rfl) (by kernel_rfl) #[.slice A2 n2 c2] (by simp[e12];try first|done|rfl|exact⟨rfl,rfl⟩) (hcl) ?_;rintro e w7 ⟨A3,c3,rfl,hown,gh⟩;refine⟨_,rfl,hK _ _ (hW.snoc hlen rfl ?_)⟩;have hz:=Nat.le_trans hbz hq.size;have hq7:=hq.all gh hz;have hn:CO 94 Bz w6.heap.size (fun g=>g<base) b.tags.length b.tags (.slice A3 b.tags.length c3) w7:=⟨A3,c3,rfl,hown.mono (fun g hg _=>hg.1)⟩;exact⟨hq7,hp.2.1.all gh,hp.2.2.1.all gh,⟨A3,c3,rfl,(hown.mono (fun g hg _=>hg.1)).lower hq.size⟩,hp.2.2.2,hp.2.1.dj hn (Nat.le_refl _),hp.2.2.1.dj hn (Nat.le_refl _)⟩
 ·refine Bc.wr rfl (fun Z us w6 ho ht hni hlim gb hW K hK=>?_)
  have hlen:us.length=3:=by
   have h1:=hW.short (j:=3) rfl hni;have h2:=hW.long (by decide) (j:=2) rfl (gb 8 (by decide));omega
  obtain⟨x,y,z,rfl,hq,h3⟩:=hW.vals3 hlen;have hrow:=hq.row;have f0:=(zo 0 hrow).trans (show _=some (_:Value) from rfl);have f4:=zf 0 hrow;have pj:=zv (ht 14 (by decide)) (.pointer (some ⟨bb,0,none⟩)) rfl;have hv9:=h3.c0;obtain⟨A9,c9,rfl,_⟩:=hv9;have e7:=zv (ht 7 (by decide)) (.slice A9 b.Ba.length c9) rfl;have hdone:Cr [2,5,8,10,12,14] (P1 tg0 tg1 w base bb (.slice A0 n0 c0) (.slice A1 n1 c1) (.slice A2 n2 c2) b) (_++[(10,undef)]) (w6.setCell ⟨bb,0,none⟩ (.slice A9 b.Ba.length c9)):=hW.snoc hlen rfl ⟨(hq.set hbb).1,h3.set p8 hbb⟩;have na:=zh hdone;clear hdone hW hni hlim gb ho ht hrow hq h3 hlen;rw[if_pos (by simp[Region.wanted])];unfold Oper.wp;generalize Z.eval=ρ at *;simp only[execOp,pj,e7];go_simp
  exact hK undef _ na.out
 ·refine Bc.wr rfl (fun Z us w6 ho ht hni hlim gb hW K hK=>?_)
  have hlen:us.length=4:=by
   have h1:=hW.short (j:=4) rfl hni;have h2:=hW.long (by decide) (j:=3) rfl (gb 10 (by decide));omega
  obtain⟨x,y,z,p,rfl,hq,h3⟩:=hW.vals4 hlen;have hrow:=hq.row;have f0:=(zo 1 hrow).trans (show _=some (_:Value) from rfl);have f4:=zf 1 hrow;have yE:=zv (ht 15 (by decide)) (.pointer (some ⟨bb,1,none⟩)) rfl;have hv9:=h3.c1;obtain⟨A9,c9,rfl,_⟩:=hv9;have e10:=zv (ht 10 (by decide)) (.slice A9 b.things.length c9) rfl;have hdone:Cr [2,5,8,10,12,14] (P1 tg0 tg1 w base bb (.slice A0 n0 c0) (.slice A1 n1 c1) (.slice A2 n2 c2) b) (_++[(12,undef)]) (w6.setCell ⟨bb,1,none⟩ (.slice A9 b.things.length c9)):=hW.snoc hlen rfl ⟨(hq.set hbb).2.1,h3.set p8 hbb⟩;have na:=zh hdone;clear hdone hW hni hlim gb ho ht hrow hq h3 hlen;rw[if_pos (by simp[Region.wanted])];unfold Oper.wp;generalize Z.eval=ρ at *;simp only[execOp,yE,e10];go_simp
  exact hK undef _ na.out
 ·refine Bc.wr rfl (fun Z us w6 ho ht hni hlim gb hW K hK=>?_)
  have hlen:us.length=5:=by
   have h1:=hW.short (j:=5) rfl hni;have h2:=hW.long (by decide) (j:=4) rfl (gb 12 (by decide));omega
  obtain⟨x,y,z,p,q,rfl,hq,h3⟩:=hW.vals5 hlen;have hrow:=hq.row;have f0:=(zo 2 hrow).trans (show _=some (_:Value) from rfl);have f4:=zf 2 hrow;have e16:=zv (ht 16 (by decide)) (.pointer (some ⟨bb,2,none⟩)) rfl;have hv9:=h3.c2;obtain⟨A9,c9,rfl,_⟩:=hv9;have yD:=zv (ht 13 (by decide)) (.slice A9 b.tags.length c9) rfl;have hdone:Cr [2,5,8,10,12,14] (P1 tg0 tg1 w base bb (.slice A0 n0 c0) (.slice A1 n1 c1) (.slice A2 n2 c2) b) (_++[(14,undef)]) (w6.setCell ⟨bb,2,none⟩ (.slice A9 b.tags.length c9)):=hW.snoc hlen rfl ⟨(hq.set hbb).2.2,h3.set p8 hbb⟩;have na:=zh hdone;clear hdone hW hni hlim gb ho ht hrow hq h3 hlen;rw[if_pos (by simp[Region.wanted])];unfold Oper.wp;generalize Z.eval=ρ at *;simp only[execOp,e16,yD];go_simp
  exact hK undef _ na.out
 intro us wz hmem hW
 have hlen:us.length=6:=by
  have h1:=hW.2.1;have h2:=hW.long (by decide) (j:=5) rfl (hmem 14 (by decide));simp at h1;omega
 obtain⟨x,y,z,p,q,r,rfl,hq,h3⟩:=hW.vals6 hlen;exact hend _ _ _ _ _ hq h3
theorem JP {α:Type}{T:TypeId}{E F:Enc α}{hsz:F.sz=E.sz}{W:World}{B N n c k:Nat}{S:Nat→Prop}{A:Option Addr}{xs:List α}{d:α}(h:Silo.Be T (jH N E F hsz) W B S A n c (zE k xs)) (hk:k<n):
  ∃g cur vs,A=some ⟨g,0,none⟩∧B≤g∧g<W.heap.size∧W.heap[g]?=some (.cells cur T (0,0))∧F.R W (fun b=>S b∧some b≠some g) vs (xs.getD k d)∧∀j v,vs[j]?=some v→cur[k* E.sz+j]?=some v:=by
 obtain⟨g,cur,rfl,hb,hg,hh,hn,hm,hs,hR,hl⟩:=h.row (.inl (by omega));rw[xe] at hl;have hx:=hR.2 k _ (JN (d:=d) (by omega));refine⟨g,cur,_,rfl,hb,hg,hh,hx,fun j v hj=>?_⟩;rw[List.getElem?_take] at hj
 split at hj
 ·next hjl=>
  rw[List.getElem?_drop,List.getElem?_take] at hj
  split at hj
  ·have uR:cur[k* (jH N E F hsz).sz+j]?=some v:=(by simpa using hj);exact uR
  cases hj
 cases hj
theorem ZH {tg0:Bool}{W:World}{B N n c k g M m c':Nat}{S:Nat→Prop}{A A':Option Addr}{xs:List Bb}{x:Bb}{cur:Array Value}(h:Silo.Be 86 (jH N (qe true) (qe tg0) rfl) W B S A n c (zE k xs)) (hk:k<n) (hA:A=some ⟨g,0,none⟩) (hh:W.heap[g]?=some (.cells cur 86 (0,0)))
  (hx:xs.getD k default=x) (hok:Bo x.id∧Bo x.len∧Bo x.gen) (hc:∀j v,[.int .i64 x.id,.int .i64 x.len,.int .i64 x.gen][j]?=some v→cur[k* 4+j]?=some v)
  (ho:Silo.Be 88 qz W M (fun b=>M≤b) A' m c' x.place) (hS:∀b,M≤b→S b∧N≤b∧b≠g):
  Silo.Be 86 (jH N (qe true) (qe tg0) rfl) (W.setCell ⟨g,k* 4+3,none⟩ (.slice A' m c')) B S A n c (zE (k+1) xs):=by
 subst hA;have hl:xs.length=n:=by have:=h.len;rw[xe] at this;exact this
 have hs:Sl true 88 qz W (fun b=>(S b∧some b≠some g)∧N≤b) A' m c' x.place:=(ho.sl (tg:=true)).mono (fun b hb _=>by
  have hb':M≤b:=hb.elim (fun h=>h) (fun h=>h);have:=hS b hb'
  exact⟨⟨this.1,fun e=>this.2.2 (by injection e)⟩,this.2.1⟩)
 have hy:(jH N (qe true) (qe tg0) rfl).R W (fun b=>S b∧some b≠qa (some ⟨g,0,none⟩)) [.int .i64 x.id,.int .i64 x.len,.int .i64 x.gen,.slice A' m c'] (x,true):=by
  show(qe true).R W (fun b=>(S b∧some b≠some g)∧N≤b) [.int .i64 x.id,.int .i64 x.len,.int .i64 x.gen,.slice A' m c'] x;exact⟨A',m,c',rfl,hok,hs⟩
 obtain⟨g',e,_,_,h2,_⟩:=h.CF hk hy;have e:g=g':=by injection e with e;injection e
 subst e;have hms:(zE k xs).set k (x,true)=zE (k+1) xs:=by rw[←hx];exact QH (by omega)
 rw[hms] at h2;have q0:cur[k* 4]?=_:=hc 0 _ rfl;have q1:cur[k* 4+1]?=_:=hc 1 _ rfl;have q2:cur[k* 4+1+1]?=_:=hc 2 _ rfl
 have e2:W.setCells g (k* (jH N (qe true) (qe tg0) rfl).sz) [.int .i64 x.id,.int .i64 x.len,.int .i64 x.gen,.slice A' m c']=W.setCell ⟨g,k* 4+3,none⟩ (.slice A' m c'):=by
  show W.setCells g (k* 4) [.int .i64 x.id,.int .i64 x.len,.int .i64 x.gen,.slice A' m c']=W.setCell ⟨g,k* 4+3,none⟩ (.slice A' m c');simp only[World.setCells];rw[zK hh q0,zK hh q1,zK hh q2]
 rw[e2] at h2;exact h2
def P5 (w:World) (g o k m:Nat) (xs:List Slot):List Value→World→Prop
 |[],W=>Below w.heap.size w W
 |[a],W=>Below w.heap.size w W∧CO 88 qz w.heap.size (fun b=>w.heap.size≤b) m xs a W
 |[a,_],W=>∃W0,Below w.heap.size w W0∧CO 88 qz w.heap.size (fun b=>w.heap.size≤b) m xs a W0∧W=W0.setCell ⟨g,o+k* 4+3,none⟩ a
 |_,_=>False
theorem P5.early {w:World}{g o k m:Nat}{xs:List Slot}{us:List (Nat×Value)}{W:World}{mem:List Nat}(h:Cr mem (P5 w g o k m xs) us W) (hl:us.length≤1):Below w.heap.size w W:=by
 have hp:=h.2.2
 match us,hl,hp with
 |[],_,hp=>exact hp
 |[_],_,hp=>exact hp.1
 |_::_::_,hl,_=>simp at hl
noncomputable def Eg:Code:=((Tryz.f62.body.bind (qm 5)).getD .skip)
theorem own5 {Q:Exit→Act→World→Prop}{σ:Act}{w:World}{bb g0 o0 k:Nat}{A3:Option Addr}{n0 c0 n3 c3:Nat}{xx:List Slot}{u v:Value}{nx:Int}(hlt:k<n0) (HQ:Hid (w.heap[bb]?=some (.cells #[.slice (some ⟨g0,o0,none⟩) n0 c0,u,v,.int .i64 nx] 28 (0,0)))) (rO:Hid (xx.length=n3)) (vW:Hid (∀V,Below w.heap.size w V→V.cell? ⟨g0,o0+k* 4+3,none⟩=some (.slice A3 n3 c3)∧V.frozen? ⟨g0,o0+k* 4+3,none⟩=false)) (HC:Hid (∀V,Below w.heap.size w V→Calls Tryz.prog 94 #[.slice A3 n3 c3] V (zP 88 qz V xx))) (hσ:σ.tmps.size=56) (s1:σ.eval (.tmp 1)=.pointer (some ⟨bb,0,none⟩)) (s3:σ.eval (.tmp 3)=.int .i64 (k:Int))
  (hend:∀(v:Nat→Value) (W0:World) (A':Option Addr) (c':Nat),Below w.heap.size w W0→Silo.Be 88 qz W0 w.heap.size (fun b=>w.heap.size≤b) A' n3 c' xx→Q .normal (qc σ (([23,24,25,26,27,28,29,30,31,32,33,34]:List Nat).map fun d=>(d,v d))) (W0.setCell ⟨g0,o0+k* 4+3,none⟩ (.slice A' n3 c'))):
  Eg.wp Tryz.prog Q σ w:=by
 conv=>arg 2;whnf
 refine rF 56 hσ [23,24,25,26,27,28,29,30,31,32,33,34] [9,12]
   [kq 23 bb 0,kp 24 (.slice (some ⟨g0,o0,none⟩) n0 c0),ki 25 k,kq 26 bb 0,kp 27 (.slice (some ⟨g0,o0,none⟩) n0 c0),ki 28 k,kq 29 (g0) (o0+k* 4),kq 30 (g0) (o0+k* 4+3),kp 31 (.slice A3 n3 c3),kq 33 (g0) (o0+k* 4),kq 34 (g0) (o0+k* 4+3)]
   [[],[12],[],[],[12],[],[],[],[12]] [[],[],[],[],[],[],[],[],[],[],[],[],[9]] (Cr [9,12] (P5 w g0 o0 k n3 xx)) (.init (Below.refl _ _).drew) ⟨.q s1,.l (a:=⟨bb,0,none⟩) fun us w6 hW hl=>(by have hE:=P5.early hW (hW.short (j:=1) rfl (hl 12 (by decide)));have r7:=zb hE HQ.out;have y0:=zo 0 r7;assumption),.q s3,.q s1,.l (a:=⟨bb,0,none⟩) fun us w6 hW hl=>(by have hE:=P5.early hW (hW.short (j:=1) rfl (hl 12 (by decide)));have r7:=zb hE HQ.out;have y0:=zo 0 r7;assumption),.q s3,?_,.a,.l (a:=⟨g0,o0+k* 4+3,none⟩) fun us w6 hW hl=>(by have hE:=P5.early hW (hW.short (j:=1) rfl (hl 12 (by decide)));have y3:=(vW.out _ hE).1;assumption),?_,?_,.a,?_,trivial⟩ ?_
 ·(refine .r2 (.slice (some ⟨g0,o0,none⟩) n0 c0) (.int .i64 (k:Int)) fun _ _ _ rZ rh _ _ _ _=>?_;simp only[execOp,rZ,rh];go_simp;try rfl)
 ·refine Bc.wr rfl (fun Z us w6 ho ht hni hlim gb hW K hK=>?_)
  have hlen:us.length=0:=by
   have h1:=hW.short (j:=0) rfl hni;omega
  obtain rfl:=List.eq_nil_of_length_eq_zero hlen;have hE:=P5.early hW (by omega);have mg:=zv (ht 31 (by decide)) (.slice A3 n3 c3) rfl;have hcl:=HC.out w6 hE;refine qi rfl 94 #[.tmp 31] #[59] rfl Tryz.func94 (by kernel_rfl) (by kernel_rfl) #[.slice A3 n3 c3] (by simp[mg];try first|done|rfl|exact⟨rfl,rfl⟩) (hcl) ?_;rintro e w7 ⟨A4,c4,rfl,hown,gh⟩;rw[rO.out] at hown⊢;exact⟨_,rfl,hK _ _ (hW.snoc hlen rfl ⟨hE.trans (gh.mono hE.size),A4,c4,rfl,(hown.mono (fun g hg _=>Nat.le_trans hE.size hg)).lower hE.size⟩)⟩
 ·(refine .r2 (.slice (some ⟨g0,o0,none⟩) n0 c0) (.int .i64 (k:Int)) fun _ _ _ nk pk _ _ _ _=>?_;simp only[execOp,nk,pk];go_simp;try rfl)
 ·refine Bc.wr rfl (fun Z us w6 ho ht hni hlim gb hW K hK=>?_)
  have hlen:us.length=1:=by
   have h1:=hW.short (j:=1) rfl hni;have h2:=hW.long (by decide) (j:=0) rfl (gb 9 (by decide));omega
  obtain⟨x,rfl,hB,hC⟩:=hW.DT hlen;obtain⟨f0,f4⟩:=vW.out _ hB;have q8:=zv (ht 34 (by decide)) (.pointer (some ⟨g0,o0+k* 4+3,none⟩)) rfl;have hdone:Cr [9,12] (P5 w g0 o0 k n3 xx) (_++[(12,undef)]) (w6.setCell ⟨g0,o0+k* 4+3,none⟩ x):=hW.snoc hlen rfl ⟨w6,hB,hC,rfl⟩;have na:=zh hdone;obtain⟨A9,c9,rfl,_⟩:=hC;have mD:=zv (ht 32 (by decide)) (.slice A9 n3 c9) rfl;clear hdone hW hni hlim gb ho ht hlen hB;rw[if_pos (by simp[Region.wanted])];unfold Oper.wp;generalize Z.eval=ρ at *;simp only[execOp,q8,mD];go_simp
  exact hK undef _ na.out
 intro us wz hmem hW
 have hlen:us.length=2:=by
  have h1:=hW.2.1;have h2:=hW.long (by decide) (j:=1) rfl (hmem 12 (by decide));simp at h1;omega
 obtain⟨x,y,rfl,W0,hB,hC,rfl⟩:=hW.DU hlen;obtain⟨A9,c9,rfl,ho9⟩:=hC;exact hend _ W0 A9 c9 hB ho9
theorem Xn {tg0:Bool}{W:World}{B N n c k g M m c':Nat}{S:Nat→Prop}{A A':Option Addr}{xs:List Entry}{x:Entry}{cur:Array Value}(h:Silo.Be 90 (jH N (ql true) (ql tg0) rfl) W B S A n c (zE k xs)) (hk:k<n) (hA:A=some ⟨g,0,none⟩) (hh:W.heap[g]?=some (.cells cur 90 (0,0)))
  (hx:xs.getD k default=x) (hok:zd x.digest∧Bo x.len) (hc:∀j v,[.string x.digest,.int .i64 x.len,.bool x.BC][j]?=some v→cur[k* 4+j]?=some v)
  (ho:Silo.Be 3 Bd W M (fun b=>M≤b) A' m c' x.list) (hS:∀b,M≤b→S b∧N≤b∧b≠g):
  Silo.Be 90 (jH N (ql true) (ql tg0) rfl) (W.setCell ⟨g,k* 4+3,none⟩ (.slice A' m c')) B S A n c (zE (k+1) xs):=by
 subst hA;have hl:xs.length=n:=by have:=h.len;rw[xe] at this;exact this
 have hs:Sl true 3 Bd W (fun b=>(S b∧some b≠some g)∧N≤b) A' m c' x.list:=(ho.sl (tg:=true)).mono (fun b hb _=>by
  have hb':M≤b:=hb.elim (fun h=>h) (fun h=>h);have:=hS b hb'
  exact⟨⟨this.1,fun e=>this.2.2 (by injection e)⟩,this.2.1⟩)
 have hy:(jH N (ql true) (ql tg0) rfl).R W (fun b=>S b∧some b≠qa (some ⟨g,0,none⟩)) [.string x.digest,.int .i64 x.len,.bool x.BC,.slice A' m c'] (x,true):=by
  show(ql true).R W (fun b=>(S b∧some b≠some g)∧N≤b) [.string x.digest,.int .i64 x.len,.bool x.BC,.slice A' m c'] x;exact⟨A',m,c',rfl,hok,hs⟩
 obtain⟨g',e,_,_,h2,_⟩:=h.CF hk hy;have e:g=g':=by injection e with e;injection e
 subst e;have hms:(zE k xs).set k (x,true)=zE (k+1) xs:=by rw[←hx];exact QH (by omega)
 rw[hms] at h2;have q0:cur[k* 4]?=_:=hc 0 _ rfl;have q1:cur[k* 4+1]?=_:=hc 1 _ rfl;have q2:cur[k* 4+1+1]?=_:=hc 2 _ rfl
 have e2:W.setCells g (k* (jH N (ql true) (ql tg0) rfl).sz) [.string x.digest,.int .i64 x.len,.bool x.BC,.slice A' m c']=W.setCell ⟨g,k* 4+3,none⟩ (.slice A' m c'):=by
  show W.setCells g (k* 4) [.string x.digest,.int .i64 x.len,.bool x.BC,.slice A' m c']=W.setCell ⟨g,k* 4+3,none⟩ (.slice A' m c');simp only[World.setCells];rw[zK hh q0,zK hh q1,zK hh q2]
 rw[e2] at h2;exact h2
def Ew (w:World) (g o k m:Nat) (xs:List Int):List Value→World→Prop
 |[],W=>Below w.heap.size w W
 |[a],W=>Below w.heap.size w W∧CO 3 Bd w.heap.size (fun b=>w.heap.size≤b) m xs a W
 |[a,_],W=>∃W0,Below w.heap.size w W0∧CO 3 Bd w.heap.size (fun b=>w.heap.size≤b) m xs a W0∧W=W0.setCell ⟨g,o+k* 4+3,none⟩ a
 |_,_=>False
theorem Ew.early {w:World}{g o k m:Nat}{xs:List Int}{us:List (Nat×Value)}{W:World}{mem:List Nat}(h:Cr mem (Ew w g o k m xs) us W) (hl:us.length≤1):Below w.heap.size w W:=by
 have hp:=h.2.2
 match us,hl,hp with
 |[],_,hp=>exact hp
 |[_],_,hp=>exact hp.1
 |_::_::_,hl,_=>simp at hl
noncomputable def DW:Code:=((Tryz.f62.body.bind (qm 10)).getD .skip)
theorem own10 {Q:Exit→Act→World→Prop}{σ:Act}{w:World}{bb g0 o0 k:Nat}{A3:Option Addr}{n0 c0 n3 c3:Nat}{xx:List Int}{u v:Value}{nx:Int}(hlt:k<n0) (HQ:Hid (w.heap[bb]?=some (.cells #[u,.slice (some ⟨g0,o0,none⟩) n0 c0,v,.int .i64 nx] 28 (0,0)))) (rO:Hid (xx.length=n3)) (vW:Hid (∀V,Below w.heap.size w V→V.cell? ⟨g0,o0+k* 4+3,none⟩=some (.slice A3 n3 c3)∧V.frozen? ⟨g0,o0+k* 4+3,none⟩=false)) (HC:Hid (∀V,Below w.heap.size w V→Calls Tryz.prog 95 #[.slice A3 n3 c3] V (zP 3 Bd V xx))) (hσ:σ.tmps.size=56) (s1:σ.eval (.tmp 1)=.pointer (some ⟨bb,0,none⟩)) (s4:σ.eval (.tmp 4)=.int .i64 (k:Int))
  (hend:∀(v:Nat→Value) (W0:World) (A':Option Addr) (c':Nat),Below w.heap.size w W0→Silo.Be 3 Bd W0 w.heap.size (fun b=>w.heap.size≤b) A' n3 c' xx→Q .normal (qc σ (([42,43,44,45,46,47,48,49,50,51,52,53]:List Nat).map fun d=>(d,v d))) (W0.setCell ⟨g0,o0+k* 4+3,none⟩ (.slice A' n3 c'))):
  DW.wp Tryz.prog Q σ w:=by
 conv=>arg 2;whnf
 refine rF 56 hσ [42,43,44,45,46,47,48,49,50,51,52,53] [9,12]
   [kq 42 bb 1,kp 43 (.slice (some ⟨g0,o0,none⟩) n0 c0),ki 44 k,kq 45 bb 1,kp 46 (.slice (some ⟨g0,o0,none⟩) n0 c0),ki 47 k,kq 48 (g0) (o0+k* 4),kq 49 (g0) (o0+k* 4+3),kp 50 (.slice A3 n3 c3),kq 52 (g0) (o0+k* 4),kq 53 (g0) (o0+k* 4+3)]
   [[],[12],[],[],[12],[],[],[],[12]] [[],[],[],[],[],[],[],[],[],[],[],[],[9]] (Cr [9,12] (Ew w g0 o0 k n3 xx)) (.init (Below.refl _ _).drew) ⟨.q s1,.l (a:=⟨bb,1,none⟩) fun us w6 hW hl=>(by have hE:=Ew.early hW (hW.short (j:=1) rfl (hl 12 (by decide)));have r7:=zb hE HQ.out;have y0:=zo 1 r7;assumption),.q s4,.q s1,.l (a:=⟨bb,1,none⟩) fun us w6 hW hl=>(by have hE:=Ew.early hW (hW.short (j:=1) rfl (hl 12 (by decide)));have r7:=zb hE HQ.out;have y0:=zo 1 r7;assumption),.q s4,?_,.a,.l (a:=⟨g0,o0+k* 4+3,none⟩) fun us w6 hW hl=>(by have hE:=Ew.early hW (hW.short (j:=1) rfl (hl 12 (by decide)));have y3:=(vW.out _ hE).1;assumption),?_,?_,.a,?_,trivial⟩ ?_
 ·(refine .r2 (.slice (some ⟨g0,o0,none⟩) n0 c0) (.int .i64 (k:Int)) fun _ _ _ ra e47 _ _ _ _=>?_;simp only[execOp,ra,e47];go_simp;try rfl)
 ·refine Bc.wr rfl (fun Z us w6 ho ht hni hlim gb hW K hK=>?_)
  have hlen:us.length=0:=by
   have h1:=hW.short (j:=0) rfl hni;omega
  obtain rfl:=List.eq_nil_of_length_eq_zero hlen;have hE:=Ew.early hW (by omega);have e50:=zv (ht 50 (by decide)) (.slice A3 n3 c3) rfl;have hcl:=HC.out w6 hE;refine qi rfl 95 #[.tmp 50] #[36] rfl Tryz.func95 (by kernel_rfl) (by kernel_rfl) #[.slice A3 n3 c3] (by simp[e50];try first|done|rfl|exact⟨rfl,rfl⟩) (hcl) ?_;rintro e w7 ⟨A4,c4,rfl,hown,gh⟩;rw[rO.out] at hown⊢;exact⟨_,rfl,hK _ _ (hW.snoc hlen rfl ⟨hE.trans (gh.mono hE.size),A4,c4,rfl,(hown.mono (fun g hg _=>Nat.le_trans hE.size hg)).lower hE.size⟩)⟩
 ·(refine .r2 (.slice (some ⟨g0,o0,none⟩) n0 c0) (.int .i64 (k:Int)) fun _ _ _ e43 e44 _ _ _ _=>?_;simp only[execOp,e43,e44];go_simp;try rfl)
 ·refine Bc.wr rfl (fun Z us w6 ho ht hni hlim gb hW K hK=>?_)
  have hlen:us.length=1:=by
   have h1:=hW.short (j:=1) rfl hni;have h2:=hW.long (by decide) (j:=0) rfl (gb 9 (by decide));omega
  obtain⟨x,rfl,hB,hC⟩:=hW.DT hlen;obtain⟨f0,f4⟩:=vW.out _ hB;have uE:=zv (ht 53 (by decide)) (.pointer (some ⟨g0,o0+k* 4+3,none⟩)) rfl;have hdone:Cr [9,12] (Ew w g0 o0 k n3 xx) (_++[(12,undef)]) (w6.setCell ⟨g0,o0+k* 4+3,none⟩ x):=hW.snoc hlen rfl ⟨w6,hB,hC,rfl⟩;have na:=zh hdone;obtain⟨A9,c9,rfl,_⟩:=hC;have e51:=zv (ht 51 (by decide)) (.slice A9 n3 c9) rfl;clear hdone hW hni hlim gb ho ht hlen hB;rw[if_pos (by simp[Region.wanted])];unfold Oper.wp;generalize Z.eval=ρ at *;simp only[execOp,uE,e51];go_simp
  exact hK undef _ na.out
 intro us wz hmem hW
 have hlen:us.length=2:=by
  have h1:=hW.2.1;have h2:=hW.long (by decide) (j:=1) rfl (hmem 12 (by decide));simp at h1;omega
 obtain⟨x,y,rfl,W0,hB,hC,rfl⟩:=hW.DU hlen;obtain⟨A9,c9,rfl,ho9⟩:=hC;exact hend _ W0 A9 c9 hB ho9
end Go.Proofs.YtipecejghioicaaGreat
