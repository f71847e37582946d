/- Record.May: may a record be? -/
import Derived.Test.YtipecejghioicaaGreatQ2s
import Derived.Test.YtipecejghioicaaGreatE1s
import Derived.Test.YtipecejghioicaaGreatS1s
import Derived.Laws.RangeString
import Derived.Laws.RangeAny
import Derived.Deep.CutBlock
import Derived.Deep.Cut
import Derived.Deep.Light
import Derived.Test.YtipecejghioicaaGreatP0s
set_option maxHeartbeats 4000000
namespace Go.Proofs.YtipecejghioicaaGreat
open Go.RowKit Go.Silo
def zY (k:Int):ByteArray:=if k=1 then ⟨#[105,115]⟩ else if k=2 then ⟨#[105,108,115]⟩ else if k=3 then ⟨#[105]⟩ else if k=4∨k=5 then ⟨#[105,100,108]⟩ else if k=6 then ⟨#[100]⟩ else if k=7 then ⟨#[110,100]⟩ else if k=8 then ⟨#[110]⟩ else ⟨#[]⟩
def qh (k c:Int):Bool:=(zY k).data.toList.any (fun b=>decide ((b.toNat:Int)=c))
theorem Qu (k:Int):∀(j:Nat) (h:j<(zY k).size),((zY k)[j]'h).toNat<128:=fun j h=>by
 have hall:∀b∈(zY k).data.toList,b.toNat<128:=by
  unfold zY
  (repeat' split)<;>decide
 exact hall _ (Array.mem_toList_iff.2 (Array.getElem_mem (xs:=(zY k).data) (i:=j) h))
theorem DY {s:ByteArray}{p:UInt8→Bool}:s.data.toList.any p=true↔∃(j:Nat) (h:j<s.size),p (s[j]'h)=true:=by
 rw[List.any_eq_true];constructor
 ·rintro⟨x,hx,hp⟩;obtain⟨j,hj,e⟩:=List.getElem_of_mem hx;rw[←e] at hp;have h2:p (s.data[j]'(by simpa using hj))=true:=by simpa using hp
  exact⟨j,by simpa using hj,h2⟩
 rintro⟨j,hj,hp⟩;exact⟨s[j],Array.mem_toList_iff.2 (Array.getElem_mem (xs:=s.data) (i:=j) hj),hp⟩
theorem JR {w:World}{k:Int}:Calls Tryz.prog 115 #[.int .i64 k] w fun e w'=>e=.returned (.string (zY k))∧w'=w:=by
 obtain⟨R,hR⟩:∃R,R=zY k:=⟨_,rfl⟩;rw[←hR];unfold zY at hR;have HR:=zh hR;clear hR
 go_enter Tryz.func115,Tryz.ntmps115
 go_wp2
 all_goals
  go_ret
  exact⟨by rw[HR.out];simp_all,rfl⟩
theorem qn {w:World}{k c:Int}:Calls Tryz.prog 87 #[.int .i64 k,.int .i32 c] w (Bf (.bool (qh k c)) w):=by
 have HA:=zh (Qu k);obtain⟨R,hR⟩:∃R,R=qh k c:=⟨_,rfl⟩;rw[←hR];unfold qh at hR;have HR:=zh hR;clear hR;have HF:=zh (@JR w k);generalize zY k=s at *
 go_enter Tryz.func87,Tryz.ntmps87
 go_wp2_with fail
 refine HF.out.mono ?_;rintro e w1 ⟨rfl,rfl⟩;go_wp2_with fail
 go_loopw [6] (fun _ wr=>∃pos:Nat,pos≤s.size∧wr=w1.iter s pos∧Hid (∀(j:Nat) (h:j<s.size),j<pos→((s[j]'h).toNat:Int)≠c)) (fun _ wr=>s.size - World.iterPos wr w1.heap.size)
 case atStart=>exact⟨0,Nat.zero_le _,rfl,zh (fun j h hj=>by omega)⟩
 case round=>
  obtain⟨pos,hp,rfl,HN⟩:=hrel;by_cases hlt:pos<s.size
  ·have hnx:=fun ty=>run_next_ascii (P:=Tryz.prog) w1 s pos ty hlt (HA.out pos hlt);by_cases hc:((s[pos]'hlt).toNat:Int)=c
   ·have HE:Hid (R=true):=zh (by
     rw[HR.out]
     exact DY.2 ⟨pos,hlt,decide_eq_true hc⟩)
    go_wp2
    go_ret
    exact⟨by rw[HE.out];rfl,(Below.refl _ _).alloc (Nat.le_refl _) _⟩
   have uO:Hid (∀(j:Nat) (h:j<s.size),j<pos+1→((s[j]'h).toNat:Int)≠c):=zh (fun j h hj=>by
    rcases Nat.lt_or_ge j pos with h'|h'
    ·exact HN.out j h h'
    obtain rfl:j=pos:=by omega
    exact hc)
   go_wp2
   exact⟨⟨pos+1,by omega,rfl,uO⟩,by rw[World.iterPos_iter,World.iterPos_iter];omega⟩
  have hnx:=fun ty=>run_next_end (P:=Tryz.prog) w1 s pos ty hlt
  have HE:Hid (R=false):=zh (by
   rw[HR.out]
   cases hq:s.data.toList.any (fun b=>decide ((b.toNat:Int)=c)) with
   |false=>rfl
   |true=>
    obtain⟨j,hj,hp2⟩:=DY.1 hq
    exact absurd (of_decide_eq_true hp2) (HN.out j hj (by omega)))
  go_wp2
  go_ret
  exact⟨by rw[HE.out];rfl,(Below.refl _ _).alloc (Nat.le_refl _) _⟩
theorem BM {w:World}{n:Int}:Calls Tryz.prog 88 #[.int .i64 n] w (Bf (.bool (qM n)) w):=by
 have hr:qM n=decide (0≤n∧n≤1073741824):=rfl;generalize qM n=r at *;have HR:=zh hr;clear hr
 go_enter Tryz.func88,Tryz.ntmps88
 go_wp2
 all_goals
  go_ret
  exact⟨by rw[HR.out];congr 2;simp_all;try omega,bz⟩
theorem Kg {w:World}{n:Int}:Calls Tryz.prog 117 #[.int .i64 n] w (Bf (.bool (!qM n)) w):=by
 go_enter Tryz.func117,Tryz.ntmps117
 go_wp2_with fail
 refine BM.mono ?_;rintro e w1 ⟨rfl,hb1⟩;go_wp2
 go_ret
 exact⟨rfl,bz⟩
def Xp (p:Slot):Bool:=decide (p.disk< -1∨12≤p.disk∨p.pos<0∨64≤p.pos)
theorem XX {w:World}{p:Slot}:Calls Tryz.prog 118 #[.agg #[.int .i64 p.disk,.int .i64 p.pos]] w (Bf (.bool (Xp p)) w):=by
 have hr:Xp p=decide (p.disk< -1∨12≤p.disk∨p.pos<0∨64≤p.pos):=rfl;generalize Xp p=r at *;have HR:=zh hr;clear hr;by_cases h0:p.disk< -1
 ·go_enter Tryz.func118,Tryz.ntmps118
  go_wp2
  all_goals
   go_ret
   exact⟨by rw[HR.out,decide_eq_true (by omega:p.disk< -1∨12≤p.disk∨p.pos<0∨64≤p.pos)];first|rfl|exact congrArg Value.bool (decide_eq_true (by omega))|exact congrArg Value.bool (decide_eq_false (by omega)),bz⟩
 skip
 by_cases h1:12≤p.disk
 ·go_enter Tryz.func118,Tryz.ntmps118
  go_wp2
  all_goals
   go_ret
   exact⟨by rw[HR.out,decide_eq_true (by omega:p.disk< -1∨12≤p.disk∨p.pos<0∨64≤p.pos)];first|rfl|exact congrArg Value.bool (decide_eq_true (by omega))|exact congrArg Value.bool (decide_eq_false (by omega)),bz⟩
 skip
 by_cases h2:p.pos<0
 ·go_enter Tryz.func118,Tryz.ntmps118
  go_wp2
  all_goals
   go_ret
   exact⟨by rw[HR.out,decide_eq_true (by omega:p.disk< -1∨12≤p.disk∨p.pos<0∨64≤p.pos)];first|rfl|exact congrArg Value.bool (decide_eq_true (by omega))|exact congrArg Value.bool (decide_eq_false (by omega)),bz⟩
 skip
 by_cases h3:64≤p.pos
 ·go_enter Tryz.func118,Tryz.ntmps118
  go_wp2
  all_goals
   go_ret
   exact⟨by rw[HR.out,decide_eq_true (by omega:p.disk< -1∨12≤p.disk∨p.pos<0∨64≤p.pos)];first|rfl|exact congrArg Value.bool (decide_eq_true (by omega))|exact congrArg Value.bool (decide_eq_false (by omega)),bz⟩
 skip
 go_enter Tryz.func118,Tryz.ntmps118
 go_wp2
 all_goals
  go_ret
  exact⟨by rw[HR.out,decide_eq_false (by omega:¬(p.disk< -1∨12≤p.disk∨p.pos<0∨64≤p.pos))];first|rfl|exact congrArg Value.bool (decide_eq_true (by omega))|exact congrArg Value.bool (decide_eq_false (by omega)),bz⟩
theorem Zd {tg:Bool}{T:TypeId}{S:Nat→Prop}{w:World}{A:Option Addr}{n c:Nat}{xs:List Slot}(h:Sl tg T qz w S A n c xs) (p:Slot→Bool)
  (hp:∀(W:World) (x:Slot),Below w.heap.size w W→Calls Tryz.prog 118 #[.agg #[.int .i64 x.disk,.int .i64 x.pos]] W (Bf (.bool (p x)) W)):
  Calls Tryz.prog 137 #[.slice A n c,.func (.func 118) #[] #[]] w (Bf (.int .i64 (idxOf p xs)) w):=by
 have HL:=zh h.len;have HP:=zh hp;clear hp;have hcap:n≤9223372036854775807:=Nat.le_trans h.le h.cap
 go_enter Tryz.func137,Tryz.ntmps137
 go_wp2
 go_loopw [5,8] (fun _ i wr=>∃k:Nat,k≤n∧i=.int .i64 k∧Below w.heap.size w wr∧Hid (∀j,j<k→p (xs.getD j default)=false)) (fun _ i _=>n - (intOf i).toNat)
 case atStart=>exact⟨0,Nat.zero_le _,rfl,Below.refl _ _,zh (fun j hj=>by omega)⟩
 case round=>
  obtain⟨k,hk,rfl,hB,he⟩:=hrel;by_cases hlt:k<n
  ·obtain⟨b,off,rfl,hS,hbl,g1,g2,hc0,hc1,_⟩:=(h.all hB).BX hlt;have hcall:=HP.out wr (xs.getD k default) hB;generalize hx:xs.getD k default=x at *;have HX:=zh hx;clear hx;have HB:=zh hB;clear hB;have HC:=zh hcall;clear hcall;go_wp2_with fail
   refine HC.out.mono ?_;rintro e w2 ⟨rfl,hb2⟩;have gu:=zh hb2;clear hb2
   cases hpx:p x with
   |true=>
    have HF:Hid (idxOf p xs=(k:Int)):=zh (zO (d:=default) (by have:=HL.out;omega) (by rw[HX.out];exact hpx) he.out);clear hpx;go_wp2
    go_ret
    exact⟨by rw[HF.out];rfl,via HB.out gu.out (Nat.le_refl _)⟩
   |false=>
    have HF:Hid (∀j,j<k+1→p (xs.getD j default)=false):=zh (fun j hj=>by
     by_cases hjk:j=k
     ·subst hjk;rw[HX.out];exact hpx
     exact he.out j (by omega))
    clear hpx;go_wp2
    go_roundw
    case rel=>exact⟨k+1,by omega,by go_num,via HB.out gu.out (Nat.le_refl _),HF⟩
    case measure=>simp[intOf];omega
  have HF:Hid (idxOf p xs=-1):=zh (xM (d:=default) fun j hj=>he.out j (by have:=HL.out;omega));go_wp2
  go_ret
  exact⟨by rw[HF.out];rfl,hB⟩
theorem ky {tg:Bool}{T:TypeId}{S:Nat→Prop}{w:World}{A:Option Addr}{n c:Nat}{xs:List Slot}(h:Sl tg T qz w S A n c xs) (p:Slot→Bool)
  (hp:∀(W:World) (x:Slot),Below w.heap.size w W→Calls Tryz.prog 118 #[.agg #[.int .i64 x.disk,.int .i64 x.pos]] W (Bf (.bool (p x)) W)):
  Calls Tryz.prog 119 #[.slice A n c,.func (.func 118) #[] #[]] w (Bf (.bool (xs.any p)) w):=by
 have HP:=zh hp;clear hp;have HQ:=zh (jf (xs:=xs) (p:=p))
 go_enter Tryz.func119,Tryz.ntmps119
 go_wp2_with fail
 refine(Zd h p HP.out).mono ?_;rintro e w2 ⟨rfl,hb2⟩;generalize hi:idxOf p xs=i at *;go_wp2
 all_goals
  go_ret
  refine⟨?_,hb2⟩;rw[HQ.out]
  first|rfl|(congr 2;simp_all;done)|(congr 2;simp_all;omega)
theorem Ze {tg:Bool}{T:TypeId}{S:Nat→Prop}{w:World}{A:Option Addr}{n c:Nat}{xs:List Int}(h:Sl tg T Bd w S A n c xs) (p:Int→Bool)
  (hp:∀(W:World) (x:Int),Below w.heap.size w W→Calls Tryz.prog 117 #[.int .i64 x] W (Bf (.bool (p x)) W)):
  Calls Tryz.prog 136 #[.slice A n c,.func (.func 117) #[] #[]] w (Bf (.int .i64 (idxOf p xs)) w):=by
 have HL:=zh h.len;have HP:=zh hp;clear hp;have hcap:n≤9223372036854775807:=Nat.le_trans h.le h.cap
 go_enter Tryz.func136,Tryz.ntmps136
 go_wp2
 go_loopw [5,8] (fun _ i wr=>∃k:Nat,k≤n∧i=.int .i64 k∧Below w.heap.size w wr∧Hid (∀j,j<k→p (xs.getD j 0)=false)) (fun _ i _=>n - (intOf i).toNat)
 case atStart=>exact⟨0,Nat.zero_le _,rfl,Below.refl _ _,zh (fun j hj=>by omega)⟩
 case round=>
  obtain⟨k,hk,rfl,hB,he⟩:=hrel;by_cases hlt:k<n
  ·obtain⟨b,off,rfl,hS,hbl,g1,hc0,_⟩:=(h.all hB).BD hlt;have hcall:=HP.out wr (xs.getD k 0) hB;generalize hx:xs.getD k 0=x at *;have HX:=zh hx;clear hx;have HB:=zh hB;clear hB;have HC:=zh hcall;clear hcall;go_wp2_with fail
   refine HC.out.mono ?_;rintro e w2 ⟨rfl,hb2⟩;have gu:=zh hb2;clear hb2
   cases hpx:p x with
   |true=>
    have HF:Hid (idxOf p xs=(k:Int)):=zh (zO (d:=0) (by have:=HL.out;omega) (by rw[HX.out];exact hpx) he.out);clear hpx;go_wp2
    go_ret
    exact⟨by rw[HF.out];rfl,via HB.out gu.out (Nat.le_refl _)⟩
   |false=>
    have HF:Hid (∀j,j<k+1→p (xs.getD j 0)=false):=zh (fun j hj=>by
     by_cases hjk:j=k
     ·subst hjk;rw[HX.out];exact hpx
     exact he.out j (by omega))
    clear hpx;go_wp2
    go_roundw
    case rel=>exact⟨k+1,by omega,by go_num,via HB.out gu.out (Nat.le_refl _),HF⟩
    case measure=>simp[intOf];omega
  have HF:Hid (idxOf p xs=-1):=zh (xM (d:=0) fun j hj=>he.out j (by have:=HL.out;omega));go_wp2
  go_ret
  exact⟨by rw[HF.out];rfl,hB⟩
theorem kz {tg:Bool}{T:TypeId}{S:Nat→Prop}{w:World}{A:Option Addr}{n c:Nat}{xs:List Int}(h:Sl tg T Bd w S A n c xs) (p:Int→Bool)
  (hp:∀(W:World) (x:Int),Below w.heap.size w W→Calls Tryz.prog 117 #[.int .i64 x] W (Bf (.bool (p x)) W)):
  Calls Tryz.prog 116 #[.slice A n c,.func (.func 117) #[] #[]] w (Bf (.bool (xs.any p)) w):=by
 have HP:=zh hp;clear hp;have HQ:=zh (jf (xs:=xs) (p:=p))
 go_enter Tryz.func116,Tryz.ntmps116
 go_wp2_with fail
 refine(Ze h p HP.out).mono ?_;rintro e w2 ⟨rfl,hb2⟩;generalize hi:idxOf p xs=i at *;go_wp2
 all_goals
  go_ret
  refine⟨?_,hb2⟩;rw[HQ.out]
  first|rfl|(congr 2;simp_all;done)|(congr 2;simp_all;omega)
def zU (l:List Slot):Bool:=decide (1≤l.length)&&(decide (l.length≤14)&&!(l.any Xp))
def xc (kd:Int) (l:List Int):Bool:=!(decide (kd=2)&&decide (l.length≠2))&&(decide (l.length≤2000)&&!(l.any (fun n=>!qM n)))
theorem xa {tg:Bool}{T:TypeId}{S:Nat→Prop}{w:World}{A:Option Addr}{n c:Nat}{xs:List Slot}(h:Sl tg T qz w S A n c xs):
  Calls Tryz.prog 90 #[.slice A n c] w (Bf (.bool (zU xs)) w):=by
 have HL:=zh h.len;have hcap:n≤9223372036854775807:=Nat.le_trans h.le h.cap;have HC:=zh (ky h Xp (fun W x _=>XX));obtain⟨R,hR⟩:∃R,R=zU xs:=⟨_,rfl⟩;rw[←hR];have HR:Hid (R=(decide (1≤n)&&(decide (n≤14)&&!(xs.any Xp)))):=zh (by rw[hR];unfold zU;rw[HL.out]);clear hR;generalize xs.any Xp=q at *
 go_enter Tryz.func90,Tryz.ntmps90
 by_cases h1:1≤n
 ·by_cases h2:n≤14
  ·go_wp2_with fail
   refine HC.out.mono ?_;rintro e w1 ⟨rfl,hb1⟩;go_wp2
   go_ret
   exact⟨by rw[HR.out,decide_eq_true h1,decide_eq_true h2];simp,hb1⟩
  go_wp2
  go_ret
  exact⟨by rw[HR.out,decide_eq_false h2];simp,Below.refl _ _⟩
 obtain rfl:n=0:=by omega
 go_wp2
 go_ret
 exact⟨by rw[HR.out];rfl,Below.refl _ _⟩
theorem jc {tg:Bool}{T:TypeId}{S:Nat→Prop}{w:World}{A B:Option Addr}{n c n5 c5:Nat}{xs:List Int}{kd id:Int}{nm dg:ByteArray}(h:Sl tg T Bd w S A n c xs):
  Calls Tryz.prog 89 #[.agg #[.int .i64 kd,.int .i64 id,.string nm,.string dg,.slice A n c,.slice B n5 c5]] w (Bf (.bool (xc kd xs)) w):=by
 have HL:=zh h.len;have hcap:n≤9223372036854775807:=Nat.le_trans h.le h.cap;have HC:=zh (fun W (hW:Below w.heap.size w W)=>kz (h.all hW) (fun n=>!qM n) (fun W x _=>Kg));obtain⟨R,hR⟩:∃R,R=xc kd xs:=⟨_,rfl⟩;rw[←hR];have HR:Hid (R=(!(decide (kd=2)&&decide (n≠2))&&(decide (n≤2000)&&!(xs.any (fun n=>!qM n))))):=zh (by rw[hR];unfold xc;rw[HL.out]);clear hR;generalize xs.any (fun n=>!qM n)=q at *
 go_enter Tryz.func89,Tryz.ntmps89
 by_cases hb:kd=2∧n≠2
 ·obtain⟨hb1,hb2⟩:=hb;subst hb1;have hb3:((n:Int) !=2)=true:=by simp;omega
  go_wp2
  go_ret
  exact⟨by rw[HR.out];simp[hb2],bz⟩
 by_cases hk:kd=2
 ·have rV:n=2:=by
   rcases Nat.decEq n 2 with h2|h2
   ·exact absurd ⟨hk,h2⟩ hb
   exact h2
  subst hk;subst rV;clear hb;go_wp2_with fail
  refine(HC.out _ bz).mono ?_;rintro e w1 ⟨rfl,hb1⟩;go_wp2
  go_ret
  exact⟨by rw[HR.out];simp,bz⟩
 have hk2:(kd==2)=false:=by simpa using hk
 have HK:=zh hk;clear hk hb;by_cases h3:n≤2000
 ·go_wp2_with fail
  refine(HC.out _ bz).mono ?_;rintro e w1 ⟨rfl,hb1⟩;go_wp2
  go_ret
  exact⟨by rw[HR.out,decide_eq_false HK.out,decide_eq_true h3];simp,bz⟩
 go_wp2
 go_ret
 exact⟨by rw[HR.out,decide_eq_false HK.out,decide_eq_false h3];simp,bz⟩
end Go.Proofs.YtipecejghioicaaGreat
