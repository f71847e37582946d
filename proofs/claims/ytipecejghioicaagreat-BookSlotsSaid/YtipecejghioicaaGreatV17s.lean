/- The free slots and the unnamed stripes of any book are the page's: silolaw16.BookSlots answers true at every input, and leaves the input as it was. Conditions: none beyond the row's own. -/
import Derived.Test.YtipecejghioicaaGreatRows
import Derived.Test.YtipecejghioicaaGreatChecked
import Derived.Test.YtipecejghioicaaGreatC9s
import Derived.Test.YtipecejghioicaaGreatL5s
import Derived.Test.YtipecejghioicaaGreatP0s
set_option maxRecDepth 100000
namespace Go.Proofs.YtipecejghioicaaGreat
open Go.ChangeShapes Go.WideShapes Go.ChangeAt Go.RowKit Go.Silo
theorem Tryz.own:ownKnob Tryz.prog.godebug=none:=by kernel_rfl
theorem Tryz.laidOut:laidOutB Tryz.prog=true:=by kernel_rfl
theorem bookSlots_lifted (os:Os) (started:os.Started) (H:Type) (enc:TypeId×Value→H):
  ReturnsInHanded {} Tryz.checked os 4 .any (Rows.bookSlotsSpec.pre6 enc Tryz.prog Tryz.f4 Rows.bookSlotsRow.domain false) (Rows.bookSlotsSpec.post enc Tryz.prog Tryz.f4 false true false false):=by
 refine returnsInHanded_of_change_sized (C:=Tryz.checked) Tryz.own started (by kernel_rfl) Tryz.func4
  (ChangeSpec.witness6 (enc:=enc) (C:=Tryz.checked) false ⟨#[],#[.agg #[.int .i64 0,.int .i64 0,.int .i64 0,.slice none 0 0,.slice none 0 0,.slice none 0 0,.int .i64 0,.slice none 0 0,.slice none 0 0,.int .i64 0]],[]⟩ 8 (by kernel_rfl) (by kernel_rfl) (by kernel_rfl) (by kernel_rfl)) ?_
 intro W base args ds gs before hval0 hW hcnd hsz0 _;have hval:∀(j:Nat) t v,Tryz.f4.params[j]?=some t→args[j]?=some v→Value.okWide Tryz.prog W .any base t v:=hval0;have hW':=hW;obtain⟨p,q,hA0,hV,rfl,hfz,hnd⟩:=hW;have hA:DataW.TrodAll enc Tryz.prog W 0 (fun _=>true) true Tryz.f4.params.toList args.toList ds p:=hA0;have hsz:(DataW.weightsEach Tryz.prog (Tryz.f4.params.toList++[]) (ds++gs)).all (·≤reachBytes)=true:=hsz0;rw[Tryz.params4] at hA hval hsz;obtain⟨v,d,rfl,rfl,h⟩:=trodAll_one hA;obtain⟨rfl,rfl⟩:=trodVars_none hV
 have hw:∀k∈d.weights Tryz.prog 32,k≤reachBytes:=fun k hk=>by
  have h1:=List.all_eq_true.1 hsz k (DataW.weights_mem_each (j:=0) (t:=32) (d:=d) rfl rfl k hk);simpa using h1
 rw[List.append_nil] at hfz hW';obtain⟨vs,q,rfl,hR,hB⟩:=open_script16 (hval 0 _ _ rfl rfl) h hfz hw;obtain⟨A0,n0,c0,A1,n1,c1,A2,n2,c2,A3,n3,c3,A4,n4,c4,rfl,hsi,⟨hnx,hnn⟩,⟨s0,s1,s2⟩,s3,s4⟩:=hR;have hlt:∀x∈p,x.block<W.heap.size:=fun x hx=>hW'.lt x hx;clear hA0 hval0 hA hval hV hcnd hnd hsz0 hsz hw;refine(BookSlots_c hB hsi ⟨s0,s1,s2,hnx⟩ s3 s4 hnn).mono fun e W' ⟨he,hb⟩=>?_;subst he;refine⟨_,rfl,law_post (pa:=p) (pv:=[]) hW' (trodAll_mk1 (shut_bool Tryz.underlying4 _)) ?_ rfl hb⟩;have:=trodAll_mk1 (hb.trod Tryz.laidOut (by kernel_rfl) (by decide) h hlt);exact this
theorem bookSlots_holds:Rows.BookSlotsSaid:=
 OpenClaim.holds_of_wide 4 Tryz.f4 rfl rfl rfl rfl rfl rfl rfl ⟨rfl,rfl,rfl,rfl,rfl⟩ rfl rfl rfl rfl rfl (by kernel_rfl) Tryz.func4 (by kernel_rfl)
  (of_decide_eq_true (by kernel_rfl)) (by unfold Func.isWrapper;first|(rw[if_pos (by decide+kernel)];kernel_rfl)|(rw[if_neg (by decide+kernel)];exact⟨rfl,rfl⟩))
  (fun os started H enc _=>bookSlots_lifted os started H enc)
#print axioms bookSlots_holds
end Go.Proofs.YtipecejghioicaaGreat
