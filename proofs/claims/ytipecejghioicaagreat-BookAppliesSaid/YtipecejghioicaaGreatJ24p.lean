/- Silolaw16.BookApplies. -/
import Derived.Test.YtipecejghioicaaGreatJ22p
import Derived.Test.YtipecejghioicaaGreatJ23p
import Derived.Test.YtipecejghioicaaGreatDatap
namespace Go.Proofs.YtipecejghioicaaGreat
open Go.RowKit Go.Silo
theorem BookApplies_c {tg:Bool}{S:Nat→Prop}{w:World}{A0 A1 A2 A3 A4:Option Addr}{n0 c0 n1 c1 n2 c2 n3 c3 n4 c4:Nat}{q:xo}(hB:jd q) (hsi:Bn q.s.K∧Bn q.s.M∧Bn q.s.size) (hb:Bq w S tg tg tg tg A0 n0 c0 A1 n1 c1 A2 n2 c2 q.b) (hl:Sl tg 61 (zX tg) w S A3 n3 c3 q.l) (hv:Sl tg 4 Cf w S A4 n4 c4 q.live):
  Calls Tryz.prog 5 #[.agg #[.int .i64 q.s.K,.int .i64 q.s.M,.int .i64 q.s.size,.slice A0 n0 c0,.slice A1 n1 c1,.slice A2 n2 c2,.int .i64 q.b.next,.slice A3 n3 c3,.slice A4 n4 c4,.int .i64 q.n]] w (Bf (.bool true) w):=by
 cases h:qt q.s with
 |false=>exact Qy hB hsi hb hl hv h
 |true=>exact kR hB hsi hb hl hv h
end Go.Proofs.YtipecejghioicaaGreat
