import Derived.Test.YtnhbioehiiifdaaGreatD21
set_option maxRecDepth 100000
set_option maxHeartbeats 16000000
set_option linter.all false
namespace Go.Proofs.YtnhbioehiiifdaaGreat
open Go.ChangeShapes Go.WideShapes Go.ChangeAt Go.RowKit
section
variable {R:List As} {w:World} {p:Nat} {L:List Wm} {m:Wm}
theorem netTake_some (h:Sp (CI p (m::L)::R) w):Calls Tryz.prog 77 #[pt p,.int .i64 0] w fun e I=>∃y:Tm,e=.returned (.tuple #[.agg (Cm y).toArray,.bool true])∧y.m=wmMs m∧Sp (Gs y::CI p L::R) I:=by
 have q:Sp (AM w.heap.size QH 175::CI p (m::L)::R) (w.alloc (.cells QH.toArray 175)):=h.alloc QH 175;have n:=h_ (Rq (q.pull 1) 0 m rfl);unfold pt;clear h q;go_enter Tryz.func77,Tryz.ntmps77;go_wp2_with fail;refine n.out.mono ?_;rintro e i ⟨y,rfl,C,c⟩;clear n;obtain⟨r,B⟩:∃r,r=w.heap.size:=⟨_,rfl⟩;rw[←B]at c⊢;clear B;obtain⟨F,A⟩:=c.tm;have j:=h_ A.one;have s:Sp (AM i.heap.size QH 175::Gs y::CI p (m::L)::AM r QH 175::R) _:=c.alloc QH 175;have a:=h_2 C s;clear c s C A;obtain⟨b,f⟩:∃b,b=i.heap.size:=⟨_,rfl⟩
 go_wp2_with (refine AS rfl _ _ _ rfl i.heap.size QH (Cm y) 175 rfl rfl a.out.2.blk rfl C4 j.out ?_;intro M t D;have g:=a.out.2.set t D;rw[←f]at g;have o:=h_2 a.out.1 g;clear g t D a)
 rw[←f];clear f;have z:=Rr (o.out.2.pull 2) 0 (by simp);have l:=h_ z;clear z;refine l.out.mono ?_;rintro e J ⟨rfl,u⟩;have d:Sp (AM r QH 175::CI p L::AM b (Cm y) 175::Gs y::R) J:=u.pull 3;have k:=h_ d;have E:=h_ ((d.pull 2).blk);clear u d l
 go_wp2_with (first|(refine BA 175 _ rfl b rfl 175 (Cm y).toArray (0,0) _ E.out AV rfl C4 (by rfl) ?_)|(refine AS rfl _ _ _ rfl r QH (Cm y) 175 rfl rfl k.out.blk rfl C4 j.out ?_;intro K x H))
 have G:Sp (AM r (Cm y) 175::CI p L::AM b (Cm y) 175::Gs y::R) K:=k.out.set x H;refine Be (v:= .tuple #[.agg (Cm y).toArray,.bool true]) ?_ rfl ⟨y,rfl,o.out.1,((G.drop.pull 1).drop).pull 1⟩;exact Co Tryz.results77 _ _ r 175 _ (0,0) _ rfl x AV rfl C4 _ rfl
theorem zMsg_one:∀v∈QH,v.oneCell'=true:=by intro v a;simp only[QH,Ac,Am,AG]at a;rcases a with rfl|rfl|rfl|rfl|rfl|rfl|rfl|rfl|rfl|rfl|rfl|rfl|rfl|rfl|rfl|rfl|rfl|rfl|rfl|rfl|rfl<;>rfl
theorem zMsg_build (W:World):(Instr.build 175 #[]).run Tryz.prog W=.ok (.agg QH.toArray) W:=DD W _ _ _ (by rfl)
theorem netLook_none (h:Sp (CI p []::R) w):Calls Tryz.prog 92 #[pt p,.int .i64 0] w fun e g=>e=.returned (.tuple #[.agg QH.toArray,.bool false])∧Sp (CI p []::R) g:=by
 have a:Sp (AM w.heap.size QH 175::CI p []::R) (w.alloc (.cells QH.toArray 175)):=h.alloc QH 175;have c:=h_ (TX (a.pull 1));have b:=h_ a;unfold pt;clear h a;have i:=zMsg_build;go_enter Tryz.func92,Tryz.ntmps92;go_wp2_with fail;refine c.out.mono ?_;rintro e j ⟨rfl,rfl⟩;clear c
 go_wp2_with (refine AS rfl _ _ _ rfl w.heap.size QH QH 175 rfl rfl b.out.blk rfl C4 zMsg_one ?_;intro k d f)
 refine Be (v:= .tuple #[.agg QH.toArray,.bool false]) ?_ rfl ⟨rfl,(b.out.set d f).drop⟩;exact Co Tryz.results92 _ _ w.heap.size 175 _ (0,0) _ rfl d AV rfl C4 _ rfl
theorem netDrop_none (h:Sp (CI p []::R) w):Calls Tryz.prog 93 #[pt p,.int .i64 0] w fun e b=>e=.returned (.bool false)∧b=w:=by have a:=h_ (TX h);unfold pt;clear h;go_enter Tryz.func93,Tryz.ntmps93;go_wp2_with fail;refine a.out.mono ?_;rintro e c ⟨rfl,rfl⟩;clear a;go_wp2;go_ret;exact⟨rfl,rfl⟩
theorem netTake_none (h:Sp (CI p []::R) w):Calls Tryz.prog 77 #[pt p,.int .i64 0] w fun e B=>e=.returned (.tuple #[.agg QH.toArray,.bool false])∧Sp (CI p []::R) B:=by
 have n:Sp (AM w.heap.size QH 175::CI p []::R) (w.alloc (.cells QH.toArray 175)):=h.alloc QH 175;have l:=h_ (netLook_none (n.pull 1));unfold pt at*;clear h n;go_enter Tryz.func77,Tryz.ntmps77;go_wp2_with fail;refine l.out.mono ?_;rintro e j ⟨rfl,f⟩;clear l;obtain⟨r,u⟩:∃r,r=w.heap.size:=⟨_,rfl⟩;rw[←u]at f⊢;clear u;have o:Sp (AM j.heap.size QH 175::CI p []::AM r QH 175::R) _:=f.alloc QH 175;have a:=h_ o;clear f o;obtain⟨b,g⟩:∃b,b=j.heap.size:=⟨_,rfl⟩
 go_wp2_with (refine AS rfl _ _ _ rfl j.heap.size QH QH 175 rfl rfl a.out.blk rfl C4 zMsg_one ?_;intro D q x;have i:=a.out.set q x;rw[←g]at i;have d:=h_ i;clear i q x a)
 rw[←g];clear g;have t:=netDrop_none (d.out.pull 1);have c:=h_ t;unfold pt at c;clear t;refine c.out.mono ?_;rintro e E ⟨rfl,rfl⟩;have y:=h_ (d.out.blk);have k:=h_ (d.out.pull 2);clear c
 go_wp2_with (first|(refine BA 175 _ rfl b rfl 175 QH.toArray (0,0) _ y.out AV rfl C4 (by rfl) ?_)|(refine AS rfl _ _ _ rfl r QH QH 175 rfl rfl k.out.blk rfl C4 zMsg_one ?_;intro C s A))
 have z:Sp (AM r QH 175::AM b QH 175::CI p []::R) C:=k.out.set s A;refine Be (v:= .tuple #[.agg QH.toArray,.bool false]) ?_ rfl ⟨rfl,z.drop.drop⟩;exact Co Tryz.results77 _ _ r 175 _ (0,0) _ rfl s AV rfl C4 _ rfl
end
end Go.Proofs.YtnhbioehiiifdaaGreat
