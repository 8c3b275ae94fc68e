/-
  Contracts: what is drawn: stores.
-/
import Derived.Test.YtiioognflecdgaaGreatFx
import Derived.Test.YtiioognflecdgaaGreatMx
import Derived.Test.YtiioognflecdgaaGreatFnX
import Derived.Test.YtiioognflecdgaaGreatGnE
set_option linter.unusedVariables false
set_option linter.unusedSimpArgs false
set_option maxRecDepth 100000
set_option maxHeartbeats 8000000
namespace Go.Proofs.YtiioognflecdgaaGreat
open Go.Sx Go.Proofs Go.Mo
def rS (g a:Int) (b:List Wlk) (c:Int) (d:List (List Pcl)) (e f:List Int) (l:List Sx.Rec):V := .agg [cI g,cI a,.att (.list .wlk fun _=>b),cI c,.att (.list .pcls fun _=>d),.att (.list .int fun _=>e),.att (.list .int fun _=>f),.att (.list .rcd fun _=>l)]
def rSo (g a:Int) (b:List Wlk) (c:Int) (d:List (List Pcl)) (e f:List Int) (l:List Sx.Rec):V := .agg [cI g,cI a,.att (.list .wlk fun _=>b),cI c,.att (.list .pcls fun _=>d),.att (.list .int fun _=>e),.att (.list .int fun _=>f),.ownd .rcd fun _=>l]
noncomputable def b5T:Sx.Spec:=⟨false,false,[.map,.int .i64,.list .wlk],[nSto],fun _ _ ⟨m,c,ws,_⟩ => .all Int fun g => .all Int fun a => .all (List Wlk) fun b => .all Int fun c => .all (List (List Pcl)) fun d => .all (List Int) fun e => .all (List Int) fun f => .all (List Sx.Rec) fun l => .asm (fun _=>(ws ()).length≤10→small b d) (.ret (rS g a b c d e f l,fun _=>0))⟩
noncomputable def c6h:Sx.Spec:=⟨true,true,[],[[none,none],nSto],fun _ p _ => .asrt (fun _=>0≤p ()∧p ()≤999999980000) (.all Int fun x => .all Int fun y => .all Int fun g => .all Int fun a => .all (List Wlk) fun b => .all Int fun c => .all (List (List Pcl)) fun d => .all (List Int) fun e => .all (List Int) fun f => .all (List Sx.Rec) fun l => .all Int fun q => .asm (fun _=>p ()≤q∧q≤p ()+3000∧small b d∧l.length≤30) (.ret (.tup [.agg [cI x,cI y],rSo g a b c d e f l],fun _=>q)))⟩
theorem c3I:b6 Tryz.prog 107 b5T:=j3 b9 (ss := [(157,b6f),(146,a0J)]) ⟨b9l,a0N,trivial⟩ rfl rfl<|by
 intro(bs:Th (List Int)) (p:Th Int) ⟨(m:Th PMap),(c:Th Int),(ws:Th (List Wlk)),u⟩ K hb hp0 ho h
 obtain⟨m,rfl⟩:=a8 m;obtain⟨c,rfl⟩:=a8 c;obtain⟨ws,rfl⟩:=a8 ws
 have hs0:small ([]:List Wlk) []:=a3Z (by decide)
 refine⟨noAnn,noAnn,20,?_⟩
 cbv
 repeat' first|((with_reducible intro _);cbv)|(with_reducible refine And.intro ?_ ?_)
 all_goals first|(refine retK (h _ _ _ _ _ _ _ _ ?_) rfl;clear h)|(refine retK (h _ _ _ _ _ _ _ _ ?_) rfl)|(with_reducible refine Ob.mk ?_;clear h)|(clear h)
 all_goals(try simp only[eta0,RT.bytes]at *)
 all_goals first|omega|grind[b8]
theorem d0n:b6 Tryz.prog 232 c6h:=j3 b9 (ss := [(21,G0),(248,c6g),(107,b5T),(234,b3P)]) ⟨C1,d0m,c3I,b6Q,trivial⟩ rfl rfl<|by
 intro(bs:Th (List Int)) (p:Th Int) u K hb hp0 ho h
 obtain⟨bs,rfl⟩:=a8 bs;obtain⟨p,rfl⟩:=a8 p
 obtain⟨hpre,h⟩:=h
 have hpre:0≤p∧p≤999999980000:=hpre.out
 refine⟨noAnn,noAnn,20,?_⟩
 cbv
 repeat' first|((with_reducible intro _);cbv)|(with_reducible refine And.intro ?_ ?_)
 all_goals first|(refine retK (h _ _ _ _ _ _ _ _ _ _ _ ?_) rfl;clear h)|(with_reducible refine Ob.mk ?_;clear h)|(clear h)
 all_goals(try simp only[eta0,RT.bytes]at *)
 all_goals first|omega|grind[b8]
end Go.Proofs.YtiioognflecdgaaGreat
