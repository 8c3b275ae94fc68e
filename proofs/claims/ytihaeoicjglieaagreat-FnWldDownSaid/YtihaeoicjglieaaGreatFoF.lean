/-
  Contracts: what is drawn: stores.
-/
import Derived.Test.YtihaeoicjglieaaGreatMx
import Derived.Test.YtihaeoicjglieaaGreatFnX
import Derived.Test.YtihaeoicjglieaaGreatGrT
set_option linter.unusedVariables false
set_option linter.unusedSimpArgs false
set_option maxRecDepth 100000
set_option maxHeartbeats 8000000
namespace Go.Proofs.YtihaeoicjglieaaGreat
open Go.Sx Go.Proofs Go.Mo
def rS (g a:Int) (b:List Wlk) (c:Int) (d:List (List Pcl)) (e f:List Int) (l:List Sx.Rec):V := .agg [cI g,cI a,.att (.list .wlk fun _=>b),cI c,.att (.list .pcls fun _=>d),.att (.list .int fun _=>e),.att (.list .int fun _=>f),.att (.list .rcd fun _=>l)]
def rSo (g a:Int) (b:List Wlk) (c:Int) (d:List (List Pcl)) (e f:List Int) (l:List Sx.Rec):V := .agg [cI g,cI a,.att (.list .wlk fun _=>b),cI c,.att (.list .pcls fun _=>d),.att (.list .int fun _=>e),.att (.list .int fun _=>f),.ownd .rcd fun _=>l]
noncomputable def b8a:Sx.Spec:=⟨false,false,[.map,.int .i64,.list .wlk],[nSto],fun _ _ ⟨m,c,ws,_⟩ => .all Int fun g => .all Int fun a => .all (List Wlk) fun b => .all Int fun c => .all (List (List Pcl)) fun d => .all (List Int) fun e => .all (List Int) fun f => .all (List Sx.Rec) fun l => .asm (fun _=>(ws ()).length≤10→small b d) (.ret (rS g a b c d e f l,fun _=>0))⟩
noncomputable def c9E:Sx.Spec:=⟨true,true,[],[[none,none],nSto],fun _ p _ => .asrt (fun _=>0≤p ()∧p ()≤999999980000) (.all Int fun x => .all Int fun y => .all Int fun g => .all Int fun a => .all (List Wlk) fun b => .all Int fun c => .all (List (List Pcl)) fun d => .all (List Int) fun e => .all (List Int) fun f => .all (List Sx.Rec) fun l => .all Int fun q => .asm (fun _=>p ()≤q∧q≤p ()+3000∧small b d∧l.length≤30) (.ret (.tup [.agg [cI x,cI y],rSo g a b c d e f l],fun _=>q)))⟩
theorem c6Q:b8 Tryz.prog 164 b8a:=j4 e9 (ss := [(212,b8o),(180,a1D)]) ⟨c1V,a1J,trivial⟩ rfl rfl<|by
 intro(bs:Th (List Int)) (p:Th Int) ⟨(m:Th PMap),(c:Th Int),(ws:Th (List Wlk)),u⟩ K hb hp0 ho h
 obtain⟨m,rfl⟩:=b6 m;obtain⟨c,rfl⟩:=b6 c;obtain⟨ws,rfl⟩:=b6 ws
 have hs0:small ([]:List Wlk) []:=a5d (by decide)
 refine⟨noAnn,noAnn,20,?_⟩
 cbv
 repeat' first|((with_reducible intro _);cbv)|(with_reducible refine And.intro ?_ ?_)
 all_goals first|(refine retK (h _ _ _ _ _ _ _ _ ?_) rfl;clear h)|(refine retK (h _ _ _ _ _ _ _ _ ?_) rfl)|(with_reducible refine Ob.mk ?_;clear h)|(clear h)
 all_goals(try simp only[eta0,RT.bytes]at *)
 all_goals first|omega|grind[e8]
theorem d4a:b8 Tryz.prog 279 c9E:=j4 e9 (ss := [(46,J4),(289,c9D),(164,b8a),(280,b5M)]) ⟨D2,d3Z,c6Q,b9i,trivial⟩ rfl rfl<|by
 intro(bs:Th (List Int)) (p:Th Int) u K hb hp0 ho h
 obtain⟨bs,rfl⟩:=b6 bs;obtain⟨p,rfl⟩:=b6 p
 obtain⟨hpre,h⟩:=h
 have hpre:0≤p∧p≤999999980000:=hpre.out
 refine⟨noAnn,noAnn,20,?_⟩
 cbv
 repeat' first|((with_reducible intro _);cbv)|(with_reducible refine And.intro ?_ ?_)
 all_goals first|(refine retK (h _ _ _ _ _ _ _ _ _ _ _ ?_) rfl;clear h)|(with_reducible refine Ob.mk ?_;clear h)|(clear h)
 all_goals(try simp only[eta0,RT.bytes]at *)
 all_goals first|omega|grind[e8]
end Go.Proofs.YtihaeoicjglieaaGreat
