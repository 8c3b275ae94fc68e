/-
  Contracts: what is drawn: records that a cell takes, one of which may not fit.
-/
import Derived.Test.YtiioognflecdgaaGreatFx
import Derived.Test.YtiioognflecdgaaGreatMx
import Derived.Test.YtiioognflecdgaaGreatGrT
set_option linter.unusedVariables false
set_option linter.unusedSimpArgs false
set_option maxRecDepth 100000
set_option maxHeartbeats 8000000
namespace Go.Proofs.YtiioognflecdgaaGreat
open Go.Sx Go.Proofs Go.Mo
noncomputable def b3P:Sx.Spec:=⟨true,true,[.map,.row .cll,.int .i64],[[some .rcd],nCll],fun _ p ⟨m,c0,n,_⟩ => .asrt (fun _=>0≤p ()∧p ()≤999999990000∧n ()≤30) (.all (List Sx.Rec) fun l => .all Int fun a => .all (List Wlk) fun b => .all Int fun c => .all (List (List Pcl)) fun d => .all (List Int) fun e => .all (List Int) fun f => .all Int fun q => .asm (fun _=>p ()≤q∧q≤p ()+1800∧l.length≤30∧(small (c0 ()).wlks (c0 ()).outs→small b d)) (.ret (.tup [vW .rcd fun _=>l,rC a b c d e f],fun _=>q)))⟩
theorem b6Q:b6 Tryz.prog 234 b3P:=j3 b9 (ss := [(146,a0J),(251,sRec),(252,a7d)]) ⟨a0N,d3t,a8c,trivial⟩ rfl rfl<|by
 intro(bs:Th (List Int)) (p:Th Int) ⟨(m:Th PMap),(c:Th Cll),(n:Th Int),u⟩ K hb hp0 ho h
 obtain⟨m,rfl⟩:=a8 m;obtain⟨c,rfl⟩:=a8 c;obtain⟨n,rfl⟩:=a8 n;obtain⟨bs,rfl⟩:=a8 bs;obtain⟨p,rfl⟩:=a8 p
 obtain⟨hpre,h⟩:=h
 have hpre:0≤p∧p≤999999990000∧n≤30:=hpre.out
 refine⟨annL [(234,2,⟨List Sx.Rec×Cll×Int×Int,[⟨.tmp 10 0,some 16,.rcd⟩,⟨.cell 7 1,none,.wlk⟩,⟨.cell 7 3,none,.pcls⟩,⟨.cell 7 4,none,.int⟩,⟨.cell 7 5,none,.int⟩],
  fun σ g=>St.rcll ((((((σ.fgs [16]).t 3 (vI fun _=>g.2.2.1)).t 10 (vO 16 1)).row 16 1 .rcd (fun _=>g.1)).v5 0 1 (.att (.int .i64 fun _=>g.2.2.2)))) 7 (fun _=>g.2.1),
  fun _ g _=>g.2.2.1≤30∧(small c.wlks c.outs→small g.2.1.wlks g.2.1.outs)∧(g.2.2.1<0∧g.1.length=0∧g.2.2.2=p∨0≤g.2.2.1∧(g.1.length:Int)≤30-g.2.2.1∧p≤g.2.2.2∧g.2.2.2≤p+60 * (30-g.2.2.1)),fun _ g _=>g.2.2.1.toNat⟩)],noAnn,20,?_⟩
 cbv
 repeat' first|((with_reducible refine fun(k:Nat) => ?_);cbv)|((with_reducible refine fun(g:List Sx.Rec×Cll×Int×Int) => ?_);obtain⟨gl,gc,gn,gq⟩:=g;cbv)|((with_reducible intro _);cbv)|(with_reducible refine And.intro ?_ ?_)
 all_goals try(first|(with_reducible refine LoopIn.mk (([],c,n,p):List Sx.Rec×Cll×Int×Int) ?_ ?_) |
  (rename_i r0 r1 r2 r3 r4 r5 r6 r7 r8 r9 r10 r11 r12 r13 r14 r15 q1 hq hok;have hok:(D9 m gc ⟨r0,⟨r1,r2,r3,r4,r5⟩,r6,⟨r7,r8,⟨r9,r10,r11,r12,r13⟩,r14⟩,r15⟩).ok=true:=hok;obtain⟨L,hL⟩ : ∃L,L=gl ++ [(⟨r0,⟨r1,r2,r3,r4,r5⟩,r6,⟨r7,r8,⟨r9,r10,r11,r12,r13⟩,r14⟩,r15⟩:Sx.Rec)]:=⟨_,rfl⟩;obtain⟨X,hX⟩ : ∃X,X=(D9 m gc ⟨r0,⟨r1,r2,r3,r4,r5⟩,r6,⟨r7,r8,⟨r9,r10,r11,r12,r13⟩,r14⟩,r15⟩).c:=⟨_,rfl⟩;obtain⟨g1,hg1⟩ : ∃g1,g1=gn-1:=⟨_,rfl⟩;with_reducible refine LoopBack.mk ((L,X,g1,q1):List Sx.Rec×Cll×Int×Int) ?_ ?_ ?_) |
  (rename_i r0 r1 r2 r3 r4 r5 r6 r7 r8 r9 r10 r11 r12 r13 r14 r15 q1 hq hok;obtain⟨g1,hg1⟩ : ∃g1,g1=gn-1:=⟨_,rfl⟩;with_reducible refine LoopBack.mk ((gl,gc,g1,q1):List Sx.Rec×Cll×Int×Int) ?_ ?_ ?_))
 all_goals try((first|(with_reducible refine LoopIn.mk ((0:Nat)) ?_ ?_)|(with_reducible refine LoopBack.mk ((0:Nat)) ?_ ?_ ?_)) )
 all_goals try((with_reducible show l8 _ _);cbv;(try simp only[and_true,true_and]))
 all_goals try(repeat' with_reducible refine And.intro ?_ ?_)
 all_goals first|(refine retK (h _ _ _ _ _ _ _ _ ?_) rfl;clear h)|(with_reducible refine Ob.mk ?_;clear h)|(clear h)
 all_goals(try simp only[eta0,RT.bytes]at *)
 all_goals(try subst hL)
 all_goals(try subst hX)
 all_goals first|omega|rfl|grind[b8,b5O]
end Go.Proofs.YtiioognflecdgaaGreat
