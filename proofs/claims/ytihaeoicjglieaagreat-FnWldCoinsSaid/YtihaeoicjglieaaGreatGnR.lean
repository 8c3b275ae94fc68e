/-
  slices.Delete of one element (messages): the library's own text walked.
-/
import Derived.Test.YtihaeoicjglieaaGreatTok
import Derived.Test.YtihaeoicjglieaaGreatS5
import Derived.Test.YtihaeoicjglieaaGreatGnW
import Derived.Test.YtihaeoicjglieaaGreatM3
import Derived.Test.YtihaeoicjglieaaGreatGrT
import Derived.Test.YtihaeoicjglieaaGreatInsG
import Derived.Test.YtihaeoicjglieaaGreatM2
import Derived.Test.YtihaeoicjglieaaGreatGnF
set_option linter.unusedVariables false
set_option linter.unusedSimpArgs false
set_option maxRecDepth 100000
set_option maxHeartbeats 8000000
namespace Go.Proofs.YtihaeoicjglieaaGreat
open Go.Sx Go.Proofs Go.RowKit
theorem c8p:(Tryz.prog.info? 90).map (fun i=>(i.zero,i.size,i.bytes))=some (some (.agg #[.int .i64 0,.int .i64 0,.int .i64 0,.int .i64 0,.int .i64 0,.int .i64 0,.int .i64 0,.int .i64 0,.int .i64 0,.int .i64 0,.int .i64 0,.int .i64 0,.int .i64 0,.int .i64 0,.int .i64 0,.int .i64 0,.int .i64 0,.int .i64 0,.int .i64 0,.int .i64 0,.int .i64 0,.int .i64 0,.int .i64 0,.int .i64 0,.int .i64 0]),25,200):=by kernel_rfl
theorem d2x (w:World) (n b c:Nat) (cs:Array Value) (T i:Nat) (hh:w.heap[b]? = some (.cells cs T (0,0))) (hnc:n≤c) (hc:c≤maxLen) (hs:cs.size=c * 25) (hi:i<n) (h1c : ∀u∈cs.toList.take (n * 25),one u) :
  Calls Tryz.prog 114 #[.slice (some ⟨b,0,none⟩) n c,.int .i64 i,.int .i64 ((i:Int)+1)] w fun e w' => ∃v cs',e = .returned v∧DelE w w' 25 v n i b c cs T cs':=by
 obtain⟨inf,hinf,hz,hsz,hby⟩:=info_parts c8p
 obtain⟨Z,hZ⟩ : ∃Z:Value,Z = .agg #[.int .i64 0,.int .i64 0,.int .i64 0,.int .i64 0,.int .i64 0,.int .i64 0,.int .i64 0,.int .i64 0,.int .i64 0,.int .i64 0,.int .i64 0,.int .i64 0,.int .i64 0,.int .i64 0,.int .i64 0,.int .i64 0,.int .i64 0,.int .i64 0,.int .i64 0,.int .i64 0,.int .i64 0,.int .i64 0,.int .i64 0,.int .i64 0,.int .i64 0]:=⟨_,rfl⟩
 rw[←hZ]at hz
 have hzc:(Value.cells Z).size=25:=by rw[hZ];rfl
 have hzv : ∀w,(zeroValue 90).run Tryz.prog w = .ok Z w:=fun w=>by simp[zeroValue,typeInfo,hinf,hz]
 have hz1 : ∀u∈(Value.cells Z).toList,one u:=by
  intro u hu
  rw[hZ]at hu
  simp[Value.cells]at hu
  first|(subst hu;rfl)|(rcases hu with rfl|rfl|rfl|rfl<;>rfl)
 clear hZ
 have u25:=run_underlying Tryz.underlying33
 have z38 : ∀w,(sizeOf 90).run Tryz.prog w = .ok 25 w:=fun w=>by simp[sizeOf,typeInfo,hinf,hsz]
 have mixed:=e9.mix
 have hc63:c≤9223372036854775807:=hc
 obtain⟨e1,e2,e3,e4,e5,e6,e7⟩:=a9W (cs:=cs) (zs:=(Value.cells Z).toList) hs hnc hi (by rw[Array.length_toList];exact hzc)
 obtain⟨us,hus⟩ : ∃us,us=(cs.toList.take (n * 25)).drop ((i+1) * 25):=⟨_,rfl⟩
 rw[←hus]at e1 e2 e3
 obtain⟨A,hA,hsrc⟩ : ∃A:Addr,(if c=i+1 then some (⟨b,0,none⟩:Addr)else some ⟨b,(i+1) * 25,none⟩)=some A∧(∀j v,us[j]? = some v→w.drew.cell? (A.add j)=some v):=by
  by_cases h:c=i+1
  ·refine⟨⟨b,0,none⟩,by simp[h],fun j v hj => ?_⟩
   have h0:us.length=0:=by rw[e1,show n-(i+1)=0 by omega,Nat.zero_mul]
   rw[List.length_eq_zero_iff.1 h0]at hj
   simp at hj
  ·refine⟨⟨b,(i+1) * 25,none⟩,by simp[h],fun j v hj => ?_⟩
   rw[hus,List.getElem?_drop,List.getElem?_take]at hj
   rw[A2,show w.drew.cell? ⟨b,(i+1) * 25+j,none⟩=w.cell? ⟨b,(i+1) * 25+j,none⟩from rfl,s9 hh]
   split at hj
   ·simpa using hj
   ·cases hj
 have h1u : ∀u∈us,one u:=fun u hu=>h1c u (by rw[hus]at hu;exact List.mem_of_mem_drop hu)
 obtain⟨W1,hW1⟩ : ∃W1,W1=wrote w.drew b (i * 25) cs us:=⟨_,rfl⟩
 have hap : ∀ty,(Builtin.append_ #[33,33] ty #[.slice (some ⟨b,0,none⟩) i c,.slice (some A) (n-(i+1)) (c-(i+1))]).run Tryz.prog w.drew = .ok (.slice (some ⟨b,0,none⟩) (i+(n-(i+1))) c) W1:=fun ty=>by
  have:=a5J (P:=Tryz.prog) (w:=w.drew) (ty:=ty) (T:=33) (b:=b) (n:=i) (cap:=c) (m:=n-(i+1)) (capx:=c-(i+1)) (a:=A) (cs:=cs) (us:=us) (T0:=T) Tryz.underlying33 hinf hh (by rw[hsz];exact e1) hsrc (by omega) (by rw[hsz];exact hs) h1u
  rw[this,hsz,hW1]
 have hh1:W1.heap[b]? = some (.cells (putAt cs.toList (i * 25) us).toArray T (0,0)):=by rw[hW1];exact A4 hh
 have hin:i+(n-(i+1))=n-1:=by omega
 rw[hin]at hap
 have hcl : ∀(W:World),W.heap=W1.heap → ∀ty cc,(Builtin.clear_ #[33] ty #[.slice (some ⟨b,(n-1) * 25,none⟩) 1 cc]).run Tryz.prog W = .ok (.tuple #[]) (wrote W b ((n-1) * 25) (putAt cs.toList (i * 25) us).toArray (Value.cells Z).toList):=fun W hW ty cc =>
  a5I (T0:=T) Tryz.underlying33 hzv (by rw[hW];exact hh1) (by rw[e3];rw[Array.length_toList]at e4;exact e4) hz1
 have hend : ∀W:World,W.heap=(wrote W1 b ((n-1) * 25) (putAt cs.toList (i * 25) us).toArray (Value.cells Z).toList).heap→W.os=w.os→W.tape=w.tape→W.output=w.output→DelE w W 25 (.slice (some ⟨b,0,none⟩) (n-1) c) n i b c cs T (closed cs 25 n i (Value.cells Z).toList):=fun W hW g1 g2 g3=>by
  refine⟨rfl,?_,e5,e6,e7,g1,g2,g3,?_,fun x hx => ?_⟩
  ·rw[hW,A4 hh1,closed,←hus]
  ·rw[hW,hW1];simp[wrote,World.setRow]
  ·rw[hW,u9 hx,hW1,u9 hx];rfl
 have hw2:IntKind.i64.wrap ((i:Int)+1)=((i+1:Nat):Int):=by rw[IntKind.wrap_i64];omega
 have hci : ¬(c=n-1):=by omega
 have hne : ¬((i:Int)=(i:Int)+1):=by omega
 have htn:((i:Int)+1).toNat=i+1:=by omega
 have hb1:(0:Int)≤(i:Int)+1:=by omega
 have hb2:(i:Int)+1≤(n:Int):=by omega
 have hb3:(i:Int)+1≤(c:Int):=by omega
 have hb4:i≤c:=by omega
 have hb5:(i:Int)≤(i:Int)+1:=by omega
 have hb6:n-(n-1)=1:=by omega
 have hb7:n-1≤n:=by omega
 have g1:W1.os=w.os:=by rw[hW1];rfl
 have g2:W1.tape=w.tape:=by rw[hW1];rfl
 have g3:W1.output=w.output:=by rw[hW1];rfl
 obtain⟨zs,hzs⟩ : ∃zs,zs=(Value.cells Z).toList:=⟨_,rfl⟩
 rw[←hzs]at hcl hend
 clear hzs hzv hz1 hzc hW1
 clear hinf hz hby e1 e2 e3 e4 e5 e6 e7 h1u hsrc hh1 h1c hus
 go_enter Tryz.func114,Tryz.ntmps114
 go_wp2_with fail
 go_region_law_o (refine a2P rfl (.tmp 22) (.tmp 25) 33 rfl _ _ (by simp[Act.eval,Act.put]) (by simp[Act.eval,Act.put]) (hap _) ?_)
 go_wp2_with (at_builtin;refine a1Y _ rfl _ 33 rfl _ rfl (hcl _ rfl _ _) ?_)
 all_goals go_ret
 all_goals exact⟨.slice (some ⟨b,0,none⟩) (n-1) c,_,rfl,hend _ rfl g1 g2 g3⟩
theorem d6X:c5R Tryz.prog 114 .msg:=fun w n b cap cs T i hh h1 h2 h3 h4 h5 _=>d2x w n b cap cs T i hh h1 h2 h3 h4 h5
theorem c7l:b8 Tryz.prog 114 (.raw (delM .msg)) :=
 d2v ⟨_,_,Tryz.func114,by kernel_rfl,rfl⟩ d6X
end Go.Proofs.YtihaeoicjglieaaGreat
namespace Go.Proofs.YtihaeoicjglieaaGreat
open Go.Sx Go.Proofs Go.Mo
noncomputable def b3Y:Sx.Spec:=⟨false,true,[.arb],[[some .int,some .int]],fun _ _ ⟨t,_⟩ => .ret (oArb t,fun _=>0)⟩
noncomputable def a8H:SpecX := .raw (b7A (delM .msg))
theorem b1H:b8 Tryz.prog 114 a8H:=b5v c7l ⟨_,_,Tryz.func114,by kernel_rfl,rfl⟩
theorem c2d:b8 Tryz.prog 106 b3Y:=j4 e9 (ss := []) trivial rfl rfl<|by
 intro(bs:Th (List Int)) (p:Th Int) ⟨(t:Th Arb),u⟩ K _ _ ho h
 obtain⟨t,rfl⟩:=b6 t
 have hl:=okB (ho.1 _ (.head _))
 have hl2:=okB (ho.1 _ (.tail _ (.head _)))
 refine⟨noAnn,noAnn,20,?_⟩
 cbv
 repeat' first|((with_reducible intro _);cbv)|(with_reducible refine And.intro ?_ ?_)
 all_goals first|(refine retK h ?_;clear h;simp only[fin0])|(with_reducible refine Ob.mk ?_;clear h)|(clear h)
 all_goals(try simp only[eta0,RT.bytes]at *)
 all_goals(try grind)
theorem c2c:b8 Tryz.prog 52 b0O:=j4 e9 (ss := [(105,a4q),(106,b3Y),(107,a3z),(108,a5g)]) ⟨c7n,c2d,d0S,d0P,trivial⟩ rfl rfl<|by
 intro(bs:Th (List Int)) (p:Th Int) ⟨(w:Th Wld),u⟩ K _ _ ho h
 obtain⟨w,rfl⟩:=b6 w
 have hb0:=okB (ho.1 _ (.tail _ (.tail _ (.head _))))
 have hb3:=okB (ho.1 _ (.tail _ (.tail _ (.tail _ (.tail _ (.head _))))))
 have hb4:=okB (ho.1 _ (.tail _ (.tail _ (.tail _ (.tail _ (.tail _ (.head _)))))))
 have hb6:=okB (ho.1 _ (.tail _ (.tail _ (.tail _ (.tail _ (.tail _ (.tail _ (.tail _ (.head _)))))))))
 have hb7:=okB (ho.1 _ (.tail _ (.tail _ (.tail _ (.tail _ (.tail _ (.tail _ (.tail _ (.tail _ (.head _))))))))))
 have hs:=fun k => @M0 .srv w.servers k
 have hz:=a2f w.servers
 refine⟨annL [(52,4,⟨Nat,[⟨.cell 4 2,some 500,.srv⟩],fun σ k=>(((σ.only [1,2,3,27,28]).t 29 (vI fun _=>(k:Int))).u7 4 2 (.own 500 1)).row 500 1 .srv (fun _=>pre w.servers k),fun _ k _=>k≤w.servers.length,fun _ k _=>w.servers.length-k⟩)],noAnn,20,?_⟩
 cbv
 repeat' first|((with_reducible refine fun(k:Nat) => ?_);cbv)|((with_reducible intro _);cbv)|(with_reducible refine And.intro ?_ ?_)
 all_goals try((first|(with_reducible refine LoopIn.mk ((0:Nat)) ?_ ?_)|(with_reducible refine LoopBack.mk ((k+1:Nat)) ?_ ?_ ?_)) )
 all_goals try((with_reducible show m0 _ _);cbv;(try simp only[and_true,true_and]))
 all_goals try(repeat' with_reducible refine And.intro ?_ ?_)
 all_goals first|(refine retK h ?_;clear h;simp only[fin0])|(with_reducible refine Ob.mk ?_;clear h)|(clear h)
 all_goals(try simp only[eta0,RT.bytes]at *)
 all_goals(try grind[a0Q,a2g,j3])
noncomputable def c3I:Sx.Spec:=⟨false,true,[.list .gst,.row .gst],[[some .gst]],fun _ _ ⟨l,g,_⟩ => .ret (vW .gst fun _=>a2J (l ()) (g ()),fun _=>0)⟩
theorem d0B:b8 Tryz.prog 221 c3I:=j4 e9 (ss := [(171,b5T),(183,a2U),(252,(.raw (insM .gst)))]) ⟨b9v,c4E,c7k,trivial⟩ rfl rfl<|by
 intro(bs:Th (List Int)) (p:Th Int) ⟨(l:Th (List Gst)),(g:Th Gst),u⟩ K _ _ ho h
 obtain⟨l,rfl⟩:=b6 l;obtain⟨g,rfl⟩:=b6 g
 have hl:=okB (ho.1 _ (.head _))
 have hp:=fun(k:Nat) => @d4N l g k
 refine⟨annL [(221,3,⟨Nat,[],fun σ k => σ.t 6 (vI fun _=>(k:Int)),fun _ k _=>k≤l.length∧m8 k (a8T l g)=true,fun _ k _=>l.length-k⟩)],noAnn,20,?_⟩
 cbv
 repeat' first|((with_reducible refine fun(k:Nat) => ?_);cbv)|((with_reducible intro _);cbv)|(with_reducible refine And.intro ?_ ?_)
 all_goals try((first|(with_reducible refine LoopIn.mk ((0:Nat)) ?_ ?_)|(with_reducible refine LoopBack.mk ((k+1:Nat)) ?_ ?_ ?_)) )
 all_goals try((with_reducible show m0 _ _);cbv;(try simp only[and_true,true_and]))
 all_goals try(repeat' with_reducible refine And.intro ?_ ?_)
 all_goals first|(refine retK h ?_;clear h;simp only[fin0])|(with_reducible refine Ob.mk ?_;clear h)|(clear h)
 all_goals(try simp only[eta0,RT.bytes]at *)
 all_goals(try(refine funext fun u => ?_;rw[B3]))
 all_goals(try simp only[Int.toNat_natCast]at *)
 all_goals grind(splits:=30) [j3,e8,a2J,a8T,n7,n4]
end Go.Proofs.YtihaeoicjglieaaGreat
namespace Go.Proofs.YtihaeoicjglieaaGreat
open Go.Sx Go.Proofs Go.RowKit
theorem c7D:(Tryz.prog.info? 127).map (fun i=>(i.zero,i.size,i.bytes))=some (some (.agg #[.int .i64 0,.int .i64 0,.int .i64 0,.slice none 0 0,.int .i64 0,.slice none 0 0,.slice none 0 0,.slice none 0 0]),8,128):=by kernel_rfl
theorem b0n : ∃inf z,Tryz.prog.info? 127=some inf∧inf.size=8∧inf.bytes=128∧inf.zero=some z∧z.cells.size=8:=by
 obtain⟨i0,h1,h2,h3,h4⟩:=info_parts c7D
 exact⟨i0,_,h1,h3,h4,h2,rfl⟩
theorem c7C (w:World) (b n c i vb voff vc T tV:Nat) (cs vcs:Array Value) (us:List Value) (hi:i<n) (hroom:n+1≤c) (hc:c≤maxLen) (hh:w.heap[b]? = some (.cells cs T (0,0))) (hs:cs.size=c * 8) (hu:us.length=8)
  (hvh:w.heap[vb]? = some (.cells vcs tV (0,0))) (hvb:vb≠b) (hvs : ∀j v,us[j]? = some v→w.cell? ⟨vb,voff+j,none⟩=some v) (h1 : ∀u∈us,one u) (h1c : ∀u∈cs.toList.take (n * 8),one u) :
  Calls Tryz.prog 251 #[.slice (some ⟨b,0,none⟩) n c,.int .i64 i,.slice (some ⟨vb,voff,none⟩) 1 vc] w fun e w' =>
   ∃v,e = .returned v∧InsE w w' 8 (.slice (some ⟨b,0,none⟩) n c) v n i 1 b c cs us:=by
 obtain⟨inf,z,hinf,hsz,hby,hz,hzc⟩:=b0n
 have u25:=run_underlying Tryz.underlying91
 have z38 : ∀w,(sizeOf 127).run Tryz.prog w = .ok 8 w:=fun w=>by simp[sizeOf,typeInfo,hinf,hsz]
 have hc63:c≤9223372036854775807:=hc
 have hcb:n+1≤9223372036854775807:=by omega
 have hkB:cs.size≠0:=by rw[hs];omega
 have hov : ∀lb cb,(callFunc 269 #[.slice (some ⟨vb,voff,none⟩) 1 vc,.slice (some ⟨b,(i+1) * 8,none⟩) lb cb]).run Tryz.prog w = .ok (.value (.bool false)) w:=fun lb cb=>by
  rw[run_callFunc_extern Tryz.func269 (by kernel_rfl) (by kernel_rfl) (by kernel_rfl) (e:=Extern.SlicesOverlaps.overlaps #[91,91] #[4]) (by kernel_rfl),
   Lib.run_overlaps_apart w 91 4 127 Tryz.underlying91 8 z38 ⟨vb,voff,none⟩ ⟨b,(i+1) * 8,none⟩ 1 vc lb cb hvb tV T vcs.size cs.size (by simp[World.shape?,hvh]) (by simp[World.shape?,hh]) hkB (frozen_of_row _ _ _ _ _ hvh) (frozen_of_row _ _ _ _ _ hvh)]
  rfl
 have hw1:IntKind.i64.wrap ((n:Int)+1)=((n+1:Nat):Int):=by rw[IntKind.wrap_i64];omega
 have hw2:IntKind.i64.wrap ((i:Int)+1)=((i+1:Nat):Int):=by rw[IntKind.wrap_i64];omega
 have hne : ¬((i:Int)=(n:Int)):=by omega
 have mixed:=e9.mix
 have hb1:(0:Int)≤(i:Int)+1:=by omega
 have hin:i≤n:=by omega
 have hb2 : ¬(c=i+1):=by omega
 have hb3:(i:Int)≤(n:Int)+1:=by omega
 have hb4 : ¬(c=i):=by omega
 have htn:((i:Int)+1).toNat=i+1:=by omega
 go_enter Tryz.func251,Tryz.ntmps251
 go_wp2_with (simp only[hov])
 clear hov
 have htl:=X8 (i:=i) hs (show n≤c by omega)
 have hn5:(n+1) * 8≤c * 8:=Nat.mul_le_mul_right _ hroom
 have hsrc : ∀j v,((cs.toList.take (n * 8)).drop (i * 8))[j]? = some v→w.cell? ⟨b,i * 8+j,none⟩=some v:=fun j v hj=>by
  rw[List.getElem?_drop,List.getElem?_take]at hj
  rw[s9 hh]
  split at hj
  ·simpa using hj
  ·cases hj
 have hcp1 : ∀ty dc sc,(Builtin.copy_ #[91,91] ty #[.slice (some ⟨b,(i+1) * 8,none⟩) (n-i) dc,.slice (some ⟨b,i * 8,none⟩) (n+1-i) sc]).run Tryz.prog w.drew = .ok (goInt (n-i:Nat)) (wrote w.drew b ((i+1) * 8) cs ((cs.toList.take (n * 8)).drop (i * 8))):=fun ty dc sc =>
  C9 (k:=n-i) (us:=(cs.toList.take (n * 8)).drop (i * 8)) Tryz.underlying91 hinf (by simp only[Nat.min_def];split<;>omega) (by rw[hsz];exact htl) (fun j v hj=>by
   rw[A2]
   exact hsrc j v hj) hh (by rw[htl,hs];omega) (fun u hu=>h1c u (List.mem_of_mem_drop hu))
 go_region_law_o (refine step_copy_runI rfl _ _ 91 91 rfl _ _ (by simp[Act.eval,Act.put]) (by simp[Act.eval,Act.put]) (hcp1 _ _ _) ?_)
 have htl2:((cs.toList.take (n * 8)).drop (i * 8)).length=(n-i) * 8:=htl
 obtain⟨cs1,hcs1⟩ : ∃cs1,cs1=(putAt cs.toList ((i+1) * 8) ((cs.toList.take (n * 8)).drop (i * 8))).toArray:=⟨_,rfl⟩
 obtain⟨W1,hW1⟩ : ∃W1,W1=wrote w.drew b ((i+1) * 8) cs ((cs.toList.take (n * 8)).drop (i * 8)):=⟨_,rfl⟩
 have hh1:W1.heap[b]? = some (.cells cs1 T (0,0)):=by rw[hW1,hcs1];exact A4 hh
 have hv1:W1.heap[vb]? = some (.cells vcs tV (0,0)):=by rw[hW1,u9 hvb];exact hvh
 have hsz1:cs1.size=c * 8:=by rw[hcs1,List.size_toArray,s8 _ _ _ (by rw[htl2,Array.length_toList,hs];omega),Array.length_toList,hs]
 have hcp2 : ∀(W:World),W.heap=W1.heap → ∀ty dc,(Builtin.copy_ #[91,91] ty #[.slice (some ⟨b,i * 8,none⟩) (n+1-i) dc,.slice (some ⟨vb,voff,none⟩) 1 vc]).run Tryz.prog W = .ok (goInt (1:Nat)) (wrote W b (i * 8) cs1 us):=fun W hW ty dc =>
  C9 (k:=1) (us:=us) (T:=T) Tryz.underlying91 hinf (by simp only[Nat.min_def];split<;>omega) (by rw[hsz,hu]) (fun j v hj=>by
   rw[A2,s9 (cs:=vcs) (T:=tV) (by rw[hW];exact hv1)]
   have:=hvs j v hj
   rw[s9 hvh]at this
   exact this) (by rw[hW];exact hh1) (by rw[hu,hsz1];omega) h1
 rw[←hW1]
 go_wp2_with (at_builtin;refine wpList_copy_runI _ rfl _ _ 91 91 rfl _ _ rfl rfl (hcp2 _ rfl _ _) ?_)
 have hend:InsM w (wrote W1 b (i * 8) cs1 us) 8 (.slice (some ⟨b,0,none⟩) n c) (.slice (some ⟨b,0,none⟩) (n+1) c) n i 1 b c cs us b c (N3 cs 8 n i us).toArray T:=by
  refine InsM.room hh hs hroom hc hi hu ?_ (fun x hx => ?_) ?_ ?_ ?_ ?_
  ·rw[A4 hh1,N3,hcs1]
  ·rw[u9 hx,hW1,u9 hx];rfl
  ·rw[hW1];rfl
  ·rw[hW1];rfl
  ·rw[hW1];rfl
  ·rw[hW1];simp[wrote,World.setRow]
 subst hcs1
 subst hW1
 go_ret
 exact⟨.slice (some ⟨b,0,none⟩) (n+1) c,rfl,_,_,_,_,hend⟩
theorem c7E (w:World) (b n c i vb voff vc T tV:Nat) (cs vcs:Array Value) (us:List Value) (hi:i<n) (hnc:n≤c) (hroom:c<n+1) (hc:c≤maxLen) (hh:w.heap[b]? = some (.cells cs T (0,0))) (hs:cs.size=c * 8) (hu:us.length=8)
  (hvh:w.heap[vb]? = some (.cells vcs tV (0,0))) (hvs : ∀j v,us[j]? = some v→w.cell? ⟨vb,voff+j,none⟩=some v) (h1 : ∀u∈us,one u) (h1c : ∀u∈cs.toList.take (n * 8),one u) (hbig:(n+1) * 128≤140737488355328) :
  Calls Tryz.prog 251 #[.slice (some ⟨b,0,none⟩) n c,.int .i64 i,.slice (some ⟨vb,voff,none⟩) 1 vc] w fun e w' =>
   ∃v,e = .returned v∧InsE w w' 8 (.slice (some ⟨b,0,none⟩) n c) v n i 1 b c cs us:=by
 obtain⟨inf,z,hinf,hsz,hby,hz,hzc⟩:=b0n
 have u25:=run_underlying Tryz.underlying91
 have z38 : ∀w,(sizeOf 127).run Tryz.prog w = .ok 8 w:=fun w=>by simp[sizeOf,typeInfo,hinf,hsz]
 have mixed:=e9.mix
 have hc63:c≤9223372036854775807:=hc
 have hsrc : ∀j v,((cs.toList.take (n * 8)).drop (i * 8))[j]? = some v→w.cell? ⟨b,i * 8+j,none⟩=some v:=fun j v hj=>by
  rw[List.getElem?_drop,List.getElem?_take]at hj
  rw[s9 hh]
  split at hj
  ·simpa using hj
  ·cases hj
 have hi5:(i+1) * 8≤c * 8:=Nat.mul_le_mul_right _ (by omega)
 have hold:(Builtin.firstCells inf.size i (.slice (some ⟨b,0,none⟩) i c)).run Tryz.prog w.drew = .ok (cs.toList.take (i * 8)).toArray w.drew:=by
  rw[hsz]
  exact run_firstCells_some w.drew 8 i ⟨b,0,none⟩ i c (cs.toList.take (i * 8)) (by rw[List.length_take,Array.length_toList,hs];omega) (fun j v hj=>by
   rw[A2,Nat.zero_add,show w.drew.cell? ⟨b,j,none⟩=w.cell? ⟨b,j,none⟩from rfl,s9 hh]
   rw[List.getElem?_take]at hj
   split at hj
   ·simpa using hj
   ·cases hj)
 have hik:i+(n+1-i)=n+1:=by omega
 have hkk:(n:Int)+1-(i:Int)=((n+1-i:Nat):Int):=by omega
 have hrz : ∀ty,(Builtin.append_ #[91,3] ty #[.slice (some ⟨b,0,none⟩) i c,.int .i64 ((n:Int)+1-(i:Int))]).run Tryz.prog w =
   .ok (.slice (some ⟨w.heap.size,0,none⟩) (n+1) (grownCap w (n+1) c 127)) (w.drew.alloc (.cells ((cs.toList.take (i * 8)).toArray++Builtin.zeroCells z.cells (n+1-i)++Builtin.zeroCells z.cells (grownCap w (n+1) c 127-(n+1))) 127)):=fun ty=>by
  have h:=Lib.run_append_grow_zeros w 91 3 ty 127 inf z .i64 .i64 Tryz.underlying91 Tryz.underlying3 hinf hz (some ⟨b,0,none⟩) i c (cs.toList.take (i * 8)) hold (n+1-i) (by omega) (by omega) (by omega) (by omega) (by rw[hby];omega) (by rw[hby,hik];exact growslice_fits hroom hbig)
  rw[hik]at h
  rw[hkk]
  exact h
 obtain⟨G,hG⟩ : ∃G,G=grownCap w (n+1) c 127:=⟨_,rfl⟩
 have hGn:n+1≤G:=by rw[hG];exact grownCap_ge w _ _ _
 have hGm:G≤maxLen:=by rw[hG];exact grownCap_le_maxLen w (n+1) c _ (by unfold maxLen;omega)
 have hG63:G≤9223372036854775807:=hGm
 obtain⟨ROW,hROW⟩ : ∃ROW:Array Value,ROW=(cs.toList.take (i * 8)).toArray++Builtin.zeroCells z.cells (n+1-i)++Builtin.zeroCells z.cells (G-(n+1)):=⟨_,rfl⟩
 rw[←hG]at hrz
 rw[←hROW]at hrz
 have hRl:ROW.toList.length=G * 8:=by
  rw[hROW,Array.length_toList]
  simp only[Array.size_append,List.size_toArray,size_zeroCells,hzc,List.length_take,Array.length_toList,hs]
  omega
 have hR0 : ∀o,o<i * 8→ROW.toList[o]? = cs[o]? := fun o ho=>by
  have hl:(cs.toList.take (i * 8)).length=i * 8:=by rw[List.length_take,Array.length_toList,hs];omega
  rw[hROW]
  simp only[Array.toList_append]
  rw[List.append_assoc,List.getElem?_append_left (by rw[List.toList_toArray,hl];exact ho),List.toList_toArray,List.getElem?_take,if_pos ho]
  simp
 have htl:=X8 (i:=i) hs hnc
 have hbw:b<w.heap.size:=by
  rcases Nat.lt_or_ge b w.heap.size with h|h
  ·exact h
  ·rw[Array.getElem?_eq_none h]at hh;cases hh
 have hvw:vb<w.heap.size:=by
  rcases Nat.lt_or_ge vb w.heap.size with h|h
  ·exact h
  ·rw[Array.getElem?_eq_none h]at hvh;cases hvh
 obtain⟨W1,hW1⟩ : ∃W1,W1=w.drew.alloc (.cells ROW 127):=⟨_,rfl⟩
 rw[←hW1]at hrz
 have hN1:W1.heap[w.heap.size]? = some (.cells ROW 127 (0,0)):=by rw[hW1];exact a6F w _
 have hO1 : ∀x,x<w.heap.size→W1.heap[x]? = w.heap[x]? := fun x hx=>by rw[hW1];exact a6E w _ x hx
 obtain⟨R2,hR2⟩ : ∃R2,R2=(putAt ROW.toList (i * 8) us).toArray:=⟨_,rfl⟩
 have hG5:(n+1) * 8≤G * 8:=Nat.mul_le_mul_right _ hGn
 have hR2l:R2.size=G * 8:=by rw[hR2,List.size_toArray,s8 _ _ _ (by rw[hu,hRl];omega),hRl]
 have hcpA : ∀(W:World),W.heap=W1.heap → ∀ty dc,(Builtin.copy_ #[91,91] ty #[.slice (some ⟨w.heap.size,i * 8,none⟩) (n+1-i) dc,.slice (some ⟨vb,voff,none⟩) 1 vc]).run Tryz.prog W = .ok (goInt (1:Nat)) (wrote W w.heap.size (i * 8) ROW us):=fun W hW ty dc =>
  C9 (k:=1) (us:=us) (T:=127) Tryz.underlying91 hinf (by simp only[Nat.min_def];split<;>omega) (by rw[hsz,hu]) (fun j v hj=>by
   rw[A2,s9 (cs:=vcs) (T:=tV) (by rw[hW,hO1 _ hvw];exact hvh)]
   have:=hvs j v hj
   rw[s9 hvh]at this
   exact this) (by rw[hW];exact hN1) (by rw[hu,←Array.length_toList,hRl];omega) h1
 obtain⟨W2,hW2⟩ : ∃W2,W2=wrote W1 w.heap.size (i * 8) ROW us:=⟨_,rfl⟩
 have hcpB : ∀(W:World),W.heap=W2.heap → ∀ty dc sc,(Builtin.copy_ #[91,91] ty #[.slice (some ⟨w.heap.size,(i+1) * 8,none⟩) (n-i) dc,.slice (some ⟨b,i * 8,none⟩) (n-i) sc]).run Tryz.prog W = .ok (goInt (n-i:Nat)) (wrote W w.heap.size ((i+1) * 8) R2 ((cs.toList.take (n * 8)).drop (i * 8))):=fun W hW ty dc sc =>
  C9 (k:=n-i) (us:=(cs.toList.take (n * 8)).drop (i * 8)) (T:=127) Tryz.underlying91 hinf (by simp only[Nat.min_def];split<;>omega) (by rw[hsz,htl]) (fun j v hj=>by
   rw[A2,s9 (cs:=cs) (T:=T) (by rw[hW,hW2,u9 (by omega),hO1 _ hbw];exact hh)]
   have:=hsrc j v hj
   rw[s9 hh]at this
   exact this) (by rw[hW,hW2,hR2];exact A4 hN1) (by rw[htl,hR2l];omega) (fun u hu=>h1c u (List.mem_of_mem_drop hu))
 have hGi : ¬(G=i):=by omega
 have hGim : ¬(G=i+1):=by omega
 have hci : ¬(c=i):=by omega
 have hw1:IntKind.i64.wrap ((n:Int)+1)=((n+1:Nat):Int):=by rw[IntKind.wrap_i64];omega
 have hw2:IntKind.i64.wrap ((i:Int)+1)=((i+1:Nat):Int):=by rw[IntKind.wrap_i64];omega
 have hb1:(0:Int)≤(i:Int)+1:=by omega
 have hin:i≤n:=by omega
 have htn:((i:Int)+1).toNat=i+1:=by omega
 have hb3:(i:Int)≤(n:Int):=by omega
 have hne : ¬((i:Int)=(n:Int)):=by omega
 have hend : ∀W:World,W.heap=(wrote W2 w.heap.size ((i+1) * 8) R2 ((cs.toList.take (n * 8)).drop (i * 8))).heap→W.os=w.os→W.tape=w.tape→W.output=w.output→InsE w W 8 (.slice (some ⟨b,0,none⟩) n c) (.slice (some ⟨w.heap.size,0,none⟩) (n+1) G) n i 1 b c cs us:=fun W hW g1 g2 g3=>by
  refine⟨_,_,_,127,InsM.grow (row:=ROW.toList) hRl hs hnc hGn hGm hi hu hR0 ?_ rfl ?_ (fun x hx => ?_) g1 g2 g3⟩
  ·rw[hW,A4 (T:=127) (by rw[hW2,hR2];exact A4 hN1),a0s,hR2]
  ·rw[hW,hW2,hW1];simp[wrote,World.setRow,World.alloc]
  ·rw[hW,u9 (by omega),hW2,u9 (by omega)];exact hO1 x hx
 clear hkk hik hold hROW hG hRl hR0
 go_enter Tryz.func251,Tryz.ntmps251
 go_wp2_with (first
  |(at_builtin;refine Lib.wpList_append_run _ rfl _ _ _ _ rfl _ _ rfl rfl _ _ (hrz _) ?_)
  |(at_builtin;refine wpList_copy_runI _ rfl _ _ 91 91 rfl _ _ rfl rfl (hcpA _ rfl _ _) ?_))
 go_region_law_o (refine step_copy_runI rfl _ _ 91 91 rfl (.slice (some ⟨w.heap.size,(i+1) * 8,none⟩) (n-i) (G-(i+1))) (.slice (some ⟨b,i * 8,none⟩) (n-i) (c-i)) (by simp[Act.eval,Act.put]) (by simp[Act.eval,Act.put]) (hcpB _ (by rw[hW2,hW1];rfl) _ _ _) ?_)
 go_wp2
 go_ret
 exact⟨.slice (some ⟨w.heap.size,0,none⟩) (n+1) G,rfl,hend _ (by rw[hW2,hW1,hR2];rfl) rfl rfl rfl⟩
theorem d1A (w:World) (b n c vb voff vc T:Nat) (cs:Array Value) (us:List Value) (hn:n≤c) (hc:c≤maxLen) (hh:w.heap[b]? = some (.cells cs T (0,0))) (hs:cs.size=c * 8) (hu:us.length=8)
  (hvs : ∀j v,us[j]? = some v→w.cell? ⟨vb,voff+j,none⟩=some v) (h1 : ∀u∈us,one u) (hb:(n+1) * 128≤140737488355328) :
  Calls Tryz.prog 251 #[.slice (some ⟨b,0,none⟩) n c,.int .i64 n,.slice (some ⟨vb,voff,none⟩) 1 vc] w fun e w' =>
   ∃v,e = .returned v∧InsE w w' 8 (.slice (some ⟨b,0,none⟩) n c) v n n 1 b c cs us:=by
 obtain⟨inf,z,hinf,hsz,hby,hz,hzc⟩:=b0n
 have u25:=run_underlying Tryz.underlying91
 have z38 : ∀w,(sizeOf 127).run Tryz.prog w = .ok 8 w:=fun w=>by simp[sizeOf,typeInfo,hinf,hsz]
 have hc63:c≤9223372036854775807:=hc
 have mixed:=e9.mix
 rcases K4 (P:=Tryz.prog) (ty:=91) (w:=w) Tryz.underlying91 hinf hz hsz hby hzc (Old.row n b c cs T hh hn hc hs) (m:=1) (us:=us) ⟨by rw[hu],.inr (.inr ⟨vb,voff,vc,rfl,hvs⟩)⟩ h1 (by omega) (by simpa using hb)with ⟨_,h,_⟩|⟨v,w',b',cap',cs',T',hr,A⟩
 ·cases h
 ·have hend:InsE w w' 8 _ v _ _ 1 b _ cs us:=⟨_,_,_,_,A.ins⟩
  by_cases hcn:n=c
  ·subst hcn
   go_enter Tryz.func251,Tryz.ntmps251
   go_wp2_with (at_builtin;refine Lib.wpList_append_run _ rfl _ _ _ _ rfl _ _ rfl rfl _ _ hr ?_)
   go_ret
   exact⟨v,rfl,hend⟩
  ·have hcn2 : ¬(c=n):=fun h=>hcn h.symm
   go_enter Tryz.func251,Tryz.ntmps251
   go_wp2_with (at_builtin;refine Lib.wpList_append_run _ rfl _ _ _ _ rfl _ _ rfl rfl _ _ hr ?_)
   go_ret
   exact⟨v,rfl,hend⟩
theorem d1z (w:World) (b vb voff vc T:Nat) (cs:Array Value) (us:List Value) (hcs:cs = #[]) (hu:us.length=8)
  (hvs : ∀j v,us[j]? = some v→w.cell? ⟨vb,voff+j,none⟩=some v) (h1 : ∀u∈us,one u) :
  Calls Tryz.prog 251 #[.slice none 0 0,.int .i64 0,.slice (some ⟨vb,voff,none⟩) 1 vc] w fun e w' =>
   ∃v,e = .returned v∧InsE w w' 8 (.slice none 0 0) v 0 0 1 b 0 cs us:=by
 obtain⟨inf,z,hinf,hsz,hby,hz,hzc⟩:=b0n
 have u25:=run_underlying Tryz.underlying91
 have z38 : ∀w,(sizeOf 127).run Tryz.prog w = .ok 8 w:=fun w=>by simp[sizeOf,typeInfo,hinf,hsz]
 have mixed:=e9.mix
 rcases K4 (P:=Tryz.prog) (ty:=91) (w:=w) Tryz.underlying91 hinf hz hsz hby hzc (Old.nil b 0 cs T hcs rfl) (m:=1) (us:=us) ⟨by rw[hu],.inr (.inr ⟨vb,voff,vc,rfl,hvs⟩)⟩ h1 (by omega) (by omega)with ⟨_,_,_,h⟩|⟨v,w',b',cap',cs',T',hr,A⟩
 ·cases h
 ·go_enter Tryz.func251,Tryz.ntmps251
  have hend:InsE w w' 8 _ v _ _ 1 b _ cs us:=⟨_,_,_,_,A.ins⟩
  go_wp2_with (at_builtin;refine Lib.wpList_append_run _ rfl _ _ _ _ rfl _ _ rfl rfl _ _ hr ?_)
  all_goals go_ret
  all_goals first|exact⟨v,rfl,hend⟩|(have hcn:c=n:=by(first|assumption|(symm;assumption)|omega);subst hcn;exact⟨v,rfl,hend⟩)
theorem d6I:c0W Tryz.prog 251 .hld:=by
 intro w s n b cap cs T i vb vcap vT vcs us hO hi hvb hvh hu hvs h1 h1c hL
 have hs5:RT.size .hld=8:=rfl
 have hb5:RT.bytes .hld=128:=rfl
 rw[hs5]at *
 rw[hb5]at hL
 cases hO with
 |nil _ _ _ _ hcs hcap =>
  have:i=0:=by omega
  subst this
  subst hcap
  exact d1z w b vb 0 vcap T cs us hcs hu hvs h1
 |row _ _ _ _ _ hh hnc hcm hcs =>
  rcases Nat.lt_or_ge i n with hlt|hge
  ·rcases Nat.lt_or_ge cap (n+1)with hr|hr
   ·exact c7E w b n cap i vb 0 vcap T vT cs vcs us hlt hnc hr hcm hh hcs hu hvh hvs h1 h1c hL
   ·exact c7C w b n cap i vb 0 vcap T vT cs vcs us hlt hr hcm hh hcs hu hvh (hvb ⟨_,rfl⟩) hvs h1 h1c
  ·have:i=n:=by omega
   subst this
   exact d1A w b i cap vb 0 vcap T cs us hnc hcm hh hcs hu hvs h1 hL
theorem c7j:b8 Tryz.prog 251 (.raw (insM .hld)) :=
 c2n ⟨_,_,Tryz.func251,by kernel_rfl,rfl⟩ d6I
theorem c8q:(Tryz.prog.info? 127).map (fun i=>(i.zero,i.size,i.bytes))=some (some (.agg #[.int .i64 0,.int .i64 0,.int .i64 0,.slice none 0 0,.int .i64 0,.slice none 0 0,.slice none 0 0,.slice none 0 0]),8,128):=by kernel_rfl
theorem d2y (w:World) (n b c:Nat) (cs:Array Value) (T i:Nat) (hh:w.heap[b]? = some (.cells cs T (0,0))) (hnc:n≤c) (hc:c≤maxLen) (hs:cs.size=c * 8) (hi:i<n) (h1c : ∀u∈cs.toList.take (n * 8),one u) :
  Calls Tryz.prog 254 #[.slice (some ⟨b,0,none⟩) n c,.int .i64 i,.int .i64 ((i:Int)+1)] w fun e w' => ∃v cs',e = .returned v∧DelE w w' 8 v n i b c cs T cs':=by
 obtain⟨inf,hinf,hz,hsz,hby⟩:=info_parts c8q
 obtain⟨Z,hZ⟩ : ∃Z:Value,Z = .agg #[.int .i64 0,.int .i64 0,.int .i64 0,.slice none 0 0,.int .i64 0,.slice none 0 0,.slice none 0 0,.slice none 0 0]:=⟨_,rfl⟩
 rw[←hZ]at hz
 have hzc:(Value.cells Z).size=8:=by rw[hZ];rfl
 have hzv : ∀w,(zeroValue 127).run Tryz.prog w = .ok Z w:=fun w=>by simp[zeroValue,typeInfo,hinf,hz]
 have hz1 : ∀u∈(Value.cells Z).toList,one u:=by
  intro u hu
  rw[hZ]at hu
  simp[Value.cells]at hu
  first|(subst hu;rfl)|(rcases hu with rfl|rfl|rfl|rfl<;>rfl)
 clear hZ
 have u25:=run_underlying Tryz.underlying91
 have z38 : ∀w,(sizeOf 127).run Tryz.prog w = .ok 8 w:=fun w=>by simp[sizeOf,typeInfo,hinf,hsz]
 have mixed:=e9.mix
 have hc63:c≤9223372036854775807:=hc
 obtain⟨e1,e2,e3,e4,e5,e6,e7⟩:=a9W (cs:=cs) (zs:=(Value.cells Z).toList) hs hnc hi (by rw[Array.length_toList];exact hzc)
 obtain⟨us,hus⟩ : ∃us,us=(cs.toList.take (n * 8)).drop ((i+1) * 8):=⟨_,rfl⟩
 rw[←hus]at e1 e2 e3
 obtain⟨A,hA,hsrc⟩ : ∃A:Addr,(if c=i+1 then some (⟨b,0,none⟩:Addr)else some ⟨b,(i+1) * 8,none⟩)=some A∧(∀j v,us[j]? = some v→w.drew.cell? (A.add j)=some v):=by
  by_cases h:c=i+1
  ·refine⟨⟨b,0,none⟩,by simp[h],fun j v hj => ?_⟩
   have h0:us.length=0:=by rw[e1,show n-(i+1)=0 by omega,Nat.zero_mul]
   rw[List.length_eq_zero_iff.1 h0]at hj
   simp at hj
  ·refine⟨⟨b,(i+1) * 8,none⟩,by simp[h],fun j v hj => ?_⟩
   rw[hus,List.getElem?_drop,List.getElem?_take]at hj
   rw[A2,show w.drew.cell? ⟨b,(i+1) * 8+j,none⟩=w.cell? ⟨b,(i+1) * 8+j,none⟩from rfl,s9 hh]
   split at hj
   ·simpa using hj
   ·cases hj
 have h1u : ∀u∈us,one u:=fun u hu=>h1c u (by rw[hus]at hu;exact List.mem_of_mem_drop hu)
 obtain⟨W1,hW1⟩ : ∃W1,W1=wrote w.drew b (i * 8) cs us:=⟨_,rfl⟩
 have hap : ∀ty,(Builtin.append_ #[91,91] ty #[.slice (some ⟨b,0,none⟩) i c,.slice (some A) (n-(i+1)) (c-(i+1))]).run Tryz.prog w.drew = .ok (.slice (some ⟨b,0,none⟩) (i+(n-(i+1))) c) W1:=fun ty=>by
  have:=a5J (P:=Tryz.prog) (w:=w.drew) (ty:=ty) (T:=91) (b:=b) (n:=i) (cap:=c) (m:=n-(i+1)) (capx:=c-(i+1)) (a:=A) (cs:=cs) (us:=us) (T0:=T) Tryz.underlying91 hinf hh (by rw[hsz];exact e1) hsrc (by omega) (by rw[hsz];exact hs) h1u
  rw[this,hsz,hW1]
 have hh1:W1.heap[b]? = some (.cells (putAt cs.toList (i * 8) us).toArray T (0,0)):=by rw[hW1];exact A4 hh
 have hin:i+(n-(i+1))=n-1:=by omega
 rw[hin]at hap
 have hcl : ∀(W:World),W.heap=W1.heap → ∀ty cc,(Builtin.clear_ #[91] ty #[.slice (some ⟨b,(n-1) * 8,none⟩) 1 cc]).run Tryz.prog W = .ok (.tuple #[]) (wrote W b ((n-1) * 8) (putAt cs.toList (i * 8) us).toArray (Value.cells Z).toList):=fun W hW ty cc =>
  a5I (T0:=T) Tryz.underlying91 hzv (by rw[hW];exact hh1) (by rw[e3];rw[Array.length_toList]at e4;exact e4) hz1
 have hend : ∀W:World,W.heap=(wrote W1 b ((n-1) * 8) (putAt cs.toList (i * 8) us).toArray (Value.cells Z).toList).heap→W.os=w.os→W.tape=w.tape→W.output=w.output→DelE w W 8 (.slice (some ⟨b,0,none⟩) (n-1) c) n i b c cs T (closed cs 8 n i (Value.cells Z).toList):=fun W hW g1 g2 g3=>by
  refine⟨rfl,?_,e5,e6,e7,g1,g2,g3,?_,fun x hx => ?_⟩
  ·rw[hW,A4 hh1,closed,←hus]
  ·rw[hW,hW1];simp[wrote,World.setRow]
  ·rw[hW,u9 hx,hW1,u9 hx];rfl
 have hw2:IntKind.i64.wrap ((i:Int)+1)=((i+1:Nat):Int):=by rw[IntKind.wrap_i64];omega
 have hci : ¬(c=n-1):=by omega
 have hne : ¬((i:Int)=(i:Int)+1):=by omega
 have htn:((i:Int)+1).toNat=i+1:=by omega
 have hb1:(0:Int)≤(i:Int)+1:=by omega
 have hb2:(i:Int)+1≤(n:Int):=by omega
 have hb3:(i:Int)+1≤(c:Int):=by omega
 have hb4:i≤c:=by omega
 have hb5:(i:Int)≤(i:Int)+1:=by omega
 have hb6:n-(n-1)=1:=by omega
 have hb7:n-1≤n:=by omega
 have g1:W1.os=w.os:=by rw[hW1];rfl
 have g2:W1.tape=w.tape:=by rw[hW1];rfl
 have g3:W1.output=w.output:=by rw[hW1];rfl
 obtain⟨zs,hzs⟩ : ∃zs,zs=(Value.cells Z).toList:=⟨_,rfl⟩
 rw[←hzs]at hcl hend
 clear hzs hzv hz1 hzc hW1
 clear hinf hz hby e1 e2 e3 e4 e5 e6 e7 h1u hsrc hh1 h1c hus
 go_enter Tryz.func254,Tryz.ntmps254
 go_wp2_with fail
 go_region_law_o (refine a2P rfl (.tmp 22) (.tmp 25) 91 rfl _ _ (by simp[Act.eval,Act.put]) (by simp[Act.eval,Act.put]) (hap _) ?_)
 go_wp2_with (at_builtin;refine a1Y _ rfl _ 91 rfl _ rfl (hcl _ rfl _ _) ?_)
 all_goals go_ret
 all_goals exact⟨.slice (some ⟨b,0,none⟩) (n-1) c,_,rfl,hend _ rfl g1 g2 g3⟩
theorem d6Y:c5R Tryz.prog 254 .hld:=fun w n b cap cs T i hh h1 h2 h3 h4 h5 _=>d2y w n b cap cs T i hh h1 h2 h3 h4 h5
theorem c7m:b8 Tryz.prog 254 (.raw (delM .hld)) :=
 d2v ⟨_,_,Tryz.func254,by kernel_rfl,rfl⟩ d6Y
end Go.Proofs.YtihaeoicjglieaaGreat
namespace Go.Mo
open Go.Sx
theorem c3u {a b:Srv}:a=b↔a.up=b.up∧a.holds=b.holds∧a.n9=b.n9:=by
 cases a;cases b;simp
theorem d1b {a b:Note}:a=b↔a.who=b.who∧a.seq=b.seq∧a.code=b.code:=by
 cases a;cases b;simp
theorem d6j {a b:OW}:a=b↔a.wlk=b.wlk∧a.here=b.here:=by
 cases a;cases b;simp
theorem c4Q {a b:PMap}:a=b↔a.cells=b.cells∧a.width=b.width:=by
 cases a;cases b;simp
theorem d3Y {a b:One}:a=b↔a.map=b.map∧a.wlks=b.wlks∧a.ground=b.ground∧a.air=b.air:=by
 cases a;cases b;simp
theorem d5i {a b:Arb}:a=b↔a.servers=b.servers∧a.ages=b.ages:=by
 cases a;cases b;simp
theorem d3m {a b:Wld}:a=b↔a.map=b.map∧a.servers=b.servers∧a.stores=b.stores∧a.table=b.table∧a.rows=b.rows∧a.net=b.net∧a.notes=b.notes:=by
 cases a;cases b;simp
end Go.Mo
namespace Go.Proofs.YtihaeoicjglieaaGreat
open Go.Sx Go.Proofs Go.Mo
noncomputable def b3U:Sx.Spec:=⟨false,true,[.list .gst,.list .gst],[],fun _ _ ⟨a,b,_⟩ => .ret (vB fun _=>decide (a ()=b ()),fun _=>0)⟩
noncomputable def a8E:Sx.Spec:=⟨false,true,[.list .msg,.list .msg],[],fun _ _ ⟨a,b,_⟩ => .ret (vB fun _=>decide (a ()=b ()),fun _=>0)⟩
noncomputable def a0O:Sx.Spec:=⟨false,true,[.list .note,.list .note],[],fun _ _ ⟨a,b,_⟩ => .ret (vB fun _=>decide (a ()=b ()),fun _=>0)⟩
noncomputable def a0k:Sx.Spec:=⟨false,true,[.list .sto,.list .sto],[],fun _ _ ⟨a,b,_⟩ => .ret (vB fun _=>decide (a ()=b ()),fun _=>0)⟩
noncomputable def a0l:Sx.Spec:=⟨false,true,[.list .srv,.list .srv],[],fun _ _ ⟨a,b,_⟩ => .ret (vB fun _=>decide (a ()=b ()),fun _=>0)⟩
noncomputable def sIsV:Sx.Spec:=⟨false,true,[.row .srv,.row .srv],[],fun _ _ ⟨a,b,_⟩ => .ret (vB fun _=>decide (a ()=b ()),fun _=>0)⟩
noncomputable def a4p:Sx.Spec:=⟨false,true,[.row .wld,.row .wld],[],fun _ _ ⟨a,b,_⟩ => .ret (vB fun _=>decide (a ()=b ()),fun _=>0)⟩
noncomputable def c9K:Sx.Spec:=⟨false,true,[.one,.one],[],fun _ _ ⟨a,b,_⟩ => .ret (vB fun _=>decide (a ()=b ()),fun _=>0)⟩
theorem c1Y:b8 Tryz.prog 93 b3U:=j4 e9 (ss := []) trivial rfl rfl<|by
 intro(bs:Th (List Int)) (p:Th Int) ⟨(a:Th (List Gst)),(b:Th (List Gst)),u⟩ K _ _ ho h
 obtain⟨a,rfl⟩:=b6 a;obtain⟨b,rfl⟩:=b6 b
 have hl:=okL (ho.1 _ (.head _))
 refine⟨annL [(93,4,⟨Nat,[],fun σ k => σ.t 5 (vI fun _=>(k:Int)),fun _ k _=>k≤a.length∧a.length=b.length∧same .gst a b k,fun _ k _=>a.length-k⟩)],noAnn,20,?_⟩
 cbv
 repeat' first|((with_reducible refine fun(k:Nat) => ?_);cbv)|((with_reducible intro _);cbv)|(with_reducible refine And.intro ?_ ?_)
 all_goals try((first|(with_reducible refine LoopIn.mk ((0:Nat)) ?_ ?_)|(with_reducible refine LoopBack.mk ((k+1:Nat)) ?_ ?_ ?_)) )
 all_goals try((with_reducible show m0 _ _);cbv;(try simp only[and_true,true_and]))
 all_goals try(repeat' with_reducible refine And.intro ?_ ?_)
 all_goals first|(refine retK h ?_;clear h;simp only[fin0])|(with_reducible refine Ob.mk ?_;clear h)|(clear h)
 all_goals(try simp only[eta0,RT.bytes]at *)
 all_goals grind[j3,J7,J8,N6,c4Z,a5a]
theorem a7D:b8 Tryz.prog 35 a8E:=j4 e9 (ss := []) trivial rfl rfl<|by
 intro(bs:Th (List Int)) (p:Th Int) ⟨(a:Th (List Msg)),(b:Th (List Msg)),u⟩ K _ _ ho h
 obtain⟨a,rfl⟩:=b6 a;obtain⟨b,rfl⟩:=b6 b
 have hl:=okL (ho.1 _ (.head _))
 refine⟨annL [(35,4,⟨Nat,[],fun σ k => σ.t 5 (vI fun _=>(k:Int)),fun _ k _=>k≤a.length∧a.length=b.length∧same .msg a b k,fun _ k _=>a.length-k⟩)],noAnn,20,?_⟩
 cbv
 repeat' first|((with_reducible refine fun(k:Nat) => ?_);cbv)|((with_reducible intro _);cbv)|(with_reducible refine And.intro ?_ ?_)
 all_goals try((first|(with_reducible refine LoopIn.mk ((0:Nat)) ?_ ?_)|(with_reducible refine LoopBack.mk ((k+1:Nat)) ?_ ?_ ?_)) )
 all_goals try((with_reducible show m0 _ _);cbv;(try simp only[and_true,true_and]))
 all_goals try(repeat' with_reducible refine And.intro ?_ ?_)
 all_goals first|(refine retK h ?_;clear h;simp only[fin0])|(with_reducible refine Ob.mk ?_;clear h)|(clear h)
 all_goals(try simp only[eta0,RT.bytes]at *)
 all_goals grind[j3,J7,J8,N6,d4u,a7r,b6f,c4Z,a5a]
theorem a0q:b8 Tryz.prog 39 a0O:=j4 e9 (ss := []) trivial rfl rfl<|by
 intro(bs:Th (List Int)) (p:Th Int) ⟨(a:Th (List Note)),(b:Th (List Note)),u⟩ K _ _ ho h
 obtain⟨a,rfl⟩:=b6 a;obtain⟨b,rfl⟩:=b6 b
 have hl:=okL (ho.1 _ (.head _))
 refine⟨annL [(39,4,⟨Nat,[],fun σ k => σ.t 5 (vI fun _=>(k:Int)),fun _ k _=>k≤a.length∧a.length=b.length∧same .note a b k,fun _ k _=>a.length-k⟩)],noAnn,20,?_⟩
 cbv
 repeat' first|((with_reducible refine fun(k:Nat) => ?_);cbv)|((with_reducible intro _);cbv)|(with_reducible refine And.intro ?_ ?_)
 all_goals try((first|(with_reducible refine LoopIn.mk ((0:Nat)) ?_ ?_)|(with_reducible refine LoopBack.mk ((k+1:Nat)) ?_ ?_ ?_)) )
 all_goals try((with_reducible show m0 _ _);cbv;(try simp only[and_true,true_and]))
 all_goals try(repeat' with_reducible refine And.intro ?_ ?_)
 all_goals first|(refine retK h ?_;clear h;simp only[fin0])|(with_reducible refine Ob.mk ?_;clear h)|(clear h)
 all_goals(try simp only[eta0,RT.bytes]at *)
 all_goals grind[j3,J7,J8,N6,d1b]
theorem a0p:b8 Tryz.prog 37 a0k:=j4 e9 (ss := [(92,sIsS)]) ⟨c7i,trivial⟩ rfl rfl<|by
 intro(bs:Th (List Int)) (p:Th Int) ⟨(a:Th (List Sto)),(b:Th (List Sto)),u⟩ K _ _ ho h
 obtain⟨a,rfl⟩:=b6 a;obtain⟨b,rfl⟩:=b6 b
 have hl:=okL (ho.1 _ (.head _))
 refine⟨annL [(37,4,⟨Nat,[],fun σ k => σ.t 5 (vI fun _=>(k:Int)),fun _ k _=>k≤a.length∧a.length=b.length∧same .sto a b k,fun _ k _=>a.length-k⟩)],noAnn,20,?_⟩
 cbv
 repeat' first|((with_reducible refine fun(k:Nat) => ?_);cbv)|((with_reducible intro _);cbv)|(with_reducible refine And.intro ?_ ?_)
 all_goals try((first|(with_reducible refine LoopIn.mk ((0:Nat)) ?_ ?_)|(with_reducible refine LoopBack.mk ((k+1:Nat)) ?_ ?_ ?_)) )
 all_goals try((with_reducible show m0 _ _);cbv;(try simp only[and_true,true_and]))
 all_goals try(repeat' with_reducible refine And.intro ?_ ?_)
 all_goals first|(refine retK h ?_;clear h;simp only[fin0])|(with_reducible refine Ob.mk ?_;clear h)|(clear h)
 all_goals(try simp only[eta0,RT.bytes]at *)
 all_goals grind[j3,J7,J8,N6]
theorem b1F:b8 Tryz.prog 40 sIsV:=j4 e9 (ss := [(93,b3U),(94,sIsH)]) ⟨c1Y,d0J,trivial⟩ rfl rfl<|by
 intro(bs:Th (List Int)) (p:Th Int) ⟨(a:Th Srv),(b:Th Srv),u⟩ K _ _ ho h
 obtain⟨a,rfl⟩:=b6 a;obtain⟨b,rfl⟩:=b6 b
 have hl:=okL (ho.1 _ (.tail _ (.head _)))
 refine⟨annL [(40,4,⟨Nat,[],fun σ k => σ.t 5 (vI fun _=>(k:Int)),fun _ k _=>k≤a.holds.length∧a.holds.length=b.holds.length∧a.up=b.up∧a.n9=b.n9∧same .hld a.holds b.holds k,fun _ k _=>a.holds.length-k⟩)],noAnn,20,?_⟩
 cbv
 repeat' first|((with_reducible refine fun(k:Nat) => ?_);cbv)|((with_reducible intro _);cbv)|(with_reducible refine And.intro ?_ ?_)
 all_goals try((first|(with_reducible refine LoopIn.mk ((0:Nat)) ?_ ?_)|(with_reducible refine LoopBack.mk ((k+1:Nat)) ?_ ?_ ?_)) )
 all_goals try((with_reducible show m0 _ _);cbv;(try simp only[and_true,true_and]))
 all_goals try(repeat' with_reducible refine And.intro ?_ ?_)
 all_goals first|(refine retK h ?_;clear h;simp only[fin0])|(with_reducible refine Ob.mk ?_;clear h)|(clear h)
 all_goals(try simp only[eta0,RT.bytes]at *)
 all_goals grind[j3,J7,J8,N6,c3u]
theorem a0S:b8 Tryz.prog 38 a0l:=j4 e9 (ss := [(40,sIsV)]) ⟨b1F,trivial⟩ rfl rfl<|by
 intro(bs:Th (List Int)) (p:Th Int) ⟨(a:Th (List Srv)),(b:Th (List Srv)),u⟩ K _ _ ho h
 obtain⟨a,rfl⟩:=b6 a;obtain⟨b,rfl⟩:=b6 b
 have hl:=okL (ho.1 _ (.head _))
 refine⟨annL [(38,4,⟨Nat,[],fun σ k => σ.t 5 (vI fun _=>(k:Int)),fun _ k _=>k≤a.length∧a.length=b.length∧same .srv a b k,fun _ k _=>a.length-k⟩)],noAnn,20,?_⟩
 cbv
 repeat' first|((with_reducible refine fun(k:Nat) => ?_);cbv)|((with_reducible intro _);cbv)|(with_reducible refine And.intro ?_ ?_)
 all_goals try((first|(with_reducible refine LoopIn.mk ((0:Nat)) ?_ ?_)|(with_reducible refine LoopBack.mk ((k+1:Nat)) ?_ ?_ ?_)) )
 all_goals try((with_reducible show m0 _ _);cbv;(try simp only[and_true,true_and]))
 all_goals try(repeat' with_reducible refine And.intro ?_ ?_)
 all_goals first|(refine retK h ?_;clear h;simp only[fin0])|(with_reducible refine Ob.mk ?_;clear h)|(clear h)
 all_goals(try simp only[eta0,RT.bytes]at *)
 all_goals grind[j3,J7,J8,N6]
theorem a0o:b8 Tryz.prog 29 a4p:=j4 e9 (ss := [(38,a0l),(37,a0k),(18,sIsI),(36,sIsB),(35,a8E),(39,a0O)]) ⟨a0S,a0p,a1K,a3c,a7D,a0q,trivial⟩ rfl rfl<|by
 intro(bs:Th (List Int)) (p:Th Int) ⟨(a:Th Wld),(b:Th Wld),u⟩ K _ _ ho h
 obtain⟨a,rfl⟩:=b6 a;obtain⟨b,rfl⟩:=b6 b
 refine⟨noAnn,noAnn,20,?_⟩
 cbv
 repeat' first|((with_reducible intro _);cbv)|(with_reducible refine And.intro ?_ ?_)
 all_goals first|(refine retK h ?_;clear h;simp only[fin0])|(with_reducible refine Ob.mk ?_;clear h)|(clear h)
 all_goals(try simp only[eta0,RT.bytes]at *)
 all_goals grind(splits:=30) [d3m,d5i,c4Q]
theorem d4k:b8 Tryz.prog 19 c9K:=j4 e9 (ss := [(18,sIsI)]) ⟨a1K,trivial⟩ rfl rfl<|by
 intro(bs:Th (List Int)) (p:Th Int) ⟨(a:Th One),(b:Th One),u⟩ K _ _ ho h
 obtain⟨a,rfl⟩:=b6 a;obtain⟨b,rfl⟩:=b6 b
 have hl:=okL (ho.1 _ (.tail _ (.tail _ (.head _))))
 have hl2:=okL (ho.1 _ (.tail _ (.tail _ (.tail _ (.tail _ (.head _))))))
 refine⟨annL [(19,4,⟨Nat,[],fun σ k => σ.t 5 (vI fun _=>(k:Int)),fun _ k _=>k≤a.wlks.length∧a.wlks.length=b.wlks.length∧a.map=b.map∧a.ground=b.ground∧a.air.length=b.air.length∧same .ow a.wlks b.wlks k,fun _ k _=>a.wlks.length-k⟩),
  (19,9,⟨Nat,[],fun σ k => σ.t 6 (vI fun _=>(k:Int)),fun _ k _=>k≤a.air.length∧a.map=b.map∧a.wlks=b.wlks∧a.ground=b.ground∧a.air.length=b.air.length∧same .ints a.air b.air k,fun _ k _=>a.air.length-k⟩)],noAnn,20,?_⟩
 cbv
 repeat' first|((with_reducible refine fun(k:Nat) => ?_);cbv)|((with_reducible intro _);cbv)|(with_reducible refine And.intro ?_ ?_)
 all_goals try((first|(with_reducible refine LoopIn.mk ((0:Nat)) ?_ ?_)|(with_reducible refine LoopBack.mk ((k+1:Nat)) ?_ ?_ ?_)) )
 all_goals try((with_reducible show m0 _ _);cbv;(try simp only[and_true,true_and]))
 all_goals try(repeat' with_reducible refine And.intro ?_ ?_)
 all_goals first|(refine retK h ?_;clear h;simp only[fin0])|(with_reducible refine Ob.mk ?_;clear h)|(clear h)
 all_goals(try simp only[eta0,RT.bytes]at *)
 all_goals grind(splits:=30) [j3,J7,J8,N6,d6j,a5a,d3Y,c4Q]
end Go.Proofs.YtihaeoicjglieaaGreat
