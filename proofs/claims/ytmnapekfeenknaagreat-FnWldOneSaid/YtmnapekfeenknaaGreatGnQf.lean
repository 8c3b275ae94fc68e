/-
  Contracts: a world in new memory, the program's way; one message taken out.
-/
import Derived.Test.YtmnapekfeenknaaGreatFy
import Derived.Test.YtmnapekfeenknaaGreatMy
import Derived.Test.YtmnapekfeenknaaGreatGnVe
import Derived.Test.YtmnapekfeenknaaGreatGsD
import Derived.Test.YtmnapekfeenknaaGreatM3
import Derived.Test.YtmnapekfeenknaaGreatTok
import Derived.Test.YtmnapekfeenknaaGreatS5
import Derived.Test.YtmnapekfeenknaaGreatGnE
import Derived.Test.YtmnapekfeenknaaGreatM2
import Derived.Test.YtmnapekfeenknaaGreatGnC
import Derived.Test.YtmnapekfeenknaaGreatGnM
import Derived.Test.YtmnapekfeenknaaGreatGnO
import Derived.Test.YtmnapekfeenknaaGreatGnP
set_option linter.unusedVariables false
set_option linter.unusedSimpArgs false
set_option maxRecDepth 100000
set_option maxHeartbeats 8000000
namespace Go.Proofs.YtmnapekfeenknaaGreat
open Go.Sx Go.Proofs Go.Mo
noncomputable def b4Y:Sx.Spec:=⟨false,true,[.arb],[[some .int,some .int]],fun _ _ ⟨t,_⟩ => .ret (oArb t,fun _=>0)⟩
noncomputable def a9v:SpecX := .raw (b8w (delM .msg))
theorem b2y:b9 Tryz.prog 159 a9v:=b6x c8x ⟨_,_,Tryz.func159,by kernel_rfl,rfl⟩
theorem c3c:b9 Tryz.prog 151 b4Y:=j5 j3 (ss := []) trivial rfl rfl<|by
 intro(bs:Th (List Int)) (p:Th Int) ⟨(t:Th Arb),u⟩ K _ _ ho h
 obtain⟨t,rfl⟩:=b6 t
 have hl:=okB (ho.1 _ (.head _))
 have hl2:=okB (ho.1 _ (.tail _ (.head _)))
 refine⟨noAnn,noAnn,20,?_⟩
 cbv
 repeat' first|((with_reducible intro _);cbv)|(with_reducible refine And.intro ?_ ?_)
 all_goals first|(refine retK h ?_;clear h;simp only[fin0])|(with_reducible refine Ob.mk ?_;clear h)|(clear h)
 all_goals(try simp only[eta0,RT.bytes]at *)
 all_goals(try grind)
theorem c3b:b9 Tryz.prog 101 b6L:=j5 j3 (ss := [(150,a4Z),(151,b4Y),(152,a5S),(153,a7Q)]) ⟨c8z,c3c,d2i,d2g,trivial⟩ rfl rfl<|by
 intro(bs:Th (List Int)) (p:Th Int) ⟨(w:Th Wld),u⟩ K _ _ ho h
 obtain⟨w,rfl⟩:=b6 w
 have hb0:=okB (ho.1 _ (.tail _ (.tail _ (.head _))))
 have hb3:=okB (ho.1 _ (.tail _ (.tail _ (.tail _ (.tail _ (.head _))))))
 have hb4:=okB (ho.1 _ (.tail _ (.tail _ (.tail _ (.tail _ (.tail _ (.head _)))))))
 have hb6:=okB (ho.1 _ (.tail _ (.tail _ (.tail _ (.tail _ (.tail _ (.tail _ (.tail _ (.head _)))))))))
 have hb7:=okB (ho.1 _ (.tail _ (.tail _ (.tail _ (.tail _ (.tail _ (.tail _ (.tail _ (.tail _ (.head _))))))))))
 have hs:=fun k => @J7 .srv w.servers k
 have hz:=a0Z w.servers
 refine⟨annL [(101,4,⟨Nat,[⟨.cell 4 2,some 500,.srv⟩],fun σ k=>(((σ.only [1,2,3,27,28]).t 29 (vI fun _=>(k:Int))).u9 4 2 (.own 500 1)).row 500 1 .srv (fun _=>pre w.servers k),fun _ k _=>k≤w.servers.length,fun _ k _=>w.servers.length-k⟩)],noAnn,20,?_⟩
 cbv
 repeat' first|((with_reducible refine fun(k:Nat) => ?_);cbv)|((with_reducible intro _);cbv)|(with_reducible refine And.intro ?_ ?_)
 all_goals try((first|(with_reducible refine LoopIn.mk ((0:Nat)) ?_ ?_)|(with_reducible refine LoopBack.mk ((k+1:Nat)) ?_ ?_ ?_)) )
 all_goals try((with_reducible show l9 _ _);cbv;(try simp only[and_true,true_and]))
 all_goals try(repeat' with_reducible refine And.intro ?_ ?_)
 all_goals first|(refine retK h ?_;clear h;simp only[fin0])|(with_reducible refine Ob.mk ?_;clear h)|(clear h)
 all_goals(try simp only[eta0,RT.bytes]at *)
 all_goals(try grind[X4,a1a,j4])
def tabB (t:Arb) (v:Int):Prop:=t.servers.length=t.ages.length∧t.servers.length≤4∧0≤v∧v≤3 ∧ ∀k,k<t.ages.length → @LE.le Int _ 0 (nth .int t.ages k) ∧ @LE.le Int _ (nth .int t.ages k) 900
noncomputable def c4Q:Sx.Io:=⟨.arb,true,[.int .i64,.int .i64,.int .i64],[],fun t ⟨v,c,s,_⟩ => .asrt (fun _=>tabB (t ()) (v ())) (.ret (vB fun _=>(s6 (t ()) (v ()) (c ()) (s ())).ok,fun _=>(s6 (t ()) (v ()) (c ()) (s ())).t))⟩
noncomputable def c2p:Sx.Io:=⟨.row .wld,true,[.list .msg],[],fun w ⟨l,_⟩ => .asrt (fun _=>(w ()).net.length≤40∧(l ()).length≤1000) (.ret (.tup [],fun _=>x8 (w ()) (l ())))⟩
theorem d2A (n:Nat):(NatCast.natCast n:Int)=(n:Int):=rfl
theorem d2c:b9 Tryz.prog 154 (ioX c4Q):=io1 j3 (ss := [(50,sIn)]) ⟨okIn,trivial⟩ rfl rfl<|by
 intro(t:Th Arb) ⟨(v:Th Int),(c:Th Int),(s:Th Int),u⟩ K _ ho h
 obtain⟨t,rfl⟩:=b6 t;obtain⟨v,rfl⟩:=b6 v;obtain⟨c,rfl⟩:=b6 c;obtain⟨s,rfl⟩:=b6 s
 obtain⟨ha,h⟩:=h
 have ha:=ha.out
 have ha:tabB t v:=ha
 have h1:IntKind.i64.wrap ((t.servers.length:Int)-1)=(t.servers.length:Int)-1:=e9 (by have:=ha.2.1;omega) (by have:=ha.2.1;omega)
 have h2:IntKind.i64.wrap (v-1)=v-1:=e9 (by have:=ha.2.2.1;dsimp only at *;omega) (by have:=ha.2.2.2.1;dsimp only at *;omega)
 have h3:0≤c→c<(t.ages.length:Int)→IntKind.i64.wrap (nth .int t.ages c.toNat+1)=nth .int t.ages c.toNat+1:=fun a b=>by
  have:=ha.2.2.2.2 c.toNat (by dsimp only at *;omega)
  exact e9 (by dsimp only[RT.ty]at *;omega) (by dsimp only[RT.ty]at *;omega)
 refine⟨noAnn,noAnn,20,?_⟩
 cbv
 repeat' first|((with_reducible intro _);cbv)|(with_reducible refine And.intro ?_ ?_)
 all_goals first|refine ioK h ?_ ?_|(with_reducible refine Ob.mk ?_;clear h)|(clear h)
 all_goals(try clear h)
 all_goals(try clear K)
 all_goals(try simp only[fin0])
 all_goals(try simp only[eta0,RT.bytes]at *)
 all_goals(try dsimp only[RT.ty]at *)
 all_goals(try simp only[d2A]at *)
 all_goals(try rw[h1]at *)
 all_goals(try rw[h2]at *)
 all_goals(try simp only[z8]at *)
 all_goals grind[inR,s6,tabB]
theorem c6W {k:Nat} (h:k≤1000):(IntKind.i64.wrap ((k:Int)+1)).toNat=k+1:=by rw[j4 (by omega)];rfl
theorem c7u {a l:List Msg} {k:Nat} (hk:k<l.length) (h:((a.length+((l.take k).take (40-a.length)).length:Nat):Int)<40):a++(l.take k).take (40-a.length) ++ [nth .msg l k]=a++(l.take (k+1)).take (40-a.length):=by
 rw[List.length_take,List.length_take]at h
 have h1:k<40-a.length:=by omega
 rw[List.take_take,List.take_take,Nat.min_eq_right (by omega),Nat.min_eq_right (by omega),List.take_succ_eq_append_getElem hk,k9 .msg l k hk,List.append_assoc]
theorem c7v {a l:List Msg} {k:Nat} (hk:k<l.length) (h : ¬((a.length+((l.take k).take (40-a.length)).length:Nat):Int)<40):a++(l.take k).take (40-a.length)=a++(l.take (k+1)).take (40-a.length):=by
 rw[List.length_take,List.length_take]at h
 have h1:40-a.length≤k:=by omega
 rw[List.take_take,List.take_take,Nat.min_eq_left (by omega),Nat.min_eq_left (by omega)]
theorem c5w:b9 Tryz.prog 155 (ioX c2p):=io1 j3 (ss := []) trivial rfl rfl<|by
 intro(w:Th Wld) ⟨(l:Th (List Msg)),u⟩ K _ ho h
 obtain⟨w,rfl⟩:=b6 w;obtain⟨l,rfl⟩:=b6 l
 obtain⟨ha,h⟩:=h
 have ha:=ha.out
 have ha:w.net.length≤40∧l.length≤1000:=ha
 refine⟨annL [(155,1,⟨Th Int×Th Bool,[⟨.cell 0 7,some 500,.msg⟩],fun σ g=>((((σ.only [0,6,7]).h 8 (1,.dead)).t 8 (.one (.att (.int .i64 g.1)))).u9 0 7 (.own 500 1)).row 500 1 .msg (fun _=>w.net++(l.take (g.1 ()).toNat).take (40-w.net.length)),fun _ g _=>Ob fun _=>0≤g.1 ()∧g.1 ()≤l.length,fun _ g _=>l.length-(g.1 ()).toNat⟩)],noAnn,20,?_⟩
 cbv
 repeat' first|((with_reducible refine fun(g:Th Int×Th Bool) => ?_);obtain⟨k,z⟩:=g;obtain⟨k,rfl⟩:=b6 k;obtain⟨z,rfl⟩:=b6 z;(with_reducible refine ImpB.out ?_);cbv;(with_reducible refine ImpB.mk ?_);intro hq;obtain⟨hq⟩:=hq;have hq0:=hq.1;obtain⟨k,rfl⟩:=Int.eq_ofNat_of_zero_le hq0;clear hq0)|((with_reducible intro _);cbv)|(with_reducible refine And.intro ?_ ?_)
 all_goals try((first|(with_reducible refine LoopIn.wf (fun σ => (σ.tmI 8,r7)) ?_ ?_)|(with_reducible refine LoopBack.wf (fun σ => (σ.tmI 8,r7)) ?_ ?_ ?_))<;>cbv)
 all_goals try(with_reducible show _∧_;(try simp only[and_true,true_and]))
 all_goals try(repeat' with_reducible refine And.intro ?_ ?_)
 all_goals try(with_reducible refine MeasB.mk ?_)
 all_goals first|refine ioK h ?_ ?_|(with_reducible refine Ob.mk ?_;clear h)|(clear h)
 all_goals(try clear h)
 all_goals(try clear K)
 all_goals(try simp only[fin0])
 all_goals(try simp only[eta0,RT.bytes]at *)
 all_goals(try dsimp only[RT.ty]at *)
 all_goals(try simp only[d2A,Int.toNat_natCast,Int.toNat_zero]at *)
 all_goals(try simp(disch:=omega) only[c6W,j4,Int.toNat_natCast])
 all_goals first|omega|rfl|exact(c7u ‹_› ‹_›)|exact(c7v ‹_› ‹_›)|grind[x8,List.length_append,List.length_take,List.take_of_length_le]
end Go.Proofs.YtmnapekfeenknaaGreat
namespace Go.Proofs.YtmnapekfeenknaaGreat
open Go.Sx Go.Proofs Go.RowKit
theorem c8Q:(Tryz.prog.info? 132).map (fun i=>(i.zero,i.size,i.bytes))=some (some (.agg #[.int .i64 0,.int .i64 0,.int .i64 0,.int .i64 0,.int .i64 0,.int .i64 0,.int .i64 0]),7,56):=by kernel_rfl
theorem b1j : ∃inf z,Tryz.prog.info? 132=some inf∧inf.size=7∧inf.bytes=56∧inf.zero=some z∧z.cells.size=7:=by
 obtain⟨i0,h1,h2,h3,h4⟩:=info_parts c8Q
 exact⟨i0,_,h1,h3,h4,h2,rfl⟩
theorem c8P (w:World) (b n c i vb voff vc T tV:Nat) (cs vcs:Array Value) (us:List Value) (hi:i<n) (hroom:n+1≤c) (hc:c≤maxLen) (hh:w.heap[b]? = some (.cells cs T (0,0))) (hs:cs.size=c * 7) (hu:us.length=7)
  (hvh:w.heap[vb]? = some (.cells vcs tV (0,0))) (hvb:vb≠b) (hvs : ∀j v,us[j]? = some v→w.cell? ⟨vb,voff+j,none⟩=some v) (h1 : ∀u∈us,one u) (h1c : ∀u∈cs.toList.take (n * 7),one u) :
  Calls Tryz.prog 256 #[.slice (some ⟨b,0,none⟩) n c,.int .i64 i,.slice (some ⟨vb,voff,none⟩) 1 vc] w fun e w' =>
   ∃v,e = .returned v∧InsE w w' 7 (.slice (some ⟨b,0,none⟩) n c) v n i 1 b c cs us:=by
 obtain⟨inf,z,hinf,hsz,hby,hz,hzc⟩:=b1j
 have u25:=run_underlying Tryz.underlying105
 have z38 : ∀w,(sizeOf 132).run Tryz.prog w = .ok 7 w:=fun w=>by simp[sizeOf,typeInfo,hinf,hsz]
 have hc63:c≤9223372036854775807:=hc
 have hcb:n+1≤9223372036854775807:=by omega
 have hkB:cs.size≠0:=by rw[hs];omega
 have hov : ∀lb cb,(callFunc 272 #[.slice (some ⟨vb,voff,none⟩) 1 vc,.slice (some ⟨b,(i+1) * 7,none⟩) lb cb]).run Tryz.prog w = .ok (.value (.bool false)) w:=fun lb cb=>by
  rw[run_callFunc_extern Tryz.func272 (by kernel_rfl) (by kernel_rfl) (by kernel_rfl) (e:=Extern.SlicesOverlaps.overlaps #[105,105] #[4]) (by kernel_rfl),
   Lib.run_overlaps_apart w 105 4 132 Tryz.underlying105 7 z38 ⟨vb,voff,none⟩ ⟨b,(i+1) * 7,none⟩ 1 vc lb cb hvb tV T vcs.size cs.size (by simp[World.shape?,hvh]) (by simp[World.shape?,hh]) hkB (frozen_of_row _ _ _ _ _ hvh) (frozen_of_row _ _ _ _ _ hvh)]
  rfl
 have hw1:IntKind.i64.wrap ((n:Int)+1)=((n+1:Nat):Int):=by rw[IntKind.wrap_i64];omega
 have hw2:IntKind.i64.wrap ((i:Int)+1)=((i+1:Nat):Int):=by rw[IntKind.wrap_i64];omega
 have hne : ¬((i:Int)=(n:Int)):=by omega
 have mixed:=j3.mix
 have hb1:(0:Int)≤(i:Int)+1:=by omega
 have hin:i≤n:=by omega
 have hb2 : ¬(c=i+1):=by omega
 have hb3:(i:Int)≤(n:Int)+1:=by omega
 have hb4 : ¬(c=i):=by omega
 have htn:((i:Int)+1).toNat=i+1:=by omega
 go_enter Tryz.func256,Tryz.ntmps256
 go_wp2_with (simp only[hov])
 clear hov
 have htl:=a0b (i:=i) hs (show n≤c by omega)
 have hn5:(n+1) * 7≤c * 7:=Nat.mul_le_mul_right _ hroom
 have hsrc : ∀j v,((cs.toList.take (n * 7)).drop (i * 7))[j]? = some v→w.cell? ⟨b,i * 7+j,none⟩=some v:=fun j v hj=>by
  rw[List.getElem?_drop,List.getElem?_take]at hj
  rw[u0 hh]
  split at hj
  ·simpa using hj
  ·cases hj
 have hcp1 : ∀ty dc sc,(Builtin.copy_ #[105,105] ty #[.slice (some ⟨b,(i+1) * 7,none⟩) (n-i) dc,.slice (some ⟨b,i * 7,none⟩) (n+1-i) sc]).run Tryz.prog w.drew = .ok (goInt (n-i:Nat)) (wrote w.drew b ((i+1) * 7) cs ((cs.toList.take (n * 7)).drop (i * 7))):=fun ty dc sc =>
  D8 (k:=n-i) (us:=(cs.toList.take (n * 7)).drop (i * 7)) Tryz.underlying105 hinf (by simp only[Nat.min_def];split<;>omega) (by rw[hsz];exact htl) (fun j v hj=>by
   rw[A6]
   exact hsrc j v hj) hh (by rw[htl,hs];omega) (fun u hu=>h1c u (List.mem_of_mem_drop hu))
 go_region_law_o (refine step_copy_runI rfl _ _ 105 105 rfl _ _ (by simp[Act.eval,Act.put]) (by simp[Act.eval,Act.put]) (hcp1 _ _ _) ?_)
 have htl2:((cs.toList.take (n * 7)).drop (i * 7)).length=(n-i) * 7:=htl
 obtain⟨cs1,hcs1⟩ : ∃cs1,cs1=(putAt cs.toList ((i+1) * 7) ((cs.toList.take (n * 7)).drop (i * 7))).toArray:=⟨_,rfl⟩
 obtain⟨W1,hW1⟩ : ∃W1,W1=wrote w.drew b ((i+1) * 7) cs ((cs.toList.take (n * 7)).drop (i * 7)):=⟨_,rfl⟩
 have hh1:W1.heap[b]? = some (.cells cs1 T (0,0)):=by rw[hW1,hcs1];exact A8 hh
 have hv1:W1.heap[vb]? = some (.cells vcs tV (0,0)):=by rw[hW1,u7 hvb];exact hvh
 have hsz1:cs1.size=c * 7:=by rw[hcs1,List.size_toArray,s9 _ _ _ (by rw[htl2,Array.length_toList,hs];omega),Array.length_toList,hs]
 have hcp2 : ∀(W:World),W.heap=W1.heap → ∀ty dc,(Builtin.copy_ #[105,105] ty #[.slice (some ⟨b,i * 7,none⟩) (n+1-i) dc,.slice (some ⟨vb,voff,none⟩) 1 vc]).run Tryz.prog W = .ok (goInt (1:Nat)) (wrote W b (i * 7) cs1 us):=fun W hW ty dc =>
  D8 (k:=1) (us:=us) (T:=T) Tryz.underlying105 hinf (by simp only[Nat.min_def];split<;>omega) (by rw[hsz,hu]) (fun j v hj=>by
   rw[A6,u0 (cs:=vcs) (T:=tV) (by rw[hW];exact hv1)]
   have:=hvs j v hj
   rw[u0 hvh]at this
   exact this) (by rw[hW];exact hh1) (by rw[hu,hsz1];omega) h1
 rw[←hW1]
 go_wp2_with (at_builtin;refine wpList_copy_runI _ rfl _ _ 105 105 rfl _ _ rfl rfl (hcp2 _ rfl _ _) ?_)
 have hend:InsM w (wrote W1 b (i * 7) cs1 us) 7 (.slice (some ⟨b,0,none⟩) n c) (.slice (some ⟨b,0,none⟩) (n+1) c) n i 1 b c cs us b c (N9 cs 7 n i us).toArray T:=by
  refine InsM.room hh hs hroom hc hi hu ?_ (fun x hx => ?_) ?_ ?_ ?_ ?_
  ·rw[A8 hh1,N9,hcs1]
  ·rw[u7 hx,hW1,u7 hx];rfl
  ·rw[hW1];rfl
  ·rw[hW1];rfl
  ·rw[hW1];rfl
  ·rw[hW1];simp[wrote,World.setRow]
 subst hcs1
 subst hW1
 go_ret
 exact⟨.slice (some ⟨b,0,none⟩) (n+1) c,rfl,_,_,_,_,hend⟩
theorem c8R (w:World) (b n c i vb voff vc T tV:Nat) (cs vcs:Array Value) (us:List Value) (hi:i<n) (hnc:n≤c) (hroom:c<n+1) (hc:c≤maxLen) (hh:w.heap[b]? = some (.cells cs T (0,0))) (hs:cs.size=c * 7) (hu:us.length=7)
  (hvh:w.heap[vb]? = some (.cells vcs tV (0,0))) (hvs : ∀j v,us[j]? = some v→w.cell? ⟨vb,voff+j,none⟩=some v) (h1 : ∀u∈us,one u) (h1c : ∀u∈cs.toList.take (n * 7),one u) (hbig:(n+1) * 56≤140737488355328) :
  Calls Tryz.prog 256 #[.slice (some ⟨b,0,none⟩) n c,.int .i64 i,.slice (some ⟨vb,voff,none⟩) 1 vc] w fun e w' =>
   ∃v,e = .returned v∧InsE w w' 7 (.slice (some ⟨b,0,none⟩) n c) v n i 1 b c cs us:=by
 obtain⟨inf,z,hinf,hsz,hby,hz,hzc⟩:=b1j
 have u25:=run_underlying Tryz.underlying105
 have z38 : ∀w,(sizeOf 132).run Tryz.prog w = .ok 7 w:=fun w=>by simp[sizeOf,typeInfo,hinf,hsz]
 have mixed:=j3.mix
 have hc63:c≤9223372036854775807:=hc
 have hsrc : ∀j v,((cs.toList.take (n * 7)).drop (i * 7))[j]? = some v→w.cell? ⟨b,i * 7+j,none⟩=some v:=fun j v hj=>by
  rw[List.getElem?_drop,List.getElem?_take]at hj
  rw[u0 hh]
  split at hj
  ·simpa using hj
  ·cases hj
 have hi5:(i+1) * 7≤c * 7:=Nat.mul_le_mul_right _ (by omega)
 have hold:(Builtin.firstCells inf.size i (.slice (some ⟨b,0,none⟩) i c)).run Tryz.prog w.drew = .ok (cs.toList.take (i * 7)).toArray w.drew:=by
  rw[hsz]
  exact run_firstCells_some w.drew 7 i ⟨b,0,none⟩ i c (cs.toList.take (i * 7)) (by rw[List.length_take,Array.length_toList,hs];omega) (fun j v hj=>by
   rw[A6,Nat.zero_add,show w.drew.cell? ⟨b,j,none⟩=w.cell? ⟨b,j,none⟩from rfl,u0 hh]
   rw[List.getElem?_take]at hj
   split at hj
   ·simpa using hj
   ·cases hj)
 have hik:i+(n+1-i)=n+1:=by omega
 have hkk:(n:Int)+1-(i:Int)=((n+1-i:Nat):Int):=by omega
 have hrz : ∀ty,(Builtin.append_ #[105,3] ty #[.slice (some ⟨b,0,none⟩) i c,.int .i64 ((n:Int)+1-(i:Int))]).run Tryz.prog w =
   .ok (.slice (some ⟨w.heap.size,0,none⟩) (n+1) (grownCap w (n+1) c 132)) (w.drew.alloc (.cells ((cs.toList.take (i * 7)).toArray++Builtin.zeroCells z.cells (n+1-i)++Builtin.zeroCells z.cells (grownCap w (n+1) c 132-(n+1))) 132)):=fun ty=>by
  have h:=Lib.run_append_grow_zeros w 105 3 ty 132 inf z .i64 .i64 Tryz.underlying105 Tryz.underlying3 hinf hz (some ⟨b,0,none⟩) i c (cs.toList.take (i * 7)) hold (n+1-i) (by omega) (by omega) (by omega) (by omega) (by rw[hby];omega) (by rw[hby,hik];exact growslice_fits hroom hbig)
  rw[hik]at h
  rw[hkk]
  exact h
 obtain⟨G,hG⟩ : ∃G,G=grownCap w (n+1) c 132:=⟨_,rfl⟩
 have hGn:n+1≤G:=by rw[hG];exact grownCap_ge w _ _ _
 have hGm:G≤maxLen:=by rw[hG];exact grownCap_le_maxLen w (n+1) c _ (by unfold maxLen;omega)
 have hG63:G≤9223372036854775807:=hGm
 obtain⟨ROW,hROW⟩ : ∃ROW:Array Value,ROW=(cs.toList.take (i * 7)).toArray++Builtin.zeroCells z.cells (n+1-i)++Builtin.zeroCells z.cells (G-(n+1)):=⟨_,rfl⟩
 rw[←hG]at hrz
 rw[←hROW]at hrz
 have hRl:ROW.toList.length=G * 7:=by
  rw[hROW,Array.length_toList]
  simp only[Array.size_append,List.size_toArray,size_zeroCells,hzc,List.length_take,Array.length_toList,hs]
  omega
 have hR0 : ∀o,o<i * 7→ROW.toList[o]? = cs[o]? := fun o ho=>by
  have hl:(cs.toList.take (i * 7)).length=i * 7:=by rw[List.length_take,Array.length_toList,hs];omega
  rw[hROW]
  simp only[Array.toList_append]
  rw[List.append_assoc,List.getElem?_append_left (by rw[List.toList_toArray,hl];exact ho),List.toList_toArray,List.getElem?_take,if_pos ho]
  simp
 have htl:=a0b (i:=i) hs hnc
 have hbw:b<w.heap.size:=by
  rcases Nat.lt_or_ge b w.heap.size with h|h
  ·exact h
  ·rw[Array.getElem?_eq_none h]at hh;cases hh
 have hvw:vb<w.heap.size:=by
  rcases Nat.lt_or_ge vb w.heap.size with h|h
  ·exact h
  ·rw[Array.getElem?_eq_none h]at hvh;cases hvh
 obtain⟨W1,hW1⟩ : ∃W1,W1=w.drew.alloc (.cells ROW 132):=⟨_,rfl⟩
 rw[←hW1]at hrz
 have hN1:W1.heap[w.heap.size]? = some (.cells ROW 132 (0,0)):=by rw[hW1];exact a7v w _
 have hO1 : ∀x,x<w.heap.size→W1.heap[x]? = w.heap[x]? := fun x hx=>by rw[hW1];exact a7u w _ x hx
 obtain⟨R2,hR2⟩ : ∃R2,R2=(putAt ROW.toList (i * 7) us).toArray:=⟨_,rfl⟩
 have hG5:(n+1) * 7≤G * 7:=Nat.mul_le_mul_right _ hGn
 have hR2l:R2.size=G * 7:=by rw[hR2,List.size_toArray,s9 _ _ _ (by rw[hu,hRl];omega),hRl]
 have hcpA : ∀(W:World),W.heap=W1.heap → ∀ty dc,(Builtin.copy_ #[105,105] ty #[.slice (some ⟨w.heap.size,i * 7,none⟩) (n+1-i) dc,.slice (some ⟨vb,voff,none⟩) 1 vc]).run Tryz.prog W = .ok (goInt (1:Nat)) (wrote W w.heap.size (i * 7) ROW us):=fun W hW ty dc =>
  D8 (k:=1) (us:=us) (T:=132) Tryz.underlying105 hinf (by simp only[Nat.min_def];split<;>omega) (by rw[hsz,hu]) (fun j v hj=>by
   rw[A6,u0 (cs:=vcs) (T:=tV) (by rw[hW,hO1 _ hvw];exact hvh)]
   have:=hvs j v hj
   rw[u0 hvh]at this
   exact this) (by rw[hW];exact hN1) (by rw[hu,←Array.length_toList,hRl];omega) h1
 obtain⟨W2,hW2⟩ : ∃W2,W2=wrote W1 w.heap.size (i * 7) ROW us:=⟨_,rfl⟩
 have hcpB : ∀(W:World),W.heap=W2.heap → ∀ty dc sc,(Builtin.copy_ #[105,105] ty #[.slice (some ⟨w.heap.size,(i+1) * 7,none⟩) (n-i) dc,.slice (some ⟨b,i * 7,none⟩) (n-i) sc]).run Tryz.prog W = .ok (goInt (n-i:Nat)) (wrote W w.heap.size ((i+1) * 7) R2 ((cs.toList.take (n * 7)).drop (i * 7))):=fun W hW ty dc sc =>
  D8 (k:=n-i) (us:=(cs.toList.take (n * 7)).drop (i * 7)) (T:=132) Tryz.underlying105 hinf (by simp only[Nat.min_def];split<;>omega) (by rw[hsz,htl]) (fun j v hj=>by
   rw[A6,u0 (cs:=cs) (T:=T) (by rw[hW,hW2,u7 (by omega),hO1 _ hbw];exact hh)]
   have:=hsrc j v hj
   rw[u0 hh]at this
   exact this) (by rw[hW,hW2,hR2];exact A8 hN1) (by rw[htl,hR2l];omega) (fun u hu=>h1c u (List.mem_of_mem_drop hu))
 have hGi : ¬(G=i):=by omega
 have hGim : ¬(G=i+1):=by omega
 have hci : ¬(c=i):=by omega
 have hw1:IntKind.i64.wrap ((n:Int)+1)=((n+1:Nat):Int):=by rw[IntKind.wrap_i64];omega
 have hw2:IntKind.i64.wrap ((i:Int)+1)=((i+1:Nat):Int):=by rw[IntKind.wrap_i64];omega
 have hb1:(0:Int)≤(i:Int)+1:=by omega
 have hin:i≤n:=by omega
 have htn:((i:Int)+1).toNat=i+1:=by omega
 have hb3:(i:Int)≤(n:Int):=by omega
 have hne : ¬((i:Int)=(n:Int)):=by omega
 have hend : ∀W:World,W.heap=(wrote W2 w.heap.size ((i+1) * 7) R2 ((cs.toList.take (n * 7)).drop (i * 7))).heap→W.os=w.os→W.tape=w.tape→W.output=w.output→InsE w W 7 (.slice (some ⟨b,0,none⟩) n c) (.slice (some ⟨w.heap.size,0,none⟩) (n+1) G) n i 1 b c cs us:=fun W hW g1 g2 g3=>by
  refine⟨_,_,_,132,InsM.grow (row:=ROW.toList) hRl hs hnc hGn hGm hi hu hR0 ?_ rfl ?_ (fun x hx => ?_) g1 g2 g3⟩
  ·rw[hW,A8 (T:=132) (by rw[hW2,hR2];exact A8 hN1),a0S,hR2]
  ·rw[hW,hW2,hW1];simp[wrote,World.setRow,World.alloc]
  ·rw[hW,u7 (by omega),hW2,u7 (by omega)];exact hO1 x hx
 clear hkk hik hold hROW hG hRl hR0
 go_enter Tryz.func256,Tryz.ntmps256
 go_wp2_with (first
  |(at_builtin;refine Lib.wpList_append_run _ rfl _ _ _ _ rfl _ _ rfl rfl _ _ (hrz _) ?_)
  |(at_builtin;refine wpList_copy_runI _ rfl _ _ 105 105 rfl _ _ rfl rfl (hcpA _ rfl _ _) ?_))
 go_region_law_o (refine step_copy_runI rfl _ _ 105 105 rfl (.slice (some ⟨w.heap.size,(i+1) * 7,none⟩) (n-i) (G-(i+1))) (.slice (some ⟨b,i * 7,none⟩) (n-i) (c-i)) (by simp[Act.eval,Act.put]) (by simp[Act.eval,Act.put]) (hcpB _ (by rw[hW2,hW1];rfl) _ _ _) ?_)
 go_wp2
 go_ret
 exact⟨.slice (some ⟨w.heap.size,0,none⟩) (n+1) G,rfl,hend _ (by rw[hW2,hW1,hR2];rfl) rfl rfl rfl⟩
theorem d2Y (w:World) (b n c vb voff vc T:Nat) (cs:Array Value) (us:List Value) (hn:n≤c) (hc:c≤maxLen) (hh:w.heap[b]? = some (.cells cs T (0,0))) (hs:cs.size=c * 7) (hu:us.length=7)
  (hvs : ∀j v,us[j]? = some v→w.cell? ⟨vb,voff+j,none⟩=some v) (h1 : ∀u∈us,one u) (hb:(n+1) * 56≤140737488355328) :
  Calls Tryz.prog 256 #[.slice (some ⟨b,0,none⟩) n c,.int .i64 n,.slice (some ⟨vb,voff,none⟩) 1 vc] w fun e w' =>
   ∃v,e = .returned v∧InsE w w' 7 (.slice (some ⟨b,0,none⟩) n c) v n n 1 b c cs us:=by
 obtain⟨inf,z,hinf,hsz,hby,hz,hzc⟩:=b1j
 have u25:=run_underlying Tryz.underlying105
 have z38 : ∀w,(sizeOf 132).run Tryz.prog w = .ok 7 w:=fun w=>by simp[sizeOf,typeInfo,hinf,hsz]
 have hc63:c≤9223372036854775807:=hc
 have mixed:=j3.mix
 rcases L6 (P:=Tryz.prog) (ty:=105) (w:=w) Tryz.underlying105 hinf hz hsz hby hzc (Old.row n b c cs T hh hn hc hs) (m:=1) (us:=us) ⟨by rw[hu],.inr (.inr ⟨vb,voff,vc,rfl,hvs⟩)⟩ h1 (by omega) (by simpa using hb)with ⟨_,h,_⟩|⟨v,w',b',cap',cs',T',hr,A⟩
 ·cases h
 ·have hend:InsE w w' 7 _ v _ _ 1 b _ cs us:=⟨_,_,_,_,A.ins⟩
  by_cases hcn:n=c
  ·subst hcn
   go_enter Tryz.func256,Tryz.ntmps256
   go_wp2_with (at_builtin;refine Lib.wpList_append_run _ rfl _ _ _ _ rfl _ _ rfl rfl _ _ hr ?_)
   go_ret
   exact⟨v,rfl,hend⟩
  ·have hcn2 : ¬(c=n):=fun h=>hcn h.symm
   go_enter Tryz.func256,Tryz.ntmps256
   go_wp2_with (at_builtin;refine Lib.wpList_append_run _ rfl _ _ _ _ rfl _ _ rfl rfl _ _ hr ?_)
   go_ret
   exact⟨v,rfl,hend⟩
theorem d2X (w:World) (b vb voff vc T:Nat) (cs:Array Value) (us:List Value) (hcs:cs = #[]) (hu:us.length=7)
  (hvs : ∀j v,us[j]? = some v→w.cell? ⟨vb,voff+j,none⟩=some v) (h1 : ∀u∈us,one u) :
  Calls Tryz.prog 256 #[.slice none 0 0,.int .i64 0,.slice (some ⟨vb,voff,none⟩) 1 vc] w fun e w' =>
   ∃v,e = .returned v∧InsE w w' 7 (.slice none 0 0) v 0 0 1 b 0 cs us:=by
 obtain⟨inf,z,hinf,hsz,hby,hz,hzc⟩:=b1j
 have u25:=run_underlying Tryz.underlying105
 have z38 : ∀w,(sizeOf 132).run Tryz.prog w = .ok 7 w:=fun w=>by simp[sizeOf,typeInfo,hinf,hsz]
 have mixed:=j3.mix
 rcases L6 (P:=Tryz.prog) (ty:=105) (w:=w) Tryz.underlying105 hinf hz hsz hby hzc (Old.nil b 0 cs T hcs rfl) (m:=1) (us:=us) ⟨by rw[hu],.inr (.inr ⟨vb,voff,vc,rfl,hvs⟩)⟩ h1 (by omega) (by omega)with ⟨_,_,_,h⟩|⟨v,w',b',cap',cs',T',hr,A⟩
 ·cases h
 ·go_enter Tryz.func256,Tryz.ntmps256
  have hend:InsE w w' 7 _ v _ _ 1 b _ cs us:=⟨_,_,_,_,A.ins⟩
  go_wp2_with (at_builtin;refine Lib.wpList_append_run _ rfl _ _ _ _ rfl _ _ rfl rfl _ _ hr ?_)
  all_goals go_ret
  all_goals first|exact⟨v,rfl,hend⟩|(have hcn:c=n:=by(first|assumption|(symm;assumption)|omega);subst hcn;exact⟨v,rfl,hend⟩)
theorem d8q:c1S Tryz.prog 256 .gst:=by
 intro w s n b cap cs T i vb vcap vT vcs us hO hi hvb hvh hu hvs h1 h1c hL
 have hs5:RT.size .gst=7:=rfl
 have hb5:RT.bytes .gst=56:=rfl
 rw[hs5]at *
 rw[hb5]at hL
 cases hO with
 |nil _ _ _ _ hcs hcap =>
  have:i=0:=by omega
  subst this
  subst hcap
  exact d2X w b vb 0 vcap T cs us hcs hu hvs h1
 |row _ _ _ _ _ hh hnc hcm hcs =>
  rcases Nat.lt_or_ge i n with hlt|hge
  ·rcases Nat.lt_or_ge cap (n+1)with hr|hr
   ·exact c8R w b n cap i vb 0 vcap T vT cs vcs us hlt hnc hr hcm hh hcs hu hvh hvs h1 h1c hL
   ·exact c8P w b n cap i vb 0 vcap T vT cs vcs us hlt hr hcm hh hcs hu hvh (hvb ⟨_,rfl⟩) hvs h1 h1c
  ·have:i=n:=by omega
   subst this
   exact d2Y w b i cap vb 0 vcap T cs us hnc hcm hh hcs hu hvs h1 hL
theorem c8v:b9 Tryz.prog 256 (.raw (insM .gst)) :=
 c3q ⟨_,_,Tryz.func256,by kernel_rfl,rfl⟩ d8q
end Go.Proofs.YtmnapekfeenknaaGreat
namespace Go.Proofs.YtmnapekfeenknaaGreat
open Go.Sx Go.Proofs Go.Mo
noncomputable def c4I:Sx.Spec:=⟨false,true,[.list .gst,.row .gst],[[some .gst]],fun _ _ ⟨l,g,_⟩ => .ret (vW .gst fun _=>a3d (l ()) (g ()),fun _=>0)⟩
theorem d1N:b9 Tryz.prog 232 c4I:=j5 j3 (ss := [(195,b6Q),(183,a3w),(256,(.raw (insM .gst)))]) ⟨c0t,c5B,c8v,trivial⟩ rfl rfl<|by
 intro(bs:Th (List Int)) (p:Th Int) ⟨(l:Th (List Gst)),(g:Th Gst),u⟩ K _ _ ho h
 obtain⟨l,rfl⟩:=b6 l;obtain⟨g,rfl⟩:=b6 g
 have hl:=okB (ho.1 _ (.head _))
 have hp:=fun(k:Nat) => @d6o l g k
 refine⟨annL [(232,3,⟨Nat,[],fun σ k => σ.t 6 (vI fun _=>(k:Int)),fun _ k _=>k≤l.length∧m9 k (a9J l g)=true,fun _ k _=>l.length-k⟩)],noAnn,20,?_⟩
 cbv
 repeat' first|((with_reducible refine fun(k:Nat) => ?_);cbv)|((with_reducible intro _);cbv)|(with_reducible refine And.intro ?_ ?_)
 all_goals try((first|(with_reducible refine LoopIn.mk ((0:Nat)) ?_ ?_)|(with_reducible refine LoopBack.mk ((k+1:Nat)) ?_ ?_ ?_)) )
 all_goals try((with_reducible show l9 _ _);cbv;(try simp only[and_true,true_and]))
 all_goals try(repeat' with_reducible refine And.intro ?_ ?_)
 all_goals first|(refine retK h ?_;clear h;simp only[fin0])|(with_reducible refine Ob.mk ?_;clear h)|(clear h)
 all_goals(try simp only[eta0,RT.bytes]at *)
 all_goals(try(refine funext fun u => ?_;rw[z8]))
 all_goals(try simp only[Int.toNat_natCast]at *)
 all_goals grind(splits:=30) [j4,e9,a3d,a9J,n8,n5]
end Go.Proofs.YtmnapekfeenknaaGreat
namespace Go.Proofs.YtmnapekfeenknaaGreat
open Go.Sx Go.Proofs Go.RowKit
theorem c8N:(Tryz.prog.info? 129).map (fun i=>(i.zero,i.size,i.bytes))=some (some (.agg #[.int .i64 0,.int .i64 0,.int .i64 0,.slice none 0 0,.int .i64 0,.slice none 0 0,.slice none 0 0,.slice none 0 0]),8,128):=by kernel_rfl
theorem b1i : ∃inf z,Tryz.prog.info? 129=some inf∧inf.size=8∧inf.bytes=128∧inf.zero=some z∧z.cells.size=8:=by
 obtain⟨i0,h1,h2,h3,h4⟩:=info_parts c8N
 exact⟨i0,_,h1,h3,h4,h2,rfl⟩
theorem c8M (w:World) (b n c i vb voff vc T tV:Nat) (cs vcs:Array Value) (us:List Value) (hi:i<n) (hroom:n+1≤c) (hc:c≤maxLen) (hh:w.heap[b]? = some (.cells cs T (0,0))) (hs:cs.size=c * 8) (hu:us.length=8)
  (hvh:w.heap[vb]? = some (.cells vcs tV (0,0))) (hvb:vb≠b) (hvs : ∀j v,us[j]? = some v→w.cell? ⟨vb,voff+j,none⟩=some v) (h1 : ∀u∈us,one u) (h1c : ∀u∈cs.toList.take (n * 8),one u) :
  Calls Tryz.prog 255 #[.slice (some ⟨b,0,none⟩) n c,.int .i64 i,.slice (some ⟨vb,voff,none⟩) 1 vc] w fun e w' =>
   ∃v,e = .returned v∧InsE w w' 8 (.slice (some ⟨b,0,none⟩) n c) v n i 1 b c cs us:=by
 obtain⟨inf,z,hinf,hsz,hby,hz,hzc⟩:=b1i
 have u25:=run_underlying Tryz.underlying104
 have z38 : ∀w,(sizeOf 129).run Tryz.prog w = .ok 8 w:=fun w=>by simp[sizeOf,typeInfo,hinf,hsz]
 have hc63:c≤9223372036854775807:=hc
 have hcb:n+1≤9223372036854775807:=by omega
 have hkB:cs.size≠0:=by rw[hs];omega
 have hov : ∀lb cb,(callFunc 270 #[.slice (some ⟨vb,voff,none⟩) 1 vc,.slice (some ⟨b,(i+1) * 8,none⟩) lb cb]).run Tryz.prog w = .ok (.value (.bool false)) w:=fun lb cb=>by
  rw[run_callFunc_extern Tryz.func270 (by kernel_rfl) (by kernel_rfl) (by kernel_rfl) (e:=Extern.SlicesOverlaps.overlaps #[104,104] #[4]) (by kernel_rfl),
   Lib.run_overlaps_apart w 104 4 129 Tryz.underlying104 8 z38 ⟨vb,voff,none⟩ ⟨b,(i+1) * 8,none⟩ 1 vc lb cb hvb tV T vcs.size cs.size (by simp[World.shape?,hvh]) (by simp[World.shape?,hh]) hkB (frozen_of_row _ _ _ _ _ hvh) (frozen_of_row _ _ _ _ _ hvh)]
  rfl
 have hw1:IntKind.i64.wrap ((n:Int)+1)=((n+1:Nat):Int):=by rw[IntKind.wrap_i64];omega
 have hw2:IntKind.i64.wrap ((i:Int)+1)=((i+1:Nat):Int):=by rw[IntKind.wrap_i64];omega
 have hne : ¬((i:Int)=(n:Int)):=by omega
 have mixed:=j3.mix
 have hb1:(0:Int)≤(i:Int)+1:=by omega
 have hin:i≤n:=by omega
 have hb2 : ¬(c=i+1):=by omega
 have hb3:(i:Int)≤(n:Int)+1:=by omega
 have hb4 : ¬(c=i):=by omega
 have htn:((i:Int)+1).toNat=i+1:=by omega
 go_enter Tryz.func255,Tryz.ntmps255
 go_wp2_with (simp only[hov])
 clear hov
 have htl:=a0b (i:=i) hs (show n≤c by omega)
 have hn5:(n+1) * 8≤c * 8:=Nat.mul_le_mul_right _ hroom
 have hsrc : ∀j v,((cs.toList.take (n * 8)).drop (i * 8))[j]? = some v→w.cell? ⟨b,i * 8+j,none⟩=some v:=fun j v hj=>by
  rw[List.getElem?_drop,List.getElem?_take]at hj
  rw[u0 hh]
  split at hj
  ·simpa using hj
  ·cases hj
 have hcp1 : ∀ty dc sc,(Builtin.copy_ #[104,104] ty #[.slice (some ⟨b,(i+1) * 8,none⟩) (n-i) dc,.slice (some ⟨b,i * 8,none⟩) (n+1-i) sc]).run Tryz.prog w.drew = .ok (goInt (n-i:Nat)) (wrote w.drew b ((i+1) * 8) cs ((cs.toList.take (n * 8)).drop (i * 8))):=fun ty dc sc =>
  D8 (k:=n-i) (us:=(cs.toList.take (n * 8)).drop (i * 8)) Tryz.underlying104 hinf (by simp only[Nat.min_def];split<;>omega) (by rw[hsz];exact htl) (fun j v hj=>by
   rw[A6]
   exact hsrc j v hj) hh (by rw[htl,hs];omega) (fun u hu=>h1c u (List.mem_of_mem_drop hu))
 go_region_law_o (refine step_copy_runI rfl _ _ 104 104 rfl _ _ (by simp[Act.eval,Act.put]) (by simp[Act.eval,Act.put]) (hcp1 _ _ _) ?_)
 have htl2:((cs.toList.take (n * 8)).drop (i * 8)).length=(n-i) * 8:=htl
 obtain⟨cs1,hcs1⟩ : ∃cs1,cs1=(putAt cs.toList ((i+1) * 8) ((cs.toList.take (n * 8)).drop (i * 8))).toArray:=⟨_,rfl⟩
 obtain⟨W1,hW1⟩ : ∃W1,W1=wrote w.drew b ((i+1) * 8) cs ((cs.toList.take (n * 8)).drop (i * 8)):=⟨_,rfl⟩
 have hh1:W1.heap[b]? = some (.cells cs1 T (0,0)):=by rw[hW1,hcs1];exact A8 hh
 have hv1:W1.heap[vb]? = some (.cells vcs tV (0,0)):=by rw[hW1,u7 hvb];exact hvh
 have hsz1:cs1.size=c * 8:=by rw[hcs1,List.size_toArray,s9 _ _ _ (by rw[htl2,Array.length_toList,hs];omega),Array.length_toList,hs]
 have hcp2 : ∀(W:World),W.heap=W1.heap → ∀ty dc,(Builtin.copy_ #[104,104] ty #[.slice (some ⟨b,i * 8,none⟩) (n+1-i) dc,.slice (some ⟨vb,voff,none⟩) 1 vc]).run Tryz.prog W = .ok (goInt (1:Nat)) (wrote W b (i * 8) cs1 us):=fun W hW ty dc =>
  D8 (k:=1) (us:=us) (T:=T) Tryz.underlying104 hinf (by simp only[Nat.min_def];split<;>omega) (by rw[hsz,hu]) (fun j v hj=>by
   rw[A6,u0 (cs:=vcs) (T:=tV) (by rw[hW];exact hv1)]
   have:=hvs j v hj
   rw[u0 hvh]at this
   exact this) (by rw[hW];exact hh1) (by rw[hu,hsz1];omega) h1
 rw[←hW1]
 go_wp2_with (at_builtin;refine wpList_copy_runI _ rfl _ _ 104 104 rfl _ _ rfl rfl (hcp2 _ rfl _ _) ?_)
 have hend:InsM w (wrote W1 b (i * 8) cs1 us) 8 (.slice (some ⟨b,0,none⟩) n c) (.slice (some ⟨b,0,none⟩) (n+1) c) n i 1 b c cs us b c (N9 cs 8 n i us).toArray T:=by
  refine InsM.room hh hs hroom hc hi hu ?_ (fun x hx => ?_) ?_ ?_ ?_ ?_
  ·rw[A8 hh1,N9,hcs1]
  ·rw[u7 hx,hW1,u7 hx];rfl
  ·rw[hW1];rfl
  ·rw[hW1];rfl
  ·rw[hW1];rfl
  ·rw[hW1];simp[wrote,World.setRow]
 subst hcs1
 subst hW1
 go_ret
 exact⟨.slice (some ⟨b,0,none⟩) (n+1) c,rfl,_,_,_,_,hend⟩
theorem c8O (w:World) (b n c i vb voff vc T tV:Nat) (cs vcs:Array Value) (us:List Value) (hi:i<n) (hnc:n≤c) (hroom:c<n+1) (hc:c≤maxLen) (hh:w.heap[b]? = some (.cells cs T (0,0))) (hs:cs.size=c * 8) (hu:us.length=8)
  (hvh:w.heap[vb]? = some (.cells vcs tV (0,0))) (hvs : ∀j v,us[j]? = some v→w.cell? ⟨vb,voff+j,none⟩=some v) (h1 : ∀u∈us,one u) (h1c : ∀u∈cs.toList.take (n * 8),one u) (hbig:(n+1) * 128≤140737488355328) :
  Calls Tryz.prog 255 #[.slice (some ⟨b,0,none⟩) n c,.int .i64 i,.slice (some ⟨vb,voff,none⟩) 1 vc] w fun e w' =>
   ∃v,e = .returned v∧InsE w w' 8 (.slice (some ⟨b,0,none⟩) n c) v n i 1 b c cs us:=by
 obtain⟨inf,z,hinf,hsz,hby,hz,hzc⟩:=b1i
 have u25:=run_underlying Tryz.underlying104
 have z38 : ∀w,(sizeOf 129).run Tryz.prog w = .ok 8 w:=fun w=>by simp[sizeOf,typeInfo,hinf,hsz]
 have mixed:=j3.mix
 have hc63:c≤9223372036854775807:=hc
 have hsrc : ∀j v,((cs.toList.take (n * 8)).drop (i * 8))[j]? = some v→w.cell? ⟨b,i * 8+j,none⟩=some v:=fun j v hj=>by
  rw[List.getElem?_drop,List.getElem?_take]at hj
  rw[u0 hh]
  split at hj
  ·simpa using hj
  ·cases hj
 have hi5:(i+1) * 8≤c * 8:=Nat.mul_le_mul_right _ (by omega)
 have hold:(Builtin.firstCells inf.size i (.slice (some ⟨b,0,none⟩) i c)).run Tryz.prog w.drew = .ok (cs.toList.take (i * 8)).toArray w.drew:=by
  rw[hsz]
  exact run_firstCells_some w.drew 8 i ⟨b,0,none⟩ i c (cs.toList.take (i * 8)) (by rw[List.length_take,Array.length_toList,hs];omega) (fun j v hj=>by
   rw[A6,Nat.zero_add,show w.drew.cell? ⟨b,j,none⟩=w.cell? ⟨b,j,none⟩from rfl,u0 hh]
   rw[List.getElem?_take]at hj
   split at hj
   ·simpa using hj
   ·cases hj)
 have hik:i+(n+1-i)=n+1:=by omega
 have hkk:(n:Int)+1-(i:Int)=((n+1-i:Nat):Int):=by omega
 have hrz : ∀ty,(Builtin.append_ #[104,3] ty #[.slice (some ⟨b,0,none⟩) i c,.int .i64 ((n:Int)+1-(i:Int))]).run Tryz.prog w =
   .ok (.slice (some ⟨w.heap.size,0,none⟩) (n+1) (grownCap w (n+1) c 129)) (w.drew.alloc (.cells ((cs.toList.take (i * 8)).toArray++Builtin.zeroCells z.cells (n+1-i)++Builtin.zeroCells z.cells (grownCap w (n+1) c 129-(n+1))) 129)):=fun ty=>by
  have h:=Lib.run_append_grow_zeros w 104 3 ty 129 inf z .i64 .i64 Tryz.underlying104 Tryz.underlying3 hinf hz (some ⟨b,0,none⟩) i c (cs.toList.take (i * 8)) hold (n+1-i) (by omega) (by omega) (by omega) (by omega) (by rw[hby];omega) (by rw[hby,hik];exact growslice_fits hroom hbig)
  rw[hik]at h
  rw[hkk]
  exact h
 obtain⟨G,hG⟩ : ∃G,G=grownCap w (n+1) c 129:=⟨_,rfl⟩
 have hGn:n+1≤G:=by rw[hG];exact grownCap_ge w _ _ _
 have hGm:G≤maxLen:=by rw[hG];exact grownCap_le_maxLen w (n+1) c _ (by unfold maxLen;omega)
 have hG63:G≤9223372036854775807:=hGm
 obtain⟨ROW,hROW⟩ : ∃ROW:Array Value,ROW=(cs.toList.take (i * 8)).toArray++Builtin.zeroCells z.cells (n+1-i)++Builtin.zeroCells z.cells (G-(n+1)):=⟨_,rfl⟩
 rw[←hG]at hrz
 rw[←hROW]at hrz
 have hRl:ROW.toList.length=G * 8:=by
  rw[hROW,Array.length_toList]
  simp only[Array.size_append,List.size_toArray,size_zeroCells,hzc,List.length_take,Array.length_toList,hs]
  omega
 have hR0 : ∀o,o<i * 8→ROW.toList[o]? = cs[o]? := fun o ho=>by
  have hl:(cs.toList.take (i * 8)).length=i * 8:=by rw[List.length_take,Array.length_toList,hs];omega
  rw[hROW]
  simp only[Array.toList_append]
  rw[List.append_assoc,List.getElem?_append_left (by rw[List.toList_toArray,hl];exact ho),List.toList_toArray,List.getElem?_take,if_pos ho]
  simp
 have htl:=a0b (i:=i) hs hnc
 have hbw:b<w.heap.size:=by
  rcases Nat.lt_or_ge b w.heap.size with h|h
  ·exact h
  ·rw[Array.getElem?_eq_none h]at hh;cases hh
 have hvw:vb<w.heap.size:=by
  rcases Nat.lt_or_ge vb w.heap.size with h|h
  ·exact h
  ·rw[Array.getElem?_eq_none h]at hvh;cases hvh
 obtain⟨W1,hW1⟩ : ∃W1,W1=w.drew.alloc (.cells ROW 129):=⟨_,rfl⟩
 rw[←hW1]at hrz
 have hN1:W1.heap[w.heap.size]? = some (.cells ROW 129 (0,0)):=by rw[hW1];exact a7v w _
 have hO1 : ∀x,x<w.heap.size→W1.heap[x]? = w.heap[x]? := fun x hx=>by rw[hW1];exact a7u w _ x hx
 obtain⟨R2,hR2⟩ : ∃R2,R2=(putAt ROW.toList (i * 8) us).toArray:=⟨_,rfl⟩
 have hG5:(n+1) * 8≤G * 8:=Nat.mul_le_mul_right _ hGn
 have hR2l:R2.size=G * 8:=by rw[hR2,List.size_toArray,s9 _ _ _ (by rw[hu,hRl];omega),hRl]
 have hcpA : ∀(W:World),W.heap=W1.heap → ∀ty dc,(Builtin.copy_ #[104,104] ty #[.slice (some ⟨w.heap.size,i * 8,none⟩) (n+1-i) dc,.slice (some ⟨vb,voff,none⟩) 1 vc]).run Tryz.prog W = .ok (goInt (1:Nat)) (wrote W w.heap.size (i * 8) ROW us):=fun W hW ty dc =>
  D8 (k:=1) (us:=us) (T:=129) Tryz.underlying104 hinf (by simp only[Nat.min_def];split<;>omega) (by rw[hsz,hu]) (fun j v hj=>by
   rw[A6,u0 (cs:=vcs) (T:=tV) (by rw[hW,hO1 _ hvw];exact hvh)]
   have:=hvs j v hj
   rw[u0 hvh]at this
   exact this) (by rw[hW];exact hN1) (by rw[hu,←Array.length_toList,hRl];omega) h1
 obtain⟨W2,hW2⟩ : ∃W2,W2=wrote W1 w.heap.size (i * 8) ROW us:=⟨_,rfl⟩
 have hcpB : ∀(W:World),W.heap=W2.heap → ∀ty dc sc,(Builtin.copy_ #[104,104] ty #[.slice (some ⟨w.heap.size,(i+1) * 8,none⟩) (n-i) dc,.slice (some ⟨b,i * 8,none⟩) (n-i) sc]).run Tryz.prog W = .ok (goInt (n-i:Nat)) (wrote W w.heap.size ((i+1) * 8) R2 ((cs.toList.take (n * 8)).drop (i * 8))):=fun W hW ty dc sc =>
  D8 (k:=n-i) (us:=(cs.toList.take (n * 8)).drop (i * 8)) (T:=129) Tryz.underlying104 hinf (by simp only[Nat.min_def];split<;>omega) (by rw[hsz,htl]) (fun j v hj=>by
   rw[A6,u0 (cs:=cs) (T:=T) (by rw[hW,hW2,u7 (by omega),hO1 _ hbw];exact hh)]
   have:=hsrc j v hj
   rw[u0 hh]at this
   exact this) (by rw[hW,hW2,hR2];exact A8 hN1) (by rw[htl,hR2l];omega) (fun u hu=>h1c u (List.mem_of_mem_drop hu))
 have hGi : ¬(G=i):=by omega
 have hGim : ¬(G=i+1):=by omega
 have hci : ¬(c=i):=by omega
 have hw1:IntKind.i64.wrap ((n:Int)+1)=((n+1:Nat):Int):=by rw[IntKind.wrap_i64];omega
 have hw2:IntKind.i64.wrap ((i:Int)+1)=((i+1:Nat):Int):=by rw[IntKind.wrap_i64];omega
 have hb1:(0:Int)≤(i:Int)+1:=by omega
 have hin:i≤n:=by omega
 have htn:((i:Int)+1).toNat=i+1:=by omega
 have hb3:(i:Int)≤(n:Int):=by omega
 have hne : ¬((i:Int)=(n:Int)):=by omega
 have hend : ∀W:World,W.heap=(wrote W2 w.heap.size ((i+1) * 8) R2 ((cs.toList.take (n * 8)).drop (i * 8))).heap→W.os=w.os→W.tape=w.tape→W.output=w.output→InsE w W 8 (.slice (some ⟨b,0,none⟩) n c) (.slice (some ⟨w.heap.size,0,none⟩) (n+1) G) n i 1 b c cs us:=fun W hW g1 g2 g3=>by
  refine⟨_,_,_,129,InsM.grow (row:=ROW.toList) hRl hs hnc hGn hGm hi hu hR0 ?_ rfl ?_ (fun x hx => ?_) g1 g2 g3⟩
  ·rw[hW,A8 (T:=129) (by rw[hW2,hR2];exact A8 hN1),a0S,hR2]
  ·rw[hW,hW2,hW1];simp[wrote,World.setRow,World.alloc]
  ·rw[hW,u7 (by omega),hW2,u7 (by omega)];exact hO1 x hx
 clear hkk hik hold hROW hG hRl hR0
 go_enter Tryz.func255,Tryz.ntmps255
 go_wp2_with (first
  |(at_builtin;refine Lib.wpList_append_run _ rfl _ _ _ _ rfl _ _ rfl rfl _ _ (hrz _) ?_)
  |(at_builtin;refine wpList_copy_runI _ rfl _ _ 104 104 rfl _ _ rfl rfl (hcpA _ rfl _ _) ?_))
 go_region_law_o (refine step_copy_runI rfl _ _ 104 104 rfl (.slice (some ⟨w.heap.size,(i+1) * 8,none⟩) (n-i) (G-(i+1))) (.slice (some ⟨b,i * 8,none⟩) (n-i) (c-i)) (by simp[Act.eval,Act.put]) (by simp[Act.eval,Act.put]) (hcpB _ (by rw[hW2,hW1];rfl) _ _ _) ?_)
 go_wp2
 go_ret
 exact⟨.slice (some ⟨w.heap.size,0,none⟩) (n+1) G,rfl,hend _ (by rw[hW2,hW1,hR2];rfl) rfl rfl rfl⟩
theorem d2W (w:World) (b n c vb voff vc T:Nat) (cs:Array Value) (us:List Value) (hn:n≤c) (hc:c≤maxLen) (hh:w.heap[b]? = some (.cells cs T (0,0))) (hs:cs.size=c * 8) (hu:us.length=8)
  (hvs : ∀j v,us[j]? = some v→w.cell? ⟨vb,voff+j,none⟩=some v) (h1 : ∀u∈us,one u) (hb:(n+1) * 128≤140737488355328) :
  Calls Tryz.prog 255 #[.slice (some ⟨b,0,none⟩) n c,.int .i64 n,.slice (some ⟨vb,voff,none⟩) 1 vc] w fun e w' =>
   ∃v,e = .returned v∧InsE w w' 8 (.slice (some ⟨b,0,none⟩) n c) v n n 1 b c cs us:=by
 obtain⟨inf,z,hinf,hsz,hby,hz,hzc⟩:=b1i
 have u25:=run_underlying Tryz.underlying104
 have z38 : ∀w,(sizeOf 129).run Tryz.prog w = .ok 8 w:=fun w=>by simp[sizeOf,typeInfo,hinf,hsz]
 have hc63:c≤9223372036854775807:=hc
 have mixed:=j3.mix
 rcases L6 (P:=Tryz.prog) (ty:=104) (w:=w) Tryz.underlying104 hinf hz hsz hby hzc (Old.row n b c cs T hh hn hc hs) (m:=1) (us:=us) ⟨by rw[hu],.inr (.inr ⟨vb,voff,vc,rfl,hvs⟩)⟩ h1 (by omega) (by simpa using hb)with ⟨_,h,_⟩|⟨v,w',b',cap',cs',T',hr,A⟩
 ·cases h
 ·have hend:InsE w w' 8 _ v _ _ 1 b _ cs us:=⟨_,_,_,_,A.ins⟩
  by_cases hcn:n=c
  ·subst hcn
   go_enter Tryz.func255,Tryz.ntmps255
   go_wp2_with (at_builtin;refine Lib.wpList_append_run _ rfl _ _ _ _ rfl _ _ rfl rfl _ _ hr ?_)
   go_ret
   exact⟨v,rfl,hend⟩
  ·have hcn2 : ¬(c=n):=fun h=>hcn h.symm
   go_enter Tryz.func255,Tryz.ntmps255
   go_wp2_with (at_builtin;refine Lib.wpList_append_run _ rfl _ _ _ _ rfl _ _ rfl rfl _ _ hr ?_)
   go_ret
   exact⟨v,rfl,hend⟩
theorem d2V (w:World) (b vb voff vc T:Nat) (cs:Array Value) (us:List Value) (hcs:cs = #[]) (hu:us.length=8)
  (hvs : ∀j v,us[j]? = some v→w.cell? ⟨vb,voff+j,none⟩=some v) (h1 : ∀u∈us,one u) :
  Calls Tryz.prog 255 #[.slice none 0 0,.int .i64 0,.slice (some ⟨vb,voff,none⟩) 1 vc] w fun e w' =>
   ∃v,e = .returned v∧InsE w w' 8 (.slice none 0 0) v 0 0 1 b 0 cs us:=by
 obtain⟨inf,z,hinf,hsz,hby,hz,hzc⟩:=b1i
 have u25:=run_underlying Tryz.underlying104
 have z38 : ∀w,(sizeOf 129).run Tryz.prog w = .ok 8 w:=fun w=>by simp[sizeOf,typeInfo,hinf,hsz]
 have mixed:=j3.mix
 rcases L6 (P:=Tryz.prog) (ty:=104) (w:=w) Tryz.underlying104 hinf hz hsz hby hzc (Old.nil b 0 cs T hcs rfl) (m:=1) (us:=us) ⟨by rw[hu],.inr (.inr ⟨vb,voff,vc,rfl,hvs⟩)⟩ h1 (by omega) (by omega)with ⟨_,_,_,h⟩|⟨v,w',b',cap',cs',T',hr,A⟩
 ·cases h
 ·go_enter Tryz.func255,Tryz.ntmps255
  have hend:InsE w w' 8 _ v _ _ 1 b _ cs us:=⟨_,_,_,_,A.ins⟩
  go_wp2_with (at_builtin;refine Lib.wpList_append_run _ rfl _ _ _ _ rfl _ _ rfl rfl _ _ hr ?_)
  all_goals go_ret
  all_goals first|exact⟨v,rfl,hend⟩|(have hcn:c=n:=by(first|assumption|(symm;assumption)|omega);subst hcn;exact⟨v,rfl,hend⟩)
theorem d8p:c1S Tryz.prog 255 .hld:=by
 intro w s n b cap cs T i vb vcap vT vcs us hO hi hvb hvh hu hvs h1 h1c hL
 have hs5:RT.size .hld=8:=rfl
 have hb5:RT.bytes .hld=128:=rfl
 rw[hs5]at *
 rw[hb5]at hL
 cases hO with
 |nil _ _ _ _ hcs hcap =>
  have:i=0:=by omega
  subst this
  subst hcap
  exact d2V w b vb 0 vcap T cs us hcs hu hvs h1
 |row _ _ _ _ _ hh hnc hcm hcs =>
  rcases Nat.lt_or_ge i n with hlt|hge
  ·rcases Nat.lt_or_ge cap (n+1)with hr|hr
   ·exact c8O w b n cap i vb 0 vcap T vT cs vcs us hlt hnc hr hcm hh hcs hu hvh hvs h1 h1c hL
   ·exact c8M w b n cap i vb 0 vcap T vT cs vcs us hlt hr hcm hh hcs hu hvh (hvb ⟨_,rfl⟩) hvs h1 h1c
  ·have:i=n:=by omega
   subst this
   exact d2W w b i cap vb 0 vcap T cs us hnc hcm hh hcs hu hvs h1 hL
theorem c8u:b9 Tryz.prog 255 (.raw (insM .hld)) :=
 c3q ⟨_,_,Tryz.func255,by kernel_rfl,rfl⟩ d8p
theorem c9w:(Tryz.prog.info? 129).map (fun i=>(i.zero,i.size,i.bytes))=some (some (.agg #[.int .i64 0,.int .i64 0,.int .i64 0,.slice none 0 0,.int .i64 0,.slice none 0 0,.slice none 0 0,.slice none 0 0]),8,128):=by kernel_rfl
theorem d3X (w:World) (n b c:Nat) (cs:Array Value) (T i:Nat) (hh:w.heap[b]? = some (.cells cs T (0,0))) (hnc:n≤c) (hc:c≤maxLen) (hs:cs.size=c * 8) (hi:i<n) (h1c : ∀u∈cs.toList.take (n * 8),one u) :
  Calls Tryz.prog 258 #[.slice (some ⟨b,0,none⟩) n c,.int .i64 i,.int .i64 ((i:Int)+1)] w fun e w' => ∃v cs',e = .returned v∧DelE w w' 8 v n i b c cs T cs':=by
 obtain⟨inf,hinf,hz,hsz,hby⟩:=info_parts c9w
 obtain⟨Z,hZ⟩ : ∃Z:Value,Z = .agg #[.int .i64 0,.int .i64 0,.int .i64 0,.slice none 0 0,.int .i64 0,.slice none 0 0,.slice none 0 0,.slice none 0 0]:=⟨_,rfl⟩
 rw[←hZ]at hz
 have hzc:(Value.cells Z).size=8:=by rw[hZ];rfl
 have hzv : ∀w,(zeroValue 129).run Tryz.prog w = .ok Z w:=fun w=>by simp[zeroValue,typeInfo,hinf,hz]
 have hz1 : ∀u∈(Value.cells Z).toList,one u:=by
  intro u hu
  rw[hZ]at hu
  simp[Value.cells]at hu
  first|(subst hu;rfl)|(rcases hu with rfl|rfl|rfl|rfl<;>rfl)
 clear hZ
 have u25:=run_underlying Tryz.underlying104
 have z38 : ∀w,(sizeOf 129).run Tryz.prog w = .ok 8 w:=fun w=>by simp[sizeOf,typeInfo,hinf,hsz]
 have mixed:=j3.mix
 have hc63:c≤9223372036854775807:=hc
 obtain⟨e1,e2,e3,e4,e5,e6,e7⟩:=b0Q (cs:=cs) (zs:=(Value.cells Z).toList) hs hnc hi (by rw[Array.length_toList];exact hzc)
 obtain⟨us,hus⟩ : ∃us,us=(cs.toList.take (n * 8)).drop ((i+1) * 8):=⟨_,rfl⟩
 rw[←hus]at e1 e2 e3
 obtain⟨A,hA,hsrc⟩ : ∃A:Addr,(if c=i+1 then some (⟨b,0,none⟩:Addr)else some ⟨b,(i+1) * 8,none⟩)=some A∧(∀j v,us[j]? = some v→w.drew.cell? (A.add j)=some v):=by
  by_cases h:c=i+1
  ·refine⟨⟨b,0,none⟩,by simp[h],fun j v hj => ?_⟩
   have h0:us.length=0:=by rw[e1,show n-(i+1)=0 by omega,Nat.zero_mul]
   rw[List.length_eq_zero_iff.1 h0]at hj
   simp at hj
  ·refine⟨⟨b,(i+1) * 8,none⟩,by simp[h],fun j v hj => ?_⟩
   rw[hus,List.getElem?_drop,List.getElem?_take]at hj
   rw[A6,show w.drew.cell? ⟨b,(i+1) * 8+j,none⟩=w.cell? ⟨b,(i+1) * 8+j,none⟩from rfl,u0 hh]
   split at hj
   ·simpa using hj
   ·cases hj
 have h1u : ∀u∈us,one u:=fun u hu=>h1c u (by rw[hus]at hu;exact List.mem_of_mem_drop hu)
 obtain⟨W1,hW1⟩ : ∃W1,W1=wrote w.drew b (i * 8) cs us:=⟨_,rfl⟩
 have hap : ∀ty,(Builtin.append_ #[104,104] ty #[.slice (some ⟨b,0,none⟩) i c,.slice (some A) (n-(i+1)) (c-(i+1))]).run Tryz.prog w.drew = .ok (.slice (some ⟨b,0,none⟩) (i+(n-(i+1))) c) W1:=fun ty=>by
  have:=a6u (P:=Tryz.prog) (w:=w.drew) (ty:=ty) (T:=104) (b:=b) (n:=i) (cap:=c) (m:=n-(i+1)) (capx:=c-(i+1)) (a:=A) (cs:=cs) (us:=us) (T0:=T) Tryz.underlying104 hinf hh (by rw[hsz];exact e1) hsrc (by omega) (by rw[hsz];exact hs) h1u
  rw[this,hsz,hW1]
 have hh1:W1.heap[b]? = some (.cells (putAt cs.toList (i * 8) us).toArray T (0,0)):=by rw[hW1];exact A8 hh
 have hin:i+(n-(i+1))=n-1:=by omega
 rw[hin]at hap
 have hcl : ∀(W:World),W.heap=W1.heap → ∀ty cc,(Builtin.clear_ #[104] ty #[.slice (some ⟨b,(n-1) * 8,none⟩) 1 cc]).run Tryz.prog W = .ok (.tuple #[]) (wrote W b ((n-1) * 8) (putAt cs.toList (i * 8) us).toArray (Value.cells Z).toList):=fun W hW ty cc =>
  a6t (T0:=T) Tryz.underlying104 hzv (by rw[hW];exact hh1) (by rw[e3];rw[Array.length_toList]at e4;exact e4) hz1
 have hend : ∀W:World,W.heap=(wrote W1 b ((n-1) * 8) (putAt cs.toList (i * 8) us).toArray (Value.cells Z).toList).heap→W.os=w.os→W.tape=w.tape→W.output=w.output→DelE w W 8 (.slice (some ⟨b,0,none⟩) (n-1) c) n i b c cs T (closed cs 8 n i (Value.cells Z).toList):=fun W hW g1 g2 g3=>by
  refine⟨rfl,?_,e5,e6,e7,g1,g2,g3,?_,fun x hx => ?_⟩
  ·rw[hW,A8 hh1,closed,←hus]
  ·rw[hW,hW1];simp[wrote,World.setRow]
  ·rw[hW,u7 hx,hW1,u7 hx];rfl
 have hw2:IntKind.i64.wrap ((i:Int)+1)=((i+1:Nat):Int):=by rw[IntKind.wrap_i64];omega
 have hci : ¬(c=n-1):=by omega
 have hne : ¬((i:Int)=(i:Int)+1):=by omega
 have htn:((i:Int)+1).toNat=i+1:=by omega
 have hb1:(0:Int)≤(i:Int)+1:=by omega
 have hb2:(i:Int)+1≤(n:Int):=by omega
 have hb3:(i:Int)+1≤(c:Int):=by omega
 have hb4:i≤c:=by omega
 have hb5:(i:Int)≤(i:Int)+1:=by omega
 have hb6:n-(n-1)=1:=by omega
 have hb7:n-1≤n:=by omega
 have g1:W1.os=w.os:=by rw[hW1];rfl
 have g2:W1.tape=w.tape:=by rw[hW1];rfl
 have g3:W1.output=w.output:=by rw[hW1];rfl
 obtain⟨zs,hzs⟩ : ∃zs,zs=(Value.cells Z).toList:=⟨_,rfl⟩
 rw[←hzs]at hcl hend
 clear hzs hzv hz1 hzc hW1
 clear hinf hz hby e1 e2 e3 e4 e5 e6 e7 h1u hsrc hh1 h1c hus
 go_enter Tryz.func258,Tryz.ntmps258
 go_wp2_with fail
 go_region_law_o (refine a3p rfl (.tmp 22) (.tmp 25) 104 rfl _ _ (by simp[Act.eval,Act.put]) (by simp[Act.eval,Act.put]) (hap _) ?_)
 go_wp2_with (at_builtin;refine a2w _ rfl _ 104 rfl _ rfl (hcl _ rfl _ _) ?_)
 all_goals go_ret
 all_goals exact⟨.slice (some ⟨b,0,none⟩) (n-1) c,_,rfl,hend _ rfl g1 g2 g3⟩
theorem d8I:c6S Tryz.prog 258 .hld:=fun w n b cap cs T i hh h1 h2 h3 h4 h5 _=>d3X w n b cap cs T i hh h1 h2 h3 h4 h5
theorem c8y:b9 Tryz.prog 258 (.raw (delM .hld)) :=
 d3U ⟨_,_,Tryz.func258,by kernel_rfl,rfl⟩ d8I
end Go.Proofs.YtmnapekfeenknaaGreat
namespace Go.Proofs.YtmnapekfeenknaaGreat
open Go.Sx Go.Proofs Go.Mo
noncomputable def b4V:SpecX := .raw (b8w (insM .hld))
theorem c2Y:b9 Tryz.prog 255 b4V:=b6x c8u ⟨_,_,Tryz.func255,by kernel_rfl,rfl⟩
noncomputable def b4X:SpecX := .raw (b8w (delM .hld))
theorem c3a:b9 Tryz.prog 258 b4X:=b6x c8y ⟨_,_,Tryz.func258,by kernel_rfl,rfl⟩
theorem c9u {l:List Hld} {c:Int} (hs:HSort l) (hp:0≤k8 l c):G9 l c=l.eraseIdx (k8 l c).toNat:=by
 have hlt:=a2M l c
 have hcc:=a3L hp
 have hj:(k8 l c).toNat<l.length:=by omega
 generalize (k8 l c).toNat=j at *
 unfold G9
 have hl:l=l.take j++nth .hld l j::l.drop (j+1):=by
  rw[k9 .hld l j hj,←List.drop_eq_getElem_cons hj,List.take_append_drop]
 have hs2:=hs
 rw[hl]at hs2
 obtain⟨a1,a2,a3⟩:=List.pairwise_append.1 hs2
 have b1:=List.pairwise_cons.1 a2
 have t1:(l.take j).filter (fun h=>decide (h.state.cell≠c))=l.take j:=List.filter_eq_self.2 fun y hy=>by
  have:=a3 y hy _ (List.mem_cons_self ..)
  simp only[ne_eq,decide_eq_true_eq]
  omega
 have t2:(l.drop (j+1)).filter (fun h=>decide (h.state.cell≠c))=l.drop (j+1):=List.filter_eq_self.2 fun y hy=>by
  have:=b1.1 y hy
  simp only[ne_eq,decide_eq_true_eq]
  omega
 rw[List.eraseIdx_eq_take_drop_succ]
 conv=>lhs;rw[hl]
 rw[List.filter_append,List.filter_cons,t1,t2]
 simp[hcc]
theorem c0O {m:PMap} {s:Srv} {st:List Sto} {v:Int} {x:Msg} (h1:C0 m s=true) (h2:B1 m st=true) (h4:y5 m v x=true) :
  s.holds.length≤4∧0≤x.cell∧x.cell<st.length∧k8 s.holds x.cell<s.holds.length∧B2 m (nth .sto st x.cell.toNat)=true ∧
  (0≤k8 s.holds x.cell→V5 m (nth .hld s.holds (k8 s.holds x.cell).toNat)=true∧(nth .hld s.holds (k8 s.holds x.cell).toNat).state.ins.length=2∧s5 m (nth .hld s.holds (k8 s.holds x.cell).toNat).state=true∧0≤(nth .hld s.holds (k8 s.holds x.cell).toNat).count∧(nth .hld s.holds (k8 s.holds x.cell).toNat).count≤250) ∧
  (0≤k8 s.holds x.cell → ∀(a b:Int) (c:Cll),c.cell=(nth .hld s.holds (k8 s.holds x.cell).toNat).state.cell→Y8 s.holds ⟨a,b,c⟩=s.holds.set (k8 s.holds x.cell).toNat ⟨a,b,c⟩) ∧
  (0≤k8 s.holds x.cell → ∀(a b:Int),Y8 s.holds ⟨a,b,r9 m (nth .sto st x.cell.toNat)⟩=s.holds.set (k8 s.holds x.cell).toNat ⟨a,b,r9 m (nth .sto st x.cell.toNat)⟩) ∧
  (¬0≤k8 s.holds x.cell → ∀(k:Nat) (a b:Int),k≤s.holds.length→m9 k (a5G s.holds x.cell)=true→(k<s.holds.length → ¬(nth .hld s.holds k).state.cell<x.cell)→Y8 s.holds ⟨a,b,r9 m (nth .sto st x.cell.toNat)⟩=insL s.holds k [⟨a,b,r9 m (nth .sto st x.cell.toNat)⟩]) ∧
  (0≤k8 s.holds x.cell→G9 s.holds x.cell=s.holds.eraseIdx (k8 s.holds x.cell).toNat) ∧
  (x.kind=1→1≤x.n∧x.n≤900∧B2 m ⟨x.n,(nth .sto st x.cell.toNat).base,(nth .sto st x.cell.toNat).recs⟩=true∧r9 m ⟨x.n,(nth .sto st x.cell.toNat).base,(nth .sto st x.cell.toNat).recs⟩=r9 m (nth .sto st x.cell.toNat)) ∧
  (x.kind=5→(x.side=0∨x.side=1)∧0≤x.pcl.n) ∧
  (0≤k8 s.holds x.cell→x.side=0∨x.side=1 → @LE.le Int _ 0 (nth .int (nth .hld s.holds (k8 s.holds x.cell).toNat).state.ins x.side.toNat) ∧ @LE.le Int _ (nth .int (nth .hld s.holds (k8 s.holds x.cell).toNat).state.ins x.side.toNat) 5000):=by
 have hf:=b2Z h1 h2 h4
 obtain⟨f1,f2,f3,f4,f5,f6,f7,f8,f9,f10⟩:=hf
 have hlt:=a2M s.holds x.cell
 have hb:(nth .sto st x.cell.toNat).base.cell=x.cell:=by
  have:=((D9.1 h2).2.2 x.cell.toNat (by omega)).2
  omega
 have hsc:(r9 m (nth .sto st x.cell.toNat)).cell=x.cell:=by rw[a0N,hb]
 have hH:0≤k8 s.holds x.cell→z7 s x.cell=true∧j6 s x.cell=nth .hld s.holds (k8 s.holds x.cell).toNat:=fun hp=>⟨by simp[z7,hp],by unfold j6;rw[if_pos hp]⟩
 refine⟨b0Z h1,f3,f4,hlt.2,f5,fun hp => ?_,fun hp a b c hc => ?_,fun hp a b => ?_,fun hp k a b hk ha hl => ?_,fun hp => ?_,fun hk => ?_,f9,fun hp hsd => ?_⟩
 ·have:=f6 (hH hp).1
  rw[(hH hp).2]at this
  have hh:=C2.1 this.1
  exact⟨this.1,this.2.2,hh.2.2,hh.2.1.1,hh.2.1.2⟩
 ·have hcc:=a3L hp
  unfold Y8
  have e:(⟨a,b,c⟩:Hld).state.cell=x.cell:=by show c.cell=x.cell;rw[hc,hcc]
  rw[e,if_pos hp]
 ·unfold Y8
  have e:(⟨a,b,r9 m (nth .sto st x.cell.toNat)⟩:Hld).state.cell=x.cell:=hsc
  rw[e,if_pos hp]
 ·unfold Y8
  have e:(⟨a,b,r9 m (nth .sto st x.cell.toNat)⟩:Hld).state.cell=x.cell:=hsc
  rw[e,if_neg hp,d6h hk ha hl]
 ·exact c9u (b2W h1) hp
 ·have hn:=f8 hk
  have hso:=z6.1 f5
  exact⟨hn.1,hn.2,z6.2 ⟨⟨by show 0≤x.n;omega,by show x.n≤900;omega⟩,hso.2.1,hso.2.2.1,hso.2.2.2⟩,rfl⟩
 ·have:=f10 (hH hp).1 hsd
  rw[(hH hp).2]at this
  exact this
theorem b6C {m:PMap} {s:Sto} {a b:Int} {r:Rec} (h:B2 m s=true):A7 m s a b r=M3 m s a b r:=by rw[A7,if_pos h]
theorem d6Q {m:PMap} {s:Sto} {a b:Int} {r:Rec} (h:(M3 m s a b r).n=1):I4 m r=true:=by
 unfold M3 at h
 split at h
 ·simp at h
 ·split at h
  ·simp at h
  ·split at h
   ·rename_i hh;exact hh.1
   ·simp at h
theorem d8k (n:Nat):(NatCast.natCast n:Int)=(n:Int):=rfl
end Go.Proofs.YtmnapekfeenknaaGreat
