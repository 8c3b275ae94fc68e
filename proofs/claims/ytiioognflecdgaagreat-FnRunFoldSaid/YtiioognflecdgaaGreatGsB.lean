/-
  Contracts: a message brought, the program's way.
-/
import Derived.Test.YtiioognflecdgaaGreatInsH
import Derived.Test.YtiioognflecdgaaGreatGnVe
import Derived.Test.YtiioognflecdgaaGreatGnW
set_option linter.unusedVariables false
set_option linter.unusedSimpArgs false
set_option maxRecDepth 100000
set_option maxHeartbeats 16000000
namespace Go.Sx
def St.d2b (σ : St):St:=⟨σ.tm,σ.hp,σ.up.map b3A⟩
end Go.Sx
namespace Go.Proofs.YtiioognflecdgaaGreat
open Go.Sx Go.Proofs Go.Mo
theorem c8f {w:Wld} (hok:j6 w=true) {i:Nat} (hi:i<w.net.length) (hd : ¬(nth .msg w.net i).dest = -1) :
  E4 w.map (nth .srv w.servers (nth .msg w.net i).dest.toNat) w.stores w.table w.servers.length (nth .msg w.net i)=n5 w.map (nth .srv w.servers (nth .msg w.net i).dest.toNat) w.stores w.table (nth .msg w.net i):=by
 have hF:=I5 hok
 have hm:=hF.2.2.2.2.2.1 i hi
 have hs:=hF.2.2.2.2.2.2.1 (nth .msg w.net i).dest.toNat (by omega)
 rw[E4,if_pos ⟨hs,hF.2.1,hF.1,hm.1⟩]
theorem b8i {w:Wld} (hok:j6 w=true) {i:Nat} (hi:i<w.net.length) (hd : ¬(nth .msg w.net i).dest = -1) {s:Srv} {st:List Sto} {out:List Msg}
  (h1 : @Eq Srv (E4 w.map (nth .srv w.servers (nth .msg w.net i).dest.toNat) w.stores w.table w.servers.length (nth .msg w.net i)).srv s) (h2 : @Eq (List Sto) (E4 w.map (nth .srv w.servers (nth .msg w.net i).dest.toNat) w.stores w.table w.servers.length (nth .msg w.net i)).stores st)
  (h3 : @Eq (List Msg) (E4 w.map (nth .srv w.servers (nth .msg w.net i).dest.toNat) w.stores w.table w.servers.length (nth .msg w.net i)).out out) :
  u7 ⟨w.map,w.servers.set (nth .msg w.net i).dest.toNat s,st,w.table,w.rows,w.net.eraseIdx i,w.notes⟩ out=J7 w i:=by
 rw[←h1,←h2,←h3,c8f hok hi hd]
 unfold J7
 simp only
 rw[if_neg hd]
 rfl
theorem c5r {w:Wld} (hok:j6 w=true) {i:Nat} (hi:i<w.net.length) (hd : ¬(nth .msg w.net i).dest = -1) {st:List Sto} {out:List Msg}
  (h1 : @Eq Srv (E4 w.map (nth .srv w.servers (nth .msg w.net i).dest.toNat) w.stores w.table w.servers.length (nth .msg w.net i)).srv (nth .srv w.servers (nth .msg w.net i).dest.toNat)) (h2 : @Eq (List Sto) (E4 w.map (nth .srv w.servers (nth .msg w.net i).dest.toNat) w.stores w.table w.servers.length (nth .msg w.net i)).stores st)
  (h3 : @Eq (List Msg) (E4 w.map (nth .srv w.servers (nth .msg w.net i).dest.toNat) w.stores w.table w.servers.length (nth .msg w.net i)).out out) :
  u7 ⟨w.map,w.servers,st,w.table,w.rows,w.net.eraseIdx i,w.notes⟩ out=J7 w i:=by
 have:=b8i hok hi hd h1 h2 h3
 have hs:w.servers.set (nth .msg w.net i).dest.toNat (nth .srv w.servers (nth .msg w.net i).dest.toNat)=w.servers:=by
  apply List.ext_getElem (by simp)
  intro j h1 h2
  rw[List.getElem_set]
  split
  ·rename_i e
   subst e
   rw[l7 .srv _ _ h2]
  ·rfl
 rw[hs]at this
 exact this
theorem d1a {w:Wld} {i:Nat} (hd:(nth .msg w.net i).dest = -1):J7 w i=⟨w.map,w.servers,w.stores,w.table,(z8 w.map w.rows (nth .msg w.net i)).b,w.net.eraseIdx i,if(z8 w.map w.rows (nth .msg w.net i)).ok=true∧w.notes.length<150 then w.notes ++ [⟨(nth .msg w.net i).ord.who,(nth .msg w.net i).ord.seq,(nth .msg w.net i).n⟩]else w.notes⟩:=by
 unfold J7
 simp only
 rw[if_pos hd]
 rfl
theorem d1l {w:Wld} (hok:j6 w=true) (i:Nat):(w.net.eraseIdx i).length≤40:=Nat.le_trans (List.length_eraseIdx_le ..) (I5 hok).2.2.2.1
noncomputable def b3U:Sx.Io:=⟨.row .wld,true,[.int .i64],[],fun w ⟨i,_⟩ => .asrt (fun _=>j6 (w ())=true∧0≤i ()∧i ()<(w ()).net.length) (.ret (.tup [],fun _=>J7 (w ()) (i ()).toNat))⟩
theorem b7e:b6 Tryz.prog 70 (ioX b3U):=io1 b9 (ss := [(71,a7g),(115,a2y),(220,b8F),(192,b2i),(162,c0U),(194,Z6),(109,a1f),(158,N7),(226,(ioX d1I)),(171,(ioX c1k)),(196,b2m),(85,F9),(75,E6),(67,(ioX b8G)),(114,(ioX c6n))]) ⟨b0i,b0g,c1C,b9q,c6X,b2y,b7b,a6m,d2L,c7r,b9t,U5,a0a,c1D,d0v,trivial⟩ rfl rfl<|by
 intro(w:Th Wld) ⟨(i:Th Int),u⟩ K _ ho h
 obtain⟨w,rfl⟩:=a8 w;obtain⟨i,rfl⟩:=a8 i
 obtain⟨ha,h⟩:=h
 have ha:=ha.out
 have ha:j6 w=true∧0≤i∧i<w.net.length:=ha
 obtain⟨hok,hi0,hi1⟩:=ha
 have hF:=I5 hok
 have hw1:IntKind.i64.wrap (i+1)=i+1:=b8 (by have:=hF.2.2.2.1;dsimp only at *;omega) (by have:=hF.2.2.2.1;dsimp only at *;omega)
 refine⟨annL [(161,5,⟨Nat,[],fun σ k=>(σ.d2b.only [0,2,5,7,9,10]).t 8 (vI fun _=>(k:Int)),fun _ k _=>k≤(nth .srv w.servers (nth .msg w.net i.toNat).dest.toNat).holds.length∧l9 k (a3R (nth .srv w.servers (nth .msg w.net i.toNat).dest.toNat).holds (nth .msg w.net i.toNat).cell)=true,fun _ k _=>(nth .srv w.servers (nth .msg w.net i.toNat).dest.toNat).holds.length-k⟩)],noAnn,20,?_⟩
 cbv
 repeat' first|((with_reducible refine fun(k:Nat) => ?_);cbv)|((with_reducible intro _);cbv)|(with_reducible refine And.intro ?_ ?_)
 all_goals try((first|(with_reducible refine LoopIn.mk ((0:Nat)) ?_ ?_)|(with_reducible refine LoopBack.mk ((k+1:Nat)) ?_ ?_ ?_)) )
 all_goals try((with_reducible show l8 _ _);cbv;(try simp only[and_true,true_and]))
 all_goals try(repeat' with_reducible refine And.intro ?_ ?_)
 all_goals first|refine ioK h ?_ ?_|(with_reducible refine Ob.mk ?_;clear h)|(clear h)
 all_goals(try clear h)
 all_goals(try clear K)
 all_goals(try simp only[fin0])
 all_goals(try simp only[eta0,RT.bytes]at *)
 all_goals(try dsimp only[RT.ty]at *)
 all_goals(try simp only[d2P]at *)
 all_goals(try simp only[b8D]at *)
 all_goals(try simp only[B4]at *)
 all_goals(try clear ho ha)
 all_goals(try have hcf:=d1l hok i.toNat)
 all_goals first|omega|exact⟨by omega,by omega⟩|exact j4 (by omega)|exact⟨hcf,by simp⟩|skip
 all_goals(try simp only[Classical.not_not]at *)
 all_goals(try have hge:=d1a (by assumption:(nth .msg w.net i.toNat).dest = -1))
 all_goals(try have hM:=hF.2.2.2.2.2.1 i.toNat (by omega))
 all_goals(try have hS:=hF.2.2.2.2.2.2.1 (nth .msg w.net i.toNat).dest.toNat (by omega))
 all_goals(try have hF2:=b7C hS hF.2.1 hM.1)
 all_goals(try(have hd2:(nth .msg w.net i.toNat).dest.toNat<w.servers.length:=by omega);simp only[m6 .srv hd2,List.set_set])
 all_goals first|refine b8i hok (by omega) (by assumption) ?_ ?_ ?_|refine c5r hok (by omega) (by assumption) ?_ ?_ ?_|skip
 all_goals(try dsimp only[RT.ty]at *)
 all_goals(try generalize nth .srv w.servers (nth .msg w.net i.toNat).dest.toNat=s at *)
 all_goals(try generalize nth .msg w.net i.toNat=x at *)
 all_goals(try rw[m6 .sto (by omega)]at *)
 all_goals(try(have hlt:(j5 s.holds x.cell).toNat<s.holds.length:=by omega);simp only[m6 .hld hlt,List.set_set])
 all_goals first|omega|rfl|grind(splits:=40) [E4,n5,H5,V2,V1,B1,u3,e9,u5,a4k,a6q,A8,G5,u6,R0,b8,j4,b3F,d1w,P8,n8,n3,a3R,c0K]
end Go.Proofs.YtiioognflecdgaaGreat
