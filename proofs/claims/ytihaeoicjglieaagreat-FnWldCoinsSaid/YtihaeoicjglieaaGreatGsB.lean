/-
  Contracts: a message brought, the program's way.
-/
import Derived.Test.YtihaeoicjglieaaGreatGnR
import Derived.Test.YtihaeoicjglieaaGreatInsG
import Derived.Test.YtihaeoicjglieaaGreatGnQf
import Derived.Test.YtihaeoicjglieaaGreatGnW
set_option linter.unusedVariables false
set_option linter.unusedSimpArgs false
set_option maxRecDepth 100000
set_option maxHeartbeats 16000000
namespace Go.Sx
def St.d5U (σ : St):St:=⟨σ.tm,σ.hp,σ.up.map b5u⟩
end Go.Sx
namespace Go.Proofs.YtihaeoicjglieaaGreat
open Go.Sx Go.Proofs Go.Mo
theorem d1N {w:Wld} (hok:j8 w=true) {i:Nat} (hi:i<w.net.length) (hd : ¬(nth .msg w.net i).dest = -1) :
  G4 w.map (nth .srv w.servers (nth .msg w.net i).dest.toNat) w.stores w.table w.servers.length (nth .msg w.net i)=o6 w.map (nth .srv w.servers (nth .msg w.net i).dest.toNat) w.stores w.table (nth .msg w.net i):=by
 have hF:=L5 hok
 have hm:=hF.2.2.2.2.2.1 i hi
 have hs:=hF.2.2.2.2.2.2.1 (nth .msg w.net i).dest.toNat (by omega)
 rw[G4,if_pos ⟨hs,hF.2.1,hF.1,hm.1⟩]
theorem c0E {w:Wld} (hok:j8 w=true) {i:Nat} (hi:i<w.net.length) (hd : ¬(nth .msg w.net i).dest = -1) {s:Srv} {st:List Sto} {out:List Msg}
  (h1 : @Eq Srv (G4 w.map (nth .srv w.servers (nth .msg w.net i).dest.toNat) w.stores w.table w.servers.length (nth .msg w.net i)).srv s) (h2 : @Eq (List Sto) (G4 w.map (nth .srv w.servers (nth .msg w.net i).dest.toNat) w.stores w.table w.servers.length (nth .msg w.net i)).stores st)
  (h3 : @Eq (List Msg) (G4 w.map (nth .srv w.servers (nth .msg w.net i).dest.toNat) w.stores w.table w.servers.length (nth .msg w.net i)).out out) :
  v7 ⟨w.map,w.servers.set (nth .msg w.net i).dest.toNat s,st,w.table,w.rows,w.net.eraseIdx i,w.notes⟩ out=V8 w i:=by
 rw[←h1,←h2,←h3,d1N hok hi hd]
 unfold V8
 simp only
 rw[if_neg hd]
 rfl
theorem c8y {w:Wld} (hok:j8 w=true) {i:Nat} (hi:i<w.net.length) (hd : ¬(nth .msg w.net i).dest = -1) {st:List Sto} {out:List Msg}
  (h1 : @Eq Srv (G4 w.map (nth .srv w.servers (nth .msg w.net i).dest.toNat) w.stores w.table w.servers.length (nth .msg w.net i)).srv (nth .srv w.servers (nth .msg w.net i).dest.toNat)) (h2 : @Eq (List Sto) (G4 w.map (nth .srv w.servers (nth .msg w.net i).dest.toNat) w.stores w.table w.servers.length (nth .msg w.net i)).stores st)
  (h3 : @Eq (List Msg) (G4 w.map (nth .srv w.servers (nth .msg w.net i).dest.toNat) w.stores w.table w.servers.length (nth .msg w.net i)).out out) :
  v7 ⟨w.map,w.servers,st,w.table,w.rows,w.net.eraseIdx i,w.notes⟩ out=V8 w i:=by
 have:=c0E hok hi hd h1 h2 h3
 have hs:w.servers.set (nth .msg w.net i).dest.toNat (nth .srv w.servers (nth .msg w.net i).dest.toNat)=w.servers:=by
  apply List.ext_getElem (by simp)
  intro j h1 h2
  rw[List.getElem_set]
  split
  ·rename_i e
   subst e
   rw[l6 .srv _ _ h2]
  ·rfl
 rw[hs]at this
 exact this
theorem d4O {w:Wld} {i:Nat} (hd:(nth .msg w.net i).dest = -1):V8 w i=⟨w.map,w.servers,w.stores,w.table,(B2 w.map w.rows (nth .msg w.net i)).b,w.net.eraseIdx i,if(B2 w.map w.rows (nth .msg w.net i)).ok=true∧w.notes.length<150 then w.notes ++ [⟨(nth .msg w.net i).ord.who,(nth .msg w.net i).ord.seq,(nth .msg w.net i).n⟩]else w.notes⟩:=by
 unfold V8
 simp only
 rw[if_pos hd]
 rfl
theorem d5b {w:Wld} (hok:j8 w=true) (i:Nat):(w.net.eraseIdx i).length≤40:=Nat.le_trans (List.length_eraseIdx_le ..) (L5 hok).2.2.2.1
noncomputable def c3X:Sx.Io:=⟨.row .wld,true,[.int .i64],[],fun w ⟨i,_⟩ => .asrt (fun _=>j8 (w ())=true∧0≤i ()∧i ()<(w ()).net.length) (.ret (.tup [],fun _=>V8 (w ()) (i ()).toNat))⟩
theorem d0T:b8 Tryz.prog 113 (ioX c3X):=io1 e9 (ss := [(114,a8H),(177,a6f),(47,c1s),(251,b3V),(221,c3I),(247,a0M),(170,a2d),(75,R0),(273,(ioX d5C)),(167,(ioX c4b)),(254,b3X),(48,G5),(174,M7),(110,(ioX c1t)),(176,(ioX c9L))]) ⟨b1H,b9r,c4x,c1Z,d0B,b4p,b9u,a7E,d6B,d0V,c2b,U1,a4F,c4y,d4m,trivial⟩ rfl rfl<|by
 intro(w:Th Wld) ⟨(i:Th Int),u⟩ K _ ho h
 obtain⟨w,rfl⟩:=b6 w;obtain⟨i,rfl⟩:=b6 i
 obtain⟨ha,h⟩:=h
 have ha:=ha.out
 have ha:j8 w=true∧0≤i∧i<w.net.length:=ha
 obtain⟨hok,hi0,hi1⟩:=ha
 have hF:=L5 hok
 have hw1:IntKind.i64.wrap (i+1)=i+1:=e8 (by have:=hF.2.2.2.1;dsimp only at *;omega) (by have:=hF.2.2.2.1;dsimp only at *;omega)
 refine⟨annL [(220,5,⟨Nat,[],fun σ k=>(σ.d5U.only [0,2,5,7,9,10]).t 8 (vI fun _=>(k:Int)),fun _ k _=>k≤(nth .srv w.servers (nth .msg w.net i.toNat).dest.toNat).holds.length∧m8 k (a4T (nth .srv w.servers (nth .msg w.net i.toNat).dest.toNat).holds (nth .msg w.net i.toNat).cell)=true,fun _ k _=>(nth .srv w.servers (nth .msg w.net i.toNat).dest.toNat).holds.length-k⟩)],noAnn,20,?_⟩
 cbv
 repeat' first|((with_reducible refine fun(k:Nat) => ?_);cbv)|((with_reducible intro _);cbv)|(with_reducible refine And.intro ?_ ?_)
 all_goals try((first|(with_reducible refine LoopIn.mk ((0:Nat)) ?_ ?_)|(with_reducible refine LoopBack.mk ((k+1:Nat)) ?_ ?_ ?_)) )
 all_goals try((with_reducible show m0 _ _);cbv;(try simp only[and_true,true_and]))
 all_goals try(repeat' with_reducible refine And.intro ?_ ?_)
 all_goals first|refine ioK h ?_ ?_|(with_reducible refine Ob.mk ?_;clear h)|(clear h)
 all_goals(try clear h)
 all_goals(try clear K)
 all_goals(try simp only[fin0])
 all_goals(try simp only[eta0,RT.bytes]at *)
 all_goals(try dsimp only[RT.ty]at *)
 all_goals(try simp only[d6F]at *)
 all_goals(try simp only[c1q]at *)
 all_goals(try simp only[B3]at *)
 all_goals(try clear ho ha)
 all_goals(try have hcf:=d5b hok i.toNat)
 all_goals first|omega|exact⟨by omega,by omega⟩|exact j3 (by omega)|exact⟨hcf,by simp⟩|skip
 all_goals(try simp only[Classical.not_not]at *)
 all_goals(try have hge:=d4O (by assumption:(nth .msg w.net i.toNat).dest = -1))
 all_goals(try have hM:=hF.2.2.2.2.2.1 i.toNat (by omega))
 all_goals(try have hS:=hF.2.2.2.2.2.2.1 (nth .msg w.net i.toNat).dest.toNat (by omega))
 all_goals(try have hF2:=b9T hS hF.2.1 hM.1)
 all_goals(try(have hd2:(nth .msg w.net i.toNat).dest.toNat<w.servers.length:=by omega);simp only[l9 .srv hd2,List.set_set])
 all_goals first|refine c0E hok (by omega) (by assumption) ?_ ?_ ?_|refine c8y hok (by omega) (by assumption) ?_ ?_ ?_|skip
 all_goals(try dsimp only[RT.ty]at *)
 all_goals(try generalize nth .srv w.servers (nth .msg w.net i.toNat).dest.toNat=s at *)
 all_goals(try generalize nth .msg w.net i.toNat=x at *)
 all_goals(try rw[l9 .sto (by omega)]at *)
 all_goals(try(have hlt:(j7 s.holds x.cell).toNat<s.holds.length:=by omega);simp only[l9 .hld hlt,List.set_set])
 all_goals first|omega|rfl|grind(splits:=40) [G4,o6,M5,Y2,Y1,C0,y4,j6,A6,a2n,a7I,y8,F8,u5,U6,e8,j3,b5A,d5o,a0y,n7,n4,a4T,c3u]
end Go.Proofs.YtihaeoicjglieaaGreat
