/-
  Plain: the facts at the ends of a world's step.
-/
import Derived.Test.YtiioognflecdgaaGreatGnW
import Derived.Test.YtiioognflecdgaaGreatInsH
import Derived.Test.YtiioognflecdgaaGreatM3
set_option linter.unusedVariables false
set_option linter.unusedSimpArgs false
set_option maxHeartbeats 4000000
namespace Go.Proofs.YtiioognflecdgaaGreat
open Go.Sx Go.Proofs Go.Mo
theorem c5O {m:PMap} {t:Arb} {v:Int} (h:B8 m t v=true):tabB t v:=by
 have h1:=B7 h
 have h2:=s0.1 h1.2.2.1
 refine⟨by omega,by omega,by omega,by omega,fun k hk => ?_⟩
 have:=a5m h (k:=k) (by omega)
 exact⟨this.2.2.1,this.2.2.2.1⟩
theorem c8j {t:Arb} {v c s:Int} (h:tabB t v) (hg:(n4 t v c s).ok=true):0≤c∧c<((n4 t v c s).t.ages.length:Int):=by
 obtain⟨h1,-⟩:=h
 unfold n4 at hg ⊢
 split at hg
 ·rename_i hc
  rw[if_pos hc]
  simp only[List.length_set]
  omega
 ·cases hg
section
variable {w:Wld} {e:Evt} {x:Arb} {rows:List Row} {l:List Msg}
theorem st1 (hk:e.kind=1) (hg:(n4 w.table w.servers.length e.pos e.dest).ok=true):u7 ⟨w.map,w.servers,w.stores,(n4 w.table w.servers.length e.pos e.dest).t,w.rows,w.net,w.notes⟩ [⟨1,e.dest,e.pos,0,nth .int (n4 w.table w.servers.length e.pos e.dest).t.ages e.pos.toNat,⟨0,0,0,0,0⟩,⟨0,0,⟨0,0,0,0,0⟩,0⟩,⟨0,0,⟨0,0,0,0,0⟩⟩⟩]=m9 w e:=by
 unfold m9
 rw[if_pos hk]
 simp only[hg,if_true]
 rfl
theorem st1n (hk:e.kind=1) (hg:(n4 w.table w.servers.length e.pos e.dest).ok=false):(⟨w.map,w.servers,w.stores,(n4 w.table w.servers.length e.pos e.dest).t,w.rows,w.net,w.notes⟩:Wld)=m9 w e:=by
 unfold m9
 rw[if_pos hk]
 simp only[hg]
 rw[if_neg (by simp)]
 unfold n4 at hg ⊢
 split at hg
 ·cases hg
 ·rename_i hc
  rw[if_neg hc]
theorem st2 (hk:e.kind=2):(⟨w.map,w.servers,w.stores,w.table,(L6 w.rows e.pos e.what e.dest e.n).b,w.net,w.notes⟩:Wld)=m9 w e:=by
 unfold m9
 rw[if_neg (by omega),if_pos hk]
theorem st3 (hk:e.kind=3) (h1 : ¬k9 w.rows e.pos<0) (h2:(nth .row w.rows (k9 w.rows e.pos).toNat).busy=true) (h3 : ¬j9 w.table (nth .row w.rows (k9 w.rows e.pos).toNat).cell = -1) :
  u7 w [⟨2,j9 w.table (nth .row w.rows (k9 w.rows e.pos).toNat).cell,(nth .row w.rows (k9 w.rows e.pos).toNat).cell,0,0,(nth .row w.rows (k9 w.rows e.pos).toNat).ord,⟨0,0,⟨0,0,0,0,0⟩,0⟩,⟨0,0,⟨0,0,0,0,0⟩⟩⟩]=m9 w e:=by
 unfold m9
 rw[if_neg (by omega),if_neg (by omega),if_pos hk]
 unfold U0
 have hc:0≤k9 w.rows e.pos∧(Mo.rowAt w.rows e.pos).busy=true∧j9 w.table (Mo.rowAt w.rows e.pos).cell ≠ -1:=by
  rw[Mo.rowAt]
  exact⟨by omega,h2,h3⟩
 rw[if_pos hc,if_pos rfl,Mo.rowAt]
 rfl
theorem st3n (hk:e.kind=3) (h:k9 w.rows e.pos<0∨(nth .row w.rows (k9 w.rows e.pos).toNat).busy=false∨j9 w.table (nth .row w.rows (k9 w.rows e.pos).toNat).cell = -1):w=m9 w e:=by
 unfold m9
 rw[if_neg (by omega),if_neg (by omega),if_pos hk]
 unfold U0
 have hc : ¬(0≤k9 w.rows e.pos∧(Mo.rowAt w.rows e.pos).busy=true∧j9 w.table (Mo.rowAt w.rows e.pos).cell ≠ -1):=by
  rintro⟨h1,h2,h3⟩
  rw[Mo.rowAt]at h2 h3
  rcases h with h|h|h
  ·omega
  ·rw[h]at h2
   cases h2
  ·exact h3 h
 rw[if_neg hc,if_neg (by simp)]
theorem st4 (hk:e.kind=4) (hp:0≤e.pos∧e.pos<(w.net.length:Int)):J7 w e.pos.toNat=m9 w e:=by
 unfold m9
 rw[if_neg (by omega),if_neg (by omega),if_neg (by omega),if_pos (by omega),if_pos hp,if_pos hk]
theorem st5 (hk:e.kind=5) (hp:0≤e.pos∧e.pos<(w.net.length:Int)):(⟨w.map,w.servers,w.stores,w.table,w.rows,w.net.eraseIdx e.pos.toNat,w.notes⟩:Wld)=m9 w e:=by
 unfold m9
 rw[if_neg (by omega),if_neg (by omega),if_neg (by omega),if_pos (by omega),if_pos hp,if_neg (by omega),if_pos hk]
 rfl
theorem st6 (hk:e.kind=6) (hp:0≤e.pos∧e.pos<(w.net.length:Int)):u7 w [nth .msg w.net e.pos.toNat]=m9 w e:=by
 unfold m9
 rw[if_neg (by omega),if_neg (by omega),if_neg (by omega),if_pos (by omega),if_pos hp,if_neg (by omega),if_neg (by omega)]
theorem st7 (hk:e.kind=7) (hp:0≤e.pos∧e.pos<(w.servers.length:Int)):u7 w (D1 w.map (nth .srv w.servers e.pos.toNat) w.table e.dest)=m9 w e:=by
 unfold m9
 rw[if_neg (by omega),if_neg (by omega),if_neg (by omega),if_neg (by omega),if_pos (by omega),if_pos hp,if_pos hk]
theorem st8 (hk:e.kind=8) (hp:0≤e.pos∧e.pos<(w.servers.length:Int)):(⟨w.map,B5 .srv (fun _=>w.servers) (fun _=>e.pos) (fun _=>(⟨false,[],[]⟩:Srv)) (),w.stores,w.table,w.rows,w.net,w.notes⟩:Wld)=m9 w e:=by
 unfold m9
 rw[if_neg (by omega),if_neg (by omega),if_neg (by omega),if_neg (by omega),if_pos (by omega),if_pos hp,if_neg (by omega),if_pos hk]
 rfl
theorem st9 (hk:e.kind=9) (hp:0≤e.pos∧e.pos<(w.servers.length:Int)) (hu:(nth .srv w.servers e.pos.toNat).up=false):(⟨w.map,B5 .srv (fun _=>w.servers) (fun _=>e.pos) (fun _=>(⟨true,[],[]⟩:Srv)) (),w.stores,w.table,w.rows,w.net,w.notes⟩:Wld)=m9 w e:=by
 unfold m9
 rw[if_neg (by omega),if_neg (by omega),if_neg (by omega),if_neg (by omega),if_pos (by omega),if_pos hp,if_neg (by omega),if_neg (by omega),if_pos hu]
 rfl
theorem stn (h : ¬(1≤e.kind∧e.kind≤9)∨(4≤e.kind∧e.kind≤6 ∧ ¬(0≤e.pos∧e.pos<(w.net.length:Int)))∨(7≤e.kind∧e.kind≤9 ∧ ¬(0≤e.pos∧e.pos<(w.servers.length:Int)))):w=m9 w e:=by
 unfold m9
 rcases h with h|h|h
 ·rw[if_neg (by omega),if_neg (by omega),if_neg (by omega),if_neg (by omega),if_neg (by omega)]
 ·rw[if_neg (by omega),if_neg (by omega),if_neg (by omega),if_pos (by omega),if_neg (by omega)]
 ·rw[if_neg (by omega),if_neg (by omega),if_neg (by omega),if_neg (by omega),if_pos (by omega),if_neg (by omega)]
theorem stn9 (hk:e.kind=9) (hu:(nth .srv w.servers e.pos.toNat).up=true):w=m9 w e:=by
 unfold m9
 rw[if_neg (by omega),if_neg (by omega),if_neg (by omega),if_neg (by omega),if_pos (by omega)]
 split
 ·rw[if_neg (by omega),if_neg (by omega),if_neg (by simp[hu])]
 ·rfl
end
end Go.Proofs.YtiioognflecdgaaGreat
