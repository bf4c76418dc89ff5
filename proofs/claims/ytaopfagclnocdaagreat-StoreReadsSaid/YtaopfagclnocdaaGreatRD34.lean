/- Rows.StoreReadsSaid -/
import Derived.Test.YtaopfagclnocdaaGreatRD5
import Derived.Test.YtaopfagclnocdaaGreatRD33
import Derived.Test.YtaopfagclnocdaaGreatRD2
namespace Go.Proofs.YtaopfagclnocdaaGreat
open Go.RowKit
set_option linter.unusedVariables false
set_option maxHeartbeats 64000000
set_option maxRecDepth 100000
theorem writeS_ops (r:Rec) (s:SD):(writeS r s).1.1.ops≤s.1.ops+11:=by
 have h:=appendL_ops ((writeE r s).1.kind:Int) (writeE r s).1.body (s.1,s.2.l)
 unfold writeS
 repeat' split
 all_goals first | exact Nat.le_add_right _ _ | exact h
structure SuSt (M k z:Nat) (s:SD):Prop where
 rm:∃ Fr kk,SoRm s Fr kk (M - k)
 size:s.2.l.size=z
 ops:s.1.ops≤1000+20 * k
theorem SuSt.inv {M k z:Nat} {s:SD} (h:SuSt M k z s):∃ Fr kk,SoInv s Fr kk Fr kk:=by
 obtain⟨Fr,kk,g⟩:=h.rm
 exact⟨Fr,kk,g.inv⟩
theorem SuSt.lgOk {M k z:Nat} {s:SD} (h:SuSt M k z s) (hz:16≤z∧z≤1048576):LgOk s.2.l:=by
 obtain⟨_,_,g⟩:=h.inv
 exact⟨by rw [h.size];exact hz.1,by rw [h.size];exact hz.2,g.log.now.1⟩
theorem SuSt.write {M k z:Nat} {s:SD} (h:SuSt M k z s) (hk:k < M) {r:Rec} (wr:WfR r):SuSt M (k+1) z (writeS r s).1∧(writeS r s).1.2.sure=s.2.sure:=by
 obtain⟨Fr,kk,g⟩:=h.rm
 rw [show M - k=(M - (k+1))+1 by omega] at g
 obtain⟨a1,a2,a3,a4⟩:=g.write wr
 have ho:=writeS_ops r s
 refine⟨⟨?_,by rw [a1];exact h.size,by have:=h.ops;omega⟩,a3⟩
 rcases a4 with ⟨_,f,b⟩|⟨_,b⟩
 ·exact⟨_,_,b⟩
 ·rw [b];exact⟨Fr,kk,g.less (by omega)⟩
theorem ver_of (n:Int):1≤wrap64 (1+wrap64 ((IntKind.u64.wrap n).tmod 3))∧wrap64 (1+wrap64 ((IntKind.u64.wrap n).tmod 3))≤3:=by
 have e:IntKind.u64.wrap n=n % 18446744073709551616:=rfl
 rw [e]
 have h1:(n % 18446744073709551616).tmod 3=(n % 18446744073709551616) % 3:=Int.tmod_eq_emod_of_nonneg (by omega)
 rw [h1]
 unfold wrap64;omega
theorem dNew_ops (q:Int):(dNew q).ops=0:=rfl
theorem created_ops {v size:Int} {d:DiskD}:(createD v size d).1.ops≤d.ops+20:=by
 unfold createD
 by_cases h1:v < 1∨3 < v
 ·rw [if_pos h1];exact Nat.le_add_right _ _
 rw [if_neg h1]
 by_cases h2:(nmAt d.now nmHead).isSome=true
 ·rw [if_pos h2];exact Nat.le_add_right _ _
 rw [if_neg h2]
 have hb:=thenD_le (μ:=fun d:DiskD=>d.ops) (r:=thenD (beginD 1 d) (fun d=>dSync d (segName 1))) (f:=fun d=>((commitD (firstM v.toNat) d).1,(commitD (firstM v.toNat) d).2.2)) (a:=d.ops+3) (b:=5) (thenD_le (μ:=fun d:DiskD=>d.ops) (a:=d.ops+2) (b:=1) (beginD_ops 1 d) fun t=>dSync_ops t _) (fun t=>commitD_ops _ t)
 simp only
 split
 ·simp only;omega
 ·simp only;omega
theorem SuSt.start (M:Nat) (hM:M≤62) {v:Int} (hv:1≤v∧v≤3) (size:Int):∃ s:SD,createS v size (dNew 300000)=(s.1,some s.2,0)∧SuSt M 0 (sized size) s∧s.2.st=zeroSt∧s.2.sure=zeroSt∧(s.2.l.m.ver:Int)=v:=by
 obtain⟨s,h1,h2,h3,h4,h5,h6⟩:=SoRm.start hv size 300000 M (by omega) hM
 refine⟨s,h1,⟨⟨_,_,h2⟩,h6,?_⟩,h3,h4,h5⟩
 have ho:=created_ops (v:=v) (size:=size) (d:=dNew 300000)
 have e:s.1=(createD v size (dNew 300000)).1:=by
  have:=congrArg Prod.fst h1
  rw [← this]
  unfold createS
  cases (createD v size (dNew 300000)).2.1 <;> rfl
 rw [e]
 rw [dNew_ops] at ho
 omega
section
variable {W:World}
def SuRel (sb lb bd stb wb n:Nat) (W:World) (i:Value) (wr:World):Prop:=
 ∃ (k:Nat) (s:SD) (A:Option Addr) (a:Nat) (D:Option Addr) (d:Nat) (F:Option Addr) (f:Nat),k≤n∧i=.int .i64 k∧SuSt 61 k (sized 300) s∧In [] W wr (SoL sb lb bd stb s [Cells wb #[.int .i64 s.2.sure.gen,.slice A s.2.sure.bks.length a,.slice D s.2.sure.drs.length d,.slice F s.2.sure.fls.length f] 36,BkR (.slice A s.2.sure.bks.length a) s.2.sure.bks,DrR (.slice D s.2.sure.drs.length d) s.2.sure.drs,FlR (.slice F s.2.sure.fls.length f) s.2.sure.fls])
end
def ViewA (k:Nat) (v:Value) (n:Nat) (xs:List Value):Asrt:=fun w F=>xs.length=n * k∧∃ a cap,v=.slice a n cap∧n≤cap∧cap≤maxLen ∧
 ((a=none∧n=0∧F=[])∨∃ g o,a=some ⟨g,o,none⟩∧F=[g]∧g < w.heap.size∧∀ j u,xs[j]?=some u→w.cell? ⟨g,o+j,none⟩=some u)
theorem RowA.view {T:TypeId} {k:Nat} {v:Value} {n:Nat} {xs:List Value} {w:World} {F:List Nat} (h:RowA T k v n xs w F):ViewA k v n xs w F:=by
 obtain⟨a,cap,rfl,h1,h2,h3⟩:=h.shape
 obtain⟨hF,hl,h4⟩:=h
 refine⟨hl,a,cap,rfl,h1,h2,?_⟩
 rcases h4 with ⟨e,h5⟩|⟨g,c,cur,e,_,hb,_⟩
 ·cases e
  exact Or.inl ⟨rfl,h5,by rw [hF];simp [Value.ownBlock]⟩
 ·cases e
  refine Or.inr ⟨g,0,rfl,by rw [hF];simp [Value.ownBlock],hp_lt hb,fun j u hu=>?_⟩
  obtain⟨b,e,hc⟩:=h3 j u hu
  cases e
  rw [Nat.zero_add];exact hc
theorem ViewA.shape {k:Nat} {v:Value} {n:Nat} {xs:List Value} {w:World} {F:List Nat} (h:ViewA k v n xs w F):∃ a cap,v=.slice a n cap∧n≤cap∧cap≤maxLen:=by
 obtain⟨_,a,cap,e,h1,h2,_⟩:=h;exact⟨a,cap,e,h1,h2⟩
theorem ViewA.at {k:Nat} {a:Option Addr} {n n' cap:Nat} {xs:List Value} {w:World} {F:List Nat} (h:ViewA k (.slice a n cap) n' xs w F) (hn:0 < n') (hk:0 < k):∃ g o,a=some ⟨g,o,none⟩∧∀ j u,xs[j]?=some u→w.cell? ⟨g,o+j,none⟩=some u:=by
 obtain⟨hl,a',cap',e,h1,h2,h3⟩:=h
 cases e
 rcases h3 with ⟨_,h0,_⟩|⟨g,o,rfl,_,_,hc⟩
 ·omega
 ·exact⟨g,o,rfl,hc⟩
theorem ViewA.src {k:Nat} {a:Option Addr} {n' n cap:Nat} {xs:List Value} {w:World} {F:List Nat} (h:ViewA k (.slice a n' cap) n xs w F) {m:Nat} (hm:m≤n):Src w a m k (xs.take (m * k)):=by
 obtain⟨hl,a',cap',e,h1,h2,h3⟩:=h
 cases e
 refine⟨by rw [List.length_take,hl];exact Nat.min_eq_left (Nat.mul_le_mul_right _ hm),fun h0=>?_⟩
 rcases h3 with ⟨_,h0,_⟩|⟨g,o,rfl,_,_,hc⟩
 ·omega
 ·refine⟨_,rfl,fun j u hu=>?_⟩
  rw [add_at]
  rw [List.getElem?_take] at hu
  split at hu
  ·exact hc j u hu
  ·cases hu
theorem ViewA.src_from {k:Nat} {a:Option Addr} {n' n cap:Nat} {xs:List Value} {w:World} {F:List Nat} (h:ViewA k (.slice a n' cap) n xs w F) {i:Nat} (hi:i≤n):Src w (sufA a cap i k) (n - i) k (xs.drop (i * k)):=by
 obtain⟨hl,a',cap',e,h1,h2,h3⟩:=h
 cases e
 refine⟨by rw [List.length_drop,hl,Nat.sub_mul],fun h0=>?_⟩
 rcases h3 with ⟨_,h0,_⟩|⟨g,o,rfl,_,_,hc⟩
 ·omega
 ·refine⟨_,by rw [sufA,if_neg (by omega)];rfl,fun j u hu=>?_⟩
  rw [List.getElem?_drop] at hu
  show w.cell? (((⟨g,o,none⟩:Addr).add (i * k)).add j)=some u
  rw [add_at,add_at,Nat.add_assoc]
  exact hc _ u hu
theorem ViewA.cut {k:Nat} {a:Option Addr} {n' n cap:Nat} {xs:List Value} {w:World} {F:List Nat} (h:ViewA k (.slice a n' cap) n xs w F) {i:Nat} (hi:i≤n):ViewA k (.slice (sufA a cap i k) (n - i) (cap - i)) (n - i) (xs.drop (i * k)) w F:=by
 obtain⟨hl,a',cap',e,h1,h2,h3⟩:=h
 cases e
 refine⟨by rw [List.length_drop,hl,Nat.sub_mul],_,_,rfl,by omega,by omega,?_⟩
 rcases h3 with ⟨rfl,rfl,rfl⟩|⟨g,o,rfl,rfl,hg,hc⟩
 ·left;unfold sufA;refine⟨by split <;> rfl,by omega,rfl⟩
 ·right
  unfold sufA
  split
  ·have:i * k=xs.length:=by
    rw [hl];congr 1;omega
   refine⟨g,o,rfl,rfl,hg,fun j u hu=>?_⟩
   rw [List.drop_eq_nil_of_le (by rw [this];exact Nat.le_refl _)] at hu
   simp at hu
  ·refine⟨g,o+i * k,by simp [add_at],rfl,hg,fun j u hu=>?_⟩
   rw [List.getElem?_drop] at hu
   rw [Nat.add_assoc]
   exact hc _ u hu
end Go.Proofs.YtaopfagclnocdaaGreat
