/- .. -/
import Derived.Test.YtanhdliaaccacaaGreatUB8
import Derived.Test.YtanhdliaaccacaaGreatUB3
import Derived.Test.YtanhdliaaccacaaGreatUB15
import Derived.Deep.QuietTactic
import Derived.BigQuiet
import Derived.WalkSpells
import Derived.Deep.RegionLaw
import Derived.Maps.AppendAt
import Derived.StillTailTactics
import Derived.Deep.RegionHeld3
import Derived.Laws.Externs
import Derived.Shelf.SlMaps.Clone
namespace Go.Proofs.YtanhdliaaccacaaGreat
open Go.RowKit
open Go.Maps (Keyed)
set_option linter.unusedVariables false
set_option maxHeartbeats 64000000
set_option maxRecDepth 100000
def UC (x:ByteArray×Nat):Value:=.string x.1
def iL (bA:List Nat) (i:Nat):Value:=.pointer (some ⟨bA.getD i 0,0,none⟩)
def Wy (bA:List Nat) (x:ByteArray×Nat):Value:=iL bA x.2
def jN (d:ae):Nat:=if d.fail=0 then 0 else d.ops+d.fail
def gP (d:ae) (bn bs:Nat) (dN:Value):Array Value:=#[.int .i64 d.dZ,.map (some bn),.map (some bs),dN,.int .i64 d.ops,.int .i64 (jN d)]
def encC (bA:List Nat):ky→List Value
 | .made n f=>[.int .i64 1,.string n,.string ByteArray.empty,iL bA f]
 | .ren a b=>[.int .i64 2,.string a,.string b,.pointer none]
 | .rem n=>[.int .i64 3,.string n,.string ByteArray.empty,.pointer none]
def jO (bA:List Nat) (l:List ky):List Value:=(l.map (encC bA)).flatten
def wR (a:Nat) (v:Value) (f:FileD):List ax:=[Cells a #[v,.int .i64 f.sure] 155,ay 5 1 v f.b.length (eB f.b)]
def iZ (a:Nat) (f:FileD):ax:=fun w F=>∃ v,Star (wR a v f) w F
abbrev lh (b:Nat) (bA:List Nat) (N:gI):ax:=jq Tryz.prog 9 UC (Wy bA) b N
def iQ (bA:List Nat) (fs:List FileD):List ax:=List.zipWith iZ bA fs
def il (bd bn bs:Nat) (dN:Value) (bA:List Nat) (d:ae):List ax:=
 [Cells bd (gP d bn bs dN) 124,lh bn bA d.now,lh bs bA d.sure,ay 158 4 dN d.ch.length (jO bA d.ch)]++iQ bA d.files
def bJ (bd:Nat) (d:ae):ax:=fun w F=>aO d∧∃ (bn bs:Nat) (dN:Value) (bA:List Nat),bA.length=d.files.length∧Star (il bd bn bs dN bA d) w F
theorem wR.aB {a:Nat} {v:Value} {f:FileD}:∀ A∈wR a v f,bD A:=by
 intro A hA
 simp only [wR,List.mem_cons,List.not_mem_nil,or_false] at hA
 rcases hA with rfl | rfl
 ·exact Cells.aB _ _ _
 ·exact ay.aB _ _ _ _ _
theorem iZ.aB (a:Nat) (f:FileD):bD (iZ a f):=by
 refine⟨?_,?_⟩
 ·rintro w w' F ⟨v,h⟩ hk;exact⟨v,(bD.star wR.aB).keep h hk⟩
 ·rintro w F ⟨v,h⟩;exact (bD.star wR.aB).lt h
theorem iQ.aB {bA:List Nat} {fs:List FileD}:∀ A∈iQ bA fs,bD A:=by
 induction bA generalizing fs with
 | nil=>intro A hA;simp [iQ] at hA
 | cons a r ih=>
  cases fs with
  | nil=>intro A hA;simp [iQ] at hA
  | cons f fs=>
   intro A hA
   rcases List.mem_cons.1 (show A∈iZ a f::iQ r fs from hA) with rfl | hA
   ·exact iZ.aB _ _
   ·exact ih A hA
theorem il.aB {bd bn bs:Nat} {dN:Value} {bA:List Nat} {d:ae}:∀ A∈il bd bn bs dN bA d,bD A:=by
 intro A hA
 unfold il at hA
 rcases List.mem_append.1 hA with hA | hA
 ·simp only [List.mem_cons,List.not_mem_nil,or_false] at hA
  rcases hA with rfl | rfl | rfl | rfl
  ·exact Cells.aB _ _ _
  ·exact jq.aB _ _
  ·exact jq.aB _ _
  ·exact ay.aB _ _ _ _ _
 ·exact iQ.aB _ hA
theorem bJ.aB (bd:Nat) (d:ae):bD (bJ bd d):=by
 refine⟨?_,?_⟩
 ·rintro w w' F ⟨h0,bn,bs,dN,bA,ha,h⟩ hk;exact⟨h0,bn,bs,dN,bA,ha,(bD.star il.aB).keep h hk⟩
 ·rintro w F ⟨h0,bn,bs,dN,bA,ha,h⟩;exact (bD.star il.aB).lt h
theorem eQ {F:List Nat} {w w':World} {bd bn bs:Nat} {dN:Value} {bA:List Nat} {d':ae} {r:Value} (h:In F w w' (il bd bn bs dN bA d')) (hok:aO d') (hl:bA.length=d'.files.length):GV r (bJ bd d') w F (.returned r) w':=
 GV.mk h fun F' hs=>⟨hok,bn,bs,dN,bA,hl,hs⟩
theorem gQ {bd bn bs:Nat} {dN:Value} {bA:List Nat} {d:ae}:(il bd bn bs dN bA d)[0]?=some (Cells bd (gP d bn bs dN) 124):=rfl
theorem uw {bd bn bs:Nat} {dN:Value} {bA:List Nat} {d:ae}:(il bd bn bs dN bA d)[1]?=some (lh bn bA d.now):=rfl
theorem xW {bA:List Nat} {fs:List FileD} (hl:bA.length=fs.length) {i:Nat} (hi:i < fs.length):(iQ bA fs)[i]?=some (iZ (bA.getD i 0) (fs.getD i default)):=by
 unfold iQ
 have h1:bA[i]?=some (bA.getD i 0):=by rw [List.getD_eq_getElem?_getD,List.getElem?_eq_getElem (by omega)];rfl
 have h2:fs[i]?=some (fs.getD i default):=by rw [List.getD_eq_getElem?_getD,List.getElem?_eq_getElem hi];rfl
 rw [List.getElem?_zipWith,h1,h2]
theorem lS {bd bn bs:Nat} {dN:Value} {bA:List Nat} {d:ae} (hl:bA.length=d.files.length) {i:Nat} (hi:i < d.files.length):(il bd bn bs dN bA d)[4+i]?=some (iZ (bA.getD i 0) (d.files.getD i default)):=by
 unfold il
 rw [List.getElem?_append_right (by simp)]
 simpa using xW hl hi
theorem Km {bA:List Nat} {fs:List FileD} (hl:bA.length=fs.length) {i:Nat} (hi:i < fs.length) (f:FileD):(iQ bA fs).set i (iZ (bA.getD i 0) f)=iQ bA (fs.set i f):=by
 apply List.ext_getElem?
 intro j
 have hlen:(iQ bA fs).length=fs.length:=by unfold iQ;rw [List.length_zipWith];omega
 by_cases hj:j < fs.length
 ·rw [xW (by simp;omega) (by simpa using hj),List.getElem?_set,xW hl hj,eu hi]
  by_cases e:i=j
  ·subst e;simp [hlen,hi]
  ·rw [if_neg e,if_neg (fun e2=>e e2.symm)]
 ·rw [List.getElem?_eq_none (by simp [hlen];omega),List.getElem?_eq_none (by unfold iQ;rw [List.length_zipWith];simp;omega)]
theorem wS {bd bn bs:Nat} {dN:Value} {bA:List Nat} {d:ae} (hl:bA.length=d.files.length) {i:Nat} (hi:i < d.files.length) (f:FileD):(il bd bn bs dN bA d).set (4+i) (iZ (bA.getD i 0) f)=il bd bn bs dN bA (iE d i f):=by
 unfold il
 rw [List.set_append_right (4+i) _ (by simp)]
 simp only [List.length_cons,List.length_nil,Nat.zero_add,Nat.reduceAdd,Nat.add_sub_cancel_left]
 rw [Km hl hi]
 rfl
theorem In.file {F0:List Nat} {w0 w:World} {R:List ax} {a:Nat} {f:FileD} (h:In F0 w0 w R) (i:Nat) (hA:R[i]?=some (iZ a f)):∃ v,In F0 w0 w (ay 5 1 v f.b.length (eB f.b)::R.set i (Cells a #[v,.int .i64 f.sure] 155)):=by
 obtain⟨v,h1⟩:=h.ex (G:=fun v=>Star (wR a v f)) i hA (fun v=>bD.star wR.aB)
 refine⟨v,?_⟩
 have hi:=(List.getElem?_eq_some_iff.1 hA).1
 have:=h1.split (A:=Cells a #[v,.int .i64 f.sure] 155) (B:=ay 5 1 v f.b.length (eB f.b)) i (by simp [hi,wR]) (Cells.aB _ _ _) (ay.aB _ _ _ _ _)
 rwa [List.set_set] at this
theorem In.Kn {F0:List Nat} {w0 w:World} {R:List ax} {a:Nat} {v:Value} {f:FileD} (h:In F0 w0 w (ay 5 1 v f.b.length (eB f.b)::R)) (i:Nat) (hA:R[i]?=some (Cells a #[v,.int .i64 f.sure] 155)):In F0 w0 w (R.set i (iZ a f)):=
 h.fold i hA (iZ.aB _ _) fun F hF=>⟨v,hF⟩
theorem EX {F0:List Nat} {w0 w:World} {R:List ax} {a:Nat} {f:FileD} (h:In F0 w0 w R) (i:Nat) (hA:R[i]?=some (iZ a f)):∃ ad cap,w.heap[a]?=some (.cells #[.slice ad f.b.length cap,.int .i64 f.sure] 155 (0,0))∧f.b.length≤cap∧cap≤maxLen∧Src w ad f.b.length 1 (eB f.b):=by
 obtain⟨v,h1⟩:=h.file i hA
 have hi:=(List.getElem?_eq_some_iff.1 hA).1
 obtain⟨F,hr⟩:=h1.get 0 rfl
 obtain⟨ad,cap,rfl,k1,k2,k3⟩:=hr.shape
 exact⟨ad,cap,h1.block (i+1) (by simp [hi]),k1,k2,hr.all⟩
theorem Bj {bA:List Nat} {i:Nat} (h:i < bA.length) (a:Nat):iL (bA++[a]) i=iL bA i:=by
 unfold iL
 rw [List.getD_eq_getElem?_getD,List.getD_eq_getElem?_getD,List.getElem?_append_left h]
theorem jq.ev {α:Type} {P:Program} {kt:TypeId} {ek ev ev':α→Value} {b:Nat} {L:List α} {w:World} {F:List Nat} (h:jq P kt ek ev b L w F) (he:∀ x∈L,ev' x=ev x):jq P kt ek ev' b L w F:=
 ⟨h.1,h.2.congr (fun k v=>⟨fun ⟨x,hx,e1,e2⟩=>⟨x,hx,e1,by rw [← he x hx];exact e2⟩,fun ⟨x,hx,e1,e2⟩=>⟨x,hx,e1,by rw [he x hx];exact e2⟩⟩)⟩
def Wz (k:Nat):ky→Prop
 | .made _ f=>f < k
 | _=>True
theorem Ko {bA:List Nat} {l:List ky} (h:∀ c∈l,Wz bA.length c) (a:Nat):jO (bA++[a]) l=jO bA l:=by
 unfold jO
 congr 1
 apply List.map_congr_left
 intro c hc
 have:=h c hc
 cases c with
 | made n f=>simp only [encC];rw [Bj this]
 | ren _ _=>rfl
 | rem _=>rfl
theorem QY {N M:gI} {l:List ky} {k:Nat} (h:zn N l M k):∀ c∈l,Wz k c:=by
 induction l generalizing N with
 | nil=>intro c hc;simp at hc
 | cons c r ih=>
  intro c' hc'
  rcases List.mem_cons.1 hc' with rfl | hc'
  ·cases c' with
   | made n f=>
    have:=(ve h.2.2).lt (n,f) (jv.2 (Or.inl rfl))
    exact this
   | ren _ _=>trivial
   | rem _=>trivial
  ·exact ih h.2.2 c' hc'
theorem Kq:Keyed Tryz.prog 9:=Go.Maps.string_keyed Tryz.underlying9
theorem EY {N:gI} (h:jB N):(N.map UC).Nodup:=by
 have:N.map UC=(N.map (·.1)).map Value.string:=by rw [List.map_map];rfl
 rw [this]
 exact List.pairwise_map.2 (h.keys.imp (fun {a b} hne e=>hne (by cases e;rfl)))
section
variable {F0:List Nat} {w0 w:World} {R:List ax}
def oo (d:ae):Int:=if dC d then 8 else 0
theorem Im {d:ae} (h:dC d):jN d=d.ops+1:=by unfold dC at h;simp [jN,h]
theorem NT {d:ae} (h:¬ dC d):jN d≠d.ops+1:=by unfold dC at h;unfold jN;split <;> omega
theorem Bl {d:ae}:jN (aD d)=if dC d then 0 else jN d:=by
 by_cases h:dC d
 ·rw [if_pos h];unfold dC at h;simp [jN,aD,h]
 ·rw [if_neg h];unfold dC at h
  by_cases h0:d.fail=0
  ·simp [jN,aD,h0]
  ·have h1:¬ d.fail - 1=0:=by omega
   simp only [jN,aD,h0,h1,if_false];omega
theorem QZ {d:ae} (h:aO d) (ho:d.ops≤100000000):jN d≤4700000000000000000:=by
 have:=h.fail;unfold jN;split <;> omega
def xX (d:ae) (bd bn bs:Nat) (dN:Value) (i:Nat) (F0:List Nat) (w0:World) (R:List ax) (e:Ending) (w':World):Prop:=
 e=.returned (.int .i64 (oo d))∧In F0 w0 w' (R.set i (Cells bd (gP (aD d) bn bs dN) 124))
theorem Bn {d:ae} {bd bn bs:Nat} {dN:Value} (h:In F0 w0 w R) (i:Nat) (hA:R[i]?=some (Cells bd (gP d bn bs dN) 124)) (hok:aO d) (ho:d.ops≤100000000) :
  Calls Tryz.prog 211 #[.pointer (some ⟨bd,0,none⟩)] w (xX d bd bn bs dN i F0 w0 R):=by
 have hi:=(List.getElem?_eq_some_iff.1 hA).1
 have hfl:=QZ hok ho
 have c4:w.cell? ⟨bd,4,none⟩=some (.int .i64 d.ops):=cell_of (h.block i hA) rfl
 have f4:w.frozen? ⟨bd,4,none⟩=false:=aK (h.block i hA)
 have h1:=h.put i hA 4 (.int .i64 (d.ops+1))
 have hA1:(R.set i (Cells bd ((gP d bn bs dN).setIfInBounds 4 (.int .i64 (d.ops+1))) 124))[i]?=some (Cells bd ((gP d bn bs dN).setIfInBounds 4 (.int .i64 (d.ops+1))) 124):=by simp [hi]
 have d4:∀ n,((w.setCell ⟨bd,4,none⟩ (.int .i64 (d.ops+1))).drewN n).cell? ⟨bd,4,none⟩=some (.int .i64 (d.ops+1)):=fun n=>cell_of ((h1.drewN n).block i hA1) rfl
 have d5:∀ n,((w.setCell ⟨bd,4,none⟩ (.int .i64 (d.ops+1))).drewN n).cell? ⟨bd,5,none⟩=some (.int .i64 (jN d)):=fun n=>cell_of ((h1.drewN n).block i hA1) rfl
 have f5:∀ n,((w.setCell ⟨bd,4,none⟩ (.int .i64 (d.ops+1))).drewN n).frozen? ⟨bd,5,none⟩=false:=fun n=>aK ((h1.drewN n).block i hA1)
 by_cases hf:dC d
 ·have hfv:=Im hf
  have HP:Hid (∀ n,xX d bd bn bs dN i F0 w0 R (.returned (.int .i64 8)) (((w.setCell ⟨bd,4,none⟩ (.int .i64 (d.ops+1))).drewN n).setCell ⟨bd,5,none⟩ (.int .i64 0))):=Lib.hid fun n=>by
   refine⟨by rw [oo,if_pos hf],?_⟩
   have h2:=(h1.drewN n).put i hA1 5 (.int .i64 0)
   rw [List.set_set] at h2
   have e:((gP d bn bs dN).setIfInBounds 4 (.int .i64 (d.ops+1))).setIfInBounds 5 (.int .i64 0)=gP (aD d) bn bs dN:=by
    unfold gP;rw [Bl,if_pos hf];rfl
   rwa [e] at h2
  have q:((d.ops:Int)+1 == (jN d:Int))=true:=by rw [hfv];simp
  clear h h1 hA hA1 hi hok hf hfv
  generalize jN d=fv at *
  go_enter Tryz.func211,Tryz.ntmps211
  go_wp2_with fail
  go_quiet (fail)
  go_wp2_with fail
  go_ret
  exact HP.out _
 ·have hfv:=NT hf
  have HP:Hid (∀ n,xX d bd bn bs dN i F0 w0 R (.returned (.int .i64 0)) ((w.setCell ⟨bd,4,none⟩ (.int .i64 (d.ops+1))).drewN n)):=Lib.hid fun n=>by
   refine⟨by rw [oo,if_neg hf],?_⟩
   have h2:=h1.drewN n
   have e:(gP d bn bs dN).setIfInBounds 4 (.int .i64 (d.ops+1))=gP (aD d) bn bs dN:=by
    unfold gP;rw [Bl,if_neg hf];rfl
   rwa [e] at h2
  have q:((d.ops:Int)+1 == (jN d:Int))=false:=by
   rw [beq_eq_false_iff_ne];omega
  clear h h1 hA hA1 hi hok hf hfv
  generalize jN d=fv at *
  go_enter Tryz.func211,Tryz.ntmps211
  go_wp2_with fail
  go_quiet (fail)
  go_wp2_with fail
  go_ret
  exact HP.out _
theorem Io (n:ByteArray) (hn:n.size≤maxLen) (w:World):Calls Tryz.prog 212 #[.string n] w fun e w'=>e=.returned (.bool (gU n))∧w'=w:=by
 unfold maxLen at hn
 have HB:Hid (gU n=(decide (1≤n.size) && decide (n.size≤16))):=Lib.hid (by unfold gU;rw [Bool.decide_and])
 generalize gU n=nb at *
 generalize hs:n.size=s at *
 by_cases h1:1≤s
 ·by_cases h2:s≤16
  ·have HN:Hid (nb=true):=Lib.hid (by rw [HB.out];simp [h1,h2])
   go_enter Tryz.func212,Tryz.ntmps212
   go_wp2_with fail
   go_ret
   exact⟨by rw [HN.out];simp;omega,rfl⟩
  ·have HN:Hid (nb=false):=Lib.hid (by rw [HB.out];simp [h2])
   go_enter Tryz.func212,Tryz.ntmps212
   go_wp2_with fail
   go_ret
   exact⟨by rw [HN.out];simp;omega,rfl⟩
 ·have HN:Hid (nb=false):=Lib.hid (by rw [HB.out];simp [h1])
  go_enter Tryz.func212,Tryz.ntmps212
  go_wp2_with fail
  go_ret
  exact⟨by rw [HN.out];simp,rfl⟩
end
def jZ (d:ae) (l:gI):Nat:=(l.map (fun x=>fw d x.2)).sum
theorem Ip (d:ae) (l:gI) (x:ByteArray×Nat):jZ d (l++[x])=jZ d l+fw d x.2:=by simp [jZ]
theorem Iq {d:ae} {l l':gI} (h:l.Perm l'):jZ d l=jZ d l':=(h.map _).sum_nat
theorem EZ {d:ae} (h:aO d) (i:Nat):fw d i≤1048576:=by
 unfold fw
 by_cases hi:i < d.files.length
 ·exact (h.file _ (jI hi)).1
 ·rw [List.getD_eq_getElem?_getD,List.getElem?_eq_none (by omega)];simp [default,instInhabitedFileD.default]
theorem uy {d:ae} (h:aO d):∀ (l:gI),jZ d l≤l.length * 1048576
 | []=>by simp [jZ]
 | x::r=>by
  have:=uy h r
  have:=EZ h x.2
  have e:jZ d (x::r)=fw d x.2+jZ d r:=by simp [jZ]
  rw [e,List.length_cons];omega
theorem qw {α:Type} [DecidableEq α]:∀ {l m:List α},l.Nodup→(∀ x∈l,x∈m)→l.length≤m.length
 | [],_,_,_=>Nat.zero_le _
 | x::r,m,hn,hs=>by
  obtain⟨h1,h2⟩:=List.nodup_cons.1 hn
  have ih:=qw (m:=m.filter (fun y=>decide (y≠x))) h2 (fun y hy=>List.mem_filter.2 ⟨hs y (List.mem_cons_of_mem _ hy),by simpa using fun e=>h1 (by rw [← e];exact hy)⟩)
  have:(m.filter (fun y=>decide (y≠x))).length < m.length:=by
   refine Nat.lt_of_le_of_ne (List.length_filter_le _ _) (fun e=>?_)
   have:=List.length_filter_eq_length_iff.1 e x (hs x (by simp))
   simp at this
  rw [List.length_cons];omega
def Fa (d:ae) (bd bn bs:Nat) (dN:Value) (bA:List Nat) (r:Nat) (F0:List Nat) (w0:World) (n:Value) (wr:World):Prop:=
 ∃ done:gI,n=.int .i64 (jZ d done)∧done.Nodup∧(∀ x∈done,x∈d.now)∧In F0 w0 wr ((il bd bn bs dN bA d).set 1 (wQ Tryz.prog 9 UC (Wy bA) bn r d.now done))
section
variable {F0:List Nat} {w0 w:World}
theorem MG {d:ae} {bd bn bs:Nat} {dN:Value} {bA:List Nat} (h:In F0 w0 w (il bd bn bs dN bA d)) (hok:aO d) (hl:bA.length=d.files.length) :
  Calls Tryz.prog 253 #[.pointer (some ⟨bd,0,none⟩)] w fun e w'=>e=.returned (.int .i64 (fU d))∧In F0 w0 w' (il bd bn bs dN bA d):=by
 have c1:w.cell? ⟨bd,1,none⟩=some (.map (some bn)):=cell_of (h.block 0 gQ) rfl
 obtain⟨o,hrg,h1⟩:=NS h 1 uw (EY hok.now.row) Tryz.underlying121
 have HS:Hid (Fa d bd bn bs dN bA w.heap.size F0 w0 (.int .i64 0) (w.alloc o)):=Lib.hid ⟨[],rfl,List.nodup_nil,by simp,h1⟩
 have oI:=Lib.hid hok
 have HL:=Lib.hid hl
 clear h h1 hok hl
 go_enter Tryz.func253,Tryz.ntmps253
 go_wp2_with fail
 go_loopw [3] (Fa d bd bn bs dN bA w.heap.size F0 w0) (fun _ wr=>wr.rangeLeft bn w.heap.size)
 case atStart=>exact HS.out
 case round=>
  obtain⟨done,rfl,hnd,hsub,ho⟩:=hrel
  clear HS hrg c1
  have hle:=uy oI.out done
  have hdl:done.length≤200:=Nat.le_trans (qw hnd hsub) oI.out.now.few
  rcases QW ho 1 rfl 0 with ⟨hp,hrun⟩|⟨y,hy,UB,w',hrun,ho2,hlt,hen⟩
  ·have HP:Hid ((Ending.returned (.int .i64 (jZ d done))=Ending.returned (.int .i64 (fU d)))∧In F0 w0 wr (il bd bn bs dN bA d)):=Lib.hid ⟨by rw [Iq hp];rfl,QX ho 1 rfl⟩
   clear ho hp hnd hsub
   go_wp2_with fail
   go_ret
   exact HP.out
  ·have hyl:=oI.out.now.lt y hy
   obtain⟨ad,cap,hb,-,-,-⟩:=EX (a:=bA.getD y.2 0) (f:=d.files.getD y.2 default) ho2 (4+y.2) (by
    rw [List.set_set,List.getElem?_set_ne (by omega)]
    exact lS HL.out hyl)
   have cF:w'.cell? ⟨bA.getD y.2 0,0,none⟩=some (.slice ad (fw d y.2) cap):=cell_of hb rfl
   have hfl:=EZ oI.out y.2
   have HR:Hid (Fa d bd bn bs dN bA w.heap.size F0 w0 (.int .i64 (jZ d done+fw d y.2)) w'):=Lib.hid ⟨done++[y],by rw [Ip];congr 1,List.nodup_append.2 ⟨hnd,by simp,fun a ha b hb'=>by simp at hb';subst hb';exact fun e=>UB (e ▸ ha)⟩,fun x hx=>by
    rcases List.mem_append.1 hx with hx | hx
    ·exact hsub x hx
    ·simp at hx;subst hx;exact hy,by rw [List.set_set] at ho2;exact ho2⟩
   unfold Wy iL at hrun hen
   generalize bA.getD y.2 0=af at *
   generalize fw d y.2=fl at *
   generalize jZ d done=ls at *
   clear ho ho2 hb hnd hsub UB hy
   go_wp2_with fail
   go_roundw
   case rel=>exact HR.out
   case measure=>exact hlt
end
section
variable {F0:List Nat} {w0 w:World} {R:List ax}
def lookV (bA:List Nat) (o:Option Nat):Value:=match o with
 | some f=>iL bA f
 | none=>.pointer none
theorem Kt (w:World):(zeroValue 152).run Tryz.prog w=.ok (.pointer none) w:=by kernel_rfl
theorem wT {N:gI} {b:Nat} {bA:List Nat} (h:In F0 w0 w R) (i:Nat) (hA:R[i]?=some (lh b bA N)) (hN:jB N) {n:ByteArray} (hn:n.size≤maxLen) :
  (Instr.lookup 121 (.map (some b)) (.string n) false).run Tryz.prog w=.ok (lookV bA (bP N n)) w:=by
 rcases wO h i hA Kq Tryz.underlying121 (Kt w) (Go.WideMaps.keyOf_string_mk Tryz.underlying9 hn) false with ⟨x,hx,e,hr⟩|⟨hno,hr⟩
 ·have e2:bP N n=some x.2:=(qc hN.keys).2 (by cases e;exact hx)
  rw [e2];exact hr
 ·have e2:bP N n=none:=jT.2 (fun x hx e=>hno x hx (by rw [← e];rfl))
  rw [e2];exact hr
theorem wU {d:ae} {bd bn bs:Nat} {dN:Value} {bA:List Nat} (h:In F0 w0 w (il bd bn bs dN bA d)) (hok:aO d) (hl:bA.length=d.files.length) {i:Nat} (hi:i < d.files.length) {k:Nat} (hk:k≤100000000) :
  Calls Tryz.prog 213 #[.pointer (some ⟨bd,0,none⟩),iL bA i,.int .i64 k] w fun e w'=>e=.returned (.bool (jW d (some i) k))∧In F0 w0 w' (il bd bn bs dN bA d):=by
 obtain⟨ad,cap,hb,-,-,-⟩:=EX h (4+i) (lS hl hi)
 have cF:w.cell? ⟨bA.getD i 0,0,none⟩=some (.slice ad (fw d i) cap):=cell_of hb rfl
 have HC:=Lib.hid (MG h hok hl)
 have hfl:=EZ hok i
 have hq:=hok.dZ
 have hsz:fU d≤209715200:=by
  have h1:=uy hok d.now
  have h2:=hok.now.few
  have h3:fU d=jZ d d.now:=rfl
  omega
 have HB:Hid (jW d (some i) k=(decide (fU d≤d.dZ) && decide (k+fU d≤d.dZ) && decide (k+fw d i≤1048576))):=Lib.hid (by
  unfold jW;simp only [reduceCtorEq,false_implies,and_true,Bool.decide_and,Bool.and_assoc])
 have c0:∀ w',In F0 w0 w' (il bd bn bs dN bA d)→w'.cell? ⟨bd,0,none⟩=some (.int .i64 d.dZ):=fun w' h'=>cell_of (h'.block 0 gQ) rfl
 have C0:=Lib.hid c0
 clear h hb c0
 unfold iL
 generalize bA.getD i 0=af at *
 generalize fw d i=fl at *
 generalize jW d (some i) k=rm at *
 go_enter Tryz.func213,Tryz.ntmps213
 go_wp2_with fail
 refine HC.out.mono ?_
 rintro e w1 ⟨rfl,ho⟩
 have c0:=C0.out w1 ho
 have HO:=Lib.hid ho
 generalize fU d=sz at *
 generalize d.dZ=q at *
 clear ho HC C0
 have HB1:Hid (rm=(decide (sz≤q) && decide (k+sz≤q) && decide (k+fl≤1048576))):=HB
 clear HB
 by_cases h1:sz≤q
 ·by_cases h2:k+sz≤q
  ·by_cases h3:k+fl≤1048576
   ·have e1:decide (q < sz)=false:=by simp;omega
    have e2:decide ((q:Int) - (sz:Int) < (k:Int))=false:=by simp;omega
    have e3:decide ((1048576:Int) - (fl:Int) < (k:Int))=false:=by simp;omega
    have hr:rm=true:=by rw [HB1.out];simp [h1,h2,h3]
    clear HB1
    have HR:=Lib.hid hr
    clear hr
    go_wp2_with fail
    go_ret
    exact⟨by rw [HR.out];rfl,HO.out⟩
   ·have e1:decide (q < sz)=false:=by simp;omega
    have e2:decide ((q:Int) - (sz:Int) < (k:Int))=false:=by simp;omega
    have e3:decide ((1048576:Int) - (fl:Int) < (k:Int))=true:=by simp;omega
    have hr:rm=false:=by rw [HB1.out];simp [h3]
    clear HB1
    have HR:=Lib.hid hr
    clear hr
    go_wp2_with fail
    go_ret
    exact⟨by rw [HR.out];rfl,HO.out⟩
  ·have e1:decide (q < sz)=false:=by simp;omega
   have e2:decide ((q:Int) - (sz:Int) < (k:Int))=true:=by simp;omega
   have hr:rm=false:=by rw [HB1.out];simp [h2]
   clear HB1
   have HR:=Lib.hid hr
   clear hr
   go_wp2_with fail
   go_ret
   exact⟨by rw [HR.out];rfl,HO.out⟩
 ·have e1:decide (q < sz)=true:=by simp;omega
  have hr:rm=false:=by rw [HB1.out];simp [h1]
  clear HB1
  have HR:=Lib.hid hr
  clear hr
  go_wp2_with fail
  go_ret
  exact⟨by rw [HR.out];rfl,HO.out⟩
theorem wV {d:ae} {bd bn bs:Nat} {dN:Value} {bA:List Nat} (h:In F0 w0 w (il bd bn bs dN bA d)) (hok:aO d) (hl:bA.length=d.files.length) {k:Nat} (hk:k≤100000000) :
  Calls Tryz.prog 213 #[.pointer (some ⟨bd,0,none⟩),.pointer none,.int .i64 k] w fun e w'=>e=.returned (.bool (jW d none k))∧In F0 w0 w' (il bd bn bs dN bA d):=by
 have HC:=Lib.hid (MG h hok hl)
 have hq:=hok.dZ
 have hsz:fU d≤209715200:=by
  have h1:=uy hok d.now
  have h2:=hok.now.few
  have h3:fU d=jZ d d.now:=rfl
  omega
 have HB:Hid (jW d none k=(decide (fU d≤d.dZ) && decide (k+fU d≤d.dZ) && decide (k≤1048576) && decide (d.now.length < 200))):=Lib.hid (by
  unfold jW;simp only [Nat.add_zero,true_implies,Bool.decide_and,Bool.and_assoc])
 have c0:∀ w',In F0 w0 w' (il bd bn bs dN bA d)→w'.cell? ⟨bd,0,none⟩=some (.int .i64 d.dZ)∧w'.cell? ⟨bd,1,none⟩=some (.map (some bn))∧(Builtin.len_ #[121] 3 #[.map (some bn)]).run Tryz.prog w'=.ok (.int .i64 d.now.length) w':=
  fun w' h'=>⟨cell_of (h'.block 0 gQ) rfl,cell_of (h'.block 0 gQ) rfl,EU h' 1 uw Tryz.underlying121 3⟩
 have C0:=Lib.hid c0
 have hnl:=hok.now.few
 clear h c0
 generalize jW d none k=rm at *
 go_enter Tryz.func213,Tryz.ntmps213
 go_wp2_with fail
 refine HC.out.mono ?_
 rintro e w1 ⟨rfl,ho⟩
 obtain⟨c0,c1,c2⟩:=C0.out w1 ho
 have HO:=Lib.hid ho
 generalize fU d=sz at *
 generalize d.dZ=q at *
 generalize d.now.length=nl at *
 clear ho HC C0
 have HB1:Hid (rm=(decide (sz≤q) && decide (k+sz≤q) && decide (k≤1048576) && decide (nl < 200))):=HB
 clear HB
 by_cases h1:sz≤q
 ·have e1:decide (q < sz)=false:=by simp;omega
  by_cases h2:k+sz≤q
  ·have e2:decide ((q:Int) - (sz:Int) < (k:Int))=false:=by simp;omega
   by_cases h3:k≤1048576
   ·have e3:decide ((1048576:Int) < (k:Int))=false:=by simp;omega
    have hr:rm=decide (nl < 200):=by rw [HB1.out];simp [h1,h2,h3]
    clear HB1
    have HR:=Lib.hid hr
    clear hr
    go_wp2_with fail
    go_ret
    exact⟨by rw [HR.out];simp;try omega,HO.out⟩
   ·have e3:decide ((1048576:Int) < (k:Int))=true:=by simp;omega
    have hr:rm=false:=by rw [HB1.out];simp [h3]
    clear HB1
    have HR:=Lib.hid hr
    clear hr
    go_wp2_with fail
    go_ret
    exact⟨by rw [HR.out];rfl,HO.out⟩
  ·have e2:decide ((q:Int) - (sz:Int) < (k:Int))=true:=by simp;omega
   have hr:rm=false:=by rw [HB1.out];simp [h2]
   clear HB1
   have HR:=Lib.hid hr
   clear hr
   go_wp2_with fail
   go_ret
   exact⟨by rw [HR.out];rfl,HO.out⟩
 ·have e1:decide (q < sz)=true:=by simp;omega
  have hr:rm=false:=by rw [HB1.out];simp [h1]
  clear HB1
  have HR:=Lib.hid hr
  clear hr
  go_wp2_with fail
  go_ret
  exact⟨by rw [HR.out];rfl,HO.out⟩
end
section
variable {F0:List Nat} {w0 w:World} {R:List ax}
def ic (d:ae) (n:ByteArray):Int:=if dC d then 8 else if (bP d.now n).isSome then 0 else 6
def Bo (bA:List Nat) (d:ae) (n:ByteArray):Value:=if dC d then .pointer none else lookV bA (bP d.now n)
def Bp (d:ae) (n:ByteArray) (bd bn bs:Nat) (dN:Value) (bA:List Nat) (F0:List Nat) (w0:World) (e:Ending) (w':World):Prop:=
 e=.returned (.tuple #[Bo bA d n,.int .i64 (ic d n)])∧In F0 w0 w' (il bd bn bs dN bA (aD d))
theorem kz {bd bn bs:Nat} {dN:Value} {bA:List Nat} {d:ae}:(il bd bn bs dN bA d).set 0 (Cells bd (gP (aD d) bn bs dN) 124)=il bd bn bs dN bA (aD d):=rfl
theorem zM {d:ae} {bd bn bs:Nat} {dN:Value} {bA:List Nat} (h:In F0 w0 w (il bd bn bs dN bA d)) (hok:aO d) (ho:d.ops≤100000000) (n:ByteArray) (hn:n.size≤maxLen) :
  Calls Tryz.prog 195 #[.pointer (some ⟨bd,0,none⟩),.string n] w (Bp d n bd bn bs dN bA F0 w0):=by
 have HC:=Lib.hid (Bn h 0 gQ hok ho)
 have oI:=Lib.hid hok
 clear h hok
 by_cases hf:dC d
 ·have HP:Hid (∀ w',In F0 w0 w' (il bd bn bs dN bA (aD d))→Bp d n bd bn bs dN bA F0 w0 (.returned (.tuple #[.pointer none,.int .i64 8])) w'):=
   Lib.hid fun w' h'=>⟨by rw [Bo,ic,if_pos hf,if_pos hf],h'⟩
  have HE:Hid (oo d=8):=Lib.hid (by rw [oo,if_pos hf])
  clear hf
  go_enter Tryz.func195,Tryz.ntmps195
  go_wp2_with fail
  refine HC.out.mono ?_
  rintro e w1 ⟨rfl,h1⟩
  rw [kz] at h1
  rw [HE.out]
  have H1:=Lib.hid h1
  clear h1 HC
  go_wp2_with fail
  go_ret2
  exact HP.out _ H1.out
 ·have HE:Hid (oo d=0):=Lib.hid (by rw [oo,if_neg hf])
  have HP:Hid (∀ w' r,In F0 w0 w' (il bd bn bs dN bA (aD d))→r=lookV bA (bP d.now n)→Bp d n bd bn bs dN bA F0 w0 (.returned (.tuple #[r,.int .i64 (if (bP d.now n).isSome then 0 else 6)])) w'):=
   Lib.hid fun w' r h' hr=>⟨by rw [Bo,ic,if_neg hf,if_neg hf,hr],h'⟩
  have C:Hid (∀ w',In F0 w0 w' (il bd bn bs dN bA (aD d))→w'.cell? ⟨bd,1,none⟩=some (.map (some bn))∧(Instr.lookup 121 (.map (some bn)) (.string n) false).run Tryz.prog w'=.ok (lookV bA (bP d.now n)) w'):=
   Lib.hid fun w' h'=>⟨cell_of (h'.block 0 gQ) rfl,wT h' 1 uw oI.out.now.row hn⟩
  clear hf
  go_enter Tryz.func195,Tryz.ntmps195
  go_wp2_with fail
  refine HC.out.mono ?_
  rintro e w1 ⟨rfl,h1⟩
  rw [kz] at h1
  rw [HE.out]
  obtain⟨c1,c2⟩:=C.out w1 h1
  have H1:=Lib.hid h1
  clear h1 HC C
  cases e2:bP d.now n with
  | none=>
   rw [e2] at c2
   have HF:=Lib.hid (HP.out w1 (.pointer none) H1.out (by rw [e2];rfl))
   rw [e2] at HF
   clear HP e2
   simp only [lookV] at c2
   go_wp2_with fail
   go_ret2
   exact HF.out
  | some i=>
   rw [e2] at c2
   have HF:=Lib.hid (HP.out w1 (iL bA i) H1.out (by rw [e2];rfl))
   rw [e2] at HF
   clear HP e2
   simp only [lookV] at c2
   unfold iL at c2 HF
   go_wp2_with fail
   go_ret2
   exact HF.out
def Ku (bA:List Nat) (c:ky):Value:=.agg (encC bA c).toArray
theorem Ra {N:gI} {b:Nat} {bA:List Nat} (h:In F0 w0 w R) (i:Nat) (hA:R[i]?=some (lh b bA N)) (hN:jB N) {n:ByteArray} (hn:n.size≤maxLen) (f:Nat) :
  ∃ w',(Instr.mapUpdate 121 (.map (some b)) (.string n) (iL bA f)).run Tryz.prog w=.ok () w'∧xB b w w'∧In F0 w0 w' (R.set i (lh b bA (iN N n f))):=by
 have hi:=(List.getElem?_eq_some_iff.1 hA).1
 obtain⟨w',h1,ht,h2⟩:=ER h i hA Kq Tryz.underlying121 (n,f) (Go.WideMaps.keyOf_string_mk Tryz.underlying9 hn) (EY hN) (fun x=>decide (x.1≠n)) (fun x _=>by simp [UC])
 refine⟨w',h1,ht,?_⟩
 have:=Bh (L:=(n,f)::ed N n) (L':=iN N n f) h2 i (by rw [List.getElem?_set_self hi];rfl) (nW N n f)
 rwa [List.set_set] at this
theorem Rb {N:gI} {b:Nat} {bA:List Nat} (h:In F0 w0 w R) (i:Nat) (hA:R[i]?=some (lh b bA N)) (hN:jB N) {n:ByteArray} (hn:n.size≤maxLen) (ty:TypeId) :
  ∃ w',(Builtin.delete_ #[121,9] ty #[.map (some b),.string n]).run Tryz.prog w=.ok (.tuple #[]) w'∧xB b w w'∧In F0 w0 w' (R.set i (lh b bA (ed N n))):=
 ET h i hA Kq Tryz.underlying121 (Go.WideMaps.keyOf_string_mk Tryz.underlying9 hn) (EY hN) (fun x=>decide (x.1≠n)) (fun x _=>by simp [UC]) 9 ty
def Fe:ky→Prop
 | .made n _=>n.size≤maxLen
 | .ren a b=>a.size≤maxLen∧b.size≤maxLen
 | .rem n=>n.size≤maxLen
def XH (N:gI) (c:ky):Prop:=∀ a b,c=.ren a b→∃ f,bP N a=some f
theorem WB {N:gI} {bn:Nat} {bA:List Nat} (h:In F0 w0 w R) (i:Nat) (hA:R[i]?=some (lh bn bA N)) (hN:jB N) (c:ky) (hs:Fe c) (hc:XH N c) :
  Calls Tryz.prog 93 #[Ku bA c,.map (some bn)] w fun e w'=>e=.returned (.tuple #[])∧In F0 w0 w' (R.set i (lh bn bA (nmDo N c))):=by
 have hi:=(List.getElem?_eq_some_iff.1 hA).1
 unfold Ku
 cases c with
 | made n f=>
  obtain⟨w1,r1,t1,h1⟩:=Ra (h.alloc (.cells (encC bA (.made n f)).toArray 158)) i hA hN hs f
  have H1:=Lib.hid h1
  clear h1 h hA hN hs hc t1
  simp only [encC,iL] at r1 ⊢
  try generalize bA.getD f 0=af at *
  go_enter Tryz.func93,Tryz.ntmps93
  go_wp2_with fail
  go_end0
  exact⟨rfl,H1.out⟩
 | rem n=>
  obtain⟨w1,r1,t1,h1⟩:=Rb (h.alloc (.cells (encC bA (.rem n)).toArray 158)) i hA hN hs 0
  have H1:=Lib.hid h1
  clear h1 h hA hN hs hc t1
  simp only [encC] at r1 ⊢
  go_enter Tryz.func93,Tryz.ntmps93
  go_wp2_with fail
  go_end0
  exact⟨rfl,H1.out⟩
 | ren a b=>
  obtain⟨f,hf⟩:=hc a b rfl
  have h0:=h.alloc (.cells (encC bA (.ren a b)).toArray 158)
  have l0:=wT h0 i hA hN hs.1
  rw [hf] at l0
  obtain⟨w1,r1,t1,h1⟩:=Ra h0 i hA hN hs.2 f
  obtain⟨w2,r2,t2,h2⟩:=Rb h1 i (by rw [List.getElem?_set_self hi]) (mq hN b f) hs.1 0
  rw [List.set_set] at h2
  have hbn:bn < w.heap.size:=by
   obtain⟨F,hF⟩:=h.get i hA
   exact hF.2.lt
  have e2:nmDo N (.ren a b)=ed (iN N b f) a:=by simp [nmDo,hf]
  have c1:w1.cell? ⟨w.heap.size,1,none⟩=some (.string a):=by
   refine cell_of ((t1.block w.heap.size (by omega)).trans dO) ?_
   rfl
  rw [← e2] at h2
  have H2:=Lib.hid h2
  clear h0 h1 h2 h hA hN hs hc t1 t2 e2 hf hbn
  simp only [encC,iL,lookV] at l0 r1 r2 ⊢
  generalize bA.getD f 0=af at *
  go_enter Tryz.func93,Tryz.ntmps93
  go_wp2_with fail
  go_end0
  exact⟨rfl,H2.out⟩
end
theorem Bq:(Tryz.prog.info? 158).map (fun i=>(i.zero.map (fun z=>z.cells.size),i.size,i.bytes))=some (some 4,4,48):=by kernel_rfl
section
variable {F0:List Nat} {w0 w:World}
theorem NU (bA:List Nat) (c:ky):∃ a b e f,encC bA c=[a,b,e,f]∧a.oneCell'=true∧b.oneCell'=true∧e.oneCell'=true∧f.oneCell'=true:=by
 cases c <;> exact⟨_,_,_,_,rfl,rfl,rfl,rfl,rfl⟩
def oq (d:ae) (bd bn bs:Nat) (bA:List Nat) (c:ky) (F0:List Nat) (w0:World) (e:Ending) (w':World):Prop:=
 e=.returned (.tuple #[])∧∃ v',In F0 w0 w' (il bd bn bs v' bA (bu d c))
theorem xY {d:ae} {bd bn bs:Nat} {dN:Value} {bA:List Nat} (h:In F0 w0 w (il bd bn bs dN bA d)) (hok:aO d) (ho:d.ops≤100000001) (c:ky) (hs:Fe c) (hc:XH d.now c) :
  Calls Tryz.prog 214 #[.pointer (some ⟨bd,0,none⟩),Ku bA c] w (oq d bd bn bs bA c F0 w0):=by
 obtain⟨x0,x1,x2,x3,hx,o0,o1,o2,o3⟩:=NU bA c
 have hch:=hok.uG
 have h0:=h.cells (encC bA c).toArray 158
 have C0:=Lib.hid (WB (h0.drewN 1) 2 rfl hok.now.row c hs hc)
 have b1:(w.alloc (.cells (encC bA c).toArray 158)).cell? ⟨bd,1,none⟩=some (.map (some bn)):=cell_of (h0.block 1 rfl) rfl
 unfold Ku at C0 ⊢
 rw [hx] at C0 b1 ⊢
 have HX:=Lib.hid hx
 have oI:=Lib.hid hok
 have HK:Hid (∀ w',In F0 w0 w' ((Cells w.heap.size #[x0,x1,x2,x3] 158::il bd bn bs dN bA d).set 2 (lh bn bA (nmDo d.now c)))→w'.cell? ⟨bd,1,none⟩=some (.map (some bn))∧w'.cell? ⟨w.heap.size,0,none⟩=some x0∧w'.cell? ⟨w.heap.size,1,none⟩=some x1∧w'.cell? ⟨w.heap.size,2,none⟩=some x2∧w'.cell? ⟨w.heap.size,3,none⟩=some x3):=
  Lib.hid fun w' h'=>⟨cell_of (h'.block 1 rfl) rfl,cell_of (h'.block 0 rfl) rfl,cell_of (h'.block 0 rfl) rfl,cell_of (h'.block 0 rfl) rfl,cell_of (h'.block 0 rfl) rfl⟩
 clear h0 h hok hs hc hx
 go_enter Tryz.func214,Tryz.ntmps214
 go_wp2_with fail
 have z0:(w.alloc (.cells #[x0,x1,x2,x3] 158)).cell? ⟨w.heap.size,0,none⟩=some x0:=cell_of dO rfl
 have z1:(w.alloc (.cells #[x0,x1,x2,x3] 158)).cell? ⟨w.heap.size,1,none⟩=some x1:=cell_of dO rfl
 have z2:(w.alloc (.cells #[x0,x1,x2,x3] 158)).cell? ⟨w.heap.size,2,none⟩=some x2:=cell_of dO rfl
 have z3:(w.alloc (.cells #[x0,x1,x2,x3] 158)).cell? ⟨w.heap.size,3,none⟩=some x3:=cell_of dO rfl
 go_region_held3 (fun w'=>w'.cell? ⟨bd,1,none⟩=some (.map (some bn))∧w'.cell? ⟨w.heap.size,0,none⟩=some x0∧w'.cell? ⟨w.heap.size,1,none⟩=some x1∧w'.cell? ⟨w.heap.size,2,none⟩=some x2∧w'.cell? ⟨w.heap.size,3,none⟩=some x3) (first | exact hc1 | go_keep) ((go_at_call 93;refine C0.out.mono ?_;rintro e w1 ⟨rfl,h1⟩;have hc1:=HK.out w1 h1))
 clear hc1 z0 z1 z2 z3
 obtain⟨F,hF⟩:=h1.get 4 rfl
 obtain⟨ac,cap,rfl,k1,k2,-⟩:=hF.shape
 have H1:=Lib.hid h1
 have hb1:=h1.block 1 rfl
 have hb0:=h1.block 0 rfl
 have c3:w1.cell? ⟨bd,3,none⟩=some (.slice ac d.ch.length cap):=cell_of hb1 rfl
 have c3':∀ o,(w1.alloc o).cell? ⟨bd,3,none⟩=some (.slice ac d.ch.length cap):=fun o=>cell_of ((h1.alloc o).block 1 rfl) rfl
 have g0:w1.cell? ⟨w.heap.size,0,none⟩=some x0:=cell_of hb0 rfl
 have g1:w1.cell? ⟨w.heap.size,1,none⟩=some x1:=cell_of hb0 rfl
 have g2:w1.cell? ⟨w.heap.size,2,none⟩=some x2:=cell_of hb0 rfl
 have g3:w1.cell? ⟨w.heap.size,3,none⟩=some x3:=cell_of hb0 rfl
 have bs1:=kr hb0
 have bs2:=kr hb1
 have hcl:d.ch.length≤100000001:=by omega
 clear h1 hb0 hb1 C0 b1 hF
 go_wp2_with fail
 go_region_law
  (first
   | (refine lu rfl (R:=Cells _ _ 158::Cells w.heap.size #[x0,x1,x2,x3] 158::((il bd bn bs (.slice ac d.ch.length cap) bA d).set 1 (lh bn bA (nmDo d.now c)))) (by exact (H1.out.drewN 1).cells _ _) 5 rfl (.tmp 14) (.tmp 16) 122 (by rfl) Tryz.underlying122 Bq (by decide) (by decide) (by rfl) (by rfl) (by exact Src.of_block (((H1.out.drewN 1).cells _ _).block 0 rfl) rfl) (fun u hu=>by simp at hu;rcases hu with rfl | rfl | rfl | rfl <;> assumption) (by omega) ?_
      intro v1 w3 ho1 hg1
      have hc1:w3.cell? ⟨bd,3,none⟩=some (.slice ac d.ch.length cap):=cell_of (ho1.block 2 rfl) rfl
      have hf1:w3.frozen? ⟨bd,3,none⟩=false:=aK (ho1.block 2 rfl)
      obtain⟨F1,hr1⟩:=ho1.get 5 rfl
      obtain⟨a1,Np,rfl,-,-,-⟩:=hr1.shape
      clear hr1
      have Jy:=Lib.hid ho1
      clear ho1 hg1))
 all_goals
  have h2:=(Jy.out.put 2 rfl 3 (.slice a1 (d.ch.length+1) Np)).drop.drop
  have HE:Hid (oq d bd bn bs bA c F0 w0 (.returned (.tuple #[])) (w3.setCell ⟨bd,3,none⟩ (.slice a1 (d.ch.length+1) Np))):=Lib.hid ⟨rfl,_,by
   have e:jO bA (bu d c).ch=jO bA d.ch++[x0,x1,x2,x3]:=by
    rw [← HX.out];simp [bu,jO]
   have e2:(bu d c).ch.length=d.ch.length+1:=by simp [bu]
   unfold il
   rw [e,e2]
   exact h2⟩
  clear h2 Jy
  go_wp2_with fail
  go_end0
  exact HE.out
end
section
variable {F0:List Nat} {w0 w:World} {R:List ax}
theorem NV {a:Nat} {f:FileD} (h:In F0 w0 w R) (i:Nat) (hA:R[i]?=some (iZ a f)) (s:Nat):In F0 w0 (w.setCell ⟨a,1,none⟩ (.int .i64 s)) (R.set i (iZ a ⟨f.b,s⟩)):=by
 have hi:=(List.getElem?_eq_some_iff.1 hA).1
 obtain⟨v,h1⟩:=h.file i hA
 have h2:=h1.put (b:=a) (C:=#[v,.int .i64 f.sure]) (T:=155) (i+1) (by simp [hi]) 1 (.int .i64 s)
 have h3:In F0 w0 (w.setCell ⟨a,1,none⟩ (.int .i64 s)) (ay 5 1 v f.b.length (eB f.b)::R.set i (Cells a #[v,.int .i64 s] 155)):=by
  simpa [List.set_set] using h2
 have:=In.Kn (a:=a) (v:=v) (f:=⟨f.b,s⟩) h3 i (by simp [hi])
 rwa [List.set_set] at this
theorem ZQ {d:ae} {bd:Nat} {F:List Nat} (h:bJ bd d w F) (ho:d.ops≤100000000) (n:ByteArray) (hn:n.size≤maxLen) :
  Calls Tryz.prog 122 #[.pointer (some ⟨bd,0,none⟩),.string n] w (GV (.int .i64 (aW d n).2) (bJ bd (aW d n).1) w F):=by
 obtain⟨hok,bn,bs,dN,bA,hl,h⟩:=h
 have HC:=Lib.hid (zM (In.start il.aB h) hok ho n hn)
 have hok':=gG hok n
 rcases iX d n with ⟨e,h1,he⟩|⟨hf,i,h1,h2⟩
 ·have HP:Hid (∀ w',In F w w' (il bd bn bs dN bA (aD d))→GV (.int .i64 (aW d n).2) (bJ bd (aW d n).1) w F (.returned (.int .i64 (ic d n))) w'):=
   Lib.hid fun w' h'=>by
    have e1:ic d n=e:=by
     unfold aW at h1;unfold ic
     by_cases hf:dC d
     ·rw [if_pos hf] at h1 ⊢;exact congrArg Prod.snd h1
     ·rw [if_neg hf] at h1 ⊢
      cases e2:bP d.now n with
      | none=>rw [e2] at h1;exact congrArg Prod.snd h1
      | some i=>rw [e2] at h1;exfalso;have:(0:Int)=e:=congrArg Prod.snd h1;omega
    rw [e1,h1]
    exact eQ h' (bV hok) hl
  have q:(ic d n == 0)=false:=by
   rw [beq_eq_false_iff_ne]
   unfold aW at h1;unfold ic
   by_cases hf:dC d
   ·rw [if_pos hf];decide
   ·rw [if_neg hf] at h1 ⊢
    cases e2:bP d.now n with
    | none=>decide
    | some i=>rw [e2] at h1;exfalso;have:(0:Int)=e:=congrArg Prod.snd h1;omega
  clear h hok hok' hl h1 he
  go_enter Tryz.func122,Tryz.ntmps122
  go_wp2_with fail
  refine HC.out.mono ?_
  rintro e w1 ⟨rfl,h1⟩
  have HF:=Lib.hid (HP.out w1 h1)
  clear h1 HC HP
  generalize ic d n=fe at *
  go_wp2_with fail
  go_ret
  exact HF.out
 ·have HP:Hid (∀ w',In F w w' (il bd bn bs dN bA (aD d))→GV (.int .i64 (aW d n).2) (bJ bd (aW d n).1) w F (.returned (.int .i64 0)) (w'.setCell ⟨bA.getD i 0,1,none⟩ (.int .i64 (d.files.getD i default).b.length))):=
   Lib.hid fun w' h'=>by
    have h3:=NV h' (4+i) (lS (d:=aD d) hl (hok.at h1)) (d.files.getD i default).b.length
    have h4:=wS (bd:=bd) (bn:=bn) (bs:=bs) (dN:=dN) (d:=aD d) hl (hok.at h1) ⟨(d.files.getD i default).b,(d.files.getD i default).b.length⟩
    rw [h2]
    refine eQ (dN:=dN) (bn:=bn) (bs:=bs) (bA:=bA) ?_ (by rw [h2] at hok';exact hok') (by simpa [iE,aD] using hl)
    rw [← h4];exact h3
  have CF:Hid (∀ w',In F w w' (il bd bn bs dN bA (aD d))→∃ ad cap,w'.cell? ⟨bA.getD i 0,0,none⟩=some (.slice ad (d.files.getD i default).b.length cap)∧w'.frozen? ⟨bA.getD i 0,1,none⟩=false∧w'.cell? ⟨bA.getD i 0,1,none⟩=some (.int .i64 (d.files.getD i default).sure)):=
   Lib.hid fun w' h'=>by
    obtain⟨ad,cap,hb,_⟩:=EX h' (4+i) (lS (d:=aD d) hl (hok.at h1))
    exact⟨ad,cap,cell_of hb rfl,aK hb,cell_of hb rfl⟩
  have e1:ic d n=0:=by unfold ic;rw [if_neg hf,h1];rfl
  have e2:Bo bA d n=.pointer (some ⟨bA.getD i 0,0,none⟩):=by unfold Bo;rw [if_neg hf,h1];rfl
  have HE:=Lib.hid (And.intro e1 e2)
  clear h hok hok' hl h1 h2 hf e1 e2
  go_enter Tryz.func122,Tryz.ntmps122
  go_wp2_with fail
  refine HC.out.mono ?_
  rintro e w1 ⟨rfl,h1⟩
  rw [HE.out.1,HE.out.2]
  have HF:=Lib.hid (HP.out w1 h1)
  obtain⟨ad,cap,c0,f1,c1⟩:=CF.out w1 h1
  clear h1 HC HP CF HE
  generalize bA.getD i 0=af at *
  generalize (d.files.getD i default).b.length=fl at *
  go_wp2_with fail
  go_ret
  exact HF.out
end
section
variable {F0:List Nat} {w0 w:World} {R:List ax}
theorem vI (d:ae) (n:ByteArray):(ic d n≠0∧(dC d∨bP d.now n=none))∨(ic d n=0∧¬ dC d∧∃ i,bP d.now n=some i∧∀ bA,Bo bA d n=iL bA i):=by
 unfold ic Bo
 by_cases hf:dC d
 ·rw [if_pos hf];exact Or.inl ⟨by decide,Or.inl hf⟩
 ·rw [if_neg hf]
  cases e:bP d.now n with
  | none=>exact Or.inl ⟨by decide,Or.inr rfl⟩
  | some i=>exact Or.inr ⟨rfl,hf,i,rfl,fun bA=>by rw [if_neg hf];rfl⟩
theorem Ir {d:ae} {n:ByteArray} (h:ic d n≠0):cO d n=(aD d,ic d n):=by
 unfold ic at *;unfold cO
 by_cases hf:dC d
 ·rw [if_pos hf,if_pos hf]
 ·rw [if_neg hf] at h ⊢;rw [if_neg hf]
  cases e:bP d.now n with
  | none=>rfl
  | some i=>rw [e] at h;simp at h
theorem Iu {d:ae} {n m:ByteArray} (h:ic d n≠0):bZ d n m=(aD d,ic d n):=by
 unfold ic at *;unfold bZ
 by_cases hf:dC d
 ·rw [if_pos hf,if_pos hf]
 ·rw [if_neg hf] at h ⊢;rw [if_neg hf]
  cases e:bP d.now n with
  | none=>rfl
  | some i=>rw [e] at h;simp at h
theorem Rc {d:ae} {n:ByteArray} {k:Int} (h:ic d n≠0):kJ d n k=(aD d,ic d n):=by
 unfold ic at *;unfold kJ
 by_cases hf:dC d
 ·rw [if_pos hf,if_pos hf]
 ·rw [if_neg hf] at h ⊢;rw [if_neg hf]
  cases e:bP d.now n with
  | none=>rfl
  | some i=>rw [e] at h;simp at h
theorem Re {a b:ByteArray} (h:¬ a=b):(a.toList == b.toList)=false:=by
 rw [beq_eq_false_iff_ne,ByteArray.toList_eq,ByteArray.toList_eq];exact fun e=>h (PH e)
theorem UD {d:ae} {bd:Nat} {F:List Nat} (h:bJ bd d w F) (ho:d.ops≤100000000) (n:ByteArray) (hn:n.size≤maxLen) :
  Calls Tryz.prog 166 #[.pointer (some ⟨bd,0,none⟩),.string n] w (GV (.int .i64 (cO d n).2) (bJ bd (cO d n).1) w F):=by
 obtain⟨hok,bn,bs,dN,bA,hl,h⟩:=h
 have HC:=Lib.hid (zM (In.start il.aB h) hok ho n hn)
 have hok':=nZ hok n
 rcases vI d n with ⟨hne,_⟩|⟨he,hf,i,h1,hv⟩
 ·have HP:Hid (∀ w',In F w w' (il bd bn bs dN bA (aD d))→GV (.int .i64 (cO d n).2) (bJ bd (cO d n).1) w F (.returned (.int .i64 (ic d n))) w'):=
   Lib.hid fun w' h'=>by rw [Ir hne];exact eQ h' (bV hok) hl
  have q:(ic d n == 0)=false:=beq_eq_false_iff_ne.2 hne
  clear h hok hok' hl hne
  go_enter Tryz.func166,Tryz.ntmps166
  go_wp2_with fail
  refine HC.out.mono ?_
  rintro e w1 ⟨rfl,h1⟩
  have HF:=Lib.hid (HP.out w1 h1)
  clear h1 HC HP
  generalize ic d n=fe at *
  go_wp2_with fail
  go_ret
  exact HF.out
 ·have e2:cO d n=(bu (aD d) (.rem n),0):=by unfold cO;rw [if_neg hf,h1]
  have HP:Hid (∀ w' v',In F w w' (il bd bn bs v' bA (bu (aD d) (.rem n)))→GV (.int .i64 (cO d n).2) (bJ bd (cO d n).1) w F (.returned (.int .i64 0)) w'):=
   Lib.hid fun w' v' h'=>by rw [e2] at hok' ⊢;exact eQ h' hok' hl
  have H2:Hid (∀ w',In F w w' (il bd bn bs dN bA (aD d))→Calls Tryz.prog 214 #[.pointer (some ⟨bd,0,none⟩),.agg #[.int .i64 3,.string n,.string ByteArray.empty,.pointer none]] w' (oq (aD d) bd bn bs bA (.rem n) F w)):=
   Lib.hid fun w' h'=>xY h' (bV hok) (by show d.ops+1≤_;omega) (.rem n) hn (fun a b e=>by cases e)
  have HE:=Lib.hid (And.intro he (hv bA))
  clear h hok hok' hl e2 hf he hv h1
  go_enter Tryz.func166,Tryz.ntmps166
  go_wp2_with fail
  refine HC.out.mono ?_
  rintro e w1 ⟨rfl,h1⟩
  rw [HE.out.1,HE.out.2]
  have H3:=Lib.hid (H2.out w1 h1)
  clear h1 HC H2 HE
  unfold iL
  go_wp2_with fail
  refine H3.out.mono ?_
  rintro e w2 ⟨rfl,v',h2⟩
  have HF:=Lib.hid (HP.out w2 v' h2)
  clear h2 HP H3
  go_wp2_with fail
  go_ret
  exact HF.out
theorem UE {d:ae} {bd:Nat} {F:List Nat} (h:bJ bd d w F) (ho:d.ops≤100000000) (n m:ByteArray) (hn:n.size≤maxLen) (hm:m.size≤maxLen) :
  Calls Tryz.prog 201 #[.pointer (some ⟨bd,0,none⟩),.string n,.string m] w (GV (.int .i64 (bZ d n m).2) (bJ bd (bZ d n m).1) w F):=by
 obtain⟨hok,bn,bs,dN,bA,hl,h⟩:=h
 have HC:=Lib.hid (zM (In.start il.aB h) hok ho n hn)
 have hok':=nY hok n m
 rcases vI d n with ⟨hne,_⟩|⟨he,hf,i,h1,hv⟩
 ·have HP:Hid (∀ w',In F w w' (il bd bn bs dN bA (aD d))→GV (.int .i64 (bZ d n m).2) (bJ bd (bZ d n m).1) w F (.returned (.int .i64 (ic d n))) w'):=
   Lib.hid fun w' h'=>by rw [Iu hne];exact eQ h' (bV hok) hl
  have q:(ic d n != 0)=true:=by rw [bne_iff_ne];exact hne
  clear h hok hok' hl hne
  go_enter Tryz.func201,Tryz.ntmps201
  go_wp2_with fail
  refine HC.out.mono ?_
  rintro e w1 ⟨rfl,h1⟩
  have HF:=Lib.hid (HP.out w1 h1)
  clear h1 HC HP
  generalize ic d n=fe at *
  go_wp2_with fail
  go_ret
  exact HF.out
 ·have HN:=Lib.hid (Io m hm)
  have HE:=Lib.hid (And.intro he (hv bA))
  by_cases hb:gU m=true
  ·by_cases hnm:n=m
   ·have e2:bZ d n m=(aD d,0):=by unfold bZ;rw [if_neg hf,h1];simp [hb,hnm]
    have HP:Hid (∀ w',In F w w' (il bd bn bs dN bA (aD d))→GV (.int .i64 (bZ d n m).2) (bJ bd (bZ d n m).1) w F (.returned (.int .i64 0)) w'):=
     Lib.hid fun w' h'=>by rw [e2] at hok' ⊢;exact eQ h' hok' hl
    have HB:=Lib.hid hb
    clear h hok hok' hl e2 hf he hv h1 hb
    subst hnm
    go_enter Tryz.func201,Tryz.ntmps201
    go_wp2_with fail
    refine HC.out.mono ?_
    rintro e w1 ⟨rfl,h1⟩
    rw [HE.out.1,HE.out.2]
    have HF:=Lib.hid (HP.out w1 h1)
    clear h1 HC HE HP
    unfold iL
    go_wp2_with fail
    refine (HN.out w1).mono ?_
    rintro e w2 ⟨rfl,rfl⟩
    rw [HB.out]
    go_wp2_with fail
    go_ret
    exact HF.out
   ·have e2:bZ d n m=(bu (aD d) (.ren n m),0):=by unfold bZ;rw [if_neg hf,h1];simp [hb,hnm]
    have HP:Hid (∀ w' v',In F w w' (il bd bn bs v' bA (bu (aD d) (.ren n m)))→GV (.int .i64 (bZ d n m).2) (bJ bd (bZ d n m).1) w F (.returned (.int .i64 0)) w'):=
     Lib.hid fun w' v' h'=>by rw [e2] at hok' ⊢;exact eQ h' hok' hl
    have H2:Hid (∀ w',In F w w' (il bd bn bs dN bA (aD d))→Calls Tryz.prog 214 #[.pointer (some ⟨bd,0,none⟩),.agg #[.int .i64 2,.string n,.string m,.pointer none]] w' (oq (aD d) bd bn bs bA (.ren n m) F w)):=
     Lib.hid fun w' h'=>xY h' (bV hok) (by show d.ops+1≤_;omega) (.ren n m) ⟨hn,hm⟩ (fun a b e=>by cases e;exact⟨i,h1⟩)
    have HB:=Lib.hid hb
    have q:(n.toList == m.toList)=false:=Re hnm
    clear h hok hok' hl e2 hf he hv h1 hb hnm
    go_enter Tryz.func201,Tryz.ntmps201
    go_wp2_with fail
    refine HC.out.mono ?_
    rintro e w1 ⟨rfl,h1⟩
    rw [HE.out.1,HE.out.2]
    have H3:=Lib.hid (H2.out w1 h1)
    clear h1 HC H2 HE
    unfold iL
    go_wp2_with fail
    refine (HN.out w1).mono ?_
    rintro e w2 ⟨rfl,rfl⟩
    rw [HB.out]
    go_wp2_with fail
    refine H3.out.mono ?_
    rintro e w2 ⟨rfl,v',h2⟩
    have HF:=Lib.hid (HP.out w2 v' h2)
    clear h2 HP H3
    go_wp2_with fail
    go_ret
    exact HF.out
  ·have hb':gU m=false:=by simpa using hb
   have e2:bZ d n m=(aD d,1):=by unfold bZ;rw [if_neg hf,h1];simp [hb']
   have HP:Hid (∀ w',In F w w' (il bd bn bs dN bA (aD d))→GV (.int .i64 (bZ d n m).2) (bJ bd (bZ d n m).1) w F (.returned (.int .i64 1)) w'):=
    Lib.hid fun w' h'=>by rw [e2] at hok' ⊢;exact eQ h' hok' hl
   have HB:=Lib.hid hb'
   clear h hok hok' hl e2 hf he hv h1 hb hb'
   go_enter Tryz.func201,Tryz.ntmps201
   go_wp2_with fail
   refine HC.out.mono ?_
   rintro e w1 ⟨rfl,h1⟩
   rw [HE.out.1,HE.out.2]
   have HF:=Lib.hid (HP.out w1 h1)
   clear h1 HC HE HP
   unfold iL
   go_wp2_with fail
   refine (HN.out w1).mono ?_
   rintro e w2 ⟨rfl,rfl⟩
   rw [HB.out]
   go_wp2_with fail
   go_ret
   exact HF.out
end
section
variable {F0:List Nat} {w0 w:World} {R:List ax}
theorem vJ (b:Nat) (es:Array MapEntry) (clock:Nat) (w:World) (hb:w.heap[b]?=some (.map es clock)) :
  Calls Tryz.prog 92 #[.map (some b)] w fun e w'=>e=.returned (.map (some w.heap.size))∧w'=w.alloc (.map es clock):=by
 have hq:=fun w=>run_eql_map_nil_sl (P:=Tryz.prog) w 121 _ _ (some b) Tryz.underlying121
 go_enter Tryz.func92,Tryz.ntmps92
 go_wp2
 rw [run_callFunc_extern Tryz.func173 (by kernel_rfl) (by kernel_rfl) (by kernel_rfl) (e:=Extern.MapsClone.clone) (by kernel_rfl),run_maps_clone_sl w 121 hb]
 simp only [Result.andThen]
 rw [Oper.upon_value]
 go_wp2
 rw [run_typeAssert_map_sl _ 121 20 _ _ _ Tryz.underlying121]
 simp only [Result.andThen]
 rw [Oper.upon_value]
 go_wp2
 go_ret
 exact⟨rfl,rfl⟩
theorem qy {α:Type} {P:Program} {kt:TypeId} {ek ev:α→Value} {b:Nat} {L:List α} (h:In F0 w0 w R) (i:Nat) (hA:R[i]?=some (jq P kt ek ev b L)) :
  ∃ es clock,w.heap[b]?=some (.map es clock)∧In F0 w0 (w.alloc (.map es clock)) (jq P kt ek ev w.heap.size L::R):=by
 obtain⟨Fb,hFb⟩:=h.get i hA
 obtain⟨es,clock,h1,h2,h3⟩:=hFb.2.ex
 refine⟨es,clock,h1,?_⟩
 obtain⟨F,hs,hF⟩:=h.star
 have fr:=bD.star h.aB
 refine⟨fun B hB=>?_,⟨[w.heap.size]++F,⟨[w.heap.size],F,⟨rfl,⟨es,clock,dO,h2,h3⟩⟩,fr.keep hs (fun b hb=>eF (fr.lt hs b hb)),?_,rfl⟩,?_⟩,h.mod.alloc _⟩
 ·rcases List.mem_cons.1 hB with rfl | hB
  ·exact jq.aB _ _
  ·exact h.aB B hB
 ·intro b hb Pq
  simp at hb;subst hb
  exact absurd (fr.lt hs _ Pq) (by omega)
 ·intro b hb
  simp at hb
  rcases hb with rfl | hb
  ·exact Or.inr h.mod.size
  ·exact hF b hb
theorem Rf {d:ae} {bd:Nat} {F:List Nat} (h:bJ bd d w F) (ho:d.ops≤100000000) :
  Calls Tryz.prog 162 #[.pointer (some ⟨bd,0,none⟩)] w (GV (.int .i64 (bF d).2) (bJ bd (bF d).1) w F):=by
 obtain⟨hok,bn,bs,dN,bA,hl,h⟩:=h
 have HC:=Lib.hid (Bn (In.start il.aB h) 0 gQ hok ho)
 have hok':=yP hok
 rcases gF d with h1 | ⟨hf,h1⟩
 ·have ht:oo d=8:=by
   unfold oo;unfold bF at h1
   by_cases hf:dC d
   ·rw [if_pos hf]
   ·rw [if_neg hf] at h1;have h2:(0:Int)=8:=congrArg Prod.snd h1;omega
  have HP:Hid (∀ w',In F w w' (il bd bn bs dN bA (aD d))→GV (.int .i64 (bF d).2) (bJ bd (bF d).1) w F (.returned (.int .i64 8)) w'):=
   Lib.hid fun w' h'=>by rw [h1] at hok' ⊢;exact eQ h' hok' hl
  have HE:=Lib.hid ht
  clear h hok hok' hl h1 ht
  go_enter Tryz.func162,Tryz.ntmps162
  go_wp2_with fail
  refine HC.out.mono ?_
  rintro e w1 ⟨rfl,h1⟩
  rw [kz] at h1
  rw [HE.out]
  have HF:=Lib.hid (HP.out w1 h1)
  clear h1 HC HP HE
  go_wp2_with fail
  go_ret
  exact HF.out
 ·have ht:oo d=0:=by unfold oo;rw [if_neg hf]
  have HP:Hid (∀ w' bs',In F w w' (il bd bn bs' (.slice none 0 0) bA (nC (aD d)))→GV (.int .i64 (bF d).2) (bJ bd (bF d).1) w F (.returned (.int .i64 0)) w'):=
   Lib.hid fun w' bs' h'=>by rw [h1] at hok' ⊢;exact eQ h' hok' hl
  have HE:=Lib.hid ht
  clear h hok hok' hl h1 ht hf
  go_enter Tryz.func162,Tryz.ntmps162
  go_wp2_with fail
  refine HC.out.mono ?_
  rintro e w1 ⟨rfl,h1⟩
  rw [kz] at h1
  rw [HE.out]
  have c1:w1.cell? ⟨bd,1,none⟩=some (.map (some bn)):=cell_of (h1.block 0 rfl) rfl
  obtain⟨es,clock,hb,h2⟩:=qy h1 1 rfl
  have C2:=Lib.hid (vJ bn es clock w1 hb)
  have g0:=h2.block 1 rfl
  have c2:(w1.alloc (.map es clock)).cell? ⟨bd,2,none⟩=some (.map (some bs)):=cell_of g0 rfl
  have c3:(w1.alloc (.map es clock)).cell? ⟨bd,3,none⟩=some dN:=cell_of g0 rfl
  have f2:(w1.alloc (.map es clock)).frozen? ⟨bd,2,none⟩=false:=aK g0
  have f3:(w1.alloc (.map es clock)).frozen? ⟨bd,3,none⟩=false:=aK g0
  have h3:=((h2.put 1 rfl 2 (.map (some w1.heap.size))).put 1 rfl 3 (.slice none 0 0))
  have h4:In F w (((w1.alloc (.map es clock)).setCell ⟨bd,2,none⟩ (.map (some w1.heap.size))).setCell ⟨bd,3,none⟩ (.slice none 0 0)) (il bd bn w1.heap.size (.slice none 0 0) bA (nC (aD d))):=by
   have h5:=h3.dz 158 4
   exact In.aL (R1:=[ay 158 4 (.slice none 0 0) 0 [],lh w1.heap.size bA d.now,Cells bd (gP (nC (aD d)) bn w1.heap.size (.slice none 0 0)) 124,lh bn bA d.now,lh bs bA d.sure,ay 158 4 dN d.ch.length (jO bA d.ch)]) (R2:=iQ bA d.files) h5 [2,3,1,0] (by decide) rfl
  have HF:=Lib.hid (HP.out _ _ h4)
  clear h1 h2 h3 h4 HC HP HE hb g0
  go_wp2_with fail
  refine C2.out.mono ?_
  rintro e w2 ⟨rfl,rfl⟩
  go_wp2_with fail
  go_ret
  exact HF.out
end
section
variable {F0:List Nat} {w0 w:World} {R:List ax}
theorem Br {a:Nat} {f:FileD} {v v':Value} {bs:List UInt8} (i:Nat) (hi:i < R.length) (h:In F0 w0 w (ay 5 1 v' (f.b.length+bs.length) (eB f.b++eB bs)::R.set i (Cells a #[v,.int .i64 f.sure] 155))) :
  In F0 w0 (w.setCell ⟨a,0,none⟩ v') (R.set i (iZ a ⟨f.b++bs,f.sure⟩)):=by
 have h2:=h.put (b:=a) (C:=#[v,.int .i64 f.sure]) (T:=155) (i+1) (by simp [hi]) 0 v'
 have h3:In F0 w0 (w.setCell ⟨a,0,none⟩ v') (ay 5 1 v' (f.b++bs).length (eB (f.b++bs))::R.set i (Cells a #[v',.int .i64 f.sure] 155)):=by
  rw [List.length_append,← uN]
  simpa [List.set_set] using h2
 have:=In.Kn (a:=a) (v:=v') (f:=⟨f.b++bs,f.sure⟩) h3 i (by simp [hi])
 rwa [List.set_set] at this
theorem UF {d:ae} {bd bn bs a:Nat} {dN:Value} {bA:List Nat} (h:In F0 w0 w (iZ a ⟨[],0⟩::il bd bn bs dN bA d)) (hok:aO d) (hl:bA.length=d.files.length):In F0 w0 w (il bd bn bs dN (bA++[a]) (dU d)):=by
 have hev:∀ (N:gI),lH N d.files.length→∀ x∈N,Wy (bA++[a]) x=Wy bA x:=fun N hN x hx=>Bj (by rw [hl];exact hN.lt x hx) a
 have h1:=h.imp 2 (A':=lh bn (bA++[a]) d.now) rfl (jq.aB _ _) (fun F hF=>jq.ev hF (hev _ hok.now))
 have h2:=h1.imp 3 (A':=lh bs (bA++[a]) d.sure) rfl (jq.aB _ _) (fun F hF=>jq.ev hF (hev _ hok.ZJ))
 have e:jO (bA++[a]) d.ch=jO bA d.ch:=Ko (fun c hc=>by rw [hl];exact QY hok.wD c hc) a
 have e2:il bd bn bs dN (bA++[a]) (dU d)=[Cells bd (gP d bn bs dN) 124,lh bn (bA++[a]) d.now,lh bs (bA++[a]) d.sure,ay 158 4 dN d.ch.length (jO bA d.ch)]++(iQ bA d.files++[iZ a ⟨[],0⟩]):=by
  unfold il
  have:iQ (bA++[a]) (dU d).files=iQ bA d.files++[iZ a ⟨[],0⟩]:=by
   unfold iQ dU
   exact List.zipWith_append hl
  rw [this,← e];rfl
 rw [e2]
 refine h2.perm ?_
 refine List.Perm.trans ?_ (List.Perm.append_left _ List.perm_append_comm)
 exact (List.perm_middle (l₁:=[Cells bd (gP d bn bs dN) 124,lh bn (bA++[a]) d.now,lh bs (bA++[a]) d.sure,ay 158 4 dN d.ch.length (jO bA d.ch)])).symm
def XI (d d':ae) (r:Int) (bd:Nat) (F:List Nat) (w:World) (e:Ending) (w':World):Prop:=GV (.int .i64 r) (bJ bd d') w F e w'
theorem MH {d:ae} {bd:Nat} {F:List Nat} (h:bJ bd d w F) (ho:d.ops≤100000000) (n:ByteArray) (hn:n.size≤maxLen) {A:Option Addr} {c:Nat} {bs:List UInt8} (hm:bs.length≤10000000) (hs:∀ w',Mod F w w'→Src w' A bs.length 1 (eB bs)) :
  Calls Tryz.prog 145 #[.pointer (some ⟨bd,0,none⟩),.string n,.slice A bs.length c] w (GV (.int .i64 (aI d n bs).2) (bJ bd (aI d n bs).1) w F):=by
 obtain⟨hok,bn,xZ,dN,bA,hl,h⟩:=h
 have HC:=Lib.hid (Bn (In.start il.aB h) 0 gQ hok ho)
 have hok':=Lib.hid (gV hok n bs)
 have oI:=Lib.hid hok
 have HL:=Lib.hid hl
 have HN:=Lib.hid (Io n hn)
 have HS:=Lib.hid hs
 have Py:Hid (∀ w',In F w w' (il bd bn xZ dN bA (aD d))→w'.cell? ⟨bd,1,none⟩=some (.map (some bn))∧(Instr.lookup 121 (.map (some bn)) (.string n) false).run Tryz.prog w'=.ok (lookV bA (bP d.now n)) w'):=
  Lib.hid fun w' h'=>⟨cell_of (h'.block 0 gQ) rfl,wT h' 1 uw oI.out.now.row hn⟩
 clear h hok hl hs
 by_cases hf:dC d
 ·have e2:aI d n bs=(aD d,8):=by unfold aI;rw [if_pos hf]
  have HP:Hid (∀ w',In F w w' (il bd bn xZ dN bA (aD d))→GV (.int .i64 (aI d n bs).2) (bJ bd (aI d n bs).1) w F (.returned (.int .i64 8)) w'):=
   Lib.hid fun w' h'=>by have:=hok'.out;rw [e2] at this ⊢;exact eQ h' this HL.out
  have HE:Hid (oo d=8):=Lib.hid (by rw [oo,if_pos hf])
  clear hf e2
  go_enter Tryz.func145,Tryz.ntmps145
  go_wp2_with fail
  refine HC.out.mono ?_
  rintro e w1 ⟨rfl,h1⟩
  rw [kz] at h1
  rw [HE.out]
  have HF:=Lib.hid (HP.out w1 h1)
  clear h1 HC HP HE
  go_wp2_with fail
  go_ret
  exact HF.out
 ·have HE:Hid (oo d=0):=Lib.hid (by rw [oo,if_neg hf])
  by_cases hnm:gU n=true
  ·have HB:=Lib.hid hnm
   cases e1:bP d.now n with
   | some i=>
    have hi:=oI.out.at e1
    by_cases hr:jW d (some i) bs.length=true
    ·have e2:aI d n bs=(jd (aD d) i bs,0):=by unfold aI;rw [if_neg hf,e1];simp [hnm,hr]
     have HP:Hid (∀ w',In F w w' (il bd bn xZ dN bA (jd (aD d) i bs))→GV (.int .i64 (aI d n bs).2) (bJ bd (aI d n bs).1) w F (.returned (.int .i64 0)) w'):=
      Lib.hid fun w' h'=>by have:=hok'.out;rw [e2] at this ⊢;exact eQ h' this (by simpa [jd,iE,aD] using HL.out)
     have HR:=Lib.hid (fun w1 (h1:In F w w1 (il bd bn xZ dN bA (aD d)))=>wU h1 (bV oI.out) HL.out hi (k:=bs.length) (by omega))
     have hr':jW (aD d) (some i) bs.length=true:=hr
     have Rh:=Lib.hid hr'
     have Ri:=Lib.hid e1
     have hfl:=(oI.out.file _ (jI hi)).1
     clear hf e2 hnm e1 hr hr'
     go_enter Tryz.func145,Tryz.ntmps145
     go_wp2_with fail
     refine HC.out.mono ?_
     rintro e w1 ⟨rfl,h1⟩
     rw [kz] at h1
     rw [HE.out]
     obtain⟨c1,l1⟩:=Py.out w1 h1
     rw [Ri.out] at l1
     have HR1:=Lib.hid (HR.out w1 h1)
     obtain⟨af,wW⟩:∃ af,bA.getD i 0=af:=⟨_,rfl⟩
     simp only [lookV,iL,wW] at l1 HR1
     have XJ:=Lib.hid wW
     have HH:=Lib.hid h1
     clear h1 HC HE Py HR Ri wW
     go_wp2_with fail
     refine (HN.out w1).mono ?_
     rintro e w2 ⟨rfl,rfl⟩
     rw [HB.out]
     go_wp2_with fail
     refine HR1.out.mono ?_
     rintro e w3 ⟨rfl,h3⟩
     rw [Rh.out]
     have hF:=lS (bd:=bd) (bn:=bn) (bs:=xZ) (dN:=dN) (d:=aD d) HL.out hi
     rw [XJ.out] at hF
     obtain⟨v,h4⟩:=h3.file (4+i) hF
     obtain⟨Fv,hv⟩:=h4.get 0 rfl
     obtain⟨av,cv,rfl,k1,k2,-⟩:=hv.shape
     have hlen:4+i < (il bd bn xZ dN bA (aD d)).length:=(List.getElem?_eq_some_iff.1 hF).1
     have iT:=Lib.hid hlen
     have hbk:=h4.block (4+i+1) (b:=af) (C:=#[.slice av (d.files.getD i default).b.length cv,.int .i64 (d.files.getD i default).sure]) (T:=155) (by rw [List.getElem?_cons_succ,List.getElem?_set_self hlen];rfl)
     have c0:w3.cell? ⟨af,0,none⟩=some (.slice av (d.files.getD i default).b.length cv):=cell_of hbk rfl
     have H4:=Lib.hid h4
     have SS:=Lib.hid (HS.out w3 h3.mod)
     clear h3 h4 hv hbk hF HR1 Rh HH hlen
     have ZR:Hid (∀ w' v',In F w w' (ay 5 1 v' ((d.files.getD i default).b.length+bs.length) (eB (d.files.getD i default).b++eB bs)::(il bd bn xZ dN bA (aD d)).set (4+i) (Cells af #[.slice av (d.files.getD i default).b.length cv,.int .i64 (d.files.getD i default).sure] 155)) →
       w'.cell? ⟨af,0,none⟩=some (.slice av (d.files.getD i default).b.length cv)∧w'.frozen? ⟨af,0,none⟩=false∧GV (.int .i64 (aI d n bs).2) (bJ bd (aI d n bs).1) w F (.returned (.int .i64 0)) (w'.setCell ⟨af,0,none⟩ v')):=Lib.hid fun w' v' h'=>by
      have hb:=h'.block (4+i+1) (b:=af) (C:=#[.slice av (d.files.getD i default).b.length cv,.int .i64 (d.files.getD i default).sure]) (T:=155) (by rw [List.getElem?_cons_succ,List.getElem?_set_self iT.out])
      refine⟨cell_of hb rfl,aK hb,HP.out _ ?_⟩
      have h2:=Br (f:=d.files.getD i default) (4+i) iT.out h'
      have h5:=wS (bd:=bd) (bn:=bn) (bs:=xZ) (dN:=dN) (d:=aD d) HL.out hi ⟨(d.files.getD i default).b++bs,(d.files.getD i default).sure⟩
      rw [XJ.out] at h5
      unfold jd
      rw [show (aD d).files=d.files from rfl,← h5]
      exact h2
     clear HP
     have H5:Hid (In F w w3 (ay 5 1 (.slice av (d.files.getD i default).b.length cv) (d.files.getD i default).b.length (eB (d.files.getD i default).b)::(il bd bn xZ dN bA (aD d)).set (4+i) (Cells af #[.slice av (d.files.getD i default).b.length cv,.int .i64 (d.files.getD i default).sure] 155))):=H4
     clear H4
     generalize (d.files.getD i default)=f at *
     go_wp2_with (at_builtin;refine iG rfl H5.out 0 rfl (.tmp 42) (.tmp 43) 65 (by rfl) Tryz.underlying65 infoByte (by decide) (by decide) (by rfl) (by rfl) SS.out (vW _) (by omega) ?_)
     intro v' w4 h5 hg
     obtain⟨Fw,hw⟩:=h5.get 0 rfl
     obtain⟨aw,cw,rfl,-,-,-⟩:=hw.shape
     obtain⟨d0,d1,hfin⟩:=ZR.out w4 _ h5
     have HF:=Lib.hid hfin
     clear h5 hw hfin hg H5 SS ZR
     go_wp2_with fail
     go_ret
     exact HF.out
    ·have hr':jW d (some i) bs.length=false:=by simpa using hr
     have e2:aI d n bs=(aD d,7):=by unfold aI;rw [if_neg hf,e1];simp [hnm,hr']
     have HP:Hid (∀ w',In F w w' (il bd bn xZ dN bA (aD d))→GV (.int .i64 (aI d n bs).2) (bJ bd (aI d n bs).1) w F (.returned (.int .i64 7)) w'):=
      Lib.hid fun w' h'=>by have:=hok'.out;rw [e2] at this ⊢;exact eQ h' this HL.out
     have HR:=Lib.hid (fun w1 (h1:In F w w1 (il bd bn xZ dN bA (aD d)))=>wU h1 (bV oI.out) HL.out hi (k:=bs.length) (by omega))
     have hr2:jW (aD d) (some i) bs.length=false:=hr'
     have Rh:=Lib.hid hr2
     have Ri:=Lib.hid e1
     clear hf e2 hnm e1 hr hr' hr2
     go_enter Tryz.func145,Tryz.ntmps145
     go_wp2_with fail
     refine HC.out.mono ?_
     rintro e w1 ⟨rfl,h1⟩
     rw [kz] at h1
     rw [HE.out]
     obtain⟨c1,l1⟩:=Py.out w1 h1
     rw [Ri.out] at l1
     have HR1:=Lib.hid (HR.out w1 h1)
     obtain⟨af,wW⟩:∃ af,bA.getD i 0=af:=⟨_,rfl⟩
     simp only [lookV,iL,wW] at l1 HR1
     clear h1 HC HE Py HR Ri wW
     go_wp2_with fail
     refine (HN.out w1).mono ?_
     rintro e w2 ⟨rfl,rfl⟩
     rw [HB.out]
     go_wp2_with fail
     refine HR1.out.mono ?_
     rintro e w3 ⟨rfl,h3⟩
     rw [Rh.out]
     have HF:=Lib.hid (HP.out w3 h3)
     clear h3 HR1 Rh HP
     go_wp2_with fail
     go_ret
     exact HF.out
   | none=>
    by_cases hr:jW d none bs.length=true
    ·have e2:aI d n bs=(jd (bu (dU (aD d)) (.made n d.files.length)) d.files.length bs,0):=by unfold aI;rw [if_neg hf,e1];simp [hnm,hr]
     have HP:Hid (∀ w' v' Iw,Iw.length=d.files.length+1→In F w w' (il bd bn xZ v' Iw (jd (bu (dU (aD d)) (.made n d.files.length)) d.files.length bs))→GV (.int .i64 (aI d n bs).2) (bJ bd (aI d n bs).1) w F (.returned (.int .i64 0)) w'):=
      Lib.hid fun w' v' Iw hl' h'=>by have:=hok'.out;rw [e2] at this ⊢;exact eQ h' this (by simpa [jd,iE,aD,bu,dU] using hl')
     have HR:=Lib.hid (fun w1 (h1:In F w w1 (il bd bn xZ dN bA (aD d)))=>wV h1 (bV oI.out) HL.out (k:=bs.length) (by omega))
     have hr':jW (aD d) none bs.length=true:=hr
     have Rh:=Lib.hid hr'
     have Ri:=Lib.hid e1
     have hgk:aO (dU (aD d)):=by
      have h:=bV oI.out
      refine⟨h.dZ,fun f hf=>?_,Db h.wD (by simp [dU]),h.uG,by have:=oI.out.Cm;simp [dU,aD];omega,h.fail,h.JQ⟩
      rcases List.mem_append.1 hf with hf | hf
      ·exact h.file f hf
      ·simp at hf;subst hf;simp
     have HGK:=Lib.hid hgk
     have HG:Hid (∀ w1,In F w w1 (il bd bn xZ dN bA (aD d))→In F w (w1.alloc (.cells #[.slice none 0 0,.int .i64 0] 155)) (il bd bn xZ dN (bA++[w1.heap.size]) (dU (aD d)))):=Lib.hid fun w1 h1=>by
      have h2:=(h1.cells #[.slice none 0 0,.int .i64 0] 155).dz 5 1
      have h3:=In.fold (C:=iZ w1.heap.size ⟨[],0⟩) h2 0 rfl (iZ.aB _ _) (fun F hF=>⟨_,hF⟩)
      exact UF h3 (bV oI.out) HL.out
     have HCH:Hid (∀ w1 Iw,In F w w1 (il bd bn xZ dN Iw (dU (aD d)))→Calls Tryz.prog 214 #[.pointer (some ⟨bd,0,none⟩),Ku Iw (.made n d.files.length)] w1 (oq (dU (aD d)) bd bn xZ Iw (.made n d.files.length) F w)):=
      Lib.hid fun w1 Iw h1=>xY h1 HGK.out (by show d.ops+1≤_;omega) (.made n d.files.length) hn (fun a b e=>by cases e)
     clear hf e2 hnm e1 hr hr' hgk
     go_enter Tryz.func145,Tryz.ntmps145
     go_wp2_with fail
     refine HC.out.mono ?_
     rintro e w1 ⟨rfl,h1⟩
     rw [kz] at h1
     rw [HE.out]
     obtain⟨c1,l1⟩:=Py.out w1 h1
     rw [Ri.out] at l1
     have HR1:=Lib.hid (HR.out w1 h1)
     simp only [lookV] at l1
     clear h1 HC HE Py HR Ri
     go_wp2_with fail
     refine (HN.out w1).mono ?_
     rintro e w2 ⟨rfl,rfl⟩
     rw [HB.out]
     go_wp2_with fail
     refine HR1.out.mono ?_
     rintro e w3 ⟨rfl,h3⟩
     rw [Rh.out]
     have h4:=HG.out w3 h3
     have hp:iL (bA++[w3.heap.size]) d.files.length=.pointer (some ⟨w3.heap.size,0,none⟩):=by
      unfold iL;rw [← HL.out];simp
     have hc:=HCH.out _ _ h4
     unfold Ku at hc
     simp only [encC,hp] at hc
     have HCC:=Lib.hid hc
     clear h3 h4 hc HR1 Rh HG HCH hp
     go_wp2_with fail
     refine HCC.out.mono ?_
     rintro e w4 ⟨rfl,v',h4⟩
     have hi:d.files.length < (bu (dU (aD d)) (.made n d.files.length)).files.length:=by simp [bu,dU,aD]
     have hl2:(bA++[w3.heap.size]).length=(bu (dU (aD d)) (.made n d.files.length)).files.length:=by simp [bu,dU,aD,HL.out]
     have hfd:(bu (dU (aD d)) (.made n d.files.length)).files.getD d.files.length default=⟨[],0⟩:=by simp [bu,dU,aD]
     have wW:(bA++[w3.heap.size]).getD d.files.length 0=w3.heap.size:=by rw [← HL.out];simp
     have hF:=lS (bd:=bd) (bn:=bn) (bs:=xZ) (dN:=v') hl2 hi
     rw [hfd,wW] at hF
     obtain⟨v,h5⟩:=h4.file (4+d.files.length) hF
     obtain⟨Fv,hv⟩:=h5.get 0 rfl
     obtain⟨av,cv,rfl,k1,k2,-⟩:=hv.shape
     have hlen:4+d.files.length < (il bd bn xZ v' (bA++[w3.heap.size]) (bu (dU (aD d)) (.made n d.files.length))).length:=(List.getElem?_eq_some_iff.1 hF).1
     have iT:=Lib.hid hlen
     have hbk:=h5.block (4+d.files.length+1) (b:=w3.heap.size) (C:=#[.slice av 0 cv,.int .i64 (0:Nat)]) (T:=155) (by rw [List.getElem?_cons_succ,List.getElem?_set_self hlen];rfl)
     have c0:w4.cell? ⟨w3.heap.size,0,none⟩=some (.slice av 0 cv):=cell_of hbk rfl
     have SS:=Lib.hid (HS.out w4 h4.mod)
     have ZR:Hid (∀ w' v'',In F w w' (ay 5 1 v'' ((0:Nat)+bs.length) (eB []++eB bs)::(il bd bn xZ v' (bA++[w3.heap.size]) (bu (dU (aD d)) (.made n d.files.length))).set (4+d.files.length) (Cells w3.heap.size #[.slice av 0 cv,.int .i64 (0:Nat)] 155)) →
       w'.cell? ⟨w3.heap.size,0,none⟩=some (.slice av 0 cv)∧w'.frozen? ⟨w3.heap.size,0,none⟩=false∧GV (.int .i64 (aI d n bs).2) (bJ bd (aI d n bs).1) w F (.returned (.int .i64 0)) (w'.setCell ⟨w3.heap.size,0,none⟩ v'')):=Lib.hid fun w' v'' h'=>by
      have hb:=h'.block (4+d.files.length+1) (b:=w3.heap.size) (C:=#[.slice av 0 cv,.int .i64 (0:Nat)]) (T:=155) (by rw [List.getElem?_cons_succ,List.getElem?_set_self iT.out])
      refine⟨cell_of hb rfl,aK hb,HP.out _ v' (bA++[w3.heap.size]) (by simp [HL.out]) ?_⟩
      have h2:=Br (f:=⟨[],0⟩) (bs:=bs) (4+d.files.length) iT.out h'
      have h5:=wS (bd:=bd) (bn:=bn) (bs:=xZ) (dN:=v') hl2 hi ⟨[]++bs,0⟩
      rw [wW] at h5
      unfold jd
      rw [hfd,← h5]
      exact h2
     have H5:Hid (In F w w4 (ay 5 1 (.slice av 0 cv) 0 (eB [])::(il bd bn xZ v' (bA++[w3.heap.size]) (bu (dU (aD d)) (.made n d.files.length))).set (4+d.files.length) (Cells w3.heap.size #[.slice av 0 cv,.int .i64 (0:Nat)] 155))):=Lib.hid h5
     clear h4 h5 hv hbk hF hlen hi hl2 hfd wW HCC HP
     go_wp2_with (at_builtin;refine iG rfl H5.out 0 rfl (.tmp 42) (.tmp 43) 65 (by rfl) Tryz.underlying65 infoByte (by decide) (by decide) (by rfl) (by rfl) SS.out (vW _) (by omega) ?_)
     intro v2 w5 h6 hg
     obtain⟨Fw,hw⟩:=h6.get 0 rfl
     obtain⟨aw,cw,rfl,-,-,-⟩:=hw.shape
     obtain⟨d0,d1,hfin⟩:=ZR.out w5 _ (by rw [Nat.zero_add];exact h6)
     have HF:=Lib.hid hfin
     clear h6 hw hfin hg H5 SS ZR
     go_wp2_with fail
     go_ret
     exact HF.out
    ·have hr':jW d none bs.length=false:=by simpa using hr
     have e2:aI d n bs=(aD d,7):=by unfold aI;rw [if_neg hf,e1];simp [hnm,hr']
     have HP:Hid (∀ w',In F w w' (il bd bn xZ dN bA (aD d))→GV (.int .i64 (aI d n bs).2) (bJ bd (aI d n bs).1) w F (.returned (.int .i64 7)) w'):=
      Lib.hid fun w' h'=>by have:=hok'.out;rw [e2] at this ⊢;exact eQ h' this HL.out
     have HR:=Lib.hid (fun w1 (h1:In F w w1 (il bd bn xZ dN bA (aD d)))=>wV h1 (bV oI.out) HL.out (k:=bs.length) (by omega))
     have hr2:jW (aD d) none bs.length=false:=hr'
     have Rh:=Lib.hid hr2
     have Ri:=Lib.hid e1
     clear hf e2 hnm e1 hr hr' hr2
     go_enter Tryz.func145,Tryz.ntmps145
     go_wp2_with fail
     refine HC.out.mono ?_
     rintro e w1 ⟨rfl,h1⟩
     rw [kz] at h1
     rw [HE.out]
     obtain⟨c1,l1⟩:=Py.out w1 h1
     rw [Ri.out] at l1
     have HR1:=Lib.hid (HR.out w1 h1)
     simp only [lookV] at l1
     clear h1 HC HE Py HR Ri
     go_wp2_with fail
     refine (HN.out w1).mono ?_
     rintro e w2 ⟨rfl,rfl⟩
     rw [HB.out]
     go_wp2_with fail
     refine HR1.out.mono ?_
     rintro e w3 ⟨rfl,h3⟩
     rw [Rh.out]
     have HF:=Lib.hid (HP.out w3 h3)
     clear h3 HR1 Rh HP
     go_wp2_with fail
     go_ret
     exact HF.out
  ·have hb':gU n=false:=by simpa using hnm
   have e2:aI d n bs=(aD d,1):=by unfold aI;rw [if_neg hf];simp [hb']
   have HP:Hid (∀ w',In F w w' (il bd bn xZ dN bA (aD d))→GV (.int .i64 (aI d n bs).2) (bJ bd (aI d n bs).1) w F (.returned (.int .i64 1)) w'):=
    Lib.hid fun w' h'=>by have:=hok'.out;rw [e2] at this ⊢;exact eQ h' this HL.out
   have HB:=Lib.hid hb'
   clear hf e2 hnm hb'
   go_enter Tryz.func145,Tryz.ntmps145
   go_wp2_with fail
   refine HC.out.mono ?_
   rintro e w1 ⟨rfl,h1⟩
   rw [kz] at h1
   rw [HE.out]
   have HF:=Lib.hid (HP.out w1 h1)
   clear h1 HC HE Py HP
   go_wp2_with fail
   refine (HN.out w1).mono ?_
   rintro e w2 ⟨rfl,rfl⟩
   rw [HB.out]
   go_wp2_with fail
   go_ret
   exact HF.out
end
section
variable {F0:List Nat} {w0 w:World} {R:List ax}
variable {bd:Nat} {d:ae}
abbrev aF (bd:Nat):Value:=.pointer (some ⟨bd,0,none⟩)
theorem oQ (h:In F0 w0 w R) (i:Nat) (hA:R[i]?=some (bJ bd d)) (ho:d.ops≤100000000) (n:ByteArray) (hn:n.size≤maxLen) :
  Calls Tryz.prog 122 #[aF bd,.string n] w fun e w'=>e=.returned (.int .i64 (aW d n).2)∧In F0 w0 w' (R.set i (bJ bd (aW d n).1)):=
 oK h i hA (bJ.aB _ _) fun F hF=>ZQ hF ho n hn
theorem yg (h:In F0 w0 w R) (i:Nat) (hA:R[i]?=some (bJ bd d)) (ho:d.ops≤100000000) (n:ByteArray) (hn:n.size≤maxLen) :
  Calls Tryz.prog 166 #[aF bd,.string n] w fun e w'=>e=.returned (.int .i64 (cO d n).2)∧In F0 w0 w' (R.set i (bJ bd (cO d n).1)):=
 oK h i hA (bJ.aB _ _) fun F hF=>UD hF ho n hn
theorem NW (h:In F0 w0 w R) (i:Nat) (hA:R[i]?=some (bJ bd d)) (ho:d.ops≤100000000) (n m:ByteArray) (hn:n.size≤maxLen) (hm:m.size≤maxLen) :
  Calls Tryz.prog 201 #[aF bd,.string n,.string m] w fun e w'=>e=.returned (.int .i64 (bZ d n m).2)∧In F0 w0 w' (R.set i (bJ bd (bZ d n m).1)):=
 oK h i hA (bJ.aB _ _) fun F hF=>UE hF ho n m hn hm
theorem vK (h:In F0 w0 w R) (i:Nat) (hA:R[i]?=some (bJ bd d)) (ho:d.ops≤100000000) :
  Calls Tryz.prog 162 #[aF bd] w fun e w'=>e=.returned (.int .i64 (bF d).2)∧In F0 w0 w' (R.set i (bJ bd (bF d).1)):=
 oK h i hA (bJ.aB _ _) fun F hF=>Rf hF ho
theorem uz (h:In F0 w0 w R) (i:Nat) (hA:R[i]?=some (bJ bd d)) (ho:d.ops≤100000000) (n:ByteArray) (hn:n.size≤maxLen) (j:Nat) (hij:j≠i) {a:Option Addr} {c:Nat} {bs:List UInt8} (hB:R[j]?=some (ay 5 1 (.slice a bs.length c) bs.length (eB bs))) (hm:bs.length≤10000000) :
  Calls Tryz.prog 145 #[aF bd,.string n,.slice a bs.length c] w fun e w'=>e=.returned (.int .i64 (aI d n bs).2)∧In F0 w0 w' (R.set i (bJ bd (aI d n bs).1)):=
 GI h i hA (bJ.aB _ _) fun F G hF hG hFG _=>by
  refine MH hF ho n hn hm fun w' hw'=>?_
  obtain⟨k,hk⟩:∃ k:Nat,(R.eraseIdx i)[k]?=some (ay 5 1 (.slice a bs.length c) bs.length (eB bs)):=by
   have:ay 5 1 (.slice a bs.length c) bs.length (eB bs)∈R.eraseIdx i:=List.mem_eraseIdx_iff_getElem?.2 ⟨j,hij,hB⟩
   exact List.mem_iff_getElem?.1 this
  obtain⟨G',⟨G1,G2,g1,g2,g3,rfl⟩,hp⟩:=Cz (front hk) hG
  have g4:ay 5 1 (.slice a bs.length c) bs.length (eB bs) w' G1:=(ay.aB _ _ _ _ _).keep g1 (fun b hb=>hw'.block b ((ay.aB _ _ _ _ _).lt g1 b hb) (fun Pq=>hFG b Pq (hp.mem_iff.2 (List.mem_append_left _ hb))))
  exact g4.all
theorem Cn (h:In F0 w0 w R) (i:Nat) (hA:R[i]?=some (bJ bd d)) (ho:d.ops≤100000000) (n:ByteArray) (hn:n.size≤maxLen) :
  Calls Tryz.prog 145 #[aF bd,.string n,.slice none 0 0] w fun e w'=>e=.returned (.int .i64 (aI d n []).2)∧In F0 w0 w' (R.set i (bJ bd (aI d n []).1)):=
 oK h i hA (bJ.aB _ _) fun F hF=>MH hF ho n hn (by simp) fun w' _=>Src.nil w' none 1
theorem Rj {a:Nat} {f:FileD} (h:In F0 w0 w R) (i:Nat) (hA:R[i]?=some (iZ a f)):(w.heap[a]?=some (.cells #[.slice none 0 0,.int .i64 f.sure] 155 (0,0))∧f.b=[])∨∃ ad cap,w.heap[a]?=some (.cells #[.slice (some ad) f.b.length cap,.int .i64 f.sure] 155 (0,0))∧cap≤maxLen∧f.b.length≤cap∧Src w (some ad) f.b.length 1 (eB f.b):=by
 obtain⟨v,h1⟩:=h.file i hA
 have hi:=(List.getElem?_eq_some_iff.1 hA).1
 obtain⟨F,hr⟩:=h1.get 0 rfl
 have hb:=h1.block (i+1) (b:=a) (C:=#[v,.int .i64 f.sure]) (T:=155) (by simp [hi])
 obtain⟨h0,h2 | ⟨g,cap,cur,rfl,_⟩⟩:=hr.2
 ·obtain⟨rfl,h3⟩:=h2
  exact Or.inl ⟨hb,List.length_eq_zero_iff.1 h3⟩
 ·obtain⟨a',c',e,k1,k2,_⟩:=hr.shape
  cases e
  exact Or.inr ⟨_,_,hb,k2,k1,hr.all⟩
def wX (d:ae) (n:ByteArray) (F0:List Nat) (w0:World) (R:List ax) (e:Ending) (w':World):Prop:=
 ∃ v,e=.returned (.tuple #[v,.bool (iy d n).isSome])∧In F0 w0 w' (ay 5 1 v ((iy d n).getD []).length (eB ((iy d n).getD []))::R)
theorem wY (h:In F0 w0 w R) (i:Nat) (hA:R[i]?=some (bJ bd d)) (n:ByteArray) (hn:n.size≤maxLen) :
  Calls Tryz.prog 34 #[aF bd,.string n] w (wX d n F0 w0 R):=by
 obtain⟨F,hok,bn,xZ,dN,bA,hl,hF⟩:=h.get i hA
 have h1:=In.start il.aB hF
 have c1:w.cell? ⟨bd,1,none⟩=some (.map (some bn)):=cell_of (h1.block 0 gQ) rfl
 have l1:=wT h1 1 uw hok.now.row hn
 have H:=Lib.hid h
 cases e:bP d.now n with
 | none=>
  have e2:iy d n=none:=by unfold iy;rw [e];rfl
  have HP:Hid (wX d n F0 w0 R (.returned (.tuple #[.slice none 0 0,.bool false])) w):=Lib.hid ⟨_,by rw [e2];rfl,by rw [e2];exact H.out.dz _ _⟩
  rw [e] at l1
  simp only [lookV] at l1
  clear h h1 hF hA hok hl e e2
  go_enter Tryz.func34,Tryz.ntmps34
  go_wp2_with fail
  go_ret2
  exact HP.out
 | some k=>
  have hk:=hok.at e
  have e2:iy d n=some (d.files.getD k default).b:=by unfold iy;rw [e];rfl
  have hfl:=(hok.file _ (jI hk)).1
  have hfa:=Rj h1 (4+k) (lS hl hk)
  rw [e] at l1
  obtain⟨af,wW⟩:∃ af,bA.getD k 0=af:=⟨_,rfl⟩
  simp only [lookV,iL,wW] at l1 hfa
  rcases hfa with ⟨hb,hnil⟩|⟨ad,cap,hb,k2,k1,hs⟩
  ·have HP:Hid (∀ v w',In F0 w0 w' (ay 5 1 v 0 (eB [])::R)→wX d n F0 w0 R (.returned (.tuple #[v,.bool true])) w'):=Lib.hid fun v w' h'=>⟨v,by rw [e2];rfl,by rw [e2];simp only [Option.getD_some];rw [hnil];exact h'⟩
   have HC:=Lib.hid (uQ H.out)
   have c0:w.cell? ⟨af,0,none⟩=some (.slice none 0 0):=cell_of hb rfl
   clear h h1 hF hA hok hl e e2 wW hb hnil hk
   go_enter Tryz.func34,Tryz.ntmps34
   go_wp2_with fail
   refine HC.out.mono ?_
   rintro e w1 ⟨v,rfl,h1⟩
   have HF:=Lib.hid (HP.out v w1 h1)
   clear h1 HP HC
   go_wp2_with fail
   go_ret2
   exact HF.out
  ·have HP:Hid (∀ v w',In F0 w0 w' (ay 5 1 v (d.files.getD k default).b.length (eB (d.files.getD k default).b)::R)→wX d n F0 w0 R (.returned (.tuple #[v,.bool true])) w'):=Lib.hid fun v w' h'=>⟨v,by rw [e2];rfl,by rw [e2];exact h'⟩
   have HC:=Lib.hid (uP (c:=cap) H.out hs (by omega))
   have c0:w.cell? ⟨af,0,none⟩=some (.slice (some ad) (d.files.getD k default).b.length cap):=cell_of hb rfl
   clear h h1 hF hA hok hl e e2 wW hb hs hk
   generalize (d.files.getD k default)=f at *
   go_enter Tryz.func34,Tryz.ntmps34
   go_wp2_with fail
   refine HC.out.mono ?_
   rintro e w1 ⟨v,rfl,h1⟩
   have HF:=Lib.hid (HP.out v w1 h1)
   clear h1 HP HC
   go_wp2_with fail
   go_ret2
   exact HF.out
theorem ZT {F:List Nat} (h:bJ bd d w F) (ho:d.ops≤100000000) (n:Int) :
  Calls Tryz.prog 39 #[aF bd,.int .i64 n] w (GV (.tuple #[]) (bJ bd (nA d n)) w F):=by
 obtain⟨hok,bn,bs,dN,bA,hl,h⟩:=h
 have hok':=Hq hok n
 have h0:=In.start il.aB h
 have c5:w.cell? ⟨bd,5,none⟩=some (.int .i64 (jN d)):=cell_of (h0.block 0 gQ) rfl
 have f5:w.frozen? ⟨bd,5,none⟩=false:=aK (h0.block 0 gQ)
 have h1:=h0.put 0 gQ 5 (.int .i64 0)
 have d4:(w.setCell ⟨bd,5,none⟩ (.int .i64 0)).cell? ⟨bd,4,none⟩=some (.int .i64 d.ops):=cell_of (h1.block 0 rfl) rfl
 have d5:(w.setCell ⟨bd,5,none⟩ (.int .i64 0)).cell? ⟨bd,5,none⟩=some (.int .i64 0):=cell_of (h1.block 0 rfl) rfl
 have g5:(w.setCell ⟨bd,5,none⟩ (.int .i64 0)).frozen? ⟨bd,5,none⟩=false:=aK (h1.block 0 rfl)
 by_cases hn:1≤n∧n≤4611686018427387904
 ·have hn1:1≤n:=hn.1
  have hn2:n≤4611686018427387904:=hn.2
  have h2:=h1.put 0 rfl 5 (.int .i64 (d.ops+n))
  have HF:Hid (GV (.tuple #[]) (bJ bd (nA d n)) w F (.returned (.tuple #[])) ((w.setCell ⟨bd,5,none⟩ (.int .i64 0)).setCell ⟨bd,5,none⟩ (.int .i64 (d.ops+n)))):=Lib.hid (by
   refine eQ (dN:=dN) (bn:=bn) (bs:=bs) (bA:=bA) ?_ hok' hl
   have e:((d.ops:Int)+n)=((jN (nA d n):Nat):Int):=by
    unfold jN nA;simp only [if_pos hn];rw [if_neg (by omega)];omega
   rw [e] at h2
   rw [e]
   exact h2)
  clear h h0 h1 h2 hok hok' hl hn
  go_enter Tryz.func39,Tryz.ntmps39
  go_wp2_with fail
  go_end0
  exact HF.out
 ·have HF:Hid (GV (.tuple #[]) (bJ bd (nA d n)) w F (.returned (.tuple #[])) (w.setCell ⟨bd,5,none⟩ (.int .i64 0))):=Lib.hid (by
   refine eQ (dN:=dN) (bn:=bn) (bs:=bs) (bA:=bA) ?_ hok' hl
   have e:((jN (nA d n):Nat):Int)=0:=by
    unfold jN nA;simp only [if_neg hn];rfl
   unfold il gP
   rw [e]
   exact h1)
  clear h h0 h1 hok hok' hl
  by_cases hn1:1≤n
  ·have hn2:¬ n≤4611686018427387904:=fun h=>hn ⟨hn1,h⟩
   clear hn
   go_enter Tryz.func39,Tryz.ntmps39
   go_wp2_with fail
   go_end0
   exact HF.out
  ·clear hn
   go_enter Tryz.func39,Tryz.ntmps39
   go_wp2_with fail
   go_end0
   exact HF.out
theorem aaC (h:In F0 w0 w R) (i:Nat) (hA:R[i]?=some (bJ bd d)) (ho:d.ops≤100000000) (n:Int) :
  Calls Tryz.prog 39 #[aF bd,.int .i64 n] w fun e w'=>e=.returned (.tuple #[])∧In F0 w0 w' (R.set i (bJ bd (nA d n))):=
 oK h i hA (bJ.aB _ _) fun F hF=>ZT hF ho n
theorem Kv (h:In F0 w0 w R) (q:Int) (hq1:-9223372036854775808≤q) (hq2:q≤9223372036854775807) :
  Calls Tryz.prog 21 #[.int .i64 q] w fun e w'=>∃ bd,e=.returned (aF bd)∧In F0 w0 w' (bJ bd (iU q)::R):=by
 have h1:=wP h Tryz.prog 9 UC (Wy [])
 have h2:=wP h1 Tryz.prog 9 UC (Wy [])
 have e1:(w.alloc (Obj.map #[] 0)).heap.size=w.heap.size+1:=Array.size_push _
 have e2:((w.alloc (Obj.map #[] 0)).alloc (Obj.map #[] 0)).heap.size=w.heap.size+1+1:=by rw [show ((w.alloc (Obj.map #[] 0)).alloc (Obj.map #[] 0)).heap.size=(w.alloc (Obj.map #[] 0)).heap.size+1 from Array.size_push _,e1]
 have h3:=(h2.cells #[.int .i64 (max 0 (min q 67108864)),.map (some w.heap.size),.map (some (w.heap.size+1)),.slice none 0 0,.int .i64 0,.int .i64 0] 124).dz 158 4
 rw [e1,e2] at h3
 have HF:Hid (∃ bd,Ending.returned (.pointer (some ⟨w.heap.size+1+1,0,none⟩))=Ending.returned (aF bd)∧In F0 w0 (((w.alloc (Obj.map #[] 0)).alloc (Obj.map #[] 0)).alloc (.cells #[.int .i64 (max 0 (min q 67108864)),.map (some w.heap.size),.map (some (w.heap.size+1)),.slice none 0 0,.int .i64 0,.int .i64 0] 124)) (bJ bd (iU q)::R)):=Lib.hid ⟨_,rfl,by
  have h4:=In.aL (R1:=[_,_,_,_]) (R2:=R) h3 [1,3,2,0] (by decide) rfl
  have h5:=In.join (A1:=[_,_,_,_]) (R:=R) h4
  refine h5.imp (A':=bJ (w.heap.size+1+1) (iU q)) 0 rfl (bJ.aB _ _) (fun F hF=>⟨wE q,w.heap.size,w.heap.size+1,.slice none 0 0,[],rfl,?_⟩)
  have e3:((max 0 (min q 67108864):Int))=((iU q).dZ:Int):=by simp [iU]
  have e4:gP (iU q) w.heap.size (w.heap.size+1) (.slice none 0 0)=#[.int .i64 (max 0 (min q 67108864)),.map (some w.heap.size),.map (some (w.heap.size+1)),.slice none 0 0,.int .i64 0,.int .i64 0]:=by
   unfold gP;rw [e3];rfl
  unfold il
  rw [e4]
  exact hF⟩
 clear h h1 h2 h3 e1 e2
 have hmm:=@run_makeMap Tryz.prog
 go_enter Tryz.func21,Tryz.ntmps21
 go_wp2_with fail
 all_goals
  go_ret
  have hh:=HF.out
  first
   | (rw [show (max 0 (min q 67108864):Int)=67108864 by omega] at hh;exact hh)
   | (rw [show (max 0 (min q 67108864):Int)=q by omega] at hh;exact hh)
   | (rw [show (max 0 (min q 67108864):Int)=0 by omega] at hh;exact hh)
end
section
variable {F0:List Nat} {w0 w:World} {R:List ax}
theorem UG {T:TypeId} {a:Option Addr} {n' n cap m:Nat} {xs:List Value} {F:List Nat} (h:ay T 1 (.slice a n' cap) n xs w F) (hm:m≤n):ay T 1 (.slice a m cap) m (xs.take m) w F:=by
 obtain⟨h0,h1,h2⟩:=h
 have hl:(xs.take m).length=m * 1:=by rw [List.length_take,h1];omega
 rcases h2 with ⟨e,e2⟩|⟨g,c,cur,e,h3,h4,h5,h6,h7,h8⟩
 ·cases e;subst e2
  obtain rfl:m=0:=by omega
  exact⟨h0,hl,Or.inl ⟨rfl,rfl⟩⟩
 ·cases e
  refine⟨h0,hl,Or.inr ⟨g,cap,cur,rfl,h3,h4,by omega,h6,h7,?_⟩⟩
  rw [← h8,List.take_take]
  congr 1;omega
theorem Iy {a:Nat} {f:FileD} {ad:Option Addr} {cap:Nat} {m:Nat} (hm:m≤f.b.length) (i:Nat) (hi:i < R.length) (h:In F0 w0 w (ay 5 1 (.slice ad f.b.length cap) f.b.length (eB f.b)::R.set i (Cells a #[.slice ad f.b.length cap,.int .i64 f.sure] 155))) :
  In F0 w0 ((w.setCell ⟨a,0,none⟩ (.slice ad m cap)).setCell ⟨a,1,none⟩ (.int .i64 m)) (R.set i (iZ a ⟨f.b.take m,m⟩)):=by
 have h1:=h.put (b:=a) (C:=#[.slice ad f.b.length cap,.int .i64 f.sure]) (T:=155) (i+1) (by simp [hi]) 0 (.slice ad m cap)
 have h2:In F0 w0 (w.setCell ⟨a,0,none⟩ (.slice ad m cap)) (ay 5 1 (.slice ad f.b.length cap) f.b.length (eB f.b)::R.set i (Cells a #[.slice ad m cap,.int .i64 f.sure] 155)):=by
  simpa [List.set_set] using h1
 have h3:=h2.put (b:=a) (C:=#[.slice ad m cap,.int .i64 f.sure]) (T:=155) (i+1) (by simp [hi]) 1 (.int .i64 m)
 have h4:In F0 w0 ((w.setCell ⟨a,0,none⟩ (.slice ad m cap)).setCell ⟨a,1,none⟩ (.int .i64 m)) (ay 5 1 (.slice ad f.b.length cap) f.b.length (eB f.b)::R.set i (Cells a #[.slice ad m cap,.int .i64 m] 155)):=by
  simpa [List.set_set] using h3
 have h5:=h4.imp (A':=ay 5 1 (.slice ad m cap) (f.b.take m).length (eB (f.b.take m))) 0 rfl (ay.aB _ _ _ _ _) (fun F hF=>by
  have:=UG hF hm
  rw [Ac] at this
  rwa [List.length_take,Nat.min_eq_left hm])
 have:=In.Kn (a:=a) (v:=.slice ad m cap) (f:=⟨f.b.take m,m⟩) h5 i (by simp [hi])
 rwa [List.set_set] at this
theorem aaU {d:ae} {bd:Nat} {F:List Nat} (h:bJ bd d w F) (ho:d.ops≤100000000) (n:ByteArray) (hn:n.size≤maxLen) (k:Int) :
  Calls Tryz.prog 160 #[aF bd,.string n,.int .i64 k] w (GV (.int .i64 (kJ d n k).2) (bJ bd (kJ d n k).1) w F):=by
 obtain⟨hok,bn,bs,dN,bA,hl,h⟩:=h
 have HC:=Lib.hid (zM (In.start il.aB h) hok ho n hn)
 have hok':=Mq hok n k
 rcases vI d n with ⟨hne,_⟩|⟨he,hf,i,h1,hv⟩
 ·have HP:Hid (∀ w',In F w w' (il bd bn bs dN bA (aD d))→GV (.int .i64 (kJ d n k).2) (bJ bd (kJ d n k).1) w F (.returned (.int .i64 (ic d n))) w'):=
   Lib.hid fun w' h'=>by rw [Rc hne];exact eQ h' (bV hok) hl
  have q:(ic d n != 0)=true:=by rw [bne_iff_ne];exact hne
  clear h hok hok' hl hne
  go_enter Tryz.func160,Tryz.ntmps160
  go_wp2_with fail
  refine HC.out.mono ?_
  rintro e w1 ⟨rfl,h1⟩
  have HF:=Lib.hid (HP.out w1 h1)
  clear h1 HC HP
  generalize ic d n=fe at *
  go_wp2_with fail
  go_ret
  exact HF.out
 ·have hi:=hok.at h1
  have hfl:=(hok.file _ (jI hi)).1
  have HE:=Lib.hid (And.intro he (hv bA))
  obtain⟨af,wW⟩:∃ af,bA.getD i 0=af:=⟨_,rfl⟩
  have CF:Hid (∀ w',In F w w' (il bd bn bs dN bA (aD d))→∃ ad cap,w'.cell? ⟨af,0,none⟩=some (.slice ad (d.files.getD i default).b.length cap)∧w'.cell? ⟨af,1,none⟩=some (.int .i64 (d.files.getD i default).sure)∧w'.frozen? ⟨af,0,none⟩=false∧w'.frozen? ⟨af,1,none⟩=false∧(d.files.getD i default).b.length≤cap∧cap≤maxLen∧(ad=none∨∃ g,ad=some ⟨g,0,none⟩) ∧
    (∀ m:Nat,m≤(d.files.getD i default).b.length→In F w ((w'.setCell ⟨af,0,none⟩ (.slice ad m cap)).setCell ⟨af,1,none⟩ (.int .i64 m)) (il bd bn bs dN bA (iE (aD d) i ⟨(d.files.getD i default).b.take m,m⟩)))):=
   Lib.hid fun w' h'=>by
    have hF:=lS (bd:=bd) (bn:=bn) (bs:=bs) (dN:=dN) (d:=aD d) hl hi
    rw [wW] at hF
    obtain⟨v,h4⟩:=h'.file (4+i) hF
    obtain⟨Fv,hv⟩:=h4.get 0 rfl
    have hlen:4+i < (il bd bn bs dN bA (aD d)).length:=(List.getElem?_eq_some_iff.1 hF).1
    obtain⟨av,cv,rfl,k1,k2,-⟩:=hv.shape
    have hbk:=h4.block (4+i+1) (b:=af) (C:=#[.slice av (d.files.getD i default).b.length cv,.int .i64 (d.files.getD i default).sure]) (T:=155) (by rw [List.getElem?_cons_succ,List.getElem?_set_self hlen];rfl)
    refine⟨av,cv,cell_of hbk rfl,cell_of hbk rfl,aK hbk,aK hbk,k1,k2,?_,fun m hm=>?_⟩
    ·obtain⟨_,h6 | ⟨g,c,cur,e,_⟩⟩:=hv.2
     ·have:=h6.1;simp only [Value.slice.injEq] at this;left;exact this.1
     ·simp only [Value.slice.injEq] at e;right;exact⟨g,e.1⟩
    ·have h5:=Iy (f:=d.files.getD i default) hm (4+i) hlen h4
     have h6:=wS (bd:=bd) (bn:=bn) (bs:=bs) (dN:=dN) (d:=aD d) hl hi ⟨(d.files.getD i default).b.take m,m⟩
     rw [wW] at h6
     rw [← h6];exact h5
  by_cases hk:k < 0∨(fw d i:Int) < k
  ·have e2:kJ d n k=(aD d,1):=by unfold kJ;rw [if_neg hf,h1];simp only;rw [if_pos hk]
   have HP:Hid (∀ w',In F w w' (il bd bn bs dN bA (aD d))→GV (.int .i64 (kJ d n k).2) (bJ bd (kJ d n k).1) w F (.returned (.int .i64 1)) w'):=
    Lib.hid fun w' h'=>by rw [e2] at hok' ⊢;exact eQ h' hok' hl
   unfold fw at hk
   clear h hok hok' hl e2 hf he hv h1
   have XJ:=Lib.hid wW
   clear wW
   generalize (d.files.getD i default)=f at *
   by_cases hk0:k < 0
   ·have q1:decide (k < 0)=true:=by simpa using hk0
    clear hk hk0
    go_enter Tryz.func160,Tryz.ntmps160
    go_wp2_with fail
    refine HC.out.mono ?_
    rintro e w1 ⟨rfl,h1⟩
    rw [HE.out.1,HE.out.2]
    have HF:=Lib.hid (HP.out w1 h1)
    clear h1 HC HP HE CF
    unfold iL
    rw [XJ.out]
    go_wp2_with fail
    go_ret
    exact HF.out
   ·have hk2:(f.b.length:Int) < k:=by omega
    clear hk
    go_enter Tryz.func160,Tryz.ntmps160
    go_wp2_with fail
    refine HC.out.mono ?_
    rintro e w1 ⟨rfl,h1⟩
    rw [HE.out.1,HE.out.2]
    have HF:=Lib.hid (HP.out w1 h1)
    obtain⟨ad,cap,c0,-⟩:=CF.out w1 h1
    clear h1 HC HP HE CF
    unfold iL
    rw [XJ.out]
    go_wp2_with fail
    go_ret
    exact HF.out
  ·have hk0:0≤k:=by omega
   obtain⟨m,rfl⟩:=Int.eq_ofNat_of_zero_le hk0
   have Wt:m≤(d.files.getD i default).b.length:=by unfold fw at hk;omega
   have e2:kJ d n m=(iE (aD d) i ⟨(d.files.getD i default).b.take m,m⟩,0):=by unfold kJ;rw [if_neg hf,h1];simp only;rw [if_neg hk];simp
   have HP:Hid (∀ w',In F w w' (il bd bn bs dN bA (iE (aD d) i ⟨(d.files.getD i default).b.take m,m⟩))→GV (.int .i64 (kJ d n m).2) (bJ bd (kJ d n m).1) w F (.returned (.int .i64 0)) w'):=
    Lib.hid fun w' h'=>by rw [e2] at hok' ⊢;exact eQ h' hok' (by simpa [iE,aD] using hl)
   have XJ:=Lib.hid wW
   have hs:∀ (ad:Option Addr) (l cap:Nat) (w':World),(ad=none∨∃ g,ad=some ⟨g,0,none⟩)→m≤cap→(Instr.slice 65 (.slice ad l cap) none (some (.int .i64 m)) none).run Tryz.prog w'=.ok (.slice ad m cap) w':=by
    intro ad l cap w' h1 h2
    rcases h1 with rfl | ⟨g,rfl⟩
    ·exact mZ Tryz.underlying65 infoByte _ _ _ h2 w'
    ·exact zY Tryz.underlying65 infoByte _ _ _ _ h2 w'
   have HSL:=Lib.hid hs
   unfold fw at hk
   clear h hok hok' hl e2 hf he hv h1 wW hs hk0
   generalize (d.files.getD i default)=f at *
   have hk1:(m:Int)≤f.b.length:=by omega
   clear hk
   go_enter Tryz.func160,Tryz.ntmps160
   go_wp2_with fail
   refine HC.out.mono ?_
   rintro e w1 ⟨rfl,h1⟩
   rw [HE.out.1,HE.out.2]
   obtain⟨ad,cap,c0,c1,f0,f1,k1,k2,k3,hfin⟩:=CF.out w1 h1
   have HF:=Lib.hid (HP.out _ (hfin m Wt))
   have hsl:=HSL.out ad f.b.length cap w1 k3 (by omega)
   clear h1 HC HP HE CF hfin k3
   unfold iL
   rw [XJ.out]
   go_wp2_with fail
   go_ret
   exact HF.out
theorem XK {d:ae} {bd:Nat} (h:In F0 w0 w R) (i:Nat) (hA:R[i]?=some (bJ bd d)) (ho:d.ops≤100000000) (n:ByteArray) (hn:n.size≤maxLen) (k:Int) :
  Calls Tryz.prog 160 #[aF bd,.string n,.int .i64 k] w fun e w'=>e=.returned (.int .i64 (kJ d n k).2)∧In F0 w0 w' (R.set i (bJ bd (kJ d n k).1)):=
 oK h i hA (bJ.aB _ _) fun F hF=>aaU hF ho n hn k
end
end Go.Proofs.YtanhdliaaccacaaGreat
