/- Parts of the proofs that a compaction keeps what lives, and done again is as once. -/
import Derived.Test.YtogclkhpbjfadaaGreatCK8
import Derived.Test.YtogclkhpbjfadaaGreatCK3
import Derived.Test.YtogclkhpbjfadaaGreatCK15
import Derived.Deep.QuietTactic
import Derived.BigQuiet
import Derived.WalkSpells
import Derived.Deep.RegionLaw
import Derived.Maps.AppendAt
import Derived.StillTailTactics
import Derived.Deep.RegionHeld3
import Derived.Laws.Externs
import Derived.Shelf.SlMaps.Clone
namespace Go.Proofs.YtogclkhpbjfadaaGreat
open Go.RowKit
open Go.Maps (Keyed)
set_option linter.unusedVariables false
set_option maxHeartbeats 64000000
set_option maxRecDepth 100000
def Uz (x:ByteArray×Nat):Value:=.string x.1
def iK (bu:List Nat) (i:Nat):Value:=.pointer (some ⟨bu.getD i 0,0,none⟩)
def Wt (bu:List Nat) (x:ByteArray×Nat):Value:=iK bu x.2
def mg (d:ae):Nat:=if d.fail=0 then 0 else d.ops+d.fail
def gX (d:ae) (bn bs:Nat) (dP:Value):Array Value:=#[.int .i64 d.dY,.map (some bn),.map (some bs),dP,.int .i64 d.ops,.int .i64 (mg d)]
def encC (bu:List Nat):ky→List Value
 | .made n f=>[.int .i64 1,.string n,.string ByteArray.empty,iK bu f]
 | .ren a b=>[.int .i64 2,.string a,.string b,.pointer none]
 | .rem n=>[.int .i64 3,.string n,.string ByteArray.empty,.pointer none]
def jO (bu:List Nat) (l:List ky):List Value:=(l.map (encC bu)).flatten
def wK (a:Nat) (v:Value) (f:FileD):List az:=[Cells a #[v,.int .i64 f.sure] 143,ay 5 1 v f.b.length (eD f.b)]
def ja (a:Nat) (f:FileD):az:=fun w F=>∃ v,Star (wK a v f) w F
abbrev ll (b:Nat) (bu:List Nat) (N:gF):az:=ji Tryz.prog 9 Uz (Wt bu) b N
def iU (bu:List Nat) (fs:List FileD):List az:=List.zipWith ja bu fs
def iC (bd bn bs:Nat) (dP:Value) (bu:List Nat) (d:ae):List az:=
 [Cells bd (gX d bn bs dP) 108,ll bn bu d.now,ll bs bu d.sure,ay 136 4 dP d.ch.length (jO bu d.ch)]++iU bu d.files
def bJ (bd:Nat) (d:ae):az:=fun w F=>aP d∧∃ (bn bs:Nat) (dP:Value) (bu:List Nat),bu.length=d.files.length∧Star (iC bd bn bs dP bu d) w F
theorem wK.aA {a:Nat} {v:Value} {f:FileD}:∀ A∈wK a v f,bC A:=by
 intro A hA
 simp only [wK,List.mem_cons,List.not_mem_nil,or_false] at hA
 rcases hA with rfl | rfl
 ·exact Cells.aA _ _ _
 ·exact ay.aA _ _ _ _ _
theorem ja.aA (a:Nat) (f:FileD):bC (ja a f):=by
 refine⟨?_,?_⟩
 ·rintro w w' F ⟨v,h⟩ hk;exact⟨v,(bC.star wK.aA).keep h hk⟩
 ·rintro w F ⟨v,h⟩;exact (bC.star wK.aA).lt h
theorem iU.aA {bu:List Nat} {fs:List FileD}:∀ A∈iU bu fs,bC A:=by
 induction bu generalizing fs with
 | nil=>intro A hA;simp [iU] at hA
 | cons a r ih=>
  cases fs with
  | nil=>intro A hA;simp [iU] at hA
  | cons f fs=>
   intro A hA
   rcases List.mem_cons.1 (show A∈ja a f::iU r fs from hA) with rfl | hA
   ·exact ja.aA _ _
   ·exact ih A hA
theorem iC.aA {bd bn bs:Nat} {dP:Value} {bu:List Nat} {d:ae}:∀ A∈iC bd bn bs dP bu d,bC A:=by
 intro A hA
 unfold iC at hA
 rcases List.mem_append.1 hA with hA | hA
 ·simp only [List.mem_cons,List.not_mem_nil,or_false] at hA
  rcases hA with rfl | rfl | rfl | rfl
  ·exact Cells.aA _ _ _
  ·exact ji.aA _ _
  ·exact ji.aA _ _
  ·exact ay.aA _ _ _ _ _
 ·exact iU.aA _ hA
theorem bJ.aA (bd:Nat) (d:ae):bC (bJ bd d):=by
 refine⟨?_,?_⟩
 ·rintro w w' F ⟨h0,bn,bs,dP,bu,ha,h⟩ hk;exact⟨h0,bn,bs,dP,bu,ha,(bC.star iC.aA).keep h hk⟩
 ·rintro w F ⟨h0,bn,bs,dP,bu,ha,h⟩;exact (bC.star iC.aA).lt h
theorem fq {F:List Nat} {w w':World} {bd bn bs:Nat} {dP:Value} {bu:List Nat} {d':ae} {r:Value} (h:In F w w' (iC bd bn bs dP bu d')) (hok:aP d') (hl:bu.length=d'.files.length):GV r (bJ bd d') w F (.returned r) w':=
 GV.mk h fun F' hs=>⟨hok,bn,bs,dP,bu,hl,hs⟩
theorem iV {bd bn bs:Nat} {dP:Value} {bu:List Nat} {d:ae}:(iC bd bn bs dP bu d)[0]?=some (Cells bd (gX d bn bs dP) 108):=rfl
theorem uh {bd bn bs:Nat} {dP:Value} {bu:List Nat} {d:ae}:(iC bd bn bs dP bu d)[1]?=some (ll bn bu d.now):=rfl
theorem xX {bu:List Nat} {fs:List FileD} (hl:bu.length=fs.length) {i:Nat} (hi:i < fs.length):(iU bu fs)[i]?=some (ja (bu.getD i 0) (fs.getD i default)):=by
 unfold iU
 have h1:bu[i]?=some (bu.getD i 0):=by rw [List.getD_eq_getElem?_getD,List.getElem?_eq_getElem (by omega)];rfl
 have h2:fs[i]?=some (fs.getD i default):=by rw [List.getD_eq_getElem?_getD,List.getElem?_eq_getElem hi];rfl
 rw [List.getElem?_zipWith,h1,h2]
theorem lS {bd bn bs:Nat} {dP:Value} {bu:List Nat} {d:ae} (hl:bu.length=d.files.length) {i:Nat} (hi:i < d.files.length):(iC bd bn bs dP bu d)[4+i]?=some (ja (bu.getD i 0) (d.files.getD i default)):=by
 unfold iC
 rw [List.getElem?_append_right (by simp)]
 simpa using xX hl hi
theorem JZ {bu:List Nat} {fs:List FileD} (hl:bu.length=fs.length) {i:Nat} (hi:i < fs.length) (f:FileD):(iU bu fs).set i (ja (bu.getD i 0) f)=iU bu (fs.set i f):=by
 apply List.ext_getElem?
 intro j
 have hlen:(iU bu fs).length=fs.length:=by unfold iU;rw [List.length_zipWith];omega
 by_cases hj:j < fs.length
 ·rw [xX (by simp;omega) (by simpa using hj),List.getElem?_set,xX hl hj,ed hi]
  by_cases e:i=j
  ·subst e;simp [hlen,hi]
  ·rw [if_neg e,if_neg (fun e2=>e e2.symm)]
 ·rw [List.getElem?_eq_none (by simp [hlen];omega),List.getElem?_eq_none (by unfold iU;rw [List.length_zipWith];simp;omega)]
theorem wL {bd bn bs:Nat} {dP:Value} {bu:List Nat} {d:ae} (hl:bu.length=d.files.length) {i:Nat} (hi:i < d.files.length) (f:FileD):(iC bd bn bs dP bu d).set (4+i) (ja (bu.getD i 0) f)=iC bd bn bs dP bu (iE d i f):=by
 unfold iC
 rw [List.set_append_right (4+i) _ (by simp)]
 simp only [List.length_cons,List.length_nil,Nat.zero_add,Nat.reduceAdd,Nat.add_sub_cancel_left]
 rw [JZ hl hi]
 rfl
theorem In.file {F0:List Nat} {w0 w:World} {R:List az} {a:Nat} {f:FileD} (h:In F0 w0 w R) (i:Nat) (hA:R[i]?=some (ja a f)):∃ v,In F0 w0 w (ay 5 1 v f.b.length (eD f.b)::R.set i (Cells a #[v,.int .i64 f.sure] 143)):=by
 obtain⟨v,h1⟩:=h.ex (G:=fun v=>Star (wK a v f)) i hA (fun v=>bC.star wK.aA)
 refine⟨v,?_⟩
 have hi:=(List.getElem?_eq_some_iff.1 hA).1
 have:=h1.split (A:=Cells a #[v,.int .i64 f.sure] 143) (B:=ay 5 1 v f.b.length (eD f.b)) i (by simp [hi,wK]) (Cells.aA _ _ _) (ay.aA _ _ _ _ _)
 rwa [List.set_set] at this
theorem In.Ka {F0:List Nat} {w0 w:World} {R:List az} {a:Nat} {v:Value} {f:FileD} (h:In F0 w0 w (ay 5 1 v f.b.length (eD f.b)::R)) (i:Nat) (hA:R[i]?=some (Cells a #[v,.int .i64 f.sure] 143)):In F0 w0 w (R.set i (ja a f)):=
 h.fold i hA (ja.aA _ _) fun F hF=>⟨v,hF⟩
theorem EZ {F0:List Nat} {w0 w:World} {R:List az} {a:Nat} {f:FileD} (h:In F0 w0 w R) (i:Nat) (hA:R[i]?=some (ja a f)):∃ ad cap,w.heap[a]?=some (.cells #[.slice ad f.b.length cap,.int .i64 f.sure] 143 (0,0))∧f.b.length≤cap∧cap≤maxLen∧Src w ad f.b.length 1 (eD f.b):=by
 obtain⟨v,h1⟩:=h.file i hA
 have hi:=(List.getElem?_eq_some_iff.1 hA).1
 obtain⟨F,hr⟩:=h1.get 0 rfl
 obtain⟨ad,cap,rfl,k1,k2,k3⟩:=hr.shape
 exact⟨ad,cap,h1.block (i+1) (by simp [hi]),k1,k2,hr.all⟩
theorem Bj {bu:List Nat} {i:Nat} (h:i < bu.length) (a:Nat):iK (bu++[a]) i=iK bu i:=by
 unfold iK
 rw [List.getD_eq_getElem?_getD,List.getD_eq_getElem?_getD,List.getElem?_append_left h]
theorem ji.ev {α:Type} {P:Program} {kt:TypeId} {ek ev ev':α→Value} {b:Nat} {L:List α} {w:World} {F:List Nat} (h:ji P kt ek ev b L w F) (he:∀ x∈L,ev' x=ev x):ji P kt ek ev' b L w F:=
 ⟨h.1,h.2.congr (fun k v=>⟨fun ⟨x,hx,e1,e2⟩=>⟨x,hx,e1,by rw [← he x hx];exact e2⟩,fun ⟨x,hx,e1,e2⟩=>⟨x,hx,e1,by rw [he x hx];exact e2⟩⟩)⟩
def Wu (k:Nat):ky→Prop
 | .made _ f=>f < k
 | _=>True
theorem Kb {bu:List Nat} {l:List ky} (h:∀ c∈l,Wu bu.length c) (a:Nat):jO (bu++[a]) l=jO bu l:=by
 unfold jO
 congr 1
 apply List.map_congr_left
 intro c hc
 have:=h c hc
 cases c with
 | made n f=>simp only [encC];rw [Bj this]
 | ren _ _=>rfl
 | rem _=>rfl
theorem QO {N M:gF} {l:List ky} {k:Nat} (h:zk N l M k):∀ c∈l,Wu k c:=by
 induction l generalizing N with
 | nil=>intro c hc;simp at hc
 | cons c r ih=>
  intro c' hc'
  rcases List.mem_cons.1 hc' with rfl | hc'
  ·cases c' with
   | made n f=>
    have:=(uV h.2.2).lt (n,f) (jq.2 (Or.inl rfl))
    exact this
   | ren _ _=>trivial
   | rem _=>trivial
  ·exact ih h.2.2 c' hc'
theorem Kc:Keyed Tryz.prog 9:=Go.Maps.string_keyed Tryz.underlying9
theorem Fa {N:gF} (h:jB N):(N.map Uz).Nodup:=by
 have:N.map Uz=(N.map (·.1)).map Value.string:=by rw [List.map_map];rfl
 rw [this]
 exact List.pairwise_map.2 (h.keys.imp (fun {a b} hne e=>hne (by cases e;rfl)))
section
variable {F0:List Nat} {w0 w:World} {R:List az}
def nZ (d:ae):Int:=if dE d then 8 else 0
theorem Ig {d:ae} (h:dE d):mg d=d.ops+1:=by unfold dE at h;simp [mg,h]
theorem NH {d:ae} (h:¬ dE d):mg d≠d.ops+1:=by unfold dE at h;unfold mg;split <;> omega
theorem Bl {d:ae}:mg (aC d)=if dE d then 0 else mg d:=by
 by_cases h:dE d
 ·rw [if_pos h];unfold dE at h;simp [mg,aC,h]
 ·rw [if_neg h];unfold dE at h
  by_cases h0:d.fail=0
  ·simp [mg,aC,h0]
  ·have h1:¬ d.fail - 1=0:=by omega
   simp only [mg,aC,h0,h1,if_false];omega
theorem QP {d:ae} (h:aP d) (ho:d.ops≤100000000):mg d≤4700000000000000000:=by
 have:=h.fail;unfold mg;split <;> omega
def xY (d:ae) (bd bn bs:Nat) (dP:Value) (i:Nat) (F0:List Nat) (w0:World) (R:List az) (e:Ending) (w':World):Prop:=
 e=.returned (.int .i64 (nZ d))∧In F0 w0 w' (R.set i (Cells bd (gX (aC d) bn bs dP) 108))
theorem Bn {d:ae} {bd bn bs:Nat} {dP:Value} (h:In F0 w0 w R) (i:Nat) (hA:R[i]?=some (Cells bd (gX d bn bs dP) 108)) (hok:aP d) (ho:d.ops≤100000000) :
  Calls Tryz.prog 164 #[.pointer (some ⟨bd,0,none⟩)] w (xY d bd bn bs dP i F0 w0 R):=by
 have hi:=(List.getElem?_eq_some_iff.1 hA).1
 have hfl:=QP hok ho
 have c4:w.cell? ⟨bd,4,none⟩=some (.int .i64 d.ops):=cell_of (h.block i hA) rfl
 have f4:w.frozen? ⟨bd,4,none⟩=false:=aL (h.block i hA)
 have h1:=h.put i hA 4 (.int .i64 (d.ops+1))
 have hA1:(R.set i (Cells bd ((gX d bn bs dP).setIfInBounds 4 (.int .i64 (d.ops+1))) 108))[i]?=some (Cells bd ((gX d bn bs dP).setIfInBounds 4 (.int .i64 (d.ops+1))) 108):=by simp [hi]
 have d4:∀ n,((w.setCell ⟨bd,4,none⟩ (.int .i64 (d.ops+1))).drewN n).cell? ⟨bd,4,none⟩=some (.int .i64 (d.ops+1)):=fun n=>cell_of ((h1.drewN n).block i hA1) rfl
 have d5:∀ n,((w.setCell ⟨bd,4,none⟩ (.int .i64 (d.ops+1))).drewN n).cell? ⟨bd,5,none⟩=some (.int .i64 (mg d)):=fun n=>cell_of ((h1.drewN n).block i hA1) rfl
 have f5:∀ n,((w.setCell ⟨bd,4,none⟩ (.int .i64 (d.ops+1))).drewN n).frozen? ⟨bd,5,none⟩=false:=fun n=>aL ((h1.drewN n).block i hA1)
 by_cases hf:dE d
 ·have hfv:=Ig hf
  have HP:Hid (∀ n,xY d bd bn bs dP i F0 w0 R (.returned (.int .i64 8)) (((w.setCell ⟨bd,4,none⟩ (.int .i64 (d.ops+1))).drewN n).setCell ⟨bd,5,none⟩ (.int .i64 0))):=Lib.hid fun n=>by
   refine⟨by rw [nZ,if_pos hf],?_⟩
   have h2:=(h1.drewN n).put i hA1 5 (.int .i64 0)
   rw [List.set_set] at h2
   have e:((gX d bn bs dP).setIfInBounds 4 (.int .i64 (d.ops+1))).setIfInBounds 5 (.int .i64 0)=gX (aC d) bn bs dP:=by
    unfold gX;rw [Bl,if_pos hf];rfl
   rwa [e] at h2
  have q:((d.ops:Int)+1 == (mg d:Int))=true:=by rw [hfv];simp
  clear h h1 hA hA1 hi hok hf hfv
  generalize mg d=fv at *
  go_enter Tryz.func164,Tryz.ntmps164
  go_wp2_with fail
  go_quiet (fail)
  go_wp2_with fail
  go_ret
  exact HP.out _
 ·have hfv:=NH hf
  have HP:Hid (∀ n,xY d bd bn bs dP i F0 w0 R (.returned (.int .i64 0)) ((w.setCell ⟨bd,4,none⟩ (.int .i64 (d.ops+1))).drewN n)):=Lib.hid fun n=>by
   refine⟨by rw [nZ,if_neg hf],?_⟩
   have h2:=h1.drewN n
   have e:(gX d bn bs dP).setIfInBounds 4 (.int .i64 (d.ops+1))=gX (aC d) bn bs dP:=by
    unfold gX;rw [Bl,if_neg hf];rfl
   rwa [e] at h2
  have q:((d.ops:Int)+1 == (mg d:Int))=false:=by
   rw [beq_eq_false_iff_ne];omega
  clear h h1 hA hA1 hi hok hf hfv
  generalize mg d=fv at *
  go_enter Tryz.func164,Tryz.ntmps164
  go_wp2_with fail
  go_quiet (fail)
  go_wp2_with fail
  go_ret
  exact HP.out _
theorem Ih (n:ByteArray) (hn:n.size≤maxLen) (w:World):Calls Tryz.prog 165 #[.string n] w fun e w'=>e=.returned (.bool (gQ n))∧w'=w:=by
 unfold maxLen at hn
 have HB:Hid (gQ n=(decide (1≤n.size) && decide (n.size≤16))):=Lib.hid (by unfold gQ;rw [Bool.decide_and])
 generalize gQ n=nb at *
 generalize hs:n.size=s at *
 by_cases h1:1≤s
 ·by_cases h2:s≤16
  ·have HN:Hid (nb=true):=Lib.hid (by rw [HB.out];simp [h1,h2])
   go_enter Tryz.func165,Tryz.ntmps165
   go_wp2_with fail
   go_ret
   exact⟨by rw [HN.out];simp [hs];omega,rfl⟩
  ·have HN:Hid (nb=false):=Lib.hid (by rw [HB.out];simp [h2])
   go_enter Tryz.func165,Tryz.ntmps165
   go_wp2_with fail
   go_ret
   exact⟨by rw [HN.out];simp [hs];omega,rfl⟩
 ·have HN:Hid (nb=false):=Lib.hid (by rw [HB.out];simp [h1])
  go_enter Tryz.func165,Tryz.ntmps165
  go_wp2_with fail
  go_ret
  exact⟨by rw [HN.out];simp [hs],rfl⟩
end
def kg (d:ae) (l:gF):Nat:=(l.map (fun x=>eX d x.2)).sum
theorem Ii (d:ae) (l:gF) (x:ByteArray×Nat):kg d (l++[x])=kg d l+eX d x.2:=by simp [kg]
theorem Ij {d:ae} {l l':gF} (h:l.Perm l'):kg d l=kg d l':=(h.map _).sum_nat
theorem Fe {d:ae} (h:aP d) (i:Nat):eX d i≤1048576:=by
 unfold eX
 by_cases hi:i < d.files.length
 ·exact (h.file _ (jf hi)).1
 ·rw [List.getD_eq_getElem?_getD,List.getElem?_eq_none (by omega)];simp [default,instInhabitedFileD.default]
theorem ui {d:ae} (h:aP d):∀ (l:gF),kg d l≤l.length * 1048576
 | []=>by simp [kg]
 | x::r=>by
  have:=ui h r
  have:=Fe h x.2
  have e:kg d (x::r)=eX d x.2+kg d r:=by simp [kg]
  rw [e,List.length_cons];omega
theorem qw {α:Type} [DecidableEq α]:∀ {l m:List α},l.Nodup→(∀ x∈l,x∈m)→l.length≤m.length
 | [],_,_,_=>Nat.zero_le _
 | x::r,m,hn,hs=>by
  obtain⟨h1,h2⟩:=List.nodup_cons.1 hn
  have ih:=qw (m:=m.filter (fun y=>decide (y≠x))) h2 (fun y hy=>List.mem_filter.2 ⟨hs y (List.mem_cons_of_mem _ hy),by simpa using fun e=>h1 (by rw [← e];exact hy)⟩)
  have:(m.filter (fun y=>decide (y≠x))).length < m.length:=by
   refine Nat.lt_of_le_of_ne (List.length_filter_le _ _) (fun e=>?_)
   have:=List.length_filter_eq_length_iff.1 e x (hs x (by simp))
   simp at this
  rw [List.length_cons];omega
def Ff (d:ae) (bd bn bs:Nat) (dP:Value) (bu:List Nat) (r:Nat) (F0:List Nat) (w0:World) (n:Value) (wr:World):Prop:=
 ∃ done:gF,n=.int .i64 (kg d done)∧done.Nodup∧(∀ x∈done,x∈d.now)∧In F0 w0 wr ((iC bd bn bs dP bu d).set 1 (wJ Tryz.prog 9 Uz (Wt bu) bn r d.now done))
section
variable {F0:List Nat} {w0 w:World}
theorem Mk {d:ae} {bd bn bs:Nat} {dP:Value} {bu:List Nat} (h:In F0 w0 w (iC bd bn bs dP bu d)) (hok:aP d) (hl:bu.length=d.files.length) :
  Calls Tryz.prog 224 #[.pointer (some ⟨bd,0,none⟩)] w fun e w'=>e=.returned (.int .i64 (fT d))∧In F0 w0 w' (iC bd bn bs dP bu d):=by
 have c1:w.cell? ⟨bd,1,none⟩=some (.map (some bn)):=cell_of (h.block 0 iV) rfl
 obtain⟨o,hrg,h1⟩:=NG h 1 uh (Fa hok.now.row) Tryz.underlying105
 have HS:Hid (Ff d bd bn bs dP bu w.heap.size F0 w0 (.int .i64 0) (w.alloc o)):=Lib.hid ⟨[],rfl,List.nodup_nil,by simp,h1⟩
 have mD:=Lib.hid hok
 have HL:=Lib.hid hl
 clear h h1 hok hl
 go_enter Tryz.func224,Tryz.ntmps224
 go_wp2_with fail
 go_loopw [3] (Ff d bd bn bs dP bu w.heap.size F0 w0) (fun _ wr=>wr.rangeLeft bn w.heap.size)
 case atStart=>exact HS.out
 case round=>
  obtain⟨done,rfl,hnd,hsub,ho⟩:=hrel
  clear HS hrg c1
  have hle:=ui mD.out done
  have hdl:done.length≤200:=Nat.le_trans (qw hnd hsub) mD.out.now.few
  rcases QM ho 1 rfl 0 with ⟨hp,hrun⟩|⟨y,hy,Uy,w',hrun,ho2,hlt,hen⟩
  ·have HP:Hid ((Ending.returned (.int .i64 (kg d done))=Ending.returned (.int .i64 (fT d)))∧In F0 w0 wr (iC bd bn bs dP bu d)):=Lib.hid ⟨by rw [Ij hp];rfl,QN ho 1 rfl⟩
   clear ho hp hnd hsub
   go_wp2_with fail
   go_ret
   exact HP.out
  ·have hyl:=mD.out.now.lt y hy
   obtain⟨ad,cap,hb,-,-,-⟩:=EZ (a:=bu.getD y.2 0) (f:=d.files.getD y.2 default) ho2 (4+y.2) (by
    rw [List.set_set,List.getElem?_set_ne (by omega)]
    exact lS HL.out hyl)
   have cF:w'.cell? ⟨bu.getD y.2 0,0,none⟩=some (.slice ad (eX d y.2) cap):=cell_of hb rfl
   have hfl:=Fe mD.out y.2
   have HR:Hid (Ff d bd bn bs dP bu w.heap.size F0 w0 (.int .i64 (kg d done+eX d y.2)) w'):=Lib.hid ⟨done++[y],by rw [Ii];congr 1,List.nodup_append.2 ⟨hnd,by simp,fun a ha b hb'=>by simp at hb';subst hb';exact fun e=>Uy (e ▸ ha)⟩,fun x hx=>by
    rcases List.mem_append.1 hx with hx | hx
    ·exact hsub x hx
    ·simp at hx;subst hx;exact hy,by rw [List.set_set] at ho2;exact ho2⟩
   unfold Wt iK at hrun hen
   generalize bu.getD y.2 0=af at *
   generalize eX d y.2=fl at *
   generalize kg d done=ls at *
   clear ho ho2 hb hnd hsub Uy hy
   go_wp2_with fail
   go_roundw
   case rel=>exact HR.out
   case measure=>exact hlt
end
section
variable {F0:List Nat} {w0 w:World} {R:List az}
def lookV (bu:List Nat) (o:Option Nat):Value:=match o with
 | some f=>iK bu f
 | none=>.pointer none
theorem Kg (w:World):(zeroValue 134).run Tryz.prog w=.ok (.pointer none) w:=by kernel_rfl
theorem wM {N:gF} {b:Nat} {bu:List Nat} (h:In F0 w0 w R) (i:Nat) (hA:R[i]?=some (ll b bu N)) (hN:jB N) {n:ByteArray} (hn:n.size≤maxLen) :
  (Instr.lookup 105 (.map (some b)) (.string n) false).run Tryz.prog w=.ok (lookV bu (bQ N n)) w:=by
 rcases wH h i hA Kc Tryz.underlying105 (Kg w) (Go.WideMaps.keyOf_string_mk Tryz.underlying9 hn) false with ⟨x,hx,e,hr⟩|⟨hno,hr⟩
 ·have e2:bQ N n=some x.2:=(qa hN.keys).2 (by cases e;exact hx)
  rw [e2];exact hr
 ·have e2:bQ N n=none:=jR.2 (fun x hx e=>hno x hx (by rw [← e];rfl))
  rw [e2];exact hr
theorem wN {d:ae} {bd bn bs:Nat} {dP:Value} {bu:List Nat} (h:In F0 w0 w (iC bd bn bs dP bu d)) (hok:aP d) (hl:bu.length=d.files.length) {i:Nat} (hi:i < d.files.length) {k:Nat} (hk:k≤100000000) :
  Calls Tryz.prog 166 #[.pointer (some ⟨bd,0,none⟩),iK bu i,.int .i64 k] w fun e w'=>e=.returned (.bool (jW d (some i) k))∧In F0 w0 w' (iC bd bn bs dP bu d):=by
 obtain⟨ad,cap,hb,-,-,-⟩:=EZ h (4+i) (lS hl hi)
 have cF:w.cell? ⟨bu.getD i 0,0,none⟩=some (.slice ad (eX d i) cap):=cell_of hb rfl
 have HC:=Lib.hid (Mk h hok hl)
 have hfl:=Fe hok i
 have hq:=hok.dY
 have hsz:fT d≤209715200:=by
  have h1:=ui hok d.now
  have h2:=hok.now.few
  have h3:fT d=kg d d.now:=rfl
  omega
 have HB:Hid (jW d (some i) k=(decide (fT d≤d.dY) && decide (k+fT d≤d.dY) && decide (k+eX d i≤1048576))):=Lib.hid (by
  unfold jW;simp only [reduceCtorEq,false_implies,and_true,Bool.decide_and,Bool.and_assoc])
 have c0:∀ w',In F0 w0 w' (iC bd bn bs dP bu d)→w'.cell? ⟨bd,0,none⟩=some (.int .i64 d.dY):=fun w' h'=>cell_of (h'.block 0 iV) rfl
 have C0:=Lib.hid c0
 clear h hb c0
 unfold iK
 generalize bu.getD i 0=af at *
 generalize eX d i=fl at *
 generalize jW d (some i) k=rm at *
 go_enter Tryz.func166,Tryz.ntmps166
 go_wp2_with fail
 refine HC.out.mono ?_
 rintro e w1 ⟨rfl,ho⟩
 have c0:=C0.out w1 ho
 have HO:=Lib.hid ho
 generalize fT d=sz at *
 generalize d.dY=q at *
 clear ho HC C0
 have HB1:Hid (rm=(decide (sz≤q) && decide (k+sz≤q) && decide (k+fl≤1048576))):=HB
 clear HB
 by_cases h1:sz≤q
 ·by_cases h2:k+sz≤q
  ·by_cases h3:k+fl≤1048576
   ·have e1:decide (q < sz)=false:=by simp;omega
    have e2:decide ((q:Int) - (sz:Int) < (k:Int))=false:=by simp;omega
    have e3:decide ((1048576:Int) - (fl:Int) < (k:Int))=false:=by simp;omega
    have hr:rm=true:=by rw [HB1.out];simp [h1,h2,h3]
    clear HB1
    have HR:=Lib.hid hr
    clear hr
    go_wp2_with fail
    go_ret
    exact⟨by rw [HR.out];rfl,HO.out⟩
   ·have e1:decide (q < sz)=false:=by simp;omega
    have e2:decide ((q:Int) - (sz:Int) < (k:Int))=false:=by simp;omega
    have e3:decide ((1048576:Int) - (fl:Int) < (k:Int))=true:=by simp;omega
    have hr:rm=false:=by rw [HB1.out];simp [h3]
    clear HB1
    have HR:=Lib.hid hr
    clear hr
    go_wp2_with fail
    go_ret
    exact⟨by rw [HR.out];rfl,HO.out⟩
  ·have e1:decide (q < sz)=false:=by simp;omega
   have e2:decide ((q:Int) - (sz:Int) < (k:Int))=true:=by simp;omega
   have hr:rm=false:=by rw [HB1.out];simp [h2]
   clear HB1
   have HR:=Lib.hid hr
   clear hr
   go_wp2_with fail
   go_ret
   exact⟨by rw [HR.out];rfl,HO.out⟩
 ·have e1:decide (q < sz)=true:=by simp;omega
  have hr:rm=false:=by rw [HB1.out];simp [h1]
  clear HB1
  have HR:=Lib.hid hr
  clear hr
  go_wp2_with fail
  go_ret
  exact⟨by rw [HR.out];rfl,HO.out⟩
theorem wO {d:ae} {bd bn bs:Nat} {dP:Value} {bu:List Nat} (h:In F0 w0 w (iC bd bn bs dP bu d)) (hok:aP d) (hl:bu.length=d.files.length) {k:Nat} (hk:k≤100000000) :
  Calls Tryz.prog 166 #[.pointer (some ⟨bd,0,none⟩),.pointer none,.int .i64 k] w fun e w'=>e=.returned (.bool (jW d none k))∧In F0 w0 w' (iC bd bn bs dP bu d):=by
 have HC:=Lib.hid (Mk h hok hl)
 have hq:=hok.dY
 have hsz:fT d≤209715200:=by
  have h1:=ui hok d.now
  have h2:=hok.now.few
  have h3:fT d=kg d d.now:=rfl
  omega
 have HB:Hid (jW d none k=(decide (fT d≤d.dY) && decide (k+fT d≤d.dY) && decide (k≤1048576) && decide (d.now.length < 200))):=Lib.hid (by
  unfold jW;simp only [Nat.add_zero,true_implies,Bool.decide_and,Bool.and_assoc])
 have c0:∀ w',In F0 w0 w' (iC bd bn bs dP bu d)→w'.cell? ⟨bd,0,none⟩=some (.int .i64 d.dY)∧w'.cell? ⟨bd,1,none⟩=some (.map (some bn))∧(Builtin.len_ #[105] 3 #[.map (some bn)]).run Tryz.prog w'=.ok (.int .i64 d.now.length) w':=
  fun w' h'=>⟨cell_of (h'.block 0 iV) rfl,cell_of (h'.block 0 iV) rfl,EX h' 1 uh Tryz.underlying105 3⟩
 have C0:=Lib.hid c0
 have hnl:=hok.now.few
 clear h c0
 generalize jW d none k=rm at *
 go_enter Tryz.func166,Tryz.ntmps166
 go_wp2_with fail
 refine HC.out.mono ?_
 rintro e w1 ⟨rfl,ho⟩
 obtain⟨c0,c1,c2⟩:=C0.out w1 ho
 have HO:=Lib.hid ho
 generalize fT d=sz at *
 generalize d.dY=q at *
 generalize d.now.length=nl at *
 clear ho HC C0
 have HB1:Hid (rm=(decide (sz≤q) && decide (k+sz≤q) && decide (k≤1048576) && decide (nl < 200))):=HB
 clear HB
 by_cases h1:sz≤q
 ·have e1:decide (q < sz)=false:=by simp;omega
  by_cases h2:k+sz≤q
  ·have e2:decide ((q:Int) - (sz:Int) < (k:Int))=false:=by simp;omega
   by_cases h3:k≤1048576
   ·have e3:decide ((1048576:Int) < (k:Int))=false:=by simp;omega
    have hr:rm=decide (nl < 200):=by rw [HB1.out];simp [h1,h2,h3]
    clear HB1
    have HR:=Lib.hid hr
    clear hr
    go_wp2_with fail
    go_ret
    exact⟨by rw [HR.out];simp;try omega,HO.out⟩
   ·have e3:decide ((1048576:Int) < (k:Int))=true:=by simp;omega
    have hr:rm=false:=by rw [HB1.out];simp [h3]
    clear HB1
    have HR:=Lib.hid hr
    clear hr
    go_wp2_with fail
    go_ret
    exact⟨by rw [HR.out];rfl,HO.out⟩
  ·have e2:decide ((q:Int) - (sz:Int) < (k:Int))=true:=by simp;omega
   have hr:rm=false:=by rw [HB1.out];simp [h2]
   clear HB1
   have HR:=Lib.hid hr
   clear hr
   go_wp2_with fail
   go_ret
   exact⟨by rw [HR.out];rfl,HO.out⟩
 ·have e1:decide (q < sz)=true:=by simp;omega
  have hr:rm=false:=by rw [HB1.out];simp [h1]
  clear HB1
  have HR:=Lib.hid hr
  clear hr
  go_wp2_with fail
  go_ret
  exact⟨by rw [HR.out];rfl,HO.out⟩
end
section
variable {F0:List Nat} {w0 w:World} {R:List az}
def ib (d:ae) (n:ByteArray):Int:=if dE d then 8 else if (bQ d.now n).isSome then 0 else 6
def Bo (bu:List Nat) (d:ae) (n:ByteArray):Value:=if dE d then .pointer none else lookV bu (bQ d.now n)
def Bp (d:ae) (n:ByteArray) (bd bn bs:Nat) (dP:Value) (bu:List Nat) (F0:List Nat) (w0:World) (e:Ending) (w':World):Prop:=
 e=.returned (.tuple #[Bo bu d n,.int .i64 (ib d n)])∧In F0 w0 w' (iC bd bn bs dP bu (aC d))
theorem kC {bd bn bs:Nat} {dP:Value} {bu:List Nat} {d:ae}:(iC bd bn bs dP bu d).set 0 (Cells bd (gX (aC d) bn bs dP) 108)=iC bd bn bs dP bu (aC d):=rfl
theorem zL {d:ae} {bd bn bs:Nat} {dP:Value} {bu:List Nat} (h:In F0 w0 w (iC bd bn bs dP bu d)) (hok:aP d) (ho:d.ops≤100000000) (n:ByteArray) (hn:n.size≤maxLen) :
  Calls Tryz.prog 146 #[.pointer (some ⟨bd,0,none⟩),.string n] w (Bp d n bd bn bs dP bu F0 w0):=by
 have HC:=Lib.hid (Bn h 0 iV hok ho)
 have mD:=Lib.hid hok
 clear h hok
 by_cases hf:dE d
 ·have HP:Hid (∀ w',In F0 w0 w' (iC bd bn bs dP bu (aC d))→Bp d n bd bn bs dP bu F0 w0 (.returned (.tuple #[.pointer none,.int .i64 8])) w'):=
   Lib.hid fun w' h'=>⟨by rw [Bo,ib,if_pos hf,if_pos hf],h'⟩
  have HE:Hid (nZ d=8):=Lib.hid (by rw [nZ,if_pos hf])
  clear hf
  go_enter Tryz.func146,Tryz.ntmps146
  go_wp2_with fail
  refine HC.out.mono ?_
  rintro e w1 ⟨rfl,h1⟩
  rw [kC] at h1
  rw [HE.out]
  have H1:=Lib.hid h1
  clear h1 HC
  go_wp2_with fail
  go_ret2
  exact HP.out _ H1.out
 ·have HE:Hid (nZ d=0):=Lib.hid (by rw [nZ,if_neg hf])
  have HP:Hid (∀ w' r,In F0 w0 w' (iC bd bn bs dP bu (aC d))→r=lookV bu (bQ d.now n)→Bp d n bd bn bs dP bu F0 w0 (.returned (.tuple #[r,.int .i64 (if (bQ d.now n).isSome then 0 else 6)])) w'):=
   Lib.hid fun w' r h' hr=>⟨by rw [Bo,ib,if_neg hf,if_neg hf,hr],h'⟩
  have C:Hid (∀ w',In F0 w0 w' (iC bd bn bs dP bu (aC d))→w'.cell? ⟨bd,1,none⟩=some (.map (some bn))∧(Instr.lookup 105 (.map (some bn)) (.string n) false).run Tryz.prog w'=.ok (lookV bu (bQ d.now n)) w'):=
   Lib.hid fun w' h'=>⟨cell_of (h'.block 0 iV) rfl,wM h' 1 uh mD.out.now.row hn⟩
  clear hf
  go_enter Tryz.func146,Tryz.ntmps146
  go_wp2_with fail
  refine HC.out.mono ?_
  rintro e w1 ⟨rfl,h1⟩
  rw [kC] at h1
  rw [HE.out]
  obtain⟨c1,c2⟩:=C.out w1 h1
  have H1:=Lib.hid h1
  clear h1 HC C
  cases e2:bQ d.now n with
  | none=>
   rw [e2] at c2
   have HF:=Lib.hid (HP.out w1 (.pointer none) H1.out (by rw [e2];rfl))
   rw [e2] at HF
   clear HP e2
   simp only [lookV] at c2
   go_wp2_with fail
   go_ret2
   exact HF.out
  | some i=>
   rw [e2] at c2
   have HF:=Lib.hid (HP.out w1 (iK bu i) H1.out (by rw [e2];rfl))
   rw [e2] at HF
   clear HP e2
   simp only [lookV] at c2
   unfold iK at c2 HF
   go_wp2_with fail
   go_ret2
   exact HF.out
def Kh (bu:List Nat) (c:ky):Value:=.agg (encC bu c).toArray
theorem QR {N:gF} {b:Nat} {bu:List Nat} (h:In F0 w0 w R) (i:Nat) (hA:R[i]?=some (ll b bu N)) (hN:jB N) {n:ByteArray} (hn:n.size≤maxLen) (f:Nat) :
  ∃ w',(Instr.mapUpdate 105 (.map (some b)) (.string n) (iK bu f)).run Tryz.prog w=.ok () w'∧xC b w w'∧In F0 w0 w' (R.set i (ll b bu (iQ N n f))):=by
 have hi:=(List.getElem?_eq_some_iff.1 hA).1
 obtain⟨w',h1,ht,h2⟩:=EU h i hA Kc Tryz.underlying105 (n,f) (Go.WideMaps.keyOf_string_mk Tryz.underlying9 hn) (Fa hN) (fun x=>decide (x.1≠n)) (fun x _=>by simp [Uz])
 refine⟨w',h1,ht,?_⟩
 have:=Bh (L:=(n,f)::dZ N n) (L':=iQ N n f) h2 i (by rw [List.getElem?_set_self hi];rfl) (nQ N n f)
 rwa [List.set_set] at this
theorem QS {N:gF} {b:Nat} {bu:List Nat} (h:In F0 w0 w R) (i:Nat) (hA:R[i]?=some (ll b bu N)) (hN:jB N) {n:ByteArray} (hn:n.size≤maxLen) (ty:TypeId) :
  ∃ w',(Builtin.delete_ #[105,9] ty #[.map (some b),.string n]).run Tryz.prog w=.ok (.tuple #[]) w'∧xC b w w'∧In F0 w0 w' (R.set i (ll b bu (dZ N n))):=
 EW h i hA Kc Tryz.underlying105 (Go.WideMaps.keyOf_string_mk Tryz.underlying9 hn) (Fa hN) (fun x=>decide (x.1≠n)) (fun x _=>by simp [Uz]) 9 ty
def Fg:ky→Prop
 | .made n _=>n.size≤maxLen
 | .ren a b=>a.size≤maxLen∧b.size≤maxLen
 | .rem n=>n.size≤maxLen
def XF (N:gF) (c:ky):Prop:=∀ a b,c=.ren a b→∃ f,bQ N a=some f
theorem Wv {N:gF} {bn:Nat} {bu:List Nat} (h:In F0 w0 w R) (i:Nat) (hA:R[i]?=some (ll bn bu N)) (hN:jB N) (c:ky) (hs:Fg c) (hc:XF N c) :
  Calls Tryz.prog 89 #[Kh bu c,.map (some bn)] w fun e w'=>e=.returned (.tuple #[])∧In F0 w0 w' (R.set i (ll bn bu (nmDo N c))):=by
 have hi:=(List.getElem?_eq_some_iff.1 hA).1
 unfold Kh
 cases c with
 | made n f=>
  obtain⟨w1,r1,t1,h1⟩:=QR (h.alloc (.cells (encC bu (.made n f)).toArray 136)) i hA hN hs f
  have H1:=Lib.hid h1
  clear h1 h hA hN hs hc t1
  simp only [encC,iK] at r1 ⊢
  try generalize bu.getD f 0=af at *
  go_enter Tryz.func89,Tryz.ntmps89
  go_wp2_with fail
  go_end0
  exact⟨rfl,H1.out⟩
 | rem n=>
  obtain⟨w1,r1,t1,h1⟩:=QS (h.alloc (.cells (encC bu (.rem n)).toArray 136)) i hA hN hs 0
  have H1:=Lib.hid h1
  clear h1 h hA hN hs hc t1
  simp only [encC,iK] at r1 ⊢
  go_enter Tryz.func89,Tryz.ntmps89
  go_wp2_with fail
  go_end0
  exact⟨rfl,H1.out⟩
 | ren a b=>
  obtain⟨f,hf⟩:=hc a b rfl
  have h0:=h.alloc (.cells (encC bu (.ren a b)).toArray 136)
  have l0:=wM h0 i hA hN hs.1
  rw [hf] at l0
  obtain⟨w1,r1,t1,h1⟩:=QR h0 i hA hN hs.2 f
  obtain⟨w2,r2,t2,h2⟩:=QS h1 i (by rw [List.getElem?_set_self hi]) (mi hN b f) hs.1 0
  rw [List.set_set] at h2
  have hbn:bn < w.heap.size:=by
   obtain⟨F,hF⟩:=h.get i hA
   exact hF.2.lt
  have e2:nmDo N (.ren a b)=dZ (iQ N b f) a:=by simp [nmDo,hf]
  have c1:w1.cell? ⟨w.heap.size,1,none⟩=some (.string a):=by
   refine cell_of ((t1.block w.heap.size (by omega)).trans dO) ?_
   rfl
  rw [← e2] at h2
  have H2:=Lib.hid h2
  clear h0 h1 h2 h hA hN hs hc t1 t2 e2 hf hbn
  simp only [encC,iK,lookV] at l0 r1 r2 ⊢
  generalize bu.getD f 0=af at *
  go_enter Tryz.func89,Tryz.ntmps89
  go_wp2_with fail
  go_end0
  exact⟨rfl,H2.out⟩
end
theorem Bq:(Tryz.prog.info? 136).map (fun i=>(i.zero.map (fun z=>z.cells.size),i.size,i.bytes))=some (some 4,4,48):=by kernel_rfl
section
variable {F0:List Nat} {w0 w:World}
theorem NI (bu:List Nat) (c:ky):∃ a b e f,encC bu c=[a,b,e,f]∧a.oneCell'=true∧b.oneCell'=true∧e.oneCell'=true∧f.oneCell'=true:=by
 cases c <;> exact⟨_,_,_,_,rfl,rfl,rfl,rfl,rfl⟩
def og (d:ae) (bd bn bs:Nat) (bu:List Nat) (c:ky) (F0:List Nat) (w0:World) (e:Ending) (w':World):Prop:=
 e=.returned (.tuple #[])∧∃ v',In F0 w0 w' (iC bd bn bs v' bu (bq d c))
theorem xZ {d:ae} {bd bn bs:Nat} {dP:Value} {bu:List Nat} (h:In F0 w0 w (iC bd bn bs dP bu d)) (hok:aP d) (ho:d.ops≤100000001) (c:ky) (hs:Fg c) (hc:XF d.now c) :
  Calls Tryz.prog 167 #[.pointer (some ⟨bd,0,none⟩),Kh bu c] w (og d bd bn bs bu c F0 w0):=by
 obtain⟨x0,x1,x2,x3,hx,o0,o1,o2,o3⟩:=NI bu c
 have hch:=hok.wm
 have h0:=h.cells (encC bu c).toArray 136
 have C0:=Lib.hid (Wv (h0.drewN 1) 2 rfl hok.now.row c hs hc)
 have b1:(w.alloc (.cells (encC bu c).toArray 136)).cell? ⟨bd,1,none⟩=some (.map (some bn)):=cell_of (h0.block 1 rfl) rfl
 unfold Kh at C0 ⊢
 rw [hx] at C0 b1 ⊢
 have HX:=Lib.hid hx
 have mD:=Lib.hid hok
 have HK:Hid (∀ w',In F0 w0 w' ((Cells w.heap.size #[x0,x1,x2,x3] 136::iC bd bn bs dP bu d).set 2 (ll bn bu (nmDo d.now c)))→w'.cell? ⟨bd,1,none⟩=some (.map (some bn))∧w'.cell? ⟨w.heap.size,0,none⟩=some x0∧w'.cell? ⟨w.heap.size,1,none⟩=some x1∧w'.cell? ⟨w.heap.size,2,none⟩=some x2∧w'.cell? ⟨w.heap.size,3,none⟩=some x3):=
  Lib.hid fun w' h'=>⟨cell_of (h'.block 1 rfl) rfl,cell_of (h'.block 0 rfl) rfl,cell_of (h'.block 0 rfl) rfl,cell_of (h'.block 0 rfl) rfl,cell_of (h'.block 0 rfl) rfl⟩
 clear h0 h hok hs hc hx
 go_enter Tryz.func167,Tryz.ntmps167
 go_wp2_with fail
 have z0:(w.alloc (.cells #[x0,x1,x2,x3] 136)).cell? ⟨w.heap.size,0,none⟩=some x0:=cell_of dO rfl
 have z1:(w.alloc (.cells #[x0,x1,x2,x3] 136)).cell? ⟨w.heap.size,1,none⟩=some x1:=cell_of dO rfl
 have z2:(w.alloc (.cells #[x0,x1,x2,x3] 136)).cell? ⟨w.heap.size,2,none⟩=some x2:=cell_of dO rfl
 have z3:(w.alloc (.cells #[x0,x1,x2,x3] 136)).cell? ⟨w.heap.size,3,none⟩=some x3:=cell_of dO rfl
 go_region_held3 (fun w'=>w'.cell? ⟨bd,1,none⟩=some (.map (some bn))∧w'.cell? ⟨w.heap.size,0,none⟩=some x0∧w'.cell? ⟨w.heap.size,1,none⟩=some x1∧w'.cell? ⟨w.heap.size,2,none⟩=some x2∧w'.cell? ⟨w.heap.size,3,none⟩=some x3) (first | exact hc1 | go_keep) ((go_at_call 89;refine C0.out.mono ?_;rintro e w1 ⟨rfl,h1⟩;have hc1:=HK.out w1 h1))
 clear hc1 z0 z1 z2 z3
 obtain⟨F,hF⟩:=h1.get 4 rfl
 obtain⟨ac,cap,rfl,k1,k2,-⟩:=hF.shape
 have H1:=Lib.hid h1
 have hb1:=h1.block 1 rfl
 have hb0:=h1.block 0 rfl
 have c3:w1.cell? ⟨bd,3,none⟩=some (.slice ac d.ch.length cap):=cell_of hb1 rfl
 have c3':∀ o,(w1.alloc o).cell? ⟨bd,3,none⟩=some (.slice ac d.ch.length cap):=fun o=>cell_of ((h1.alloc o).block 1 rfl) rfl
 have g0:w1.cell? ⟨w.heap.size,0,none⟩=some x0:=cell_of hb0 rfl
 have g1:w1.cell? ⟨w.heap.size,1,none⟩=some x1:=cell_of hb0 rfl
 have g2:w1.cell? ⟨w.heap.size,2,none⟩=some x2:=cell_of hb0 rfl
 have g3:w1.cell? ⟨w.heap.size,3,none⟩=some x3:=cell_of hb0 rfl
 have bs1:=jU hb0
 have bs2:=jU hb1
 have hcl:d.ch.length≤100000001:=by omega
 clear h1 hb0 hb1 C0 b1 hF
 go_wp2_with fail
 go_region_law
  (first
   | (refine mO rfl (R:=Cells _ _ 136::Cells w.heap.size #[x0,x1,x2,x3] 136::((iC bd bn bs (.slice ac d.ch.length cap) bu d).set 1 (ll bn bu (nmDo d.now c)))) (by exact (H1.out.drewN 1).cells _ _) 5 rfl (.tmp 14) (.tmp 16) 106 (by rfl) Tryz.underlying106 Bq (by decide) (by decide) (by rfl) (by rfl) (by exact Src.of_block (((H1.out.drewN 1).cells _ _).block 0 rfl) rfl) (fun u hu=>by simp at hu;rcases hu with rfl | rfl | rfl | rfl <;> assumption) (by omega) ?_
      intro v1 w3 ho1 hg1
      have hc1:w3.cell? ⟨bd,3,none⟩=some (.slice ac d.ch.length cap):=cell_of (ho1.block 2 rfl) rfl
      have hf1:w3.frozen? ⟨bd,3,none⟩=false:=aL (ho1.block 2 rfl)
      obtain⟨F1,hr1⟩:=ho1.get 5 rfl
      obtain⟨a1,MV,rfl,-,-,-⟩:=hr1.shape
      clear hr1
      have Jq:=Lib.hid ho1
      clear ho1 hg1))
 all_goals
  have h2:=(Jq.out.put 2 rfl 3 (.slice a1 (d.ch.length+1) MV)).drop.drop
  have HE:Hid (og d bd bn bs bu c F0 w0 (.returned (.tuple #[])) (w3.setCell ⟨bd,3,none⟩ (.slice a1 (d.ch.length+1) MV))):=Lib.hid ⟨rfl,_,by
   have e:jO bu (bq d c).ch=jO bu d.ch++[x0,x1,x2,x3]:=by
    rw [← HX.out];simp [bq,jO]
   have e2:(bq d c).ch.length=d.ch.length+1:=by simp [bq]
   unfold iC
   rw [e,e2]
   exact h2⟩
  clear h2 Jq
  go_wp2_with fail
  go_end0
  exact HE.out
end
section
variable {F0:List Nat} {w0 w:World} {R:List az}
theorem NJ {a:Nat} {f:FileD} (h:In F0 w0 w R) (i:Nat) (hA:R[i]?=some (ja a f)) (s:Nat):In F0 w0 (w.setCell ⟨a,1,none⟩ (.int .i64 s)) (R.set i (ja a ⟨f.b,s⟩)):=by
 have hi:=(List.getElem?_eq_some_iff.1 hA).1
 obtain⟨v,h1⟩:=h.file i hA
 have h2:=h1.put (b:=a) (C:=#[v,.int .i64 f.sure]) (T:=143) (i+1) (by simp [hi]) 1 (.int .i64 s)
 have h3:In F0 w0 (w.setCell ⟨a,1,none⟩ (.int .i64 s)) (ay 5 1 v f.b.length (eD f.b)::R.set i (Cells a #[v,.int .i64 s] 143)):=by
  simpa [List.set_set] using h2
 have:=In.Ka (a:=a) (v:=v) (f:=⟨f.b,s⟩) h3 i (by simp [hi])
 rwa [List.set_set] at this
theorem ZB {d:ae} {bd:Nat} {F:List Nat} (h:bJ bd d w F) (ho:d.ops≤100000000) (n:ByteArray) (hn:n.size≤maxLen) :
  Calls Tryz.prog 64 #[.pointer (some ⟨bd,0,none⟩),.string n] w (GV (.int .i64 (aW d n).2) (bJ bd (aW d n).1) w F):=by
 obtain⟨hok,bn,bs,dP,bu,hl,h⟩:=h
 have HC:=Lib.hid (zL (In.start iC.aA h) hok ho n hn)
 have hok':=gU hok n
 rcases iJ d n with ⟨e,h1,he⟩|⟨hf,i,h1,h2⟩
 ·have HP:Hid (∀ w',In F w w' (iC bd bn bs dP bu (aC d))→GV (.int .i64 (aW d n).2) (bJ bd (aW d n).1) w F (.returned (.int .i64 (ib d n))) w'):=
   Lib.hid fun w' h'=>by
    have e1:ib d n=e:=by
     unfold aW at h1;unfold ib
     by_cases hf:dE d
     ·rw [if_pos hf] at h1 ⊢;exact congrArg Prod.snd h1
     ·rw [if_neg hf] at h1 ⊢
      cases e2:bQ d.now n with
      | none=>rw [e2] at h1;exact congrArg Prod.snd h1
      | some i=>rw [e2] at h1;exfalso;have:(0:Int)=e:=congrArg Prod.snd h1;omega
    rw [e1,h1]
    exact fq h' (bY hok) hl
  have q:(ib d n == 0)=false:=by
   rw [beq_eq_false_iff_ne]
   unfold aW at h1;unfold ib
   by_cases hf:dE d
   ·rw [if_pos hf];decide
   ·rw [if_neg hf] at h1 ⊢
    cases e2:bQ d.now n with
    | none=>decide
    | some i=>rw [e2] at h1;exfalso;have:(0:Int)=e:=congrArg Prod.snd h1;omega
  clear h hok hok' hl h1 he
  go_enter Tryz.func64,Tryz.ntmps64
  go_wp2_with fail
  refine HC.out.mono ?_
  rintro e w1 ⟨rfl,h1⟩
  have HF:=Lib.hid (HP.out w1 h1)
  clear h1 HC HP
  generalize ib d n=fe at *
  go_wp2_with fail
  go_ret
  exact HF.out
 ·have HP:Hid (∀ w',In F w w' (iC bd bn bs dP bu (aC d))→GV (.int .i64 (aW d n).2) (bJ bd (aW d n).1) w F (.returned (.int .i64 0)) (w'.setCell ⟨bu.getD i 0,1,none⟩ (.int .i64 (d.files.getD i default).b.length))):=
   Lib.hid fun w' h'=>by
    have h3:=NJ h' (4+i) (lS (d:=aC d) hl (hok.at h1)) (d.files.getD i default).b.length
    have h4:=wL (bd:=bd) (bn:=bn) (bs:=bs) (dP:=dP) (d:=aC d) hl (hok.at h1) ⟨(d.files.getD i default).b,(d.files.getD i default).b.length⟩
    rw [h2]
    refine fq (dP:=dP) (bn:=bn) (bs:=bs) (bu:=bu) ?_ (by rw [h2] at hok';exact hok') (by simpa [iE,aC] using hl)
    rw [← h4];exact h3
  have CF:Hid (∀ w',In F w w' (iC bd bn bs dP bu (aC d))→∃ ad cap,w'.cell? ⟨bu.getD i 0,0,none⟩=some (.slice ad (d.files.getD i default).b.length cap)∧w'.frozen? ⟨bu.getD i 0,1,none⟩=false∧w'.cell? ⟨bu.getD i 0,1,none⟩=some (.int .i64 (d.files.getD i default).sure)):=
   Lib.hid fun w' h'=>by
    obtain⟨ad,cap,hb,_⟩:=EZ h' (4+i) (lS (d:=aC d) hl (hok.at h1))
    exact⟨ad,cap,cell_of hb rfl,aL hb,cell_of hb rfl⟩
  have e1:ib d n=0:=by unfold ib;rw [if_neg hf,h1];rfl
  have e2:Bo bu d n=.pointer (some ⟨bu.getD i 0,0,none⟩):=by unfold Bo;rw [if_neg hf,h1];rfl
  have HE:=Lib.hid (And.intro e1 e2)
  clear h hok hok' hl h1 h2 hf e1 e2
  go_enter Tryz.func64,Tryz.ntmps64
  go_wp2_with fail
  refine HC.out.mono ?_
  rintro e w1 ⟨rfl,h1⟩
  rw [HE.out.1,HE.out.2]
  have HF:=Lib.hid (HP.out w1 h1)
  obtain⟨ad,cap,c0,f1,c1⟩:=CF.out w1 h1
  clear h1 HC HP CF HE
  generalize bu.getD i 0=af at *
  generalize (d.files.getD i default).b.length=fl at *
  go_wp2_with fail
  go_ret
  exact HF.out
end
section
variable {F0:List Nat} {w0 w:World} {R:List az}
theorem vB (d:ae) (n:ByteArray):(ib d n≠0∧(dE d∨bQ d.now n=none))∨(ib d n=0∧¬ dE d∧∃ i,bQ d.now n=some i∧∀ bu,Bo bu d n=iK bu i):=by
 unfold ib Bo
 by_cases hf:dE d
 ·rw [if_pos hf];exact Or.inl ⟨by decide,Or.inl hf⟩
 ·rw [if_neg hf]
  cases e:bQ d.now n with
  | none=>exact Or.inl ⟨by decide,Or.inr rfl⟩
  | some i=>exact Or.inr ⟨rfl,hf,i,rfl,fun bu=>by rw [if_neg hf];rfl⟩
theorem Ik {d:ae} {n:ByteArray} (h:ib d n≠0):cZ d n=(aC d,ib d n):=by
 unfold ib at *;unfold cZ
 by_cases hf:dE d
 ·rw [if_pos hf,if_pos hf]
 ·rw [if_neg hf] at h ⊢;rw [if_neg hf]
  cases e:bQ d.now n with
  | none=>rfl
  | some i=>rw [e] at h;simp at h
theorem Il {d:ae} {n m:ByteArray} (h:ib d n≠0):bZ d n m=(aC d,ib d n):=by
 unfold ib at *;unfold bZ
 by_cases hf:dE d
 ·rw [if_pos hf,if_pos hf]
 ·rw [if_neg hf] at h ⊢;rw [if_neg hf]
  cases e:bQ d.now n with
  | none=>rfl
  | some i=>rw [e] at h;simp at h
theorem QT {d:ae} {n:ByteArray} {k:Int} (h:ib d n≠0):lI d n k=(aC d,ib d n):=by
 unfold ib at *;unfold lI
 by_cases hf:dE d
 ·rw [if_pos hf,if_pos hf]
 ·rw [if_neg hf] at h ⊢;rw [if_neg hf]
  cases e:bQ d.now n with
  | none=>rfl
  | some i=>rw [e] at h;simp at h
theorem QU {a b:ByteArray} (h:¬ a=b):(a.toList == b.toList)=false:=by
 rw [beq_eq_false_iff_ne,ByteArray.toList_eq,ByteArray.toList_eq];exact fun e=>h (Pn e)
theorem UA {d:ae} {bd:Nat} {F:List Nat} (h:bJ bd d w F) (ho:d.ops≤100000000) (n:ByteArray) (hn:n.size≤maxLen) :
  Calls Tryz.prog 96 #[.pointer (some ⟨bd,0,none⟩),.string n] w (GV (.int .i64 (cZ d n).2) (bJ bd (cZ d n).1) w F):=by
 obtain⟨hok,bn,bs,dP,bu,hl,h⟩:=h
 have HC:=Lib.hid (zL (In.start iC.aA h) hok ho n hn)
 have hok':=nS hok n
 rcases vB d n with ⟨hne,_⟩|⟨he,hf,i,h1,hv⟩
 ·have HP:Hid (∀ w',In F w w' (iC bd bn bs dP bu (aC d))→GV (.int .i64 (cZ d n).2) (bJ bd (cZ d n).1) w F (.returned (.int .i64 (ib d n))) w'):=
   Lib.hid fun w' h'=>by rw [Ik hne];exact fq h' (bY hok) hl
  have q:(ib d n == 0)=false:=beq_eq_false_iff_ne.2 hne
  clear h hok hok' hl hne
  go_enter Tryz.func96,Tryz.ntmps96
  go_wp2_with fail
  refine HC.out.mono ?_
  rintro e w1 ⟨rfl,h1⟩
  have HF:=Lib.hid (HP.out w1 h1)
  clear h1 HC HP
  generalize ib d n=fe at *
  go_wp2_with fail
  go_ret
  exact HF.out
 ·have e2:cZ d n=(bq (aC d) (.rem n),0):=by unfold cZ;rw [if_neg hf,h1]
  have HP:Hid (∀ w' v',In F w w' (iC bd bn bs v' bu (bq (aC d) (.rem n)))→GV (.int .i64 (cZ d n).2) (bJ bd (cZ d n).1) w F (.returned (.int .i64 0)) w'):=
   Lib.hid fun w' v' h'=>by rw [e2] at hok' ⊢;exact fq h' hok' hl
  have H2:Hid (∀ w',In F w w' (iC bd bn bs dP bu (aC d))→Calls Tryz.prog 167 #[.pointer (some ⟨bd,0,none⟩),.agg #[.int .i64 3,.string n,.string ByteArray.empty,.pointer none]] w' (og (aC d) bd bn bs bu (.rem n) F w)):=
   Lib.hid fun w' h'=>xZ h' (bY hok) (by show d.ops+1≤_;omega) (.rem n) hn (fun a b e=>by cases e)
  have HE:=Lib.hid (And.intro he (hv bu))
  clear h hok hok' hl e2 hf he hv h1
  go_enter Tryz.func96,Tryz.ntmps96
  go_wp2_with fail
  refine HC.out.mono ?_
  rintro e w1 ⟨rfl,h1⟩
  rw [HE.out.1,HE.out.2]
  have H3:=Lib.hid (H2.out w1 h1)
  clear h1 HC H2 HE
  unfold iK
  go_wp2_with fail
  refine H3.out.mono ?_
  rintro e w2 ⟨rfl,v',h2⟩
  have HF:=Lib.hid (HP.out w2 v' h2)
  clear h2 HP H3
  go_wp2_with fail
  go_ret
  exact HF.out
theorem UB {d:ae} {bd:Nat} {F:List Nat} (h:bJ bd d w F) (ho:d.ops≤100000000) (n m:ByteArray) (hn:n.size≤maxLen) (hm:m.size≤maxLen) :
  Calls Tryz.prog 152 #[.pointer (some ⟨bd,0,none⟩),.string n,.string m] w (GV (.int .i64 (bZ d n m).2) (bJ bd (bZ d n m).1) w F):=by
 obtain⟨hok,bn,bs,dP,bu,hl,h⟩:=h
 have HC:=Lib.hid (zL (In.start iC.aA h) hok ho n hn)
 have hok':=rq hok n m
 rcases vB d n with ⟨hne,_⟩|⟨he,hf,i,h1,hv⟩
 ·have HP:Hid (∀ w',In F w w' (iC bd bn bs dP bu (aC d))→GV (.int .i64 (bZ d n m).2) (bJ bd (bZ d n m).1) w F (.returned (.int .i64 (ib d n))) w'):=
   Lib.hid fun w' h'=>by rw [Il hne];exact fq h' (bY hok) hl
  have q:(ib d n != 0)=true:=by rw [bne_iff_ne];exact hne
  clear h hok hok' hl hne
  go_enter Tryz.func152,Tryz.ntmps152
  go_wp2_with fail
  refine HC.out.mono ?_
  rintro e w1 ⟨rfl,h1⟩
  have HF:=Lib.hid (HP.out w1 h1)
  clear h1 HC HP
  generalize ib d n=fe at *
  go_wp2_with fail
  go_ret
  exact HF.out
 ·have HN:=Lib.hid (Ih m hm)
  have HE:=Lib.hid (And.intro he (hv bu))
  by_cases hb:gQ m=true
  ·by_cases hnm:n=m
   ·have e2:bZ d n m=(aC d,0):=by unfold bZ;rw [if_neg hf,h1];simp [hb,hnm]
    have HP:Hid (∀ w',In F w w' (iC bd bn bs dP bu (aC d))→GV (.int .i64 (bZ d n m).2) (bJ bd (bZ d n m).1) w F (.returned (.int .i64 0)) w'):=
     Lib.hid fun w' h'=>by rw [e2] at hok' ⊢;exact fq h' hok' hl
    have HB:=Lib.hid hb
    clear h hok hok' hl e2 hf he hv h1 hb
    subst hnm
    go_enter Tryz.func152,Tryz.ntmps152
    go_wp2_with fail
    refine HC.out.mono ?_
    rintro e w1 ⟨rfl,h1⟩
    rw [HE.out.1,HE.out.2]
    have HF:=Lib.hid (HP.out w1 h1)
    clear h1 HC HE HP
    unfold iK
    go_wp2_with fail
    refine (HN.out w1).mono ?_
    rintro e w2 ⟨rfl,rfl⟩
    rw [HB.out]
    go_wp2_with fail
    go_ret
    exact HF.out
   ·have e2:bZ d n m=(bq (aC d) (.ren n m),0):=by unfold bZ;rw [if_neg hf,h1];simp [hb,hnm]
    have HP:Hid (∀ w' v',In F w w' (iC bd bn bs v' bu (bq (aC d) (.ren n m)))→GV (.int .i64 (bZ d n m).2) (bJ bd (bZ d n m).1) w F (.returned (.int .i64 0)) w'):=
     Lib.hid fun w' v' h'=>by rw [e2] at hok' ⊢;exact fq h' hok' hl
    have H2:Hid (∀ w',In F w w' (iC bd bn bs dP bu (aC d))→Calls Tryz.prog 167 #[.pointer (some ⟨bd,0,none⟩),.agg #[.int .i64 2,.string n,.string m,.pointer none]] w' (og (aC d) bd bn bs bu (.ren n m) F w)):=
     Lib.hid fun w' h'=>xZ h' (bY hok) (by show d.ops+1≤_;omega) (.ren n m) ⟨hn,hm⟩ (fun a b e=>by cases e;exact⟨i,h1⟩)
    have HB:=Lib.hid hb
    have q:(n.toList == m.toList)=false:=QU hnm
    clear h hok hok' hl e2 hf he hv h1 hb hnm
    go_enter Tryz.func152,Tryz.ntmps152
    go_wp2_with fail
    refine HC.out.mono ?_
    rintro e w1 ⟨rfl,h1⟩
    rw [HE.out.1,HE.out.2]
    have H3:=Lib.hid (H2.out w1 h1)
    clear h1 HC H2 HE
    unfold iK
    go_wp2_with fail
    refine (HN.out w1).mono ?_
    rintro e w2 ⟨rfl,rfl⟩
    rw [HB.out]
    go_wp2_with fail
    refine H3.out.mono ?_
    rintro e w2 ⟨rfl,v',h2⟩
    have HF:=Lib.hid (HP.out w2 v' h2)
    clear h2 HP H3
    go_wp2_with fail
    go_ret
    exact HF.out
  ·have hb':gQ m=false:=by simpa using hb
   have e2:bZ d n m=(aC d,1):=by unfold bZ;rw [if_neg hf,h1];simp [hb']
   have HP:Hid (∀ w',In F w w' (iC bd bn bs dP bu (aC d))→GV (.int .i64 (bZ d n m).2) (bJ bd (bZ d n m).1) w F (.returned (.int .i64 1)) w'):=
    Lib.hid fun w' h'=>by rw [e2] at hok' ⊢;exact fq h' hok' hl
   have HB:=Lib.hid hb'
   clear h hok hok' hl e2 hf he hv h1 hb hb'
   go_enter Tryz.func152,Tryz.ntmps152
   go_wp2_with fail
   refine HC.out.mono ?_
   rintro e w1 ⟨rfl,h1⟩
   rw [HE.out.1,HE.out.2]
   have HF:=Lib.hid (HP.out w1 h1)
   clear h1 HC HE HP
   unfold iK
   go_wp2_with fail
   refine (HN.out w1).mono ?_
   rintro e w2 ⟨rfl,rfl⟩
   rw [HB.out]
   go_wp2_with fail
   go_ret
   exact HF.out
end
section
variable {F0:List Nat} {w0 w:World} {R:List az}
theorem vC (b:Nat) (es:Array MapEntry) (clock:Nat) (w:World) (hb:w.heap[b]?=some (.map es clock)) :
  Calls Tryz.prog 88 #[.map (some b)] w fun e w'=>e=.returned (.map (some w.heap.size))∧w'=w.alloc (.map es clock):=by
 have hq:=fun w=>run_eql_map_nil_sl (P:=Tryz.prog) w 105 _ _ (some b) Tryz.underlying105
 go_enter Tryz.func88,Tryz.ntmps88
 go_wp2
 rw [run_callFunc_extern Tryz.func175 (by kernel_rfl) (by kernel_rfl) (by kernel_rfl) (e:=Extern.MapsClone.clone) (by kernel_rfl),run_maps_clone_sl w 105 hb]
 simp only [Result.andThen]
 rw [Oper.upon_value]
 go_wp2
 rw [run_typeAssert_map_sl _ 105 20 _ _ _ Tryz.underlying105]
 simp only [Result.andThen]
 rw [Oper.upon_value]
 go_wp2
 go_ret
 exact⟨rfl,rfl⟩
theorem qy {α:Type} {P:Program} {kt:TypeId} {ek ev:α→Value} {b:Nat} {L:List α} (h:In F0 w0 w R) (i:Nat) (hA:R[i]?=some (ji P kt ek ev b L)) :
  ∃ es clock,w.heap[b]?=some (.map es clock)∧In F0 w0 (w.alloc (.map es clock)) (ji P kt ek ev w.heap.size L::R):=by
 obtain⟨Fb,hFb⟩:=h.get i hA
 obtain⟨es,clock,h1,h2,h3⟩:=hFb.2.ex
 refine⟨es,clock,h1,?_⟩
 obtain⟨F,hs,hF⟩:=h.star
 have fr:=bC.star h.aA
 refine⟨fun B hB=>?_,⟨[w.heap.size]++F,⟨[w.heap.size],F,⟨rfl,⟨es,clock,dO,h2,h3⟩⟩,fr.keep hs (fun b hb=>eF (fr.lt hs b hb)),?_,rfl⟩,?_⟩,h.mod.alloc _⟩
 ·rcases List.mem_cons.1 hB with rfl | hB
  ·exact ji.aA _ _
  ·exact h.aA B hB
 ·intro b hb OY
  simp at hb;subst hb
  exact absurd (fr.lt hs _ OY) (by omega)
 ·intro b hb
  simp at hb
  rcases hb with rfl | hb
  ·exact Or.inr h.mod.size
  ·exact hF b hb
theorem QV {d:ae} {bd:Nat} {F:List Nat} (h:bJ bd d w F) (ho:d.ops≤100000000) :
  Calls Tryz.prog 84 #[.pointer (some ⟨bd,0,none⟩)] w (GV (.int .i64 (bE d).2) (bJ bd (bE d).1) w F):=by
 obtain⟨hok,bn,bs,dP,bu,hl,h⟩:=h
 have HC:=Lib.hid (Bn (In.start iC.aA h) 0 iV hok ho)
 have hok':=yN hok
 rcases gz d with h1 | ⟨hf,h1⟩
 ·have ht:nZ d=8:=by
   unfold nZ;unfold bE at h1
   by_cases hf:dE d
   ·rw [if_pos hf]
   ·rw [if_neg hf] at h1;have h2:(0:Int)=8:=congrArg Prod.snd h1;omega
  have HP:Hid (∀ w',In F w w' (iC bd bn bs dP bu (aC d))→GV (.int .i64 (bE d).2) (bJ bd (bE d).1) w F (.returned (.int .i64 8)) w'):=
   Lib.hid fun w' h'=>by rw [h1] at hok' ⊢;exact fq h' hok' hl
  have HE:=Lib.hid ht
  clear h hok hok' hl h1 ht
  go_enter Tryz.func84,Tryz.ntmps84
  go_wp2_with fail
  refine HC.out.mono ?_
  rintro e w1 ⟨rfl,h1⟩
  rw [kC] at h1
  rw [HE.out]
  have HF:=Lib.hid (HP.out w1 h1)
  clear h1 HC HP HE
  go_wp2_with fail
  go_ret
  exact HF.out
 ·have ht:nZ d=0:=by unfold nZ;rw [if_neg hf]
  have HP:Hid (∀ w' bs',In F w w' (iC bd bn bs' (.slice none 0 0) bu (ma (aC d)))→GV (.int .i64 (bE d).2) (bJ bd (bE d).1) w F (.returned (.int .i64 0)) w'):=
   Lib.hid fun w' bs' h'=>by rw [h1] at hok' ⊢;exact fq h' hok' hl
  have HE:=Lib.hid ht
  clear h hok hok' hl h1 ht hf
  go_enter Tryz.func84,Tryz.ntmps84
  go_wp2_with fail
  refine HC.out.mono ?_
  rintro e w1 ⟨rfl,h1⟩
  rw [kC] at h1
  rw [HE.out]
  have c1:w1.cell? ⟨bd,1,none⟩=some (.map (some bn)):=cell_of (h1.block 0 rfl) rfl
  obtain⟨es,clock,hb,h2⟩:=qy h1 1 rfl
  have C2:=Lib.hid (vC bn es clock w1 hb)
  have g0:=h2.block 1 rfl
  have c2:(w1.alloc (.map es clock)).cell? ⟨bd,2,none⟩=some (.map (some bs)):=cell_of g0 rfl
  have c3:(w1.alloc (.map es clock)).cell? ⟨bd,3,none⟩=some dP:=cell_of g0 rfl
  have f2:(w1.alloc (.map es clock)).frozen? ⟨bd,2,none⟩=false:=aL g0
  have f3:(w1.alloc (.map es clock)).frozen? ⟨bd,3,none⟩=false:=aL g0
  have h3:=((h2.put 1 rfl 2 (.map (some w1.heap.size))).put 1 rfl 3 (.slice none 0 0))
  have h4:In F w (((w1.alloc (.map es clock)).setCell ⟨bd,2,none⟩ (.map (some w1.heap.size))).setCell ⟨bd,3,none⟩ (.slice none 0 0)) (iC bd bn w1.heap.size (.slice none 0 0) bu (ma (aC d))):=by
   have h5:=h3.dG 136 4
   exact In.aI (R1:=[ay 136 4 (.slice none 0 0) 0 [],ll w1.heap.size bu d.now,Cells bd (gX (ma (aC d)) bn w1.heap.size (.slice none 0 0)) 108,ll bn bu d.now,ll bs bu d.sure,ay 136 4 dP d.ch.length (jO bu d.ch)]) (R2:=iU bu d.files) h5 [2,3,1,0] (by decide) rfl
  have HF:=Lib.hid (HP.out _ _ h4)
  clear h1 h2 h3 h4 HC HP HE hb g0
  go_wp2_with fail
  refine C2.out.mono ?_
  rintro e w2 ⟨rfl,rfl⟩
  go_wp2_with fail
  go_ret
  exact HF.out
end
section
variable {F0:List Nat} {w0 w:World} {R:List az}
theorem Br {a:Nat} {f:FileD} {v v':Value} {bs:List UInt8} (i:Nat) (hi:i < R.length) (h:In F0 w0 w (ay 5 1 v' (f.b.length+bs.length) (eD f.b++eD bs)::R.set i (Cells a #[v,.int .i64 f.sure] 143))) :
  In F0 w0 (w.setCell ⟨a,0,none⟩ v') (R.set i (ja a ⟨f.b++bs,f.sure⟩)):=by
 have h2:=h.put (b:=a) (C:=#[v,.int .i64 f.sure]) (T:=143) (i+1) (by simp [hi]) 0 v'
 have h3:In F0 w0 (w.setCell ⟨a,0,none⟩ v') (ay 5 1 v' (f.b++bs).length (eD (f.b++bs))::R.set i (Cells a #[v',.int .i64 f.sure] 143)):=by
  rw [List.length_append,← uI]
  simpa [List.set_set] using h2
 have:=In.Ka (a:=a) (v:=v') (f:=⟨f.b++bs,f.sure⟩) h3 i (by simp [hi])
 rwa [List.set_set] at this
theorem UC {d:ae} {bd bn bs a:Nat} {dP:Value} {bu:List Nat} (h:In F0 w0 w (ja a ⟨[],0⟩::iC bd bn bs dP bu d)) (hok:aP d) (hl:bu.length=d.files.length):In F0 w0 w (iC bd bn bs dP (bu++[a]) (dR d)):=by
 have hev:∀ (N:gF),lJ N d.files.length→∀ x∈N,Wt (bu++[a]) x=Wt bu x:=fun N hN x hx=>Bj (by rw [hl];exact hN.lt x hx) a
 have h1:=h.imp 2 (A':=ll bn (bu++[a]) d.now) rfl (ji.aA _ _) (fun F hF=>ji.ev hF (hev _ hok.now))
 have h2:=h1.imp 3 (A':=ll bs (bu++[a]) d.sure) rfl (ji.aA _ _) (fun F hF=>ji.ev hF (hev _ hok.Zu))
 have e:jO (bu++[a]) d.ch=jO bu d.ch:=Kb (fun c hc=>by rw [hl];exact QO hok.xH c hc) a
 have e2:iC bd bn bs dP (bu++[a]) (dR d)=[Cells bd (gX d bn bs dP) 108,ll bn (bu++[a]) d.now,ll bs (bu++[a]) d.sure,ay 136 4 dP d.ch.length (jO bu d.ch)]++(iU bu d.files++[ja a ⟨[],0⟩]):=by
  unfold iC
  have:iU (bu++[a]) (dR d).files=iU bu d.files++[ja a ⟨[],0⟩]:=by
   unfold iU dR
   exact List.zipWith_append hl
  rw [this,← e];rfl
 rw [e2]
 refine h2.perm ?_
 refine List.Perm.trans ?_ (List.Perm.append_left _ List.perm_append_comm)
 exact (List.perm_middle (l₁:=[Cells bd (gX d bn bs dP) 108,ll bn (bu++[a]) d.now,ll bs (bu++[a]) d.sure,ay 136 4 dP d.ch.length (jO bu d.ch)])).symm
def XG (d d':ae) (r:Int) (bd:Nat) (F:List Nat) (w:World) (e:Ending) (w':World):Prop:=GV (.int .i64 r) (bJ bd d') w F e w'
theorem Ml {d:ae} {bd:Nat} {F:List Nat} (h:bJ bd d w F) (ho:d.ops≤100000000) (n:ByteArray) (hn:n.size≤maxLen) {A:Option Addr} {c:Nat} {bs:List UInt8} (hm:bs.length≤10000000) (hs:∀ w',Mod F w w'→Src w' A bs.length 1 (eD bs)) :
  Calls Tryz.prog 77 #[.pointer (some ⟨bd,0,none⟩),.string n,.slice A bs.length c] w (GV (.int .i64 (aH d n bs).2) (bJ bd (aH d n bs).1) w F):=by
 obtain⟨hok,bn,yg,dP,bu,hl,h⟩:=h
 have HC:=Lib.hid (Bn (In.start iC.aA h) 0 iV hok ho)
 have hok':=Lib.hid (iy hok n bs)
 have mD:=Lib.hid hok
 have HL:=Lib.hid hl
 have HN:=Lib.hid (Ih n hn)
 have HS:=Lib.hid hs
 have Ph:Hid (∀ w',In F w w' (iC bd bn yg dP bu (aC d))→w'.cell? ⟨bd,1,none⟩=some (.map (some bn))∧(Instr.lookup 105 (.map (some bn)) (.string n) false).run Tryz.prog w'=.ok (lookV bu (bQ d.now n)) w'):=
  Lib.hid fun w' h'=>⟨cell_of (h'.block 0 iV) rfl,wM h' 1 uh mD.out.now.row hn⟩
 clear h hok hl hs
 by_cases hf:dE d
 ·have e2:aH d n bs=(aC d,8):=by unfold aH;rw [if_pos hf]
  have HP:Hid (∀ w',In F w w' (iC bd bn yg dP bu (aC d))→GV (.int .i64 (aH d n bs).2) (bJ bd (aH d n bs).1) w F (.returned (.int .i64 8)) w'):=
   Lib.hid fun w' h'=>by have:=hok'.out;rw [e2] at this ⊢;exact fq h' this HL.out
  have HE:Hid (nZ d=8):=Lib.hid (by rw [nZ,if_pos hf])
  clear hf e2
  go_enter Tryz.func77,Tryz.ntmps77
  go_wp2_with fail
  refine HC.out.mono ?_
  rintro e w1 ⟨rfl,h1⟩
  rw [kC] at h1
  rw [HE.out]
  have HF:=Lib.hid (HP.out w1 h1)
  clear h1 HC HP HE
  go_wp2_with fail
  go_ret
  exact HF.out
 ·have HE:Hid (nZ d=0):=Lib.hid (by rw [nZ,if_neg hf])
  by_cases hnm:gQ n=true
  ·have HB:=Lib.hid hnm
   cases e1:bQ d.now n with
   | some i=>
    have hi:=mD.out.at e1
    by_cases hr:jW d (some i) bs.length=true
    ·have e2:aH d n bs=(je (aC d) i bs,0):=by unfold aH;rw [if_neg hf,e1];simp [hnm,hr]
     have HP:Hid (∀ w',In F w w' (iC bd bn yg dP bu (je (aC d) i bs))→GV (.int .i64 (aH d n bs).2) (bJ bd (aH d n bs).1) w F (.returned (.int .i64 0)) w'):=
      Lib.hid fun w' h'=>by have:=hok'.out;rw [e2] at this ⊢;exact fq h' this (by simpa [je,iE,aC] using HL.out)
     have HR:=Lib.hid (fun w1 (h1:In F w w1 (iC bd bn yg dP bu (aC d)))=>wN h1 (bY mD.out) HL.out hi (k:=bs.length) (by omega))
     have hr':jW (aC d) (some i) bs.length=true:=hr
     have QW:=Lib.hid hr'
     have QX:=Lib.hid e1
     have hfl:=(mD.out.file _ (jf hi)).1
     clear hf e2 hnm e1 hr hr'
     go_enter Tryz.func77,Tryz.ntmps77
     go_wp2_with fail
     refine HC.out.mono ?_
     rintro e w1 ⟨rfl,h1⟩
     rw [kC] at h1
     rw [HE.out]
     obtain⟨c1,l1⟩:=Ph.out w1 h1
     rw [QX.out] at l1
     have HR1:=Lib.hid (HR.out w1 h1)
     obtain⟨af,wP⟩:∃ af,bu.getD i 0=af:=⟨_,rfl⟩
     simp only [lookV,iK,wP] at l1 HR1
     have XH:=Lib.hid wP
     have HH:=Lib.hid h1
     clear h1 HC HE Ph HR QX wP
     go_wp2_with fail
     refine (HN.out w1).mono ?_
     rintro e w2 ⟨rfl,rfl⟩
     rw [HB.out]
     go_wp2_with fail
     refine HR1.out.mono ?_
     rintro e w3 ⟨rfl,h3⟩
     rw [QW.out]
     have hF:=lS (bd:=bd) (bn:=bn) (bs:=yg) (dP:=dP) (d:=aC d) HL.out hi
     rw [XH.out] at hF
     obtain⟨v,h4⟩:=h3.file (4+i) hF
     obtain⟨Fv,hv⟩:=h4.get 0 rfl
     obtain⟨av,cv,rfl,k1,k2,-⟩:=hv.shape
     have hlen:4+i < (iC bd bn yg dP bu (aC d)).length:=(List.getElem?_eq_some_iff.1 hF).1
     have jw:=Lib.hid hlen
     have hbk:=h4.block (4+i+1) (b:=af) (C:=#[.slice av (d.files.getD i default).b.length cv,.int .i64 (d.files.getD i default).sure]) (T:=143) (by rw [List.getElem?_cons_succ,List.getElem?_set_self hlen];rfl)
     have c0:w3.cell? ⟨af,0,none⟩=some (.slice av (d.files.getD i default).b.length cv):=cell_of hbk rfl
     have H4:=Lib.hid h4
     have SS:=Lib.hid (HS.out w3 h3.mod)
     clear h3 h4 hv hbk hF HR1 QW HH hlen
     have ZC:Hid (∀ w' v',In F w w' (ay 5 1 v' ((d.files.getD i default).b.length+bs.length) (eD (d.files.getD i default).b++eD bs)::(iC bd bn yg dP bu (aC d)).set (4+i) (Cells af #[.slice av (d.files.getD i default).b.length cv,.int .i64 (d.files.getD i default).sure] 143)) →
       w'.cell? ⟨af,0,none⟩=some (.slice av (d.files.getD i default).b.length cv)∧w'.frozen? ⟨af,0,none⟩=false∧GV (.int .i64 (aH d n bs).2) (bJ bd (aH d n bs).1) w F (.returned (.int .i64 0)) (w'.setCell ⟨af,0,none⟩ v')):=Lib.hid fun w' v' h'=>by
      have hb:=h'.block (4+i+1) (b:=af) (C:=#[.slice av (d.files.getD i default).b.length cv,.int .i64 (d.files.getD i default).sure]) (T:=143) (by rw [List.getElem?_cons_succ,List.getElem?_set_self jw.out])
      refine⟨cell_of hb rfl,aL hb,HP.out _ ?_⟩
      have h2:=Br (f:=d.files.getD i default) (4+i) jw.out h'
      have h5:=wL (bd:=bd) (bn:=bn) (bs:=yg) (dP:=dP) (d:=aC d) HL.out hi ⟨(d.files.getD i default).b++bs,(d.files.getD i default).sure⟩
      rw [XH.out] at h5
      unfold je
      rw [show (aC d).files=d.files from rfl,← h5]
      exact h2
     clear HP
     have H5:Hid (In F w w3 (ay 5 1 (.slice av (d.files.getD i default).b.length cv) (d.files.getD i default).b.length (eD (d.files.getD i default).b)::(iC bd bn yg dP bu (aC d)).set (4+i) (Cells af #[.slice av (d.files.getD i default).b.length cv,.int .i64 (d.files.getD i default).sure] 143))):=H4
     clear H4
     generalize (d.files.getD i default)=f at *
     go_wp2_with (at_builtin;refine iP rfl H5.out 0 rfl (.tmp 42) (.tmp 43) 23 (by rfl) Tryz.underlying23 infoByte (by decide) (by decide) (by rfl) (by rfl) SS.out (vP _) (by omega) ?_)
     intro v' w4 h5 hg
     obtain⟨Fw,hw⟩:=h5.get 0 rfl
     obtain⟨aw,cw,rfl,-,-,-⟩:=hw.shape
     obtain⟨d0,d1,hfin⟩:=ZC.out w4 _ h5
     have HF:=Lib.hid hfin
     clear h5 hw hfin hg H5 SS ZC
     go_wp2_with fail
     go_ret
     exact HF.out
    ·have hr':jW d (some i) bs.length=false:=by simpa using hr
     have e2:aH d n bs=(aC d,7):=by unfold aH;rw [if_neg hf,e1];simp [hnm,hr']
     have HP:Hid (∀ w',In F w w' (iC bd bn yg dP bu (aC d))→GV (.int .i64 (aH d n bs).2) (bJ bd (aH d n bs).1) w F (.returned (.int .i64 7)) w'):=
      Lib.hid fun w' h'=>by have:=hok'.out;rw [e2] at this ⊢;exact fq h' this HL.out
     have HR:=Lib.hid (fun w1 (h1:In F w w1 (iC bd bn yg dP bu (aC d)))=>wN h1 (bY mD.out) HL.out hi (k:=bs.length) (by omega))
     have hr2:jW (aC d) (some i) bs.length=false:=hr'
     have QW:=Lib.hid hr2
     have QX:=Lib.hid e1
     clear hf e2 hnm e1 hr hr' hr2
     go_enter Tryz.func77,Tryz.ntmps77
     go_wp2_with fail
     refine HC.out.mono ?_
     rintro e w1 ⟨rfl,h1⟩
     rw [kC] at h1
     rw [HE.out]
     obtain⟨c1,l1⟩:=Ph.out w1 h1
     rw [QX.out] at l1
     have HR1:=Lib.hid (HR.out w1 h1)
     obtain⟨af,wP⟩:∃ af,bu.getD i 0=af:=⟨_,rfl⟩
     simp only [lookV,iK,wP] at l1 HR1
     clear h1 HC HE Ph HR QX wP
     go_wp2_with fail
     refine (HN.out w1).mono ?_
     rintro e w2 ⟨rfl,rfl⟩
     rw [HB.out]
     go_wp2_with fail
     refine HR1.out.mono ?_
     rintro e w3 ⟨rfl,h3⟩
     rw [QW.out]
     have HF:=Lib.hid (HP.out w3 h3)
     clear h3 HR1 QW HP
     go_wp2_with fail
     go_ret
     exact HF.out
   | none=>
    by_cases hr:jW d none bs.length=true
    ·have e2:aH d n bs=(je (bq (dR (aC d)) (.made n d.files.length)) d.files.length bs,0):=by unfold aH;rw [if_neg hf,e1];simp [hnm,hr]
     have HP:Hid (∀ w' v' Im,Im.length=d.files.length+1→In F w w' (iC bd bn yg v' Im (je (bq (dR (aC d)) (.made n d.files.length)) d.files.length bs))→GV (.int .i64 (aH d n bs).2) (bJ bd (aH d n bs).1) w F (.returned (.int .i64 0)) w'):=
      Lib.hid fun w' v' Im hl' h'=>by have:=hok'.out;rw [e2] at this ⊢;exact fq h' this (by simpa [je,iE,aC,bq,dR] using hl')
     have HR:=Lib.hid (fun w1 (h1:In F w w1 (iC bd bn yg dP bu (aC d)))=>wO h1 (bY mD.out) HL.out (k:=bs.length) (by omega))
     have hr':jW (aC d) none bs.length=true:=hr
     have QW:=Lib.hid hr'
     have QX:=Lib.hid e1
     have hgk:aP (dR (aC d)):=by
      have h:=bY mD.out
      refine⟨h.dY,fun f hf=>?_,Da h.xH (by simp [dR]),h.wm,by have:=mD.out.Ew;simp [dR,aC];omega,h.fail,h.Np⟩
      rcases List.mem_append.1 hf with hf | hf
      ·exact h.file f hf
      ·simp at hf;subst hf;simp
     have HGK:=Lib.hid hgk
     have HG:Hid (∀ w1,In F w w1 (iC bd bn yg dP bu (aC d))→In F w (w1.alloc (.cells #[.slice none 0 0,.int .i64 0] 143)) (iC bd bn yg dP (bu++[w1.heap.size]) (dR (aC d)))):=Lib.hid fun w1 h1=>by
      have h2:=(h1.cells #[.slice none 0 0,.int .i64 0] 143).dG 5 1
      have h3:=In.fold (C:=ja w1.heap.size ⟨[],0⟩) h2 0 rfl (ja.aA _ _) (fun F hF=>⟨_,hF⟩)
      exact UC h3 (bY mD.out) HL.out
     have HCH:Hid (∀ w1 Im,In F w w1 (iC bd bn yg dP Im (dR (aC d)))→Calls Tryz.prog 167 #[.pointer (some ⟨bd,0,none⟩),Kh Im (.made n d.files.length)] w1 (og (dR (aC d)) bd bn yg Im (.made n d.files.length) F w)):=
      Lib.hid fun w1 Im h1=>xZ h1 HGK.out (by show d.ops+1≤_;omega) (.made n d.files.length) hn (fun a b e=>by cases e)
     clear hf e2 hnm e1 hr hr' hgk
     go_enter Tryz.func77,Tryz.ntmps77
     go_wp2_with fail
     refine HC.out.mono ?_
     rintro e w1 ⟨rfl,h1⟩
     rw [kC] at h1
     rw [HE.out]
     obtain⟨c1,l1⟩:=Ph.out w1 h1
     rw [QX.out] at l1
     have HR1:=Lib.hid (HR.out w1 h1)
     simp only [lookV] at l1
     clear h1 HC HE Ph HR QX
     go_wp2_with fail
     refine (HN.out w1).mono ?_
     rintro e w2 ⟨rfl,rfl⟩
     rw [HB.out]
     go_wp2_with fail
     refine HR1.out.mono ?_
     rintro e w3 ⟨rfl,h3⟩
     rw [QW.out]
     have h4:=HG.out w3 h3
     have hp:iK (bu++[w3.heap.size]) d.files.length=.pointer (some ⟨w3.heap.size,0,none⟩):=by
      unfold iK;rw [← HL.out];simp
     have hc:=HCH.out _ _ h4
     unfold Kh at hc
     simp only [encC,hp] at hc
     have HCC:=Lib.hid hc
     clear h3 h4 hc HR1 QW HG HCH hp
     go_wp2_with fail
     refine HCC.out.mono ?_
     rintro e w4 ⟨rfl,v',h4⟩
     have hi:d.files.length < (bq (dR (aC d)) (.made n d.files.length)).files.length:=by simp [bq,dR,aC]
     have hl2:(bu++[w3.heap.size]).length=(bq (dR (aC d)) (.made n d.files.length)).files.length:=by simp [bq,dR,aC,HL.out]
     have hfd:(bq (dR (aC d)) (.made n d.files.length)).files.getD d.files.length default=⟨[],0⟩:=by simp [bq,dR,aC]
     have wP:(bu++[w3.heap.size]).getD d.files.length 0=w3.heap.size:=by rw [← HL.out];simp
     have hF:=lS (bd:=bd) (bn:=bn) (bs:=yg) (dP:=v') hl2 hi
     rw [hfd,wP] at hF
     obtain⟨v,h5⟩:=h4.file (4+d.files.length) hF
     obtain⟨Fv,hv⟩:=h5.get 0 rfl
     obtain⟨av,cv,rfl,k1,k2,-⟩:=hv.shape
     have hlen:4+d.files.length < (iC bd bn yg v' (bu++[w3.heap.size]) (bq (dR (aC d)) (.made n d.files.length))).length:=(List.getElem?_eq_some_iff.1 hF).1
     have jw:=Lib.hid hlen
     have hbk:=h5.block (4+d.files.length+1) (b:=w3.heap.size) (C:=#[.slice av 0 cv,.int .i64 (0:Nat)]) (T:=143) (by rw [List.getElem?_cons_succ,List.getElem?_set_self hlen];rfl)
     have c0:w4.cell? ⟨w3.heap.size,0,none⟩=some (.slice av 0 cv):=cell_of hbk rfl
     have SS:=Lib.hid (HS.out w4 h4.mod)
     have ZC:Hid (∀ w' v'',In F w w' (ay 5 1 v'' ((0:Nat)+bs.length) (eD []++eD bs)::(iC bd bn yg v' (bu++[w3.heap.size]) (bq (dR (aC d)) (.made n d.files.length))).set (4+d.files.length) (Cells w3.heap.size #[.slice av 0 cv,.int .i64 (0:Nat)] 143)) →
       w'.cell? ⟨w3.heap.size,0,none⟩=some (.slice av 0 cv)∧w'.frozen? ⟨w3.heap.size,0,none⟩=false∧GV (.int .i64 (aH d n bs).2) (bJ bd (aH d n bs).1) w F (.returned (.int .i64 0)) (w'.setCell ⟨w3.heap.size,0,none⟩ v'')):=Lib.hid fun w' v'' h'=>by
      have hb:=h'.block (4+d.files.length+1) (b:=w3.heap.size) (C:=#[.slice av 0 cv,.int .i64 (0:Nat)]) (T:=143) (by rw [List.getElem?_cons_succ,List.getElem?_set_self jw.out])
      refine⟨cell_of hb rfl,aL hb,HP.out _ v' (bu++[w3.heap.size]) (by simp [HL.out]) ?_⟩
      have h2:=Br (f:=⟨[],0⟩) (bs:=bs) (4+d.files.length) jw.out h'
      have h5:=wL (bd:=bd) (bn:=bn) (bs:=yg) (dP:=v') hl2 hi ⟨[]++bs,0⟩
      rw [wP] at h5
      unfold je
      rw [hfd,← h5]
      exact h2
     have H5:Hid (In F w w4 (ay 5 1 (.slice av 0 cv) 0 (eD [])::(iC bd bn yg v' (bu++[w3.heap.size]) (bq (dR (aC d)) (.made n d.files.length))).set (4+d.files.length) (Cells w3.heap.size #[.slice av 0 cv,.int .i64 (0:Nat)] 143))):=Lib.hid h5
     clear h4 h5 hv hbk hF hlen hi hl2 hfd wP HCC HP
     go_wp2_with (at_builtin;refine iP rfl H5.out 0 rfl (.tmp 42) (.tmp 43) 23 (by rfl) Tryz.underlying23 infoByte (by decide) (by decide) (by rfl) (by rfl) SS.out (vP _) (by omega) ?_)
     intro v2 w5 h6 hg
     obtain⟨Fw,hw⟩:=h6.get 0 rfl
     obtain⟨aw,cw,rfl,-,-,-⟩:=hw.shape
     obtain⟨d0,d1,hfin⟩:=ZC.out w5 _ (by rw [Nat.zero_add];exact h6)
     have HF:=Lib.hid hfin
     clear h6 hw hfin hg H5 SS ZC
     go_wp2_with fail
     go_ret
     exact HF.out
    ·have hr':jW d none bs.length=false:=by simpa using hr
     have e2:aH d n bs=(aC d,7):=by unfold aH;rw [if_neg hf,e1];simp [hnm,hr']
     have HP:Hid (∀ w',In F w w' (iC bd bn yg dP bu (aC d))→GV (.int .i64 (aH d n bs).2) (bJ bd (aH d n bs).1) w F (.returned (.int .i64 7)) w'):=
      Lib.hid fun w' h'=>by have:=hok'.out;rw [e2] at this ⊢;exact fq h' this HL.out
     have HR:=Lib.hid (fun w1 (h1:In F w w1 (iC bd bn yg dP bu (aC d)))=>wO h1 (bY mD.out) HL.out (k:=bs.length) (by omega))
     have hr2:jW (aC d) none bs.length=false:=hr'
     have QW:=Lib.hid hr2
     have QX:=Lib.hid e1
     clear hf e2 hnm e1 hr hr' hr2
     go_enter Tryz.func77,Tryz.ntmps77
     go_wp2_with fail
     refine HC.out.mono ?_
     rintro e w1 ⟨rfl,h1⟩
     rw [kC] at h1
     rw [HE.out]
     obtain⟨c1,l1⟩:=Ph.out w1 h1
     rw [QX.out] at l1
     have HR1:=Lib.hid (HR.out w1 h1)
     simp only [lookV] at l1
     clear h1 HC HE Ph HR QX
     go_wp2_with fail
     refine (HN.out w1).mono ?_
     rintro e w2 ⟨rfl,rfl⟩
     rw [HB.out]
     go_wp2_with fail
     refine HR1.out.mono ?_
     rintro e w3 ⟨rfl,h3⟩
     rw [QW.out]
     have HF:=Lib.hid (HP.out w3 h3)
     clear h3 HR1 QW HP
     go_wp2_with fail
     go_ret
     exact HF.out
  ·have hb':gQ n=false:=by simpa using hnm
   have e2:aH d n bs=(aC d,1):=by unfold aH;rw [if_neg hf];simp [hb']
   have HP:Hid (∀ w',In F w w' (iC bd bn yg dP bu (aC d))→GV (.int .i64 (aH d n bs).2) (bJ bd (aH d n bs).1) w F (.returned (.int .i64 1)) w'):=
    Lib.hid fun w' h'=>by have:=hok'.out;rw [e2] at this ⊢;exact fq h' this HL.out
   have HB:=Lib.hid hb'
   clear hf e2 hnm hb'
   go_enter Tryz.func77,Tryz.ntmps77
   go_wp2_with fail
   refine HC.out.mono ?_
   rintro e w1 ⟨rfl,h1⟩
   rw [kC] at h1
   rw [HE.out]
   have HF:=Lib.hid (HP.out w1 h1)
   clear h1 HC HE Ph HP
   go_wp2_with fail
   refine (HN.out w1).mono ?_
   rintro e w2 ⟨rfl,rfl⟩
   rw [HB.out]
   go_wp2_with fail
   go_ret
   exact HF.out
end
section
variable {F0:List Nat} {w0 w:World} {R:List az}
variable {bd:Nat} {d:ae}
abbrev aD (bd:Nat):Value:=.pointer (some ⟨bd,0,none⟩)
theorem oU (h:In F0 w0 w R) (i:Nat) (hA:R[i]?=some (bJ bd d)) (ho:d.ops≤100000000) (n:ByteArray) (hn:n.size≤maxLen) :
  Calls Tryz.prog 64 #[aD bd,.string n] w fun e w'=>e=.returned (.int .i64 (aW d n).2)∧In F0 w0 w' (R.set i (bJ bd (aW d n).1)):=
 qN h i hA (bJ.aA _ _) fun F hF=>ZB hF ho n hn
theorem yh (h:In F0 w0 w R) (i:Nat) (hA:R[i]?=some (bJ bd d)) (ho:d.ops≤100000000) (n:ByteArray) (hn:n.size≤maxLen) :
  Calls Tryz.prog 96 #[aD bd,.string n] w fun e w'=>e=.returned (.int .i64 (cZ d n).2)∧In F0 w0 w' (R.set i (bJ bd (cZ d n).1)):=
 qN h i hA (bJ.aA _ _) fun F hF=>UA hF ho n hn
theorem NK (h:In F0 w0 w R) (i:Nat) (hA:R[i]?=some (bJ bd d)) (ho:d.ops≤100000000) (n m:ByteArray) (hn:n.size≤maxLen) (hm:m.size≤maxLen) :
  Calls Tryz.prog 152 #[aD bd,.string n,.string m] w fun e w'=>e=.returned (.int .i64 (bZ d n m).2)∧In F0 w0 w' (R.set i (bJ bd (bZ d n m).1)):=
 qN h i hA (bJ.aA _ _) fun F hF=>UB hF ho n m hn hm
theorem vD (h:In F0 w0 w R) (i:Nat) (hA:R[i]?=some (bJ bd d)) (ho:d.ops≤100000000) :
  Calls Tryz.prog 84 #[aD bd] w fun e w'=>e=.returned (.int .i64 (bE d).2)∧In F0 w0 w' (R.set i (bJ bd (bE d).1)):=
 qN h i hA (bJ.aA _ _) fun F hF=>QV hF ho
theorem uj (h:In F0 w0 w R) (i:Nat) (hA:R[i]?=some (bJ bd d)) (ho:d.ops≤100000000) (n:ByteArray) (hn:n.size≤maxLen) (j:Nat) (hij:j≠i) {a:Option Addr} {c:Nat} {bs:List UInt8} (hB:R[j]?=some (ay 5 1 (.slice a bs.length c) bs.length (eD bs))) (hm:bs.length≤10000000) :
  Calls Tryz.prog 77 #[aD bd,.string n,.slice a bs.length c] w fun e w'=>e=.returned (.int .i64 (aH d n bs).2)∧In F0 w0 w' (R.set i (bJ bd (aH d n bs).1)):=
 Gw h i hA (bJ.aA _ _) fun F G hF hG hFG _=>by
  refine Ml hF ho n hn hm fun w' hw'=>?_
  obtain⟨k,hk⟩:∃ k:Nat,(R.eraseIdx i)[k]?=some (ay 5 1 (.slice a bs.length c) bs.length (eD bs)):=by
   have:ay 5 1 (.slice a bs.length c) bs.length (eD bs)∈R.eraseIdx i:=List.mem_eraseIdx_iff_getElem?.2 ⟨j,hij,hB⟩
   exact List.mem_iff_getElem?.1 this
  obtain⟨G',⟨G1,G2,g1,g2,g3,rfl⟩,hp⟩:=CE (front hk) hG
  have g4:ay 5 1 (.slice a bs.length c) bs.length (eD bs) w' G1:=(ay.aA _ _ _ _ _).keep g1 (fun b hb=>hw'.block b ((ay.aA _ _ _ _ _).lt g1 b hb) (fun OY=>hFG b OY (hp.mem_iff.2 (List.mem_append_left _ hb))))
  exact g4.all
theorem Cr (h:In F0 w0 w R) (i:Nat) (hA:R[i]?=some (bJ bd d)) (ho:d.ops≤100000000) (n:ByteArray) (hn:n.size≤maxLen) :
  Calls Tryz.prog 77 #[aD bd,.string n,.slice none 0 0] w fun e w'=>e=.returned (.int .i64 (aH d n []).2)∧In F0 w0 w' (R.set i (bJ bd (aH d n []).1)):=
 qN h i hA (bJ.aA _ _) fun F hF=>Ml hF ho n hn (by simp) fun w' _=>Src.nil w' none 1
theorem QY {a:Nat} {f:FileD} (h:In F0 w0 w R) (i:Nat) (hA:R[i]?=some (ja a f)):(w.heap[a]?=some (.cells #[.slice none 0 0,.int .i64 f.sure] 143 (0,0))∧f.b=[])∨∃ ad cap,w.heap[a]?=some (.cells #[.slice (some ad) f.b.length cap,.int .i64 f.sure] 143 (0,0))∧cap≤maxLen∧f.b.length≤cap∧Src w (some ad) f.b.length 1 (eD f.b):=by
 obtain⟨v,h1⟩:=h.file i hA
 have hi:=(List.getElem?_eq_some_iff.1 hA).1
 obtain⟨F,hr⟩:=h1.get 0 rfl
 have hb:=h1.block (i+1) (b:=a) (C:=#[v,.int .i64 f.sure]) (T:=143) (by simp [hi])
 obtain⟨h0,h2 | ⟨g,cap,cur,rfl,_⟩⟩:=hr.2
 ·obtain⟨rfl,h3⟩:=h2
  exact Or.inl ⟨hb,List.length_eq_zero_iff.1 h3⟩
 ·obtain⟨a',c',e,k1,k2,_⟩:=hr.shape
  cases e
  exact Or.inr ⟨_,_,hb,k2,k1,hr.all⟩
def wQ (d:ae) (n:ByteArray) (F0:List Nat) (w0:World) (R:List az) (e:Ending) (w':World):Prop:=
 ∃ v,e=.returned (.tuple #[v,.bool (gY d n).isSome])∧In F0 w0 w' (ay 5 1 v ((gY d n).getD []).length (eD ((gY d n).getD []))::R)
theorem wR (h:In F0 w0 w R) (i:Nat) (hA:R[i]?=some (bJ bd d)) (n:ByteArray) (hn:n.size≤maxLen) :
  Calls Tryz.prog 47 #[aD bd,.string n] w (wQ d n F0 w0 R):=by
 obtain⟨F,hok,bn,yg,dP,bu,hl,hF⟩:=h.get i hA
 have h1:=In.start iC.aA hF
 have c1:w.cell? ⟨bd,1,none⟩=some (.map (some bn)):=cell_of (h1.block 0 iV) rfl
 have l1:=wM h1 1 uh hok.now.row hn
 have H:=Lib.hid h
 cases e:bQ d.now n with
 | none=>
  have e2:gY d n=none:=by unfold gY;rw [e];rfl
  have HP:Hid (wQ d n F0 w0 R (.returned (.tuple #[.slice none 0 0,.bool false])) w):=Lib.hid ⟨_,by rw [e2];rfl,by rw [e2];exact H.out.dG _ _⟩
  rw [e] at l1
  simp only [lookV] at l1
  clear h h1 hF hA hok hl e e2
  go_enter Tryz.func47,Tryz.ntmps47
  go_wp2_with fail
  go_ret2
  exact HP.out
 | some k=>
  have hk:=hok.at e
  have e2:gY d n=some (d.files.getD k default).b:=by unfold gY;rw [e];rfl
  have hfl:=(hok.file _ (jf hk)).1
  have hfa:=QY h1 (4+k) (lS hl hk)
  rw [e] at l1
  obtain⟨af,wP⟩:∃ af,bu.getD k 0=af:=⟨_,rfl⟩
  simp only [lookV,iK,wP] at l1 hfa
  rcases hfa with ⟨hb,hnil⟩|⟨ad,cap,hb,k2,k1,hs⟩
  ·have HP:Hid (∀ v w',In F0 w0 w' (ay 5 1 v 0 (eD [])::R)→wQ d n F0 w0 R (.returned (.tuple #[v,.bool true])) w'):=Lib.hid fun v w' h'=>⟨v,by rw [e2];rfl,by rw [e2];simp only [Option.getD_some];rw [hnil];exact h'⟩
   have HC:=Lib.hid (uL H.out)
   have c0:w.cell? ⟨af,0,none⟩=some (.slice none 0 0):=cell_of hb rfl
   clear h h1 hF hA hok hl e e2 wP hb hnil hk
   go_enter Tryz.func47,Tryz.ntmps47
   go_wp2_with fail
   refine HC.out.mono ?_
   rintro e w1 ⟨v,rfl,h1⟩
   have HF:=Lib.hid (HP.out v w1 h1)
   clear h1 HP HC
   go_wp2_with fail
   go_ret2
   exact HF.out
  ·have HP:Hid (∀ v w',In F0 w0 w' (ay 5 1 v (d.files.getD k default).b.length (eD (d.files.getD k default).b)::R)→wQ d n F0 w0 R (.returned (.tuple #[v,.bool true])) w'):=Lib.hid fun v w' h'=>⟨v,by rw [e2];rfl,by rw [e2];exact h'⟩
   have HC:=Lib.hid (uK (c:=cap) H.out hs (by omega))
   have c0:w.cell? ⟨af,0,none⟩=some (.slice (some ad) (d.files.getD k default).b.length cap):=cell_of hb rfl
   clear h h1 hF hA hok hl e e2 wP hb hs hk
   generalize (d.files.getD k default)=f at *
   go_enter Tryz.func47,Tryz.ntmps47
   go_wp2_with fail
   refine HC.out.mono ?_
   rintro e w1 ⟨v,rfl,h1⟩
   have HF:=Lib.hid (HP.out v w1 h1)
   clear h1 HP HC
   go_wp2_with fail
   go_ret2
   exact HF.out
theorem QZ (h:In F0 w0 w R) (q:Int) (hq1:-9223372036854775808≤q) (hq2:q≤9223372036854775807) :
  Calls Tryz.prog 16 #[.int .i64 q] w fun e w'=>∃ bd,e=.returned (aD bd)∧In F0 w0 w' (bJ bd (jF q)::R):=by
 have h1:=wI h Tryz.prog 9 Uz (Wt [])
 have h2:=wI h1 Tryz.prog 9 Uz (Wt [])
 have e1:(w.alloc (Obj.map #[] 0)).heap.size=w.heap.size+1:=Array.size_push _
 have e2:((w.alloc (Obj.map #[] 0)).alloc (Obj.map #[] 0)).heap.size=w.heap.size+1+1:=by rw [show ((w.alloc (Obj.map #[] 0)).alloc (Obj.map #[] 0)).heap.size=(w.alloc (Obj.map #[] 0)).heap.size+1 from Array.size_push _,e1]
 have h3:=(h2.cells #[.int .i64 (max 0 (min q 67108864)),.map (some w.heap.size),.map (some (w.heap.size+1)),.slice none 0 0,.int .i64 0,.int .i64 0] 108).dG 136 4
 rw [e1,e2] at h3
 have HF:Hid (∃ bd,Ending.returned (.pointer (some ⟨w.heap.size+1+1,0,none⟩))=Ending.returned (aD bd)∧In F0 w0 (((w.alloc (Obj.map #[] 0)).alloc (Obj.map #[] 0)).alloc (.cells #[.int .i64 (max 0 (min q 67108864)),.map (some w.heap.size),.map (some (w.heap.size+1)),.slice none 0 0,.int .i64 0,.int .i64 0] 108)) (bJ bd (jF q)::R)):=Lib.hid ⟨_,rfl,by
  have h4:=In.aI (R1:=[_,_,_,_]) (R2:=R) h3 [1,3,2,0] (by decide) rfl
  have h5:=In.join (A1:=[_,_,_,_]) (R:=R) h4
  refine h5.imp (A':=bJ (w.heap.size+1+1) (jF q)) 0 rfl (bJ.aA _ _) (fun F hF=>⟨wo q,w.heap.size,w.heap.size+1,.slice none 0 0,[],rfl,?_⟩)
  have e3:((max 0 (min q 67108864):Int))=((jF q).dY:Int):=by simp [jF]
  have e4:gX (jF q) w.heap.size (w.heap.size+1) (.slice none 0 0)=#[.int .i64 (max 0 (min q 67108864)),.map (some w.heap.size),.map (some (w.heap.size+1)),.slice none 0 0,.int .i64 0,.int .i64 0]:=by
   unfold gX;rw [e3];rfl
  unfold iC
  rw [e4]
  exact hF⟩
 clear h h1 h2 h3 e1 e2
 have hmm:=@run_makeMap Tryz.prog
 go_enter Tryz.func16,Tryz.ntmps16
 go_wp2_with fail
 all_goals
  go_ret
  have hh:=HF.out
  first
   | (rw [show (max 0 (min q 67108864):Int)=67108864 by omega] at hh;exact hh)
   | (rw [show (max 0 (min q 67108864):Int)=q by omega] at hh;exact hh)
   | (rw [show (max 0 (min q 67108864):Int)=0 by omega] at hh;exact hh)
end
section
variable {F0:List Nat} {w0 w:World} {R:List az}
theorem UD {T:TypeId} {a:Option Addr} {n' n cap m:Nat} {xs:List Value} {F:List Nat} (h:ay T 1 (.slice a n' cap) n xs w F) (hm:m≤n):ay T 1 (.slice a m cap) m (xs.take m) w F:=by
 obtain⟨h0,h1,h2⟩:=h
 have hl:(xs.take m).length=m * 1:=by rw [List.length_take,h1];omega
 rcases h2 with ⟨e,e2⟩|⟨g,c,cur,e,h3,h4,h5,h6,h7,h8⟩
 ·cases e;subst e2
  obtain rfl:m=0:=by omega
  exact⟨h0,hl,Or.inl ⟨rfl,rfl⟩⟩
 ·cases e
  refine⟨h0,hl,Or.inr ⟨g,cap,cur,rfl,h3,h4,by omega,h6,h7,?_⟩⟩
  rw [← h8,List.take_take]
  congr 1;omega
theorem Io {a:Nat} {f:FileD} {ad:Option Addr} {cap:Nat} {m:Nat} (hm:m≤f.b.length) (i:Nat) (hi:i < R.length) (h:In F0 w0 w (ay 5 1 (.slice ad f.b.length cap) f.b.length (eD f.b)::R.set i (Cells a #[.slice ad f.b.length cap,.int .i64 f.sure] 143))) :
  In F0 w0 ((w.setCell ⟨a,0,none⟩ (.slice ad m cap)).setCell ⟨a,1,none⟩ (.int .i64 m)) (R.set i (ja a ⟨f.b.take m,m⟩)):=by
 have h1:=h.put (b:=a) (C:=#[.slice ad f.b.length cap,.int .i64 f.sure]) (T:=143) (i+1) (by simp [hi]) 0 (.slice ad m cap)
 have h2:In F0 w0 (w.setCell ⟨a,0,none⟩ (.slice ad m cap)) (ay 5 1 (.slice ad f.b.length cap) f.b.length (eD f.b)::R.set i (Cells a #[.slice ad m cap,.int .i64 f.sure] 143)):=by
  simpa [List.set_set] using h1
 have h3:=h2.put (b:=a) (C:=#[.slice ad m cap,.int .i64 f.sure]) (T:=143) (i+1) (by simp [hi]) 1 (.int .i64 m)
 have h4:In F0 w0 ((w.setCell ⟨a,0,none⟩ (.slice ad m cap)).setCell ⟨a,1,none⟩ (.int .i64 m)) (ay 5 1 (.slice ad f.b.length cap) f.b.length (eD f.b)::R.set i (Cells a #[.slice ad m cap,.int .i64 m] 143)):=by
  simpa [List.set_set] using h3
 have h5:=h4.imp (A':=ay 5 1 (.slice ad m cap) (f.b.take m).length (eD (f.b.take m))) 0 rfl (ay.aA _ _ _ _ _) (fun F hF=>by
  have:=UD hF hm
  rw [Ab] at this
  rwa [List.length_take,Nat.min_eq_left hm])
 have:=In.Ka (a:=a) (v:=.slice ad m cap) (f:=⟨f.b.take m,m⟩) h5 i (by simp [hi])
 rwa [List.set_set] at this
theorem aaC {d:ae} {bd:Nat} {F:List Nat} (h:bJ bd d w F) (ho:d.ops≤100000000) (n:ByteArray) (hn:n.size≤maxLen) (k:Int) :
  Calls Tryz.prog 82 #[aD bd,.string n,.int .i64 k] w (GV (.int .i64 (lI d n k).2) (bJ bd (lI d n k).1) w F):=by
 obtain⟨hok,bn,bs,dP,bu,hl,h⟩:=h
 have HC:=Lib.hid (zL (In.start iC.aA h) hok ho n hn)
 have hok':=LZ hok n k
 rcases vB d n with ⟨hne,_⟩|⟨he,hf,i,h1,hv⟩
 ·have HP:Hid (∀ w',In F w w' (iC bd bn bs dP bu (aC d))→GV (.int .i64 (lI d n k).2) (bJ bd (lI d n k).1) w F (.returned (.int .i64 (ib d n))) w'):=
   Lib.hid fun w' h'=>by rw [QT hne];exact fq h' (bY hok) hl
  have q:(ib d n != 0)=true:=by rw [bne_iff_ne];exact hne
  clear h hok hok' hl hne
  go_enter Tryz.func82,Tryz.ntmps82
  go_wp2_with fail
  refine HC.out.mono ?_
  rintro e w1 ⟨rfl,h1⟩
  have HF:=Lib.hid (HP.out w1 h1)
  clear h1 HC HP
  generalize ib d n=fe at *
  go_wp2_with fail
  go_ret
  exact HF.out
 ·have hi:=hok.at h1
  have hfl:=(hok.file _ (jf hi)).1
  have HE:=Lib.hid (And.intro he (hv bu))
  obtain⟨af,wP⟩:∃ af,bu.getD i 0=af:=⟨_,rfl⟩
  have CF:Hid (∀ w',In F w w' (iC bd bn bs dP bu (aC d))→∃ ad cap,w'.cell? ⟨af,0,none⟩=some (.slice ad (d.files.getD i default).b.length cap)∧w'.cell? ⟨af,1,none⟩=some (.int .i64 (d.files.getD i default).sure)∧w'.frozen? ⟨af,0,none⟩=false∧w'.frozen? ⟨af,1,none⟩=false∧(d.files.getD i default).b.length≤cap∧cap≤maxLen∧(ad=none∨∃ g,ad=some ⟨g,0,none⟩) ∧
    (∀ m:Nat,m≤(d.files.getD i default).b.length→In F w ((w'.setCell ⟨af,0,none⟩ (.slice ad m cap)).setCell ⟨af,1,none⟩ (.int .i64 m)) (iC bd bn bs dP bu (iE (aC d) i ⟨(d.files.getD i default).b.take m,m⟩)))):=
   Lib.hid fun w' h'=>by
    have hF:=lS (bd:=bd) (bn:=bn) (bs:=bs) (dP:=dP) (d:=aC d) hl hi
    rw [wP] at hF
    obtain⟨v,h4⟩:=h'.file (4+i) hF
    obtain⟨Fv,hv⟩:=h4.get 0 rfl
    have hlen:4+i < (iC bd bn bs dP bu (aC d)).length:=(List.getElem?_eq_some_iff.1 hF).1
    obtain⟨av,cv,rfl,k1,k2,-⟩:=hv.shape
    have hbk:=h4.block (4+i+1) (b:=af) (C:=#[.slice av (d.files.getD i default).b.length cv,.int .i64 (d.files.getD i default).sure]) (T:=143) (by rw [List.getElem?_cons_succ,List.getElem?_set_self hlen];rfl)
    refine⟨av,cv,cell_of hbk rfl,cell_of hbk rfl,aL hbk,aL hbk,k1,k2,?_,fun m hm=>?_⟩
    ·obtain⟨_,h6 | ⟨g,c,cur,e,_⟩⟩:=hv.2
     ·have:=h6.1;simp only [Value.slice.injEq] at this;left;exact this.1
     ·simp only [Value.slice.injEq] at e;right;exact⟨g,e.1⟩
    ·have h5:=Io (f:=d.files.getD i default) hm (4+i) hlen h4
     have h6:=wL (bd:=bd) (bn:=bn) (bs:=bs) (dP:=dP) (d:=aC d) hl hi ⟨(d.files.getD i default).b.take m,m⟩
     rw [wP] at h6
     rw [← h6];exact h5
  by_cases hk:k < 0∨(eX d i:Int) < k
  ·have e2:lI d n k=(aC d,1):=by unfold lI;rw [if_neg hf,h1];simp only;rw [if_pos hk]
   have HP:Hid (∀ w',In F w w' (iC bd bn bs dP bu (aC d))→GV (.int .i64 (lI d n k).2) (bJ bd (lI d n k).1) w F (.returned (.int .i64 1)) w'):=
    Lib.hid fun w' h'=>by rw [e2] at hok' ⊢;exact fq h' hok' hl
   unfold eX at hk
   clear h hok hok' hl e2 hf he hv h1
   have XH:=Lib.hid wP
   clear wP
   generalize (d.files.getD i default)=f at *
   by_cases hk0:k < 0
   ·have q1:decide (k < 0)=true:=by simpa using hk0
    clear hk hk0
    go_enter Tryz.func82,Tryz.ntmps82
    go_wp2_with fail
    refine HC.out.mono ?_
    rintro e w1 ⟨rfl,h1⟩
    rw [HE.out.1,HE.out.2]
    have HF:=Lib.hid (HP.out w1 h1)
    clear h1 HC HP HE CF
    unfold iK
    rw [XH.out]
    go_wp2_with fail
    go_ret
    exact HF.out
   ·have hk2:(f.b.length:Int) < k:=by omega
    clear hk
    go_enter Tryz.func82,Tryz.ntmps82
    go_wp2_with fail
    refine HC.out.mono ?_
    rintro e w1 ⟨rfl,h1⟩
    rw [HE.out.1,HE.out.2]
    have HF:=Lib.hid (HP.out w1 h1)
    obtain⟨ad,cap,c0,-⟩:=CF.out w1 h1
    clear h1 HC HP HE CF
    unfold iK
    rw [XH.out]
    go_wp2_with fail
    go_ret
    exact HF.out
  ·have hk0:0≤k:=by omega
   obtain⟨m,rfl⟩:=Int.eq_ofNat_of_zero_le hk0
   have Wn:m≤(d.files.getD i default).b.length:=by unfold eX at hk;omega
   have e2:lI d n m=(iE (aC d) i ⟨(d.files.getD i default).b.take m,m⟩,0):=by unfold lI;rw [if_neg hf,h1];simp only;rw [if_neg hk];simp
   have HP:Hid (∀ w',In F w w' (iC bd bn bs dP bu (iE (aC d) i ⟨(d.files.getD i default).b.take m,m⟩))→GV (.int .i64 (lI d n m).2) (bJ bd (lI d n m).1) w F (.returned (.int .i64 0)) w'):=
    Lib.hid fun w' h'=>by rw [e2] at hok' ⊢;exact fq h' hok' (by simpa [iE,aC] using hl)
   have XH:=Lib.hid wP
   have hs:∀ (ad:Option Addr) (l cap:Nat) (w':World),(ad=none∨∃ g,ad=some ⟨g,0,none⟩)→m≤cap→(Instr.slice 23 (.slice ad l cap) none (some (.int .i64 m)) none).run Tryz.prog w'=.ok (.slice ad m cap) w':=by
    intro ad l cap w' h1 h2
    rcases h1 with rfl | ⟨g,rfl⟩
    ·exact ng Tryz.underlying23 infoByte _ _ _ h2 w'
    ·exact zX Tryz.underlying23 infoByte _ _ _ _ h2 w'
   have HSL:=Lib.hid hs
   unfold eX at hk
   clear h hok hok' hl e2 hf he hv h1 wP hs hk0
   generalize (d.files.getD i default)=f at *
   have hk1:(m:Int)≤f.b.length:=by omega
   clear hk
   go_enter Tryz.func82,Tryz.ntmps82
   go_wp2_with fail
   refine HC.out.mono ?_
   rintro e w1 ⟨rfl,h1⟩
   rw [HE.out.1,HE.out.2]
   obtain⟨ad,cap,c0,c1,f0,f1,k1,k2,k3,hfin⟩:=CF.out w1 h1
   have HF:=Lib.hid (HP.out _ (hfin m Wn))
   have hsl:=HSL.out ad f.b.length cap w1 k3 (by omega)
   clear h1 HC HP HE CF hfin k3
   unfold iK
   rw [XH.out]
   go_wp2_with fail
   go_ret
   exact HF.out
theorem XI {d:ae} {bd:Nat} (h:In F0 w0 w R) (i:Nat) (hA:R[i]?=some (bJ bd d)) (ho:d.ops≤100000000) (n:ByteArray) (hn:n.size≤maxLen) (k:Int) :
  Calls Tryz.prog 82 #[aD bd,.string n,.int .i64 k] w fun e w'=>e=.returned (.int .i64 (lI d n k).2)∧In F0 w0 w' (R.set i (bJ bd (lI d n k).1)):=
 qN h i hA (bJ.aA _ _) fun F hF=>aaC hF ho n hn k
end
end Go.Proofs.YtogclkhpbjfadaaGreat
